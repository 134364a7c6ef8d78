/- The worked examples of the chapter: live returns true. -/
import Derived.Test.YtljpcnhkheoiiaaWalkE
import Derived.Test.YtljpcnhkheoiiaaWalkN
import Derived.Test.YtljpcnhkheoiiaaWalkX
namespace Go.Proofs.Ytljpcnhkheoiiaa
open Go.ChangeShapes Go.WideShapes Go.ChangeAt Go.RowKit

theorem lv1 (w : World) : Calls Try.prog 10 #[.int .i64 3, .int .i64 10] w fun x w' => x = .returned (.tuple #[.agg #[.int .i64 3, .int .i64 0, .int .i64 3, .int .i64 10], .int .i64 0]) ∧ Below w.heap.size w w' := by
  have h := new_ok 3 10 w (by omega) (by omega) (by omega) (by omega)
  exact h

theorem lv2 (w : World) : Calls Try.prog 15 #[.agg #[.int .i64 3, .int .i64 0, .int .i64 3, .int .i64 10], .int .i64 0, .int .i64 3] w fun x w' => x = .returned (.tuple #[.agg #[.int .i64 0, .int .i64 0, .int .i64 3, .int .i64 10], .int .i64 0]) ∧ Below w.heap.size w w' := by
  have h := take_ok 3 0 3 10 0 3 w (by omega) (by omega) (by omega) (by omega) (by omega) (by omega) (by omega) (by omega) (by omega) (by omega) (by omega) (by decide)
  rw [show adL 3 0 3 10 0 - 3 = 0 from by decide] at h
  rw [show adA 3 0 3 10 0 = 0 from by decide] at h
  exact h

theorem lv3 (w : World) : Calls Try.prog 15 #[.agg #[.int .i64 0, .int .i64 0, .int .i64 3, .int .i64 10], .int .i64 15, .int .i64 1] w fun x w' => x = .returned (.tuple #[.agg #[.int .i64 0, .int .i64 10, .int .i64 3, .int .i64 10], .int .i64 0]) ∧ Below w.heap.size w w' := by
  have h := take_ok 0 0 3 10 15 1 w (by omega) (by omega) (by omega) (by omega) (by omega) (by omega) (by omega) (by omega) (by omega) (by omega) (by omega) (by decide)
  rw [show adL 0 0 3 10 15 - 1 = 0 from by decide] at h
  rw [show adA 0 0 3 10 15 = 10 from by decide] at h
  exact h

theorem lv4 (w : World) : Calls Try.prog 15 #[.agg #[.int .i64 0, .int .i64 0, .int .i64 3, .int .i64 10], .int .i64 12, .int .i64 2] w fun x w' => x = .returned (.tuple #[.agg #[.int .i64 0, .int .i64 0, .int .i64 0, .int .i64 0], .int .i64 25]) ∧ Below w.heap.size w w' := by
  have h := take_rate 0 0 3 10 12 2 w (by omega) (by omega) (by omega) (by omega) (by omega) (by omega) (by omega) (by omega) (by omega) (by omega) (by omega) (by decide)
  exact h

theorem lv5 (w : World) : Calls Try.prog 15 #[.agg #[.int .i64 0, .int .i64 0, .int .i64 3, .int .i64 10], .int .i64 12, .int .i64 0] w fun x w' => x = .returned (.tuple #[.agg #[.int .i64 0, .int .i64 0, .int .i64 0, .int .i64 0], .int .i64 2]) ∧ Below w.heap.size w w' := by
  have h := take_range 0 0 3 10 12 0 w (by omega)
  exact h

theorem lv6 (w : World) : Calls Try.prog 17 #[.agg #[.int .i64 0, .int .i64 0, .int .i64 3, .int .i64 10], .int .i64 9] w fun x w' => x = .returned (.int .i64 0) ∧ Below w.heap.size w w' := by
  have h := left_yes 0 0 3 10 9 w (by omega) (by omega) (by omega) (by omega) (by omega) (by omega) (by omega) (by omega) (by omega) (by omega)
  rw [show adL 0 0 3 10 9 = 0 from by decide] at h
  exact h

theorem lv7 (w : World) : Calls Try.prog 17 #[.agg #[.int .i64 0, .int .i64 0, .int .i64 3, .int .i64 10], .int .i64 10] w fun x w' => x = .returned (.int .i64 1) ∧ Below w.heap.size w w' := by
  have h := left_yes 0 0 3 10 10 w (by omega) (by omega) (by omega) (by omega) (by omega) (by omega) (by omega) (by omega) (by omega) (by omega)
  rw [show adL 0 0 3 10 10 = 1 from by decide] at h
  exact h

theorem lv8 (w : World) : Calls Try.prog 17 #[.agg #[.int .i64 0, .int .i64 0, .int .i64 3, .int .i64 10], .int .i64 35] w fun x w' => x = .returned (.int .i64 3) ∧ Below w.heap.size w w' := by
  have h := left_yes 0 0 3 10 35 w (by omega) (by omega) (by omega) (by omega) (by omega) (by omega) (by omega) (by omega) (by omega) (by omega)
  rw [show adL 0 0 3 10 35 = 3 from by decide] at h
  exact h

theorem lv9 (w : World) : Calls Try.prog 17 #[.agg #[.int .i64 0, .int .i64 0, .int .i64 3, .int .i64 10], .int .i64 1000] w fun x w' => x = .returned (.int .i64 3) ∧ Below w.heap.size w w' := by
  have h := left_yes 0 0 3 10 1000 w (by omega) (by omega) (by omega) (by omega) (by omega) (by omega) (by omega) (by omega) (by omega) (by omega)
  rw [show adL 0 0 3 10 1000 = 3 from by decide] at h
  exact h

theorem lv10 (w : World) : Calls Try.prog 17 #[.agg #[.int .i64 0, .int .i64 10, .int .i64 3, .int .i64 10], .int .i64 20] w fun x w' => x = .returned (.int .i64 1) ∧ Below w.heap.size w w' := by
  have h := left_yes 0 10 3 10 20 w (by omega) (by omega) (by omega) (by omega) (by omega) (by omega) (by omega) (by omega) (by omega) (by omega)
  rw [show adL 0 10 3 10 20 = 1 from by decide] at h
  exact h

theorem lv11 (w : World) : Calls Try.prog 19 #[.agg #[.int .i64 0, .int .i64 0, .int .i64 3, .int .i64 10], .int .i64 0, .int .i64 2] w fun x w' => x = .returned (.int .i64 20) ∧ Below w.heap.size w w' := by
  have h := wait_some 0 0 3 10 0 2 w (by omega) (by omega) (by omega) (by omega) (by omega) (by omega) (by omega) (by omega) (by omega) (by omega) (by omega) (by decide) (by omega) (by omega)
  exact h

theorem lv12 (w : World) : Calls Try.prog 19 #[.agg #[.int .i64 0, .int .i64 0, .int .i64 3, .int .i64 10], .int .i64 0, .int .i64 4] w fun x w' => x = .returned (.int .i64 (-1)) ∧ Below w.heap.size w w' := by
  have h := wait_range 0 0 3 10 0 4 w (by omega)
  exact h

theorem lv13 (w : World) : Calls Try.prog 12 #[.agg #[.int .i64 0, .int .i64 0, .int .i64 0, .int .i64 0]] w fun x w' => x = .returned (.int .i64 2) ∧ Below w.heap.size w w' := by
  have h := check_no 0 0 0 0 w (by omega)
  exact h

set_option maxRecDepth 100000 in
set_option maxHeartbeats 1000000 in
theorem live_true (w : World) : Calls Try.prog 14 #[] w fun x w' => x = .returned (.bool true) ∧ Below w.heap.size w w' := by
  go_enter Try.func14, Try.ntmps14
  go_wp2_with fail
  refine (lv1 _).mono ?_
  rintro x w1 ⟨rfl, q1⟩
  go_wp2_with fail
  refine (lv2 _).mono ?_
  rintro x w2 ⟨rfl, hb⟩
  obtain ⟨q2, z1, k1, old⟩ := step_box q1 hb
  clear old hb
  go_wp2_with fail
  refine (lv3 _).mono ?_
  rintro x w3 ⟨rfl, hb⟩
  obtain ⟨q3, z2, k2, old⟩ := step_box q2 hb
  replace k1 := fun o => ((old _ z1).2 o).trans (k1 o)
  replace z1 := (old _ z1).1
  clear old hb
  go_wp2_with fail
  refine (lv4 _).mono ?_
  rintro x w4 ⟨rfl, hb⟩
  obtain ⟨q4, z3, k3, old⟩ := step_box q3 hb
  replace k1 := fun o => ((old _ z1).2 o).trans (k1 o)
  replace z1 := (old _ z1).1
  replace k2 := fun o => ((old _ z2).2 o).trans (k2 o)
  replace z2 := (old _ z2).1
  clear old hb
  go_wp2_with fail
  refine (lv5 _).mono ?_
  rintro x w5 ⟨rfl, hb⟩
  obtain ⟨q5, z4, k4, old⟩ := step_box q4 hb
  replace k1 := fun o => ((old _ z1).2 o).trans (k1 o)
  replace z1 := (old _ z1).1
  replace k2 := fun o => ((old _ z2).2 o).trans (k2 o)
  replace z2 := (old _ z2).1
  replace k3 := fun o => ((old _ z3).2 o).trans (k3 o)
  replace z3 := (old _ z3).1
  clear old hb
  go_wp2_with fail
  refine (lv6 _).mono ?_
  rintro x w6 ⟨rfl, hb⟩
  obtain ⟨q6, z5, k5, old⟩ := step_box q5 hb
  replace k1 := fun o => ((old _ z1).2 o).trans (k1 o)
  replace z1 := (old _ z1).1
  replace k2 := fun o => ((old _ z2).2 o).trans (k2 o)
  replace z2 := (old _ z2).1
  replace k3 := fun o => ((old _ z3).2 o).trans (k3 o)
  replace z3 := (old _ z3).1
  replace k4 := fun o => ((old _ z4).2 o).trans (k4 o)
  replace z4 := (old _ z4).1
  clear old hb
  go_wp2_with fail
  refine (lv7 _).mono ?_
  rintro x w7 ⟨rfl, hb⟩
  obtain ⟨q7, old⟩ := step_same q6 hb
  replace k1 := fun o => ((old _ z1).2 o).trans (k1 o)
  replace z1 := (old _ z1).1
  replace k2 := fun o => ((old _ z2).2 o).trans (k2 o)
  replace z2 := (old _ z2).1
  replace k3 := fun o => ((old _ z3).2 o).trans (k3 o)
  replace z3 := (old _ z3).1
  replace k4 := fun o => ((old _ z4).2 o).trans (k4 o)
  replace z4 := (old _ z4).1
  replace k5 := fun o => ((old _ z5).2 o).trans (k5 o)
  replace z5 := (old _ z5).1
  clear old hb
  go_wp2_with fail
  refine (lv8 _).mono ?_
  rintro x w8 ⟨rfl, hb⟩
  obtain ⟨q8, old⟩ := step_same q7 hb
  replace k1 := fun o => ((old _ z1).2 o).trans (k1 o)
  replace z1 := (old _ z1).1
  replace k2 := fun o => ((old _ z2).2 o).trans (k2 o)
  replace z2 := (old _ z2).1
  replace k3 := fun o => ((old _ z3).2 o).trans (k3 o)
  replace z3 := (old _ z3).1
  replace k4 := fun o => ((old _ z4).2 o).trans (k4 o)
  replace z4 := (old _ z4).1
  replace k5 := fun o => ((old _ z5).2 o).trans (k5 o)
  replace z5 := (old _ z5).1
  clear old hb
  go_wp2_with fail
  refine (lv9 _).mono ?_
  rintro x w9 ⟨rfl, hb⟩
  obtain ⟨q9, old⟩ := step_same q8 hb
  replace k1 := fun o => ((old _ z1).2 o).trans (k1 o)
  replace z1 := (old _ z1).1
  replace k2 := fun o => ((old _ z2).2 o).trans (k2 o)
  replace z2 := (old _ z2).1
  replace k3 := fun o => ((old _ z3).2 o).trans (k3 o)
  replace z3 := (old _ z3).1
  replace k4 := fun o => ((old _ z4).2 o).trans (k4 o)
  replace z4 := (old _ z4).1
  replace k5 := fun o => ((old _ z5).2 o).trans (k5 o)
  replace z5 := (old _ z5).1
  clear old hb
  go_wp2_with fail
  refine (lv10 _).mono ?_
  rintro x w10 ⟨rfl, hb⟩
  obtain ⟨q10, old⟩ := step_same q9 hb
  replace k1 := fun o => ((old _ z1).2 o).trans (k1 o)
  replace z1 := (old _ z1).1
  replace k2 := fun o => ((old _ z2).2 o).trans (k2 o)
  replace z2 := (old _ z2).1
  replace k3 := fun o => ((old _ z3).2 o).trans (k3 o)
  replace z3 := (old _ z3).1
  replace k4 := fun o => ((old _ z4).2 o).trans (k4 o)
  replace z4 := (old _ z4).1
  replace k5 := fun o => ((old _ z5).2 o).trans (k5 o)
  replace z5 := (old _ z5).1
  clear old hb
  go_wp2_with fail
  refine (lv11 _).mono ?_
  rintro x w11 ⟨rfl, hb⟩
  obtain ⟨q11, old⟩ := step_same q10 hb
  replace k1 := fun o => ((old _ z1).2 o).trans (k1 o)
  replace z1 := (old _ z1).1
  replace k2 := fun o => ((old _ z2).2 o).trans (k2 o)
  replace z2 := (old _ z2).1
  replace k3 := fun o => ((old _ z3).2 o).trans (k3 o)
  replace z3 := (old _ z3).1
  replace k4 := fun o => ((old _ z4).2 o).trans (k4 o)
  replace z4 := (old _ z4).1
  replace k5 := fun o => ((old _ z5).2 o).trans (k5 o)
  replace z5 := (old _ z5).1
  clear old hb
  go_wp2_with fail
  refine (lv12 _).mono ?_
  rintro x w12 ⟨rfl, hb⟩
  obtain ⟨q12, old⟩ := step_same q11 hb
  replace k1 := fun o => ((old _ z1).2 o).trans (k1 o)
  replace z1 := (old _ z1).1
  replace k2 := fun o => ((old _ z2).2 o).trans (k2 o)
  replace z2 := (old _ z2).1
  replace k3 := fun o => ((old _ z3).2 o).trans (k3 o)
  replace z3 := (old _ z3).1
  replace k4 := fun o => ((old _ z4).2 o).trans (k4 o)
  replace z4 := (old _ z4).1
  replace k5 := fun o => ((old _ z5).2 o).trans (k5 o)
  replace z5 := (old _ z5).1
  clear old hb
  go_wp2_with fail
  refine (lv13 _).mono ?_
  rintro x w13 ⟨rfl, hb⟩
  obtain ⟨q13, old⟩ := step_same q12 hb
  replace k1 := fun o => ((old _ z1).2 o).trans (k1 o)
  replace z1 := (old _ z1).1
  replace k2 := fun o => ((old _ z2).2 o).trans (k2 o)
  replace z2 := (old _ z2).1
  replace k3 := fun o => ((old _ z3).2 o).trans (k3 o)
  replace z3 := (old _ z3).1
  replace k4 := fun o => ((old _ z4).2 o).trans (k4 o)
  replace z4 := (old _ z4).1
  replace k5 := fun o => ((old _ z5).2 o).trans (k5 o)
  replace z5 := (old _ z5).1
  clear old hb
  go_wp2_with fail
  go_ret
  exact ⟨rfl, q13⟩
end Go.Proofs.Ytljpcnhkheoiiaa
