/- The law RatesLeaves: the walk. -/
import Derived.Test.YtljpcnhkheoiiaaWalkL
import Derived.Test.YtljpcnhkheoiiaaPlain
namespace Go.Proofs.Ytljpcnhkheoiiaa
open Go.ChangeShapes Go.WideShapes Go.ChangeAt Go.RowKit

set_option maxRecDepth 100000 in
set_option maxHeartbeats 1000000 in
theorem leaves_err (l a m e t n c : Int) (w : World)
    (c0 : (c == 0) = false) (c1 : (c != 0) = true)
    (hT : ∀ w, Calls Try.prog 15 #[.agg #[.int .i64 l, .int .i64 a, .int .i64 m, .int .i64 e], .int .i64 t, .int .i64 n] w fun x w' => x = .returned (.tuple #[.agg #[.int .i64 0, .int .i64 0, .int .i64 0, .int .i64 0], .int .i64 c]) ∧ Below w.heap.size w w')
    : Calls Try.prog 7 #[.agg #[.int .i64 l, .int .i64 a, .int .i64 m, .int .i64 e], .int .i64 t, .int .i64 n] w fun x w' => x = .returned (.bool true) ∧ Below w.heap.size w w' := by
  have q0 := Below.refl w.heap.size w
  go_enter Try.func7, Try.ntmps7
  go_wp2_with fail
  refine (hT _).mono ?_
  rintro x w1 ⟨rfl, hb⟩
  obtain ⟨q1, z0, k0, old⟩ := step_box q0 hb
  clear old hb
  go_wp2_with fail
  refine (live_true _).mono ?_
  rintro x w2 ⟨rfl, hb⟩
  go_wp2_with fail
  go_ret
  exact ⟨rfl, (q1.alloc q1.size _).trans (hb.mono (by have := q1.size; simp; omega))⟩

set_option maxRecDepth 100000 in
set_option maxHeartbeats 1000000 in
theorem leaves_ok (l a m e t n p q r s z : Int) (w : World)
    (hd : decide (t < a) = false) (n1 : -9223372036854775808 ≤ z) (n2 : z ≤ 9223372036854775807)
    (hT : ∀ w, Calls Try.prog 15 #[.agg #[.int .i64 l, .int .i64 a, .int .i64 m, .int .i64 e], .int .i64 t, .int .i64 n] w fun x w' => x = .returned (.tuple #[.agg #[.int .i64 p, .int .i64 q, .int .i64 r, .int .i64 s], .int .i64 0]) ∧ Below w.heap.size w w')
    (hC : ∀ w, Calls Try.prog 12 #[.agg #[.int .i64 p, .int .i64 q, .int .i64 r, .int .i64 s]] w fun x w' => x = .returned (.int .i64 0) ∧ Below w.heap.size w w')
    (hX : ∀ w, Calls Try.prog 17 #[.agg #[.int .i64 p, .int .i64 q, .int .i64 r, .int .i64 s], .int .i64 t] w fun x w' => x = .returned (.int .i64 z) ∧ Below w.heap.size w w')
    (hY : ∀ w, Calls Try.prog 17 #[.agg #[.int .i64 l, .int .i64 a, .int .i64 m, .int .i64 e], .int .i64 t] w fun x w' => x = .returned (.int .i64 (z + n)) ∧ Below w.heap.size w w')
    : Calls Try.prog 7 #[.agg #[.int .i64 l, .int .i64 a, .int .i64 m, .int .i64 e], .int .i64 t, .int .i64 n] w fun x w' => x = .returned (.bool true) ∧ Below w.heap.size w w' := by
  have q0 := Below.refl w.heap.size w
  go_enter Try.func7, Try.ntmps7
  go_wp2_with fail
  refine (hT _).mono ?_
  rintro x w1 ⟨rfl, hb⟩
  obtain ⟨q1, z0, k0, old⟩ := step_box q0 hb
  clear old hb
  go_wp2_with fail
  have hx := fun (x : Ext (w1.alloc (.cells #[.int .i64 p, .int .i64 q, .int .i64 r, .int .i64 s] 23))) => x.cell
  refine wp_region_ext (by kernel_rfl) (by kernel_rfl) ?_
  repeat (go_big_quiet_step (first | (with_reducible exact ext_of (hC _)) | (with_reducible exact ext_of (hX _)) | (with_reducible exact ext_of (hY _)) | (with_reducible exact ext_of (live_true _))))
  refine wpQuiet_nil ?_
  intro x
  go_wp2_with fail
  go_ret
  exact ⟨rfl, (q1.alloc q1.size _).trans (x.below.mono (by have := q1.size; first | (simp; done) | (simp; omega)))⟩

set_option maxRecDepth 100000 in
set_option maxHeartbeats 1000000 in
theorem leaves_old (l a m e t n p q r s : Int) (w : World)
    (h : t < a)
    (hT : ∀ w, Calls Try.prog 15 #[.agg #[.int .i64 l, .int .i64 a, .int .i64 m, .int .i64 e], .int .i64 t, .int .i64 n] w fun x w' => x = .returned (.tuple #[.agg #[.int .i64 p, .int .i64 q, .int .i64 r, .int .i64 s], .int .i64 0]) ∧ Below w.heap.size w w')
    (hC : ∀ w, Calls Try.prog 12 #[.agg #[.int .i64 p, .int .i64 q, .int .i64 r, .int .i64 s]] w fun x w' => x = .returned (.int .i64 0) ∧ Below w.heap.size w w')
    : Calls Try.prog 7 #[.agg #[.int .i64 l, .int .i64 a, .int .i64 m, .int .i64 e], .int .i64 t, .int .i64 n] w fun x w' => x = .returned (.bool true) ∧ Below w.heap.size w w' := by
  have q0 := Below.refl w.heap.size w
  go_enter Try.func7, Try.ntmps7
  go_wp2_with fail
  refine (hT _).mono ?_
  rintro x w1 ⟨rfl, hb⟩
  obtain ⟨q1, z0, k0, old⟩ := step_box q0 hb
  clear old hb
  go_wp2_with fail
  have hx := fun (x : Ext (w1.alloc (.cells #[.int .i64 p, .int .i64 q, .int .i64 r, .int .i64 s] 23))) => x.cell
  refine wp_region_ext (by kernel_rfl) (by kernel_rfl) ?_
  repeat (go_big_quiet_step (first | (with_reducible exact ext_of (hC _)) | (with_reducible exact ext_of (live_true _))))
  refine wpQuiet_nil ?_
  intro x
  go_wp2_with fail
  go_ret
  exact ⟨rfl, (q1.alloc q1.size _).trans (x.below.mono (by have := q1.size; first | (simp; done) | (simp; omega)))⟩


theorem leaves_any (l a m e t n : Int) (w : World) (t1 : -9223372036854775808 ≤ t) (t2 : t ≤ 9223372036854775807) :
    Calls Try.prog 7 #[.agg #[.int .i64 l, .int .i64 a, .int .i64 m, .int .i64 e], .int .i64 t, .int .i64 n] w fun x w' => x = .returned (.bool true) ∧ Below w.heap.size w w' := by
  by_cases hr : (1 ≤ m ∧ m ≤ 1000000 ∧ 1 ≤ e ∧ e ≤ 1000000000 ∧ 0 ≤ l ∧ l ≤ m ∧ 0 ≤ a ∧ a ≤ 1000000000) ∧ 1 ≤ n ∧ 0 ≤ t ∧ t ≤ 1000000000
  · obtain ⟨⟨h1, h2, h3, h4, h5, h6, h7, h8⟩, g1, g2, g3⟩ := hr
    have b1 := adL_bd l a m e t h3 h6
    have b2 := adA_bd (l := l) (a := a) (m := m) (n := t) h3
    by_cases hq : n ≤ adL l a m e t
    · by_cases ha : a ≤ t
      · refine leaves_ok l a m e t n _ _ _ _ (adL l a m e t - n) w (by simp; omega) (by omega) (by omega) (fun w => take_ok l a m e t n w h1 h2 h3 h4 h5 h6 h7 h8 g2 g3 g1 hq) (fun w => check_yes _ _ m e w h1 h2 h3 h4 (by omega) (by omega) (by omega) (by omega)) (fun w => ?_) (fun w => ?_)
        · have h := left_yes (adL l a m e t - n) (adA l a m e t) m e t w h1 h2 h3 h4 (by omega) (by omega) (by omega) (by omega) t1 t2
          rw [adL_again h3 g1 ha] at h
          exact h
        · rw [show adL l a m e t - n + n = adL l a m e t from by omega]
          exact left_yes l a m e t w h1 h2 h3 h4 h5 h6 h7 h8 t1 t2
      · exact leaves_old l a m e t n _ _ _ _ w (by omega) (fun w => take_ok l a m e t n w h1 h2 h3 h4 h5 h6 h7 h8 g2 g3 g1 hq) (fun w => check_yes _ _ m e w h1 h2 h3 h4 (by omega) (by omega) (by omega) (by omega))
    · exact leaves_err l a m e t n 25 w rfl rfl (fun w => take_rate l a m e t n w h1 h2 h3 h4 h5 h6 h7 h8 g2 g3 g1 (by omega))
  · exact leaves_err l a m e t n 2 w rfl rfl (fun w => take_range l a m e t n w hr)
end Go.Proofs.Ytljpcnhkheoiiaa
