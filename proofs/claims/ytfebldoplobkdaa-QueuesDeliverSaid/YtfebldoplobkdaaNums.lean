/- Numbers: Clip, bound, Add, on both sides; Wait. -/
import Derived.Test.YtfebldoplobkdaaPk
namespace Go.Proofs.Ytfebldoplobkdaa
open Go.ChangeShapes Go.WideShapes Go.ChangeAt Go.RowKit

/-- A number, held within its bounds. -/
def clip (n : Int) : Int := if 1000000000000 < n then 1000000000000 else if n < -1000000000000 then -1000000000000 else n
def addC (a b : Int) : Int := clip (clip a + clip b)
theorem clip_b (n : Int) : -1000000000000 ≤ clip n ∧ clip n ≤ 1000000000000 := by
  unfold clip
  split
  · omega
  · split <;> omega

set_option maxRecDepth 100000 in
set_option maxHeartbeats 1000000 in
theorem qClip (n : Int) (w : World) : Calls Try.prog 45 #[.int .i64 n, .int .i64 (-1000000000000), .int .i64 1000000000000] w fun x w' => x = .returned (.int .i64 (clip n)) ∧ Below w.heap.size w w' := by
  have q0 := Below.refl w.heap.size w
  by_cases h1 : 1000000000000 < n
  · have e : clip n = 1000000000000 := by simp [clip, h1]
    rw [e]
    clear e
    go_enter Try.func45, Try.ntmps45
    go_wp2_with fail
    go_ret
    exact ⟨rfl, q0⟩
  · by_cases h2 : n < -1000000000000
    · have e : clip n = -1000000000000 := by simp [clip, h1, h2]
      rw [e]
      clear e
      go_enter Try.func45, Try.ntmps45
      go_wp2_with fail
      go_ret
      exact ⟨rfl, q0⟩
    · have e : clip n = n := by simp [clip, h1, h2]
      rw [e]
      clear e
      go_enter Try.func45, Try.ntmps45
      go_wp2_with fail
      go_ret
      exact ⟨rfl, q0⟩

set_option maxRecDepth 100000 in
set_option maxHeartbeats 1000000 in
theorem rClip (n : Int) (w : World) : Calls Try.prog 42 #[.int .i64 n, .int .i64 (-1000000000000), .int .i64 1000000000000] w fun x w' => x = .returned (.int .i64 (clip n)) ∧ Below w.heap.size w w' := by
  have q0 := Below.refl w.heap.size w
  by_cases h1 : 1000000000000 < n
  · have e : clip n = 1000000000000 := by simp [clip, h1]
    rw [e]
    clear e
    go_enter Try.func42, Try.ntmps42
    go_wp2_with fail
    go_ret
    exact ⟨rfl, q0⟩
  · by_cases h2 : n < -1000000000000
    · have e : clip n = -1000000000000 := by simp [clip, h1, h2]
      rw [e]
      clear e
      go_enter Try.func42, Try.ntmps42
      go_wp2_with fail
      go_ret
      exact ⟨rfl, q0⟩
    · have e : clip n = n := by simp [clip, h1, h2]
      rw [e]
      clear e
      go_enter Try.func42, Try.ntmps42
      go_wp2_with fail
      go_ret
      exact ⟨rfl, q0⟩

set_option maxRecDepth 100000 in
set_option maxHeartbeats 1000000 in
theorem qBound (n : Int) (w : World) : Calls Try.prog 41 #[.int .i64 n] w fun x w' => x = .returned (.int .i64 (clip n)) ∧ Below w.heap.size w w' := by
  go_enter Try.func41, Try.ntmps41
  go_wp2_with fail
  refine (qClip n w).mono ?_
  rintro x w1 ⟨rfl, hb⟩
  go_wp2_with fail
  go_ret
  exact ⟨rfl, hb⟩

set_option maxRecDepth 100000 in
set_option maxHeartbeats 1000000 in
theorem qAdd (a b : Int) (w : World) : Calls Try.prog 34 #[.int .i64 a, .int .i64 b] w fun x w' => x = .returned (.int .i64 (addC a b)) ∧ Below w.heap.size w w' := by
  have ba := clip_b a
  have bb := clip_b b
  go_enter Try.func34, Try.ntmps34
  go_wp2_with fail
  refine (qBound a w).mono ?_
  rintro x w1 ⟨rfl, hb1⟩
  go_wp2_with fail
  refine (qBound b w1).mono ?_
  rintro x w2 ⟨rfl, hb2⟩
  have q2 := hb1.trans (hb2.mono hb1.size)
  clear hb1 hb2
  generalize hca : clip a = ca at *
  generalize hcb : clip b = cb at *
  have HA := Lib.hid hca
  have HB := Lib.hid hcb
  clear hca hcb
  go_wp2_with fail
  refine (qBound (ca + cb) w2).mono ?_
  rintro x w3 ⟨rfl, hb⟩
  have q3 := q2.trans (hb.mono q2.size)
  go_wp2_with fail
  go_ret
  exact ⟨by rw [addC, HA.out, HB.out]; rfl, q3⟩

set_option maxRecDepth 100000 in
set_option maxHeartbeats 1000000 in
theorem rAdd (a b : Int) (w : World) : Calls Try.prog 35 #[.int .i64 a, .int .i64 b] w fun x w' => x = .returned (.int .i64 (addC a b)) ∧ Below w.heap.size w w' := by
  have ba := clip_b a
  have bb := clip_b b
  go_enter Try.func35, Try.ntmps35
  go_wp2_with fail
  refine (rClip a w).mono ?_
  rintro x w1 ⟨rfl, hb1⟩
  go_wp2_with fail
  refine (rClip b w1).mono ?_
  rintro x w2 ⟨rfl, hb2⟩
  have q2 := hb1.trans (hb2.mono hb1.size)
  clear hb1 hb2
  generalize hca : clip a = ca at *
  generalize hcb : clip b = cb at *
  have HA := Lib.hid hca
  have HB := Lib.hid hcb
  clear hca hcb
  go_wp2_with fail
  refine (rClip (ca + cb) w2).mono ?_
  rintro x w3 ⟨rfl, hb⟩
  have q3 := q2.trans (hb.mono q2.size)
  go_wp2_with fail
  go_ret
  exact ⟨by rw [addC, HA.out, HB.out]; rfl, q3⟩

/-- The waiting time after so many failures. -/
def waitOf (f : Int) : Int := if f ≤ 0 then 1000 else if f = 1 then 2000 else if f = 2 then 4000 else if f = 3 then 8000 else if f = 4 then 16000 else if f = 5 then 32000 else 64000
theorem waitOf_b (f : Int) : 1000 ≤ waitOf f ∧ waitOf f ≤ 64000 := by
  unfold waitOf
  repeat (first | omega | split)

set_option maxRecDepth 100000 in
set_option maxHeartbeats 1000000 in
theorem wait0 (f : Int) (h : f ≤ 0) (w : World) : Calls Try.prog 36 #[.int .i64 f] w fun x w' => x = .returned (.int .i64 1000) ∧ Below w.heap.size w w' := by
  have q0 := Below.refl w.heap.size w

  go_enter Try.func36, Try.ntmps36
  go_wp2_with fail
  refine wp_loop_rounds 2 ?_
  rw [rounds_succ]
  go_wp2_with fail
  all_goals go_ret
  all_goals exact ⟨rfl, q0⟩

set_option maxRecDepth 100000 in
set_option maxHeartbeats 1000000 in
theorem wait1 (f : Int) (h : f = 1) (w : World) : Calls Try.prog 36 #[.int .i64 f] w fun x w' => x = .returned (.int .i64 2000) ∧ Below w.heap.size w w' := by
  have q0 := Below.refl w.heap.size w
  subst h
  go_enter Try.func36, Try.ntmps36
  go_wp2_with fail
  refine wp_loop_rounds 3 ?_
  rw [rounds_succ]
  go_wp2_with fail
  rw [rounds_succ]
  go_wp2_with fail
  all_goals go_ret
  all_goals exact ⟨rfl, q0⟩

set_option maxRecDepth 100000 in
set_option maxHeartbeats 1000000 in
theorem wait2 (f : Int) (h : f = 2) (w : World) : Calls Try.prog 36 #[.int .i64 f] w fun x w' => x = .returned (.int .i64 4000) ∧ Below w.heap.size w w' := by
  have q0 := Below.refl w.heap.size w
  subst h
  go_enter Try.func36, Try.ntmps36
  go_wp2_with fail
  refine wp_loop_rounds 4 ?_
  rw [rounds_succ]
  go_wp2_with fail
  rw [rounds_succ]
  go_wp2_with fail
  rw [rounds_succ]
  go_wp2_with fail
  all_goals go_ret
  all_goals exact ⟨rfl, q0⟩

set_option maxRecDepth 100000 in
set_option maxHeartbeats 1000000 in
theorem wait3 (f : Int) (h : f = 3) (w : World) : Calls Try.prog 36 #[.int .i64 f] w fun x w' => x = .returned (.int .i64 8000) ∧ Below w.heap.size w w' := by
  have q0 := Below.refl w.heap.size w
  subst h
  go_enter Try.func36, Try.ntmps36
  go_wp2_with fail
  refine wp_loop_rounds 5 ?_
  rw [rounds_succ]
  go_wp2_with fail
  rw [rounds_succ]
  go_wp2_with fail
  rw [rounds_succ]
  go_wp2_with fail
  rw [rounds_succ]
  go_wp2_with fail
  all_goals go_ret
  all_goals exact ⟨rfl, q0⟩

set_option maxRecDepth 100000 in
set_option maxHeartbeats 1000000 in
theorem wait4 (f : Int) (h : f = 4) (w : World) : Calls Try.prog 36 #[.int .i64 f] w fun x w' => x = .returned (.int .i64 16000) ∧ Below w.heap.size w w' := by
  have q0 := Below.refl w.heap.size w
  subst h
  go_enter Try.func36, Try.ntmps36
  go_wp2_with fail
  refine wp_loop_rounds 6 ?_
  rw [rounds_succ]
  go_wp2_with fail
  rw [rounds_succ]
  go_wp2_with fail
  rw [rounds_succ]
  go_wp2_with fail
  rw [rounds_succ]
  go_wp2_with fail
  rw [rounds_succ]
  go_wp2_with fail
  all_goals go_ret
  all_goals exact ⟨rfl, q0⟩

set_option maxRecDepth 100000 in
set_option maxHeartbeats 1000000 in
theorem wait5 (f : Int) (h : f = 5) (w : World) : Calls Try.prog 36 #[.int .i64 f] w fun x w' => x = .returned (.int .i64 32000) ∧ Below w.heap.size w w' := by
  have q0 := Below.refl w.heap.size w
  subst h
  go_enter Try.func36, Try.ntmps36
  go_wp2_with fail
  refine wp_loop_rounds 7 ?_
  rw [rounds_succ]
  go_wp2_with fail
  rw [rounds_succ]
  go_wp2_with fail
  rw [rounds_succ]
  go_wp2_with fail
  rw [rounds_succ]
  go_wp2_with fail
  rw [rounds_succ]
  go_wp2_with fail
  rw [rounds_succ]
  go_wp2_with fail
  all_goals go_ret
  all_goals exact ⟨rfl, q0⟩

set_option maxRecDepth 100000 in
set_option maxHeartbeats 1000000 in
theorem wait6 (f : Int) (h : 6 ≤ f) (w : World) : Calls Try.prog 36 #[.int .i64 f] w fun x w' => x = .returned (.int .i64 64000) ∧ Below w.heap.size w w' := by
  have q0 := Below.refl w.heap.size w

  go_enter Try.func36, Try.ntmps36
  go_wp2_with fail
  refine wp_loop_rounds 8 ?_
  rw [rounds_succ]
  go_wp2_with fail
  rw [rounds_succ]
  go_wp2_with fail
  rw [rounds_succ]
  go_wp2_with fail
  rw [rounds_succ]
  go_wp2_with fail
  rw [rounds_succ]
  go_wp2_with fail
  rw [rounds_succ]
  go_wp2_with fail
  rw [rounds_succ]
  go_wp2_with fail
  all_goals go_ret
  all_goals exact ⟨rfl, q0⟩

theorem rWait (f : Int) (w : World) : Calls Try.prog 36 #[.int .i64 f] w fun x w' => x = .returned (.int .i64 (waitOf f)) ∧ Below w.heap.size w w' := by
  by_cases h0 : f ≤ 0
  · rw [show waitOf f = 1000 by simp [waitOf, h0]]; exact wait0 f h0 w
  · by_cases h6 : 6 ≤ f
    · rw [show waitOf f = 64000 by unfold waitOf; repeat (first | omega | split)]; exact wait6 f h6 w
    · have : f = 1 ∨ f = 2 ∨ f = 3 ∨ f = 4 ∨ f = 5 := by omega
      rcases this with h | h | h | h | h
      · rw [show waitOf f = 2000 by subst h; rfl]; exact wait1 f h w
      · rw [show waitOf f = 4000 by subst h; rfl]; exact wait2 f h w
      · rw [show waitOf f = 8000 by subst h; rfl]; exact wait3 f h w
      · rw [show waitOf f = 16000 by subst h; rfl]; exact wait4 f h w
      · rw [show waitOf f = 32000 by subst h; rfl]; exact wait5 f h w
end Go.Proofs.Ytfebldoplobkdaa
