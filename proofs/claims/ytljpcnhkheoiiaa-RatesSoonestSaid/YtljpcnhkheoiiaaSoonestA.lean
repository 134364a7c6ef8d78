/- The law RatesSoonest: the walk. -/
import Derived.Test.YtljpcnhkheoiiaaWalkL
import Derived.Test.YtljpcnhkheoiiaaPlain
namespace Go.Proofs.Ytljpcnhkheoiiaa
open Go.ChangeShapes Go.WideShapes Go.ChangeAt Go.RowKit

set_option maxRecDepth 100000 in
set_option maxHeartbeats 1000000 in
theorem soon_lo (l a m e t n u : Int) (w : World)
    (h : t < 0)
    (hW : ∀ w, Calls Try.prog 19 #[.agg #[.int .i64 l, .int .i64 a, .int .i64 m, .int .i64 e], .int .i64 t, .int .i64 n] w fun x w' => x = .returned (.int .i64 (-1)) ∧ Below w.heap.size w w')
    : Calls Try.prog 6 #[.agg #[.int .i64 l, .int .i64 a, .int .i64 m, .int .i64 e], .int .i64 t, .int .i64 n, .int .i64 u] w fun x w' => x = .returned (.bool true) ∧ Below w.heap.size w w' := by
  have q0 := Below.refl w.heap.size w
  go_enter Try.func6, Try.ntmps6
  go_wp2_with fail
  refine (hW _).mono ?_
  rintro x w1 ⟨rfl, hb⟩
  obtain ⟨q1, z0, k0, old⟩ := step_box q0 hb
  clear old hb
  go_wp2_with fail
  refine (live_true _).mono ?_
  rintro x w2 ⟨rfl, hb⟩
  obtain ⟨q2, old⟩ := step_same q1 hb
  clear old hb
  go_wp2_with fail
  go_ret
  exact ⟨rfl, q2⟩

set_option maxRecDepth 100000 in
set_option maxHeartbeats 1000000 in
theorem soon_hi (l a m e t n u : Int) (w : World)
    (h0 : 0 ≤ t) (h : 1000000000 < t)
    (hW : ∀ w, Calls Try.prog 19 #[.agg #[.int .i64 l, .int .i64 a, .int .i64 m, .int .i64 e], .int .i64 t, .int .i64 n] w fun x w' => x = .returned (.int .i64 (-1)) ∧ Below w.heap.size w w')
    : Calls Try.prog 6 #[.agg #[.int .i64 l, .int .i64 a, .int .i64 m, .int .i64 e], .int .i64 t, .int .i64 n, .int .i64 u] w fun x w' => x = .returned (.bool true) ∧ Below w.heap.size w w' := by
  have q0 := Below.refl w.heap.size w
  go_enter Try.func6, Try.ntmps6
  go_wp2_with fail
  refine (hW _).mono ?_
  rintro x w1 ⟨rfl, hb⟩
  obtain ⟨q1, z0, k0, old⟩ := step_box q0 hb
  clear old hb
  go_wp2_with fail
  refine (live_true _).mono ?_
  rintro x w2 ⟨rfl, hb⟩
  obtain ⟨q2, old⟩ := step_same q1 hb
  clear old hb
  go_wp2_with fail
  go_ret
  exact ⟨rfl, q2⟩

set_option maxRecDepth 100000 in
set_option maxHeartbeats 1000000 in
theorem soon_neg1 (l a m e t n u p q r s c : Int) (w : World)
    (t0 : 0 ≤ t) (t1 : t ≤ 1000000000) (h : u ≤ t) (c1 : (c != 0) = true)
    (hW : ∀ w, Calls Try.prog 19 #[.agg #[.int .i64 l, .int .i64 a, .int .i64 m, .int .i64 e], .int .i64 t, .int .i64 n] w fun x w' => x = .returned (.int .i64 (-1)) ∧ Below w.heap.size w w')
    (hT : ∀ w, Calls Try.prog 15 #[.agg #[.int .i64 l, .int .i64 a, .int .i64 m, .int .i64 e], .int .i64 t, .int .i64 n] w fun x w' => x = .returned (.tuple #[.agg #[.int .i64 p, .int .i64 q, .int .i64 r, .int .i64 s], .int .i64 c]) ∧ Below w.heap.size w w')
    : Calls Try.prog 6 #[.agg #[.int .i64 l, .int .i64 a, .int .i64 m, .int .i64 e], .int .i64 t, .int .i64 n, .int .i64 u] w fun x w' => x = .returned (.bool true) ∧ Below w.heap.size w w' := by
  have q0 := Below.refl w.heap.size w
  go_enter Try.func6, Try.ntmps6
  go_wp2_with fail
  refine (hW _).mono ?_
  rintro x w1 ⟨rfl, hb⟩
  obtain ⟨q1, z0, k0, old⟩ := step_box q0 hb
  clear old hb
  go_wp2_with fail
  refine (hT _).mono ?_
  rintro x w2 ⟨rfl, hb⟩
  obtain ⟨q2, old⟩ := step_same q1 hb
  replace k0 := fun o => ((old _ z0).2 o).trans (k0 o)
  replace z0 := (old _ z0).1
  clear old hb
  go_wp2_with fail
  refine (live_true _).mono ?_
  rintro x w3 ⟨rfl, hb⟩
  obtain ⟨q3, z2, k2, old⟩ := step_box q2 hb
  replace k0 := fun o => ((old _ z0).2 o).trans (k0 o)
  replace z0 := (old _ z0).1
  clear old hb
  go_wp2_with fail
  go_ret
  exact ⟨rfl, q3⟩

set_option maxRecDepth 100000 in
set_option maxHeartbeats 1000000 in
theorem soon_neg2 (l a m e t n u p q r s c : Int) (w : World)
    (t0 : 0 ≤ t) (t1 : t ≤ 1000000000) (h : t < u) (c1 : (c != 0) = true)
    (hW : ∀ w, Calls Try.prog 19 #[.agg #[.int .i64 l, .int .i64 a, .int .i64 m, .int .i64 e], .int .i64 t, .int .i64 n] w fun x w' => x = .returned (.int .i64 (-1)) ∧ Below w.heap.size w w')
    (hT : ∀ w, Calls Try.prog 15 #[.agg #[.int .i64 l, .int .i64 a, .int .i64 m, .int .i64 e], .int .i64 u, .int .i64 n] w fun x w' => x = .returned (.tuple #[.agg #[.int .i64 p, .int .i64 q, .int .i64 r, .int .i64 s], .int .i64 c]) ∧ Below w.heap.size w w')
    : Calls Try.prog 6 #[.agg #[.int .i64 l, .int .i64 a, .int .i64 m, .int .i64 e], .int .i64 t, .int .i64 n, .int .i64 u] w fun x w' => x = .returned (.bool true) ∧ Below w.heap.size w w' := by
  have q0 := Below.refl w.heap.size w
  go_enter Try.func6, Try.ntmps6
  go_wp2_with fail
  refine (hW _).mono ?_
  rintro x w1 ⟨rfl, hb⟩
  obtain ⟨q1, z0, k0, old⟩ := step_box q0 hb
  clear old hb
  go_wp2_with fail
  refine (hT _).mono ?_
  rintro x w2 ⟨rfl, hb⟩
  obtain ⟨q2, old⟩ := step_same q1 hb
  replace k0 := fun o => ((old _ z0).2 o).trans (k0 o)
  replace z0 := (old _ z0).1
  clear old hb
  go_wp2_with fail
  refine (live_true _).mono ?_
  rintro x w3 ⟨rfl, hb⟩
  obtain ⟨q3, z2, k2, old⟩ := step_box q2 hb
  replace k0 := fun o => ((old _ z0).2 o).trans (k0 o)
  replace z0 := (old _ z0).1
  clear old hb
  go_wp2_with fail
  go_ret
  exact ⟨rfl, q3⟩

set_option maxRecDepth 100000 in
set_option maxHeartbeats 1000000 in
theorem soon_zero (l a m e t n u v p q r s p' q' r' s' c' : Int) (w : World)
    (t0 : 0 ≤ t) (t1 : t ≤ 1000000000) (h : (v == 0) = true) (v0 : 0 ≤ v) (v1 : v ≤ 1000000000)
    (hW : ∀ w, Calls Try.prog 19 #[.agg #[.int .i64 l, .int .i64 a, .int .i64 m, .int .i64 e], .int .i64 t, .int .i64 n] w fun x w' => x = .returned (.int .i64 v) ∧ Below w.heap.size w w')
    (hT : ∀ w, Calls Try.prog 15 #[.agg #[.int .i64 l, .int .i64 a, .int .i64 m, .int .i64 e], .int .i64 (t + v), .int .i64 n] w fun x w' => x = .returned (.tuple #[.agg #[.int .i64 p, .int .i64 q, .int .i64 r, .int .i64 s], .int .i64 0]) ∧ Below w.heap.size w w')
    (hU : ∀ w, Calls Try.prog 15 #[.agg #[.int .i64 l, .int .i64 a, .int .i64 m, .int .i64 e], .int .i64 (t + v - 1), .int .i64 n] w fun x w' => x = .returned (.tuple #[.agg #[.int .i64 p', .int .i64 q', .int .i64 r', .int .i64 s'], .int .i64 c']) ∧ Below w.heap.size w w')
    : Calls Try.prog 6 #[.agg #[.int .i64 l, .int .i64 a, .int .i64 m, .int .i64 e], .int .i64 t, .int .i64 n, .int .i64 u] w fun x w' => x = .returned (.bool true) ∧ Below w.heap.size w w' := by
  have q0 := Below.refl w.heap.size w
  go_enter Try.func6, Try.ntmps6
  go_wp2_with fail
  refine (hW _).mono ?_
  rintro x w1 ⟨rfl, hb⟩
  obtain ⟨q1, z0, k0, old⟩ := step_box q0 hb
  clear old hb
  go_wp2_with fail
  refine (hT _).mono ?_
  rintro x w2 ⟨rfl, hb⟩
  obtain ⟨q2, old⟩ := step_same q1 hb
  replace k0 := fun o => ((old _ z0).2 o).trans (k0 o)
  replace z0 := (old _ z0).1
  clear old hb
  go_wp2_with fail
  refine (hU _).mono ?_
  rintro x w3 ⟨rfl, hb⟩
  obtain ⟨q3, z2, k2, old⟩ := step_box q2 hb
  replace k0 := fun o => ((old _ z0).2 o).trans (k0 o)
  replace z0 := (old _ z0).1
  clear old hb
  go_wp2_with fail
  refine (live_true _).mono ?_
  rintro x w4 ⟨rfl, hb⟩
  obtain ⟨q4, z3, k3, old⟩ := step_box q3 hb
  replace k0 := fun o => ((old _ z0).2 o).trans (k0 o)
  replace z0 := (old _ z0).1
  replace k2 := fun o => ((old _ z2).2 o).trans (k2 o)
  replace z2 := (old _ z2).1
  clear old hb
  go_wp2_with fail
  go_ret
  exact ⟨rfl, q4⟩

set_option maxRecDepth 100000 in
set_option maxHeartbeats 1000000 in
theorem soon_pos (l a m e t n u v p q r s p' q' r' s' c' : Int) (w : World)
    (t0 : 0 ≤ t) (t1 : t ≤ 1000000000) (h : (v == 0) = false) (v0 : 0 ≤ v) (v1 : v ≤ 1000000000)
    (hW : ∀ w, Calls Try.prog 19 #[.agg #[.int .i64 l, .int .i64 a, .int .i64 m, .int .i64 e], .int .i64 t, .int .i64 n] w fun x w' => x = .returned (.int .i64 v) ∧ Below w.heap.size w w')
    (hT : ∀ w, Calls Try.prog 15 #[.agg #[.int .i64 l, .int .i64 a, .int .i64 m, .int .i64 e], .int .i64 (t + v), .int .i64 n] w fun x w' => x = .returned (.tuple #[.agg #[.int .i64 p, .int .i64 q, .int .i64 r, .int .i64 s], .int .i64 0]) ∧ Below w.heap.size w w')
    (hU : ∀ w, Calls Try.prog 15 #[.agg #[.int .i64 l, .int .i64 a, .int .i64 m, .int .i64 e], .int .i64 (t + v - 1), .int .i64 n] w fun x w' => x = .returned (.tuple #[.agg #[.int .i64 p', .int .i64 q', .int .i64 r', .int .i64 s'], .int .i64 25]) ∧ Below w.heap.size w w')
    : Calls Try.prog 6 #[.agg #[.int .i64 l, .int .i64 a, .int .i64 m, .int .i64 e], .int .i64 t, .int .i64 n, .int .i64 u] w fun x w' => x = .returned (.bool true) ∧ Below w.heap.size w w' := by
  have q0 := Below.refl w.heap.size w
  go_enter Try.func6, Try.ntmps6
  go_wp2_with fail
  refine (hW _).mono ?_
  rintro x w1 ⟨rfl, hb⟩
  obtain ⟨q1, z0, k0, old⟩ := step_box q0 hb
  clear old hb
  go_wp2_with fail
  refine (hT _).mono ?_
  rintro x w2 ⟨rfl, hb⟩
  obtain ⟨q2, old⟩ := step_same q1 hb
  replace k0 := fun o => ((old _ z0).2 o).trans (k0 o)
  replace z0 := (old _ z0).1
  clear old hb
  go_wp2_with fail
  refine (hU _).mono ?_
  rintro x w3 ⟨rfl, hb⟩
  obtain ⟨q3, z2, k2, old⟩ := step_box q2 hb
  replace k0 := fun o => ((old _ z0).2 o).trans (k0 o)
  replace z0 := (old _ z0).1
  clear old hb
  go_wp2_with fail
  refine (live_true _).mono ?_
  rintro x w4 ⟨rfl, hb⟩
  obtain ⟨q4, z3, k3, old⟩ := step_box q3 hb
  replace k0 := fun o => ((old _ z0).2 o).trans (k0 o)
  replace z0 := (old _ z0).1
  replace k2 := fun o => ((old _ z2).2 o).trans (k2 o)
  replace z2 := (old _ z2).1
  clear old hb
  go_wp2_with fail
  go_ret
  exact ⟨rfl, q4⟩


theorem take_some (l a m e t n : Int) : ∃ p q r s c : Int, ∀ w, Calls Try.prog 15 #[.agg #[.int .i64 l, .int .i64 a, .int .i64 m, .int .i64 e], .int .i64 t, .int .i64 n] w fun x w' => x = .returned (.tuple #[.agg #[.int .i64 p, .int .i64 q, .int .i64 r, .int .i64 s], .int .i64 c]) ∧ Below w.heap.size w w' := by
  by_cases hr : (1 ≤ m ∧ m ≤ 1000000 ∧ 1 ≤ e ∧ e ≤ 1000000000 ∧ 0 ≤ l ∧ l ≤ m ∧ 0 ≤ a ∧ a ≤ 1000000000) ∧ 1 ≤ n ∧ 0 ≤ t ∧ t ≤ 1000000000
  · obtain ⟨⟨h1, h2, h3, h4, h5, h6, h7, h8⟩, g1, g2, g3⟩ := hr
    by_cases hq : n ≤ adL l a m e t
    · exact ⟨_, _, _, _, _, fun w => take_ok l a m e t n w h1 h2 h3 h4 h5 h6 h7 h8 g2 g3 g1 hq⟩
    · exact ⟨_, _, _, _, _, fun w => take_rate l a m e t n w h1 h2 h3 h4 h5 h6 h7 h8 g2 g3 g1 (by omega)⟩
  · exact ⟨_, _, _, _, _, fun w => take_range l a m e t n w hr⟩
/-- A Take that must fail. -/
theorem take_fails (l a m e t n : Int) (h : (1 ≤ m ∧ m ≤ 1000000 ∧ 1 ≤ e ∧ e ≤ 1000000000 ∧ 0 ≤ l ∧ l ≤ m ∧ 0 ≤ a ∧ a ≤ 1000000000) → 1 ≤ n → 0 ≤ t → t ≤ 1000000000 → adL l a m e t < n) : ∃ p q r s c : Int, (c != 0) = true ∧ ∀ w, Calls Try.prog 15 #[.agg #[.int .i64 l, .int .i64 a, .int .i64 m, .int .i64 e], .int .i64 t, .int .i64 n] w fun x w' => x = .returned (.tuple #[.agg #[.int .i64 p, .int .i64 q, .int .i64 r, .int .i64 s], .int .i64 c]) ∧ Below w.heap.size w w' := by
  by_cases hr : (1 ≤ m ∧ m ≤ 1000000 ∧ 1 ≤ e ∧ e ≤ 1000000000 ∧ 0 ≤ l ∧ l ≤ m ∧ 0 ≤ a ∧ a ≤ 1000000000) ∧ 1 ≤ n ∧ 0 ≤ t ∧ t ≤ 1000000000
  · obtain ⟨⟨h1, h2, h3, h4, h5, h6, h7, h8⟩, g1, g2, g3⟩ := hr
    exact ⟨_, _, _, _, _, rfl, fun w => take_rate l a m e t n w h1 h2 h3 h4 h5 h6 h7 h8 g2 g3 g1 (h ⟨h1, h2, h3, h4, h5, h6, h7, h8⟩ g1 g2 g3)⟩
  · exact ⟨_, _, _, _, _, rfl, fun w => take_range l a m e t n w hr⟩

theorem soon_neg (l a m e t n u : Int) (w : World) (t0 : 0 ≤ t) (t1 : t ≤ 1000000000) (hW : ∀ w, Calls Try.prog 19 #[.agg #[.int .i64 l, .int .i64 a, .int .i64 m, .int .i64 e], .int .i64 t, .int .i64 n] w fun x w' => x = .returned (.int .i64 (-1)) ∧ Below w.heap.size w w')
    (h : ∀ x, (1 ≤ m ∧ m ≤ 1000000 ∧ 1 ≤ e ∧ e ≤ 1000000000 ∧ 0 ≤ l ∧ l ≤ m ∧ 0 ≤ a ∧ a ≤ 1000000000) → 1 ≤ n → 0 ≤ x → x ≤ 1000000000 → adL l a m e x < n) :
    Calls Try.prog 6 #[.agg #[.int .i64 l, .int .i64 a, .int .i64 m, .int .i64 e], .int .i64 t, .int .i64 n, .int .i64 u] w fun x w' => x = .returned (.bool true) ∧ Below w.heap.size w w' := by
  by_cases hu : u ≤ t
  · obtain ⟨p, q, r, s, c, c1, hT⟩ := take_fails l a m e t n (h t)
    exact soon_neg1 l a m e t n u p q r s c w t0 t1 hu c1 hW hT
  · obtain ⟨p, q, r, s, c, c1, hT⟩ := take_fails l a m e u n (h u)
    exact soon_neg2 l a m e t n u p q r s c w t0 t1 (by omega) c1 hW hT

theorem soon_any (l a m e t n u : Int) (w : World) :
    Calls Try.prog 6 #[.agg #[.int .i64 l, .int .i64 a, .int .i64 m, .int .i64 e], .int .i64 t, .int .i64 n, .int .i64 u] w fun x w' => x = .returned (.bool true) ∧ Below w.heap.size w w' := by
  by_cases ht0 : t < 0
  · exact soon_lo l a m e t n u w ht0 (fun w => wait_range l a m e t n w (by omega))
  by_cases ht1 : 1000000000 < t
  · exact soon_hi l a m e t n u w (by omega) ht1 (fun w => wait_range l a m e t n w (by omega))
  have t0 : 0 ≤ t := by omega
  have t1 : t ≤ 1000000000 := by omega
  by_cases hr : (1 ≤ m ∧ m ≤ 1000000 ∧ 1 ≤ e ∧ e ≤ 1000000000 ∧ 0 ≤ l ∧ l ≤ m ∧ 0 ≤ a ∧ a ≤ 1000000000) ∧ 1 ≤ n ∧ n ≤ m ∧ 0 ≤ t ∧ t ≤ 1000000000
  · obtain ⟨⟨h1, h2, h3, h4, h5, h6, h7, h8⟩, g1, g2, g3, g4⟩ := hr
    by_cases hq : n ≤ adL l a m e t
    · obtain ⟨p, q, r, s, c, hU⟩ := take_some l a m e (t + 0 - 1) n
      refine soon_zero l a m e t n u 0 (adL l a m e t - n) (adA l a m e t) m e p q r s c w t0 t1 rfl (by omega) (by omega) (fun w => wait_zero l a m e t n w h1 h2 h3 h4 h5 h6 h7 h8 g3 g4 g1 hq) (fun w => ?_) hU
      rw [Int.add_zero]
      exact take_ok l a m e t n w h1 h2 h3 h4 h5 h6 h7 h8 g3 g4 g1 hq
    · have hl : l < n := by have := adL_bd l a m e t h3 h6; omega
      by_cases hw : a + (n - l) * e ≤ 1000000000
      · have ht : ¬ a + (n - l) * e ≤ t := fun hh => hq ((adL_ge h3 hl g2).2 hh)
        have e1 : t + (a + (n - l) * e - t) = a + (n - l) * e := by omega
        refine soon_pos l a m e t n u (a + (n - l) * e - t) (adL l a m e (a + (n - l) * e) - n) (adA l a m e (a + (n - l) * e)) m e 0 0 0 0 0 w t0 t1 (beq_eq_false_iff_ne.2 (by omega)) (by omega) (by omega) (fun w => wait_some l a m e t n w h1 h2 h3 h4 h5 h6 h7 h8 g3 g4 g1 (by omega) g2 hw) (fun w => ?_) (fun w => ?_)
        · rw [e1]
          exact take_ok l a m e _ n w h1 h2 h3 h4 h5 h6 h7 h8 (by omega) hw g1 ((adL_ge h3 hl g2).2 (Int.le_refl _))
        · rw [e1]
          exact take_rate l a m e _ n w h1 h2 h3 h4 h5 h6 h7 h8 (by omega) (by omega) g1 (by
            rcases Int.lt_or_le (adL l a m e (a + (n - l) * e - 1)) n with h | h
            · exact h
            · have := (adL_ge h3 hl g2).1 h; omega)
      · refine soon_neg l a m e t n u w t0 t1 (fun w => wait_late l a m e t n w h1 h2 h3 h4 h5 h6 h7 h8 g3 g4 g1 (by omega) g2 (by omega)) (fun x _ _ _ hx => ?_)
        rcases Int.lt_or_le (adL l a m e x) n with h | h
        · exact h
        · have := (adL_ge h3 hl g2).1 h; omega
  · refine soon_neg l a m e t n u w t0 t1 (fun w => wait_range l a m e t n w hr) (fun x hR hn _ _ => ?_)
    have := adL_bd l a m e x hR.2.2.1 hR.2.2.2.2.2.1
    have hnm : ¬ n ≤ m := fun hm => hr ⟨hR, hn, hm, t0, t1⟩
    omega
end Go.Proofs.Ytljpcnhkheoiiaa
