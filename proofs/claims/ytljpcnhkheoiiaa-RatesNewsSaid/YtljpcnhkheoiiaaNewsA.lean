/- The law RatesNews: the walk. -/
import Derived.Test.YtljpcnhkheoiiaaWalkL
namespace Go.Proofs.Ytljpcnhkheoiiaa
open Go.ChangeShapes Go.WideShapes Go.ChangeAt Go.RowKit

set_option maxRecDepth 100000 in
set_option maxHeartbeats 1000000 in
theorem news_walk (m e l a M E p q r s c d : Int) (w : World)
    (hN : ∀ w, Calls Try.prog 10 #[.int .i64 m, .int .i64 e] w fun x w' => x = .returned (.tuple #[.agg #[.int .i64 p, .int .i64 q, .int .i64 r, .int .i64 s], .int .i64 c]) ∧ Below w.heap.size w w')
    (hR : ∀ w, Calls Try.prog 11 #[.int .i64 m, .int .i64 e] w fun x w' => x = .returned (.tuple #[.agg #[.int .i64 p, .int .i64 q, .int .i64 r, .int .i64 s], .int .i64 c]) ∧ Below w.heap.size w w')
    (hC : ∀ w, Calls Try.prog 12 #[.agg #[.int .i64 l, .int .i64 a, .int .i64 M, .int .i64 E]] w fun x w' => x = .returned (.int .i64 d) ∧ Below w.heap.size w w')
    (hD : ∀ w, Calls Try.prog 13 #[.agg #[.int .i64 l, .int .i64 a, .int .i64 M, .int .i64 E]] w fun x w' => x = .returned (.int .i64 d) ∧ Below w.heap.size w w') :
    Calls Try.prog 3 #[.int .i64 m, .int .i64 e, .agg #[.int .i64 l, .int .i64 a, .int .i64 M, .int .i64 E]] w fun x w' => x = .returned (.bool true) ∧ Below w.heap.size w w' := by
  have q0 := Below.refl w.heap.size w
  go_enter Try.func3, Try.ntmps3
  go_wp2_with fail
  refine (hN _).mono ?_
  rintro x w1 ⟨rfl, hb⟩
  obtain ⟨q1, z0, k0, old⟩ := step_box q0 hb
  clear old hb q0
  go_wp2_with fail
  refine (hR _).mono ?_
  rintro x w2 ⟨rfl, hb⟩
  obtain ⟨q2, z1, k1, old⟩ := step_box q1 hb
  replace k0 := fun o => ((old _ z0).2 o).trans (k0 o)
  replace z0 := (old _ z0).1
  clear old hb q1
  go_wp2_with fail
  have hx := fun (x : Ext (w2.alloc (.cells #[.int .i64 p, .int .i64 q, .int .i64 r, .int .i64 s] 23))) => x.cell
  refine wp_region_ext (by kernel_rfl) (by kernel_rfl) ?_
  repeat (go_big_quiet_step (first | exact ext_of (hC _) | exact ext_of (hD _) | exact ext_of (live_true _)))
  refine wpQuiet_nil ?_
  intro x
  go_wp2_with fail
  go_ret
  exact ⟨rfl, (q2.alloc q2.size _).trans (x.below.mono (by have := q2.size; simp; omega))⟩

theorem news_any (m e l a M E : Int) (w : World) :
    Calls Try.prog 3 #[.int .i64 m, .int .i64 e, .agg #[.int .i64 l, .int .i64 a, .int .i64 M, .int .i64 E]] w fun x w' => x = .returned (.bool true) ∧ Below w.heap.size w w' := by
  by_cases h : 1 ≤ m ∧ m ≤ 1000000 ∧ 1 ≤ e ∧ e ≤ 1000000000
  · by_cases h' : 1 ≤ M ∧ M ≤ 1000000 ∧ 1 ≤ E ∧ E ≤ 1000000000 ∧ 0 ≤ l ∧ l ≤ M ∧ 0 ≤ a ∧ a ≤ 1000000000
    · obtain ⟨h1, h2, h3, h4, h5, h6, h7, h8⟩ := h'
      exact news_walk m e l a M E _ _ _ _ _ _ w (fun w => new_ok m e w h.1 h.2.1 h.2.2.1 h.2.2.2) (fun w => rnew_ok m e w h.1 h.2.1 h.2.2.1 h.2.2.2) (fun w => check_yes l a M E w h1 h2 h3 h4 h5 h6 h7 h8) (fun w => rcheck_yes l a M E w h1 h2 h3 h4 h5 h6 h7 h8)
    · exact news_walk m e l a M E _ _ _ _ _ _ w (fun w => new_ok m e w h.1 h.2.1 h.2.2.1 h.2.2.2) (fun w => rnew_ok m e w h.1 h.2.1 h.2.2.1 h.2.2.2) (fun w => check_no l a M E w h') (fun w => rcheck_no l a M E w h')
  · by_cases h' : 1 ≤ M ∧ M ≤ 1000000 ∧ 1 ≤ E ∧ E ≤ 1000000000 ∧ 0 ≤ l ∧ l ≤ M ∧ 0 ≤ a ∧ a ≤ 1000000000
    · obtain ⟨h1, h2, h3, h4, h5, h6, h7, h8⟩ := h'
      exact news_walk m e l a M E _ _ _ _ _ _ w (fun w => new_no m e w h) (fun w => rnew_no m e w h) (fun w => check_yes l a M E w h1 h2 h3 h4 h5 h6 h7 h8) (fun w => rcheck_yes l a M E w h1 h2 h3 h4 h5 h6 h7 h8)
    · exact news_walk m e l a M E _ _ _ _ _ _ w (fun w => new_no m e w h) (fun w => rnew_no m e w h) (fun w => check_no l a M E w h') (fun w => rcheck_no l a M E w h')
end Go.Proofs.Ytljpcnhkheoiiaa
