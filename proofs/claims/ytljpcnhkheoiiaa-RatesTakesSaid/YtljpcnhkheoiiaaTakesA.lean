/- The law RatesTakes: the walk. -/
import Derived.Test.YtljpcnhkheoiiaaWalkL
import Derived.Test.YtljpcnhkheoiiaaPlain
namespace Go.Proofs.Ytljpcnhkheoiiaa
open Go.ChangeShapes Go.WideShapes Go.ChangeAt Go.RowKit

set_option maxRecDepth 100000 in
set_option maxHeartbeats 1000000 in
theorem takes_walk (l a m e t n p q r s c d : Int) (w : World)
    (hT : ∀ w, Calls Try.prog 15 #[.agg #[.int .i64 l, .int .i64 a, .int .i64 m, .int .i64 e], .int .i64 t, .int .i64 n] w fun x w' => x = .returned (.tuple #[.agg #[.int .i64 p, .int .i64 q, .int .i64 r, .int .i64 s], .int .i64 c]) ∧ Below w.heap.size w w')
    (hU : ∀ w, Calls Try.prog 16 #[.agg #[.int .i64 l, .int .i64 a, .int .i64 m, .int .i64 e], .int .i64 t, .int .i64 n] w fun x w' => x = .returned (.tuple #[.agg #[.int .i64 p, .int .i64 q, .int .i64 r, .int .i64 s], .int .i64 c]) ∧ Below w.heap.size w w')
    (hL : ∀ w, Calls Try.prog 17 #[.agg #[.int .i64 l, .int .i64 a, .int .i64 m, .int .i64 e], .int .i64 t] w fun x w' => x = .returned (.int .i64 d) ∧ Below w.heap.size w w')
    (hM : ∀ w, Calls Try.prog 18 #[.agg #[.int .i64 l, .int .i64 a, .int .i64 m, .int .i64 e], .int .i64 t] w fun x w' => x = .returned (.int .i64 d) ∧ Below w.heap.size w w')
    : Calls Try.prog 4 #[.agg #[.int .i64 l, .int .i64 a, .int .i64 m, .int .i64 e], .int .i64 t, .int .i64 n] w fun x w' => x = .returned (.bool true) ∧ Below w.heap.size w w' := by
  have q0 := Below.refl w.heap.size w
  go_enter Try.func4, Try.ntmps4
  go_wp2_with fail
  refine (hT _).mono ?_
  rintro x w1 ⟨rfl, hb⟩
  obtain ⟨q1, z0, k0, old⟩ := step_box q0 hb
  clear old hb
  go_wp2_with fail
  refine (hU _).mono ?_
  rintro x w2 ⟨rfl, hb⟩
  obtain ⟨q2, z1, k1, old⟩ := step_box q1 hb
  replace k0 := fun o => ((old _ z0).2 o).trans (k0 o)
  replace z0 := (old _ z0).1
  clear old hb
  go_wp2_with fail
  have hx := fun (x : Ext (w2.alloc (.cells #[.int .i64 p, .int .i64 q, .int .i64 r, .int .i64 s] 23))) => x.cell
  refine wp_region_ext (by kernel_rfl) (by kernel_rfl) ?_
  repeat (go_big_quiet_step (first | (with_reducible exact ext_of (hL _)) | (with_reducible exact ext_of (hM _)) | (with_reducible exact ext_of (live_true _))))
  refine wpQuiet_nil ?_
  intro x
  go_wp2_with fail
  go_ret
  exact ⟨rfl, (q2.alloc q2.size _).trans (x.below.mono (by have := q2.size; first | (simp; done) | (simp; omega)))⟩


theorem takes_any (l a m e t n : Int) (w : World) (t1 : -9223372036854775808 ≤ t) (t2 : t ≤ 9223372036854775807) :
    Calls Try.prog 4 #[.agg #[.int .i64 l, .int .i64 a, .int .i64 m, .int .i64 e], .int .i64 t, .int .i64 n] w fun x w' => x = .returned (.bool true) ∧ Below w.heap.size w w' := by
  by_cases hr : 1 ≤ m ∧ m ≤ 1000000 ∧ 1 ≤ e ∧ e ≤ 1000000000 ∧ 0 ≤ l ∧ l ≤ m ∧ 0 ≤ a ∧ a ≤ 1000000000
  · obtain ⟨h1, h2, h3, h4, h5, h6, h7, h8⟩ := hr
    by_cases hg : 1 ≤ n ∧ 0 ≤ t ∧ t ≤ 1000000000
    · obtain ⟨g1, g2, g3⟩ := hg
      by_cases hq : n ≤ adL l a m e t
      · exact takes_walk l a m e t n _ _ _ _ _ _ w (fun w => take_ok l a m e t n w h1 h2 h3 h4 h5 h6 h7 h8 g2 g3 g1 hq) (fun w => rtake_ok l a m e t n w h1 h2 h3 h4 h5 h6 h7 h8 g2 g3 g1 hq) (fun w => left_yes l a m e t w h1 h2 h3 h4 h5 h6 h7 h8 t1 t2) (fun w => rleft_yes l a m e t w h1 h2 h3 h4 h5 h6 h7 h8 t1 t2)
      · exact takes_walk l a m e t n _ _ _ _ _ _ w (fun w => take_rate l a m e t n w h1 h2 h3 h4 h5 h6 h7 h8 g2 g3 g1 (by omega)) (fun w => rtake_rate l a m e t n w h1 h2 h3 h4 h5 h6 h7 h8 g2 g3 g1 (by omega)) (fun w => left_yes l a m e t w h1 h2 h3 h4 h5 h6 h7 h8 t1 t2) (fun w => rleft_yes l a m e t w h1 h2 h3 h4 h5 h6 h7 h8 t1 t2)
    · exact takes_walk l a m e t n _ _ _ _ _ _ w (fun w => take_range l a m e t n w (fun h => hg h.2)) (fun w => rtake_range l a m e t n w (fun h => hg h.2)) (fun w => left_yes l a m e t w h1 h2 h3 h4 h5 h6 h7 h8 t1 t2) (fun w => rleft_yes l a m e t w h1 h2 h3 h4 h5 h6 h7 h8 t1 t2)
  · exact takes_walk l a m e t n _ _ _ _ _ _ w (fun w => take_range l a m e t n w (fun h => hr h.1)) (fun w => rtake_range l a m e t n w (fun h => hr h.1)) (fun w => left_no l a m e t w hr) (fun w => rleft_no l a m e t w hr)
end Go.Proofs.Ytljpcnhkheoiiaa
