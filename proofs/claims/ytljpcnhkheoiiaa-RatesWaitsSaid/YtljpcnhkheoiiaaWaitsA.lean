/- The law RatesWaits: the walk. -/
import Derived.Test.YtljpcnhkheoiiaaWalkL
import Derived.Test.YtljpcnhkheoiiaaPlain
namespace Go.Proofs.Ytljpcnhkheoiiaa
open Go.ChangeShapes Go.WideShapes Go.ChangeAt Go.RowKit

set_option maxRecDepth 100000 in
set_option maxHeartbeats 1000000 in
theorem waits_walk (l a m e t n v : Int) (w : World)
    (hT : ∀ w, Calls Try.prog 19 #[.agg #[.int .i64 l, .int .i64 a, .int .i64 m, .int .i64 e], .int .i64 t, .int .i64 n] w fun x w' => x = .returned (.int .i64 v) ∧ Below w.heap.size w w')
    (hU : ∀ w, Calls Try.prog 20 #[.agg #[.int .i64 l, .int .i64 a, .int .i64 m, .int .i64 e], .int .i64 t, .int .i64 n] w fun x w' => x = .returned (.int .i64 v) ∧ Below w.heap.size w w')
    : Calls Try.prog 5 #[.agg #[.int .i64 l, .int .i64 a, .int .i64 m, .int .i64 e], .int .i64 t, .int .i64 n] w fun x w' => x = .returned (.bool true) ∧ Below w.heap.size w w' := by
  have q0 := Below.refl w.heap.size w
  go_enter Try.func5, Try.ntmps5
  go_wp2_with fail
  have hx := fun (x : Ext (w.alloc (.cells #[.int .i64 l, .int .i64 a, .int .i64 m, .int .i64 e] 23))) => x.cell
  refine wp_region_ext (by kernel_rfl) (by kernel_rfl) ?_
  repeat (go_big_quiet_step (first | (with_reducible exact ext_of (hT _)) | (with_reducible exact ext_of (hU _)) | (with_reducible exact ext_of (live_true _))))
  refine wpQuiet_nil ?_
  intro x
  go_wp2_with fail
  go_ret
  exact ⟨rfl, (q0.alloc q0.size _).trans (x.below.mono (by have := q0.size; first | (simp; done) | (simp; omega)))⟩


theorem waits_any (l a m e t n : Int) (w : World) :
    Calls Try.prog 5 #[.agg #[.int .i64 l, .int .i64 a, .int .i64 m, .int .i64 e], .int .i64 t, .int .i64 n] w fun x w' => x = .returned (.bool true) ∧ Below w.heap.size w w' := by
  by_cases hr : (1 ≤ m ∧ m ≤ 1000000 ∧ 1 ≤ e ∧ e ≤ 1000000000 ∧ 0 ≤ l ∧ l ≤ m ∧ 0 ≤ a ∧ a ≤ 1000000000) ∧ 1 ≤ n ∧ n ≤ m ∧ 0 ≤ t ∧ t ≤ 1000000000
  · obtain ⟨⟨h1, h2, h3, h4, h5, h6, h7, h8⟩, g1, g2, g3, g4⟩ := hr
    by_cases hq : n ≤ adL l a m e t
    · exact waits_walk l a m e t n _ w (fun w => wait_zero l a m e t n w h1 h2 h3 h4 h5 h6 h7 h8 g3 g4 g1 hq) (fun w => rwait_zero l a m e t n w h1 h2 h3 h4 h5 h6 h7 h8 g3 g4 g1 hq)
    · by_cases hl : a + (n - l) * e ≤ 1000000000
      · exact waits_walk l a m e t n _ w (fun w => wait_some l a m e t n w h1 h2 h3 h4 h5 h6 h7 h8 g3 g4 g1 (by omega) g2 hl) (fun w => rwait_some l a m e t n w h1 h2 h3 h4 h5 h6 h7 h8 g3 g4 g1 (by omega) g2 hl)
      · exact waits_walk l a m e t n _ w (fun w => wait_late l a m e t n w h1 h2 h3 h4 h5 h6 h7 h8 g3 g4 g1 (by omega) g2 (by omega)) (fun w => rwait_late l a m e t n w h1 h2 h3 h4 h5 h6 h7 h8 g3 g4 g1 (by omega) g2 (by omega))
  · exact waits_walk l a m e t n _ w (fun w => wait_range l a m e t n w hr) (fun w => rwait_range l a m e t n w hr)
end Go.Proofs.Ytljpcnhkheoiiaa
