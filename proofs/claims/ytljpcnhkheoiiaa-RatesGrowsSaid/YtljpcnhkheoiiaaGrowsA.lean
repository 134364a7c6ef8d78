/- The law RatesGrows: the walk. -/
import Derived.Test.YtljpcnhkheoiiaaWalkL
import Derived.Test.YtljpcnhkheoiiaaPlain
namespace Go.Proofs.Ytljpcnhkheoiiaa
open Go.ChangeShapes Go.WideShapes Go.ChangeAt Go.RowKit

set_option maxRecDepth 100000 in
set_option maxHeartbeats 1000000 in
theorem grows_walk (l a m e t u xx yy : Int) (w : World)
    (h : t ≤ u) (x0 : 0 ≤ xx) (xy : xx ≤ yy) (y0 : (yy == 0) = false) (ym : yy ≤ m)
    (hT : ∀ w, Calls Try.prog 17 #[.agg #[.int .i64 l, .int .i64 a, .int .i64 m, .int .i64 e], .int .i64 t] w fun x w' => x = .returned (.int .i64 xx) ∧ Below w.heap.size w w')
    (hU : ∀ w, Calls Try.prog 17 #[.agg #[.int .i64 l, .int .i64 a, .int .i64 m, .int .i64 e], .int .i64 u] w fun x w' => x = .returned (.int .i64 yy) ∧ Below w.heap.size w w')
    : Calls Try.prog 9 #[.agg #[.int .i64 l, .int .i64 a, .int .i64 m, .int .i64 e], .int .i64 t, .int .i64 u] w fun x w' => x = .returned (.bool true) ∧ Below w.heap.size w w' := by
  have q0 := Below.refl w.heap.size w
  go_enter Try.func9, Try.ntmps9
  go_wp2_with fail
  have hx := fun (x : Ext (w.alloc (.cells #[.int .i64 l, .int .i64 a, .int .i64 m, .int .i64 e] 23))) => x.cell
  refine wp_region_ext (by kernel_rfl) (by kernel_rfl) ?_
  repeat (go_big_quiet_step (first | (with_reducible exact ext_of (hT _)) | (with_reducible exact ext_of (hU _))))
  refine wpQuiet_nil ?_
  intro x
  have q1 := (q0.alloc q0.size _).trans (x.below.mono (by have := q0.size; first | (simp; done) | (simp; omega)))
  have z0 : w.heap.size < x.val.heap.size := by have := x.below.size; simp at this; omega
  have k0 : ∀ o, x.val.cell? ⟨w.heap.size, o, none⟩ = #[.int .i64 l, .int .i64 a, .int .i64 m, .int .i64 e][o]? := fun o => (hx x _ _ (by simp)).trans (World.cell?_alloc_new w _ _ o)
  clear hx
  obtain ⟨w1, bw⟩ := x
  dsimp only at *
  clear bw
  go_wp2_with fail
  refine (live_true _).mono ?_
  rintro x w2 ⟨rfl, hb⟩
  obtain ⟨q2, old⟩ := step_same q1 hb
  replace k0 := fun o => ((old _ z0).2 o).trans (k0 o)
  replace z0 := (old _ z0).1
  clear old hb
  go_wp2_with fail
  go_ret
  exact ⟨rfl, q2⟩

set_option maxRecDepth 100000 in
set_option maxHeartbeats 1000000 in
theorem grows_walk0 (l a m e t u xx yy : Int) (w : World)
    (h : t ≤ u) (x0 : 0 ≤ xx) (xy : xx ≤ yy) (y0 : (yy == 0) = true)
    (hT : ∀ w, Calls Try.prog 17 #[.agg #[.int .i64 l, .int .i64 a, .int .i64 m, .int .i64 e], .int .i64 t] w fun x w' => x = .returned (.int .i64 xx) ∧ Below w.heap.size w w')
    (hU : ∀ w, Calls Try.prog 17 #[.agg #[.int .i64 l, .int .i64 a, .int .i64 m, .int .i64 e], .int .i64 u] w fun x w' => x = .returned (.int .i64 yy) ∧ Below w.heap.size w w')
    : Calls Try.prog 9 #[.agg #[.int .i64 l, .int .i64 a, .int .i64 m, .int .i64 e], .int .i64 t, .int .i64 u] w fun x w' => x = .returned (.bool true) ∧ Below w.heap.size w w' := by
  have q0 := Below.refl w.heap.size w
  go_enter Try.func9, Try.ntmps9
  go_wp2_with fail
  have hx := fun (x : Ext (w.alloc (.cells #[.int .i64 l, .int .i64 a, .int .i64 m, .int .i64 e] 23))) => x.cell
  refine wp_region_ext (by kernel_rfl) (by kernel_rfl) ?_
  repeat (go_big_quiet_step (first | (with_reducible exact ext_of (hT _)) | (with_reducible exact ext_of (hU _))))
  refine wpQuiet_nil ?_
  intro x
  have q1 := (q0.alloc q0.size _).trans (x.below.mono (by have := q0.size; first | (simp; done) | (simp; omega)))
  have z0 : w.heap.size < x.val.heap.size := by have := x.below.size; simp at this; omega
  have k0 : ∀ o, x.val.cell? ⟨w.heap.size, o, none⟩ = #[.int .i64 l, .int .i64 a, .int .i64 m, .int .i64 e][o]? := fun o => (hx x _ _ (by simp)).trans (World.cell?_alloc_new w _ _ o)
  clear hx
  obtain ⟨w1, bw⟩ := x
  dsimp only at *
  clear bw
  go_wp2_with fail
  refine (live_true _).mono ?_
  rintro x w2 ⟨rfl, hb⟩
  obtain ⟨q2, old⟩ := step_same q1 hb
  replace k0 := fun o => ((old _ z0).2 o).trans (k0 o)
  replace z0 := (old _ z0).1
  clear old hb
  go_wp2_with fail
  go_ret
  exact ⟨rfl, q2⟩

set_option maxRecDepth 100000 in
set_option maxHeartbeats 1000000 in
theorem grows_late (l a m e t u : Int) (w : World)
    (h : u < t)
    : Calls Try.prog 9 #[.agg #[.int .i64 l, .int .i64 a, .int .i64 m, .int .i64 e], .int .i64 t, .int .i64 u] w fun x w' => x = .returned (.bool true) ∧ Below w.heap.size w w' := by
  have q0 := Below.refl w.heap.size w
  go_enter Try.func9, Try.ntmps9
  go_wp2_with fail
  refine (live_true _).mono ?_
  rintro x w1 ⟨rfl, hb⟩
  go_wp2_with fail
  go_ret
  exact ⟨rfl, (q0.alloc q0.size _).trans (hb.mono (by simp))⟩


theorem grows_any (l a m e t u : Int) (w : World) (t1 : -9223372036854775808 ≤ t) (t2 : t ≤ 9223372036854775807) (u1 : -9223372036854775808 ≤ u) (u2 : u ≤ 9223372036854775807) :
    Calls Try.prog 9 #[.agg #[.int .i64 l, .int .i64 a, .int .i64 m, .int .i64 e], .int .i64 t, .int .i64 u] w fun x w' => x = .returned (.bool true) ∧ Below w.heap.size w w' := by
  by_cases h : t ≤ u
  · by_cases hr : 1 ≤ m ∧ m ≤ 1000000 ∧ 1 ≤ e ∧ e ≤ 1000000000 ∧ 0 ≤ l ∧ l ≤ m ∧ 0 ≤ a ∧ a ≤ 1000000000
    · obtain ⟨h1, h2, h3, h4, h5, h6, h7, h8⟩ := hr
      have b1 := adL_bd l a m e t h3 h6
      have b2 := adL_bd l a m e u h3 h6
      have b3 := adL_mono (a := a) h3 h6 h
      by_cases hy : adL l a m e u = 0
      · exact grows_walk0 l a m e t u _ _ w h (by omega) b3 (beq_iff_eq.2 hy) (fun w => left_yes l a m e t w h1 h2 h3 h4 h5 h6 h7 h8 t1 t2) (fun w => left_yes l a m e u w h1 h2 h3 h4 h5 h6 h7 h8 u1 u2)
      · exact grows_walk l a m e t u _ _ w h (by omega) b3 (beq_eq_false_iff_ne.2 hy) b2.2 (fun w => left_yes l a m e t w h1 h2 h3 h4 h5 h6 h7 h8 t1 t2) (fun w => left_yes l a m e u w h1 h2 h3 h4 h5 h6 h7 h8 u1 u2)
    · exact grows_walk0 l a m e t u 0 0 w h (by omega) (by omega) rfl (fun w => left_no l a m e t w hr) (fun w => left_no l a m e u w hr)
  · exact grows_late l a m e t u w (by omega)
end Go.Proofs.Ytljpcnhkheoiiaa
