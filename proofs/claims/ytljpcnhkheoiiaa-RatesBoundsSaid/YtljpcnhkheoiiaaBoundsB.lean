/- The law RatesBounds: every way, and the list of calls opened. -/
import Derived.Test.YtljpcnhkheoiiaaBoundsA
import Derived.Deep.Slices
import Derived.Deep.Fields
namespace Go.Proofs.Ytljpcnhkheoiiaa
open Go.ChangeShapes Go.WideShapes Go.ChangeAt Go.RowKit Go.Deep

set_option maxRecDepth 100000 in
set_option maxHeartbeats 1000000 in
theorem bounds_long (l a m e : Int) (ao : Option Addr) (len cap : Nat) (w : World) (h60 : 60 < len) (hlc : len ≤ cap) (hcap : cap ≤ 9223372036854775807) :
    Calls Try.prog 8 #[.agg #[.int .i64 l, .int .i64 a, .int .i64 m, .int .i64 e], .slice ao len cap] w fun x w' => x = .returned (.bool true) ∧ Below w.heap.size w w' := by
  go_enter Try.func8, Try.ntmps8
  go_wp2_with fail
  refine (live_true _).mono ?_
  rintro x w1 ⟨rfl, hb⟩
  go_wp2_with fail
  go_ret
  exact ⟨rfl, ((Below.refl w.heap.size w).alloc (Nat.le_refl _) _).trans (hb.mono (by simp))⟩

set_option maxRecDepth 100000 in
set_option maxHeartbeats 1000000 in
theorem bounds_not (l a m e : Int) (ao : Option Addr) (len cap : Nat) (w : World) (h60 : len ≤ 60) (hlc : len ≤ cap) (hcap : cap ≤ 9223372036854775807)
    (h : ¬ (1 ≤ m ∧ m ≤ 1000000 ∧ 1 ≤ e ∧ e ≤ 1000000000 ∧ 0 ≤ l ∧ l ≤ m ∧ 0 ≤ a ∧ a ≤ 1000000000)) :
    Calls Try.prog 8 #[.agg #[.int .i64 l, .int .i64 a, .int .i64 m, .int .i64 e], .slice ao len cap] w fun x w' => x = .returned (.bool true) ∧ Below w.heap.size w w' := by
  have H := Lib.hid h
  clear h
  go_enter Try.func8, Try.ntmps8
  go_wp2_with fail
  refine (check_no l a m e _ H.out).mono ?_
  rintro x w1 ⟨rfl, hb⟩
  go_wp2_with fail
  refine (live_true _).mono ?_
  rintro x w2 ⟨rfl, hb2⟩
  go_wp2_with fail
  go_ret
  exact ⟨rfl, (((Below.refl w.heap.size w).alloc (Nat.le_refl _) _).trans (hb.mono (by simp))).trans (hb2.mono (by have := hb.size; simp at this; omega))⟩

theorem cellsOf37 : Try.prog.cellsOf 37 = 2 := by kernel_rfl
theorem cellsOf3 : Try.prog.cellsOf 3 = 1 := by kernel_rfl

section
variable {H : Type} {enc : TypeId × Value → H} {W : World} {base : Nat} {spare : Nat → Bool} {held : Bool}
theorem open_call {fuel : Nat} {cs : List Value} {y : DataW H × List MemPlace} (h : DataW.trod enc Try.prog W base spare held fuel 37 cs = some y) :
    ∃ t n : Int, cs = [.int .i64 t, .int .i64 n] ∧ (Lit.int .i64 t).wf = true ∧ (Lit.int .i64 n).wf = true := by
  obtain ⟨xs, k, _, _, hlen, hxl, hg⟩ := DataW.trod_struct Try.underlying37 h
  rw [cellsOf37] at hlen
  match cs, hlen with
  | [c0, c1], _ =>
    have h0 : DataW.trod enc Try.prog W base spare held k 3 (([c0, c1].drop 0).take (Try.prog.cellsOf 3)) = xs[0]? := hg 0 _ rfl
    have h1 : DataW.trod enc Try.prog W base spare held k 3 (([c0, c1].drop 1).take (Try.prog.cellsOf 3)) = xs[1]? := hg 1 _ rfl
    rw [cellsOf3] at h0 h1
    match xs, hxl with
    | [x0, x1], _ =>
      simp at h0 h1
      obtain ⟨t, e0, _, w0⟩ := DataW.trod_int Try.underlying3 h0
      obtain ⟨n, e1, _, w1⟩ := DataW.trod_int Try.underlying3 h1
      simp at e0 e1
      subst e0 e1
      exact ⟨t, n, rfl, w0, w1⟩

theorem open_calls {ao : Option Addr} {len cap : Nat} {d : DataW H} {ps : List MemPlace} (h : DataW.Trod enc Try.prog W base spare held 35 (.slice ao len cap) d ps) :
    len ≤ cap ∧ cap ≤ 9223372036854775807 ∧ ∃ cs : List (Int × Int), ∀ i, i < len → ∃ b off, ao = some ⟨b, off, none⟩ ∧ b < W.heap.size ∧ W.cell? ⟨b, off + i * 2, none⟩ = some (.int .i64 (cs.getD i (0, 0)).1) ∧ W.cell? ⟨b, off + i * 2 + 1, none⟩ = some (.int .i64 (cs.getD i (0, 0)).2) ∧
      -9223372036854775808 ≤ (cs.getD i (0, 0)).1 ∧ (cs.getD i (0, 0)).1 ≤ 9223372036854775807 ∧ -9223372036854775808 ≤ (cs.getD i (0, 0)).2 ∧ (cs.getD i (0, 0)).2 ≤ 9223372036854775807 := by
  obtain ⟨fuel, hf⟩ := h
  rcases open_slice Try.underlying35 hf with ⟨hcs, _⟩ | ⟨a, l, c, m, n, D, Pl, hcs, hb, hl, hm, hmm, hx, hi⟩
  · simp [Value.cells] at hcs
    obtain ⟨rfl, rfl, rfl⟩ := hcs
    exact ⟨Nat.le_refl _, by omega, [], fun i hi => by omega⟩
  · simp [Value.cells] at hcs
    obtain ⟨rfl, rfl, rfl⟩ := hcs
    have hlm : len ≤ m := by rw [hmm]; split <;> omega
    have each : ∀ i, i < len → ∃ tn : Int × Int, W.cell? (a.add (i * 2)) = some (.int .i64 tn.1) ∧ W.cell? (a.add (i * 2 + 1)) = some (.int .i64 tn.2) ∧ (Lit.int .i64 tn.1).wf = true ∧ (Lit.int .i64 tn.2).wf = true := fun i hil => by
      obtain ⟨cs', h1, h2⟩ := hi i (by omega)
      rw [cellsOf37] at h1
      obtain ⟨t, n', rfl, wt, wn⟩ := open_call h2
      obtain ⟨_, _, hc⟩ := World.cells?_some h1
      have c0 := hc 0 (by omega)
      have c1 := hc 1 (by omega)
      rw [add_add] at c0 c1
      exact ⟨(t, n'), by simpa using c0, by simpa using c1, wt, wn⟩
    obtain ⟨f, hf⟩ := choose_lt each
    refine ⟨hl, by simpa [maxLen] using hm, (List.range len).map f, fun i hil => ?_⟩
    obtain ⟨f0, f1, w0, w1⟩ := hf i hil
    have hg : ((List.range len).map f).getD i (0, 0) = f i := by simp [List.getD, hil]
    rw [hg]
    obtain ⟨b, off, spot⟩ := a
    have hspot : spot = none := by
      have := World.cell?_spot (hf 0 (by omega)).1
      simpa [Addr.add] using this
    subst hspot
    rw [Go.WideShapes.add_plain] at f0 f1
    rw [← Nat.add_assoc] at f1
    exact ⟨b, off, rfl, block_lt_of_cell f0, f0, f1, (bounds_i64 w0).1, (bounds_i64 w0).2, (bounds_i64 w1).1, (bounds_i64 w1).2⟩
end

theorem bounds_any (l a m e : Int) (ao : Option Addr) (len cap : Nat) (cs : List (Int × Int)) (w : World) (hlc : len ≤ cap) (hcap : cap ≤ 9223372036854775807)
    (hcell : ∀ i, i < len → ∃ b off, ao = some ⟨b, off, none⟩ ∧ b < w.heap.size ∧ w.cell? ⟨b, off + i * 2, none⟩ = some (.int .i64 (cs.getD i (0, 0)).1) ∧ w.cell? ⟨b, off + i * 2 + 1, none⟩ = some (.int .i64 (cs.getD i (0, 0)).2) ∧
      -9223372036854775808 ≤ (cs.getD i (0, 0)).1 ∧ (cs.getD i (0, 0)).1 ≤ 9223372036854775807 ∧ -9223372036854775808 ≤ (cs.getD i (0, 0)).2 ∧ (cs.getD i (0, 0)).2 ≤ 9223372036854775807) :
    Calls Try.prog 8 #[.agg #[.int .i64 l, .int .i64 a, .int .i64 m, .int .i64 e], .slice ao len cap] w fun x w' => x = .returned (.bool true) ∧ Below w.heap.size w w' := by
  by_cases h60 : 60 < len
  · exact bounds_long l a m e ao len cap w h60 hlc hcap
  · by_cases hr : 1 ≤ m ∧ m ≤ 1000000 ∧ 1 ≤ e ∧ e ≤ 1000000000 ∧ 0 ≤ l ∧ l ≤ m ∧ 0 ≤ a ∧ a ≤ 1000000000
    · obtain ⟨h1, h2, h3, h4, h5, h6, h7, h8⟩ := hr
      exact bounds_walk l a m e ao len cap cs w (by omega) hcell hlc hcap h1 h2 h3 h4 h5 h6 h7 h8
    · exact bounds_not l a m e ao len cap w (by omega) hlc hcap hr
end Go.Proofs.Ytljpcnhkheoiiaa
