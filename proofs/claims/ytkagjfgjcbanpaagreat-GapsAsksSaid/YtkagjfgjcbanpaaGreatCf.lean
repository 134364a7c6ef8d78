/- The library's clone and compact at []int, where they stand in this program. -/
import Derived.Shelf.Slices.Clone
import Derived.Shelf.Slices.CompactI
import Derived.Test.YtkagjfgjcbanpaaGreatProg
import Derived.KernelRfl
import Derived.Test.YtkagjfgjcbanpaaGreatBl
import Derived.Test.YtkagjfgjcbanpaaGreatCe
import Derived.Lib.OwnBridge
import Derived.Shelf.Slices.In.SortNone
import Derived.Laws.AppendOwn

section
namespace Go.Proofs
open Go.Shelf Go.RowKit

def clRen : Ren := ⟨renPairs [(15, 162)], renPairs [(0, 0), (3, 3), (4, 4), (22, 24)], fun n => n⟩
def coRen : Ren := ⟨renPairs [(20, 136)], renPairs [(0, 0), (3, 3), (4, 4), (22, 24)], fun n => n⟩

theorem cloneLays : Lays2.n15 Tryz.prog clRen := by
  constructor <;> first | kernel_rfl | (intro _; kernel_rfl)

theorem compactLays : Lays2.n20 Tryz.prog coRen := by
  constructor <;> first | kernel_rfl | (intro _; kernel_rfl)

end Go.Proofs
end

/- num.Sorted: a list, sorted, each once. -/
section
namespace Go.Proofs.R29
open Go.ChangeShapes Go.WideShapes Go.ChangeAt Go.RowKit Go.Shelf

abbrev msort (xs : List Int) : List Int := xs.mergeSort fun x y => decide (x ≤ y)
/-- In order, each once. -/
abbrev ordered (xs : List Int) : List Int := Lib.compact (msort xs)

theorem grown_putRow {w : World} {g q : Nat} (d : Array Int) : w.grownBy (Sort.putRow (Value.int .i64) (Sort.ahead w q) g 0 d) (some g) := by
  refine ⟨rfl, rfl, rfl, by simp [Sort.putRow, Sort.mapBlock, Sort.ahead], fun k _ hne => ?_⟩
  have : g ≠ k := fun e => hne (by rw [e])
  simp [Sort.putRow, Sort.mapBlock, Sort.ahead, Array.getElem?_modify, this]

theorem sort_own {base g n cap : Nat} {xs : List Int} {w : World} (h : w.ownsRow base 3 1 (.slice (some ⟨g, 0, none⟩) n cap) n (xs.map (Value.int .i64))) (hn : n ≤ 1000000) :
    Calls Tryz.prog 135 #[.slice (some ⟨g, 0, none⟩) n cap] w fun e w' => e = .returned (.tuple #[]) ∧ w'.ownsRow base 3 1 (.slice (some ⟨g, 0, none⟩) n cap) n ((msort xs).map (Value.int .i64)) ∧ w.grownBy w' (some g) := by
  obtain ⟨g', cap', e, hb, hlt, hnc, hcm, hl, hH⟩ := Lib.holds_of_ownsRow h (by simp)
  cases e
  subst hl
  have hl2 : (msort xs).length = xs.length := List.length_mergeSort xs
  refine (sort_run g 0 cap xs w hH hlt (by omega)).mono ?_
  rintro e w' ⟨rfl, nn, os, rfl⟩
  rcases h.2 with ⟨h0, _⟩ | ⟨g', cap', cur, hv, hbase, hbk, h1, h2, h3, h4⟩
  · cases h0
  · cases hv
    exact ⟨rfl, ownsRow_sortedI (n := nn) (os := os) (ts := msort xs) hl2 hbase hbk h1 h2 h3, grownBy_sortedI _⟩

theorem compact_own {base g n cap : Nat} {xs : List Int} {w : World} (h : w.ownsRow base 3 1 (.slice (some ⟨g, 0, none⟩) n cap) n (xs.map (Value.int .i64))) (hn : n ≤ 1000000) :
    Calls Tryz.prog 136 #[.slice (some ⟨g, 0, none⟩) n cap] w fun e w' => e = .returned (.slice (some ⟨g, 0, none⟩) (Lib.compact xs).length cap) ∧
      w'.ownsRow base 3 1 (.slice (some ⟨g, 0, none⟩) (Lib.compact xs).length cap) (Lib.compact xs).length ((Lib.compact xs).map (Value.int .i64)) ∧ w.grownBy w' (some g) := by
  obtain ⟨g', cap', e, hb, hlt, hnc, hcm, hl, hH⟩ := Lib.holds_of_ownsRow h (by simp)
  cases e
  subst hl
  have hle := Lib.compact_length_le xs
  refine (Any.slices_Compact_int compactLays g 0 cap xs w hH (by omega) hnc).mono ?_
  rintro e w' ⟨rfl, q, rfl⟩
  have hc := Lib.ownsRow_putRow (q := q) (k := (Lib.compact xs).length) (ys := Lib.compact xs ++ List.replicate (xs.length - (Lib.compact xs).length) 0) h (by simp; omega) hle
  rw [List.take_left] at hc
  exact ⟨rfl, hc, grown_putRow _⟩

/-- What an own row shows. -/
theorem ints_of_own {base g n cap : Nat} {xs : List Int} {w : World} (h : w.ownsRow base 3 1 (.slice (some ⟨g, 0, none⟩) n cap) n (xs.map (Value.int .i64))) : Ints w (.slice (some ⟨g, 0, none⟩) n cap) xs := by
  have hl : xs.length = n := by simpa using h.1
  subst hl
  rcases h.2 with ⟨h0, _⟩ | ⟨g', cap', cur, hv, hbase, hbk, h1, h2, h3, h4⟩
  · cases h0
  · cases hv
    refine ⟨_, _, rfl, h1, Nat.le_trans h2 (by unfold maxLen; omega), by simp, fun _ => ⟨g, 0, rfl, (Array.getElem?_eq_some_iff.1 hbk).1, fun j u hu => ?_⟩⟩
    rw [Go.Abs.cell_of_heap hbk, Nat.zero_add]
    rw [← h4, List.getElem?_take] at hu
    split at hu
    · simpa using hu
    · cases hu

def SortPost (xs : List Int) (w : World) (x : Ending) (w' : World) : Prop := ∃ v', x = .returned v' ∧ Ints w' v' (ordered xs) ∧ Below w.heap.size w w'

set_option maxRecDepth 100000 in
set_option maxHeartbeats 1000000 in
/-- num.Sorted of a row that a call owns or of any other: here of a list that is not empty. -/
theorem numSorted_ok (ao : Option Addr) (n cap : Nat) (xs : List Int) (w : World) (h : Ints w (.slice ao n cap) xs) (hn : xs.length ≤ 1000000) (hpos : 0 < xs.length) :
    Calls Tryz.prog 129 #[.slice ao n cap] w (SortPost xs w) := by
  obtain ⟨b, off, rfl, hb, hc⟩ := h.at_ hpos
  have hnl : n = xs.length := by
    obtain ⟨_, _, e, _⟩ := h
    cases e
    rfl
  subst hnl
  have hcell : ∀ j, j < xs.length → w.cell? ⟨b, off + j, none⟩ = some (.int .i64 (xs.getD j 0)) := fun j hj => by
    obtain ⟨b', off', e, _, hc'⟩ := h.at_ hj
    cases e
    rw [hc' w (Below.refl _ _)]
    simp [hj]
  have hclone := Any.slices_Clone_int cloneLays b off xs.length cap xs w (Nat.le_refl _) (by omega) hcell
  have Hcl : Calls Tryz.prog 162 #[.slice (some ⟨b, off, none⟩) xs.length cap] w fun e w' => ∃ v', e = .returned v' ∧ w'.ownsRow w.heap.size 3 1 v' xs.length ((xs.take xs.length).map (Value.int .i64)) ∧ v' ≠ .slice none 0 0 ∧ Below w.heap.size w w' := hclone
  clear h hc hcell hclone
  go_enter Tryz.func129, Tryz.ntmps129
  go_wp2_with fail
  refine Hcl.mono ?_
  rintro e w1 ⟨v1, rfl, hown, hne, q1⟩
  rw [List.take_length] at hown
  obtain ⟨g, cap1, rfl, hg, _⟩ := Lib.holds_of_ownsRow hown hne
  have Hown := Lib.hid hown
  clear hown hne
  go_wp2_with fail
  refine (sort_own Hown hn).mono ?_
  rintro e w2 ⟨rfl, hown2, hg2⟩
  have q2 : Below w.heap.size w w2 := q1.grown hg2 q1.size (fun j hj => by cases hj; exact hg)
  have Hown2 := Lib.hid hown2
  clear hown2 hg2 q1 Hown
  go_wp2_with fail
  refine (compact_own Hown2 hn).mono ?_
  rintro e w3 ⟨rfl, hown3, hg3⟩
  have q3 : Below w.heap.size w w3 := q2.grown hg3 q2.size (fun j hj => by cases hj; exact hg)
  have Hown3 := Lib.hid hown3
  clear hown3 hg3 q2 Hown2
  go_wp2_with fail
  go_ret
  exact ⟨_, rfl, ints_of_own Hown3, q3⟩

end Go.Proofs.R29
end

/- num.Sorted of an empty list; num.Union. -/
section
namespace Go.Proofs.R29
open Go.ChangeShapes Go.WideShapes Go.ChangeAt Go.RowKit Go.Shelf

theorem ordered_nil : ordered [] = [] := by
  have h := Lib.compact_length_le (msort [])
  have h2 : (msort []).length = 0 := by rw [List.length_mergeSort]; rfl
  exact List.eq_nil_of_length_eq_zero (Nat.le_zero.1 (Nat.le_trans h (Nat.le_of_eq h2)))

set_option maxRecDepth 100000 in
set_option maxHeartbeats 1000000 in
theorem numSorted_empty (ao : Option Addr) (cap : Nat) (w : World) : Calls Tryz.prog 129 #[.slice ao 0 cap] w (SortPost [] w) := by
  cases ao with
  | none =>
    have Hcl : Calls Tryz.prog 162 #[.slice none 0 cap] w fun e w' => e = .returned (.slice none 0 0) ∧ w' = w := Any.slices_Clone_int_nil cloneLays 0 cap w
    have Hso : Calls Tryz.prog 135 #[.slice none 0 0] w _ := Any.slices_Sort_int_none sortLays none 0 w
    have Hco : Calls Tryz.prog 136 #[.slice none 0 0] w _ := Any.slices_Compact_int_empty compactLays none 0 w
    go_enter Tryz.func129, Tryz.ntmps129
    go_wp2_with fail
    refine Hcl.mono ?_
    rintro e w1 ⟨rfl, rfl⟩
    go_wp2_with fail
    refine Hso.mono ?_
    rintro e w2 ⟨rfl, rfl⟩
    go_wp2_with fail
    refine Hco.mono ?_
    rintro e w3 ⟨rfl, rfl⟩
    go_wp2_with fail
    go_ret
    refine ⟨_, rfl, ?_, Below.refl _ _⟩
    rw [ordered_nil]
    exact Row.nil
  | some a =>
    have Hcl : Calls Tryz.prog 162 #[.slice (some a) 0 cap] w fun e w' => ∃ v', e = .returned v' ∧ w'.ownsRow w.heap.size 3 1 v' 0 [] ∧ v' ≠ .slice none 0 0 ∧ Below w.heap.size w w' := Any.slices_Clone_int_zero cloneLays a cap w
    obtain ⟨xs, hxs⟩ : ∃ xs : List Int, xs = [] := ⟨_, rfl⟩
    rw [← hxs]
    have Hxs := Lib.hid hxs
    clear hxs
    go_enter Tryz.func129, Tryz.ntmps129
    go_wp2_with fail
    refine Hcl.mono ?_
    rintro e w1 ⟨v1, rfl, hown0, hne, q1⟩
    have hown : w1.ownsRow w.heap.size 3 1 v1 0 (xs.map (Value.int .i64)) := by rw [(Hxs : xs = [])]; exact hown0
    obtain ⟨g, cap1, rfl, hg, _⟩ := Lib.holds_of_ownsRow hown hne
    have Hown := Lib.hid hown
    clear hown hne hown0
    go_wp2_with fail
    refine (sort_own Hown (by omega)).mono ?_
    rintro e w2 ⟨rfl, hown2, hg2⟩
    have q2 : Below w.heap.size w w2 := q1.grown hg2 q1.size (fun j hj => by cases hj; exact hg)
    have Hown2 := Lib.hid hown2
    clear hown2 hg2 q1 Hown
    go_wp2_with fail
    refine (compact_own Hown2 (by omega)).mono ?_
    rintro e w3 ⟨rfl, hown3, hg3⟩
    have q3 : Below w.heap.size w w3 := q2.grown hg3 q2.size (fun j hj => by cases hj; exact hg)
    have Hown3 := Lib.hid hown3
    clear hown3 hg3 q2 Hown2
    go_wp2_with fail
    go_ret
    exact ⟨_, rfl, ints_of_own Hown3, q3⟩

theorem numSorted_any (v : Value) (xs : List Int) (w : World) (h : Ints w v xs) (hn : xs.length ≤ 1000000) : Calls Tryz.prog 129 #[v] w (SortPost xs w) := by
  obtain ⟨ao, cap, rfl, _, _⟩ := h.form
  rcases Nat.eq_zero_or_pos xs.length with h0 | h0
  · have : xs = [] := List.eq_nil_of_length_eq_zero h0
    subst this
    exact numSorted_empty ao cap w
  · exact numSorted_ok ao xs.length cap xs w h hn h0

end Go.Proofs.R29
end

/- num.Union. -/
section
namespace Go.Proofs.R29
open Go.ChangeShapes Go.WideShapes Go.ChangeAt Go.RowKit Go.Shelf

def ClonePost (xs : List Int) (w : World) (x : Ending) (w' : World) : Prop := ∃ v', x = .returned v' ∧ w'.ownsRow w.heap.size 3 1 v' xs.length (xs.map (Value.int .i64)) ∧ Below w.heap.size w w'

theorem clone_any (v : Value) (xs : List Int) (w : World) (h : Ints w v xs) (hn : xs.length ≤ 1000000) : Calls Tryz.prog 162 #[v] w (ClonePost xs w) := by
  obtain ⟨ao, cap, rfl, _, _⟩ := h.form
  cases ao with
  | none =>
    have h0 : xs.length = 0 := by
      rcases Nat.eq_zero_or_pos xs.length with h0 | h0
      · exact h0
      · obtain ⟨b, off, e, _⟩ := h.at_ h0
        cases e
    have e0 : xs = [] := List.eq_nil_of_length_eq_zero h0
    subst e0
    refine (Any.slices_Clone_int_nil cloneLays 0 cap w).mono ?_
    rintro e w' ⟨rfl, rfl⟩
    exact ⟨_, rfl, ⟨rfl, .inl ⟨rfl, rfl⟩⟩, Below.refl _ _⟩
  | some a =>
    rcases Nat.eq_zero_or_pos xs.length with h0 | h0
    · have e0 : xs = [] := List.eq_nil_of_length_eq_zero h0
      subst e0
      refine (Any.slices_Clone_int_zero cloneLays a cap w).mono ?_
      rintro e w' ⟨v', rfl, h1, _, h3⟩
      exact ⟨_, rfl, h1, h3⟩
    · obtain ⟨b, off, e, hb, hc⟩ := h.at_ h0
      cases e
      have hcell : ∀ j, j < xs.length → w.cell? ⟨b, off + j, none⟩ = some (.int .i64 (xs.getD j 0)) := fun j hj => by
        obtain ⟨b', off', e, _, hc'⟩ := h.at_ hj
        cases e
        rw [hc' w (Below.refl _ _)]
        simp [hj]
      refine (Any.slices_Clone_int cloneLays b off xs.length cap xs w (Nat.le_refl _) (by omega) hcell).mono ?_
      rintro e w' ⟨v', rfl, h1, _, h3⟩
      rw [List.take_length] at h1
      exact ⟨_, rfl, h1, h3⟩

/-- What an own row shows, nil too. -/
theorem ints_of_own' {base n : Nat} {v : Value} {xs : List Int} {w : World} (h : w.ownsRow base 3 1 v n (xs.map (Value.int .i64))) : Ints w v xs := by
  rcases h.2 with ⟨rfl, h0⟩ | ⟨g', cap', cur, rfl, hbase, hbk, h1, h2, h3, h4⟩
  · have hl : xs.length = n := by simpa using h.1
    have : xs = [] := List.eq_nil_of_length_eq_zero (by omega)
    subst this
    exact Row.nil
  · exact ints_of_own (base := base) (g := g') (cap := cap') (n := n) h

set_option maxRecDepth 100000 in
set_option maxHeartbeats 1000000 in
theorem union_ok (v : Value) (xs : List Int) (b2 o2 n2 c2 : Nat) (ys : List Int) (w : World) (h1 : Ints w v xs) (h2 : Ints w (.slice (some ⟨b2, o2, none⟩) n2 c2) ys) (hn1 : xs.length ≤ 500000) (hn2 : ys.length ≤ 500000) :
    Calls Tryz.prog 111 #[v, .slice (some ⟨b2, o2, none⟩) n2 c2] w (SortPost (xs ++ ys) w) := by
  obtain ⟨i0, hi, hz0, hz1, hz2⟩ := info_parts Tryz.info3'
  have hcl := clone_any v xs w h1 (by omega)
  have hnl : n2 = ys.length := by
    obtain ⟨_, _, e, _⟩ := h2
    cases e
    rfl
  subst hnl
  have Hcl := Lib.hid hcl
  have H2 := Lib.hid h2
  clear hcl h1 h2
  go_enter Tryz.func111, Tryz.ntmps111
  go_wp2_with fail
  refine Calls.mono Hcl ?_
  rintro e w1 ⟨v1, rfl, hown, q1⟩
  have hnews : ∀ j u, (ys.map (Value.int .i64))[j]? = some u → w1.cell? ((⟨b2, o2, none⟩ : Addr).add j) = some u := fun j u hu => by
    have hj : j < ys.length := by have := (List.getElem?_eq_some_iff.1 hu).1; simpa using this
    obtain ⟨b', off', e, _, hc'⟩ := Ints.at_ H2 hj
    cases e
    rw [Addr.add_lit, hc' w1 q1]
    simpa [hj] using hu
  have Hown := Lib.hid hown
  have Hnews := Lib.hid hnews
  clear hown hnews
  go_wp2_with (at_builtin; go_loud (refine wpList_append_own w1 rfl _ _ 24 rfl w.heap.size 3 i0 (.int .i64 0) 1 8 Tryz.underlying24 hi hz0 hz1 hz2 rfl (by omega) v1 xs.length _ rfl Hown ⟨b2, o2, none⟩ ys.length c2 (ys.map (Value.int .i64)) rfl (by simp) Hnews (fun u hu => by obtain ⟨_, _, rfl⟩ := List.mem_map.1 hu; rfl) (by unfold maxLen; omega) (by omega) q1.size ?_))
  intro v2 w2 hown2 hg2 _
  have hob : ∀ k, v1.ownBlock = some k → w.heap.size ≤ k := fun k hk => by
    have h : w1.ownsRow w.heap.size 3 1 v1 xs.length (xs.map (Value.int .i64)) := Hown
    rcases h.2 with ⟨rfl, _⟩ | ⟨g, cap, cur, rfl, hbase, _⟩
    · cases hk
    · cases hk; exact hbase
  have q2 : Below w.heap.size w w2 := q1.grown hg2 q1.size hob
  have hI : Ints w2 v2 (xs ++ ys) := by
    have e : xs.map (Value.int .i64) ++ ys.map (Value.int .i64) = (xs ++ ys).map (Value.int .i64) := (List.map_append).symm
    rw [e] at hown2
    exact ints_of_own' hown2
  have HI := Lib.hid hI
  clear hown2 hg2 hob Hown Hnews H2 Hcl hI
  go_wp2_with fail
  refine (numSorted_any v2 (xs ++ ys) w2 HI (by rw [List.length_append]; omega)).mono ?_
  rintro e w3 ⟨v3, rfl, h3, q3⟩
  have H3 := Lib.hid h3
  clear h3
  go_wp2_with fail
  go_ret
  exact ⟨_, rfl, H3, q2.trans (q3.mono q2.size)⟩

end Go.Proofs.R29
end
