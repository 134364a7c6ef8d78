/- store.Refs. -/
import Derived.Test.YtkagjfgjcbanpaaGreatCj
import Derived.Carry

section
namespace Go.Proofs.R29
open Go.ChangeShapes Go.WideShapes Go.ChangeAt Go.RowKit Go.Shelf

theorem allRefs_snoc {rs : List (List Int × List Int)} {k : Nat} {r : List Int × List Int} (h : rs[k]? = some r) : allRefs (rs.take (k + 1)) = allRefs (rs.take k) ++ (r.1 ++ r.2) := by
  obtain ⟨hk, e⟩ := List.getElem?_eq_some_iff.1 h
  rw [List.take_succ_eq_append_getElem hk, e]
  simp [allRefs]

theorem mem_take_succ {xs : List Int} {j : Nat} (h : j < xs.length) (m : Int) : m ∈ xs.take (j + 1) ↔ m = xs[j] ∨ m ∈ xs.take j := by
  rw [List.take_succ_eq_append_getElem h, List.mem_append, List.mem_singleton]
  exact Or.comm

set_option maxRecDepth 100000 in
set_option maxHeartbeats 2000000 in
theorem srefs_ok (v : Value) (es : List (List Value)) (rs : List (List Int × List Int)) (w : World) (h : Evs w v es) (hr : AllRefs w es rs) (hn : (allRefs rs).length ≤ 1000000) :
    Calls Tryz.prog 112 #[v] w (PutPost (ordered (allRefs rs)) w) := by
  obtain ⟨ao, cap, rfl, hl, hcap⟩ := h.form
  have hlen := hr.len
  have H := Lib.hid h
  have Hr := Lib.hid hr
  have Hlen := Lib.hid hlen
  have Hn := Lib.hid hn
  clear h hr hlen hn
  have hmm := @run_makeMap Tryz.prog
  go_enter Tryz.func112, Tryz.ntmps112
  go_wp2_with fail
  have Hs0 := Lib.hid (ownSet_made w)
  have Hb0 := Lib.hid ((Below.refl w.heap.size w).alloc (Nat.le_refl _) (.map #[] 0))
  go_loopw [13] (fun i wr => ∃ k : Nat, k ≤ es.length ∧ i = .int .i64 k ∧ Below w.heap.size w wr ∧ OwnSet wr w.heap.size (allRefs (rs.take k)).length (fun m => m ∈ allRefs (rs.take k))) (fun i _ => es.length - (intOf i).toNat)
  case atStart => exact ⟨0, Nat.zero_le _, rfl, Hb0, OwnSet.congr Hs0 (fun m => by simp [allRefs])⟩
  case round =>
    obtain ⟨k, hk, rfl, q, hs⟩ := hrel
    have Hs := Lib.hid hs
    clear hs
    by_cases hlt : k < es.length
    · obtain ⟨b, o, rfl, hb, hcells, he⟩ := Evs.at_ H hlt
      obtain ⟨r, hrk, pv, av, e8, e9, hp, ha⟩ := AllRefs.at_ Hr (k := k) (c := es[k]) (by simp [hlt])
      have hsn := allRefs_snoc hrk
      have hr2 := rangeAt_on hcells hb q
      have hlc := he.len
      have hone := he.one
      have Hrk := Lib.hid hrk
      clear hcells he hrk
      generalize es[k] = c at *
      obtain ⟨ap, cp, rfl, _, _⟩ := hp.form
      obtain ⟨aa, ca, rfl, _, _⟩ := ha.form
      have Hr2 := Lib.hid hr2
      have Hl := Lib.hid hlc
      have Hone := Lib.hid hone
      have Hp := Lib.hid hp
      have Ha := Lib.hid ha
      have Hsn := Lib.hid hsn
      have k8 : (wr.alloc (.cells c.toArray 78)).cell? ⟨wr.heap.size, 8, none⟩ = some (.slice ap r.1.length cp) := ((Whole.new wr 78 c.toArray).cell 8).trans (by simpa using e8)
      have hw0 := Whole.new wr 78 c.toArray
      have HW0 := Lib.hid hw0
      have hs1 := OwnSet.grown (Hs : OwnSet wr _ _ _) (World.grownBy_alloc wr (.cells c.toArray 78) none) (by simp)
      have Hs1 := Lib.hid hs1
      have q1 := Below.alloc q (Below.size q) (.cells c.toArray 78)
      have hsz := Below.size q
      have hlt0 : w.heap.size < wr.heap.size := OwnSet.lt (Hs : OwnSet wr _ _ _)
      clear hr2 hlc hone hp ha hsn hw0 hs1 Hs Hs0 Hb0
      go_wp2_with (first | ((with_reducible refine list_load78 b (o + k * 29) c Hr2 ?_ ?_ Hl ?_ ?_); all_goals try rfl) | ((with_reducible refine list_copy78 _ _ rfl rfl ?_ ?_ Hl Hone ?_ ?_ ?_); all_goals try rfl))
      have Hs1' := Hs1
      have hgb : w.heap.size < wr.heap.size := hlt0
      have HK9 : Hid (c[9]? = some (.slice aa r.2.length ca)) := e9
      clear k8 e8 e9
      generalize wr.alloc (.cells c.toArray 78) = w1 at *
      generalize wr.heap.size = g at *
      go_loopw [20] (fun i wx => ∃ j : Nat, j ≤ r.1.length ∧ i = .int .i64 j ∧ Below w.heap.size w wx ∧ OwnSet wx w.heap.size ((allRefs (rs.take k)).length + j) (fun m => m ∈ allRefs (rs.take k) ∨ m ∈ r.1.take j) ∧ Whole wx g 78 c.toArray) (fun i _ => r.1.length - (intOf i).toNat)
      case atStart => exact ⟨0, Nat.zero_le _, by go_num, q1, OwnSet.congr Hs1 (fun m => by simp), HW0⟩
      case round =>
        obtain ⟨j, hj, rfl, q2, hs2, hW⟩ := hrel
        have Hs2 := Lib.hid hs2
        have HW := Lib.hid hW
        clear hs2 hW Hs1 Hs1' HW0
        by_cases hlt2 : j < r.1.length
        · obtain ⟨bp, op, e, hbp, hc⟩ := Ints.at_ Hp hlt2
          have hcj := hc wr q2
          have hmt := mem_take_succ hlt2
          have Hmt := Lib.hid hmt
          subst e
          clear hc hmt
          generalize r.1[j] = x at *
          go_wp2_with (at_mapUpdate; go_loud (refine wpList_update_int rfl _ _ _ 84 3 4 rfl Tryz.underlying84 Tryz.underlying3 w.heap.size _ _ Hs2 rfl x rfl ?_))
          intro w2 hs3 hg2
          have q3 := below_grown q2 hg2 (Below.size q2) (Nat.le_refl _)
          have Hs3 := Lib.hid (OwnSet.congr hs3 (S' := fun m => m ∈ allRefs (rs.take k) ∨ m ∈ r.1.take (j + 1)) (fun m => by
            rw [(Hmt : ∀ m, _ ↔ _) m]
            constructor
            · rintro (q | q | q)
              · exact .inr (.inl q)
              · exact .inl q
              · exact .inr (.inr q)
            · rintro (q | q | q)
              · exact .inr (.inl q)
              · exact .inl q
              · exact .inr (.inr q)))
          have HW3 := Lib.hid (Whole.off HW hg2 (fun e => by cases e; omega))
          clear hs3 hg2 Hs2 HW
          go_wp2_with fail
          go_roundw
          case rel => exact ⟨j + 1, by omega, by go_num, q3, Hs3, HW3⟩
          case measure => first | (simp [intOf]; done) | (simp [intOf]; omega)
        · have hj1 : j = r.1.length := by omega
          subst hj1
          have k9 : wr.cell? ⟨g, 9, none⟩ = some (.slice aa r.2.length ca) := (Whole.cell HW 9).trans (by have h : c[9]? = some (.slice aa r.2.length ca) := HK9; simpa using h)
          have Hs4 : Hid (OwnSet wr w.heap.size ((allRefs (rs.take k)).length + r.1.length + 0) (fun m => (m ∈ allRefs (rs.take k) ∨ m ∈ r.1) ∨ m ∈ r.2.take 0)) := OwnSet.congr Hs2 (fun m => by rw [List.take_length]; simp)
          clear Hs2
          go_wp2_with fail
          generalize wr = w1' at *
          go_loopw [30] (fun i wx => ∃ j : Nat, j ≤ r.2.length ∧ i = .int .i64 j ∧ Below w.heap.size w wx ∧ OwnSet wx w.heap.size ((allRefs (rs.take k)).length + r.1.length + j) (fun m => (m ∈ allRefs (rs.take k) ∨ m ∈ r.1) ∨ m ∈ r.2.take j)) (fun i _ => r.2.length - (intOf i).toNat)
          case atStart => exact ⟨0, Nat.zero_le _, by go_num, q2, Hs4⟩
          case round =>
            obtain ⟨j2, hj2, rfl, q5, hs5⟩ := hrel
            have Hs5 := Lib.hid hs5
            clear hs5 k9 Hs4
            by_cases hlt3 : j2 < r.2.length
            · obtain ⟨bq, oq, e, hbq, hc⟩ := Ints.at_ Ha hlt3
              have hcj := hc wr q5
              have hmt := mem_take_succ hlt3
              have Hmt := Lib.hid hmt
              subst e
              clear hc hmt
              generalize r.2[j2] = x at *
              go_wp2_with (at_mapUpdate; go_loud (refine wpList_update_int rfl _ _ _ 84 3 4 rfl Tryz.underlying84 Tryz.underlying3 w.heap.size _ _ Hs5 rfl x rfl ?_))
              intro w2 hs3 hg2
              have q3 := below_grown q5 hg2 (Below.size q5) (Nat.le_refl _)
              have Hs3 := Lib.hid (OwnSet.congr hs3 (S' := fun m => (m ∈ allRefs (rs.take k) ∨ m ∈ r.1) ∨ m ∈ r.2.take (j2 + 1)) (fun m => by
                rw [(Hmt : ∀ m, _ ↔ _) m]
                constructor
                · rintro (q | q | q)
                  · exact .inr (.inl q)
                  · exact .inl q
                  · exact .inr (.inr q)
                · rintro (q | q | q)
                  · exact .inr (.inl q)
                  · exact .inl q
                  · exact .inr (.inr q)))
              clear hs3 hg2 Hs5
              go_wp2_with fail
              go_roundw
              case rel => exact ⟨j2 + 1, by omega, by go_num, q3, Hs3⟩
              case measure => first | (simp [intOf]; done) | (simp [intOf]; omega)
            · have hj3 : j2 = r.2.length := by omega
              subst hj3
              have Hend : Hid (OwnSet wr w.heap.size (allRefs (rs.take (k + 1))).length (fun m => m ∈ allRefs (rs.take (k + 1)))) := by
                have e : allRefs (rs.take (k + 1)) = allRefs (rs.take k) ++ (r.1 ++ r.2) := Hsn
                rw [e]
                refine OwnSet.mono (OwnSet.congr Hs5 fun m => ?_) (by simp only [List.length_append]; omega)
                rw [List.take_length, List.mem_append, List.mem_append, or_assoc]
              clear Hs5
              go_wp2_with fail
              go_roundw
              case rel => exact ⟨k + 1, by omega, by go_num, q5, Hend⟩
              case measure => first | (simp [intOf]; done) | (simp [intOf]; omega)
    · have hkl : k = es.length := by omega
      subst hkl
      have e : rs.take es.length = rs := List.take_of_length_le (Nat.le_of_eq Hlen)
      have hcall := sorted_set w.heap.size _ _ (allRefs rs) wr Hs (by rw [e]; exact Hn) (fun m => by rw [e])
      have Hcall := Lib.hid hcall
      clear hcall e
      go_wp2_with fail
      refine Calls.mono Hcall ?_
      rintro x w2 ⟨g2, o2, c2, rfl, hI2, q2⟩
      have HI2 := Lib.hid hI2
      have q3 := Below.trans q (q2.mono (Below.size q))
      clear hI2 Hcall
      go_wp2_with fail
      go_ret
      exact ⟨g2, o2, c2, rfl, HI2, q3⟩
end Go.Proofs.R29
end

/- store.Missing. -/
section
namespace Go.Proofs.R29
open Go.ChangeShapes Go.WideShapes Go.ChangeAt Go.RowKit Go.Shelf

theorem run_makeMap_hint (n : Nat) (w : World) : (Instr.makeMap 84 (some (.int .i64 n))).run Tryz.prog w = .ok (.map (some w.heap.size)) (w.alloc (.map #[] 0)) := by
  simp only [Instr.makeMap, Sem.run_bind, Go.Abs.run_under Tryz.underlying84, Result.andThen_ok]
  rfl

theorem list_delete84 {ops : Array Oper} {rest : List Oper} {a : Act} {w : World} {Q : Exit → Act → World → Prop} {dst : Option Tmp} {m x : Operand} {ty : TypeId} {ps : String} {af : Array Edge}
    (b n : Nat) (S : Int → Prop) (hown : Hid (OwnSet w b n S)) (z : Int) (hm : a.eval m = .map (some b)) (hx : a.eval x = .int .i64 z)
    (hK : ∀ w', OwnSet w' b n (fun y => S y ∧ y ≠ z) → w.grownBy w' (some b) → wpList Tryz.prog ops Q rest (a.put dst (.tuple #[])) w') :
    wpList Tryz.prog ops Q ({ dst := dst, op := .call { callee := .builtin .delete, args := #[m, x], argTypes := #[84, 3] }, type := ty, pos := ps, after := af, guard := none } :: rest) a w :=
  wpList_delete_int rfl m x 84 3 3 4 rfl Tryz.underlying84 Tryz.underlying3 b n S hown hm z hx hK

theorem mem_map_take {es : List (List Value)} {k : Nat} (h : k < es.length) (m : Int) : m ∈ (es.take (k + 1)).map idOf ↔ m = idOf es[k] ∨ m ∈ (es.take k).map idOf := by
  rw [List.take_succ_eq_append_getElem h, List.map_append, List.mem_append, List.map_singleton, List.mem_singleton]
  exact Or.comm

set_option maxRecDepth 100000 in
set_option maxHeartbeats 2000000 in
theorem smiss_of (v u : Value) (es : List (List Value)) (xs L : List Int) (w : World) (h1 : Evs w v es) (h2 : Ints w u xs) (hn : xs.length ≤ 1000000) (hL : ∀ m, m ∈ xs ∧ m ∉ es.map idOf ↔ m ∈ L) :
    Calls Tryz.prog 113 #[v, u] w (PutPost (ordered L) w) := by
  have HL := Lib.hid hL
  clear hL
  obtain ⟨ax, cx, rfl, _, _⟩ := h2.form
  obtain ⟨ao, cap, rfl, hl, hcap⟩ := h1.form
  have H := Lib.hid h1
  have Hx := Lib.hid h2
  have Hn := Lib.hid hn
  have hmm := run_makeMap_hint xs.length w
  clear h1 h2 hn
  go_enter Tryz.func113, Tryz.ntmps113
  go_wp2_with fail
  have Hs0 := Lib.hid (ownSet_made w)
  have Hb0 := Lib.hid ((Below.refl w.heap.size w).alloc (Nat.le_refl _) (.map #[] 0))
  go_loopw [15] (fun i wr => ∃ k : Nat, k ≤ xs.length ∧ i = .int .i64 k ∧ Below w.heap.size w wr ∧ OwnSet wr w.heap.size k (fun m => m ∈ xs.take k)) (fun i _ => xs.length - (intOf i).toNat)
  case atStart => exact ⟨0, Nat.zero_le _, rfl, Hb0, OwnSet.congr Hs0 (fun m => by simp)⟩
  case round =>
    obtain ⟨k, hk, rfl, q, hs⟩ := hrel
    have Hs := Lib.hid hs
    clear hs Hs0 Hb0 hmm
    by_cases hlt : k < xs.length
    · obtain ⟨bp, op, e, hbp, hc⟩ := Ints.at_ Hx hlt
      have hcj := hc wr q
      have hmt := mem_take_succ hlt
      have Hmt := Lib.hid hmt
      subst e
      clear hc hmt
      generalize xs[k] = x at *
      go_wp2_with (at_mapUpdate; go_loud (refine wpList_update_int rfl _ _ _ 84 3 4 rfl Tryz.underlying84 Tryz.underlying3 w.heap.size _ _ Hs rfl x rfl ?_))
      intro w2 hs3 hg2
      have q3 := below_grown q hg2 (Below.size q) (Nat.le_refl _)
      have Hs3 := Lib.hid (OwnSet.congr hs3 (S' := fun m => m ∈ xs.take (k + 1)) (fun m => by rw [(Hmt : ∀ m, _ ↔ _) m]))
      clear hs3 hg2 Hs
      go_wp2_with fail
      go_roundw
      case rel => exact ⟨k + 1, by omega, by go_num, q3, Hs3⟩
      case measure => first | (simp [intOf]; done) | (simp [intOf]; omega)
    · have hkl : k = xs.length := by omega
      subst hkl
      have Hs4 : Hid (OwnSet wr w.heap.size xs.length (fun m => m ∈ xs ∧ m ∉ (es.take 0).map idOf)) := OwnSet.congr Hs (fun m => by rw [List.take_length]; simp)
      clear Hs
      go_wp2_with fail
      generalize wr = w1' at *
      go_loopw [24] (fun i wx => ∃ j : Nat, j ≤ es.length ∧ i = .int .i64 j ∧ Below w.heap.size w wx ∧ OwnSet wx w.heap.size xs.length (fun m => m ∈ xs ∧ m ∉ (es.take j).map idOf)) (fun i _ => es.length - (intOf i).toNat)
      case atStart => exact ⟨0, Nat.zero_le _, by go_num, q, Hs4⟩
      case round =>
        obtain ⟨j, hj, rfl, q2, hs5⟩ := hrel
        have Hs5 := Lib.hid hs5
        clear hs5 Hs4
        by_cases hlt2 : j < es.length
        · obtain ⟨b, o, e, hb, hcells, he⟩ := Evs.at_ H hlt2
          subst e
          have hr2 := rangeAt_on hcells hb q2
          have hlc := he.len
          have hone := he.one
          have e0 := he.id0
          have hmt := mem_map_take hlt2
          have Hmt := Lib.hid hmt
          clear hcells he hmt
          generalize es[j] = c at *
          have Hr2 := Lib.hid hr2
          have Hl := Lib.hid hlc
          have Hone := Lib.hid hone
          have k0 : (wr.alloc (.cells c.toArray 78)).cell? ⟨wr.heap.size, 0, none⟩ = some (.int .i64 (idOf c)) := ((Whole.new wr 78 c.toArray).cell 0).trans (by simpa using e0)
          have hs1 := OwnSet.grown (Hs5 : OwnSet wr _ _ _) (World.grownBy_alloc wr (.cells c.toArray 78) none) (by simp)
          have Hs1 := Lib.hid hs1
          have q1 := Below.alloc q2 (Below.size q2) (.cells c.toArray 78)
          clear hr2 hlc hone hs1 Hs5
          go_wp2_with (first | ((with_reducible refine list_load78 b (o + j * 29) c Hr2 ?_ ?_ Hl ?_ ?_); all_goals try rfl) | ((with_reducible refine list_copy78 _ _ rfl rfl ?_ ?_ Hl Hone ?_ ?_ ?_); all_goals try rfl) | ((with_reducible refine list_delete84 w.heap.size _ _ Hs1 (idOf c) ?_ ?_ ?_); all_goals try rfl))
          intro w2 hs3 hg2
          have q3 := below_grown q1 hg2 (Below.size q1) (Nat.le_refl _)
          have Hs3 := Lib.hid (OwnSet.congr hs3 (S' := fun m => m ∈ xs ∧ m ∉ (es.take (j + 1)).map idOf) (fun m => by
            rw [(Hmt : ∀ m, _ ↔ _) m, not_or, and_assoc]
            exact and_congr_right fun _ => And.comm))
          clear hs3 hg2 Hs1
          go_wp2_with fail
          go_roundw
          case rel => exact ⟨j + 1, by omega, by go_num, q3, Hs3⟩
          case measure => first | (simp [intOf]; done) | (simp [intOf]; omega)
        · have hkl : j = es.length := by omega
          subst hkl
          have hcall := sorted_set w.heap.size _ _ L wr Hs5 Hn (fun m => by rw [List.take_length]; exact (HL : ∀ m, _ ↔ _) m)
          have Hcall := Lib.hid hcall
          clear hcall
          go_wp2_with fail
          refine Calls.mono Hcall ?_
          rintro x w2 ⟨g2, o2, c2, rfl, hI2, q3⟩
          have HI2 := Lib.hid hI2
          have q4 := Below.trans q2 (q3.mono (Below.size q2))
          clear hI2 Hcall
          go_wp2_with fail
          go_ret
          exact ⟨g2, o2, c2, rfl, HI2, q4⟩

/-- The references that no event bears. -/
def lackOf (es : List (List Value)) (xs : List Int) : List Int := xs.filter fun n => decide (n ∉ es.map idOf)

theorem smiss_ok (v u : Value) (es : List (List Value)) (xs : List Int) (w : World) (h1 : Evs w v es) (h2 : Ints w u xs) (hn : xs.length ≤ 1000000) :
    Calls Tryz.prog 113 #[v, u] w (PutPost (ordered (lackOf es xs)) w) :=
  smiss_of v u es xs _ w h1 h2 hn fun m => by unfold lackOf; rw [List.mem_filter, decide_eq_true_iff]
end Go.Proofs.R29
end
