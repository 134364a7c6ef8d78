/- Where the library's sort stands in this program. -/
import Derived.Shelf.Sort.Plain
import Derived.Test.YtojknjmcmadhcaaGreatDoorProg
import Derived.KernelRfl
import Derived.Test.YtojknjmcmadhcaaGreatDoorAh
import Derived.Maps.RangeWalk
import Derived.OwnWalk
import Derived.WalkKit
import Derived.ProofKit
import Derived.LoopTactic
import Derived.Handy
import Derived.Below
import Derived.Sort.OwnSortedInts

section
namespace Go.Proofs
open Go.Shelf

def renPairs : List (Nat × Nat) → Nat → Nat
  | [], n => n
  | p :: r, n => bif Nat.beq p.1 n then p.2 else renPairs r n

def sortRen : Ren := ⟨renPairs [(125, 138), (128, 229), (129, 230), (189, 417), (215, 616), (216, 514), (257, 517), (294, 617), (295, 618), (296, 619), (297, 620), (298, 621), (299, 622), (300, 623), (301, 624), (328, 672), (329, 339), (330, 340), (331, 673), (332, 674), (343, 695)], renPairs [(0, 0), (3, 3), (4, 4), (5, 5), (9, 9), (28, 119), (46, 173), (51, 233), (53, 76), (131, 52), (182, 329), (183, 330), (218, 458), (222, 462), (228, 588), (229, 394)], fun n => n⟩

theorem sortLays : Lays.n189 Tryz.prog sortRen := by
  constructor <;> first | kernel_rfl | (intro _; kernel_rfl)

theorem sort_run (blk off cap : Nat) (zs : List Int) (w : World) (hH : Sort.Holds (Value.int .i64) w blk off zs.toArray) (hblk : blk < w.heap.size) (hsz : zs.length < 4611686018427387904) :
    Calls Tryz.prog 417 #[.slice (some ⟨blk, off, none⟩) zs.length cap] w fun e w' =>
      e = .returned (.tuple #[]) ∧ ∃ n os, w' = Sort.grow (Sort.putRow (Value.int .i64) (Sort.ahead w n) blk off (zs.mergeSort fun x y => decide (x ≤ y)).toArray) os := Any.slices_Sort_int sortLays blk off cap zs w hH hblk hsz
end Go.Proofs
end

/- store.sorted: the keys of a map, in whatever order they come, sorted. -/
section
namespace Go.Proofs
open Go.Abs Go.RowKit Go.ChangeMaps

section
variable {P : Program} (w : World) {ops : Array Oper} {rest : List Oper} {o : Oper} {a : Act} {Q : Exit → Act → World → Prop}

theorem wpList_range_at (hg : o.guard = none) (m : Operand) (t : TypeId) (hop : o.op = Op.range t m) (k e : TypeId) (ht : P.underlying t = some (.map k e)) (b : Nat) (es : Array MapEntry) (clock : Nat) (hm : a.eval m = .map (some b)) (hb : w.heap[b]? = some (.map es clock))
    (hK : wpList P ops Q rest (a.put o.dst (.pointer (some ⟨w.heap.size, 0, none⟩))) (w.alloc (.mapIter (some b) clock #[] clock))) : wpList P ops Q (o :: rest) a w := by
  refine wpList_plain hg fun K' hK' => ?_
  have hrun : (Instr.range t (.map (some b))).run P w = .ok (.pointer (some ⟨w.heap.size, 0, none⟩)) (w.alloc (.mapIter (some b) clock #[] clock)) := by
    simp [Instr.range, Sem.run_bind, run_under ht, Result.andThen, getObj, Sem.run, hb]
  unfold Oper.wp
  simp [execOp, hop, hm, hrun, Result.andThen]
  exact hK' _ _ hK

theorem wpList_next_at (hg : o.guard = none) (it : Operand) (hop : o.op = Op.next it false) (r bm since c0 : Nat) (seen : Array Nat) (es : Array MapEntry) (clock : Nat) (hit : a.eval it = .pointer (some ⟨r, 0, none⟩))
    (hr : w.heap[r]? = some (.mapIter (some bm) since seen c0)) (hb : w.heap[bm]? = some (.map es clock)) (hold : ∀ x ∈ es.toList, x.born < since) (hsc : since ≤ c0)
    (hDone : (leftOf es seen).size = 0 → wpList P ops Q rest (a.put o.dst (.tuple #[.bool false])) w)
    (hMore : ∀ e ∈ (leftOf es seen).toList, ∀ w1 : World, (w1 = w ∨ w1 = w.drew) → wpList P ops Q rest (a.put o.dst (.tuple #[.bool true, e.key, e.val])) (setBlock w1 r (.mapIter (some bm) since (seen.push e.born) clock))) :
    wpList P ops Q (o :: rest) a w := by
  refine wpList_plain hg fun K' hK' => ?_
  unfold Oper.wp
  rcases run_next_at (P := P) w o.type r bm since c0 seen es clock hr hb hold hsc with ⟨h0, hrun⟩ | ⟨e, he, w1, h1, hrun⟩
  · simp [execOp, hop, hit, hrun, Result.andThen]
    exact hK' _ _ (hDone h0)
  · simp [execOp, hop, hit, hrun, Result.andThen]
    exact hK' _ _ (hMore e he w1 h1)
end

def keyI (e : MapEntry) : Int := match e.key with | .int _ n => n | _ => 0

theorem contains_push (seen : Array Nat) (b x : Nat) : (seen.push b).contains x = (seen.contains x || (x == b)) := by
  rw [Bool.eq_iff_iff]
  simp

theorem left_perm (seen : Array Nat) (e : MapEntry) : ∀ (l : List MapEntry), (l.map (·.born)).Nodup → e ∈ l → seen.contains e.born = false →
    (l.filter fun x => !seen.contains x.born).Perm (e :: l.filter fun x => !(seen.push e.born).contains x.born)
  | [], _, h, _ => by cases h
  | a :: r, hn, hm, hs => by
    simp only [List.map_cons, List.nodup_cons] at hn
    have hout : ∀ (l : List MapEntry), e.born ∉ l.map (·.born) → (l.filter fun x => !(seen.push e.born).contains x.born) = l.filter fun x => !seen.contains x.born := fun l hl => by
      apply List.filter_congr
      intro x hx
      have : x.born ≠ e.born := fun q => hl (q ▸ List.mem_map_of_mem hx)
      rw [contains_push]
      simp [this]
    rcases List.mem_cons.1 hm with rfl | hm
    · rw [List.filter_cons_of_pos (by show (!seen.contains e.born) = true; rw [hs]; rfl), List.filter_cons_of_neg (by show ¬ (!(seen.push e.born).contains e.born) = true; rw [contains_push]; simp), hout r hn.1]
    · have ha : a.born ≠ e.born := fun q => hn.1 (q ▸ List.mem_map_of_mem hm)
      have ih := left_perm seen e r hn.2 hm hs
      have hq : (seen.push e.born).contains a.born = seen.contains a.born := by rw [contains_push]; simp [ha]
      cases hc : seen.contains a.born with
      | true =>
        rw [List.filter_cons_of_neg (by show ¬ (!seen.contains a.born) = true; rw [hc]; simp), List.filter_cons_of_neg (by show ¬ (!(seen.push e.born).contains a.born) = true; rw [hq, hc]; simp)]
        exact ih
      | false =>
        rw [List.filter_cons_of_pos (by show (!seen.contains a.born) = true; rw [hc]; rfl), List.filter_cons_of_pos (by show (!(seen.push e.born).contains a.born) = true; rw [hq, hc]; rfl)]
        exact (ih.cons a).trans (List.Perm.swap _ _ _)

theorem sort_perm {a b : List Int} (h : a.Perm b) : (a.mergeSort fun x y => decide (x ≤ y)) = b.mergeSort fun x y => decide (x ≤ y) := by
  have tr : ∀ (a b c : Int), decide (a ≤ b) = true → decide (b ≤ c) = true → decide (a ≤ c) = true := fun a b c h1 h2 => by simp at *; omega
  have tot : ∀ (a b : Int), (decide (a ≤ b) || decide (b ≤ a)) = true := fun a b => by simp; omega
  have pa := List.pairwise_mergeSort (le := fun x y : Int => decide (x ≤ y)) tr tot a
  have pb := List.pairwise_mergeSort (le := fun x y : Int => decide (x ≤ y)) tr tot b
  refine List.Perm.eq_of_pairwise (le := fun x y => decide (x ≤ y) = true) ?_ pa pb (((List.mergeSort_perm a _).trans h).trans (List.mergeSort_perm b _).symm)
  intro x y _ _ h1 h2
  simp at h1 h2
  omega

theorem Tryz.info3' : (Tryz.prog.info? 3).map (fun i => (i.zero, i.size, i.bytes)) = some (some (.int .i64 0), 1, 8) := by kernel_rfl

set_option maxHeartbeats 4000000 in
set_option maxRecDepth 100000 in
theorem sorted_walk (bm : Nat) (es : Array MapEntry) (clock : Nat) (ks : List Int) (w : World) (hb : w.heap[bm]? = some (.map es clock)) (hk : es.toList.map (·.key) = ks.map (Value.int .i64)) (hborn : bornsOk clock (es.toList.map (·.born)) = true) (hn : es.size ≤ 1000000) :
    Calls Tryz.prog 625 #[.map (some bm)] w fun e w' => ∃ cap, e = .returned (.slice (some ⟨w.heap.size, 0, none⟩) ks.length cap) ∧
      w'.ownsRow w.heap.size 3 1 (.slice (some ⟨w.heap.size, 0, none⟩) ks.length cap) ks.length ((ks.mergeSort fun x y => decide (x ≤ y)).map (Value.int .i64)) ∧ Below w.heap.size w w' := by
  obtain ⟨i0, hi, hz0, hz1, hz2⟩ := info_parts Tryz.info3'
  have hbm := (Array.getElem?_eq_some_iff.1 hb).1
  have hlen : (Builtin.len_ #[468] 3 #[.map (some bm)]).run Tryz.prog w = .ok (.int .i64 es.size) w := by
    simp [Builtin.len_, Sem.run_bind, run_under Tryz.underlying468, Result.andThen, getObj, Sem.run, hb, goInt]
  go_enter Tryz.func625, Tryz.ntmps625
  go_wp2_with (at_make; refine wpList_make_own _ rfl _ _ 119 rfl w.heap.size 3 i0 (.int .i64 0) 1 Tryz.underlying119 hi hz0 hz1 .i64 .i64 _ es.size rfl rfl rfl (by rw [hz2]; omega) (by unfold maxLen; omega) (Nat.le_refl _) ?_)
  intro w1 hown hgrow
  have hsz1 := hgrow.size
  have hb1 : w1.heap[bm]? = some (.map es clock) := (hgrow.block _ hbm (by simp)).trans hb
  go_wp2_with (at_range; refine wpList_range_at _ rfl _ 468 rfl 3 4 Tryz.underlying468 bm es clock rfl hb1 ?_)
  go_frame
  obtain ⟨hnd, hold⟩ := bornsOk_ok hborn
  have hold' : ∀ x ∈ es.toList, x.born < clock := fun x hx => hold _ (List.mem_map_of_mem hx)
  have hit0 : (w1.alloc (.mapIter (some bm) clock #[] clock)).heap[w1.heap.size]? = some (.mapIter (some bm) clock #[] clock) := heap_alloc_at _ _
  have hb0 : (w1.alloc (.mapIter (some bm) clock #[] clock)).heap[bm]? = some (.map es clock) := (heap_alloc_lt _ _ (by omega)).trans hb1
  have hown0 := hown.alloc (.mapIter (some bm) clock #[] clock)
  have bel0 : Below w.heap.size w (w1.alloc (.mapIter (some bm) clock #[] clock)) := ((Below.refl _ w).grown hgrow (Nat.le_refl _) (fun k h => by cases h)).alloc (by omega) _
  have hsz1' : w.heap.size < w1.heap.size := by
    rcases hown.2 with ⟨h, _⟩ | ⟨g, cap, cur, h, _, hg, _⟩
    · cases h
    · cases h; exact (Array.getElem?_eq_some_iff.1 hg).1
  clear hgrow hlen
  go_loopw [3] (fun v wr => ∃ (seen : Array Nat) (c0 : Nat) (acc : List Int), v = .slice (some ⟨w.heap.size, 0, none⟩) acc.length es.size ∧ wr.ownsRow w.heap.size 3 1 (.slice (some ⟨w.heap.size, 0, none⟩) acc.length es.size) acc.length (acc.map (Value.int .i64)) ∧
      wr.heap[w1.heap.size]? = some (.mapIter (some bm) clock seen c0) ∧ clock ≤ c0 ∧ wr.heap[bm]? = some (.map es clock) ∧ (acc ++ (leftOf es seen).toList.map keyI).Perm ks ∧ Below w.heap.size w wr)
    (fun _ wr => wr.rangeLeft bm w1.heap.size)
  case atStart =>
    have e0 : (leftOf es #[]).toList = es.toList := by simp [leftOf]
    refine ⟨#[], clock, [], rfl, hown0, hit0, Nat.le_refl _, hb0, ?_, bel0⟩
    rw [List.nil_append, e0]
    have : es.toList.map keyI = ks := by
      have h1 : es.toList.map keyI = (es.toList.map (·.key)).map (fun v => match v with | .int _ n => n | _ => 0) := by rw [List.map_map]; rfl
      rw [h1, hk, List.map_map]
      exact List.map_id _
    rw [this]
  case round =>
    obtain ⟨seen, c0, acc, rfl, hrow, hit, hcc, hbw, hperm, bel⟩ := hrel
    have hlenp := hperm.length_eq
    have hkl : ks.length = es.size := by have := congrArg List.length hk; simpa using this.symm
    clear hown0 hit0 hb0 bel0 hb1 hown
    have hm0 : wr.rangeLeft bm w1.heap.size = (leftOf es seen).size := by simp [World.rangeLeft, hit, hbw]
    refine wp_seq_k fun K1 hK1 => ?_
    refine wp_region_list ?_
    refine wpList_next_at _ rfl _ rfl w1.heap.size bm clock c0 seen es clock rfl hit hbw hold' hcc ?_ ?_
    · intro h0
      have hl0 : (leftOf es seen).toList = [] := List.eq_nil_of_length_eq_zero (by simpa using h0)
      replace hperm : acc.Perm ks := by
        rw [hl0] at hperm
        rw [List.map_nil, List.append_nil] at hperm
        exact hperm
      have hal : acc.length = ks.length := hperm.length_eq
      have hs : (acc.mergeSort fun x y => decide (x ≤ y)) = ks.mergeSort fun x y => decide (x ≤ y) := sort_perm hperm
      rcases hrow.2 with ⟨hnil, _⟩ | ⟨g, cap, cur, hv, hbase, hbl, h1, h2, h3, h4⟩
      · cases hnil
      · cases hv
        have hH : Sort.Holds (Value.int .i64) wr w.heap.size 0 acc.toArray := holds_of_blockI hbl (by simpa using h4)
        have hgl : w.heap.size < wr.heap.size := (Array.getElem?_eq_some_iff.1 hbl).1
        have hsort := sort_run w.heap.size 0 es.size acc wr hH hgl (by omega)
        have hl2 : (acc.mergeSort fun x y => decide (x ≤ y)).length = acc.length := List.length_mergeSort acc
        have hsort2 : Calls Tryz.prog 417 #[.slice (some ⟨w.heap.size, 0, none⟩) acc.length es.size] wr fun e w' => e = .returned (.tuple #[]) ∧
            w'.ownsRow w.heap.size 3 1 (.slice (some ⟨w.heap.size, 0, none⟩) ks.length es.size) ks.length ((ks.mergeSort fun x y => decide (x ≤ y)).map (Value.int .i64)) ∧ Below w.heap.size w w' := by
          refine hsort.mono ?_
          rintro e w' ⟨he, nn, os, hw'⟩
          refine ⟨he, ?_, ?_⟩
          · rw [hw', ← hs, ← hal]
            exact ownsRow_sortedI (n := nn) (os := os) (ts := acc.mergeSort fun x y => decide (x ≤ y)) hl2 (Nat.le_refl _) hbl h1 h2 h3
          · have hg := grownBy_sortedI (w := wr) (g := w.heap.size) (n := nn) (os := os) (acc.mergeSort fun x y => decide (x ≤ y)).toArray
            rw [← hw'] at hg
            exact bel.grown hg bel.size (fun k h => by cases h; exact Nat.le_refl _)
        clear hit hbw hrow hcc hsort hH hbl hs hl2 h1 h2 h3 h4 hperm hl0 h0 hm0 hkl hlenp bel hgl hbase hnd hold hold' hborn hk hn hsz1 hsz1'
        rw [hal] at hsort2
        iterate 21 (first | go_values | go_skip | go_guarded | go_step | go_upon | go_back)
        refine hsort2.mono ?_
        rintro e w' ⟨rfl, hro, hbe⟩
        trace_state
        go_wp2
        go_ret
        exact ⟨es.size, rfl, hro, hbe⟩
    · intro e he w2 hw2
      obtain ⟨hem, hes⟩ := mem_left he
      obtain ⟨x, hx⟩ : ∃ x, e.key = .int .i64 x := by
        have : e.key ∈ es.toList.map (·.key) := List.mem_map_of_mem hem
        rw [hk] at this
        obtain ⟨x, _, h⟩ := List.mem_map.1 this
        exact ⟨x, h.symm⟩
      have hp2 := left_perm seen e es.toList hnd hem hes
      have hsz2 : w2.heap = wr.heap := by rcases hw2 with rfl | rfl <;> rfl
      have hrow2 : w2.ownsRow w.heap.size 3 1 (.slice (some ⟨w.heap.size, 0, none⟩) acc.length es.size) acc.length (acc.map (Value.int .i64)) := by rcases hw2 with rfl | rfl <;> exact hrow
      have bel2 : Below w.heap.size w w2 := by rcases hw2 with rfl | rfl; exact bel; exact bel.drew
      obtain ⟨w3, hw3⟩ : ∃ w3, setBlock w2 w1.heap.size (.mapIter (some bm) clock (seen.push e.born) clock) = w3 := ⟨_, rfl⟩
      rw [hw3, hx]
      have hlt1 : w1.heap.size < w2.heap.size := by rw [hsz2]; exact (Array.getElem?_eq_some_iff.1 hit).1
      have ho3 : ∀ k, k ≠ w1.heap.size → w3.heap[k]? = w2.heap[k]? := fun k hk => by rw [← hw3]; exact Array.getElem?_setIfInBounds_ne (fun q => hk q.symm)
      have hit3 : w3.heap[w1.heap.size]? = some (.mapIter (some bm) clock (seen.push e.born) clock) := by rw [← hw3]; simp [setBlock, hlt1]
      have hb3 : w3.heap[bm]? = some (.map es clock) := by rw [ho3 _ (by omega), hsz2]; exact hbw
      have hs3 : w3.heap.size = w2.heap.size := by rw [← hw3]; simp [setBlock]
      have hg3 : w2.grownBy w3 (some w1.heap.size) := by
        refine ⟨by rw [← hw3]; rfl, by rw [← hw3]; rfl, by rw [← hw3]; rfl, by rw [hs3]; exact Nat.le_refl _, fun k _ hk => ho3 k (fun q => hk (by rw [q]))⟩
      have hrow3 := hrow2.kept hg3 (Or.inr (by simp [Value.ownBlock]; omega))
      have bel3 : Below w.heap.size w w3 := bel2.grown hg3 bel2.size (fun k h => by cases h; omega)
      have hen : (Instr.entry (.pointer (some ⟨w1.heap.size, 0, none⟩))).run Tryz.prog w3 = .ok (.tuple #[.int .i64 x, e.val]) w3 := by
        have := run_entry_at (P := Tryz.prog) w3 w1.heap.size bm clock seen es clock e hit3 hb3 hem hnd
        rw [hx] at this; exact this
      have hleft : (leftOf es seen).toList.length = (leftOf es (seen.push e.born)).toList.length + 1 := by
        have := hp2.length_eq
        simpa [leftOf] using this
      have hfit : acc.length + 1 ≤ es.size := by
        simp only [List.length_append, List.length_map] at hlenp
        omega
      have hcell : ∀ j u, [Value.int .i64 x][j]? = some u → (w3.alloc (.cells #[.int .i64 x] 3)).cell? ((⟨wr.heap.size, 0, none⟩ : Addr).add j) = some u := by
        intro j u h
        cases j with
        | succ j => simp at h
        | zero =>
          simp at h
          subst h
          have e : wr.heap.size = w3.heap.size := by rw [hs3, hsz2]
          rw [e]
          exact (cell_of_heap (heap_alloc_at _ _)).trans rfl
      clear hrow hit hbw bel hrow2 bel2 hg3
      go_wp2_with (at_builtin; go_loud (refine wpList_append_fits _ rfl _ _ 119 rfl w.heap.size 3 i0 1 Tryz.underlying119 hi hz1 w.heap.size acc.length es.size _ rfl (hrow3.alloc _) _ 1 1 [.int .i64 x] rfl rfl hcell (fun u hu => by simp at hu; subst hu; rfl) hfit ?_))
      intro w4 hown4 hg4
      have hne : ∀ k, k ≠ w.heap.size → k < w3.heap.size → w4.heap[k]? = w3.heap[k]? := fun k h1 h2 => by
        rw [hg4.block k (by rw [World.size_alloc]; omega) (fun q => h1 (by cases q; rfl))]
        exact heap_alloc_lt _ _ h2
      have hit4 : w4.heap[w1.heap.size]? = some (.mapIter (some bm) clock (seen.push e.born) clock) := by rw [hne _ (by omega) (by omega)]; exact hit3
      have hb4 : w4.heap[bm]? = some (.map es clock) := by rw [hne _ (by omega) (by omega)]; exact hb3
      have bel4 : Below w.heap.size w w4 := (bel3.alloc bel3.size (.cells #[.int .i64 x] 3)).grown hg4 (by rw [World.size_alloc]; have := bel3.size; omega) (fun k h => by cases h; exact Nat.le_refl _)
      have hown4' : w4.ownsRow w.heap.size 3 1 (.slice (some ⟨w.heap.size, 0, none⟩) (acc ++ [x]).length es.size) (acc ++ [x]).length ((acc ++ [x]).map (Value.int .i64)) := by
        simpa using hown4
      have hkx : keyI e = x := by unfold keyI; rw [hx]
      have hperm4 : ((acc ++ [x]) ++ (leftOf es (seen.push e.born)).toList.map keyI).Perm ks := by
        refine List.Perm.trans ?_ hperm
        have := (hp2.map keyI)
        rw [List.map_cons, hkx] at this
        have e1 : ∀ s, (leftOf es s).toList = es.toList.filter fun z => !s.contains z.born := fun s => by simp [leftOf]
        rw [e1, e1, List.append_assoc]
        exact (List.Perm.append_left acc this.symm)
      have hl4 : w4.rangeLeft bm w1.heap.size = (leftOf es (seen.push e.born)).size := by simp [World.rangeLeft, hit4, hb4]
      have hl0 : wr.rangeLeft bm w1.heap.size = (leftOf es seen).size := hm0
      go_wp2
      go_roundw
      case rel => exact ⟨seen.push e.born, clock, acc ++ [x], by simp, hown4', hit4, Nat.le_refl _, hb4, hperm4, bel4⟩
      case measure => rw [hl4, hl0]; simpa using (by omega : (leftOf es (seen.push e.born)).toList.length < (leftOf es seen).toList.length)

end Go.Proofs
end
