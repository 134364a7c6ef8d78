/- joining.origin: the walk. -/
import Derived.Test.YtojknjmcmadhcaaGreatDoorBo

section
namespace Go.Proofs.R50
open Go.Abs Go.ChangeShapes Go.WideShapes Go.ChangeAt Go.RowKit Go.Shelf Go.ChangeMaps

set_option maxHeartbeats 4000000 in
set_option maxRecDepth 100000 in
theorem origin_walk {evs : AV} {id : Int} {D : List Int} {ok : Int → Bool} {ra rb : Int → List Int} (T : OTab evs id D ok ra rb) {I : Nat → Nat → Prop} {J : Nat → Prop} {w : World} {v : Value} (hI : ∀ b off, I b off → b < w.heap.size) (hJ : ∀ b, J b → b < w.heap.size) (hv : TV w I J evs v) :
    Calls Tryz.prog 789 #[v, .int .i64 id] w fun e w' => ∃ g cap, e = .returned (.slice (some ⟨g, 0, none⟩) D.length cap) ∧ w.heap.size ≤ g ∧
      w'.ownsRow w.heap.size 3 1 (.slice (some ⟨g, 0, none⟩) D.length cap) D.length ((D.mergeSort fun x y => decide (x ≤ y)).map (Value.int .i64)) ∧ Below w.heap.size w w' := by
  have GP := fun (n : Int) (h : Got evs n (ok n) (ra n) (rb n)) (wr : World) (q : Below w.heap.size w wr) => get_post h hI hJ hv q
  have HGP := Lib.hid GP
  clear GP hI hJ hv
  have hmm := @run_makeMap Tryz.prog
  obtain ⟨w1, hins, hown5, hg1, _, hs1⟩ := run_update_int Tryz.underlying468 Tryz.underlying3 (ownSet_made w) id
  have q1 : Below w.heap.size w w1 := below_grown ((Below.refl w.heap.size w).alloc (Nat.le_refl _) (.map #[] 0)) hg1 (by rw [World.size_alloc]; omega) (Nat.le_refl _)
  rw [World.size_alloc] at hs1
  go_enter Tryz.func789, Tryz.ntmps789
  go_wp2_with fail
  have q2 : Below w.heap.size w (w1.alloc (.map #[] 0)) := q1.alloc q1.size _
  have Hl : OwnSet (w1.alloc (.map #[] 0)) w.heap.size 1 (fun z => z = id ∨ False) := OwnSet.grown hown5 (World.grownBy_alloc w1 (.map #[] 0) none) (by simp)
  have Hd : OwnSet (w1.alloc (.map #[] 0)) (w.heap.size + 1) 0 (fun _ => False) := by rw [← hs1]; exact ownSet_made w1
  have HS := Lib.hid (And.intro q2 (And.intro Hl Hd))
  clear q1 q2 Hl Hd hins hown5 hg1
  go_loopw [] (fun wr => ∃ (Lf Dn : Int → Prop) (n5 n6 : Nat), Below w.heap.size w wr ∧ OwnSet wr w.heap.size n5 Lf ∧ OwnSet wr (w.heap.size + 1) n6 Dn ∧ Inv0 id D ok ra rb Lf Dn) (fun wr => D.length + 1 - cnt wr (w.heap.size + 1))
  case atStart => exact ⟨_, _, _, _, HS.1, HS.2.1, HS.2.2, inv0_start T⟩
  case round =>
    obtain ⟨Lf, Dn, n5, n6, q, hl, hd, inv⟩ := hrel
    have hlen := run_len_int (P := Tryz.prog) Tryz.underlying468 hl #[468] rfl 3
    have Hl := Lib.hid hl
    have Hd := Lib.hid hd
    have Hi := Lib.hid inv
    have Q := Lib.hid q
    clear hl hd HS q inv
    by_cases h0 : cnt wr w.heap.size = 0
    · have hz : (¬ (0 : Int) < ((cnt wr w.heap.size : Nat) : Int)) := by omega
      rename World => wE
      have hdn := fun m => Inv0.all T Hi (cnt_zero Hl h0) m
      have hln := run_len_int (P := Tryz.prog) Tryz.underlying468 Hd #[468] rfl 3
      obtain ⟨ks, ⟨es, clock, hb, hk, hnd0, hborn, htr⟩, hn6, hS⟩ := (Hd : OwnSet wE _ _ _)
      have hkD : ∀ m, m ∈ ks ↔ m ∈ D := fun m => (hS m).trans (hdn m)
      have hkl : ks.length = es.size := by have := congrArg List.length hk; simpa using this.symm
      have hkl2 : ks.length = D.length := Nat.le_antisymm (nodup_le hnd0 fun m h => (hkD m).1 h) (nodup_le T.nodup fun m h => (hkD m).2 h)
      have hsortD : (ks.mergeSort fun x y => decide (x ≤ y)) = D.mergeSort fun x y => decide (x ≤ y) := sort_perm ((List.perm_ext_iff_of_nodup hnd0 T.nodup).2 hkD)
      have hn : es.size ≤ 1000000 := by have := T.len; omega
      have Hf := Lib.hid (And.intro hsortD (And.intro hkl2 Q))
      have hX : w.heap.size ≤ wE.heap.size := Below.size Q
      have HX := Lib.hid hX
      have HnD := Lib.hid hn
      obtain ⟨i0, hi, hz0, hz1, hz2⟩ := info_parts Tryz.info3'
      have hbm := (Array.getElem?_eq_some_iff.1 hb).1
      have hcn : cnt wE w.heap.size = 0 := h0
      have hlen2 : (Builtin.len_ #[468] 3 #[.map (some (w.heap.size + 1))]).run Tryz.prog wE = .ok (.int .i64 es.size) wE := by
        rwa [cnt_of hb] at hln
      rw [hcn] at hlen
      clear hln Hl Hi Q hX hsortD hkl2 hdn hS hkD htr hn6 hz h0 hcn
      generalize hbme : w.heap.size + 1 = bm at *
      go_wp2_with (at_make; refine wpList_make_own _ rfl _ _ 119 rfl w.heap.size 3 i0 (.int .i64 0) 1 Tryz.underlying119 hi hz0 hz1 .i64 .i64 _ es.size rfl rfl rfl (by rw [hz2]; have : es.size ≤ 1000000 := HnD; omega) (by unfold maxLen; have : es.size ≤ 1000000 := HnD; omega) HX ?_)
      intro w1' hown hgrow
      have hsz1 := hgrow.size
      have hb1 : w1'.heap[bm]? = some (.map es clock) := (hgrow.block _ hbm (by simp)).trans hb
      go_wp2_with (at_range; refine wpList_range_at _ rfl _ 468 rfl 3 4 Tryz.underlying468 bm es clock rfl hb1 ?_)
      go_frame
      obtain ⟨hnd, hold⟩ := bornsOk_ok hborn
      have hold' : ∀ x ∈ es.toList, x.born < clock := fun x hx => hold _ (List.mem_map_of_mem hx)
      have hit0 : (w1'.alloc (.mapIter (some bm) clock #[] clock)).heap[w1'.heap.size]? = some (.mapIter (some bm) clock #[] clock) := heap_alloc_at _ _
      have hb0 : (w1'.alloc (.mapIter (some bm) clock #[] clock)).heap[bm]? = some (.map es clock) := (heap_alloc_lt _ _ (by omega)).trans hb1
      have hown0 := hown.alloc (.mapIter (some bm) clock #[] clock)
      have bel0 : Below w.heap.size w (w1'.alloc (.mapIter (some bm) clock #[] clock)) := ((Hf.2.2 : Below w.heap.size w wE).grown hgrow HX (fun k h => by cases h)).alloc (Nat.le_trans HX hsz1) _
      have hsz1' : wE.heap.size < w1'.heap.size := by
        rcases hown.2 with ⟨h, _⟩ | ⟨g, cap, cur, h, _, hg, _⟩
        · cases h
        · cases h; exact (Array.getElem?_eq_some_iff.1 hg).1
      clear hgrow hlen hlen2 hb
      go_loopw [16] (fun v wx => ∃ (seen : Array Nat) (c0 : Nat) (acc : List Int), v = .slice (some ⟨wE.heap.size, 0, none⟩) acc.length es.size ∧ wx.ownsRow w.heap.size 3 1 (.slice (some ⟨wE.heap.size, 0, none⟩) acc.length es.size) acc.length (acc.map (Value.int .i64)) ∧
          wx.heap[w1'.heap.size]? = some (.mapIter (some bm) clock seen c0) ∧ clock ≤ c0 ∧ wx.heap[bm]? = some (.map es clock) ∧ (acc ++ (leftOf es seen).toList.map keyI).Perm ks ∧ Below w.heap.size w wx)
        (fun _ wx => wx.rangeLeft bm w1'.heap.size)
      case atStart =>
        have e0 : (leftOf es #[]).toList = es.toList := by simp [leftOf]
        refine ⟨#[], clock, [], rfl, hown0, hit0, Nat.le_refl _, hb0, ?_, bel0⟩
        rw [List.nil_append, e0]
        have : es.toList.map keyI = ks := by
          have h1 : es.toList.map keyI = (es.toList.map (·.key)).map (fun v => match v with | .int _ n => n | _ => 0) := by rw [List.map_map]; rfl
          rw [h1, hk, List.map_map]
          exact List.map_id _
        rw [this]
      case round =>
        obtain ⟨seen, c0, acc, rfl, hrow, hit, hcc, hbw, hperm, bel⟩ := hrel
        have hlenp := hperm.length_eq
        clear hown0 hit0 hb0 bel0 hb1 hown
        have hm0 : wr.rangeLeft bm w1'.heap.size = (leftOf es seen).size := by simp [World.rangeLeft, hit, hbw]
        refine wp_seq_k fun K1 hK1 => ?_
        refine wp_region_list ?_
        refine wpList_next_at _ rfl _ rfl w1'.heap.size bm clock c0 seen es clock rfl hit hbw hold' hcc ?_ ?_
        · intro h0
          have hl0 : (leftOf es seen).toList = [] := List.eq_nil_of_length_eq_zero (by simpa using h0)
          replace hperm : acc.Perm ks := by
            rw [hl0] at hperm
            rw [List.map_nil, List.append_nil] at hperm
            exact hperm
          have hal : acc.length = D.length := hperm.length_eq.trans Hf.2.1
          have hs : (acc.mergeSort fun x y => decide (x ≤ y)) = D.mergeSort fun x y => decide (x ≤ y) := (sort_perm hperm).trans Hf.1
          rcases hrow.2 with ⟨hnil, _⟩ | ⟨g, cap, cur, hv, hbase, hbl, h1, h2, h3, h4⟩
          · cases hnil
          · cases hv
            have hH : Sort.Holds (Value.int .i64) wr wE.heap.size 0 acc.toArray := holds_of_blockI hbl (by simpa using h4)
            have hgl : wE.heap.size < wr.heap.size := (Array.getElem?_eq_some_iff.1 hbl).1
            have hae : acc.length ≤ 1000000 := by rw [hal]; exact T.len
            have hsort := sort_run wE.heap.size 0 es.size acc wr hH hgl (by omega)
            have hl2 : (acc.mergeSort fun x y => decide (x ≤ y)).length = acc.length := List.length_mergeSort acc
            have hsort2 : Calls Tryz.prog 417 #[.slice (some ⟨wE.heap.size, 0, none⟩) acc.length es.size] wr fun e w' => e = .returned (.tuple #[]) ∧
                w'.ownsRow w.heap.size 3 1 (.slice (some ⟨wE.heap.size, 0, none⟩) D.length es.size) D.length ((D.mergeSort fun x y => decide (x ≤ y)).map (Value.int .i64)) ∧ Below w.heap.size w w' := by
              refine hsort.mono ?_
              rintro e w' ⟨he, nn, os, hw'⟩
              refine ⟨he, ?_, ?_⟩
              · rw [hw', ← hs, ← hal]
                exact ownsRow_sortedI (n := nn) (os := os) (ts := acc.mergeSort fun x y => decide (x ≤ y)) hl2 HX hbl h1 h2 h3
              · have hg := grownBy_sortedI (w := wr) (g := wE.heap.size) (n := nn) (os := os) (acc.mergeSort fun x y => decide (x ≤ y)).toArray
                rw [← hw'] at hg
                exact bel.grown hg bel.size (fun k h => by cases h; exact HX)
            clear hit hbw hrow hcc hsort hH hbl hs hl2 h1 h2 h3 h4 hperm hl0 h0 hm0 hkl hlenp bel hgl hbase hnd hold hold' hborn hk hn hsz1 hsz1' hae
            rw [hal] at hsort2
            iterate 21 (first | go_values | go_skip | go_guarded | go_step | go_upon | go_back)
            refine hsort2.mono ?_
            rintro e w' ⟨rfl, hro, hbe⟩
            go_wp2
            go_ret
            exact ⟨wE.heap.size, es.size, rfl, HX, hro, hbe⟩
        · intro e he w2 hw2
          obtain ⟨hem, hes⟩ := mem_left he
          obtain ⟨x, hx⟩ : ∃ x, e.key = .int .i64 x := by
            have : e.key ∈ es.toList.map (·.key) := List.mem_map_of_mem hem
            rw [hk] at this
            obtain ⟨x, _, h⟩ := List.mem_map.1 this
            exact ⟨x, h.symm⟩
          have hp2 := left_perm seen e es.toList hnd hem hes
          have hsz2 : w2.heap = wr.heap := by rcases hw2 with rfl | rfl <;> rfl
          have hrow2 : w2.ownsRow w.heap.size 3 1 (.slice (some ⟨wE.heap.size, 0, none⟩) acc.length es.size) acc.length (acc.map (Value.int .i64)) := by rcases hw2 with rfl | rfl <;> exact hrow
          have bel2 : Below w.heap.size w w2 := by rcases hw2 with rfl | rfl; exact bel; exact bel.drew
          obtain ⟨w3, hw3⟩ : ∃ w3, setBlock w2 w1'.heap.size (.mapIter (some bm) clock (seen.push e.born) clock) = w3 := ⟨_, rfl⟩
          rw [hw3, hx]
          have hlt1 : w1'.heap.size < w2.heap.size := by rw [hsz2]; exact (Array.getElem?_eq_some_iff.1 hit).1
          have ho3 : ∀ k, k ≠ w1'.heap.size → w3.heap[k]? = w2.heap[k]? := fun k hk => by rw [← hw3]; exact Array.getElem?_setIfInBounds_ne (fun q => hk q.symm)
          have hit3 : w3.heap[w1'.heap.size]? = some (.mapIter (some bm) clock (seen.push e.born) clock) := by rw [← hw3]; simp [setBlock, hlt1]
          have hb3 : w3.heap[bm]? = some (.map es clock) := by rw [ho3 _ (by omega), hsz2]; exact hbw
          have hs3 : w3.heap.size = w2.heap.size := by rw [← hw3]; simp [setBlock]
          have hg3 : w2.grownBy w3 (some w1'.heap.size) := by
            refine ⟨by rw [← hw3]; rfl, by rw [← hw3]; rfl, by rw [← hw3]; rfl, by rw [hs3]; exact Nat.le_refl _, fun k _ hk => ho3 k (fun q => hk (by rw [q]))⟩
          have hrow3 := hrow2.kept hg3 (Or.inr (by simp [Value.ownBlock]; omega))
          have hXle : w.heap.size ≤ wE.heap.size := HX
          have bel3 : Below w.heap.size w w3 := bel2.grown hg3 bel2.size (fun k h => by cases h; omega)
          have hen : (Instr.entry (.pointer (some ⟨w1'.heap.size, 0, none⟩))).run Tryz.prog w3 = .ok (.tuple #[.int .i64 x, e.val]) w3 := by
            have := run_entry_at (P := Tryz.prog) w3 w1'.heap.size bm clock seen es clock e hit3 hb3 hem hnd
            rw [hx] at this; exact this
          have hleft : (leftOf es seen).toList.length = (leftOf es (seen.push e.born)).toList.length + 1 := by
            have := hp2.length_eq
            simpa [leftOf] using this
          have hfit : acc.length + 1 ≤ es.size := by
            simp only [List.length_append, List.length_map] at hlenp
            omega
          have hcell : ∀ j u, [Value.int .i64 x][j]? = some u → (w3.alloc (.cells #[.int .i64 x] 3)).cell? ((⟨wr.heap.size, 0, none⟩ : Addr).add j) = some u := by
            intro j u h
            cases j with
            | succ j => simp at h
            | zero =>
              simp at h
              subst h
              have e : wr.heap.size = w3.heap.size := by rw [hs3, hsz2]
              rw [e]
              exact (cell_of_heap (heap_alloc_at _ _)).trans rfl
          clear hrow hit hbw bel hrow2 bel2 hg3
          go_wp2_with (at_builtin; go_loud (refine wpList_append_fits _ rfl _ _ 119 rfl w.heap.size 3 i0 1 Tryz.underlying119 hi hz1 wE.heap.size acc.length es.size _ rfl (hrow3.alloc _) _ 1 1 [.int .i64 x] rfl rfl hcell (fun u hu => by simp at hu; subst hu; rfl) hfit ?_))
          intro w4 hown4 hg4
          have hne : ∀ k, k ≠ wE.heap.size → k < w3.heap.size → w4.heap[k]? = w3.heap[k]? := fun k h1 h2 => by
            rw [hg4.block k (by rw [World.size_alloc]; omega) (fun q => h1 (by cases q; rfl))]
            exact heap_alloc_lt _ _ h2
          have hit4 : w4.heap[w1'.heap.size]? = some (.mapIter (some bm) clock (seen.push e.born) clock) := by rw [hne _ (by omega) (by omega)]; exact hit3
          have hb4 : w4.heap[bm]? = some (.map es clock) := by rw [hne _ (by omega) (by omega)]; exact hb3
          have bel4 : Below w.heap.size w w4 := (bel3.alloc bel3.size (.cells #[.int .i64 x] 3)).grown hg4 (by rw [World.size_alloc]; have := bel3.size; omega) (fun k h => by cases h; exact HX)
          have hown4' : w4.ownsRow w.heap.size 3 1 (.slice (some ⟨wE.heap.size, 0, none⟩) (acc ++ [x]).length es.size) (acc ++ [x]).length ((acc ++ [x]).map (Value.int .i64)) := by
            simpa using hown4
          have hkx : keyI e = x := by unfold keyI; rw [hx]
          have hperm4 : ((acc ++ [x]) ++ (leftOf es (seen.push e.born)).toList.map keyI).Perm ks := by
            refine List.Perm.trans ?_ hperm
            have := (hp2.map keyI)
            rw [List.map_cons, hkx] at this
            have e1 : ∀ s, (leftOf es s).toList = es.toList.filter fun z => !s.contains z.born := fun s => by simp [leftOf]
            rw [e1, e1, List.append_assoc]
            exact (List.Perm.append_left acc this.symm)
          have hl4 : w4.rangeLeft bm w1'.heap.size = (leftOf es (seen.push e.born)).size := by simp [World.rangeLeft, hit4, hb4]
          have hl0 : wr.rangeLeft bm w1'.heap.size = (leftOf es seen).size := hm0
          go_wp2
          go_roundw
          case rel => exact ⟨seen.push e.born, clock, acc ++ [x], by simp, hown4', hit4, Nat.le_refl _, hb4, hperm4, bel4⟩
          case measure => rw [hl4, hl0]; simpa using (by omega : (leftOf es (seen.push e.born)).toList.length < (leftOf es seen).toList.length)
    · have hz : ((0 : Int) < ((cnt wr w.heap.size : Nat) : Int)) := by omega
      have hany := any_walk w.heap.size n5 Lf wr Hl h0
      have Hany := Lib.hid hany
      clear hany
      go_wp2_with fail
      refine Calls.mono Hany ?_
      rintro e w2 ⟨cur, hcur, rfl, q2⟩
      have hmem : cur ∈ D := Inv0.lf Hi cur hcur
      have hnd : ¬ Dn cur := Inv0.dis Hi cur hcur
      have hsz : w.heap.size + 1 < wr.heap.size := OwnSet.lt (Hd : OwnSet wr _ _ _)
      have hl2 : OwnSet w2 w.heap.size n5 Lf := OwnSet.of_block Hl (q2.block _ (by omega))
      have hd2 : OwnSet w2 (w.heap.size + 1) n6 Dn := OwnSet.of_block Hd (q2.block _ hsz)
      have hc2 : cnt w2 (w.heap.size + 1) = cnt wr (w.heap.size + 1) := cnt_same (q2.block _ hsz)
      have hb2 : Below w.heap.size w w2 := Below.trans Q (q2.mono (Below.size Q))
      obtain ⟨w3, hrun3, hl3, hg3⟩ := run_delete_int (P := Tryz.prog) Tryz.underlying468 Tryz.underlying3 hl2 cur #[468, 3] rfl 0
      have hd3 : OwnSet w3 (w.heap.size + 1) n6 Dn := hd2.grown hg3 (by simp)
      have hc3 : cnt w3 (w.heap.size + 1) = cnt wr (w.heap.size + 1) := (cnt_same (hg3.block _ hd2.lt (by simp))).trans hc2
      have hb3 : Below w.heap.size w w3 := below_grown hb2 hg3 hb2.size (Nat.le_refl _)
      obtain ⟨w4, hrun4, hd4, hg4, hc4, _⟩ := run_update_int (P := Tryz.prog) Tryz.underlying468 Tryz.underlying3 hd3 cur
      have hl4 := hl3.grown hg4 (by simp)
      have hc4' := hc4 hnd
      rw [hc3] at hc4'
      have hb4 : Below w.heap.size w w4 := below_grown hb3 hg4 hb3.size (Nat.le_succ _)
      have hi1 := Inv0.next Hi hcur
      have hcD : cnt w4 (w.heap.size + 1) ≤ D.length := cnt_le hd4 D hi1.dn
      have hcall := (HGP : ∀ n, _) cur (T.got cur hmem) w4 hb4
      have Hcall := Lib.hid hcall
      have Hm := Lib.hid (And.intro hmem (And.intro hl4 (And.intro hd4 (And.intro hc4' (And.intro hb4 (And.intro hi1 hcD))))))
      clear hl2 hd2 hc2 hb2 hl3 hd3 hc3 hb3 hl4 hd4 hc4 hc4' hb4 hi1 hcD hmem hnd hcur hsz hg3 hg4 Hi hcall Hany Q Hl Hd q2 hlen hz h0
      go_wp2_with fail
      refine Calls.mono Hcall ?_
      rintro e w5 ⟨c, rfl, hl5, ho5, ⟨pv, av, e8, e9, hpa, hpb⟩, q5⟩
      -- MID
      obtain ⟨hmem, hl4, hd4, hc4, hb4, hi1, hcD⟩ := Hm
      have hX5 : w.heap.size < w4.heap.size := hl4.lt
      have hX6 : w.heap.size + 1 < w4.heap.size := hd4.lt
      have hsh := T.short cur hmem
      have hk6 : ∀ b, b < w4.heap.size → (w5.alloc (.cells c.toArray 169)).heap[b]? = w4.heap[b]? := fun b h => (heap_alloc_lt w5 _ (Nat.lt_of_lt_of_le h q5.size)).trans (q5.block b h)
      have hb6 : Below w.heap.size w (w5.alloc (.cells c.toArray 169)) := (hb4.trans (q5.mono hb4.size)).alloc (Nat.le_trans hb4.size q5.size) _
      have hl6 := hl4.of_block (hk6 _ hX5)
      have hd6 := hd4.of_block (hk6 _ hX6)
      have hc6 := (cnt_same (hk6 _ hX6)).trans hc4
      have ha6 : ShI w.heap.size w4.heap.size (w5.alloc (.cells c.toArray 169)) _ _ := hpa.on fun b _ h => heap_alloc_lt w5 _ h
      have hB6 : ShI w.heap.size w4.heap.size (w5.alloc (.cells c.toArray 169)) _ _ := hpb.on fun b _ h => heap_alloc_lt w5 _ h
      obtain ⟨ap, cp, rfl, _⟩ := _root_.id hpa
      obtain ⟨aa, ca, rfl, _⟩ := _root_.id hpb
      have k8 : (w5.alloc (.cells c.toArray 169)).cell? ⟨w5.heap.size, 8, none⟩ = some (.slice ap (ra cur).length cp) := (cell_of_heap (heap_alloc_at _ _)).trans (by simpa using e8)
      have k9 : (w5.alloc (.cells c.toArray 169)).cell? ⟨w5.heap.size, 9, none⟩ = some (.slice aa (rb cur).length ca) := (cell_of_heap (heap_alloc_at _ _)).trans (by simpa using e9)
      have Hl5 := Lib.hid hl5
      have Ho5 := Lib.hid ho5
      have Hm := Lib.hid (And.intro hb6 (And.intro hl6 (And.intro hd6 (And.intro hc6 (And.intro hi1 (And.intro ha6 hB6))))))
      have HcD : Hid (cnt wr (w.heap.size + 1) + 1 ≤ D.length) := by rw [hc4] at hcD; exact hcD
      clear hl4 hd4 hc4 hb4 hi1 hcD hk6 hb6 hl6 hd6 hc6 ha6 hB6 hpa hpb q5 e8 e9 Hcall hrun3 hrun4 hl5 ho5
      generalize hi4e : w4.heap.size = hi4 at *
      generalize hc1e : cnt wr (w.heap.size + 1) + 1 = c1 at *
      go_wp2_with ((with_reducible refine list_copy169 _ _ rfl rfl ?_ ?_ Hl5 Ho5 ?_ ?_ ?_); all_goals try rfl)
      clear k8 k9
      go_loopw [42] (fun i wx => ∃ (k : Nat) (Lf Dn : Int → Prop) (n5 n6 : Nat), k ≤ 2 ∧ i = .int .i64 k ∧ Below w.heap.size w wx ∧ OwnSet wx w.heap.size n5 Lf ∧ OwnSet wx (w.heap.size + 1) n6 Dn ∧ cnt wx (w.heap.size + 1) = c1 ∧ Inv1 id D ok ra rb cur (prOf ra rb cur k) Lf Dn ∧ ShI w.heap.size hi4 wx (.slice ap (ra cur).length cp) (ra cur) ∧ ShI w.heap.size hi4 wx (.slice aa (rb cur).length ca) (rb cur)) (fun i _ => 2 - (intOf i).toNat)
      case atStart => exact ⟨0, _, _, _, _, by omega, by go_num, Hm⟩
      case round =>
        obtain ⟨k, Lf, Dn, n5, n6, hk, rfl, hb, hl, hd, hc, hi, ha, hB⟩ := hrel
        clear Hm
        rcases (by omega : k = 0 ∨ k = 1 ∨ k = 2) with rfl | rfl | rfl
        · skip
          have Hm := Lib.hid (And.intro hb (And.intro hl (And.intro hd (And.intro hc (And.intro hi (And.intro ha hB))))))
          clear hb hl hd hc hi ha hB
          rw [show ((0 : Nat) : Int) = 0 from rfl]
          have hix := index0 ap aa (ra cur).length (rb cur).length cp ca wr
          go_wp2_with fail
          clear hix
          go_loopw [47] (fun i wx => ∃ (j : Nat) (Lf Dn : Int → Prop) (n5 n6 : Nat), j ≤ (ra cur).length ∧ i = .int .i64 j ∧ Below w.heap.size w wx ∧ OwnSet wx w.heap.size n5 Lf ∧ OwnSet wx (w.heap.size + 1) n6 Dn ∧ cnt wx (w.heap.size + 1) = c1 ∧ Inv1 id D ok ra rb cur (prOf ra rb cur 0 ++ (ra cur).take j) Lf Dn ∧ ShI w.heap.size hi4 wx (.slice ap (ra cur).length cp) (ra cur) ∧ ShI w.heap.size hi4 wx (.slice aa (rb cur).length ca) (rb cur)) (fun i _ => (ra cur).length - (intOf i).toNat)
          case atStart => exact ⟨0, _, _, _, _, Nat.zero_le _, by go_num, Hm.1, Hm.2.1, Hm.2.2.1, Hm.2.2.2.1, by rw [List.take_zero, List.append_nil]; exact Hm.2.2.2.2.1, Hm.2.2.2.2.2⟩
          case round =>
            obtain ⟨j, Lf, Dn, n5, n6, hj, rfl, hb, hl, hd, hc, hi, ha, hB⟩ := hrel
            clear Hm
            by_cases hlt : j < (ra cur).length
            · obtain ⟨zz, hzz⟩ : ∃ z, (ra cur)[j]? = some z := ⟨_, List.getElem?_eq_getElem hlt⟩
              have hcell : ∃ b o, ap = some ⟨b, o, none⟩ ∧ wr.cell? ⟨b, o + j, none⟩ = some (.int .i64 zz) := by
                obtain ⟨_, _, e, h⟩ := ha
                cases e
                obtain ⟨b, o, e, _, h⟩ := h j zz hzz
                exact ⟨b, o, e, h⟩
              obtain ⟨bb, oo, rfl, hcj⟩ := hcell
              have hzm : zz ∈ ra cur := List.mem_of_getElem? hzz
              obtain ⟨hgot, hin⟩ := T.refs cur hmem zz (.inl hzm)
              have hcall := (HGP : ∀ n, _) zz hgot wr hb
              have hsn : (ra cur).take (j + 1) = (ra cur).take j ++ [zz] := by rw [List.take_succ_eq_append_getElem hlt]; rw [List.getElem?_eq_getElem hlt] at hzz; cases hzz; rfl
              have Hcall := Lib.hid hcall
              have Hsn := Lib.hid hsn
              have Hin := Lib.hid hin
              have Hm := Lib.hid (And.intro hb (And.intro hl (And.intro hd (And.intro hc (And.intro hi (And.intro ha hB))))))
              clear hb hl hd hc hi ha hB hcall hsn hin hzz hzm hgot
              go_wp2_with fail
              refine Calls.mono Hcall ?_
              rintro e w7 ⟨c7, rfl, hl7, ho7, _, q7⟩
              obtain ⟨hb, hl, hd, hc, hi, ha, hB⟩ := Hm
              have hX5 : w.heap.size < wr.heap.size := hl.lt
              have hX6 : w.heap.size + 1 < wr.heap.size := hd.lt
              have hb7 : Below w.heap.size w (w7.alloc (.cells c7.toArray 169)) := (hb.trans (q7.mono hb.size)).alloc (Nat.le_trans hb.size q7.size) _
              have hk7 : ∀ b, b < wr.heap.size → (w7.alloc (.cells c7.toArray 169)).heap[b]? = wr.heap[b]? := fun b h => (heap_alloc_lt w7 _ (Nat.lt_of_lt_of_le h q7.size)).trans (q7.block b h)
              have hl7' : OwnSet (w7.alloc (.cells c7.toArray 169)) w.heap.size n5 Lf := hl.of_block (hk7 _ hX5)
              have hd7 : OwnSet (w7.alloc (.cells c7.toArray 169)) (w.heap.size + 1) n6 Dn := hd.of_block (hk7 _ hX6)
              have hc7 : cnt (w7.alloc (.cells c7.toArray 169)) (w.heap.size + 1) = c1 := (cnt_same (hk7 _ hX6)).trans hc
              have ha7 : ShI w.heap.size hi4 (w7.alloc (.cells c7.toArray 169)) _ _ := ha.on fun b _ h => hk7 b h
              have hB7 : ShI w.heap.size hi4 (w7.alloc (.cells c7.toArray 169)) _ _ := hB.on fun b _ h => hk7 b h
              obtain ⟨r, hlk, hr⟩ := run_lookup_int (P := Tryz.prog) Tryz.underlying468 Tryz.underlying3 (zero4 _) hd7 zz
              obtain ⟨w8, hup, hl8, hg8, _, _⟩ := run_update_int (P := Tryz.prog) Tryz.underlying468 Tryz.underlying3 hl7' zz
              have Hl7 := Lib.hid hl7
              have Ho7 := Lib.hid ho7
              by_cases hput : ok zz = true ∧ r = false
              · have hnz : ¬ Dn zz := fun q => by have := hr.2 q; rw [hput.2] at this; cases this
                have hi8 := hi.put (Hin hput.1) hnz
                have hb8 := below_grown hb7 hg8 hb7.size (Nat.le_refl _)
                have hd8 := hd7.grown hg8 (by simp)
                have hc8 := (cnt_same (hg8.block _ hd7.lt (by simp))).trans hc7
                have ha8 : ShI w.heap.size hi4 w8 _ _ := ha7.on fun b hlo hb => hg8.block b hb (by rintro ⟨⟩; omega)
                have hB8 : ShI w.heap.size hi4 w8 _ _ := hB7.on fun b hlo hb => hg8.block b hb (by rintro ⟨⟩; omega)
                have Hm := Lib.hid (And.intro hb8 (And.intro hl8 (And.intro hd8 (And.intro hc8 (And.intro hi8 (And.intro ha8 hB8))))))
                obtain ⟨e1, e2⟩ := hput
                rw [e1]
                rw [e2] at hlk
                clear hb7 hl7' hd7 hc7 ha7 hB7 hb hl hd hc hi ha hB hk7 hX5 hX6 hr hnz hi8 hb8 hl8 hd8 hc8 ha8 hB8 hg8 q7 hl7 ho7 Hin Hcall hcj
                go_wp2_with ((with_reducible refine list_copy169 _ _ rfl rfl ?_ ?_ Hl7 Ho7 ?_ ?_ ?_); all_goals try rfl)
                go_roundw
                case rel => exact ⟨j + 1, _, _, _, _, by omega, by go_num, Hm.1, Hm.2.1, Hm.2.2.1, Hm.2.2.2.1, by rw [(Hsn : _ = _), ← List.append_assoc]; exact Hm.2.2.2.2.1, Hm.2.2.2.2.2⟩
                case measure => first | (simp [intOf]; done) | (simp [intOf]; omega)
              · have hi8 := hi.skip (z := zz) (by
                  cases hk : ok zz with
                  | false => exact .inl rfl
                  | true =>
                    refine .inr (hr.1 ?_)
                    cases hrr : r with
                    | true => rfl
                    | false => exact absurd ⟨hk, hrr⟩ hput)
                have Hm := Lib.hid (And.intro hb7 (And.intro hl7' (And.intro hd7 (And.intro hc7 (And.intro hi8 (And.intro ha7 hB7))))))
                clear hb7 hl7' hd7 hc7 ha7 hB7 hb hl hd hc hi ha hB hk7 hX5 hX6 hr hi8 hl8 hg8 q7 hl7 ho7 Hin Hcall hcj hup
                cases hok : ok zz with
                | false =>
                  clear hlk
                  go_wp2_with ((with_reducible refine list_copy169 _ _ rfl rfl ?_ ?_ Hl7 Ho7 ?_ ?_ ?_); all_goals try rfl)
                  go_roundw
                  case rel => exact ⟨j + 1, _, _, _, _, by omega, by go_num, Hm.1, Hm.2.1, Hm.2.2.1, Hm.2.2.2.1, by rw [(Hsn : _ = _), ← List.append_assoc]; exact Hm.2.2.2.2.1, Hm.2.2.2.2.2⟩
                  case measure => first | (simp [intOf]; done) | (simp [intOf]; omega)
                | true =>
                  have hrt : r = true := by
                    cases hrr : r with
                    | true => rfl
                    | false => exact absurd ⟨hok, hrr⟩ hput
                  rw [hrt] at hlk
                  go_wp2_with ((with_reducible refine list_copy169 _ _ rfl rfl ?_ ?_ Hl7 Ho7 ?_ ?_ ?_); all_goals try rfl)
                  go_roundw
                  case rel => exact ⟨j + 1, _, _, _, _, by omega, by go_num, Hm.1, Hm.2.1, Hm.2.2.1, Hm.2.2.2.1, by rw [(Hsn : _ = _), ← List.append_assoc]; exact Hm.2.2.2.2.1, Hm.2.2.2.2.2⟩
                  case measure => first | (simp [intOf]; done) | (simp [intOf]; omega)
            · have hjl : j = (ra cur).length := by omega
              subst hjl
              rw [List.take_length] at hi
              have Hm := Lib.hid (And.intro hb (And.intro hl (And.intro hd (And.intro hc (And.intro hi (And.intro ha hB))))))
              clear hb hl hd hc hi ha hB
              go_wp2_with fail
              go_roundw
              case rel => exact ⟨1, _, _, _, _, by omega, by go_num, Hm.1, Hm.2.1, Hm.2.2.1, Hm.2.2.2.1, Hm.2.2.2.2.1, Hm.2.2.2.2.2⟩
              case measure => first | (simp [intOf]; done) | (simp [intOf]; omega)
        · skip
          have Hm := Lib.hid (And.intro hb (And.intro hl (And.intro hd (And.intro hc (And.intro hi (And.intro ha hB))))))
          clear hb hl hd hc hi ha hB
          rw [show ((1 : Nat) : Int) = 1 from rfl]
          have hix := index1 ap aa (ra cur).length (rb cur).length cp ca wr
          go_wp2_with fail
          clear hix
          go_loopw [47] (fun i wx => ∃ (j : Nat) (Lf Dn : Int → Prop) (n5 n6 : Nat), j ≤ (rb cur).length ∧ i = .int .i64 j ∧ Below w.heap.size w wx ∧ OwnSet wx w.heap.size n5 Lf ∧ OwnSet wx (w.heap.size + 1) n6 Dn ∧ cnt wx (w.heap.size + 1) = c1 ∧ Inv1 id D ok ra rb cur (prOf ra rb cur 1 ++ (rb cur).take j) Lf Dn ∧ ShI w.heap.size hi4 wx (.slice ap (ra cur).length cp) (ra cur) ∧ ShI w.heap.size hi4 wx (.slice aa (rb cur).length ca) (rb cur)) (fun i _ => (rb cur).length - (intOf i).toNat)
          case atStart => exact ⟨0, _, _, _, _, Nat.zero_le _, by go_num, Hm.1, Hm.2.1, Hm.2.2.1, Hm.2.2.2.1, by rw [List.take_zero, List.append_nil]; exact Hm.2.2.2.2.1, Hm.2.2.2.2.2⟩
          case round =>
            obtain ⟨j, Lf, Dn, n5, n6, hj, rfl, hb, hl, hd, hc, hi, ha, hB⟩ := hrel
            clear Hm
            by_cases hlt : j < (rb cur).length
            · obtain ⟨zz, hzz⟩ : ∃ z, (rb cur)[j]? = some z := ⟨_, List.getElem?_eq_getElem hlt⟩
              have hcell : ∃ b o, aa = some ⟨b, o, none⟩ ∧ wr.cell? ⟨b, o + j, none⟩ = some (.int .i64 zz) := by
                obtain ⟨_, _, e, h⟩ := hB
                cases e
                obtain ⟨b, o, e, _, h⟩ := h j zz hzz
                exact ⟨b, o, e, h⟩
              obtain ⟨bb, oo, rfl, hcj⟩ := hcell
              have hzm : zz ∈ rb cur := List.mem_of_getElem? hzz
              obtain ⟨hgot, hin⟩ := T.refs cur hmem zz (.inr hzm)
              have hcall := (HGP : ∀ n, _) zz hgot wr hb
              have hsn : (rb cur).take (j + 1) = (rb cur).take j ++ [zz] := by rw [List.take_succ_eq_append_getElem hlt]; rw [List.getElem?_eq_getElem hlt] at hzz; cases hzz; rfl
              have Hcall := Lib.hid hcall
              have Hsn := Lib.hid hsn
              have Hin := Lib.hid hin
              have Hm := Lib.hid (And.intro hb (And.intro hl (And.intro hd (And.intro hc (And.intro hi (And.intro ha hB))))))
              clear hb hl hd hc hi ha hB hcall hsn hin hzz hzm hgot
              go_wp2_with fail
              refine Calls.mono Hcall ?_
              rintro e w7 ⟨c7, rfl, hl7, ho7, _, q7⟩
              obtain ⟨hb, hl, hd, hc, hi, ha, hB⟩ := Hm
              have hX5 : w.heap.size < wr.heap.size := hl.lt
              have hX6 : w.heap.size + 1 < wr.heap.size := hd.lt
              have hb7 : Below w.heap.size w (w7.alloc (.cells c7.toArray 169)) := (hb.trans (q7.mono hb.size)).alloc (Nat.le_trans hb.size q7.size) _
              have hk7 : ∀ b, b < wr.heap.size → (w7.alloc (.cells c7.toArray 169)).heap[b]? = wr.heap[b]? := fun b h => (heap_alloc_lt w7 _ (Nat.lt_of_lt_of_le h q7.size)).trans (q7.block b h)
              have hl7' : OwnSet (w7.alloc (.cells c7.toArray 169)) w.heap.size n5 Lf := hl.of_block (hk7 _ hX5)
              have hd7 : OwnSet (w7.alloc (.cells c7.toArray 169)) (w.heap.size + 1) n6 Dn := hd.of_block (hk7 _ hX6)
              have hc7 : cnt (w7.alloc (.cells c7.toArray 169)) (w.heap.size + 1) = c1 := (cnt_same (hk7 _ hX6)).trans hc
              have ha7 : ShI w.heap.size hi4 (w7.alloc (.cells c7.toArray 169)) _ _ := ha.on fun b _ h => hk7 b h
              have hB7 : ShI w.heap.size hi4 (w7.alloc (.cells c7.toArray 169)) _ _ := hB.on fun b _ h => hk7 b h
              obtain ⟨r, hlk, hr⟩ := run_lookup_int (P := Tryz.prog) Tryz.underlying468 Tryz.underlying3 (zero4 _) hd7 zz
              obtain ⟨w8, hup, hl8, hg8, _, _⟩ := run_update_int (P := Tryz.prog) Tryz.underlying468 Tryz.underlying3 hl7' zz
              have Hl7 := Lib.hid hl7
              have Ho7 := Lib.hid ho7
              by_cases hput : ok zz = true ∧ r = false
              · have hnz : ¬ Dn zz := fun q => by have := hr.2 q; rw [hput.2] at this; cases this
                have hi8 := hi.put (Hin hput.1) hnz
                have hb8 := below_grown hb7 hg8 hb7.size (Nat.le_refl _)
                have hd8 := hd7.grown hg8 (by simp)
                have hc8 := (cnt_same (hg8.block _ hd7.lt (by simp))).trans hc7
                have ha8 : ShI w.heap.size hi4 w8 _ _ := ha7.on fun b hlo hb => hg8.block b hb (by rintro ⟨⟩; omega)
                have hB8 : ShI w.heap.size hi4 w8 _ _ := hB7.on fun b hlo hb => hg8.block b hb (by rintro ⟨⟩; omega)
                have Hm := Lib.hid (And.intro hb8 (And.intro hl8 (And.intro hd8 (And.intro hc8 (And.intro hi8 (And.intro ha8 hB8))))))
                obtain ⟨e1, e2⟩ := hput
                rw [e1]
                rw [e2] at hlk
                clear hb7 hl7' hd7 hc7 ha7 hB7 hb hl hd hc hi ha hB hk7 hX5 hX6 hr hnz hi8 hb8 hl8 hd8 hc8 ha8 hB8 hg8 q7 hl7 ho7 Hin Hcall hcj
                go_wp2_with ((with_reducible refine list_copy169 _ _ rfl rfl ?_ ?_ Hl7 Ho7 ?_ ?_ ?_); all_goals try rfl)
                go_roundw
                case rel => exact ⟨j + 1, _, _, _, _, by omega, by go_num, Hm.1, Hm.2.1, Hm.2.2.1, Hm.2.2.2.1, by rw [(Hsn : _ = _), ← List.append_assoc]; exact Hm.2.2.2.2.1, Hm.2.2.2.2.2⟩
                case measure => first | (simp [intOf]; done) | (simp [intOf]; omega)
              · have hi8 := hi.skip (z := zz) (by
                  cases hk : ok zz with
                  | false => exact .inl rfl
                  | true =>
                    refine .inr (hr.1 ?_)
                    cases hrr : r with
                    | true => rfl
                    | false => exact absurd ⟨hk, hrr⟩ hput)
                have Hm := Lib.hid (And.intro hb7 (And.intro hl7' (And.intro hd7 (And.intro hc7 (And.intro hi8 (And.intro ha7 hB7))))))
                clear hb7 hl7' hd7 hc7 ha7 hB7 hb hl hd hc hi ha hB hk7 hX5 hX6 hr hi8 hl8 hg8 q7 hl7 ho7 Hin Hcall hcj hup
                cases hok : ok zz with
                | false =>
                  clear hlk
                  go_wp2_with ((with_reducible refine list_copy169 _ _ rfl rfl ?_ ?_ Hl7 Ho7 ?_ ?_ ?_); all_goals try rfl)
                  go_roundw
                  case rel => exact ⟨j + 1, _, _, _, _, by omega, by go_num, Hm.1, Hm.2.1, Hm.2.2.1, Hm.2.2.2.1, by rw [(Hsn : _ = _), ← List.append_assoc]; exact Hm.2.2.2.2.1, Hm.2.2.2.2.2⟩
                  case measure => first | (simp [intOf]; done) | (simp [intOf]; omega)
                | true =>
                  have hrt : r = true := by
                    cases hrr : r with
                    | true => rfl
                    | false => exact absurd ⟨hok, hrr⟩ hput
                  rw [hrt] at hlk
                  go_wp2_with ((with_reducible refine list_copy169 _ _ rfl rfl ?_ ?_ Hl7 Ho7 ?_ ?_ ?_); all_goals try rfl)
                  go_roundw
                  case rel => exact ⟨j + 1, _, _, _, _, by omega, by go_num, Hm.1, Hm.2.1, Hm.2.2.1, Hm.2.2.2.1, by rw [(Hsn : _ = _), ← List.append_assoc]; exact Hm.2.2.2.2.1, Hm.2.2.2.2.2⟩
                  case measure => first | (simp [intOf]; done) | (simp [intOf]; omega)
            · have hjl : j = (rb cur).length := by omega
              subst hjl
              rw [List.take_length] at hi
              have Hm := Lib.hid (And.intro hb (And.intro hl (And.intro hd (And.intro hc (And.intro hi (And.intro ha hB))))))
              clear hb hl hd hc hi ha hB
              go_wp2_with fail
              go_roundw
              case rel => exact ⟨2, _, _, _, _, by omega, by go_num, Hm.1, Hm.2.1, Hm.2.2.1, Hm.2.2.2.1, Hm.2.2.2.2.1, Hm.2.2.2.2.2⟩
              case measure => first | (simp [intOf]; done) | (simp [intOf]; omega)
        · have hi0 := hi.done (by intro m hm; show m ∈ ra cur ++ rb cur; exact List.mem_append.2 hm)
          have Hm := Lib.hid (And.intro hb (And.intro hl (And.intro hd (And.intro hc hi0))))
          clear hb hl hd hc hi ha hB hi0
          go_wp2_with fail
          go_roundw
          case rel => exact ⟨_, _, _, _, Hm.1, Hm.2.1, Hm.2.2.1, Hm.2.2.2.2⟩
          case measure =>
            have e1 := Hm.2.2.2.1
            have e2 : c1 ≤ D.length := HcD
            omega
end Go.Proofs.R50
end

/- joining.origin: what it answers, by data. -/
section
namespace Go.Abs.R50
open Go.Proofs Go.Proofs.R50 Go.RowKit

theorem valid_origin {evs : AV} {id : Int} {D : List Int} {ok : Int → Bool} {ra rb : Int → List Int} (T : OTab evs id D ok ra rb) : Valid Tryz.prog 789 [evs, .sc (.int .i64 id)] (.ret (.isl (i64s (sortI D)) false)) := by
  refine ⟨⟨_, Tryz.func789, rfl, by kernel_rfl⟩, ?_⟩
  intro w I J vs hI hJ hv
  cases hv with
  | cons hv0 hs =>
  cases hs with
  | cons h1 hs =>
  cases hs
  cases h1
  refine (origin_walk T hI hJ hv0).mono ?_
  rintro e w' ⟨g, cap, rfl, hg, hrow, hbel⟩
  rw [sortI_merge] at hrow
  have hlen : (sortI D).length = D.length := (sortI_perm D).length_eq
  rcases hrow.2 with ⟨hnil, _⟩ | ⟨g', cap', cur, hv, hbase, hbl, h1, h2, h3, h4⟩
  · cases hnil
  · cases hv
    have hlt := (Array.getElem?_eq_some_iff.1 hbl).1
    refine ⟨hbel, fun b off => I b off ∨ (b = g ∧ off < D.length), J, fun b off h => .inl h, fun b off h => ?_, fun b h => h, fun b h => .inl h, ?_⟩
    · rcases h with h | ⟨rfl, _⟩
      · exact .inl h
      · exact .inr ⟨hg, hlt⟩
    · show TV _ _ _ _ _
      have hil : (i64s (sortI D)).length = D.length := by simp [i64s, hlen]
      have := TV.isl (w := w') (I := fun b off => I b off ∨ (b = g ∧ off < D.length)) (J := J) (es := i64s (sortI D)) (capd := false) (a := ⟨g, 0, none⟩) (vs := (sortI D).map (Value.int .i64)) (s := 1) (cap := cap)
        (by rw [flatten_i64s]; exact tvs_scs _) ⟨rfl, fun j v hv => ?_⟩ (by intro e he; obtain ⟨n, _, rfl⟩ := List.mem_map.1 he; rfl) (by omega) (by intro h; cases h)
      · rw [hil] at this
        exact this
      · have hj : j < D.length := by
          have := (List.getElem?_eq_some_iff.1 hv).1
          simpa [hlen] using this
        refine ⟨.inr ⟨rfl, by simpa using hj⟩, ?_⟩
        rw [cell_of_heap hbl]
        rw [← h4] at hv
        rw [List.getElem?_take] at hv
        split at hv
        · simpa using hv
        · cases hv

structure EntO where
  n : Int
  ok : Bool
  ra : List Int
  rb : List Int

noncomputable section
/-- One call of store.Get. -/
def entO (c1 : FuncId → List AV → Option Out) (evs : AV) (n : Int) : Option EntO := match c1 161 [evs, .sc (.int .i64 n)] with
  | some (.ret (.tup [.agg cs, .sc (.bool ok)])) => match cs[8]?, cs[9]? with
    | some pa, some aa => match intsA pa, intsA aa with
      | some ra, some rb => bif Nat.beq cs.length 29 && cs.all AV.storable && Nat.ble ra.length 1000000 && Nat.ble rb.length 1000000 then some ⟨n, ok, ra, rb⟩ else none
      | _, _ => none
    | _, _ => none
  | _ => none

def findO (n : Int) : List EntO → Option EntO
  | [] => none
  | e :: r => bif decide (e.n = n) then some e else findO n r

def goO (c1 : FuncId → List AV → Option Out) (evs : AV) (id : Int) : Nat → List Int → List EntO → Option (List EntO)
  | 0, _, _ => none
  | _ + 1, [], T => some T
  | k + 1, n :: r, T => match findO n T with
    | some _ => goO c1 evs id k r T
    | none => match entO c1 evs n with
      | some e => goO c1 evs id k (bif e.ok || decide (e.n = id) then e.ra ++ (e.rb ++ r) else r) (T ++ [e])
      | none => none

def inO (id : Int) (e : EntO) : Bool := e.ok || decide (e.n = id)
def hasO (T : List EntO) (m : Int) : Bool := (findO m T).isSome
def nodO : List EntO → Bool
  | [] => true
  | e :: r => !(hasO r e.n) && nodO r
def memO (n : Int) : List Int → Bool
  | [] => false
  | m :: r => decide (m = n) || memO n r
def ordO (id : Int) : List EntO → List EntO → Bool
  | _, [] => true
  | prev, e :: r => (decide (e.n = id) || prev.any fun p => memO e.n p.ra || memO e.n p.rb) && ordO id (e :: prev) r
def chkO (id : Int) (T : List EntO) : Bool :=
  nodO T && hasO T id && (T.all fun e => !(inO id e) || (e.ra.all (hasO T) && e.rb.all (hasO T))) && ordO id [] (T.filter (inO id)) && Nat.ble T.length 1000000

/-- What origin answers. -/
def origin1 (c1 : FuncId → List AV → Option Out) (args : List AV) : Option Out := match args with
  | [evs, .sc (.int .i64 id)] => match goO c1 evs id 2000 [id] [] with
    | some T => bif chkO id T then some (.ret (.isl (i64s (sortI ((T.filter (inO id)).map (·.n)))) false)) else none
    | none => none
  | _ => none
end

theorem entO_n {c1 : FuncId → List AV → Option Out} {evs : AV} {n : Int} {e : EntO} (h : entO c1 evs n = some e) : e.n = n := by
  unfold entO at h
  split at h
  · split at h
    · split at h
      · generalize (_ && _ : Bool) = q at h
        cases q with
        | true => cases h; rfl
        | false => cases h
      · cases h
    · cases h
  · cases h

theorem entO_got {c1 : FuncId → List AV → Option Out} (hc : ∀ f args r, c1 f args = some r → Valid Tryz.prog f args r) {evs : AV} {n : Int} {e : EntO} (h : entO c1 evs n = some e) :
    Got evs n e.ok e.ra e.rb ∧ e.ra.length ≤ 1000000 ∧ e.rb.length ≤ 1000000 := by
  unfold entO at h
  split at h
  · rename_i cs ok heq
    split at h
    · split at h
      · rename_i pa aa h8 h9 _ _ ra rb ha hb
        cases hcc : (Nat.beq cs.length 29 && cs.all AV.storable && Nat.ble ra.length 1000000 && Nat.ble rb.length 1000000) with
        | true =>
          rw [hcc] at h
          cases h
          simp only [Bool.and_eq_true] at hcc
          obtain ⟨⟨⟨q1, q2⟩, q3⟩, q4⟩ := hcc
          exact ⟨⟨cs, pa, aa, hc _ _ _ heq, Nat.eq_of_beq_eq_true q1, q2, h8, h9, ha, hb⟩, Nat.le_of_ble_eq_true q3, Nat.le_of_ble_eq_true q4⟩
        | false => rw [hcc] at h; cases h
      · cases h
    · cases h
  · cases h

theorem goO_all {c1 : FuncId → List AV → Option Out} {evs : AV} {id : Int} : ∀ {k : Nat} {l : List Int} {T T' : List EntO}, goO c1 evs id k l T = some T' → (∀ e ∈ T, entO c1 evs e.n = some e) → ∀ e ∈ T', entO c1 evs e.n = some e
  | 0, _, _, _, h, _ => by cases h
  | _ + 1, [], _, _, h, ht => by cases h; exact ht
  | k + 1, n :: r, T, T', h, ht => by
    unfold goO at h
    split at h
    · exact goO_all h ht
    · split at h
      · rename_i e he
        refine goO_all h fun x hx => ?_
        rcases List.mem_append.1 hx with hx | hx
        · exact ht x hx
        · simp at hx
          subst hx
          rw [entO_n he]
          exact he
      · cases h

theorem findO_some {n : Int} : ∀ {T : List EntO} {e : EntO}, findO n T = some e → e ∈ T ∧ e.n = n
  | [], _, h => by cases h
  | x :: r, e, h => by
    unfold findO at h
    cases hd : decide (x.n = n) with
    | true => rw [hd] at h; cases h; exact ⟨by simp, of_decide_eq_true hd⟩
    | false => rw [hd] at h; obtain ⟨a, b⟩ := findO_some h; exact ⟨by simp [a], b⟩

theorem hasO_of {n : Int} : ∀ {T : List EntO} {e : EntO}, e ∈ T → e.n = n → hasO T n = true
  | x :: r, e, h, hn => by
    unfold hasO findO
    cases hd : decide (x.n = n) with
    | true => rfl
    | false =>
      rcases List.mem_cons.1 h with rfl | h
      · exact absurd hn (of_decide_eq_false hd)
      · exact hasO_of (T := r) h hn

theorem findO_nod : ∀ {T : List EntO} {e : EntO}, nodO T = true → e ∈ T → findO e.n T = some e
  | x :: r, e, hn, h => by
    simp only [nodO, Bool.and_eq_true, Bool.not_eq_true'] at hn
    unfold findO
    rcases List.mem_cons.1 h with rfl | h
    · simp
    · cases hd : decide (x.n = e.n) with
      | true =>
        have := hasO_of (T := r) h (of_decide_eq_true hd).symm
        rw [hn.1] at this
        cases this
      | false => exact findO_nod hn.2 h

theorem nodO_nodup : ∀ {T : List EntO}, nodO T = true → (T.map (·.n)).Nodup
  | [], _ => List.nodup_nil
  | x :: r, h => by
    simp only [nodO, Bool.and_eq_true, Bool.not_eq_true'] at h
    refine List.nodup_cons.2 ⟨fun hm => ?_, nodO_nodup h.2⟩
    obtain ⟨e, he, hn⟩ := List.mem_map.1 hm
    have := hasO_of (T := r) he hn
    rw [h.1] at this
    cases this

theorem memO_mem {n : Int} : ∀ {l : List Int}, memO n l = true → n ∈ l
  | [], h => by cases h
  | m :: r, h => by
    simp only [memO, Bool.or_eq_true, decide_eq_true_eq] at h
    rcases h with rfl | h
    · simp
    · simp [memO_mem h]

theorem ordO_least {id : Int} {S : Int → Prop} {ok : Int → Bool} {ra rb : Int → List Int} (h0 : S id) (hs : ∀ n, S n → ∀ m, m ∈ ra n ∨ m ∈ rb n → ok m = true → S m) :
    ∀ {l prev : List EntO}, ordO id prev l = true → (∀ p ∈ prev, S p.n) → (∀ p, p ∈ prev ∨ p ∈ l → ra p.n = p.ra ∧ rb p.n = p.rb) → (∀ e ∈ l, e.n ≠ id → ok e.n = true) → ∀ e ∈ l, S e.n
  | [], _, _, _, _, _, e, he => by cases he
  | x :: r, prev, h, hp, hr, hok, e, he => by
    simp only [ordO, Bool.and_eq_true, Bool.or_eq_true, decide_eq_true_eq, List.any_eq_true] at h
    have hx : S x.n := by
      rcases Classical.em (x.n = id) with q | q
      · rw [q]; exact h0
      · rcases h.1 with h1 | ⟨p, hpm, h1⟩
        · exact absurd h1 q
        · obtain ⟨e1, e2⟩ := hr p (.inl hpm)
          refine hs p.n (hp p hpm) x.n ?_ (hok x (by simp) q)
          rw [e1, e2]
          exact h1.imp memO_mem memO_mem
    rcases List.mem_cons.1 he with rfl | he
    · exact hx
    · refine ordO_least h0 hs h.2 (fun p hpm => ?_) (fun p hpm => hr p ?_) (fun y hy => hok y (by simp [hy])) e he
      · rcases List.mem_cons.1 hpm with rfl | hpm
        · exact hx
        · exact hp p hpm
      · rcases hpm with hpm | hpm
        · rcases List.mem_cons.1 hpm with rfl | hpm
          · exact .inr (by simp)
          · exact .inl hpm
        · exact .inr (by simp [hpm])

def okF (T : List EntO) (n : Int) : Bool := match findO n T with | some e => e.ok | none => false
def raF (T : List EntO) (n : Int) : List Int := match findO n T with | some e => e.ra | none => []
def rbF (T : List EntO) (n : Int) : List Int := match findO n T with | some e => e.rb | none => []

theorem otab_of {evs : AV} {id : Int} {T : List EntO} (hg : ∀ e ∈ T, Got evs e.n e.ok e.ra e.rb ∧ e.ra.length ≤ 1000000 ∧ e.rb.length ≤ 1000000) (h : chkO id T = true) :
    OTab evs id ((T.filter (inO id)).map (·.n)) (okF T) (raF T) (rbF T) := by
  simp only [chkO, Bool.and_eq_true] at h
  obtain ⟨⟨⟨⟨h1, h2⟩, h3⟩, h4⟩, h5⟩ := h
  have hf : ∀ e ∈ T, okF T e.n = e.ok ∧ raF T e.n = e.ra ∧ rbF T e.n = e.rb := fun e he => by simp [okF, raF, rbF, findO_nod h1 he]
  have hD : ∀ n, n ∈ (T.filter (inO id)).map (·.n) → ∃ e ∈ T, e.n = n ∧ inO id e = true := fun n hn => by
    obtain ⟨e, he, rfl⟩ := List.mem_map.1 hn
    obtain ⟨a, b⟩ := List.mem_filter.1 he
    exact ⟨e, a, rfl, b⟩
  have hget : ∀ m, hasO T m = true → Got evs m (okF T m) (raF T m) (rbF T m) ∧ (okF T m = true → m ∈ (T.filter (inO id)).map (·.n)) := fun m hm => by
    unfold hasO at hm
    cases hq : findO m T with
    | none => rw [hq] at hm; cases hm
    | some e =>
      obtain ⟨a, rfl⟩ := findO_some hq
      obtain ⟨e1, e2, e3⟩ := hf e a
      rw [e1, e2, e3]
      exact ⟨(hg e a).1, fun ho => List.mem_map.2 ⟨e, List.mem_filter.2 ⟨a, by simp [inO, ho]⟩, rfl⟩⟩
  refine ⟨fun n hn => ?_, fun n hn m hm => ?_, fun n hn => ?_, ?_, fun S h0 hs n hn => ?_, ?_, ?_⟩
  · obtain ⟨e, he, rfl, _⟩ := hD n hn
    obtain ⟨e1, e2, e3⟩ := hf e he
    rw [e1, e2, e3]
    exact (hg e he).1
  · obtain ⟨e, he, rfl, hi⟩ := hD n hn
    obtain ⟨e1, e2, e3⟩ := hf e he
    rw [e2, e3] at hm
    have := List.all_eq_true.1 h3 e he
    simp only [hi, Bool.not_true, Bool.false_or, Bool.and_eq_true, List.all_eq_true] at this
    exact hget m (hm.elim (this.1 m) (this.2 m))
  · obtain ⟨e, he, rfl, hi⟩ := hD n hn
    obtain ⟨e1, e2, e3⟩ := hf e he
    rw [e2, e3]
    exact (hg e he).2
  · cases hq : findO id T with
    | none => unfold hasO at h2; rw [hq] at h2; cases h2
    | some e =>
      obtain ⟨a, b⟩ := findO_some hq
      exact List.mem_map.2 ⟨e, List.mem_filter.2 ⟨a, by simp [inO, b]⟩, b⟩
  · obtain ⟨e, he, rfl⟩ := List.mem_map.1 hn
    refine ordO_least h0 hs h4 (fun p hp => by cases hp) (fun p hp => ?_) (fun x hx hne => ?_) e he
    · rcases hp with hp | hp
      · cases hp
      · exact (hf p (List.mem_filter.1 hp).1).2
    · obtain ⟨a, b⟩ := List.mem_filter.1 hx
      rw [(hf x a).1]
      simpa [inO, hne] using b
  · exact (nodO_nodup h1).sublist ((List.filter_sublist).map _)
  · have h6 := List.length_filter_le (inO id) T
    have h7 := Nat.le_of_ble_eq_true h5
    rw [List.length_map]
    omega

theorem valid_origin1 {c1 : FuncId → List AV → Option Out} (hc : ∀ f args r, c1 f args = some r → Valid Tryz.prog f args r) {args : List AV} {r : Out} (h : origin1 c1 args = some r) : Valid Tryz.prog 789 args r := by
  unfold origin1 at h
  split at h
  · rename_i evs id
    split at h
    · rename_i T hT
      cases hk : chkO id T with
      | true =>
        rw [hk] at h
        cases h
        exact valid_origin (otab_of (fun e he => entO_got hc (goO_all hT (fun x hx => by cases hx) e he)) hk)
      | false => rw [hk] at h; cases h
    · cases h
  · cases h
end Go.Abs.R50
end
