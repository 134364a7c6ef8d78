/- script.act. -/
import Derived.Test.YtojknjmcmadhcaaGreatDoorCg

section
namespace Go.Proofs.R50
open Go.ChangeShapes Go.WideShapes Go.ChangeAt Go.RowKit

set_option maxRecDepth 100000 in
set_option maxHeartbeats 4000000 in
theorem act_ok (line : ByteArray) (w : World) (hs : line.size ≤ 100000) : Calls Tryz.prog 16 #[.string line] w (ActPost line w) := by
 have hmm := @run_makeMap Tryz.prog
 have hw0 : Whole (((w.alloc (.cells zeroC 37)).alloc (.cells zeroC 37)).alloc (.map #[] 0)) w.heap.size 37 zeroC := Whole.on (zero_at w) ((Below.refl _ _).alloc (Nat.le_refl _) _)
 have hw1 : Whole (((w.alloc (.cells zeroC 37)).alloc (.cells zeroC 37)).alloc (.map #[] 0)) (w.heap.size + 1) 37 zeroC := by
  have := Whole.new (w.alloc (.cells zeroC 37)) 37 zeroC
  rw [World.size_alloc] at this
  exact Whole.on this ((Below.refl _ _).alloc (Nat.le_refl _) _)
 have hk0 : StrKeys (((w.alloc (.cells zeroC 37)).alloc (.cells zeroC 37)).alloc (.map #[] 0)) (w.heap.size + 2) [] := by
  have := strKeys_made ((w.alloc (.cells zeroC 37)).alloc (.cells zeroC 37))
  rwa [World.size_alloc, World.size_alloc] at this
 have hb0 : Below w.heap.size w (((w.alloc (.cells zeroC 37)).alloc (.cells zeroC 37)).alloc (.map #[] 0)) :=
  (((Below.refl w.heap.size w).alloc (Nat.le_refl _) _).alloc (by rw [World.size_alloc]; omega) _).alloc (by rw [World.size_alloc, World.size_alloc]; omega) _
 have Hw0 := Lib.hid hw0
 have Hw1 := Lib.hid hw1
 have Hk0 := Lib.hid hk0
 have Hb0 := Lib.hid hb0
 clear hw0 hw1 hk0 hb0
 go_enter Tryz.func16, Tryz.ntmps16
 go_wp2_with fail
 clear hmm
 go_loopw [6, 7, 8] (fun u6 u7 u8 wr => ActInv line w u6 u7 u8 wr) (fun _ u7 u8 _ => actM u7 u8)
 case atStart => exact ⟨line, true, rfl, rfl, Hw0, Hb0, .inl ⟨rfl, rfl, rfl, Hw1, Hk0⟩⟩
 case round =>
  clear Hw0 Hw1 Hk0 Hb0
  obtain ⟨rest, more, rfl, rfl, hr, hb, hcase⟩ := hrel
  have Hr := Lib.hid hr
  have Hb := Lib.hid hb
  have hbs := hb.size
  clear hr hb
  cases more with
  | false =>
   rcases hcase with ⟨_, q, _⟩ | ⟨rfl, wd, A, tx, nv, ks, hW, hO, hK, hKO, hlen, _, hres⟩
   ·cases q
   ·have hra : wr.rangeAt (w.heap.size + 1) 0 (actC wd nv A.n tx A.cn A.tg).toList := fun j v hv => by
     rw [Nat.zero_add]
     exact (Whole.cell hW j).trans (by simpa using hv)
    obtain ⟨ao, cap, rfl⟩ := own_slice hO
    have Hra := Lib.hid hra
    have Hth := Lib.hid (there19 Hr rfl)
    have Hone : Hid ((actC wd (.slice ao A.names.length cap) A.n tx A.cn A.tg).all (·.oneCell') = true) := actC_one _ _ _ _ _ _ _ _
    have HR2 := Lib.hid (Whole.fillAll Hr (cs' := actC wd (.slice ao A.names.length cap) A.n tx A.cn A.tg) rfl)
    have Hb2 := Lib.hid (below_cells Hb (Nat.le_refl _) hbs (actC wd (.slice ao A.names.length cap) A.n tx A.cn A.tg).toList)
    have HO2 := Lib.hid (own_off hO (setCells_off (actC wd (.slice ao A.names.length cap) A.n tx A.cn A.tg).toList 0 wr wr (some w.heap.size) (World.grownBy.refl wr _) (.inr rfl)) Hr (by decide))
    have Hres := Lib.hid (hres rfl)
    clear hra hW hO hK hKO hlen hres
    generalize hcs : actC wd (.slice ao A.names.length cap) A.n tx A.cn A.tg = cs at *
    have Hcs := Lib.hid hcs
    have hsz : cs.size = 19 := by rw [← hcs]; rfl
    clear hcs
    go_wp2_with (first | ((with_reducible refine list_load37 (w.heap.size + 1) 0 cs Hra ?_ ?_ hsz ?_ ?_); all_goals try rfl) | ((with_reducible refine list_store37 w.heap.size 0 cs Hth ?_ ?_ hsz Hone ?_ ?_ ?_); all_goals try rfl))
    refine bodyPost_ret (v := .tuple #[.agg cs, .bool true]) (results_act rfl _ _ w.heap.size cs _ rfl HR2 hsz rfl) rfl ?_
    exact actPost_some Hres (by rw [(Hcs : _ = cs)]) HO2 Hb2
  | true =>
   rcases hcase with ⟨rfl, _, hrl, hW, hK⟩ | ⟨rfl, wd, A, tx, nv, ks, hW, hO, hK, hKO, hlen, hres, _⟩
   ·have hrl2 := hrl.symm
    subst hrl2
    clear hrl
    have hk1 := hK.lt
    have hc := cut_ok line 32 wr (by omega)
    obtain ⟨⟨a, b, m⟩, hq⟩ : ∃ q, cut3 32 line = q := ⟨_, rfl⟩
    rw [hq] at hc
    obtain ⟨r, hsp, hmt, hmf⟩ := cut_parts hq
    have Hc := Lib.hid hc
    have HW := Lib.hid hW
    have HK := Lib.hid hK
    have Hsp := Lib.hid hsp
    have Hmt := Lib.hid hmt
    have Hmf := Lib.hid hmf
    clear hc hW hK hsp hmt hmf hq
    go_wp2_with fail
    refine Calls.mono Hc ?_
    rintro e w1 ⟨rfl, hb1⟩
    have hW1 := Whole.on HW hb1
    have hc0 : w1.cell? ⟨w.heap.size + 1, 0, none⟩ = some (.string ⟨#[]⟩) := hW1.cell 0
    have hf0 := hW1.free 0
    have HW2 : Hid (Whole (w1.setCell ⟨w.heap.size + 1, 0, none⟩ (.string a)) (w.heap.size + 1) 37 (actC a (.slice none 0 0) 0 ⟨#[]⟩ 0 0)) := Whole.put hW1 0 (.string a)
    have hr1 := Whole.on Hr hb1
    have hr2 := Whole.far hr1 (p := ⟨w.heap.size + 1, 0, none⟩) (by simp) (.string a)
    have hbl1 := (Hb : Below w.heap.size w wr).trans (hb1.mono hbs)
    have hs1 := hb1.size
    have hbl2 := Below.setCell hbl1 (p := ⟨w.heap.size + 1, 0, none⟩) (by show w.heap.size ≤ w.heap.size + 1; omega) (.string a)
    have HK2 : Hid (StrKeys (w1.setCell ⟨w.heap.size + 1, 0, none⟩ (.string a)) (w.heap.size + 2) []) := ((StrKeys.on HK hb1).grown (row := some (w.heap.size + 1)) (setCells_off [.string a] 0 w1 w1 _ (World.grownBy.refl w1 _) (.inr rfl)) (by simp))
    have Hwd := Lib.hid (word_ok a (w1.setCell ⟨w.heap.size + 1, 0, none⟩ (.string a)))
    have Hr2 := Lib.hid hr2
    have Hbl2 := Lib.hid hbl2
    have Hs2 : Hid (w.heap.size ≤ (w1.setCell ⟨w.heap.size + 1, 0, none⟩ (.string a)).heap.size) := hbl2.size
    clear hr1 hr2 hbl1 hbl2 hb1 hW1 HK HW
    go_wp2_with fail
    clear hc0 hf0
    refine Calls.mono Hwd ?_
    generalize w1.setCell ⟨w.heap.size + 1, 0, none⟩ (.string a) = w2 at *
    rintro e w3 ⟨rfl, rfl⟩
    cases hwd : isWord a with
    | false =>
     have Hno := Lib.hid (actOf_no Hsp hwd)
     clear hwd
     have Hth := Lib.hid (there19 Hr2 rfl)
     have hR3 := Whole.fillAll Hr2 (cs' := zeroC) rfl
     have hb3 := below_cells Hbl2 (Nat.le_refl _) Hs2 zeroC.toList
     have hzs := zero_sz
     generalize hZ : zeroC = Z at hR3 hb3 hzs
     have HZ := Lib.hid hZ
     have Hzs := Lib.hid hzs
     have HR3 := Lib.hid hR3
     have Hb3 := Lib.hid hb3
     clear hR3 hb3 hZ hzs
     go_wp2_with ((with_reducible refine list_storeZ w.heap.size 0 Z HZ Hth ?_ ?_ ?_ ?_ ?_); all_goals try rfl)
     show bodyPost Tryz.prog Tryz.f16 (ActPost line w) Exit.ret _ _
     refine bodyPost_ret (v := .tuple #[.agg Z, .bool false]) (results_act rfl _ _ w.heap.size Z _ rfl HR3 Hzs rfl) rfl ?_
     exact actPost_none Hno (by rw [(HZ : _ = Z)]) Hb3
    | true =>
     have Hgo := Lib.hid (actOf_go Hsp hwd)
     clear hwd
     go_wp2_with fail
     refine ⟨⟨b, m, rfl, rfl, Hr2, Hbl2, .inr ⟨rfl, a, AS.z, ⟨#[]⟩, .slice none 0 0, [], HW2, ⟨rfl, .inl ⟨rfl, rfl⟩⟩, HK2, fun _ => ⟨by simp [AS.z], by simp [AS.z], by simp [AS.z], by simp, by simp [AS.z]⟩, ?_, ?_, ?_⟩⟩, ?_⟩
     ·show 0 + b.size ≤ _
      cases m with
      | true => have := ((Hmt : _ → _) rfl).2; omega
      | false => have := ((Hmf : _ → _) rfl).2.2; rw [this]; exact Nat.zero_le _
     ·intro hm
      have := ((Hmt : _ → _) hm).1
      exact ⟨rfl, by rw [(Hgo : _ = _), this]⟩
     ·intro hm
      have := ((Hmf : _ → _) hm).1
      rw [(Hgo : _ = _), this]
      rfl
     ·exact actM_lt fun q => ((Hmt : _ → _) q).2
   ·obtain ⟨rfl, hres2⟩ := hres rfl
    replace hKO := hKO rfl
    clear hres
    have hk1 := hK.lt
    have hc := cut_ok rest 32 wr (by omega)
    obtain ⟨⟨a, b, m⟩, hq⟩ : ∃ q, cut3 32 rest = q := ⟨_, rfl⟩
    rw [hq] at hc
    obtain ⟨r, hsp, hmt, hmf⟩ := cut_parts hq
    rw [hsp] at hres2
    have hal := part_le hsp
    have hbl : (m = true → b.size < rest.size) ∧ b.size ≤ rest.size := by
     cases m with
     | true => have := (hmt rfl).2; exact ⟨fun _ => this, by omega⟩
     | false => have := (hmf rfl).2.2; rw [this]; exact ⟨(fun q => by cases q), Nat.zero_le _⟩
    have hlen2 : a.size ≠ 0 → A.names.length + 1 + b.size ≤ line.size := fun h0 => by
     cases m with
     | true => have := (hmt rfl).2; omega
     | false => have h1 := (hmf rfl).2.2; rw [h1]; show A.names.length + 1 + 0 ≤ _; omega
    have hr : (m = true → r = splitB 32 b) ∧ (m = false → r = []) := ⟨fun q => (hmt q).1, fun q => (hmf q).1⟩
    obtain ⟨ao, cap, rfl⟩ := own_slice hO
    have Hc := Lib.hid hc
    have HW := Lib.hid hW
    have HO := Lib.hid hO
    have HK := Lib.hid hK
    have Hsp := Lib.hid hsp
    have HKO := Lib.hid hKO
    have Hres := Lib.hid hres2
    have Hmr := Lib.hid hr
    have Hbl := Lib.hid hbl
    have Hlen2 := Lib.hid hlen2
    have Hal := Lib.hid hal
    have Hlen := Lib.hid hlen
    clear hc hW hO hK hKO hsp hmt hmf hq hres2 hr hbl hlen2 hal hlen
    go_wp2_with fail
    refine Calls.mono Hc ?_
    rintro e w1 ⟨rfl, hb1⟩
    have HW1 := Lib.hid (Whole.on HW hb1)
    have HO1 := Lib.hid (own_on HO hb1)
    have HK1 := Lib.hid (StrKeys.on HK hb1)
    have Hr1 := Lib.hid (Whole.on Hr hb1)
    have Hb1 := Lib.hid ((Hb : Below w.heap.size w wr).trans (hb1.mono hbs))
    have hs1 : w.heap.size ≤ w1.heap.size := Nat.le_trans hbs hb1.size
    clear hb1
    have hfc := field_ok a w1
    rcases fieldN_le a with hk | hk | hk | hk | hk
    ·have e : (fmark a = ⟨#[]⟩ ∧ fval a = ⟨#[]⟩) ∧ (!(fieldN a == 0)) = false := by unfold fmark fval; rw [hk]; exact ⟨⟨rfl, rfl⟩, rfl⟩
     rw [e.1.1, e.1.2, e.2] at hfc
     have Hfc := Lib.hid hfc
     have Hk := Lib.hid hk
     clear hfc hk e
     by_cases ha : a = ⟨#[]⟩
     ·subst ha
      have Hno : Hid (actOf line = none) := by show _ = _; rw [(Hres : _ = _), go_empty]; rfl
      go_wp2_with fail
      refine Calls.mono Hfc ?_
      rintro e w2 ⟨rfl, rfl⟩
      have Hth := Lib.hid (there19 Hr1 rfl)
      have hR3 := Whole.fillAll Hr1 (cs' := zeroC) rfl
      have hb3 := below_cells Hb1 (Nat.le_refl _) hs1 zeroC.toList
      have hzs := zero_sz
      generalize hZ : zeroC = Z at hR3 hb3 hzs
      have HZ := Lib.hid hZ
      have Hzs := Lib.hid hzs
      have HR3 := Lib.hid hR3
      have Hb3 := Lib.hid hb3
      clear hR3 hb3 hZ hzs
      go_wp2_with ((with_reducible refine list_storeZ w.heap.size 0 Z HZ Hth ?_ ?_ ?_ ?_ ?_); all_goals try rfl)
      show bodyPost Tryz.prog Tryz.f16 (ActPost line w) Exit.ret _ _
      refine bodyPost_ret (v := .tuple #[.agg Z, .bool false]) (results_act rfl _ _ w.heap.size Z _ rfl HR3 Hzs rfl) rfl ?_
      exact actPost_none Hno (by rw [(HZ : _ = Z)]) Hb3
     ·have hane := isEmpty_no ha
      have Ha := Lib.hid ha
      clear ha
      by_cases hks : ks = []
      ·have Hks : Hid (A.s1 = false ∧ A.s2 = false ∧ A.s3 = false) := (HKO : KeysOf A ks).2.2.2.2.1 hks
       subst hks
       have hln : (Builtin.len_ #[70] 3 #[.map (some (w.heap.size + 1 + 1))]).run Tryz.prog w1 = .ok (.int .i64 0) w1 := run_len_str (P := Tryz.prog) Tryz.underlying70 HK1 #[70] rfl 3
       have Hgo : actOf line = (actGo r { A with names := A.names ++ [a] }).map fun p => (wd, p.1, p.2) := by rw [(Hres : _ = _), go_name r Ha Hk Hks]
       have hnm : A.names.length ≤ 1000000 := by
        have h1 : A.names.length + rest.size ≤ line.size := Hlen
        omega
       have h0 : a.size ≠ 0 := fun e => (Ha : ¬ a = ⟨#[]⟩) (by cases a with | mk d => exact congrArg ByteArray.mk (Array.size_eq_zero_iff.1 e))
       have Hlen3 := Lib.hid ((Hlen2 : a.size ≠ 0 → _) h0)
       have hc1 : w1.cell? ⟨w.heap.size + 1, 1, none⟩ = some (.slice ao A.names.length cap) := Whole.cell HW1 1
       have HownB := Lib.hid (World.ownsRow.alloc (HO1 : w1.ownsRow w.heap.size 9 1 _ _ _) (.cells #[.string a] 9))
       have HnewB := Lib.hid (Whole.new w1 9 #[.string a])
       have hbs2 : w.heap.size ≤ (w1.alloc (.cells #[.string a] 9)).heap.size := by rw [World.size_alloc]; omega
       have HbB := Lib.hid ((Hb1 : Below w.heap.size w w1).alloc hs1 (.cells #[.string a] 9))
       have hgrow := (Below.refl w1.heap.size w1).alloc (Nat.le_refl _) (.cells #[.string a] 9)
       have HWB := Lib.hid (Whole.on HW1 hgrow)
       have HrB := Lib.hid (Whole.on Hr1 hgrow)
       have HKB := Lib.hid (StrKeys.on HK1 hgrow)
       obtain ⟨N, hN⟩ : ∃ N, N = A.names ++ [a] := ⟨_, rfl⟩
       rw [← hN] at Hgo
       have Htt := Lib.hid hN
       have Hgo2 := Lib.hid Hgo
       clear hN Hgo
       clear hgrow h0
       go_wp2_with fail
       refine Calls.mono Hfc ?_
       rintro e w2 ⟨rfl, rfl⟩
       go_wp2_with (at_builtin; go_loud (refine list_pushS rfl _ _ rfl w.heap.size _ A.names N rfl HownB w2.heap.size 1 a rfl HnewB Htt hnm hbs2 ?_))
       intro g3 cap3 w3 hown3 hg3
       have hne1 := own_ne HownB HWB (by decide)
       have hne0 := own_ne HownB HrB (by decide)
       have hneK := keys_ne_own HownB HKB
       have hW3 := Whole.off HWB hg3 hne1
       have hr3 := Whole.off HrB hg3 hne0
       have hK3 := StrKeys.grown HKB hg3 hneK
       have hb3 := below_append HbB hbs2 HownB hg3
       have hs3 : w.heap.size ≤ w3.heap.size := hb3.size
       have hc3 : w3.cell? ⟨w.heap.size + 1, 1, none⟩ = some (.slice ao A.names.length cap) := hW3.cell 1
       have hf3 := hW3.free 1
       have hgr := setCells_off (g := w.heap.size + 1) [.slice (some ⟨g3, 0, none⟩) N.length cap3] 1 w3 w3 (some (w.heap.size + 1)) (World.grownBy.refl w3 _) (.inr rfl)
       have HW4 : Hid (Whole (w3.setCell ⟨w.heap.size + 1, 1, none⟩ (.slice (some ⟨g3, 0, none⟩) N.length cap3)) (w.heap.size + 1) 37 (actC wd (.slice (some ⟨g3, 0, none⟩) N.length cap3) A.n ⟨#[]⟩ A.cn A.tg)) := Whole.put hW3 1 _
       have HO4 : Hid ((w3.setCell ⟨w.heap.size + 1, 1, none⟩ (.slice (some ⟨g3, 0, none⟩) N.length cap3)).ownsRow w.heap.size 9 1 (.slice (some ⟨g3, 0, none⟩) N.length cap3) N.length (N.map Value.string)) := own_off hown3 hgr hW3 (by decide)
       have HK4 : Hid (StrKeys (w3.setCell ⟨w.heap.size + 1, 1, none⟩ (.slice (some ⟨g3, 0, none⟩) N.length cap3)) (w.heap.size + 2) []) := StrKeys.grown hK3 hgr (fun q => keys_ne_whole hW3 hK3 (by injection q with q; exact q.symm))
       have Hr4 : Hid (Whole (w3.setCell ⟨w.heap.size + 1, 1, none⟩ (.slice (some ⟨g3, 0, none⟩) N.length cap3)) w.heap.size 37 zeroC) := Whole.far hr3 (p := ⟨w.heap.size + 1, 1, none⟩) (by simp) _
       have Hb4 : Hid (Below w.heap.size w (w3.setCell ⟨w.heap.size + 1, 1, none⟩ (.slice (some ⟨g3, 0, none⟩) N.length cap3))) := Below.setCell hb3 (p := ⟨w.heap.size + 1, 1, none⟩) (by show w.heap.size ≤ w.heap.size + 1; omega) _
       clear hne1 hne0 hneK hW3 hr3 hK3 hb3 hgr hown3 hg3
       go_wp2_with fail
       refine ⟨⟨b, m, rfl, rfl, Hr4, Hb4, .inr ⟨rfl, wd, { A with names := N }, ⟨#[]⟩, .slice (some ⟨g3, 0, none⟩) N.length cap3, [], HW4, HO4, HK4, fun _ => HKO, ?_, ?_, ?_⟩⟩, actM_lt (Hbl : _ ∧ _).1⟩
       ·show N.length + b.size ≤ _
        have e : N.length = A.names.length + 1 := by rw [(Htt : _ = _)]; simp
        rw [e]
        exact Hlen3
       ·intro hm
        exact ⟨rfl, by rw [(Hgo2 : _ = _), ((Hmr : _ ∧ _).1 hm)]⟩
       ·intro hm
        rw [(Hgo2 : _ = _), ((Hmr : _ ∧ _).2 hm)]
        rfl
      ·have Hks : Hid (¬ (A.s1 = false ∧ A.s2 = false ∧ A.s3 = false)) := fun q => hks ((HKO : KeysOf A ks).2.2.2.2.2 q)
       have hln : (Builtin.len_ #[70] 3 #[.map (some (w.heap.size + 1 + 1))]).run Tryz.prog w1 = .ok (.int .i64 ks.length) w1 := run_len_str (P := Tryz.prog) Tryz.underlying70 HK1 #[70] rfl 3
       have hlp : (0 : Int) < (ks.length : Int) := by
        have := List.length_pos_iff.2 hks
        omega
       have Hno : Hid (actOf line = none) := by show _ = _; rw [(Hres : _ = _), go_name_bad r Hk Hks]; rfl
       clear hks
       generalize ks.length = L at *
       go_wp2_with fail
       refine Calls.mono Hfc ?_
       rintro e w2 ⟨rfl, rfl⟩
       have Hth := Lib.hid (there19 Hr1 rfl)
       have hR3 := Whole.fillAll Hr1 (cs' := zeroC) rfl
       have hb3 := below_cells Hb1 (Nat.le_refl _) hs1 zeroC.toList
       have hzs := zero_sz
       generalize hZ : zeroC = Z at hR3 hb3 hzs
       have HZ := Lib.hid hZ
       have Hzs := Lib.hid hzs
       have HR3 := Lib.hid hR3
       have Hb3 := Lib.hid hb3
       clear hR3 hb3 hZ hzs
       go_wp2_with ((with_reducible refine list_storeZ w.heap.size 0 Z HZ Hth ?_ ?_ ?_ ?_ ?_); all_goals try rfl)
       show bodyPost Tryz.prog Tryz.f16 (ActPost line w) Exit.ret _ _
       refine bodyPost_ret (v := .tuple #[.agg Z, .bool false]) (results_act rfl _ _ w.heap.size Z _ rfl HR3 Hzs rfl) rfl ?_
       exact actPost_none Hno (by rw [(HZ : _ = Z)]) Hb3
    ·have hane := isEmpty_no (fieldN_ne (s := a) (by omega))
     have e : fmark a = ⟨#[110, 61]⟩ ∧ (!(fieldN a == 0)) = true := by unfold fmark; rw [hk]; exact ⟨rfl, rfl⟩
     rw [e.1, e.2] at hfc
     obtain ⟨V, hV⟩ : ∃ V, fval a = V := ⟨_, rfl⟩
     rw [hV] at hfc
     have hkey : (mark 0 ∈ ks ↔ A.s1 = true) := (HKO : KeysOf A ks).1
     have hlk : (Instr.lookup 70 (.map (some (w.heap.size + 1 + 1))) (.string ⟨#[110, 61]⟩) false).run Tryz.prog w1 = .ok (.bool (decide (⟨#[110, 61]⟩ ∈ ks))) w1 := look_mark HK1 ⟨#[110, 61]⟩
     have Hfc := Lib.hid hfc
     have Hk := Lib.hid hk
     clear hfc hk e
     by_cases hs : A.s1 = true
     ·have e1 : decide ((⟨#[110, 61]⟩ : ByteArray) ∈ ks) = true := decide_eq_true (hkey.2 hs)
      rw [e1] at hlk
      have Hno : Hid (actOf line = none) := by show _ = _; rw [(Hres : _ = _), go_n_bad r Hk hs]; rfl
      clear hkey hs e1 hV
      go_wp2_with fail
      refine Calls.mono Hfc ?_
      rintro e w2 ⟨rfl, rfl⟩
      have Hth := Lib.hid (there19 Hr1 rfl)
      have hR3 := Whole.fillAll Hr1 (cs' := zeroC) rfl
      have hb3 := below_cells Hb1 (Nat.le_refl _) hs1 zeroC.toList
      have hzs := zero_sz
      generalize hZ : zeroC = Z at hR3 hb3 hzs
      have HZ := Lib.hid hZ
      have Hzs := Lib.hid hzs
      have HR3 := Lib.hid hR3
      have Hb3 := Lib.hid hb3
      clear hR3 hb3 hZ hzs
      go_wp2_with ((with_reducible refine list_storeZ w.heap.size 0 Z HZ Hth ?_ ?_ ?_ ?_ ?_); all_goals try rfl)
      show bodyPost Tryz.prog Tryz.f16 (ActPost line w) Exit.ret _ _
      refine bodyPost_ret (v := .tuple #[.agg Z, .bool false]) (results_act rfl _ _ w.heap.size Z _ rfl HR3 Hzs rfl) rfl ?_
      exact actPost_none Hno (by rw [(HZ : _ = Z)]) Hb3
     ·have hnk : (⟨#[110, 61]⟩ : ByteArray) ∉ ks := fun q => hs (hkey.1 q)
      have e1 : decide ((⟨#[110, 61]⟩ : ByteArray) ∈ ks) = false := decide_eq_false hnk
      rw [e1] at hlk
      have Hnk := Lib.hid hnk
      have Hs : Hid (A.s1 = false) := by show _ = _; simpa using hs
      have HV := Lib.hid hV
      clear hkey hs e1 hnk hV
      go_wp2_with fail
      refine Calls.mono Hfc ?_
      rintro e w2 ⟨rfl, rfl⟩
      go_wp2_with (at_mapUpdate; go_loud (refine wpList_update_str rfl _ _ _ 70 9 4 rfl Tryz.underlying70 under9 (w.heap.size + 2) ks HK1 rfl ⟨#[110, 61]⟩ rfl Hnk rfl ?_))
      intro w3 hK3 hg3
      have hne1 := keys_ne_whole HW1 HK1
      have hne0 := keys_ne_whole Hr1 HK1
      have HW3 := Lib.hid (Whole.off HW1 hg3 (fun q => hne1 (by injection q)))
      have Hr3 := Lib.hid (Whole.off Hr1 hg3 (fun q => hne0 (by injection q)))
      have HO3 := Lib.hid (own_keys HO1 HK1 hg3)
      have Hb3' := Lib.hid (below_row Hb1 hg3 (by omega) hs1)
      have HK3 := Lib.hid hK3
      have hs3 : w.heap.size ≤ w3.heap.size := (Hb3' : Below w.heap.size w w3).size
      have hst := set_n (w.heap.size + 1) wd ⟨#[]⟩ (.slice ao A.names.length cap) A.n A.cn A.tg V w3 HW3
      obtain ⟨N, hN⟩ : ∃ N, (numP V.data.toList).getD 0 = N := ⟨_, rfl⟩
      obtain ⟨B, hB⟩ : ∃ B, (numP V.data.toList).isSome = B := ⟨_, rfl⟩
      rw [hN, hB] at hst
      have Hst := Lib.hid hst
      have HN := Lib.hid hN
      have HB := Lib.hid hB
      clear hK3 hg3 hne1 hne0 hlk hst hN hB
      go_wp2_with fail
      refine Calls.mono Hst ?_
      rintro e w4 ⟨rfl, hW4, hg4⟩
      have hr4 := Whole.off Hr3 hg4 (by simp)
      have hO4 := own_off HO3 hg4 HW3 (by decide)
      have hK4 := StrKeys.grown HK3 hg4 (by simp)
      have hb4 := below_row Hb3' hg4 (by omega) hs3
      have hs4 : w.heap.size ≤ w4.heap.size := hb4.size
      have HW4 := Lib.hid hW4
      have Hr4 := Lib.hid hr4
      have HO4 := Lib.hid hO4
      have HK4 := Lib.hid hK4
      have Hb4 := Lib.hid hb4
      clear hW4 hg4 hr4 hO4 hK4 hb4
      cases B with
      | false =>
       have hnone : numP (fval a).data.toList = none := by
        rw [(HV : _ = V)]
        exact Option.isSome_eq_false_iff.1 HB |> Option.isNone_iff_eq_none.1
       have Hno : Hid (actOf line = none) := by show _ = _; rw [(Hres : _ = _), go_n_no r Hk Hs hnone]; rfl
       clear hnone
       have Hth := Lib.hid (there19 Hr4 rfl)
       have hR3 := Whole.fillAll Hr4 (cs' := zeroC) rfl
       have hb3 := below_cells Hb4 (Nat.le_refl _) hs4 zeroC.toList
       have hzs := zero_sz
       generalize hZ : zeroC = Z at hR3 hb3 hzs
       have HZ := Lib.hid hZ
       have Hzs := Lib.hid hzs
       have HR3 := Lib.hid hR3
       have Hb3 := Lib.hid hb3
       clear hR3 hb3 hZ hzs
       go_wp2_with ((with_reducible refine list_storeZ w.heap.size 0 Z HZ Hth ?_ ?_ ?_ ?_ ?_); all_goals try rfl)
       show bodyPost Tryz.prog Tryz.f16 (ActPost line w) Exit.ret _ _
       refine bodyPost_ret (v := .tuple #[.agg Z, .bool false]) (results_act rfl _ _ w.heap.size Z _ rfl HR3 Hzs rfl) rfl ?_
       exact actPost_none Hno (by rw [(HZ : _ = Z)]) Hb3
      | true =>
       have hsome : numP (fval a).data.toList = some N := by
        rw [(HV : _ = V)]
        obtain ⟨x, hx⟩ := Option.isSome_iff_exists.1 (HB : _ = true)
        rw [hx] at HN ⊢
        exact congrArg some HN
       have Hgo : Hid (actOf line = (actGo r { A with n := N, s1 := true }).map fun p => (wd, p.1, p.2)) := by show _ = _; rw [(Hres : _ = _), go_n_yes r Hk Hs hsome]
       have HKO2 := Lib.hid (keys_n HKO N)
       have Hne : Hid (a.size ≠ 0) := fun e => by
        have := isEmpty_no_size hane
        exact this e
       have Hlen3 := Lib.hid ((Hlen2 : a.size ≠ 0 → _) Hne)
       clear hsome
       go_wp2_with fail
       refine ⟨⟨b, m, rfl, rfl, Hr4, Hb4, .inr ⟨rfl, wd, { A with n := N, s1 := true }, ⟨#[]⟩, .slice ao A.names.length cap, ks ++ [mark 0], HW4, HO4, HK4, fun _ => HKO2, ?_, ?_, ?_⟩⟩, actM_lt (Hbl : _ ∧ _).1⟩
       ·have h1 : A.names.length + 1 + b.size ≤ line.size := Hlen3
        show A.names.length + b.size ≤ _
        omega
       ·intro hm
        exact ⟨rfl, by rw [(Hgo : _ = _), ((Hmr : _ ∧ _).1 hm)]⟩
       ·intro hm
        rw [(Hgo : _ = _), ((Hmr : _ ∧ _).2 hm)]
        rfl
    ·have hane := isEmpty_no (fieldN_ne (s := a) (by omega))
     have e : fmark a = ⟨#[99, 61]⟩ ∧ (!(fieldN a == 0)) = true := by unfold fmark; rw [hk]; exact ⟨rfl, rfl⟩
     rw [e.1, e.2] at hfc
     obtain ⟨V, hV⟩ : ∃ V, fval a = V := ⟨_, rfl⟩
     rw [hV] at hfc
     have hkey : (mark 1 ∈ ks ↔ A.s2 = true) := (HKO : KeysOf A ks).2.1
     have hlk : (Instr.lookup 70 (.map (some (w.heap.size + 1 + 1))) (.string ⟨#[99, 61]⟩) false).run Tryz.prog w1 = .ok (.bool (decide (⟨#[99, 61]⟩ ∈ ks))) w1 := look_mark HK1 ⟨#[99, 61]⟩
     have Hfc := Lib.hid hfc
     have Hk := Lib.hid hk
     clear hfc hk e
     by_cases hs : A.s2 = true
     ·have e1 : decide ((⟨#[99, 61]⟩ : ByteArray) ∈ ks) = true := decide_eq_true (hkey.2 hs)
      rw [e1] at hlk
      have Hno : Hid (actOf line = none) := by show _ = _; rw [(Hres : _ = _), go_c_bad r Hk hs]; rfl
      clear hkey hs e1 hV
      go_wp2_with fail
      refine Calls.mono Hfc ?_
      rintro e w2 ⟨rfl, rfl⟩
      have Hth := Lib.hid (there19 Hr1 rfl)
      have hR3 := Whole.fillAll Hr1 (cs' := zeroC) rfl
      have hb3 := below_cells Hb1 (Nat.le_refl _) hs1 zeroC.toList
      have hzs := zero_sz
      generalize hZ : zeroC = Z at hR3 hb3 hzs
      have HZ := Lib.hid hZ
      have Hzs := Lib.hid hzs
      have HR3 := Lib.hid hR3
      have Hb3 := Lib.hid hb3
      clear hR3 hb3 hZ hzs
      go_wp2_with ((with_reducible refine list_storeZ w.heap.size 0 Z HZ Hth ?_ ?_ ?_ ?_ ?_); all_goals try rfl)
      show bodyPost Tryz.prog Tryz.f16 (ActPost line w) Exit.ret _ _
      refine bodyPost_ret (v := .tuple #[.agg Z, .bool false]) (results_act rfl _ _ w.heap.size Z _ rfl HR3 Hzs rfl) rfl ?_
      exact actPost_none Hno (by rw [(HZ : _ = Z)]) Hb3
     ·have hnk : (⟨#[99, 61]⟩ : ByteArray) ∉ ks := fun q => hs (hkey.1 q)
      have e1 : decide ((⟨#[99, 61]⟩ : ByteArray) ∈ ks) = false := decide_eq_false hnk
      rw [e1] at hlk
      have Hnk := Lib.hid hnk
      have Hs : Hid (A.s2 = false) := by show _ = _; simpa using hs
      have HV := Lib.hid hV
      clear hkey hs e1 hnk hV
      go_wp2_with fail
      refine Calls.mono Hfc ?_
      rintro e w2 ⟨rfl, rfl⟩
      go_wp2_with (at_mapUpdate; go_loud (refine wpList_update_str rfl _ _ _ 70 9 4 rfl Tryz.underlying70 under9 (w.heap.size + 2) ks HK1 rfl ⟨#[99, 61]⟩ rfl Hnk rfl ?_))
      intro w3 hK3 hg3
      have hne1 := keys_ne_whole HW1 HK1
      have hne0 := keys_ne_whole Hr1 HK1
      have HW3 := Lib.hid (Whole.off HW1 hg3 (fun q => hne1 (by injection q)))
      have Hr3 := Lib.hid (Whole.off Hr1 hg3 (fun q => hne0 (by injection q)))
      have HO3 := Lib.hid (own_keys HO1 HK1 hg3)
      have Hb3' := Lib.hid (below_row Hb1 hg3 (by omega) hs1)
      have HK3 := Lib.hid hK3
      have hs3 : w.heap.size ≤ w3.heap.size := (Hb3' : Below w.heap.size w w3).size
      have hst := set_c (w.heap.size + 1) wd ⟨#[]⟩ (.slice ao A.names.length cap) A.n A.cn A.tg V w3 HW3
      obtain ⟨N, hN⟩ : ∃ N, (numP V.data.toList).getD 0 = N := ⟨_, rfl⟩
      obtain ⟨B, hB⟩ : ∃ B, (numP V.data.toList).isSome = B := ⟨_, rfl⟩
      rw [hN, hB] at hst
      have Hst := Lib.hid hst
      have HN := Lib.hid hN
      have HB := Lib.hid hB
      clear hK3 hg3 hne1 hne0 hlk hst hN hB
      go_wp2_with fail
      refine Calls.mono Hst ?_
      rintro e w4 ⟨rfl, hW4, hg4⟩
      have hr4 := Whole.off Hr3 hg4 (by simp)
      have hO4 := own_off HO3 hg4 HW3 (by decide)
      have hK4 := StrKeys.grown HK3 hg4 (by simp)
      have hb4 := below_row Hb3' hg4 (by omega) hs3
      have hs4 : w.heap.size ≤ w4.heap.size := hb4.size
      have HW4 := Lib.hid hW4
      have Hr4 := Lib.hid hr4
      have HO4 := Lib.hid hO4
      have HK4 := Lib.hid hK4
      have Hb4 := Lib.hid hb4
      clear hW4 hg4 hr4 hO4 hK4 hb4
      cases B with
      | false =>
       have hnone : numP (fval a).data.toList = none := by
        rw [(HV : _ = V)]
        exact Option.isSome_eq_false_iff.1 HB |> Option.isNone_iff_eq_none.1
       have Hno : Hid (actOf line = none) := by show _ = _; rw [(Hres : _ = _), go_c_no r Hk Hs hnone]; rfl
       clear hnone
       have Hth := Lib.hid (there19 Hr4 rfl)
       have hR3 := Whole.fillAll Hr4 (cs' := zeroC) rfl
       have hb3 := below_cells Hb4 (Nat.le_refl _) hs4 zeroC.toList
       have hzs := zero_sz
       generalize hZ : zeroC = Z at hR3 hb3 hzs
       have HZ := Lib.hid hZ
       have Hzs := Lib.hid hzs
       have HR3 := Lib.hid hR3
       have Hb3 := Lib.hid hb3
       clear hR3 hb3 hZ hzs
       go_wp2_with ((with_reducible refine list_storeZ w.heap.size 0 Z HZ Hth ?_ ?_ ?_ ?_ ?_); all_goals try rfl)
       show bodyPost Tryz.prog Tryz.f16 (ActPost line w) Exit.ret _ _
       refine bodyPost_ret (v := .tuple #[.agg Z, .bool false]) (results_act rfl _ _ w.heap.size Z _ rfl HR3 Hzs rfl) rfl ?_
       exact actPost_none Hno (by rw [(HZ : _ = Z)]) Hb3
      | true =>
       have hsome : numP (fval a).data.toList = some N := by
        rw [(HV : _ = V)]
        obtain ⟨x, hx⟩ := Option.isSome_iff_exists.1 (HB : _ = true)
        rw [hx] at HN ⊢
        exact congrArg some HN
       have Hgo : Hid (actOf line = (actGo r { A with cn := N, s2 := true }).map fun p => (wd, p.1, p.2)) := by show _ = _; rw [(Hres : _ = _), go_c_yes r Hk Hs hsome]
       have HKO2 := Lib.hid (keys_c HKO N)
       have Hne : Hid (a.size ≠ 0) := fun e => by
        have := isEmpty_no_size hane
        exact this e
       have Hlen3 := Lib.hid ((Hlen2 : a.size ≠ 0 → _) Hne)
       clear hsome
       go_wp2_with fail
       refine ⟨⟨b, m, rfl, rfl, Hr4, Hb4, .inr ⟨rfl, wd, { A with cn := N, s2 := true }, ⟨#[]⟩, .slice ao A.names.length cap, ks ++ [mark 1], HW4, HO4, HK4, fun _ => HKO2, ?_, ?_, ?_⟩⟩, actM_lt (Hbl : _ ∧ _).1⟩
       ·have h1 : A.names.length + 1 + b.size ≤ line.size := Hlen3
        show A.names.length + b.size ≤ _
        omega
       ·intro hm
        exact ⟨rfl, by rw [(Hgo : _ = _), ((Hmr : _ ∧ _).1 hm)]⟩
       ·intro hm
        rw [(Hgo : _ = _), ((Hmr : _ ∧ _).2 hm)]
        rfl
    ·have hane := isEmpty_no (fieldN_ne (s := a) (by omega))
     have e : fmark a = ⟨#[116, 111, 61]⟩ ∧ (!(fieldN a == 0)) = true := by unfold fmark; rw [hk]; exact ⟨rfl, rfl⟩
     rw [e.1, e.2] at hfc
     obtain ⟨V, hV⟩ : ∃ V, fval a = V := ⟨_, rfl⟩
     rw [hV] at hfc
     have hkey : (mark 2 ∈ ks ↔ A.s3 = true) := (HKO : KeysOf A ks).2.2.1
     have hlk : (Instr.lookup 70 (.map (some (w.heap.size + 1 + 1))) (.string ⟨#[116, 111, 61]⟩) false).run Tryz.prog w1 = .ok (.bool (decide (⟨#[116, 111, 61]⟩ ∈ ks))) w1 := look_mark HK1 ⟨#[116, 111, 61]⟩
     have Hfc := Lib.hid hfc
     have Hk := Lib.hid hk
     clear hfc hk e
     by_cases hs : A.s3 = true
     ·have e1 : decide ((⟨#[116, 111, 61]⟩ : ByteArray) ∈ ks) = true := decide_eq_true (hkey.2 hs)
      rw [e1] at hlk
      have Hno : Hid (actOf line = none) := by show _ = _; rw [(Hres : _ = _), go_to_bad r Hk hs]; rfl
      clear hkey hs e1 hV
      go_wp2_with fail
      refine Calls.mono Hfc ?_
      rintro e w2 ⟨rfl, rfl⟩
      have Hth := Lib.hid (there19 Hr1 rfl)
      have hR3 := Whole.fillAll Hr1 (cs' := zeroC) rfl
      have hb3 := below_cells Hb1 (Nat.le_refl _) hs1 zeroC.toList
      have hzs := zero_sz
      generalize hZ : zeroC = Z at hR3 hb3 hzs
      have HZ := Lib.hid hZ
      have Hzs := Lib.hid hzs
      have HR3 := Lib.hid hR3
      have Hb3 := Lib.hid hb3
      clear hR3 hb3 hZ hzs
      go_wp2_with ((with_reducible refine list_storeZ w.heap.size 0 Z HZ Hth ?_ ?_ ?_ ?_ ?_); all_goals try rfl)
      show bodyPost Tryz.prog Tryz.f16 (ActPost line w) Exit.ret _ _
      refine bodyPost_ret (v := .tuple #[.agg Z, .bool false]) (results_act rfl _ _ w.heap.size Z _ rfl HR3 Hzs rfl) rfl ?_
      exact actPost_none Hno (by rw [(HZ : _ = Z)]) Hb3
     ·have hnk : (⟨#[116, 111, 61]⟩ : ByteArray) ∉ ks := fun q => hs (hkey.1 q)
      have e1 : decide ((⟨#[116, 111, 61]⟩ : ByteArray) ∈ ks) = false := decide_eq_false hnk
      rw [e1] at hlk
      have Hnk := Lib.hid hnk
      have Hs : Hid (A.s3 = false) := by show _ = _; simpa using hs
      have HV := Lib.hid hV
      clear hkey hs e1 hnk hV
      go_wp2_with fail
      refine Calls.mono Hfc ?_
      rintro e w2 ⟨rfl, rfl⟩
      go_wp2_with (at_mapUpdate; go_loud (refine wpList_update_str rfl _ _ _ 70 9 4 rfl Tryz.underlying70 under9 (w.heap.size + 2) ks HK1 rfl ⟨#[116, 111, 61]⟩ rfl Hnk rfl ?_))
      intro w3 hK3 hg3
      have hne1 := keys_ne_whole HW1 HK1
      have hne0 := keys_ne_whole Hr1 HK1
      have HW3 := Lib.hid (Whole.off HW1 hg3 (fun q => hne1 (by injection q)))
      have Hr3 := Lib.hid (Whole.off Hr1 hg3 (fun q => hne0 (by injection q)))
      have HO3 := Lib.hid (own_keys HO1 HK1 hg3)
      have Hb3' := Lib.hid (below_row Hb1 hg3 (by omega) hs1)
      have HK3 := Lib.hid hK3
      have hs3 : w.heap.size ≤ w3.heap.size := (Hb3' : Below w.heap.size w w3).size
      have hst := set_to (w.heap.size + 1) wd ⟨#[]⟩ (.slice ao A.names.length cap) A.n A.cn A.tg V w3 HW3
      obtain ⟨N, hN⟩ : ∃ N, (hexP V.data.toList).getD 0 = N := ⟨_, rfl⟩
      obtain ⟨B, hB⟩ : ∃ B, (hexP V.data.toList).isSome = B := ⟨_, rfl⟩
      rw [hN, hB] at hst
      have Hst := Lib.hid hst
      have HN := Lib.hid hN
      have HB := Lib.hid hB
      clear hK3 hg3 hne1 hne0 hlk hst hN hB
      go_wp2_with fail
      refine Calls.mono Hst ?_
      rintro e w4 ⟨rfl, hW4, hg4⟩
      have hr4 := Whole.off Hr3 hg4 (by simp)
      have hO4 := own_off HO3 hg4 HW3 (by decide)
      have hK4 := StrKeys.grown HK3 hg4 (by simp)
      have hb4 := below_row Hb3' hg4 (by omega) hs3
      have hs4 : w.heap.size ≤ w4.heap.size := hb4.size
      have HW4 := Lib.hid hW4
      have Hr4 := Lib.hid hr4
      have HO4 := Lib.hid hO4
      have HK4 := Lib.hid hK4
      have Hb4 := Lib.hid hb4
      clear hW4 hg4 hr4 hO4 hK4 hb4
      cases B with
      | false =>
       have hnone : hexP (fval a).data.toList = none := by
        rw [(HV : _ = V)]
        exact Option.isSome_eq_false_iff.1 HB |> Option.isNone_iff_eq_none.1
       have Hno : Hid (actOf line = none) := by show _ = _; rw [(Hres : _ = _), go_to_no r Hk Hs hnone]; rfl
       clear hnone
       have Hth := Lib.hid (there19 Hr4 rfl)
       have hR3 := Whole.fillAll Hr4 (cs' := zeroC) rfl
       have hb3 := below_cells Hb4 (Nat.le_refl _) hs4 zeroC.toList
       have hzs := zero_sz
       generalize hZ : zeroC = Z at hR3 hb3 hzs
       have HZ := Lib.hid hZ
       have Hzs := Lib.hid hzs
       have HR3 := Lib.hid hR3
       have Hb3 := Lib.hid hb3
       clear hR3 hb3 hZ hzs
       go_wp2_with ((with_reducible refine list_storeZ w.heap.size 0 Z HZ Hth ?_ ?_ ?_ ?_ ?_); all_goals try rfl)
       show bodyPost Tryz.prog Tryz.f16 (ActPost line w) Exit.ret _ _
       refine bodyPost_ret (v := .tuple #[.agg Z, .bool false]) (results_act rfl _ _ w.heap.size Z _ rfl HR3 Hzs rfl) rfl ?_
       exact actPost_none Hno (by rw [(HZ : _ = Z)]) Hb3
      | true =>
       have hsome : hexP (fval a).data.toList = some N := by
        rw [(HV : _ = V)]
        obtain ⟨x, hx⟩ := Option.isSome_iff_exists.1 (HB : _ = true)
        rw [hx] at HN ⊢
        exact congrArg some HN
       have Hgo : Hid (actOf line = (actGo r { A with tg := N, s3 := true }).map fun p => (wd, p.1, p.2)) := by show _ = _; rw [(Hres : _ = _), go_to_yes r Hk Hs hsome]
       have HKO2 := Lib.hid (keys_to HKO N)
       have Hne : Hid (a.size ≠ 0) := fun e => by
        have := isEmpty_no_size hane
        exact this e
       have Hlen3 := Lib.hid ((Hlen2 : a.size ≠ 0 → _) Hne)
       clear hsome
       go_wp2_with fail
       refine ⟨⟨b, m, rfl, rfl, Hr4, Hb4, .inr ⟨rfl, wd, { A with tg := N, s3 := true }, ⟨#[]⟩, .slice ao A.names.length cap, ks ++ [mark 2], HW4, HO4, HK4, fun _ => HKO2, ?_, ?_, ?_⟩⟩, actM_lt (Hbl : _ ∧ _).1⟩
       ·have h1 : A.names.length + 1 + b.size ≤ line.size := Hlen3
        show A.names.length + b.size ≤ _
        omega
       ·intro hm
        exact ⟨rfl, by rw [(Hgo : _ = _), ((Hmr : _ ∧ _).1 hm)]⟩
       ·intro hm
        rw [(Hgo : _ = _), ((Hmr : _ ∧ _).2 hm)]
        rfl
    ·have hane := isEmpty_no (fieldN_ne (s := a) (by omega))
     have e : fmark a = ⟨#[116, 101, 120, 116, 61]⟩ ∧ (!(fieldN a == 0)) = true := by unfold fmark; rw [hk]; exact ⟨rfl, rfl⟩
     rw [e.1, e.2] at hfc
     obtain ⟨V, hV⟩ : ∃ V, fval a = V := ⟨_, rfl⟩
     rw [hV] at hfc
     have h5 := field_text hk
     have hr5 : 5 ≤ rest.size := Nat.le_trans h5 Hal
     have htx := textOf_eq Hsp h5
     have hlk : (Instr.lookup 70 (.map (some (w.heap.size + 1 + 1))) (.string ⟨#[116, 101, 120, 116, 61]⟩) false).run Tryz.prog w1 = .ok (.bool (decide (⟨#[116, 101, 120, 116, 61]⟩ ∈ ks))) w1 := look_mark HK1 ⟨#[116, 101, 120, 116, 61]⟩
     have hnk : (⟨#[116, 101, 120, 116, 61]⟩ : ByteArray) ∉ ks := (HKO : KeysOf A ks).2.2.2.1
     have e1 : decide ((⟨#[116, 101, 120, 116, 61]⟩ : ByteArray) ∈ ks) = false := decide_eq_false hnk
     rw [e1] at hlk
     have Hnk := Lib.hid hnk
     have Hgo : Hid (actOf line = some (wd, A, rest.extract 5 rest.size)) := by show _ = _; rw [(Hres : _ = _), go_text r A hk, htx]; rfl
     have Hfc := Lib.hid hfc
     clear hfc hk e hV h5 htx hnk e1
     go_wp2_with fail
     refine Calls.mono Hfc ?_
     rintro e w2 ⟨rfl, rfl⟩
     go_wp2_with (at_mapUpdate; go_loud (refine wpList_update_str rfl _ _ _ 70 9 4 rfl Tryz.underlying70 under9 (w.heap.size + 2) ks HK1 rfl ⟨#[116, 101, 120, 116, 61]⟩ rfl Hnk rfl ?_))
     intro w3 hK3 hg3
     have hne1 := keys_ne_whole HW1 HK1
     have hne0 := keys_ne_whole Hr1 HK1
     have HW3 := Lib.hid (Whole.off HW1 hg3 (fun q => hne1 (by injection q)))
     have Hr3 := Lib.hid (Whole.off Hr1 hg3 (fun q => hne0 (by injection q)))
     have HO3 := Lib.hid (own_keys HO1 HK1 hg3)
     have Hb3' := Lib.hid (below_row Hb1 hg3 (by omega) hs1)
     have HK3 := Lib.hid hK3
     have hs3 : w.heap.size ≤ w3.heap.size := (Hb3' : Below w.heap.size w w3).size
     have hst := set_text (w.heap.size + 1) wd ⟨#[]⟩ (.slice ao A.names.length cap) A.n A.cn A.tg (rest.extract 5 rest.size) w3 HW3
     have Hst := Lib.hid hst
     clear hK3 hg3 hne1 hne0 hlk hst
     go_wp2_with fail
     refine Calls.mono Hst ?_
     rintro e w4 ⟨rfl, hW4, hg4⟩
     have hr4 := Whole.off Hr3 hg4 (by simp)
     have hO4 := own_off HO3 hg4 HW3 (by decide)
     have hK4 := StrKeys.grown HK3 hg4 (by simp)
     have hb4 := below_row Hb3' hg4 (by omega) hs3
     have HW4 := Lib.hid hW4
     have Hr4 := Lib.hid hr4
     have HO4 := Lib.hid hO4
     have HK4 := Lib.hid hK4
     have Hb4 := Lib.hid hb4
     clear hW4 hg4 hr4 hO4 hK4 hb4
     go_wp2_with fail
     refine ⟨⟨b, false, rfl, rfl, Hr4, Hb4, .inr ⟨rfl, wd, A, rest.extract 5 rest.size, .slice ao A.names.length cap, ks ++ [mark 3], HW4, HO4, HK4, (fun q => by cases q), ?_, (fun q => by cases q), fun _ => Hgo⟩⟩, ?_⟩
     ·show A.names.length + b.size ≤ _
      have h1 : A.names.length + rest.size ≤ line.size := Hlen
      have h2 := (Hbl : _ ∧ _).2
      omega
     ·simp [actM, strOf]
end Go.Proofs.R50
end
