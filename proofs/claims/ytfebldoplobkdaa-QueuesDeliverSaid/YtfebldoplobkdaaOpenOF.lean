/- Open, the program: events are taken. -/
import Derived.Test.YtfebldoplobkdaaOpenF
namespace Go.Proofs.Ytfebldoplobkdaa
open Go.ChangeShapes Go.WideShapes Go.ChangeAt Go.RowKit

set_option maxRecDepth 100000 in
set_option maxHeartbeats 4000000 in
theorem qOpenFNewRoom (to : ByteArray) (next : Int) (ev op : Value) (fails at_ : Int) (now : Int) (eo ee : List (List Value)) (w : World) (ho : Evs w op eo) (he : Evs w ev ee) (hs : eo.length ≤ 100000 ∧ ee.length ≤ 100000) (hn : 0 ≤ next ∧ next ≤ 1000000000000) (ea : Option Addr) (ec : Nat) (hev : ev = .slice ea ee.length ec) (hec : ¬ ec = ee.length) (h0 : ¬ 0 < eo.length) (h1 : 0 < ee.length) (h50 : ee.length ≤ 50) (h2 : next < 1000000000000) :
    Calls Try.prog 16 #[.agg #[.string to, .int .i64 next, ev, op, .int .i64 fails, .int .i64 at_], .int .i64 now] w (OpenPostF ev to (next + 1) fails at_ ee ([] : List (List Value)) true w) := by
  obtain ⟨n1, n2⟩ := hn
  obtain ⟨s1, s2⟩ := hs
  obtain ⟨oa, oc, rfl, hoc1, hoc2⟩ := ho.form
  subst hev
  obtain ⟨hec1, hec2⟩ := he.caps
  have HE := fun (wx : World) (h : Below w.heap.size w wx) => he.on h
  have HO := fun (wx : World) (h : Below w.heap.size w wx) => ho.on h
  clear ho he
  have e1 : ((ee.length : Int) == 0) = false := beq_eq_false_iff_ne.2 (by omega)
  have e2 : ¬ (1000000000000 : Int) ≤ next := by omega
  have e3 : ¬ (50 : Int) < (ee.length : Int) := by omega
  have e4 : (ee.length : Int) ≤ (ec : Int) := by omega
  have M : Mid w ((((w.alloc (.cells #[.string to, .int .i64 next, (.slice ea ee.length ec), (.slice oa eo.length oc), .int .i64 fails, .int .i64 at_] 24)).alloc (.cells #[.string ⟨#[]⟩, .int .i64 0, .slice none 0 0, .slice none 0 0, .int .i64 0, .int .i64 0] 24)).alloc (.cells #[.string ⟨#[]⟩, .string ⟨#[]⟩, .int .i64 0, .int .i64 0, .string ⟨#[]⟩, .slice none 0 0, .slice none 0 0, .slice none 0 0, .string ⟨#[]⟩, .int .i64 0] 49)).alloc (.cells #[] 37)) #[.string to, .int .i64 next, (.slice ea ee.length ec), (.slice oa eo.length oc), .int .i64 fails, .int .i64 at_] [] := ⟨((((Below.refl _ _).alloc (Nat.le_refl _) _).alloc (by simp) _).alloc (by simp <;> omega) _).alloc (by simp <;> omega) _,
    (Whole.new w 24 #[.string to, .int .i64 next, (.slice ea ee.length ec), (.slice oa eo.length oc), .int .i64 fails, .int .i64 at_]).on ((((Below.refl _ _).alloc (Nat.le_refl _) _).alloc (by simp) _).alloc (by simp <;> omega) _),
    (by have := (Whole.new (w.alloc (.cells #[.string to, .int .i64 next, (.slice ea ee.length ec), (.slice oa eo.length oc), .int .i64 fails, .int .i64 at_] 24)) 24 #[.string ⟨#[]⟩, .int .i64 0, .slice none 0 0, .slice none 0 0, .int .i64 0, .int .i64 0]).on (((Below.refl _ _).alloc (Nat.le_refl _) (.cells #[.string ⟨#[]⟩, .string ⟨#[]⟩, .int .i64 0, .int .i64 0, .string ⟨#[]⟩, .slice none 0 0, .slice none 0 0, .slice none 0 0, .string ⟨#[]⟩, .int .i64 0] 49)).alloc (by simp) (.cells #[] 37)); rwa [size_alloc'] at this),
    (by have := (Whole.new ((w.alloc (.cells #[.string to, .int .i64 next, (.slice ea ee.length ec), (.slice oa eo.length oc), .int .i64 fails, .int .i64 at_] 24)).alloc (.cells #[.string ⟨#[]⟩, .int .i64 0, .slice none 0 0, .slice none 0 0, .int .i64 0, .int .i64 0] 24)) 49 #[.string ⟨#[]⟩, .string ⟨#[]⟩, .int .i64 0, .int .i64 0, .string ⟨#[]⟩, .slice none 0 0, .slice none 0 0, .slice none 0 0, .string ⟨#[]⟩, .int .i64 0]).on ((Below.refl _ _).alloc (Nat.le_refl _) (.cells #[] 37)); rwa [size_alloc', size_alloc'] at this), fun r hr => by cases hr⟩
  have M := Lib.hid M
  go_enter Try.func16, Try.ntmps16
  go_wp2_with (first | ((with_reducible refine list_lit (w.heap.size + 1 + 1 + 1) ?h ?src ee ?hw ?hb ?he ?hl ?_ ?_ ?_ ?_ ?_ ?k); all_goals try rfl))
  case hw =>
    have := Whole.new (((w.alloc (.cells #[.string to, .int .i64 next, (.slice ea ee.length ec), (.slice oa eo.length oc), .int .i64 fails, .int .i64 at_] 24)).alloc (.cells #[.string ⟨#[]⟩, .int .i64 0, .slice none 0 0, .slice none 0 0, .int .i64 0, .int .i64 0] 24)).alloc (.cells #[.string ⟨#[]⟩, .string ⟨#[]⟩, .int .i64 0, .int .i64 0, .string ⟨#[]⟩, .slice none 0 0, .slice none 0 0, .slice none 0 0, .string ⟨#[]⟩, .int .i64 0] 49)) 37 #[]
    rwa [size_alloc', size_alloc', size_alloc'] at this
  case he => exact HE _ M.out.q
  intro v1 w2 own1 hb1
  have M2 := Lib.hid ((M.out.on (below_eq hb1 (b := ((((w.alloc (.cells #[.string to, .int .i64 next, (.slice ea ee.length ec), (.slice oa eo.length oc), .int .i64 fails, .int .i64 at_] 24)).alloc (.cells #[.string ⟨#[]⟩, .int .i64 0, .slice none 0 0, .slice none 0 0, .int .i64 0, .int .i64 0] 24)).alloc (.cells #[.string ⟨#[]⟩, .string ⟨#[]⟩, .int .i64 0, .int .i64 0, .string ⟨#[]⟩, .slice none 0 0, .slice none 0 0, .slice none 0 0, .string ⟨#[]⟩, .int .i64 0] 49)).alloc (.cells #[] 37)).heap.size) (by simp))).add own1)
  clear hb1 M
  obtain ⟨vo, vc, rfl⟩ := own_slice own1
  clear own1
  have d0 := M2.out.b1.cell 0
  have kd0 := M2.out.b1.free 0
  have d1 := M2.out.b1.cell 1
  have kd1 := M2.out.b1.free 1
  have d2 := M2.out.b1.cell 2
  have kd2 := M2.out.b1.free 2
  have d3 := M2.out.b1.cell 3
  have kd3 := M2.out.b1.free 3
  have d4 := M2.out.b1.cell 4
  have kd4 := M2.out.b1.free 4
  have d5 := M2.out.b1.cell 5
  have kd5 := M2.out.b1.free 5
  simp at d0 d1 d2 d3 d4 d5
  have l2 := M2.out.lt
  have lg0 := M2.out.b1.lt
  have lg2 := M2.out.b3.lt
  go_wp2_with (first | ((with_reducible refine list_lit (w.heap.size + 1 + 1 + 1) ?h2 ?src2 ([] : List (List Value)) ?hw2 ?hb2 ?he2 ?hl2 ?_ ?_ ?_ ?_ ?_ ?k2); all_goals try rfl))
  case hw2 =>
    have := Whole.new (w2.setCell ⟨w.heap.size, 3, none⟩ (.slice vo ee.length vc)) 37 #[]
    simpa using this
  case hb2 => exact l2
  case he2 => exact evs_none (by omega)
  try (case hl2 => simp; try omega)
  intro v2 w5 own2 hb2
  replace own2 : w5.ownsRow (w.heap.size + 1 + 1 + 1) 37 29 v2 0 [] := own2
  have M3 := Lib.hid (((M2.out.put 3 (.slice vo ee.length vc)).on (((Below.refl _ _).alloc (Nat.le_refl _) _).trans (hb2.mono (by simp)))).add own2)
  clear hb2 M2 l2 lg0 lg2 d0 kd0 d1 kd1 d2 kd2 d3 kd3 d4 kd4 d5 kd5
  obtain ⟨vo2, vc2, rfl⟩ := own_slice own2
  clear own2
  change Hid (Mid w w5 #[.string to, .int .i64 next, (.slice ea ee.length ec), (.slice vo ee.length vc), .int .i64 fails, .int .i64 at_] _) at M3
  have c0 := M3.out.b1.cell 0
  have kc0 := M3.out.b1.free 0
  have c1 := M3.out.b1.cell 1
  have kc1 := M3.out.b1.free 1
  have c2 := M3.out.b1.cell 2
  have kc2 := M3.out.b1.free 2
  have c3 := M3.out.b1.cell 3
  have kc3 := M3.out.b1.free 3
  have c4 := M3.out.b1.cell 4
  have kc4 := M3.out.b1.free 4
  have c5 := M3.out.b1.cell 5
  have kc5 := M3.out.b1.free 5
  simp at c0 c1 c2 c3 c4 c5
  have lz0 := M3.out.b1.lt
  have lz2 := M3.out.b3.lt
  go_wp2_with fail
  have M4 : Mid w ((w5.setCell ⟨w.heap.size, 2, none⟩ (.slice vo2 0 vc2)).setCell ⟨w.heap.size, 1, none⟩ (.int .i64 (next + 1))) #[.string to, .int .i64 (next + 1), (.slice vo2 0 vc2), (.slice vo ee.length vc), .int .i64 fails, .int .i64 at_] _ := (M3.out.put 2 (.slice vo2 0 vc2)).put 1 (.int .i64 (next + 1))
  obtain ⟨w6, hw6⟩ : ∃ w6, w6 = (w5.setCell ⟨w.heap.size, 2, none⟩ (.slice vo2 0 vc2)).setCell ⟨w.heap.size, 1, none⟩ (.int .i64 (next + 1)) := ⟨_, rfl⟩
  rw [← hw6] at M4 ⊢
  clear hw6 M3 lz0 lz2 c0 kc0 c1 kc1 c2 kc2 c3 kc3 c4 kc4 c5 kc5
  have q := M4.q
  have B1 := M4.b1
  have B2 := M4.b2
  have B3 := M4.b3
  have M4 := M4.rows
  have HEV0 : ∀ wx, Rows w [((.slice vo2 0 vc2), 0, ([] : List (List Value)).flatten), ((.slice vo ee.length vc), ee.length, ee.flatten)] wx → Evs wx (.slice vo2 0 vc2) [] := fun wx x => ⟨Row.of_own (x.2 _ (List.mem_cons_self ..)), fun c hc => by cases hc⟩
  have HOP0 : ∀ wx, Rows w [((.slice vo2 0 vc2), 0, ([] : List (List Value)).flatten), ((.slice vo ee.length vc), ee.length, ee.flatten)] wx → Evs wx (.slice vo ee.length vc) ee := fun wx x => ⟨Row.of_own (x.2 _ (List.mem_cons_of_mem _ (List.mem_cons_self ..))), (HE wx x.1).2⟩
  have HKX : Kept (Rows w [((.slice vo2 0 vc2), 0, ([] : List (List Value)).flatten), ((.slice vo ee.length vc), ee.length, ee.flatten)]) (w.heap.size + 1) (w.heap.size + 1 + 1) := rows_kept _ _
  refine wp_region_net4 w false [2, 3, 4] none (opF (Rows w [((.slice vo2 0 vc2), 0, ([] : List (List Value)).flatten), ((.slice vo ee.length vc), ee.length, ee.flatten)]) w.heap.size (w.heap.size + 1) (w.heap.size + 1 + 1) (w.heap.size + 1 + 1 + 1) #[.string to, .int .i64 (next + 1), (.slice vo2 0 vc2), (.slice vo ee.length vc), .int .i64 fails, .int .i64 at_] to ((next + 1) - 1) (ee)) (by kernel_rfl) (by kernel_rfl) (by kernel_rfl) (opF_nil (M4) B1 B2 B3) (fun h => by simp at h) (by decide) (grownBy_of_below q) ?_
  apply Exists.intro
  apply And.intro
  · rintro W1 ⟨ν, hν, _, hW, hF⟩
    have b1' := opF_row ν hF
    have hld : ∀ (X : Ext W1), (Instr.loadAt 24 (.pointer (some ⟨w.heap.size, 0, none⟩))).run Try.prog X.val = .ok (.agg #[.string to, .int .i64 (next + 1), (.slice vo2 0 vc2), (.slice vo ee.length vc), .int .i64 fails, .int .i64 at_]) X.val := fun X => load24 (Whole.range (b1'.on X.below)) rfl
    simp only [quietOps, List.contains_cons, List.contains_nil]
    simp
    clear hF b1'
    repeat (first | go_big_quiet_skip | (go_big_quiet_want; (first | (refine quiet_load 24 _ rfl _ rfl _ hld ?_; simp only [Act.put, List.setIfInBounds_toArray, List.set_cons_succ, List.set_cons_zero]; go_big_quiet_on) | (go_big_quiet_op; (first | go_big_quiet_on | go_big_quiet_call (fail))))))
    exact wpQuiet_nil rfl
  refine ⟨⟨opF_on HKX, fun j hj => ?_⟩, ?_⟩
  · match j, hj with
    | 0, _ =>
      refine ⟨_, rfl, rfl, fun w5 ν hν hn hpre hpost hw5 hf => ?_⟩
      match ν, hf, hn, hpost 1 (by decide) (by kernel_rfl), hpost 2 (by decide) (by kernel_rfl) with
      | [n0, n1, n2], ⟨fx, f0, f1, f2, f3, f4, f5⟩, hn, p1, p2 =>
        have hn' : n0 = none := by simpa using hn
        have p1' : n1 = none := by simpa using p1
        have p2' : n2 = none := by simpa using p2
        subst hn' p1' p2'
        have q5 := below_of_grown hw5
        have hsz : w.heap.size + 1 + 1 + 1 ≤ w5.heap.size := by have := (f3 rfl).lt; omega
        refine leaves_fn 31 [.tmp 55] _ [.agg #[.string to, .int .i64 (next + 1), (.slice vo2 0 vc2), (.slice vo ee.length vc), .int .i64 fails, .int .i64 at_]] (by kernel_rfl) rfl rfl (qPacketO _ _ _ _ _ _ (ee) _ (HOP0 _ fx) s2 ⟨by omega, by omega⟩) ?_
        rintro x w6 ⟨v, rfl, own, hb6⟩
        exact ⟨_, rfl, grownBy_trans hw5 (grownBy_of_below hb6), HKX.on _ _ fx hb6, f0.on hb6, fun hn => (f1 hn).on hb6, fun u hu => by simp at hu, fun hn => (f3 hn).on hb6, fun u hu => ⟨v, by simpa using hu.symm, own_base own hsz⟩, fun u hu => by simp at hu⟩
    | 1, _ =>
      refine ⟨_, rfl, rfl, fun w5 ν hν hn hpre hpost hw5 hf => ?_⟩
      match ν, hf, hn, hpre 0 (by decide) (by kernel_rfl), hpost 2 (by decide) (by kernel_rfl) with
      | [n0, n1, n2], ⟨fx, f0, f1, f2, f3, f4, f5⟩, hn, ⟨u0, p0⟩, p2 =>
        have hn' : n1 = none := by simpa using hn
        have p0' : n0 = some u0 := by simpa using p0
        have p2' : n2 = none := by simpa using p2
        subst hn' p0' p2'
        refine leaves_store 24 24 _ _ (w.heap.size + 1) #[.string ⟨#[]⟩, .int .i64 0, .slice none 0 0, .slice none 0 0, .int .i64 0, .int .i64 0] #[.string to, .int .i64 (next + 1), (.slice vo2 0 vc2), (.slice vo ee.length vc), .int .i64 fails, .int .i64 at_] rfl rfl rfl size24 (f1 rfl) rfl (by simp [Value.oneCell']) hw5 (.inl (by omega)) fun w6 z6 h6 => ⟨HKX.one _ _ fx h6, f0.off h6 (by intro e; injection e with e; omega), fun hn => by simp at hn, fun u _ => z6, fun hn => (f3 hn).off h6 (by intro e; injection e with e; omega), fun u hu => ?_, fun u hu => by simp at hu⟩
        obtain ⟨v, e, o⟩ := f4 u hu
        exact ⟨v, e, own_off o h6 (by omega)⟩
    | 2, _ =>
      refine ⟨_, rfl, rfl, fun w5 ν hν hn hpre hpost hw5 hf => ?_⟩
      match ν, hf, hn, hpre 0 (by decide) (by kernel_rfl), hpre 1 (by decide) (by kernel_rfl) with
      | [n0, n1, n2], ⟨fx, f0, f1, f2, f3, f4, f5⟩, hn, ⟨u0, p0⟩, ⟨u1, p1⟩ =>
        have hn' : n2 = none := by simpa using hn
        have p0' : n0 = some u0 := by simpa using p0
        have p1' : n1 = some u1 := by simpa using p1
        subst hn' p0' p1'
        obtain ⟨v, rfl, o⟩ := f4 _ rfl
        obtain ⟨po, pc, rfl⟩ := own_slice o
        refine leaves_store 49 49 _ _ (w.heap.size + 1 + 1) pk0 (pkc to ((next + 1) - 1) (.slice po (ee).length pc)) rfl rfl rfl info49 (f3 rfl) rfl (by simp [pkc, Value.oneCell']) hw5 (.inl (by omega)) fun w6 z6 h6 => ⟨HKX.two _ _ fx h6, f0.off h6 (by intro e; injection e with e; omega), fun hn => by simp at hn, fun u hu => (f2 u hu).off h6 (by intro e; injection e with e; omega), fun hn => by simp at hn, fun u hu => ?_, fun u hu => ⟨_, z6, own_off o h6 (by omega)⟩⟩
        obtain ⟨v2, e, o2⟩ := f4 u hu
        exact ⟨v2, e, own_off o2 h6 (by omega)⟩
  · intro ν hν hall w5 hw5 hf
    match ν, hf, hall 0 (by decide), hall 1 (by decide), hall 2 (by decide) with
    | [n0, n1, n2], ⟨fx, f0, f1, f2, f3, f4, f5⟩, ⟨u0, p0⟩, ⟨u1, p1⟩, ⟨u2, p2⟩ =>
      have p0' : n0 = some u0 := by simpa using p0
      have p1' : n1 = some u1 := by simpa using p1
      have p2' : n2 = some u2 := by simpa using p2
      subst p0' p1' p2'
      have z1 := f2 _ rfl
      obtain ⟨v, z2, o⟩ := f5 _ rfl
      clear f0 f1 f2 f3 f4 f5 hall hν B1 B2 B3
      obtain ⟨po, pc, rfl⟩ := own_slice o
      have q5 := below_of_grown hw5
      have hO : Evs w5 (.slice vo ee.length vc) (ee) := HOP0 _ fx
      have hP : Evs w5 (.slice po (ee).length pc) (ee) := ⟨Row.of_own o, hO.2⟩
      have FR := Lib.hid (fx.2 _ (List.mem_cons_self ..))
      have HEV := HEV0 _ fx
      have HEV := Lib.hid HEV
      clear fx
      have e1 := z1.cell
      have e2 := z2.cell
      clear o z1 z2
      simp only [dstsOfS, dstAt, List.map_cons, List.map_nil, fillO]
      simp [Act.put]
      go_wp2_with fail
      exact bodyPost_ret (v := .tuple #[.agg #[.string to, .int .i64 (next + 1), (.slice vo2 0 vc2), (.slice vo ee.length vc), .int .i64 fails, .int .i64 at_], .agg (pkc to ((next + 1) - 1) (.slice po (ee).length pc)), .bool true]) (by simp [results, Try.results16, go_sem, e1, e2, pkc]) rfl ⟨_, _, _, rfl, HEV.out, hO, fun _ => ⟨_, rfl, hP⟩, fun h => by simp at h, q5, .inr (fun k hk => by have := (FR.out.lt k hk).1; omega)⟩

set_option maxRecDepth 100000 in
set_option maxHeartbeats 4000000 in
theorem qOpenFNewTight (to : ByteArray) (next : Int) (ev op : Value) (fails at_ : Int) (now : Int) (eo ee : List (List Value)) (w : World) (ho : Evs w op eo) (he : Evs w ev ee) (hs : eo.length ≤ 100000 ∧ ee.length ≤ 100000) (hn : 0 ≤ next ∧ next ≤ 1000000000000) (ea : Option Addr) (hev : ev = .slice ea ee.length ee.length) (h0 : ¬ 0 < eo.length) (h1 : 0 < ee.length) (h50 : ee.length ≤ 50) (h2 : next < 1000000000000) :
    Calls Try.prog 16 #[.agg #[.string to, .int .i64 next, ev, op, .int .i64 fails, .int .i64 at_], .int .i64 now] w (OpenPostF ev to (next + 1) fails at_ ee ([] : List (List Value)) true w) := by
  obtain ⟨n1, n2⟩ := hn
  obtain ⟨s1, s2⟩ := hs
  obtain ⟨oa, oc, rfl, hoc1, hoc2⟩ := ho.form
  subst hev
  have HE := fun (wx : World) (h : Below w.heap.size w wx) => he.on h
  have HO := fun (wx : World) (h : Below w.heap.size w wx) => ho.on h
  clear ho he
  have e1 : ((ee.length : Int) == 0) = false := beq_eq_false_iff_ne.2 (by omega)
  have e2 : ¬ (1000000000000 : Int) ≤ next := by omega
  have e3 : ¬ (50 : Int) < (ee.length : Int) := by omega
  have M : Mid w ((((w.alloc (.cells #[.string to, .int .i64 next, (.slice ea ee.length ee.length), (.slice oa eo.length oc), .int .i64 fails, .int .i64 at_] 24)).alloc (.cells #[.string ⟨#[]⟩, .int .i64 0, .slice none 0 0, .slice none 0 0, .int .i64 0, .int .i64 0] 24)).alloc (.cells #[.string ⟨#[]⟩, .string ⟨#[]⟩, .int .i64 0, .int .i64 0, .string ⟨#[]⟩, .slice none 0 0, .slice none 0 0, .slice none 0 0, .string ⟨#[]⟩, .int .i64 0] 49)).alloc (.cells #[] 37)) #[.string to, .int .i64 next, (.slice ea ee.length ee.length), (.slice oa eo.length oc), .int .i64 fails, .int .i64 at_] [] := ⟨((((Below.refl _ _).alloc (Nat.le_refl _) _).alloc (by simp) _).alloc (by simp <;> omega) _).alloc (by simp <;> omega) _,
    (Whole.new w 24 #[.string to, .int .i64 next, (.slice ea ee.length ee.length), (.slice oa eo.length oc), .int .i64 fails, .int .i64 at_]).on ((((Below.refl _ _).alloc (Nat.le_refl _) _).alloc (by simp) _).alloc (by simp <;> omega) _),
    (by have := (Whole.new (w.alloc (.cells #[.string to, .int .i64 next, (.slice ea ee.length ee.length), (.slice oa eo.length oc), .int .i64 fails, .int .i64 at_] 24)) 24 #[.string ⟨#[]⟩, .int .i64 0, .slice none 0 0, .slice none 0 0, .int .i64 0, .int .i64 0]).on (((Below.refl _ _).alloc (Nat.le_refl _) (.cells #[.string ⟨#[]⟩, .string ⟨#[]⟩, .int .i64 0, .int .i64 0, .string ⟨#[]⟩, .slice none 0 0, .slice none 0 0, .slice none 0 0, .string ⟨#[]⟩, .int .i64 0] 49)).alloc (by simp) (.cells #[] 37)); rwa [size_alloc'] at this),
    (by have := (Whole.new ((w.alloc (.cells #[.string to, .int .i64 next, (.slice ea ee.length ee.length), (.slice oa eo.length oc), .int .i64 fails, .int .i64 at_] 24)).alloc (.cells #[.string ⟨#[]⟩, .int .i64 0, .slice none 0 0, .slice none 0 0, .int .i64 0, .int .i64 0] 24)) 49 #[.string ⟨#[]⟩, .string ⟨#[]⟩, .int .i64 0, .int .i64 0, .string ⟨#[]⟩, .slice none 0 0, .slice none 0 0, .slice none 0 0, .string ⟨#[]⟩, .int .i64 0]).on ((Below.refl _ _).alloc (Nat.le_refl _) (.cells #[] 37)); rwa [size_alloc', size_alloc'] at this), fun r hr => by cases hr⟩
  have M := Lib.hid M
  go_enter Try.func16, Try.ntmps16
  go_wp2_with (first | ((with_reducible refine list_lit (w.heap.size + 1 + 1 + 1) ?h ?src ee ?hw ?hb ?he ?hl ?_ ?_ ?_ ?_ ?_ ?k); all_goals try rfl))
  case hw =>
    have := Whole.new (((w.alloc (.cells #[.string to, .int .i64 next, (.slice ea ee.length ee.length), (.slice oa eo.length oc), .int .i64 fails, .int .i64 at_] 24)).alloc (.cells #[.string ⟨#[]⟩, .int .i64 0, .slice none 0 0, .slice none 0 0, .int .i64 0, .int .i64 0] 24)).alloc (.cells #[.string ⟨#[]⟩, .string ⟨#[]⟩, .int .i64 0, .int .i64 0, .string ⟨#[]⟩, .slice none 0 0, .slice none 0 0, .slice none 0 0, .string ⟨#[]⟩, .int .i64 0] 49)) 37 #[]
    rwa [size_alloc', size_alloc', size_alloc'] at this
  case he => exact HE _ M.out.q
  intro v1 w2 own1 hb1
  have M2 := Lib.hid ((M.out.on (below_eq hb1 (b := ((((w.alloc (.cells #[.string to, .int .i64 next, (.slice ea ee.length ee.length), (.slice oa eo.length oc), .int .i64 fails, .int .i64 at_] 24)).alloc (.cells #[.string ⟨#[]⟩, .int .i64 0, .slice none 0 0, .slice none 0 0, .int .i64 0, .int .i64 0] 24)).alloc (.cells #[.string ⟨#[]⟩, .string ⟨#[]⟩, .int .i64 0, .int .i64 0, .string ⟨#[]⟩, .slice none 0 0, .slice none 0 0, .slice none 0 0, .string ⟨#[]⟩, .int .i64 0] 49)).alloc (.cells #[] 37)).heap.size) (by simp))).add own1)
  clear hb1 M
  obtain ⟨vo, vc, rfl⟩ := own_slice own1
  clear own1
  have d0 := M2.out.b1.cell 0
  have kd0 := M2.out.b1.free 0
  have d1 := M2.out.b1.cell 1
  have kd1 := M2.out.b1.free 1
  have d2 := M2.out.b1.cell 2
  have kd2 := M2.out.b1.free 2
  have d3 := M2.out.b1.cell 3
  have kd3 := M2.out.b1.free 3
  have d4 := M2.out.b1.cell 4
  have kd4 := M2.out.b1.free 4
  have d5 := M2.out.b1.cell 5
  have kd5 := M2.out.b1.free 5
  simp at d0 d1 d2 d3 d4 d5
  have l2 := M2.out.lt
  have lg0 := M2.out.b1.lt
  have lg2 := M2.out.b3.lt
  go_wp2_with (first | ((with_reducible refine list_lit (w.heap.size + 1 + 1 + 1) ?h2 ?src2 ([] : List (List Value)) ?hw2 ?hb2 ?he2 ?hl2 ?_ ?_ ?_ ?_ ?_ ?k2); all_goals try rfl))
  case hw2 =>
    have := Whole.new (w2.setCell ⟨w.heap.size, 3, none⟩ (.slice vo ee.length vc)) 37 #[]
    simpa using this
  case hb2 => exact l2
  case he2 => exact evs_none (by omega)
  try (case hl2 => simp; try omega)
  intro v2 w5 own2 hb2
  replace own2 : w5.ownsRow (w.heap.size + 1 + 1 + 1) 37 29 v2 0 [] := own2
  have M3 := Lib.hid (((M2.out.put 3 (.slice vo ee.length vc)).on (((Below.refl _ _).alloc (Nat.le_refl _) _).trans (hb2.mono (by simp)))).add own2)
  clear hb2 M2 l2 lg0 lg2 d0 kd0 d1 kd1 d2 kd2 d3 kd3 d4 kd4 d5 kd5
  obtain ⟨vo2, vc2, rfl⟩ := own_slice own2
  clear own2
  change Hid (Mid w w5 #[.string to, .int .i64 next, (.slice ea ee.length ee.length), (.slice vo ee.length vc), .int .i64 fails, .int .i64 at_] _) at M3
  have c0 := M3.out.b1.cell 0
  have kc0 := M3.out.b1.free 0
  have c1 := M3.out.b1.cell 1
  have kc1 := M3.out.b1.free 1
  have c2 := M3.out.b1.cell 2
  have kc2 := M3.out.b1.free 2
  have c3 := M3.out.b1.cell 3
  have kc3 := M3.out.b1.free 3
  have c4 := M3.out.b1.cell 4
  have kc4 := M3.out.b1.free 4
  have c5 := M3.out.b1.cell 5
  have kc5 := M3.out.b1.free 5
  simp at c0 c1 c2 c3 c4 c5
  have lz0 := M3.out.b1.lt
  have lz2 := M3.out.b3.lt
  go_wp2_with fail
  have M4 : Mid w ((w5.setCell ⟨w.heap.size, 2, none⟩ (.slice vo2 0 vc2)).setCell ⟨w.heap.size, 1, none⟩ (.int .i64 (next + 1))) #[.string to, .int .i64 (next + 1), (.slice vo2 0 vc2), (.slice vo ee.length vc), .int .i64 fails, .int .i64 at_] _ := (M3.out.put 2 (.slice vo2 0 vc2)).put 1 (.int .i64 (next + 1))
  obtain ⟨w6, hw6⟩ : ∃ w6, w6 = (w5.setCell ⟨w.heap.size, 2, none⟩ (.slice vo2 0 vc2)).setCell ⟨w.heap.size, 1, none⟩ (.int .i64 (next + 1)) := ⟨_, rfl⟩
  rw [← hw6] at M4 ⊢
  clear hw6 M3 lz0 lz2 c0 kc0 c1 kc1 c2 kc2 c3 kc3 c4 kc4 c5 kc5
  have q := M4.q
  have B1 := M4.b1
  have B2 := M4.b2
  have B3 := M4.b3
  have M4 := M4.rows
  have HEV0 : ∀ wx, Rows w [((.slice vo2 0 vc2), 0, ([] : List (List Value)).flatten), ((.slice vo ee.length vc), ee.length, ee.flatten)] wx → Evs wx (.slice vo2 0 vc2) [] := fun wx x => ⟨Row.of_own (x.2 _ (List.mem_cons_self ..)), fun c hc => by cases hc⟩
  have HOP0 : ∀ wx, Rows w [((.slice vo2 0 vc2), 0, ([] : List (List Value)).flatten), ((.slice vo ee.length vc), ee.length, ee.flatten)] wx → Evs wx (.slice vo ee.length vc) ee := fun wx x => ⟨Row.of_own (x.2 _ (List.mem_cons_of_mem _ (List.mem_cons_self ..))), (HE wx x.1).2⟩
  have HKX : Kept (Rows w [((.slice vo2 0 vc2), 0, ([] : List (List Value)).flatten), ((.slice vo ee.length vc), ee.length, ee.flatten)]) (w.heap.size + 1) (w.heap.size + 1 + 1) := rows_kept _ _
  refine wp_region_net4 w false [2, 3, 4] none (opF (Rows w [((.slice vo2 0 vc2), 0, ([] : List (List Value)).flatten), ((.slice vo ee.length vc), ee.length, ee.flatten)]) w.heap.size (w.heap.size + 1) (w.heap.size + 1 + 1) (w.heap.size + 1 + 1 + 1) #[.string to, .int .i64 (next + 1), (.slice vo2 0 vc2), (.slice vo ee.length vc), .int .i64 fails, .int .i64 at_] to ((next + 1) - 1) (ee)) (by kernel_rfl) (by kernel_rfl) (by kernel_rfl) (opF_nil (M4) B1 B2 B3) (fun h => by simp at h) (by decide) (grownBy_of_below q) ?_
  apply Exists.intro
  apply And.intro
  · rintro W1 ⟨ν, hν, _, hW, hF⟩
    have b1' := opF_row ν hF
    have hld : ∀ (X : Ext W1), (Instr.loadAt 24 (.pointer (some ⟨w.heap.size, 0, none⟩))).run Try.prog X.val = .ok (.agg #[.string to, .int .i64 (next + 1), (.slice vo2 0 vc2), (.slice vo ee.length vc), .int .i64 fails, .int .i64 at_]) X.val := fun X => load24 (Whole.range (b1'.on X.below)) rfl
    simp only [quietOps, List.contains_cons, List.contains_nil]
    simp
    clear hF b1'
    repeat (first | go_big_quiet_skip | (go_big_quiet_want; (first | (refine quiet_load 24 _ rfl _ rfl _ hld ?_; simp only [Act.put, List.setIfInBounds_toArray, List.set_cons_succ, List.set_cons_zero]; go_big_quiet_on) | (go_big_quiet_op; (first | go_big_quiet_on | go_big_quiet_call (fail))))))
    exact wpQuiet_nil rfl
  refine ⟨⟨opF_on HKX, fun j hj => ?_⟩, ?_⟩
  · match j, hj with
    | 0, _ =>
      refine ⟨_, rfl, rfl, fun w5 ν hν hn hpre hpost hw5 hf => ?_⟩
      match ν, hf, hn, hpost 1 (by decide) (by kernel_rfl), hpost 2 (by decide) (by kernel_rfl) with
      | [n0, n1, n2], ⟨fx, f0, f1, f2, f3, f4, f5⟩, hn, p1, p2 =>
        have hn' : n0 = none := by simpa using hn
        have p1' : n1 = none := by simpa using p1
        have p2' : n2 = none := by simpa using p2
        subst hn' p1' p2'
        have q5 := below_of_grown hw5
        have hsz : w.heap.size + 1 + 1 + 1 ≤ w5.heap.size := by have := (f3 rfl).lt; omega
        refine leaves_fn 31 [.tmp 55] _ [.agg #[.string to, .int .i64 (next + 1), (.slice vo2 0 vc2), (.slice vo ee.length vc), .int .i64 fails, .int .i64 at_]] (by kernel_rfl) rfl rfl (qPacketO _ _ _ _ _ _ (ee) _ (HOP0 _ fx) s2 ⟨by omega, by omega⟩) ?_
        rintro x w6 ⟨v, rfl, own, hb6⟩
        exact ⟨_, rfl, grownBy_trans hw5 (grownBy_of_below hb6), HKX.on _ _ fx hb6, f0.on hb6, fun hn => (f1 hn).on hb6, fun u hu => by simp at hu, fun hn => (f3 hn).on hb6, fun u hu => ⟨v, by simpa using hu.symm, own_base own hsz⟩, fun u hu => by simp at hu⟩
    | 1, _ =>
      refine ⟨_, rfl, rfl, fun w5 ν hν hn hpre hpost hw5 hf => ?_⟩
      match ν, hf, hn, hpre 0 (by decide) (by kernel_rfl), hpost 2 (by decide) (by kernel_rfl) with
      | [n0, n1, n2], ⟨fx, f0, f1, f2, f3, f4, f5⟩, hn, ⟨u0, p0⟩, p2 =>
        have hn' : n1 = none := by simpa using hn
        have p0' : n0 = some u0 := by simpa using p0
        have p2' : n2 = none := by simpa using p2
        subst hn' p0' p2'
        refine leaves_store 24 24 _ _ (w.heap.size + 1) #[.string ⟨#[]⟩, .int .i64 0, .slice none 0 0, .slice none 0 0, .int .i64 0, .int .i64 0] #[.string to, .int .i64 (next + 1), (.slice vo2 0 vc2), (.slice vo ee.length vc), .int .i64 fails, .int .i64 at_] rfl rfl rfl size24 (f1 rfl) rfl (by simp [Value.oneCell']) hw5 (.inl (by omega)) fun w6 z6 h6 => ⟨HKX.one _ _ fx h6, f0.off h6 (by intro e; injection e with e; omega), fun hn => by simp at hn, fun u _ => z6, fun hn => (f3 hn).off h6 (by intro e; injection e with e; omega), fun u hu => ?_, fun u hu => by simp at hu⟩
        obtain ⟨v, e, o⟩ := f4 u hu
        exact ⟨v, e, own_off o h6 (by omega)⟩
    | 2, _ =>
      refine ⟨_, rfl, rfl, fun w5 ν hν hn hpre hpost hw5 hf => ?_⟩
      match ν, hf, hn, hpre 0 (by decide) (by kernel_rfl), hpre 1 (by decide) (by kernel_rfl) with
      | [n0, n1, n2], ⟨fx, f0, f1, f2, f3, f4, f5⟩, hn, ⟨u0, p0⟩, ⟨u1, p1⟩ =>
        have hn' : n2 = none := by simpa using hn
        have p0' : n0 = some u0 := by simpa using p0
        have p1' : n1 = some u1 := by simpa using p1
        subst hn' p0' p1'
        obtain ⟨v, rfl, o⟩ := f4 _ rfl
        obtain ⟨po, pc, rfl⟩ := own_slice o
        refine leaves_store 49 49 _ _ (w.heap.size + 1 + 1) pk0 (pkc to ((next + 1) - 1) (.slice po (ee).length pc)) rfl rfl rfl info49 (f3 rfl) rfl (by simp [pkc, Value.oneCell']) hw5 (.inl (by omega)) fun w6 z6 h6 => ⟨HKX.two _ _ fx h6, f0.off h6 (by intro e; injection e with e; omega), fun hn => by simp at hn, fun u hu => (f2 u hu).off h6 (by intro e; injection e with e; omega), fun hn => by simp at hn, fun u hu => ?_, fun u hu => ⟨_, z6, own_off o h6 (by omega)⟩⟩
        obtain ⟨v2, e, o2⟩ := f4 u hu
        exact ⟨v2, e, own_off o2 h6 (by omega)⟩
  · intro ν hν hall w5 hw5 hf
    match ν, hf, hall 0 (by decide), hall 1 (by decide), hall 2 (by decide) with
    | [n0, n1, n2], ⟨fx, f0, f1, f2, f3, f4, f5⟩, ⟨u0, p0⟩, ⟨u1, p1⟩, ⟨u2, p2⟩ =>
      have p0' : n0 = some u0 := by simpa using p0
      have p1' : n1 = some u1 := by simpa using p1
      have p2' : n2 = some u2 := by simpa using p2
      subst p0' p1' p2'
      have z1 := f2 _ rfl
      obtain ⟨v, z2, o⟩ := f5 _ rfl
      clear f0 f1 f2 f3 f4 f5 hall hν B1 B2 B3
      obtain ⟨po, pc, rfl⟩ := own_slice o
      have q5 := below_of_grown hw5
      have hO : Evs w5 (.slice vo ee.length vc) (ee) := HOP0 _ fx
      have hP : Evs w5 (.slice po (ee).length pc) (ee) := ⟨Row.of_own o, hO.2⟩
      have FR := Lib.hid (fx.2 _ (List.mem_cons_self ..))
      have HEV := HEV0 _ fx
      have HEV := Lib.hid HEV
      clear fx
      have e1 := z1.cell
      have e2 := z2.cell
      clear o z1 z2
      simp only [dstsOfS, dstAt, List.map_cons, List.map_nil, fillO]
      simp [Act.put]
      go_wp2_with fail
      exact bodyPost_ret (v := .tuple #[.agg #[.string to, .int .i64 (next + 1), (.slice vo2 0 vc2), (.slice vo ee.length vc), .int .i64 fails, .int .i64 at_], .agg (pkc to ((next + 1) - 1) (.slice po (ee).length pc)), .bool true]) (by simp [results, Try.results16, go_sem, e1, e2, pkc]) rfl ⟨_, _, _, rfl, HEV.out, hO, fun _ => ⟨_, rfl, hP⟩, fun h => by simp at h, q5, .inr (fun k hk => by have := (FR.out.lt k hk).1; omega)⟩

end Go.Proofs.Ytfebldoplobkdaa
