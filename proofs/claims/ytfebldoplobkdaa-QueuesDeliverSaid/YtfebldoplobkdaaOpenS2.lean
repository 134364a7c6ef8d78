/- Open, the reference: events are taken. -/
import Derived.Test.YtfebldoplobkdaaOpenP
namespace Go.Proofs.Ytfebldoplobkdaa
open Go.ChangeShapes Go.WideShapes Go.ChangeAt Go.RowKit

set_option maxRecDepth 100000 in
set_option maxHeartbeats 4000000 in
theorem rOpenNewRoom (to : ByteArray) (next : Int) (ev op : Value) (fails at_ : Int) (now : Int) (eo ee : List (List Value)) (w : World) (ho : Evs w op eo) (he : Evs w ev ee) (hs : eo.length ≤ 100000 ∧ ee.length ≤ 100000) (hn : 0 ≤ next ∧ next ≤ 1000000000000) (ea : Option Addr) (ec : Nat) (hev : ev = .slice ea ee.length ec) (hec : ¬ ec = ee.length) (h0 : ¬ 0 < eo.length) (h1 : 0 < ee.length) (h50 : ee.length ≤ 50) (h2 : next < 1000000000000) :
    Calls Try.prog 17 #[.agg #[.string to, .int .i64 next, ev, op, .int .i64 fails, .int .i64 at_], .int .i64 now] w (OpenPost to (next + 1) fails at_ ee ([] : List (List Value)) true w) := by
  obtain ⟨n1, n2⟩ := hn
  obtain ⟨s1, s2⟩ := hs
  obtain ⟨oa, oc, rfl, hoc1, hoc2⟩ := ho.form
  subst hev
  obtain ⟨hec1, hec2⟩ := he.caps
  have HE := fun (wx : World) (h : Below w.heap.size w wx) => he.on h
  have HO := fun (wx : World) (h : Below w.heap.size w wx) => ho.on h
  clear ho he
  have e1 : ((ee.length : Int) == 0) = false := beq_eq_false_iff_ne.2 (by omega)
  have e2 : ¬ (1000000000000 : Int) ≤ next := by omega
  have e3 : ¬ (50 : Int) < (ee.length : Int) := by omega
  have e4 : (ee.length : Int) ≤ (ec : Int) := by omega
  have HT : ∀ wx, Below w.heap.size w wx → Evs wx (.slice ea ee.length ec) ee := fun wx h => HE wx h
  have HD : ∀ wx, Below w.heap.size w wx → Evs wx (.slice (Option.map (fun x => x.add (ee.length * 29)) ea) 0 (ec - ee.length)) ([] : List (List Value)) := fun wx h => evs_none (by omega)
  have lT : ee.length ≤ 100000 := by first | exact s2 | (rw [List.length_take]; omega)
  have lD : ([] : List (List Value)).length ≤ 100000 := by first | (rw [List.length_drop]; omega) | simp
  have lT := Lib.hid lT
  have lD := Lib.hid lD
  obtain ⟨i0, hi0, hz0, hz1, hz2⟩ := info_parts zinfo
  have hz0 := Lib.hid hz0
  go_enter Try.func17, Try.ntmps17
  go_wp2_with fail
  have q : Below w.heap.size w (((w.alloc (.cells #[.string to, .int .i64 next, (.slice ea ee.length ec), (.slice oa eo.length oc), .int .i64 fails, .int .i64 at_] 24)).alloc (.cells #[.string ⟨#[]⟩, .int .i64 0, .slice none 0 0, .slice none 0 0, .int .i64 0, .int .i64 0] 24)).alloc (.cells #[.string ⟨#[]⟩, .string ⟨#[]⟩, .int .i64 0, .int .i64 0, .string ⟨#[]⟩, .slice none 0 0, .slice none 0 0, .slice none 0 0, .string ⟨#[]⟩, .int .i64 0] 49)) := (((Below.refl _ _).alloc (Nat.le_refl _) _).alloc (by simp) _).alloc (by simp <;> omega) _
  have B1 : Whole (((w.alloc (.cells #[.string to, .int .i64 next, (.slice ea ee.length ec), (.slice oa eo.length oc), .int .i64 fails, .int .i64 at_] 24)).alloc (.cells #[.string ⟨#[]⟩, .int .i64 0, .slice none 0 0, .slice none 0 0, .int .i64 0, .int .i64 0] 24)).alloc (.cells #[.string ⟨#[]⟩, .string ⟨#[]⟩, .int .i64 0, .int .i64 0, .string ⟨#[]⟩, .slice none 0 0, .slice none 0 0, .slice none 0 0, .string ⟨#[]⟩, .int .i64 0] 49)) w.heap.size 24 #[.string to, .int .i64 next, (.slice ea ee.length ec), (.slice oa eo.length oc), .int .i64 fails, .int .i64 at_] := (Whole.new w 24 #[.string to, .int .i64 next, (.slice ea ee.length ec), (.slice oa eo.length oc), .int .i64 fails, .int .i64 at_]).on (((Below.refl _ _).alloc (Nat.le_refl _) _).alloc (by simp) _)
  have B2 : Whole (((w.alloc (.cells #[.string to, .int .i64 next, (.slice ea ee.length ec), (.slice oa eo.length oc), .int .i64 fails, .int .i64 at_] 24)).alloc (.cells #[.string ⟨#[]⟩, .int .i64 0, .slice none 0 0, .slice none 0 0, .int .i64 0, .int .i64 0] 24)).alloc (.cells #[.string ⟨#[]⟩, .string ⟨#[]⟩, .int .i64 0, .int .i64 0, .string ⟨#[]⟩, .slice none 0 0, .slice none 0 0, .slice none 0 0, .string ⟨#[]⟩, .int .i64 0] 49)) (w.heap.size + 1) 24 #[.string ⟨#[]⟩, .int .i64 0, .slice none 0 0, .slice none 0 0, .int .i64 0, .int .i64 0] := by
    have := (Whole.new (w.alloc (.cells #[.string to, .int .i64 next, (.slice ea ee.length ec), (.slice oa eo.length oc), .int .i64 fails, .int .i64 at_] 24)) 24 #[.string ⟨#[]⟩, .int .i64 0, .slice none 0 0, .slice none 0 0, .int .i64 0, .int .i64 0]).on ((Below.refl _ _).alloc (Nat.le_refl _) (.cells #[.string ⟨#[]⟩, .string ⟨#[]⟩, .int .i64 0, .int .i64 0, .string ⟨#[]⟩, .slice none 0 0, .slice none 0 0, .slice none 0 0, .string ⟨#[]⟩, .int .i64 0] 49))
    rwa [size_alloc'] at this
  have B3 : Whole (((w.alloc (.cells #[.string to, .int .i64 next, (.slice ea ee.length ec), (.slice oa eo.length oc), .int .i64 fails, .int .i64 at_] 24)).alloc (.cells #[.string ⟨#[]⟩, .int .i64 0, .slice none 0 0, .slice none 0 0, .int .i64 0, .int .i64 0] 24)).alloc (.cells #[.string ⟨#[]⟩, .string ⟨#[]⟩, .int .i64 0, .int .i64 0, .string ⟨#[]⟩, .slice none 0 0, .slice none 0 0, .slice none 0 0, .string ⟨#[]⟩, .int .i64 0] 49)) (w.heap.size + 1 + 1) 49 pk0 := by
    have := Whole.new ((w.alloc (.cells #[.string to, .int .i64 next, (.slice ea ee.length ec), (.slice oa eo.length oc), .int .i64 fails, .int .i64 at_] 24)).alloc (.cells #[.string ⟨#[]⟩, .int .i64 0, .slice none 0 0, .slice none 0 0, .int .i64 0, .int .i64 0] 24)) 49 #[.string ⟨#[]⟩, .string ⟨#[]⟩, .int .i64 0, .int .i64 0, .string ⟨#[]⟩, .slice none 0 0, .slice none 0 0, .slice none 0 0, .string ⟨#[]⟩, .int .i64 0]
    rwa [size_alloc', size_alloc'] at this
  obtain ⟨w1, hw1⟩ : ∃ w1, w1 = ((w.alloc (.cells #[.string to, .int .i64 next, (.slice ea ee.length ec), (.slice oa eo.length oc), .int .i64 fails, .int .i64 at_] 24)).alloc (.cells #[.string ⟨#[]⟩, .int .i64 0, .slice none 0 0, .slice none 0 0, .int .i64 0, .int .i64 0] 24)).alloc (.cells #[.string ⟨#[]⟩, .string ⟨#[]⟩, .int .i64 0, .int .i64 0, .string ⟨#[]⟩, .slice none 0 0, .slice none 0 0, .slice none 0 0, .string ⟨#[]⟩, .int .i64 0] 49) := ⟨_, rfl⟩
  try rw [← hw1] at B1 B2 B3 q ⊢
  clear hw1
  have lg := B3.lt
  refine wp_region_net4 w1 true [0, 5, 6, 11, 13, 15] (some w.heap.size) (roF w1 w.heap.size #[.string to, .int .i64 next, (.slice ea ee.length ec), (.slice oa eo.length oc), .int .i64 fails, .int .i64 at_] ee ([] : List (List Value))) (by kernel_rfl) (by kernel_rfl) (by kernel_rfl) (roF_nil B1) (fun _ => by kernel_rfl) (by decide) (World.grownBy.refl _ _) ?_
  apply Exists.intro
  apply And.intro
  · rintro W1 ⟨ν, hν, hk, hW, hF⟩
    obtain ⟨hl, hc⟩ := roF_cell ν (hk rfl) hF
    have hx : ∀ (X : Ext W1), X.val.cell? ⟨w.heap.size, 2, none⟩ = (#[.string to, .int .i64 next, (.slice ea ee.length ec), (.slice oa eo.length oc), .int .i64 fails, .int .i64 at_] : Array Value)[2]? := fun X => (X.cell w.heap.size 2 hl).trans hc
    simp at hx
    simp only [quietOps, List.contains_cons, List.contains_nil]
    simp
    clear hF hc
    repeat (first | go_big_quiet_skip | (go_big_quiet_want; (first | (go_big_quiet_op; (first | go_big_quiet_on | go_big_quiet_call (fail))))))
    exact wpQuiet_nil rfl
  refine ⟨⟨roF_on, fun j hj => ?_⟩, ?_⟩
  · match j, hj with
    | 0, _ =>
      refine ⟨_, rfl, rfl, fun w5 ν hν hn hpre hpost hw5 hf => ?_⟩
      match ν, hf, hn, hpost 1 (by decide) (by kernel_rfl) with
      | [n0, n1, n2, n3, n4, n5], ⟨f0, f1, f2, f3, f4, f5, f6⟩, hn, p1 =>
        have hn' : n0 = none := by simpa using hn
        have p1' : n1 = none := by simpa using p1
        subst hn' p1'
        have hb5 : Below w5.heap.size w5 (w5.alloc (.cells #[] 37)) := (Below.refl _ _).alloc (Nat.le_refl _) _
        refine leaves_value (build0 _ _ _ _ _ w5) (grownBy_trans hw5 (World.grownBy_alloc _ _ _)) ⟨fun u hu _ => ?_, fun u hu => by simp at hu, fun u hu hn => ?_, fun u hu => own_on (f3 u hu) hb5, fun hn => (f4 hn).on hb5, fun u hu hn => ?_, fun u hu => ?_⟩
        · simp at hu
          subst hu
          exact ⟨_, rfl, Whole.new w5 37 #[], hw5.size⟩
        · obtain ⟨b, e, z, l⟩ := f2 u hu hn
          exact ⟨b, e, z.on hb5, l⟩
        · obtain ⟨v, e, z⟩ := f5 u hu hn
          simp at e
        · obtain ⟨v, v', e, e', z⟩ := f6 u hu
          simp at e
    | 1, _ =>
      refine ⟨_, rfl, rfl, fun w5 ν hν hn hpre hpost hw5 hf => ?_⟩
      match ν, hf, hn, hpre 0 (by decide) (by kernel_rfl), hpost 3 (by decide) (by kernel_rfl), hpost 4 (by decide) (by kernel_rfl), hpost 5 (by decide) (by kernel_rfl) with
      | [n0, n1, n2, n3, n4, n5], ⟨f0, f1, f2, f3, f4, f5, f6⟩, hn, ⟨u0, p0⟩, p3, p4, p5 =>
        have p0' : n0 = some u0 := by simpa using p0
        have hn' : n1 = none := by simpa using hn
        have p3' : n3 = none := by simpa using p3
        have p4' : n4 = none := by simpa using p4
        have p5' : n5 = none := by simpa using p5
        subst hn' p3' p0' p4' p5'
        obtain ⟨h, rfl, zh, lh⟩ := f0 _ rfl rfl
        have q5 := below_row q hw5 (Nat.le_refl _) q.size
        have he5 := HT _ q5
        refine leaves_lit _ _ w1.heap.size h 22 37 i0 _ 29 376 rfl Try.underlying22 hi0 hz0.out hz1 hz2 rfl (by omega) ?_ zh lh (.slice ea ee.length ec) ee.length ee.flatten ?_ he5.1 he5.one (by have := lT.out; simp only [maxLen]; omega) (by have := lT.out; omega) hw5 ?_
        · cases n2 <;> rfl
        · cases n2 <;> rfl
        intro v' w6 h2 h3
        refine ⟨fun u _ hn => by simp at hn, fun u hu => ?_, fun u hu hn => ?_, fun u hu => by simp at hu, fun hn => (f4 hn).on h3, fun u hu => by simp at hu, fun u hu => by simp at hu⟩
        · simp at hu
          subst hu
          exact h2
        · obtain ⟨b, e, z, l⟩ := f2 u hu hn
          exact ⟨b, e, z.on h3, l⟩
    | 2, _ =>
      refine ⟨_, rfl, rfl, fun w5 ν hν hn hpre hpost hw5 hf => ?_⟩
      match ν, hf, hn, hpost 3 (by decide) (by kernel_rfl), hpost 5 (by decide) (by kernel_rfl) with
      | [n0, n1, n2, n3, n4, n5], ⟨f0, f1, f2, f3, f4, f5, f6⟩, hn, p3, p5 =>
        have hn' : n2 = none := by simpa using hn
        have p3' : n3 = none := by simpa using p3
        have p5' : n5 = none := by simpa using p5
        subst hn' p3' p5'
        have hb5 : Below w5.heap.size w5 (w5.alloc (.cells #[] 37)) := (Below.refl _ _).alloc (Nat.le_refl _) _
        refine leaves_value (build0 _ _ _ _ _ w5) (grownBy_trans hw5 (World.grownBy_alloc _ _ _)) ⟨fun u hu hn => ?_, fun u hu => own_on (f1 u hu) hb5, fun u hu _ => ?_, fun u hu => by simp at hu, fun hn => (f4 hn).on hb5, fun u hu hn => ?_, fun u hu => by simp at hu⟩
        · obtain ⟨b, e, z, l⟩ := f0 u hu hn
          exact ⟨b, e, z.on hb5, l⟩
        · simp at hu
          subst hu
          exact ⟨_, rfl, Whole.new w5 37 #[], hw5.size⟩
        · obtain ⟨v, e, z⟩ := f5 u hu hn
          exact ⟨v, e, z.on hb5⟩
    | 3, _ =>
      refine ⟨_, rfl, rfl, fun w5 ν hν hn hpre hpost hw5 hf => ?_⟩
      match ν, hf, hn, hpre 1 (by decide) (by kernel_rfl), hpre 2 (by decide) (by kernel_rfl), hpost 4 (by decide) (by kernel_rfl), hpost 5 (by decide) (by kernel_rfl) with
      | [n0, n1, n2, n3, n4, n5], ⟨f0, f1, f2, f3, f4, f5, f6⟩, hn, ⟨u1, p1⟩, ⟨u2, p2⟩, p4, p5 =>
        have p1' : n1 = some u1 := by simpa using p1
        have p2' : n2 = some u2 := by simpa using p2
        have hn' : n3 = none := by simpa using hn
        have p4' : n4 = none := by simpa using p4
        have p5' : n5 = none := by simpa using p5
        subst hn' p1' p2' p4' p5'
        obtain ⟨h, rfl, zh, lh⟩ := f2 _ rfl rfl
        have q5 := below_row q hw5 (Nat.le_refl _) q.size
        have he5 := HD _ q5
        refine leaves_lit _ _ w1.heap.size h 22 37 i0 _ 29 376 rfl Try.underlying22 hi0 hz0.out hz1 hz2 rfl (by omega) ?_ zh lh (.slice (Option.map (fun x => x.add (ee.length * 29)) ea) 0 (ec - ee.length)) ([] : List (List Value)).length ([] : List (List Value)).flatten ?_ he5.1 he5.one (by have := lD.out; simp only [maxLen]; omega) (by have := lD.out; omega) hw5 ?_
        · cases n0 <;> rfl
        · cases n0 <;> rfl
        intro v' w6 h2 h3
        refine ⟨fun u _ hn => by simp at hn, fun u hu => own_on (f1 u hu) h3, fun u _ hn => by simp at hn, fun u hu => ?_, fun hn => (f4 hn).on h3, fun u hu => by simp at hu, fun u hu => by simp at hu⟩
        simp at hu
        subst hu
        exact h2
    | 4, _ =>
      refine ⟨_, rfl, rfl, fun w5 ν hν hn hpre hpost hw5 hf => ?_⟩
      match ν, hf, hn, hpre 1 (by decide) (by kernel_rfl), hpost 5 (by decide) (by kernel_rfl) with
      | [n0, n1, n2, n3, n4, n5], ⟨f0, f1, f2, f3, f4, f5, f6⟩, hn, ⟨u1, p1⟩, p5 =>
        have p1' : n1 = some u1 := by simpa using p1
        have hn' : n4 = none := by simpa using hn
        have p5' : n5 = none := by simpa using p5
        subst hn' p1' p5'
        have own := f1 _ rfl
        obtain ⟨vo, vc, rfl⟩ := own_slice own
        refine leaves_put 22 24 _ _ w.heap.size 3 _ (.slice vo ee.length vc) rfl ?_ ?_ size22 rfl rfl (f4 rfl) (by simp) hw5 (.inr rfl) fun w6 z6 h6 => ⟨fun u hu hn => by simp at hn, fun u hu => own_off (f1 u hu) h6 (by omega), fun u hu hn => ?_, fun u hu => own_off (f3 u hu) h6 (by omega), fun hn => by simp at hn, fun u hu _ => ⟨_, rfl, z6⟩, fun u hu => by simp at hu⟩
        · cases n0 <;> cases n2 <;> cases n3 <;> rfl
        · cases n0 <;> cases n2 <;> cases n3 <;> rfl
        · obtain ⟨h, e, z, l⟩ := f2 u hu hn
          exact ⟨h, e, z.off h6 (by intro e2; injection e2 with e2; omega), l⟩
    | 5, _ =>
      refine ⟨_, rfl, rfl, fun w5 ν hν hn hpre hpost hw5 hf => ?_⟩
      match ν, hf, hn, hpre 3 (by decide) (by kernel_rfl), hpre 4 (by decide) (by kernel_rfl) with
      | [n0, n1, n2, n3, n4, n5], ⟨f0, f1, f2, f3, f4, f5, f6⟩, hn, ⟨u3, p3⟩, ⟨u4, p4⟩ =>
        have p3' : n3 = some u3 := by simpa using p3
        have p4' : n4 = some u4 := by simpa using p4
        have hn' : n5 = none := by simpa using hn
        subst hn' p3' p4'
        have own := f3 _ rfl
        obtain ⟨vo, vc, rfl⟩ := own_slice own
        obtain ⟨v, hv, z⟩ := f5 _ rfl rfl
        refine leaves_put 22 24 _ _ w.heap.size 2 _ (.slice vo ([] : List (List Value)).length vc) rfl ?_ ?_ size22 rfl rfl z (by simp) hw5 (.inr rfl) fun w6 z6 h6 => ⟨fun u hu hn => ?_, fun u hu => own_off (f1 u hu) h6 (by omega), fun u _ hn => by simp at hn, fun u hu => own_off (f3 u hu) h6 (by omega), fun hn => by simp at hn, fun u _ hn => by simp at hn, fun u _ => ⟨_, _, hv, rfl, z6⟩⟩
        · cases n0 <;> cases n1 <;> cases n2 <;> rfl
        · cases n0 <;> cases n1 <;> cases n2 <;> rfl
        · obtain ⟨h, e, z, l⟩ := f0 u hu hn
          exact ⟨h, e, z.off h6 (by intro e2; injection e2 with e2; omega), l⟩
  · intro ν hν hall w5 hw5 hf
    match ν, hf, hall 0 (by decide), hall 1 (by decide), hall 2 (by decide), hall 3 (by decide), hall 4 (by decide), hall 5 (by decide) with
    | [n0, n1, n2, n3, n4, n5], ⟨f0, f1, f2, f3, f4, f5, f6⟩, ⟨u0, p0⟩, ⟨u1, p1⟩, ⟨u2, p2⟩, ⟨u3, p3⟩, ⟨u4, p4⟩, ⟨u5, p5⟩ =>
      have p0' : n0 = some u0 := by simpa using p0
      have p1' : n1 = some u1 := by simpa using p1
      have p2' : n2 = some u2 := by simpa using p2
      have p3' : n3 = some u3 := by simpa using p3
      have p4' : n4 = some u4 := by simpa using p4
      have p5' : n5 = some u5 := by simpa using p5
      subst p0' p1' p2' p3' p4' p5'
      have o1 := f1 _ rfl
      have o2 := f3 _ rfl
      obtain ⟨v, v', hv, hv', z⟩ := f6 _ rfl
      obtain rfl : u1 = v := by simpa using hv
      obtain rfl : u3 = v' := by simpa using hv'
      clear f0 f1 f2 f3 f4 f5 f6 hv hv' hall hν
      obtain ⟨vo, vc, rfl⟩ := own_slice o1
      obtain ⟨vo2, vc2, rfl⟩ := own_slice o2
      have M3 : Mid w w5 #[.string to, .int .i64 next, (.slice vo2 ([] : List (List Value)).length vc2), (.slice vo ee.length vc), .int .i64 fails, .int .i64 at_] [((.slice vo2 ([] : List (List Value)).length vc2), ([] : List (List Value)).length, ([] : List (List Value)).flatten), ((.slice vo ee.length vc), ee.length, ee.flatten)] := ⟨below_row q hw5 (Nat.le_refl _) q.size, z, B2.off hw5 (by intro e; injection e with e; omega), B3.off hw5 (by intro e; injection e with e; omega), fun r hr => by
        rcases List.mem_cons.1 hr with e | e
        · subst e; exact own_base o2 (by omega)
        · rcases List.mem_cons.1 e with e | e
          · subst e; exact own_base o1 (by omega)
          · cases e⟩
      have M3 := Lib.hid M3
      clear o1 o2 z B1 B2 B3 q hw5
      simp only [dstsOfS, dstAt, List.map_cons, List.map_nil, fillO]
      simp [Act.put]
      have c0 := M3.out.b1.cell 0
      have kc0 := M3.out.b1.free 0
      have c1 := M3.out.b1.cell 1
      have kc1 := M3.out.b1.free 1
      have c2 := M3.out.b1.cell 2
      have kc2 := M3.out.b1.free 2
      have c3 := M3.out.b1.cell 3
      have kc3 := M3.out.b1.free 3
      have c4 := M3.out.b1.cell 4
      have kc4 := M3.out.b1.free 4
      have c5 := M3.out.b1.cell 5
      have kc5 := M3.out.b1.free 5
      simp at c0 c1 c2 c3 c4 c5
      have lz0 := M3.out.b1.lt
      have lz2 := M3.out.b3.lt
      go_wp2_with fail
      have M4 : Mid w (w5.setCell ⟨w.heap.size, 1, none⟩ (.int .i64 (next + 1))) #[.string to, .int .i64 (next + 1), (.slice vo2 ([] : List (List Value)).length vc2), (.slice vo ee.length vc), .int .i64 fails, .int .i64 at_] _ := M3.out.put 1 (.int .i64 (next + 1))
      obtain ⟨w6, hw6⟩ : ∃ w6, w6 = w5.setCell ⟨w.heap.size, 1, none⟩ (.int .i64 (next + 1)) := ⟨_, rfl⟩
      rw [← hw6] at M4 ⊢
      clear hw6 M3 lz0 lz2 c0 kc0 c1 kc1 c2 kc2 c3 kc3 c4 kc4 c5 kc5
      have q := M4.q
      have B1 := M4.b1
      have B2 := M4.b2
      have B3 := M4.b3
      have M4 := M4.rows
      have HEV0 : ∀ wx, Rows w [((.slice vo2 ([] : List (List Value)).length vc2), ([] : List (List Value)).length, ([] : List (List Value)).flatten), ((.slice vo ee.length vc), ee.length, ee.flatten)] wx → Evs wx (.slice vo2 ([] : List (List Value)).length vc2) ([] : List (List Value)) := fun wx x => ⟨Row.of_own (x.2 _ (List.mem_cons_self ..)), (HD wx x.1).2⟩
      have HOP0 : ∀ wx, Rows w [((.slice vo2 ([] : List (List Value)).length vc2), ([] : List (List Value)).length, ([] : List (List Value)).flatten), ((.slice vo ee.length vc), ee.length, ee.flatten)] wx → Evs wx (.slice vo ee.length vc) ee := fun wx x => ⟨Row.of_own (x.2 _ (List.mem_cons_of_mem _ (List.mem_cons_self ..))), (HT wx x.1).2⟩
      have HKX : Kept (Rows w [((.slice vo2 ([] : List (List Value)).length vc2), ([] : List (List Value)).length, ([] : List (List Value)).flatten), ((.slice vo ee.length vc), ee.length, ee.flatten)]) (w.heap.size + 1) (w.heap.size + 1 + 1) := rows_kept _ _
      refine wp_region_net4 w false [2, 3, 4] none (opF (Rows w [((.slice vo2 ([] : List (List Value)).length vc2), ([] : List (List Value)).length, ([] : List (List Value)).flatten), ((.slice vo ee.length vc), ee.length, ee.flatten)]) w.heap.size (w.heap.size + 1) (w.heap.size + 1 + 1) (w.heap.size + 1 + 1 + 1) #[.string to, .int .i64 (next + 1), (.slice vo2 ([] : List (List Value)).length vc2), (.slice vo ee.length vc), .int .i64 fails, .int .i64 at_] to ((next + 1) - 1) (ee)) (by kernel_rfl) (by kernel_rfl) (by kernel_rfl) (opF_nil (M4) B1 B2 B3) (fun h => by simp at h) (by decide) (grownBy_of_below q) ?_
      apply Exists.intro
      apply And.intro
      · rintro W1 ⟨ν, hν, _, hW, hF⟩
        have b1' := opF_row ν hF
        have hld : ∀ (X : Ext W1), (Instr.loadAt 24 (.pointer (some ⟨w.heap.size, 0, none⟩))).run Try.prog X.val = .ok (.agg #[.string to, .int .i64 (next + 1), (.slice vo2 ([] : List (List Value)).length vc2), (.slice vo ee.length vc), .int .i64 fails, .int .i64 at_]) X.val := fun X => load24 (Whole.range (b1'.on X.below)) rfl
        simp only [quietOps, List.contains_cons, List.contains_nil]
        simp
        clear hF b1'
        repeat (first | go_big_quiet_skip | (go_big_quiet_want; (first | (refine quiet_load 24 _ rfl _ rfl _ hld ?_; simp only [Act.put, List.setIfInBounds_toArray, List.set_cons_succ, List.set_cons_zero]; go_big_quiet_on) | (go_big_quiet_op; (first | go_big_quiet_on | go_big_quiet_call (fail))))))
        exact wpQuiet_nil rfl
      refine ⟨⟨opF_on HKX, fun j hj => ?_⟩, ?_⟩
      · match j, hj with
        | 0, _ =>
          refine ⟨_, rfl, rfl, fun w5 ν hν hn hpre hpost hw5 hf => ?_⟩
          match ν, hf, hn, hpost 1 (by decide) (by kernel_rfl), hpost 2 (by decide) (by kernel_rfl) with
          | [n0, n1, n2], ⟨fx, f0, f1, f2, f3, f4, f5⟩, hn, p1, p2 =>
            have hn' : n0 = none := by simpa using hn
            have p1' : n1 = none := by simpa using p1
            have p2' : n2 = none := by simpa using p2
            subst hn' p1' p2'
            have q5 := below_of_grown hw5
            have hsz : w.heap.size + 1 + 1 + 1 ≤ w5.heap.size := by have := (f3 rfl).lt; omega
            refine leaves_fn 32 [.tmp 56] _ [.agg #[.string to, .int .i64 (next + 1), (.slice vo2 ([] : List (List Value)).length vc2), (.slice vo ee.length vc), .int .i64 fails, .int .i64 at_]] (by kernel_rfl) rfl rfl (rPacketO _ _ _ _ _ _ (ee) _ (HOP0 _ fx) lT.out ⟨by omega, by omega⟩) ?_
            rintro x w6 ⟨v, rfl, own, hb6⟩
            exact ⟨_, rfl, grownBy_trans hw5 (grownBy_of_below hb6), HKX.on _ _ fx hb6, f0.on hb6, fun hn => (f1 hn).on hb6, fun u hu => by simp at hu, fun hn => (f3 hn).on hb6, fun u hu => ⟨v, by simpa using hu.symm, own_base own hsz⟩, fun u hu => by simp at hu⟩
        | 1, _ =>
          refine ⟨_, rfl, rfl, fun w5 ν hν hn hpre hpost hw5 hf => ?_⟩
          match ν, hf, hn, hpre 0 (by decide) (by kernel_rfl), hpost 2 (by decide) (by kernel_rfl) with
          | [n0, n1, n2], ⟨fx, f0, f1, f2, f3, f4, f5⟩, hn, ⟨u0, p0⟩, p2 =>
            have hn' : n1 = none := by simpa using hn
            have p0' : n0 = some u0 := by simpa using p0
            have p2' : n2 = none := by simpa using p2
            subst hn' p0' p2'
            refine leaves_store 24 24 _ _ (w.heap.size + 1) #[.string ⟨#[]⟩, .int .i64 0, .slice none 0 0, .slice none 0 0, .int .i64 0, .int .i64 0] #[.string to, .int .i64 (next + 1), (.slice vo2 ([] : List (List Value)).length vc2), (.slice vo ee.length vc), .int .i64 fails, .int .i64 at_] rfl rfl rfl size24 (f1 rfl) rfl (by simp [Value.oneCell']) hw5 (.inl (by omega)) fun w6 z6 h6 => ⟨HKX.one _ _ fx h6, f0.off h6 (by intro e; injection e with e; omega), fun hn => by simp at hn, fun u _ => z6, fun hn => (f3 hn).off h6 (by intro e; injection e with e; omega), fun u hu => ?_, fun u hu => by simp at hu⟩
            obtain ⟨v, e, o⟩ := f4 u hu
            exact ⟨v, e, own_off o h6 (by omega)⟩
        | 2, _ =>
          refine ⟨_, rfl, rfl, fun w5 ν hν hn hpre hpost hw5 hf => ?_⟩
          match ν, hf, hn, hpre 0 (by decide) (by kernel_rfl), hpre 1 (by decide) (by kernel_rfl) with
          | [n0, n1, n2], ⟨fx, f0, f1, f2, f3, f4, f5⟩, hn, ⟨u0, p0⟩, ⟨u1, p1⟩ =>
            have hn' : n2 = none := by simpa using hn
            have p0' : n0 = some u0 := by simpa using p0
            have p1' : n1 = some u1 := by simpa using p1
            subst hn' p0' p1'
            obtain ⟨v, rfl, o⟩ := f4 _ rfl
            obtain ⟨po, pc, rfl⟩ := own_slice o
            refine leaves_store 49 49 _ _ (w.heap.size + 1 + 1) pk0 (pkc to ((next + 1) - 1) (.slice po (ee).length pc)) rfl rfl rfl info49 (f3 rfl) rfl (by simp [pkc, Value.oneCell']) hw5 (.inl (by omega)) fun w6 z6 h6 => ⟨HKX.two _ _ fx h6, f0.off h6 (by intro e; injection e with e; omega), fun hn => by simp at hn, fun u hu => (f2 u hu).off h6 (by intro e; injection e with e; omega), fun hn => by simp at hn, fun u hu => ?_, fun u hu => ⟨_, z6, own_off o h6 (by omega)⟩⟩
            obtain ⟨v2, e, o2⟩ := f4 u hu
            exact ⟨v2, e, own_off o2 h6 (by omega)⟩
      · intro ν hν hall w5 hw5 hf
        match ν, hf, hall 0 (by decide), hall 1 (by decide), hall 2 (by decide) with
        | [n0, n1, n2], ⟨fx, f0, f1, f2, f3, f4, f5⟩, ⟨u0, p0⟩, ⟨u1, p1⟩, ⟨u2, p2⟩ =>
          have p0' : n0 = some u0 := by simpa using p0
          have p1' : n1 = some u1 := by simpa using p1
          have p2' : n2 = some u2 := by simpa using p2
          subst p0' p1' p2'
          have z1 := f2 _ rfl
          obtain ⟨v, z2, o⟩ := f5 _ rfl
          clear f0 f1 f2 f3 f4 f5 hall hν B1 B2 B3
          obtain ⟨po, pc, rfl⟩ := own_slice o
          have q5 := below_of_grown hw5
          have hO : Evs w5 (.slice vo ee.length vc) (ee) := HOP0 _ fx
          have hP : Evs w5 (.slice po (ee).length pc) (ee) := ⟨Row.of_own o, hO.2⟩
          have HEV := HEV0 _ fx
          have HEV := Lib.hid HEV
          clear fx
          have e1 := z1.cell
          have e2 := z2.cell
          clear o z1 z2
          simp only [dstsOfS, dstAt, List.map_cons, List.map_nil, fillO]
          simp [Act.put]
          go_wp2_with fail
          exact bodyPost_ret (v := .tuple #[.agg #[.string to, .int .i64 (next + 1), (.slice vo2 ([] : List (List Value)).length vc2), (.slice vo ee.length vc), .int .i64 fails, .int .i64 at_], .agg (pkc to ((next + 1) - 1) (.slice po (ee).length pc)), .bool true]) (by simp [results, Try.results17, go_sem, e1, e2, pkc]) rfl ⟨_, _, _, rfl, HEV.out, hO, fun _ => ⟨_, rfl, hP⟩, fun h => by simp at h, q5⟩

end Go.Proofs.Ytfebldoplobkdaa
