/- The law QueuesEnds: the walk. -/
import Derived.Test.YtfebldoplobkdaaLawC
namespace Go.Proofs.Ytfebldoplobkdaa
open Go.ChangeShapes Go.WideShapes Go.ChangeAt Go.RowKit

set_option maxRecDepth 100000 in
set_option maxHeartbeats 4000000 in
theorem ends_walk (to : ByteArray) (next : Int) (ev op : Value) (fails at_ : Int) (eo ee : List (List Value)) (w : World) (ho : Evs w op eo) (he : Evs w ev ee) (hto : to.size ≤ 9223372036854775807)
    (hn1 : -9223372036854775808 ≤ next) (hn2 : next ≤ 9223372036854775807) (hf1 : -9223372036854775808 ≤ fails) (hf2 : fails ≤ 9223372036854775807) (ha1 : -9223372036854775808 ≤ at_) (ha2 : at_ ≤ 9223372036854775807) (n now : Int) :
    Calls Try.prog 5 #[.agg #[.string to, .int .i64 next, ev, op, .int .i64 fails, .int .i64 at_], .int .i64 n, .int .i64 now] w fun x w' => x = .returned (.bool true) ∧ Below w.heap.size w w' := by
  have EE := Ev0.of he he.2
  have EO := Ev0.of ho ho.2
  have HV := fun (wx : World) (h : Below w.heap.size w wx) => qValid to next ev op fails at_ eo ee wx (ho.on h) (he.on h) hto hn1 hn2 hf1 hf2 ha1 ha2
  clear hto hn1 hn2 hf1 hf2 ha1 ha2 he ho
  obtain ⟨ea, ec, hv⟩ := EE.form
  obtain rfl : ev = .slice ea ee.length ec := hv
  obtain ⟨oa, oc, hv⟩ := EO.form
  obtain rfl : op = .slice oa eo.length oc := hv
  have ce1 := EE.cap
  have ce2 := EO.cap
  obtain ⟨cE1, cE2⟩ := ce1
  obtain ⟨cO1, cO2⟩ := ce2
  have EE := Lib.hid EE
  have EO := Lib.hid EO
  have q := Lib.hid (Below.refl w.heap.size w)
  have HEx := fun (wx : World) (h : Below w.heap.size w wx) => (EE.out.on h).evs h
  have HOx := fun (wx : World) (h : Below w.heap.size w wx) => (EO.out.on h).evs h
  go_enter Try.func5, Try.ntmps5
  go_wp2_with fail
  have hb : Below w.heap.size w (w.alloc (.cells #[.string to, .int .i64 next, (.slice ea ee.length ec), (.slice oa eo.length oc), .int .i64 fails, .int .i64 at_] 24)) := by repeat (first | exact Below.refl _ _ | refine Below.alloc ?_ (by first | (simp; done) | (simp; omega)) _)
  have Ba : Whole (w.alloc (.cells #[.string to, .int .i64 next, (.slice ea ee.length ec), (.slice oa eo.length oc), .int .i64 fails, .int .i64 at_] 24)) (w.heap.size) 24 #[.string to, .int .i64 next, (.slice ea ee.length ec), (.slice oa eo.length oc), .int .i64 fails, .int .i64 at_] := by
    have h0 := Whole.new w 24 #[.string to, .int .i64 next, (.slice ea ee.length ec), (.slice oa eo.length oc), .int .i64 fails, .int .i64 at_]
    simpa using h0
  have Ba := Lib.hid Ba
  have hb := Lib.hid hb
  have lww : w.heap.size ≤ w.heap.size := q.out.size
  have EE := Lib.hid (EE.out.on hb.out)
  have EO := Lib.hid (EO.out.on hb.out)
  have q := Lib.hid (q.out.trans (hb.out.mono q.out.size))
  have B := Ba
  obtain ⟨w1, hw⟩ : ∃ w1, w1 = (w.alloc (.cells #[.string to, .int .i64 next, (.slice ea ee.length ec), (.slice oa eo.length oc), .int .i64 fails, .int .i64 at_] 24)) := ⟨_, rfl⟩
  clear hb Ba
  rw [← hw] at B EE EO q ⊢
  clear hw
  refine (HV _ q.out).mono ?_
  rintro x w2 ⟨r, rfl, hr, hb⟩
  have B := Lib.hid (B.out.on hb)
  have EE := Lib.hid (EE.out.on hb)
  have EO := Lib.hid (EO.out.on hb)
  have q := Lib.hid (q.out.trans (hb.mono q.out.size))
  clear hb
  cases r with
  | false =>
    clear hr HV
    go_wp2_with fail
    refine (lives_true _).mono ?_
    rintro x w3 ⟨rfl, hb⟩
    go_wp2_with fail
    go_ret
    exact ⟨rfl, q.out.trans (hb.mono q.out.size)⟩
  | true =>
    obtain ⟨R, k1, k2⟩ := hr rfl
    clear hr HV
    obtain ⟨xa, xc, lo, xf, xt, ca, cra, HX, RA, lxc⟩ := ack_any to next fails at_ ea oa ec oc ee eo w n HEx HOx R
    obtain ⟨yf, yt, cf, crf, RF⟩ := fail_any to next fails at_ ea oa ec oc ee eo w now HEx HOx R
    have RA := Lib.hid RA
    have RF := Lib.hid RF
    clear R
    have ca := Lib.hid ca
    have cra := Lib.hid cra
    have cf := Lib.hid cf
    have crf := Lib.hid crf
    have HX := Lib.hid HX
    have HEx := Lib.hid HEx
    have HOx := Lib.hid HOx
    have lq := q.out.size
    go_wp2_with fail
    refine wp_region_net4 w false [6, 7, 8, 9] none (enF w w.heap.size #[.string to, .int .i64 next, (.slice ea ee.length ec), (.slice oa eo.length oc), .int .i64 fails, .int .i64 at_] #[.string to, .int .i64 next, .slice ea ee.length ec, .slice xa lo.length xc, .int .i64 xf, .int .i64 xt] #[.string to, .int .i64 next, .slice ea ee.length ec, .slice oa eo.length oc, .int .i64 yf, .int .i64 yt]) (by kernel_rfl) (by kernel_rfl) (by kernel_rfl) (enF_nil q.out B.out) (fun h => by simp at h) (by decide) (grownBy_of_below q.out) ?_
    apply Exists.intro
    apply And.intro
    · rintro W1 ⟨ν, hν, _, hW, hF⟩
      obtain ⟨hq, b1'⟩ := enF_row ν hF
      have hld : ∀ (X : Ext W1), (Instr.loadAt 24 (.pointer (some ⟨w.heap.size, 0, none⟩))).run Try.prog X.val = .ok (.agg #[.string to, .int .i64 next, (.slice ea ee.length ec), (.slice oa eo.length oc), .int .i64 fails, .int .i64 at_]) X.val := fun X => load24 (Whole.range (b1'.on X.below)) rfl
      have c1 := fun (X : Ext W1) => ca.out X.val (hq.trans (X.below.mono hq.size))
      have c2 := fun (X : Ext W1) => cf.out X.val (hq.trans (X.below.mono hq.size))
      simp only [quietOps, List.contains_cons, List.contains_nil]
      simp
      clear hF b1' hq
      repeat (first | go_big_quiet_skip | (go_big_quiet_want; (first | (refine quiet_load 24 _ rfl _ rfl _ hld ?_; simp only [Act.put, List.setIfInBounds_toArray, List.set_cons_succ, List.set_cons_zero]; go_big_quiet_on) | (go_big_quiet_op; (first | go_big_quiet_on | go_big_quiet_call (first | (with_reducible exact ext_of (c1 _)) | (with_reducible exact ext_of (c2 _))))))))
      exact wpQuiet_nil rfl
    refine ⟨⟨enF_on, fun j hj => ?_⟩, ?_⟩
    · match j, hj with
      | 0, _ =>
        refine ⟨_, rfl, rfl, fun w5 ν hν hn hpre hpost hw5 hf => ?_⟩
        match ν, hf, hn, hpost 2 (by decide) (by kernel_rfl) with
        | [n0, n1, n2, n3], ⟨f0, f1, f2, f3, f4⟩, hn, pp =>
          have hn' : n0 = none := by simpa using hn
          have pp' : n2 = none := by simpa using pp
          subst hn' pp'
          have hb5 : Below w5.heap.size w5 (w5.alloc (.cells #[.string ⟨#[]⟩, .int .i64 0, .slice none 0 0, .slice none 0 0, .int .i64 0, .int .i64 0] 24)) := below_new
          refine leaves_value (allocZ _ _ _ _ _ w5) (grownBy_trans hw5 (World.grownBy_alloc _ _ _)) ⟨f0.trans (hb5.mono f0.size), f1.on hb5, fun u hu => ⟨w5.heap.size, by simpa using hu.symm, f1.lt, fun _ => Whole.new _ _ _, fun x hx => by simp at hx⟩, fun u hu => ?_, fun h h' e e' => ?_⟩
          · obtain ⟨h, e, l, a, b⟩ := f3 u hu
            exact ⟨h, e, l, fun hn => (a hn).on hb5, fun x hx => (b x hx).on hb5⟩
          · obtain ⟨h2, e2, l, a, b⟩ := f3 _ e'
            have e3 : h = w5.heap.size := by simpa using e.symm
            have e4 : h' = h2 := by simpa using e2
            have : h2 < w5.heap.size := by
              cases n3 with
              | none => exact (a rfl).lt
              | some x => exact (b x rfl).lt
            omega
      | 1, _ =>
        refine ⟨_, rfl, rfl, fun w5 ν hν hn hpre hpost hw5 hf => ?_⟩
        match ν, hf, hn, hpost 3 (by decide) (by kernel_rfl) with
        | [n0, n1, n2, n3], ⟨f0, f1, f2, f3, f4⟩, hn, pp =>
          have hn' : n1 = none := by simpa using hn
          have pp' : n3 = none := by simpa using pp
          subst hn' pp'
          have hb5 : Below w5.heap.size w5 (w5.alloc (.cells #[.string ⟨#[]⟩, .int .i64 0, .slice none 0 0, .slice none 0 0, .int .i64 0, .int .i64 0] 24)) := below_new
          refine leaves_value (allocZ _ _ _ _ _ w5) (grownBy_trans hw5 (World.grownBy_alloc _ _ _)) ⟨f0.trans (hb5.mono f0.size), f1.on hb5, fun u hu => ?_, fun u hu => ⟨w5.heap.size, by simpa using hu.symm, f1.lt, fun _ => Whole.new _ _ _, fun x hx => by simp at hx⟩, fun h h' e e' => ?_⟩
          · obtain ⟨h, e, l, a, b⟩ := f2 u hu
            exact ⟨h, e, l, fun hn => (a hn).on hb5, fun x hx => (b x hx).on hb5⟩
          · obtain ⟨h2, e2, l, a, b⟩ := f2 _ e
            have e3 : h' = w5.heap.size := by simpa using e'.symm
            have e4 : h = h2 := by simpa using e2
            have : h2 < w5.heap.size := by
              cases n2 with
              | none => exact (a rfl).lt
              | some x => exact (b x rfl).lt
            omega
      | 2, _ =>
        refine ⟨_, rfl, rfl, fun w5 ν hν hn hpre hpost hw5 hf => ?_⟩
        match ν, hf, hn, hpre 0 (by decide) (by kernel_rfl) with
        | [n0, n1, n2, n3], ⟨f0, f1, f2, f3, f4⟩, hn, ⟨u0, p0⟩ =>
          have hn' : n2 = none := by simpa using hn
          have p0' : n0 = some u0 := by simpa using p0
          subst hn' p0'
          obtain ⟨h, rfl, l, a, b⟩ := f2 _ rfl
          have hl : w.heap.size ≤ h := by omega
          refine leaves_store 24 24 _ _ h #[.string ⟨#[]⟩, .int .i64 0, .slice none 0 0, .slice none 0 0, .int .i64 0, .int .i64 0] #[.string to, .int .i64 next, .slice ea ee.length ec, .slice xa lo.length xc, .int .i64 xf, .int .i64 xt] rfl ?_ ?_ size24 (a rfl) rfl (by simp [Value.oneCell']) hw5 (.inl hl) fun w6 z6 h6 => ?_
          · cases n1 <;> cases n3 <;> rfl
          · cases n1 <;> cases n3 <;> rfl
          refine ⟨below_row f0 h6 hl f0.size, f1.off h6 (by intro e; injection e with e; omega), fun u hu => ⟨h, by simpa using hu.symm, l, fun hn => by simp at hn, fun x _ => z6⟩, fun u hu => ?_, f4⟩
          obtain ⟨h2, e2, l2, a2, b2⟩ := f3 u hu
          have hne : h ≠ h2 := f4 h h2 rfl (by rw [hu, e2])
          exact ⟨h2, e2, l2, fun hn => (a2 hn).off h6 (by intro e; injection e with e; omega), fun x hx => (b2 x hx).off h6 (by intro e; injection e with e; omega)⟩
      | 3, _ =>
        refine ⟨_, rfl, rfl, fun w5 ν hν hn hpre hpost hw5 hf => ?_⟩
        match ν, hf, hn, hpre 1 (by decide) (by kernel_rfl) with
        | [n0, n1, n2, n3], ⟨f0, f1, f2, f3, f4⟩, hn, ⟨u0, p0⟩ =>
          have hn' : n3 = none := by simpa using hn
          have p0' : n1 = some u0 := by simpa using p0
          subst hn' p0'
          obtain ⟨h, rfl, l, a, b⟩ := f3 _ rfl
          have hl : w.heap.size ≤ h := by omega
          refine leaves_store 24 24 _ _ h #[.string ⟨#[]⟩, .int .i64 0, .slice none 0 0, .slice none 0 0, .int .i64 0, .int .i64 0] #[.string to, .int .i64 next, .slice ea ee.length ec, .slice oa eo.length oc, .int .i64 yf, .int .i64 yt] rfl ?_ ?_ size24 (a rfl) rfl (by simp [Value.oneCell']) hw5 (.inl hl) fun w6 z6 h6 => ?_
          · cases n0 <;> cases n2 <;> rfl
          · cases n0 <;> cases n2 <;> rfl
          refine ⟨below_row f0 h6 hl f0.size, f1.off h6 (by intro e; injection e with e; omega), fun u hu => ?_, fun u hu => ⟨h, by simpa using hu.symm, l, fun hn => by simp at hn, fun x _ => z6⟩, f4⟩
          obtain ⟨h2, e2, l2, a2, b2⟩ := f2 u hu
          have hne : h2 ≠ h := f4 h2 h (by rw [hu, e2]) rfl
          exact ⟨h2, e2, l2, fun hn => (a2 hn).off h6 (by intro e; injection e with e; omega), fun x hx => (b2 x hx).off h6 (by intro e; injection e with e; omega)⟩
    · intro ν hν hall w5 hw5 hf
      match ν, hf, hall 0 (by decide), hall 1 (by decide), hall 2 (by decide), hall 3 (by decide) with
      | [n0, n1, n2, n3], ⟨f0, f1, f2, f3, f4⟩, ⟨u0, p0⟩, ⟨u1, p1⟩, ⟨u2, p2⟩, ⟨u3, p3⟩ =>
        have p0' : n0 = some u0 := by simpa using p0
        have p1' : n1 = some u1 := by simpa using p1
        have p2' : n2 = some u2 := by simpa using p2
        have p3' : n3 = some u3 := by simpa using p3
        subst p0' p1' p2' p3'
        obtain ⟨h, rfl, l, _, b⟩ := f2 _ rfl
        obtain ⟨h', rfl, l', _, b'⟩ := f3 _ rfl
        have z1 := b _ rfl
        have z2 := b' _ rfl
        clear b b' f2 f3 f4 hall hν hw5
        have hq := Lib.hid f0
        have zB := Lib.hid f1
        have z1 := Lib.hid z1
        have z2 := Lib.hid z2
        clear f0 f1
        simp only [dstsOfS, dstAt, List.map_cons, List.map_nil, fillO]
        simp [Act.put]
        go_wp2_with fail
        have ex := fun (X : Ext w5) => hq.out.trans (X.below.mono hq.out.size)
        have hl1 : ∀ (X : Ext w5), (Instr.loadAt 24 (.pointer (some ⟨w.heap.size, 0, none⟩))).run Try.prog X.val = .ok (.agg #[.string to, .int .i64 next, (.slice ea ee.length ec), (.slice oa eo.length oc), .int .i64 fails, .int .i64 at_]) X.val := fun X => load24 (Whole.range (zB.out.on X.below)) rfl
        have hl2 : ∀ (X : Ext w5), (Instr.loadAt 24 (.pointer (some ⟨h, 0, none⟩))).run Try.prog X.val = .ok (.agg #[.string to, .int .i64 next, .slice ea ee.length ec, .slice xa lo.length xc, .int .i64 xf, .int .i64 xt]) X.val := fun X => load24 (Whole.range (z1.out.on X.below)) rfl
        have hl3 : ∀ (X : Ext w5), (Instr.loadAt 24 (.pointer (some ⟨h', 0, none⟩))).run Try.prog X.val = .ok (.agg #[.string to, .int .i64 next, .slice ea ee.length ec, .slice oa eo.length oc, .int .i64 yf, .int .i64 yt]) X.val := fun X => load24 (Whole.range (z2.out.on X.below)) rfl
        have c1 := fun (X : Ext w5) => cra.out X.val (ex X)
        have c2 := fun (X : Ext w5) => qSame to next _ _ xf xt _ _ lo ee X.val (HX.out _ (ex X)) (HEx.out _ (ex X)) (HX.out _ (ex X)) (HEx.out _ (ex X))
        have c3 := fun (X : Ext w5) => crf.out X.val (ex X)
        have c4 := fun (X : Ext w5) => qSame to next _ _ yf yt _ _ eo ee X.val (HOx.out _ (ex X)) (HEx.out _ (ex X)) (HOx.out _ (ex X)) (HEx.out _ (ex X))
        have c5 := fun (X : Ext w5) => qCheck to next _ _ xf xt lo ee X.val (HX.out _ (ex X)) (HEx.out _ (ex X)) RA.out
        have c6 := fun (X : Ext w5) => qCheck to next _ _ yf yt eo ee X.val (HOx.out _ (ex X)) (HEx.out _ (ex X)) RF.out
        have c7 := fun (X : Ext w5) => lives_true X.val
        clear cra crf ca cf HX HEx HOx ex
        refine wp_region_ext (by kernel_rfl) (by kernel_rfl) ?_
        repeat (first | go_big_quiet_skip | (go_big_quiet_want; (first | (refine quiet_load 24 _ rfl _ rfl _ hl1 ?_; simp only [Act.put, List.setIfInBounds_toArray, List.set_cons_succ, List.set_cons_zero]; go_big_quiet_on) | (refine quiet_load 24 _ rfl _ rfl _ hl2 ?_; simp only [Act.put, List.setIfInBounds_toArray, List.set_cons_succ, List.set_cons_zero]; go_big_quiet_on) | (refine quiet_load 24 _ rfl _ rfl _ hl3 ?_; simp only [Act.put, List.setIfInBounds_toArray, List.set_cons_succ, List.set_cons_zero]; go_big_quiet_on) | (go_big_quiet_op; (first | go_big_quiet_on | go_big_quiet_call (first | (with_reducible exact ext_of (c1 _)) | (with_reducible exact ext_of (c2 _)) | (with_reducible exact ext_of (c3 _)) | (with_reducible exact ext_of (c4 _)) | (with_reducible exact ext_of (c5 _)) | (with_reducible exact ext_of (c6 _)) | (with_reducible exact ext_of (c7 _))))))))
        refine wpQuiet_nil ?_
        intro X
        have qe := hq.out.trans (X.below.mono hq.out.size)
        clear hl1 hl2 hl3 c1 c2 c3 c4 c5 c6 c7
        go_wp2_with fail
        go_ret
        exact ⟨rfl, qe⟩

end Go.Proofs.Ytfebldoplobkdaa
