/- The law QueuesDeliver: the walk. -/
import Derived.Test.YtfebldoplobkdaaLawG
namespace Go.Proofs.Ytfebldoplobkdaa
open Go.ChangeShapes Go.WideShapes Go.ChangeAt Go.RowKit

set_option maxRecDepth 100000 in
set_option maxHeartbeats 4000000 in
theorem deliver_walk0 (to : ByteArray) (next : Int) (ev op : Value) (fails at_ : Int) (eo ee : List (List Value)) (w : World) (ho : Evs w op eo) (he : Evs w ev ee) (hto : to.size ≤ 9223372036854775807)
    (hn1 : -9223372036854775808 ≤ next) (hn2 : next ≤ 9223372036854775807) (hf1 : -9223372036854775808 ≤ fails) (hf2 : fails ≤ 9223372036854775807) (ha1 : -9223372036854775808 ≤ at_) (ha2 : at_ ≤ 9223372036854775807) (now : Int) (hbr : ¬ 0 < eo.length) :
    Calls Try.prog 6 #[.agg #[.string to, .int .i64 next, ev, op, .int .i64 fails, .int .i64 at_], .int .i64 now] w fun x w' => x = .returned (.bool true) ∧ Below w.heap.size w w' := by
  have EE := Ev0.of he he.2
  have EO := Ev0.of ho ho.2
  have HV := fun (wx : World) (h : Below w.heap.size w wx) => qValid to next ev op fails at_ eo ee wx (ho.on h) (he.on h) hto hn1 hn2 hf1 hf2 ha1 ha2
  clear hto hn1 hn2 hf1 hf2 ha1 ha2 he ho
  obtain ⟨ea, ec, hv⟩ := EE.form
  obtain rfl : ev = .slice ea ee.length ec := hv
  obtain ⟨oa, oc, hv⟩ := EO.form
  obtain rfl : op = .slice oa eo.length oc := hv
  have ce1 := EE.cap
  have ce2 := EO.cap
  obtain ⟨cE1, cE2⟩ := ce1
  obtain ⟨cO1, cO2⟩ := ce2
  have EE := Lib.hid EE
  have EO := Lib.hid EO
  have q := Lib.hid (Below.refl w.heap.size w)
  have HBE := fun (h : 0 < ee.length) => Row.blk EE.out.1 h
  have AOK : ∀ c ∈ eo ++ ee, EvOK w c := fun c hc => (List.mem_append.1 hc).elim (EO.out.2 c) (EE.out.2 c)
  have HBE := Lib.hid HBE
  have AOK := Lib.hid AOK
  go_enter Try.func6, Try.ntmps6
  go_wp2_with fail
  have hb : Below w.heap.size w (w.alloc (.cells #[.string to, .int .i64 next, (.slice ea ee.length ec), (.slice oa eo.length oc), .int .i64 fails, .int .i64 at_] 24)) := by repeat (first | exact Below.refl _ _ | refine Below.alloc ?_ (by first | (simp; done) | (simp; omega)) _)
  have Ba : Whole (w.alloc (.cells #[.string to, .int .i64 next, (.slice ea ee.length ec), (.slice oa eo.length oc), .int .i64 fails, .int .i64 at_] 24)) (w.heap.size) 24 #[.string to, .int .i64 next, (.slice ea ee.length ec), (.slice oa eo.length oc), .int .i64 fails, .int .i64 at_] := by
    have h0 := Whole.new w 24 #[.string to, .int .i64 next, (.slice ea ee.length ec), (.slice oa eo.length oc), .int .i64 fails, .int .i64 at_]
    simpa using h0
  have Ba := Lib.hid Ba
  have hb := Lib.hid hb
  have lww : w.heap.size ≤ w.heap.size := q.out.size
  have EE := Lib.hid (EE.out.on hb.out)
  have EO := Lib.hid (EO.out.on hb.out)
  have q := Lib.hid (q.out.trans (hb.out.mono q.out.size))
  have B := Ba
  obtain ⟨w1, hw⟩ : ∃ w1, w1 = (w.alloc (.cells #[.string to, .int .i64 next, (.slice ea ee.length ec), (.slice oa eo.length oc), .int .i64 fails, .int .i64 at_] 24)) := ⟨_, rfl⟩
  clear hb Ba
  rw [← hw] at B EE EO q ⊢
  clear hw
  refine (HV _ q.out).mono ?_
  rintro x w2 ⟨r, rfl, hr, hb⟩
  have B := Lib.hid (B.out.on hb)
  have EE := Lib.hid (EE.out.on hb)
  have EO := Lib.hid (EO.out.on hb)
  have q := Lib.hid (q.out.trans (hb.mono q.out.size))
  clear hb
  cases r with
  | false =>
    clear hr HV
    go_wp2_with fail
    refine (lives_true _).mono ?_
    rintro x w3 ⟨rfl, hb⟩
    go_wp2_with fail
    go_ret
    exact ⟨rfl, q.out.trans (hb.mono q.out.size)⟩
  | true =>
    obtain ⟨R, h1, h2⟩ := hr rfl
    clear hr HV
    have d0 := B.out.cell 0
    have d1 := B.out.cell 1
    have d2 := B.out.cell 2
    have d3 := B.out.cell 3
    have d4 := B.out.cell 4
    have d5 := B.out.cell 5
    simp at d0 d1 d2 d3 d4 d5
    have dl := B.out.lt
    by_cases hA : now < at_
    · clear R
      go_wp2_with fail
      clear d0 d1 d2 d3 d4 d5 dl
      refine (lives_true _).mono ?_
      rintro x y1 ⟨rfl, hb⟩
      go_wp2_with fail
      go_ret
      exact ⟨rfl, q.out.trans (hb.mono q.out.size)⟩
    by_cases hB : 1000000 < next
    · clear R
      go_wp2_with fail
      clear d0 d1 d2 d3 d4 d5 dl
      refine (lives_true _).mono ?_
      rintro x y2 ⟨rfl, hb⟩
      go_wp2_with fail
      go_ret
      exact ⟨rfl, q.out.trans (hb.mono q.out.size)⟩
    have R := Lib.hid R
    have LB2 := B.out.lt
    go_wp2_with fail
    clear d0 d1 d2 d3 d4 d5 dl
    obtain ⟨i0, hi0, hz0, hz1, hz2⟩ := info_parts zinfo
    have hz0 := Lib.hid hz0
    refine wp_region_net [0, 3, 6, 7] none (allF w2 eo ee) (by kernel_rfl) (by kernel_rfl) (by kernel_rfl) trivial ?_
    apply Exists.intro
    apply And.intro
    · intro W1 hW
      have hb := below_of_grown hW
      have hx : ∀ (X : Ext W1) (o : Nat), X.val.cell? ⟨w.heap.size, o, none⟩ = (#[.string to, .int .i64 next, (.slice ea ee.length ec), (.slice oa eo.length oc), .int .i64 fails, .int .i64 at_] : Array Value)[o]? := fun X o => ((B.out.on hb).on X.below).cell o
      simp only [quietOps, List.contains_cons, List.contains_nil]
      simp
      repeat (first | go_big_quiet_skip | (go_big_quiet_want; (first | (go_big_quiet_op; (first | go_big_quiet_on | go_big_quiet_call (fail))))))
      exact wpQuiet_nil rfl
    refine ⟨⟨allF_on, fun j hj => ?_⟩, ?_⟩
    · match j, hj with
      | 0, _ =>
        refine ⟨_, rfl, rfl, fun w2 ν hν hw2 _ => ?_⟩
        obtain rfl : ν = [] := List.eq_nil_of_length_eq_zero hν
        exact leaves_value (build0 _ _ _ _ _ w2) (grownBy_trans hw2 (World.grownBy_alloc _ _ _)) ⟨_, rfl, World.ownsRow_made w2 #[] 0 hw2.size (by simp [maxLen]) (by simp)⟩
      | 1, _ =>
        refine ⟨_, rfl, rfl, fun w3 ν hν hw3 hf => ?_⟩
        obtain ⟨v, rfl, own⟩ := hf
        have hb := below_of_grown hw3
        have ho3 := (EO.out.on hb).evs (q.out.trans (hb.mono q.out.size))
        refine leaves_append _ _ w2.heap.size 22 37 i0 _ 29 376 rfl Try.underlying22 hi0 hz0.out hz1 hz2 rfl (by omega) v 0 [] rfl own _ eo.length eo.flatten rfl ho3.1 ho3.one (by simp only [maxLen]; omega) (by omega) hw3 (Nat.le_refl _) hw3.size ?_
        intro v' w' h2 _ _
        exact ⟨v, v', rfl, by simpa using h2⟩
      | 2, _ =>
        refine ⟨_, rfl, rfl, fun w3 ν hν hw3 hf => ?_⟩
        obtain ⟨a, v, rfl, own⟩ := hf
        have hb := below_of_grown hw3
        have he3 := (EE.out.on hb).evs (q.out.trans (hb.mono q.out.size))
        refine leaves_append _ _ w2.heap.size 22 37 i0 _ 29 376 rfl Try.underlying22 hi0 hz0.out hz1 hz2 rfl (by omega) v eo.length eo.flatten rfl own _ ee.length ee.flatten rfl he3.1 he3.one (by simp only [maxLen]; omega) (by omega) hw3 (Nat.le_refl _) hw3.size ?_
        intro v' w' h2 _ _
        exact ⟨a, v, v', rfl, h2⟩
      | 3, _ =>
        refine ⟨_, rfl, rfl, fun w2 ν hν hw2 hf => ?_⟩
        obtain ⟨a, b, v, rfl, own⟩ := hf
        exact ⟨hw2, a, b, v, rfl, own⟩
    · intro ν w3 hν hw3 hf
      obtain ⟨a, b, wantv, rfl, own⟩ := hf
      have hb := below_of_grown hw3
      have B := Lib.hid (B.out.on hb)
      have EE := Lib.hid (EE.out.on hb)
      have EO := Lib.hid (EO.out.on hb)
      have q := Lib.hid (q.out.trans (hb.mono q.out.size))
      clear hb hw3
      replace own : w3.ownsRow w2.heap.size 37 29 wantv (eo ++ ee).length (eo ++ ee).flatten := by rw [List.flatten_append, List.length_append]; exact own
      have HWB : ∀ b, wantv.ownBlock = some b → b < w3.heap.size := fun b hb => (own.lt b hb).2
      have HWB := Lib.hid HWB
      have OW := Lib.hid own
      clear own
      obtain ⟨all, hall⟩ : ∃ all, all = eo ++ ee := ⟨_, rfl⟩
      rw [← hall] at OW AOK
      have lall : all.length ≤ 180 := by rw [hall, List.length_append]; omega
      have hall := Lib.hid hall
      simp only [dstsOfS, dstAt, List.map_cons, List.map_nil, fillA]
      simp [Act.put]
      have h0 : ¬ 0 < eo.length := hbr
      have d0 := B.out.cell 0
      have d1 := B.out.cell 1
      have d2 := B.out.cell 2
      have d3 := B.out.cell 3
      have d4 := B.out.cell 4
      have d5 := B.out.cell 5
      simp at d0 d1 d2 d3 d4 d5
      have dl := B.out.lt
      have r1 := R.out.n1
      have r2 := R.out.n2
      go_wp2_with fail
      clear d0 d1 d2 d3 d4 d5 dl
      have LB := B.out.lt
      have hb : Below w3.heap.size w3 (w3.alloc (.cells #[] 37)) := by repeat (first | exact Below.refl _ _ | refine Below.alloc ?_ (by first | (simp; done) | (simp; omega)) _)
      have Sa : Whole (w3.alloc (.cells #[] 37)) (w3.heap.size) 37 #[] := by
        have h0 := Whole.new w3 37 #[]
        simpa using h0
      have Sa := Lib.hid Sa
      have hb := Lib.hid hb
      have lww3 : w.heap.size ≤ w3.heap.size := q.out.size
      have xBw3 : (w.heap.size) < w3.heap.size := B.out.lt
      have B := Lib.hid (B.out.on hb.out)
      have EE := Lib.hid (EE.out.on hb.out)
      have EO := Lib.hid (EO.out.on hb.out)
      have q := Lib.hid (q.out.trans (hb.out.mono q.out.size))
      have OW := Lib.hid (own_on OW.out hb.out)
      have S := Sa
      obtain ⟨w4, hw⟩ : ∃ w4, w4 = (w3.alloc (.cells #[] 37)) := ⟨_, rfl⟩
      clear hb Sa
      rw [← hw] at B S EE EO OW q ⊢
      clear hw
      have I0 : DelInv w w3.heap.size to now all wantv 0 next fails at_ (.slice ea ee.length ec) (.slice oa eo.length oc) (.slice (some ⟨w3.heap.size, 0, none⟩) 0 0) ee eo [] w4 := by
        refine ⟨q.out, B.out, EE.out, EO.out, R.out, fun _ => by omega, ⟨by simp, .inr ⟨w3.heap.size, 0, #[], rfl, Nat.le_refl _, S.out, Nat.le_refl _, by simp [maxLen], by simp, by simp⟩⟩, LB, ?_, ⟨_, LB2, OW.out⟩, AOK.out, by rw [hall.out]; rfl, by omega, by omega, fun b hb hl hn => ?_, fun b hb hn => ?_⟩
        · have := S.out.lt; omega
        · have e1 : b = w3.heap.size := by simpa [Value.ownBlock] using hb.symm
          have e2 := HBE.out hl b hn
          omega
        · have e1 : b = w3.heap.size := by simpa [Value.ownBlock] using hb.symm
          have e2 := HWB.out b hn
          omega
      have I0 := Lib.hid I0
      clear B S EE EO OW HWB HBE q R LB r1 r2 hA hB
      go_loopw [6, 7, 8, 9, 10, 11] (fun nv sent iv _ _ _ wr => ∃ (k : Nat) (nx fl at' : Int) (evv opv st : Value) (le lo sl : List (List Value)), iv = .int .i64 k ∧ nv = .int .i64 (if 0 < lo.length then nx - 1 else nx) ∧ st = sent ∧ DelInv w w3.heap.size to now all wantv k nx fl at' evv opv st le lo sl wr) (fun _ _ iv _ _ _ _ => 200 - (intOf iv).toNat)
      case atStart => exact ⟨0, next, fails, at_, _, _, _, ee, eo, [], rfl, by rw [if_neg h0], rfl, I0.out⟩
      case round =>
        clear I0 h0 hbr h1 h2 cE1 cE2 cO1 cO2 hall
        obtain ⟨k, nx, fl, at', evv, opv, sent, le, lo, sl, rfl, rfl, rfl, I⟩ := hrel
        have q := Lib.hid I.q
        have qr := Lib.hid (Below.refl wr.heap.size wr)
        have B := Lib.hid I.B
        have EV := I.e
        have EP := I.o
        have R := Lib.hid I.R
        have cnt := I.cnt
        have nxk := I.nxk
        have wb := I.wb
        have bs := I.bs
        have spl := Lib.hid I.split
        have at0 := Lib.hid I.at0
        have own := Lib.hid I.own
        have aok := Lib.hid I.allok
        have ap1 := Lib.hid I.ap1
        have ap2 := Lib.hid I.ap2
        obtain ⟨bw, lbw, OW⟩ := I.want
        have OW := Lib.hid OW
        have hwb := Lib.hid (fun (b : Nat) (hb : wantv.ownBlock = some b) => (OW.out.lt b hb).2)
        have hsb : ∀ b, sent.ownBlock = some b → w3.heap.size ≤ b ∧ b < wr.heap.size := fun b hb => I.own.lt b hb
        have hsb := Lib.hid hsb
        clear I
        obtain ⟨xa, xc, hv⟩ := EV.form
        obtain rfl : evv = .slice xa le.length xc := hv
        obtain ⟨ya, yc, hv⟩ := EP.form
        obtain rfl : opv = .slice ya lo.length yc := hv
        have v1 := EV.cap
        have v2 := EP.cap
        have r1 := R.out.n1
        have r2 := R.out.n2
        have r3 := R.out.lo
        have EV := Lib.hid EV
        have EP := Lib.hid EP
        have sln : sl.length + (lo.length + le.length) = all.length := by rw [← spl.out, List.length_append, List.length_append]
        have hk : k < 200 := by omega
        by_cases hd : lo.length + le.length = 0
        · obtain rfl : lo = [] := List.eq_nil_of_length_eq_zero (by omega)
          obtain rfl : le = [] := List.eq_nil_of_length_eq_zero (by omega)
          obtain rfl : sl = all := by have := spl.out; simpa using this
          clear hd sln cnt nxk spl at0 v1 v2
          have d0 := B.out.cell 0
          have d1 := B.out.cell 1
          have d2 := B.out.cell 2
          have d3 := B.out.cell 3
          have d4 := B.out.cell 4
          have d5 := B.out.cell 5
          simp at d0 d1 d2 d3 d4 d5
          have dl := B.out.lt
          go_wp2_with fail
          clear d0 d1 d2 d3 d4 d5 dl
          refine (qDone to nx _ _ fl at' now w _ q.out EP.out EV.out ⟨r1, r2⟩).mono ?_
          rintro x x0 ⟨v1, v2, rfl, EA1, EB1, hb⟩
          obtain ⟨a10, c10, hv⟩ := EA1.form
          obtain rfl : v1 = .slice a10 0 c10 := hv
          obtain ⟨a11, c11, hv⟩ := EB1.form
          obtain rfl : v2 = .slice a11 0 c11 := hv
          have B := Lib.hid (B.out.on hb)
          have EV := Lib.hid (EV.out.on hb)
          have EP := Lib.hid (EP.out.on hb)
          have q := Lib.hid (q.out.trans (hb.mono q.out.size))
          have qr := Lib.hid (qr.out.trans (hb.mono qr.out.size))
          have OW := Lib.hid (own_on OW.out hb)
          have EA1 := Lib.hid EA1
          have EB1 := Lib.hid EB1
          clear hb
          have hb : Below x0.heap.size x0 ((x0.alloc (.cells #[.string ⟨#[]⟩, .int .i64 0, .slice none 0 0, .slice none 0 0, .int .i64 0, .int .i64 0] 24)).alloc (.cells #[.string ⟨#[]⟩, .string ⟨#[]⟩, .int .i64 0, .int .i64 0, .string ⟨#[]⟩, .slice none 0 0, .slice none 0 0, .slice none 0 0, .string ⟨#[]⟩, .int .i64 0] 49)) := by repeat (first | exact Below.refl _ _ | refine Below.alloc ?_ (by first | (simp; done) | (simp; omega)) _)
          have D1a : Whole ((x0.alloc (.cells #[.string ⟨#[]⟩, .int .i64 0, .slice none 0 0, .slice none 0 0, .int .i64 0, .int .i64 0] 24)).alloc (.cells #[.string ⟨#[]⟩, .string ⟨#[]⟩, .int .i64 0, .int .i64 0, .string ⟨#[]⟩, .slice none 0 0, .slice none 0 0, .slice none 0 0, .string ⟨#[]⟩, .int .i64 0] 49)) (x0.heap.size) 24 #[.string ⟨#[]⟩, .int .i64 0, .slice none 0 0, .slice none 0 0, .int .i64 0, .int .i64 0] := by
            have h0 := Whole.new x0 24 #[.string ⟨#[]⟩, .int .i64 0, .slice none 0 0, .slice none 0 0, .int .i64 0, .int .i64 0]
            have h0 := h0.on (below_new (o := .cells #[.string ⟨#[]⟩, .string ⟨#[]⟩, .int .i64 0, .int .i64 0, .string ⟨#[]⟩, .slice none 0 0, .slice none 0 0, .slice none 0 0, .string ⟨#[]⟩, .int .i64 0] 49))
            simpa using h0
          have D1a := Lib.hid D1a
          have P1a : Whole ((x0.alloc (.cells #[.string ⟨#[]⟩, .int .i64 0, .slice none 0 0, .slice none 0 0, .int .i64 0, .int .i64 0] 24)).alloc (.cells #[.string ⟨#[]⟩, .string ⟨#[]⟩, .int .i64 0, .int .i64 0, .string ⟨#[]⟩, .slice none 0 0, .slice none 0 0, .slice none 0 0, .string ⟨#[]⟩, .int .i64 0] 49)) (x0.heap.size + 1) 49 #[.string ⟨#[]⟩, .string ⟨#[]⟩, .int .i64 0, .int .i64 0, .string ⟨#[]⟩, .slice none 0 0, .slice none 0 0, .slice none 0 0, .string ⟨#[]⟩, .int .i64 0] := by
            have h0 := Whole.new (x0.alloc (.cells #[.string ⟨#[]⟩, .int .i64 0, .slice none 0 0, .slice none 0 0, .int .i64 0, .int .i64 0] 24)) 49 #[.string ⟨#[]⟩, .string ⟨#[]⟩, .int .i64 0, .int .i64 0, .string ⟨#[]⟩, .slice none 0 0, .slice none 0 0, .slice none 0 0, .string ⟨#[]⟩, .int .i64 0]
            simpa using h0
          have P1a := Lib.hid P1a
          have hb := Lib.hid hb
          have lwx0 : w.heap.size ≤ x0.heap.size := q.out.size
          have xBx0 : w.heap.size < x0.heap.size := B.out.lt
          have lrx0 : wr.heap.size ≤ x0.heap.size := qr.out.size
          go_wp2_with (first | ((with_reducible refine list_store24 _ _ _ #[.string to, .int .i64 nx, (.slice a10 0 c10), (.slice a11 0 c11), .int .i64 fl, .int .i64 at'] D1a.out rfl ?_ ?_ ?_ ?_ ?_ ?_ ?_); all_goals try rfl; all_goals try (simp [Value.oneCell']; done)))
          case refine_4 => simp [Value.oneCell']
          intro x1 z hg
          have EV := Lib.hid ((EV.out.on hb.out).off D1a.out (by simp) hg)
          have EP := Lib.hid ((EP.out.on hb.out).off D1a.out (by simp) hg)
          have EA1 := Lib.hid ((EA1.out.on hb.out).off D1a.out (by simp) hg)
          have EB1 := Lib.hid ((EB1.out.on hb.out).off D1a.out (by simp) hg)
          have B := Lib.hid ((B.out.on hb.out).off hg (by intro e; injection e with e; omega))
          have P1 := Lib.hid (P1a.out.off hg (by intro e; injection e with e; omega))
          have q := Lib.hid (q.out.trans (hb.out.mono q.out.size))
          have qr := Lib.hid (qr.out.trans (hb.out.mono qr.out.size))
          have qr := Lib.hid (below_row qr.out hg (by omega) qr.out.size)
          have OW := Lib.hid (own_on OW.out hb.out)
          have OW := Lib.hid (OW.out.kept hg (.inr (fun e => by have := hwb.out _ e; omega)))
          have q := Lib.hid (below_row q.out hg (by omega) q.out.size)
          have D1 := Lib.hid z
          clear z hg hb D1a P1a
          go_wp2_with (first | ((with_reducible refine list_store49 _ _ _ #[.string ⟨#[]⟩, .string ⟨#[]⟩, .int .i64 0, .int .i64 0, .string ⟨#[]⟩, .slice none 0 0, .slice none 0 0, .slice none 0 0, .string ⟨#[]⟩, .int .i64 0] P1.out rfl ?_ ?_ ?_ ?_ ?_ ?_ ?_); all_goals try rfl; all_goals try (simp [Value.oneCell']; done)))
          case refine_4 => simp [Value.oneCell']
          intro x2 z hg
          have EV := Lib.hid (EV.out.off P1.out (by simp) hg)
          have EP := Lib.hid (EP.out.off P1.out (by simp) hg)
          have EA1 := Lib.hid (EA1.out.off P1.out (by simp) hg)
          have EB1 := Lib.hid (EB1.out.off P1.out (by simp) hg)
          have B := Lib.hid (B.out.off hg (by intro e; injection e with e; omega))
          have D1 := Lib.hid (D1.out.off hg (by intro e; injection e with e; omega))
          have qr := Lib.hid (below_row qr.out hg (by omega) qr.out.size)
          have OW := Lib.hid (OW.out.kept hg (.inr (fun e => by have := hwb.out _ e; omega)))
          have q := Lib.hid (below_row q.out hg (by omega) q.out.size)
          have P1 := Lib.hid z
          clear z hg
          go_wp2_with fail
          have K1 : Evs x2 sent sl := ⟨Row.of_own (own_on own.out qr.out), fun c hc => (aok.out c hc).on q.out⟩
          have K2 : Evs x2 wantv sl := ⟨Row.of_own OW.out, fun c hc => (aok.out c hc).on q.out⟩
          refine (sameAll _ _ sl _ K1 K2).mono ?_
          rintro x x3 ⟨rfl, hb⟩
          have B := Lib.hid (B.out.on hb)
          have D1 := Lib.hid (D1.out.on hb)
          have P1 := Lib.hid (P1.out.on hb)
          have EV := Lib.hid (EV.out.on hb)
          have EP := Lib.hid (EP.out.on hb)
          have EA1 := Lib.hid (EA1.out.on hb)
          have EB1 := Lib.hid (EB1.out.on hb)
          have q := Lib.hid (q.out.trans (hb.mono q.out.size))
          have qr := Lib.hid (qr.out.trans (hb.mono qr.out.size))
          have OW := Lib.hid (own_on OW.out hb)
          clear hb
          clear K1 K2
          have d0 := D1.out.cell 0
          have d1 := D1.out.cell 1
          have d2 := D1.out.cell 2
          have d3 := D1.out.cell 3
          have d4 := D1.out.cell 4
          have d5 := D1.out.cell 5
          simp at d0 d1 d2 d3 d4 d5
          have dl := D1.out.lt
          go_wp2_with fail
          clear d0 d1 d2 d3 d4 d5 dl
          refine (qSize00 to nx _ _ fl at' w _ q.out EB1.out EA1.out).mono ?_
          rintro x x4 ⟨rfl, hb⟩
          have B := Lib.hid (B.out.on hb)
          have D1 := Lib.hid (D1.out.on hb)
          have P1 := Lib.hid (P1.out.on hb)
          have EV := Lib.hid (EV.out.on hb)
          have EP := Lib.hid (EP.out.on hb)
          have EA1 := Lib.hid (EA1.out.on hb)
          have EB1 := Lib.hid (EB1.out.on hb)
          have q := Lib.hid (q.out.trans (hb.mono q.out.size))
          have qr := Lib.hid (qr.out.trans (hb.mono qr.out.size))
          have OW := Lib.hid (own_on OW.out hb)
          clear hb
          go_wp2_with fail
          refine (lives_true _).mono ?_
          rintro x x5 ⟨rfl, hb⟩
          go_wp2_with fail
          go_ret
          exact ⟨rfl, q.out.trans (hb.mono q.out.size)⟩
        · obtain ⟨nN, lE, lO, R2, hlO, hlen, hsp, hnN, OA⟩ := qSend to nx (.slice xa le.length xc) (.slice ya lo.length yc) fl at' now lo le w R.out at0.out (by omega) (by omega) (by omega)
          have hnn : (if 0 < lo.length then nx - 1 else nx) = nN - 1 := by rw [hnN]; split <;> omega
          rw [hnn]
          clear hnn
          have hnN2 : nN ≤ nx + 1 := by rw [hnN]; split <;> omega
          have hnN1 : nx ≤ nN := by rw [hnN]; split <;> omega
          clear hnN
          have hlen2 : lO.length + lE.length = lo.length + le.length := by have := congrArg List.length hsp; simpa using this
          have hsp := Lib.hid hsp
          have lO50 := R2.lo
          have R2 := Lib.hid R2
          have OA := Lib.hid OA
          have e1 : ((lO.length : Int) == 0) = false := beq_eq_false_iff_ne.2 (by omega)
          have e2 : ¬ (50 : Int) < (lO.length : Int) := by omega
          have d0 := B.out.cell 0
          have d1 := B.out.cell 1
          have d2 := B.out.cell 2
          have d3 := B.out.cell 3
          have d4 := B.out.cell 4
          have d5 := B.out.cell 5
          simp at d0 d1 d2 d3 d4 d5
          have dl := B.out.lt
          go_wp2_with fail
          clear d0 d1 d2 d3 d4 d5 dl
          refine (OA.out _ q.out EP.out EV.out).mono ?_
          rintro x x0 ⟨v1, v2, u, rfl, EA1, EB1, EC1, fr, hb⟩
          have fr := Lib.hid fr
          obtain ⟨a10, c10, hv⟩ := EA1.form
          obtain rfl : v1 = .slice a10 lE.length c10 := hv
          obtain ⟨a11, c11, hv⟩ := EB1.form
          obtain rfl : v2 = .slice a11 lO.length c11 := hv
          obtain ⟨a12, c12, hv⟩ := EC1.form
          obtain rfl : u = .slice a12 lO.length c12 := hv
          have B := Lib.hid (B.out.on hb)
          have EV := Lib.hid (EV.out.on hb)
          have EP := Lib.hid (EP.out.on hb)
          have q := Lib.hid (q.out.trans (hb.mono q.out.size))
          have qr := Lib.hid (qr.out.trans (hb.mono qr.out.size))
          have OW := Lib.hid (own_on OW.out hb)
          have EA1 := Lib.hid EA1
          have EB1 := Lib.hid EB1
          have EC1 := Lib.hid EC1
          clear hb
          have hb : Below x0.heap.size x0 ((x0.alloc (.cells #[.string ⟨#[]⟩, .int .i64 0, .slice none 0 0, .slice none 0 0, .int .i64 0, .int .i64 0] 24)).alloc (.cells #[.string ⟨#[]⟩, .string ⟨#[]⟩, .int .i64 0, .int .i64 0, .string ⟨#[]⟩, .slice none 0 0, .slice none 0 0, .slice none 0 0, .string ⟨#[]⟩, .int .i64 0] 49)) := by repeat (first | exact Below.refl _ _ | refine Below.alloc ?_ (by first | (simp; done) | (simp; omega)) _)
          have D1a : Whole ((x0.alloc (.cells #[.string ⟨#[]⟩, .int .i64 0, .slice none 0 0, .slice none 0 0, .int .i64 0, .int .i64 0] 24)).alloc (.cells #[.string ⟨#[]⟩, .string ⟨#[]⟩, .int .i64 0, .int .i64 0, .string ⟨#[]⟩, .slice none 0 0, .slice none 0 0, .slice none 0 0, .string ⟨#[]⟩, .int .i64 0] 49)) (x0.heap.size) 24 #[.string ⟨#[]⟩, .int .i64 0, .slice none 0 0, .slice none 0 0, .int .i64 0, .int .i64 0] := by
            have h0 := Whole.new x0 24 #[.string ⟨#[]⟩, .int .i64 0, .slice none 0 0, .slice none 0 0, .int .i64 0, .int .i64 0]
            have h0 := h0.on (below_new (o := .cells #[.string ⟨#[]⟩, .string ⟨#[]⟩, .int .i64 0, .int .i64 0, .string ⟨#[]⟩, .slice none 0 0, .slice none 0 0, .slice none 0 0, .string ⟨#[]⟩, .int .i64 0] 49))
            simpa using h0
          have D1a := Lib.hid D1a
          have P1a : Whole ((x0.alloc (.cells #[.string ⟨#[]⟩, .int .i64 0, .slice none 0 0, .slice none 0 0, .int .i64 0, .int .i64 0] 24)).alloc (.cells #[.string ⟨#[]⟩, .string ⟨#[]⟩, .int .i64 0, .int .i64 0, .string ⟨#[]⟩, .slice none 0 0, .slice none 0 0, .slice none 0 0, .string ⟨#[]⟩, .int .i64 0] 49)) (x0.heap.size + 1) 49 #[.string ⟨#[]⟩, .string ⟨#[]⟩, .int .i64 0, .int .i64 0, .string ⟨#[]⟩, .slice none 0 0, .slice none 0 0, .slice none 0 0, .string ⟨#[]⟩, .int .i64 0] := by
            have h0 := Whole.new (x0.alloc (.cells #[.string ⟨#[]⟩, .int .i64 0, .slice none 0 0, .slice none 0 0, .int .i64 0, .int .i64 0] 24)) 49 #[.string ⟨#[]⟩, .string ⟨#[]⟩, .int .i64 0, .int .i64 0, .string ⟨#[]⟩, .slice none 0 0, .slice none 0 0, .slice none 0 0, .string ⟨#[]⟩, .int .i64 0]
            simpa using h0
          have P1a := Lib.hid P1a
          have hb := Lib.hid hb
          have lwx0 : w.heap.size ≤ x0.heap.size := q.out.size
          have xBx0 : w.heap.size < x0.heap.size := B.out.lt
          have lrx0 : wr.heap.size ≤ x0.heap.size := qr.out.size
          go_wp2_with (first | ((with_reducible refine list_store24 _ _ _ #[.string to, .int .i64 nN, (.slice a10 lE.length c10), (.slice a11 lO.length c11), .int .i64 fl, .int .i64 at'] D1a.out rfl ?_ ?_ ?_ ?_ ?_ ?_ ?_); all_goals try rfl; all_goals try (simp [Value.oneCell']; done)))
          case refine_4 => simp [Value.oneCell']
          intro x1 z hg
          have EV := Lib.hid ((EV.out.on hb.out).off D1a.out (by simp) hg)
          have EP := Lib.hid ((EP.out.on hb.out).off D1a.out (by simp) hg)
          have EA1 := Lib.hid ((EA1.out.on hb.out).off D1a.out (by simp) hg)
          have EB1 := Lib.hid ((EB1.out.on hb.out).off D1a.out (by simp) hg)
          have EC1 := Lib.hid ((EC1.out.on hb.out).off D1a.out (by simp) hg)
          have B := Lib.hid ((B.out.on hb.out).off hg (by intro e; injection e with e; omega))
          have P1 := Lib.hid (P1a.out.off hg (by intro e; injection e with e; omega))
          have q := Lib.hid (q.out.trans (hb.out.mono q.out.size))
          have qr := Lib.hid (qr.out.trans (hb.out.mono qr.out.size))
          have qr := Lib.hid (below_row qr.out hg (by omega) qr.out.size)
          have OW := Lib.hid (own_on OW.out hb.out)
          have OW := Lib.hid (OW.out.kept hg (.inr (fun e => by have := hwb.out _ e; omega)))
          have q := Lib.hid (below_row q.out hg (by omega) q.out.size)
          have D1 := Lib.hid z
          clear z hg hb D1a P1a
          go_wp2_with (first | ((with_reducible refine list_store49 _ _ _ #[.string ⟨#[]⟩, .string to, .int .i64 1, .int .i64 (nN - 1), .string ⟨#[]⟩, (.slice a12 lO.length c12), .slice none 0 0, .slice none 0 0, .string ⟨#[]⟩, .int .i64 0] P1.out rfl ?_ ?_ ?_ ?_ ?_ ?_ ?_); all_goals try rfl; all_goals try (simp [Value.oneCell']; done)))
          case refine_4 => simp [Value.oneCell']
          intro x2 z hg
          have EV := Lib.hid (EV.out.off P1.out (by simp) hg)
          have EP := Lib.hid (EP.out.off P1.out (by simp) hg)
          have EA1 := Lib.hid (EA1.out.off P1.out (by simp) hg)
          have EB1 := Lib.hid (EB1.out.off P1.out (by simp) hg)
          have EC1 := Lib.hid (EC1.out.off P1.out (by simp) hg)
          have B := Lib.hid (B.out.off hg (by intro e; injection e with e; omega))
          have D1 := Lib.hid (D1.out.off hg (by intro e; injection e with e; omega))
          have qr := Lib.hid (below_row qr.out hg (by omega) qr.out.size)
          have OW := Lib.hid (OW.out.kept hg (.inr (fun e => by have := hwb.out _ e; omega)))
          have q := Lib.hid (below_row q.out hg (by omega) q.out.size)
          have P1 := Lib.hid z
          clear z hg
          have cA := EA1.out.cap
          have cB := EB1.out.cap
          have p0 := P1.out.cell 0
          have p1 := P1.out.cell 1
          have p2 := P1.out.cell 2
          have p3 := P1.out.cell 3
          have p4 := P1.out.cell 4
          have p5 := P1.out.cell 5
          have p6 := P1.out.cell 6
          have p7 := P1.out.cell 7
          have p8 := P1.out.cell 8
          have p9 := P1.out.cell 9
          simp at p0 p1 p2 p3 p4 p5 p6 p7 p8 p9
          have pl := P1.out.lt
          have d0 := B.out.cell 0
          have d1 := B.out.cell 1
          have d2 := B.out.cell 2
          have d3 := B.out.cell 3
          have d4 := B.out.cell 4
          have d5 := B.out.cell 5
          simp at d0 d1 d2 d3 d4 d5
          have dl := B.out.lt
          have hx2 : wr.heap.size ≤ x2.heap.size := qr.out.size
          go_wp2_with (first | ((with_reducible refine list_app w3.heap.size sent sl.length sl.flatten ?own ?src lO ?he hlO ?hl ?hb ?_ ?_ ?_ ?_ ?_ ?k); all_goals try rfl))
          case own => exact own_on own.out qr.out
          case he => exact EC1.out.evs q.out
          case hl => omega
          case hb => omega
          intro v' x3 own' hg' hat'
          clear p0 p1 p2 p3 p4 p5 p6 p7 p8 p9 pl d0 d1 d2 d3 d4 d5 dl
          have B := Lib.hid (B.out.off hg' (fun e => by have := hsb.out _ e.symm; omega))
          have D1 := Lib.hid (D1.out.off hg' (fun e => by have := hsb.out _ e.symm; omega))
          have hne : ∀ b, sent.ownBlock = some b → 0 < lE.length → (Value.slice a10 lE.length c10).ownBlock ≠ some b := fun b hb hl hn => by
            rcases fr.out with e | e
            · rw [e] at hn
              exact ap1.out b hb (by omega) hn
            · have h5 := e b hn
              have h6 := hsb.out b hb
              omega
          have hb1 : 0 < lE.length → ∀ b, (Value.slice a10 lE.length c10).ownBlock = some b → b < x2.heap.size := fun h => Row.blk EA1.out.1 h
          have EA1 : Hid (Ev0 w x3 (.slice a10 lE.length c10) lE) := Lib.hid ⟨Row.apart EA1.out.1 hg' hne, EA1.out.2⟩
          have hw2 : ∀ b, wantv.ownBlock = some b → b < x2.heap.size := fun b hb => (OW.out.lt b hb).2
          have OW := Lib.hid (OW.out.kept hg' (match hs : sent.ownBlock with | none => (match hv : wantv.ownBlock with | none => .inl rfl | some c => .inr (by simp)) | some b => .inr (ap2.out b hs)))
          have q := Lib.hid (below_rows q.out hg' (fun b e => by have := hsb.out b e; omega) q.out.size)
          have qr := Lib.hid (Below.refl x3.heap.size x3)
          have ap1' : ∀ b, v'.ownBlock = some b → 0 < lE.length → (Value.slice a10 lE.length c10).ownBlock ≠ some b := fun b hb hl => by
            rcases hat' with e | e
            · exact hne b (e ▸ hb) hl
            · intro hn
              have h5 := hb1 hl b hn
              have h6 : b = x2.heap.size := by rw [e] at hb; simpa using hb.symm
              omega
          have ap2' : ∀ b, v'.ownBlock = some b → wantv.ownBlock ≠ some b := fun b hb => by
            rcases hat' with e | e
            · exact ap2.out b (e ▸ hb)
            · intro hn
              have h5 := hw2 b hn
              have h6 : b = x2.heap.size := by rw [e] at hb; simpa using hb.symm
              omega
          have ap1' := Lib.hid ap1'
          have ap2' := Lib.hid ap2'
          have bs' : w3.heap.size ≤ x3.heap.size := by have := hg'.size; omega
          have ON := Lib.hid own'
          clear own' hg' hat' hne hb1 hw2 fr P1 EB1 EC1 EV EP
          have d0 := D1.out.cell 0
          have d1 := D1.out.cell 1
          have d2 := D1.out.cell 2
          have d3 := D1.out.cell 3
          have d4 := D1.out.cell 4
          have d5 := D1.out.cell 5
          simp at d0 d1 d2 d3 d4 d5
          have dl := D1.out.lt
          go_wp2_with fail
          clear d0 d1 d2 d3 d4 d5 dl
          refine (qAckForm to nN fl at' a10 a11 lE.length c10 lO.length c11 (nN - 1) _ ⟨by omega, by omega⟩ hlO rfl (by assumption) cA).mono ?_
          rintro x x4 ⟨rfl, hb⟩
          have B := Lib.hid (B.out.on hb)
          have D1 := Lib.hid (D1.out.on hb)
          have EA1 := Lib.hid (EA1.out.on hb)
          have q := Lib.hid (q.out.trans (hb.mono q.out.size))
          have OW := Lib.hid (own_on OW.out hb)
          have ON := Lib.hid (own_on ON.out hb)
          have szx4 := hb.size
          clear hb
          go_wp2_with (first | ((with_reducible refine list_store24 _ _ _ #[.string to, .int .i64 nN, (.slice a10 lE.length c10), .slice none 0 0, .int .i64 0, .int .i64 0] B.out rfl ?_ ?_ ?_ ?_ ?_ ?_ ?_); all_goals try rfl; all_goals try (simp [Value.oneCell']; done)))
          case refine_4 => simp [Value.oneCell']
          intro x5 z hg
          have EA1 := Lib.hid (EA1.out.off B.out (by simp) hg)
          have D1 := Lib.hid (D1.out.off hg (by intro e; injection e with e; omega))
          have OW := Lib.hid (own_off OW.out hg (by omega))
          have ON := Lib.hid (own_off ON.out hg (by omega))
          have szx5 := hg.size
          have q := Lib.hid (below_row q.out hg (by omega) q.out.size)
          have B := Lib.hid z
          clear z hg
          go_wp2_with fail
          go_roundw
          case rel =>
            refine ⟨k + 1, nN, 0, 0, (.slice a10 lE.length c10), (.slice none 0 0), _, lE, [], sl ++ lO, by go_num, by rw [if_neg (by simp)]; try (congr 1; omega), rfl, ?_⟩
            exact ⟨q.out, B.out, EA1.out, Ev0.nil, R2.out.ack, fun h => by simp at h, by simpa [List.length_append] using ON.out, wb, by omega, ⟨_, lbw, OW.out⟩, aok.out, by have h5 := spl.out; have h6 := hsp.out; rw [← h5, ← h6]; simp, by simp; omega, by omega, ap1'.out, ap2'.out⟩
          case measure => simp [intOf]; omega

set_option maxRecDepth 100000 in
set_option maxHeartbeats 4000000 in
theorem deliver_walk1 (to : ByteArray) (next : Int) (ev op : Value) (fails at_ : Int) (eo ee : List (List Value)) (w : World) (ho : Evs w op eo) (he : Evs w ev ee) (hto : to.size ≤ 9223372036854775807)
    (hn1 : -9223372036854775808 ≤ next) (hn2 : next ≤ 9223372036854775807) (hf1 : -9223372036854775808 ≤ fails) (hf2 : fails ≤ 9223372036854775807) (ha1 : -9223372036854775808 ≤ at_) (ha2 : at_ ≤ 9223372036854775807) (now : Int) (hbr : 0 < eo.length) :
    Calls Try.prog 6 #[.agg #[.string to, .int .i64 next, ev, op, .int .i64 fails, .int .i64 at_], .int .i64 now] w fun x w' => x = .returned (.bool true) ∧ Below w.heap.size w w' := by
  have EE := Ev0.of he he.2
  have EO := Ev0.of ho ho.2
  have HV := fun (wx : World) (h : Below w.heap.size w wx) => qValid to next ev op fails at_ eo ee wx (ho.on h) (he.on h) hto hn1 hn2 hf1 hf2 ha1 ha2
  clear hto hn1 hn2 hf1 hf2 ha1 ha2 he ho
  obtain ⟨ea, ec, hv⟩ := EE.form
  obtain rfl : ev = .slice ea ee.length ec := hv
  obtain ⟨oa, oc, hv⟩ := EO.form
  obtain rfl : op = .slice oa eo.length oc := hv
  have ce1 := EE.cap
  have ce2 := EO.cap
  obtain ⟨cE1, cE2⟩ := ce1
  obtain ⟨cO1, cO2⟩ := ce2
  have EE := Lib.hid EE
  have EO := Lib.hid EO
  have q := Lib.hid (Below.refl w.heap.size w)
  have HBE := fun (h : 0 < ee.length) => Row.blk EE.out.1 h
  have AOK : ∀ c ∈ eo ++ ee, EvOK w c := fun c hc => (List.mem_append.1 hc).elim (EO.out.2 c) (EE.out.2 c)
  have HBE := Lib.hid HBE
  have AOK := Lib.hid AOK
  go_enter Try.func6, Try.ntmps6
  go_wp2_with fail
  have hb : Below w.heap.size w (w.alloc (.cells #[.string to, .int .i64 next, (.slice ea ee.length ec), (.slice oa eo.length oc), .int .i64 fails, .int .i64 at_] 24)) := by repeat (first | exact Below.refl _ _ | refine Below.alloc ?_ (by first | (simp; done) | (simp; omega)) _)
  have Ba : Whole (w.alloc (.cells #[.string to, .int .i64 next, (.slice ea ee.length ec), (.slice oa eo.length oc), .int .i64 fails, .int .i64 at_] 24)) (w.heap.size) 24 #[.string to, .int .i64 next, (.slice ea ee.length ec), (.slice oa eo.length oc), .int .i64 fails, .int .i64 at_] := by
    have h0 := Whole.new w 24 #[.string to, .int .i64 next, (.slice ea ee.length ec), (.slice oa eo.length oc), .int .i64 fails, .int .i64 at_]
    simpa using h0
  have Ba := Lib.hid Ba
  have hb := Lib.hid hb
  have lww : w.heap.size ≤ w.heap.size := q.out.size
  have EE := Lib.hid (EE.out.on hb.out)
  have EO := Lib.hid (EO.out.on hb.out)
  have q := Lib.hid (q.out.trans (hb.out.mono q.out.size))
  have B := Ba
  obtain ⟨w1, hw⟩ : ∃ w1, w1 = (w.alloc (.cells #[.string to, .int .i64 next, (.slice ea ee.length ec), (.slice oa eo.length oc), .int .i64 fails, .int .i64 at_] 24)) := ⟨_, rfl⟩
  clear hb Ba
  rw [← hw] at B EE EO q ⊢
  clear hw
  refine (HV _ q.out).mono ?_
  rintro x w2 ⟨r, rfl, hr, hb⟩
  have B := Lib.hid (B.out.on hb)
  have EE := Lib.hid (EE.out.on hb)
  have EO := Lib.hid (EO.out.on hb)
  have q := Lib.hid (q.out.trans (hb.mono q.out.size))
  clear hb
  cases r with
  | false =>
    clear hr HV
    go_wp2_with fail
    refine (lives_true _).mono ?_
    rintro x w3 ⟨rfl, hb⟩
    go_wp2_with fail
    go_ret
    exact ⟨rfl, q.out.trans (hb.mono q.out.size)⟩
  | true =>
    obtain ⟨R, h1, h2⟩ := hr rfl
    clear hr HV
    have d0 := B.out.cell 0
    have d1 := B.out.cell 1
    have d2 := B.out.cell 2
    have d3 := B.out.cell 3
    have d4 := B.out.cell 4
    have d5 := B.out.cell 5
    simp at d0 d1 d2 d3 d4 d5
    have dl := B.out.lt
    by_cases hA : now < at_
    · clear R
      go_wp2_with fail
      clear d0 d1 d2 d3 d4 d5 dl
      refine (lives_true _).mono ?_
      rintro x y1 ⟨rfl, hb⟩
      go_wp2_with fail
      go_ret
      exact ⟨rfl, q.out.trans (hb.mono q.out.size)⟩
    by_cases hB : 1000000 < next
    · clear R
      go_wp2_with fail
      clear d0 d1 d2 d3 d4 d5 dl
      refine (lives_true _).mono ?_
      rintro x y2 ⟨rfl, hb⟩
      go_wp2_with fail
      go_ret
      exact ⟨rfl, q.out.trans (hb.mono q.out.size)⟩
    have R := Lib.hid R
    have LB2 := B.out.lt
    go_wp2_with fail
    clear d0 d1 d2 d3 d4 d5 dl
    obtain ⟨i0, hi0, hz0, hz1, hz2⟩ := info_parts zinfo
    have hz0 := Lib.hid hz0
    refine wp_region_net [0, 3, 6, 7] none (allF w2 eo ee) (by kernel_rfl) (by kernel_rfl) (by kernel_rfl) trivial ?_
    apply Exists.intro
    apply And.intro
    · intro W1 hW
      have hb := below_of_grown hW
      have hx : ∀ (X : Ext W1) (o : Nat), X.val.cell? ⟨w.heap.size, o, none⟩ = (#[.string to, .int .i64 next, (.slice ea ee.length ec), (.slice oa eo.length oc), .int .i64 fails, .int .i64 at_] : Array Value)[o]? := fun X o => ((B.out.on hb).on X.below).cell o
      simp only [quietOps, List.contains_cons, List.contains_nil]
      simp
      repeat (first | go_big_quiet_skip | (go_big_quiet_want; (first | (go_big_quiet_op; (first | go_big_quiet_on | go_big_quiet_call (fail))))))
      exact wpQuiet_nil rfl
    refine ⟨⟨allF_on, fun j hj => ?_⟩, ?_⟩
    · match j, hj with
      | 0, _ =>
        refine ⟨_, rfl, rfl, fun w2 ν hν hw2 _ => ?_⟩
        obtain rfl : ν = [] := List.eq_nil_of_length_eq_zero hν
        exact leaves_value (build0 _ _ _ _ _ w2) (grownBy_trans hw2 (World.grownBy_alloc _ _ _)) ⟨_, rfl, World.ownsRow_made w2 #[] 0 hw2.size (by simp [maxLen]) (by simp)⟩
      | 1, _ =>
        refine ⟨_, rfl, rfl, fun w3 ν hν hw3 hf => ?_⟩
        obtain ⟨v, rfl, own⟩ := hf
        have hb := below_of_grown hw3
        have ho3 := (EO.out.on hb).evs (q.out.trans (hb.mono q.out.size))
        refine leaves_append _ _ w2.heap.size 22 37 i0 _ 29 376 rfl Try.underlying22 hi0 hz0.out hz1 hz2 rfl (by omega) v 0 [] rfl own _ eo.length eo.flatten rfl ho3.1 ho3.one (by simp only [maxLen]; omega) (by omega) hw3 (Nat.le_refl _) hw3.size ?_
        intro v' w' h2 _ _
        exact ⟨v, v', rfl, by simpa using h2⟩
      | 2, _ =>
        refine ⟨_, rfl, rfl, fun w3 ν hν hw3 hf => ?_⟩
        obtain ⟨a, v, rfl, own⟩ := hf
        have hb := below_of_grown hw3
        have he3 := (EE.out.on hb).evs (q.out.trans (hb.mono q.out.size))
        refine leaves_append _ _ w2.heap.size 22 37 i0 _ 29 376 rfl Try.underlying22 hi0 hz0.out hz1 hz2 rfl (by omega) v eo.length eo.flatten rfl own _ ee.length ee.flatten rfl he3.1 he3.one (by simp only [maxLen]; omega) (by omega) hw3 (Nat.le_refl _) hw3.size ?_
        intro v' w' h2 _ _
        exact ⟨a, v, v', rfl, h2⟩
      | 3, _ =>
        refine ⟨_, rfl, rfl, fun w2 ν hν hw2 hf => ?_⟩
        obtain ⟨a, b, v, rfl, own⟩ := hf
        exact ⟨hw2, a, b, v, rfl, own⟩
    · intro ν w3 hν hw3 hf
      obtain ⟨a, b, wantv, rfl, own⟩ := hf
      have hb := below_of_grown hw3
      have B := Lib.hid (B.out.on hb)
      have EE := Lib.hid (EE.out.on hb)
      have EO := Lib.hid (EO.out.on hb)
      have q := Lib.hid (q.out.trans (hb.mono q.out.size))
      clear hb hw3
      replace own : w3.ownsRow w2.heap.size 37 29 wantv (eo ++ ee).length (eo ++ ee).flatten := by rw [List.flatten_append, List.length_append]; exact own
      have HWB : ∀ b, wantv.ownBlock = some b → b < w3.heap.size := fun b hb => (own.lt b hb).2
      have HWB := Lib.hid HWB
      have OW := Lib.hid own
      clear own
      obtain ⟨all, hall⟩ : ∃ all, all = eo ++ ee := ⟨_, rfl⟩
      rw [← hall] at OW AOK
      have lall : all.length ≤ 180 := by rw [hall, List.length_append]; omega
      have hall := Lib.hid hall
      simp only [dstsOfS, dstAt, List.map_cons, List.map_nil, fillA]
      simp [Act.put]
      have h0 :  0 < eo.length := hbr
      have d0 := B.out.cell 0
      have d1 := B.out.cell 1
      have d2 := B.out.cell 2
      have d3 := B.out.cell 3
      have d4 := B.out.cell 4
      have d5 := B.out.cell 5
      simp at d0 d1 d2 d3 d4 d5
      have dl := B.out.lt
      have r1 := R.out.n1
      have r2 := R.out.n2
      go_wp2_with fail
      clear d0 d1 d2 d3 d4 d5 dl
      have LB := B.out.lt
      have hb : Below w3.heap.size w3 (w3.alloc (.cells #[] 37)) := by repeat (first | exact Below.refl _ _ | refine Below.alloc ?_ (by first | (simp; done) | (simp; omega)) _)
      have Sa : Whole (w3.alloc (.cells #[] 37)) (w3.heap.size) 37 #[] := by
        have h0 := Whole.new w3 37 #[]
        simpa using h0
      have Sa := Lib.hid Sa
      have hb := Lib.hid hb
      have lww3 : w.heap.size ≤ w3.heap.size := q.out.size
      have xBw3 : (w.heap.size) < w3.heap.size := B.out.lt
      have B := Lib.hid (B.out.on hb.out)
      have EE := Lib.hid (EE.out.on hb.out)
      have EO := Lib.hid (EO.out.on hb.out)
      have q := Lib.hid (q.out.trans (hb.out.mono q.out.size))
      have OW := Lib.hid (own_on OW.out hb.out)
      have S := Sa
      obtain ⟨w4, hw⟩ : ∃ w4, w4 = (w3.alloc (.cells #[] 37)) := ⟨_, rfl⟩
      clear hb Sa
      rw [← hw] at B S EE EO OW q ⊢
      clear hw
      have I0 : DelInv w w3.heap.size to now all wantv 0 next fails at_ (.slice ea ee.length ec) (.slice oa eo.length oc) (.slice (some ⟨w3.heap.size, 0, none⟩) 0 0) ee eo [] w4 := by
        refine ⟨q.out, B.out, EE.out, EO.out, R.out, fun _ => by omega, ⟨by simp, .inr ⟨w3.heap.size, 0, #[], rfl, Nat.le_refl _, S.out, Nat.le_refl _, by simp [maxLen], by simp, by simp⟩⟩, LB, ?_, ⟨_, LB2, OW.out⟩, AOK.out, by rw [hall.out]; rfl, by omega, by omega, fun b hb hl hn => ?_, fun b hb hn => ?_⟩
        · have := S.out.lt; omega
        · have e1 : b = w3.heap.size := by simpa [Value.ownBlock] using hb.symm
          have e2 := HBE.out hl b hn
          omega
        · have e1 : b = w3.heap.size := by simpa [Value.ownBlock] using hb.symm
          have e2 := HWB.out b hn
          omega
      have I0 := Lib.hid I0
      clear B S EE EO OW HWB HBE q R LB r1 r2 hA hB
      go_loopw [6, 7, 8, 9, 10, 11] (fun nv sent iv _ _ _ wr => ∃ (k : Nat) (nx fl at' : Int) (evv opv st : Value) (le lo sl : List (List Value)), iv = .int .i64 k ∧ nv = .int .i64 (if 0 < lo.length then nx - 1 else nx) ∧ st = sent ∧ DelInv w w3.heap.size to now all wantv k nx fl at' evv opv st le lo sl wr) (fun _ _ iv _ _ _ _ => 200 - (intOf iv).toNat)
      case atStart => exact ⟨0, next, fails, at_, _, _, _, ee, eo, [], rfl, by rw [if_pos h0], rfl, I0.out⟩
      case round =>
        clear I0 h0 hbr h1 h2 cE1 cE2 cO1 cO2 hall
        obtain ⟨k, nx, fl, at', evv, opv, sent, le, lo, sl, rfl, rfl, rfl, I⟩ := hrel
        have q := Lib.hid I.q
        have qr := Lib.hid (Below.refl wr.heap.size wr)
        have B := Lib.hid I.B
        have EV := I.e
        have EP := I.o
        have R := Lib.hid I.R
        have cnt := I.cnt
        have nxk := I.nxk
        have wb := I.wb
        have bs := I.bs
        have spl := Lib.hid I.split
        have at0 := Lib.hid I.at0
        have own := Lib.hid I.own
        have aok := Lib.hid I.allok
        have ap1 := Lib.hid I.ap1
        have ap2 := Lib.hid I.ap2
        obtain ⟨bw, lbw, OW⟩ := I.want
        have OW := Lib.hid OW
        have hwb := Lib.hid (fun (b : Nat) (hb : wantv.ownBlock = some b) => (OW.out.lt b hb).2)
        have hsb : ∀ b, sent.ownBlock = some b → w3.heap.size ≤ b ∧ b < wr.heap.size := fun b hb => I.own.lt b hb
        have hsb := Lib.hid hsb
        clear I
        obtain ⟨xa, xc, hv⟩ := EV.form
        obtain rfl : evv = .slice xa le.length xc := hv
        obtain ⟨ya, yc, hv⟩ := EP.form
        obtain rfl : opv = .slice ya lo.length yc := hv
        have v1 := EV.cap
        have v2 := EP.cap
        have r1 := R.out.n1
        have r2 := R.out.n2
        have r3 := R.out.lo
        have EV := Lib.hid EV
        have EP := Lib.hid EP
        have sln : sl.length + (lo.length + le.length) = all.length := by rw [← spl.out, List.length_append, List.length_append]
        have hk : k < 200 := by omega
        by_cases hd : lo.length + le.length = 0
        · obtain rfl : lo = [] := List.eq_nil_of_length_eq_zero (by omega)
          obtain rfl : le = [] := List.eq_nil_of_length_eq_zero (by omega)
          obtain rfl : sl = all := by have := spl.out; simpa using this
          clear hd sln cnt nxk spl at0 v1 v2
          have d0 := B.out.cell 0
          have d1 := B.out.cell 1
          have d2 := B.out.cell 2
          have d3 := B.out.cell 3
          have d4 := B.out.cell 4
          have d5 := B.out.cell 5
          simp at d0 d1 d2 d3 d4 d5
          have dl := B.out.lt
          go_wp2_with fail
          clear d0 d1 d2 d3 d4 d5 dl
          refine (qDone to nx _ _ fl at' now w _ q.out EP.out EV.out ⟨r1, r2⟩).mono ?_
          rintro x x0 ⟨v1, v2, rfl, EA1, EB1, hb⟩
          obtain ⟨a10, c10, hv⟩ := EA1.form
          obtain rfl : v1 = .slice a10 0 c10 := hv
          obtain ⟨a11, c11, hv⟩ := EB1.form
          obtain rfl : v2 = .slice a11 0 c11 := hv
          have B := Lib.hid (B.out.on hb)
          have EV := Lib.hid (EV.out.on hb)
          have EP := Lib.hid (EP.out.on hb)
          have q := Lib.hid (q.out.trans (hb.mono q.out.size))
          have qr := Lib.hid (qr.out.trans (hb.mono qr.out.size))
          have OW := Lib.hid (own_on OW.out hb)
          have EA1 := Lib.hid EA1
          have EB1 := Lib.hid EB1
          clear hb
          have hb : Below x0.heap.size x0 ((x0.alloc (.cells #[.string ⟨#[]⟩, .int .i64 0, .slice none 0 0, .slice none 0 0, .int .i64 0, .int .i64 0] 24)).alloc (.cells #[.string ⟨#[]⟩, .string ⟨#[]⟩, .int .i64 0, .int .i64 0, .string ⟨#[]⟩, .slice none 0 0, .slice none 0 0, .slice none 0 0, .string ⟨#[]⟩, .int .i64 0] 49)) := by repeat (first | exact Below.refl _ _ | refine Below.alloc ?_ (by first | (simp; done) | (simp; omega)) _)
          have D1a : Whole ((x0.alloc (.cells #[.string ⟨#[]⟩, .int .i64 0, .slice none 0 0, .slice none 0 0, .int .i64 0, .int .i64 0] 24)).alloc (.cells #[.string ⟨#[]⟩, .string ⟨#[]⟩, .int .i64 0, .int .i64 0, .string ⟨#[]⟩, .slice none 0 0, .slice none 0 0, .slice none 0 0, .string ⟨#[]⟩, .int .i64 0] 49)) (x0.heap.size) 24 #[.string ⟨#[]⟩, .int .i64 0, .slice none 0 0, .slice none 0 0, .int .i64 0, .int .i64 0] := by
            have h0 := Whole.new x0 24 #[.string ⟨#[]⟩, .int .i64 0, .slice none 0 0, .slice none 0 0, .int .i64 0, .int .i64 0]
            have h0 := h0.on (below_new (o := .cells #[.string ⟨#[]⟩, .string ⟨#[]⟩, .int .i64 0, .int .i64 0, .string ⟨#[]⟩, .slice none 0 0, .slice none 0 0, .slice none 0 0, .string ⟨#[]⟩, .int .i64 0] 49))
            simpa using h0
          have D1a := Lib.hid D1a
          have P1a : Whole ((x0.alloc (.cells #[.string ⟨#[]⟩, .int .i64 0, .slice none 0 0, .slice none 0 0, .int .i64 0, .int .i64 0] 24)).alloc (.cells #[.string ⟨#[]⟩, .string ⟨#[]⟩, .int .i64 0, .int .i64 0, .string ⟨#[]⟩, .slice none 0 0, .slice none 0 0, .slice none 0 0, .string ⟨#[]⟩, .int .i64 0] 49)) (x0.heap.size + 1) 49 #[.string ⟨#[]⟩, .string ⟨#[]⟩, .int .i64 0, .int .i64 0, .string ⟨#[]⟩, .slice none 0 0, .slice none 0 0, .slice none 0 0, .string ⟨#[]⟩, .int .i64 0] := by
            have h0 := Whole.new (x0.alloc (.cells #[.string ⟨#[]⟩, .int .i64 0, .slice none 0 0, .slice none 0 0, .int .i64 0, .int .i64 0] 24)) 49 #[.string ⟨#[]⟩, .string ⟨#[]⟩, .int .i64 0, .int .i64 0, .string ⟨#[]⟩, .slice none 0 0, .slice none 0 0, .slice none 0 0, .string ⟨#[]⟩, .int .i64 0]
            simpa using h0
          have P1a := Lib.hid P1a
          have hb := Lib.hid hb
          have lwx0 : w.heap.size ≤ x0.heap.size := q.out.size
          have xBx0 : w.heap.size < x0.heap.size := B.out.lt
          have lrx0 : wr.heap.size ≤ x0.heap.size := qr.out.size
          go_wp2_with (first | ((with_reducible refine list_store24 _ _ _ #[.string to, .int .i64 nx, (.slice a10 0 c10), (.slice a11 0 c11), .int .i64 fl, .int .i64 at'] D1a.out rfl ?_ ?_ ?_ ?_ ?_ ?_ ?_); all_goals try rfl; all_goals try (simp [Value.oneCell']; done)))
          case refine_4 => simp [Value.oneCell']
          intro x1 z hg
          have EV := Lib.hid ((EV.out.on hb.out).off D1a.out (by simp) hg)
          have EP := Lib.hid ((EP.out.on hb.out).off D1a.out (by simp) hg)
          have EA1 := Lib.hid ((EA1.out.on hb.out).off D1a.out (by simp) hg)
          have EB1 := Lib.hid ((EB1.out.on hb.out).off D1a.out (by simp) hg)
          have B := Lib.hid ((B.out.on hb.out).off hg (by intro e; injection e with e; omega))
          have P1 := Lib.hid (P1a.out.off hg (by intro e; injection e with e; omega))
          have q := Lib.hid (q.out.trans (hb.out.mono q.out.size))
          have qr := Lib.hid (qr.out.trans (hb.out.mono qr.out.size))
          have qr := Lib.hid (below_row qr.out hg (by omega) qr.out.size)
          have OW := Lib.hid (own_on OW.out hb.out)
          have OW := Lib.hid (OW.out.kept hg (.inr (fun e => by have := hwb.out _ e; omega)))
          have q := Lib.hid (below_row q.out hg (by omega) q.out.size)
          have D1 := Lib.hid z
          clear z hg hb D1a P1a
          go_wp2_with (first | ((with_reducible refine list_store49 _ _ _ #[.string ⟨#[]⟩, .string ⟨#[]⟩, .int .i64 0, .int .i64 0, .string ⟨#[]⟩, .slice none 0 0, .slice none 0 0, .slice none 0 0, .string ⟨#[]⟩, .int .i64 0] P1.out rfl ?_ ?_ ?_ ?_ ?_ ?_ ?_); all_goals try rfl; all_goals try (simp [Value.oneCell']; done)))
          case refine_4 => simp [Value.oneCell']
          intro x2 z hg
          have EV := Lib.hid (EV.out.off P1.out (by simp) hg)
          have EP := Lib.hid (EP.out.off P1.out (by simp) hg)
          have EA1 := Lib.hid (EA1.out.off P1.out (by simp) hg)
          have EB1 := Lib.hid (EB1.out.off P1.out (by simp) hg)
          have B := Lib.hid (B.out.off hg (by intro e; injection e with e; omega))
          have D1 := Lib.hid (D1.out.off hg (by intro e; injection e with e; omega))
          have qr := Lib.hid (below_row qr.out hg (by omega) qr.out.size)
          have OW := Lib.hid (OW.out.kept hg (.inr (fun e => by have := hwb.out _ e; omega)))
          have q := Lib.hid (below_row q.out hg (by omega) q.out.size)
          have P1 := Lib.hid z
          clear z hg
          go_wp2_with fail
          have K1 : Evs x2 sent sl := ⟨Row.of_own (own_on own.out qr.out), fun c hc => (aok.out c hc).on q.out⟩
          have K2 : Evs x2 wantv sl := ⟨Row.of_own OW.out, fun c hc => (aok.out c hc).on q.out⟩
          refine (sameAll _ _ sl _ K1 K2).mono ?_
          rintro x x3 ⟨rfl, hb⟩
          have B := Lib.hid (B.out.on hb)
          have D1 := Lib.hid (D1.out.on hb)
          have P1 := Lib.hid (P1.out.on hb)
          have EV := Lib.hid (EV.out.on hb)
          have EP := Lib.hid (EP.out.on hb)
          have EA1 := Lib.hid (EA1.out.on hb)
          have EB1 := Lib.hid (EB1.out.on hb)
          have q := Lib.hid (q.out.trans (hb.mono q.out.size))
          have qr := Lib.hid (qr.out.trans (hb.mono qr.out.size))
          have OW := Lib.hid (own_on OW.out hb)
          clear hb
          clear K1 K2
          have d0 := D1.out.cell 0
          have d1 := D1.out.cell 1
          have d2 := D1.out.cell 2
          have d3 := D1.out.cell 3
          have d4 := D1.out.cell 4
          have d5 := D1.out.cell 5
          simp at d0 d1 d2 d3 d4 d5
          have dl := D1.out.lt
          go_wp2_with fail
          clear d0 d1 d2 d3 d4 d5 dl
          refine (qSize00 to nx _ _ fl at' w _ q.out EB1.out EA1.out).mono ?_
          rintro x x4 ⟨rfl, hb⟩
          have B := Lib.hid (B.out.on hb)
          have D1 := Lib.hid (D1.out.on hb)
          have P1 := Lib.hid (P1.out.on hb)
          have EV := Lib.hid (EV.out.on hb)
          have EP := Lib.hid (EP.out.on hb)
          have EA1 := Lib.hid (EA1.out.on hb)
          have EB1 := Lib.hid (EB1.out.on hb)
          have q := Lib.hid (q.out.trans (hb.mono q.out.size))
          have qr := Lib.hid (qr.out.trans (hb.mono qr.out.size))
          have OW := Lib.hid (own_on OW.out hb)
          clear hb
          go_wp2_with fail
          refine (lives_true _).mono ?_
          rintro x x5 ⟨rfl, hb⟩
          go_wp2_with fail
          go_ret
          exact ⟨rfl, q.out.trans (hb.mono q.out.size)⟩
        · obtain ⟨nN, lE, lO, R2, hlO, hlen, hsp, hnN, OA⟩ := qSend to nx (.slice xa le.length xc) (.slice ya lo.length yc) fl at' now lo le w R.out at0.out (by omega) (by omega) (by omega)
          have hnn : (if 0 < lo.length then nx - 1 else nx) = nN - 1 := by rw [hnN]; split <;> omega
          rw [hnn]
          clear hnn
          have hnN2 : nN ≤ nx + 1 := by rw [hnN]; split <;> omega
          have hnN1 : nx ≤ nN := by rw [hnN]; split <;> omega
          clear hnN
          have hlen2 : lO.length + lE.length = lo.length + le.length := by have := congrArg List.length hsp; simpa using this
          have hsp := Lib.hid hsp
          have lO50 := R2.lo
          have R2 := Lib.hid R2
          have OA := Lib.hid OA
          have e1 : ((lO.length : Int) == 0) = false := beq_eq_false_iff_ne.2 (by omega)
          have e2 : ¬ (50 : Int) < (lO.length : Int) := by omega
          have d0 := B.out.cell 0
          have d1 := B.out.cell 1
          have d2 := B.out.cell 2
          have d3 := B.out.cell 3
          have d4 := B.out.cell 4
          have d5 := B.out.cell 5
          simp at d0 d1 d2 d3 d4 d5
          have dl := B.out.lt
          go_wp2_with fail
          clear d0 d1 d2 d3 d4 d5 dl
          refine (OA.out _ q.out EP.out EV.out).mono ?_
          rintro x x0 ⟨v1, v2, u, rfl, EA1, EB1, EC1, fr, hb⟩
          have fr := Lib.hid fr
          obtain ⟨a10, c10, hv⟩ := EA1.form
          obtain rfl : v1 = .slice a10 lE.length c10 := hv
          obtain ⟨a11, c11, hv⟩ := EB1.form
          obtain rfl : v2 = .slice a11 lO.length c11 := hv
          obtain ⟨a12, c12, hv⟩ := EC1.form
          obtain rfl : u = .slice a12 lO.length c12 := hv
          have B := Lib.hid (B.out.on hb)
          have EV := Lib.hid (EV.out.on hb)
          have EP := Lib.hid (EP.out.on hb)
          have q := Lib.hid (q.out.trans (hb.mono q.out.size))
          have qr := Lib.hid (qr.out.trans (hb.mono qr.out.size))
          have OW := Lib.hid (own_on OW.out hb)
          have EA1 := Lib.hid EA1
          have EB1 := Lib.hid EB1
          have EC1 := Lib.hid EC1
          clear hb
          have hb : Below x0.heap.size x0 ((x0.alloc (.cells #[.string ⟨#[]⟩, .int .i64 0, .slice none 0 0, .slice none 0 0, .int .i64 0, .int .i64 0] 24)).alloc (.cells #[.string ⟨#[]⟩, .string ⟨#[]⟩, .int .i64 0, .int .i64 0, .string ⟨#[]⟩, .slice none 0 0, .slice none 0 0, .slice none 0 0, .string ⟨#[]⟩, .int .i64 0] 49)) := by repeat (first | exact Below.refl _ _ | refine Below.alloc ?_ (by first | (simp; done) | (simp; omega)) _)
          have D1a : Whole ((x0.alloc (.cells #[.string ⟨#[]⟩, .int .i64 0, .slice none 0 0, .slice none 0 0, .int .i64 0, .int .i64 0] 24)).alloc (.cells #[.string ⟨#[]⟩, .string ⟨#[]⟩, .int .i64 0, .int .i64 0, .string ⟨#[]⟩, .slice none 0 0, .slice none 0 0, .slice none 0 0, .string ⟨#[]⟩, .int .i64 0] 49)) (x0.heap.size) 24 #[.string ⟨#[]⟩, .int .i64 0, .slice none 0 0, .slice none 0 0, .int .i64 0, .int .i64 0] := by
            have h0 := Whole.new x0 24 #[.string ⟨#[]⟩, .int .i64 0, .slice none 0 0, .slice none 0 0, .int .i64 0, .int .i64 0]
            have h0 := h0.on (below_new (o := .cells #[.string ⟨#[]⟩, .string ⟨#[]⟩, .int .i64 0, .int .i64 0, .string ⟨#[]⟩, .slice none 0 0, .slice none 0 0, .slice none 0 0, .string ⟨#[]⟩, .int .i64 0] 49))
            simpa using h0
          have D1a := Lib.hid D1a
          have P1a : Whole ((x0.alloc (.cells #[.string ⟨#[]⟩, .int .i64 0, .slice none 0 0, .slice none 0 0, .int .i64 0, .int .i64 0] 24)).alloc (.cells #[.string ⟨#[]⟩, .string ⟨#[]⟩, .int .i64 0, .int .i64 0, .string ⟨#[]⟩, .slice none 0 0, .slice none 0 0, .slice none 0 0, .string ⟨#[]⟩, .int .i64 0] 49)) (x0.heap.size + 1) 49 #[.string ⟨#[]⟩, .string ⟨#[]⟩, .int .i64 0, .int .i64 0, .string ⟨#[]⟩, .slice none 0 0, .slice none 0 0, .slice none 0 0, .string ⟨#[]⟩, .int .i64 0] := by
            have h0 := Whole.new (x0.alloc (.cells #[.string ⟨#[]⟩, .int .i64 0, .slice none 0 0, .slice none 0 0, .int .i64 0, .int .i64 0] 24)) 49 #[.string ⟨#[]⟩, .string ⟨#[]⟩, .int .i64 0, .int .i64 0, .string ⟨#[]⟩, .slice none 0 0, .slice none 0 0, .slice none 0 0, .string ⟨#[]⟩, .int .i64 0]
            simpa using h0
          have P1a := Lib.hid P1a
          have hb := Lib.hid hb
          have lwx0 : w.heap.size ≤ x0.heap.size := q.out.size
          have xBx0 : w.heap.size < x0.heap.size := B.out.lt
          have lrx0 : wr.heap.size ≤ x0.heap.size := qr.out.size
          go_wp2_with (first | ((with_reducible refine list_store24 _ _ _ #[.string to, .int .i64 nN, (.slice a10 lE.length c10), (.slice a11 lO.length c11), .int .i64 fl, .int .i64 at'] D1a.out rfl ?_ ?_ ?_ ?_ ?_ ?_ ?_); all_goals try rfl; all_goals try (simp [Value.oneCell']; done)))
          case refine_4 => simp [Value.oneCell']
          intro x1 z hg
          have EV := Lib.hid ((EV.out.on hb.out).off D1a.out (by simp) hg)
          have EP := Lib.hid ((EP.out.on hb.out).off D1a.out (by simp) hg)
          have EA1 := Lib.hid ((EA1.out.on hb.out).off D1a.out (by simp) hg)
          have EB1 := Lib.hid ((EB1.out.on hb.out).off D1a.out (by simp) hg)
          have EC1 := Lib.hid ((EC1.out.on hb.out).off D1a.out (by simp) hg)
          have B := Lib.hid ((B.out.on hb.out).off hg (by intro e; injection e with e; omega))
          have P1 := Lib.hid (P1a.out.off hg (by intro e; injection e with e; omega))
          have q := Lib.hid (q.out.trans (hb.out.mono q.out.size))
          have qr := Lib.hid (qr.out.trans (hb.out.mono qr.out.size))
          have qr := Lib.hid (below_row qr.out hg (by omega) qr.out.size)
          have OW := Lib.hid (own_on OW.out hb.out)
          have OW := Lib.hid (OW.out.kept hg (.inr (fun e => by have := hwb.out _ e; omega)))
          have q := Lib.hid (below_row q.out hg (by omega) q.out.size)
          have D1 := Lib.hid z
          clear z hg hb D1a P1a
          go_wp2_with (first | ((with_reducible refine list_store49 _ _ _ #[.string ⟨#[]⟩, .string to, .int .i64 1, .int .i64 (nN - 1), .string ⟨#[]⟩, (.slice a12 lO.length c12), .slice none 0 0, .slice none 0 0, .string ⟨#[]⟩, .int .i64 0] P1.out rfl ?_ ?_ ?_ ?_ ?_ ?_ ?_); all_goals try rfl; all_goals try (simp [Value.oneCell']; done)))
          case refine_4 => simp [Value.oneCell']
          intro x2 z hg
          have EV := Lib.hid (EV.out.off P1.out (by simp) hg)
          have EP := Lib.hid (EP.out.off P1.out (by simp) hg)
          have EA1 := Lib.hid (EA1.out.off P1.out (by simp) hg)
          have EB1 := Lib.hid (EB1.out.off P1.out (by simp) hg)
          have EC1 := Lib.hid (EC1.out.off P1.out (by simp) hg)
          have B := Lib.hid (B.out.off hg (by intro e; injection e with e; omega))
          have D1 := Lib.hid (D1.out.off hg (by intro e; injection e with e; omega))
          have qr := Lib.hid (below_row qr.out hg (by omega) qr.out.size)
          have OW := Lib.hid (OW.out.kept hg (.inr (fun e => by have := hwb.out _ e; omega)))
          have q := Lib.hid (below_row q.out hg (by omega) q.out.size)
          have P1 := Lib.hid z
          clear z hg
          have cA := EA1.out.cap
          have cB := EB1.out.cap
          have p0 := P1.out.cell 0
          have p1 := P1.out.cell 1
          have p2 := P1.out.cell 2
          have p3 := P1.out.cell 3
          have p4 := P1.out.cell 4
          have p5 := P1.out.cell 5
          have p6 := P1.out.cell 6
          have p7 := P1.out.cell 7
          have p8 := P1.out.cell 8
          have p9 := P1.out.cell 9
          simp at p0 p1 p2 p3 p4 p5 p6 p7 p8 p9
          have pl := P1.out.lt
          have d0 := B.out.cell 0
          have d1 := B.out.cell 1
          have d2 := B.out.cell 2
          have d3 := B.out.cell 3
          have d4 := B.out.cell 4
          have d5 := B.out.cell 5
          simp at d0 d1 d2 d3 d4 d5
          have dl := B.out.lt
          have hx2 : wr.heap.size ≤ x2.heap.size := qr.out.size
          go_wp2_with (first | ((with_reducible refine list_app w3.heap.size sent sl.length sl.flatten ?own ?src lO ?he hlO ?hl ?hb ?_ ?_ ?_ ?_ ?_ ?k); all_goals try rfl))
          case own => exact own_on own.out qr.out
          case he => exact EC1.out.evs q.out
          case hl => omega
          case hb => omega
          intro v' x3 own' hg' hat'
          clear p0 p1 p2 p3 p4 p5 p6 p7 p8 p9 pl d0 d1 d2 d3 d4 d5 dl
          have B := Lib.hid (B.out.off hg' (fun e => by have := hsb.out _ e.symm; omega))
          have D1 := Lib.hid (D1.out.off hg' (fun e => by have := hsb.out _ e.symm; omega))
          have hne : ∀ b, sent.ownBlock = some b → 0 < lE.length → (Value.slice a10 lE.length c10).ownBlock ≠ some b := fun b hb hl hn => by
            rcases fr.out with e | e
            · rw [e] at hn
              exact ap1.out b hb (by omega) hn
            · have h5 := e b hn
              have h6 := hsb.out b hb
              omega
          have hb1 : 0 < lE.length → ∀ b, (Value.slice a10 lE.length c10).ownBlock = some b → b < x2.heap.size := fun h => Row.blk EA1.out.1 h
          have EA1 : Hid (Ev0 w x3 (.slice a10 lE.length c10) lE) := Lib.hid ⟨Row.apart EA1.out.1 hg' hne, EA1.out.2⟩
          have hw2 : ∀ b, wantv.ownBlock = some b → b < x2.heap.size := fun b hb => (OW.out.lt b hb).2
          have OW := Lib.hid (OW.out.kept hg' (match hs : sent.ownBlock with | none => (match hv : wantv.ownBlock with | none => .inl rfl | some c => .inr (by simp)) | some b => .inr (ap2.out b hs)))
          have q := Lib.hid (below_rows q.out hg' (fun b e => by have := hsb.out b e; omega) q.out.size)
          have qr := Lib.hid (Below.refl x3.heap.size x3)
          have ap1' : ∀ b, v'.ownBlock = some b → 0 < lE.length → (Value.slice a10 lE.length c10).ownBlock ≠ some b := fun b hb hl => by
            rcases hat' with e | e
            · exact hne b (e ▸ hb) hl
            · intro hn
              have h5 := hb1 hl b hn
              have h6 : b = x2.heap.size := by rw [e] at hb; simpa using hb.symm
              omega
          have ap2' : ∀ b, v'.ownBlock = some b → wantv.ownBlock ≠ some b := fun b hb => by
            rcases hat' with e | e
            · exact ap2.out b (e ▸ hb)
            · intro hn
              have h5 := hw2 b hn
              have h6 : b = x2.heap.size := by rw [e] at hb; simpa using hb.symm
              omega
          have ap1' := Lib.hid ap1'
          have ap2' := Lib.hid ap2'
          have bs' : w3.heap.size ≤ x3.heap.size := by have := hg'.size; omega
          have ON := Lib.hid own'
          clear own' hg' hat' hne hb1 hw2 fr P1 EB1 EC1 EV EP
          have d0 := D1.out.cell 0
          have d1 := D1.out.cell 1
          have d2 := D1.out.cell 2
          have d3 := D1.out.cell 3
          have d4 := D1.out.cell 4
          have d5 := D1.out.cell 5
          simp at d0 d1 d2 d3 d4 d5
          have dl := D1.out.lt
          go_wp2_with fail
          clear d0 d1 d2 d3 d4 d5 dl
          refine (qAckForm to nN fl at' a10 a11 lE.length c10 lO.length c11 (nN - 1) _ ⟨by omega, by omega⟩ hlO rfl (by assumption) cA).mono ?_
          rintro x x4 ⟨rfl, hb⟩
          have B := Lib.hid (B.out.on hb)
          have D1 := Lib.hid (D1.out.on hb)
          have EA1 := Lib.hid (EA1.out.on hb)
          have q := Lib.hid (q.out.trans (hb.mono q.out.size))
          have OW := Lib.hid (own_on OW.out hb)
          have ON := Lib.hid (own_on ON.out hb)
          have szx4 := hb.size
          clear hb
          go_wp2_with (first | ((with_reducible refine list_store24 _ _ _ #[.string to, .int .i64 nN, (.slice a10 lE.length c10), .slice none 0 0, .int .i64 0, .int .i64 0] B.out rfl ?_ ?_ ?_ ?_ ?_ ?_ ?_); all_goals try rfl; all_goals try (simp [Value.oneCell']; done)))
          case refine_4 => simp [Value.oneCell']
          intro x5 z hg
          have EA1 := Lib.hid (EA1.out.off B.out (by simp) hg)
          have D1 := Lib.hid (D1.out.off hg (by intro e; injection e with e; omega))
          have OW := Lib.hid (own_off OW.out hg (by omega))
          have ON := Lib.hid (own_off ON.out hg (by omega))
          have szx5 := hg.size
          have q := Lib.hid (below_row q.out hg (by omega) q.out.size)
          have B := Lib.hid z
          clear z hg
          go_wp2_with fail
          go_roundw
          case rel =>
            refine ⟨k + 1, nN, 0, 0, (.slice a10 lE.length c10), (.slice none 0 0), _, lE, [], sl ++ lO, by go_num, by rw [if_neg (by simp)]; try (congr 1; omega), rfl, ?_⟩
            exact ⟨q.out, B.out, EA1.out, Ev0.nil, R2.out.ack, fun h => by simp at h, by simpa [List.length_append] using ON.out, wb, by omega, ⟨_, lbw, OW.out⟩, aok.out, by have h5 := spl.out; have h6 := hsp.out; rw [← h5, ← h6]; simp, by simp; omega, by omega, ap1'.out, ap2'.out⟩
          case measure => simp [intOf]; omega

theorem deliver_walk (to : ByteArray) (next : Int) (ev op : Value) (fails at_ : Int) (eo ee : List (List Value)) (w : World) (ho : Evs w op eo) (he : Evs w ev ee) (hto : to.size ≤ 9223372036854775807)
    (hn1 : -9223372036854775808 ≤ next) (hn2 : next ≤ 9223372036854775807) (hf1 : -9223372036854775808 ≤ fails) (hf2 : fails ≤ 9223372036854775807) (ha1 : -9223372036854775808 ≤ at_) (ha2 : at_ ≤ 9223372036854775807) (now : Int) :
    Calls Try.prog 6 #[.agg #[.string to, .int .i64 next, ev, op, .int .i64 fails, .int .i64 at_], .int .i64 now] w fun x w' => x = .returned (.bool true) ∧ Below w.heap.size w w' := by
  by_cases h : 0 < eo.length
  · exact deliver_walk1 to next ev op fails at_ eo ee w ho he hto hn1 hn2 hf1 hf2 ha1 ha2 now h
  · exact deliver_walk0 to next ev op fails at_ eo ee w ho he hto hn1 hn2 hf1 hf2 ha1 ha2 now h
end Go.Proofs.Ytfebldoplobkdaa
