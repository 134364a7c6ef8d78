/- The law QueuesPushes: the walk. -/
import Derived.Test.YtfebldoplobkdaaLaw0
namespace Go.Proofs.Ytfebldoplobkdaa
open Go.ChangeShapes Go.WideShapes Go.ChangeAt Go.RowKit

/-- An event is read as a whole, behind a guard that holds. -/
theorem list_load37g {ops : Array Oper} {rest : List Oper} {a : Act} {w : World} {Q : Exit → Act → World → Prop} {dst : Option Tmp} {x : Operand} {ty : TypeId} {ps : String} {af : Array Edge} {t : TypeId} {gd : Option (Tmp × Bool)}
    (b o : Nat) (cs : List Value) (hr : w.rangeAt b o cs) (ht : t = 37) (hw : Region.wanted { dst := dst, op := .load t x, type := ty, pos := ps, after := af, guard := gd } (yielded ops a.tmps) = true) (hl : cs.length = 29) (hx : a.eval x = .pointer (some ⟨b, o, none⟩)) (h : wpList Try.prog ops Q rest (a.put dst (.agg cs.toArray)) w) :
    wpList Try.prog ops Q ({ dst := dst, op := .load t x, type := ty, pos := ps, after := af, guard := gd } :: rest) a w := by
  subst ht
  unfold wpList
  rw [if_pos hw]
  refine .inl ?_
  unfold Oper.wp execOp
  simp only [hx, Sem.run_bind, load37 hr hl, Sem.run_pure, Result.andThen_ok]
  exact h

set_option maxRecDepth 100000 in
set_option maxHeartbeats 1000000 in
theorem pushes_walk (to : ByteArray) (next : Int) (ev op : Value) (fails at_ : Int) (eo ee : List (List Value)) (ce : List Value) (w : World) (ho : Evs w op eo) (he : Evs w ev ee) (hc : EvOK w ce) (hto : to.size ≤ 9223372036854775807)
    (hn1 : -9223372036854775808 ≤ next) (hn2 : next ≤ 9223372036854775807) (hf1 : -9223372036854775808 ≤ fails) (hf2 : fails ≤ 9223372036854775807) (ha1 : -9223372036854775808 ≤ at_) (ha2 : at_ ≤ 9223372036854775807) :
    Calls Try.prog 3 #[.agg #[.string to, .int .i64 next, ev, op, .int .i64 fails, .int .i64 at_], .agg ce.toArray] w fun x w' => x = .returned (.bool true) ∧ Below w.heap.size w w' := by
  obtain ⟨id, room, sender, kind, st, key, time, depth, pv, av, text, n, tg, th, via, alv, dnv, uv, kv, i1, i2, i3, i4, i5, i6, i7, hash, srv, sum, rfl, hcr⟩ := id hc
  clear hcr
  have HC := Lib.hid hc
  clear hc
  have HN := Lib.hid (And.intro (And.intro hto (And.intro hn1 hn2)) (And.intro (And.intro hf1 hf2) (And.intro ha1 ha2)))
  clear hto hn1 hn2 hf1 hf2 ha1 ha2
  have EE := Ev0.of he he.2
  have EO := Ev0.of ho ho.2
  clear he ho
  obtain ⟨ea, ec, hv⟩ := EE.form
  obtain rfl : ev = .slice ea ee.length ec := hv
  obtain ⟨oa, oc, hv⟩ := EO.form
  obtain rfl : op = .slice oa eo.length oc := hv
  have ce1 := EE.cap
  have ce2 := EO.cap
  obtain ⟨cE1, cE2⟩ := ce1
  obtain ⟨cO1, cO2⟩ := ce2
  have EE := Lib.hid EE
  have EO := Lib.hid EO
  have q := Lib.hid (Below.refl w.heap.size w)
  go_enter Try.func3, Try.ntmps3
  go_wp2_with fail
  have hb : Below w.heap.size w ((w.alloc (.cells #[.string to, .int .i64 next, (.slice ea ee.length ec), (.slice oa eo.length oc), .int .i64 fails, .int .i64 at_] 24)).alloc (.cells #[.int .i64 id, .string room, .string sender, .int .i64 kind, .bool st, .string key, .int .i64 time, .int .i64 depth, pv, av, .string text, .int .i64 n, .int .i64 tg, .bool th, .string via, alv, dnv, uv, kv, .int .i64 i1, .int .i64 i2, .int .i64 i3, .int .i64 i4, .int .i64 i5, .int .i64 i6, .int .i64 i7, .int .i64 hash, .string srv, .int .i64 sum] 37)) := by repeat (first | exact Below.refl _ _ | refine Below.alloc ?_ (by first | (simp; done) | (simp; omega)) _)
  have Ba : Whole ((w.alloc (.cells #[.string to, .int .i64 next, (.slice ea ee.length ec), (.slice oa eo.length oc), .int .i64 fails, .int .i64 at_] 24)).alloc (.cells #[.int .i64 id, .string room, .string sender, .int .i64 kind, .bool st, .string key, .int .i64 time, .int .i64 depth, pv, av, .string text, .int .i64 n, .int .i64 tg, .bool th, .string via, alv, dnv, uv, kv, .int .i64 i1, .int .i64 i2, .int .i64 i3, .int .i64 i4, .int .i64 i5, .int .i64 i6, .int .i64 i7, .int .i64 hash, .string srv, .int .i64 sum] 37)) (w.heap.size) 24 #[.string to, .int .i64 next, (.slice ea ee.length ec), (.slice oa eo.length oc), .int .i64 fails, .int .i64 at_] := by
    have h0 := Whole.new w 24 #[.string to, .int .i64 next, (.slice ea ee.length ec), (.slice oa eo.length oc), .int .i64 fails, .int .i64 at_]
    have h0 := h0.on (below_new (o := .cells #[.int .i64 id, .string room, .string sender, .int .i64 kind, .bool st, .string key, .int .i64 time, .int .i64 depth, pv, av, .string text, .int .i64 n, .int .i64 tg, .bool th, .string via, alv, dnv, uv, kv, .int .i64 i1, .int .i64 i2, .int .i64 i3, .int .i64 i4, .int .i64 i5, .int .i64 i6, .int .i64 i7, .int .i64 hash, .string srv, .int .i64 sum] 37))
    simpa using h0
  have Ba := Lib.hid Ba
  have Ca : Whole ((w.alloc (.cells #[.string to, .int .i64 next, (.slice ea ee.length ec), (.slice oa eo.length oc), .int .i64 fails, .int .i64 at_] 24)).alloc (.cells #[.int .i64 id, .string room, .string sender, .int .i64 kind, .bool st, .string key, .int .i64 time, .int .i64 depth, pv, av, .string text, .int .i64 n, .int .i64 tg, .bool th, .string via, alv, dnv, uv, kv, .int .i64 i1, .int .i64 i2, .int .i64 i3, .int .i64 i4, .int .i64 i5, .int .i64 i6, .int .i64 i7, .int .i64 hash, .string srv, .int .i64 sum] 37)) (w.heap.size + 1) 37 #[.int .i64 id, .string room, .string sender, .int .i64 kind, .bool st, .string key, .int .i64 time, .int .i64 depth, pv, av, .string text, .int .i64 n, .int .i64 tg, .bool th, .string via, alv, dnv, uv, kv, .int .i64 i1, .int .i64 i2, .int .i64 i3, .int .i64 i4, .int .i64 i5, .int .i64 i6, .int .i64 i7, .int .i64 hash, .string srv, .int .i64 sum] := by
    have h0 := Whole.new (w.alloc (.cells #[.string to, .int .i64 next, (.slice ea ee.length ec), (.slice oa eo.length oc), .int .i64 fails, .int .i64 at_] 24)) 37 #[.int .i64 id, .string room, .string sender, .int .i64 kind, .bool st, .string key, .int .i64 time, .int .i64 depth, pv, av, .string text, .int .i64 n, .int .i64 tg, .bool th, .string via, alv, dnv, uv, kv, .int .i64 i1, .int .i64 i2, .int .i64 i3, .int .i64 i4, .int .i64 i5, .int .i64 i6, .int .i64 i7, .int .i64 hash, .string srv, .int .i64 sum]
    simpa using h0
  have Ca := Lib.hid Ca
  have hb := Lib.hid hb
  have lww : w.heap.size ≤ w.heap.size := q.out.size
  have EE := Lib.hid (EE.out.on hb.out)
  have EO := Lib.hid (EO.out.on hb.out)
  have q := Lib.hid (q.out.trans (hb.out.mono q.out.size))
  have B := Ba
  have C := Ca
  obtain ⟨w1, hw⟩ : ∃ w1, w1 = ((w.alloc (.cells #[.string to, .int .i64 next, (.slice ea ee.length ec), (.slice oa eo.length oc), .int .i64 fails, .int .i64 at_] 24)).alloc (.cells #[.int .i64 id, .string room, .string sender, .int .i64 kind, .bool st, .string key, .int .i64 time, .int .i64 depth, pv, av, .string text, .int .i64 n, .int .i64 tg, .bool th, .string via, alv, dnv, uv, kv, .int .i64 i1, .int .i64 i2, .int .i64 i3, .int .i64 i4, .int .i64 i5, .int .i64 i6, .int .i64 i7, .int .i64 hash, .string srv, .int .i64 sum] 37)) := ⟨_, rfl⟩
  clear hb Ba Ca
  rw [← hw] at B C EE EO q ⊢
  clear hw
  refine (light_any _ ee 500 _ (EE.out.evs q.out)).mono ?_
  rintro x w2 ⟨r, rfl, hr, hb⟩
  have B := Lib.hid (B.out.on hb)
  have C := Lib.hid (C.out.on hb)
  have EE := Lib.hid (EE.out.on hb)
  have EO := Lib.hid (EO.out.on hb)
  have q := Lib.hid (q.out.trans (hb.mono q.out.size))
  clear hb
  cases r with
  | false =>
    clear hr
    go_wp2_with fail
    refine (lives_true _).mono ?_
    rintro x w3 ⟨rfl, hb⟩
    go_wp2_with fail
    go_ret
    exact ⟨rfl, q.out.trans (hb.mono q.out.size)⟩
  | true =>
    have h1 : ee.length ≤ 500 := by have := hr rfl; omega
    clear hr
    have d0 := B.out.cell 0
    have d1 := B.out.cell 1
    have d2 := B.out.cell 2
    have d3 := B.out.cell 3
    have d4 := B.out.cell 4
    have d5 := B.out.cell 5
    simp at d0 d1 d2 d3 d4 d5
    have dl := B.out.lt
    go_wp2_with fail
    clear d0 d1 d2 d3 d4 d5 dl
    refine (light_any _ eo 60 _ (EO.out.evs q.out)).mono ?_
    rintro x w4 ⟨r, rfl, hr, hb⟩
    have B := Lib.hid (B.out.on hb)
    have C := Lib.hid (C.out.on hb)
    have EE := Lib.hid (EE.out.on hb)
    have EO := Lib.hid (EO.out.on hb)
    have q := Lib.hid (q.out.trans (hb.mono q.out.size))
    clear hb
    cases r with
    | false =>
      clear hr
      go_wp2_with fail
      refine (lives_true _).mono ?_
      rintro x w5 ⟨rfl, hb⟩
      go_wp2_with fail
      go_ret
      exact ⟨rfl, q.out.trans (hb.mono q.out.size)⟩
    | true =>
      have h2 : eo.length ≤ 60 := by have := hr rfl; omega
      clear hr
      have d0 := B.out.cell 0
      have d1 := B.out.cell 1
      have d2 := B.out.cell 2
      have d3 := B.out.cell 3
      have d4 := B.out.cell 4
      have d5 := B.out.cell 5
      simp at d0 d1 d2 d3 d4 d5
      have dl := B.out.lt
      go_wp2_with fail
      clear d0 d1 d2 d3 d4 d5 dl
      refine (rCheck_any to next _ _ fails at_ eo ee _ (EO.out.evs q.out) (EE.out.evs q.out) (by omega) HN.out.1.1 HN.out.1.2.1 HN.out.1.2.2 HN.out.2.1.1 HN.out.2.1.2 HN.out.2.2.1 HN.out.2.2.2).mono ?_
      rintro x w6 ⟨c, rfl, hcc, hb⟩
      have B := Lib.hid (B.out.on hb)
      have C := Lib.hid (C.out.on hb)
      have EE := Lib.hid (EE.out.on hb)
      have EO := Lib.hid (EO.out.on hb)
      have q := Lib.hid (q.out.trans (hb.mono q.out.size))
      clear hb
      by_cases hz : c = 0
      · have R := Lib.hid (hcc hz)
        subst hz
        clear hcc HN
        have hr0 := Lib.hid (Whole.range (C.out))
        go_wp2_with (first | ((with_reducible refine list_load37g (w.heap.size + 1) 0 #[.int .i64 id, .string room, .string sender, .int .i64 kind, .bool st, .string key, .int .i64 time, .int .i64 depth, pv, av, .string text, .int .i64 n, .int .i64 tg, .bool th, .string via, alv, dnv, uv, kv, .int .i64 i1, .int .i64 i2, .int .i64 i3, .int .i64 i4, .int .i64 i5, .int .i64 i6, .int .i64 i7, .int .i64 hash, .string srv, .int .i64 sum].toList hr0.out rfl ?_ ?_ ?_ ?_); all_goals try rfl))
        clear hr0
        have hb : Below w6.heap.size w6 (w6.alloc (.cells #[.int .i64 id, .string room, .string sender, .int .i64 kind, .bool st, .string key, .int .i64 time, .int .i64 depth, pv, av, .string text, .int .i64 n, .int .i64 tg, .bool th, .string via, alv, dnv, uv, kv, .int .i64 i1, .int .i64 i2, .int .i64 i3, .int .i64 i4, .int .i64 i5, .int .i64 i6, .int .i64 i7, .int .i64 hash, .string srv, .int .i64 sum] 37)) := by repeat (first | exact Below.refl _ _ | refine Below.alloc ?_ (by first | (simp; done) | (simp; omega)) _)
        have Da : Whole (w6.alloc (.cells #[.int .i64 id, .string room, .string sender, .int .i64 kind, .bool st, .string key, .int .i64 time, .int .i64 depth, pv, av, .string text, .int .i64 n, .int .i64 tg, .bool th, .string via, alv, dnv, uv, kv, .int .i64 i1, .int .i64 i2, .int .i64 i3, .int .i64 i4, .int .i64 i5, .int .i64 i6, .int .i64 i7, .int .i64 hash, .string srv, .int .i64 sum] 37)) (w6.heap.size) 37 #[.int .i64 id, .string room, .string sender, .int .i64 kind, .bool st, .string key, .int .i64 time, .int .i64 depth, pv, av, .string text, .int .i64 n, .int .i64 tg, .bool th, .string via, alv, dnv, uv, kv, .int .i64 i1, .int .i64 i2, .int .i64 i3, .int .i64 i4, .int .i64 i5, .int .i64 i6, .int .i64 i7, .int .i64 hash, .string srv, .int .i64 sum] := by
          have h0 := Whole.new w6 37 #[.int .i64 id, .string room, .string sender, .int .i64 kind, .bool st, .string key, .int .i64 time, .int .i64 depth, pv, av, .string text, .int .i64 n, .int .i64 tg, .bool th, .string via, alv, dnv, uv, kv, .int .i64 i1, .int .i64 i2, .int .i64 i3, .int .i64 i4, .int .i64 i5, .int .i64 i6, .int .i64 i7, .int .i64 hash, .string srv, .int .i64 sum]
          simpa using h0
        have Da := Lib.hid Da
        have hb := Lib.hid hb
        have lww6 : w.heap.size ≤ w6.heap.size := q.out.size
        have xBw6 : (w.heap.size) < w6.heap.size := B.out.lt
        have xCw6 : (w.heap.size + 1) < w6.heap.size := C.out.lt
        have B := Lib.hid (B.out.on hb.out)
        have C := Lib.hid (C.out.on hb.out)
        have EE := Lib.hid (EE.out.on hb.out)
        have EO := Lib.hid (EO.out.on hb.out)
        have q := Lib.hid (q.out.trans (hb.out.mono q.out.size))
        have D := Da
        obtain ⟨w7, hw⟩ : ∃ w7, w7 = (w6.alloc (.cells #[.int .i64 id, .string room, .string sender, .int .i64 kind, .bool st, .string key, .int .i64 time, .int .i64 depth, pv, av, .string text, .int .i64 n, .int .i64 tg, .bool th, .string via, alv, dnv, uv, kv, .int .i64 i1, .int .i64 i2, .int .i64 i3, .int .i64 i4, .int .i64 i5, .int .i64 i6, .int .i64 i7, .int .i64 hash, .string srv, .int .i64 sum] 37)) := ⟨_, rfl⟩
        clear hb Da
        rw [← hw] at B C D EE EO q ⊢
        clear hw
        have ED : Evs w7 (.slice (some ⟨w6.heap.size, 0, none⟩) 1 1) [#[.int .i64 id, .string room, .string sender, .int .i64 kind, .bool st, .string key, .int .i64 time, .int .i64 depth, pv, av, .string text, .int .i64 n, .int .i64 tg, .bool th, .string via, alv, dnv, uv, kv, .int .i64 i1, .int .i64 i2, .int .i64 i3, .int .i64 i4, .int .i64 i5, .int .i64 i6, .int .i64 i7, .int .i64 hash, .string srv, .int .i64 sum].toList] := ⟨by simpa using Row.whole D.out rfl, fun c hc => by
          obtain rfl : c = #[.int .i64 id, .string room, .string sender, .int .i64 kind, .bool st, .string key, .int .i64 time, .int .i64 depth, pv, av, .string text, .int .i64 n, .int .i64 tg, .bool th, .string via, alv, dnv, uv, kv, .int .i64 i1, .int .i64 i2, .int .i64 i3, .int .i64 i4, .int .i64 i5, .int .i64 i6, .int .i64 i7, .int .i64 hash, .string srv, .int .i64 sum].toList := by simpa using hc
          exact HC.out.on q.out⟩
        have PA := fun (wx : World) (hq : Below w.heap.size w wx) (h1 : Ev0 w wx _ eo) (h2 : Ev0 w wx _ ee) => qPush0 to next (.slice ea ee.length ec) (.slice oa eo.length oc) fails at_ eo ee #[.int .i64 id, .string room, .string sender, .int .i64 kind, .bool st, .string key, .int .i64 time, .int .i64 depth, pv, av, .string text, .int .i64 n, .int .i64 tg, .bool th, .string via, alv, dnv, uv, kv, .int .i64 i1, .int .i64 i2, .int .i64 i3, .int .i64 i4, .int .i64 i5, .int .i64 i6, .int .i64 i7, .int .i64 hash, .string srv, .int .i64 sum].toList w wx hq h1 h2 HC.out (by omega)
        have PB := fun (wx : World) (hq : Below w.heap.size w wx) (h1 : Ev0 w wx _ eo) (h2 : Ev0 w wx _ ee) => rPush0 to next (.slice ea ee.length ec) (.slice oa eo.length oc) fails at_ eo ee #[.int .i64 id, .string room, .string sender, .int .i64 kind, .bool st, .string key, .int .i64 time, .int .i64 depth, pv, av, .string text, .int .i64 n, .int .i64 tg, .bool th, .string via, alv, dnv, uv, kv, .int .i64 i1, .int .i64 i2, .int .i64 i3, .int .i64 i4, .int .i64 i5, .int .i64 i6, .int .i64 i7, .int .i64 hash, .string srv, .int .i64 sum].toList w wx hq h1 h2 HC.out (by omega)
        have R2 := R.out.push (c := #[.int .i64 id, .string room, .string sender, .int .i64 kind, .bool st, .string key, .int .i64 time, .int .i64 depth, pv, av, .string text, .int .i64 n, .int .i64 tg, .bool th, .string via, alv, dnv, uv, kv, .int .i64 i1, .int .i64 i2, .int .i64 i3, .int .i64 i4, .int .i64 i5, .int .i64 i6, .int .i64 i7, .int .i64 hash, .string srv, .int .i64 sum].toList)
        generalize hlr : pushL ee eo #[.int .i64 id, .string room, .string sender, .int .i64 kind, .bool st, .string key, .int .i64 time, .int .i64 depth, pv, av, .string text, .int .i64 n, .int .i64 tg, .bool th, .string via, alv, dnv, uv, kv, .int .i64 i1, .int .i64 i2, .int .i64 i3, .int .i64 i4, .int .i64 i5, .int .i64 i6, .int .i64 i7, .int .i64 hash, .string srv, .int .i64 sum].toList = lr at PA PB R2
        generalize her : pushE ee eo #[.int .i64 id, .string room, .string sender, .int .i64 kind, .bool st, .string key, .int .i64 time, .int .i64 depth, pv, av, .string text, .int .i64 n, .int .i64 tg, .bool th, .string via, alv, dnv, uv, kv, .int .i64 i1, .int .i64 i2, .int .i64 i3, .int .i64 i4, .int .i64 i5, .int .i64 i6, .int .i64 i7, .int .i64 hash, .string srv, .int .i64 sum].toList = er at PA PB
        clear hlr her
        have ll : lr.length + eo.length ≤ 500 := R2.ls
        have R2 := Lib.hid R2
        refine (light_any _ [#[.int .i64 id, .string room, .string sender, .int .i64 kind, .bool st, .string key, .int .i64 time, .int .i64 depth, pv, av, .string text, .int .i64 n, .int .i64 tg, .bool th, .string via, alv, dnv, uv, kv, .int .i64 i1, .int .i64 i2, .int .i64 i3, .int .i64 i4, .int .i64 i5, .int .i64 i6, .int .i64 i7, .int .i64 hash, .string srv, .int .i64 sum].toList] 1 _ ED).mono ?_
        rintro x w8 ⟨r, rfl, hr, hb⟩
        have B := Lib.hid (B.out.on hb)
        have C := Lib.hid (C.out.on hb)
        have D := Lib.hid (D.out.on hb)
        have EE := Lib.hid (EE.out.on hb)
        have EO := Lib.hid (EO.out.on hb)
        have q := Lib.hid (q.out.trans (hb.mono q.out.size))
        clear hb
        cases r with
        | false =>
          clear hr
          go_wp2_with fail
          refine (lives_true _).mono ?_
          rintro x w9 ⟨rfl, hb⟩
          go_wp2_with fail
          go_ret
          exact ⟨rfl, q.out.trans (hb.mono q.out.size)⟩
        | true =>
          clear hr ED
          clear D
          have d0 := B.out.cell 0
          have d1 := B.out.cell 1
          have d2 := B.out.cell 2
          have d3 := B.out.cell 3
          have d4 := B.out.cell 4
          have d5 := B.out.cell 5
          simp at d0 d1 d2 d3 d4 d5
          have dl := B.out.lt
          have hr0 := Lib.hid (Whole.range (C.out))
          go_wp2_with (first | ((with_reducible refine list_load37 (w.heap.size + 1) 0 #[.int .i64 id, .string room, .string sender, .int .i64 kind, .bool st, .string key, .int .i64 time, .int .i64 depth, pv, av, .string text, .int .i64 n, .int .i64 tg, .bool th, .string via, alv, dnv, uv, kv, .int .i64 i1, .int .i64 i2, .int .i64 i3, .int .i64 i4, .int .i64 i5, .int .i64 i6, .int .i64 i7, .int .i64 hash, .string srv, .int .i64 sum].toList hr0.out rfl ?_ ?_ ?_ ?_); all_goals try rfl))
          clear hr0
          clear d0 d1 d2 d3 d4 d5 dl
          refine (PA _ q.out EO.out EE.out).mono ?_
          rintro x w10 ⟨v1, rfl, E1, hb⟩
          obtain ⟨a1, c1, hv⟩ := E1.form
          obtain rfl : v1 = .slice a1 lr.length c1 := hv
          have B := Lib.hid (B.out.on hb)
          have C := Lib.hid (C.out.on hb)
          have EE := Lib.hid (EE.out.on hb)
          have EO := Lib.hid (EO.out.on hb)
          have q := Lib.hid (q.out.trans (hb.mono q.out.size))
          have E1 := Lib.hid E1
          clear hb
          have hbz := below_new (w := w10) (o := .cells #[.string to, .int .i64 next, (.slice a1 lr.length c1), (.slice oa eo.length oc), .int .i64 fails, .int .i64 at_] 24)
          have Bz := Lib.hid (B.out.on hbz)
          have Cz := Lib.hid (C.out.on hbz)
          clear hbz
          have d0 := Bz.out.cell 0
          have d1 := Bz.out.cell 1
          have d2 := Bz.out.cell 2
          have d3 := Bz.out.cell 3
          have d4 := Bz.out.cell 4
          have d5 := Bz.out.cell 5
          simp at d0 d1 d2 d3 d4 d5
          have dl := Bz.out.lt
          have hr0 := Lib.hid (Whole.range (Cz.out))
          go_wp2_with (first | ((with_reducible refine list_load37 (w.heap.size + 1) 0 #[.int .i64 id, .string room, .string sender, .int .i64 kind, .bool st, .string key, .int .i64 time, .int .i64 depth, pv, av, .string text, .int .i64 n, .int .i64 tg, .bool th, .string via, alv, dnv, uv, kv, .int .i64 i1, .int .i64 i2, .int .i64 i3, .int .i64 i4, .int .i64 i5, .int .i64 i6, .int .i64 i7, .int .i64 hash, .string srv, .int .i64 sum].toList hr0.out rfl ?_ ?_ ?_ ?_); all_goals try rfl))
          clear hr0
          clear d0 d1 d2 d3 d4 d5 dl
          clear Bz Cz
          have hb : Below w10.heap.size w10 (w10.alloc (.cells #[.string to, .int .i64 next, (.slice a1 lr.length c1), (.slice oa eo.length oc), .int .i64 fails, .int .i64 at_] 24)) := by repeat (first | exact Below.refl _ _ | refine Below.alloc ?_ (by first | (simp; done) | (simp; omega)) _)
          have D1a : Whole (w10.alloc (.cells #[.string to, .int .i64 next, (.slice a1 lr.length c1), (.slice oa eo.length oc), .int .i64 fails, .int .i64 at_] 24)) (w10.heap.size) 24 #[.string to, .int .i64 next, (.slice a1 lr.length c1), (.slice oa eo.length oc), .int .i64 fails, .int .i64 at_] := by
            have h0 := Whole.new w10 24 #[.string to, .int .i64 next, (.slice a1 lr.length c1), (.slice oa eo.length oc), .int .i64 fails, .int .i64 at_]
            simpa using h0
          have D1a := Lib.hid D1a
          have hb := Lib.hid hb
          have lww10 : w.heap.size ≤ w10.heap.size := q.out.size
          have xBw10 : (w.heap.size) < w10.heap.size := B.out.lt
          have xCw10 : (w.heap.size + 1) < w10.heap.size := C.out.lt
          have B := Lib.hid (B.out.on hb.out)
          have C := Lib.hid (C.out.on hb.out)
          have EE := Lib.hid (EE.out.on hb.out)
          have EO := Lib.hid (EO.out.on hb.out)
          have E1 := Lib.hid (E1.out.on hb.out)
          have q := Lib.hid (q.out.trans (hb.out.mono q.out.size))
          have D1 := D1a
          obtain ⟨w11, hw⟩ : ∃ w11, w11 = (w10.alloc (.cells #[.string to, .int .i64 next, (.slice a1 lr.length c1), (.slice oa eo.length oc), .int .i64 fails, .int .i64 at_] 24)) := ⟨_, rfl⟩
          clear hb D1a
          rw [← hw] at B C D1 EE EO E1 q ⊢
          clear hw
          refine (PB _ q.out EO.out EE.out).mono ?_
          rintro x w12 ⟨v2, rfl, E2, hb⟩
          obtain ⟨a2, c2, hv⟩ := E2.form
          obtain rfl : v2 = .slice a2 lr.length c2 := hv
          have B := Lib.hid (B.out.on hb)
          have C := Lib.hid (C.out.on hb)
          have D1 := Lib.hid (D1.out.on hb)
          have EE := Lib.hid (EE.out.on hb)
          have EO := Lib.hid (EO.out.on hb)
          have E1 := Lib.hid (E1.out.on hb)
          have q := Lib.hid (q.out.trans (hb.mono q.out.size))
          have E2 := Lib.hid E2
          clear hb
          have hbz := below_new (w := w12) (o := .cells #[.string to, .int .i64 next, (.slice a2 lr.length c2), (.slice oa eo.length oc), .int .i64 fails, .int .i64 at_] 24)
          have D1z := Lib.hid (D1.out.on hbz)
          clear hbz
          have d0 := D1z.out.cell 0
          have d1 := D1z.out.cell 1
          have d2 := D1z.out.cell 2
          have d3 := D1z.out.cell 3
          have d4 := D1z.out.cell 4
          have d5 := D1z.out.cell 5
          simp at d0 d1 d2 d3 d4 d5
          have dl := D1z.out.lt
          go_wp2_with fail
          clear d0 d1 d2 d3 d4 d5 dl
          clear D1z
          have hb : Below w12.heap.size w12 (w12.alloc (.cells #[.string to, .int .i64 next, (.slice a2 lr.length c2), (.slice oa eo.length oc), .int .i64 fails, .int .i64 at_] 24)) := by repeat (first | exact Below.refl _ _ | refine Below.alloc ?_ (by first | (simp; done) | (simp; omega)) _)
          have D2a : Whole (w12.alloc (.cells #[.string to, .int .i64 next, (.slice a2 lr.length c2), (.slice oa eo.length oc), .int .i64 fails, .int .i64 at_] 24)) (w12.heap.size) 24 #[.string to, .int .i64 next, (.slice a2 lr.length c2), (.slice oa eo.length oc), .int .i64 fails, .int .i64 at_] := by
            have h0 := Whole.new w12 24 #[.string to, .int .i64 next, (.slice a2 lr.length c2), (.slice oa eo.length oc), .int .i64 fails, .int .i64 at_]
            simpa using h0
          have D2a := Lib.hid D2a
          have hb := Lib.hid hb
          have lww12 : w.heap.size ≤ w12.heap.size := q.out.size
          have xBw12 : (w.heap.size) < w12.heap.size := B.out.lt
          have xCw12 : (w.heap.size + 1) < w12.heap.size := C.out.lt
          have xD1w12 : (w10.heap.size) < w12.heap.size := D1.out.lt
          have B := Lib.hid (B.out.on hb.out)
          have C := Lib.hid (C.out.on hb.out)
          have D1 := Lib.hid (D1.out.on hb.out)
          have EE := Lib.hid (EE.out.on hb.out)
          have EO := Lib.hid (EO.out.on hb.out)
          have E1 := Lib.hid (E1.out.on hb.out)
          have E2 := Lib.hid (E2.out.on hb.out)
          have q := Lib.hid (q.out.trans (hb.out.mono q.out.size))
          have D2 := D2a
          obtain ⟨w13, hw⟩ : ∃ w13, w13 = (w12.alloc (.cells #[.string to, .int .i64 next, (.slice a2 lr.length c2), (.slice oa eo.length oc), .int .i64 fails, .int .i64 at_] 24)) := ⟨_, rfl⟩
          clear hb D2a
          rw [← hw] at B C D1 D2 EE EO E1 E2 q ⊢
          clear hw
          refine (qSame _ _ _ _ _ _ _ _ eo lr _ (EO.out.evs q.out) (E1.out.evs q.out) (EO.out.evs q.out) (E2.out.evs q.out)).mono ?_
          rintro x w14 ⟨rfl, hb⟩
          have B := Lib.hid (B.out.on hb)
          have C := Lib.hid (C.out.on hb)
          have D1 := Lib.hid (D1.out.on hb)
          have D2 := Lib.hid (D2.out.on hb)
          have EE := Lib.hid (EE.out.on hb)
          have EO := Lib.hid (EO.out.on hb)
          have E1 := Lib.hid (E1.out.on hb)
          have E2 := Lib.hid (E2.out.on hb)
          have q := Lib.hid (q.out.trans (hb.mono q.out.size))
          clear hb
          have d0 := D1.out.cell 0
          have d1 := D1.out.cell 1
          have d2 := D1.out.cell 2
          have d3 := D1.out.cell 3
          have d4 := D1.out.cell 4
          have d5 := D1.out.cell 5
          simp at d0 d1 d2 d3 d4 d5
          have dl := D1.out.lt
          go_wp2_with fail
          clear d0 d1 d2 d3 d4 d5 dl
          refine (qCheck _ _ _ _ _ _ eo lr _ (EO.out.evs q.out) (E1.out.evs q.out) R2.out).mono ?_
          rintro x w15 ⟨rfl, hb⟩
          have B := Lib.hid (B.out.on hb)
          have C := Lib.hid (C.out.on hb)
          have D1 := Lib.hid (D1.out.on hb)
          have D2 := Lib.hid (D2.out.on hb)
          have EE := Lib.hid (EE.out.on hb)
          have EO := Lib.hid (EO.out.on hb)
          have E1 := Lib.hid (E1.out.on hb)
          have E2 := Lib.hid (E2.out.on hb)
          have q := Lib.hid (q.out.trans (hb.mono q.out.size))
          clear hb
          go_wp2_with fail
          refine (lives_true _).mono ?_
          rintro x w16 ⟨rfl, hb⟩
          go_wp2_with fail
          go_ret
          exact ⟨rfl, q.out.trans (hb.mono q.out.size)⟩
      · have g : (c == 0) = false := beq_eq_false_iff_ne.2 hz
        clear hcc
        go_wp2_with fail
        refine (lives_true _).mono ?_
        rintro x w17 ⟨rfl, hb⟩
        go_wp2_with fail
        go_ret
        exact ⟨rfl, q.out.trans (hb.mono q.out.size)⟩

end Go.Proofs.Ytfebldoplobkdaa
