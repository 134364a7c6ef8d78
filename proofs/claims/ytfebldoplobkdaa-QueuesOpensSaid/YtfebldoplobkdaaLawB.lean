/- The law QueuesOpens: the walk. -/
import Derived.Test.YtfebldoplobkdaaLaw0
namespace Go.Proofs.Ytfebldoplobkdaa
open Go.ChangeShapes Go.WideShapes Go.ChangeAt Go.RowKit

set_option maxRecDepth 100000 in
set_option maxHeartbeats 4000000 in
theorem opens_walk (to : ByteArray) (next : Int) (ev op : Value) (fails at_ : Int) (eo ee : List (List Value)) (w : World) (ho : Evs w op eo) (he : Evs w ev ee) (hto : to.size ≤ 9223372036854775807)
    (hn1 : -9223372036854775808 ≤ next) (hn2 : next ≤ 9223372036854775807) (hf1 : -9223372036854775808 ≤ fails) (hf2 : fails ≤ 9223372036854775807) (ha1 : -9223372036854775808 ≤ at_) (ha2 : at_ ≤ 9223372036854775807) (now : Int) :
    Calls Try.prog 4 #[.agg #[.string to, .int .i64 next, ev, op, .int .i64 fails, .int .i64 at_], .int .i64 now] w fun x w' => x = .returned (.bool true) ∧ Below w.heap.size w w' := by
  have EE := Ev0.of he he.2
  have EO := Ev0.of ho ho.2
  have HV := fun (wx : World) (h : Below w.heap.size w wx) => qValid to next ev op fails at_ eo ee wx (ho.on h) (he.on h) hto hn1 hn2 hf1 hf2 ha1 ha2
  clear hto hn1 hn2 hf1 hf2 ha1 ha2 he ho
  obtain ⟨ea, ec, hv⟩ := EE.form
  obtain rfl : ev = .slice ea ee.length ec := hv
  obtain ⟨oa, oc, hv⟩ := EO.form
  obtain rfl : op = .slice oa eo.length oc := hv
  have ce1 := EE.cap
  have ce2 := EO.cap
  obtain ⟨cE1, cE2⟩ := ce1
  obtain ⟨cO1, cO2⟩ := ce2
  have EE := Lib.hid EE
  have EO := Lib.hid EO
  have q := Lib.hid (Below.refl w.heap.size w)
  go_enter Try.func4, Try.ntmps4
  go_wp2_with fail
  have hb : Below w.heap.size w (w.alloc (.cells #[.string to, .int .i64 next, (.slice ea ee.length ec), (.slice oa eo.length oc), .int .i64 fails, .int .i64 at_] 24)) := by repeat (first | exact Below.refl _ _ | refine Below.alloc ?_ (by first | (simp; done) | (simp; omega)) _)
  have Ba : Whole (w.alloc (.cells #[.string to, .int .i64 next, (.slice ea ee.length ec), (.slice oa eo.length oc), .int .i64 fails, .int .i64 at_] 24)) (w.heap.size) 24 #[.string to, .int .i64 next, (.slice ea ee.length ec), (.slice oa eo.length oc), .int .i64 fails, .int .i64 at_] := by
    have h0 := Whole.new w 24 #[.string to, .int .i64 next, (.slice ea ee.length ec), (.slice oa eo.length oc), .int .i64 fails, .int .i64 at_]
    simpa using h0
  have Ba := Lib.hid Ba
  have hb := Lib.hid hb
  have lww : w.heap.size ≤ w.heap.size := q.out.size
  have EE := Lib.hid (EE.out.on hb.out)
  have EO := Lib.hid (EO.out.on hb.out)
  have q := Lib.hid (q.out.trans (hb.out.mono q.out.size))
  have B := Ba
  obtain ⟨w1, hw⟩ : ∃ w1, w1 = (w.alloc (.cells #[.string to, .int .i64 next, (.slice ea ee.length ec), (.slice oa eo.length oc), .int .i64 fails, .int .i64 at_] 24)) := ⟨_, rfl⟩
  clear hb Ba
  rw [← hw] at B EE EO q ⊢
  clear hw
  refine (HV _ q.out).mono ?_
  rintro x w2 ⟨r, rfl, hr, hb⟩
  have B := Lib.hid (B.out.on hb)
  have EE := Lib.hid (EE.out.on hb)
  have EO := Lib.hid (EO.out.on hb)
  have q := Lib.hid (q.out.trans (hb.mono q.out.size))
  clear hb
  cases r with
  | false =>
    clear hr HV
    go_wp2_with fail
    refine (lives_true _).mono ?_
    rintro x w3 ⟨rfl, hb⟩
    go_wp2_with fail
    go_ret
    exact ⟨rfl, q.out.trans (hb.mono q.out.size)⟩
  | true =>
    obtain ⟨R, h1, h2⟩ := hr rfl
    clear hr HV
    have OA := fun (wx : World) (hq : Below w.heap.size w wx) (g1 : Ev0 w wx _ eo) (g2 : Ev0 w wx _ ee) => qOpen0 to next (.slice ea ee.length ec) (.slice oa eo.length oc) fails at_ now eo ee w wx hq g1 g2 ⟨by omega, by omega⟩ ⟨R.n1, R.n2⟩
    have OB := fun (wx : World) (hq : Below w.heap.size w wx) (g1 : Ev0 w wx _ eo) (g2 : Ev0 w wx _ ee) => rOpen0 to next (.slice ea ee.length ec) (.slice oa eo.length oc) fails at_ now eo ee w wx hq g1 g2 ⟨by omega, by omega⟩ ⟨R.n1, R.n2⟩
    have R2 := R.open_
    clear R
    generalize hkk : oK next at_ now eo ee = kk at OA OB
    generalize oN next eo ee = nN at OA OB R2
    generalize oE next eo ee = lE at OA OB R2
    generalize oO next eo ee = lO at OA OB R2
    clear hkk
    have b1 := R2.n1
    have b2 := R2.n2
    have b3 := R2.lo
    have b4 := R2.ls
    have R2 := Lib.hid R2
    have d0 := B.out.cell 0
    have d1 := B.out.cell 1
    have d2 := B.out.cell 2
    have d3 := B.out.cell 3
    have d4 := B.out.cell 4
    have d5 := B.out.cell 5
    simp at d0 d1 d2 d3 d4 d5
    have dl := B.out.lt
    go_wp2_with fail
    clear d0 d1 d2 d3 d4 d5 dl
    cases kk with
    | false =>
      refine (OA _ q.out EO.out EE.out).mono ?_
      rintro x x0 ⟨v1, v2, pc, rfl, EA1, EB1, hp, hn, hb⟩
      have hpc := hn (by trivial)
      clear hp hn
      unfold pk0 at hpc
      subst hpc
      obtain ⟨a10, c10, hv⟩ := EA1.form
      obtain rfl : v1 = .slice a10 lE.length c10 := hv
      obtain ⟨a11, c11, hv⟩ := EB1.form
      obtain rfl : v2 = .slice a11 lO.length c11 := hv
      have B := Lib.hid (B.out.on hb)
      have EE := Lib.hid (EE.out.on hb)
      have EO := Lib.hid (EO.out.on hb)
      have q := Lib.hid (q.out.trans (hb.mono q.out.size))
      have EA1 := Lib.hid EA1
      have EB1 := Lib.hid EB1
      clear hb
      have hb : Below x0.heap.size x0 ((x0.alloc (.cells #[.string ⟨#[]⟩, .int .i64 0, .slice none 0 0, .slice none 0 0, .int .i64 0, .int .i64 0] 24)).alloc (.cells #[.string ⟨#[]⟩, .string ⟨#[]⟩, .int .i64 0, .int .i64 0, .string ⟨#[]⟩, .slice none 0 0, .slice none 0 0, .slice none 0 0, .string ⟨#[]⟩, .int .i64 0] 49)) := by repeat (first | exact Below.refl _ _ | refine Below.alloc ?_ (by first | (simp; done) | (simp; omega)) _)
      have D1a : Whole ((x0.alloc (.cells #[.string ⟨#[]⟩, .int .i64 0, .slice none 0 0, .slice none 0 0, .int .i64 0, .int .i64 0] 24)).alloc (.cells #[.string ⟨#[]⟩, .string ⟨#[]⟩, .int .i64 0, .int .i64 0, .string ⟨#[]⟩, .slice none 0 0, .slice none 0 0, .slice none 0 0, .string ⟨#[]⟩, .int .i64 0] 49)) (x0.heap.size) 24 #[.string ⟨#[]⟩, .int .i64 0, .slice none 0 0, .slice none 0 0, .int .i64 0, .int .i64 0] := by
        have h0 := Whole.new x0 24 #[.string ⟨#[]⟩, .int .i64 0, .slice none 0 0, .slice none 0 0, .int .i64 0, .int .i64 0]
        have h0 := h0.on (below_new (o := .cells #[.string ⟨#[]⟩, .string ⟨#[]⟩, .int .i64 0, .int .i64 0, .string ⟨#[]⟩, .slice none 0 0, .slice none 0 0, .slice none 0 0, .string ⟨#[]⟩, .int .i64 0] 49))
        simpa using h0
      have D1a := Lib.hid D1a
      have P1a : Whole ((x0.alloc (.cells #[.string ⟨#[]⟩, .int .i64 0, .slice none 0 0, .slice none 0 0, .int .i64 0, .int .i64 0] 24)).alloc (.cells #[.string ⟨#[]⟩, .string ⟨#[]⟩, .int .i64 0, .int .i64 0, .string ⟨#[]⟩, .slice none 0 0, .slice none 0 0, .slice none 0 0, .string ⟨#[]⟩, .int .i64 0] 49)) (x0.heap.size + 1) 49 #[.string ⟨#[]⟩, .string ⟨#[]⟩, .int .i64 0, .int .i64 0, .string ⟨#[]⟩, .slice none 0 0, .slice none 0 0, .slice none 0 0, .string ⟨#[]⟩, .int .i64 0] := by
        have h0 := Whole.new (x0.alloc (.cells #[.string ⟨#[]⟩, .int .i64 0, .slice none 0 0, .slice none 0 0, .int .i64 0, .int .i64 0] 24)) 49 #[.string ⟨#[]⟩, .string ⟨#[]⟩, .int .i64 0, .int .i64 0, .string ⟨#[]⟩, .slice none 0 0, .slice none 0 0, .slice none 0 0, .string ⟨#[]⟩, .int .i64 0]
        simpa using h0
      have P1a := Lib.hid P1a
      have hb := Lib.hid hb
      have lwx0 : w.heap.size ≤ x0.heap.size := q.out.size
      have xBx0 : (w.heap.size) < x0.heap.size := B.out.lt
      go_wp2_with (first | ((with_reducible refine list_store24 _ _ _ #[.string to, .int .i64 nN, (.slice a10 lE.length c10), (.slice a11 lO.length c11), .int .i64 fails, .int .i64 at_] D1a.out rfl ?_ ?_ ?_ ?_ ?_ ?_ ?_); all_goals try rfl; all_goals try (simp [Value.oneCell']; done)))
      case refine_4 => simp [Value.oneCell']
      intro x1 z hg
      have EE := Lib.hid ((EE.out.on hb.out).off D1a.out (by simp) hg)
      have EO := Lib.hid ((EO.out.on hb.out).off D1a.out (by simp) hg)
      have EA1 := Lib.hid ((EA1.out.on hb.out).off D1a.out (by simp) hg)
      have EB1 := Lib.hid ((EB1.out.on hb.out).off D1a.out (by simp) hg)
      have B := Lib.hid ((B.out.on hb.out).off hg (by intro e; injection e with e; omega))
      have P1 := Lib.hid (P1a.out.off hg (by intro e; injection e with e; omega))
      have q := Lib.hid (q.out.trans (hb.out.mono q.out.size))
      have q := Lib.hid (below_row q.out hg (by omega) q.out.size)
      have D1 := Lib.hid z
      clear z hg hb D1a P1a
      go_wp2_with (first | ((with_reducible refine list_store49 _ _ _ #[.string ⟨#[]⟩, .string ⟨#[]⟩, .int .i64 0, .int .i64 0, .string ⟨#[]⟩, .slice none 0 0, .slice none 0 0, .slice none 0 0, .string ⟨#[]⟩, .int .i64 0] P1.out rfl ?_ ?_ ?_ ?_ ?_ ?_ ?_); all_goals try rfl; all_goals try (simp [Value.oneCell']; done)))
      case refine_4 => simp [Value.oneCell']
      intro x2 z hg
      have EE := Lib.hid (EE.out.off P1.out (by simp) hg)
      have EO := Lib.hid (EO.out.off P1.out (by simp) hg)
      have EA1 := Lib.hid (EA1.out.off P1.out (by simp) hg)
      have EB1 := Lib.hid (EB1.out.off P1.out (by simp) hg)
      have B := Lib.hid (B.out.off hg (by intro e; injection e with e; omega))
      have D1 := Lib.hid (D1.out.off hg (by intro e; injection e with e; omega))
      have q := Lib.hid (below_row q.out hg (by omega) q.out.size)
      have P1 := Lib.hid z
      clear z hg
      have d0 := B.out.cell 0
      have d1 := B.out.cell 1
      have d2 := B.out.cell 2
      have d3 := B.out.cell 3
      have d4 := B.out.cell 4
      have d5 := B.out.cell 5
      simp at d0 d1 d2 d3 d4 d5
      have dl := B.out.lt
      go_wp2_with fail
      clear d0 d1 d2 d3 d4 d5 dl
      refine (OB _ q.out EO.out EE.out).mono ?_
      rintro x y0 ⟨v1, v2, pc, rfl, EA2, EB2, hp, hn, hb⟩
      have hpc := hn (by trivial)
      clear hp hn
      unfold pk0 at hpc
      subst hpc
      obtain ⟨a20, c20, hv⟩ := EA2.form
      obtain rfl : v1 = .slice a20 lE.length c20 := hv
      obtain ⟨a21, c21, hv⟩ := EB2.form
      obtain rfl : v2 = .slice a21 lO.length c21 := hv
      have B := Lib.hid (B.out.on hb)
      have D1 := Lib.hid (D1.out.on hb)
      have P1 := Lib.hid (P1.out.on hb)
      have EE := Lib.hid (EE.out.on hb)
      have EO := Lib.hid (EO.out.on hb)
      have EA1 := Lib.hid (EA1.out.on hb)
      have EB1 := Lib.hid (EB1.out.on hb)
      have q := Lib.hid (q.out.trans (hb.mono q.out.size))
      have EA2 := Lib.hid EA2
      have EB2 := Lib.hid EB2
      clear hb
      have hb : Below y0.heap.size y0 ((y0.alloc (.cells #[.string ⟨#[]⟩, .int .i64 0, .slice none 0 0, .slice none 0 0, .int .i64 0, .int .i64 0] 24)).alloc (.cells #[.string ⟨#[]⟩, .string ⟨#[]⟩, .int .i64 0, .int .i64 0, .string ⟨#[]⟩, .slice none 0 0, .slice none 0 0, .slice none 0 0, .string ⟨#[]⟩, .int .i64 0] 49)) := by repeat (first | exact Below.refl _ _ | refine Below.alloc ?_ (by first | (simp; done) | (simp; omega)) _)
      have D2a : Whole ((y0.alloc (.cells #[.string ⟨#[]⟩, .int .i64 0, .slice none 0 0, .slice none 0 0, .int .i64 0, .int .i64 0] 24)).alloc (.cells #[.string ⟨#[]⟩, .string ⟨#[]⟩, .int .i64 0, .int .i64 0, .string ⟨#[]⟩, .slice none 0 0, .slice none 0 0, .slice none 0 0, .string ⟨#[]⟩, .int .i64 0] 49)) (y0.heap.size) 24 #[.string ⟨#[]⟩, .int .i64 0, .slice none 0 0, .slice none 0 0, .int .i64 0, .int .i64 0] := by
        have h0 := Whole.new y0 24 #[.string ⟨#[]⟩, .int .i64 0, .slice none 0 0, .slice none 0 0, .int .i64 0, .int .i64 0]
        have h0 := h0.on (below_new (o := .cells #[.string ⟨#[]⟩, .string ⟨#[]⟩, .int .i64 0, .int .i64 0, .string ⟨#[]⟩, .slice none 0 0, .slice none 0 0, .slice none 0 0, .string ⟨#[]⟩, .int .i64 0] 49))
        simpa using h0
      have D2a := Lib.hid D2a
      have P2a : Whole ((y0.alloc (.cells #[.string ⟨#[]⟩, .int .i64 0, .slice none 0 0, .slice none 0 0, .int .i64 0, .int .i64 0] 24)).alloc (.cells #[.string ⟨#[]⟩, .string ⟨#[]⟩, .int .i64 0, .int .i64 0, .string ⟨#[]⟩, .slice none 0 0, .slice none 0 0, .slice none 0 0, .string ⟨#[]⟩, .int .i64 0] 49)) (y0.heap.size + 1) 49 #[.string ⟨#[]⟩, .string ⟨#[]⟩, .int .i64 0, .int .i64 0, .string ⟨#[]⟩, .slice none 0 0, .slice none 0 0, .slice none 0 0, .string ⟨#[]⟩, .int .i64 0] := by
        have h0 := Whole.new (y0.alloc (.cells #[.string ⟨#[]⟩, .int .i64 0, .slice none 0 0, .slice none 0 0, .int .i64 0, .int .i64 0] 24)) 49 #[.string ⟨#[]⟩, .string ⟨#[]⟩, .int .i64 0, .int .i64 0, .string ⟨#[]⟩, .slice none 0 0, .slice none 0 0, .slice none 0 0, .string ⟨#[]⟩, .int .i64 0]
        simpa using h0
      have P2a := Lib.hid P2a
      have hb := Lib.hid hb
      have lwy0 : w.heap.size ≤ y0.heap.size := q.out.size
      have xBy0 : (w.heap.size) < y0.heap.size := B.out.lt
      have xD1y0 : (x0.heap.size) < y0.heap.size := D1.out.lt
      have xP1y0 : (x0.heap.size + 1) < y0.heap.size := P1.out.lt
      go_wp2_with (first | ((with_reducible refine list_store24 _ _ _ #[.string to, .int .i64 nN, (.slice a20 lE.length c20), (.slice a21 lO.length c21), .int .i64 fails, .int .i64 at_] D2a.out rfl ?_ ?_ ?_ ?_ ?_ ?_ ?_); all_goals try rfl; all_goals try (simp [Value.oneCell']; done)))
      case refine_4 => simp [Value.oneCell']
      intro y1 z hg
      have EE := Lib.hid ((EE.out.on hb.out).off D2a.out (by simp) hg)
      have EO := Lib.hid ((EO.out.on hb.out).off D2a.out (by simp) hg)
      have EA1 := Lib.hid ((EA1.out.on hb.out).off D2a.out (by simp) hg)
      have EB1 := Lib.hid ((EB1.out.on hb.out).off D2a.out (by simp) hg)
      have EA2 := Lib.hid ((EA2.out.on hb.out).off D2a.out (by simp) hg)
      have EB2 := Lib.hid ((EB2.out.on hb.out).off D2a.out (by simp) hg)
      have B := Lib.hid ((B.out.on hb.out).off hg (by intro e; injection e with e; omega))
      have D1 := Lib.hid ((D1.out.on hb.out).off hg (by intro e; injection e with e; omega))
      have P1 := Lib.hid ((P1.out.on hb.out).off hg (by intro e; injection e with e; omega))
      have P2 := Lib.hid (P2a.out.off hg (by intro e; injection e with e; omega))
      have q := Lib.hid (q.out.trans (hb.out.mono q.out.size))
      have q := Lib.hid (below_row q.out hg (by omega) q.out.size)
      have D2 := Lib.hid z
      clear z hg hb D2a P2a
      go_wp2_with (first | ((with_reducible refine list_store49 _ _ _ #[.string ⟨#[]⟩, .string ⟨#[]⟩, .int .i64 0, .int .i64 0, .string ⟨#[]⟩, .slice none 0 0, .slice none 0 0, .slice none 0 0, .string ⟨#[]⟩, .int .i64 0] P2.out rfl ?_ ?_ ?_ ?_ ?_ ?_ ?_); all_goals try rfl; all_goals try (simp [Value.oneCell']; done)))
      case refine_4 => simp [Value.oneCell']
      intro y2 z hg
      have EE := Lib.hid (EE.out.off P2.out (by simp) hg)
      have EO := Lib.hid (EO.out.off P2.out (by simp) hg)
      have EA1 := Lib.hid (EA1.out.off P2.out (by simp) hg)
      have EB1 := Lib.hid (EB1.out.off P2.out (by simp) hg)
      have EA2 := Lib.hid (EA2.out.off P2.out (by simp) hg)
      have EB2 := Lib.hid (EB2.out.off P2.out (by simp) hg)
      have B := Lib.hid (B.out.off hg (by intro e; injection e with e; omega))
      have D1 := Lib.hid (D1.out.off hg (by intro e; injection e with e; omega))
      have P1 := Lib.hid (P1.out.off hg (by intro e; injection e with e; omega))
      have D2 := Lib.hid (D2.out.off hg (by intro e; injection e with e; omega))
      have q := Lib.hid (below_row q.out hg (by omega) q.out.size)
      have P2 := Lib.hid z
      clear z hg
      have d0 := D1.out.cell 0
      have d1 := D1.out.cell 1
      have d2 := D1.out.cell 2
      have d3 := D1.out.cell 3
      have d4 := D1.out.cell 4
      have d5 := D1.out.cell 5
      simp at d0 d1 d2 d3 d4 d5
      have dl := D1.out.lt
      have e0 := D2.out.cell 0
      have e1 := D2.out.cell 1
      have e2 := D2.out.cell 2
      have e3 := D2.out.cell 3
      have e4 := D2.out.cell 4
      have e5 := D2.out.cell 5
      simp at e0 e1 e2 e3 e4 e5
      have el := D2.out.lt
      go_wp2_with fail
      clear d0 d1 d2 d3 d4 d5 e0 e1 e2 e3 e4 e5 dl el
      refine (qSame _ _ _ _ _ _ _ _ lO lE _ (EB1.out.evs q.out) (EA1.out.evs q.out) (EB2.out.evs q.out) (EA2.out.evs q.out)).mono ?_
      rintro x z0 ⟨rfl, hb⟩
      have B := Lib.hid (B.out.on hb)
      have D1 := Lib.hid (D1.out.on hb)
      have P1 := Lib.hid (P1.out.on hb)
      have D2 := Lib.hid (D2.out.on hb)
      have P2 := Lib.hid (P2.out.on hb)
      have EE := Lib.hid (EE.out.on hb)
      have EO := Lib.hid (EO.out.on hb)
      have EA1 := Lib.hid (EA1.out.on hb)
      have EB1 := Lib.hid (EB1.out.on hb)
      have EA2 := Lib.hid (EA2.out.on hb)
      have EB2 := Lib.hid (EB2.out.on hb)
      have q := Lib.hid (q.out.trans (hb.mono q.out.size))
      clear hb
      have d0 := P1.out.cell 0
      have d1 := P1.out.cell 1
      have d2 := P1.out.cell 2
      have d3 := P1.out.cell 3
      have d4 := P1.out.cell 4
      have d5 := P1.out.cell 5
      have d6 := P1.out.cell 6
      have d7 := P1.out.cell 7
      have d8 := P1.out.cell 8
      have d9 := P1.out.cell 9
      simp at d0 d1 d2 d3 d4 d5 d6 d7 d8 d9
      have dl := P1.out.lt
      have e0 := P2.out.cell 0
      have e1 := P2.out.cell 1
      have e2 := P2.out.cell 2
      have e3 := P2.out.cell 3
      have e4 := P2.out.cell 4
      have e5 := P2.out.cell 5
      have e6 := P2.out.cell 6
      have e7 := P2.out.cell 7
      have e8 := P2.out.cell 8
      have e9 := P2.out.cell 9
      simp at e0 e1 e2 e3 e4 e5 e6 e7 e8 e9
      have el := P2.out.lt
      go_wp2_with fail
      clear d0 d1 d2 d3 d4 d5 d6 d7 d8 d9 e0 e1 e2 e3 e4 e5 e6 e7 e8 e9 dl el
      refine (samePk0 _).mono ?_
      rintro x z1 ⟨rfl, hb⟩
      have B := Lib.hid (B.out.on hb)
      have D1 := Lib.hid (D1.out.on hb)
      have P1 := Lib.hid (P1.out.on hb)
      have D2 := Lib.hid (D2.out.on hb)
      have P2 := Lib.hid (P2.out.on hb)
      have EE := Lib.hid (EE.out.on hb)
      have EO := Lib.hid (EO.out.on hb)
      have EA1 := Lib.hid (EA1.out.on hb)
      have EB1 := Lib.hid (EB1.out.on hb)
      have EA2 := Lib.hid (EA2.out.on hb)
      have EB2 := Lib.hid (EB2.out.on hb)
      have q := Lib.hid (q.out.trans (hb.mono q.out.size))
      clear hb
      have d0 := D1.out.cell 0
      have d1 := D1.out.cell 1
      have d2 := D1.out.cell 2
      have d3 := D1.out.cell 3
      have d4 := D1.out.cell 4
      have d5 := D1.out.cell 5
      simp at d0 d1 d2 d3 d4 d5
      have dl := D1.out.lt
      go_wp2_with fail
      clear d0 d1 d2 d3 d4 d5 dl
      refine (qCheck _ _ _ _ _ _ lO lE _ (EB1.out.evs q.out) (EA1.out.evs q.out) R2.out).mono ?_
      rintro x z2 ⟨rfl, hb⟩
      have B := Lib.hid (B.out.on hb)
      have D1 := Lib.hid (D1.out.on hb)
      have P1 := Lib.hid (P1.out.on hb)
      have D2 := Lib.hid (D2.out.on hb)
      have P2 := Lib.hid (P2.out.on hb)
      have EE := Lib.hid (EE.out.on hb)
      have EO := Lib.hid (EO.out.on hb)
      have EA1 := Lib.hid (EA1.out.on hb)
      have EB1 := Lib.hid (EB1.out.on hb)
      have EA2 := Lib.hid (EA2.out.on hb)
      have EB2 := Lib.hid (EB2.out.on hb)
      have q := Lib.hid (q.out.trans (hb.mono q.out.size))
      clear hb
      go_wp2_with fail
      refine (lives_true _).mono ?_
      rintro x z3 ⟨rfl, hb⟩
      go_wp2_with fail
      go_ret
      exact ⟨rfl, q.out.trans (hb.mono q.out.size)⟩
    | true =>
      refine (OA _ q.out EO.out EE.out).mono ?_
      rintro x x0 ⟨v1, v2, pc, rfl, EA1, EB1, hp, hn, hb⟩
      obtain ⟨u, hpc, EC1⟩ := hp (by trivial)
      clear hp hn
      unfold pkc at hpc
      subst hpc
      obtain ⟨a10, c10, hv⟩ := EA1.form
      obtain rfl : v1 = .slice a10 lE.length c10 := hv
      obtain ⟨a11, c11, hv⟩ := EB1.form
      obtain rfl : v2 = .slice a11 lO.length c11 := hv
      obtain ⟨a12, c12, hv⟩ := EC1.form
      obtain rfl : u = .slice a12 lO.length c12 := hv
      have B := Lib.hid (B.out.on hb)
      have EE := Lib.hid (EE.out.on hb)
      have EO := Lib.hid (EO.out.on hb)
      have q := Lib.hid (q.out.trans (hb.mono q.out.size))
      have EA1 := Lib.hid EA1
      have EB1 := Lib.hid EB1
      have EC1 := Lib.hid EC1
      clear hb
      have hb : Below x0.heap.size x0 ((x0.alloc (.cells #[.string ⟨#[]⟩, .int .i64 0, .slice none 0 0, .slice none 0 0, .int .i64 0, .int .i64 0] 24)).alloc (.cells #[.string ⟨#[]⟩, .string ⟨#[]⟩, .int .i64 0, .int .i64 0, .string ⟨#[]⟩, .slice none 0 0, .slice none 0 0, .slice none 0 0, .string ⟨#[]⟩, .int .i64 0] 49)) := by repeat (first | exact Below.refl _ _ | refine Below.alloc ?_ (by first | (simp; done) | (simp; omega)) _)
      have D1a : Whole ((x0.alloc (.cells #[.string ⟨#[]⟩, .int .i64 0, .slice none 0 0, .slice none 0 0, .int .i64 0, .int .i64 0] 24)).alloc (.cells #[.string ⟨#[]⟩, .string ⟨#[]⟩, .int .i64 0, .int .i64 0, .string ⟨#[]⟩, .slice none 0 0, .slice none 0 0, .slice none 0 0, .string ⟨#[]⟩, .int .i64 0] 49)) (x0.heap.size) 24 #[.string ⟨#[]⟩, .int .i64 0, .slice none 0 0, .slice none 0 0, .int .i64 0, .int .i64 0] := by
        have h0 := Whole.new x0 24 #[.string ⟨#[]⟩, .int .i64 0, .slice none 0 0, .slice none 0 0, .int .i64 0, .int .i64 0]
        have h0 := h0.on (below_new (o := .cells #[.string ⟨#[]⟩, .string ⟨#[]⟩, .int .i64 0, .int .i64 0, .string ⟨#[]⟩, .slice none 0 0, .slice none 0 0, .slice none 0 0, .string ⟨#[]⟩, .int .i64 0] 49))
        simpa using h0
      have D1a := Lib.hid D1a
      have P1a : Whole ((x0.alloc (.cells #[.string ⟨#[]⟩, .int .i64 0, .slice none 0 0, .slice none 0 0, .int .i64 0, .int .i64 0] 24)).alloc (.cells #[.string ⟨#[]⟩, .string ⟨#[]⟩, .int .i64 0, .int .i64 0, .string ⟨#[]⟩, .slice none 0 0, .slice none 0 0, .slice none 0 0, .string ⟨#[]⟩, .int .i64 0] 49)) (x0.heap.size + 1) 49 #[.string ⟨#[]⟩, .string ⟨#[]⟩, .int .i64 0, .int .i64 0, .string ⟨#[]⟩, .slice none 0 0, .slice none 0 0, .slice none 0 0, .string ⟨#[]⟩, .int .i64 0] := by
        have h0 := Whole.new (x0.alloc (.cells #[.string ⟨#[]⟩, .int .i64 0, .slice none 0 0, .slice none 0 0, .int .i64 0, .int .i64 0] 24)) 49 #[.string ⟨#[]⟩, .string ⟨#[]⟩, .int .i64 0, .int .i64 0, .string ⟨#[]⟩, .slice none 0 0, .slice none 0 0, .slice none 0 0, .string ⟨#[]⟩, .int .i64 0]
        simpa using h0
      have P1a := Lib.hid P1a
      have hb := Lib.hid hb
      have lwx0 : w.heap.size ≤ x0.heap.size := q.out.size
      have xBx0 : (w.heap.size) < x0.heap.size := B.out.lt
      go_wp2_with (first | ((with_reducible refine list_store24 _ _ _ #[.string to, .int .i64 nN, (.slice a10 lE.length c10), (.slice a11 lO.length c11), .int .i64 fails, .int .i64 at_] D1a.out rfl ?_ ?_ ?_ ?_ ?_ ?_ ?_); all_goals try rfl; all_goals try (simp [Value.oneCell']; done)))
      case refine_4 => simp [Value.oneCell']
      intro x1 z hg
      have EE := Lib.hid ((EE.out.on hb.out).off D1a.out (by simp) hg)
      have EO := Lib.hid ((EO.out.on hb.out).off D1a.out (by simp) hg)
      have EA1 := Lib.hid ((EA1.out.on hb.out).off D1a.out (by simp) hg)
      have EB1 := Lib.hid ((EB1.out.on hb.out).off D1a.out (by simp) hg)
      have EC1 := Lib.hid ((EC1.out.on hb.out).off D1a.out (by simp) hg)
      have B := Lib.hid ((B.out.on hb.out).off hg (by intro e; injection e with e; omega))
      have P1 := Lib.hid (P1a.out.off hg (by intro e; injection e with e; omega))
      have q := Lib.hid (q.out.trans (hb.out.mono q.out.size))
      have q := Lib.hid (below_row q.out hg (by omega) q.out.size)
      have D1 := Lib.hid z
      clear z hg hb D1a P1a
      go_wp2_with (first | ((with_reducible refine list_store49 _ _ _ #[.string ⟨#[]⟩, .string to, .int .i64 1, .int .i64 (nN - 1), .string ⟨#[]⟩, (.slice a12 lO.length c12), .slice none 0 0, .slice none 0 0, .string ⟨#[]⟩, .int .i64 0] P1.out rfl ?_ ?_ ?_ ?_ ?_ ?_ ?_); all_goals try rfl; all_goals try (simp [Value.oneCell']; done)))
      case refine_4 => simp [Value.oneCell']
      intro x2 z hg
      have EE := Lib.hid (EE.out.off P1.out (by simp) hg)
      have EO := Lib.hid (EO.out.off P1.out (by simp) hg)
      have EA1 := Lib.hid (EA1.out.off P1.out (by simp) hg)
      have EB1 := Lib.hid (EB1.out.off P1.out (by simp) hg)
      have EC1 := Lib.hid (EC1.out.off P1.out (by simp) hg)
      have B := Lib.hid (B.out.off hg (by intro e; injection e with e; omega))
      have D1 := Lib.hid (D1.out.off hg (by intro e; injection e with e; omega))
      have q := Lib.hid (below_row q.out hg (by omega) q.out.size)
      have P1 := Lib.hid z
      clear z hg
      have d0 := B.out.cell 0
      have d1 := B.out.cell 1
      have d2 := B.out.cell 2
      have d3 := B.out.cell 3
      have d4 := B.out.cell 4
      have d5 := B.out.cell 5
      simp at d0 d1 d2 d3 d4 d5
      have dl := B.out.lt
      go_wp2_with fail
      clear d0 d1 d2 d3 d4 d5 dl
      refine (OB _ q.out EO.out EE.out).mono ?_
      rintro x y0 ⟨v1, v2, pc, rfl, EA2, EB2, hp, hn, hb⟩
      obtain ⟨u, hpc, EC2⟩ := hp (by trivial)
      clear hp hn
      unfold pkc at hpc
      subst hpc
      obtain ⟨a20, c20, hv⟩ := EA2.form
      obtain rfl : v1 = .slice a20 lE.length c20 := hv
      obtain ⟨a21, c21, hv⟩ := EB2.form
      obtain rfl : v2 = .slice a21 lO.length c21 := hv
      obtain ⟨a22, c22, hv⟩ := EC2.form
      obtain rfl : u = .slice a22 lO.length c22 := hv
      have B := Lib.hid (B.out.on hb)
      have D1 := Lib.hid (D1.out.on hb)
      have P1 := Lib.hid (P1.out.on hb)
      have EE := Lib.hid (EE.out.on hb)
      have EO := Lib.hid (EO.out.on hb)
      have EA1 := Lib.hid (EA1.out.on hb)
      have EB1 := Lib.hid (EB1.out.on hb)
      have EC1 := Lib.hid (EC1.out.on hb)
      have q := Lib.hid (q.out.trans (hb.mono q.out.size))
      have EA2 := Lib.hid EA2
      have EB2 := Lib.hid EB2
      have EC2 := Lib.hid EC2
      clear hb
      have hb : Below y0.heap.size y0 ((y0.alloc (.cells #[.string ⟨#[]⟩, .int .i64 0, .slice none 0 0, .slice none 0 0, .int .i64 0, .int .i64 0] 24)).alloc (.cells #[.string ⟨#[]⟩, .string ⟨#[]⟩, .int .i64 0, .int .i64 0, .string ⟨#[]⟩, .slice none 0 0, .slice none 0 0, .slice none 0 0, .string ⟨#[]⟩, .int .i64 0] 49)) := by repeat (first | exact Below.refl _ _ | refine Below.alloc ?_ (by first | (simp; done) | (simp; omega)) _)
      have D2a : Whole ((y0.alloc (.cells #[.string ⟨#[]⟩, .int .i64 0, .slice none 0 0, .slice none 0 0, .int .i64 0, .int .i64 0] 24)).alloc (.cells #[.string ⟨#[]⟩, .string ⟨#[]⟩, .int .i64 0, .int .i64 0, .string ⟨#[]⟩, .slice none 0 0, .slice none 0 0, .slice none 0 0, .string ⟨#[]⟩, .int .i64 0] 49)) (y0.heap.size) 24 #[.string ⟨#[]⟩, .int .i64 0, .slice none 0 0, .slice none 0 0, .int .i64 0, .int .i64 0] := by
        have h0 := Whole.new y0 24 #[.string ⟨#[]⟩, .int .i64 0, .slice none 0 0, .slice none 0 0, .int .i64 0, .int .i64 0]
        have h0 := h0.on (below_new (o := .cells #[.string ⟨#[]⟩, .string ⟨#[]⟩, .int .i64 0, .int .i64 0, .string ⟨#[]⟩, .slice none 0 0, .slice none 0 0, .slice none 0 0, .string ⟨#[]⟩, .int .i64 0] 49))
        simpa using h0
      have D2a := Lib.hid D2a
      have P2a : Whole ((y0.alloc (.cells #[.string ⟨#[]⟩, .int .i64 0, .slice none 0 0, .slice none 0 0, .int .i64 0, .int .i64 0] 24)).alloc (.cells #[.string ⟨#[]⟩, .string ⟨#[]⟩, .int .i64 0, .int .i64 0, .string ⟨#[]⟩, .slice none 0 0, .slice none 0 0, .slice none 0 0, .string ⟨#[]⟩, .int .i64 0] 49)) (y0.heap.size + 1) 49 #[.string ⟨#[]⟩, .string ⟨#[]⟩, .int .i64 0, .int .i64 0, .string ⟨#[]⟩, .slice none 0 0, .slice none 0 0, .slice none 0 0, .string ⟨#[]⟩, .int .i64 0] := by
        have h0 := Whole.new (y0.alloc (.cells #[.string ⟨#[]⟩, .int .i64 0, .slice none 0 0, .slice none 0 0, .int .i64 0, .int .i64 0] 24)) 49 #[.string ⟨#[]⟩, .string ⟨#[]⟩, .int .i64 0, .int .i64 0, .string ⟨#[]⟩, .slice none 0 0, .slice none 0 0, .slice none 0 0, .string ⟨#[]⟩, .int .i64 0]
        simpa using h0
      have P2a := Lib.hid P2a
      have hb := Lib.hid hb
      have lwy0 : w.heap.size ≤ y0.heap.size := q.out.size
      have xBy0 : (w.heap.size) < y0.heap.size := B.out.lt
      have xD1y0 : (x0.heap.size) < y0.heap.size := D1.out.lt
      have xP1y0 : (x0.heap.size + 1) < y0.heap.size := P1.out.lt
      go_wp2_with (first | ((with_reducible refine list_store24 _ _ _ #[.string to, .int .i64 nN, (.slice a20 lE.length c20), (.slice a21 lO.length c21), .int .i64 fails, .int .i64 at_] D2a.out rfl ?_ ?_ ?_ ?_ ?_ ?_ ?_); all_goals try rfl; all_goals try (simp [Value.oneCell']; done)))
      case refine_4 => simp [Value.oneCell']
      intro y1 z hg
      have EE := Lib.hid ((EE.out.on hb.out).off D2a.out (by simp) hg)
      have EO := Lib.hid ((EO.out.on hb.out).off D2a.out (by simp) hg)
      have EA1 := Lib.hid ((EA1.out.on hb.out).off D2a.out (by simp) hg)
      have EB1 := Lib.hid ((EB1.out.on hb.out).off D2a.out (by simp) hg)
      have EC1 := Lib.hid ((EC1.out.on hb.out).off D2a.out (by simp) hg)
      have EA2 := Lib.hid ((EA2.out.on hb.out).off D2a.out (by simp) hg)
      have EB2 := Lib.hid ((EB2.out.on hb.out).off D2a.out (by simp) hg)
      have EC2 := Lib.hid ((EC2.out.on hb.out).off D2a.out (by simp) hg)
      have B := Lib.hid ((B.out.on hb.out).off hg (by intro e; injection e with e; omega))
      have D1 := Lib.hid ((D1.out.on hb.out).off hg (by intro e; injection e with e; omega))
      have P1 := Lib.hid ((P1.out.on hb.out).off hg (by intro e; injection e with e; omega))
      have P2 := Lib.hid (P2a.out.off hg (by intro e; injection e with e; omega))
      have q := Lib.hid (q.out.trans (hb.out.mono q.out.size))
      have q := Lib.hid (below_row q.out hg (by omega) q.out.size)
      have D2 := Lib.hid z
      clear z hg hb D2a P2a
      go_wp2_with (first | ((with_reducible refine list_store49 _ _ _ #[.string ⟨#[]⟩, .string to, .int .i64 1, .int .i64 (nN - 1), .string ⟨#[]⟩, (.slice a22 lO.length c22), .slice none 0 0, .slice none 0 0, .string ⟨#[]⟩, .int .i64 0] P2.out rfl ?_ ?_ ?_ ?_ ?_ ?_ ?_); all_goals try rfl; all_goals try (simp [Value.oneCell']; done)))
      case refine_4 => simp [Value.oneCell']
      intro y2 z hg
      have EE := Lib.hid (EE.out.off P2.out (by simp) hg)
      have EO := Lib.hid (EO.out.off P2.out (by simp) hg)
      have EA1 := Lib.hid (EA1.out.off P2.out (by simp) hg)
      have EB1 := Lib.hid (EB1.out.off P2.out (by simp) hg)
      have EC1 := Lib.hid (EC1.out.off P2.out (by simp) hg)
      have EA2 := Lib.hid (EA2.out.off P2.out (by simp) hg)
      have EB2 := Lib.hid (EB2.out.off P2.out (by simp) hg)
      have EC2 := Lib.hid (EC2.out.off P2.out (by simp) hg)
      have B := Lib.hid (B.out.off hg (by intro e; injection e with e; omega))
      have D1 := Lib.hid (D1.out.off hg (by intro e; injection e with e; omega))
      have P1 := Lib.hid (P1.out.off hg (by intro e; injection e with e; omega))
      have D2 := Lib.hid (D2.out.off hg (by intro e; injection e with e; omega))
      have q := Lib.hid (below_row q.out hg (by omega) q.out.size)
      have P2 := Lib.hid z
      clear z hg
      have d0 := D1.out.cell 0
      have d1 := D1.out.cell 1
      have d2 := D1.out.cell 2
      have d3 := D1.out.cell 3
      have d4 := D1.out.cell 4
      have d5 := D1.out.cell 5
      simp at d0 d1 d2 d3 d4 d5
      have dl := D1.out.lt
      have e0 := D2.out.cell 0
      have e1 := D2.out.cell 1
      have e2 := D2.out.cell 2
      have e3 := D2.out.cell 3
      have e4 := D2.out.cell 4
      have e5 := D2.out.cell 5
      simp at e0 e1 e2 e3 e4 e5
      have el := D2.out.lt
      go_wp2_with fail
      clear d0 d1 d2 d3 d4 d5 e0 e1 e2 e3 e4 e5 dl el
      refine (qSame _ _ _ _ _ _ _ _ lO lE _ (EB1.out.evs q.out) (EA1.out.evs q.out) (EB2.out.evs q.out) (EA2.out.evs q.out)).mono ?_
      rintro x z0 ⟨rfl, hb⟩
      have B := Lib.hid (B.out.on hb)
      have D1 := Lib.hid (D1.out.on hb)
      have P1 := Lib.hid (P1.out.on hb)
      have D2 := Lib.hid (D2.out.on hb)
      have P2 := Lib.hid (P2.out.on hb)
      have EE := Lib.hid (EE.out.on hb)
      have EO := Lib.hid (EO.out.on hb)
      have EA1 := Lib.hid (EA1.out.on hb)
      have EB1 := Lib.hid (EB1.out.on hb)
      have EC1 := Lib.hid (EC1.out.on hb)
      have EA2 := Lib.hid (EA2.out.on hb)
      have EB2 := Lib.hid (EB2.out.on hb)
      have EC2 := Lib.hid (EC2.out.on hb)
      have q := Lib.hid (q.out.trans (hb.mono q.out.size))
      clear hb
      have d0 := P1.out.cell 0
      have d1 := P1.out.cell 1
      have d2 := P1.out.cell 2
      have d3 := P1.out.cell 3
      have d4 := P1.out.cell 4
      have d5 := P1.out.cell 5
      have d6 := P1.out.cell 6
      have d7 := P1.out.cell 7
      have d8 := P1.out.cell 8
      have d9 := P1.out.cell 9
      simp at d0 d1 d2 d3 d4 d5 d6 d7 d8 d9
      have dl := P1.out.lt
      have e0 := P2.out.cell 0
      have e1 := P2.out.cell 1
      have e2 := P2.out.cell 2
      have e3 := P2.out.cell 3
      have e4 := P2.out.cell 4
      have e5 := P2.out.cell 5
      have e6 := P2.out.cell 6
      have e7 := P2.out.cell 7
      have e8 := P2.out.cell 8
      have e9 := P2.out.cell 9
      simp at e0 e1 e2 e3 e4 e5 e6 e7 e8 e9
      have el := P2.out.lt
      go_wp2_with fail
      clear d0 d1 d2 d3 d4 d5 d6 d7 d8 d9 e0 e1 e2 e3 e4 e5 e6 e7 e8 e9 dl el
      refine (samePk _ _ _ _ lO _ (EC1.out.evs q.out) (EC2.out.evs q.out)).mono ?_
      rintro x z1 ⟨rfl, hb⟩
      have B := Lib.hid (B.out.on hb)
      have D1 := Lib.hid (D1.out.on hb)
      have P1 := Lib.hid (P1.out.on hb)
      have D2 := Lib.hid (D2.out.on hb)
      have P2 := Lib.hid (P2.out.on hb)
      have EE := Lib.hid (EE.out.on hb)
      have EO := Lib.hid (EO.out.on hb)
      have EA1 := Lib.hid (EA1.out.on hb)
      have EB1 := Lib.hid (EB1.out.on hb)
      have EC1 := Lib.hid (EC1.out.on hb)
      have EA2 := Lib.hid (EA2.out.on hb)
      have EB2 := Lib.hid (EB2.out.on hb)
      have EC2 := Lib.hid (EC2.out.on hb)
      have q := Lib.hid (q.out.trans (hb.mono q.out.size))
      clear hb
      have d0 := D1.out.cell 0
      have d1 := D1.out.cell 1
      have d2 := D1.out.cell 2
      have d3 := D1.out.cell 3
      have d4 := D1.out.cell 4
      have d5 := D1.out.cell 5
      simp at d0 d1 d2 d3 d4 d5
      have dl := D1.out.lt
      go_wp2_with fail
      clear d0 d1 d2 d3 d4 d5 dl
      refine (qCheck _ _ _ _ _ _ lO lE _ (EB1.out.evs q.out) (EA1.out.evs q.out) R2.out).mono ?_
      rintro x z2 ⟨rfl, hb⟩
      have B := Lib.hid (B.out.on hb)
      have D1 := Lib.hid (D1.out.on hb)
      have P1 := Lib.hid (P1.out.on hb)
      have D2 := Lib.hid (D2.out.on hb)
      have P2 := Lib.hid (P2.out.on hb)
      have EE := Lib.hid (EE.out.on hb)
      have EO := Lib.hid (EO.out.on hb)
      have EA1 := Lib.hid (EA1.out.on hb)
      have EB1 := Lib.hid (EB1.out.on hb)
      have EC1 := Lib.hid (EC1.out.on hb)
      have EA2 := Lib.hid (EA2.out.on hb)
      have EB2 := Lib.hid (EB2.out.on hb)
      have EC2 := Lib.hid (EC2.out.on hb)
      have q := Lib.hid (q.out.trans (hb.mono q.out.size))
      clear hb
      go_wp2_with fail
      refine (lives_true _).mono ?_
      rintro x z3 ⟨rfl, hb⟩
      go_wp2_with fail
      go_ret
      exact ⟨rfl, q.out.trans (hb.mono q.out.size)⟩

end Go.Proofs.Ytfebldoplobkdaa
