/- The law QueuesAgain: the walk. -/
import Derived.Test.YtfebldoplobkdaaLawE
namespace Go.Proofs.Ytfebldoplobkdaa
open Go.ChangeShapes Go.WideShapes Go.ChangeAt Go.RowKit

set_option maxRecDepth 100000 in
set_option maxHeartbeats 4000000 in
theorem again_walk (to : ByteArray) (next : Int) (ev op : Value) (fails at_ : Int) (eo ee : List (List Value)) (w : World) (ho : Evs w op eo) (he : Evs w ev ee) (hto : to.size ≤ 9223372036854775807)
    (hn1 : -9223372036854775808 ≤ next) (hn2 : next ≤ 9223372036854775807) (hf1 : -9223372036854775808 ≤ fails) (hf2 : fails ≤ 9223372036854775807) (ha1 : -9223372036854775808 ≤ at_) (ha2 : at_ ≤ 9223372036854775807) (n now : Int) :
    Calls Try.prog 7 #[.agg #[.string to, .int .i64 next, ev, op, .int .i64 fails, .int .i64 at_], .int .i64 n, .int .i64 now] w fun x w' => x = .returned (.bool true) ∧ Below w.heap.size w w' := by
  have EE := Ev0.of he he.2
  have EO := Ev0.of ho ho.2
  have HV := fun (wx : World) (h : Below w.heap.size w wx) => qValid to next ev op fails at_ eo ee wx (ho.on h) (he.on h) hto hn1 hn2 hf1 hf2 ha1 ha2
  clear hto hn1 hn2 hf1 hf2 ha1 ha2 he ho
  obtain ⟨ea, ec, hv⟩ := EE.form
  obtain rfl : ev = .slice ea ee.length ec := hv
  obtain ⟨oa, oc, hv⟩ := EO.form
  obtain rfl : op = .slice oa eo.length oc := hv
  have ce1 := EE.cap
  have ce2 := EO.cap
  obtain ⟨cE1, cE2⟩ := ce1
  obtain ⟨cO1, cO2⟩ := ce2
  have EE := Lib.hid EE
  have EO := Lib.hid EO
  have q := Lib.hid (Below.refl w.heap.size w)
  go_enter Try.func7, Try.ntmps7
  go_wp2_with fail
  have hb : Below w.heap.size w (w.alloc (.cells #[.string to, .int .i64 next, (.slice ea ee.length ec), (.slice oa eo.length oc), .int .i64 fails, .int .i64 at_] 24)) := by repeat (first | exact Below.refl _ _ | refine Below.alloc ?_ (by first | (simp; done) | (simp; omega)) _)
  have Ba : Whole (w.alloc (.cells #[.string to, .int .i64 next, (.slice ea ee.length ec), (.slice oa eo.length oc), .int .i64 fails, .int .i64 at_] 24)) (w.heap.size) 24 #[.string to, .int .i64 next, (.slice ea ee.length ec), (.slice oa eo.length oc), .int .i64 fails, .int .i64 at_] := by
    have h0 := Whole.new w 24 #[.string to, .int .i64 next, (.slice ea ee.length ec), (.slice oa eo.length oc), .int .i64 fails, .int .i64 at_]
    simpa using h0
  have Ba := Lib.hid Ba
  have hb := Lib.hid hb
  have lww : w.heap.size ≤ w.heap.size := q.out.size
  have EE := Lib.hid (EE.out.on hb.out)
  have EO := Lib.hid (EO.out.on hb.out)
  have q := Lib.hid (q.out.trans (hb.out.mono q.out.size))
  have B := Ba
  obtain ⟨w1, hw⟩ : ∃ w1, w1 = (w.alloc (.cells #[.string to, .int .i64 next, (.slice ea ee.length ec), (.slice oa eo.length oc), .int .i64 fails, .int .i64 at_] 24)) := ⟨_, rfl⟩
  clear hb Ba
  rw [← hw] at B EE EO q ⊢
  clear hw
  refine (HV _ q.out).mono ?_
  rintro x w2 ⟨r, rfl, hr, hb⟩
  have B := Lib.hid (B.out.on hb)
  have EE := Lib.hid (EE.out.on hb)
  have EO := Lib.hid (EO.out.on hb)
  have q := Lib.hid (q.out.trans (hb.mono q.out.size))
  clear hb
  cases r with
  | false =>
    clear hr HV
    go_wp2_with fail
    refine (lives_true _).mono ?_
    rintro x w3 ⟨rfl, hb⟩
    go_wp2_with fail
    go_ret
    exact ⟨rfl, q.out.trans (hb.mono q.out.size)⟩
  | true =>
    obtain ⟨R, h1, h2⟩ := hr rfl
    clear hr HV
    by_cases hA : now < 0
    · clear R
      go_wp2_with fail
      refine (lives_true _).mono ?_
      rintro x y1 ⟨rfl, hb⟩
      go_wp2_with fail
      go_ret
      exact ⟨rfl, q.out.trans (hb.mono q.out.size)⟩
    by_cases hB : 1000000000 < now
    · clear R
      go_wp2_with fail
      refine (lives_true _).mono ?_
      rintro x y2 ⟨rfl, hb⟩
      go_wp2_with fail
      go_ret
      exact ⟨rfl, q.out.trans (hb.mono q.out.size)⟩
    by_cases hC : 1000000000000 ≤ fails
    · clear R
      have d0 := B.out.cell 0
      have d1 := B.out.cell 1
      have d2 := B.out.cell 2
      have d3 := B.out.cell 3
      have d4 := B.out.cell 4
      have d5 := B.out.cell 5
      simp at d0 d1 d2 d3 d4 d5
      have dl := B.out.lt
      go_wp2_with fail
      clear d0 d1 d2 d3 d4 d5 dl
      refine (lives_true _).mono ?_
      rintro x y3 ⟨rfl, hb⟩
      go_wp2_with fail
      go_ret
      exact ⟨rfl, q.out.trans (hb.mono q.out.size)⟩
    have OA := fun (wx : World) (hq : Below w.heap.size w wx) (g1 : Ev0 w wx _ eo) (g2 : Ev0 w wx _ ee) => qOpen0 to next (.slice ea ee.length ec) (.slice oa eo.length oc) fails at_ now eo ee w wx hq g1 g2 ⟨by omega, by omega⟩ ⟨R.n1, R.n2⟩
    have R2 := R.open_
    have hok := open_ok R (now := now) (by omega)
    have f0 := R.f1
    clear R
    generalize hkk : oK next at_ now eo ee = kk at OA hok
    generalize oN next eo ee = nN at OA R2
    generalize oE next eo ee = lE at OA R2
    generalize oO next eo ee = lO at OA R2 hok
    clear hkk
    have b1 := R2.n1
    have b2 := R2.n2
    have b3 := R2.lo
    have b4 := R2.ls
    have b5 := R2.s2
    clear R2
    have d0 := B.out.cell 0
    have d1 := B.out.cell 1
    have d2 := B.out.cell 2
    have d3 := B.out.cell 3
    have d4 := B.out.cell 4
    have d5 := B.out.cell 5
    simp at d0 d1 d2 d3 d4 d5
    have dl := B.out.lt
    go_wp2_with fail
    clear d0 d1 d2 d3 d4 d5 dl
    cases kk with
    | false =>
      clear hok b5
      refine (OA _ q.out EO.out EE.out).mono ?_
      rintro x x0 ⟨v1, v2, pc, rfl, EA1, EB1, hp, hn, hb⟩
      have hpc := hn (by trivial)
      clear hp hn
      unfold pk0 at hpc
      subst hpc
      obtain ⟨a10, c10, hv⟩ := EA1.form
      obtain rfl : v1 = .slice a10 lE.length c10 := hv
      obtain ⟨a11, c11, hv⟩ := EB1.form
      obtain rfl : v2 = .slice a11 lO.length c11 := hv
      have B := Lib.hid (B.out.on hb)
      have EE := Lib.hid (EE.out.on hb)
      have EO := Lib.hid (EO.out.on hb)
      have q := Lib.hid (q.out.trans (hb.mono q.out.size))
      have EA1 := Lib.hid EA1
      have EB1 := Lib.hid EB1
      clear hb
      have hb : Below x0.heap.size x0 ((x0.alloc (.cells #[.string ⟨#[]⟩, .int .i64 0, .slice none 0 0, .slice none 0 0, .int .i64 0, .int .i64 0] 24)).alloc (.cells #[.string ⟨#[]⟩, .string ⟨#[]⟩, .int .i64 0, .int .i64 0, .string ⟨#[]⟩, .slice none 0 0, .slice none 0 0, .slice none 0 0, .string ⟨#[]⟩, .int .i64 0] 49)) := by repeat (first | exact Below.refl _ _ | refine Below.alloc ?_ (by first | (simp; done) | (simp; omega)) _)
      have D1a : Whole ((x0.alloc (.cells #[.string ⟨#[]⟩, .int .i64 0, .slice none 0 0, .slice none 0 0, .int .i64 0, .int .i64 0] 24)).alloc (.cells #[.string ⟨#[]⟩, .string ⟨#[]⟩, .int .i64 0, .int .i64 0, .string ⟨#[]⟩, .slice none 0 0, .slice none 0 0, .slice none 0 0, .string ⟨#[]⟩, .int .i64 0] 49)) (x0.heap.size) 24 #[.string ⟨#[]⟩, .int .i64 0, .slice none 0 0, .slice none 0 0, .int .i64 0, .int .i64 0] := by
        have h0 := Whole.new x0 24 #[.string ⟨#[]⟩, .int .i64 0, .slice none 0 0, .slice none 0 0, .int .i64 0, .int .i64 0]
        have h0 := h0.on (below_new (o := .cells #[.string ⟨#[]⟩, .string ⟨#[]⟩, .int .i64 0, .int .i64 0, .string ⟨#[]⟩, .slice none 0 0, .slice none 0 0, .slice none 0 0, .string ⟨#[]⟩, .int .i64 0] 49))
        simpa using h0
      have D1a := Lib.hid D1a
      have P1a : Whole ((x0.alloc (.cells #[.string ⟨#[]⟩, .int .i64 0, .slice none 0 0, .slice none 0 0, .int .i64 0, .int .i64 0] 24)).alloc (.cells #[.string ⟨#[]⟩, .string ⟨#[]⟩, .int .i64 0, .int .i64 0, .string ⟨#[]⟩, .slice none 0 0, .slice none 0 0, .slice none 0 0, .string ⟨#[]⟩, .int .i64 0] 49)) (x0.heap.size + 1) 49 #[.string ⟨#[]⟩, .string ⟨#[]⟩, .int .i64 0, .int .i64 0, .string ⟨#[]⟩, .slice none 0 0, .slice none 0 0, .slice none 0 0, .string ⟨#[]⟩, .int .i64 0] := by
        have h0 := Whole.new (x0.alloc (.cells #[.string ⟨#[]⟩, .int .i64 0, .slice none 0 0, .slice none 0 0, .int .i64 0, .int .i64 0] 24)) 49 #[.string ⟨#[]⟩, .string ⟨#[]⟩, .int .i64 0, .int .i64 0, .string ⟨#[]⟩, .slice none 0 0, .slice none 0 0, .slice none 0 0, .string ⟨#[]⟩, .int .i64 0]
        simpa using h0
      have P1a := Lib.hid P1a
      have hb := Lib.hid hb
      have lwx0 : w.heap.size ≤ x0.heap.size := q.out.size
      have xBx0 : (w.heap.size) < x0.heap.size := B.out.lt
      go_wp2_with (first | ((with_reducible refine list_store24 _ _ _ #[.string to, .int .i64 nN, (.slice a10 lE.length c10), (.slice a11 lO.length c11), .int .i64 fails, .int .i64 at_] D1a.out rfl ?_ ?_ ?_ ?_ ?_ ?_ ?_); all_goals try rfl; all_goals try (simp [Value.oneCell']; done)))
      case refine_4 => simp [Value.oneCell']
      intro x1 z hg
      have EE := Lib.hid ((EE.out.on hb.out).off D1a.out (by simp) hg)
      have EO := Lib.hid ((EO.out.on hb.out).off D1a.out (by simp) hg)
      have EA1 := Lib.hid ((EA1.out.on hb.out).off D1a.out (by simp) hg)
      have EB1 := Lib.hid ((EB1.out.on hb.out).off D1a.out (by simp) hg)
      have B := Lib.hid ((B.out.on hb.out).off hg (by intro e; injection e with e; omega))
      have P1 := Lib.hid (P1a.out.off hg (by intro e; injection e with e; omega))
      have q := Lib.hid (q.out.trans (hb.out.mono q.out.size))
      have q := Lib.hid (below_row q.out hg (by omega) q.out.size)
      have D1 := Lib.hid z
      clear z hg hb D1a P1a
      go_wp2_with (first | ((with_reducible refine list_store49 _ _ _ #[.string ⟨#[]⟩, .string ⟨#[]⟩, .int .i64 0, .int .i64 0, .string ⟨#[]⟩, .slice none 0 0, .slice none 0 0, .slice none 0 0, .string ⟨#[]⟩, .int .i64 0] P1.out rfl ?_ ?_ ?_ ?_ ?_ ?_ ?_); all_goals try rfl; all_goals try (simp [Value.oneCell']; done)))
      case refine_4 => simp [Value.oneCell']
      intro x2 z hg
      have EE := Lib.hid (EE.out.off P1.out (by simp) hg)
      have EO := Lib.hid (EO.out.off P1.out (by simp) hg)
      have EA1 := Lib.hid (EA1.out.off P1.out (by simp) hg)
      have EB1 := Lib.hid (EB1.out.off P1.out (by simp) hg)
      have B := Lib.hid (B.out.off hg (by intro e; injection e with e; omega))
      have D1 := Lib.hid (D1.out.off hg (by intro e; injection e with e; omega))
      have q := Lib.hid (below_row q.out hg (by omega) q.out.size)
      have P1 := Lib.hid z
      clear z hg
      go_wp2_with fail
      refine (lives_true _).mono ?_
      rintro x x3 ⟨rfl, hb⟩
      go_wp2_with fail
      go_ret
      exact ⟨rfl, q.out.trans (hb.mono q.out.size)⟩
    | true =>
      obtain ⟨hl0, hat⟩ := hok rfl
      have b6 := b5 hl0
      clear hok b5
      refine (OA _ q.out EO.out EE.out).mono ?_
      rintro x x0 ⟨v1, v2, pc, rfl, EA1, EB1, hp, hn, hb⟩
      obtain ⟨u, hpc, EC1⟩ := hp (by trivial)
      clear hp hn OA
      unfold pkc at hpc
      subst hpc
      obtain ⟨a10, c10, hv⟩ := EA1.form
      obtain rfl : v1 = .slice a10 lE.length c10 := hv
      obtain ⟨a11, c11, hv⟩ := EB1.form
      obtain rfl : v2 = .slice a11 lO.length c11 := hv
      obtain ⟨a12, c12, hv⟩ := EC1.form
      obtain rfl : u = .slice a12 lO.length c12 := hv
      have B := Lib.hid (B.out.on hb)
      have EE := Lib.hid (EE.out.on hb)
      have EO := Lib.hid (EO.out.on hb)
      have q := Lib.hid (q.out.trans (hb.mono q.out.size))
      have EA1 := Lib.hid EA1
      have EB1 := Lib.hid EB1
      have EC1 := Lib.hid EC1
      clear hb
      have hb : Below x0.heap.size x0 ((x0.alloc (.cells #[.string ⟨#[]⟩, .int .i64 0, .slice none 0 0, .slice none 0 0, .int .i64 0, .int .i64 0] 24)).alloc (.cells #[.string ⟨#[]⟩, .string ⟨#[]⟩, .int .i64 0, .int .i64 0, .string ⟨#[]⟩, .slice none 0 0, .slice none 0 0, .slice none 0 0, .string ⟨#[]⟩, .int .i64 0] 49)) := by repeat (first | exact Below.refl _ _ | refine Below.alloc ?_ (by first | (simp; done) | (simp; omega)) _)
      have D1a : Whole ((x0.alloc (.cells #[.string ⟨#[]⟩, .int .i64 0, .slice none 0 0, .slice none 0 0, .int .i64 0, .int .i64 0] 24)).alloc (.cells #[.string ⟨#[]⟩, .string ⟨#[]⟩, .int .i64 0, .int .i64 0, .string ⟨#[]⟩, .slice none 0 0, .slice none 0 0, .slice none 0 0, .string ⟨#[]⟩, .int .i64 0] 49)) (x0.heap.size) 24 #[.string ⟨#[]⟩, .int .i64 0, .slice none 0 0, .slice none 0 0, .int .i64 0, .int .i64 0] := by
        have h0 := Whole.new x0 24 #[.string ⟨#[]⟩, .int .i64 0, .slice none 0 0, .slice none 0 0, .int .i64 0, .int .i64 0]
        have h0 := h0.on (below_new (o := .cells #[.string ⟨#[]⟩, .string ⟨#[]⟩, .int .i64 0, .int .i64 0, .string ⟨#[]⟩, .slice none 0 0, .slice none 0 0, .slice none 0 0, .string ⟨#[]⟩, .int .i64 0] 49))
        simpa using h0
      have D1a := Lib.hid D1a
      have P1a : Whole ((x0.alloc (.cells #[.string ⟨#[]⟩, .int .i64 0, .slice none 0 0, .slice none 0 0, .int .i64 0, .int .i64 0] 24)).alloc (.cells #[.string ⟨#[]⟩, .string ⟨#[]⟩, .int .i64 0, .int .i64 0, .string ⟨#[]⟩, .slice none 0 0, .slice none 0 0, .slice none 0 0, .string ⟨#[]⟩, .int .i64 0] 49)) (x0.heap.size + 1) 49 #[.string ⟨#[]⟩, .string ⟨#[]⟩, .int .i64 0, .int .i64 0, .string ⟨#[]⟩, .slice none 0 0, .slice none 0 0, .slice none 0 0, .string ⟨#[]⟩, .int .i64 0] := by
        have h0 := Whole.new (x0.alloc (.cells #[.string ⟨#[]⟩, .int .i64 0, .slice none 0 0, .slice none 0 0, .int .i64 0, .int .i64 0] 24)) 49 #[.string ⟨#[]⟩, .string ⟨#[]⟩, .int .i64 0, .int .i64 0, .string ⟨#[]⟩, .slice none 0 0, .slice none 0 0, .slice none 0 0, .string ⟨#[]⟩, .int .i64 0]
        simpa using h0
      have P1a := Lib.hid P1a
      have hb := Lib.hid hb
      have lwx0 : w.heap.size ≤ x0.heap.size := q.out.size
      have xBx0 : (w.heap.size) < x0.heap.size := B.out.lt
      go_wp2_with (first | ((with_reducible refine list_store24 _ _ _ #[.string to, .int .i64 nN, (.slice a10 lE.length c10), (.slice a11 lO.length c11), .int .i64 fails, .int .i64 at_] D1a.out rfl ?_ ?_ ?_ ?_ ?_ ?_ ?_); all_goals try rfl; all_goals try (simp [Value.oneCell']; done)))
      case refine_4 => simp [Value.oneCell']
      intro x1 z hg
      have EE := Lib.hid ((EE.out.on hb.out).off D1a.out (by simp) hg)
      have EO := Lib.hid ((EO.out.on hb.out).off D1a.out (by simp) hg)
      have EA1 := Lib.hid ((EA1.out.on hb.out).off D1a.out (by simp) hg)
      have EB1 := Lib.hid ((EB1.out.on hb.out).off D1a.out (by simp) hg)
      have EC1 := Lib.hid ((EC1.out.on hb.out).off D1a.out (by simp) hg)
      have B := Lib.hid ((B.out.on hb.out).off hg (by intro e; injection e with e; omega))
      have P1 := Lib.hid (P1a.out.off hg (by intro e; injection e with e; omega))
      have q := Lib.hid (q.out.trans (hb.out.mono q.out.size))
      have q := Lib.hid (below_row q.out hg (by omega) q.out.size)
      have D1 := Lib.hid z
      clear z hg hb D1a P1a
      go_wp2_with (first | ((with_reducible refine list_store49 _ _ _ #[.string ⟨#[]⟩, .string to, .int .i64 1, .int .i64 (nN - 1), .string ⟨#[]⟩, (.slice a12 lO.length c12), .slice none 0 0, .slice none 0 0, .string ⟨#[]⟩, .int .i64 0] P1.out rfl ?_ ?_ ?_ ?_ ?_ ?_ ?_); all_goals try rfl; all_goals try (simp [Value.oneCell']; done)))
      case refine_4 => simp [Value.oneCell']
      intro x2 z hg
      have EE := Lib.hid (EE.out.off P1.out (by simp) hg)
      have EO := Lib.hid (EO.out.off P1.out (by simp) hg)
      have EA1 := Lib.hid (EA1.out.off P1.out (by simp) hg)
      have EB1 := Lib.hid (EB1.out.off P1.out (by simp) hg)
      have EC1 := Lib.hid (EC1.out.off P1.out (by simp) hg)
      have B := Lib.hid (B.out.off hg (by intro e; injection e with e; omega))
      have D1 := Lib.hid (D1.out.off hg (by intro e; injection e with e; omega))
      have q := Lib.hid (below_row q.out hg (by omega) q.out.size)
      have P1 := Lib.hid z
      clear z hg
      clear EE EO B
      obtain ⟨m, hm, hmn⟩ : ∃ m : Int, (if n = nN - 1 then bits .xor .i64 n 1 else n) = m ∧ m ≠ nN - 1 := by
        refine ⟨_, rfl, ?_⟩
        split
        · rename_i e; subst e; exact xor_ne _ (by omega) (by omega)
        · assumption
      have p0 := P1.out.cell 0
      have p1 := P1.out.cell 1
      have p2 := P1.out.cell 2
      have p3 := P1.out.cell 3
      have p4 := P1.out.cell 4
      have p5 := P1.out.cell 5
      have p6 := P1.out.cell 6
      have p7 := P1.out.cell 7
      have p8 := P1.out.cell 8
      have p9 := P1.out.cell 9
      simp at p0 p1 p2 p3 p4 p5 p6 p7 p8 p9
      have pl := P1.out.lt
      have d0 := D1.out.cell 0
      have d1 := D1.out.cell 1
      have d2 := D1.out.cell 2
      have d3 := D1.out.cell 3
      have d4 := D1.out.cell 4
      have d5 := D1.out.cell 5
      simp at d0 d1 d2 d3 d4 d5
      have dl := D1.out.lt
      by_cases hnn : n = nN - 1
      · rw [if_pos hnn] at hm
        subst hnn
        have hne : ¬ (0 < lO.length ∧ m = nN - 1) := fun e => hmn e.2
        clear hmn
        go_wp2_with fail
        clear p0 p1 p2 p3 p4 p5 p6 p7 p8 p9 pl d0 d1 d2 d3 d4 d5 dl
        refine (qAckNo to nN _ _ fails at_ m lO lE _ (EB1.out.evs q.out) (EA1.out.evs q.out) ⟨by omega, by omega⟩ hne).mono ?_
        rintro x x3 ⟨rfl, hb⟩
        have D1 := Lib.hid (D1.out.on hb)
        have P1 := Lib.hid (P1.out.on hb)
        have EA1 := Lib.hid (EA1.out.on hb)
        have EB1 := Lib.hid (EB1.out.on hb)
        have EC1 := Lib.hid (EC1.out.on hb)
        have q := Lib.hid (q.out.trans (hb.mono q.out.size))
        clear hb
        clear hne
        go_wp2_with fail
        refine (qAgain0 to nN _ _ fails at_ now lO lE w _ q.out EB1.out EA1.out ⟨by omega, by omega⟩ ⟨by omega, by omega⟩ hl0 hat).mono ?_
        rintro x x4 ⟨v1, v2, u, rfl, EA2, EB2, EC2, hb⟩
        obtain ⟨a20, c20, hv⟩ := EA2.form
        obtain rfl : v1 = .slice a20 lE.length c20 := hv
        obtain ⟨a21, c21, hv⟩ := EB2.form
        obtain rfl : v2 = .slice a21 lO.length c21 := hv
        obtain ⟨a22, c22, hv⟩ := EC2.form
        obtain rfl : u = .slice a22 lO.length c22 := hv
        have D1 := Lib.hid (D1.out.on hb)
        have P1 := Lib.hid (P1.out.on hb)
        have EA1 := Lib.hid (EA1.out.on hb)
        have EB1 := Lib.hid (EB1.out.on hb)
        have EC1 := Lib.hid (EC1.out.on hb)
        have q := Lib.hid (q.out.trans (hb.mono q.out.size))
        have EA2 := Lib.hid EA2
        have EB2 := Lib.hid EB2
        have EC2 := Lib.hid EC2
        clear hb
        have hb : Below x4.heap.size x4 ((x4.alloc (.cells #[.string ⟨#[]⟩, .int .i64 0, .slice none 0 0, .slice none 0 0, .int .i64 0, .int .i64 0] 24)).alloc (.cells #[.string ⟨#[]⟩, .string ⟨#[]⟩, .int .i64 0, .int .i64 0, .string ⟨#[]⟩, .slice none 0 0, .slice none 0 0, .slice none 0 0, .string ⟨#[]⟩, .int .i64 0] 49)) := by repeat (first | exact Below.refl _ _ | refine Below.alloc ?_ (by first | (simp; done) | (simp; omega)) _)
        have D2a : Whole ((x4.alloc (.cells #[.string ⟨#[]⟩, .int .i64 0, .slice none 0 0, .slice none 0 0, .int .i64 0, .int .i64 0] 24)).alloc (.cells #[.string ⟨#[]⟩, .string ⟨#[]⟩, .int .i64 0, .int .i64 0, .string ⟨#[]⟩, .slice none 0 0, .slice none 0 0, .slice none 0 0, .string ⟨#[]⟩, .int .i64 0] 49)) (x4.heap.size) 24 #[.string ⟨#[]⟩, .int .i64 0, .slice none 0 0, .slice none 0 0, .int .i64 0, .int .i64 0] := by
          have h0 := Whole.new x4 24 #[.string ⟨#[]⟩, .int .i64 0, .slice none 0 0, .slice none 0 0, .int .i64 0, .int .i64 0]
          have h0 := h0.on (below_new (o := .cells #[.string ⟨#[]⟩, .string ⟨#[]⟩, .int .i64 0, .int .i64 0, .string ⟨#[]⟩, .slice none 0 0, .slice none 0 0, .slice none 0 0, .string ⟨#[]⟩, .int .i64 0] 49))
          simpa using h0
        have D2a := Lib.hid D2a
        have P2a : Whole ((x4.alloc (.cells #[.string ⟨#[]⟩, .int .i64 0, .slice none 0 0, .slice none 0 0, .int .i64 0, .int .i64 0] 24)).alloc (.cells #[.string ⟨#[]⟩, .string ⟨#[]⟩, .int .i64 0, .int .i64 0, .string ⟨#[]⟩, .slice none 0 0, .slice none 0 0, .slice none 0 0, .string ⟨#[]⟩, .int .i64 0] 49)) (x4.heap.size + 1) 49 #[.string ⟨#[]⟩, .string ⟨#[]⟩, .int .i64 0, .int .i64 0, .string ⟨#[]⟩, .slice none 0 0, .slice none 0 0, .slice none 0 0, .string ⟨#[]⟩, .int .i64 0] := by
          have h0 := Whole.new (x4.alloc (.cells #[.string ⟨#[]⟩, .int .i64 0, .slice none 0 0, .slice none 0 0, .int .i64 0, .int .i64 0] 24)) 49 #[.string ⟨#[]⟩, .string ⟨#[]⟩, .int .i64 0, .int .i64 0, .string ⟨#[]⟩, .slice none 0 0, .slice none 0 0, .slice none 0 0, .string ⟨#[]⟩, .int .i64 0]
          simpa using h0
        have P2a := Lib.hid P2a
        have hb := Lib.hid hb
        have lwx4 : w.heap.size ≤ x4.heap.size := q.out.size
        have xD1x4 : (x0.heap.size) < x4.heap.size := D1.out.lt
        have xP1x4 : (x0.heap.size + 1) < x4.heap.size := P1.out.lt
        go_wp2_with (first | ((with_reducible refine list_store24 _ _ _ #[.string to, .int .i64 nN, (.slice a20 lE.length c20), (.slice a21 lO.length c21), .int .i64 fails, .int .i64 at_] D2a.out rfl ?_ ?_ ?_ ?_ ?_ ?_ ?_); all_goals try rfl; all_goals try (simp [Value.oneCell']; done)))
        case refine_4 => simp [Value.oneCell']
        intro x5 z hg
        have EA1 := Lib.hid ((EA1.out.on hb.out).off D2a.out (by simp) hg)
        have EB1 := Lib.hid ((EB1.out.on hb.out).off D2a.out (by simp) hg)
        have EC1 := Lib.hid ((EC1.out.on hb.out).off D2a.out (by simp) hg)
        have EA2 := Lib.hid ((EA2.out.on hb.out).off D2a.out (by simp) hg)
        have EB2 := Lib.hid ((EB2.out.on hb.out).off D2a.out (by simp) hg)
        have EC2 := Lib.hid ((EC2.out.on hb.out).off D2a.out (by simp) hg)
        have D1 := Lib.hid ((D1.out.on hb.out).off hg (by intro e; injection e with e; omega))
        have P1 := Lib.hid ((P1.out.on hb.out).off hg (by intro e; injection e with e; omega))
        have P2 := Lib.hid (P2a.out.off hg (by intro e; injection e with e; omega))
        have q := Lib.hid (q.out.trans (hb.out.mono q.out.size))
        have q := Lib.hid (below_row q.out hg (by omega) q.out.size)
        have D2 := Lib.hid z
        clear z hg hb D2a P2a
        go_wp2_with (first | ((with_reducible refine list_store49 _ _ _ #[.string ⟨#[]⟩, .string to, .int .i64 1, .int .i64 (nN - 1), .string ⟨#[]⟩, (.slice a22 lO.length c22), .slice none 0 0, .slice none 0 0, .string ⟨#[]⟩, .int .i64 0] P2.out rfl ?_ ?_ ?_ ?_ ?_ ?_ ?_); all_goals try rfl; all_goals try (simp [Value.oneCell']; done)))
        case refine_4 => simp [Value.oneCell']
        intro x6 z hg
        have EA1 := Lib.hid (EA1.out.off P2.out (by simp) hg)
        have EB1 := Lib.hid (EB1.out.off P2.out (by simp) hg)
        have EC1 := Lib.hid (EC1.out.off P2.out (by simp) hg)
        have EA2 := Lib.hid (EA2.out.off P2.out (by simp) hg)
        have EB2 := Lib.hid (EB2.out.off P2.out (by simp) hg)
        have EC2 := Lib.hid (EC2.out.off P2.out (by simp) hg)
        have D1 := Lib.hid (D1.out.off hg (by intro e; injection e with e; omega))
        have P1 := Lib.hid (P1.out.off hg (by intro e; injection e with e; omega))
        have D2 := Lib.hid (D2.out.off hg (by intro e; injection e with e; omega))
        have q := Lib.hid (below_row q.out hg (by omega) q.out.size)
        have P2 := Lib.hid z
        clear z hg
        have p0 := P1.out.cell 0
        have p1 := P1.out.cell 1
        have p2 := P1.out.cell 2
        have p3 := P1.out.cell 3
        have p4 := P1.out.cell 4
        have p5 := P1.out.cell 5
        have p6 := P1.out.cell 6
        have p7 := P1.out.cell 7
        have p8 := P1.out.cell 8
        have p9 := P1.out.cell 9
        simp at p0 p1 p2 p3 p4 p5 p6 p7 p8 p9
        have pl := P1.out.lt
        have r0 := P2.out.cell 0
        have r1 := P2.out.cell 1
        have r2 := P2.out.cell 2
        have r3 := P2.out.cell 3
        have r4 := P2.out.cell 4
        have r5 := P2.out.cell 5
        have r6 := P2.out.cell 6
        have r7 := P2.out.cell 7
        have r8 := P2.out.cell 8
        have r9 := P2.out.cell 9
        simp at r0 r1 r2 r3 r4 r5 r6 r7 r8 r9
        have rl := P2.out.lt
        go_wp2_with fail
        clear p0 r0 p1 r1 p2 r2 p3 r3 p4 r4 p5 r5 p6 r6 p7 r7 p8 r8 p9 r9 pl rl
        refine (samePk _ _ _ _ lO _ (EC2.out.evs q.out) (EC1.out.evs q.out)).mono ?_
        rintro x x7 ⟨rfl, hb⟩
        have D1 := Lib.hid (D1.out.on hb)
        have P1 := Lib.hid (P1.out.on hb)
        have D2 := Lib.hid (D2.out.on hb)
        have P2 := Lib.hid (P2.out.on hb)
        have EA1 := Lib.hid (EA1.out.on hb)
        have EB1 := Lib.hid (EB1.out.on hb)
        have EC1 := Lib.hid (EC1.out.on hb)
        have EA2 := Lib.hid (EA2.out.on hb)
        have EB2 := Lib.hid (EB2.out.on hb)
        have EC2 := Lib.hid (EC2.out.on hb)
        have q := Lib.hid (q.out.trans (hb.mono q.out.size))
        clear hb
        have d0 := D1.out.cell 0
        have d1 := D1.out.cell 1
        have d2 := D1.out.cell 2
        have d3 := D1.out.cell 3
        have d4 := D1.out.cell 4
        have d5 := D1.out.cell 5
        simp at d0 d1 d2 d3 d4 d5
        have dl := D1.out.lt
        have e0 := D2.out.cell 0
        have e1 := D2.out.cell 1
        have e2 := D2.out.cell 2
        have e3 := D2.out.cell 3
        have e4 := D2.out.cell 4
        have e5 := D2.out.cell 5
        simp at e0 e1 e2 e3 e4 e5
        have el := D2.out.lt
        go_wp2_with fail
        clear d0 d1 d2 d3 d4 d5 e0 e1 e2 e3 e4 e5 dl el
        refine (qSame _ _ _ _ _ _ _ _ lO lE _ (EB1.out.evs q.out) (EA1.out.evs q.out) (EB2.out.evs q.out) (EA2.out.evs q.out)).mono ?_
        rintro x x8 ⟨rfl, hb⟩
        have D1 := Lib.hid (D1.out.on hb)
        have P1 := Lib.hid (P1.out.on hb)
        have D2 := Lib.hid (D2.out.on hb)
        have P2 := Lib.hid (P2.out.on hb)
        have EA1 := Lib.hid (EA1.out.on hb)
        have EB1 := Lib.hid (EB1.out.on hb)
        have EC1 := Lib.hid (EC1.out.on hb)
        have EA2 := Lib.hid (EA2.out.on hb)
        have EB2 := Lib.hid (EB2.out.on hb)
        have EC2 := Lib.hid (EC2.out.on hb)
        have q := Lib.hid (q.out.trans (hb.mono q.out.size))
        clear hb
        clear D2 P2 EA2 EB2 EC2
        have d0 := D1.out.cell 0
        have d1 := D1.out.cell 1
        have d2 := D1.out.cell 2
        have d3 := D1.out.cell 3
        have d4 := D1.out.cell 4
        have d5 := D1.out.cell 5
        simp at d0 d1 d2 d3 d4 d5
        have dl := D1.out.lt
        go_wp2_with fail
        clear d0 d1 d2 d3 d4 d5 dl
        refine (qFailYes to nN _ _ fails at_ now lO lE _ (EB1.out.evs q.out) (EA1.out.evs q.out) hl0 f0 (by omega)).mono ?_
        rintro x x9 ⟨rfl, hb⟩
        have D1 := Lib.hid (D1.out.on hb)
        have P1 := Lib.hid (P1.out.on hb)
        have EA1 := Lib.hid (EA1.out.on hb)
        have EB1 := Lib.hid (EB1.out.on hb)
        have EC1 := Lib.hid (EC1.out.on hb)
        have q := Lib.hid (q.out.trans (hb.mono q.out.size))
        clear hb
        have ew := waitOf_b fails
        rw [addC_small now fails (by omega) (by omega)]
        generalize waitOf fails = wt at *
        go_wp2_with fail
        have hb : Below x9.heap.size x9 (x9.alloc (.cells #[.string to, .int .i64 nN, (.slice a10 lE.length c10), (.slice a11 lO.length c11), .int .i64 (fails + 1), .int .i64 (now + wt)] 24)) := by repeat (first | exact Below.refl _ _ | refine Below.alloc ?_ (by first | (simp; done) | (simp; omega)) _)
        have Ya : Whole (x9.alloc (.cells #[.string to, .int .i64 nN, (.slice a10 lE.length c10), (.slice a11 lO.length c11), .int .i64 (fails + 1), .int .i64 (now + wt)] 24)) (x9.heap.size) 24 #[.string to, .int .i64 nN, (.slice a10 lE.length c10), (.slice a11 lO.length c11), .int .i64 (fails + 1), .int .i64 (now + wt)] := by
          have h0 := Whole.new x9 24 #[.string to, .int .i64 nN, (.slice a10 lE.length c10), (.slice a11 lO.length c11), .int .i64 (fails + 1), .int .i64 (now + wt)]
          simpa using h0
        have Ya := Lib.hid Ya
        have hb := Lib.hid hb
        have lwx9 : w.heap.size ≤ x9.heap.size := q.out.size
        have xD1x9 : (x0.heap.size) < x9.heap.size := D1.out.lt
        have xP1x9 : (x0.heap.size + 1) < x9.heap.size := P1.out.lt
        have D1 := Lib.hid (D1.out.on hb.out)
        have P1 := Lib.hid (P1.out.on hb.out)
        have EA1 := Lib.hid (EA1.out.on hb.out)
        have EB1 := Lib.hid (EB1.out.on hb.out)
        have EC1 := Lib.hid (EC1.out.on hb.out)
        have q := Lib.hid (q.out.trans (hb.out.mono q.out.size))
        have Y := Ya
        obtain ⟨x10, hw⟩ : ∃ x10, x10 = (x9.alloc (.cells #[.string to, .int .i64 nN, (.slice a10 lE.length c10), (.slice a11 lO.length c11), .int .i64 (fails + 1), .int .i64 (now + wt)] 24)) := ⟨_, rfl⟩
        clear hb Ya
        rw [← hw] at D1 P1 Y EA1 EB1 EC1 q ⊢
        clear hw
        refine (qLate0 to nN _ _ (fails + 1) (now + wt) (now + 999) lO lE w _ q.out EB1.out EA1.out ⟨by omega, by omega⟩ ⟨by omega, by omega⟩ hl0 (by omega)).mono ?_
        rintro x x11 ⟨v1, v2, rfl, EA3, EB3, hb⟩
        obtain ⟨a30, c30, hv⟩ := EA3.form
        obtain rfl : v1 = .slice a30 lE.length c30 := hv
        obtain ⟨a31, c31, hv⟩ := EB3.form
        obtain rfl : v2 = .slice a31 lO.length c31 := hv
        have D1 := Lib.hid (D1.out.on hb)
        have P1 := Lib.hid (P1.out.on hb)
        have Y := Lib.hid (Y.out.on hb)
        have EA1 := Lib.hid (EA1.out.on hb)
        have EB1 := Lib.hid (EB1.out.on hb)
        have EC1 := Lib.hid (EC1.out.on hb)
        have q := Lib.hid (q.out.trans (hb.mono q.out.size))
        have EA3 := Lib.hid EA3
        have EB3 := Lib.hid EB3
        clear hb
        have hb : Below x11.heap.size x11 ((x11.alloc (.cells #[.string ⟨#[]⟩, .int .i64 0, .slice none 0 0, .slice none 0 0, .int .i64 0, .int .i64 0] 24)).alloc (.cells #[.string ⟨#[]⟩, .string ⟨#[]⟩, .int .i64 0, .int .i64 0, .string ⟨#[]⟩, .slice none 0 0, .slice none 0 0, .slice none 0 0, .string ⟨#[]⟩, .int .i64 0] 49)) := by repeat (first | exact Below.refl _ _ | refine Below.alloc ?_ (by first | (simp; done) | (simp; omega)) _)
        have D3a : Whole ((x11.alloc (.cells #[.string ⟨#[]⟩, .int .i64 0, .slice none 0 0, .slice none 0 0, .int .i64 0, .int .i64 0] 24)).alloc (.cells #[.string ⟨#[]⟩, .string ⟨#[]⟩, .int .i64 0, .int .i64 0, .string ⟨#[]⟩, .slice none 0 0, .slice none 0 0, .slice none 0 0, .string ⟨#[]⟩, .int .i64 0] 49)) (x11.heap.size) 24 #[.string ⟨#[]⟩, .int .i64 0, .slice none 0 0, .slice none 0 0, .int .i64 0, .int .i64 0] := by
          have h0 := Whole.new x11 24 #[.string ⟨#[]⟩, .int .i64 0, .slice none 0 0, .slice none 0 0, .int .i64 0, .int .i64 0]
          have h0 := h0.on (below_new (o := .cells #[.string ⟨#[]⟩, .string ⟨#[]⟩, .int .i64 0, .int .i64 0, .string ⟨#[]⟩, .slice none 0 0, .slice none 0 0, .slice none 0 0, .string ⟨#[]⟩, .int .i64 0] 49))
          simpa using h0
        have D3a := Lib.hid D3a
        have P3a : Whole ((x11.alloc (.cells #[.string ⟨#[]⟩, .int .i64 0, .slice none 0 0, .slice none 0 0, .int .i64 0, .int .i64 0] 24)).alloc (.cells #[.string ⟨#[]⟩, .string ⟨#[]⟩, .int .i64 0, .int .i64 0, .string ⟨#[]⟩, .slice none 0 0, .slice none 0 0, .slice none 0 0, .string ⟨#[]⟩, .int .i64 0] 49)) (x11.heap.size + 1) 49 #[.string ⟨#[]⟩, .string ⟨#[]⟩, .int .i64 0, .int .i64 0, .string ⟨#[]⟩, .slice none 0 0, .slice none 0 0, .slice none 0 0, .string ⟨#[]⟩, .int .i64 0] := by
          have h0 := Whole.new (x11.alloc (.cells #[.string ⟨#[]⟩, .int .i64 0, .slice none 0 0, .slice none 0 0, .int .i64 0, .int .i64 0] 24)) 49 #[.string ⟨#[]⟩, .string ⟨#[]⟩, .int .i64 0, .int .i64 0, .string ⟨#[]⟩, .slice none 0 0, .slice none 0 0, .slice none 0 0, .string ⟨#[]⟩, .int .i64 0]
          simpa using h0
        have P3a := Lib.hid P3a
        have hb := Lib.hid hb
        have lwx11 : w.heap.size ≤ x11.heap.size := q.out.size
        have xD1x11 : (x0.heap.size) < x11.heap.size := D1.out.lt
        have xP1x11 : (x0.heap.size + 1) < x11.heap.size := P1.out.lt
        have xYx11 : (x9.heap.size) < x11.heap.size := Y.out.lt
        go_wp2_with (first | ((with_reducible refine list_store24 _ _ _ #[.string to, .int .i64 nN, (.slice a30 lE.length c30), (.slice a31 lO.length c31), .int .i64 (fails + 1), .int .i64 (now + wt)] D3a.out rfl ?_ ?_ ?_ ?_ ?_ ?_ ?_); all_goals try rfl; all_goals try (simp [Value.oneCell']; done)))
        case refine_4 => simp [Value.oneCell']
        intro x12 z hg
        have EA1 := Lib.hid ((EA1.out.on hb.out).off D3a.out (by simp) hg)
        have EB1 := Lib.hid ((EB1.out.on hb.out).off D3a.out (by simp) hg)
        have EC1 := Lib.hid ((EC1.out.on hb.out).off D3a.out (by simp) hg)
        have EA3 := Lib.hid ((EA3.out.on hb.out).off D3a.out (by simp) hg)
        have EB3 := Lib.hid ((EB3.out.on hb.out).off D3a.out (by simp) hg)
        have D1 := Lib.hid ((D1.out.on hb.out).off hg (by intro e; injection e with e; omega))
        have P1 := Lib.hid ((P1.out.on hb.out).off hg (by intro e; injection e with e; omega))
        have Y := Lib.hid ((Y.out.on hb.out).off hg (by intro e; injection e with e; omega))
        have P3 := Lib.hid (P3a.out.off hg (by intro e; injection e with e; omega))
        have q := Lib.hid (q.out.trans (hb.out.mono q.out.size))
        have q := Lib.hid (below_row q.out hg (by omega) q.out.size)
        have D3 := Lib.hid z
        clear z hg hb D3a P3a
        go_wp2_with (first | ((with_reducible refine list_store49 _ _ _ #[.string ⟨#[]⟩, .string ⟨#[]⟩, .int .i64 0, .int .i64 0, .string ⟨#[]⟩, .slice none 0 0, .slice none 0 0, .slice none 0 0, .string ⟨#[]⟩, .int .i64 0] P3.out rfl ?_ ?_ ?_ ?_ ?_ ?_ ?_); all_goals try rfl; all_goals try (simp [Value.oneCell']; done)))
        case refine_4 => simp [Value.oneCell']
        intro x13 z hg
        have EA1 := Lib.hid (EA1.out.off P3.out (by simp) hg)
        have EB1 := Lib.hid (EB1.out.off P3.out (by simp) hg)
        have EC1 := Lib.hid (EC1.out.off P3.out (by simp) hg)
        have EA3 := Lib.hid (EA3.out.off P3.out (by simp) hg)
        have EB3 := Lib.hid (EB3.out.off P3.out (by simp) hg)
        have D1 := Lib.hid (D1.out.off hg (by intro e; injection e with e; omega))
        have P1 := Lib.hid (P1.out.off hg (by intro e; injection e with e; omega))
        have Y := Lib.hid (Y.out.off hg (by intro e; injection e with e; omega))
        have D3 := Lib.hid (D3.out.off hg (by intro e; injection e with e; omega))
        have q := Lib.hid (below_row q.out hg (by omega) q.out.size)
        have P3 := Lib.hid z
        clear z hg
        clear D3 P3 EA3 EB3
        have d0 := Y.out.cell 0
        have d1 := Y.out.cell 1
        have d2 := Y.out.cell 2
        have d3 := Y.out.cell 3
        have d4 := Y.out.cell 4
        have d5 := Y.out.cell 5
        simp at d0 d1 d2 d3 d4 d5
        have dl := Y.out.lt
        go_wp2_with fail
        clear d0 d1 d2 d3 d4 d5 dl
        refine (qAgain0 to nN _ _ (fails + 1) (now + wt) (now + 64000) lO lE w _ q.out EB1.out EA1.out ⟨by omega, by omega⟩ ⟨by omega, by omega⟩ hl0 (by omega)).mono ?_
        rintro x x14 ⟨v1, v2, u, rfl, EA4, EB4, EC4, hb⟩
        obtain ⟨a40, c40, hv⟩ := EA4.form
        obtain rfl : v1 = .slice a40 lE.length c40 := hv
        obtain ⟨a41, c41, hv⟩ := EB4.form
        obtain rfl : v2 = .slice a41 lO.length c41 := hv
        obtain ⟨a42, c42, hv⟩ := EC4.form
        obtain rfl : u = .slice a42 lO.length c42 := hv
        have D1 := Lib.hid (D1.out.on hb)
        have P1 := Lib.hid (P1.out.on hb)
        have Y := Lib.hid (Y.out.on hb)
        have EA1 := Lib.hid (EA1.out.on hb)
        have EB1 := Lib.hid (EB1.out.on hb)
        have EC1 := Lib.hid (EC1.out.on hb)
        have q := Lib.hid (q.out.trans (hb.mono q.out.size))
        have EA4 := Lib.hid EA4
        have EB4 := Lib.hid EB4
        have EC4 := Lib.hid EC4
        clear hb
        have hb : Below x14.heap.size x14 ((x14.alloc (.cells #[.string ⟨#[]⟩, .int .i64 0, .slice none 0 0, .slice none 0 0, .int .i64 0, .int .i64 0] 24)).alloc (.cells #[.string ⟨#[]⟩, .string ⟨#[]⟩, .int .i64 0, .int .i64 0, .string ⟨#[]⟩, .slice none 0 0, .slice none 0 0, .slice none 0 0, .string ⟨#[]⟩, .int .i64 0] 49)) := by repeat (first | exact Below.refl _ _ | refine Below.alloc ?_ (by first | (simp; done) | (simp; omega)) _)
        have D4a : Whole ((x14.alloc (.cells #[.string ⟨#[]⟩, .int .i64 0, .slice none 0 0, .slice none 0 0, .int .i64 0, .int .i64 0] 24)).alloc (.cells #[.string ⟨#[]⟩, .string ⟨#[]⟩, .int .i64 0, .int .i64 0, .string ⟨#[]⟩, .slice none 0 0, .slice none 0 0, .slice none 0 0, .string ⟨#[]⟩, .int .i64 0] 49)) (x14.heap.size) 24 #[.string ⟨#[]⟩, .int .i64 0, .slice none 0 0, .slice none 0 0, .int .i64 0, .int .i64 0] := by
          have h0 := Whole.new x14 24 #[.string ⟨#[]⟩, .int .i64 0, .slice none 0 0, .slice none 0 0, .int .i64 0, .int .i64 0]
          have h0 := h0.on (below_new (o := .cells #[.string ⟨#[]⟩, .string ⟨#[]⟩, .int .i64 0, .int .i64 0, .string ⟨#[]⟩, .slice none 0 0, .slice none 0 0, .slice none 0 0, .string ⟨#[]⟩, .int .i64 0] 49))
          simpa using h0
        have D4a := Lib.hid D4a
        have P4a : Whole ((x14.alloc (.cells #[.string ⟨#[]⟩, .int .i64 0, .slice none 0 0, .slice none 0 0, .int .i64 0, .int .i64 0] 24)).alloc (.cells #[.string ⟨#[]⟩, .string ⟨#[]⟩, .int .i64 0, .int .i64 0, .string ⟨#[]⟩, .slice none 0 0, .slice none 0 0, .slice none 0 0, .string ⟨#[]⟩, .int .i64 0] 49)) (x14.heap.size + 1) 49 #[.string ⟨#[]⟩, .string ⟨#[]⟩, .int .i64 0, .int .i64 0, .string ⟨#[]⟩, .slice none 0 0, .slice none 0 0, .slice none 0 0, .string ⟨#[]⟩, .int .i64 0] := by
          have h0 := Whole.new (x14.alloc (.cells #[.string ⟨#[]⟩, .int .i64 0, .slice none 0 0, .slice none 0 0, .int .i64 0, .int .i64 0] 24)) 49 #[.string ⟨#[]⟩, .string ⟨#[]⟩, .int .i64 0, .int .i64 0, .string ⟨#[]⟩, .slice none 0 0, .slice none 0 0, .slice none 0 0, .string ⟨#[]⟩, .int .i64 0]
          simpa using h0
        have P4a := Lib.hid P4a
        have hb := Lib.hid hb
        have lwx14 : w.heap.size ≤ x14.heap.size := q.out.size
        have xD1x14 : (x0.heap.size) < x14.heap.size := D1.out.lt
        have xP1x14 : (x0.heap.size + 1) < x14.heap.size := P1.out.lt
        have xYx14 : (x9.heap.size) < x14.heap.size := Y.out.lt
        go_wp2_with (first | ((with_reducible refine list_store24 _ _ _ #[.string to, .int .i64 nN, (.slice a40 lE.length c40), (.slice a41 lO.length c41), .int .i64 (fails + 1), .int .i64 (now + wt)] D4a.out rfl ?_ ?_ ?_ ?_ ?_ ?_ ?_); all_goals try rfl; all_goals try (simp [Value.oneCell']; done)))
        case refine_4 => simp [Value.oneCell']
        intro x15 z hg
        have EA1 := Lib.hid ((EA1.out.on hb.out).off D4a.out (by simp) hg)
        have EB1 := Lib.hid ((EB1.out.on hb.out).off D4a.out (by simp) hg)
        have EC1 := Lib.hid ((EC1.out.on hb.out).off D4a.out (by simp) hg)
        have EA4 := Lib.hid ((EA4.out.on hb.out).off D4a.out (by simp) hg)
        have EB4 := Lib.hid ((EB4.out.on hb.out).off D4a.out (by simp) hg)
        have EC4 := Lib.hid ((EC4.out.on hb.out).off D4a.out (by simp) hg)
        have D1 := Lib.hid ((D1.out.on hb.out).off hg (by intro e; injection e with e; omega))
        have P1 := Lib.hid ((P1.out.on hb.out).off hg (by intro e; injection e with e; omega))
        have Y := Lib.hid ((Y.out.on hb.out).off hg (by intro e; injection e with e; omega))
        have P4 := Lib.hid (P4a.out.off hg (by intro e; injection e with e; omega))
        have q := Lib.hid (q.out.trans (hb.out.mono q.out.size))
        have q := Lib.hid (below_row q.out hg (by omega) q.out.size)
        have D4 := Lib.hid z
        clear z hg hb D4a P4a
        go_wp2_with (first | ((with_reducible refine list_store49 _ _ _ #[.string ⟨#[]⟩, .string to, .int .i64 1, .int .i64 (nN - 1), .string ⟨#[]⟩, (.slice a42 lO.length c42), .slice none 0 0, .slice none 0 0, .string ⟨#[]⟩, .int .i64 0] P4.out rfl ?_ ?_ ?_ ?_ ?_ ?_ ?_); all_goals try rfl; all_goals try (simp [Value.oneCell']; done)))
        case refine_4 => simp [Value.oneCell']
        intro x16 z hg
        have EA1 := Lib.hid (EA1.out.off P4.out (by simp) hg)
        have EB1 := Lib.hid (EB1.out.off P4.out (by simp) hg)
        have EC1 := Lib.hid (EC1.out.off P4.out (by simp) hg)
        have EA4 := Lib.hid (EA4.out.off P4.out (by simp) hg)
        have EB4 := Lib.hid (EB4.out.off P4.out (by simp) hg)
        have EC4 := Lib.hid (EC4.out.off P4.out (by simp) hg)
        have D1 := Lib.hid (D1.out.off hg (by intro e; injection e with e; omega))
        have P1 := Lib.hid (P1.out.off hg (by intro e; injection e with e; omega))
        have Y := Lib.hid (Y.out.off hg (by intro e; injection e with e; omega))
        have D4 := Lib.hid (D4.out.off hg (by intro e; injection e with e; omega))
        have q := Lib.hid (below_row q.out hg (by omega) q.out.size)
        have P4 := Lib.hid z
        clear z hg
        have p0 := P1.out.cell 0
        have p1 := P1.out.cell 1
        have p2 := P1.out.cell 2
        have p3 := P1.out.cell 3
        have p4 := P1.out.cell 4
        have p5 := P1.out.cell 5
        have p6 := P1.out.cell 6
        have p7 := P1.out.cell 7
        have p8 := P1.out.cell 8
        have p9 := P1.out.cell 9
        simp at p0 p1 p2 p3 p4 p5 p6 p7 p8 p9
        have pl := P1.out.lt
        have r0 := P4.out.cell 0
        have r1 := P4.out.cell 1
        have r2 := P4.out.cell 2
        have r3 := P4.out.cell 3
        have r4 := P4.out.cell 4
        have r5 := P4.out.cell 5
        have r6 := P4.out.cell 6
        have r7 := P4.out.cell 7
        have r8 := P4.out.cell 8
        have r9 := P4.out.cell 9
        simp at r0 r1 r2 r3 r4 r5 r6 r7 r8 r9
        have rl := P4.out.lt
        go_wp2_with fail
        clear p0 r0 p1 r1 p2 r2 p3 r3 p4 r4 p5 r5 p6 r6 p7 r7 p8 r8 p9 r9 pl rl
        refine (samePk _ _ _ _ lO _ (EC4.out.evs q.out) (EC1.out.evs q.out)).mono ?_
        rintro x x17 ⟨rfl, hb⟩
        have D1 := Lib.hid (D1.out.on hb)
        have P1 := Lib.hid (P1.out.on hb)
        have Y := Lib.hid (Y.out.on hb)
        have D4 := Lib.hid (D4.out.on hb)
        have P4 := Lib.hid (P4.out.on hb)
        have EA1 := Lib.hid (EA1.out.on hb)
        have EB1 := Lib.hid (EB1.out.on hb)
        have EC1 := Lib.hid (EC1.out.on hb)
        have EA4 := Lib.hid (EA4.out.on hb)
        have EB4 := Lib.hid (EB4.out.on hb)
        have EC4 := Lib.hid (EC4.out.on hb)
        have q := Lib.hid (q.out.trans (hb.mono q.out.size))
        clear hb
        go_wp2_with fail
        refine (lives_true _).mono ?_
        rintro x x18 ⟨rfl, hb⟩
        go_wp2_with fail
        go_ret
        exact ⟨rfl, q.out.trans (hb.mono q.out.size)⟩
      · rw [if_neg hnn] at hm
        have hne : ¬ (0 < lO.length ∧ m = nN - 1) := fun e => hmn e.2
        clear hmn
        go_wp2_with fail
        clear p0 p1 p2 p3 p4 p5 p6 p7 p8 p9 pl d0 d1 d2 d3 d4 d5 dl
        refine (qAckNo to nN _ _ fails at_ m lO lE _ (EB1.out.evs q.out) (EA1.out.evs q.out) ⟨by omega, by omega⟩ hne).mono ?_
        rintro x x3 ⟨rfl, hb⟩
        have D1 := Lib.hid (D1.out.on hb)
        have P1 := Lib.hid (P1.out.on hb)
        have EA1 := Lib.hid (EA1.out.on hb)
        have EB1 := Lib.hid (EB1.out.on hb)
        have EC1 := Lib.hid (EC1.out.on hb)
        have q := Lib.hid (q.out.trans (hb.mono q.out.size))
        clear hb
        clear hne
        go_wp2_with fail
        refine (qAgain0 to nN _ _ fails at_ now lO lE w _ q.out EB1.out EA1.out ⟨by omega, by omega⟩ ⟨by omega, by omega⟩ hl0 hat).mono ?_
        rintro x x4 ⟨v1, v2, u, rfl, EA2, EB2, EC2, hb⟩
        obtain ⟨a20, c20, hv⟩ := EA2.form
        obtain rfl : v1 = .slice a20 lE.length c20 := hv
        obtain ⟨a21, c21, hv⟩ := EB2.form
        obtain rfl : v2 = .slice a21 lO.length c21 := hv
        obtain ⟨a22, c22, hv⟩ := EC2.form
        obtain rfl : u = .slice a22 lO.length c22 := hv
        have D1 := Lib.hid (D1.out.on hb)
        have P1 := Lib.hid (P1.out.on hb)
        have EA1 := Lib.hid (EA1.out.on hb)
        have EB1 := Lib.hid (EB1.out.on hb)
        have EC1 := Lib.hid (EC1.out.on hb)
        have q := Lib.hid (q.out.trans (hb.mono q.out.size))
        have EA2 := Lib.hid EA2
        have EB2 := Lib.hid EB2
        have EC2 := Lib.hid EC2
        clear hb
        have hb : Below x4.heap.size x4 ((x4.alloc (.cells #[.string ⟨#[]⟩, .int .i64 0, .slice none 0 0, .slice none 0 0, .int .i64 0, .int .i64 0] 24)).alloc (.cells #[.string ⟨#[]⟩, .string ⟨#[]⟩, .int .i64 0, .int .i64 0, .string ⟨#[]⟩, .slice none 0 0, .slice none 0 0, .slice none 0 0, .string ⟨#[]⟩, .int .i64 0] 49)) := by repeat (first | exact Below.refl _ _ | refine Below.alloc ?_ (by first | (simp; done) | (simp; omega)) _)
        have D2a : Whole ((x4.alloc (.cells #[.string ⟨#[]⟩, .int .i64 0, .slice none 0 0, .slice none 0 0, .int .i64 0, .int .i64 0] 24)).alloc (.cells #[.string ⟨#[]⟩, .string ⟨#[]⟩, .int .i64 0, .int .i64 0, .string ⟨#[]⟩, .slice none 0 0, .slice none 0 0, .slice none 0 0, .string ⟨#[]⟩, .int .i64 0] 49)) (x4.heap.size) 24 #[.string ⟨#[]⟩, .int .i64 0, .slice none 0 0, .slice none 0 0, .int .i64 0, .int .i64 0] := by
          have h0 := Whole.new x4 24 #[.string ⟨#[]⟩, .int .i64 0, .slice none 0 0, .slice none 0 0, .int .i64 0, .int .i64 0]
          have h0 := h0.on (below_new (o := .cells #[.string ⟨#[]⟩, .string ⟨#[]⟩, .int .i64 0, .int .i64 0, .string ⟨#[]⟩, .slice none 0 0, .slice none 0 0, .slice none 0 0, .string ⟨#[]⟩, .int .i64 0] 49))
          simpa using h0
        have D2a := Lib.hid D2a
        have P2a : Whole ((x4.alloc (.cells #[.string ⟨#[]⟩, .int .i64 0, .slice none 0 0, .slice none 0 0, .int .i64 0, .int .i64 0] 24)).alloc (.cells #[.string ⟨#[]⟩, .string ⟨#[]⟩, .int .i64 0, .int .i64 0, .string ⟨#[]⟩, .slice none 0 0, .slice none 0 0, .slice none 0 0, .string ⟨#[]⟩, .int .i64 0] 49)) (x4.heap.size + 1) 49 #[.string ⟨#[]⟩, .string ⟨#[]⟩, .int .i64 0, .int .i64 0, .string ⟨#[]⟩, .slice none 0 0, .slice none 0 0, .slice none 0 0, .string ⟨#[]⟩, .int .i64 0] := by
          have h0 := Whole.new (x4.alloc (.cells #[.string ⟨#[]⟩, .int .i64 0, .slice none 0 0, .slice none 0 0, .int .i64 0, .int .i64 0] 24)) 49 #[.string ⟨#[]⟩, .string ⟨#[]⟩, .int .i64 0, .int .i64 0, .string ⟨#[]⟩, .slice none 0 0, .slice none 0 0, .slice none 0 0, .string ⟨#[]⟩, .int .i64 0]
          simpa using h0
        have P2a := Lib.hid P2a
        have hb := Lib.hid hb
        have lwx4 : w.heap.size ≤ x4.heap.size := q.out.size
        have xD1x4 : (x0.heap.size) < x4.heap.size := D1.out.lt
        have xP1x4 : (x0.heap.size + 1) < x4.heap.size := P1.out.lt
        go_wp2_with (first | ((with_reducible refine list_store24 _ _ _ #[.string to, .int .i64 nN, (.slice a20 lE.length c20), (.slice a21 lO.length c21), .int .i64 fails, .int .i64 at_] D2a.out rfl ?_ ?_ ?_ ?_ ?_ ?_ ?_); all_goals try rfl; all_goals try (simp [Value.oneCell']; done)))
        case refine_4 => simp [Value.oneCell']
        intro x5 z hg
        have EA1 := Lib.hid ((EA1.out.on hb.out).off D2a.out (by simp) hg)
        have EB1 := Lib.hid ((EB1.out.on hb.out).off D2a.out (by simp) hg)
        have EC1 := Lib.hid ((EC1.out.on hb.out).off D2a.out (by simp) hg)
        have EA2 := Lib.hid ((EA2.out.on hb.out).off D2a.out (by simp) hg)
        have EB2 := Lib.hid ((EB2.out.on hb.out).off D2a.out (by simp) hg)
        have EC2 := Lib.hid ((EC2.out.on hb.out).off D2a.out (by simp) hg)
        have D1 := Lib.hid ((D1.out.on hb.out).off hg (by intro e; injection e with e; omega))
        have P1 := Lib.hid ((P1.out.on hb.out).off hg (by intro e; injection e with e; omega))
        have P2 := Lib.hid (P2a.out.off hg (by intro e; injection e with e; omega))
        have q := Lib.hid (q.out.trans (hb.out.mono q.out.size))
        have q := Lib.hid (below_row q.out hg (by omega) q.out.size)
        have D2 := Lib.hid z
        clear z hg hb D2a P2a
        go_wp2_with (first | ((with_reducible refine list_store49 _ _ _ #[.string ⟨#[]⟩, .string to, .int .i64 1, .int .i64 (nN - 1), .string ⟨#[]⟩, (.slice a22 lO.length c22), .slice none 0 0, .slice none 0 0, .string ⟨#[]⟩, .int .i64 0] P2.out rfl ?_ ?_ ?_ ?_ ?_ ?_ ?_); all_goals try rfl; all_goals try (simp [Value.oneCell']; done)))
        case refine_4 => simp [Value.oneCell']
        intro x6 z hg
        have EA1 := Lib.hid (EA1.out.off P2.out (by simp) hg)
        have EB1 := Lib.hid (EB1.out.off P2.out (by simp) hg)
        have EC1 := Lib.hid (EC1.out.off P2.out (by simp) hg)
        have EA2 := Lib.hid (EA2.out.off P2.out (by simp) hg)
        have EB2 := Lib.hid (EB2.out.off P2.out (by simp) hg)
        have EC2 := Lib.hid (EC2.out.off P2.out (by simp) hg)
        have D1 := Lib.hid (D1.out.off hg (by intro e; injection e with e; omega))
        have P1 := Lib.hid (P1.out.off hg (by intro e; injection e with e; omega))
        have D2 := Lib.hid (D2.out.off hg (by intro e; injection e with e; omega))
        have q := Lib.hid (below_row q.out hg (by omega) q.out.size)
        have P2 := Lib.hid z
        clear z hg
        have p0 := P1.out.cell 0
        have p1 := P1.out.cell 1
        have p2 := P1.out.cell 2
        have p3 := P1.out.cell 3
        have p4 := P1.out.cell 4
        have p5 := P1.out.cell 5
        have p6 := P1.out.cell 6
        have p7 := P1.out.cell 7
        have p8 := P1.out.cell 8
        have p9 := P1.out.cell 9
        simp at p0 p1 p2 p3 p4 p5 p6 p7 p8 p9
        have pl := P1.out.lt
        have r0 := P2.out.cell 0
        have r1 := P2.out.cell 1
        have r2 := P2.out.cell 2
        have r3 := P2.out.cell 3
        have r4 := P2.out.cell 4
        have r5 := P2.out.cell 5
        have r6 := P2.out.cell 6
        have r7 := P2.out.cell 7
        have r8 := P2.out.cell 8
        have r9 := P2.out.cell 9
        simp at r0 r1 r2 r3 r4 r5 r6 r7 r8 r9
        have rl := P2.out.lt
        go_wp2_with fail
        clear p0 r0 p1 r1 p2 r2 p3 r3 p4 r4 p5 r5 p6 r6 p7 r7 p8 r8 p9 r9 pl rl
        refine (samePk _ _ _ _ lO _ (EC2.out.evs q.out) (EC1.out.evs q.out)).mono ?_
        rintro x x7 ⟨rfl, hb⟩
        have D1 := Lib.hid (D1.out.on hb)
        have P1 := Lib.hid (P1.out.on hb)
        have D2 := Lib.hid (D2.out.on hb)
        have P2 := Lib.hid (P2.out.on hb)
        have EA1 := Lib.hid (EA1.out.on hb)
        have EB1 := Lib.hid (EB1.out.on hb)
        have EC1 := Lib.hid (EC1.out.on hb)
        have EA2 := Lib.hid (EA2.out.on hb)
        have EB2 := Lib.hid (EB2.out.on hb)
        have EC2 := Lib.hid (EC2.out.on hb)
        have q := Lib.hid (q.out.trans (hb.mono q.out.size))
        clear hb
        have d0 := D1.out.cell 0
        have d1 := D1.out.cell 1
        have d2 := D1.out.cell 2
        have d3 := D1.out.cell 3
        have d4 := D1.out.cell 4
        have d5 := D1.out.cell 5
        simp at d0 d1 d2 d3 d4 d5
        have dl := D1.out.lt
        have e0 := D2.out.cell 0
        have e1 := D2.out.cell 1
        have e2 := D2.out.cell 2
        have e3 := D2.out.cell 3
        have e4 := D2.out.cell 4
        have e5 := D2.out.cell 5
        simp at e0 e1 e2 e3 e4 e5
        have el := D2.out.lt
        go_wp2_with fail
        clear d0 d1 d2 d3 d4 d5 e0 e1 e2 e3 e4 e5 dl el
        refine (qSame _ _ _ _ _ _ _ _ lO lE _ (EB1.out.evs q.out) (EA1.out.evs q.out) (EB2.out.evs q.out) (EA2.out.evs q.out)).mono ?_
        rintro x x8 ⟨rfl, hb⟩
        have D1 := Lib.hid (D1.out.on hb)
        have P1 := Lib.hid (P1.out.on hb)
        have D2 := Lib.hid (D2.out.on hb)
        have P2 := Lib.hid (P2.out.on hb)
        have EA1 := Lib.hid (EA1.out.on hb)
        have EB1 := Lib.hid (EB1.out.on hb)
        have EC1 := Lib.hid (EC1.out.on hb)
        have EA2 := Lib.hid (EA2.out.on hb)
        have EB2 := Lib.hid (EB2.out.on hb)
        have EC2 := Lib.hid (EC2.out.on hb)
        have q := Lib.hid (q.out.trans (hb.mono q.out.size))
        clear hb
        clear D2 P2 EA2 EB2 EC2
        have d0 := D1.out.cell 0
        have d1 := D1.out.cell 1
        have d2 := D1.out.cell 2
        have d3 := D1.out.cell 3
        have d4 := D1.out.cell 4
        have d5 := D1.out.cell 5
        simp at d0 d1 d2 d3 d4 d5
        have dl := D1.out.lt
        go_wp2_with fail
        clear d0 d1 d2 d3 d4 d5 dl
        refine (qFailYes to nN _ _ fails at_ now lO lE _ (EB1.out.evs q.out) (EA1.out.evs q.out) hl0 f0 (by omega)).mono ?_
        rintro x x9 ⟨rfl, hb⟩
        have D1 := Lib.hid (D1.out.on hb)
        have P1 := Lib.hid (P1.out.on hb)
        have EA1 := Lib.hid (EA1.out.on hb)
        have EB1 := Lib.hid (EB1.out.on hb)
        have EC1 := Lib.hid (EC1.out.on hb)
        have q := Lib.hid (q.out.trans (hb.mono q.out.size))
        clear hb
        have ew := waitOf_b fails
        rw [addC_small now fails (by omega) (by omega)]
        generalize waitOf fails = wt at *
        go_wp2_with fail
        have hb : Below x9.heap.size x9 (x9.alloc (.cells #[.string to, .int .i64 nN, (.slice a10 lE.length c10), (.slice a11 lO.length c11), .int .i64 (fails + 1), .int .i64 (now + wt)] 24)) := by repeat (first | exact Below.refl _ _ | refine Below.alloc ?_ (by first | (simp; done) | (simp; omega)) _)
        have Ya : Whole (x9.alloc (.cells #[.string to, .int .i64 nN, (.slice a10 lE.length c10), (.slice a11 lO.length c11), .int .i64 (fails + 1), .int .i64 (now + wt)] 24)) (x9.heap.size) 24 #[.string to, .int .i64 nN, (.slice a10 lE.length c10), (.slice a11 lO.length c11), .int .i64 (fails + 1), .int .i64 (now + wt)] := by
          have h0 := Whole.new x9 24 #[.string to, .int .i64 nN, (.slice a10 lE.length c10), (.slice a11 lO.length c11), .int .i64 (fails + 1), .int .i64 (now + wt)]
          simpa using h0
        have Ya := Lib.hid Ya
        have hb := Lib.hid hb
        have lwx9 : w.heap.size ≤ x9.heap.size := q.out.size
        have xD1x9 : (x0.heap.size) < x9.heap.size := D1.out.lt
        have xP1x9 : (x0.heap.size + 1) < x9.heap.size := P1.out.lt
        have D1 := Lib.hid (D1.out.on hb.out)
        have P1 := Lib.hid (P1.out.on hb.out)
        have EA1 := Lib.hid (EA1.out.on hb.out)
        have EB1 := Lib.hid (EB1.out.on hb.out)
        have EC1 := Lib.hid (EC1.out.on hb.out)
        have q := Lib.hid (q.out.trans (hb.out.mono q.out.size))
        have Y := Ya
        obtain ⟨x10, hw⟩ : ∃ x10, x10 = (x9.alloc (.cells #[.string to, .int .i64 nN, (.slice a10 lE.length c10), (.slice a11 lO.length c11), .int .i64 (fails + 1), .int .i64 (now + wt)] 24)) := ⟨_, rfl⟩
        clear hb Ya
        rw [← hw] at D1 P1 Y EA1 EB1 EC1 q ⊢
        clear hw
        refine (qLate0 to nN _ _ (fails + 1) (now + wt) (now + 999) lO lE w _ q.out EB1.out EA1.out ⟨by omega, by omega⟩ ⟨by omega, by omega⟩ hl0 (by omega)).mono ?_
        rintro x x11 ⟨v1, v2, rfl, EA3, EB3, hb⟩
        obtain ⟨a30, c30, hv⟩ := EA3.form
        obtain rfl : v1 = .slice a30 lE.length c30 := hv
        obtain ⟨a31, c31, hv⟩ := EB3.form
        obtain rfl : v2 = .slice a31 lO.length c31 := hv
        have D1 := Lib.hid (D1.out.on hb)
        have P1 := Lib.hid (P1.out.on hb)
        have Y := Lib.hid (Y.out.on hb)
        have EA1 := Lib.hid (EA1.out.on hb)
        have EB1 := Lib.hid (EB1.out.on hb)
        have EC1 := Lib.hid (EC1.out.on hb)
        have q := Lib.hid (q.out.trans (hb.mono q.out.size))
        have EA3 := Lib.hid EA3
        have EB3 := Lib.hid EB3
        clear hb
        have hb : Below x11.heap.size x11 ((x11.alloc (.cells #[.string ⟨#[]⟩, .int .i64 0, .slice none 0 0, .slice none 0 0, .int .i64 0, .int .i64 0] 24)).alloc (.cells #[.string ⟨#[]⟩, .string ⟨#[]⟩, .int .i64 0, .int .i64 0, .string ⟨#[]⟩, .slice none 0 0, .slice none 0 0, .slice none 0 0, .string ⟨#[]⟩, .int .i64 0] 49)) := by repeat (first | exact Below.refl _ _ | refine Below.alloc ?_ (by first | (simp; done) | (simp; omega)) _)
        have D3a : Whole ((x11.alloc (.cells #[.string ⟨#[]⟩, .int .i64 0, .slice none 0 0, .slice none 0 0, .int .i64 0, .int .i64 0] 24)).alloc (.cells #[.string ⟨#[]⟩, .string ⟨#[]⟩, .int .i64 0, .int .i64 0, .string ⟨#[]⟩, .slice none 0 0, .slice none 0 0, .slice none 0 0, .string ⟨#[]⟩, .int .i64 0] 49)) (x11.heap.size) 24 #[.string ⟨#[]⟩, .int .i64 0, .slice none 0 0, .slice none 0 0, .int .i64 0, .int .i64 0] := by
          have h0 := Whole.new x11 24 #[.string ⟨#[]⟩, .int .i64 0, .slice none 0 0, .slice none 0 0, .int .i64 0, .int .i64 0]
          have h0 := h0.on (below_new (o := .cells #[.string ⟨#[]⟩, .string ⟨#[]⟩, .int .i64 0, .int .i64 0, .string ⟨#[]⟩, .slice none 0 0, .slice none 0 0, .slice none 0 0, .string ⟨#[]⟩, .int .i64 0] 49))
          simpa using h0
        have D3a := Lib.hid D3a
        have P3a : Whole ((x11.alloc (.cells #[.string ⟨#[]⟩, .int .i64 0, .slice none 0 0, .slice none 0 0, .int .i64 0, .int .i64 0] 24)).alloc (.cells #[.string ⟨#[]⟩, .string ⟨#[]⟩, .int .i64 0, .int .i64 0, .string ⟨#[]⟩, .slice none 0 0, .slice none 0 0, .slice none 0 0, .string ⟨#[]⟩, .int .i64 0] 49)) (x11.heap.size + 1) 49 #[.string ⟨#[]⟩, .string ⟨#[]⟩, .int .i64 0, .int .i64 0, .string ⟨#[]⟩, .slice none 0 0, .slice none 0 0, .slice none 0 0, .string ⟨#[]⟩, .int .i64 0] := by
          have h0 := Whole.new (x11.alloc (.cells #[.string ⟨#[]⟩, .int .i64 0, .slice none 0 0, .slice none 0 0, .int .i64 0, .int .i64 0] 24)) 49 #[.string ⟨#[]⟩, .string ⟨#[]⟩, .int .i64 0, .int .i64 0, .string ⟨#[]⟩, .slice none 0 0, .slice none 0 0, .slice none 0 0, .string ⟨#[]⟩, .int .i64 0]
          simpa using h0
        have P3a := Lib.hid P3a
        have hb := Lib.hid hb
        have lwx11 : w.heap.size ≤ x11.heap.size := q.out.size
        have xD1x11 : (x0.heap.size) < x11.heap.size := D1.out.lt
        have xP1x11 : (x0.heap.size + 1) < x11.heap.size := P1.out.lt
        have xYx11 : (x9.heap.size) < x11.heap.size := Y.out.lt
        go_wp2_with (first | ((with_reducible refine list_store24 _ _ _ #[.string to, .int .i64 nN, (.slice a30 lE.length c30), (.slice a31 lO.length c31), .int .i64 (fails + 1), .int .i64 (now + wt)] D3a.out rfl ?_ ?_ ?_ ?_ ?_ ?_ ?_); all_goals try rfl; all_goals try (simp [Value.oneCell']; done)))
        case refine_4 => simp [Value.oneCell']
        intro x12 z hg
        have EA1 := Lib.hid ((EA1.out.on hb.out).off D3a.out (by simp) hg)
        have EB1 := Lib.hid ((EB1.out.on hb.out).off D3a.out (by simp) hg)
        have EC1 := Lib.hid ((EC1.out.on hb.out).off D3a.out (by simp) hg)
        have EA3 := Lib.hid ((EA3.out.on hb.out).off D3a.out (by simp) hg)
        have EB3 := Lib.hid ((EB3.out.on hb.out).off D3a.out (by simp) hg)
        have D1 := Lib.hid ((D1.out.on hb.out).off hg (by intro e; injection e with e; omega))
        have P1 := Lib.hid ((P1.out.on hb.out).off hg (by intro e; injection e with e; omega))
        have Y := Lib.hid ((Y.out.on hb.out).off hg (by intro e; injection e with e; omega))
        have P3 := Lib.hid (P3a.out.off hg (by intro e; injection e with e; omega))
        have q := Lib.hid (q.out.trans (hb.out.mono q.out.size))
        have q := Lib.hid (below_row q.out hg (by omega) q.out.size)
        have D3 := Lib.hid z
        clear z hg hb D3a P3a
        go_wp2_with (first | ((with_reducible refine list_store49 _ _ _ #[.string ⟨#[]⟩, .string ⟨#[]⟩, .int .i64 0, .int .i64 0, .string ⟨#[]⟩, .slice none 0 0, .slice none 0 0, .slice none 0 0, .string ⟨#[]⟩, .int .i64 0] P3.out rfl ?_ ?_ ?_ ?_ ?_ ?_ ?_); all_goals try rfl; all_goals try (simp [Value.oneCell']; done)))
        case refine_4 => simp [Value.oneCell']
        intro x13 z hg
        have EA1 := Lib.hid (EA1.out.off P3.out (by simp) hg)
        have EB1 := Lib.hid (EB1.out.off P3.out (by simp) hg)
        have EC1 := Lib.hid (EC1.out.off P3.out (by simp) hg)
        have EA3 := Lib.hid (EA3.out.off P3.out (by simp) hg)
        have EB3 := Lib.hid (EB3.out.off P3.out (by simp) hg)
        have D1 := Lib.hid (D1.out.off hg (by intro e; injection e with e; omega))
        have P1 := Lib.hid (P1.out.off hg (by intro e; injection e with e; omega))
        have Y := Lib.hid (Y.out.off hg (by intro e; injection e with e; omega))
        have D3 := Lib.hid (D3.out.off hg (by intro e; injection e with e; omega))
        have q := Lib.hid (below_row q.out hg (by omega) q.out.size)
        have P3 := Lib.hid z
        clear z hg
        clear D3 P3 EA3 EB3
        have d0 := Y.out.cell 0
        have d1 := Y.out.cell 1
        have d2 := Y.out.cell 2
        have d3 := Y.out.cell 3
        have d4 := Y.out.cell 4
        have d5 := Y.out.cell 5
        simp at d0 d1 d2 d3 d4 d5
        have dl := Y.out.lt
        go_wp2_with fail
        clear d0 d1 d2 d3 d4 d5 dl
        refine (qAgain0 to nN _ _ (fails + 1) (now + wt) (now + 64000) lO lE w _ q.out EB1.out EA1.out ⟨by omega, by omega⟩ ⟨by omega, by omega⟩ hl0 (by omega)).mono ?_
        rintro x x14 ⟨v1, v2, u, rfl, EA4, EB4, EC4, hb⟩
        obtain ⟨a40, c40, hv⟩ := EA4.form
        obtain rfl : v1 = .slice a40 lE.length c40 := hv
        obtain ⟨a41, c41, hv⟩ := EB4.form
        obtain rfl : v2 = .slice a41 lO.length c41 := hv
        obtain ⟨a42, c42, hv⟩ := EC4.form
        obtain rfl : u = .slice a42 lO.length c42 := hv
        have D1 := Lib.hid (D1.out.on hb)
        have P1 := Lib.hid (P1.out.on hb)
        have Y := Lib.hid (Y.out.on hb)
        have EA1 := Lib.hid (EA1.out.on hb)
        have EB1 := Lib.hid (EB1.out.on hb)
        have EC1 := Lib.hid (EC1.out.on hb)
        have q := Lib.hid (q.out.trans (hb.mono q.out.size))
        have EA4 := Lib.hid EA4
        have EB4 := Lib.hid EB4
        have EC4 := Lib.hid EC4
        clear hb
        have hb : Below x14.heap.size x14 ((x14.alloc (.cells #[.string ⟨#[]⟩, .int .i64 0, .slice none 0 0, .slice none 0 0, .int .i64 0, .int .i64 0] 24)).alloc (.cells #[.string ⟨#[]⟩, .string ⟨#[]⟩, .int .i64 0, .int .i64 0, .string ⟨#[]⟩, .slice none 0 0, .slice none 0 0, .slice none 0 0, .string ⟨#[]⟩, .int .i64 0] 49)) := by repeat (first | exact Below.refl _ _ | refine Below.alloc ?_ (by first | (simp; done) | (simp; omega)) _)
        have D4a : Whole ((x14.alloc (.cells #[.string ⟨#[]⟩, .int .i64 0, .slice none 0 0, .slice none 0 0, .int .i64 0, .int .i64 0] 24)).alloc (.cells #[.string ⟨#[]⟩, .string ⟨#[]⟩, .int .i64 0, .int .i64 0, .string ⟨#[]⟩, .slice none 0 0, .slice none 0 0, .slice none 0 0, .string ⟨#[]⟩, .int .i64 0] 49)) (x14.heap.size) 24 #[.string ⟨#[]⟩, .int .i64 0, .slice none 0 0, .slice none 0 0, .int .i64 0, .int .i64 0] := by
          have h0 := Whole.new x14 24 #[.string ⟨#[]⟩, .int .i64 0, .slice none 0 0, .slice none 0 0, .int .i64 0, .int .i64 0]
          have h0 := h0.on (below_new (o := .cells #[.string ⟨#[]⟩, .string ⟨#[]⟩, .int .i64 0, .int .i64 0, .string ⟨#[]⟩, .slice none 0 0, .slice none 0 0, .slice none 0 0, .string ⟨#[]⟩, .int .i64 0] 49))
          simpa using h0
        have D4a := Lib.hid D4a
        have P4a : Whole ((x14.alloc (.cells #[.string ⟨#[]⟩, .int .i64 0, .slice none 0 0, .slice none 0 0, .int .i64 0, .int .i64 0] 24)).alloc (.cells #[.string ⟨#[]⟩, .string ⟨#[]⟩, .int .i64 0, .int .i64 0, .string ⟨#[]⟩, .slice none 0 0, .slice none 0 0, .slice none 0 0, .string ⟨#[]⟩, .int .i64 0] 49)) (x14.heap.size + 1) 49 #[.string ⟨#[]⟩, .string ⟨#[]⟩, .int .i64 0, .int .i64 0, .string ⟨#[]⟩, .slice none 0 0, .slice none 0 0, .slice none 0 0, .string ⟨#[]⟩, .int .i64 0] := by
          have h0 := Whole.new (x14.alloc (.cells #[.string ⟨#[]⟩, .int .i64 0, .slice none 0 0, .slice none 0 0, .int .i64 0, .int .i64 0] 24)) 49 #[.string ⟨#[]⟩, .string ⟨#[]⟩, .int .i64 0, .int .i64 0, .string ⟨#[]⟩, .slice none 0 0, .slice none 0 0, .slice none 0 0, .string ⟨#[]⟩, .int .i64 0]
          simpa using h0
        have P4a := Lib.hid P4a
        have hb := Lib.hid hb
        have lwx14 : w.heap.size ≤ x14.heap.size := q.out.size
        have xD1x14 : (x0.heap.size) < x14.heap.size := D1.out.lt
        have xP1x14 : (x0.heap.size + 1) < x14.heap.size := P1.out.lt
        have xYx14 : (x9.heap.size) < x14.heap.size := Y.out.lt
        go_wp2_with (first | ((with_reducible refine list_store24 _ _ _ #[.string to, .int .i64 nN, (.slice a40 lE.length c40), (.slice a41 lO.length c41), .int .i64 (fails + 1), .int .i64 (now + wt)] D4a.out rfl ?_ ?_ ?_ ?_ ?_ ?_ ?_); all_goals try rfl; all_goals try (simp [Value.oneCell']; done)))
        case refine_4 => simp [Value.oneCell']
        intro x15 z hg
        have EA1 := Lib.hid ((EA1.out.on hb.out).off D4a.out (by simp) hg)
        have EB1 := Lib.hid ((EB1.out.on hb.out).off D4a.out (by simp) hg)
        have EC1 := Lib.hid ((EC1.out.on hb.out).off D4a.out (by simp) hg)
        have EA4 := Lib.hid ((EA4.out.on hb.out).off D4a.out (by simp) hg)
        have EB4 := Lib.hid ((EB4.out.on hb.out).off D4a.out (by simp) hg)
        have EC4 := Lib.hid ((EC4.out.on hb.out).off D4a.out (by simp) hg)
        have D1 := Lib.hid ((D1.out.on hb.out).off hg (by intro e; injection e with e; omega))
        have P1 := Lib.hid ((P1.out.on hb.out).off hg (by intro e; injection e with e; omega))
        have Y := Lib.hid ((Y.out.on hb.out).off hg (by intro e; injection e with e; omega))
        have P4 := Lib.hid (P4a.out.off hg (by intro e; injection e with e; omega))
        have q := Lib.hid (q.out.trans (hb.out.mono q.out.size))
        have q := Lib.hid (below_row q.out hg (by omega) q.out.size)
        have D4 := Lib.hid z
        clear z hg hb D4a P4a
        go_wp2_with (first | ((with_reducible refine list_store49 _ _ _ #[.string ⟨#[]⟩, .string to, .int .i64 1, .int .i64 (nN - 1), .string ⟨#[]⟩, (.slice a42 lO.length c42), .slice none 0 0, .slice none 0 0, .string ⟨#[]⟩, .int .i64 0] P4.out rfl ?_ ?_ ?_ ?_ ?_ ?_ ?_); all_goals try rfl; all_goals try (simp [Value.oneCell']; done)))
        case refine_4 => simp [Value.oneCell']
        intro x16 z hg
        have EA1 := Lib.hid (EA1.out.off P4.out (by simp) hg)
        have EB1 := Lib.hid (EB1.out.off P4.out (by simp) hg)
        have EC1 := Lib.hid (EC1.out.off P4.out (by simp) hg)
        have EA4 := Lib.hid (EA4.out.off P4.out (by simp) hg)
        have EB4 := Lib.hid (EB4.out.off P4.out (by simp) hg)
        have EC4 := Lib.hid (EC4.out.off P4.out (by simp) hg)
        have D1 := Lib.hid (D1.out.off hg (by intro e; injection e with e; omega))
        have P1 := Lib.hid (P1.out.off hg (by intro e; injection e with e; omega))
        have Y := Lib.hid (Y.out.off hg (by intro e; injection e with e; omega))
        have D4 := Lib.hid (D4.out.off hg (by intro e; injection e with e; omega))
        have q := Lib.hid (below_row q.out hg (by omega) q.out.size)
        have P4 := Lib.hid z
        clear z hg
        have p0 := P1.out.cell 0
        have p1 := P1.out.cell 1
        have p2 := P1.out.cell 2
        have p3 := P1.out.cell 3
        have p4 := P1.out.cell 4
        have p5 := P1.out.cell 5
        have p6 := P1.out.cell 6
        have p7 := P1.out.cell 7
        have p8 := P1.out.cell 8
        have p9 := P1.out.cell 9
        simp at p0 p1 p2 p3 p4 p5 p6 p7 p8 p9
        have pl := P1.out.lt
        have r0 := P4.out.cell 0
        have r1 := P4.out.cell 1
        have r2 := P4.out.cell 2
        have r3 := P4.out.cell 3
        have r4 := P4.out.cell 4
        have r5 := P4.out.cell 5
        have r6 := P4.out.cell 6
        have r7 := P4.out.cell 7
        have r8 := P4.out.cell 8
        have r9 := P4.out.cell 9
        simp at r0 r1 r2 r3 r4 r5 r6 r7 r8 r9
        have rl := P4.out.lt
        go_wp2_with fail
        clear p0 r0 p1 r1 p2 r2 p3 r3 p4 r4 p5 r5 p6 r6 p7 r7 p8 r8 p9 r9 pl rl
        refine (samePk _ _ _ _ lO _ (EC4.out.evs q.out) (EC1.out.evs q.out)).mono ?_
        rintro x x17 ⟨rfl, hb⟩
        have D1 := Lib.hid (D1.out.on hb)
        have P1 := Lib.hid (P1.out.on hb)
        have Y := Lib.hid (Y.out.on hb)
        have D4 := Lib.hid (D4.out.on hb)
        have P4 := Lib.hid (P4.out.on hb)
        have EA1 := Lib.hid (EA1.out.on hb)
        have EB1 := Lib.hid (EB1.out.on hb)
        have EC1 := Lib.hid (EC1.out.on hb)
        have EA4 := Lib.hid (EA4.out.on hb)
        have EB4 := Lib.hid (EB4.out.on hb)
        have EC4 := Lib.hid (EC4.out.on hb)
        have q := Lib.hid (q.out.trans (hb.mono q.out.size))
        clear hb
        go_wp2_with fail
        refine (lives_true _).mono ?_
        rintro x x18 ⟨rfl, hb⟩
        go_wp2_with fail
        go_ret
        exact ⟨rfl, q.out.trans (hb.mono q.out.size)⟩

end Go.Proofs.Ytfebldoplobkdaa
