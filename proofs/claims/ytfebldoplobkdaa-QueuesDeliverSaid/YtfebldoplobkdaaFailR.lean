/- Fail, the reference. -/
import Derived.Test.YtfebldoplobkdaaNums
namespace Go.Proofs.Ytfebldoplobkdaa
open Go.ChangeShapes Go.WideShapes Go.ChangeAt Go.RowKit

set_option maxRecDepth 100000 in
set_option maxHeartbeats 1000000 in
theorem rFailYes (to : ByteArray) (next : Int) (ev op : Value) (fails at_ : Int) (now : Int) (eo ee : List (List Value)) (w : World) (ho : Evs w op eo) (he : Evs w ev ee) (h : 0 < eo.length) (f1 : 0 ≤ fails) (f2 : fails < 1000000000000) :
    Calls Try.prog 22 #[.agg #[.string to, .int .i64 next, ev, op, .int .i64 fails, .int .i64 at_], .int .i64 now] w fun x w' => x = .returned (.agg #[.string to, .int .i64 next, ev, op, .int .i64 (fails + 1), .int .i64 (addC now (waitOf fails))]) ∧ Below w.heap.size w w' := by
  obtain ⟨oa, oc, rfl, hoc1, hoc2⟩ := ho.form
  obtain ⟨ea, ec, rfl, hec1, hec2⟩ := he.form
  clear ho he
  have e0 : ((eo.length : Int) == 0) = false := beq_eq_false_iff_ne.2 (by omega)
  go_enter Try.func22, Try.ntmps22
  go_wp2_with fail
  have q0 : Below w.heap.size w ((w.alloc (.cells #[.string to, .int .i64 next, (.slice ea ee.length ec), (.slice oa eo.length oc), .int .i64 fails, .int .i64 at_] 24)).alloc (.cells #[.string ⟨#[]⟩, .int .i64 0, .slice none 0 0, .slice none 0 0, .int .i64 0, .int .i64 0] 24)) := ((Below.refl _ _).alloc (Nat.le_refl _) _).alloc (by simp) _
  have B1 : Whole ((w.alloc (.cells #[.string to, .int .i64 next, (.slice ea ee.length ec), (.slice oa eo.length oc), .int .i64 fails, .int .i64 at_] 24)).alloc (.cells #[.string ⟨#[]⟩, .int .i64 0, .slice none 0 0, .slice none 0 0, .int .i64 0, .int .i64 0] 24)) w.heap.size 24 #[.string to, .int .i64 next, (.slice ea ee.length ec), (.slice oa eo.length oc), .int .i64 fails, .int .i64 at_] := (Whole.new w 24 #[.string to, .int .i64 next, (.slice ea ee.length ec), (.slice oa eo.length oc), .int .i64 fails, .int .i64 at_]).on ((Below.refl _ _).alloc (Nat.le_refl _) _)
  have B2 : Whole ((w.alloc (.cells #[.string to, .int .i64 next, (.slice ea ee.length ec), (.slice oa eo.length oc), .int .i64 fails, .int .i64 at_] 24)).alloc (.cells #[.string ⟨#[]⟩, .int .i64 0, .slice none 0 0, .slice none 0 0, .int .i64 0, .int .i64 0] 24)) (w.heap.size + 1) 24 #[.string ⟨#[]⟩, .int .i64 0, .slice none 0 0, .slice none 0 0, .int .i64 0, .int .i64 0] := by
    have := Whole.new (w.alloc (.cells #[.string to, .int .i64 next, (.slice ea ee.length ec), (.slice oa eo.length oc), .int .i64 fails, .int .i64 at_] 24)) 24 #[.string ⟨#[]⟩, .int .i64 0, .slice none 0 0, .slice none 0 0, .int .i64 0, .int .i64 0]
    rwa [size_alloc'] at this
  obtain ⟨w1, hw1⟩ : ∃ w1, w1 = (w.alloc (.cells #[.string to, .int .i64 next, (.slice ea ee.length ec), (.slice oa eo.length oc), .int .i64 fails, .int .i64 at_] 24)).alloc (.cells #[.string ⟨#[]⟩, .int .i64 0, .slice none 0 0, .slice none 0 0, .int .i64 0, .int .i64 0] 24) := ⟨_, rfl⟩
  try rw [← hw1] at B1 B2 q0 ⊢
  clear hw1
  refine (rWait fails _).mono ?_
  rintro x w2 ⟨rfl, hb⟩
  replace B1 := B1.on hb
  replace B2 := B2.on hb
  have q2 := q0.trans (hb.mono q0.size)
  clear hb q0
  have hwb := waitOf_b fails
  generalize hwt : waitOf fails = wt at *
  have HW := Lib.hid hwt
  clear hwt
  go_wp2_with fail
  refine (rAdd now wt _).mono ?_
  rintro x w3 ⟨rfl, hb⟩
  replace B1 := B1.on hb
  replace B2 := B2.on hb
  have q3 := q2.trans (hb.mono q2.size)
  clear hb q2 hwb
  generalize hzz : addC now wt = z at *
  have HZ := Lib.hid hzz
  clear hzz
  have l1 := B1.lt
  have l2 := B2.lt
  have c0 := B1.cell 0
  have d0 := B2.cell 0
  have c1 := B1.cell 1
  have d1 := B2.cell 1
  have c2 := B1.cell 2
  have d2 := B2.cell 2
  have c3 := B1.cell 3
  have d3 := B2.cell 3
  have c4 := B1.cell 4
  have d4 := B2.cell 4
  have c5 := B1.cell 5
  have d5 := B2.cell 5
  simp at c0 d0 c1 d1 c2 d2 c3 d3 c4 d4 c5 d5
  have f0 := B1.free 0
  have k0 := B2.free 0
  have f1 := B1.free 1
  have k1 := B2.free 1
  have f2 := B1.free 2
  have k2 := B2.free 2
  have f3 := B1.free 3
  have k3 := B2.free 3
  have f4 := B1.free 4
  have k4 := B2.free 4
  have f5 := B1.free 5
  have k5 := B2.free 5
  clear B1 B2
  go_wp2_with fail
  refine bodyPost_ret (v := .agg #[.string to, .int .i64 next, (.slice ea ee.length ec), (.slice oa eo.length oc), .int .i64 (fails + 1), .int .i64 z]) (by simp [results, Try.results22, go_sem, c0, c1, c2, c3, c4, c5, d0, d1, d2, d3, d4, d5]) rfl ⟨by have h1 := HW.out; have h2 := HZ.out; subst h1; subst h2; rfl, ?_⟩
  repeat (first | with_reducible exact q3 | with_reducible exact Below.refl _ _ | refine Below.setCell ?_ (by first | omega | (simp; done) | (simp; omega)) _ | refine Below.alloc ?_ (by first | omega | (simp; done) | (simp; omega)) _)

set_option maxRecDepth 100000 in
set_option maxHeartbeats 1000000 in
theorem rFailNo (to : ByteArray) (next : Int) (ev op : Value) (fails at_ : Int) (now : Int) (eo ee : List (List Value)) (w : World) (ho : Evs w op eo) (he : Evs w ev ee) (h : eo.length = 0 ∨ 1000000000000 ≤ fails) :
    Calls Try.prog 22 #[.agg #[.string to, .int .i64 next, ev, op, .int .i64 fails, .int .i64 at_], .int .i64 now] w fun x w' => x = .returned (.agg #[.string to, .int .i64 next, ev, op, .int .i64 fails, .int .i64 at_]) ∧ Below w.heap.size w w' := by
  obtain ⟨oa, oc, rfl, hoc1, hoc2⟩ := ho.form
  obtain ⟨ea, ec, rfl, hec1, hec2⟩ := he.form
  clear ho he
  by_cases h0 : eo.length = 0
  · have e0 : ((eo.length : Int) == 0) = true := beq_iff_eq.2 (by omega)
    clear h
    go_enter Try.func22, Try.ntmps22
    go_wp2_with fail
    refine bodyPost_ret (v := .agg #[.string to, .int .i64 next, (.slice ea ee.length ec), (.slice oa eo.length oc), .int .i64 fails, .int .i64 at_]) (by simp [results, Try.results22, go_sem]; try omega) rfl ⟨rfl, ?_⟩
    repeat (first | with_reducible exact q3 | with_reducible exact Below.refl _ _ | refine Below.setCell ?_ (by first | omega | (simp; done) | (simp; omega)) _ | refine Below.alloc ?_ (by first | omega | (simp; done) | (simp; omega)) _)
  · have e0 : ((eo.length : Int) == 0) = false := beq_eq_false_iff_ne.2 (by omega)
    have h1 : 1000000000000 ≤ fails := by omega
    clear h
    go_enter Try.func22, Try.ntmps22
    go_wp2_with fail
    refine bodyPost_ret (v := .agg #[.string to, .int .i64 next, (.slice ea ee.length ec), (.slice oa eo.length oc), .int .i64 fails, .int .i64 at_]) (by simp [results, Try.results22, go_sem]; try omega) rfl ⟨rfl, ?_⟩
    repeat (first | with_reducible exact q3 | with_reducible exact Below.refl _ _ | refine Below.setCell ?_ (by first | omega | (simp; done) | (simp; omega)) _ | refine Below.alloc ?_ (by first | omega | (simp; done) | (simp; omega)) _)

set_option maxRecDepth 100000 in
set_option maxHeartbeats 1000000 in
theorem qFailNo (to : ByteArray) (next : Int) (ev op : Value) (fails at_ : Int) (now : Int) (eo ee : List (List Value)) (w : World) (ho : Evs w op eo) (he : Evs w ev ee) (h : eo.length = 0 ∨ 1000000000000 ≤ fails) :
    Calls Try.prog 20 #[.agg #[.string to, .int .i64 next, ev, op, .int .i64 fails, .int .i64 at_], .int .i64 now] w fun x w' => x = .returned (.agg #[.string to, .int .i64 next, ev, op, .int .i64 fails, .int .i64 at_]) ∧ Below w.heap.size w w' := by
  obtain ⟨oa, oc, rfl, hoc1, hoc2⟩ := ho.form
  obtain ⟨ea, ec, rfl, hec1, hec2⟩ := he.form
  clear ho he
  by_cases h0 : eo.length = 0
  · have e0 : ((eo.length : Int) == 0) = true := beq_iff_eq.2 (by omega)
    clear h
    go_enter Try.func20, Try.ntmps20
    go_wp2_with fail
    refine bodyPost_ret (v := .agg #[.string to, .int .i64 next, (.slice ea ee.length ec), (.slice oa eo.length oc), .int .i64 fails, .int .i64 at_]) (by simp [results, Try.results20, go_sem]; try omega) rfl ⟨rfl, ?_⟩
    repeat (first | with_reducible exact q3 | with_reducible exact Below.refl _ _ | refine Below.setCell ?_ (by first | omega | (simp; done) | (simp; omega)) _ | refine Below.alloc ?_ (by first | omega | (simp; done) | (simp; omega)) _)
  · have e0 : ((eo.length : Int) == 0) = false := beq_eq_false_iff_ne.2 (by omega)
    have h1 : 1000000000000 ≤ fails := by omega
    clear h
    go_enter Try.func20, Try.ntmps20
    go_wp2_with fail
    refine bodyPost_ret (v := .agg #[.string to, .int .i64 next, (.slice ea ee.length ec), (.slice oa eo.length oc), .int .i64 fails, .int .i64 at_]) (by simp [results, Try.results20, go_sem]; try omega) rfl ⟨rfl, ?_⟩
    repeat (first | with_reducible exact q3 | with_reducible exact Below.refl _ _ | refine Below.setCell ?_ (by first | omega | (simp; done) | (simp; omega)) _ | refine Below.alloc ?_ (by first | omega | (simp; done) | (simp; omega)) _)

end Go.Proofs.Ytfebldoplobkdaa
