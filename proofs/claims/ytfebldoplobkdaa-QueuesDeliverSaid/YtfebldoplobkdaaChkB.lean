/- The program's Check accepts a right queue. -/
import Derived.Test.YtfebldoplobkdaaChk
namespace Go.Proofs.Ytfebldoplobkdaa
open Go.ChangeShapes Go.WideShapes Go.ChangeAt Go.RowKit

set_option maxRecDepth 100000 in
set_option maxHeartbeats 1000000 in
theorem fails0 (to : ByteArray) (next : Int) (ev op : Value) (fails at_ : Int) (eo ee : List (List Value)) (w : World) (ho : Evs w op eo) (he : Evs w ev ee) (R : Right to next ee eo fails at_) :
    Calls Try.prog 30 #[.agg #[.string to, .int .i64 next, ev, op, .int .i64 fails, .int .i64 at_], .int .i64 0] w fun x w' => x = .returned (.int .i64 0) ∧ Below w.heap.size w w' := by
  obtain ⟨HS, r1, r2, r3, r4, r5, r6, r7, r8, nd, s1, s2⟩ := R
  have q0 : Below w.heap.size w (w.alloc (.cells #[.string to, .int .i64 next, ev, op, .int .i64 fails, .int .i64 at_] 24)) := (Below.refl _ _).alloc (Nat.le_refl _) _
  have B := Whole.new w 24 #[.string to, .int .i64 next, ev, op, .int .i64 fails, .int .i64 at_]
  have hs32 : to.size ≤ 32 := HS.hi
  have HSr := Lib.hid HS
  have ND := Lib.hid nd
  have S1 := Lib.hid s1
  have S2 := Lib.hid s2
  clear HS nd s1 s2
  obtain ⟨oa, oc, rfl, hoc1, hoc2⟩ := ho.form
  obtain ⟨ea, ec, rfl, hec1, hec2⟩ := he.form
  clear ho he
  by_cases h0 : eo.length = 0
  · have e0 : ((eo.length : Int) == 0) = true := beq_iff_eq.2 (by omega)
    clear h0
    go_enter Try.func30, Try.ntmps30
    go_wp2_with fail
    refine (Server_yes to _ (by omega) HSr.out).mono ?_
    rintro x w1 ⟨rfl, hb⟩
    replace q0 := q0.trans (hb.mono q0.size)
    clear hb
    go_wp2_with fail
    go_ret
    exact ⟨rfl, q0⟩
  · have e0 : ((eo.length : Int) == 0) = false := beq_eq_false_iff_ne.2 (by omega)
    clear h0
    go_enter Try.func30, Try.ntmps30
    go_wp2_with fail
    refine (Server_yes to _ (by omega) HSr.out).mono ?_
    rintro x w1 ⟨rfl, hb⟩
    replace q0 := q0.trans (hb.mono q0.size)
    clear hb
    go_wp2_with fail
    go_ret
    exact ⟨rfl, q0⟩

set_option maxRecDepth 100000 in
set_option maxHeartbeats 1000000 in
theorem fails1 (to : ByteArray) (next : Int) (ev op : Value) (fails at_ : Int) (eo ee : List (List Value)) (w : World) (ho : Evs w op eo) (he : Evs w ev ee) (R : Right to next ee eo fails at_) :
    Calls Try.prog 30 #[.agg #[.string to, .int .i64 next, ev, op, .int .i64 fails, .int .i64 at_], .int .i64 1] w fun x w' => x = .returned (.int .i64 0) ∧ Below w.heap.size w w' := by
  obtain ⟨HS, r1, r2, r3, r4, r5, r6, r7, r8, nd, s1, s2⟩ := R
  have q0 : Below w.heap.size w (w.alloc (.cells #[.string to, .int .i64 next, ev, op, .int .i64 fails, .int .i64 at_] 24)) := (Below.refl _ _).alloc (Nat.le_refl _) _
  have B := Whole.new w 24 #[.string to, .int .i64 next, ev, op, .int .i64 fails, .int .i64 at_]
  have hs32 : to.size ≤ 32 := HS.hi
  have HSr := Lib.hid HS
  have ND := Lib.hid nd
  have S1 := Lib.hid s1
  have S2 := Lib.hid s2
  clear HS nd s1 s2
  obtain ⟨oa, oc, rfl, hoc1, hoc2⟩ := ho.form
  obtain ⟨ea, ec, rfl, hec1, hec2⟩ := he.form
  clear ho he
  by_cases h0 : eo.length = 0
  · have e0 : ((eo.length : Int) == 0) = true := beq_iff_eq.2 (by omega)
    clear h0
    go_enter Try.func30, Try.ntmps30
    go_wp2_with fail
    go_ret
    exact ⟨rfl, q0⟩
  · have e0 : ((eo.length : Int) == 0) = false := beq_eq_false_iff_ne.2 (by omega)
    clear h0
    go_enter Try.func30, Try.ntmps30
    go_wp2_with fail
    go_ret
    exact ⟨rfl, q0⟩

set_option maxRecDepth 100000 in
set_option maxHeartbeats 1000000 in
theorem fails2 (to : ByteArray) (next : Int) (ev op : Value) (fails at_ : Int) (eo ee : List (List Value)) (w : World) (ho : Evs w op eo) (he : Evs w ev ee) (R : Right to next ee eo fails at_) :
    Calls Try.prog 30 #[.agg #[.string to, .int .i64 next, ev, op, .int .i64 fails, .int .i64 at_], .int .i64 2] w fun x w' => x = .returned (.int .i64 0) ∧ Below w.heap.size w w' := by
  obtain ⟨HS, r1, r2, r3, r4, r5, r6, r7, r8, nd, s1, s2⟩ := R
  have q0 : Below w.heap.size w (w.alloc (.cells #[.string to, .int .i64 next, ev, op, .int .i64 fails, .int .i64 at_] 24)) := (Below.refl _ _).alloc (Nat.le_refl _) _
  have B := Whole.new w 24 #[.string to, .int .i64 next, ev, op, .int .i64 fails, .int .i64 at_]
  have hs32 : to.size ≤ 32 := HS.hi
  have HSr := Lib.hid HS
  have ND := Lib.hid nd
  have S1 := Lib.hid s1
  have S2 := Lib.hid s2
  clear HS nd s1 s2
  obtain ⟨oa, oc, rfl, hoc1, hoc2⟩ := ho.form
  obtain ⟨ea, ec, rfl, hec1, hec2⟩ := he.form
  clear ho he
  by_cases h0 : eo.length = 0
  · have e0 : ((eo.length : Int) == 0) = true := beq_iff_eq.2 (by omega)
    clear h0
    go_enter Try.func30, Try.ntmps30
    go_wp2_with fail
    go_ret
    exact ⟨rfl, q0⟩
  · have e0 : ((eo.length : Int) == 0) = false := beq_eq_false_iff_ne.2 (by omega)
    clear h0
    go_enter Try.func30, Try.ntmps30
    go_wp2_with fail
    go_ret
    exact ⟨rfl, q0⟩

set_option maxRecDepth 100000 in
set_option maxHeartbeats 1000000 in
theorem fails3 (to : ByteArray) (next : Int) (ev op : Value) (fails at_ : Int) (eo ee : List (List Value)) (w : World) (ho : Evs w op eo) (he : Evs w ev ee) (R : Right to next ee eo fails at_) :
    Calls Try.prog 30 #[.agg #[.string to, .int .i64 next, ev, op, .int .i64 fails, .int .i64 at_], .int .i64 3] w fun x w' => x = .returned (.int .i64 0) ∧ Below w.heap.size w w' := by
  obtain ⟨HS, r1, r2, r3, r4, r5, r6, r7, r8, nd, s1, s2⟩ := R
  have q0 : Below w.heap.size w (w.alloc (.cells #[.string to, .int .i64 next, ev, op, .int .i64 fails, .int .i64 at_] 24)) := (Below.refl _ _).alloc (Nat.le_refl _) _
  have B := Whole.new w 24 #[.string to, .int .i64 next, ev, op, .int .i64 fails, .int .i64 at_]
  have hs32 : to.size ≤ 32 := HS.hi
  have HSr := Lib.hid HS
  have ND := Lib.hid nd
  have S1 := Lib.hid s1
  have S2 := Lib.hid s2
  clear HS nd s1 s2
  have ho1 := ho.on q0
  have he1 := he.on q0
  obtain ⟨oa, oc, rfl, hoc1, hoc2⟩ := ho.form
  obtain ⟨ea, ec, rfl, hec1, hec2⟩ := he.form
  clear ho he
  by_cases h0 : eo.length = 0
  · have e0 : ((eo.length : Int) == 0) = true := beq_iff_eq.2 (by omega)
    clear h0
    go_enter Try.func30, Try.ntmps30
    go_wp2_with fail
    refine (qSize _ _ _ _ _ _ eo ee _ ho1 he1 (by omega)).mono ?_
    rintro x w1 ⟨rfl, hb⟩
    replace q0 := q0.trans (hb.mono q0.size)
    clear hb ho1 he1
    go_wp2_with fail
    go_ret
    exact ⟨rfl, q0⟩
  · have e0 : ((eo.length : Int) == 0) = false := beq_eq_false_iff_ne.2 (by omega)
    clear h0
    go_enter Try.func30, Try.ntmps30
    go_wp2_with fail
    refine (qSize _ _ _ _ _ _ eo ee _ ho1 he1 (by omega)).mono ?_
    rintro x w1 ⟨rfl, hb⟩
    replace q0 := q0.trans (hb.mono q0.size)
    clear hb ho1 he1
    go_wp2_with fail
    go_ret
    exact ⟨rfl, q0⟩

set_option maxRecDepth 100000 in
set_option maxHeartbeats 1000000 in
theorem fails4 (to : ByteArray) (next : Int) (ev op : Value) (fails at_ : Int) (eo ee : List (List Value)) (w : World) (ho : Evs w op eo) (he : Evs w ev ee) (R : Right to next ee eo fails at_) :
    Calls Try.prog 30 #[.agg #[.string to, .int .i64 next, ev, op, .int .i64 fails, .int .i64 at_], .int .i64 4] w fun x w' => x = .returned (.int .i64 0) ∧ Below w.heap.size w w' := by
  obtain ⟨HS, r1, r2, r3, r4, r5, r6, r7, r8, nd, s1, s2⟩ := R
  have q0 : Below w.heap.size w (w.alloc (.cells #[.string to, .int .i64 next, ev, op, .int .i64 fails, .int .i64 at_] 24)) := (Below.refl _ _).alloc (Nat.le_refl _) _
  have B := Whole.new w 24 #[.string to, .int .i64 next, ev, op, .int .i64 fails, .int .i64 at_]
  have hs32 : to.size ≤ 32 := HS.hi
  have HSr := Lib.hid HS
  have ND := Lib.hid nd
  have S1 := Lib.hid s1
  have S2 := Lib.hid s2
  clear HS nd s1 s2
  have ho1 := ho.on q0
  have he1 := he.on q0
  obtain ⟨oa, oc, rfl, hoc1, hoc2⟩ := ho.form
  obtain ⟨ea, ec, rfl, hec1, hec2⟩ := he.form
  clear ho he
  by_cases h0 : eo.length = 0
  · have e0 : ((eo.length : Int) == 0) = true := beq_iff_eq.2 (by omega)
    clear h0
    go_enter Try.func30, Try.ntmps30
    go_wp2_with fail
    refine (qEvents _ _ _ _ _ _ eo ee _ ho1 he1 (by omega)).mono ?_
    rintro x w1 ⟨v, rfl, hv, hb⟩
    replace q0 := q0.trans (hb.mono q0.size)
    clear hb ho1 he1
    go_wp2_with fail
    refine (twice_any v _ _ hv).mono ?_
    rintro x w2 ⟨r, rfl, hr, hb⟩
    obtain rfl : r = false := by
      cases r with
      | false => rfl
      | true => exact absurd ND.out (hr.1 rfl)
    replace q0 := q0.trans (hb.mono q0.size)
    clear hb hr hv
    go_wp2_with fail
    go_ret
    exact ⟨rfl, q0⟩
  · have e0 : ((eo.length : Int) == 0) = false := beq_eq_false_iff_ne.2 (by omega)
    clear h0
    go_enter Try.func30, Try.ntmps30
    go_wp2_with fail
    refine (qEvents _ _ _ _ _ _ eo ee _ ho1 he1 (by omega)).mono ?_
    rintro x w1 ⟨v, rfl, hv, hb⟩
    replace q0 := q0.trans (hb.mono q0.size)
    clear hb ho1 he1
    go_wp2_with fail
    refine (twice_any v _ _ hv).mono ?_
    rintro x w2 ⟨r, rfl, hr, hb⟩
    obtain rfl : r = false := by
      cases r with
      | false => rfl
      | true => exact absurd ND.out (hr.1 rfl)
    replace q0 := q0.trans (hb.mono q0.size)
    clear hb hr hv
    go_wp2_with fail
    go_ret
    exact ⟨rfl, q0⟩

set_option maxRecDepth 100000 in
set_option maxHeartbeats 1000000 in
theorem fails5 (to : ByteArray) (next : Int) (ev op : Value) (fails at_ : Int) (eo ee : List (List Value)) (w : World) (ho : Evs w op eo) (he : Evs w ev ee) (R : Right to next ee eo fails at_) :
    Calls Try.prog 30 #[.agg #[.string to, .int .i64 next, ev, op, .int .i64 fails, .int .i64 at_], .int .i64 5] w fun x w' => x = .returned (.int .i64 0) ∧ Below w.heap.size w w' := by
  obtain ⟨HS, r1, r2, r3, r4, r5, r6, r7, r8, nd, s1, s2⟩ := R
  have q0 : Below w.heap.size w (w.alloc (.cells #[.string to, .int .i64 next, ev, op, .int .i64 fails, .int .i64 at_] 24)) := (Below.refl _ _).alloc (Nat.le_refl _) _
  have B := Whole.new w 24 #[.string to, .int .i64 next, ev, op, .int .i64 fails, .int .i64 at_]
  have hs32 : to.size ≤ 32 := HS.hi
  have HSr := Lib.hid HS
  have ND := Lib.hid nd
  have S1 := Lib.hid s1
  have S2 := Lib.hid s2
  clear HS nd s1 s2
  obtain ⟨oa, oc, rfl, hoc1, hoc2⟩ := ho.form
  obtain ⟨ea, ec, rfl, hec1, hec2⟩ := he.form
  clear ho he
  by_cases h0 : eo.length = 0
  · have e0 : ((eo.length : Int) == 0) = true := beq_iff_eq.2 (by omega)
    obtain ⟨rfl, rfl⟩ := S1.out h0
    clear h0 S1 S2
    go_enter Try.func30, Try.ntmps30
    go_wp2_with fail
    go_ret
    exact ⟨rfl, q0⟩
  · have e0 : ((eo.length : Int) == 0) = false := beq_eq_false_iff_ne.2 (by omega)
    have e1 : (next == 0) = false := beq_eq_false_iff_ne.2 (S2.out (by omega))
    clear h0 S1 S2
    go_enter Try.func30, Try.ntmps30
    go_wp2_with fail
    go_ret
    exact ⟨rfl, q0⟩

set_option maxRecDepth 100000 in
set_option maxHeartbeats 1000000 in
theorem qCheck (to : ByteArray) (next : Int) (ev op : Value) (fails at_ : Int) (eo ee : List (List Value)) (w : World) (ho : Evs w op eo) (he : Evs w ev ee) (R : Right to next ee eo fails at_) :
    Calls Try.prog 14 #[.agg #[.string to, .int .i64 next, ev, op, .int .i64 fails, .int .i64 at_]] w fun x w' => x = .returned (.int .i64 0) ∧ Below w.heap.size w w' := by
  have HR := Lib.hid R
  clear R
  have q0 : Below w.heap.size w (w.alloc (.cells #[.string to, .int .i64 next, ev, op, .int .i64 fails, .int .i64 at_] 24)) := (Below.refl _ _).alloc (Nat.le_refl _) _
  have B := Whole.new w 24 #[.string to, .int .i64 next, ev, op, .int .i64 fails, .int .i64 at_]
  have ho1 := ho.on q0
  have he1 := he.on q0
  clear ho he
  go_enter Try.func14, Try.ntmps14
  go_wp2_with fail
  refine wp_loop_rounds 7 ?_
  rw [rounds_succ]
  go_wp2_with fail
  refine (fails0 _ _ _ _ _ _ eo ee _ ho1 he1 HR.out).mono ?_
  rintro x w1 ⟨rfl, hb⟩
  replace B := B.on hb
  replace ho1 := ho1.on hb
  replace he1 := he1.on hb
  replace q0 := q0.trans (hb.mono q0.size)
  clear hb
  try clear c0 z0
  have c0 := B.cell
  have z0 := B.lt
  go_wp2_with fail
  rw [rounds_succ]
  go_wp2_with fail
  refine (fails1 _ _ _ _ _ _ eo ee _ ho1 he1 HR.out).mono ?_
  rintro x w2 ⟨rfl, hb⟩
  replace B := B.on hb
  replace ho1 := ho1.on hb
  replace he1 := he1.on hb
  replace q0 := q0.trans (hb.mono q0.size)
  clear hb
  try clear c0 z0
  have c0 := B.cell
  have z0 := B.lt
  go_wp2_with fail
  rw [rounds_succ]
  go_wp2_with fail
  refine (fails2 _ _ _ _ _ _ eo ee _ ho1 he1 HR.out).mono ?_
  rintro x w3 ⟨rfl, hb⟩
  replace B := B.on hb
  replace ho1 := ho1.on hb
  replace he1 := he1.on hb
  replace q0 := q0.trans (hb.mono q0.size)
  clear hb
  try clear c0 z0
  have c0 := B.cell
  have z0 := B.lt
  go_wp2_with fail
  rw [rounds_succ]
  go_wp2_with fail
  refine (fails3 _ _ _ _ _ _ eo ee _ ho1 he1 HR.out).mono ?_
  rintro x w4 ⟨rfl, hb⟩
  replace B := B.on hb
  replace ho1 := ho1.on hb
  replace he1 := he1.on hb
  replace q0 := q0.trans (hb.mono q0.size)
  clear hb
  try clear c0 z0
  have c0 := B.cell
  have z0 := B.lt
  go_wp2_with fail
  rw [rounds_succ]
  go_wp2_with fail
  refine (fails4 _ _ _ _ _ _ eo ee _ ho1 he1 HR.out).mono ?_
  rintro x w5 ⟨rfl, hb⟩
  replace B := B.on hb
  replace ho1 := ho1.on hb
  replace he1 := he1.on hb
  replace q0 := q0.trans (hb.mono q0.size)
  clear hb
  try clear c0 z0
  have c0 := B.cell
  have z0 := B.lt
  go_wp2_with fail
  rw [rounds_succ]
  go_wp2_with fail
  refine (fails5 _ _ _ _ _ _ eo ee _ ho1 he1 HR.out).mono ?_
  rintro x w6 ⟨rfl, hb⟩
  replace B := B.on hb
  replace ho1 := ho1.on hb
  replace he1 := he1.on hb
  replace q0 := q0.trans (hb.mono q0.size)
  clear hb
  try clear c0 z0
  have c0 := B.cell
  have z0 := B.lt
  go_wp2_with fail
  rw [rounds_succ]
  go_wp2_with fail
  go_ret
  exact ⟨rfl, q0⟩

end Go.Proofs.Ytfebldoplobkdaa
