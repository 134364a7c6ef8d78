/- The laws' screen valid. -/
import Derived.Test.YtfebldoplobkdaaPk
import Derived.Test.YtfebldoplobkdaaLight
namespace Go.Proofs.Ytfebldoplobkdaa
open Go.ChangeShapes Go.WideShapes Go.ChangeAt Go.RowKit

set_option maxRecDepth 100000 in
set_option maxHeartbeats 1000000 in
theorem qValid (to : ByteArray) (next : Int) (ev op : Value) (fails at_ : Int) (eo ee : List (List Value)) (w : World) (ho : Evs w op eo) (he : Evs w ev ee) (hto : to.size ≤ 9223372036854775807)
    (hn1 : -9223372036854775808 ≤ next) (hn2 : next ≤ 9223372036854775807) (hf1 : -9223372036854775808 ≤ fails) (hf2 : fails ≤ 9223372036854775807) (ha1 : -9223372036854775808 ≤ at_) (ha2 : at_ ≤ 9223372036854775807) :
    Calls Try.prog 15 #[.agg #[.string to, .int .i64 next, ev, op, .int .i64 fails, .int .i64 at_]] w (SomeBool (Right to next ee eo fails at_ ∧ ee.length ≤ 120 ∧ eo.length ≤ 60) w) := by
  have q0 : Below w.heap.size w (w.alloc (.cells #[.string to, .int .i64 next, ev, op, .int .i64 fails, .int .i64 at_] 24)) := (Below.refl _ _).alloc (Nat.le_refl _) _
  have B := Whole.new w 24 #[.string to, .int .i64 next, ev, op, .int .i64 fails, .int .i64 at_]
  have HC := Lib.hid (And.intro (And.intro hto (And.intro hn1 hn2)) (And.intro (And.intro hf1 hf2) (And.intro ha1 ha2)))
  clear hto hn1 hn2 hf1 hf2 ha1 ha2
  go_enter Try.func15, Try.ntmps15
  go_wp2_with fail
  refine (light_any ev ee 120 _ (he.on q0)).mono ?_
  rintro x w1 ⟨r, rfl, hr, hb⟩
  replace B := B.on hb
  replace q0 := q0.trans (hb.mono q0.size)
  clear hb
  cases r with
  | false =>
    clear hr B
    go_wp2_with fail
    go_ret
    exact SomeBool.no q0
  | true =>
    have h1 : ee.length ≤ 120 := by have := hr rfl; omega
    clear hr
    have c3 := B.cell 3
    simp at c3
    go_wp2_with fail
    refine (light_any op eo 60 _ (ho.on q0)).mono ?_
    rintro x w2 ⟨r, rfl, hr, hb⟩
    clear c3
    replace B := B.on hb
    replace q0 := q0.trans (hb.mono q0.size)
    clear hb
    cases r with
    | false =>
      clear hr B
      go_wp2_with fail
      go_ret
      exact SomeBool.no q0
    | true =>
      have h2 : eo.length ≤ 60 := by have := hr rfl; omega
      clear hr
      have c0 := B.cell 0
      have c1 := B.cell 1
      have c2 := B.cell 2
      have c3 := B.cell 3
      have c4 := B.cell 4
      have c5 := B.cell 5
      simp at c0 c1 c2 c3 c4 c5
      clear B
      go_wp2_with fail
      refine (rCheck_any to next ev op fails at_ eo ee _ (ho.on q0) (he.on q0) (by omega) HC.out.1.1 HC.out.1.2.1 HC.out.1.2.2 HC.out.2.1.1 HC.out.2.1.2 HC.out.2.2.1 HC.out.2.2.2).mono ?_
      rintro x w3 ⟨c, rfl, hc, hb⟩
      clear c0 c1 c2 c3 c4 c5
      replace q0 := q0.trans (hb.mono q0.size)
      clear hb
      by_cases hz : c = 0
      · have R := Lib.hid (hc hz)
        subst hz
        clear hc
        go_wp2_with fail
        go_ret
        exact SomeBool.yes q0 ⟨R.out, h1, h2⟩
      · have g : (c == 0) = false := beq_eq_false_iff_ne.2 hz
        clear hc
        go_wp2_with fail
        go_ret
        exact SomeBool.no q0

end Go.Proofs.Ytfebldoplobkdaa
