/- Open, every case, on both sides. -/
import Derived.Test.YtfebldoplobkdaaOpenQ
import Derived.Test.YtfebldoplobkdaaOpenR
import Derived.Test.YtfebldoplobkdaaOpenN
import Derived.Test.YtfebldoplobkdaaOpenO
import Derived.Test.YtfebldoplobkdaaOpenS1
import Derived.Test.YtfebldoplobkdaaOpenS2
import Derived.Test.YtfebldoplobkdaaOpenS3
namespace Go.Proofs.Ytfebldoplobkdaa
open Go.ChangeShapes Go.WideShapes Go.ChangeAt Go.RowKit

/-- Are events taken into a transaction? -/
def takes (next : Int) (eo ee : List (List Value)) : Bool := decide (eo.length = 0) && decide (0 < ee.length) && decide (next < 1000000000000)
def oN (next : Int) (eo ee : List (List Value)) : Int := if takes next eo ee then next + 1 else next
def oO (next : Int) (eo ee : List (List Value)) : List (List Value) := if takes next eo ee then ee.take 50 else eo
def oE (next : Int) (eo ee : List (List Value)) : List (List Value) := if takes next eo ee then ee.drop 50 else ee
def oK (next at_ now : Int) (eo ee : List (List Value)) : Bool := takes next eo ee || (decide (0 < eo.length) && decide (at_ ≤ now))

theorem qOpen_any (to : ByteArray) (next : Int) (ev op : Value) (fails at_ : Int) (now : Int) (eo ee : List (List Value)) (w : World) (ho : Evs w op eo) (he : Evs w ev ee) (hs : eo.length ≤ 100000 ∧ ee.length ≤ 100000) (hn : 0 ≤ next ∧ next ≤ 1000000000000) :
    Calls Try.prog 16 #[.agg #[.string to, .int .i64 next, ev, op, .int .i64 fails, .int .i64 at_], .int .i64 now] w (OpenPost to (oN next eo ee) fails at_ (oO next eo ee) (oE next eo ee) (oK next at_ now eo ee) w) := by
  by_cases h0 : 0 < eo.length
  · have e : takes next eo ee = false := by
      have : ¬ eo.length = 0 := by omega
      simp only [takes, this, decide_false, Bool.false_and]
    by_cases h1 : at_ ≤ now
    · have := qOpenAgain to next ev op fails at_ now eo ee w ho he hs hn h0 h1
      simpa only [oN, oO, oE, oK, e, h0, h1, decide_true, Bool.and_true, Bool.false_or, if_false, Bool.false_eq_true] using this
    · have := qOpenLate to next ev op fails at_ now eo ee w ho he hs hn h0 (by omega)
      simpa only [oN, oO, oE, oK, e, h0, h1, decide_true, decide_false, Bool.and_false, Bool.false_or, if_false, Bool.false_eq_true] using this
  · by_cases h1 : 0 < ee.length
    · by_cases h2 : next < 1000000000000
      · have e : takes next eo ee = true := by
          have : eo.length = 0 := by omega
          simp only [takes, this, h1, h2, decide_true, Bool.and_true]
        have goal : Calls Try.prog 16 #[.agg #[.string to, .int .i64 next, ev, op, .int .i64 fails, .int .i64 at_], .int .i64 now] w (OpenPost to (next + 1) fails at_ (ee.take 50) (ee.drop 50) true w) := by
          by_cases h3 : 50 < ee.length
          · exact qOpenNew50 to next ev op fails at_ now eo ee w ho he hs hn h0 h3 h2
          · have e1 : ee.take 50 = ee := List.take_of_length_le (by omega)
            have e2 : ee.drop 50 = [] := List.drop_eq_nil_of_le (by omega)
            rw [e1, e2]
            obtain ⟨ea, ec, hev, hc1, hc2⟩ := he.form
            by_cases hc : ec = ee.length
            · subst hc
              exact qOpenNewTight to next ev op fails at_ now eo ee w ho he hs hn ea hev h0 h1 (by omega) h2
            · exact qOpenNewRoom to next ev op fails at_ now eo ee w ho he hs hn ea ec hev hc h0 h1 (by omega) h2
        simpa only [oN, oO, oE, oK, e, Bool.true_or, if_true] using goal
      · have e : takes next eo ee = false := by simp only [takes, h2, decide_false, Bool.and_false]
        have := qOpenNone to next ev op fails at_ now eo ee w ho he hs hn (by omega) (.inr (by omega))
        simpa only [oN, oO, oE, oK, e, h0, decide_false, Bool.false_and, Bool.false_or, if_false, Bool.false_eq_true] using this
    · have e : takes next eo ee = false := by simp only [takes, h1, decide_false, Bool.and_false, Bool.false_and]
      have := qOpenNone to next ev op fails at_ now eo ee w ho he hs hn (by omega) (.inl (by omega))
      simpa only [oN, oO, oE, oK, e, h0, decide_false, Bool.false_and, Bool.false_or, if_false, Bool.false_eq_true] using this

theorem rOpen_any (to : ByteArray) (next : Int) (ev op : Value) (fails at_ : Int) (now : Int) (eo ee : List (List Value)) (w : World) (ho : Evs w op eo) (he : Evs w ev ee) (hs : eo.length ≤ 100000 ∧ ee.length ≤ 100000) (hn : 0 ≤ next ∧ next ≤ 1000000000000) :
    Calls Try.prog 17 #[.agg #[.string to, .int .i64 next, ev, op, .int .i64 fails, .int .i64 at_], .int .i64 now] w (OpenPost to (oN next eo ee) fails at_ (oO next eo ee) (oE next eo ee) (oK next at_ now eo ee) w) := by
  by_cases h0 : 0 < eo.length
  · have e : takes next eo ee = false := by
      have : ¬ eo.length = 0 := by omega
      simp only [takes, this, decide_false, Bool.false_and]
    by_cases h1 : at_ ≤ now
    · have := rOpenAgain to next ev op fails at_ now eo ee w ho he hs hn h0 h1
      simpa only [oN, oO, oE, oK, e, h0, h1, decide_true, Bool.and_true, Bool.false_or, if_false, Bool.false_eq_true] using this
    · have := rOpenLate to next ev op fails at_ now eo ee w ho he hs hn h0 (by omega)
      simpa only [oN, oO, oE, oK, e, h0, h1, decide_true, decide_false, Bool.and_false, Bool.false_or, if_false, Bool.false_eq_true] using this
  · by_cases h1 : 0 < ee.length
    · by_cases h2 : next < 1000000000000
      · have e : takes next eo ee = true := by
          have : eo.length = 0 := by omega
          simp only [takes, this, h1, h2, decide_true, Bool.and_true]
        have goal : Calls Try.prog 17 #[.agg #[.string to, .int .i64 next, ev, op, .int .i64 fails, .int .i64 at_], .int .i64 now] w (OpenPost to (next + 1) fails at_ (ee.take 50) (ee.drop 50) true w) := by
          by_cases h3 : 50 < ee.length
          · exact rOpenNew50 to next ev op fails at_ now eo ee w ho he hs hn h0 h3 h2
          · have e1 : ee.take 50 = ee := List.take_of_length_le (by omega)
            have e2 : ee.drop 50 = [] := List.drop_eq_nil_of_le (by omega)
            rw [e1, e2]
            obtain ⟨ea, ec, hev, hc1, hc2⟩ := he.form
            by_cases hc : ec = ee.length
            · subst hc
              exact rOpenNewTight to next ev op fails at_ now eo ee w ho he hs hn ea hev h0 h1 (by omega) h2
            · exact rOpenNewRoom to next ev op fails at_ now eo ee w ho he hs hn ea ec hev hc h0 h1 (by omega) h2
        simpa only [oN, oO, oE, oK, e, Bool.true_or, if_true] using goal
      · have e : takes next eo ee = false := by simp only [takes, h2, decide_false, Bool.and_false]
        have := rOpenNone to next ev op fails at_ now eo ee w ho he hs hn (by omega) (.inr (by omega))
        simpa only [oN, oO, oE, oK, e, h0, decide_false, Bool.false_and, Bool.false_or, if_false, Bool.false_eq_true] using this
    · have e : takes next eo ee = false := by simp only [takes, h1, decide_false, Bool.and_false, Bool.false_and]
      have := rOpenNone to next ev op fails at_ now eo ee w ho he hs hn (by omega) (.inl (by omega))
      simpa only [oN, oO, oE, oK, e, h0, decide_false, Bool.false_and, Bool.false_or, if_false, Bool.false_eq_true] using this

end Go.Proofs.Ytfebldoplobkdaa
