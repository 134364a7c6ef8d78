/- Open of a queue with an open transaction, ahead of its time and later. -/
import Derived.Test.YtfebldoplobkdaaLawC
namespace Go.Proofs.Ytfebldoplobkdaa
open Go.ChangeShapes Go.WideShapes Go.ChangeAt Go.RowKit

theorem qAgain0 (to : ByteArray) (next : Int) (ev op : Value) (fails at_ : Int) (now : Int) (eo ee : List (List Value)) (w0 w : World) (q : Below w0.heap.size w0 w) (ho : Ev0 w0 w op eo) (he : Ev0 w0 w ev ee) (hs : eo.length ≤ 100000 ∧ ee.length ≤ 100000) (hn : 0 ≤ next ∧ next ≤ 1000000000000) (h0 : 0 < eo.length) (h1 : at_ ≤ now) :
    Calls Try.prog 16 #[.agg #[.string to, .int .i64 next, ev, op, .int .i64 fails, .int .i64 at_], .int .i64 now] w fun x w' => ∃ v1 v2 u, x = .returned (.tuple #[.agg #[.string to, .int .i64 next, v1, v2, .int .i64 fails, .int .i64 at_], .agg #[.string ⟨#[]⟩, .string to, .int .i64 1, .int .i64 (next - 1), .string ⟨#[]⟩, u, .slice none 0 0, .slice none 0 0, .string ⟨#[]⟩, .int .i64 0], .bool true]) ∧ Ev0 w0 w' v1 ee ∧ Ev0 w0 w' v2 eo ∧ Ev0 w0 w' u eo ∧ Below w.heap.size w w' := by
  refine (qOpenAgain to next ev op fails at_ now eo ee w (ho.evs q) (he.evs q) hs hn h0 h1).mono ?_
  rintro x w' ⟨v1, v2, pc, rfl, g1, g2, g3, _, hb⟩
  obtain ⟨u, rfl, hu⟩ := g3 rfl
  exact ⟨v1, v2, u, rfl, Ev0.of g1 he.2, Ev0.of g2 ho.2, Ev0.of hu ho.2, hb⟩
theorem qLate0 (to : ByteArray) (next : Int) (ev op : Value) (fails at_ : Int) (now : Int) (eo ee : List (List Value)) (w0 w : World) (q : Below w0.heap.size w0 w) (ho : Ev0 w0 w op eo) (he : Ev0 w0 w ev ee) (hs : eo.length ≤ 100000 ∧ ee.length ≤ 100000) (hn : 0 ≤ next ∧ next ≤ 1000000000000) (h0 : 0 < eo.length) (h1 : now < at_) :
    Calls Try.prog 16 #[.agg #[.string to, .int .i64 next, ev, op, .int .i64 fails, .int .i64 at_], .int .i64 now] w fun x w' => ∃ v1 v2, x = .returned (.tuple #[.agg #[.string to, .int .i64 next, v1, v2, .int .i64 fails, .int .i64 at_], .agg #[.string ⟨#[]⟩, .string ⟨#[]⟩, .int .i64 0, .int .i64 0, .string ⟨#[]⟩, .slice none 0 0, .slice none 0 0, .slice none 0 0, .string ⟨#[]⟩, .int .i64 0], .bool false]) ∧ Ev0 w0 w' v1 ee ∧ Ev0 w0 w' v2 eo ∧ Below w.heap.size w w' := by
  refine (qOpenLate to next ev op fails at_ now eo ee w (ho.evs q) (he.evs q) hs hn h0 h1).mono ?_
  rintro x w' ⟨v1, v2, pc, rfl, g1, g2, _, g4, hb⟩
  obtain rfl := g4 rfl
  exact ⟨v1, v2, rfl, Ev0.of g1 he.2, Ev0.of g2 ho.2, hb⟩
/-- A number with its last bit turned is another number. -/
theorem xor_ne (n : Int) (h0 : 0 ≤ n) (h1 : n ≤ 1000000000000) : bits .xor .i64 n 1 ≠ n := by
  intro h
  have e : BitVec.ofInt 64 (bits .xor .i64 n 1) = BitVec.ofInt 64 n ^^^ BitVec.ofInt 64 1 := by
    generalize hr : BitVec.ofInt 64 n ^^^ BitVec.ofInt 64 1 = r
    have hb : bits .xor .i64 n 1 = IntKind.wrap .i64 (r.toNat : Int) := by rw [← hr]; rfl
    rw [hb]
    have hlt := r.isLt
    apply BitVec.eq_of_toNat_eq
    have key : ∀ m : Nat, m < 18446744073709551616 → ((if (9223372036854775808 : Int) ≤ (m : Int) % 18446744073709551616 then (m : Int) % 18446744073709551616 - 18446744073709551616 else (m : Int) % 18446744073709551616) % 18446744073709551616).toNat = m := fun m hm => by
      split <;> omega
    have := key r.toNat hlt
    have hw : ∀ m : Nat, IntKind.wrap .i64 (m : Int) = if (9223372036854775808 : Int) ≤ (m : Int) % 18446744073709551616 then (m : Int) % 18446744073709551616 - 18446744073709551616 else (m : Int) % 18446744073709551616 := fun m => by
      by_cases hc : (9223372036854775808 : Int) ≤ (m : Int) % 18446744073709551616
      · rw [if_pos hc]
        exact if_pos (show (true && decide ((9223372036854775808 : Int) ≤ (m : Int) % 18446744073709551616)) = true by simpa using hc)
      · rw [if_neg hc]
        exact if_neg (show ¬ (true && decide ((9223372036854775808 : Int) ≤ (m : Int) % 18446744073709551616)) = true by simpa using hc)
    rw [BitVec.toNat_ofInt, hw]
    exact this
  rw [h] at e
  have e2 : BitVec.ofInt 64 n ^^^ BitVec.ofInt 64 n = BitVec.ofInt 64 n ^^^ (BitVec.ofInt 64 n ^^^ BitVec.ofInt 64 1) := by rw [← e]
  rw [← BitVec.xor_assoc, BitVec.xor_self, BitVec.zero_xor] at e2
  revert e2
  decide
theorem open_ok {to : ByteArray} {next : Int} {ee eo : List (List Value)} {fails at_ now : Int} (R : Right to next ee eo fails at_) (h0 : 0 ≤ now) (h : oK next at_ now eo ee = true) : 0 < (oO next eo ee).length ∧ at_ ≤ now := by
  unfold oK at h
  unfold oO
  cases ht : takes next eo ee with
  | true =>
    simp only [takes, Bool.and_eq_true, decide_eq_true_eq] at ht
    obtain ⟨⟨h1, h2⟩, h3⟩ := ht
    have := R.s1 h1
    simp
    omega
  | false =>
    rw [ht] at h
    simpa using h
theorem addC_small (now f : Int) (h0 : 0 ≤ now) (h1 : now ≤ 1000000000) : addC now (waitOf f) = now + waitOf f := by
  have hb := waitOf_b f
  have e1 : clip now = now := by unfold clip; split <;> (try split) <;> omega
  have e2 : clip (waitOf f) = waitOf f := by unfold clip; split <;> (try split) <;> omega
  unfold addC
  rw [e1, e2]
  unfold clip
  split <;> (try split) <;> omega

end Go.Proofs.Ytfebldoplobkdaa
