/- Ack and Fail of a right queue, on both sides. -/
import Derived.Test.YtfebldoplobkdaaLaw0
namespace Go.Proofs.Ytfebldoplobkdaa
open Go.ChangeShapes Go.WideShapes Go.ChangeAt Go.RowKit

/-- Ack of a right queue: what both sides return. -/
theorem ack_any (to : ByteArray) (next fails at_ : Int) (ea oa : Option Addr) (ec oc : Nat) (ee eo : List (List Value)) (w : World) (n : Int) (HE : ∀ wx, Below w.heap.size w wx → Evs wx (.slice ea ee.length ec) ee) (HO : ∀ wx, Below w.heap.size w wx → Evs wx (.slice oa eo.length oc) eo) (R : Right to next ee eo fails at_) :
    ∃ xa xc lo xf xt, (∀ wx, Below w.heap.size w wx → Calls Try.prog 19 #[.agg #[.string to, .int .i64 next, (.slice ea ee.length ec), (.slice oa eo.length oc), .int .i64 fails, .int .i64 at_], .int .i64 n] wx fun x w' => x = .returned (.agg #[.string to, .int .i64 next, .slice ea ee.length ec, .slice xa lo.length xc, .int .i64 xf, .int .i64 xt]) ∧ Below wx.heap.size wx w') ∧ (∀ wx, Below w.heap.size w wx → Calls Try.prog 21 #[.agg #[.string to, .int .i64 next, (.slice ea ee.length ec), (.slice oa eo.length oc), .int .i64 fails, .int .i64 at_], .int .i64 n] wx fun x w' => x = .returned (.agg #[.string to, .int .i64 next, .slice ea ee.length ec, .slice xa lo.length xc, .int .i64 xf, .int .i64 xt]) ∧ Below wx.heap.size wx w') ∧ (∀ wx, Below w.heap.size w wx → Evs wx (.slice xa lo.length xc) lo) ∧ Right to next ee lo xf xt ∧ xc ≤ 9223372036854775807 := by
  have n1 := R.n1
  have n2 := R.n2
  by_cases h : 0 < eo.length ∧ n = next - 1
  · refine ⟨none, 0, [], 0, 0, fun wx q => ?_, fun wx q => ?_, fun wx q => Evs.nil, ⟨R.srv, R.n1, R.n2, by omega, by omega, by omega, by omega, by simp, by have := R.ls; simp; omega, ?_, fun _ => ⟨rfl, rfl⟩, fun h => by simp at h⟩, by omega⟩
    · exact qAckYes to next _ _ fails at_ n eo ee wx (HO wx q) (HE wx q) ⟨n1, by omega⟩ h.1 h.2
    · exact rAckYes to next _ _ fails at_ n eo ee wx (HO wx q) (HE wx q) ⟨n1, by omega⟩ h.1 h.2
    · have := R.nd
      rw [List.map_append] at this
      exact (List.nodup_append.1 this).2.1
  · refine ⟨oa, oc, eo, fails, at_, fun wx q => ?_, fun wx q => ?_, HO, R, ?_⟩
    · exact qAckNo to next _ _ fails at_ n eo ee wx (HO wx q) (HE wx q) ⟨n1, by omega⟩ h
    · exact rAckNo to next _ _ fails at_ n eo ee wx (HO wx q) (HE wx q) ⟨n1, by omega⟩ h
    · exact (Evs.caps (HO w (Below.refl _ _))).2
/-- Fail of a right queue: what both sides return. -/
theorem fail_any (to : ByteArray) (next fails at_ : Int) (ea oa : Option Addr) (ec oc : Nat) (ee eo : List (List Value)) (w : World) (now : Int) (HE : ∀ wx, Below w.heap.size w wx → Evs wx (.slice ea ee.length ec) ee) (HO : ∀ wx, Below w.heap.size w wx → Evs wx (.slice oa eo.length oc) eo) (R : Right to next ee eo fails at_) :
    ∃ yf yt, (∀ wx, Below w.heap.size w wx → Calls Try.prog 20 #[.agg #[.string to, .int .i64 next, (.slice ea ee.length ec), (.slice oa eo.length oc), .int .i64 fails, .int .i64 at_], .int .i64 now] wx fun x w' => x = .returned (.agg #[.string to, .int .i64 next, .slice ea ee.length ec, .slice oa eo.length oc, .int .i64 yf, .int .i64 yt]) ∧ Below wx.heap.size wx w') ∧ (∀ wx, Below w.heap.size w wx → Calls Try.prog 22 #[.agg #[.string to, .int .i64 next, (.slice ea ee.length ec), (.slice oa eo.length oc), .int .i64 fails, .int .i64 at_], .int .i64 now] wx fun x w' => x = .returned (.agg #[.string to, .int .i64 next, .slice ea ee.length ec, .slice oa eo.length oc, .int .i64 yf, .int .i64 yt]) ∧ Below wx.heap.size wx w') ∧ Right to next ee eo yf yt := by
  have f1 := R.f1
  have f2 := R.f2
  by_cases h : 0 < eo.length ∧ fails < 1000000000000
  · have hb := clip_b (clip now + clip (waitOf fails))
    refine ⟨fails + 1, addC now (waitOf fails), fun wx q => qFailYes to next _ _ fails at_ now eo ee wx (HO wx q) (HE wx q) h.1 f1 h.2, fun wx q => rFailYes to next _ _ fails at_ now eo ee wx (HO wx q) (HE wx q) h.1 f1 h.2,
      ⟨R.srv, R.n1, R.n2, by omega, by omega, hb.1, hb.2, R.lo, R.ls, R.nd, fun h0 => by omega, R.s2⟩⟩
  · have h' : eo.length = 0 ∨ 1000000000000 ≤ fails := by omega
    exact ⟨fails, at_, fun wx q => qFailNo to next _ _ fails at_ now eo ee wx (HO wx q) (HE wx q) h', fun wx q => rFailNo to next _ _ fails at_ now eo ee wx (HO wx q) (HE wx q) h', R⟩

theorem allocZ (a : Act) (d : Option Tmp) (ty : TypeId) (ps : String) (af : Array Edge) (w : World) :
    (execOp a.eval { dst := d, op := .alloc 24, type := ty, pos := ps, after := af, guard := none }).run Try.prog w = .ok (.value (.pointer (some ⟨w.heap.size, 0, none⟩))) (w.alloc (.cells #[.string ⟨#[]⟩, .int .i64 0, .slice none 0 0, .slice none 0 0, .int .i64 0, .int .i64 0] 24)) := by kernel_rfl

/-- Two variables that are made and filled in a region that draws its order. -/
def enF (w : World) (g : Nat) (cs C1 C2 : Array Value) : List (Option Value) → World → Prop
  | [n0, n1, n2, n3], wx =>
    Below w.heap.size w wx ∧ Whole wx g 24 cs ∧
    (∀ u, n0 = some u → ∃ h, u = .pointer (some ⟨h, 0, none⟩) ∧ g < h ∧ (n2 = none → Whole wx h 24 #[.string ⟨#[]⟩, .int .i64 0, .slice none 0 0, .slice none 0 0, .int .i64 0, .int .i64 0]) ∧ ∀ x, n2 = some x → Whole wx h 24 C1) ∧
    (∀ u, n1 = some u → ∃ h, u = .pointer (some ⟨h, 0, none⟩) ∧ g < h ∧ (n3 = none → Whole wx h 24 #[.string ⟨#[]⟩, .int .i64 0, .slice none 0 0, .slice none 0 0, .int .i64 0, .int .i64 0]) ∧ ∀ x, n3 = some x → Whole wx h 24 C2) ∧
    (∀ h h', n0 = some (.pointer (some ⟨h, 0, none⟩)) → n1 = some (.pointer (some ⟨h', 0, none⟩)) → h ≠ h')
  | _, _ => False
theorem enF_on {w : World} {g : Nat} {cs C1 C2 : Array Value} : ∀ (wx wy : World) (ν : List (Option Value)), enF w g cs C1 C2 ν wx → Below wx.heap.size wx wy → enF w g cs C1 C2 ν wy := by
  intro wx wy ν h hb
  match ν, h with
  | [n0, n1, n2, n3], ⟨h0, h1, h2, h3, h4⟩ =>
    exact ⟨h0.trans (hb.mono h0.size), h1.on hb, fun u hu => by obtain ⟨h, e, l, a, b⟩ := h2 u hu; exact ⟨h, e, l, fun hn => (a hn).on hb, fun x hx => (b x hx).on hb⟩, fun u hu => by obtain ⟨h, e, l, a, b⟩ := h3 u hu; exact ⟨h, e, l, fun hn => (a hn).on hb, fun x hx => (b x hx).on hb⟩, h4⟩
theorem enF_nil {w wx : World} {g : Nat} {cs C1 C2 : Array Value} (q : Below w.heap.size w wx) (h : Whole wx g 24 cs) : enF w g cs C1 C2 [none, none, none, none] wx :=
  ⟨q, h, fun _ h => by simp at h, fun _ h => by simp at h, fun _ _ h => by simp at h⟩
theorem enF_row {w wx : World} {g : Nat} {cs C1 C2 : Array Value} (ν : List (Option Value)) (h : enF w g cs C1 C2 ν wx) : Below w.heap.size w wx ∧ Whole wx g 24 cs := by
  match ν, h with
  | [n0, n1, n2, n3], ⟨h0, h1, _⟩ => exact ⟨h0, h1⟩

end Go.Proofs.Ytfebldoplobkdaa
