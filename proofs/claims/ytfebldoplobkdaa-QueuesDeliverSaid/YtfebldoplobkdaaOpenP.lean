/- Open, the reference: the region that takes events. -/
import Derived.Test.YtfebldoplobkdaaOpenO
namespace Go.Proofs.Ytfebldoplobkdaa
open Go.ChangeShapes Go.WideShapes Go.ChangeAt Go.RowKit

def roF (W : World) (g : Nat) (cs : Array Value) (T D : List (List Value)) : List (Option Value) → World → Prop
  | [n0, n1, n2, n3, n4, n5], w =>
    (∀ u, n0 = some u → n1 = none → ∃ h, u = .slice (some ⟨h, 0, none⟩) 0 0 ∧ Whole w h 37 #[] ∧ W.heap.size ≤ h) ∧
    (∀ u, n1 = some u → w.ownsRow W.heap.size 37 29 u T.length T.flatten) ∧
    (∀ u, n2 = some u → n3 = none → ∃ h, u = .slice (some ⟨h, 0, none⟩) 0 0 ∧ Whole w h 37 #[] ∧ W.heap.size ≤ h) ∧
    (∀ u, n3 = some u → w.ownsRow W.heap.size 37 29 u D.length D.flatten) ∧
    (n4 = none → Whole w g 24 cs) ∧ (∀ u, n4 = some u → n5 = none → ∃ v, n1 = some v ∧ Whole w g 24 (cs.setIfInBounds 3 v)) ∧
    (∀ u, n5 = some u → ∃ v v', n1 = some v ∧ n3 = some v' ∧ Whole w g 24 ((cs.setIfInBounds 3 v).setIfInBounds 2 v'))
  | _, _ => False
theorem roF_on {W : World} {g : Nat} {cs : Array Value} {T D : List (List Value)} : ∀ (w w' : World) (ν : List (Option Value)), roF W g cs T D ν w → Below w.heap.size w w' → roF W g cs T D ν w' := by
  intro w w' ν h hb
  match ν, h with
  | [n0, n1, n2, n3, n4, n5], ⟨h0, h1, h2, h3, h4, h5, h6⟩ =>
    exact ⟨fun u hu hn => by obtain ⟨h, e, z, l⟩ := h0 u hu hn; exact ⟨h, e, z.on hb, l⟩, fun u hu => own_on (h1 u hu) hb, fun u hu hn => by obtain ⟨h, e, z, l⟩ := h2 u hu hn; exact ⟨h, e, z.on hb, l⟩, fun u hu => own_on (h3 u hu) hb, fun hn => (h4 hn).on hb, fun u hu hn => by obtain ⟨v, e, z⟩ := h5 u hu hn; exact ⟨v, e, z.on hb⟩, fun u hu => by obtain ⟨v, v', e, e', z⟩ := h6 u hu; exact ⟨v, v', e, e', z.on hb⟩⟩
theorem roF_nil {W w : World} {g : Nat} {cs : Array Value} {T D : List (List Value)} (h : Whole w g 24 cs) : roF W g cs T D [none, none, none, none, none, none] w :=
  ⟨fun _ h _ => by simp at h, fun _ h => by simp at h, fun _ h _ => by simp at h, fun _ h => by simp at h, fun _ => h, fun _ h => by simp at h, fun _ h => by simp at h⟩
theorem roF_cell {W w : World} {g : Nat} {cs : Array Value} {T D : List (List Value)} (ν : List (Option Value)) (hn : ν[5]? = some none) (h : roF W g cs T D ν w) : g < w.heap.size ∧ w.cell? ⟨g, 2, none⟩ = cs[2]? := by
  match ν, h with
  | [n0, n1, n2, n3, n4, n5], ⟨h0, h1, h2, h3, h4, h5, h6⟩ =>
    have hn5 : n5 = none := by simpa using hn
    clear hn
    cases n4 with
    | none => exact ⟨(h4 rfl).lt, (h4 rfl).cell 2⟩
    | some u =>
      obtain ⟨v, _, z⟩ := h5 u rfl hn5
      exact ⟨z.lt, by rw [z.cell 2, Array.getElem?_setIfInBounds_ne (by omega)]⟩
theorem evs_none' {w : World} {ao : Option Addr} {c : Nat} (hc : c ≤ 9223372036854775807) : Evs w (.slice ao 0 c) [] := ⟨⟨ao, c, rfl, Nat.zero_le _, hc, rfl, fun h => by simp at h⟩, fun c hc => by cases hc⟩

end Go.Proofs.Ytfebldoplobkdaa
