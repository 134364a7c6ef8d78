/- Worlds that extend a given one, as one class for the walk of a region in whatever order; small laws on worlds. -/
import Derived.Test.YtljpcnhkheoiiaaWalkA
namespace Go.Proofs.Ytljpcnhkheoiiaa
open Go.RowKit

/-- A world in which nothing of W has turned. -/
structure Ext (W : World) where
  val : World
  below : Below W.heap.size W val
instance (W : World) : Nonempty (Ext W) := ⟨⟨W, Below.refl _ _⟩⟩

theorem wp_region_ext {P : Program} {id : Nat} {Q : Exit → Act → World → Prop} {a : Act} {w : World} {l : List Oper} (hm : P.follows .mixedOrders = true) (hB : Region.lexB .any l.toArray = true)
    (h : wpQuiet P l.toArray (fun w' => ∃ x : Ext w, w' = x.val) (fun a' => ∀ x : Ext w, Q .normal a' x.val) l a) : (Code.region id l.toArray true).wp P Q a w := by
  refine wp_region_quiet (C := fun w' => ∃ x : Ext w, w' = x.val) hm hB ⟨⟨{ w with drawn := w.drawn + 1 }, rfl, rfl, rfl, Nat.le_refl _, fun _ _ => rfl⟩, rfl⟩ ?_
  have e : (fun a' => ∀ w', (∃ x : Ext w, w' = x.val) → Q .normal a' w') = (fun a' => ∀ x : Ext w, Q .normal a' x.val) := by
    funext a'
    exact propext ⟨fun h x => h _ ⟨x, rfl⟩, fun h w' ⟨x, hx⟩ => hx ▸ h x⟩
  rw [e]
  exact h

theorem ext_of {P : Program} {f : FuncId} {args : Array Value} {W : World} {x : Ext W} {v : Value}
    (h : Calls P f args x.val fun e w' => e = .returned v ∧ Below x.val.heap.size x.val w') : Calls P f args x.val fun e w'' => e = .returned v ∧ ∃ y : Ext W, w'' = y.val :=
  h.mono fun _ w' ⟨he, hb⟩ => ⟨he, ⟨⟨w', x.below.trans (hb.mono x.below.size)⟩, rfl⟩⟩

theorem Ext.cell {W : World} (x : Ext W) (b o : Nat) (h : b < W.heap.size) : x.val.cell? ⟨b, o, none⟩ = W.cell? ⟨b, o, none⟩ := x.below.cell (p := ⟨b, o, none⟩) h
theorem Ext.frozen {W : World} (x : Ext W) (b o : Nat) (h : b < W.heap.size) : x.val.frozen? ⟨b, o, none⟩ = W.frozen? ⟨b, o, none⟩ := x.below.frozen (p := ⟨b, o, none⟩) h

theorem step_box {w w1 w2 : World} {c : Array Value} {t : TypeId} (q : Below w.heap.size w w1) (hb : Below (w1.alloc (.cells c t)).heap.size (w1.alloc (.cells c t)) w2) :
    Below w.heap.size w w2 ∧ w1.heap.size < w2.heap.size ∧ (∀ o, w2.cell? ⟨w1.heap.size, o, none⟩ = c[o]?) ∧ (∀ b, b < w1.heap.size → b < w2.heap.size ∧ ∀ o, w2.cell? ⟨b, o, none⟩ = w1.cell? ⟨b, o, none⟩) := by
  have hz := hb.size
  simp at hz
  refine ⟨(q.alloc q.size _).trans (hb.mono (by have := q.size; simp; omega)), by omega, fun o => ?_, fun b hlt => ⟨by omega, fun o => ?_⟩⟩
  · rw [hb.cell (p := ⟨w1.heap.size, o, none⟩) (by simp)]
    exact World.cell?_alloc_new w1 c t o
  · rw [hb.cell (p := ⟨b, o, none⟩) (by simp; omega)]
    exact World.cell?_alloc_lt w1 _ ⟨b, o, none⟩ hlt

theorem step_same {w w1 w2 : World} (q : Below w.heap.size w w1) (hb : Below w1.heap.size w1 w2) :
    Below w.heap.size w w2 ∧ (∀ b, b < w1.heap.size → b < w2.heap.size ∧ ∀ o, w2.cell? ⟨b, o, none⟩ = w1.cell? ⟨b, o, none⟩) :=
  ⟨q.trans (hb.mono q.size), fun b hlt => ⟨Nat.lt_of_lt_of_le hlt hb.size, fun o => hb.cell (p := ⟨b, o, none⟩) hlt⟩⟩
end Go.Proofs.Ytljpcnhkheoiiaa
