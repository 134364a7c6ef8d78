/- Rows of cells in memory, as a slice shows them. -/
import Derived.Test.YtfebldoplobkdaaBase
namespace Go.Proofs.Ytfebldoplobkdaa
open Go.RowKit

/-- The slice v shows n elements of 'size' cells each; xs: the cells, one behind the other. -/
def Row (w : World) (v : Value) (size n : Nat) (xs : List Value) : Prop :=
  ∃ ao cap, v = .slice ao n cap ∧ n ≤ cap ∧ cap ≤ 9223372036854775807 ∧ xs.length = n * size ∧ (0 < n → ∃ b off, ao = some ⟨b, off, none⟩ ∧ b < w.heap.size ∧ ∀ j u, xs[j]? = some u → w.cell? ⟨b, off + j, none⟩ = some u)

theorem Row.on {w w' : World} {v : Value} {size n : Nat} {xs : List Value} (h : Row w v size n xs) (hb : Below w.heap.size w w') : Row w' v size n xs := by
  obtain ⟨ao, cap, h1, h2, h3, h4, h5⟩ := h
  refine ⟨ao, cap, h1, h2, h3, h4, fun hn => ?_⟩
  obtain ⟨b, off, e, hlt, hc⟩ := h5 hn
  exact ⟨b, off, e, Nat.lt_of_lt_of_le hlt hb.size, fun j u hu => (hb.cell (p := ⟨b, off + j, none⟩) hlt).trans (hc j u hu)⟩

theorem Row.nil {w : World} {size : Nat} : Row w (.slice none 0 0) size 0 [] := ⟨none, 0, rfl, Nat.le_refl _, by omega, by simp, fun h => by omega⟩

theorem ext_cell {w w1 : World} {b : Nat} (hw : Below w.heap.size w w1) (hb : b < w.heap.size) (X : Ext w1) (o : Nat) : X.val.cell? ⟨b, o, none⟩ = w.cell? ⟨b, o, none⟩ :=
  (X.cell b o (Nat.lt_of_lt_of_le hb hw.size)).trans (hw.cell (p := ⟨b, o, none⟩) hb)

/-- A load of a whole struct, its value known in every world of the class. -/
theorem quiet_load {P : Program} {o : Oper} {a : Act} {K : Act → Prop} {W : World} (ty : TypeId) (x : Operand) (ho : o.op = .load ty x) (p : Addr) (hx : a.eval x = .pointer (some p)) (v : Value)
    (h : ∀ X : Ext W, (Instr.loadAt ty (.pointer (some p))).run P X.val = .ok v X.val) (hk : K (a.put o.dst v)) : o.quiet P a (fun w' => ∃ X : Ext W, w' = X.val) K := by
  refine ⟨v, ?_, hk⟩
  rintro _ ⟨X, rfl⟩
  unfold Oper.quietAt execOp
  simp only [ho, hx, Sem.run_bind, h X, Result.andThen_ok, Sem.run_pure]
  exact ⟨rfl, rfl⟩
end Go.Proofs.Ytfebldoplobkdaa
