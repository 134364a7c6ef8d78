/- A call, as a special operation. -/
import Derived.Test.YtfebldoplobkdaaPushA
namespace Go.Proofs.Ytfebldoplobkdaa
open Go.ChangeShapes Go.WideShapes Go.ChangeAt Go.RowKit

/-- A call of a function, as a special operation of a region that draws its order. -/
theorem leaves_call {P : Program} {o : Oper} {a : Act} {W w : World} {row : Option Nat} {G : Value → World → Prop} {R : Ending → World → Prop} (f : Nat) (us : Array Operand) (ts : Array TypeId) (vs : Array Value)
    (fn : Func) (hf : P.funcs[f]? = some fn) (hn : fn.name ≠ "runtime.NumGoroutine") (hb : fn.body ≠ none) (ho : o.op = .call { callee := .value (.func f), args := us, argTypes := ts }) (hv : us.map a.eval = vs) (hc : Calls P f vs w R) (k : ∀ x w', R x w' → ∃ u, x = .returned u ∧ W.grownBy w' row ∧ G u w') : Leaves P o a W w row G := by
  have : (execOp a.eval o).run P w = .ok (.enter f vs) w := by
    unfold execOp
    simp only [ho]
    subst hv
    simp [resolve, invoke, Act.eval, Deferred.ofValue, callFunc, hf, hn, hb]
  unfold Leaves
  rw [this]
  exact hc.mono k

end Go.Proofs.Ytfebldoplobkdaa
