/- Open, the program: where the events that wait lie. -/
import Derived.Test.YtfebldoplobkdaaLawC
namespace Go.Proofs.Ytfebldoplobkdaa
open Go.ChangeShapes Go.WideShapes Go.ChangeAt Go.RowKit

/-- The slice begins in a block from B on, if anywhere. -/
def Fresh (B : Nat) (v : Value) : Prop := ∀ k, v.ownBlock = some k → B ≤ k
/-- What Open leaves, and where. -/
def OpenPostF (ev : Value) (to : ByteArray) (next fails at_ : Int) (eo ee : List (List Value)) (ok : Bool) (w : World) (x : Ending) (w' : World) : Prop :=
  ∃ v1 v2 pc, x = .returned (.tuple #[.agg #[.string to, .int .i64 next, v1, v2, .int .i64 fails, .int .i64 at_], .agg pc, .bool ok]) ∧ Evs w' v1 ee ∧ Evs w' v2 eo ∧
    (ok = true → ∃ u, pc = pkc to (next - 1) u ∧ Evs w' u eo) ∧ (ok = false → pc = pk0) ∧ Below w.heap.size w w' ∧ (v1 = ev ∨ Fresh w.heap.size v1)

end Go.Proofs.Ytfebldoplobkdaa
