/- The worked example of law56. -/
import Derived.Test.YtojknjmcmadhcaaGreatDoorMh

section
namespace Go.Proofs.R50
open Go.ChangeShapes Go.WideShapes Go.ChangeAt Go.RowKit

/-- The worked example comes to true. -/
theorem awake_ok (w : World) : Calls Tryz.prog 5 #[] w fun x w' => x = .returned (.bool true) ∧ Below w.heap.size w w' := by
  have h := Go.Abs.R50.m219.2
  refine (h w (fun _ _ => False) (fun _ => False) [] (fun _ _ h => h.elim) (fun _ h => h.elim) .nil).mono ?_
  rintro e w' ⟨hb, I', J', _, _, _, _, ho⟩
  cases e with
  | returned v =>
    have ho : Go.Abs.TV w' I' J' (.sc (.bool true)) v := ho
    cases ho
    exact ⟨rfl, hb⟩
  | panicked c => exact absurd ho (fun h => h)
  | outgrown => exact absurd ho (fun h => h)
end Go.Proofs.R50
end
