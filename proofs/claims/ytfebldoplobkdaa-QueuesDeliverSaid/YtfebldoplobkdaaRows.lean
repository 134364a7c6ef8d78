/-
  No cell of these rows narrows 'for every input' (looked for: loops, veiled, ifaces, maps, wideKeys, modest, calm, conditions, laid).
  DERIVED. THE GIVEN ROWS OF THIS SEAT. 5 by the template 'for every input the law returns true; each argument reads behind the call as it read before'; 0 by the template 'total and deterministic' (their statements: YtfebldoplobkdaaTotals.lean).
  GIVEN WITH THE SEED: the statements are not yours to turn. If you find one false, say at which input.
  Laid BY PROGRAM, IN A SANDBOX (cutbox-rows.mjs): the forced cells as the released guide's own fill.sh prints them over the translation 280eaa1078873ccd… (all of the seat's roots in one cut). By AI agents, Wed Nov 11 2026. No macro, syntax, notation, axiom, sorry.
-/
import Derived.Test.YtfebldoplobkdaaChecked
import GoSem.Claim
import GoSem.ClaimJoined
import GoSem.ClaimMapViews
import Derived.JoinedTies
import Derived.KernelRfl
namespace Go.Proofs.Ytfebldoplobkdaa
/- THE CELL 'sum', in the pinned program and in every row, IS THE sha256 OF THE DUMP (.gsa) THAT YtfebldoplobkdaaProg.lean LOADS. Nothing in Lean hashes anything: it is a label: what it is worth is what the hold of that sum in a sandbox is worth. -/
noncomputable def Try.pinned : Pinned := { name := "ytfebldoplobkdaa", sum := "280eaa1078873ccd6b1c014527c10be3d3c763efffa8af4ae2a33ab961355de1", checked := Try.checked }
namespace Rows
def none {H : Type} : Left H := { results := [], args := [] }

/-- 'fedchatlaw31.QueuesPushes': WHATEVER THE INPUT: true; the input reads as it did. -/
def queuesPushesSpec : ChangeSpec := { name := "queuesPushes", fn := fun _ => fun
  | [d1, d2] => { results := [.lit (.bool true)], args := [d1, d2] }
  | _ => none }
def queuesPushesRow : OpenClaim := { program := "ytfebldoplobkdaa", sum := "280eaa1078873ccd6b1c014527c10be3d3c763efffa8af4ae2a33ab961355de1", func := "fedchat/fedchatlaw31.QueuesPushes", spec := "queuesPushes", unfollowed := true, recurses := true, apart := false }
def QueuesPushesSaid : Prop := queuesPushesRow.holds Try.pinned (OpenSpec.ofChange queuesPushesSpec)

/-- ITS FALSE NEIGHBOUR: 'it returns false'. Refute it at one input. -/
def queuesPushesWrong : ChangeSpec := { name := "queuesPushes", fn := fun _ => fun
  | [d1, d2] => { results := [.lit (.bool false)], args := [d1, d2] }
  | _ => none }
def QueuesPushesWrongFalsely : Prop := queuesPushesRow.holds Try.pinned (OpenSpec.ofChange queuesPushesWrong)

/-- 'fedchatlaw31.QueuesOpens': WHATEVER THE INPUT: true; the input reads as it did. -/
def queuesOpensSpec : ChangeSpec := { name := "queuesOpens", fn := fun _ => fun
  | [d1, d2] => { results := [.lit (.bool true)], args := [d1, d2] }
  | _ => none }
def queuesOpensRow : OpenClaim := { program := "ytfebldoplobkdaa", sum := "280eaa1078873ccd6b1c014527c10be3d3c763efffa8af4ae2a33ab961355de1", func := "fedchat/fedchatlaw31.QueuesOpens", spec := "queuesOpens", unfollowed := true, recurses := true, apart := false }
def QueuesOpensSaid : Prop := queuesOpensRow.holds Try.pinned (OpenSpec.ofChange queuesOpensSpec)

/-- ITS FALSE NEIGHBOUR: 'it returns false'. Refute it at one input. -/
def queuesOpensWrong : ChangeSpec := { name := "queuesOpens", fn := fun _ => fun
  | [d1, d2] => { results := [.lit (.bool false)], args := [d1, d2] }
  | _ => none }
def QueuesOpensWrongFalsely : Prop := queuesOpensRow.holds Try.pinned (OpenSpec.ofChange queuesOpensWrong)

/-- 'fedchatlaw31.QueuesEnds': WHATEVER THE INPUT: true; the input reads as it did. -/
def queuesEndsSpec : ChangeSpec := { name := "queuesEnds", fn := fun _ => fun
  | [d1, d2, d3] => { results := [.lit (.bool true)], args := [d1, d2, d3] }
  | _ => none }
def queuesEndsRow : OpenClaim := { program := "ytfebldoplobkdaa", sum := "280eaa1078873ccd6b1c014527c10be3d3c763efffa8af4ae2a33ab961355de1", func := "fedchat/fedchatlaw31.QueuesEnds", spec := "queuesEnds", unfollowed := true, recurses := true, apart := false }
def QueuesEndsSaid : Prop := queuesEndsRow.holds Try.pinned (OpenSpec.ofChange queuesEndsSpec)

/-- ITS FALSE NEIGHBOUR: 'it returns false'. Refute it at one input. -/
def queuesEndsWrong : ChangeSpec := { name := "queuesEnds", fn := fun _ => fun
  | [d1, d2, d3] => { results := [.lit (.bool false)], args := [d1, d2, d3] }
  | _ => none }
def QueuesEndsWrongFalsely : Prop := queuesEndsRow.holds Try.pinned (OpenSpec.ofChange queuesEndsWrong)

/-- 'fedchatlaw31.QueuesDeliver': WHATEVER THE INPUT: true; the input reads as it did. -/
def queuesDeliverSpec : ChangeSpec := { name := "queuesDeliver", fn := fun _ => fun
  | [d1, d2] => { results := [.lit (.bool true)], args := [d1, d2] }
  | _ => none }
def queuesDeliverRow : OpenClaim := { program := "ytfebldoplobkdaa", sum := "280eaa1078873ccd6b1c014527c10be3d3c763efffa8af4ae2a33ab961355de1", func := "fedchat/fedchatlaw31.QueuesDeliver", spec := "queuesDeliver", unfollowed := true, recurses := true, apart := false }
def QueuesDeliverSaid : Prop := queuesDeliverRow.holds Try.pinned (OpenSpec.ofChange queuesDeliverSpec)

/-- ITS FALSE NEIGHBOUR: 'it returns false'. Refute it at one input. -/
def queuesDeliverWrong : ChangeSpec := { name := "queuesDeliver", fn := fun _ => fun
  | [d1, d2] => { results := [.lit (.bool false)], args := [d1, d2] }
  | _ => none }
def QueuesDeliverWrongFalsely : Prop := queuesDeliverRow.holds Try.pinned (OpenSpec.ofChange queuesDeliverWrong)

/-- 'fedchatlaw31.QueuesAgain': WHATEVER THE INPUT: true; the input reads as it did. -/
def queuesAgainSpec : ChangeSpec := { name := "queuesAgain", fn := fun _ => fun
  | [d1, d2, d3] => { results := [.lit (.bool true)], args := [d1, d2, d3] }
  | _ => none }
def queuesAgainRow : OpenClaim := { program := "ytfebldoplobkdaa", sum := "280eaa1078873ccd6b1c014527c10be3d3c763efffa8af4ae2a33ab961355de1", func := "fedchat/fedchatlaw31.QueuesAgain", spec := "queuesAgain", unfollowed := true, recurses := true, apart := false }
def QueuesAgainSaid : Prop := queuesAgainRow.holds Try.pinned (OpenSpec.ofChange queuesAgainSpec)

/-- ITS FALSE NEIGHBOUR: 'it returns false'. Refute it at one input. -/
def queuesAgainWrong : ChangeSpec := { name := "queuesAgain", fn := fun _ => fun
  | [d1, d2, d3] => { results := [.lit (.bool false)], args := [d1, d2, d3] }
  | _ => none }
def QueuesAgainWrongFalsely : Prop := queuesAgainRow.holds Try.pinned (OpenSpec.ofChange queuesAgainWrong)

/- THE SECOND FORM. 'bulk': how many values and letters a reading holds, each counted each time it is reached (what is shared counts as often as it is met; a slice's spare places count too). A statement '..UptoSaid' is the law's where the arguments, and the package variables that the reading takes, are together of bulk at most 1048576: NARROWER than '..Said'. Prove '..Said' where nothing that the law and all that it calls make is longer than what came in: it says more and counts as full. Else prove '..UptoSaid'. A law counts once. -/
mutual
def uptoBulk {H : Type} : DataW H → Nat
  | .lit (.string bytes) => bytes.length + 1
  | .lit _ => 1
  | .nil => 1
  | .ptr d => uptoBulk d + 1
  | .slice elems spare => uptoBulkAll elems + uptoBulkAll spare + 1
  | .agg parts => uptoBulkAll parts + 1
  | .iface _ d => uptoBulk d + 1
  | .map entries => uptoBulkEntries entries + 1
  | .held _ => 1
def uptoBulkAll {H : Type} : List (DataW H) → Nat
  | [] => 0
  | d :: r => uptoBulk d + uptoBulkAll r
def uptoBulkEntries {H : Type} : List (Lit × DataW H) → Nat
  | [] => 0
  | x :: r => uptoBulkEntry x + uptoBulkEntries r
def uptoBulkEntry {H : Type} : Lit × DataW H → Nat
  | (.string bytes, d) => bytes.length + uptoBulk d + 1
  | (_, d) => uptoBulk d + 1
 end
def uptoSmall : (H : Type) → List (DataW H) → Bool := fun _ ds => decide (uptoBulkAll ds ≤ 1048576)
def OpenSpec.upto (s : _root_.Go.ChangeSpec) : _root_.Go.OpenSpec := { _root_.Go.OpenSpec.ofChange s with cond := some uptoSmall }

/-- 'fedchatlaw31.QueuesPushes', WHERE WHAT IT READS IS OF BULK AT MOST 1048576: true; the input reads as it did. -/
def queuesPushesUptoRow : OpenClaim := { program := "ytfebldoplobkdaa", sum := "280eaa1078873ccd6b1c014527c10be3d3c763efffa8af4ae2a33ab961355de1", func := "fedchat/fedchatlaw31.QueuesPushes", spec := "queuesPushes", unfollowed := true, recurses := true, apart := false, narrowed := true }
def QueuesPushesUptoSaid : Prop := queuesPushesUptoRow.holds Try.pinned (OpenSpec.upto queuesPushesSpec)

/-- 'fedchatlaw31.QueuesOpens', WHERE WHAT IT READS IS OF BULK AT MOST 1048576: true; the input reads as it did. -/
def queuesOpensUptoRow : OpenClaim := { program := "ytfebldoplobkdaa", sum := "280eaa1078873ccd6b1c014527c10be3d3c763efffa8af4ae2a33ab961355de1", func := "fedchat/fedchatlaw31.QueuesOpens", spec := "queuesOpens", unfollowed := true, recurses := true, apart := false, narrowed := true }
def QueuesOpensUptoSaid : Prop := queuesOpensUptoRow.holds Try.pinned (OpenSpec.upto queuesOpensSpec)

/-- 'fedchatlaw31.QueuesEnds', WHERE WHAT IT READS IS OF BULK AT MOST 1048576: true; the input reads as it did. -/
def queuesEndsUptoRow : OpenClaim := { program := "ytfebldoplobkdaa", sum := "280eaa1078873ccd6b1c014527c10be3d3c763efffa8af4ae2a33ab961355de1", func := "fedchat/fedchatlaw31.QueuesEnds", spec := "queuesEnds", unfollowed := true, recurses := true, apart := false, narrowed := true }
def QueuesEndsUptoSaid : Prop := queuesEndsUptoRow.holds Try.pinned (OpenSpec.upto queuesEndsSpec)

/-- 'fedchatlaw31.QueuesDeliver', WHERE WHAT IT READS IS OF BULK AT MOST 1048576: true; the input reads as it did. -/
def queuesDeliverUptoRow : OpenClaim := { program := "ytfebldoplobkdaa", sum := "280eaa1078873ccd6b1c014527c10be3d3c763efffa8af4ae2a33ab961355de1", func := "fedchat/fedchatlaw31.QueuesDeliver", spec := "queuesDeliver", unfollowed := true, recurses := true, apart := false, narrowed := true }
def QueuesDeliverUptoSaid : Prop := queuesDeliverUptoRow.holds Try.pinned (OpenSpec.upto queuesDeliverSpec)

/-- 'fedchatlaw31.QueuesAgain', WHERE WHAT IT READS IS OF BULK AT MOST 1048576: true; the input reads as it did. -/
def queuesAgainUptoRow : OpenClaim := { program := "ytfebldoplobkdaa", sum := "280eaa1078873ccd6b1c014527c10be3d3c763efffa8af4ae2a33ab961355de1", func := "fedchat/fedchatlaw31.QueuesAgain", spec := "queuesAgain", unfollowed := true, recurses := true, apart := false, narrowed := true }
def QueuesAgainUptoSaid : Prop := queuesAgainUptoRow.holds Try.pinned (OpenSpec.upto queuesAgainSpec)

end Rows
end Go.Proofs.Ytfebldoplobkdaa
