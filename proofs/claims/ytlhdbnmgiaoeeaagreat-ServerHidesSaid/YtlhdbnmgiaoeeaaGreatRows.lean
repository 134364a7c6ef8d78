/-
  No cell of these rows narrows 'for every input' (looked for: loops, veiled, ifaces, maps, wideKeys, modest, calm, conditions, laid).
  DERIVED. THE GIVEN ROWS OF THIS SEAT. 3 by the template 'for every input the law returns true; each argument reads behind the call as it read before'; 0 by the template 'total and deterministic' (their statements: YtlhdbnmgiaoeeaaGreatTotals.lean).
  GIVEN WITH THE SEED: the statements are not yours to turn. If you find one false, say at which input.
  Laid BY PROGRAM, IN A SANDBOX (cutbox-rows.mjs): the forced cells as the released guide's own fill.sh prints them over the translation e8913a1e63fbbd76… (all of the seat's roots in one cut). By AI agents, Wed Nov 11 2026. No macro, syntax, notation, axiom, sorry.
-/
import Derived.Test.YtlhdbnmgiaoeeaaGreatChecked
import GoSem.Claim
import GoSem.ClaimJoined
import GoSem.ClaimMapViews
import Derived.JoinedTies
import Derived.KernelRfl
namespace Go.Proofs.YtlhdbnmgiaoeeaaGreat
/- THE CELL 'sum', in the pinned program and in every row, IS THE sha256 OF THE DUMP (.gsa) THAT YtlhdbnmgiaoeeaaGreatProg.lean LOADS. Nothing in Lean hashes anything: it is a label: what it is worth is what the hold of that sum in a sandbox is worth. -/
noncomputable def Tryz.pinned : Pinned := { name := "ytlhdbnmgiaoeeaagreat", sum := "e8913a1e63fbbd76c21edb3b56d43bd33ec984453889736052c7e83754a1ff0d", checked := Tryz.checked }
namespace Rows
def none {H : Type} : Left H := { results := [], args := [] }

/-- 'fedchatlaw34.ServerForges': WHATEVER THE INPUT: true; the input reads as it did. -/
def serverForgesSpec : ChangeSpec := { name := "serverForges", fn := fun _ => fun
  | [d1, d2] => { results := [.lit (.bool true)], args := [d1, d2] }
  | _ => none }
def serverForgesRow : OpenClaim := { program := "ytlhdbnmgiaoeeaagreat", sum := "e8913a1e63fbbd76c21edb3b56d43bd33ec984453889736052c7e83754a1ff0d", func := "fedchat/fedchatlaw34.ServerForges", spec := "serverForges", inPlace := ["internal/bytealg.IndexByteString", "internal/bytealg.IndexString", "slices.overlaps[fedchat/api.Event]", "slices.overlaps[fedchat/api.Room]", "slices.overlaps[fedchat/api.Queue]"], unfollowed := true, recurses := true, named := ["internal/bytealg.MaxLen"], apart := false }
def ServerForgesSaid : Prop := serverForgesRow.holds Tryz.pinned (OpenSpec.ofChange serverForgesSpec)

/-- ITS FALSE NEIGHBOUR: 'it returns false'. Refute it at one input. -/
def serverForgesWrong : ChangeSpec := { name := "serverForges", fn := fun _ => fun
  | [d1, d2] => { results := [.lit (.bool false)], args := [d1, d2] }
  | _ => none }
def ServerForgesWrongFalsely : Prop := serverForgesRow.holds Tryz.pinned (OpenSpec.ofChange serverForgesWrong)

/-- 'fedchatlaw34.ServerReplies': WHATEVER THE INPUT: true; the input reads as it did. -/
def serverRepliesSpec : ChangeSpec := { name := "serverReplies", fn := fun _ => fun
  | [d1, d2] => { results := [.lit (.bool true)], args := [d1, d2] }
  | _ => none }
def serverRepliesRow : OpenClaim := { program := "ytlhdbnmgiaoeeaagreat", sum := "e8913a1e63fbbd76c21edb3b56d43bd33ec984453889736052c7e83754a1ff0d", func := "fedchat/fedchatlaw34.ServerReplies", spec := "serverReplies", inPlace := ["internal/bytealg.IndexByteString", "internal/bytealg.IndexString", "slices.overlaps[fedchat/api.Event]", "slices.overlaps[fedchat/api.Room]", "slices.overlaps[fedchat/api.Queue]"], unfollowed := true, recurses := true, named := ["internal/bytealg.MaxLen"], apart := false }
def ServerRepliesSaid : Prop := serverRepliesRow.holds Tryz.pinned (OpenSpec.ofChange serverRepliesSpec)

/-- ITS FALSE NEIGHBOUR: 'it returns false'. Refute it at one input. -/
def serverRepliesWrong : ChangeSpec := { name := "serverReplies", fn := fun _ => fun
  | [d1, d2] => { results := [.lit (.bool false)], args := [d1, d2] }
  | _ => none }
def ServerRepliesWrongFalsely : Prop := serverRepliesRow.holds Tryz.pinned (OpenSpec.ofChange serverRepliesWrong)

/-- 'fedchatlaw34.ServerHides': WHATEVER THE INPUT: true; the input reads as it did. -/
def serverHidesSpec : ChangeSpec := { name := "serverHides", fn := fun _ => fun
  | [d1, d2, d3] => { results := [.lit (.bool true)], args := [d1, d2, d3] }
  | _ => none }
def serverHidesRow : OpenClaim := { program := "ytlhdbnmgiaoeeaagreat", sum := "e8913a1e63fbbd76c21edb3b56d43bd33ec984453889736052c7e83754a1ff0d", func := "fedchat/fedchatlaw34.ServerHides", spec := "serverHides", inPlace := ["internal/bytealg.IndexByteString", "internal/bytealg.IndexString", "slices.overlaps[fedchat/api.Event]", "slices.overlaps[fedchat/api.Room]", "slices.overlaps[fedchat/api.Queue]"], unfollowed := true, recurses := true, named := ["internal/bytealg.MaxLen"], apart := false }
def ServerHidesSaid : Prop := serverHidesRow.holds Tryz.pinned (OpenSpec.ofChange serverHidesSpec)

/-- ITS FALSE NEIGHBOUR: 'it returns false'. Refute it at one input. -/
def serverHidesWrong : ChangeSpec := { name := "serverHides", fn := fun _ => fun
  | [d1, d2, d3] => { results := [.lit (.bool false)], args := [d1, d2, d3] }
  | _ => none }
def ServerHidesWrongFalsely : Prop := serverHidesRow.holds Tryz.pinned (OpenSpec.ofChange serverHidesWrong)

/- THE SECOND FORM. 'bulk': how many values and letters a reading holds, each counted each time it is reached (what is shared counts as often as it is met; a slice's spare places count too). A statement '..UptoSaid' is the law's where the arguments, and the package variables that the reading takes, are together of bulk at most 1048576: NARROWER than '..Said'. Prove '..Said' where nothing that the law and all that it calls make is longer than what came in: it says more and counts as full. Else prove '..UptoSaid'. A law counts once. -/
mutual
def uptoBulk {H : Type} : DataW H → Nat
  | .lit (.string bytes) => bytes.length + 1
  | .lit _ => 1
  | .nil => 1
  | .ptr d => uptoBulk d + 1
  | .slice elems spare => uptoBulkAll elems + uptoBulkAll spare + 1
  | .agg parts => uptoBulkAll parts + 1
  | .iface _ d => uptoBulk d + 1
  | .map entries => uptoBulkEntries entries + 1
  | .held _ => 1
def uptoBulkAll {H : Type} : List (DataW H) → Nat
  | [] => 0
  | d :: r => uptoBulk d + uptoBulkAll r
def uptoBulkEntries {H : Type} : List (Lit × DataW H) → Nat
  | [] => 0
  | x :: r => uptoBulkEntry x + uptoBulkEntries r
def uptoBulkEntry {H : Type} : Lit × DataW H → Nat
  | (.string bytes, d) => bytes.length + uptoBulk d + 1
  | (_, d) => uptoBulk d + 1
 end
def uptoSmall : (H : Type) → List (DataW H) → Bool := fun _ ds => decide (uptoBulkAll ds ≤ 1048576)
def OpenSpec.upto (s : _root_.Go.ChangeSpec) : _root_.Go.OpenSpec := { _root_.Go.OpenSpec.ofChange s with cond := some uptoSmall }

/-- 'fedchatlaw34.ServerForges', WHERE WHAT IT READS IS OF BULK AT MOST 1048576: true; the input reads as it did. -/
def serverForgesUptoRow : OpenClaim := { program := "ytlhdbnmgiaoeeaagreat", sum := "e8913a1e63fbbd76c21edb3b56d43bd33ec984453889736052c7e83754a1ff0d", func := "fedchat/fedchatlaw34.ServerForges", spec := "serverForges", inPlace := ["internal/bytealg.IndexByteString", "internal/bytealg.IndexString", "slices.overlaps[fedchat/api.Event]", "slices.overlaps[fedchat/api.Room]", "slices.overlaps[fedchat/api.Queue]"], unfollowed := true, recurses := true, named := ["internal/bytealg.MaxLen"], apart := false, narrowed := true }
def ServerForgesUptoSaid : Prop := serverForgesUptoRow.holds Tryz.pinned (OpenSpec.upto serverForgesSpec)

/-- 'fedchatlaw34.ServerReplies', WHERE WHAT IT READS IS OF BULK AT MOST 1048576: true; the input reads as it did. -/
def serverRepliesUptoRow : OpenClaim := { program := "ytlhdbnmgiaoeeaagreat", sum := "e8913a1e63fbbd76c21edb3b56d43bd33ec984453889736052c7e83754a1ff0d", func := "fedchat/fedchatlaw34.ServerReplies", spec := "serverReplies", inPlace := ["internal/bytealg.IndexByteString", "internal/bytealg.IndexString", "slices.overlaps[fedchat/api.Event]", "slices.overlaps[fedchat/api.Room]", "slices.overlaps[fedchat/api.Queue]"], unfollowed := true, recurses := true, named := ["internal/bytealg.MaxLen"], apart := false, narrowed := true }
def ServerRepliesUptoSaid : Prop := serverRepliesUptoRow.holds Tryz.pinned (OpenSpec.upto serverRepliesSpec)

/-- 'fedchatlaw34.ServerHides', WHERE WHAT IT READS IS OF BULK AT MOST 1048576: true; the input reads as it did. -/
def serverHidesUptoRow : OpenClaim := { program := "ytlhdbnmgiaoeeaagreat", sum := "e8913a1e63fbbd76c21edb3b56d43bd33ec984453889736052c7e83754a1ff0d", func := "fedchat/fedchatlaw34.ServerHides", spec := "serverHides", inPlace := ["internal/bytealg.IndexByteString", "internal/bytealg.IndexString", "slices.overlaps[fedchat/api.Event]", "slices.overlaps[fedchat/api.Room]", "slices.overlaps[fedchat/api.Queue]"], unfollowed := true, recurses := true, named := ["internal/bytealg.MaxLen"], apart := false, narrowed := true }
def ServerHidesUptoSaid : Prop := serverHidesUptoRow.holds Tryz.pinned (OpenSpec.upto serverHidesSpec)

end Rows
end Go.Proofs.YtlhdbnmgiaoeeaaGreat
