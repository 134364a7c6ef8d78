/-
  No cell of these rows narrows 'for every input' (looked for: loops, veiled, ifaces, maps, wideKeys, modest, calm, conditions, laid).
  DERIVED. THE GIVEN ROWS OF THIS SEAT. 6 by the template 'for every input the law returns true; each argument reads behind the call as it read before'; 0 by the template 'total and deterministic' (their statements: YtkagjfgjcbanpaaGreatTotals.lean).
  GIVEN WITH THE SEED: the statements are not yours to turn. If you find one false, say at which input.
  Laid BY PROGRAM, IN A SANDBOX (cutbox-rows.mjs): the forced cells as the released guide's own fill.sh prints them over the translation 0823d51ca0c59ef9… (all of the seat's roots in one cut). By AI agents, Wed Nov 11 2026. No macro, syntax, notation, axiom, sorry.
-/
import Derived.Test.YtkagjfgjcbanpaaGreatChecked
import GoSem.Claim
import GoSem.ClaimJoined
import GoSem.ClaimMapViews
import Derived.JoinedTies
import Derived.KernelRfl
namespace Go.Proofs.YtkagjfgjcbanpaaGreat
/- THE CELL 'sum', in the pinned program and in every row, IS THE sha256 OF THE DUMP (.gsa) THAT YtkagjfgjcbanpaaGreatProg.lean LOADS. Nothing in Lean hashes anything: it is a label: what it is worth is what the hold of that sum in a sandbox is worth. -/
noncomputable def Tryz.pinned : Pinned := { name := "ytkagjfgjcbanpaagreat", sum := "0823d51ca0c59ef9f5ee14f66b47d46a69f876e29f65f622db0d1da2ee37bcb3", checked := Tryz.checked }
namespace Rows
def none {H : Type} : Left H := { results := [], args := [] }

/-- 'fedchatlaw29.GapsAnswers': WHATEVER THE INPUT: true; the input reads as it did. -/
def gapsAnswersSpec : ChangeSpec := { name := "gapsAnswers", fn := fun _ => fun
  | [d1, d2] => { results := [.lit (.bool true)], args := [d1, d2] }
  | _ => none }
def gapsAnswersRow : OpenClaim := { program := "ytkagjfgjcbanpaagreat", sum := "0823d51ca0c59ef9f5ee14f66b47d46a69f876e29f65f622db0d1da2ee37bcb3", func := "fedchat/fedchatlaw29.GapsAnswers", spec := "gapsAnswers", inPlace := ["internal/bytealg.IndexByteString", "internal/bytealg.IndexString", "slices.overlaps[fedchat/api.Event]"], unfollowed := true, recurses := true, named := ["internal/bytealg.MaxLen"], apart := false }
def GapsAnswersSaid : Prop := gapsAnswersRow.holds Tryz.pinned (OpenSpec.ofChange gapsAnswersSpec)

/-- ITS FALSE NEIGHBOUR: 'it returns false'. Refute it at one input. -/
def gapsAnswersWrong : ChangeSpec := { name := "gapsAnswers", fn := fun _ => fun
  | [d1, d2] => { results := [.lit (.bool false)], args := [d1, d2] }
  | _ => none }
def GapsAnswersWrongFalsely : Prop := gapsAnswersRow.holds Tryz.pinned (OpenSpec.ofChange gapsAnswersWrong)

/-- 'fedchatlaw29.GapsFills': WHATEVER THE INPUT: true; the input reads as it did. -/
def gapsFillsSpec : ChangeSpec := { name := "gapsFills", fn := fun _ => fun
  | [d1, d2] => { results := [.lit (.bool true)], args := [d1, d2] }
  | _ => none }
def gapsFillsRow : OpenClaim := { program := "ytkagjfgjcbanpaagreat", sum := "0823d51ca0c59ef9f5ee14f66b47d46a69f876e29f65f622db0d1da2ee37bcb3", func := "fedchat/fedchatlaw29.GapsFills", spec := "gapsFills", inPlace := ["internal/bytealg.IndexByteString", "internal/bytealg.IndexString", "slices.overlaps[fedchat/api.Event]"], unfollowed := true, recurses := true, named := ["internal/bytealg.MaxLen"], apart := false }
def GapsFillsSaid : Prop := gapsFillsRow.holds Tryz.pinned (OpenSpec.ofChange gapsFillsSpec)

/-- ITS FALSE NEIGHBOUR: 'it returns false'. Refute it at one input. -/
def gapsFillsWrong : ChangeSpec := { name := "gapsFills", fn := fun _ => fun
  | [d1, d2] => { results := [.lit (.bool false)], args := [d1, d2] }
  | _ => none }
def GapsFillsWrongFalsely : Prop := gapsFillsRow.holds Tryz.pinned (OpenSpec.ofChange gapsFillsWrong)

/-- 'fedchatlaw29.GapsAsks': WHATEVER THE INPUT: true; the input reads as it did. -/
def gapsAsksSpec : ChangeSpec := { name := "gapsAsks", fn := fun _ => fun
  | [d] => { results := [.lit (.bool true)], args := [d] }
  | _ => none }
def gapsAsksRow : OpenClaim := { program := "ytkagjfgjcbanpaagreat", sum := "0823d51ca0c59ef9f5ee14f66b47d46a69f876e29f65f622db0d1da2ee37bcb3", func := "fedchat/fedchatlaw29.GapsAsks", spec := "gapsAsks", inPlace := ["internal/bytealg.IndexByteString", "internal/bytealg.IndexString", "slices.overlaps[fedchat/api.Event]"], unfollowed := true, recurses := true, named := ["internal/bytealg.MaxLen"], apart := false }
def GapsAsksSaid : Prop := gapsAsksRow.holds Tryz.pinned (OpenSpec.ofChange gapsAsksSpec)

/-- ITS FALSE NEIGHBOUR: 'it returns false'. Refute it at one input. -/
def gapsAsksWrong : ChangeSpec := { name := "gapsAsks", fn := fun _ => fun
  | [d] => { results := [.lit (.bool false)], args := [d] }
  | _ => none }
def GapsAsksWrongFalsely : Prop := gapsAsksRow.holds Tryz.pinned (OpenSpec.ofChange gapsAsksWrong)

/-- 'fedchatlaw29.GapsBounds': WHATEVER THE INPUT: true; the input reads as it did. -/
def gapsBoundsSpec : ChangeSpec := { name := "gapsBounds", fn := fun _ => fun
  | [d1, d2] => { results := [.lit (.bool true)], args := [d1, d2] }
  | _ => none }
def gapsBoundsRow : OpenClaim := { program := "ytkagjfgjcbanpaagreat", sum := "0823d51ca0c59ef9f5ee14f66b47d46a69f876e29f65f622db0d1da2ee37bcb3", func := "fedchat/fedchatlaw29.GapsBounds", spec := "gapsBounds", inPlace := ["internal/bytealg.IndexByteString", "internal/bytealg.IndexString", "slices.overlaps[fedchat/api.Event]"], unfollowed := true, recurses := true, named := ["internal/bytealg.MaxLen"], apart := false }
def GapsBoundsSaid : Prop := gapsBoundsRow.holds Tryz.pinned (OpenSpec.ofChange gapsBoundsSpec)

/-- ITS FALSE NEIGHBOUR: 'it returns false'. Refute it at one input. -/
def gapsBoundsWrong : ChangeSpec := { name := "gapsBounds", fn := fun _ => fun
  | [d1, d2] => { results := [.lit (.bool false)], args := [d1, d2] }
  | _ => none }
def GapsBoundsWrongFalsely : Prop := gapsBoundsRow.holds Tryz.pinned (OpenSpec.ofChange gapsBoundsWrong)

/-- 'fedchatlaw29.GapsBackfill': WHATEVER THE INPUT: true; the input reads as it did. -/
def gapsBackfillSpec : ChangeSpec := { name := "gapsBackfill", fn := fun _ => fun
  | [d1, d2] => { results := [.lit (.bool true)], args := [d1, d2] }
  | _ => none }
def gapsBackfillRow : OpenClaim := { program := "ytkagjfgjcbanpaagreat", sum := "0823d51ca0c59ef9f5ee14f66b47d46a69f876e29f65f622db0d1da2ee37bcb3", func := "fedchat/fedchatlaw29.GapsBackfill", spec := "gapsBackfill", inPlace := ["internal/bytealg.IndexByteString", "internal/bytealg.IndexString", "slices.overlaps[fedchat/api.Event]"], unfollowed := true, recurses := true, named := ["internal/bytealg.MaxLen"], apart := false }
def GapsBackfillSaid : Prop := gapsBackfillRow.holds Tryz.pinned (OpenSpec.ofChange gapsBackfillSpec)

/-- ITS FALSE NEIGHBOUR: 'it returns false'. Refute it at one input. -/
def gapsBackfillWrong : ChangeSpec := { name := "gapsBackfill", fn := fun _ => fun
  | [d1, d2] => { results := [.lit (.bool false)], args := [d1, d2] }
  | _ => none }
def GapsBackfillWrongFalsely : Prop := gapsBackfillRow.holds Tryz.pinned (OpenSpec.ofChange gapsBackfillWrong)

/-- 'fedchatlaw29.GapsAgain': WHATEVER THE INPUT: true; the input reads as it did. -/
def gapsAgainSpec : ChangeSpec := { name := "gapsAgain", fn := fun _ => fun
  | [d1, d2] => { results := [.lit (.bool true)], args := [d1, d2] }
  | _ => none }
def gapsAgainRow : OpenClaim := { program := "ytkagjfgjcbanpaagreat", sum := "0823d51ca0c59ef9f5ee14f66b47d46a69f876e29f65f622db0d1da2ee37bcb3", func := "fedchat/fedchatlaw29.GapsAgain", spec := "gapsAgain", inPlace := ["internal/bytealg.IndexByteString", "internal/bytealg.IndexString", "slices.overlaps[fedchat/api.Event]"], unfollowed := true, recurses := true, named := ["internal/bytealg.MaxLen"], apart := false }
def GapsAgainSaid : Prop := gapsAgainRow.holds Tryz.pinned (OpenSpec.ofChange gapsAgainSpec)

/-- ITS FALSE NEIGHBOUR: 'it returns false'. Refute it at one input. -/
def gapsAgainWrong : ChangeSpec := { name := "gapsAgain", fn := fun _ => fun
  | [d1, d2] => { results := [.lit (.bool false)], args := [d1, d2] }
  | _ => none }
def GapsAgainWrongFalsely : Prop := gapsAgainRow.holds Tryz.pinned (OpenSpec.ofChange gapsAgainWrong)

/- THE SECOND FORM. 'bulk': how many values and letters a reading holds, each counted each time it is reached (what is shared counts as often as it is met; a slice's spare places count too). A statement '..UptoSaid' is the law's where the arguments, and the package variables that the reading takes, are together of bulk at most 1048576: NARROWER than '..Said'. Prove '..Said' where nothing that the law and all that it calls make is longer than what came in: it says more and counts as full. Else prove '..UptoSaid'. A law counts once. -/
mutual
def uptoBulk {H : Type} : DataW H → Nat
  | .lit (.string bytes) => bytes.length + 1
  | .lit _ => 1
  | .nil => 1
  | .ptr d => uptoBulk d + 1
  | .slice elems spare => uptoBulkAll elems + uptoBulkAll spare + 1
  | .agg parts => uptoBulkAll parts + 1
  | .iface _ d => uptoBulk d + 1
  | .map entries => uptoBulkEntries entries + 1
  | .held _ => 1
def uptoBulkAll {H : Type} : List (DataW H) → Nat
  | [] => 0
  | d :: r => uptoBulk d + uptoBulkAll r
def uptoBulkEntries {H : Type} : List (Lit × DataW H) → Nat
  | [] => 0
  | x :: r => uptoBulkEntry x + uptoBulkEntries r
def uptoBulkEntry {H : Type} : Lit × DataW H → Nat
  | (.string bytes, d) => bytes.length + uptoBulk d + 1
  | (_, d) => uptoBulk d + 1
 end
def uptoSmall : (H : Type) → List (DataW H) → Bool := fun _ ds => decide (uptoBulkAll ds ≤ 1048576)
def OpenSpec.upto (s : _root_.Go.ChangeSpec) : _root_.Go.OpenSpec := { _root_.Go.OpenSpec.ofChange s with cond := some uptoSmall }

/-- 'fedchatlaw29.GapsAnswers', WHERE WHAT IT READS IS OF BULK AT MOST 1048576: true; the input reads as it did. -/
def gapsAnswersUptoRow : OpenClaim := { program := "ytkagjfgjcbanpaagreat", sum := "0823d51ca0c59ef9f5ee14f66b47d46a69f876e29f65f622db0d1da2ee37bcb3", func := "fedchat/fedchatlaw29.GapsAnswers", spec := "gapsAnswers", inPlace := ["internal/bytealg.IndexByteString", "internal/bytealg.IndexString", "slices.overlaps[fedchat/api.Event]"], unfollowed := true, recurses := true, named := ["internal/bytealg.MaxLen"], apart := false, narrowed := true }
def GapsAnswersUptoSaid : Prop := gapsAnswersUptoRow.holds Tryz.pinned (OpenSpec.upto gapsAnswersSpec)

/-- 'fedchatlaw29.GapsFills', WHERE WHAT IT READS IS OF BULK AT MOST 1048576: true; the input reads as it did. -/
def gapsFillsUptoRow : OpenClaim := { program := "ytkagjfgjcbanpaagreat", sum := "0823d51ca0c59ef9f5ee14f66b47d46a69f876e29f65f622db0d1da2ee37bcb3", func := "fedchat/fedchatlaw29.GapsFills", spec := "gapsFills", inPlace := ["internal/bytealg.IndexByteString", "internal/bytealg.IndexString", "slices.overlaps[fedchat/api.Event]"], unfollowed := true, recurses := true, named := ["internal/bytealg.MaxLen"], apart := false, narrowed := true }
def GapsFillsUptoSaid : Prop := gapsFillsUptoRow.holds Tryz.pinned (OpenSpec.upto gapsFillsSpec)

/-- 'fedchatlaw29.GapsAsks', WHERE WHAT IT READS IS OF BULK AT MOST 1048576: true; the input reads as it did. -/
def gapsAsksUptoRow : OpenClaim := { program := "ytkagjfgjcbanpaagreat", sum := "0823d51ca0c59ef9f5ee14f66b47d46a69f876e29f65f622db0d1da2ee37bcb3", func := "fedchat/fedchatlaw29.GapsAsks", spec := "gapsAsks", inPlace := ["internal/bytealg.IndexByteString", "internal/bytealg.IndexString", "slices.overlaps[fedchat/api.Event]"], unfollowed := true, recurses := true, named := ["internal/bytealg.MaxLen"], apart := false, narrowed := true }
def GapsAsksUptoSaid : Prop := gapsAsksUptoRow.holds Tryz.pinned (OpenSpec.upto gapsAsksSpec)

/-- 'fedchatlaw29.GapsBounds', WHERE WHAT IT READS IS OF BULK AT MOST 1048576: true; the input reads as it did. -/
def gapsBoundsUptoRow : OpenClaim := { program := "ytkagjfgjcbanpaagreat", sum := "0823d51ca0c59ef9f5ee14f66b47d46a69f876e29f65f622db0d1da2ee37bcb3", func := "fedchat/fedchatlaw29.GapsBounds", spec := "gapsBounds", inPlace := ["internal/bytealg.IndexByteString", "internal/bytealg.IndexString", "slices.overlaps[fedchat/api.Event]"], unfollowed := true, recurses := true, named := ["internal/bytealg.MaxLen"], apart := false, narrowed := true }
def GapsBoundsUptoSaid : Prop := gapsBoundsUptoRow.holds Tryz.pinned (OpenSpec.upto gapsBoundsSpec)

/-- 'fedchatlaw29.GapsBackfill', WHERE WHAT IT READS IS OF BULK AT MOST 1048576: true; the input reads as it did. -/
def gapsBackfillUptoRow : OpenClaim := { program := "ytkagjfgjcbanpaagreat", sum := "0823d51ca0c59ef9f5ee14f66b47d46a69f876e29f65f622db0d1da2ee37bcb3", func := "fedchat/fedchatlaw29.GapsBackfill", spec := "gapsBackfill", inPlace := ["internal/bytealg.IndexByteString", "internal/bytealg.IndexString", "slices.overlaps[fedchat/api.Event]"], unfollowed := true, recurses := true, named := ["internal/bytealg.MaxLen"], apart := false, narrowed := true }
def GapsBackfillUptoSaid : Prop := gapsBackfillUptoRow.holds Tryz.pinned (OpenSpec.upto gapsBackfillSpec)

/-- 'fedchatlaw29.GapsAgain', WHERE WHAT IT READS IS OF BULK AT MOST 1048576: true; the input reads as it did. -/
def gapsAgainUptoRow : OpenClaim := { program := "ytkagjfgjcbanpaagreat", sum := "0823d51ca0c59ef9f5ee14f66b47d46a69f876e29f65f622db0d1da2ee37bcb3", func := "fedchat/fedchatlaw29.GapsAgain", spec := "gapsAgain", inPlace := ["internal/bytealg.IndexByteString", "internal/bytealg.IndexString", "slices.overlaps[fedchat/api.Event]"], unfollowed := true, recurses := true, named := ["internal/bytealg.MaxLen"], apart := false, narrowed := true }
def GapsAgainUptoSaid : Prop := gapsAgainUptoRow.holds Tryz.pinned (OpenSpec.upto gapsAgainSpec)

end Rows
end Go.Proofs.YtkagjfgjcbanpaaGreat
