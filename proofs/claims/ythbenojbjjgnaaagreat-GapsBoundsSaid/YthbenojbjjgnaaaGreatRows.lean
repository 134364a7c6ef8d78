/-
  No cell of these rows narrows 'for every input' (looked for: loops, veiled, ifaces, maps, wideKeys, modest, calm, conditions, laid).
  DERIVED. THE GIVEN ROWS OF THIS SEAT. 4 by the template 'for every input the law returns true; each argument reads behind the call as it read before'; 0 by the template 'total and deterministic' (their statements: YthbenojbjjgnaaaGreatTotals.lean).
  GIVEN WITH THE SEED: the statements are not yours to turn. If you find one false, say at which input.
  Laid BY PROGRAM, IN A SANDBOX (cutbox-rows.mjs): the forced cells as the released guide's own fill.sh prints them over the translation 3730b1f7b161c0b8… (all of the seat's roots in one cut). By AI agents, Wed Nov 11 2026. No macro, syntax, notation, axiom, sorry.
-/
import Derived.Test.YthbenojbjjgnaaaGreatChecked
import GoSem.Claim
import GoSem.ClaimJoined
import GoSem.ClaimMapViews
import Derived.JoinedTies
import Derived.KernelRfl
namespace Go.Proofs.YthbenojbjjgnaaaGreat
/- THE CELL 'sum', in the pinned program and in every row, IS THE sha256 OF THE DUMP (.gsa) THAT YthbenojbjjgnaaaGreatProg.lean LOADS. Nothing in Lean hashes anything: it is a label: what it is worth is what the hold of that sum in a sandbox is worth. -/
noncomputable def Tryz.pinned : Pinned := { name := "ythbenojbjjgnaaagreat", sum := "3730b1f7b161c0b89f4076aae9df3ebc3bb3f3316a3c416301df7c75c8eebcc7", checked := Tryz.checked }
namespace Rows
def none {H : Type} : Left H := { results := [], args := [] }

/-- 'fedchatlaw29.GapsAnswers': WHATEVER THE INPUT: true; the input reads as it did. -/
def gapsAnswersSpec : ChangeSpec := { name := "gapsAnswers", fn := fun _ => fun
  | [d1, d2] => { results := [.lit (.bool true)], args := [d1, d2] }
  | _ => none }
def gapsAnswersRow : OpenClaim := { program := "ythbenojbjjgnaaagreat", sum := "3730b1f7b161c0b89f4076aae9df3ebc3bb3f3316a3c416301df7c75c8eebcc7", func := "fedchat/fedchatlaw29.GapsAnswers", spec := "gapsAnswers", inPlace := ["internal/bytealg.IndexByteString", "internal/bytealg.IndexString", "slices.overlaps[fedchat/api.Event]"], unfollowed := true, recurses := true, named := ["internal/bytealg.MaxLen"], apart := false }
def GapsAnswersSaid : Prop := gapsAnswersRow.holds Tryz.pinned (OpenSpec.ofChange gapsAnswersSpec)

/-- ITS FALSE NEIGHBOUR: 'it returns false'. Refute it at one input. -/
def gapsAnswersWrong : ChangeSpec := { name := "gapsAnswers", fn := fun _ => fun
  | [d1, d2] => { results := [.lit (.bool false)], args := [d1, d2] }
  | _ => none }
def GapsAnswersWrongFalsely : Prop := gapsAnswersRow.holds Tryz.pinned (OpenSpec.ofChange gapsAnswersWrong)

/-- 'fedchatlaw29.GapsBounds': WHATEVER THE INPUT: true; the input reads as it did. -/
def gapsBoundsSpec : ChangeSpec := { name := "gapsBounds", fn := fun _ => fun
  | [d1, d2] => { results := [.lit (.bool true)], args := [d1, d2] }
  | _ => none }
def gapsBoundsRow : OpenClaim := { program := "ythbenojbjjgnaaagreat", sum := "3730b1f7b161c0b89f4076aae9df3ebc3bb3f3316a3c416301df7c75c8eebcc7", func := "fedchat/fedchatlaw29.GapsBounds", spec := "gapsBounds", inPlace := ["internal/bytealg.IndexByteString", "internal/bytealg.IndexString", "slices.overlaps[fedchat/api.Event]"], unfollowed := true, recurses := true, named := ["internal/bytealg.MaxLen"], apart := false }
def GapsBoundsSaid : Prop := gapsBoundsRow.holds Tryz.pinned (OpenSpec.ofChange gapsBoundsSpec)

/-- ITS FALSE NEIGHBOUR: 'it returns false'. Refute it at one input. -/
def gapsBoundsWrong : ChangeSpec := { name := "gapsBounds", fn := fun _ => fun
  | [d1, d2] => { results := [.lit (.bool false)], args := [d1, d2] }
  | _ => none }
def GapsBoundsWrongFalsely : Prop := gapsBoundsRow.holds Tryz.pinned (OpenSpec.ofChange gapsBoundsWrong)

/-- 'fedchatlaw49.ModeratePlans': WHATEVER THE INPUT: true; the input reads as it did. -/
def moderatePlansSpec : ChangeSpec := { name := "moderatePlans", fn := fun _ => fun
  | [d1, d2, d3] => { results := [.lit (.bool true)], args := [d1, d2, d3] }
  | _ => none }
def moderatePlansRow : OpenClaim := { program := "ythbenojbjjgnaaagreat", sum := "3730b1f7b161c0b89f4076aae9df3ebc3bb3f3316a3c416301df7c75c8eebcc7", func := "fedchat/fedchatlaw49.ModeratePlans", spec := "moderatePlans", inPlace := ["internal/bytealg.IndexByteString", "internal/bytealg.IndexString", "slices.overlaps[fedchat/api.Event]"], unfollowed := true, recurses := true, named := ["internal/bytealg.MaxLen"], apart := false }
def ModeratePlansSaid : Prop := moderatePlansRow.holds Tryz.pinned (OpenSpec.ofChange moderatePlansSpec)

/-- ITS FALSE NEIGHBOUR: 'it returns false'. Refute it at one input. -/
def moderatePlansWrong : ChangeSpec := { name := "moderatePlans", fn := fun _ => fun
  | [d1, d2, d3] => { results := [.lit (.bool false)], args := [d1, d2, d3] }
  | _ => none }
def ModeratePlansWrongFalsely : Prop := moderatePlansRow.holds Tryz.pinned (OpenSpec.ofChange moderatePlansWrong)

/-- 'fedchatlaw49.ModerateSpares': WHATEVER THE INPUT: true; the input reads as it did. -/
def moderateSparesSpec : ChangeSpec := { name := "moderateSpares", fn := fun _ => fun
  | [d1, d2, d3] => { results := [.lit (.bool true)], args := [d1, d2, d3] }
  | _ => none }
def moderateSparesRow : OpenClaim := { program := "ythbenojbjjgnaaagreat", sum := "3730b1f7b161c0b89f4076aae9df3ebc3bb3f3316a3c416301df7c75c8eebcc7", func := "fedchat/fedchatlaw49.ModerateSpares", spec := "moderateSpares", inPlace := ["internal/bytealg.IndexByteString", "internal/bytealg.IndexString", "slices.overlaps[fedchat/api.Event]"], unfollowed := true, recurses := true, named := ["internal/bytealg.MaxLen"], apart := false }
def ModerateSparesSaid : Prop := moderateSparesRow.holds Tryz.pinned (OpenSpec.ofChange moderateSparesSpec)

/-- ITS FALSE NEIGHBOUR: 'it returns false'. Refute it at one input. -/
def moderateSparesWrong : ChangeSpec := { name := "moderateSpares", fn := fun _ => fun
  | [d1, d2, d3] => { results := [.lit (.bool false)], args := [d1, d2, d3] }
  | _ => none }
def ModerateSparesWrongFalsely : Prop := moderateSparesRow.holds Tryz.pinned (OpenSpec.ofChange moderateSparesWrong)

/- THE SECOND FORM. 'bulk': how many values and letters a reading holds, each counted each time it is reached (what is shared counts as often as it is met; a slice's spare places count too). A statement '..UptoSaid' is the law's where the arguments, and the package variables that the reading takes, are together of bulk at most 1048576: NARROWER than '..Said'. Prove '..Said' where nothing that the law and all that it calls make is longer than what came in: it says more and counts as full. Else prove '..UptoSaid'. A law counts once. -/
mutual
def uptoBulk {H : Type} : DataW H → Nat
  | .lit (.string bytes) => bytes.length + 1
  | .lit _ => 1
  | .nil => 1
  | .ptr d => uptoBulk d + 1
  | .slice elems spare => uptoBulkAll elems + uptoBulkAll spare + 1
  | .agg parts => uptoBulkAll parts + 1
  | .iface _ d => uptoBulk d + 1
  | .map entries => uptoBulkEntries entries + 1
  | .held _ => 1
def uptoBulkAll {H : Type} : List (DataW H) → Nat
  | [] => 0
  | d :: r => uptoBulk d + uptoBulkAll r
def uptoBulkEntries {H : Type} : List (Lit × DataW H) → Nat
  | [] => 0
  | x :: r => uptoBulkEntry x + uptoBulkEntries r
def uptoBulkEntry {H : Type} : Lit × DataW H → Nat
  | (.string bytes, d) => bytes.length + uptoBulk d + 1
  | (_, d) => uptoBulk d + 1
 end
def uptoSmall : (H : Type) → List (DataW H) → Bool := fun _ ds => decide (uptoBulkAll ds ≤ 1048576)
def OpenSpec.upto (s : _root_.Go.ChangeSpec) : _root_.Go.OpenSpec := { _root_.Go.OpenSpec.ofChange s with cond := some uptoSmall }

/-- 'fedchatlaw29.GapsAnswers', WHERE WHAT IT READS IS OF BULK AT MOST 1048576: true; the input reads as it did. -/
def gapsAnswersUptoRow : OpenClaim := { program := "ythbenojbjjgnaaagreat", sum := "3730b1f7b161c0b89f4076aae9df3ebc3bb3f3316a3c416301df7c75c8eebcc7", func := "fedchat/fedchatlaw29.GapsAnswers", spec := "gapsAnswers", inPlace := ["internal/bytealg.IndexByteString", "internal/bytealg.IndexString", "slices.overlaps[fedchat/api.Event]"], unfollowed := true, recurses := true, named := ["internal/bytealg.MaxLen"], apart := false, narrowed := true }
def GapsAnswersUptoSaid : Prop := gapsAnswersUptoRow.holds Tryz.pinned (OpenSpec.upto gapsAnswersSpec)

/-- 'fedchatlaw29.GapsBounds', WHERE WHAT IT READS IS OF BULK AT MOST 1048576: true; the input reads as it did. -/
def gapsBoundsUptoRow : OpenClaim := { program := "ythbenojbjjgnaaagreat", sum := "3730b1f7b161c0b89f4076aae9df3ebc3bb3f3316a3c416301df7c75c8eebcc7", func := "fedchat/fedchatlaw29.GapsBounds", spec := "gapsBounds", inPlace := ["internal/bytealg.IndexByteString", "internal/bytealg.IndexString", "slices.overlaps[fedchat/api.Event]"], unfollowed := true, recurses := true, named := ["internal/bytealg.MaxLen"], apart := false, narrowed := true }
def GapsBoundsUptoSaid : Prop := gapsBoundsUptoRow.holds Tryz.pinned (OpenSpec.upto gapsBoundsSpec)

/-- 'fedchatlaw49.ModeratePlans', WHERE WHAT IT READS IS OF BULK AT MOST 1048576: true; the input reads as it did. -/
def moderatePlansUptoRow : OpenClaim := { program := "ythbenojbjjgnaaagreat", sum := "3730b1f7b161c0b89f4076aae9df3ebc3bb3f3316a3c416301df7c75c8eebcc7", func := "fedchat/fedchatlaw49.ModeratePlans", spec := "moderatePlans", inPlace := ["internal/bytealg.IndexByteString", "internal/bytealg.IndexString", "slices.overlaps[fedchat/api.Event]"], unfollowed := true, recurses := true, named := ["internal/bytealg.MaxLen"], apart := false, narrowed := true }
def ModeratePlansUptoSaid : Prop := moderatePlansUptoRow.holds Tryz.pinned (OpenSpec.upto moderatePlansSpec)

/-- 'fedchatlaw49.ModerateSpares', WHERE WHAT IT READS IS OF BULK AT MOST 1048576: true; the input reads as it did. -/
def moderateSparesUptoRow : OpenClaim := { program := "ythbenojbjjgnaaagreat", sum := "3730b1f7b161c0b89f4076aae9df3ebc3bb3f3316a3c416301df7c75c8eebcc7", func := "fedchat/fedchatlaw49.ModerateSpares", spec := "moderateSpares", inPlace := ["internal/bytealg.IndexByteString", "internal/bytealg.IndexString", "slices.overlaps[fedchat/api.Event]"], unfollowed := true, recurses := true, named := ["internal/bytealg.MaxLen"], apart := false, narrowed := true }
def ModerateSparesUptoSaid : Prop := moderateSparesUptoRow.holds Tryz.pinned (OpenSpec.upto moderateSparesSpec)

end Rows
end Go.Proofs.YthbenojbjjgnaaaGreat
