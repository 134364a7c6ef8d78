/- Walks to a property. -/
import Derived.Test.YthbenojbjjgnaaaGreatUAm
set_option linter.unusedVariables false
set_option linter.unusedSimpArgs false
set_option linter.unusedSectionVars false
namespace Go.Abs.RM
open Go.Proofs
set_option maxRecDepth 100000
set_option maxHeartbeats 40000000
theorem w78 (a0 : ByteArray) (g0 : (a0.size : Int) ≤ 9223372036854775807) : WQv 78 [.sc (.string a0)] (fun r : Int => .sc (.int .i64 r)) (fun r => ((0 ≤ r ∧ r ≤ (a0.size : Int)) ∧ (r < (a0.size : Int) → ∃ b,a0[r.toNat]? = some b ∧ (b.toNat : Int) = 58)) ∧ ∀ (j : Nat) b,j < r.toNat → a0[j]? = some b → (b.toNat : Int) ≠ 58) := by
 refine go Tryz.func78 (by kernel_rfl) ?_
 repeat' first
 | with_reducible assumption
 | (conv => whnf); first
  | refine bD (fun h => ?_) fun h => ?_
  | refine bJ (fun h => ?_) fun h => ?_
  | refine V1 (fun (p0 : Int) => 0 ≤ p0 ∧ p0 ≤ (a0.size : Int) ∧ (∀ (j : Nat) b,j < p0.toNat → a0[j]? = some b → (b.toNat : Int) ≠ 58)) (fun p0 => [(0,.sc (.string a0)),(3,.sc (.int .i64 p0))]) (fun _ => ⟨[],0⟩) (fun p0 => ((a0.size : Int) + 1 - p0).toNat) (0 : Int) ?_ (ft [] rfl rfl rfl trivial) fun p0 ⟨i0,i1,i3⟩ => ?_
  | refine wS ?_ ?_ fun x hb => ?_
  | refine ⟨nx _,?_,?_,(ft [] rfl rfl rfl trivial)⟩
  | refine ⟨_,rfl,?_⟩
 | omega
 | dsimp only
 | exact ⟨⟨by omega,by omega⟩,fun _ => ⟨_,hb,h⟩⟩
 | with_reducible apply And.intro
 | (simp (disch := omega) only [ls] <;> omega)
 | intro hr
 | grind
theorem w197 (a0 : Int) : WQv 197 [.sc (.int .u8 a0)] (fun r : Bool => .sc (.bool r)) (fun r => True) := by
 refine go Tryz.func197 (by kernel_rfl) ?_
 repeat' first
 | (conv => whnf); first
  | refine bD (fun h => ?_) fun h => ?_
  | refine ⟨true,rfl,?_⟩
  | refine ⟨false,rfl,?_⟩
  | refine ⟨_,rfl,?_⟩
 | omega
 | exact True.intro
theorem w141 (a0 : ByteArray) (g0 : (a0.size : Int) ≤ 9223372036854775807) : WQv 141 [.sc (.string a0)] (fun r : Bool => .sc (.bool r)) (fun r => r = true → 1 ≤ a0.size ∧ a0.size ≤ 32) := by
 refine go Tryz.func141 (by kernel_rfl) ?_
 repeat' first
 | with_reducible assumption
 | (conv => whnf); first
  | refine bD (fun h => ?_) fun h => ?_
  | refine bN (fun h => ?_) fun h => ?_
  | refine V1 (fun (p0 : Int) => 0 ≤ p0 ∧ p0 ≤ (a0.size : Int)) (fun p0 => [(0,.sc (.string a0)),(3,.sc (.int .i64 p0))]) (fun _ => ⟨[],0⟩) (fun p0 => ((a0.size : Int) + 1 - p0).toNat) (0 : Int) ?_ (ft [] rfl rfl rfl trivial) fun p0 ⟨i0,i1⟩ => ?_
  | refine wS ?_ ?_ fun x hb => ?_
  | refine wC (w197 _) fun z197 hz => ?_
  | refine ⟨false,rfl,?_⟩
  | refine ⟨nx _,?_,?_,(ft [] rfl rfl rfl trivial)⟩
  | refine ⟨_,rfl,?_⟩
 | omega
 | dsimp only
 | (intro hr; contradiction)
 | with_reducible apply And.intro
 | (simp (disch := omega) only [ls] <;> omega)
 | (intro hr; first | omega | (simp at hr; omega))
theorem w142 (a0 : ByteArray) (g0 : (a0.size : Int) ≤ 9223372036854775807) : WQv 142 [.sc (.string a0)] (fun r : Int => .sc (.int .i64 r)) (fun r => r = 0 → 1 ≤ a0.size ∧ a0.size ≤ 32) := by
 refine go Tryz.func142 (by kernel_rfl) ?_
 repeat' first
 | with_reducible assumption
 | (conv => whnf); first
  | refine bD (fun h => ?_) fun h => ?_
  | refine bN (fun h => ?_) fun h => ?_
  | refine wS ?_ ?_ fun x hb => ?_
  | refine wC (w197 _) fun z197 hz => ?_
  | refine V1 (fun (p0 : Int) => 0 ≤ p0 ∧ p0 ≤ (a0.size : Int)) (fun p0 => [(0,.sc (.string a0)),(3,.sc (.int .i64 p0))]) (fun _ => ⟨[],0⟩) (fun p0 => ((a0.size : Int) + 1 - p0).toNat) (0 : Int) ?_ (ft [] rfl rfl rfl trivial) fun p0 ⟨i0,i1⟩ => ?_
  | refine ⟨nx _,?_,?_,(ft [] rfl rfl rfl trivial)⟩
  | refine ⟨(3 : Int),rfl,?_⟩
  | refine ⟨(0 : Int),rfl,?_⟩
 | omega
 | with_reducible apply And.intro
 | (simp (disch := omega) only [ls] <;> omega)
theorem w77 (a0 : ByteArray) (a1 : Int) (g0 : (a0.size : Int) ≤ 9223372036854775807) (g1 : a1 ≠ 58) : WQv 77 [.sc (.string a0),.sc (.int .u8 a1)] (fun r : Bool => .sc (.bool r)) (fun r => r = true → a0.size ≤ 80 ∧ ∃ j : Nat,j < a0.size ∧ ∃ b,a0[j]? = some b ∧ (b.toNat : Int) = 58) := by
 refine go Tryz.func77 (by kernel_rfl) ?_
 repeat' first
 | with_reducible assumption
 | (conv => whnf); first
  | refine bD (fun h => ?_) fun h => ?_
  | refine bJ (fun h => ?_) fun h => ?_
  | refine br (fun h => ?_) fun h => ?_
  | refine ⟨false,rfl,?_⟩
  | refine wS ?_ ?_ fun x hb => ?_
  | refine wC (w78 _ ?_) fun z78 hz => ?_
  | refine And.intro ?_ (And.intro ?_ (And.intro ?_ ?_))
  | refine wC (w141 _ ?_) fun z141 hz => ?_
  | refine And.intro ?_ (And.intro ?_ ?_)
  | refine wC (w142 _ ?_) fun z142 hz => ?_
  | refine ⟨_,rfl,?_⟩
 | omega
 | refine ⟨z78.toNat,?_,?_⟩
 | (have h1 := hz (eq_of_beq hr); have h2 := ‹z141 = true → _› h; simp (disch := omega) only [ByteArray.size_extract,wrap_i64] at h1 h2; omega)
 | dsimp only
 | with_reducible apply And.intro
 | (simp (disch := omega) only [ls] <;> omega)
 | contradiction
 | intro hr
 | grind
theorem w32 (a0 : ByteArray) (g0 : (a0.size : Int) ≤ 9223372036854775807) : WQv 32 [.sc (.string a0)] (fun r : Int => .sc (.int .i64 r)) (fun r => r = 0 → a0.size ≤ 80) := by
 refine go Tryz.func32 (by kernel_rfl) ?_
 repeat' first
 | with_reducible assumption
 | (conv => whnf); first
  | refine bN (fun h => ?_) fun h => ?_
  | refine wC (w77 _ (33 : Int) ?_ ?_) fun z77 hz => ?_
  | refine ⟨(3 : Int),rfl,?_⟩
  | refine ⟨(0 : Int),rfl,?_⟩
 | omega
 | dsimp only
 | intro hr
 | grind
theorem w28 (a0 : ByteArray) (g0 : (a0.size : Int) ≤ 9223372036854775807) : WQv 28 [.sc (.string a0)] (fun r : ByteArray => .sc (.string r)) (fun r => True) := by
 refine go Tryz.func28 (by kernel_rfl) ?_
 repeat' first
 | with_reducible assumption
 | (conv => whnf); first
  | refine bN (fun h => ?_) fun h => ?_
  | refine wC (w77 _ (64 : Int) ?_ ?_) fun z77 hA => ?_
  | refine wC (w77 _ (33 : Int) ?_ ?_) fun z77 hA => ?_
  | refine ⟨zS,rfl,?_⟩
  | refine wC (w78 _ ?_) fun z78 hz => ?_
  | refine And.intro ?_ (And.intro ?_ ?_)
  | refine ⟨_,rfl,?_⟩
 | omega
 | exact True.intro
 | grind
theorem w161 (a0 : List ByteArray) (a1 : List ByteArray) (g0 : (a0.length : Int) ≤ 9223372036854775807) : WQv 161 [.lst (a0.map cStr),.lst (a1.map cStr)] (fun r : Bool => .sc (.bool r)) (fun r => r = true → a0.length = a1.length) := by
 refine go Tryz.func161 (by kernel_rfl) ?_
 repeat' first
 | with_reducible assumption
 | (conv => whnf); first
  | refine bJ (fun h => ?_) fun h => ?_
  | refine bD (fun h => ?_) fun h => ?_
  | refine bT' (fun h => ?_) fun h => ?_
  | refine ⟨_,List.length_map ..,?_⟩
  | refine ⟨false,rfl,?_⟩
  | refine V1 (fun (p0 : Int) => 0 ≤ p0 ∧ p0 ≤ (a0.length : Int)) (fun p0 => [(0,.lst (List.map cStr a0)),(1,.lst (List.map cStr a1)),(5,.sc (.int .i64 p0))]) (fun _ => ⟨[],0⟩) (fun p0 => ((a0.length : Int) + 1 - p0).toNat) (0 : Int) ?_ (ft [] rfl rfl rfl trivial) fun p0 ⟨i0,i1⟩ => ?_
  | refine wG ?_ ?_ (fun _ => rfl) fun x hx hm => ?_
  | refine ⟨by kernel_rfl,?_⟩
  | refine ⟨nx _,?_,?_,(ft [] rfl rfl rfl trivial)⟩
  | refine ⟨true,rfl,?_⟩
 | omega
 | dsimp only
 | (intro hr; contradiction)
 | with_reducible apply And.intro
 | (simp (disch := omega) only [ls] <;> omega)
end Go.Abs.RM
