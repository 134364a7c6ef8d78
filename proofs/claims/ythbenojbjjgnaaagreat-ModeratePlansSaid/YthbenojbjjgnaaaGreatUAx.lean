/- Walks to a property. -/
import Derived.Test.YthbenojbjjgnaaaGreatUAm
import Derived.Test.YthbenojbjjgnaaaGreatUAw
set_option linter.unusedVariables false
set_option linter.unusedSimpArgs false
set_option linter.unusedSectionVars false
namespace Go.Abs.RM
open Go.Proofs
set_option maxRecDepth 100000
set_option maxHeartbeats 40000000
theorem w350 (a0 : Int) : WQv 350 [.sc (.int .i64 a0)] (fun r : Bool => .sc (.bool r)) (fun r => True) := by
 refine go Tryz.func350 (by kernel_rfl) ?_
 repeat' first
 | (conv => whnf); first
  | refine bD (fun h => ?_) fun h => ?_
  | refine ⟨false,rfl,?_⟩
  | refine ⟨_,rfl,?_⟩
 | exact True.intro
theorem w498 (a0 : Int) : WQv 498 [.sc (.int .i64 a0)] (fun r : List ByteArray => .lst (r.map cStr)) (fun r => r.length ≤ 3 ∧ (a0 = 4 → (⟨#[68,101,110,121]⟩ : ByteArray) ∉ r ∧ (⟨#[76,101,118,101,108,115]⟩ : ByteArray) ∉ r)) := by
 refine go Tryz.func498 (by kernel_rfl) ?_
 repeat' first
 | (conv => whnf); first
  | refine bI (fun h => ?_) fun h => ?_
  | refine ⟨_,_,deep0 (leafs_lit rfl),?_⟩
  | refine ⟨[_,_,_],rfl,?_⟩
  | refine ⟨[_],rfl,?_⟩
  | refine ⟨[_,_],rfl,?_⟩
  | refine ⟨[],rfl,?_⟩
 | omega
 | dsimp only
 | (simp only [List.length_cons,List.length_nil]; omega)
 | with_reducible apply And.intro
 | contradiction
 | intro hr
theorem w430 (a0 : Int) (a1 : ByteArray) : WQv 430 [.sc (.int .i64 a0),.sc (.string a1)] (fun r : Bool => .sc (.bool r)) (fun r => r = true → a0 = 4 → a1 ≠ (⟨#[68,101,110,121]⟩ : ByteArray) ∧ a1 ≠ (⟨#[76,101,118,101,108,115]⟩ : ByteArray)) := by
 refine go Tryz.func430 (by kernel_rfl) ?_
 repeat' first
 | with_reducible assumption
 | (conv => whnf); first
  | refine bD (fun h => ?_) fun h => ?_
  | refine bS (fun h => ?_) fun h => ?_
  | refine wC (w498 _) fun z498 hz => ?_
  | refine V1 (fun (p0 : Int) => 0 ≤ p0 ∧ p0 ≤ (z498.length : Int) ∧ (∀ r : Bool,(r = true → a1 ∈ z498) → r = true → a0 = 4 → a1 ≠ (⟨#[68,101,110,121]⟩ : ByteArray) ∧ a1 ≠ (⟨#[76,101,118,101,108,115]⟩ : ByteArray))) (fun p0 => [(1,.sc (.string a1)),(5,.lst (List.map cStr z498)),(6,.sc (.int .i64 p0))]) (fun _ => ⟨[],0⟩) (fun p0 => ((z498.length : Int) + 1 - p0).toNat) (0 : Int) ?_ (ft [] rfl rfl rfl trivial) fun p0 ⟨i0,i1,hk⟩ => ?_
  | refine ⟨_,List.length_map ..,?_⟩
  | refine wG ?_ ?_ (fun _ => rfl) fun x hx hm => ?_
  | refine ⟨true,rfl,?_⟩
  | refine ⟨nx _,?_,?_,(ft [] rfl rfl rfl trivial)⟩
  | refine ⟨false,rfl,?_⟩
 | omega
 | dsimp only
 | refine hk _ ?_
 | (intro hr; contradiction)
 | (intro hr; subst h; assumption)
 | with_reducible apply And.intro
 | (simp (disch := omega) only [ls] <;> omega)
 | intro hr
 | grind
theorem w431 (a0 : S59) (g0 : (a0.f0.length : Int) ≤ 9223372036854775807) (g1 : (a0.f1.length : Int) ≤ 9223372036854775807) : WQv 431 [.agg (S59.c a0)] (fun r : Bool => .sc (.bool r)) (fun r => r = true → a0.f0.length = 0 ∧ a0.f1.length = 0) := by
 refine go Tryz.func431 (by kernel_rfl) ?_
 repeat' first
 | with_reducible assumption
 | (conv => whnf); first
  | refine wC (w162 _ ze59 ?_ ?_) fun z162 hz => ?_
  | refine ⟨_,rfl,?_⟩
 | dsimp only
 | exact hz
theorem w351 (a0 : Int) (a1 : S61) (g0 : (a1.f7.f0.length : Int) ≤ 9223372036854775807) (g1 : (a1.f7.f1.length : Int) ≤ 9223372036854775807) : WQv 351 [.sc (.int .i64 a0),.agg (S61.c a1)] (fun r : Bool => .sc (.bool r)) (fun r => r = true → a0 = 4 → a1.f6.length = 0 ∧ a1.f7.f0.length = 0 ∧ a1.f7.f1.length = 0) := by
 refine go Tryz.func351 (by kernel_rfl) ?_
 repeat' first
 | with_reducible assumption
 | (conv => whnf); first
  | refine bS (fun h => ?_) fun h => ?_
  | refine bI (fun h => ?_) fun h => ?_
  | refine bN (fun h => ?_) fun h => ?_
  | refine br (fun h => ?_) fun h => ?_
  | refine ⟨_,List.length_map ..,?_⟩
  | refine wC (w431 _ ?_ ?_) fun z431 hz => ?_
  | refine ⟨true,rfl,?_⟩
  | refine wC (w430 _ _) fun z430 hz => ?_
  | refine ⟨false,rfl,?_⟩
  | refine ⟨_,rfl,?_⟩
 | (intro hr; contradiction)
 | (intro hr h4; grind)
theorem w352 (a0 : Int) : WQv 352 [.sc (.int .i64 a0)] (fun r : Bool => .sc (.bool r)) (fun r => True) := by
 refine go Tryz.func352 (by kernel_rfl) ?_
 repeat' first
 | (conv => whnf); first
  | refine bI (fun h => ?_) fun h => ?_
  | refine ⟨true,rfl,?_⟩
  | refine ⟨_,rfl,?_⟩
 | exact True.intro
theorem w71 (a0 : ByteArray) : WQv 71 [.sc (.string a0)] (fun r : Int => .sc (.int .i64 r)) (fun r => r = 0 → a0.size ≤ 64) := by
 refine go Tryz.func71 (by kernel_rfl) ?_
 repeat' first
 | with_reducible assumption
 | (conv => whnf); first
  | refine bI (fun h => ?_) fun h => ?_
  | refine bD (fun h => ?_) fun h => ?_
  | refine V1 (fun (p0 : Int) => 0 ≤ p0 ∧ p0 ≤ (a0.size : Int)) (fun p0 => [(0,.sc (.string a0)),(3,.sc (.int .i64 p0))]) (fun _ => ⟨[],0⟩) (fun p0 => ((a0.size : Int) + 1 - p0).toNat) (0 : Int) ?_ (ft [] rfl rfl rfl trivial) fun p0 ⟨i0,i1⟩ => ?_
  | refine wS ?_ ?_ fun x hb => ?_
  | refine ⟨nx _,?_,?_,(ft [] rfl rfl rfl trivial)⟩
  | refine ⟨(9 : Int),rfl,?_⟩
  | refine ⟨(7 : Int),rfl,?_⟩
  | refine ⟨(3 : Int),rfl,?_⟩
  | refine ⟨(0 : Int),rfl,?_⟩
 | omega
 | with_reducible apply And.intro
 | (simp (disch := omega) only [ls] <;> omega)
theorem w353 (a0 : Int) (a1 : S61) : WQv 353 [.sc (.int .i64 a0),.agg (S61.c a1)] (fun r : Int => .sc (.int .i64 r)) (fun r => r = 0 → a1.f0.size ≤ 400) := by
 refine go Tryz.func353 (by kernel_rfl) ?_
 repeat' first
 | (conv => whnf); first
  | refine bI (fun h => ?_) fun h => ?_
  | refine bS (fun h => ?_) fun h => ?_
  | refine bD (fun h => ?_) fun h => ?_
  | refine wC (w71 _) fun z71 hz => ?_
  | refine ⟨(0 : Int),rfl,?_⟩
  | refine ⟨_,rfl,?_⟩
 | omega
 | dsimp only
 | (rw [h]; decide)
end Go.Abs.RM
