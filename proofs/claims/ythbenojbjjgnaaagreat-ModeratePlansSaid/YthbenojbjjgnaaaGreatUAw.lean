/- Walks to a property. -/
import Derived.Test.YthbenojbjjgnaaaGreatUAm
import Derived.Test.YthbenojbjjgnaaaGreatUAv
set_option linter.unusedVariables false
set_option linter.unusedSimpArgs false
set_option linter.unusedSectionVars false
namespace Go.Abs.RM
open Go.Proofs
set_option maxRecDepth 100000
set_option maxHeartbeats 40000000
theorem w162 (a0 : S59) (a1 : S59) (g0 : (a0.f0.length : Int) ≤ 9223372036854775807) (g1 : (a0.f1.length : Int) ≤ 9223372036854775807) : WQv 162 [.agg (S59.c a0),.agg (S59.c a1)] (fun r : Bool => .sc (.bool r)) (fun r => r = true → a0.f0.length = a1.f0.length ∧ a0.f1.length = a1.f1.length) := by
 refine go Tryz.func162 (by kernel_rfl) ?_
 repeat' first
 | with_reducible assumption
 | (conv => whnf); first
  | refine bJ (fun h => ?_) fun h => ?_
  | refine bD (fun h => ?_) fun h => ?_
  | refine bT' (fun h => ?_) fun h => ?_
  | refine ⟨_,List.length_map ..,?_⟩
  | refine ⟨false,rfl,?_⟩
  | refine V1 (fun (p0 : Int) => 0 ≤ p0 ∧ p0 ≤ (a0.f0.length : Int)) (fun p0 => [(2,.box 0 0),(3,.box 1 0),(5,.sc (.int .i64 p0))]) (fun _ => ⟨[(0,.box (S59.c a0) false),(1,.box (S59.c a1) false)],2⟩) (fun p0 => ((a0.f0.length : Int) + 1 - p0).toNat) (0 : Int) ?_ (ft [(0,some 0),(1,some 1)] rfl rfl rfl ⟨fB rfl rfl rfl,fB rfl rfl rfl,trivial⟩) fun p0 ⟨i0,i1⟩ => ?_
  | refine wE ‹_› ?_ (fun _ => rfl) ?_
  | refine wG ?_ ?_ (fun _ => rfl) fun x hx hm => ?_
  | refine ⟨by kernel_rfl,?_⟩
  | refine ⟨nx _,?_,?_,(ft [(0,some 0),(1,some 1)] rfl rfl rfl ⟨fB rfl rfl rfl,fB rfl rfl rfl,trivial⟩)⟩
  | refine V1 (fun (q0 : Int) => 0 ≤ q0 ∧ q0 ≤ (a0.f1.length : Int)) (fun q0 => [(2,.box 0 0),(3,.box 1 0),(6,.sc (.int .i64 q0))]) (fun _ => ⟨[(0,.box (S59.c a0) false),(1,.box (S59.c a1) false)],2⟩) (fun q0 => ((a0.f1.length : Int) + 1 - q0).toNat) (0 : Int) ?_ (ft [(0,some 0),(1,some 1)] rfl rfl rfl ⟨fB rfl rfl rfl,fB rfl rfl rfl,trivial⟩) fun q0 ⟨i0,i1⟩ => ?_
  | refine ⟨_,rfl,?_⟩
 | omega
 | dsimp only
 | (intro hr; contradiction)
 | with_reducible apply And.intro
 | (simp (disch := omega) only [ls] <;> omega)
theorem w95 (a0 : S61) (a1 : S61) (g0 : (a0.f5.length : Int) ≤ 9223372036854775807) (g1 : (a0.f6.length : Int) ≤ 9223372036854775807) (g2 : (a0.f7.f0.length : Int) ≤ 9223372036854775807) (g3 : (a0.f7.f1.length : Int) ≤ 9223372036854775807) : WQv 95 [.agg (S61.c a0),.agg (S61.c a1)] (fun r : Bool => .sc (.bool r)) (fun r => r = true → a0.f0 = a1.f0 ∧ a0.f4 = a1.f4 ∧ a0.f5.length = a1.f5.length ∧ a0.f6.length = a1.f6.length ∧ a0.f7.f0.length = a1.f7.f0.length ∧ a0.f7.f1.length = a1.f7.f1.length) := by
 refine go Tryz.func95 (by kernel_rfl) ?_
 repeat' first
 | with_reducible assumption
 | (conv => whnf); first
  | refine bS (fun h => ?_) fun h => ?_
  | refine bI (fun h => ?_) fun h => ?_
  | refine br (fun h => ?_) fun h => ?_
  | refine wC (w161 _ _ ?_) fun z161 hy5 => ?_
  | refine wC (w162 _ _ ?_ ?_) fun z162 hz => ?_
  | refine ⟨false,rfl,?_⟩
  | refine ⟨_,rfl,?_⟩
 | dsimp only
 | (intro hr; contradiction)
 | with_reducible apply And.intro
 | intro hr
 | grind
theorem w174 (a0 : Int) (a1 : S61) (g0 : CB a1 400 100) : WQv 174 [.sc (.int .i64 a0),.agg (S61.c a1)] (fun r : S61 => .agg (S61.c r)) (fun r => CB r 400 100) := by
 refine go Tryz.func174 (by kernel_rfl) ?_
 obtain ⟨c0,c4,c5,c6,c7,c8,c9,c10,c11⟩ := g0
 repeat' first
 | (conv => whnf); first
  | refine bI (fun h => ?_) fun h => ?_
  | refine ⟨_,rfl,?_⟩
  | refine ⟨⟨zS,_,(0 : Int),false,_,[],[],ze59⟩,rfl,?_⟩
  | refine ⟨⟨zS,(0 : Int),(0 : Int),false,zS,[],[],_⟩,rfl,?_⟩
  | refine ⟨⟨zS,_,(0 : Int),false,zS,_,[],ze59⟩,rfl,?_⟩
  | refine ⟨⟨zS,(0 : Int),(0 : Int),false,zS,_,_,ze59⟩,rfl,?_⟩
  | refine ⟨⟨zS,(0 : Int),_,false,zS,[],[],ze59⟩,rfl,?_⟩
 | dsimp only
 | exact ⟨c0,c4,c5,c6,c7,c8,c9,c10,c11⟩
 | exact cb_nil _ _ _ _ _ _ _ _ _ _ (by first | assumption | exact Nat.zero_le _) (by first | assumption | exact Nat.zero_le _) (by first | exact nl | exact ⟨c5,c9⟩) (by first | exact nl | exact ⟨c6,c10⟩) (by first | exact nv | exact ⟨c7,c8,c11⟩)
theorem w116 (a0 : Int) : WQv 116 [.sc (.int .i64 a0)] (fun r : Bool => .sc (.bool r)) (fun r => True) := by
 refine go Tryz.func116 (by kernel_rfl) ?_
 repeat' first
 | (conv => whnf); first
  | refine bD (fun h => ?_) fun h => ?_
  | refine ⟨false,rfl,?_⟩
  | refine ⟨_,rfl,?_⟩
 | exact True.intro
theorem w347 (a0 : ByteArray) (g0 : (a0.size : Int) ≤ 9223372036854775807) : WQv 347 [.sc (.string a0)] (fun r : Int => .sc (.int .i64 r)) (fun r => r = 0 → a0.size ≤ 80) := by
 refine go Tryz.func347 (by kernel_rfl) ?_
 repeat' first
 | with_reducible assumption
 | (conv => whnf); first
  | refine bN (fun h => ?_) fun h => ?_
  | refine wC (w77 _ (64 : Int) ?_ ?_) fun z77 hz => ?_
  | refine ⟨(3 : Int),rfl,?_⟩
  | refine ⟨(0 : Int),rfl,?_⟩
 | omega
 | dsimp only
 | intro hr
 | grind
theorem w348 (a0 : Int) (a1 : ByteArray) (g0 : (a1.size : Int) ≤ 9223372036854775807) : WQv 348 [.sc (.int .i64 a0),.sc (.string a1)] (fun r : Bool => .sc (.bool r)) (fun r => r = true → (a0 = 2 ∨ a0 = 9) → a1.size ≤ 80) := by
 refine go Tryz.func348 (by kernel_rfl) ?_
 repeat' first
 | with_reducible assumption
 | (conv => whnf); first
  | refine bI (fun h => ?_) fun h => ?_
  | refine bJ (fun h => ?_) fun h => ?_
  | refine bD (fun h => ?_) fun h => ?_
  | refine wC (w347 _ ?_) fun z347 hz => ?_
  | refine ⟨true,rfl,?_⟩
  | refine ⟨false,rfl,?_⟩
  | refine V1 (fun (p0 : Int) => 0 ≤ p0 ∧ p0 ≤ (a1.size : Int)) (fun p0 => [(1,.sc (.string a1)),(5,.sc (.int .i64 p0))]) (fun _ => ⟨[],0⟩) (fun p0 => ((a1.size : Int) + 1 - p0).toNat) (0 : Int) ?_ (ft [] rfl rfl rfl trivial) fun p0 ⟨i0,i1⟩ => ?_
  | refine wS ?_ ?_ fun x hb => ?_
  | refine ⟨nx _,?_,?_,(ft [] rfl rfl rfl trivial)⟩
  | refine ⟨_,rfl,?_⟩
 | omega
 | dsimp only
 | (intro hr; contradiction)
 | (intro hr; have := hz (eq_of_beq hr); intros; omega)
 | with_reducible apply And.intro
 | (simp (disch := omega) only [ls] <;> omega)
theorem w349 (a0 : List Int) (g0 : (a0.length : Int) ≤ 9223372036854775807) : WQv 349 [.lst (a0.map c_i64)] (fun r : Bool => .sc (.bool r)) (fun r => True) := by
 refine go Tryz.func349 (by kernel_rfl) ?_
 repeat' first
 | with_reducible assumption
 | (conv => whnf); first
  | refine bD (fun h => ?_) fun h => ?_
  | refine V1 (fun (p0 : Int) => 0 ≤ p0 ∧ p0 ≤ (a0.length : Int)) (fun p0 => [(0,.lst (List.map c_i64 a0)),(3,.sc (.int .i64 p0))]) (fun _ => ⟨[],0⟩) (fun p0 => ((a0.length : Int) + 1 - p0).toNat) (0 : Int) ?_ (ft [] rfl rfl rfl trivial) fun p0 ⟨i0,i1⟩ => ?_
  | refine ⟨_,List.length_map ..,?_⟩
  | refine wE ‹_› ?_ (fun _ => rfl) ?_
  | refine wG ?_ ?_ (fun _ => rfl) fun x hx hm => ?_
  | refine ⟨by kernel_rfl,?_⟩
  | refine ⟨false,rfl,?_⟩
  | refine ⟨nx _,?_,?_,(ft [] rfl rfl rfl trivial)⟩
  | refine ⟨true,rfl,?_⟩
 | omega
 | exact True.intro
 | with_reducible apply And.intro
 | (simp (disch := omega) only [ls] <;> omega)
theorem w249 (a0 : S65) (g0 : (a0.f1.size : Int) ≤ 9223372036854775807) (g1 : (a0.f2.size : Int) ≤ 9223372036854775807) (g2 : (a0.f5.size : Int) ≤ 9223372036854775807) (g3 : (a0.f8.length : Int) ≤ 9223372036854775807) (g4 : (a0.f9.length : Int) ≤ 9223372036854775807) : WQv 249 [.agg (S65.c a0)] (fun r : Int => .sc (.int .i64 r)) (fun r => r = 0 → a0.f1.size ≤ 80 ∧ a0.f2.size ≤ 80 ∧ a0.f5.size ≤ 80 ∧ a0.f8.length ≤ 10 ∧ a0.f9.length ≤ 8) := by
 refine go Tryz.func249 (by kernel_rfl) ?_
 repeat' first
 | with_reducible assumption
 | (conv => whnf); first
  | refine bD (fun h => ?_) fun h => ?_
  | refine bJ (fun h => ?_) fun h => ?_
  | refine bT' (fun h => ?_) fun h => ?_
  | refine bN (fun h => ?_) fun h => ?_
  | refine ⟨by kernel_rfl,?_⟩
  | refine wC (w116 _) fun z116 hz => ?_
  | refine wC (w32 _ ?_) fun z32 hz => ?_
  | refine wC (w347 _ ?_) fun z347 hz => ?_
  | refine wC (w348 _ _ ?_) fun z348 hz => ?_
  | refine ⟨_,List.length_map ..,?_⟩
  | refine wC (w349 _ ?_) fun z349 hz => ?_
  | refine ⟨(1 : Int),rfl,?_⟩
  | refine ⟨(3 : Int),rfl,?_⟩
  | refine ⟨(2 : Int),rfl,?_⟩
  | refine ⟨(7 : Int),rfl,?_⟩
  | refine ⟨(8 : Int),rfl,?_⟩
  | refine ⟨(9 : Int),rfl,?_⟩
  | refine ⟨(6 : Int),rfl,?_⟩
  | refine ⟨(0 : Int),rfl,?_⟩
 | omega
 | dsimp only
 | (intro hr; have := ‹_ = true → (_ ∨ _) → a0.f5.size ≤ 80› (by assumption) (by omega); omega)
 | with_reducible apply And.intro
 | intro hr
 | grind
end Go.Abs.RM
