/- Walks to a property. -/
import Derived.Test.YthbenojbjjgnaaaGreatUAm
import Derived.Test.YthbenojbjjgnaaaGreatUAv
import Derived.Test.YthbenojbjjgnaaaGreatUAw
import Derived.Test.YthbenojbjjgnaaaGreatUBg
import Derived.Test.YthbenojbjjgnaaaGreatUBh
set_option linter.unusedVariables false
set_option linter.unusedSimpArgs false
set_option linter.unusedSectionVars false
namespace Go.Abs.RM
open Go.Proofs
set_option maxRecDepth 100000
set_option maxHeartbeats 40000000
theorem w326 (a0 : S65) (a1 : List S65) (g0 : a1.length ≤ 1000000) (g1 : ∀ e ∈ a1,EB e) : WQv 326 [.agg (S65.c a0),.lst (a1.map S65.c)] (fun r : Int => .sc (.int .i64 r)) (fun r => True) := by
 refine go Tryz.func326 (by kernel_rfl) ?_
 repeat' first
 | with_reducible assumption
 | (conv => whnf); first
  | refine bS (fun h => ?_) fun h => ?_
  | refine bI (fun h => ?_) fun h => ?_
  | refine bN (fun h => ?_) fun h => ?_
  | refine br (fun h => ?_) fun h => ?_
  | refine wC (w415 _ _ ?_) fun z415 hz => ?_
  | refine wC (w139 _ _ ?_) fun z139 hz => ?_
  | refine wC (w416 _ _ _) fun z416 hz => ?_
  | refine wC (w417 _ _ _ ?_ ?_) fun z417 hz => ?_
  | refine wC (w418 _ _ _ ?_ ?_) fun z418 hz => ?_
  | refine ⟨(0 : Int),rfl,?_⟩
  | refine ⟨(19 : Int),rfl,?_⟩
  | refine ⟨(18 : Int),rfl,?_⟩
  | refine ⟨_,rfl,?_⟩
theorem w419 (a0 : S59) (a1 : Int) (g0 : a0.f1.length ≤ 100) : WQv 419 [.agg (S59.c a0),.sc (.int .i64 a1)] (fun r : Int => .sc (.int .i64 r)) (fun r => True) := by
 refine go Tryz.func419 (by kernel_rfl) ?_
 repeat' first
 | with_reducible assumption
 | (conv => whnf); first
  | refine bD (fun h => ?_) fun h => ?_
  | refine br (fun h => ?_) fun h => ?_
  | refine V1 (fun (p0 : Int) => 0 ≤ p0 ∧ p0 ≤ (a0.f1.length : Int)) (fun p0 => [(1,.sc (.int .i64 a1)),(2,.box 0 0),(5,.sc (.int .i64 p0))]) (fun _ => ⟨[(0,.box (S59.c a0) false)],1⟩) (fun p0 => ((a0.f1.length : Int) + 1 - p0).toNat) (0 : Int) ?_ (ft [(0,some 0)] rfl rfl rfl ⟨fB rfl rfl rfl,trivial⟩) fun p0 ⟨i0,i1⟩ => ?_
  | refine ⟨_,List.length_map ..,?_⟩
  | refine wE ‹_› ?_ (fun _ => rfl) ?_
  | refine wG ?_ ?_ (fun _ => rfl) fun x hx hm => ?_
  | refine ⟨nx _,?_,?_,(ft [(0,some 0)] rfl rfl rfl ⟨fB rfl rfl rfl,trivial⟩)⟩
  | refine wC (w116 _) fun z116 hz => ?_
  | refine ⟨_,rfl,?_⟩
 | omega
 | exact True.intro
 | with_reducible apply And.intro
 | (simp (disch := omega) only [ls] <;> omega)
theorem w484 (a0 : S59) : WQv 484 [.agg (S59.c a0)] (fun r : List Int => .lst (r.map c_i64)) (fun r => r.length = 7) := by
 refine go Tryz.func484 (by kernel_rfl) ?_
 repeat' first
 | (conv => whnf); first
  | refine ⟨_,_,deep0 (leafs_lit rfl),?_⟩
  | refine ⟨[_,_,_,_,_,_,_],rfl,?_⟩
 | dsimp only
 | rfl
theorem w485 (a0 : Int) (a1 : Int) (a2 : Int) : WQv 485 [.sc (.int .i64 a0),.sc (.int .i64 a1),.sc (.int .i64 a2)] (fun r : Bool => .sc (.bool r)) (fun r => True) := by
 refine go Tryz.func485 (by kernel_rfl) ?_
 repeat' first
 | (conv => whnf); first
  | refine bI (fun h => ?_) fun h => ?_
  | refine bD (fun h => ?_) fun h => ?_
  | refine ⟨true,rfl,?_⟩
  | refine ⟨false,rfl,?_⟩
  | refine ⟨_,rfl,?_⟩
 | exact True.intro
theorem w486 (a0 : S59) (a1 : S59) (a2 : ByteArray) (a3 : ByteArray) (g0 : a0.f0.length ≤ 100) (g1 : a1.f0.length ≤ 100) : WQv 486 [.agg (S59.c a0),.agg (S59.c a1),.sc (.string a2),.sc (.string a3)] (fun r : Bool => .sc (.bool r)) (fun r => True) := by
 refine go Tryz.func486 (by kernel_rfl) ?_
 repeat' first
 | with_reducible assumption
 | (conv => whnf); first
  | refine bI (fun h => ?_) fun h => ?_
  | refine bS (fun h => ?_) fun h => ?_
  | refine br (fun h => ?_) fun h => ?_
  | refine wC (w322 _ _ ?_) fun z322 hz => ?_
  | refine ⟨by kernel_rfl,?_⟩
  | refine wC (w485 _ _ _) fun z485 hz => ?_
  | refine ⟨true,rfl,?_⟩
  | refine ⟨false,rfl,?_⟩
  | refine ⟨_,rfl,?_⟩
theorem w420 (a0 : S59) (a1 : S59) (a2 : ByteArray) (g0 : a0.f0.length ≤ 100) (g1 : a1.f0.length ≤ 100) (g2 : a0.f1.length ≤ 100) (g3 : a1.f1.length ≤ 100) : WQv 420 [.agg (S59.c a0),.agg (S59.c a1),.sc (.string a2)] (fun r : Int => .sc (.int .i64 r)) (fun r => True) := by
 refine go Tryz.func420 (by kernel_rfl) ?_
 repeat' first
 | with_reducible assumption
 | (conv => whnf); first
  | refine bD (fun h => ?_) fun h => ?_
  | refine bN (fun h => ?_) fun h => ?_
  | refine wC (w322 _ _ ?_) fun z322 hz => ?_
  | refine wC (w484 a0) fun z484 hz => ?_
  | refine wC (w484 a1) fun z484_1 hz => ?_
  | refine ⟨by kernel_rfl,?_⟩
  | refine V1 (fun (p0 : Int) => 0 ≤ p0 ∧ p0 ≤ (z484.length : Int)) (fun p0 => [(2,.sc (.string a2)),(3,.box 0 0),(4,.box 1 0),(7,.sc (.int .i64 z322)),(8,.lst (List.map c_i64 z484)),(9,.lst (List.map c_i64 z484_1)),(10,.sc (.int .i64 p0))]) (fun _ => ⟨[(0,.box (S59.c a0) false),(1,.box (S59.c a1) false)],2⟩) (fun p0 => ((z484.length : Int) + 1 - p0).toNat) (0 : Int) ?_ (ft [(0,some 0),(1,some 1)] rfl rfl rfl ⟨fB rfl rfl rfl,fB rfl rfl rfl,trivial⟩) fun p0 ⟨i0,i1⟩ => ?_
  | refine ⟨_,List.length_map ..,?_⟩
  | refine wG ?_ ?_ (fun _ => rfl) fun x hx hm => ?_
  | refine wC (w485 _ _ _) fun z485 hz => ?_
  | refine ⟨nx _,?_,?_,(ft [(0,some 0),(1,some 1)] rfl rfl rfl ⟨fB rfl rfl rfl,fB rfl rfl rfl,trivial⟩)⟩
  | refine V1 (fun (q0 : Int) => 0 ≤ q0 ∧ q0 ≤ (a0.f1.length : Int) + (a1.f1.length : Int)) (fun q0 => [(2,.sc (.string a2)),(3,.box 0 0),(4,.box 1 0),(7,.sc (.int .i64 z322)),(11,.sc (.int .i64 q0))]) (fun _ => ⟨[(0,.box (S59.c a0) false),(1,.box (S59.c a1) false)],2⟩) (fun q0 => ((a0.f1.length : Int) + (a1.f1.length : Int) + 1 - q0).toNat) (0 : Int) ?_ (ft [(0,some 0),(1,some 1)] rfl rfl rfl ⟨fB rfl rfl rfl,fB rfl rfl rfl,trivial⟩) fun q0 ⟨i0,i1⟩ => ?_
  | refine wC (w419 _ _ ?_) fun z419 hz => ?_
  | refine V1 (fun (v0 : Int) => 0 ≤ v0 ∧ v0 ≤ (a0.f0.length : Int)) (fun v0 => [(2,.sc (.string a2)),(3,.box 0 0),(4,.box 1 0),(13,.sc (.int .i64 v0))]) (fun _ => ⟨[(0,.box (S59.c a0) false),(1,.box (S59.c a1) false)],2⟩) (fun v0 => ((a0.f0.length : Int) + 1 - v0).toNat) (0 : Int) ?_ (ft [(0,some 0),(1,some 1)] rfl rfl rfl ⟨fB rfl rfl rfl,fB rfl rfl rfl,trivial⟩) fun v0 ⟨i0,i1⟩ => ?_
  | refine wC (w486 _ _ _ _ ?_ ?_) fun z486 hz => ?_
  | refine V1 (fun (w0 : Int) => 0 ≤ w0 ∧ w0 ≤ (a1.f0.length : Int)) (fun w0 => [(2,.sc (.string a2)),(3,.box 0 0),(4,.box 1 0),(14,.sc (.int .i64 w0))]) (fun _ => ⟨[(0,.box (S59.c a0) false),(1,.box (S59.c a1) false)],2⟩) (fun w0 => ((a1.f0.length : Int) + 1 - w0).toNat) (0 : Int) ?_ (ft [(0,some 0),(1,some 1)] rfl rfl rfl ⟨fB rfl rfl rfl,fB rfl rfl rfl,trivial⟩) fun w0 ⟨i0,i1⟩ => ?_
  | refine ⟨(20 : Int),rfl,?_⟩
  | refine ⟨(0 : Int),rfl,?_⟩
 | omega
 | with_reducible apply And.intro
 | (simp (disch := omega) only [ls] <;> omega)
 | grind
theorem w327 (a0 : S65) (a1 : List S65) (g0 : EB a0) (g1 : a1.length ≤ 1000000) (g2 : ∀ e ∈ a1,EB e) : WQv 327 [.agg (S65.c a0),.lst (a1.map S65.c)] (fun r : Int => .sc (.int .i64 r)) (fun r => True) := by
 refine go Tryz.func327 (by kernel_rfl) ?_
 repeat' first
 | with_reducible assumption
 | (conv => whnf); first
  | refine bD (fun h => ?_) fun h => ?_
  | refine wC (w321 _ ?_ ?_) fun z321 h321 => ?_
  | refine wC (w322 _ _ ?_) fun z322 hz => ?_
  | refine wC (w419 _ _ ?_) fun z419 hz => ?_
  | refine ⟨by kernel_rfl,?_⟩
  | refine wC (w420 _ _ _ ?_ ?_ ?_ ?_) fun z420 hz => ?_
  | refine ⟨(20 : Int),rfl,?_⟩
  | refine ⟨_,rfl,?_⟩
 | omega
 | exact g0.2.2.2.2.2.2.2.2.2.2.1
 | exact g0.2.2.2.2.2.2.2.2.2.1
theorem w236 (a0 : S65) (a1 : List S65) (g0 : EB a0) (g1 : a1.length ≤ 1000000) (g2 : ∀ e ∈ a1,EB e) : WQv 236 [.agg (S65.c a0),.lst (a1.map S65.c)] (fun r : Int => .sc (.int .i64 r)) (fun r => True) := by
 refine go Tryz.func236 (by kernel_rfl) ?_
 repeat' first
 | with_reducible assumption
 | (conv => whnf); first
  | refine bI (fun h => ?_) fun h => ?_
  | refine bN (fun h => ?_) fun h => ?_
  | refine bS (fun h => ?_) fun h => ?_
  | refine wC (w325 _ ?_) fun z325 hz => ?_
  | refine wC (w28 _ ?_) fun z28 hz => ?_
  | refine ⟨by kernel_rfl,?_⟩
  | refine wC (w326 _ _ ?_ ?_) fun z326 hz => ?_
  | refine wC (w139 _ _ ?_) fun z139 hz => ?_
  | refine wC (w327 _ _ ?_ ?_ ?_) fun z327 hz => ?_
  | refine ⟨(0 : Int),rfl,?_⟩
  | refine ⟨(17 : Int),rfl,?_⟩
  | refine ⟨_,rfl,?_⟩
 | (have hb := g0.2.1; omega)
 | (have hb := g0.1; omega)
end Go.Abs.RM
