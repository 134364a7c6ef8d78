/- Walks to a property. -/
import Derived.Test.YthbenojbjjgnaaaGreatUAm
import Derived.Test.YthbenojbjjgnaaaGreatUBg
set_option linter.unusedVariables false
set_option linter.unusedSimpArgs false
set_option linter.unusedSectionVars false
namespace Go.Abs.RM
open Go.Proofs
set_option maxRecDepth 100000
set_option maxHeartbeats 40000000
theorem w480 (a0 : List S65) (a1 : ByteArray) (g0 : a0.length ≤ 1000000) : WQv 480 [.lst (a0.map S65.c),.sc (.string a1)] (fun r : Bool => .sc (.bool r)) (fun r => True) := by
 refine go Tryz.func480 (by kernel_rfl) ?_
 repeat' first
 | with_reducible assumption
 | (conv => whnf); first
  | refine bD (fun h => ?_) fun h => ?_
  | refine bS (fun h => ?_) fun h => ?_
  | refine V1 (fun (p0 : Int) => 0 ≤ p0 ∧ p0 ≤ (a0.length : Int)) (fun p0 => [(0,.lst (List.map S65.c a0)),(1,.sc (.string a1)),(5,.sc (.int .i64 p0))]) (fun _ => ⟨[],0⟩) (fun p0 => ((a0.length : Int) + 1 - p0).toNat) (0 : Int) ?_ (ft [] rfl rfl rfl trivial) fun p0 ⟨i0,i1⟩ => ?_
  | refine ⟨_,List.length_map ..,?_⟩
  | refine wE ‹_› ?_ (fun _ => rfl) ?_
  | refine wG ?_ ?_ (fun _ => rfl) fun x hx hm => ?_
  | refine ⟨true,rfl,?_⟩
  | refine ⟨nx _,?_,?_,(ft [] rfl rfl rfl trivial)⟩
  | refine ⟨false,rfl,?_⟩
 | omega
 | exact True.intro
 | with_reducible apply And.intro
 | (simp (disch := omega) only [ls] <;> omega)
theorem w415 (a0 : S65) (a1 : List S65) (g0 : a1.length ≤ 1000000) : WQv 415 [.agg (S65.c a0),.lst (a1.map S65.c)] (fun r : Bool => .sc (.bool r)) (fun r => True) := by
 refine go Tryz.func415 (by kernel_rfl) ?_
 repeat' first
 | with_reducible assumption
 | (conv => whnf); first
  | refine bI (fun h => ?_) fun h => ?_
  | refine bS (fun h => ?_) fun h => ?_
  | refine br (fun h => ?_) fun h => ?_
  | refine wC (w325 _ ?_) fun z325 hz => ?_
  | refine ⟨_,List.length_map ..,?_⟩
  | refine wG ?_ ?_ (fun _ => rfl) fun x hx hm => ?_
  | refine wC (w480 _ _ ?_) fun z480 hz => ?_
  | refine ⟨by kernel_rfl,?_⟩
  | refine ⟨false,rfl,?_⟩
  | refine ⟨_,rfl,?_⟩
 | omega
theorem w416 (a0 : Int) (a1 : Int) (a2 : Bool) : WQv 416 [.sc (.int .i64 a0),.sc (.int .i64 a1),.sc (.bool a2)] (fun r : Bool => .sc (.bool r)) (fun r => True) := by
 refine go Tryz.func416 (by kernel_rfl) ?_
 repeat' first
 | (conv => whnf); first
  | refine bD (fun h => ?_) fun h => ?_
  | refine bN (fun h => ?_) fun h => ?_
  | refine br (fun h => ?_) fun h => ?_
  | refine ⟨false,rfl,?_⟩
  | refine ⟨true,rfl,?_⟩
  | refine ⟨_,rfl,?_⟩
 | exact True.intro
theorem w481 (a0 : List S65) (g0 : a0.length ≤ 1000000) (g1 : ∀ e ∈ a0,EB e) : WQv 481 [.lst (a0.map S65.c)] (fun r : Int × (List ByteArray) => .tup [.sc (.int .i64 r.1),.lst (r.2.map cStr)]) (fun r => True) := by
 refine go Tryz.func481 (by kernel_rfl) ?_
 repeat' first
 | with_reducible assumption
 | (conv => whnf); first
  | refine bD (fun h => ?_) fun h => ?_
  | refine V1 (fun (p0 : Int) => 0 ≤ p0 ∧ p0 ≤ (a0.length : Int)) (fun p0 => [(0,.lst (List.map S65.c a0)),(4,.sc (.int .i64 p0))]) (fun _ => ⟨[],0⟩) (fun p0 => ((a0.length : Int) + 1 - p0).toNat) (0 : Int) ?_ (ft [] rfl rfl rfl trivial) fun p0 ⟨i0,i1⟩ => ?_
  | refine ⟨_,List.length_map ..,?_⟩
  | refine wE ‹_› ?_ (fun _ => rfl) ?_
  | refine wG ?_ ?_ (fun _ => rfl) fun x hx hm => ?_
  | refine wA (l := []) (f := cStr) (m := _) rfl (fun _ => ⟨rfl,rfl⟩) ?_ ?_ ?_
  | refine ⟨by kernel_rfl,?_⟩
  | refine ⟨_,_,deep0 (leafs_map (f := cStr) (fun _ => rfl) _),?_⟩
  | refine ⟨nx _,?_,?_,(ft [] rfl rfl rfl trivial)⟩
  | refine ⟨(_,_),rfl,?_⟩
  | refine ⟨((0 : Int),[]),rfl,?_⟩
 | omega
 | exact True.intro
 | dsimp only
 | (have hb := (g1 _ hm).2.2.2.2.2.2.2.1; simp only [List.length_nil]; omega)
 | with_reducible apply And.intro
 | (simp (disch := omega) only [ls] <;> omega)
theorem w482 (a0 : Int) (a1 : Int) : WQv 482 [.sc (.int .i64 a0),.sc (.int .i64 a1)] (fun r : Int => .sc (.int .i64 r)) (fun r => True) := by
 refine go Tryz.func482 (by kernel_rfl) ?_
 repeat' first
 | (conv => whnf); first
  | refine bI (fun h => ?_) fun h => ?_
  | refine ⟨(0 : Int),rfl,?_⟩
  | refine ⟨(21 : Int),rfl,?_⟩
 | exact True.intro
theorem w483 (a0 : Int) (a1 : Int) : WQv 483 [.sc (.int .i64 a0),.sc (.int .i64 a1)] (fun r : Int => .sc (.int .i64 r)) (fun r => True) := by
 refine go Tryz.func483 (by kernel_rfl) ?_
 repeat' first
 | (conv => whnf); first
  | refine bI (fun h => ?_) fun h => ?_
  | refine ⟨(0 : Int),rfl,?_⟩
  | refine ⟨(21 : Int),rfl,?_⟩
 | exact True.intro
theorem w417 (a0 : S65) (a1 : List S65) (a2 : Int) (g0 : a1.length ≤ 1000000) (g1 : ∀ e ∈ a1,EB e) : WQv 417 [.agg (S65.c a0),.lst (a1.map S65.c),.sc (.int .i64 a2)] (fun r : Int => .sc (.int .i64 r)) (fun r => True) := by
 refine go Tryz.func417 (by kernel_rfl) ?_
 repeat' first
 | with_reducible assumption
 | (conv => whnf); first
  | refine bI (fun h => ?_) fun h => ?_
  | refine wC (w481 _ ?_ ?_) fun z481 hz => ?_
  | refine wC (w482 _ _) fun z482 hz => ?_
  | refine wC (w483 _ _) fun z483 hz => ?_
  | refine ⟨_,rfl,?_⟩
theorem w418 (a0 : S65) (a1 : List S65) (a2 : Int) (g0 : a1.length ≤ 1000000) (g1 : ∀ e ∈ a1,EB e) : WQv 418 [.agg (S65.c a0),.lst (a1.map S65.c),.sc (.int .i64 a2)] (fun r : Int => .sc (.int .i64 r)) (fun r => True) := by
 refine go Tryz.func418 (by kernel_rfl) ?_
 repeat' first
 | with_reducible assumption
 | (conv => whnf); first
  | refine bJ (fun h => ?_) fun h => ?_
  | refine bI (fun h => ?_) fun h => ?_
  | refine bD (fun h => ?_) fun h => ?_
  | refine wC (w139 _ _ ?_) fun z139 hz => ?_
  | refine wC (w321 _ ?_ ?_) fun z321 h321 => ?_
  | refine wC (w322 _ _ ?_) fun z322 hz => ?_
  | refine ⟨by kernel_rfl,?_⟩
  | refine ⟨(18 : Int),rfl,?_⟩
  | refine ⟨(20 : Int),rfl,?_⟩
  | refine ⟨(0 : Int),rfl,?_⟩
 | omega
end Go.Abs.RM
