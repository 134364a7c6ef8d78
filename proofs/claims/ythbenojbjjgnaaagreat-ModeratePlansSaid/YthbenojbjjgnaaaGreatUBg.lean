/- Walks to a property. -/
import Derived.Test.YthbenojbjjgnaaaGreatUAm
import Derived.Test.YthbenojbjjgnaaaGreatUBc
import Derived.Test.YthbenojbjjgnaaaGreatUBd
import Derived.Test.YthbenojbjjgnaaaGreatUBf
set_option linter.unusedVariables false
set_option linter.unusedSimpArgs false
set_option linter.unusedSectionVars false
namespace Go.Abs.RM
open Go.Proofs
set_option maxRecDepth 100000
set_option maxHeartbeats 40000000
theorem w177 (a0 : ByteArray) : WQv 177 [.sc (.string a0)] (fun r : S59 => .agg (S59.c r)) (fun r => r.f0.length ≤ 100 ∧ r.f1.length ≤ 100) := by
 refine go Tryz.func177 (by kernel_rfl) ?_
 repeat' first
 | (conv => whnf); first
  | refine bT' (fun h => ?_) fun h => ?_
  | refine ⟨_,_,deep0 (leafs_lit rfl),?_⟩
  | refine ⟨⟨[⟨_,(100 : Int)⟩],[],(0 : Int),(0 : Int),(0 : Int),(0 : Int),(50 : Int),(50 : Int),(50 : Int)⟩,rfl,?_⟩
  | refine ⟨⟨[],[],(0 : Int),(0 : Int),(0 : Int),(0 : Int),(50 : Int),(50 : Int),(50 : Int)⟩,rfl,?_⟩
 | dsimp only
 | (simp only [List.length_cons,List.length_nil]; omega)
theorem w321 (a0 : List S65) (g0 : a0.length ≤ 1000000) (g1 : ∀ e ∈ a0,EB e) : WQv 321 [.lst (a0.map S65.c)] (fun r : S59 × ByteArray => .tup [.agg (S59.c r.1),.sc (.string r.2)]) (fun r => r.1.f0.length ≤ 100 ∧ r.1.f1.length ≤ 100) := by
 refine go Tryz.func321 (by kernel_rfl) ?_
 repeat' first
 | with_reducible assumption
 | (conv => whnf); first
  | refine bD (fun h => ?_) fun h => ?_
  | refine bN (fun h => ?_) fun h => ?_
  | refine V3 (fun (p0 : ByteArray) (p1 : Bool) (p2 : Int) => 0 ≤ p2 ∧ p2 ≤ (a0.length : Int)) (fun p0 p1 p2 => [(0,.lst (List.map S65.c a0)),(2,.box 0 0),(4,.sc (.string p0)),(5,.sc (.bool p1)),(6,.sc (.int .i64 p2))]) (fun _ _ _ => ⟨[(0,.box (S59.c (⟨[],[],(0 : Int),(0 : Int),(0 : Int),(0 : Int),(0 : Int),(0 : Int),(0 : Int)⟩ : S59)) false)],1⟩) (fun _ _ p2 => ((a0.length : Int) + 1 - p2).toNat) zS false (0 : Int) ?_ (ft [(0,some 0)] rfl rfl rfl ⟨fB rfl rfl rfl,trivial⟩) fun p0 p1 p2 ⟨i0,i1⟩ => ?_
  | refine ⟨_,List.length_map ..,?_⟩
  | refine wE ‹_› ?_ (fun _ => rfl) ?_
  | refine wG ?_ ?_ (fun _ => rfl) fun x hx hm => ?_
  | refine ⟨⟨_,_,nx _⟩,?_,?_,(ft [(0,some 0)] rfl rfl rfl ⟨fB rfl rfl rfl,trivial⟩)⟩
  | refine V2 (fun (q0 : S59) (q1 : Int) => 0 ≤ q1 ∧ q1 ≤ (a0.length : Int)) (fun _ q1 => [(0,.lst (List.map S65.c a0)),(2,.box 0 0),(4,.sc (.string p0)),(7,.sc (.int .i64 q1))]) (fun q0 _ => ⟨[(0,.box (S59.c q0) false)],1⟩) (fun _ q1 => ((a0.length : Int) + 1 - q1).toNat) ze59 (0 : Int) ?_ (ft [(0,some 0)] rfl rfl rfl ⟨fB rfl rfl rfl,trivial⟩) fun q0 q1 ⟨i0,i1⟩ => ?_
  | refine ⟨⟨_,nx _⟩,?_,?_,(ft [(0,some 0)] rfl rfl rfl ⟨fB rfl rfl rfl,trivial⟩)⟩
  | refine wC (w177 _) fun z177 hz => ?_
  | refine ⟨(_,_),rfl,?_⟩
 | omega
 | dsimp only
 | (have hb := (g1 _ hm).2.2.2.2.2; exact ⟨hb.2.2.2.2.1,hb.2.2.2.2.2.1⟩)
 | with_reducible apply And.intro
 | (simp (disch := omega) only [ls] <;> omega)
theorem w322 (a0 : S59) (a1 : ByteArray) (g0 : a0.f0.length ≤ 100) : WQv 322 [.agg (S59.c a0),.sc (.string a1)] (fun r : Int => .sc (.int .i64 r)) (fun r => True) := by
 refine go Tryz.func322 (by kernel_rfl) ?_
 repeat' first
 | with_reducible assumption
 | (conv => whnf); first
  | refine bD (fun h => ?_) fun h => ?_
  | refine bS (fun h => ?_) fun h => ?_
  | refine V1 (fun (p0 : Int) => 0 ≤ p0 ∧ p0 ≤ (a0.f0.length : Int)) (fun p0 => [(1,.sc (.string a1)),(2,.box 0 0),(5,.sc (.int .i64 p0))]) (fun _ => ⟨[(0,.box (S59.c a0) false)],1⟩) (fun p0 => ((a0.f0.length : Int) + 1 - p0).toNat) (0 : Int) ?_ (ft [(0,some 0)] rfl rfl rfl ⟨fB rfl rfl rfl,trivial⟩) fun p0 ⟨i0,i1⟩ => ?_
  | refine ⟨_,List.length_map ..,?_⟩
  | refine wE ‹_› ?_ (fun _ => rfl) ?_
  | refine wG ?_ ?_ (fun _ => rfl) fun x hx hm => ?_
  | refine ⟨nx _,?_,?_,(ft [(0,some 0)] rfl rfl rfl ⟨fB rfl rfl rfl,trivial⟩)⟩
  | refine ⟨_,rfl,?_⟩
 | omega
 | exact True.intro
 | with_reducible apply And.intro
 | (simp (disch := omega) only [ls] <;> omega)
theorem w443 (a0 : List S65) (a1 : S65) (g0 : a0.length ≤ 12) (g1 : ∀ e ∈ a0,EB e) (g2 : EB a1) : WQv 443 [.lst (a0.map S65.c),.agg (S65.c a1)] (fun r : Int => .sc (.int .i64 r)) (fun r => True) := by
 refine go Tryz.func443 (by kernel_rfl) ?_
 repeat' first
 | with_reducible assumption
 | (conv => whnf); first
  | refine wC (w256 _ _ ?_ ?_) fun z256 h256 => ?_
  | refine wC (w321 _ ?_ ?_) fun z321 hz => ?_
  | refine wC (w322 _ _ ?_) fun z322 hz => ?_
  | refine ⟨_,rfl,?_⟩
 | omega
 | exact g2.2.2.2.2.1
 | exact fun e he => g1 e (h256.2 e he)
theorem w375 (a0 : List S65) (a1 : S65) (a2 : S65) (g0 : a0.length ≤ 12) (g1 : ∀ e ∈ a0,EB e) (g2 : EB a1) (g3 : EB a2) : WQv 375 [.lst (a0.map S65.c),.agg (S65.c a1),.agg (S65.c a2)] (fun r : Bool => .sc (.bool r)) (fun r => True) := by
 refine go Tryz.func375 (by kernel_rfl) ?_
 repeat' first
 | with_reducible assumption
 | (conv => whnf); first
  | refine bJ (fun h => ?_) fun h => ?_
  | refine wC (w443 _ _ ?_ ?_ ?_) fun z443 hz => ?_
  | refine ⟨by kernel_rfl,?_⟩
  | refine ⟨_,rfl,?_⟩
theorem w261 (a0 : List S65) (a1 : List Int) (g0 : a0.length ≤ 12) (g1 : ∀ e ∈ a0,EB e) (g2 : IS a0 a1) : WQv 261 [.lst (a0.map S65.c),.lst (a1.map c_i64)] (fun r : List Int => .lst (r.map c_i64)) (fun r => r.length ≤ 12) := by
 refine go Tryz.func261 (by kernel_rfl) ?_
 have hl2 := g2.len
 have hn : ([] : List Int).length = 0 := rfl
 repeat' first
 | with_reducible assumption
 | (conv => whnf); first
  | refine bD (fun h => ?_) fun h => ?_
  | refine bN (fun h => ?_) fun h => ?_
  | refine br (fun h => ?_) fun h => ?_
  | refine wC (w371 _ _ ?_ ?_) fun z371 hz => ?_
  | refine V2 (fun (p0 : List Int) (p1 : List Int) => IS a0 p0 ∧ p1.length + p0.length ≤ 12) (fun p0 _ => [(0,.lst (List.map S65.c a0)),(5,.lst (List.map c_i64 p0)),(6,.row 0)]) (fun _ p1 => ⟨[(0,.row (List.map c_i64 p1) 1 false 0)],1⟩) (fun p0 _ => (p0.length + 20 + 1)) z371 ([] : List Int) ?_ (ft [(0,some 0)] rfl rfl rfl ⟨fR rfl rfl fun _ => rfl,trivial⟩) fun p0 p1 ⟨i1,i2⟩ => ?_
  | refine ⟨_,List.length_map ..,?_⟩
  | refine V3 (fun (q0 : S65) (q1 : Bool) (q2 : Int) => 0 ≤ q2 ∧ q2 ≤ (p0.length : Int) ∧ (q1 = true → q0.f0 ∈ p0) ∧ EB q0) (fun _ q1 q2 => [(0,.lst (List.map S65.c a0)),(5,.lst (List.map c_i64 p0)),(6,.row 0),(7,.box 1 0),(8,.sc (.bool q1)),(9,.sc (.int .i64 q2))]) (fun q0 _ _ => ⟨[(0,.row (List.map c_i64 p1) 1 false 0),(1,.box (S65.c q0) false)],2⟩) (fun _ _ q2 => ((p0.length : Int) + 1 - q2).toNat) ze65 false (0 : Int) ?_ (ft [(0,some 0),(1,some 1)] rfl rfl rfl ⟨fR rfl rfl fun _ => rfl,fB rfl rfl rfl,trivial⟩) fun q0 q1 q2 ⟨i0,i1,i3,i4⟩ => ?_
  | refine wE ‹_› ?_ (fun _ => rfl) ?_
  | refine wG ?_ ?_ (fun _ => rfl) fun x hx hm => ?_
  | refine wC (w56 _ _ ?_) fun z56 hz => ?_
  | refine wC (w374 _ _ _ ?_ ?_ ?_) fun z374 hz => ?_
  | refine ⟨⟨_,_,nx _⟩,?_,?_,(ft [(0,some 0),(1,some 1)] rfl rfl rfl ⟨fR rfl rfl fun _ => rfl,fB rfl rfl rfl,trivial⟩)⟩
  | refine wC (w375 _ _ _ ?_ ?_ ?_ ?_) fun z375 hz => ?_
  | refine ⟨_,_,deep0 (leafs_map (f := c_i64) (fun _ => rfl) _),?_⟩
  | refine wA (f := c_i64) (m := [_]) rfl (fun _ => ⟨rfl,rfl⟩) ?_ ?_ ?_
  | refine ⟨_,_,deep0 (leafs_lit rfl),?_⟩
  | refine wC (w53 _ [_] ?_ ?_) fun z53 hz => ?_
  | refine ⟨⟨_,_⟩,?_,?_,(ft [(0,some 3)] rfl rfl rfl ⟨fR rfl rfl fun _ => rfl,trivial⟩)⟩
  | refine ⟨_,rfl,?_⟩
 | omega
 | exact zE_eb
 | (have := minus_lt ‹IS a0 p0› (i3 h) hz; grind)
 | dsimp only
 | exact ⟨hz.1,fun x hx => g2.2 x (hz.2.2 x hx)⟩
 | with_reducible apply And.intro
 | (simp (disch := omega) only [ls] <;> omega)
 | contradiction
 | intro hr
 | grind
theorem w139 (a0 : List S65) (a1 : ByteArray) (g0 : a0.length ≤ 1000000) : WQv 139 [.lst (a0.map S65.c),.sc (.string a1)] (fun r : Int => .sc (.int .i64 r)) (fun r => True) := by
 refine go Tryz.func139 (by kernel_rfl) ?_
 repeat' first
 | with_reducible assumption
 | (conv => whnf); first
  | refine bD (fun h => ?_) fun h => ?_
  | refine bS (fun h => ?_) fun h => ?_
  | refine V1 (fun (p0 : Int) => 0 ≤ p0 ∧ p0 ≤ (a0.length : Int)) (fun p0 => [(0,.lst (List.map S65.c a0)),(1,.sc (.string a1)),(5,.sc (.int .i64 p0))]) (fun _ => ⟨[],0⟩) (fun p0 => ((a0.length : Int) + 1 - p0).toNat) (0 : Int) ?_ (ft [] rfl rfl rfl trivial) fun p0 ⟨i0,i1⟩ => ?_
  | refine ⟨_,List.length_map ..,?_⟩
  | refine wE ‹_› ?_ (fun _ => rfl) ?_
  | refine wG ?_ ?_ (fun _ => rfl) fun x hx hm => ?_
  | refine ⟨nx _,?_,?_,(ft [] rfl rfl rfl trivial)⟩
  | refine ⟨_,rfl,?_⟩
 | omega
 | exact True.intro
 | with_reducible apply And.intro
 | (simp (disch := omega) only [ls] <;> omega)
theorem w325 (a0 : List S65) (g0 : a0.length ≤ 1000000) : WQv 325 [.lst (a0.map S65.c)] (fun r : S65 × Bool => .tup [.agg (S65.c r.1),.sc (.bool r.2)]) (fun r => True) := by
 refine go Tryz.func325 (by kernel_rfl) ?_
 repeat' first
 | with_reducible assumption
 | (conv => whnf); first
  | refine bD (fun h => ?_) fun h => ?_
  | refine V2 (fun (p0 : S65) (p1 : Int) => 0 ≤ p1 ∧ p1 ≤ (a0.length : Int)) (fun _ p1 => [(0,.lst (List.map S65.c a0)),(2,.box 0 0),(4,.sc (.int .i64 p1))]) (fun p0 _ => ⟨[(0,.box (S65.c p0) false)],1⟩) (fun _ p1 => ((a0.length : Int) + 1 - p1).toNat) ze65 (0 : Int) ?_ (ft [(0,some 0)] rfl rfl rfl ⟨fB rfl rfl rfl,trivial⟩) fun p0 p1 ⟨i0,i1⟩ => ?_
  | refine ⟨_,List.length_map ..,?_⟩
  | refine wE ‹_› ?_ (fun _ => rfl) ?_
  | refine wG ?_ ?_ (fun _ => rfl) fun x hx hm => ?_
  | refine ⟨⟨_,nx _⟩,?_,?_,(ft [(0,some 0)] rfl rfl rfl ⟨fB rfl rfl rfl,trivial⟩)⟩
  | refine ⟨(_,true),rfl,?_⟩
  | refine ⟨(ze65,false),rfl,?_⟩
 | omega
 | exact True.intro
 | dsimp only
 | with_reducible apply And.intro
 | (simp (disch := omega) only [ls] <;> omega)
end Go.Abs.RM
