/- Walks to a property. -/
import Derived.Test.YthbenojbjjgnaaaGreatUAm
import Derived.Test.YthbenojbjjgnaaaGreatUBb
import Derived.Test.YthbenojbjjgnaaaGreatUBc
import Derived.Test.YthbenojbjjgnaaaGreatUBd
import Derived.Test.YthbenojbjjgnaaaGreatUBl
set_option linter.unusedVariables false
set_option linter.unusedSimpArgs false
set_option linter.unusedSectionVars false
namespace Go.Abs.RM
open Go.Proofs
set_option maxRecDepth 100000
set_option maxHeartbeats 40000000
theorem w35 (a0 : S30) (g0 : a0.f1.length ≤ 12) (g1 : ∀ e ∈ a0.f1,EB e) (g2 : ∀ e ∈ a0.f1,EM e) : WQv 35 [.agg (S30.c a0)] (fun r : Bool => .sc (.bool r)) (fun r => r = true → a0.f2.length = a0.f1.length) := by
 refine go Tryz.func35 (by kernel_rfl) ?_
 repeat' first
 | with_reducible assumption
 | (conv => whnf); first
  | refine bJ (fun h => ?_) fun h => ?_
  | refine bD (fun h => ?_) fun h => ?_
  | refine bN (fun h => ?_) fun h => ?_
  | refine ⟨_,List.length_map ..,?_⟩
  | refine ⟨false,rfl,?_⟩
  | refine wC (w83 _ ?_ ?_) fun z83 hz => ?_
  | refine wC (w84 _ ?_ ?_ ?_) fun z84 hz => ?_
  | refine V1 (fun (p0 : Int) => 0 ≤ p0 ∧ p0 ≤ (a0.f2.length : Int)) (fun p0 => [(1,.box 0 0),(3,.lst (List.map S139.c z84)),(4,.sc (.int .i64 p0))]) (fun _ => ⟨[(0,.box (S30.c a0) false)],1⟩) (fun p0 => ((a0.f2.length : Int) + 1 - p0).toNat) (0 : Int) ?_ (ft [(0,some 0)] rfl rfl rfl ⟨fB rfl rfl rfl,trivial⟩) fun p0 ⟨i0,i1⟩ => ?_
  | refine wG ?_ ?_ (fun _ => rfl) fun x hx hm => ?_
  | refine wC (w85 _ _ ?_) fun z85 hz => ?_
  | refine wC (w56 _ _ ?_) fun z56 hg => ?_
  | refine wC (w86 _ _ ?_) fun z86 hz => ?_
  | refine wC (w87 _ _ _ ?_ ?_) fun z87 hz => ?_
  | refine ⟨nx _,?_,?_,(ft [(0,some 0)] rfl rfl rfl ⟨fB rfl rfl rfl,trivial⟩)⟩
  | refine ⟨true,rfl,?_⟩
 | omega
 | dsimp only
 | (intro hr; contradiction)
 | with_reducible apply And.intro
 | (simp (disch := omega) only [ls] <;> omega)
 | grind
theorem w88 (a0 : List S65) (a1 : S65) (g0 : a0.length ≤ 12) (g1 : EB a1) : WQv 88 [.lst (a0.map S65.c),.agg (S65.c a1)] (fun r : Bool => .sc (.bool r)) (fun r => True) := by
 refine go Tryz.func88 (by kernel_rfl) ?_
 repeat' first
 | (conv => whnf); first
  | refine bI (fun h => ?_) fun h => ?_
  | refine wC (w17 _ _ ?_ ?_) fun z17 hz => ?_
  | refine ⟨_,List.length_map ..,?_⟩
  | refine ⟨false,rfl,?_⟩
  | refine ⟨_,rfl,?_⟩
 | omega
 | exact True.intro
 | (have := g1.2.2.2.1; omega)
 | (have := g1.2.2.2.2.1; omega)
theorem w36 (a0 : S30) (g0 : a0.f1.length ≤ 12) (g1 : a0.f3.length ≤ 12) (g2 : ∀ e ∈ a0.f3,EM e) : WQv 36 [.agg (S30.c a0)] (fun r : Int => .sc (.int .i64 r)) (fun r => r = 0 → ∀ e ∈ a0.f3,EB e) := by
 refine go Tryz.func36 (by kernel_rfl) ?_
 repeat' first
 | with_reducible assumption
 | (conv => whnf); first
  | refine bJ (fun h => ?_) fun h => ?_
  | refine bD (fun h => ?_) fun h => ?_
  | refine br (fun h => ?_) fun h => ?_
  | refine wC (w33 _ _ ?_) fun z33 h33 => ?_
  | refine V1 (fun (p0 : Int) => 0 ≤ p0 ∧ p0 ≤ (a0.f3.length : Int)) (fun p0 => [(1,.box 0 0),(4,.sc (.int .i64 p0))]) (fun _ => ⟨[(0,.box (S30.c a0) false)],1⟩) (fun p0 => ((a0.f3.length : Int) + 1 - p0).toNat) (0 : Int) ?_ (ft [(0,some 0)] rfl rfl rfl ⟨fB rfl rfl rfl,trivial⟩) fun p0 ⟨i0,i1⟩ => ?_
  | refine ⟨_,List.length_map ..,?_⟩
  | refine wG ?_ ?_ (fun _ => rfl) fun x hx hm => ?_
  | refine wC (w56 _ _ ?_) fun z56 hz => ?_
  | refine ⟨by kernel_rfl,?_⟩
  | refine ⟨nx _,?_,?_,(ft [(0,some 0)] rfl rfl rfl ⟨fB rfl rfl rfl,trivial⟩)⟩
  | refine V1 (fun (q0 : Int) => 0 ≤ q0 ∧ q0 ≤ (a0.f3.length : Int)) (fun q0 => [(1,.box 0 0),(7,.sc (.int .i64 q0))]) (fun _ => ⟨[(0,.box (S30.c a0) false)],1⟩) (fun q0 => ((a0.f3.length : Int) + 1 - q0).toNat) (0 : Int) ?_ (ft [(0,some 0)] rfl rfl rfl ⟨fB rfl rfl rfl,trivial⟩) fun q0 ⟨i0,i1⟩ => ?_
  | refine wC (w88 _ _ ?_ ?_) fun z88 hz => ?_
  | refine ⟨_,rfl,?_⟩
 | omega
 | dsimp only
 | with_reducible apply And.intro
 | (simp (disch := omega) only [ls] <;> omega)
 | intro hr
 | grind
theorem w37 (a0 : List Int) (a1 : List Int) (g0 : a0.length ≤ 9223372036854775807) : WQv 37 [.lst (a0.map c_i64),.lst (a1.map c_i64)] (fun r : Bool => .sc (.bool r)) (fun r => r = true → a0.length = a1.length) := by
 refine go Tryz.func37 (by kernel_rfl) ?_
 repeat' first
 | with_reducible assumption
 | (conv => whnf); first
  | refine bJ (fun h => ?_) fun h => ?_
  | refine bD (fun h => ?_) fun h => ?_
  | refine ⟨_,List.length_map ..,?_⟩
  | refine ⟨false,rfl,?_⟩
  | refine V1 (fun (p0 : Int) => 0 ≤ p0 ∧ p0 ≤ (a0.length : Int)) (fun p0 => [(0,.lst (List.map c_i64 a0)),(1,.lst (List.map c_i64 a1)),(5,.sc (.int .i64 p0))]) (fun _ => ⟨[],0⟩) (fun p0 => ((a0.length : Int) + 1 - p0).toNat) (0 : Int) ?_ (ft [] rfl rfl rfl trivial) fun p0 ⟨i0,i1⟩ => ?_
  | refine wG ?_ ?_ (fun _ => rfl) fun x hx hm => ?_
  | refine ⟨by kernel_rfl,?_⟩
  | refine ⟨nx _,?_,?_,(ft [] rfl rfl rfl trivial)⟩
  | refine ⟨true,rfl,?_⟩
 | omega
 | dsimp only
 | (intro hr; contradiction)
 | with_reducible apply And.intro
 | (simp (disch := omega) only [ls] <;> omega)
theorem w146 (a0 : List S65) (a1 : List Int) (g0 : a0.length ≤ 12) (g1 : ∀ e ∈ a0,EB e) (g2 : a1.length ≤ 12) : WQv 146 [.lst (a0.map S65.c),.lst (a1.map c_i64)] (fun r : List Int => .lst (r.map c_i64)) (fun r => r.length ≤ 12) := by
 refine go Tryz.func146 (by kernel_rfl) ?_
 have hn : ([] : List Int).length = 0 := rfl
 repeat' first
 | with_reducible assumption
 | (conv => whnf); first
  | refine bD (fun h => ?_) fun h => ?_
  | refine bJ (fun h => ?_) fun h => ?_
  | refine br (fun h => ?_) fun h => ?_
  | refine wC (w110 _ ?_) fun z110 hz => ?_
  | refine V2 (fun (p0 : List Int) (p1 : Int) => 0 ≤ p1 ∧ p1 ≤ (z110.length : Int) ∧ (p0.length : Int) ≤ p1) (fun _ p1 => [(0,.lst (List.map S65.c a0)),(5,.lst (List.map c_i64 z110)),(6,.row 0),(7,.sc (.int .i64 p1))]) (fun p0 _ => ⟨[(0,.row (List.map c_i64 p0) 1 false 0)],1⟩) (fun _ p1 => ((z110.length : Int) + 20 + 1 - p1).toNat) ([] : List Int) (0 : Int) ?_ (ft [(0,some 0)] rfl rfl rfl ⟨fR rfl rfl fun _ => rfl,trivial⟩) fun p0 p1 ⟨i0,i1,i3⟩ => ?_
  | refine ⟨_,List.length_map ..,?_⟩
  | refine V2 (fun (q0 : Bool) (q1 : Int) => 0 ≤ q1 ∧ q1 ≤ (z110.length : Int)) (fun q0 q1 => [(0,.lst (List.map S65.c a0)),(5,.lst (List.map c_i64 z110)),(6,.row 0),(7,.sc (.int .i64 p1)),(8,.sc (.bool q0)),(9,.sc (.int .i64 q1))]) (fun _ _ => ⟨[(0,.row (List.map c_i64 p0) 1 false 0)],1⟩) (fun _ q1 => ((z110.length : Int) + 1 - q1).toNat) true (0 : Int) ?_ (ft [(0,some 0)] rfl rfl rfl ⟨fR rfl rfl fun _ => rfl,trivial⟩) fun q0 q1 ⟨i0,i1⟩ => ?_
  | refine wG ?_ ?_ (fun _ => rfl) fun x hx hm => ?_
  | refine wC (w56 _ _ ?_) fun z56 hg => ?_
  | refine wC (w16 _ _ ?_) fun z16 hz => ?_
  | refine ⟨by kernel_rfl,?_⟩
  | refine ⟨⟨_,nx _⟩,?_,?_,(ft [(0,some 0)] rfl rfl rfl ⟨fR rfl rfl fun _ => rfl,trivial⟩)⟩
  | refine wA (f := c_i64) (m := [_]) rfl (fun _ => ⟨rfl,rfl⟩) ?_ ?_ ?_
  | refine ⟨⟨_,nx _⟩,?_,?_,(ft [(0,some 2)] rfl rfl rfl ⟨fR rfl rfl fun _ => rfl,trivial⟩)⟩
  | refine ⟨_,_,deep0 (leafs_map (f := c_i64) (fun _ => rfl) _),?_⟩
  | refine ⟨_,rfl,?_⟩
 | omega
 | dsimp only
 | (have := (hg.eb g1).2.2.2.1; omega)
 | with_reducible apply And.intro
 | (simp (disch := omega) only [ls] <;> omega)
theorem w147 (a0 : List S65) (a1 : List S139) (g0 : a0.length ≤ 12) (g1 : a1.length ≤ 12) : WQv 147 [.lst (a0.map S65.c),.lst (a1.map S139.c)] (fun r : List Int => .lst (r.map c_i64)) (fun r => r.length ≤ 12) := by
 refine go Tryz.func147 (by kernel_rfl) ?_
 have hn : ([] : List Int).length = 0 := rfl
 repeat' first
 | with_reducible assumption
 | (conv => whnf); first
  | refine bD (fun h => ?_) fun h => ?_
  | refine br (fun h => ?_) fun h => ?_
  | refine V2 (fun (p0 : List Int) (p1 : Int) => 0 ≤ p1 ∧ p1 ≤ (a0.length : Int) ∧ (p0.length : Int) ≤ p1) (fun _ p1 => [(0,.lst (List.map S65.c a0)),(1,.lst (List.map S139.c a1)),(5,.row 0),(6,.sc (.int .i64 p1))]) (fun p0 _ => ⟨[(0,.row (List.map c_i64 p0) 1 false 0)],1⟩) (fun _ p1 => ((a0.length : Int) + 1 - p1).toNat) [] (0 : Int) ?_ (ft [(0,none)] rfl rfl rfl ⟨fitO_nil rfl rfl,trivial⟩) fun p0 p1 ⟨i0,i1,i3⟩ => ?_
  | refine ⟨_,List.length_map ..,?_⟩
  | refine wE ‹_› ?_ (fun _ => rfl) ?_
  | refine wG ?_ ?_ (fun _ => rfl) fun x hx hm => ?_
  | refine wC (w86 _ _ ?_) fun z86 hz => ?_
  | refine wA (f := c_i64) (m := [_]) rfl (fun _ => ⟨rfl,rfl⟩) ?_ ?_ ?_
  | refine ⟨⟨_,nx _⟩,?_,?_,(ft [(0,some 3)] rfl rfl rfl ⟨fR rfl rfl fun _ => rfl,trivial⟩)⟩
  | refine ⟨⟨_,nx _⟩,?_,?_,(ft [(0,some 0)] rfl rfl rfl ⟨fR rfl rfl fun _ => rfl,trivial⟩)⟩
  | refine ⟨_,_,deep0 (leafs_map (f := c_i64) (fun _ => rfl) _),?_⟩
  | refine ⟨_,rfl,?_⟩
 | omega
 | dsimp only
 | with_reducible apply And.intro
 | (simp (disch := omega) only [ls] <;> omega)
theorem w89 (a0 : List S65) (a1 : List S139) (g0 : a0.length ≤ 12) (g1 : ∀ e ∈ a0,EB e) (g2 : a1.length ≤ 12) : WQv 89 [.lst (a0.map S65.c),.lst (a1.map S139.c)] (fun r : List Int => .lst (r.map c_i64)) (fun r => r.length ≤ 12) := by
 refine go Tryz.func89 (by kernel_rfl) ?_
 repeat' first
 | with_reducible assumption
 | (conv => whnf); first
  | refine wC (w147 _ _ ?_ ?_) fun z147 hz => ?_
  | refine wC (w146 _ _ ?_ ?_ ?_) fun z146 hz => ?_
  | refine ⟨_,rfl,?_⟩
theorem w38 (a0 : List S65) (g0 : a0.length ≤ 12) (g1 : ∀ e ∈ a0,EB e) (g2 : ∀ e ∈ a0,EM e) : WQv 38 [.lst (a0.map S65.c)] (fun r : List Int => .lst (r.map c_i64)) (fun r => r.length ≤ 12) := by
 refine go Tryz.func38 (by kernel_rfl) ?_
 repeat' first
 | with_reducible assumption
 | (conv => whnf); first
  | refine wC (w84 _ ?_ ?_ ?_) fun z84 hz => ?_
  | refine wC (w89 _ _ ?_ ?_ ?_) fun z89 hz => ?_
  | refine ⟨_,rfl,?_⟩
 | omega
end Go.Abs.RM
