/- Walks to a property. -/
import Derived.Test.YthbenojbjjgnaaaGreatUAm
import Derived.Test.YthbenojbjjgnaaaGreatUAv
import Derived.Test.YthbenojbjjgnaaaGreatUBb
import Derived.Test.YthbenojbjjgnaaaGreatUBc
import Derived.Test.YthbenojbjjgnaaaGreatUBk
import Derived.Test.YthbenojbjjgnaaaGreatUBl
import Derived.Test.YthbenojbjjgnaaaGreatUBm
set_option linter.unusedVariables false
set_option linter.unusedSimpArgs false
set_option linter.unusedSectionVars false
namespace Go.Abs.RM
open Go.Proofs
set_option maxRecDepth 100000
set_option maxHeartbeats 40000000
theorem w39 (a0 : List S71) (a1 : List S71) (g0 : a0.length ≤ 9223372036854775807) : WQv 39 [.lst (a0.map S71.c),.lst (a1.map S71.c)] (fun r : Bool => .sc (.bool r)) (fun r => r = true → a0.length = a1.length) := by
 refine go Tryz.func39 (by kernel_rfl) ?_
 repeat' first
 | with_reducible assumption
 | (conv => whnf); first
  | refine bJ (fun h => ?_) fun h => ?_
  | refine bD (fun h => ?_) fun h => ?_
  | refine bT' (fun h => ?_) fun h => ?_
  | refine ⟨_,List.length_map ..,?_⟩
  | refine ⟨false,rfl,?_⟩
  | refine V1 (fun (p0 : Int) => 0 ≤ p0 ∧ p0 ≤ (a0.length : Int)) (fun p0 => [(0,.lst (List.map S71.c a0)),(1,.lst (List.map S71.c a1)),(5,.sc (.int .i64 p0))]) (fun _ => ⟨[],0⟩) (fun p0 => ((a0.length : Int) + 1 - p0).toNat) (0 : Int) ?_ (ft [] rfl rfl rfl trivial) fun p0 ⟨i0,i1⟩ => ?_
  | refine wE ‹_› ?_ (fun _ => rfl) ?_
  | refine wG ?_ ?_ (fun _ => rfl) fun x hx hm => ?_
  | refine ⟨by kernel_rfl,?_⟩
  | refine ⟨nx _,?_,?_,(ft [] rfl rfl rfl trivial)⟩
  | refine ⟨true,rfl,?_⟩
 | omega
 | dsimp only
 | (intro hr; contradiction)
 | with_reducible apply And.intro
 | (simp (disch := omega) only [ls] <;> omega)
theorem w90 (a0 : List S65) (a1 : List S139) (g0 : a0.length ≤ 12) (g1 : ∀ e ∈ a0,EB e) (g2 : a1.length ≤ 12) (g3 : ∀ x ∈ a1,x.f2.length ≤ 110000) : WQv 90 [.lst (a0.map S65.c),.lst (a1.map S139.c)] (fun r : List S71 => .lst (r.map S71.c)) (fun r => r.length ≤ 220024) := by
 refine go Tryz.func90 (by kernel_rfl) ?_
 have hn : ([] : List (List S71)).length = 0 := rfl
 repeat' first
 | with_reducible assumption
 | (conv => whnf); first
  | refine bD (fun h => ?_) fun h => ?_
  | refine wC (w89 _ _ ?_ ?_ ?_) fun z89 hz => ?_
  | refine V2 (fun (p0 : List (List S71)) (p1 : Int) => 0 ≤ p1 ∧ p1 ≤ (z89.length : Int) ∧ (p0.length : Int) ≤ p1 ∧ (∀ x ∈ p0,x.length ≤ 110000)) (fun _ p1 => [(0,.lst (List.map S65.c a0)),(1,.lst (List.map S139.c a1)),(5,.lst (List.map c_i64 z89)),(6,.row 0),(7,.sc (.int .i64 p1))]) (fun p0 _ => ⟨[(0,.row (List.map cL26 p0) 1 false 0)],1⟩) (fun _ p1 => ((z89.length : Int) + 1 - p1).toNat) [] (0 : Int) ?_ (ft [(0,none)] rfl rfl rfl ⟨fitO_nil rfl rfl,trivial⟩) fun p0 p1 ⟨i0,i1,i3,i4⟩ => ?_
  | refine ⟨_,List.length_map ..,?_⟩
  | refine wG ?_ ?_ (fun _ => rfl) fun x hx hm => ?_
  | refine wC (w86 _ _ ?_) fun z86 h86 => ?_
  | refine wA (f := cL26) (m := [_]) rfl (fun _ => ⟨rfl,rfl⟩) ?_ ?_ ?_
  | refine ⟨⟨_,nx _⟩,?_,?_,(ft [(0,some 3)] rfl rfl rfl ⟨fR rfl rfl fun _ => rfl,trivial⟩)⟩
  | refine ⟨_,_,deep0 (leafs_map (f := cL26) (fun _ => rfl) _),?_⟩
  | refine wC (w148 _ _ 110000 ?_ ?_ ?_ ?_ ?_) fun z148 h148 => ?_
  | refine ⟨[],rfl,?_⟩
  | refine ⟨_,rfl,?_⟩
 | omega
 | dsimp only
 | exact all_snoc i4 (find_le h86 g3)
 | exact fun x hx => absurd hx List.not_mem_nil
 | with_reducible apply And.intro
 | (simp (disch := omega) only [ls] <;> omega)
theorem w40 (a0 : List S65) (g0 : a0.length ≤ 12) (g1 : ∀ e ∈ a0,EB e) (g2 : ∀ e ∈ a0,EM e) : WQv 40 [.lst (a0.map S65.c)] (fun r : List S71 => .lst (r.map S71.c)) (fun r => r.length ≤ 220024) := by
 refine go Tryz.func40 (by kernel_rfl) ?_
 repeat' first
 | with_reducible assumption
 | (conv => whnf); first
  | refine wC (w84 _ ?_ ?_ ?_) fun z84 hz => ?_
  | refine wC (w90 _ _ ?_ ?_ ?_ ?_) fun z90 hz => ?_
  | refine ⟨_,rfl,?_⟩
 | omega
 | exact hz.2
theorem w9 (a0 : S30) (g0 : (a0.f0.size : Int) ≤ 9223372036854775807) (g1 : a0.f1.length ≤ 12) (g2 : a0.f3.length ≤ 12) (g3 : ∀ e ∈ a0.f1,EM e) (g4 : ∀ e ∈ a0.f3,EM e) (g5 : a0.f4.length ≤ 9223372036854775807) (g6 : a0.f5.length ≤ 9223372036854775807) : WQv 9 [.agg (S30.c a0)] (fun r : Int => .sc (.int .i64 r)) (fun r => r = 0 → RB a0) := by
 refine go Tryz.func9 (by kernel_rfl) ?_
 repeat' first
 | with_reducible assumption
 | (conv => whnf); first
  | refine bJ (fun h => ?_) fun h => ?_
  | refine bI (fun h => ?_) fun h => ?_
  | refine bN (fun h => ?_) fun h => ?_
  | refine wC (w32 _ ?_) fun z32 b32 => ?_
  | refine wC (w33 _ _ ?_) fun z33 b33 => ?_
  | refine wC (w34 _ ?_ ?_) fun z34 b34 => ?_
  | refine wC (w35 _ ?_ ?_ ?_) fun z35 b35 => ?_
  | refine wC (w36 _ ?_ ?_ ?_) fun z36 b36 => ?_
  | refine wC (w38 _ ?_ ?_ ?_) fun z38 b38 => ?_
  | refine wC (w37 _ _ ?_) fun z37 b37 => ?_
  | refine ⟨by kernel_rfl,?_⟩
  | refine wC (w40 _ ?_ ?_ ?_) fun z40 b40 => ?_
  | refine wC (w39 _ _ ?_) fun z39 b39 => ?_
  | refine ⟨(3 : Int),rfl,?_⟩
  | refine ⟨_,rfl,?_⟩
 | omega
 | (unfold RB; grind)
 | intro hr
 | grind
end Go.Abs.RM
