/- Walks to a property. -/
import Derived.Test.YthbenojbjjgnaaaGreatUAm
import Derived.Test.YthbenojbjjgnaaaGreatUAw
import Derived.Test.YthbenojbjjgnaaaGreatUBc
import Derived.Test.YthbenojbjjgnaaaGreatUBd
import Derived.Test.YthbenojbjjgnaaaGreatUBf
import Derived.Test.YthbenojbjjgnaaaGreatUBi
set_option linter.unusedVariables false
set_option linter.unusedSimpArgs false
set_option linter.unusedSectionVars false
namespace Go.Abs.RM
open Go.Proofs
set_option maxRecDepth 100000
set_option maxHeartbeats 40000000
theorem w444 (a0 : List S65) (a1 : Int) (a2 : ByteArray) (g0 : a0.length ≤ 100) : WQv 444 [.lst (a0.map S65.c),.sc (.int .i64 a1),.sc (.string a2)] (fun r : S65 × Bool => .tup [.agg (S65.c r.1),.sc (.bool r.2)]) (fun r => r.2 = true → r.1 ∈ a0) := by
 refine go Tryz.func444 (by kernel_rfl) ?_
 repeat' first
 | with_reducible assumption
 | (conv => whnf); first
  | refine bD (fun h => ?_) fun h => ?_
  | refine bS (fun h => ?_) fun h => ?_
  | refine V2 (fun (p0 : S65) (p1 : Int) => 0 ≤ p1 ∧ p1 ≤ (a0.length : Int)) (fun _ p1 => [(0,.lst (List.map S65.c a0)),(1,.sc (.int .i64 a1)),(2,.sc (.string a2)),(6,.box 0 0),(8,.sc (.int .i64 p1))]) (fun p0 _ => ⟨[(0,.box (S65.c p0) false)],1⟩) (fun _ p1 => ((a0.length : Int) + 1 - p1).toNat) ze65 (0 : Int) ?_ (ft [(0,some 0)] rfl rfl rfl ⟨fB rfl rfl rfl,trivial⟩) fun p0 p1 ⟨i0,i1⟩ => ?_
  | refine ⟨_,List.length_map ..,?_⟩
  | refine wE ‹_› ?_ (fun _ => rfl) ?_
  | refine wG ?_ ?_ (fun _ => rfl) fun x hx hm => ?_
  | refine ⟨⟨_,nx _⟩,?_,?_,(ft [(0,some 0)] rfl rfl rfl ⟨fB rfl rfl rfl,trivial⟩)⟩
  | refine ⟨(_,true),rfl,?_⟩
  | refine ⟨(ze65,false),rfl,?_⟩
 | omega
 | dsimp only
 | (intro hr; contradiction)
 | exact fun _ => hm
 | with_reducible apply And.intro
 | (simp (disch := omega) only [ls] <;> omega)
theorem w376 (a0 : List S65) (a1 : List S71) (a2 : S65) (g0 : a0.length ≤ 12) (g1 : a1.length ≤ 1000000) (g2 : a2.f9.length ≤ 8) : WQv 376 [.lst (a0.map S65.c),.lst (a1.map S71.c),.agg (S65.c a2)] (fun r : List S65 => .lst (r.map S65.c)) (fun r => r.length ≤ 5 ∧ ∀ x ∈ r,x ∈ a0) := by
 refine go Tryz.func376 (by kernel_rfl) ?_
 have hn1 : ([] : List S65).length = 0 := rfl
 repeat' first
 | with_reducible assumption
 | (conv => whnf); first
  | refine bD (fun h => ?_) fun h => ?_
  | refine br (fun h => ?_) fun h => ?_
  | refine wC (w367 _) fun z367 hz => ?_
  | refine wC (w112 _ _ ?_ ?_) fun z112 h112 => ?_
  | refine V2 (fun (p0 : List S65) (p1 : Int) => 0 ≤ p1 ∧ p1 ≤ (z367.length : Int) ∧ (p0.length : Int) ≤ p1 ∧ (∀ x ∈ p0,x ∈ a0)) (fun _ p1 => [(0,.lst (List.map S65.c a0)),(1,.lst (List.map S71.c a1)),(7,.lst (List.map S71.c z367)),(8,.lst (List.map S65.c z112)),(9,.row 0),(10,.sc (.int .i64 p1))]) (fun p0 _ => ⟨[(0,.row (List.map S65.c p0) 29 false 0)],1⟩) (fun _ p1 => ((z367.length : Int) + 1 - p1).toNat) [] (0 : Int) ?_ (ft [(0,none)] rfl rfl rfl ⟨fitO_nil rfl rfl,trivial⟩) fun p0 p1 ⟨i0,i1,i3,i4⟩ => ?_
  | refine ⟨_,List.length_map ..,?_⟩
  | refine wE ‹_› ?_ (fun _ => rfl) ?_
  | refine wG ?_ ?_ (fun _ => rfl) fun x hx hm => ?_
  | refine wC (w263 _ _ _ ?_) fun z263 hz => ?_
  | refine ⟨by kernel_rfl,?_⟩
  | refine wC (w444 _ _ _ ?_) fun z444 h444 => ?_
  | refine wC (w56 _ _ ?_) fun z56 hg => ?_
  | refine wA (f := S65.c) (m := [_]) rfl (fun _ => ⟨rfl,rfl⟩) ?_ ?_ ?_
  | refine ⟨⟨_,nx _⟩,?_,?_,(ft [(0,some 3)] rfl rfl rfl ⟨fR rfl rfl fun _ => rfl,trivial⟩)⟩
  | refine ⟨⟨_,nx _⟩,?_,?_,(ft [(0,some 0)] rfl rfl rfl ⟨fR rfl rfl fun _ => rfl,trivial⟩)⟩
  | refine ⟨_,_,deep0 (leafs_map (f := S65.c) (fun _ => rfl) _),?_⟩
  | refine ⟨_,rfl,?_⟩
 | omega
 | dsimp only
 | exact ⟨by omega,i4⟩
 | exact all_snoc i4 (hg.mem h).1
 | exact fun x hx => absurd hx List.not_mem_nil
 | with_reducible apply And.intro
 | (simp (disch := omega) only [ls] <;> omega)
 | intro hr
 | grind
theorem w262 (a0 : List S65) (a1 : List S71) (a2 : List Int) (g0 : a0.length ≤ 12) (g1 : ∀ e ∈ a0,EB e) (g2 : a1.length ≤ 800000) (g3 : a2.length ≤ 1000) : WQv 262 [.lst (a0.map S65.c),.lst (a1.map S71.c),.lst (a2.map c_i64)] (fun r : List S71 => .lst (r.map S71.c)) (fun r => r.length ≤ a1.length + a2.length) := by
 refine go Tryz.func262 (by kernel_rfl) ?_
 repeat' first
 | with_reducible assumption
 | (conv => whnf); first
  | refine bD (fun h => ?_) fun h => ?_
  | refine br (fun h => ?_) fun h => ?_
  | refine wA (l := []) (f := S71.c) (m := _) rfl (fun _ => ⟨rfl,rfl⟩) ?_ ?_ ?_
  | refine V2 (fun (p0 : List S71) (p1 : Int) => 0 ≤ p1 ∧ p1 ≤ (a2.length : Int) ∧ (p0.length : Int) + ((a2.length : Int) - p1) ≤ 900000 ∧ (∀ r : List S71,((r.length : Int) ≤ (p0.length : Int) + ((a2.length : Int) - p1)) → r.length ≤ a1.length + a2.length)) (fun p0 p1 => [(0,.lst (List.map S65.c a0)),(2,.lst (List.map c_i64 a2)),(7,.lst (List.map S71.c p0)),(8,.sc (.int .i64 p1))]) (fun _ _ => ⟨[],0⟩) (fun _ p1 => ((a2.length : Int) + 1 - p1).toNat) (([] : List S71) ++ a1) (0 : Int) ?_ (suits_trans (lend_suits 7 rfl rfl (leafs_map (f := S71.c) (fun _ => rfl) _)) (ft [] rfl rfl rfl trivial)) fun p0 p1 ⟨i0,i1,i3,hk⟩ => ?_
  | refine ⟨_,List.length_map ..,?_⟩
  | refine wG ?_ ?_ (fun _ => rfl) fun x hx hm => ?_
  | refine wC (w56 _ _ ?_) fun z56 hg => ?_
  | refine wC (w116 _) fun z116 hz => ?_
  | refine wC (w376 _ _ _ ?_ ?_ ?_) fun z376 hb => ?_
  | refine wC (w236 _ _ ?_ ?_ ?_) fun z236 h236 => ?_
  | refine ⟨by kernel_rfl,?_⟩
  | refine wC (w203 _ _ _ _ ?_) fun z203 hz => ?_
  | refine ⟨⟨_,nx _⟩,?_,?_,(ft [] rfl rfl rfl trivial)⟩
  | refine ⟨_,rfl,?_⟩
 | omega
 | dsimp only
 | refine hk _ ?_
 | refine fun r hr => hk r ?_
 | exact (hg.eb g1).2.2.2.2.1
 | exact hg.eb g1
 | exact fun e he => g1 e (hb.2 e he)
 | with_reducible apply And.intro
 | (simp (disch := omega) only [ls] <;> omega)
 | grind
theorem w377 (a0 : List S65) (a1 : S65) (g0 : a0.length ≤ 12) (g1 : a1.f9.length ≤ 8) : WQv 377 [.lst (a0.map S65.c),.agg (S65.c a1)] (fun r : Int × Bool => .tup [.sc (.int .i64 r.1),.sc (.bool r.2)]) (fun r => True) := by
 refine go Tryz.func377 (by kernel_rfl) ?_
 repeat' first
 | with_reducible assumption
 | (conv => whnf); first
  | refine bD (fun h => ?_) fun h => ?_
  | refine br (fun h => ?_) fun h => ?_
  | refine V1 (fun (p0 : Int) => 0 ≤ p0 ∧ p0 ≤ (a1.f9.length : Int)) (fun p0 => [(0,.lst (List.map S65.c a0)),(3,.box 0 0),(6,.sc (.int .i64 p0))]) (fun _ => ⟨[(0,.box (S65.c a1) false)],1⟩) (fun p0 => ((a1.f9.length : Int) + 1 - p0).toNat) (0 : Int) ?_ (ft [(0,some 0)] rfl rfl rfl ⟨fB rfl rfl rfl,trivial⟩) fun p0 ⟨i0,i1⟩ => ?_
  | refine ⟨_,List.length_map ..,?_⟩
  | refine wE ‹_› ?_ (fun _ => rfl) ?_
  | refine wG ?_ ?_ (fun _ => rfl) fun x hx hm => ?_
  | refine wC (w56 _ _ ?_) fun z56 hz => ?_
  | refine ⟨nx _,?_,?_,(ft [(0,some 0)] rfl rfl rfl ⟨fB rfl rfl rfl,trivial⟩)⟩
  | refine ⟨(_,true),rfl,?_⟩
  | refine ⟨((0 : Int),false),rfl,?_⟩
 | omega
 | exact True.intro
 | with_reducible apply And.intro
 | (simp (disch := omega) only [ls] <;> omega)
theorem w264 (a0 : List S65) (a1 : Int) (g0 : a0.length ≤ 12) (g1 : ∀ e ∈ a0,EB e) : WQv 264 [.lst (a0.map S65.c),.sc (.int .i64 a1)] (fun r : List Int => .lst (r.map c_i64)) (fun r => r.length ≤ 12) := by
 refine go Tryz.func264 (by kernel_rfl) ?_
 have hn : ([] : List Int).length = 0 := rfl
 repeat' first
 | with_reducible assumption
 | (conv => whnf); first
  | refine bD (fun h => ?_) fun h => ?_
  | refine bN (fun h => ?_) fun h => ?_
  | refine br (fun h => ?_) fun h => ?_
  | refine V3 (fun (p0 : List Int) (p1 : Int) (p2 : Int) => 0 ≤ p2 ∧ p2 ≤ (a0.length : Int) ∧ (p0.length : Int) ≤ p2) (fun _ p1 p2 => [(0,.lst (List.map S65.c a0)),(5,.row 0),(6,.sc (.int .i64 p1)),(7,.sc (.int .i64 p2))]) (fun p0 _ _ => ⟨[(0,.row (List.map c_i64 p0) 1 false 0)],1⟩) (fun _ _ p2 => ((a0.length : Int) + 1 - p2).toNat) ([] : List Int) a1 (0 : Int) ?_ (ft [(0,some 0)] rfl rfl rfl ⟨fR rfl rfl fun _ => rfl,trivial⟩) fun p0 p1 p2 ⟨i0,i1,i3⟩ => ?_
  | refine ⟨_,List.length_map ..,?_⟩
  | refine wC (w56 _ _ ?_) fun z56 hg => ?_
  | refine ⟨_,_,deep0 (leafs_map (f := c_i64) (fun _ => rfl) _),?_⟩
  | refine wC (w16 _ _ ?_) fun z16 hz => ?_
  | refine wA (f := c_i64) (m := [_]) rfl (fun _ => ⟨rfl,rfl⟩) ?_ ?_ ?_
  | refine wC (w377 _ _ ?_ ?_) fun z377 hz => ?_
  | refine ⟨⟨_,_,nx _⟩,?_,?_,(ft [(0,some 3)] rfl rfl rfl ⟨fR rfl rfl fun _ => rfl,trivial⟩)⟩
  | refine ⟨_,rfl,?_⟩
 | omega
 | dsimp only
 | exact (hg.eb g1).2.2.2.2.1
 | with_reducible apply And.intro
 | (simp (disch := omega) only [ls] <;> omega)
theorem w499 (a0 : List Int) (a1 : Int) (g0 : a0.length ≤ 1000000000) : WQv 499 [.lst (a0.map c_i64),.sc (.int .i64 a1)] (fun r : Int => .sc (.int .i64 r)) (fun r => True) := by
 refine go Tryz.func499 (by kernel_rfl) ?_
 repeat' first
 | with_reducible assumption
 | (conv => whnf); first
  | refine bD (fun h => ?_) fun h => ?_
  | refine V1 (fun (p0 : Int) => 0 ≤ p0 ∧ p0 ≤ (a0.length : Int)) (fun p0 => [(0,.lst (List.map c_i64 a0)),(1,.sc (.int .i64 a1)),(5,.sc (.int .i64 p0))]) (fun _ => ⟨[],0⟩) (fun p0 => ((a0.length : Int) + 1 - p0).toNat) (0 : Int) ?_ (ft [] rfl rfl rfl trivial) fun p0 ⟨i0,i1⟩ => ?_
  | refine ⟨_,List.length_map ..,?_⟩
  | refine wG ?_ ?_ (fun _ => rfl) fun x hx hm => ?_
  | refine ⟨nx _,?_,?_,(ft [] rfl rfl rfl trivial)⟩
  | refine ⟨_,rfl,?_⟩
 | omega
 | exact True.intro
 | with_reducible apply And.intro
 | (simp (disch := omega) only [ls] <;> omega)
theorem w445 (a0 : List S65) (a1 : List Int) (a2 : Int) (g0 : a0.length ≤ 12) (g1 : ∀ e ∈ a0,EB e) (g2 : a1.length ≤ 1000000000) : WQv 445 [.lst (a0.map S65.c),.lst (a1.map c_i64),.sc (.int .i64 a2)] (fun r : Int => .sc (.int .i64 r)) (fun r => True) := by
 refine go Tryz.func445 (by kernel_rfl) ?_
 repeat' first
 | with_reducible assumption
 | (conv => whnf); first
  | refine bD (fun h => ?_) fun h => ?_
  | refine br (fun h => ?_) fun h => ?_
  | refine wC (w264 _ _ ?_ ?_) fun z264 hz => ?_
  | refine V1 (fun (p0 : Int) => 0 ≤ p0 ∧ p0 ≤ (z264.length : Int)) (fun p0 => [(1,.lst (List.map c_i64 a1)),(7,.lst (List.map c_i64 z264)),(8,.sc (.int .i64 p0))]) (fun _ => ⟨[],0⟩) (fun p0 => ((z264.length : Int) + 1 - p0).toNat) (0 : Int) ?_ (ft [] rfl rfl rfl trivial) fun p0 ⟨i0,i1⟩ => ?_
  | refine ⟨_,List.length_map ..,?_⟩
  | refine wE ‹_› ?_ (fun _ => rfl) ?_
  | refine wG ?_ ?_ (fun _ => rfl) fun x hx hm => ?_
  | refine wC (w16 _ _ ?_) fun z16 hz => ?_
  | refine wC (w499 _ _ ?_) fun z499 hz => ?_
  | refine ⟨nx _,?_,?_,(ft [] rfl rfl rfl trivial)⟩
  | refine ⟨_,rfl,?_⟩
 | omega
 | exact True.intro
 | with_reducible apply And.intro
 | (simp (disch := omega) only [ls] <;> omega)
theorem w378 (a0 : List S65) (a1 : List Int) (a2 : Int) (a3 : Int) (g0 : a0.length ≤ 12) (g1 : ∀ e ∈ a0,EB e) (g2 : a1.length ≤ 1000000000) : WQv 378 [.lst (a0.map S65.c),.lst (a1.map c_i64),.sc (.int .i64 a2),.sc (.int .i64 a3)] (fun r : Bool => .sc (.bool r)) (fun r => True) := by
 refine go Tryz.func378 (by kernel_rfl) ?_
 repeat' first
 | with_reducible assumption
 | (conv => whnf); first
  | refine bJ (fun h => ?_) fun h => ?_
  | refine wC (w445 _ _ _ ?_ ?_ ?_) fun z445 hz => ?_
  | refine wC (w56 _ _ ?_) fun z56 hz => ?_
  | refine ⟨_,rfl,?_⟩
 | omega
end Go.Abs.RM
