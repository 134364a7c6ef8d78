/- Walks to a property. -/
import Derived.Test.YthbenojbjjgnaaaGreatUAm
import Derived.Test.YthbenojbjjgnaaaGreatUAw
import Derived.Test.YthbenojbjjgnaaaGreatUBb
import Derived.Test.YthbenojbjjgnaaaGreatUBc
import Derived.Test.YthbenojbjjgnaaaGreatUBd
import Derived.Test.YthbenojbjjgnaaaGreatUBf
import Derived.Test.YthbenojbjjgnaaaGreatUBi
import Derived.Test.YthbenojbjjgnaaaGreatUBk
set_option linter.unusedVariables false
set_option linter.unusedSimpArgs false
set_option linter.unusedSectionVars false
namespace Go.Abs.RM
open Go.Proofs
set_option maxRecDepth 100000
set_option maxHeartbeats 40000000
theorem w255 (a0 : List S65) (a1 : S65) (g0 : a0.length ≤ 12) (g1 : a1.f9.length ≤ 8) : WQv 255 [.lst (a0.map S65.c),.agg (S65.c a1)] (fun r : Int => .sc (.int .i64 r)) (fun r => True) := by
 refine go Tryz.func255 (by kernel_rfl) ?_
 repeat' first
 | with_reducible assumption
 | (conv => whnf); first
  | refine bD (fun h => ?_) fun h => ?_
  | refine bN (fun h => ?_) fun h => ?_
  | refine br (fun h => ?_) fun h => ?_
  | refine V1 (fun (p0 : Int) => 0 ≤ p0 ∧ p0 ≤ (a1.f9.length : Int)) (fun p0 => [(0,.lst (List.map S65.c a0)),(3,.box 0 0),(5,.sc (.int .i64 p0))]) (fun _ => ⟨[(0,.box (S65.c a1) false)],1⟩) (fun p0 => ((a1.f9.length : Int) + 1 - p0).toNat) (0 : Int) ?_ (ft [(0,some 0)] rfl rfl rfl ⟨fB rfl rfl rfl,trivial⟩) fun p0 ⟨i0,i1⟩ => ?_
  | refine ⟨_,List.length_map ..,?_⟩
  | refine wE ‹_› ?_ (fun _ => rfl) ?_
  | refine wG ?_ ?_ (fun _ => rfl) fun x hx hm => ?_
  | refine wC (w56 _ _ ?_) fun z56 hz => ?_
  | refine ⟨nx _,?_,?_,(ft [(0,some 0)] rfl rfl rfl ⟨fB rfl rfl rfl,trivial⟩)⟩
  | refine wC (w112 _ _ ?_ ?_) fun z112 h112 => ?_
  | refine V1 (fun (q0 : Int) => 0 ≤ q0 ∧ q0 ≤ (z112.length : Int)) (fun q0 => [(3,.box 0 0),(8,.lst (List.map S65.c z112)),(9,.sc (.int .i64 q0))]) (fun _ => ⟨[(0,.box (S65.c a1) false)],1⟩) (fun q0 => ((z112.length : Int) + 1 - q0).toNat) (0 : Int) ?_ (ft [(0,some 0)] rfl rfl rfl ⟨fB rfl rfl rfl,trivial⟩) fun q0 ⟨i0,i1⟩ => ?_
  | refine ⟨by kernel_rfl,?_⟩
  | refine wC (w367 _) fun z367 hz => ?_
  | refine V2 (fun (v0 : List S71) (v1 : Int) => 0 ≤ v1 ∧ v1 ≤ (z112.length : Int) ∧ (v0.length : Int) ≤ v1) (fun _ v1 => [(3,.box 0 0),(8,.lst (List.map S65.c z112)),(10,.lst (List.map S71.c z367)),(11,.row 1),(12,.sc (.int .i64 v1))]) (fun v0 _ => ⟨[(0,.box (S65.c a1) false),(1,.row (List.map S71.c v0) 3 false 1)],2⟩) (fun _ v1 => ((z112.length : Int) + 1 - v1).toNat) [] (0 : Int) ?_ (ft [(0,some 0),(1,none)] rfl rfl rfl ⟨fB rfl rfl rfl,fitO_nil rfl rfl,trivial⟩) fun v0 v1 ⟨i0,i1,i3⟩ => ?_
  | refine wC (w368 _ _ _ ?_) fun z368 hz => ?_
  | refine ⟨_,_,deep0 (leafs_map (f := S71.c) (fun _ => rfl) _),?_⟩
  | refine wA (f := S71.c) (m := [⟨_,_,(0 : Int)⟩]) rfl (fun _ => ⟨rfl,rfl⟩) ?_ ?_ ?_
  | refine ⟨⟨_,nx _⟩,?_,?_,(ft [(0,some 0),(1,some 3)] rfl rfl rfl ⟨fB rfl rfl rfl,fR rfl rfl fun _ => rfl,trivial⟩)⟩
  | refine ⟨(14 : Int),rfl,?_⟩
  | refine ⟨(13 : Int),rfl,?_⟩
  | refine ⟨(16 : Int),rfl,?_⟩
  | refine ⟨(0 : Int),rfl,?_⟩
 | omega
 | exact True.intro
 | dsimp only
 | with_reducible apply And.intro
 | (simp (disch := omega) only [ls] <;> omega)
theorem w202 (a0 : List S65) (a1 : List S139) (a2 : S65) (a3 : List S71) (g0 : a0.length ≤ 12) (g1 : ∀ e ∈ a0,EB e) (g2 : a1.length ≤ 12) (g3 : EB a2) (g4 : a3.length ≤ 1000000) : WQv 202 [.lst (a0.map S65.c),.lst (a1.map S139.c),.agg (S65.c a2),.lst (a3.map S71.c)] (fun r : Int => .sc (.int .i64 r)) (fun r => True) := by
 refine go Tryz.func202 (by kernel_rfl) ?_
 repeat' first
 | with_reducible assumption
 | (conv => whnf); first
  | refine bI (fun h => ?_) fun h => ?_
  | refine bD (fun h => ?_) fun h => ?_
  | refine bJ (fun h => ?_) fun h => ?_
  | refine wC (w255 _ _ ?_ ?_) fun z255 hz => ?_
  | refine wC (w256 _ _ ?_ ?_) fun z256 h256 => ?_
  | refine wC (w236 _ _ ?_ ?_ ?_) fun z236 hz => ?_
  | refine ⟨by kernel_rfl,?_⟩
  | refine V2 (fun (p0 : Int) (p1 : Int) => 0 ≤ p1 ∧ p1 ≤ (a2.f9.length : Int)) (fun p0 p1 => [(0,.lst (List.map S65.c a0)),(1,.lst (List.map S139.c a1)),(3,.lst (List.map S71.c a3)),(6,.box 0 0),(9,.sc (.int .i64 p0)),(10,.sc (.int .i64 p1))]) (fun _ _ => ⟨[(0,.box (S65.c a2) false)],1⟩) (fun _ p1 => ((a2.f9.length : Int) + 1 - p1).toNat) z236 (0 : Int) ?_ (ft [(0,some 0)] rfl rfl rfl ⟨fB rfl rfl rfl,trivial⟩) fun p0 p1 ⟨i0,i1⟩ => ?_
  | refine ⟨_,List.length_map ..,?_⟩
  | refine wG ?_ ?_ (fun _ => rfl) fun x hx hm => ?_
  | refine wC (w86 _ _ ?_) fun z86 hz => ?_
  | refine ⟨⟨_,nx _⟩,?_,?_,(ft [(0,some 0)] rfl rfl rfl ⟨fB rfl rfl rfl,trivial⟩)⟩
  | refine wC (w76 _ _ ?_ ?_) fun z76 h76 => ?_
  | refine V2 (fun (p0 : Int) (p1 : Int) => 0 ≤ p1 ∧ p1 ≤ (a2.f9.length : Int)) (fun p0 p1 => [(0,.lst (List.map S65.c a0)),(1,.lst (List.map S139.c a1)),(3,.lst (List.map S71.c a3)),(6,.box 0 0),(9,.sc (.int .i64 p0)),(10,.sc (.int .i64 p1))]) (fun _ _ => ⟨[(0,.box (S65.c a2) false)],1⟩) (fun _ p1 => ((a2.f9.length : Int) + 1 - p1).toNat) z255 (0 : Int) ?_ (ft [(0,some 0)] rfl rfl rfl ⟨fB rfl rfl rfl,trivial⟩) fun p0 p1 ⟨i0,i1⟩ => ?_
  | refine ⟨_,rfl,?_⟩
 | omega
 | dsimp only
 | exact fun e he => g1 e (h76.2 e he)
 | exact g3.2.2.2.2.1
 | exact fun e he => g1 e (h256.2 e he)
 | with_reducible apply And.intro
 | grind
theorem w144 (a0 : List S65) (g0 : a0.length ≤ 12) (g1 : ∀ e ∈ a0,EB e) : WQv 144 [.lst (a0.map S65.c)] (fun r : List S139 => .lst (r.map S139.c)) (fun r => r.length ≤ 12 ∧ ∀ x ∈ r,x.f2.length ≤ 110000) := by
 refine go Tryz.func144 (by kernel_rfl) ?_
 have hn1 : ([] : List S139).length = 0 := rfl
 repeat' first
 | with_reducible assumption
 | (conv => whnf); first
  | refine bD (fun h => ?_) fun h => ?_
  | refine br (fun h => ?_) fun h => ?_
  | refine wC (w201 _ ?_) fun z201 hz => ?_
  | (refine V2 (fun (p0 : List S139) (p1 : Int) => 0 ≤ p1 ∧ p1 ≤ (z201.length : Int) ∧ (p0.length : Int) = p1 ∧ (∀ x ∈ p0,x.f2.length + 26 ≤ 26 * 2 ^ p1.toNat)) (fun _ p1 => [(0,.lst (List.map S65.c a0)),(3,.row 0),(4,.lst (List.map c_i64 z201)),(5,.sc (.int .i64 p1))]) (fun p0 _ => ⟨[(0,.row (List.map S139.c p0) 4 true 0)],1⟩) (fun _ p1 => ((z201.length : Int) + 20 + 1 - p1).toNat) [] (0 : Int) ?_ (ft [(0,none)] rfl rfl rfl ⟨fitO_nil rfl rfl,trivial⟩) fun p0 p1 ⟨i0,i1,i3,i4⟩ => ?_; rotate_left; have hp0 : 1 ≤ 2 ^ p1.toNat := Nat.one_le_two_pow; have hz2 : p1.toNat ≤ 12 := (by omega); have hp1 : 2 ^ p1.toNat ≤ 2 ^ 12 := Nat.pow_le_pow_right Nat.two_pos hz2; have hp2 : (2 : Nat) ^ 12 = 4096 := (by decide); have hp3 : 2 ^ (p1.toNat + 1) = 2 ^ p1.toNat * 2 := Nat.pow_succ ..; have hn : (nx p1).toNat = p1.toNat + 1 := (by rw [nx_eq (by omega) (by omega)]; omega); rw [← hn] at hp3; obtain ⟨K,hK⟩ : ∃ K,K + 26 = 26 * 2 ^ p1.toNat := ⟨26 * 2 ^ p1.toNat - 26,(by omega)⟩; have g6 : K ≤ 110000 := (by omega); have g5 : ∀ x ∈ p0,x.f2.length ≤ K := fun x hx => (by have := i4 x hx; omega); have h9 : ∀ x ∈ p0,x.f2.length ≤ 110000 := fun x hx => (by have := g5 x hx; omega); have g8 : 26 * 2 ^ (nx p1).toNat = 2 * K + 52 := (by omega); clear hp0 hp1 hp2 hp3 hz2 i4 hK; rotate_right)
  | refine ⟨_,List.length_map ..,?_⟩
  | refine wG ?_ ?_ (fun _ => rfl) fun x hx hm => ?_
  | refine wC (w56 _ _ ?_) fun z56 hg => ?_
  | refine V2 (fun (q0 : List (List S71)) (q1 : Int) => 0 ≤ q1 ∧ q1 ≤ (z56.1.f8.length : Int) ∧ (q0.length : Int) ≤ q1 ∧ (∀ x ∈ q0,x.length ≤ K)) (fun _ q1 => [(0,.lst (List.map S65.c a0)),(3,.row 0),(4,.lst (List.map c_i64 z201)),(5,.sc (.int .i64 p1)),(6,.box 1 0),(8,.row 2),(9,.sc (.int .i64 q1))]) (fun q0 _ => ⟨[(0,.row (List.map S139.c p0) 4 true 0),(1,.box (S65.c z56.1) false),(2,.row (List.map cL26 q0) 1 false 2)],3⟩) (fun _ q1 => ((z56.1.f8.length : Int) + 1 - q1).toNat) [] (0 : Int) ?_ (ft [(0,some 0),(1,some 1),(2,none)] rfl rfl rfl ⟨fRZ rfl rfl fun _ => rfl,fB rfl rfl rfl,fitO_nil rfl rfl,trivial⟩) fun q0 q1 ⟨i0,i1,i3,i4⟩ => ?_
  | refine ⟨_,_,deep0 (leafs_map (f := S139.c) (fun _ => rfl) _),?_⟩
  | refine wC (w86 _ _ ?_) fun z86 h86 => ?_
  | refine wA (f := cL26) (m := [_]) rfl (fun _ => ⟨rfl,rfl⟩) ?_ ?_ ?_
  | refine ⟨⟨_,nx _⟩,?_,?_,(ft [(0,some 0),(1,some 1),(2,some 5)] rfl rfl rfl ⟨fRZ rfl rfl fun _ => rfl,fB rfl rfl rfl,fR rfl rfl fun _ => rfl,trivial⟩)⟩
  | refine ⟨_,_,deep0 (leafs_map (f := cL26) (fun _ => rfl) _),?_⟩
  | refine wC (w148 _ _ K ?_ ?_ ?_ ?_ ?_) fun z148 h148 => ?_
  | refine wC (w202 _ _ _ _ ?_ ?_ ?_ ?_ ?_) fun z202 h202 => ?_
  | refine wC (w116 _) fun z116 hz => ?_
  | refine wC (w203 _ _ _ _ ?_) fun z203 h203 => ?_
  | refine wA (f := S139.c) (m := [⟨_,_,_,_⟩]) rfl (fun _ => ⟨rfl,rfl⟩) ?_ ?_ ?_
  | refine ⟨⟨_,nx _⟩,?_,?_,(ft [(0,some 5)] rfl rfl rfl ⟨fRZ rfl rfl fun _ => rfl,trivial⟩)⟩
  | refine wC (w202 _ _ _ [] ?_ ?_ ?_ ?_ ?_) fun z202 h202 => ?_
  | refine wC (w203 [] _ _ _ ?_) fun z203 h203 => ?_
  | refine wA (f := S139.c) (m := [⟨_,[],_,_⟩]) rfl (fun _ => ⟨rfl,rfl⟩) ?_ ?_ ?_
  | refine wA (f := S139.c) (m := [⟨_,[],[],_⟩]) rfl (fun _ => ⟨rfl,rfl⟩) ?_ ?_ ?_
  | refine ⟨_,rfl,?_⟩
 | omega
 | (intro x hx; rcases List.mem_append.1 hx with hx | hx; (have := g5 x hx; rw [g8]; omega); (cases List.mem_singleton.1 hx; rw [g8]; dsimp only; omega))
 | dsimp only
 | exact all_snoc i4 (find_le h86 g5)
 | exact fun x hx => absurd hx List.not_mem_nil
 | with_reducible apply And.intro
 | (simp (disch := omega) only [ls] <;> omega)
 | grind
theorem w83 (a0 : List S65) (g0 : a0.length ≤ 12) (g1 : ∀ e ∈ a0,EB e) : WQv 83 [.lst (a0.map S65.c)] (fun r : Int => .sc (.int .i64 r)) (fun r => True) := by
 refine go Tryz.func83 (by kernel_rfl) ?_
 repeat' first
 | with_reducible assumption
 | (conv => whnf); first
  | refine bD (fun h => ?_) fun h => ?_
  | refine br (fun h => ?_) fun h => ?_
  | refine wC (w144 _ ?_ ?_) fun z144 hz => ?_
  | refine V2 (fun (p0 : Int) (p1 : Int) => 0 ≤ p1 ∧ p1 ≤ (a0.length : Int)) (fun p0 p1 => [(0,.lst (List.map S65.c a0)),(3,.lst (List.map S139.c z144)),(4,.sc (.int .i64 p0)),(5,.sc (.int .i64 p1))]) (fun _ _ => ⟨[],0⟩) (fun _ p1 => ((a0.length : Int) + 1 - p1).toNat) (0 : Int) (0 : Int) ?_ (ft [] rfl rfl rfl trivial) fun p0 p1 ⟨i0,i1⟩ => ?_
  | refine ⟨_,List.length_map ..,?_⟩
  | refine wE ‹_› ?_ (fun _ => rfl) ?_
  | refine wG ?_ ?_ (fun _ => rfl) fun x hx hm => ?_
  | refine wC (w86 _ _ ?_) fun z86 hz => ?_
  | refine ⟨⟨nx _,nx _⟩,?_,?_,(ft [] rfl rfl rfl trivial)⟩
  | refine ⟨⟨_,nx _⟩,?_,?_,(ft [] rfl rfl rfl trivial)⟩
  | refine ⟨_,rfl,?_⟩
 | omega
 | exact True.intro
 | dsimp only
 | with_reducible apply And.intro
 | (simp (disch := omega) only [ls] <;> omega)
theorem w145 (a0 : List S65) (g0 : a0.length ≤ 12) (g1 : ∀ e ∈ a0,EB e) (g2 : ∀ e ∈ a0,EM e) : WQv 145 [.lst (a0.map S65.c)] (fun r : Bool => .sc (.bool r)) (fun r => True) := by
 refine go Tryz.func145 (by kernel_rfl) ?_
 repeat' first
 | with_reducible assumption
 | (conv => whnf); first
  | refine bI (fun h => ?_) fun h => ?_
  | refine wC (w80 _ ?_) fun z80 hz => ?_
  | refine wC (w34 _ ?_ ?_) fun z34 hz => ?_
  | refine ⟨false,rfl,?_⟩
  | refine ⟨_,rfl,?_⟩
 | exact True.intro
theorem w84 (a0 : List S65) (g0 : a0.length ≤ 12) (g1 : ∀ e ∈ a0,EB e) (g2 : ∀ e ∈ a0,EM e) : WQv 84 [.lst (a0.map S65.c)] (fun r : List S139 => .lst (r.map S139.c)) (fun r => r.length ≤ 12 ∧ ∀ x ∈ r,x.f2.length ≤ 110000) := by
 refine go Tryz.func84 (by kernel_rfl) ?_
 repeat' first
 | with_reducible assumption
 | (conv => whnf); first
  | refine bN (fun h => ?_) fun h => ?_
  | refine wC (w145 _ ?_ ?_ ?_) fun z145 hz => ?_
  | refine wC (w144 _ ?_ ?_) fun z144 hz => ?_
  | refine ⟨[],rfl,?_⟩
  | refine ⟨_,rfl,?_⟩
 | dsimp only
 | exact ⟨Nat.zero_le _,fun x hx => (by cases hx)⟩
theorem w85 (a0 : S30) (a1 : Int) (g0 : a0.f2.length ≤ 12) : WQv 85 [.agg (S30.c a0),.sc (.int .i64 a1)] (fun r : S135 × Bool => .tup [.agg (S135.c r.1),.sc (.bool r.2)]) (fun r => True) := by
 refine go Tryz.func85 (by kernel_rfl) ?_
 repeat' first
 | with_reducible assumption
 | (conv => whnf); first
  | refine bD (fun h => ?_) fun h => ?_
  | refine V2 (fun (p0 : S135) (p1 : Int) => 0 ≤ p1 ∧ p1 ≤ (a0.f2.length : Int)) (fun _ p1 => [(1,.sc (.int .i64 a1)),(2,.box 0 0),(4,.box 1 0),(6,.sc (.int .i64 p1))]) (fun p0 _ => ⟨[(0,.box (S30.c a0) false),(1,.box (S135.c p0) false)],2⟩) (fun _ p1 => ((a0.f2.length : Int) + 1 - p1).toNat) ze135 (0 : Int) ?_ (ft [(0,some 0),(1,some 1)] rfl rfl rfl ⟨fB rfl rfl rfl,fB rfl rfl rfl,trivial⟩) fun p0 p1 ⟨i0,i1⟩ => ?_
  | refine ⟨_,List.length_map ..,?_⟩
  | refine wE ‹_› ?_ (fun _ => rfl) ?_
  | refine wG ?_ ?_ (fun _ => rfl) fun x hx hm => ?_
  | refine ⟨⟨_,nx _⟩,?_,?_,(ft [(0,some 0),(1,some 1)] rfl rfl rfl ⟨fB rfl rfl rfl,fB rfl rfl rfl,trivial⟩)⟩
  | refine ⟨(_,true),rfl,?_⟩
  | refine ⟨(ze135,false),rfl,?_⟩
 | omega
 | exact True.intro
 | dsimp only
 | with_reducible apply And.intro
 | (simp (disch := omega) only [ls] <;> omega)
theorem w87 (a0 : S30) (a1 : List Int) (a2 : Int) (g0 : a0.f2.length ≤ 12) (g1 : a1.length ≤ 10) : WQv 87 [.agg (S30.c a0),.lst (a1.map c_i64),.sc (.int .i64 a2)] (fun r : Bool => .sc (.bool r)) (fun r => True) := by
 refine go Tryz.func87 (by kernel_rfl) ?_
 repeat' first
 | with_reducible assumption
 | (conv => whnf); first
  | refine bD (fun h => ?_) fun h => ?_
  | refine bN (fun h => ?_) fun h => ?_
  | refine V1 (fun (p0 : Int) => 0 ≤ p0 ∧ p0 ≤ (a1.length : Int)) (fun p0 => [(1,.lst (List.map c_i64 a1)),(2,.sc (.int .i64 a2)),(3,.box 0 0),(7,.sc (.int .i64 p0))]) (fun _ => ⟨[(0,.box (S30.c a0) false)],1⟩) (fun p0 => ((a1.length : Int) + 1 - p0).toNat) (0 : Int) ?_ (ft [(0,some 0)] rfl rfl rfl ⟨fB rfl rfl rfl,trivial⟩) fun p0 ⟨i0,i1⟩ => ?_
  | refine ⟨_,List.length_map ..,?_⟩
  | refine wG ?_ ?_ (fun _ => rfl) fun x hx hm => ?_
  | refine wC (w85 _ _ ?_) fun z85 hz => ?_
  | refine ⟨by kernel_rfl,?_⟩
  | refine ⟨false,rfl,?_⟩
  | refine ⟨nx _,?_,?_,(ft [(0,some 0)] rfl rfl rfl ⟨fB rfl rfl rfl,trivial⟩)⟩
  | refine ⟨true,rfl,?_⟩
 | omega
 | exact True.intro
 | with_reducible apply And.intro
 | (simp (disch := omega) only [ls] <;> omega)
end Go.Abs.RM
