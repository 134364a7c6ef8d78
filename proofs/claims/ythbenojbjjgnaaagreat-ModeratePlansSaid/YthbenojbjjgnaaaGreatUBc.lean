/- Walks to a property. -/
import Derived.Test.YthbenojbjjgnaaaGreatUAm
import Derived.Test.YthbenojbjjgnaaaGreatUBb
set_option linter.unusedVariables false
set_option linter.unusedSimpArgs false
set_option linter.unusedSectionVars false
namespace Go.Abs.RM
open Go.Proofs
set_option maxRecDepth 100000
set_option maxHeartbeats 40000000
theorem w17 (a0 : List S65) (a1 : List Int) (g0 : a0.length ≤ 1000000000) (g1 : a1.length ≤ 1000000000) : WQv 17 [.lst (a0.map S65.c),.lst (a1.map c_i64)] (fun r : List Int => .lst (r.map c_i64)) (fun r => r.length ≤ a1.length) := by
 refine go Tryz.func17 (by kernel_rfl) ?_
 have hn : ([] : List Int).length = 0 := rfl
 repeat' first
 | with_reducible assumption
 | (conv => whnf); first
  | refine bD (fun h => ?_) fun h => ?_
  | refine V2 (fun (p0 : List Int) (p1 : Int) => 0 ≤ p1 ∧ p1 ≤ (a1.length : Int) ∧ (p0.length : Int) ≤ p1) (fun _ p1 => [(0,.lst (List.map S65.c a0)),(1,.lst (List.map c_i64 a1)),(5,.row 0),(6,.sc (.int .i64 p1))]) (fun p0 _ => ⟨[(0,.row (List.map c_i64 p0) 1 false 0)],1⟩) (fun _ p1 => ((a1.length : Int) + 1 - p1).toNat) [] (0 : Int) ?_ (ft [(0,none)] rfl rfl rfl ⟨fitO_nil rfl rfl,trivial⟩) fun p0 p1 ⟨i0,i1,i3⟩ => ?_
  | refine ⟨_,List.length_map ..,?_⟩
  | refine wE ‹_› ?_ (fun _ => rfl) ?_
  | refine wG ?_ ?_ (fun _ => rfl) fun x hx hm => ?_
  | refine wC (w59 _ _ ?_) fun z59 hz => ?_
  | refine ⟨_,_,deep0 (leafs_map (f := c_i64) (fun _ => rfl) _),?_⟩
  | refine wU (leafs_map (f := c_i64) (fun _ => rfl) _) (u60 _ _ ?_) (fun z60 hz => ?_) rfl rfl rfl
  | refine ⟨⟨_,nx _⟩,?_,?_,(ft [(0,some 1)] rfl rfl rfl ⟨fR rfl rfl fun _ => rfl,trivial⟩)⟩
  | refine ⟨⟨_,nx _⟩,?_,?_,(ft [(0,some 0)] rfl rfl rfl ⟨fR rfl rfl fun _ => rfl,trivial⟩)⟩
  | refine ⟨_,rfl,?_⟩
 | omega
 | dsimp only
 | with_reducible apply And.intro
 | (simp (disch := omega) only [ls] <;> omega)
theorem w111 (a0 : List S65) (g0 : a0.length ≤ 12) (g1 : ∀ e ∈ a0,EB e) : WQv 111 [.lst (a0.map S65.c)] (fun r : List Int => .lst (r.map c_i64)) (fun r => r.length ≤ 18 * 12) := by
 refine go Tryz.func111 (by kernel_rfl) ?_
 have hn : ([] : List Int).length = 0 := rfl
 repeat' first
 | with_reducible assumption
 | (conv => whnf); first
  | refine bD (fun h => ?_) fun h => ?_
  | refine V2 (fun (p0 : List Int) (p1 : Int) => 0 ≤ p1 ∧ p1 ≤ (a0.length : Int) ∧ (p0.length : Int) ≤ 18 * p1) (fun _ p1 => [(0,.lst (List.map S65.c a0)),(3,.row 0),(4,.sc (.int .i64 p1))]) (fun p0 _ => ⟨[(0,.row (List.map c_i64 p0) 1 false 0)],1⟩) (fun _ p1 => ((a0.length : Int) + 50 + 1 - p1).toNat) [] (0 : Int) ?_ (ft [(0,none)] rfl rfl rfl ⟨fitO_nil rfl rfl,trivial⟩) fun p0 p1 ⟨i0,i1,i3⟩ => ?_
  | refine ⟨_,List.length_map ..,?_⟩
  | refine V2 (fun (q0 : List Int) (q1 : Int) => 0 ≤ q1 ∧ q1 ≤ 10 ∧ (q0.length : Int) ≤ 18 * p1 + q1) (fun _ q1 => [(0,.lst (List.map S65.c a0)),(3,.row 0),(4,.sc (.int .i64 p1)),(5,.sc (.int .i64 q1))]) (fun q0 _ => ⟨[(0,.row (List.map c_i64 q0) 1 false 0)],1⟩) (fun _ q1 => (30 + 1 - q1).toNat) p0 (0 : Int) ?_ (ft [(0,some 0)] rfl rfl rfl ⟨fR rfl rfl fun _ => rfl,trivial⟩) fun q0 q1 ⟨i0,i1,i3⟩ => ?_
  | refine wE ‹_› ?_ (fun _ => rfl) ?_
  | refine wG ?_ ?_ (fun _ => rfl) fun x hx hm => ?_
  | refine ⟨_,_,deep0 (leafs_map (f := c_i64) (fun _ => rfl) _),?_⟩
  | refine wU (leafs_map (f := c_i64) (fun _ => rfl) _) (u60 _ _ ?_) (fun z60 hz => ?_) rfl rfl rfl
  | refine ⟨⟨_,nx _⟩,?_,?_,(ft [(0,some 1)] rfl rfl rfl ⟨fR rfl rfl fun _ => rfl,trivial⟩)⟩
  | refine V2 (fun (v0 : List Int) (v1 : Int) => 0 ≤ v1 ∧ v1 ≤ 8 ∧ (v0.length : Int) ≤ 18 * p1 + 10 + v1) (fun _ v1 => [(0,.lst (List.map S65.c a0)),(3,.row 0),(4,.sc (.int .i64 p1)),(6,.sc (.int .i64 v1))]) (fun v0 _ => ⟨[(0,.row (List.map c_i64 v0) 1 false 0)],1⟩) (fun _ v1 => (10 + 1 - v1).toNat) q0 (0 : Int) ?_ (ft [(0,some 0)] rfl rfl rfl ⟨fR rfl rfl fun _ => rfl,trivial⟩) fun v0 v1 ⟨i0,i1,i3⟩ => ?_
  | refine ⟨⟨_,nx _⟩,?_,?_,(ft [(0,some 0)] rfl rfl rfl ⟨fR rfl rfl fun _ => rfl,trivial⟩)⟩
  | refine ⟨_,rfl,?_⟩
 | omega
 | dsimp only
 | with_reducible apply And.intro
 | (simp (disch := omega) only [ls] <;> omega)
 | grind
theorem w81 (a0 : List S65) (g0 : a0.length ≤ 12) (g1 : ∀ e ∈ a0,EB e) : WQv 81 [.lst (a0.map S65.c)] (fun r : Bool => .sc (.bool r)) (fun r => True) := by
 refine go Tryz.func81 (by kernel_rfl) ?_
 repeat' first
 | with_reducible assumption
 | (conv => whnf); first
  | refine wC (w111 _ ?_ ?_) fun z111 hz => ?_
  | refine wC (w17 _ _ ?_ ?_) fun z17 hz => ?_
  | refine ⟨_,List.length_map ..,?_⟩
  | refine ⟨_,rfl,?_⟩
 | omega
 | exact True.intro
theorem w56 (a0 : List S65) (a1 : Int) (g0 : a0.length ≤ 1000000000) : WQv 56 [.lst (a0.map S65.c),.sc (.int .i64 a1)] (fun r : S65 × Bool => .tup [.agg (S65.c r.1),.sc (.bool r.2)]) (fun r => Got a0 a1 r) := by
 refine go Tryz.func56 (by kernel_rfl) ?_
 repeat' first
 | with_reducible assumption
 | (conv => whnf); first
  | refine bD (fun h => ?_) fun h => ?_
  | refine wC (w59 _ _ ?_) fun z59 h59 => ?_
  | refine wG ?_ ?_ (fun _ => rfl) fun x hx hm => ?_
  | refine ⟨(ze65,false),rfl,?_⟩
  | refine ⟨(_,true),rfl,?_⟩
 | omega
 | dsimp only
 | exact Or.inr ⟨rfl,rfl,h59.2 h⟩
 | exact got_mk h59 h hx hm
theorem w82 (a0 : List S65) (a1 : S65) (g0 : a0.length ≤ 12) (g1 : EB a1) : WQv 82 [.lst (a0.map S65.c),.agg (S65.c a1)] (fun r : Bool => .sc (.bool r)) (fun r => True) := by
 refine go Tryz.func82 (by kernel_rfl) ?_
 repeat' first
 | with_reducible assumption
 | (conv => whnf); first
  | refine bI (fun h => ?_) fun h => ?_
  | refine bJ (fun h => ?_) fun h => ?_
  | refine bD (fun h => ?_) fun h => ?_
  | refine br (fun h => ?_) fun h => ?_
  | refine ⟨_,List.length_map ..,?_⟩
  | refine ⟨false,rfl,?_⟩
  | refine V1 (fun (p0 : Int) => 0 ≤ p0 ∧ p0 ≤ (a1.f9.length : Int)) (fun p0 => [(0,.lst (List.map S65.c a0)),(3,.box 0 0),(5,.sc (.int .i64 p0))]) (fun _ => ⟨[(0,.box (S65.c a1) false)],1⟩) (fun p0 => ((a1.f9.length : Int) + 1 - p0).toNat) (0 : Int) ?_ (ft [(0,some 0)] rfl rfl rfl ⟨fB rfl rfl rfl,trivial⟩) fun p0 ⟨i0,i1⟩ => ?_
  | refine wG ?_ ?_ (fun _ => rfl) fun x hx hm => ?_
  | refine wC (w56 _ _ ?_) fun z56 hz => ?_
  | refine ⟨nx _,?_,?_,(ft [(0,some 0)] rfl rfl rfl ⟨fB rfl rfl rfl,trivial⟩)⟩
  | refine V2 (fun (q0 : Bool) (q1 : Int) => 0 ≤ q1 ∧ q1 ≤ (a1.f8.length : Int)) (fun q0 q1 => [(0,.lst (List.map S65.c a0)),(3,.box 0 0),(8,.sc (.bool q0)),(9,.sc (.int .i64 q1))]) (fun _ _ => ⟨[(0,.box (S65.c a1) false)],1⟩) (fun _ q1 => ((a1.f8.length : Int) + 1 - q1).toNat) ((a1.f8.length : Int) == 0) (0 : Int) ?_ (ft [(0,some 0)] rfl rfl rfl ⟨fB rfl rfl rfl,trivial⟩) fun q0 q1 ⟨i0,i1⟩ => ?_
  | refine ⟨⟨_,nx _⟩,?_,?_,(ft [(0,some 0)] rfl rfl rfl ⟨fB rfl rfl rfl,trivial⟩)⟩
  | refine ⟨_,rfl,?_⟩
 | omega
 | exact True.intro
 | dsimp only
 | (have h8 := g1.2.2.2.1; have h9 := g1.2.2.2.2.1; first | omega | (simp (disch := omega) only [ls] <;> omega))
theorem w34 (a0 : List S65) (g0 : a0.length ≤ 12) (g1 : ∀ e ∈ a0,EB e) : WQv 34 [.lst (a0.map S65.c)] (fun r : Int => .sc (.int .i64 r)) (fun r => True) := by
 refine go Tryz.func34 (by kernel_rfl) ?_
 repeat' first
 | with_reducible assumption
 | (conv => whnf); first
  | refine bN (fun h => ?_) fun h => ?_
  | refine bD (fun h => ?_) fun h => ?_
  | refine wC (w81 _ ?_ ?_) fun z81 hz => ?_
  | refine V1 (fun (p0 : Int) => 0 ≤ p0 ∧ p0 ≤ (a0.length : Int)) (fun p0 => [(0,.lst (List.map S65.c a0)),(3,.sc (.int .i64 p0))]) (fun _ => ⟨[],0⟩) (fun p0 => ((a0.length : Int) + 1 - p0).toNat) (0 : Int) ?_ (ft [] rfl rfl rfl trivial) fun p0 ⟨i0,i1⟩ => ?_
  | refine ⟨_,List.length_map ..,?_⟩
  | refine wG ?_ ?_ (fun _ => rfl) fun x hx hm => ?_
  | refine wC (w82 _ _ ?_ ?_) fun z82 hz => ?_
  | refine ⟨nx _,?_,?_,(ft [] rfl rfl rfl trivial)⟩
  | refine ⟨(14 : Int),rfl,?_⟩
  | refine ⟨(15 : Int),rfl,?_⟩
  | refine ⟨(0 : Int),rfl,?_⟩
 | omega
 | exact g1 _ hm
 | with_reducible apply And.intro
 | (simp (disch := omega) only [ls] <;> omega)
theorem w86 (a0 : List S139) (a1 : Int) (g0 : a0.length ≤ 1000000000) : WQv 86 [.lst (a0.map S139.c),.sc (.int .i64 a1)] (fun r : S139 × Bool => .tup [.agg (S139.c r.1),.sc (.bool r.2)]) (fun r => r.1 ∈ a0 ∨ r.1 = zL) := by
 refine go Tryz.func86 (by kernel_rfl) ?_
 repeat' first
 | with_reducible assumption
 | (conv => whnf); first
  | refine bD (fun h => ?_) fun h => ?_
  | refine V2 (fun (p0 : S139) (p1 : Int) => 0 ≤ p1 ∧ p1 ≤ (a0.length : Int)) (fun _ p1 => [(0,.lst (List.map S139.c a0)),(1,.sc (.int .i64 a1)),(4,.box 0 0),(6,.sc (.int .i64 p1))]) (fun p0 _ => ⟨[(0,.box (S139.c p0) false)],1⟩) (fun _ p1 => ((a0.length : Int) + 1 - p1).toNat) ze139 (0 : Int) ?_ (ft [(0,some 0)] rfl rfl rfl ⟨fB rfl rfl rfl,trivial⟩) fun p0 p1 ⟨i0,i1⟩ => ?_
  | refine ⟨_,List.length_map ..,?_⟩
  | refine wE ‹_› ?_ (fun _ => rfl) ?_
  | refine wG ?_ ?_ (fun _ => rfl) fun x hx hm => ?_
  | refine ⟨⟨_,nx _⟩,?_,?_,(ft [(0,some 0)] rfl rfl rfl ⟨fB rfl rfl rfl,trivial⟩)⟩
  | refine ⟨(_,true),rfl,?_⟩
  | refine ⟨(ze139,false),rfl,?_⟩
 | omega
 | dsimp only
 | exact Or.inr rfl
 | exact Or.inl hm
 | with_reducible apply And.intro
 | (simp (disch := omega) only [ls] <;> omega)
theorem w16 (a0 : List Int) (a1 : Int) (g0 : a0.length ≤ 1000000000) : WQv 16 [.lst (a0.map c_i64),.sc (.int .i64 a1)] (fun r : Bool => .sc (.bool r)) (fun r => (r = true ↔ a1 ∈ a0)) := by
 refine go Tryz.func16 (by kernel_rfl) ?_
 repeat' first
 | with_reducible assumption
 | (conv => whnf); first
  | refine bD (fun h => ?_) fun h => ?_
  | refine V1 (fun (p0 : Int) => 0 ≤ p0 ∧ p0 ≤ (a0.length : Int) ∧ (∀ r : Bool,((r = true ↔ a1 ∈ a0.drop p0.toNat)) → (r = true ↔ a1 ∈ a0))) (fun p0 => [(0,.lst (List.map c_i64 a0)),(1,.sc (.int .i64 a1)),(5,.sc (.int .i64 p0))]) (fun _ => ⟨[],0⟩) (fun p0 => ((a0.length : Int) + 1 - p0).toNat) (0 : Int) ?_ (ft [] rfl rfl rfl trivial) fun p0 ⟨i0,i1,hk⟩ => ?_
  | refine ⟨_,List.length_map ..,?_⟩
  | refine wG ?_ ?_ (fun _ => rfl) fun x hx hm => ?_
  | refine ⟨true,rfl,?_⟩
  | refine ⟨nx _,?_,?_,(ft [] rfl rfl rfl trivial)⟩
  | refine ⟨false,rfl,?_⟩
 | omega
 | dsimp only
 | refine hk _ ?_
 | refine fun r hr => hk r ?_
 | (rw [drop_cons i0 hx (by omega)]; exact ⟨fun e => List.mem_cons_of_mem _ (hr.1 e),fun e => hr.2 ((List.mem_cons.1 e).resolve_left fun e => h e.symm)⟩)
 | (rw [drop_cons i0 hx (by omega)]; exact ⟨fun _ => List.mem_cons.2 (Or.inl h.symm),fun _ => rfl⟩)
 | (rw [drop_end h]; exact ⟨fun e => (by cases e),fun e => (by cases e)⟩)
 | with_reducible apply And.intro
 | (simp (disch := omega) only [ls] <;> omega)
 | intro hr
 | grind
end Go.Abs.RM
