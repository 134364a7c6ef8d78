/- Walks to a property. -/
import Derived.Test.YthbenojbjjgnaaaGreatUAm
import Derived.Test.YthbenojbjjgnaaaGreatUBc
import Derived.Test.YthbenojbjjgnaaaGreatUBd
import Derived.Test.YthbenojbjjgnaaaGreatUBe
set_option linter.unusedVariables false
set_option linter.unusedSimpArgs false
set_option linter.unusedSectionVars false
namespace Go.Abs.RM
open Go.Proofs
set_option maxRecDepth 100000
set_option maxHeartbeats 40000000
theorem w371 (a0 : List S65) (a1 : List Int) (g0 : a0.length ≤ 12) (g1 : a1.length ≤ 900000000) : WQv 371 [.lst (a0.map S65.c),.lst (a1.map c_i64)] (fun r : List Int => .lst (r.map c_i64)) (fun r => r.Nodup ∧ r.length ≤ a1.length ∧ ∀ x ∈ r,x ∈ a1) := by
 refine go Tryz.func371 (by kernel_rfl) ?_
 repeat' first
 | with_reducible assumption
 | (conv => whnf); first
  | refine wC (w17 _ _ ?_ ?_) fun z17 hz => ?_
  | refine wC (w53 _ _ ?_ ?_) fun z53 hz => ?_
  | refine ⟨_,rfl,?_⟩
 | omega
 | dsimp only
 | exact ⟨hz.2.1,hz.2.2,fun x hx => ((hz.1 x).1 hx).1⟩
theorem w372 (a0 : S65) : WQv 372 [.agg (S65.c a0)] (fun r : Bool => .sc (.bool r)) (fun r => r = true → a0.f3 ≠ 0) := by
 refine go Tryz.func372 (by kernel_rfl) ?_
 repeat' first
 | (conv => whnf); first
  | refine bI (fun h => ?_) fun h => ?_
  | refine ⟨false,rfl,?_⟩
  | refine ⟨true,rfl,?_⟩
  | refine ⟨_,rfl,?_⟩
 | omega
 | dsimp only
 | (intro hr; first | omega | (simp at hr; omega))
theorem w260 (a0 : List S65) (a1 : List Int) (g0 : a0.length ≤ 12) (g1 : ∀ e ∈ a0,EB e) (g2 : a1.length ≤ 900000000) : WQv 260 [.lst (a0.map S65.c),.lst (a1.map c_i64)] (fun r : List Int => .lst (r.map c_i64)) (fun r => IS a0 r) := by
 refine go Tryz.func260 (by kernel_rfl) ?_
 repeat' first
 | with_reducible assumption
 | (conv => whnf); first
  | refine bD (fun h => ?_) fun h => ?_
  | refine br (fun h => ?_) fun h => ?_
  | refine wC (w371 _ _ ?_ ?_) fun z371 hz => ?_
  | refine V2 (fun (p0 : List Int) (p1 : Int) => 0 ≤ p1 ∧ p1 ≤ (z371.length : Int) ∧ IS a0 p0) (fun p0 p1 => [(0,.lst (List.map S65.c a0)),(5,.lst (List.map c_i64 z371)),(6,.lst (List.map c_i64 p0)),(7,.sc (.int .i64 p1))]) (fun _ _ => ⟨[],0⟩) (fun _ p1 => ((z371.length : Int) + 20 + 1 - p1).toNat) ([] : List Int) (0 : Int) ?_ (suits_trans (lend_suits 6 rfl rfl (leafs_lit rfl)) (ft [] rfl rfl rfl trivial)) fun p0 p1 ⟨i0,i1,i3⟩ => ?_
  | refine ⟨_,List.length_map ..,?_⟩
  | refine wE ‹_› ?_ (fun _ => rfl) ?_
  | refine wG ?_ ?_ (fun _ => rfl) fun x hx hm => ?_
  | refine wC (w56 _ _ ?_) fun z56 hg => ?_
  | refine wC (w372 _) fun z372 h372 => ?_
  | refine wC (w118 p0 x ?_) fun z118 hp => ?_
  | refine ⟨_,_,deep0 (leafs_lit rfl),?_⟩
  | refine wC (w373 _ [_] ?_ ?_ ?_) fun z373 hc => ?_
  | refine V2 (fun (q0 : List Int) (q1 : Int) => 0 ≤ q1 ∧ q1 ≤ (z373.length : Int) ∧ IS a0 q0) (fun q0 q1 => [(0,.lst (List.map S65.c a0)),(5,.lst (List.map c_i64 z371)),(6,.lst (List.map c_i64 q0)),(7,.sc (.int .i64 p1)),(10,.lst (List.map c_i64 z373)),(11,.sc (.int .i64 q1))]) (fun _ _ => ⟨[],0⟩) (fun _ q1 => ((z373.length : Int) + 1 - q1).toNat) z118 (0 : Int) ?_ (ft [] rfl rfl rfl trivial) fun q0 q1 ⟨i0,i1,i3⟩ => ?_
  | refine wC (w16 _ _ ?_) fun z16 hz => ?_
  | refine wC (w118 q0 x ?_) fun z118_1 hp => ?_
  | refine ⟨⟨_,nx _⟩,?_,?_,(ft [] rfl rfl rfl trivial)⟩
  | refine ⟨_,rfl,?_⟩
 | omega
 | exact hp.is i3 (hg.ids (got_kind hg (h372 h)))
 | (have := hc.len; first | omega | (simp (disch := omega) only [ls] <;> omega))
 | dsimp only
 | (have := i3.len; omega)
 | exact IS.nil
 | with_reducible apply And.intro
 | (simp (disch := omega) only [ls] <;> omega)
 | grind
theorem w374 (a0 : List S65) (a1 : List Int) (a2 : Int) (g0 : a0.length ≤ 12) (g1 : ∀ e ∈ a0,EB e) (g2 : a1.length ≤ 1000000000) : WQv 374 [.lst (a0.map S65.c),.lst (a1.map c_i64),.sc (.int .i64 a2)] (fun r : Bool => .sc (.bool r)) (fun r => True) := by
 refine go Tryz.func374 (by kernel_rfl) ?_
 repeat' first
 | with_reducible assumption
 | (conv => whnf); first
  | refine bD (fun h => ?_) fun h => ?_
  | refine br (fun h => ?_) fun h => ?_
  | refine ⟨_,_,deep0 (leafs_lit rfl),?_⟩
  | refine wC (w373 _ [_] ?_ ?_ ?_) fun z373 hz => ?_
  | refine V1 (fun (p0 : Int) => 0 ≤ p0 ∧ p0 ≤ (z373.length : Int)) (fun p0 => [(1,.lst (List.map c_i64 a1)),(7,.lst (List.map c_i64 z373)),(8,.sc (.int .i64 p0))]) (fun _ => ⟨[],0⟩) (fun p0 => ((z373.length : Int) + 1 - p0).toNat) (0 : Int) ?_ (ft [] rfl rfl rfl trivial) fun p0 ⟨i0,i1⟩ => ?_
  | refine ⟨_,List.length_map ..,?_⟩
  | refine wG ?_ ?_ (fun _ => rfl) fun x hx hm => ?_
  | refine wC (w16 _ _ ?_) fun z16 hz => ?_
  | refine ⟨false,rfl,?_⟩
  | refine ⟨nx _,?_,?_,(ft [] rfl rfl rfl trivial)⟩
  | refine ⟨true,rfl,?_⟩
 | omega
 | exact True.intro
 | (have h1 := IS.len ‹IS a0 _›; first | omega | (simp (disch := omega) only [ls] <;> omega))
 | (simp only [List.length_cons,List.length_nil]; omega)
theorem w112 (a0 : List S65) (a1 : List Int) (g0 : a0.length ≤ 12) (g1 : a1.length ≤ 1000) : WQv 112 [.lst (a0.map S65.c),.lst (a1.map c_i64)] (fun r : List S65 => .lst (r.map S65.c)) (fun r => r.length ≤ a1.length ∧ ∀ x ∈ r,x ∈ a0) := by
 refine go Tryz.func112 (by kernel_rfl) ?_
 have hn1 : ([] : List S65).length = 0 := rfl
 repeat' first
 | with_reducible assumption
 | (conv => whnf); first
  | refine bD (fun h => ?_) fun h => ?_
  | refine br (fun h => ?_) fun h => ?_
  | refine V2 (fun (p0 : List S65) (p1 : Int) => 0 ≤ p1 ∧ p1 ≤ (a1.length : Int) ∧ (p0.length : Int) ≤ p1 ∧ (∀ x ∈ p0,x ∈ a0)) (fun _ p1 => [(0,.lst (List.map S65.c a0)),(1,.lst (List.map c_i64 a1)),(5,.row 0),(6,.sc (.int .i64 p1))]) (fun p0 _ => ⟨[(0,.row (List.map S65.c p0) 29 false 0)],1⟩) (fun _ p1 => ((a1.length : Int) + 1 - p1).toNat) [] (0 : Int) ?_ (ft [(0,none)] rfl rfl rfl ⟨fitO_nil rfl rfl,trivial⟩) fun p0 p1 ⟨i0,i1,i3,i4⟩ => ?_
  | refine ⟨_,List.length_map ..,?_⟩
  | refine wG ?_ ?_ (fun _ => rfl) fun x hx hm => ?_
  | refine wC (w56 _ _ ?_) fun z56 hz => ?_
  | refine wA (f := S65.c) (m := [_]) rfl (fun _ => ⟨rfl,rfl⟩) ?_ ?_ ?_
  | refine ⟨⟨_,nx _⟩,?_,?_,(ft [(0,some 3)] rfl rfl rfl ⟨fR rfl rfl fun _ => rfl,trivial⟩)⟩
  | refine ⟨⟨_,nx _⟩,?_,?_,(ft [(0,some 0)] rfl rfl rfl ⟨fR rfl rfl fun _ => rfl,trivial⟩)⟩
  | refine ⟨_,_,deep0 (leafs_map (f := S65.c) (fun _ => rfl) _),?_⟩
  | refine ⟨_,rfl,?_⟩
 | omega
 | dsimp only
 | exact ⟨by omega,i4⟩
 | exact all_snoc i4 (hz.mem h).1
 | exact fun x hx => absurd hx List.not_mem_nil
 | with_reducible apply And.intro
 | (simp (disch := omega) only [ls] <;> omega)
theorem w438 (a0 : List S71) (a1 : Int) (a2 : ByteArray) (g0 : a0.length ≤ 100) : WQv 438 [.lst (a0.map S71.c),.sc (.int .i64 a1),.sc (.string a2)] (fun r : List S71 => .lst (r.map S71.c)) (fun r => r.length ≤ a0.length + 1) := by
 refine go Tryz.func438 (by kernel_rfl) ?_
 repeat' first
 | with_reducible assumption
 | (conv => whnf); first
  | refine bD (fun h => ?_) fun h => ?_
  | refine bS (fun h => ?_) fun h => ?_
  | refine br (fun h => ?_) fun h => ?_
  | refine V1 (fun (p0 : Int) => 0 ≤ p0 ∧ p0 ≤ (a0.length : Int)) (fun p0 => [(0,.lst (List.map S71.c a0)),(1,.sc (.int .i64 a1)),(2,.sc (.string a2)),(7,.sc (.int .i64 p0))]) (fun _ => ⟨[],0⟩) (fun p0 => ((a0.length : Int) + 1 - p0).toNat) (0 : Int) ?_ (ft [] rfl rfl rfl trivial) fun p0 ⟨i0,i1⟩ => ?_
  | refine ⟨_,List.length_map ..,?_⟩
  | refine wE ‹_› ?_ (fun _ => rfl) ?_
  | refine wG ?_ ?_ (fun _ => rfl) fun x hx hm => ?_
  | refine ⟨nx _,?_,?_,(ft [] rfl rfl rfl trivial)⟩
  | refine ⟨lens_map (f := S71.c) (fun _ => rfl),?_,?_,slB _ ?_⟩
  | refine ⟨lens_map (f := S71.c) (fun _ => rfl),?_,?_,slA _ _ ?_⟩
  | refine wA (l := []) (f := S71.c) (m := _) rfl (fun _ => ⟨rfl,rfl⟩) ?_ ?_ ?_
  | refine wA (f := S71.c) (m := [⟨_,_,(0 : Int)⟩]) rfl (fun _ => ⟨rfl,rfl⟩) ?_ ?_ ?_
  | refine wA (f := S71.c) (m := _) rfl (fun _ => ⟨rfl,rfl⟩) ?_ ?_ ?_
  | refine ⟨_,_,deep0 (leafs_map (f := S71.c) (fun _ => rfl) _),?_⟩
  | refine ⟨_,rfl,?_⟩
 | omega
 | dsimp only
 | (simp only [List.length_append,List.length_cons,List.length_nil,List.length_take,List.length_drop,List.length_set,List.length_map,ByteArray.size_extract]; omega)
 | with_reducible apply And.intro
 | (simp (disch := omega) only [ls] <;> omega)
theorem w367 (a0 : S65) : WQv 367 [.agg (S65.c a0)] (fun r : List S71 => .lst (r.map S71.c)) (fun r => r.length ≤ 5) := by
 refine go Tryz.func367 (by kernel_rfl) ?_
 have hn1 : ([] : List S71).length = 0 := rfl
 repeat' first
 | (conv => whnf); first
  | refine bI (fun h => ?_) fun h => ?_
  | refine bJ (fun h => ?_) fun h => ?_
  | refine wC (w438 [] (1 : Int) zS ?_) fun z438 hz => ?_
  | refine wC (w438 _ (3 : Int) zS ?_) fun z438 hz => ?_
  | refine wC (w438 _ (2 : Int) _ ?_) fun z438 hz => ?_
  | refine wC (w438 _ (4 : Int) zS ?_) fun z438 hz => ?_
  | refine ⟨[],rfl,?_⟩
  | refine ⟨_,rfl,?_⟩
 | omega
theorem w256 (a0 : List S65) (a1 : S65) (g0 : a0.length ≤ 12) (g1 : a1.f9.length ≤ 8) : WQv 256 [.lst (a0.map S65.c),.agg (S65.c a1)] (fun r : List S65 => .lst (r.map S65.c)) (fun r => r.length ≤ 40 ∧ ∀ x ∈ r,x ∈ a0) := by
 refine go Tryz.func256 (by kernel_rfl) ?_
 have hn1 : ([] : List S65).length = 0 := rfl
 repeat' first
 | with_reducible assumption
 | (conv => whnf); first
  | refine bD (fun h => ?_) fun h => ?_
  | refine bN (fun h => ?_) fun h => ?_
  | refine bS (fun h => ?_) fun h => ?_
  | refine wC (w367 _) fun z367 hz => ?_
  | refine wC (w112 _ _ ?_ ?_) fun z112 h112 => ?_
  | refine V2 (fun (p0 : List S65) (p1 : Int) => 0 ≤ p1 ∧ p1 ≤ (z367.length : Int) ∧ (p0.length : Int) ≤ 8 * p1 ∧ (∀ x ∈ p0,x ∈ z112) ∧ (∀ r : List S65,(r.length ≤ 40 ∧ ∀ x ∈ r,x ∈ z112) → r.length ≤ 40 ∧ ∀ x ∈ r,x ∈ a0)) (fun _ p1 => [(5,.lst (List.map S71.c z367)),(6,.lst (List.map S65.c z112)),(7,.row 0),(8,.sc (.int .i64 p1))]) (fun p0 _ => ⟨[(0,.row (List.map S65.c p0) 29 false 0)],1⟩) (fun _ p1 => ((z367.length : Int) + 20 + 1 - p1).toNat) [] (0 : Int) ?_ (ft [(0,none)] rfl rfl rfl ⟨fitO_nil rfl rfl,trivial⟩) fun p0 p1 ⟨i0,i1,i3,i4,hk⟩ => ?_
  | refine ⟨_,List.length_map ..,?_⟩
  | refine V3 (fun (q0 : List S65) (q1 : Bool) (q2 : Int) => 0 ≤ q2 ∧ q2 ≤ (z112.length : Int) ∧ (q0.length : Int) ≤ 8 * p1 + q2 ∧ (∀ x ∈ q0,x ∈ z112)) (fun _ q1 q2 => [(5,.lst (List.map S71.c z367)),(6,.lst (List.map S65.c z112)),(7,.row 0),(8,.sc (.int .i64 p1)),(9,.sc (.bool q1)),(10,.sc (.int .i64 q2))]) (fun q0 _ _ => ⟨[(0,.row (List.map S65.c q0) 29 false 0)],1⟩) (fun _ _ q2 => ((z112.length : Int) + 1 - q2).toNat) p0 false (0 : Int) ?_ (ft [(0,some 0)] rfl rfl rfl ⟨fR rfl rfl fun _ => rfl,trivial⟩) fun q0 q1 q2 ⟨i0,i1,i3,i4⟩ => ?_
  | refine wE ‹_› ?_ (fun _ => rfl) ?_
  | refine wG ?_ ?_ (fun _ => rfl) fun x hx hm => ?_
  | refine ⟨by kernel_rfl,?_⟩
  | refine wA (f := S65.c) (m := [_]) rfl (fun _ => ⟨rfl,rfl⟩) ?_ ?_ ?_
  | refine ⟨⟨_,_,nx _⟩,?_,?_,(ft [(0,some 2)] rfl rfl rfl ⟨fR rfl rfl fun _ => rfl,trivial⟩)⟩
  | refine ⟨⟨_,_,nx _⟩,?_,?_,(ft [(0,some 0)] rfl rfl rfl ⟨fR rfl rfl fun _ => rfl,trivial⟩)⟩
  | refine ⟨⟨_,nx _⟩,?_,?_,(ft [(0,some 0)] rfl rfl rfl ⟨fR rfl rfl fun _ => rfl,trivial⟩)⟩
  | refine ⟨_,_,deep0 (leafs_map (f := S65.c) (fun _ => rfl) _),?_⟩
  | refine ⟨_,rfl,?_⟩
 | omega
 | dsimp only
 | refine hk _ ?_
 | exact ⟨by omega,i4⟩
 | exact fun x hx => absurd hx List.not_mem_nil
 | exact ⟨hr.1,fun x hx => h112.2 x (hr.2 x hx)⟩
 | with_reducible apply And.intro
 | (simp (disch := omega) only [ls] <;> omega)
 | intro hr
 | grind
end Go.Abs.RM
