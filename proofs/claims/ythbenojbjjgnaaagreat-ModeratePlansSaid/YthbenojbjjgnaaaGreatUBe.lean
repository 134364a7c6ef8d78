/- Walks to a property. -/
import Derived.Test.YthbenojbjjgnaaaGreatUAm
import Derived.Test.YthbenojbjjgnaaaGreatUBc
import Derived.Test.YthbenojbjjgnaaaGreatUBd
set_option linter.unusedVariables false
set_option linter.unusedSimpArgs false
set_option linter.unusedSectionVars false
namespace Go.Abs.RM
open Go.Proofs
set_option maxRecDepth 100000
set_option maxHeartbeats 40000000
theorem w58 (a0 : List Int) (a1 : List Int) (g0 : a0.length + a1.length ≤ 900000000) : WQv 58 [.lst (a0.map c_i64),.lst (a1.map c_i64)] (fun r : List Int => .lst (r.map c_i64)) (fun r => (∀ x,x ∈ r ↔ x ∈ a0 ∨ x ∈ a1) ∧ r.Nodup ∧ r.length ≤ a0.length + a1.length) := by
 refine go Tryz.func58 (by kernel_rfl) ?_
 repeat' first
 | with_reducible assumption
 | (conv => whnf); first
  | refine bD (fun h => ?_) fun h => ?_
  | refine wC (w110 _ ?_) fun z110 hz => ?_
  | refine V2 (fun (p0 : List Int) (p1 : Int) => 0 ≤ p1 ∧ p1 ≤ (a1.length : Int) ∧ p0.Nodup ∧ (p0.length : Int) + ((a1.length : Int) - p1) ≤ 900000000 ∧ (∀ r : List Int,((∀ x,x ∈ r ↔ x ∈ p0 ∨ x ∈ a1.drop p1.toNat) ∧ r.Nodup) → (∀ x,x ∈ r ↔ x ∈ a0 ∨ x ∈ a1) ∧ r.Nodup ∧ r.length ≤ a0.length + a1.length)) (fun p0 p1 => [(1,.lst (List.map c_i64 a1)),(5,.lst (List.map c_i64 p0)),(6,.sc (.int .i64 p1))]) (fun _ _ => ⟨[],0⟩) (fun _ p1 => ((a1.length : Int) + 1 - p1).toNat) z110 (0 : Int) ?_ (ft [] rfl rfl rfl trivial) fun p0 p1 ⟨i0,i1,i3,i4,hk⟩ => ?_
  | refine ⟨_,List.length_map ..,?_⟩
  | refine wG ?_ ?_ (fun _ => rfl) fun x hx hm => ?_
  | refine wC (w118 _ _ ?_) fun z118 hz => ?_
  | refine ⟨⟨_,nx _⟩,?_,?_,(ft [] rfl rfl rfl trivial)⟩
  | refine ⟨_,rfl,?_⟩
 | omega
 | (have := nodup_le (m := a0 ++ a1) hr.2 (by grind); grind)
 | dsimp only
 | refine hk _ ?_
 | refine fun r hr => hk r ?_
 | exact hz.2.1 i3
 | (rw [drop_cons (by omega) hx (by omega)]; exact ⟨fun x => ((hr.1 x).trans (or_congr (hz.1 x) Iff.rfl)).trans ⟨fun h => h.elim (fun h => h.elim Or.inl fun e => Or.inr (List.mem_cons.2 (Or.inl e))) fun h => Or.inr (List.mem_cons_of_mem _ h),fun h => h.elim (fun h => Or.inl (Or.inl h)) fun h => (List.mem_cons.1 h).elim (fun e => Or.inl (Or.inr e)) Or.inr⟩,hr.2⟩)
 | (rw [drop_end h]; exact ⟨fun x => ⟨Or.inl,fun h => h.elim id fun h => (by cases h)⟩,i3⟩)
 | exact hz.2.1
 | have := hz.2.2; first | omega | assumption | (simp (disch := omega) only [ls] <;> omega)
 | with_reducible apply And.intro
 | intro hr
theorem w441 (a0 : List S65) (a1 : List Int) (a2 : Bool) (g0 : a0.length ≤ 12) (g1 : ∀ e ∈ a0,EB e) (g2 : a1.length ≤ 1000000000) : WQv 441 [.lst (a0.map S65.c),.lst (a1.map c_i64),.sc (.bool a2)] (fun r : List Int => .lst (r.map c_i64)) (fun r => IS a0 r) := by
 refine go Tryz.func441 (by kernel_rfl) ?_
 repeat' first
 | with_reducible assumption
 | (conv => whnf); first
  | refine bD (fun h => ?_) fun h => ?_
  | refine br (fun h => ?_) fun h => ?_
  | refine V2 (fun (p0 : List Int) (p1 : Int) => 0 ≤ p1 ∧ p1 ≤ (a1.length : Int) ∧ IS a0 p0) (fun p0 p1 => [(0,.lst (List.map S65.c a0)),(1,.lst (List.map c_i64 a1)),(2,.sc (.bool a2)),(7,.lst (List.map c_i64 p0)),(8,.sc (.int .i64 p1))]) (fun _ _ => ⟨[],0⟩) (fun _ p1 => ((a1.length : Int) + 20 + 1 - p1).toNat) ([] : List Int) (0 : Int) ?_ (suits_trans (lend_suits 7 rfl rfl (leafs_lit rfl)) (ft [] rfl rfl rfl trivial)) fun p0 p1 ⟨i0,i1,i3⟩ => ?_
  | refine ⟨_,List.length_map ..,?_⟩
  | refine wE ‹_› ?_ (fun _ => rfl) ?_
  | refine wG ?_ ?_ (fun _ => rfl) fun x hx hm => ?_
  | refine wC (w56 a0 x ?_) fun z56 hg => ?_
  | refine V2 (fun (q0 : List Int) (q1 : Int) => 0 ≤ q1 ∧ q1 ≤ (z56.1.f9.length : Int) ∧ IS a0 q0) (fun q0 q1 => [(0,.lst (List.map S65.c a0)),(1,.lst (List.map c_i64 a1)),(2,.sc (.bool a2)),(7,.lst (List.map c_i64 q0)),(8,.sc (.int .i64 p1)),(11,.lst (List.map c_i64 z56.1.f9)),(12,.sc (.int .i64 q1))]) (fun _ _ => ⟨[],0⟩) (fun _ q1 => ((z56.1.f9.length : Int) + 1 - q1).toNat) p0 (0 : Int) ?_ (ft [] rfl rfl rfl trivial) fun q0 q1 ⟨i0,i1,i3⟩ => ?_
  | refine wC (w118 _ _ ?_) fun z118 hp => ?_
  | refine ⟨⟨_,nx _⟩,?_,?_,(ft [] rfl rfl rfl trivial)⟩
  | refine V2 (fun (q0 : List Int) (q1 : Int) => 0 ≤ q1 ∧ q1 ≤ (z56.1.f8.length : Int) ∧ IS a0 q0) (fun q0 q1 => [(0,.lst (List.map S65.c a0)),(1,.lst (List.map c_i64 a1)),(2,.sc (.bool a2)),(7,.lst (List.map c_i64 q0)),(8,.sc (.int .i64 p1)),(11,.lst (List.map c_i64 z56.1.f8)),(12,.sc (.int .i64 q1))]) (fun _ _ => ⟨[],0⟩) (fun _ q1 => ((z56.1.f8.length : Int) + 1 - q1).toNat) p0 (0 : Int) ?_ (ft [] rfl rfl rfl trivial) fun q0 q1 ⟨i0,i1,i3⟩ => ?_
  | refine ⟨_,rfl,?_⟩
 | omega
 | dsimp only
 | (have := i3.len; omega)
 | exact IS.nil
 | with_reducible apply And.intro
 | (simp (disch := omega) only [ls] <;> omega)
 | grind
theorem w440 (a0 : List S65) (a1 : List Int) (a2 : Bool) (g0 : a0.length ≤ 12) (g1 : ∀ e ∈ a0,EB e) (g2 : IS a0 a1) : WQv 440 [.lst (a0.map S65.c),.lst (a1.map c_i64),.sc (.bool a2)] (fun r : List Int => .lst (r.map c_i64)) (fun r => IS a0 r) := by
 refine go Tryz.func440 (by kernel_rfl) ?_
 repeat' first
 | with_reducible assumption
 | (conv => whnf); first
  | refine bD (fun h => ?_) fun h => ?_
  | refine V2 (fun (p0 : List Int) (p1 : Int) => 0 ≤ p1 ∧ p1 ≤ (a0.length : Int) ∧ IS a0 p0) (fun p0 p1 => [(0,.lst (List.map S65.c a0)),(1,.lst (List.map c_i64 p0)),(2,.sc (.bool a2)),(7,.sc (.int .i64 p1))]) (fun _ _ => ⟨[],0⟩) (fun _ p1 => ((a0.length : Int) + 1 - p1).toNat) a1 (0 : Int) ?_ (ft [] rfl rfl rfl trivial) fun p0 p1 ⟨i0,i1,i3⟩ => ?_
  | refine ⟨_,List.length_map ..,?_⟩
  | refine wC (w441 _ _ _ ?_ ?_ ?_) fun z441 hn => ?_
  | refine wC (w58 _ _ ?_) fun z58 hu => ?_
  | refine ⟨⟨_,nx _⟩,?_,?_,(ft [] rfl rfl rfl trivial)⟩
  | refine ⟨_,rfl,?_⟩
 | omega
 | dsimp only
 | (have := i3.len; omega)
 | (have := i3.len; have := hn.len; omega)
 | exact ⟨hu.2.1,fun x hx => ((hu.1 x).1 hx).elim (i3.2 x) (hn.2 x)⟩
 | with_reducible apply And.intro
 | (simp (disch := omega) only [ls] <;> omega)
theorem w442 (a0 : List S65) (a1 : List Int) (g0 : a0.length ≤ 12) (g1 : a1.length ≤ 900000000) : WQv 442 [.lst (a0.map S65.c),.lst (a1.map c_i64)] (fun r : List Int => .lst (r.map c_i64)) (fun r => r.length ≤ a1.length) := by
 refine go Tryz.func442 (by kernel_rfl) ?_
 repeat' first
 | with_reducible assumption
 | (conv => whnf); first
  | refine wC (w17 _ _ ?_ ?_) fun z17 hz => ?_
  | refine wC (w53 _ _ ?_ ?_) fun z53 hz => ?_
  | refine ⟨_,rfl,?_⟩
 | omega
theorem w373 (a0 : List S65) (a1 : List Int) (g0 : a0.length ≤ 12) (g1 : ∀ e ∈ a0,EB e) (g2 : a1.length ≤ 900000000) : WQv 373 [.lst (a0.map S65.c),.lst (a1.map c_i64)] (fun r : List Int => .lst (r.map c_i64)) (fun r => IS a0 r) := by
 refine go Tryz.func373 (by kernel_rfl) ?_
 repeat' first
 | with_reducible assumption
 | (conv => whnf); first
  | refine wC (w442 _ _ ?_ ?_) fun z442 hz => ?_
  | refine wC (w441 _ _ true ?_ ?_ ?_) fun z441 hz => ?_
  | refine wC (w440 _ _ true ?_ ?_ ?_) fun z440 hz => ?_
  | refine ⟨_,rfl,?_⟩
 | omega
theorem w439 (a0 : List S65) (a1 : List S71) (g0 : a0.length ≤ 12) (g1 : ∀ e ∈ a0,EB e) (g2 : a1.length ≤ 200000) : WQv 439 [.lst (a0.map S65.c),.lst (a1.map S71.c)] (fun r : List Int => .lst (r.map c_i64)) (fun r => r.length ≤ a1.length + 12) := by
 refine go Tryz.func439 (by kernel_rfl) ?_
 have hn2 : ([] : List Int).length = 0 := rfl
 repeat' first
 | with_reducible assumption
 | (conv => whnf); first
  | refine bD (fun h => ?_) fun h => ?_
  | refine V2 (fun (p0 : List Int) (p1 : Int) => 0 ≤ p1 ∧ p1 ≤ (a1.length : Int) ∧ (p0.length : Int) = p1) (fun _ p1 => [(0,.lst (List.map S65.c a0)),(1,.lst (List.map S71.c a1)),(5,.row 0),(6,.sc (.int .i64 p1))]) (fun p0 _ => ⟨[(0,.row (List.map c_i64 p0) 1 false 0)],1⟩) (fun _ p1 => ((a1.length : Int) + 1 - p1).toNat) [] (0 : Int) ?_ (ft [(0,none)] rfl rfl rfl ⟨fitO_nil rfl rfl,trivial⟩) fun p0 p1 ⟨i0,i1,i3⟩ => ?_
  | refine ⟨_,List.length_map ..,?_⟩
  | refine wG ?_ ?_ (fun _ => rfl) fun x hx hm => ?_
  | refine wA (f := c_i64) (m := [_]) rfl (fun _ => ⟨rfl,rfl⟩) ?_ ?_ ?_
  | refine ⟨⟨_,nx _⟩,?_,?_,(ft [(0,some 2)] rfl rfl rfl ⟨fR rfl rfl fun _ => rfl,trivial⟩)⟩
  | refine ⟨_,_,deep0 (leafs_map (f := c_i64) (fun _ => rfl) _),?_⟩
  | refine wC (w373 _ _ ?_ ?_ ?_) fun z373 h373 => ?_
  | refine wC (w58 _ _ ?_) fun z58 hz => ?_
  | refine ⟨_,rfl,?_⟩
 | omega
 | dsimp only
 | (have := hz.2.2; have := h373.len; omega)
 | (have := h373.len; omega)
 | with_reducible apply And.intro
 | (simp (disch := omega) only [ls] <;> omega)
theorem w370 (a0 : List S65) (a1 : List (List S71)) (g0 : a0.length ≤ 12) (g1 : ∀ e ∈ a0,EB e) (g2 : a1.length ≤ 12) (g3 : ∀ s ∈ a1,s.length ≤ 200000) : WQv 370 [.lst (a0.map S65.c),.lst (a1.map cL26)] (fun r : List Int => .lst (r.map c_i64)) (fun r => r.length ≤ 2400144) := by
 refine go Tryz.func370 (by kernel_rfl) ?_
 have hn2 : ([] : List Int).length = 0 := rfl
 have hn3 : ([] : List (List Int)).length = 0 := rfl
 repeat' first
 | with_reducible assumption
 | (conv => whnf); first
  | refine bD (fun h => ?_) fun h => ?_
  | refine br (fun h => ?_) fun h => ?_
  | refine V3 (fun (p0 : List (List Int)) (p1 : List Int) (p2 : Int) => 0 ≤ p2 ∧ p2 ≤ (a1.length : Int) ∧ (p0.length : Int) = p2 ∧ (∀ x ∈ p0,x.length ≤ 200012) ∧ (p1.length : Int) ≤ 200012 * p2) (fun _ p1 p2 => [(0,.lst (List.map S65.c a0)),(1,.lst (List.map cL26 a1)),(5,.row 0),(6,.lst (List.map c_i64 p1)),(7,.sc (.int .i64 p2))]) (fun p0 _ _ => ⟨[(0,.row (List.map cL24 p0) 1 false 0)],1⟩) (fun _ _ p2 => ((a1.length : Int) + 1 - p2).toNat) [] [] (0 : Int) ?_ (suits_trans (nil_suits 6 rfl) (ft [(0,none)] rfl rfl rfl ⟨fitO_nil rfl rfl,trivial⟩)) fun p0 p1 p2 ⟨i0,i1,i3,i4,i5⟩ => ?_
  | refine ⟨_,List.length_map ..,?_⟩
  | refine wG ?_ ?_ (fun _ => rfl) fun x hx hm => ?_
  | refine wC (w439 _ _ ?_ ?_ ?_) fun z439 h439 => ?_
  | refine wA (f := cL24) (m := [_]) rfl (fun _ => ⟨rfl,rfl⟩) ?_ ?_ ?_
  | refine wC (w58 _ _ ?_) fun z58 hu => ?_
  | refine ⟨⟨_,_,nx _⟩,?_,?_,(ft [(0,some 2)] rfl rfl rfl ⟨fR rfl rfl fun _ => rfl,trivial⟩)⟩
  | refine V2 (fun (q0 : List Int) (q1 : Int) => 0 ≤ q1 ∧ q1 ≤ (p1.length : Int) ∧ (q0.length : Int) ≤ q1 ∧ (∀ r : List Int,(r.length ≤ p1.length) → r.length ≤ 2400144)) (fun _ q1 => [(5,.row 0),(6,.lst (List.map c_i64 p1)),(9,.row 1),(10,.sc (.int .i64 q1))]) (fun q0 _ => ⟨[(0,.row (List.map cL24 p0) 1 false 0),(1,.row (List.map c_i64 q0) 1 false 1)],2⟩) (fun _ q1 => ((p1.length : Int) + 30 + 1 - q1).toNat) [] (0 : Int) ?_ (ft [(0,some 0),(1,none)] rfl rfl rfl ⟨fR rfl rfl fun _ => rfl,fitO_nil rfl rfl,trivial⟩) fun q0 q1 ⟨i0,i1,i3,hk⟩ => ?_
  | refine V2 (fun (v0 : Int) (v1 : Int) => 0 ≤ v1 ∧ v1 ≤ (p0.length : Int)) (fun v0 v1 => [(5,.row 0),(6,.lst (List.map c_i64 p1)),(9,.row 1),(10,.sc (.int .i64 q1)),(11,.sc (.int .i64 v0)),(12,.sc (.int .i64 v1))]) (fun _ _ => ⟨[(0,.row (List.map cL24 p0) 1 false 0),(1,.row (List.map c_i64 q0) 1 false 1)],2⟩) (fun _ v1 => ((p0.length : Int) + 1 - v1).toNat) (0 : Int) (0 : Int) ?_ (ft [(0,some 0),(1,some 1)] rfl rfl rfl ⟨fR rfl rfl fun _ => rfl,fR rfl rfl fun _ => rfl,trivial⟩) fun v0 v1 ⟨i0,i1⟩ => ?_
  | refine wR ?_ ?_ ?_
  | refine wL ?_ ?_ fun x hx => ?_
  | refine wC (w16 _ _ ?_) fun z16 hz => ?_
  | refine ⟨by kernel_rfl,?_⟩
  | refine ⟨⟨nx _,nx _⟩,?_,?_,(ft [(0,some 0),(1,some 1)] rfl rfl rfl ⟨fR rfl rfl fun _ => rfl,fR rfl rfl fun _ => rfl,trivial⟩)⟩
  | refine ⟨⟨_,nx _⟩,?_,?_,(ft [(0,some 0),(1,some 1)] rfl rfl rfl ⟨fR rfl rfl fun _ => rfl,fR rfl rfl fun _ => rfl,trivial⟩)⟩
  | refine wA (f := c_i64) (m := [_]) rfl (fun _ => ⟨rfl,rfl⟩) ?_ ?_ ?_
  | refine ⟨⟨_,nx _⟩,?_,?_,(ft [(0,some 0),(1,some 3)] rfl rfl rfl ⟨fR rfl rfl fun _ => rfl,fR rfl rfl fun _ => rfl,trivial⟩)⟩
  | refine ⟨_,_,deep0 (leafs_map (f := c_i64) (fun _ => rfl) _),?_⟩
  | refine ⟨_,rfl,?_⟩
 | omega
 | dsimp only
 | exact g3 _ hm
 | (have := g3 _ hm; omega)
 | (have := hu.2.2; have := g3 _ hm; first | omega | (simp (disch := omega) only [ls] <;> omega))
 | (simp (disch := omega) only [ls] <;> omega)
 | grind
theorem w259 (a0 : List S65) (a1 : List (List S71)) (g0 : a0.length ≤ 12) (g1 : ∀ e ∈ a0,EB e) (g2 : a1.length ≤ 12) (g3 : ∀ s ∈ a1,s.length ≤ 200000) : WQv 259 [.lst (a0.map S65.c),.lst (a1.map cL26)] (fun r : List Int => .lst (r.map c_i64)) (fun r => r.length ≤ 5000000) := by
 refine go Tryz.func259 (by kernel_rfl) ?_
 repeat' first
 | with_reducible assumption
 | (conv => whnf); first
  | refine wC (w258 _ 200000 ?_ ?_ ?_) fun z258 h258 => ?_
  | refine wC (w370 _ _ ?_ ?_ ?_ ?_) fun z370 hz => ?_
  | refine wC (w58 _ _ ?_) fun z58 hz => ?_
  | refine ⟨_,rfl,?_⟩
 | omega
end Go.Abs.RM
