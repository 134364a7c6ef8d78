/- Walks to a property. -/
import Derived.Test.YthbenojbjjgnaaaGreatUAm
import Derived.Test.YthbenojbjjgnaaaGreatUBc
set_option linter.unusedVariables false
set_option linter.unusedSimpArgs false
set_option linter.unusedSectionVars false
namespace Go.Abs.RM
open Go.Proofs
set_option maxRecDepth 100000
set_option maxHeartbeats 40000000
theorem w118 (a0 : List Int) (a1 : Int) (g0 : a0.length ≤ 1000000000) : WQv 118 [.lst (a0.map c_i64),.sc (.int .i64 a1)] (fun r : List Int => .lst (r.map c_i64)) (fun r => PutP a0 a1 r) := by
 refine go Tryz.func118 (by kernel_rfl) ?_
 repeat' first
 | with_reducible assumption
 | (conv => whnf); first
  | refine bD (fun h => ?_) fun h => ?_
  | refine br (fun h => ?_) fun h => ?_
  | refine wC (w16 _ _ ?_) fun z16 hz => ?_
  | refine V1 (fun (p0 : Int) => 0 ≤ p0 ∧ p0 ≤ (a0.length : Int)) (fun p0 => [(0,.lst (List.map c_i64 a0)),(1,.sc (.int .i64 a1)),(5,.sc (.int .i64 p0))]) (fun _ => ⟨[],0⟩) (fun p0 => ((a0.length : Int) + 1 - p0).toNat) (0 : Int) ?_ (ft [] rfl rfl rfl trivial) fun p0 ⟨i0,i1⟩ => ?_
  | refine ⟨_,List.length_map ..,?_⟩
  | refine wG ?_ ?_ (fun _ => rfl) fun x hx hm => ?_
  | refine ⟨nx _,?_,?_,(ft [] rfl rfl rfl trivial)⟩
  | refine ⟨lens_map (f := c_i64) (fun _ => rfl),?_,?_,slB _ ?_⟩
  | refine ⟨lens_map (f := c_i64) (fun _ => rfl),?_,?_,slA _ _ ?_⟩
  | refine wA (l := []) (f := c_i64) (m := _) rfl (fun _ => ⟨rfl,rfl⟩) ?_ ?_ ?_
  | refine wA (f := c_i64) (m := [_]) rfl (fun _ => ⟨rfl,rfl⟩) ?_ ?_ ?_
  | refine wA (f := c_i64) (m := _) rfl (fun _ => ⟨rfl,rfl⟩) ?_ ?_ ?_
  | refine ⟨_,_,deep0 (leafs_map (f := c_i64) (fun _ => rfl) _),?_⟩
  | refine ⟨_,rfl,?_⟩
 | omega
 | refine put_mk ?_
 | dsimp only
 | exact PutP.keep (hz.1 h)
 | with_reducible apply And.intro
 | (simp (disch := omega) only [ls] <;> omega)
 | intro hr
 | grind
theorem w110 (a0 : List Int) (g0 : a0.length ≤ 900000000) : WQv 110 [.lst (a0.map c_i64)] (fun r : List Int => .lst (r.map c_i64)) (fun r => (∀ x,x ∈ r ↔ x ∈ a0) ∧ r.Nodup ∧ r.length ≤ a0.length) := by
 refine go Tryz.func110 (by kernel_rfl) ?_
 repeat' first
 | with_reducible assumption
 | (conv => whnf); first
  | refine bD (fun h => ?_) fun h => ?_
  | refine V2 (fun (p0 : List Int) (p1 : Int) => 0 ≤ p1 ∧ p1 ≤ (a0.length : Int) ∧ p0.Nodup ∧ (p0.length : Int) + ((a0.length : Int) - p1) ≤ 900000000 ∧ (∀ r : List Int,((∀ x,x ∈ r ↔ x ∈ p0 ∨ x ∈ a0.drop p1.toNat) ∧ r.Nodup) → (∀ x,x ∈ r ↔ x ∈ a0) ∧ r.Nodup ∧ r.length ≤ a0.length)) (fun p0 p1 => [(0,.lst (List.map c_i64 a0)),(3,.lst (List.map c_i64 p0)),(4,.sc (.int .i64 p1))]) (fun _ _ => ⟨[],0⟩) (fun _ p1 => ((a0.length : Int) + 1 - p1).toNat) ([] : List Int) (0 : Int) ?_ (suits_trans (lend_suits 3 rfl rfl (leafs_lit rfl)) (ft [] rfl rfl rfl trivial)) fun p0 p1 ⟨i0,i1,i3,i4,hk⟩ => ?_
  | refine ⟨_,List.length_map ..,?_⟩
  | refine wG ?_ ?_ (fun _ => rfl) fun x hx hm => ?_
  | refine wC (w118 _ _ ?_) fun z118 hz => ?_
  | refine ⟨⟨_,nx _⟩,?_,?_,(ft [] rfl rfl rfl trivial)⟩
  | refine ⟨_,rfl,?_⟩
 | omega
 | (have := nodup_le (m := a0) hr.2 (by grind); grind)
 | dsimp only
 | refine hk _ ?_
 | refine fun r hr => hk r ?_
 | exact hz.2.1 i3
 | (rw [drop_cons (by omega) hx (by omega)]; exact ⟨fun x => ((hr.1 x).trans (or_congr (hz.1 x) Iff.rfl)).trans ⟨fun h => h.elim (fun h => h.elim Or.inl fun e => Or.inr (List.mem_cons.2 (Or.inl e))) fun h => Or.inr (List.mem_cons_of_mem _ h),fun h => h.elim (fun h => Or.inl (Or.inl h)) fun h => (List.mem_cons.1 h).elim (fun e => Or.inl (Or.inr e)) Or.inr⟩,hr.2⟩)
 | (rw [drop_end h]; exact ⟨fun x => ⟨Or.inl,fun h => h.elim id fun h => (by cases h)⟩,i3⟩)
 | exact List.nodup_nil
 | have := hz.2.2; first | omega | assumption | (simp (disch := omega) only [ls] <;> omega)
 | with_reducible apply And.intro
 | (simp (disch := omega) only [ls] <;> omega)
 | intro hr
theorem w53 (a0 : List Int) (a1 : List Int) (g0 : a0.length ≤ 900000000) (g1 : a1.length ≤ 1000000000) : WQv 53 [.lst (a0.map c_i64),.lst (a1.map c_i64)] (fun r : List Int => .lst (r.map c_i64)) (fun r => (∀ x,x ∈ r ↔ x ∈ a0 ∧ x ∉ a1) ∧ r.Nodup ∧ r.length ≤ a0.length) := by
 refine go Tryz.func53 (by kernel_rfl) ?_
 repeat' first
 | with_reducible assumption
 | (conv => whnf); first
  | refine bD (fun h => ?_) fun h => ?_
  | refine bN (fun h => ?_) fun h => ?_
  | refine wC (w110 _ ?_) fun z110 hz => ?_
  | refine V2 (fun (p0 : List Int) (p1 : Int) => 0 ≤ p1 ∧ p1 ≤ (z110.length : Int) ∧ (p0.length : Int) ≤ p1 ∧ p0.Nodup ∧ (∀ x ∈ p0,x ∉ z110.drop p1.toNat) ∧ (∀ r : List Int,((∀ x,x ∈ r ↔ x ∈ p0 ∨ (x ∈ z110.drop p1.toNat ∧ x ∉ a1)) ∧ r.Nodup ∧ r.length ≤ z110.length) → (∀ x,x ∈ r ↔ x ∈ a0 ∧ x ∉ a1) ∧ r.Nodup ∧ r.length ≤ a0.length)) (fun _ p1 => [(1,.lst (List.map c_i64 a1)),(5,.lst (List.map c_i64 z110)),(6,.row 0),(7,.sc (.int .i64 p1))]) (fun p0 _ => ⟨[(0,.row (List.map c_i64 p0) 1 false 0)],1⟩) (fun _ p1 => ((z110.length : Int) + 1 - p1).toNat) ([] : List Int) (0 : Int) ?_ (ft [(0,some 0)] rfl rfl rfl ⟨fR rfl rfl fun _ => rfl,trivial⟩) fun p0 p1 ⟨i0,i1,i3,i4,i5,hk⟩ => ?_
  | refine ⟨_,List.length_map ..,?_⟩
  | refine wE ‹_› ?_ (fun _ => rfl) ?_
  | refine wG ?_ ?_ (fun _ => rfl) fun x hx hm => ?_
  | refine wC (w16 _ _ ?_) fun z16 hz => ?_
  | refine wA (f := c_i64) (m := [_]) rfl (fun _ => ⟨rfl,rfl⟩) ?_ ?_ ?_
  | refine ⟨⟨_,nx _⟩,?_,?_,(ft [(0,some 2)] rfl rfl rfl ⟨fR rfl rfl fun _ => rfl,trivial⟩)⟩
  | refine ⟨⟨_,nx _⟩,?_,?_,(ft [(0,some 0)] rfl rfl rfl ⟨fR rfl rfl fun _ => rfl,trivial⟩)⟩
  | refine ⟨_,_,deep0 (leafs_map (f := c_i64) (fun _ => rfl) _),?_⟩
  | refine ⟨_,rfl,?_⟩
 | omega
 | (obtain ⟨_,g2,_⟩ := ‹_ ∧ z110.Nodup ∧ _›; first | exact (minus_in g2 i0 hx (by omega) i4 i5).1 | exact (minus_in g2 i0 hx (by omega) i4 i5).2)
 | dsimp only
 | refine hk _ ?_
 | refine fun r hr => hk r ?_
 | exact minus_hit i0 hx (by omega) (fun e => h.symm.trans (hz.2 e) |> fun e => Bool.noConfusion e) hr
 | exact minus_out i0 hx (by omega) i5
 | exact minus_miss i0 hx (by omega) (hz.1 h) hr
 | (rw [drop_end h]; exact ⟨fun x => ⟨Or.inl,fun h => h.elim id fun h => (by cases h.1)⟩,i4,by omega⟩)
 | exact List.nodup_nil
 | exact fun x hx => absurd hx List.not_mem_nil
 | exact ⟨fun x => (hr.1 x).trans ⟨fun h => h.elim (fun h => (by cases h)) fun h => ⟨(hz.1 x).1 h.1,h.2⟩,fun h => Or.inr ⟨(hz.1 x).2 h.1,h.2⟩⟩,hr.2.1,Nat.le_trans hr.2.2 hz.2.2⟩
 | have := hz.2.2; first | omega | assumption | (simp (disch := omega) only [ls] <;> omega)
 | with_reducible apply And.intro
 | (simp (disch := omega) only [ls] <;> omega)
 | intro hr
theorem w257 (a0 : Int) (a1 : ByteArray) (a2 : Int) (a3 : ByteArray) : WQv 257 [.sc (.int .i64 a0),.sc (.string a1),.sc (.int .i64 a2),.sc (.string a3)] (fun r : Bool => .sc (.bool r)) (fun r => True) := by
 refine go Tryz.func257 (by kernel_rfl) ?_
 repeat' first
 | (conv => whnf); first
  | refine bD (fun h => ?_) fun h => ?_
  | refine ⟨true,rfl,?_⟩
  | refine ⟨false,rfl,?_⟩
  | refine ⟨_,rfl,?_⟩
 | exact True.intro
theorem w203 (a0 : List S71) (a1 : Int) (a2 : ByteArray) (a3 : Int) (g0 : a0.length ≤ 1000000) : WQv 203 [.lst (a0.map S71.c),.sc (.int .i64 a1),.sc (.string a2),.sc (.int .i64 a3)] (fun r : List S71 => .lst (r.map S71.c)) (fun r => r.length ≤ a0.length + 1) := by
 refine go Tryz.func203 (by kernel_rfl) ?_
 repeat' first
 | with_reducible assumption
 | (conv => whnf); first
  | refine bD (fun h => ?_) fun h => ?_
  | refine bS (fun h => ?_) fun h => ?_
  | refine br (fun h => ?_) fun h => ?_
  | refine V1 (fun (p0 : Int) => 0 ≤ p0 ∧ p0 ≤ (a0.length : Int)) (fun p0 => [(0,.lst (List.map S71.c a0)),(1,.sc (.int .i64 a1)),(2,.sc (.string a2)),(3,.sc (.int .i64 a3)),(9,.sc (.int .i64 p0))]) (fun _ => ⟨[],0⟩) (fun p0 => ((a0.length : Int) + 1 - p0).toNat) (0 : Int) ?_ (ft [] rfl rfl rfl trivial) fun p0 ⟨i0,i1⟩ => ?_
  | refine ⟨_,List.length_map ..,?_⟩
  | refine wE ‹_› ?_ (fun _ => rfl) ?_
  | refine wG ?_ ?_ (fun _ => rfl) fun x hx hm => ?_
  | refine wC (w257 _ _ _ _) fun z257 hz => ?_
  | refine ⟨by kernel_rfl,?_⟩
  | refine ⟨nx _,?_,?_,(ft [] rfl rfl rfl trivial)⟩
  | refine ⟨lens_map (f := S71.c) (fun _ => rfl),?_,?_,slB _ ?_⟩
  | refine ⟨lens_map (f := S71.c) (fun _ => rfl),?_,?_,slA _ _ ?_⟩
  | refine wA (l := []) (f := S71.c) (m := _) rfl (fun _ => ⟨rfl,rfl⟩) ?_ ?_ ?_
  | refine wA (f := S71.c) (m := [⟨_,_,_⟩]) rfl (fun _ => ⟨rfl,rfl⟩) ?_ ?_ ?_
  | refine wA (f := S71.c) (m := _) rfl (fun _ => ⟨rfl,rfl⟩) ?_ ?_ ?_
  | refine ⟨_,_,deep0 (leafs_map (f := S71.c) (fun _ => rfl) _),?_⟩
  | refine ⟨_,rfl,?_⟩
 | omega
 | dsimp only
 | with_reducible apply And.intro
 | (simp (disch := omega) only [ls]; omega)
theorem w263 (a0 : List S71) (a1 : Int) (a2 : ByteArray) (g0 : a0.length ≤ 1000000000) : WQv 263 [.lst (a0.map S71.c),.sc (.int .i64 a1),.sc (.string a2)] (fun r : Int × Bool => .tup [.sc (.int .i64 r.1),.sc (.bool r.2)]) (fun r => True) := by
 refine go Tryz.func263 (by kernel_rfl) ?_
 repeat' first
 | with_reducible assumption
 | (conv => whnf); first
  | refine bD (fun h => ?_) fun h => ?_
  | refine bS (fun h => ?_) fun h => ?_
  | refine V1 (fun (p0 : Int) => 0 ≤ p0 ∧ p0 ≤ (a0.length : Int)) (fun p0 => [(0,.lst (List.map S71.c a0)),(1,.sc (.int .i64 a1)),(2,.sc (.string a2)),(8,.sc (.int .i64 p0))]) (fun _ => ⟨[],0⟩) (fun p0 => ((a0.length : Int) + 1 - p0).toNat) (0 : Int) ?_ (ft [] rfl rfl rfl trivial) fun p0 ⟨i0,i1⟩ => ?_
  | refine ⟨_,List.length_map ..,?_⟩
  | refine wE ‹_› ?_ (fun _ => rfl) ?_
  | refine wG ?_ ?_ (fun _ => rfl) fun x hx hm => ?_
  | refine ⟨nx _,?_,?_,(ft [] rfl rfl rfl trivial)⟩
  | refine ⟨(_,true),rfl,?_⟩
  | refine ⟨((0 : Int),false),rfl,?_⟩
 | omega
 | exact True.intro
 | with_reducible apply And.intro
 | (simp (disch := omega) only [ls] <;> omega)
theorem w369 (a0 : List (List S71)) (a1 : S71) (g0 : a0.length ≤ 12) (g1 : ∀ s ∈ a0,s.length ≤ 1000000000) : WQv 369 [.lst (a0.map cL26),.agg (S71.c a1)] (fun r : Bool => .sc (.bool r)) (fun r => True) := by
 refine go Tryz.func369 (by kernel_rfl) ?_
 repeat' first
 | with_reducible assumption
 | (conv => whnf); first
  | refine bD (fun h => ?_) fun h => ?_
  | refine bN (fun h => ?_) fun h => ?_
  | refine V1 (fun (p0 : Int) => 0 ≤ p0 ∧ p0 ≤ (a0.length : Int)) (fun p0 => [(0,.lst (List.map cL26 a0)),(3,.box 0 0),(5,.sc (.int .i64 p0))]) (fun _ => ⟨[(0,.box (S71.c a1) false)],1⟩) (fun p0 => ((a0.length : Int) + 1 - p0).toNat) (0 : Int) ?_ (ft [(0,some 0)] rfl rfl rfl ⟨fB rfl rfl rfl,trivial⟩) fun p0 ⟨i0,i1⟩ => ?_
  | refine ⟨_,List.length_map ..,?_⟩
  | refine wG ?_ ?_ (fun _ => rfl) fun x hx hm => ?_
  | refine wC (w263 _ _ _ ?_) fun z263 hz => ?_
  | refine ⟨by kernel_rfl,?_⟩
  | refine ⟨false,rfl,?_⟩
  | refine ⟨nx _,?_,?_,(ft [(0,some 0)] rfl rfl rfl ⟨fB rfl rfl rfl,trivial⟩)⟩
  | refine ⟨true,rfl,?_⟩
 | omega
 | exact True.intro
 | exact g1 _ hm
 | with_reducible apply And.intro
 | (simp (disch := omega) only [ls] <;> omega)
theorem w258 (a0 : List (List S71)) (K : Nat) (g0 : a0.length ≤ 12) (g1 : ∀ s ∈ a0,s.length ≤ K) (g2 : K ≤ 200000) : WQv 258 [.lst (a0.map cL26)] (fun r : (List S71) × (List Int) => .tup [.lst (r.1.map S71.c),.lst (r.2.map c_i64)]) (fun r => r.1.length ≤ K ∧ r.2.length ≤ 2400000) := by
 refine go Tryz.func258 (by kernel_rfl) ?_
 have hn1 : ([] : List S71).length = 0 := rfl
 have hn2 : ([] : List Int).length = 0 := rfl
 repeat' first
 | with_reducible assumption
 | (conv => whnf); first
  | refine bD (fun h => ?_) fun h => ?_
  | refine bN (fun h => ?_) fun h => ?_
  | refine V3 (fun (p0 : List S71) (p1 : List Int) (p2 : Int) => 0 ≤ p2 ∧ p2 ≤ (a0.length : Int) ∧ p0.length ≤ K ∧ (p1.length : Int) ≤ 200000 * p2 ∧ (p2 = 0 → p0.length = 0)) (fun _ p1 p2 => [(0,.lst (List.map cL26 a0)),(4,.row 0),(5,.lst (List.map c_i64 p1)),(6,.sc (.int .i64 p2))]) (fun p0 _ _ => ⟨[(0,.row (List.map S71.c p0) 3 false 0)],1⟩) (fun _ _ p2 => ((a0.length : Int) + 200010 + 1 - p2).toNat) ([] : List S71) ([] : List Int) (0 : Int) ?_ (suits_trans (lend_suits 5 rfl rfl (leafs_lit rfl)) (ft [(0,some 0)] rfl rfl rfl ⟨fR rfl rfl fun _ => rfl,trivial⟩)) fun p0 p1 p2 ⟨i0,i1,i3,i4,i5⟩ => ?_
  | refine ⟨_,List.length_map ..,?_⟩
  | refine V3 (fun (q0 : List S71) (q1 : List Int) (q2 : Int) => 0 ≤ q2 ∧ q2 ≤ K ∧ ((p2 = 0 ∧ (q0.length : Int) ≤ q2) ∨ (1 ≤ p2 ∧ q0.length ≤ K)) ∧ (q1.length : Int) ≤ 200000 * p2 + q2) (fun _ q1 q2 => [(0,.lst (List.map cL26 a0)),(4,.row 0),(5,.lst (List.map c_i64 q1)),(6,.sc (.int .i64 p2)),(7,.sc (.int .i64 q2))]) (fun q0 _ _ => ⟨[(0,.row (List.map S71.c q0) 3 false 0)],1⟩) (fun _ _ q2 => (200002 + 1 - q2).toNat) p0 p1 (0 : Int) ?_ (ft [(0,some 0)] rfl rfl rfl ⟨fR rfl rfl fun _ => rfl,trivial⟩) fun q0 q1 q2 ⟨i0,i1,i3,i4⟩ => ?_
  | refine wE ‹_› ?_ (fun _ => rfl) ?_
  | refine wG ?_ ?_ (fun _ => rfl) fun x hx hm => ?_
  | refine wC (w369 _ _ ?_ ?_) fun z369 h369 => ?_
  | refine wC (w118 _ _ ?_) fun z118 hp => ?_
  | refine ⟨⟨_,_,nx _⟩,?_,?_,(ft [(0,some 0)] rfl rfl rfl ⟨fR rfl rfl fun _ => rfl,trivial⟩)⟩
  | refine wA (f := S71.c) (m := [_]) rfl (fun _ => ⟨rfl,rfl⟩) ?_ ?_ ?_
  | refine ⟨⟨_,_,nx _⟩,?_,?_,(ft [(0,some 2)] rfl rfl rfl ⟨fR rfl rfl fun _ => rfl,trivial⟩)⟩
  | refine ⟨_,_,deep0 (leafs_map (f := S71.c) (fun _ => rfl) _),?_⟩
  | refine ⟨(_,_),rfl,?_⟩
 | omega
 | dsimp only
 | exact fun s hs => Nat.le_trans (g1 s hs) (by omega)
 | with_reducible apply And.intro
 | (simp (disch := omega) only [ls] <;> omega)
 | grind
end Go.Abs.RM
