/- Walks to a property. -/
import Derived.Test.YthbenojbjjgnaaaGreatUAm
import Derived.Test.YthbenojbjjgnaaaGreatUAw
import Derived.Test.YthbenojbjjgnaaaGreatUAz
set_option linter.unusedVariables false
set_option linter.unusedSimpArgs false
set_option linter.unusedSectionVars false
namespace Go.Abs.RM
open Go.Proofs
set_option maxRecDepth 100000
set_option maxHeartbeats 40000000
theorem w364 (a0 : List Int) (a1 : ByteArray) (g0 : a0.length ≤ 1000000) (g1 : a1.size ≤ 1000000) : WQv 364 [.lst (a0.map c_u8),.sc (.string a1)] (fun r : List Int => .lst (r.map c_u8)) (fun r => a0.length < r.length ∧ r.length ≤ a0.length + 11 + a1.size) := by
 refine go Tryz.func364 (by kernel_rfl) ?_
 repeat' first
 | with_reducible assumption
 | (conv => whnf); first
  | refine wO (o363 _ _ ?_) fun z363 hz => ?_
  | refine ⟨_,strL_eq _,?_⟩
  | refine wA (f := c_u8) (m := _) rfl (fun _ => ⟨rfl,rfl⟩) ?_ ?_ ?_
  | refine ⟨_,_,deep0 (leafs_map (f := c_u8) (fun _ => rfl) _),?_⟩
  | refine ⟨_,rfl,?_⟩
 | dsimp only
 | (simp only [List.length_append,List.length_cons,List.length_nil,List.length_take,List.length_drop,List.length_set,List.length_map,ByteArray.size_extract,strL_len,txt_len] at *; omega)
theorem w365 (a0 : List Int) (a1 : Bool) (g0 : a0.length ≤ 1000000) : WQv 365 [.lst (a0.map c_u8),.sc (.bool a1)] (fun r : List Int => .lst (r.map c_u8)) (fun r => r.length = a0.length + 1) := by
 refine go Tryz.func365 (by kernel_rfl) ?_
 repeat' first
 | (conv => whnf); first
  | refine br (fun h => ?_) fun h => ?_
  | refine wA (l := []) (f := c_u8) (m := _) rfl (fun _ => ⟨rfl,rfl⟩) ?_ ?_ ?_
  | refine wA (f := c_u8) (m := [_]) rfl (fun _ => ⟨rfl,rfl⟩) ?_ ?_ ?_
  | refine ⟨_,_,deep0 (leafs_map (f := c_u8) (fun _ => rfl) _),?_⟩
  | refine ⟨_,rfl,?_⟩
 | dsimp only
 | (simp only [List.length_append,List.length_cons,List.length_nil,List.length_take,List.length_drop,List.length_set,List.length_map,ByteArray.size_extract,strL_len,txt_len] at *; omega)
theorem w435 (a0 : List Int) (a1 : List ByteArray) (g0 : a0.length ≤ 800000) (g1 : a1.length ≤ 100) (g2 : ∀ x ∈ a1,x.size ≤ 400) : WQv 435 [.lst (a0.map c_u8),.lst (a1.map cStr)] (fun r : List Int => .lst (r.map c_u8)) (fun r => r.length ≤ a0.length + 11 + 411 * a1.length) := by
 refine go Tryz.func435 (by kernel_rfl) ?_
 repeat' first
 | with_reducible assumption
 | (conv => whnf); first
  | refine bD (fun h => ?_) fun h => ?_
  | refine ⟨_,List.length_map ..,?_⟩
  | refine wC (w363 _ _ ?_) fun z363 hz => ?_
  | refine V2 (fun (p0 : List Int) (p1 : Int) => 0 ≤ p1 ∧ p1 ≤ (a1.length : Int) ∧ (p0.length : Int) + 411 * ((a1.length : Int) - p1) ≤ 900000 ∧ (∀ r : List Int,((r.length : Int) ≤ (p0.length : Int) + 411 * ((a1.length : Int) - p1)) → r.length ≤ a0.length + 11 + 411 * a1.length)) (fun p0 p1 => [(1,.lst (List.map cStr a1)),(5,.lst (List.map c_u8 p0)),(6,.sc (.int .i64 p1))]) (fun _ _ => ⟨[],0⟩) (fun _ p1 => ((a1.length : Int) + 1 - p1).toNat) z363 (0 : Int) ?_ (ft [] rfl rfl rfl trivial) fun p0 p1 ⟨i0,i1,i3,hk⟩ => ?_
  | refine wG ?_ ?_ (fun _ => rfl) fun x hx hm => ?_
  | refine wC (w364 _ _ ?_ ?_) fun z364 hq => ?_
  | refine ⟨⟨_,nx _⟩,?_,?_,(ft [] rfl rfl rfl trivial)⟩
  | refine ⟨_,rfl,?_⟩
 | omega
 | dsimp only
 | refine hk _ ?_
 | refine fun r hr => hk r ?_
 | with_reducible apply And.intro
 | (simp (disch := omega) only [ls] <;> omega)
 | grind
theorem w436 (a0 : S59) : WQv 436 [.agg (S59.c a0)] (fun r : List Int => .lst (r.map c_i64)) (fun r => r.length = 7) := by
 refine go Tryz.func436 (by kernel_rfl) ?_
 repeat' first
 | (conv => whnf); first
  | refine ⟨_,_,deep0 (leafs_lit rfl),?_⟩
  | refine ⟨[_,_,_,_,_,_,_],rfl,?_⟩
 | dsimp only
 | rfl
theorem w360 (a0 : S61) (g0 : CB a0 400 100) : WQv 360 [.agg (S61.c a0)] (fun r : List Int => .lst (r.map c_u8)) (fun r => r.length ≤ 200000) := by
 refine go Tryz.func360 (by kernel_rfl) ?_
 obtain ⟨c0,c4,c5,c6,c7,c8,c9,c10,c11⟩ := g0
 have hn : ([] : List Int).length = 0 := rfl
 repeat' first
 | with_reducible assumption
 | (conv => whnf); first
  | refine bD (fun h => ?_) fun h => ?_
  | refine wC (w364 [] _ ?_ ?_) fun z364 hq => ?_
  | refine wC (w363 _ _ ?_) fun z363 hz => ?_
  | refine wC (w365 _ _ ?_) fun z365 hz => ?_
  | refine wC (w364 _ _ ?_ ?_) fun z364 hq => ?_
  | refine wC (w435 _ _ ?_ ?_ ?_) fun z435 hz => ?_
  | refine ⟨_,List.length_map ..,?_⟩
  | refine V2 (fun (p0 : List Int) (p1 : Int) => 0 ≤ p1 ∧ p1 ≤ (a0.f7.f0.length : Int) ∧ (p0.length : Int) + 422 * ((a0.f7.f0.length : Int) - p1) ≤ 700000 ∧ (∀ r : List Int,((r.length : Int) ≤ (p0.length : Int) + 422 * ((a0.f7.f0.length : Int) - p1) + 2288) → r.length ≤ 200000)) (fun p0 p1 => [(3,.lst (List.map c_u8 p0)),(4,.box 0 0),(5,.sc (.int .i64 p1))]) (fun _ _ => ⟨[(0,.box (S59.c a0.f7) false)],1⟩) (fun _ p1 => ((a0.f7.f0.length : Int) + 1 - p1).toNat) z363 (0 : Int) ?_ (ft [(0,some 1)] rfl rfl rfl ⟨fB rfl rfl rfl,trivial⟩) fun p0 p1 ⟨i0,i1,i3,hk⟩ => ?_
  | refine wE ‹_› ?_ (fun _ => rfl) ?_
  | refine wG ?_ ?_ (fun _ => rfl) fun x hx hm => ?_
  | refine ⟨⟨_,nx _⟩,?_,?_,(ft [(0,some 0)] rfl rfl rfl ⟨fB rfl rfl rfl,trivial⟩)⟩
  | refine V2 (fun (q0 : List Int) (q1 : Int) => 0 ≤ q1 ∧ q1 ≤ (a0.f7.f1.length : Int) ∧ (q0.length : Int) + 22 * ((a0.f7.f1.length : Int) - q1) ≤ 800000 ∧ (∀ r : List Int,((r.length : Int) ≤ (q0.length : Int) + 22 * ((a0.f7.f1.length : Int) - q1) + 77) → r.length ≤ 200000)) (fun q0 q1 => [(3,.lst (List.map c_u8 q0)),(4,.box 0 0),(6,.sc (.int .i64 q1))]) (fun _ _ => ⟨[(0,.box (S59.c a0.f7) false)],1⟩) (fun _ q1 => ((a0.f7.f1.length : Int) + 1 - q1).toNat) z363 (0 : Int) ?_ (ft [(0,some 0)] rfl rfl rfl ⟨fB rfl rfl rfl,trivial⟩) fun q0 q1 ⟨i0,i1,i3,hk⟩ => ?_
  | refine wC (w436 _) fun z436 hz => ?_
  | refine V2 (fun (v0 : List Int) (v1 : Int) => 0 ≤ v1 ∧ v1 ≤ (z436.length : Int) ∧ (v0.length : Int) + 11 * ((z436.length : Int) - v1) ≤ 900000 ∧ (∀ r : List Int,((r.length : Int) ≤ (v0.length : Int) + 11 * ((z436.length : Int) - v1)) → r.length ≤ 200000)) (fun v0 v1 => [(3,.lst (List.map c_u8 v0)),(7,.lst (List.map c_i64 z436)),(8,.sc (.int .i64 v1))]) (fun _ _ => ⟨[],0⟩) (fun _ v1 => ((z436.length : Int) + 1 - v1).toNat) q0 (0 : Int) ?_ (ft [] rfl rfl rfl trivial) fun v0 v1 ⟨i0,i1,i3,hk⟩ => ?_
  | refine ⟨⟨_,nx _⟩,?_,?_,(ft [] rfl rfl rfl trivial)⟩
  | refine ⟨_,rfl,?_⟩
 | omega
 | dsimp only
 | refine hk _ ?_
 | refine fun r hr => hk r ?_
 | with_reducible apply And.intro
 | (simp (disch := omega) only [ls] <;> omega)
 | grind
theorem w251 (a0 : S65) (g0 : CB a0.f10 400 100) : WQv 251 [.agg (S65.c a0)] (fun r : Int => .sc (.int .i64 r)) (fun r => True) := by
 refine go Tryz.func251 (by kernel_rfl) ?_
 repeat' first
 | with_reducible assumption
 | (conv => whnf); first
  | refine wC (w360 _ ?_) fun z360 hz => ?_
  | refine wC (w252 _ ?_) fun z252 hz => ?_
  | refine ⟨_,rfl,?_⟩
 | omega
theorem w199 (a0 : S65) (g0 : CB a0.f10 400 100) : WQv 199 [.agg (S65.c a0)] (fun r : Bool => .sc (.bool r)) (fun r => True) := by
 refine go Tryz.func199 (by kernel_rfl) ?_
 repeat' first
 | with_reducible assumption
 | (conv => whnf); first
  | refine wC (w251 _ ?_) fun z251 hz => ?_
  | refine ⟨by kernel_rfl,?_⟩
  | refine ⟨_,rfl,?_⟩
theorem w115 (a0 : S65) (g0 : CB a0.f10 400 100) : WQv 115 [.agg (S65.c a0)] (fun r : S65 => .agg (S65.c r)) (fun r => CB r.f10 400 100 ∧ r.f1 = a0.f1 ∧ r.f2 = a0.f2 ∧ r.f5 = a0.f5 ∧ r.f8 = a0.f8 ∧ r.f9 = a0.f9) := by
 refine go Tryz.func115 (by kernel_rfl) ?_
 repeat' first
 | with_reducible assumption
 | (conv => whnf); first
  | refine wC (w174 _ _ ?_) fun z174 hz => ?_
  | refine ⟨⟨a0.f0,a0.f1,a0.f2,a0.f3,a0.f4,a0.f5,a0.f6,a0.f7,a0.f8,a0.f9,z174,a0.f11,a0.f12⟩,rfl,?_⟩
 | dsimp only
 | exact ⟨hz,rfl,rfl,rfl,rfl,rfl⟩
end Go.Abs.RM
