/- Walks to a property. -/
import Derived.Test.YthbenojbjjgnaaaGreatUAm
import Derived.Test.YthbenojbjjgnaaaGreatUAv
import Derived.Test.YthbenojbjjgnaaaGreatUAw
import Derived.Test.YthbenojbjjgnaaaGreatUAz
import Derived.Test.YthbenojbjjgnaaaGreatUBa
set_option linter.unusedVariables false
set_option linter.unusedSimpArgs false
set_option linter.unusedSectionVars false
namespace Go.Abs.RM
open Go.Proofs
set_option maxRecDepth 100000
set_option maxHeartbeats 40000000
theorem w366 (a0 : List Int) (a1 : List Int) (g0 : a0.length ≤ 800000) (g1 : a1.length ≤ 100) : WQv 366 [.lst (a0.map c_u8),.lst (a1.map c_i64)] (fun r : List Int => .lst (r.map c_u8)) (fun r => r.length ≤ a0.length + 11 + 11 * a1.length) := by
 refine go Tryz.func366 (by kernel_rfl) ?_
 repeat' first
 | with_reducible assumption
 | (conv => whnf); first
  | refine bD (fun h => ?_) fun h => ?_
  | refine ⟨_,List.length_map ..,?_⟩
  | refine wO (o363 _ _ ?_) fun z363 hz => ?_
  | refine V2 (fun (p0 : List Int) (p1 : Int) => 0 ≤ p1 ∧ p1 ≤ (a1.length : Int) ∧ (p0.length : Int) + 11 * ((a1.length : Int) - p1) ≤ 900000 ∧ (∀ r : List Int,((r.length : Int) ≤ (p0.length : Int) + 11 * ((a1.length : Int) - p1)) → r.length ≤ a0.length + 11 + 11 * a1.length)) (fun _ p1 => [(1,.lst (List.map c_i64 a1)),(5,.row 0),(6,.sc (.int .i64 p1))]) (fun p0 _ => ⟨[(0,.row (List.map c_u8 p0) 1 false 0)],1⟩) (fun _ p1 => ((a1.length : Int) + 1 - p1).toNat) z363 (0 : Int) ?_ (ft [(0,some 0)] rfl rfl rfl ⟨fR rfl rfl fun _ => rfl,trivial⟩) fun p0 p1 ⟨i0,i1,i3,hk⟩ => ?_
  | refine wG ?_ ?_ (fun _ => rfl) fun x hx hm => ?_
  | refine wC (w437 _) fun z437 hz => ?_
  | refine wA (f := c_u8) (m := _) rfl (fun _ => ⟨rfl,rfl⟩) ?_ ?_ ?_
  | refine ⟨⟨_,nx _⟩,?_,?_,(ft [(0,some 1)] rfl rfl rfl ⟨fR rfl rfl fun _ => rfl,trivial⟩)⟩
  | refine ⟨_,_,deep0 (leafs_map (f := c_u8) (fun _ => rfl) _),?_⟩
  | refine ⟨_,rfl,?_⟩
 | omega
 | dsimp only
 | refine hk _ ?_
 | refine fun r hr => hk r ?_
 | with_reducible apply And.intro
 | (simp (disch := omega) only [ls] <;> omega)
 | grind
theorem w253 (a0 : S65) (g0 : a0.f1.size ≤ 80) (g1 : a0.f2.size ≤ 80) (g2 : a0.f5.size ≤ 80) (g3 : a0.f8.length ≤ 10) (g4 : a0.f9.length ≤ 8) (g5 : CB a0.f10 400 100) (g6 : a0.f12.f0.size ≤ 80) : WQv 253 [.agg (S65.c a0)] (fun r : List Int => .lst (r.map c_u8)) (fun r => r.length ≤ 300000) := by
 refine go Tryz.func253 (by kernel_rfl) ?_
 have hn : ([] : List Int).length = 0 := rfl
 repeat' first
 | with_reducible assumption
 | (conv => whnf); first
  | refine wC (w363 [] _ ?_) fun z363 hz => ?_
  | refine wC (w364 _ _ ?_ ?_) fun z364 hz => ?_
  | refine wC (w363 _ _ ?_) fun z363 hz => ?_
  | refine wC (w365 _ _ ?_) fun z365 hz => ?_
  | refine wC (w366 _ _ ?_ ?_) fun z366 hz => ?_
  | refine wC (w360 _ ?_) fun z360 hz => ?_
  | refine ⟨_,outW_map _,?_⟩
  | refine ⟨_,rfl,?_⟩
 | omega
 | (simp only [ByteArray.size,List.size_toArray,List.length_map] at *; omega)
theorem w200 (a0 : S65) (g0 : EB a0) : WQv 200 [.agg (S65.c a0)] (fun r : Int => .sc (.int .i64 r)) (fun r => True) := by
 refine go Tryz.func200 (by kernel_rfl) ?_
 obtain ⟨b1,b2,b5,b8,b9,b10⟩ := g0
 repeat' first
 | with_reducible assumption
 | (conv => whnf); first
  | refine wC (w115 _ ?_) fun z115 hz => ?_
  | refine wC (w253 ⟨(0 : Int),_,_,_,_,_,_,_,_,_,_,_,ze63⟩ ?_ ?_ ?_ ?_ ?_ ?_ ?_) fun z253 hz => ?_
  | refine wC (w252 _ ?_) fun z252 hz => ?_
  | refine ⟨_,rfl,?_⟩
 | omega
 | dsimp only
 | exact hz.1
 | exact Nat.zero_le _
 | grind
theorem w143 (a0 : S65) (g0 : EM a0) : WQv 143 [.agg (S65.c a0)] (fun r : Int => .sc (.int .i64 r)) (fun r => r = 0 → EB a0) := by
 refine go Tryz.func143 (by kernel_rfl) ?_
 repeat' first
 | with_reducible assumption
 | (conv => whnf); first
  | refine bJ (fun h => ?_) fun h => ?_
  | refine bN (fun h => ?_) fun h => ?_
  | refine wC (w198 _ ?_) fun z198 hb0 => ?_
  | refine wC (w199 _ ?_) fun z199 hz => ?_
  | refine wC (w174 _ _ ?_) fun z174 hz => ?_
  | refine wC (w95 _ _ ?_ ?_ ?_ ?_) fun z95 hz => ?_
  | refine ⟨by kernel_rfl,?_⟩
  | refine wC (w200 _ ?_) fun z200 hz => ?_
  | refine wC (w28 _ ?_) fun z28 hz => ?_
  | refine ⟨_,rfl,?_⟩
 | omega
 | dsimp only
 | intro hr
 | grind
theorem w80 (a0 : List S65) (g0 : ∀ e ∈ a0,EM e) : WQv 80 [.lst (a0.map S65.c)] (fun r : Int => .sc (.int .i64 r)) (fun r => r = 0 → a0.length ≤ 2000 ∧ ∀ e ∈ a0,EB e) := by
 refine go Tryz.func80 (by kernel_rfl) ?_
 repeat' first
 | with_reducible assumption
 | (conv => whnf); first
  | refine bD (fun h => ?_) fun h => ?_
  | refine bJ (fun h => ?_) fun h => ?_
  | refine bT' (fun h => ?_) fun h => ?_
  | refine ⟨_,List.length_map ..,?_⟩
  | refine V1 (fun (p0 : Int) => 0 ≤ p0 ∧ p0 ≤ (a0.length : Int) ∧ (∀ r : Int,(r = 0 → ∀ y ∈ a0.drop p0.toNat,EB y) → r = 0 → a0.length ≤ 2000 ∧ ∀ e ∈ a0,EB e)) (fun p0 => [(0,.lst (List.map S65.c a0)),(3,.sc (.int .i64 p0))]) (fun _ => ⟨[],0⟩) (fun p0 => ((a0.length : Int) + 1 - p0).toNat) (0 : Int) ?_ (ft [] rfl rfl rfl trivial) fun p0 ⟨i0,i1,hk⟩ => ?_
  | refine wG ?_ ?_ (fun _ => rfl) fun x hx hm => ?_
  | refine wC (w143 _ ?_) fun z143 key => ?_
  | refine ⟨nx _,?_,?_,(ft [] rfl rfl rfl trivial)⟩
  | refine V1 (fun (q0 : Int) => 1 ≤ q0 ∧ q0 ≤ (a0.length : Int) + 1) (fun q0 => [(0,.lst (List.map S65.c a0)),(5,.sc (.int .i64 q0))]) (fun _ => ⟨[],0⟩) (fun q0 => ((a0.length : Int) + 1 + 1 - q0).toNat) (1 : Int) ?_ (ft [] rfl rfl rfl trivial) fun q0 ⟨i0,i1⟩ => ?_
  | refine ⟨by kernel_rfl,?_⟩
  | refine V1 (fun (v0 : Int) => 1 ≤ v0 ∧ v0 ≤ (a0.length : Int) + 1) (fun v0 => [(0,.lst (List.map S65.c a0)),(6,.sc (.int .i64 v0))]) (fun _ => ⟨[],0⟩) (fun v0 => ((a0.length : Int) + 1 + 1 - v0).toNat) (1 : Int) ?_ (ft [] rfl rfl rfl trivial) fun v0 ⟨i0,i1⟩ => ?_
  | refine ⟨(7 : Int),rfl,?_⟩
  | refine ⟨_,rfl,?_⟩
 | omega
 | dsimp only
 | refine hk _ ?_
 | refine fun r hr => hk r fun hr0 => drop_all ‹_› hx (by omega) ?_ (hr hr0)
 | exact fun r hr hr0 => ⟨by omega,fun x hx => hr hr0 x hx⟩
 | exact fun _ => drop_none ‹_›
 | exact g0 _ hm
 | with_reducible apply And.intro
 | (simp (disch := omega) only [ls] <;> omega)
 | grind
theorem w33 (a0 : S30) (a1 : List S65) (g0 : ∀ e ∈ a1,EM e) : WQv 33 [.agg (S30.c a0),.lst (a1.map S65.c)] (fun r : Int => .sc (.int .i64 r)) (fun r => r = 0 → ∀ e ∈ a1,EB e) := by
 refine go Tryz.func33 (by kernel_rfl) ?_
 repeat' first
 | with_reducible assumption
 | (conv => whnf); first
  | refine bI (fun h => ?_) fun h => ?_
  | refine bD (fun h => ?_) fun h => ?_
  | refine bT' (fun h => ?_) fun h => ?_
  | refine wC (w80 _ ?_) fun z80 h80 => ?_
  | refine ⟨_,List.length_map ..,?_⟩
  | refine wG ?_ ?_ (fun _ => rfl) fun x hx hm => ?_
  | refine ⟨by kernel_rfl,?_⟩
  | refine ⟨(13 : Int),rfl,?_⟩
  | refine ⟨_,rfl,?_⟩
 | omega
 | dsimp only
 | exact fun hr => (h80 hr).2
theorem w59 (a0 : List S65) (a1 : Int) (g0 : a0.length ≤ 1000000000) : WQv 59 [.lst (a0.map S65.c),.sc (.int .i64 a1)] (fun r : Int => .sc (.int .i64 r)) (fun r => ((-1 ≤ r ∧ r < (a0.length : Int)) ∧ (0 ≤ r → ∃ e,a0[r.toNat]? = some e ∧ e.f0 = a1)) ∧ (r < 0 → ∀ y ∈ a0,y.f0 ≠ a1)) := by
 refine go Tryz.func59 (by kernel_rfl) ?_
 repeat' first
 | with_reducible assumption
 | (conv => whnf); first
  | refine bD (fun h => ?_) fun h => ?_
  | refine V1 (fun (p0 : Int) => 0 ≤ p0 ∧ p0 ≤ (a0.length : Int) ∧ (∀ r : Int,(((-1 ≤ r ∧ r < (a0.length : Int)) ∧ (0 ≤ r → ∃ e,a0[r.toNat]? = some e ∧ e.f0 = a1)) ∧ (r < 0 → ∀ y ∈ a0.drop p0.toNat,y.f0 ≠ a1)) → ((-1 ≤ r ∧ r < (a0.length : Int)) ∧ (0 ≤ r → ∃ e,a0[r.toNat]? = some e ∧ e.f0 = a1)) ∧ (r < 0 → ∀ y ∈ a0,y.f0 ≠ a1))) (fun p0 => [(0,.lst (List.map S65.c a0)),(1,.sc (.int .i64 a1)),(5,.sc (.int .i64 p0))]) (fun _ => ⟨[],0⟩) (fun p0 => ((a0.length : Int) + 1 - p0).toNat) (0 : Int) ?_ (ft [] rfl rfl rfl trivial) fun p0 ⟨i0,i1,hk⟩ => ?_
  | refine ⟨_,List.length_map ..,?_⟩
  | refine wG ?_ ?_ (fun _ => rfl) fun x hx hm => ?_
  | refine ⟨nx _,?_,?_,(ft [] rfl rfl rfl trivial)⟩
  | refine ⟨_,rfl,?_⟩
 | omega
 | dsimp only
 | refine hk _ ?_
 | refine fun r hr => hk r ?_
 | exact ⟨hr.1,fun h0 => drop_all (by omega) hx (by omega) h (hr.2 h0)⟩
 | exact ⟨⟨⟨by omega,by omega⟩,fun _ => ⟨_,hx,h⟩⟩,fun hr => absurd hr (by omega)⟩
 | exact fun _ => drop_none ‹_›
 | with_reducible apply And.intro
 | (simp (disch := omega) only [ls] <;> omega)
 | intro hr
 | grind
theorem u60 (a0 : List Int) (a1 : Int) (g0 : a0.length ≤ 1000000000) : WUQ 60 [.sc (.int .i64 a1)] 1 a0 c_i64 (fun r => a0.length ≤ r.length ∧ r.length ≤ a0.length + 1) := by
 refine goUpd Tryz.func60 (by kernel_rfl) (lens_map fun _ => rfl) ?_
 repeat' first
 | with_reducible assumption
 | (conv => whnf); first
  | refine wLE ‹_› ?_
  | refine wL (i := IntKind.wrap .i64 (q1 - (1 : Int))) ?_ ?_ fun y0 hx => ?_
  | refine bD (fun h => ?_) fun h => ?_
  | refine V1 (fun (p0 : Int) => 0 ≤ p0 ∧ p0 ≤ (a0.length : Int)) (fun p0 => [(0,.row 0),(1,.sc (.int .i64 a1)),(5,.sc (.int .i64 p0))]) (fun _ => ⟨[(0,.row (List.map c_i64 a0) 1 false 0)],1⟩) (fun p0 => ((a0.length : Int) + 1 - p0).toNat) (0 : Int) ?_ (ft [(0,some 0)] rfl rfl rfl ⟨fR rfl rfl fun _ => rfl,trivial⟩) fun p0 ⟨i0,i1⟩ => ?_
  | refine ⟨_,List.length_map ..,?_⟩
  | refine wR ?_ ?_ ?_
  | refine wL ?_ ?_ fun x hx => ?_
  | refine ⟨nx _,?_,?_,(ft [(0,some 0)] rfl rfl rfl ⟨fR rfl rfl fun _ => rfl,trivial⟩)⟩
  | refine ⟨leafs_map (f := c_i64) (fun _ => rfl) _,_,rfl,?_⟩
  | refine wA (f := c_i64) (m := [_]) rfl (fun _ => ⟨rfl,rfl⟩) ?_ ?_ ?_
  | refine V2 (fun (q0 : List Int) (q1 : Int) => p0 ≤ q1 ∧ q1 < (q0.length : Int) ∧ q0.length ≤ 2000000000 ∧ (∀ r : List Int,(r.length = q0.length) → a0.length ≤ r.length ∧ r.length ≤ a0.length + 1)) (fun _ q1 => [(0,.row 0),(1,.sc (.int .i64 a1)),(5,.sc (.int .i64 p0)),(6,.sc (.int .i64 q1))]) (fun q0 _ => ⟨[(0,.row (List.map c_i64 q0) 1 false 0)],1⟩) (fun _ q1 => (q1 + 1).toNat) (a0 ++ [a1]) (IntKind.wrap .i64 (((a0 ++ [a1]).length : Int) - (1 : Int))) ?_ (ft [(0,some 2)] rfl rfl rfl ⟨fR rfl rfl fun _ => rfl,trivial⟩) fun q0 q1 ⟨i0,i1,i3,hk⟩ => ?_
  | refine ⟨_,(List.map_set (f := c_i64) (a := y0)).symm,?_⟩
  | refine ⟨⟨_,IntKind.wrap .i64 (q1 - (1 : Int))⟩,?_,?_,(ft [(0,some 0)] rfl rfl rfl ⟨fR rfl rfl fun _ => rfl,trivial⟩)⟩
  | refine ⟨_,(List.map_set (f := c_i64) (a := a1)).symm,?_⟩
 | omega
 | dsimp only
 | refine hk _ ?_
 | refine fun r hr => hk r ?_
 | (simp only [List.length_append,List.length_cons,List.length_nil,List.length_take,List.length_drop,List.length_set,List.length_map,ByteArray.size_extract] at hr; omega)
 | with_reducible apply And.intro
 | (simp (disch := omega) only [ls] <;> omega)
end Go.Abs.RM
