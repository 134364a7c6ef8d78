/- Walks to a property. -/
import Derived.Test.YthbenojbjjgnaaaGreatUAm
import Derived.Test.YthbenojbjjgnaaaGreatUAw
import Derived.Test.YthbenojbjjgnaaaGreatUAx
import Derived.Test.YthbenojbjjgnaaaGreatUAy
set_option linter.unusedVariables false
set_option linter.unusedSimpArgs false
set_option linter.unusedSectionVars false
namespace Go.Abs.RM
open Go.Proofs
set_option maxRecDepth 100000
set_option maxHeartbeats 40000000
theorem w359 (a0 : S59) (g0 : ∀ x ∈ a0.f0,(x.f0.size : Int) ≤ 9223372036854775807) : WQv 359 [.agg (S59.c a0)] (fun r : Int => .sc (.int .i64 r)) (fun r => r = 0 → a0.f0.length ≤ 100 ∧ a0.f1.length ≤ 100 ∧ ∀ x ∈ a0.f0,x.f0.size ≤ 80) := by
 refine go Tryz.func359 (by kernel_rfl) ?_
 repeat' first
 | (conv => whnf); first
  | refine bJ (fun h => ?_) fun h => ?_
  | refine br (fun h => ?_) fun h => ?_
  | refine wC (w432 _ g0) fun z432 hu => ?_
  | refine wC (w433 _) fun z433 hk => ?_
  | refine wC (w434 _) fun z434 hz => ?_
  | refine ⟨_,rfl,?_⟩
 | omega
 | dsimp only
 | with_reducible apply And.intro
 | intro hr
 | grind
theorem w250 (a0 : Int) (a1 : S61) (g0 : CB a1 9223372036854775807 9223372036854775807) : WQv 250 [.sc (.int .i64 a0),.agg (S61.c a1)] (fun r : Int => .sc (.int .i64 r)) (fun r => r = 0 → CB a1 400 100) := by
 refine go Tryz.func250 (by kernel_rfl) ?_
 have cbm := g0
 repeat' first
 | (conv => whnf); first
  | refine bN (fun h => ?_) fun h => ?_
  | refine bI (fun h => ?_) fun h => ?_
  | refine br (fun h => ?_) fun h => ?_
  | refine wC (w350 _) fun z350 hp => ?_
  | refine wC (w351 _ _ ?_ ?_) fun z351 ho => ?_
  | refine wC (w352 _) fun z352 hz => ?_
  | refine wC (w95 _ ze61 ?_ ?_ ?_ ?_) fun z95 hs => ?_
  | refine wC (w353 _ _) fun z353 h3 => ?_
  | refine wC (w354 _ _) fun z354 h4 => ?_
  | refine wC (w355 _ _) fun z355 h5 => ?_
  | refine wC (w356 _ ?_) fun z356 h6 => ?_
  | refine wC (w357 _ (fun x hx => by have := cbm.2.2.2.2.2.2.1 x hx; omega)) fun z357 h7 => ?_
  | refine wC (w358 _) fun z358 h8 => ?_
  | refine wC (w359 _ (fun x hx => by have := cbm.2.2.2.2.2.2.2.2 x hx; omega)) fun z359 h10 => ?_
  | refine ⟨(1 : Int),rfl,?_⟩
  | refine ⟨(0 : Int),rfl,?_⟩
  | refine ⟨_,rfl,?_⟩
 | omega
 | dsimp only
 | exact fun hr => cb_empty (hs h) rfl rfl rfl rfl rfl rfl
 | intro hr
 | grind
theorem w198 (a0 : S65) (g0 : EM a0) : WQv 198 [.agg (S65.c a0)] (fun r : Int => .sc (.int .i64 r)) (fun r => r = 0 → EB a0) := by
 refine go Tryz.func198 (by kernel_rfl) ?_
 obtain ⟨b1,b2,b5,b8,b9,b10,b12⟩ := g0
 repeat' first
 | with_reducible assumption
 | (conv => whnf); first
  | refine bJ (fun h => ?_) fun h => ?_
  | refine wC (w249 _ ?_ ?_ ?_ ?_ ?_) fun z249 hf => ?_
  | refine wC (w250 _ _ ?_) fun z250 hz => ?_
  | refine ⟨_,rfl,?_⟩
 | omega
 | dsimp only
 | exact fun hr => ⟨(hf h).1,(hf h).2.1,(hf h).2.2.1,(hf h).2.2.2.1,(hf h).2.2.2.2,hz hr⟩
theorem w361 (a0 : Int) (a1 : List Int) (g0 : a1.length ≤ 9000000) : WQv 361 [.sc (.int .i64 a0),.lst (a1.map c_u8)] (fun r : Int => .sc (.int .i64 r)) (fun r => True) := by
 refine go Tryz.func361 (by kernel_rfl) ?_
 repeat' first
 | with_reducible assumption
 | (conv => whnf); first
  | refine bD (fun h => ?_) fun h => ?_
  | refine V2 (fun (p0 : Int) (p1 : Int) => 0 ≤ p1 ∧ p1 ≤ (a1.length : Int)) (fun p0 p1 => [(1,.lst (List.map c_u8 a1)),(5,.sc (.int .u64 p0)),(6,.sc (.int .i64 p1))]) (fun _ _ => ⟨[],0⟩) (fun _ p1 => ((a1.length : Int) + 1 - p1).toNat) (iop .rem 318 .u64 (IntKind.wrap .u64 a0) (4611686018427387904 : Int)) (0 : Int) ?_ (ft [] rfl rfl rfl trivial) fun p0 p1 ⟨i0,i1⟩ => ?_
  | refine ⟨_,List.length_map ..,?_⟩
  | refine wG ?_ ?_ (fun _ => rfl) fun x hx hm => ?_
  | refine ⟨⟨_,nx _⟩,?_,?_,(ft [] rfl rfl rfl trivial)⟩
  | refine ⟨_,rfl,?_⟩
 | omega
 | exact True.intro
 | dsimp only
 | with_reducible apply And.intro
 | (simp (disch := omega) only [ls] <;> omega)
theorem w362  : WQv 362 [] (fun r : Int => .sc (.int .i64 r)) (fun r => True) := by
 refine go Tryz.func362 (by kernel_rfl) ?_
 repeat' first
 | (conv => whnf); first
  | refine ⟨(860922984064492325 : Int),rfl,?_⟩
 | exact True.intro
theorem w252 (a0 : List Int) (g0 : a0.length ≤ 9000000) : WQv 252 [.lst (a0.map c_u8)] (fun r : Int => .sc (.int .i64 r)) (fun r => True) := by
 refine go Tryz.func252 (by kernel_rfl) ?_
 repeat' first
 | with_reducible assumption
 | (conv => whnf); first
  | refine wC (w362) fun z362 hz => ?_
  | refine wC (w361 _ _ ?_) fun z361 hz => ?_
  | refine ⟨_,rfl,?_⟩
theorem w437 (a0 : Int) : WQv 437 [.sc (.int .i64 a0)] (fun r : List Int => .lst (r.map c_u8)) (fun r => 1 ≤ r.length ∧ r.length ≤ 11) := by
 refine go Tryz.func437 (by kernel_rfl) ?_
 have e : (128 : Int) ^ 10 = 1180591620717411303424 := by decide
 repeat' first
 | (conv => whnf); first
  | refine bD (fun h => ?_) fun h => ?_
  | refine V2 (fun (p0 : Int) (p1 : List Int) => 0 ≤ p0 ∧ p0 ≤ 18446744073709551615 ∧ p1.length ≤ 10 ∧ p0 < 128 ^ (10 - p1.length)) (fun p0 _ => [(3,.sc (.int .u64 p0)),(4,.row 0)]) (fun _ p1 => ⟨[(0,.row (List.map c_u8 p1) 1 false 0)],1⟩) (fun p0 _ => (p0 + 1).toNat) (uop .xor .u64 (iop .shl 318 .u64 (IntKind.wrap .u64 a0) (1 : Int))) [] ?_ (ft [(0,none)] rfl rfl rfl ⟨fitO_nil rfl rfl,trivial⟩) fun p0 p1 ⟨i0,i1,i3,i4⟩ => ?_
  | refine wA (f := c_u8) (m := [_]) rfl (fun _ => ⟨rfl,rfl⟩) ?_ ?_ ?_
  | refine ⟨_,_,deep0 (leafs_map (f := c_u8) (fun _ => rfl) _),?_⟩
  | refine V2 (fun (p0 : Int) (p1 : List Int) => 0 ≤ p0 ∧ p0 ≤ 18446744073709551615 ∧ p1.length ≤ 10 ∧ p0 < 128 ^ (10 - p1.length)) (fun p0 _ => [(3,.sc (.int .u64 p0)),(4,.row 0)]) (fun _ p1 => ⟨[(0,.row (List.map c_u8 p1) 1 false 0)],1⟩) (fun p0 _ => (p0 + 1).toNat) (iop .shl 318 .u64 (IntKind.wrap .u64 a0) (1 : Int)) [] ?_ (ft [(0,none)] rfl rfl rfl ⟨fitO_nil rfl rfl,trivial⟩) fun p0 p1 ⟨i0,i1,i3,i4⟩ => ?_
  | refine ⟨⟨_,_⟩,?_,?_,(ft [(0,some 2)] rfl rfl rfl ⟨fR rfl rfl fun _ => rfl,trivial⟩)⟩
  | refine ⟨_,rfl,?_⟩
 | omega
 | (have := xor_range (iop .shl 318 .u64 (IntKind.wrap .u64 a0) (1 : Int)); have := shl_range (IntKind.wrap .u64 a0); simp only [List.length_nil,Nat.sub_zero]; omega)
 | exact (quo_step i0 i1 i4 h i3).2.1
 | exact (quo_step i0 i1 i4 h i3).2.2.2.2 _
 | (have hq := quo_step i0 i1 i4 h i3; rw [List.length_append,List.length_singleton]; exact hq.2.2.2.1)
 | (have hq := (quo_step i0 i1 i4 h i3).2.2.1; omega)
 | dsimp only
 | with_reducible apply And.intro
 | (simp (disch := omega) only [ls] <;> omega)
theorem w363 (a0 : List Int) (a1 : Int) (g0 : a0.length ≤ 1000000) : WQv 363 [.lst (a0.map c_u8),.sc (.int .i64 a1)] (fun r : List Int => .lst (r.map c_u8)) (fun r => a0.length < r.length ∧ r.length ≤ a0.length + 11) := by
 refine go Tryz.func363 (by kernel_rfl) ?_
 repeat' first
 | (conv => whnf); first
  | refine wA (l := []) (f := c_u8) (m := _) rfl (fun _ => ⟨rfl,rfl⟩) ?_ ?_ ?_
  | refine wC (w437 _) fun z437 hz => ?_
  | refine wA (f := c_u8) (m := _) rfl (fun _ => ⟨rfl,rfl⟩) ?_ ?_ ?_
  | refine ⟨_,_,deep0 (leafs_map (f := c_u8) (fun _ => rfl) _),?_⟩
  | refine ⟨_,rfl,?_⟩
 | dsimp only
 | (simp only [List.length_append,List.length_cons,List.length_nil,List.length_take,List.length_drop,List.length_set,List.length_map,ByteArray.size_extract]; omega)
theorem o363 (a0 : List Int) (a1 : Int) (g0 : a0.length ≤ 1000000) : WOQ 363 [.lst (a0.map c_u8),.sc (.int .i64 a1)] 1 false c_u8 (fun r => a0.length < r.length ∧ r.length ≤ a0.length + 11) := by
 refine goOwn Tryz.func363 (by kernel_rfl) ?_
 repeat' first
 | (conv => whnf); first
  | refine wA (l := []) (f := c_u8) (m := _) rfl (fun _ => ⟨rfl,rfl⟩) ?_ ?_ ?_
  | refine wC (w437 _) fun z437 hz => ?_
  | refine wA (f := c_u8) (m := _) rfl (fun _ => ⟨rfl,rfl⟩) ?_ ?_ ?_
  | refine ⟨leafs_map (f := c_u8) (fun _ => rfl) _,_,rfl,?_⟩
 | dsimp only
 | (simp only [List.length_append,List.length_cons,List.length_nil,List.length_take,List.length_drop,List.length_set,List.length_map,ByteArray.size_extract]; omega)
end Go.Abs.RM
