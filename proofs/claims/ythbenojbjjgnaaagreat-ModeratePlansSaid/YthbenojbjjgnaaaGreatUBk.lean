/- Walks to a property. -/
import Derived.Test.YthbenojbjjgnaaaGreatUAm
import Derived.Test.YthbenojbjjgnaaaGreatUBc
import Derived.Test.YthbenojbjjgnaaaGreatUBd
import Derived.Test.YthbenojbjjgnaaaGreatUBe
import Derived.Test.YthbenojbjjgnaaaGreatUBf
import Derived.Test.YthbenojbjjgnaaaGreatUBg
import Derived.Test.YthbenojbjjgnaaaGreatUBj
set_option linter.unusedVariables false
set_option linter.unusedSimpArgs false
set_option linter.unusedSectionVars false
namespace Go.Abs.RM
open Go.Proofs
set_option maxRecDepth 100000
set_option maxHeartbeats 40000000
theorem w265 (a0 : List S65) (a1 : List Int) (a2 : List Int) (g0 : a0.length ≤ 12) (g1 : ∀ e ∈ a0,EB e) (g2 : a1.length ≤ 1000000000) (g3 : a2.length ≤ 900000000) : WQv 265 [.lst (a0.map S65.c),.lst (a1.map c_i64),.lst (a2.map c_i64)] (fun r : List Int => .lst (r.map c_i64)) (fun r => r.length ≤ 12) := by
 refine go Tryz.func265 (by kernel_rfl) ?_
 repeat' first
 | with_reducible assumption
 | (conv => whnf); first
  | refine wG (l := a2) ?_ ?_ (fun _ => rfl) fun x0 hx hm => ?_
  | refine bD (fun h => ?_) fun h => ?_
  | refine bN (fun h => ?_) fun h => ?_
  | refine br (fun h => ?_) fun h => ?_
  | refine V2 (fun (p0 : List Int) (p1 : Int) => 0 ≤ p1 ∧ p1 ≤ (a2.length : Int) ∧ IS a0 p0) (fun _ p1 => [(0,.lst (List.map S65.c a0)),(1,.lst (List.map c_i64 a1)),(2,.lst (List.map c_i64 a2)),(7,.row 0),(8,.sc (.int .i64 p1))]) (fun p0 _ => ⟨[(0,.row (List.map c_i64 p0) 1 true 0)],1⟩) (fun _ p1 => ((a2.length : Int) + 20 + 1 - p1).toNat) ([] : List Int) (0 : Int) ?_ (ft [(0,some 0)] rfl rfl rfl ⟨fRZ rfl rfl fun _ => rfl,trivial⟩) fun p0 p1 ⟨i0,i1,i3⟩ => ?_
  | refine ⟨_,List.length_map ..,?_⟩
  | refine wC (w56 _ _ ?_) fun z56 hg => ?_
  | refine ⟨⟨_,nx _⟩,?_,?_,(ft [(0,some 0)] rfl rfl rfl ⟨fRZ rfl rfl fun _ => rfl,trivial⟩)⟩
  | refine ⟨_,_,deep0 (leafs_map (f := c_i64) (fun _ => rfl) _),?_⟩
  | refine wC (w16 _ _ ?_) fun z16 h16 => ?_
  | refine V1 (fun (q0 : Int) => 0 ≤ q0 ∧ q0 ≤ (p0.length : Int)) (fun q0 => [(0,.lst (List.map S65.c a0)),(1,.lst (List.map c_i64 a1)),(2,.lst (List.map c_i64 a2)),(7,.row 0),(8,.sc (.int .i64 p1)),(11,.sc (.int .i64 q0)),(32,.row 0),(33,.lst (List.map c_i64 a2)),(34,.sc (.int .i64 p1)),(36,.sc (.int .i64 x0)),(37,.sc (.bool z16))]) (fun _ => ⟨[(0,.row (List.map c_i64 p0) 1 true 0)],1⟩) (fun q0 => ((p0.length : Int) + 1 - q0).toNat) (0 : Int) ?_ (ft [(0,some 0)] rfl rfl rfl ⟨fRZ rfl rfl fun _ => rfl,trivial⟩) fun q0 ⟨i0,i1⟩ => ?_
  | refine wR ?_ ?_ ?_
  | refine wL ?_ ?_ fun x hx => ?_
  | refine wC (w378 _ _ _ _ ?_ ?_ ?_) fun z378 hz => ?_
  | refine ⟨by kernel_rfl,?_⟩
  | refine ⟨nx _,?_,?_,(ft [(0,some 0)] rfl rfl rfl ⟨fRZ rfl rfl fun _ => rfl,trivial⟩)⟩
  | refine ⟨?_,?_,wnB _ ?_⟩
  | refine wN (l := []) (f := c_i64) (m := (p0.drop q0.toNat).take (p0.length - q0.toNat)) (winLen ..) (cellP_win (f := c_i64) (s := 1) (fun _ => ⟨rfl,rfl⟩) _ _ _) (winApp ..) ?_ ?_ ?_
  | refine And.intro ?_ (And.intro ?_ (And.intro rfl ?_))
  | refine wW (f := c_i64) (l := [x0]) rfl (cellP_lit rfl) (winCat (f := c_i64) p0 [x0] _ _) ?_ ?_ ?_ ?_
  | refine wA (f := c_i64) (m := _) rfl (fun _ => ⟨rfl,rfl⟩) ?_ ?_ ?_
  | refine ⟨⟨_,nx _⟩,?_,?_,(ft [(0,some 5)] rfl rfl rfl ⟨fRZ rfl rfl fun _ => rfl,trivial⟩)⟩
  | refine ⟨_,rfl,?_⟩
 | omega
 | (refine (put_mk2 (a := p0) ?_).is i3 ?_ <;> grind)
 | (have h1 := IS.len i3; first | omega | (simp (disch := omega) only [ls] <;> omega))
 | dsimp only
 | exact IS.nil
 | with_reducible apply And.intro
theorem w204 (a0 : List S65) (a1 : List (List S71)) (K : Nat) (g0 : a0.length ≤ 12) (g1 : ∀ e ∈ a0,EB e) (g2 : a1.length ≤ 12) (g3 : ∀ s ∈ a1,s.length ≤ K) (g4 : K ≤ 150000) : WQv 204 [.lst (a0.map S65.c),.lst (a1.map cL26)] (fun r : S227 => .agg (S227.c r)) (fun r => r.f4.length ≤ 2 * K + 24) := by
 refine go Tryz.func204 (by kernel_rfl) ?_
 repeat' first
 | with_reducible assumption
 | (conv => whnf); first
  | refine bD (fun h => ?_) fun h => ?_
  | refine br (fun h => ?_) fun h => ?_
  | refine wC (w258 _ K ?_ ?_ ?_) fun z258 h258 => ?_
  | refine wC (w259 _ _ ?_ ?_ ?_ ?_) fun z259 h259 => ?_
  | refine wC (w260 _ _ ?_ ?_ ?_) fun z260 h260 => ?_
  | refine wC (w261 _ _ ?_ ?_ ?_) fun z261 h261 => ?_
  | refine wC (w262 a0 z258.1 z261 ?_ ?_ ?_ ?_) fun z262 hA => ?_
  | refine wC (w263 _ (3 : Int) zS ?_) fun z263 hz => ?_
  | refine wC (w264 _ _ ?_ ?_) fun z264 hz => ?_
  | refine wC (w53 _ _ ?_ ?_) fun z53 h53 => ?_
  | refine wC (w265 a0 z264 z53 ?_ ?_ ?_ ?_) fun z265 h265 => ?_
  | refine wC (w262 a0 z262 z265 ?_ ?_ ?_ ?_) fun z262_1 hA => ?_
  | refine V2 (fun (p0 : S227) (p1 : Int) => 0 ≤ p1 ∧ p1 ≤ (p0.f0.length : Int) ∧ p0.f0.length ≤ 200000 ∧ (p0.f4.length : Int) + ((p0.f0.length : Int) - p1) ≤ 900000 ∧ (∀ r : S227,((r.f4.length : Int) ≤ (p0.f4.length : Int) + ((p0.f0.length : Int) - p1)) → r.f4.length ≤ 2 * K + 24)) (fun _ p1 => [(4,.box 0 0),(5,.box 1 0),(11,.sc (.int .i64 p1))]) (fun p0 _ => ⟨[(0,.box (S227.c (⟨[],[],[],[],[]⟩ : S227)) false),(1,.box (S227.c p0) false)],2⟩) (fun p0 p1 => ((p0.f0.length : Int) + 1 - p1).toNat) (⟨z258.1,z261,z262,z265,z262_1⟩ : S227) (0 : Int) ?_ (ft [(0,some 0),(1,some 1)] rfl rfl rfl ⟨fB rfl rfl rfl,fB rfl rfl rfl,trivial⟩) fun p0 p1 ⟨i0,i1,i3,i4,hk⟩ => ?_
  | refine ⟨_,List.length_map ..,?_⟩
  | refine wE ‹_› ?_ (fun _ => rfl) ?_
  | refine wG ?_ ?_ (fun _ => rfl) fun x hx hm => ?_
  | refine wC (w203 _ _ _ _ ?_) fun z203 hz => ?_
  | refine ⟨by kernel_rfl,?_⟩
  | refine ⟨⟨⟨_,_,_,_,z203⟩,nx _⟩,?_,?_,(ft [(0,some 0),(1,some 1)] rfl rfl rfl ⟨fB rfl rfl rfl,fB rfl rfl rfl,trivial⟩)⟩
  | refine wC (w265 a0 [] z53 ?_ ?_ ?_ ?_) fun z265_1 h265 => ?_
  | refine wC (w262 a0 z262 z265_1 ?_ ?_ ?_ ?_) fun z262_2 hA => ?_
  | refine V2 (fun (p0 : S227) (p1 : Int) => 0 ≤ p1 ∧ p1 ≤ (p0.f0.length : Int) ∧ p0.f0.length ≤ 200000 ∧ (p0.f4.length : Int) + ((p0.f0.length : Int) - p1) ≤ 900000 ∧ (∀ r : S227,((r.f4.length : Int) ≤ (p0.f4.length : Int) + ((p0.f0.length : Int) - p1)) → r.f4.length ≤ 2 * K + 24)) (fun _ p1 => [(4,.box 0 0),(5,.box 1 0),(11,.sc (.int .i64 p1))]) (fun p0 _ => ⟨[(0,.box (S227.c (⟨[],[],[],[],[]⟩ : S227)) false),(1,.box (S227.c p0) false)],2⟩) (fun p0 p1 => ((p0.f0.length : Int) + 1 - p1).toNat) (⟨z258.1,z261,z262,z265_1,z262_2⟩ : S227) (0 : Int) ?_ (ft [(0,some 0),(1,some 1)] rfl rfl rfl ⟨fB rfl rfl rfl,fB rfl rfl rfl,trivial⟩) fun p0 p1 ⟨i0,i1,i3,i4,hk⟩ => ?_
  | refine ⟨_,rfl,?_⟩
 | omega
 | dsimp only
 | refine hk _ ?_
 | refine fun r hr => hk r ?_
 | exact fun s hs => Nat.le_trans (g3 s hs) (by omega)
 | (have := h260.len; omega)
 | exact Nat.zero_le _
 | with_reducible apply And.intro
 | (simp (disch := omega) only [ls] <;> omega)
 | grind
theorem w148 (a0 : List S65) (a1 : List (List S71)) (K : Nat) (g0 : a0.length ≤ 12) (g1 : ∀ e ∈ a0,EB e) (g2 : a1.length ≤ 12) (g3 : ∀ s ∈ a1,s.length ≤ K) (g4 : K ≤ 150000) : WQv 148 [.lst (a0.map S65.c),.lst (a1.map cL26)] (fun r : List S71 => .lst (r.map S71.c)) (fun r => r.length ≤ 2 * K + 24) := by
 refine go Tryz.func148 (by kernel_rfl) ?_
 repeat' first
 | with_reducible assumption
 | (conv => whnf); first
  | refine bI (fun h => ?_) fun h => ?_
  | refine ⟨_,List.length_map ..,?_⟩
  | refine wG ?_ ?_ (fun _ => rfl) fun x hx hm => ?_
  | refine wC (w204 _ _ K ?_ ?_ ?_ ?_ ?_) fun z204 hz => ?_
  | refine ⟨[],rfl,?_⟩
  | refine ⟨_,rfl,?_⟩
 | omega
 | dsimp only
 | exact Nat.zero_le _
 | (have := g3 _ hm; omega)
theorem w14 (a0 : List S65) (g0 : a0.length ≤ 12) : WQv 14 [.lst (a0.map S65.c)] (fun r : List Int => .lst (r.map c_i64)) (fun r => r.length = a0.length) := by
 refine go Tryz.func14 (by kernel_rfl) ?_
 repeat' first
 | with_reducible assumption
 | (conv => whnf); first
  | refine bD (fun h => ?_) fun h => ?_
  | refine V2 (fun (p0 : List Int) (p1 : Int) => 0 ≤ p1 ∧ p1 ≤ (a0.length : Int) ∧ (p0.length : Int) = p1) (fun _ p1 => [(0,.lst (List.map S65.c a0)),(3,.row 0),(4,.sc (.int .i64 p1))]) (fun p0 _ => ⟨[(0,.row (List.map c_i64 p0) 1 false 0)],1⟩) (fun _ p1 => ((a0.length : Int) + 1 - p1).toNat) [] (0 : Int) ?_ (ft [(0,none)] rfl rfl rfl ⟨fitO_nil rfl rfl,trivial⟩) fun p0 p1 ⟨i0,i1,i3⟩ => ?_
  | refine ⟨_,List.length_map ..,?_⟩
  | refine wG ?_ ?_ (fun _ => rfl) fun x hx hm => ?_
  | refine wA (f := c_i64) (m := [_]) rfl (fun _ => ⟨rfl,rfl⟩) ?_ ?_ ?_
  | refine ⟨⟨_,nx _⟩,?_,?_,(ft [(0,some 2)] rfl rfl rfl ⟨fR rfl rfl fun _ => rfl,trivial⟩)⟩
  | refine ⟨_,_,deep0 (leafs_map (f := c_i64) (fun _ => rfl) _),?_⟩
  | refine ⟨_,rfl,?_⟩
 | omega
 | dsimp only
 | with_reducible apply And.intro
 | (simp (disch := omega) only [ls] <;> omega)
theorem w254 (a0 : S65) (a1 : S65) : WQv 254 [.agg (S65.c a0),.agg (S65.c a1)] (fun r : Bool => .sc (.bool r)) (fun r => True) := by
 refine go Tryz.func254 (by kernel_rfl) ?_
 repeat' first
 | (conv => whnf); first
  | refine bD (fun h => ?_) fun h => ?_
  | refine ⟨true,rfl,?_⟩
  | refine ⟨false,rfl,?_⟩
  | refine ⟨_,rfl,?_⟩
 | exact True.intro
theorem w201 (a0 : List S65) (g0 : a0.length ≤ 12) : WQv 201 [.lst (a0.map S65.c)] (fun r : List Int => .lst (r.map c_i64)) (fun r => r.length = a0.length) := by
 refine go Tryz.func201 (by kernel_rfl) ?_
 repeat' first
 | with_reducible assumption
 | (conv => whnf); first
  | refine wLE ‹_› ?_
  | refine wG (l := a0) ?_ ?_ (fun _ => rfl) fun x0 hx hm => ?_
  | refine wL (i := IntKind.wrap .i64 (q1 - (1 : Int))) ?_ ?_ fun y1 hx => ?_
  | refine wL (i := q1) ?_ ?_ fun y2 hx => ?_
  | refine bD (fun h => ?_) fun h => ?_
  | refine br (fun h => ?_) fun h => ?_
  | refine V2 (fun (p0 : List S65) (p1 : Int) => 0 ≤ p1 ∧ p1 ≤ (a0.length : Int) ∧ (p0.length : Int) = p1) (fun _ p1 => [(0,.lst (List.map S65.c a0)),(3,.row 0),(4,.sc (.int .i64 p1))]) (fun p0 _ => ⟨[(0,.row (List.map S65.c p0) 29 false 0)],1⟩) (fun _ p1 => ((a0.length : Int) + 20 + 1 - p1).toNat) [] (0 : Int) ?_ (ft [(0,none)] rfl rfl rfl ⟨fitO_nil rfl rfl,trivial⟩) fun p0 p1 ⟨i0,i1,i3⟩ => ?_
  | refine ⟨_,List.length_map ..,?_⟩
  | refine wA (f := S65.c) (m := [_]) rfl (fun _ => ⟨rfl,rfl⟩) ?_ ?_ ?_
  | refine V2 (fun (q0 : List S65) (q1 : Int) => 0 ≤ q1 ∧ q1 < (q0.length : Int) ∧ (q0.length : Int) = p1 + 1) (fun _ q1 => [(0,.lst (List.map S65.c a0)),(3,.row 0),(4,.sc (.int .i64 p1)),(5,.sc (.int .i64 q1))]) (fun q0 _ => ⟨[(0,.row (List.map S65.c q0) 29 false 0)],1⟩) (fun _ q1 => (q1 + 1).toNat) (p0 ++ [x0]) p1 ?_ (ft [(0,some 2)] rfl rfl rfl ⟨fR rfl rfl fun _ => rfl,trivial⟩) fun q0 q1 ⟨i0,i1,i3⟩ => ?_
  | refine wR ?_ ?_ ?_
  | refine wC (w254 _ _) fun z254 hz => ?_
  | refine ⟨by kernel_rfl,?_⟩
  | refine ⟨_,(List.map_set (f := S65.c) (a := y1)).symm,?_⟩
  | refine ⟨_,(List.map_set (f := S65.c) (a := y2)).symm,?_⟩
  | refine ⟨⟨_,IntKind.wrap .i64 (q1 - (1 : Int))⟩,?_,?_,(ft [(0,some 0)] rfl rfl rfl ⟨fR rfl rfl fun _ => rfl,trivial⟩)⟩
  | refine ⟨⟨_,nx _⟩,?_,?_,(ft [(0,some 0)] rfl rfl rfl ⟨fR rfl rfl fun _ => rfl,trivial⟩)⟩
  | refine ⟨_,_,deep0 (leafs_map (f := S65.c) (fun _ => rfl) _),?_⟩
  | refine wC (w14 _ ?_) fun z14 hz => ?_
  | refine ⟨_,rfl,?_⟩
 | omega
 | dsimp only
 | with_reducible apply And.intro
 | (simp (disch := omega) only [ls] <;> omega)
theorem w76 (a0 : List S65) (a1 : List S71) (g0 : a0.length ≤ 12) (g1 : a1.length ≤ 1000000) : WQv 76 [.lst (a0.map S65.c),.lst (a1.map S71.c)] (fun r : List S65 => .lst (r.map S65.c)) (fun r => r.length ≤ a1.length ∧ ∀ x ∈ r,x ∈ a0) := by
 refine go Tryz.func76 (by kernel_rfl) ?_
 have hn1 : ([] : List S65).length = 0 := rfl
 repeat' first
 | with_reducible assumption
 | (conv => whnf); first
  | refine bD (fun h => ?_) fun h => ?_
  | refine br (fun h => ?_) fun h => ?_
  | refine V2 (fun (p0 : List S65) (p1 : Int) => 0 ≤ p1 ∧ p1 ≤ (a1.length : Int) ∧ (p0.length : Int) ≤ p1 ∧ (∀ x ∈ p0,x ∈ a0)) (fun _ p1 => [(0,.lst (List.map S65.c a0)),(1,.lst (List.map S71.c a1)),(5,.row 0),(6,.sc (.int .i64 p1))]) (fun p0 _ => ⟨[(0,.row (List.map S65.c p0) 29 false 0)],1⟩) (fun _ p1 => ((a1.length : Int) + 1 - p1).toNat) ([] : List S65) (0 : Int) ?_ (ft [(0,some 0)] rfl rfl rfl ⟨fR rfl rfl fun _ => rfl,trivial⟩) fun p0 p1 ⟨i0,i1,i3,i4⟩ => ?_
  | refine ⟨_,List.length_map ..,?_⟩
  | refine wG ?_ ?_ (fun _ => rfl) fun x hx hm => ?_
  | refine wC (w56 _ _ ?_) fun z56 hg => ?_
  | refine wA (f := S65.c) (m := [_]) rfl (fun _ => ⟨rfl,rfl⟩) ?_ ?_ ?_
  | refine ⟨⟨_,nx _⟩,?_,?_,(ft [(0,some 3)] rfl rfl rfl ⟨fR rfl rfl fun _ => rfl,trivial⟩)⟩
  | refine ⟨⟨_,nx _⟩,?_,?_,(ft [(0,some 0)] rfl rfl rfl ⟨fR rfl rfl fun _ => rfl,trivial⟩)⟩
  | refine ⟨_,_,deep0 (leafs_map (f := S65.c) (fun _ => rfl) _),?_⟩
  | refine ⟨_,rfl,?_⟩
 | omega
 | dsimp only
 | exact ⟨by omega,i4⟩
 | exact all_snoc i4 (hg.mem h).1
 | exact fun x hx => absurd hx List.not_mem_nil
 | with_reducible apply And.intro
 | (simp (disch := omega) only [ls] <;> omega)
theorem w368 (a0 : List S71) (a1 : Int) (a2 : ByteArray) (g0 : a0.length ≤ 1000) : WQv 368 [.lst (a0.map S71.c),.sc (.int .i64 a1),.sc (.string a2)] (fun r : Bool => .sc (.bool r)) (fun r => True) := by
 refine go Tryz.func368 (by kernel_rfl) ?_
 repeat' first
 | with_reducible assumption
 | (conv => whnf); first
  | refine bD (fun h => ?_) fun h => ?_
  | refine bS (fun h => ?_) fun h => ?_
  | refine V1 (fun (p0 : Int) => 0 ≤ p0 ∧ p0 ≤ (a0.length : Int)) (fun p0 => [(0,.lst (List.map S71.c a0)),(1,.sc (.int .i64 a1)),(2,.sc (.string a2)),(7,.sc (.int .i64 p0))]) (fun _ => ⟨[],0⟩) (fun p0 => ((a0.length : Int) + 1 - p0).toNat) (0 : Int) ?_ (ft [] rfl rfl rfl trivial) fun p0 ⟨i0,i1⟩ => ?_
  | refine ⟨_,List.length_map ..,?_⟩
  | refine wE ‹_› ?_ (fun _ => rfl) ?_
  | refine wG ?_ ?_ (fun _ => rfl) fun x hx hm => ?_
  | refine ⟨true,rfl,?_⟩
  | refine ⟨nx _,?_,?_,(ft [] rfl rfl rfl trivial)⟩
  | refine ⟨false,rfl,?_⟩
 | omega
 | exact True.intro
 | with_reducible apply And.intro
 | (simp (disch := omega) only [ls] <;> omega)
end Go.Abs.RM
