/- Walks to a property. -/
import Derived.Test.YthbenojbjjgnaaaGreatUAm
import Derived.Test.YthbenojbjjgnaaaGreatUAv
import Derived.Test.YthbenojbjjgnaaaGreatUAw
import Derived.Test.YthbenojbjjgnaaaGreatUAx
set_option linter.unusedVariables false
set_option linter.unusedSimpArgs false
set_option linter.unusedSectionVars false
namespace Go.Abs.RM
open Go.Proofs
set_option maxRecDepth 100000
set_option maxHeartbeats 40000000
theorem w354 (a0 : Int) (a1 : Int) : WQv 354 [.sc (.int .i64 a0),.sc (.int .i64 a1)] (fun r : Int => .sc (.int .i64 r)) (fun r => True) := by
 refine go Tryz.func354 (by kernel_rfl) ?_
 repeat' first
 | (conv => whnf); first
  | refine bI (fun h => ?_) fun h => ?_
  | refine bD (fun h => ?_) fun h => ?_
  | refine bN (fun h => ?_) fun h => ?_
  | refine ⟨(2 : Int),rfl,?_⟩
  | refine ⟨(0 : Int),rfl,?_⟩
 | omega
 | exact True.intro
theorem w355 (a0 : Int) (a1 : S61) : WQv 355 [.sc (.int .i64 a0),.agg (S61.c a1)] (fun r : Int => .sc (.int .i64 r)) (fun r => True) := by
 refine go Tryz.func355 (by kernel_rfl) ?_
 repeat' first
 | (conv => whnf); first
  | refine bD (fun h => ?_) fun h => ?_
  | refine bJ (fun h => ?_) fun h => ?_
  | refine br (fun h => ?_) fun h => ?_
  | refine wC (w430 _ _) fun z430 hz => ?_
  | refine ⟨(2 : Int),rfl,?_⟩
  | refine ⟨(1 : Int),rfl,?_⟩
  | refine ⟨(0 : Int),rfl,?_⟩
 | omega
 | exact True.intro
theorem w356 (a0 : S61) (g0 : (a0.f4.size : Int) ≤ 9223372036854775807) : WQv 356 [.agg (S61.c a0)] (fun r : Int => .sc (.int .i64 r)) (fun r => r = 0 → a0.f4.size ≤ 80) := by
 refine go Tryz.func356 (by kernel_rfl) ?_
 repeat' first
 | with_reducible assumption
 | (conv => whnf); first
  | refine bS (fun h => ?_) fun h => ?_
  | refine bJ (fun h => ?_) fun h => ?_
  | refine wC (w347 _ ?_) fun z347 hz => ?_
  | refine ⟨(0 : Int),rfl,?_⟩
  | refine ⟨(1 : Int),rfl,?_⟩
  | refine ⟨_,rfl,?_⟩
 | omega
 | dsimp only
 | (rw [h]; decide)
theorem w357 (a0 : S61) (g0 : ∀ x ∈ a0.f5,(x.size : Int) ≤ 9223372036854775807) : WQv 357 [.agg (S61.c a0)] (fun r : Int => .sc (.int .i64 r)) (fun r => r = 0 → a0.f5.length ≤ 100 ∧ ∀ x ∈ a0.f5,x.size ≤ 80) := by
 refine go Tryz.func357 (by kernel_rfl) ?_
 repeat' first
 | with_reducible assumption
 | (conv => whnf); first
  | refine bD (fun h => ?_) fun h => ?_
  | refine bJ (fun h => ?_) fun h => ?_
  | refine br (fun h => ?_) fun h => ?_
  | refine ⟨_,List.length_map ..,?_⟩
  | refine V1 (fun (p0 : Int) => 0 ≤ p0 ∧ p0 ≤ (a0.f5.length : Int) ∧ (∀ r : Int,(r = 0 → ∀ y ∈ a0.f5.drop p0.toNat,y.size ≤ 80) → r = 0 → a0.f5.length ≤ 100 ∧ ∀ x ∈ a0.f5,x.size ≤ 80)) (fun p0 => [(1,.box 0 0),(3,.sc (.int .i64 p0))]) (fun _ => ⟨[(0,.box (S61.c a0) false)],1⟩) (fun p0 => ((a0.f5.length : Int) + 1 - p0).toNat) (0 : Int) ?_ (ft [(0,some 0)] rfl rfl rfl ⟨fB rfl rfl rfl,trivial⟩) fun p0 ⟨i0,i1,hk⟩ => ?_
  | refine wE ‹_› ?_ (fun _ => rfl) ?_
  | refine wG ?_ ?_ (fun _ => rfl) fun x hx hm => ?_
  | refine wC (w32 _ ?_) fun z32 key => ?_
  | refine ⟨by kernel_rfl,?_⟩
  | refine ⟨nx _,?_,?_,(ft [(0,some 0)] rfl rfl rfl ⟨fB rfl rfl rfl,trivial⟩)⟩
  | refine ⟨(1 : Int),rfl,?_⟩
  | refine ⟨(7 : Int),rfl,?_⟩
  | refine ⟨(3 : Int),rfl,?_⟩
  | refine ⟨(8 : Int),rfl,?_⟩
  | refine ⟨(0 : Int),rfl,?_⟩
 | omega
 | refine fun r hr => hk r fun hr0 => drop_all i0 ‹a0.f5[p0.toNat]? = some _› ?_ ?_ (hr hr0)
 | dsimp only
 | refine hk _ ?_
 | exact fun r hr hr0 => ⟨by omega,fun x hx => hr hr0 x hx⟩
 | exact fun _ => drop_none ‹_›
 | exact g0 _ hm
 | with_reducible apply And.intro
 | (simp (disch := omega) only [ls] <;> omega)
theorem w358 (a0 : List ByteArray) : WQv 358 [.lst (a0.map cStr)] (fun r : Int => .sc (.int .i64 r)) (fun r => r = 0 → a0.length ≤ 100 ∧ ∀ x ∈ a0,x.size ≤ 64) := by
 refine go Tryz.func358 (by kernel_rfl) ?_
 repeat' first
 | with_reducible assumption
 | (conv => whnf); first
  | refine bD (fun h => ?_) fun h => ?_
  | refine bJ (fun h => ?_) fun h => ?_
  | refine ⟨_,List.length_map ..,?_⟩
  | refine V1 (fun (p0 : Int) => 0 ≤ p0 ∧ p0 ≤ (a0.length : Int) ∧ (∀ r : Int,(r = 0 → ∀ y ∈ a0.drop p0.toNat,y.size ≤ 64) → r = 0 → a0.length ≤ 100 ∧ ∀ x ∈ a0,x.size ≤ 64)) (fun p0 => [(0,.lst (List.map cStr a0)),(3,.sc (.int .i64 p0))]) (fun _ => ⟨[],0⟩) (fun p0 => ((a0.length : Int) + 1 - p0).toNat) (0 : Int) ?_ (ft [] rfl rfl rfl trivial) fun p0 ⟨i0,i1,hk⟩ => ?_
  | refine wG ?_ ?_ (fun _ => rfl) fun x hx hm => ?_
  | refine wC (w71 _) fun z71 key => ?_
  | refine ⟨nx _,?_,?_,(ft [] rfl rfl rfl trivial)⟩
  | refine ⟨(7 : Int),rfl,?_⟩
  | refine ⟨_,rfl,?_⟩
 | omega
 | dsimp only
 | refine hk _ ?_
 | refine fun r hr => hk r fun hr0 => drop_all ‹_› hx (by omega) ?_ (hr hr0)
 | exact fun r hr hr0 => ⟨by omega,fun x hx => hr hr0 x hx⟩
 | exact fun _ => drop_none ‹_›
 | with_reducible apply And.intro
 | (simp (disch := omega) only [ls] <;> omega)
theorem w434 (a0 : Int) : WQv 434 [.sc (.int .i64 a0)] (fun r : Bool => .sc (.bool r)) (fun r => True) := by
 refine go Tryz.func434 (by kernel_rfl) ?_
 repeat' first
 | (conv => whnf); first
  | refine bD (fun h => ?_) fun h => ?_
  | refine ⟨true,rfl,?_⟩
  | refine ⟨_,rfl,?_⟩
 | exact True.intro
theorem w432 (a0 : List S179) (g0 : ∀ x ∈ a0,(x.f0.size : Int) ≤ 9223372036854775807) : WQv 432 [.lst (a0.map S179.c)] (fun r : Int => .sc (.int .i64 r)) (fun r => r = 0 → a0.length ≤ 100 ∧ ∀ x ∈ a0,x.f0.size ≤ 80) := by
 refine go Tryz.func432 (by kernel_rfl) ?_
 repeat' first
 | with_reducible assumption
 | (conv => whnf); first
  | refine bD (fun h => ?_) fun h => ?_
  | refine bJ (fun h => ?_) fun h => ?_
  | refine br (fun h => ?_) fun h => ?_
  | refine ⟨_,List.length_map ..,?_⟩
  | refine V1 (fun (p0 : Int) => 0 ≤ p0 ∧ p0 ≤ (a0.length : Int) ∧ (∀ r : Int,(r = 0 → ∀ y ∈ a0.drop p0.toNat,y.f0.size ≤ 80) → r = 0 → a0.length ≤ 100 ∧ ∀ x ∈ a0,x.f0.size ≤ 80)) (fun p0 => [(0,.lst (List.map S179.c a0)),(3,.sc (.int .i64 p0))]) (fun _ => ⟨[],0⟩) (fun p0 => ((a0.length : Int) + 1 - p0).toNat) (0 : Int) ?_ (ft [] rfl rfl rfl trivial) fun p0 ⟨i0,i1,hk⟩ => ?_
  | refine wE ‹_› ?_ (fun _ => rfl) ?_
  | refine wG ?_ ?_ (fun _ => rfl) fun x hx hm => ?_
  | refine wC (w347 _ ?_) fun z347 key => ?_
  | refine ⟨by kernel_rfl,?_⟩
  | refine wC (w434 _) fun z434 hz => ?_
  | refine ⟨nx _,?_,?_,(ft [] rfl rfl rfl trivial)⟩
  | refine ⟨(7 : Int),rfl,?_⟩
  | refine ⟨(3 : Int),rfl,?_⟩
  | refine ⟨(8 : Int),rfl,?_⟩
  | refine ⟨(2 : Int),rfl,?_⟩
  | refine ⟨(0 : Int),rfl,?_⟩
 | omega
 | refine fun r hr => hk r fun hr0 => drop_all i0 ‹a0[p0.toNat]? = some _› ?_ ?_ (hr hr0)
 | dsimp only
 | refine hk _ ?_
 | exact fun r hr hr0 => ⟨by omega,fun x hx => hr hr0 x hx⟩
 | exact fun _ => drop_none ‹_›
 | exact g0 _ hm
 | with_reducible apply And.intro
 | (simp (disch := omega) only [ls] <;> omega)
theorem w433 (a0 : List S215) : WQv 433 [.lst (a0.map S215.c)] (fun r : Int => .sc (.int .i64 r)) (fun r => r = 0 → a0.length ≤ 100) := by
 refine go Tryz.func433 (by kernel_rfl) ?_
 repeat' first
 | with_reducible assumption
 | (conv => whnf); first
  | refine bD (fun h => ?_) fun h => ?_
  | refine bN (fun h => ?_) fun h => ?_
  | refine br (fun h => ?_) fun h => ?_
  | refine ⟨_,List.length_map ..,?_⟩
  | refine V1 (fun (p0 : Int) => 0 ≤ p0 ∧ p0 ≤ (a0.length : Int)) (fun p0 => [(0,.lst (List.map S215.c a0)),(3,.sc (.int .i64 p0))]) (fun _ => ⟨[],0⟩) (fun p0 => ((a0.length : Int) + 1 - p0).toNat) (0 : Int) ?_ (ft [] rfl rfl rfl trivial) fun p0 ⟨i0,i1⟩ => ?_
  | refine wE ‹_› ?_ (fun _ => rfl) ?_
  | refine wG ?_ ?_ (fun _ => rfl) fun x hx hm => ?_
  | refine wC (w350 _) fun z350 hz => ?_
  | refine ⟨by kernel_rfl,?_⟩
  | refine wC (w434 _) fun z434 hz => ?_
  | refine ⟨nx _,?_,?_,(ft [] rfl rfl rfl trivial)⟩
  | refine ⟨(7 : Int),rfl,?_⟩
  | refine ⟨(1 : Int),rfl,?_⟩
  | refine ⟨(8 : Int),rfl,?_⟩
  | refine ⟨(2 : Int),rfl,?_⟩
  | refine ⟨(0 : Int),rfl,?_⟩
 | omega
 | with_reducible apply And.intro
 | (simp (disch := omega) only [ls] <;> omega)
end Go.Abs.RM
