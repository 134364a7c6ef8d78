/- Walks to a property. -/
import Derived.Test.YthbenojbjjgnaaaGreatUAr
set_option linter.unusedVariables false
set_option linter.unusedSimpArgs false
set_option linter.unusedSectionVars false
section
namespace Go.Abs.RM
open Go.Proofs
set_option maxRecDepth 100000
set_option maxHeartbeats 40000000
theorem w1140 (a0 : List ByteArray) (a1 : ByteArray) (g0 : a0.length ≤ 1000000) : WQv 140 [.lst (a0.map cStr),.sc (.string a1)] (fun r : List ByteArray => .lst (r.map cStr)) (fun r => InsP a0 a1 r) := by
 refine go Tryz.func140 (by kernel_rfl) ?_
 repeat' first
  | with_reducible assumption
  | (conv => whnf); first
    | refine wE ‹_› ?_ (fun _ => rfl) ?_
    | refine bD (fun h => ?_) fun h => ?_
    | refine bS (fun h => ?_) fun h => ?_
    | refine br (fun h => ?_) fun h => ?_
    | refine V1 (fun (p0 : Int) => 0 ≤ p0 ∧ p0 ≤ (a0.length : Int) ∧ PlaceP a0 p0.toNat a1) (fun p0 => [(0,.lst (List.map cStr a0)),(1,.sc (.string a1)),(5,.sc (.int .i64 p0))]) (fun _ => ⟨[],0⟩) (fun p0 => ((a0.length : Int) + 1 - p0).toNat) (0 : Int) ?_ (ft [] rfl rfl rfl trivial) fun p0 ⟨i0,i1,i2⟩ => ?_
    | refine ⟨_,List.length_map ..,?_⟩
    | refine wG ?_ ?_ (fun _ => rfl) fun x hx hm => ?_
    | refine ⟨nx _,?_,?_,(ft [] rfl rfl rfl trivial)⟩
    | refine ⟨lens_map (f := cStr) (fun _ => rfl),?_,?_,slB _ ?_⟩
    | refine ⟨lens_map (f := cStr) (fun _ => rfl),?_,?_,slA _ _ ?_⟩
    | refine wA (l := []) (f := cStr) (m := _) rfl (fun _ => ⟨rfl,rfl⟩) ?_ ?_ ?_
    | refine wA (f := cStr) (m := [_]) rfl (fun _ => ⟨rfl,rfl⟩) ?_ ?_ ?_
    | refine wA (f := cStr) (m := _) rfl (fun _ => ⟨rfl,rfl⟩) ?_ ?_ ?_
    | refine ⟨_,_,deep0 (leafs_map (f := cStr) (fun _ => rfl) _),?_⟩
    | refine ⟨_,rfl,?_⟩
  | omega
  | exact PlaceP.zero
  | exact PlaceP.step i2 i0 (by omega) hx ‹sop .lss _ _ = true›
  | exact ins_keep hx ‹_ = _›
  | exact ins_put i2 (.inl (by omega))
  | exact ins_put i2 (.inr ⟨_,hx,sop_f ‹sop .lss _ _ = false›,‹_ ≠ _›⟩)
  | dsimp only
  | with_reducible apply And.intro
  | (simp (disch := omega) only [ls] <;> omega)
theorem w1136 (a0 : List ByteArray) (g0 : a0.length ≤ 1000000) : WQv 136 [.lst (a0.map cStr)] (fun r : List ByteArray => .lst (r.map cStr)) (fun r => SetP (· ∈ a0) a0.length r) := by
 refine go Tryz.func136 (by kernel_rfl) ?_
 repeat' first
  | with_reducible assumption
  | (conv => whnf); first
    | refine wLE ‹_› ?_
    | refine wE ‹_› ?_ (fun _ => rfl) ?_
    | refine wL (i := q0) ?_ ?_ fun y0 hx => ?_
    | refine wG (l := a0) ?_ ?_ (fun _ => rfl) fun x1 hx hm => ?_
    | refine wL (i := IntKind.wrap .i64 (v1 - (1 : Int))) ?_ ?_ fun y2 hx => ?_
    | refine bD (fun h => ?_) fun h => ?_
    | refine bS (fun h => ?_) fun h => ?_
    | refine br (fun h => ?_) fun h => ?_
    | refine V2 (fun (p0 : List ByteArray) (p1 : Int) => 0 ≤ p1 ∧ p1 ≤ (a0.length : Int) ∧ (p0.length : Int) ≤ p1 ∧ NamesI a0 p0 p1) (fun _ p1 => [(0,.lst (List.map cStr a0)),(3,.row 0),(4,.sc (.int .i64 p1))]) (fun p0 _ => ⟨[(0,.row (List.map cStr p0) 1 false 0)],1⟩) (fun _ p1 => ((a0.length : Int) + 1 - p1).toNat) [] (0 : Int) ?_ (ft [(0,none)] rfl rfl rfl ⟨fitO_nil rfl rfl,trivial⟩) fun p0 p1 ⟨i0,i1,i2,i3⟩ => ?_
    | refine ⟨_,List.length_map ..,?_⟩
    | refine V1 (fun (q0 : Int) => 0 ≤ q0 ∧ q0 ≤ (p0.length : Int) ∧ (∀ x,a0[p1.toNat]? = some x → PlaceP p0 q0.toNat x)) (fun q0 => [(0,.lst (List.map cStr a0)),(3,.row 0),(4,.sc (.int .i64 p1)),(5,.sc (.int .i64 q0))]) (fun _ => ⟨[(0,.row (List.map cStr p0) 1 false 0)],1⟩) (fun q0 => ((p0.length : Int) + 1 - q0).toNat) (0 : Int) ?_ (ft [(0,some 0)] rfl rfl rfl ⟨fR rfl rfl fun _ => rfl,trivial⟩) fun q0 ⟨i0,i1,i2⟩ => ?_
    | refine wR ?_ ?_ ?_
    | refine ⟨by kernel_rfl,?_⟩
    | refine ⟨nx _,?_,?_,(ft [(0,some 0)] rfl rfl rfl ⟨fR rfl rfl fun _ => rfl,trivial⟩)⟩
    | refine ⟨⟨_,nx _⟩,?_,?_,(ft [(0,some 0)] rfl rfl rfl ⟨fR rfl rfl fun _ => rfl,trivial⟩)⟩
    | refine wA (f := cStr) (m := [_]) rfl (fun _ => ⟨rfl,rfl⟩) ?_ ?_ ?_
    | refine wL ?_ ?_ fun x hx => ?_
    | refine ⟨_,(List.map_set (f := cStr) (a := y2)).symm,?_⟩
    | refine ⟨⟨_,IntKind.wrap .i64 (v1 - (1 : Int))⟩,?_,?_,(ft [(0,some 0)] rfl rfl rfl ⟨fR rfl rfl fun _ => rfl,trivial⟩)⟩
    | refine ⟨_,(List.map_set (f := cStr) (a := x1)).symm,?_⟩
    | refine V2 (fun (v0 : List ByteArray) (v1 : Int) => 0 ≤ v1 ∧ q0 ≤ v1 ∧ v1 ≤ (p0.length : Int) ∧ (p0.length : Int) < v0.length ∧ (v0.length : Int) ≤ p0.length + 1 ∧ ShiftP p0 v0 v1) (fun _ v1 => [(0,.lst (List.map cStr a0)),(3,.row 0),(4,.sc (.int .i64 p1)),(5,.sc (.int .i64 q0)),(6,.sc (.int .i64 v1))]) (fun v0 _ => ⟨[(0,.row (List.map cStr v0) 1 false 0)],1⟩) (fun _ v1 => (v1 + 1).toNat) (p0 ++ [zS]) (IntKind.wrap .i64 (((p0 ++ [zS]).length : Int) - (1 : Int))) ?_ (ft [(0,some 2)] rfl rfl rfl ⟨fR rfl rfl fun _ => rfl,trivial⟩) fun v0 v1 ⟨i0,i1,i2,i3,i4,i5⟩ => ?_
    | refine ⟨_,_,deep0 (leafs_map (f := cStr) (fun _ => rfl) _),?_⟩
    | refine ⟨_,rfl,?_⟩
  | omega
  | exact NamesI.zero
  | exact NamesI.fin ‹NamesI a0 p0 p1› (by omega) (by omega)
  | exact fun x _ => PlaceP.zero
  | exact placeAll i0 (by omega) ‹p0[q0.toNat]? = some _› ‹a0[p1.toNat]? = some _› i2 ‹sop .lss _ _ = true›
  | exact NamesI.ins ‹NamesI a0 p0 p1› (by omega) (by omega) ‹a0[p1.toNat]? = some _› (ins_keep ‹p0[q0.toNat]? = some _› ‹_ = _›)
  | exact ShiftP.init (by simp (disch := omega) only [ls]; omega)
  | exact ShiftP.step ‹ShiftP p0 v0 v1› (by omega) (by omega) (wrap_i64 (by omega) (by omega)) ‹v0[(IntKind.wrap .i64 (v1 - (1 : Int))).toNat]? = some _›
  | exact NamesI.new ‹NamesI a0 p0 p1› (by omega) (by omega) ‹a0[p1.toNat]? = some _› (by omega) (by omega) ‹∀ x,a0[p1.toNat]? = some x → PlaceP p0 q0.toNat x› (.inl (by omega)) (ShiftP.at ‹ShiftP p0 v0 v1› (by omega))
  | exact NamesI.new ‹NamesI a0 p0 p1› (by omega) (by omega) ‹a0[p1.toNat]? = some _› (by omega) (by omega) ‹∀ x,a0[p1.toNat]? = some x → PlaceP p0 q0.toNat x› (.inr ⟨_,‹p0[q0.toNat]? = some _›,sop_f ‹sop .lss _ _ = false›,‹_ ≠ _›⟩) (ShiftP.at ‹ShiftP p0 v0 v1› (by omega))
  | dsimp only
  | with_reducible apply And.intro
  | (simp (disch := omega) only [ls] <;> omega)
theorem w1139 (a0 : List S65) (a1 : ByteArray) (g0 : a0.length ≤ 1000000) : WQv 139 [.lst (a0.map S65.c),.sc (.string a1)] (fun r : Int => .sc (.int .i64 r)) (fun r => r = ofS a0 a1) := by
 refine go Tryz.func139 (by kernel_rfl) ?_
 repeat' first
  | with_reducible assumption
  | (conv => whnf); first
    | refine wE ‹_› ?_ (fun _ => rfl) ?_
    | refine bD (fun h => ?_) fun h => ?_
    | refine bS (fun h => ?_) fun h => ?_
    | refine V1 (fun (p0 : Int) => 0 ≤ p0 ∧ p0 ≤ (a0.length : Int) ∧ (∀ e ∈ a0.take p0.toNat,memK a1 e = false)) (fun p0 => [(0,.lst (List.map S65.c a0)),(1,.sc (.string a1)),(5,.sc (.int .i64 p0))]) (fun _ => ⟨[],0⟩) (fun p0 => ((a0.length : Int) + 1 - p0).toNat) (0 : Int) ?_ (ft [] rfl rfl rfl trivial) fun p0 ⟨i0,i1,i2⟩ => ?_
    | refine ⟨_,List.length_map ..,?_⟩
    | refine wG ?_ ?_ (fun _ => rfl) fun x hx hm => ?_
    | refine ⟨nx _,?_,?_,(ft [] rfl rfl rfl trivial)⟩
    | refine ⟨_,rfl,?_⟩
  | omega
  | exact fun y hy => absurd hy List.not_mem_nil
  | exact (ofS_first hx (memK_iff.2 ⟨‹_›,‹_›⟩) i2).symm
  | exact (ofS_none i2 (by omega)).symm
  | exact take_all i2 i0 (by omega) hx (memK_n1 h)
  | exact take_all i2 i0 (by omega) hx (memK_n2 h)
  | with_reducible apply And.intro
  | (simp (disch := omega) only [ls] <;> omega)
theorem w1074 (a0 : List S65) (a1 : Int) (g0 : a0.length ≤ 1000000) : WQv 74 [.lst (a0.map S65.c),.sc (.int .i64 a1)] (fun r : List ByteArray => .lst (r.map cStr)) (fun r => SetP (WithS a0 a1) a0.length r) := by
 refine go Tryz.func74 (by kernel_rfl) ?_
 repeat' first
  | with_reducible assumption
  | (conv => whnf); first
    | refine wE ‹_› ?_ (fun _ => rfl) ?_
    | refine bD (fun h => ?_) fun h => ?_
    | refine V2 (fun (p0 : List ByteArray) (p1 : Int) => 0 ≤ p1 ∧ p1 ≤ (a0.length : Int) ∧ (p0.length : Int) ≤ p1 ∧ WithI a0 a1 p0 p1) (fun p0 p1 => [(0,.lst (List.map S65.c a0)),(1,.sc (.int .i64 a1)),(5,.lst (List.map cStr p0)),(6,.sc (.int .i64 p1))]) (fun _ _ => ⟨[],0⟩) (fun _ p1 => ((a0.length : Int) + 1 - p1).toNat) ([] : List ByteArray) (0 : Int) ?_ (suits_trans (lend_suits 5 rfl rfl (leafs_lit rfl)) (ft [] rfl rfl rfl trivial)) fun p0 p1 ⟨i0,i1,i2,i3⟩ => ?_
    | refine ⟨_,List.length_map ..,?_⟩
    | refine wG ?_ ?_ (fun _ => rfl) fun x hx hm => ?_
    | refine wC (w1139 _ _ ?_) fun z139 hz => ?_
    | refine wC (w1140 _ _ ?_) fun z140 hz => ?_
    | refine ⟨⟨_,nx _⟩,?_,?_,(ft [] rfl rfl rfl trivial)⟩
    | refine ⟨_,rfl,?_⟩
  | omega
  | exact WithI.zero
  | exact WithI.fin i3 (by omega) (by omega)
  | exact WithI.keep i3 i0 (by omega) hx fun q => absurd q h
  | exact WithI.keep i3 i0 (by omega) hx fun _ e => h (‹z139 = ofS _ _›.trans e)
  | exact WithI.ins i3 i0 (by omega) hx ‹S65.f3 _ = 2› (‹z139 = ofS _ _›.symm.trans ‹z139 = a1›) ‹InsP _ _ _›
  | (have := InsP.len ‹InsP _ _ z140›; simp (disch := omega) only [ls] <;> omega)
  | dsimp only
  | with_reducible apply And.intro
  | (simp (disch := omega) only [ls] <;> omega)
theorem w1135 (a0 : List S103) (a1 : Int) (a2 : ByteArray) (g0 : PolB a0) (g1 : (a2.size : Int) ≤ 1000000) : WQv 135 [.lst (a0.map S103.c),.sc (.int .i64 a1),.sc (.string a2)] (fun r : S103 × Bool => .tup [.agg (S103.c r.1),.sc (.bool r.2)]) (fun r => r = matchS a0 a1 a2) := by
 refine go Tryz.func135 (by kernel_rfl) ?_
 have hg := g0.1
 repeat' first
  | with_reducible assumption
  | (conv => whnf); first
    | refine wE ‹_› ?_ (fun _ => rfl) ?_
    | refine bD (fun h => ?_) fun h => ?_
    | refine br (fun h => ?_) fun h => ?_
    | refine V2 (fun (p0 : S103) (p1 : Int) => 0 ≤ p1 ∧ p1 ≤ (a0.length : Int) ∧ matchS (a0.drop p1.toNat) a1 a2 = matchS a0 a1 a2) (fun _ p1 => [(0,.lst (List.map S103.c a0)),(1,.sc (.int .i64 a1)),(2,.sc (.string a2)),(6,.box 0 0),(8,.sc (.int .i64 p1))]) (fun p0 _ => ⟨[(0,.box (S103.c p0) false)],1⟩) (fun _ p1 => ((a0.length : Int) + 1 - p1).toNat) ze103 (0 : Int) ?_ (ft [(0,some 0)] rfl rfl rfl ⟨fB rfl rfl rfl,trivial⟩) fun p0 p1 ⟨i0,i1,i2⟩ => ?_
    | refine ⟨_,List.length_map ..,?_⟩
    | refine wG ?_ ?_ (fun _ => rfl) fun x hx hm => ?_
    | refine wC (w1030 _ _ ?_ ?_) fun z30 hz => ?_
    | refine ⟨⟨_,nx _⟩,?_,?_,(ft [(0,some 0)] rfl rfl rfl ⟨fB rfl rfl rfl,trivial⟩)⟩
    | refine ⟨(_,true),rfl,?_⟩
    | refine ⟨(ze103,false),rfl,?_⟩
  | omega
  | (have := g0.2 _ hm; omega)
  | exact match_hit i2 i0 (by omega) hx ‹_› (‹z30 = gm _ _›.symm.trans ‹z30 = true›)
  | exact match_end i2 (by omega)
  | exact match_skip i2 i0 (by omega) hx (.inl ‹_›)
  | exact match_skip i2 i0 (by omega) hx (.inr (‹z30 = gm _ _›.symm.trans ‹z30 = false›))
  | dsimp only
  | with_reducible apply And.intro
  | (simp (disch := omega) only [ls] <;> omega)
  | grind
theorem w1067 (a0 : List S103) (a1 : List ByteArray) (g0 : PolB a0) (g1 : a1.length ≤ 1000000) (g2 : ∀ x ∈ a1,x.size ≤ 1000000) : WQv 67 [.lst (a0.map S103.c),.lst (a1.map cStr)] (fun r : List ByteArray => .lst (r.map cStr)) (fun r => SetP (fun x => x ∈ a1 ∧ metS a0 x = true) a1.length r) := by
 refine go Tryz.func67 (by kernel_rfl) ?_
 repeat' first
  | with_reducible assumption
  | (conv => whnf); first
    | refine wE ‹_› ?_ (fun _ => rfl) ?_
    | refine bD (fun h => ?_) fun h => ?_
    | refine bN (fun h => ?_) fun h => ?_
    | refine br (fun h => ?_) fun h => ?_
    | refine V2 (fun (p0 : List ByteArray) (p1 : Int) => 0 ≤ p1 ∧ p1 ≤ (a1.length : Int) ∧ (p0.length : Int) ≤ p1 ∧ p0 = (a1.take p1.toNat).filter (metS a0)) (fun _ p1 => [(0,.lst (List.map S103.c a0)),(1,.lst (List.map cStr a1)),(5,.row 0),(6,.sc (.int .i64 p1))]) (fun p0 _ => ⟨[(0,.row (List.map cStr p0) 1 false 0)],1⟩) (fun _ p1 => ((a1.length : Int) + 1 - p1).toNat) [] (0 : Int) ?_ (ft [(0,none)] rfl rfl rfl ⟨fitO_nil rfl rfl,trivial⟩) fun p0 p1 ⟨i0,i1,i2,i3⟩ => ?_
    | refine ⟨_,List.length_map ..,?_⟩
    | refine wG ?_ ?_ (fun _ => rfl) fun x hx hm => ?_
    | refine wC (w1135 _ (2 : Int) _ ?_ ?_) fun z135 hz => ?_
    | refine wC (w1028 _ ?_) fun z28 hz => ?_
    | refine wC (w1135 _ (6 : Int) _ ?_ ?_) fun z135 hz => ?_
    | refine wA (f := cStr) (m := [_]) rfl (fun _ => ⟨rfl,rfl⟩) ?_ ?_ ?_
    | refine ⟨⟨_,nx _⟩,?_,?_,(ft [(0,some 3)] rfl rfl rfl ⟨fR rfl rfl fun _ => rfl,trivial⟩)⟩
    | refine ⟨⟨_,nx _⟩,?_,?_,(ft [(0,some 0)] rfl rfl rfl ⟨fR rfl rfl fun _ => rfl,trivial⟩)⟩
    | refine ⟨_,_,deep0 (leafs_map (f := cStr) (fun _ => rfl) _),?_⟩
    | refine wC (w1136 _ ?_) fun z136 hz => ?_
    | refine ⟨_,rfl,?_⟩
  | omega
  | exact rfl
  | exact users_fin ‹SetP _ _ _› i3 (by omega) (by omega)
  | (have := g2 _ hm; omega)
  | (have := g2 _ hm; have := srvOf_size x; rw [‹z28 = srvOf _›]; omega)
  | exact flt_t i3 i0 (by omega) hx (met1 ‹_ = matchS _ 2 _› ‹_›)
  | exact flt_t i3 i0 (by omega) hx (met2 ‹_ = matchS _ 2 _› ‹_› ‹_ = srvOf _› ‹_› ‹_ = matchS _ 6 _› ‹_›)
  | exact flt_f i3 i0 (by omega) hx (met2 ‹_ = matchS _ 2 _› ‹_› ‹_ = srvOf _› ‹_› ‹_ = matchS _ 6 _› ‹_›)
  | exact flt_f i3 i0 (by omega) hx (met3 ‹_ = matchS _ 2 _› ‹_› ‹_ = srvOf _› ‹_›)
  | dsimp only
  | with_reducible apply And.intro
  | (simp (disch := omega) only [ls] <;> omega)
  | grind
theorem w1070 (a0 : List S103) (g0 : PolB a0) : WQv 70 [.lst (a0.map S103.c)] (fun r : List ByteArray => .lst (r.map cStr)) (fun r => SetP (· ∈ denyL a0) 12 r) := by
 refine go Tryz.func70 (by kernel_rfl) ?_
 have hg := g0.1
 repeat' first
  | with_reducible assumption
  | (conv => whnf); first
    | refine wE ‹_› ?_ (fun _ => rfl) ?_
    | refine bD (fun h => ?_) fun h => ?_
    | refine V2 (fun (p0 : List ByteArray) (p1 : Int) => 0 ≤ p1 ∧ p1 ≤ (a0.length : Int) ∧ (p0.length : Int) ≤ p1 ∧ p0 = denyL (a0.take p1.toNat)) (fun _ p1 => [(0,.lst (List.map S103.c a0)),(3,.row 0),(4,.sc (.int .i64 p1))]) (fun p0 _ => ⟨[(0,.row (List.map cStr p0) 1 false 0)],1⟩) (fun _ p1 => ((a0.length : Int) + 1 - p1).toNat) [] (0 : Int) ?_ (ft [(0,none)] rfl rfl rfl ⟨fitO_nil rfl rfl,trivial⟩) fun p0 p1 ⟨i0,i1,i2,i3⟩ => ?_
    | refine ⟨_,List.length_map ..,?_⟩
    | refine wG ?_ ?_ (fun _ => rfl) fun x hx hm => ?_
    | refine wA (f := cStr) (m := [_]) rfl (fun _ => ⟨rfl,rfl⟩) ?_ ?_ ?_
    | refine ⟨⟨_,nx _⟩,?_,?_,(ft [(0,some 2)] rfl rfl rfl ⟨fR rfl rfl fun _ => rfl,trivial⟩)⟩
    | refine ⟨⟨_,nx _⟩,?_,?_,(ft [(0,some 0)] rfl rfl rfl ⟨fR rfl rfl fun _ => rfl,trivial⟩)⟩
    | refine ⟨_,_,deep0 (leafs_map (f := cStr) (fun _ => rfl) _),?_⟩
    | refine wC (w1136 _ ?_) fun z136 hz => ?_
    | refine ⟨_,rfl,?_⟩
  | omega
  | exact rfl
  | exact deny_fin ‹SetP _ _ _› i3 (by omega) (by omega)
  | exact deny_t i3 i0 (by omega) hx ‹_›
  | exact deny_f i3 i0 (by omega) hx ‹_›
  | dsimp only
  | with_reducible apply And.intro
  | (simp (disch := omega) only [ls] <;> omega)
end Go.Abs.RM
end
section
namespace Go.Abs.RM
open Go.Proofs
set_option maxRecDepth 100000
set_option maxHeartbeats 40000000
theorem w1069 (a0 : List S103) (a1 : ByteArray) (g0 : PolB a0) (g1 : (a1.size : Int) ≤ 1000000) : WQv 69 [.lst (a0.map S103.c),.sc (.string a1)] (fun r : ByteArray => .sc (.string r)) (fun r => r = reaS a0 a1) := by
 refine go Tryz.func69 (by kernel_rfl) ?_
 repeat' first
  | with_reducible assumption
  | (conv => whnf); first
    | refine bN (fun h => ?_) fun h => ?_
    | refine wC (w1135 _ (2 : Int) _ ?_ ?_) fun z135 hz => ?_
    | refine wC (w1028 _ ?_) fun z28 hz => ?_
    | refine wC (w1135 _ (6 : Int) _ ?_ ?_) fun z135 hz => ?_
    | refine ⟨_,rfl,?_⟩
  | omega
  | (have := srvOf_size a1; rw [‹z28 = srvOf _›]; omega)
  | exact rea1 ‹_ = matchS _ 2 _› ‹_›
  | exact rea2 ‹_ = matchS _ 2 _› ‹_› ‹_ = srvOf _› ‹_ = matchS _ 6 _›
theorem w1068 (a0 : List S65) (a1 : ByteArray) (g0 : a0.length ≤ 250000) (g1 : ∀ x ∈ a0,x.f5.size ≤ 1000) : WQv 68 [.lst (a0.map S65.c),.sc (.string a1)] (fun r : List ByteArray => .lst (r.map cStr)) (fun r => Cands a0 a1 [1,2,3] [] r) := by
 refine go Tryz.func68 (by kernel_rfl) ?_
 repeat' first
  | with_reducible assumption
  | (conv => whnf); first
    | refine wLE ‹_› ?_
    | refine bD (fun h => ?_) fun h => ?_
    | refine bT' (fun h => ?_) fun h => ?_
    | refine wC (w1074 a0 (1 : Int) ?_) fun z74 hz => ?_
    | refine wA (l := []) (f := cStr) (m := _) rfl (fun _ => ⟨rfl,rfl⟩) ?_ ?_ ?_
    | refine wC (w1074 a0 (2 : Int) ?_) fun z74_1 hz => ?_
    | refine wA (f := cStr) (m := _) rfl (fun _ => ⟨rfl,rfl⟩) ?_ ?_ ?_
    | refine wC (w1074 a0 (3 : Int) ?_) fun z74_2 hz => ?_
    | (refine V2 (fun (p0 : List ByteArray) (p1 : Int) => 0 ≤ p1 ∧ p1 ≤ (([] ++ z74 ++ z74_1 ++ z74_2).length : Int) ∧ (p0.length : Int) ≤ p1 ∧ p0 = fltS a1 (([] ++ z74 ++ z74_1 ++ z74_2).take p1.toNat)) (fun _ p1 => [(1,.sc (.string a1)),(5,.row 0),(6,.row 1),(7,.sc (.int .i64 p1))]) (fun p0 _ => ⟨[(0,.row (List.map cStr (((([] : List ByteArray) ++ z74) ++ z74_1) ++ z74_2)) 1 false 0),(1,.row (List.map cStr p0) 1 false 1)],2⟩) (fun _ p1 => ((([] ++ z74 ++ z74_1 ++ z74_2).length : Int) + 1 - p1).toNat) ([] : List ByteArray) (0 : Int) ?_ (ft [(0,some 3),(1,some 4)] rfl rfl rfl ⟨fR rfl rfl fun _ => rfl,fR rfl rfl fun _ => rfl,trivial⟩) fun p0 p1 ⟨i0,i1,i2,i3⟩ => ?_; rotate_left; have hw := withs_len ‹SetP (WithS a0 1) _ _› ‹SetP (WithS a0 2) _ _› ‹SetP (WithS a0 3) _ _›; rotate_right)
    | refine ⟨_,List.length_map ..,?_⟩
    | refine wR ?_ ?_ ?_
    | refine wL ?_ ?_ fun x hx => ?_
    | refine wC (w1028 _ ?_) fun z28 hz => ?_
    | refine wA (f := cStr) (m := [_]) rfl (fun _ => ⟨rfl,rfl⟩) ?_ ?_ ?_
    | refine ⟨⟨_,nx _⟩,?_,?_,(ft [(0,some 0),(1,some 3)] rfl rfl rfl ⟨fR rfl rfl fun _ => rfl,fR rfl rfl fun _ => rfl,trivial⟩)⟩
    | refine ⟨⟨_,nx _⟩,?_,?_,(ft [(0,some 0),(1,some 1)] rfl rfl rfl ⟨fR rfl rfl fun _ => rfl,fR rfl rfl fun _ => rfl,trivial⟩)⟩
    | refine ⟨_,_,deep0 (leafs_map (f := cStr) (fun _ => rfl) _),?_⟩
    | refine ⟨_,rfl,?_⟩
  | omega
  | exact rfl
  | exact cands_fin ‹_› ‹_› ‹_› i3 (by assumption)
  | exact fltS_t i3 i0 (by omega) hx ‹_ = srvOf _› ‹_›
  | exact fltS_f i3 i0 (by omega) hx ‹_ = srvOf _› ‹_›
  | exact withs_small g1 ‹SetP (WithS a0 1) _ _› ‹SetP (WithS a0 2) _ _› ‹SetP (WithS a0 3) _ _› (List.mem_of_getElem? hx)
  | (simp only [List.length_append,List.length_nil]; have h1 := SetP.len ‹SetP (WithS a0 1) _ _›; first | omega | (have h2 := SetP.len ‹SetP (WithS a0 2) _ _›; first | omega | (have h3 := SetP.len ‹SetP (WithS a0 3) _ _›; omega)))
  | dsimp only
  | with_reducible apply And.intro
  | (simp (disch := omega) only [ls] <;> omega)
  | grind
theorem w1023 (a0 : List ByteArray) (g0 : (a0.length : Int) ≤ 9223372036854775807) : WQv 23 [.lst (a0.map cStr),.lst (a0.map cStr)] (fun r : Bool => .sc (.bool r)) (fun r => r = true) := by
 refine go Tryz.func23 (by kernel_rfl) ?_
 repeat' first
  | with_reducible assumption
  | (conv => whnf); first
    | refine wE ‹_› ?_ (fun _ => rfl) ?_
    | refine bJ (fun h => ?_) fun h => ?_
    | refine bD (fun h => ?_) fun h => ?_
    | refine bT' (fun h => ?_) fun h => ?_
    | refine ⟨_,List.length_map ..,?_⟩
    | refine ⟨false,rfl,?_⟩
    | refine V1 (fun (p0 : Int) => 0 ≤ p0 ∧ p0 ≤ (a0.length : Int)) (fun p0 => [(0,.lst (List.map cStr a0)),(1,.lst (List.map cStr a0)),(5,.sc (.int .i64 p0))]) (fun _ => ⟨[],0⟩) (fun p0 => ((a0.length : Int) + 1 - p0).toNat) (0 : Int) ?_ (ft [] rfl rfl rfl trivial) fun p0 ⟨i0,i1⟩ => ?_
    | refine wG ?_ ?_ (fun _ => rfl) fun x hx hm => ?_
    | refine ⟨by kernel_rfl,?_⟩
    | refine ⟨nx _,?_,?_,(ft [] rfl rfl rfl trivial)⟩
    | refine ⟨true,rfl,?_⟩
  | omega
  | contradiction
  | rfl
  | with_reducible apply And.intro
  | (simp (disch := omega) only [ls] <;> omega)
theorem w1161 (a0 : List ByteArray) (g0 : (a0.length : Int) ≤ 9223372036854775807) : WQv 161 [.lst (a0.map cStr),.lst (a0.map cStr)] (fun r : Bool => .sc (.bool r)) (fun r => r = true) := by
 refine go Tryz.func161 (by kernel_rfl) ?_
 repeat' first
  | with_reducible assumption
  | (conv => whnf); first
    | refine wE ‹_› ?_ (fun _ => rfl) ?_
    | refine bJ (fun h => ?_) fun h => ?_
    | refine bD (fun h => ?_) fun h => ?_
    | refine bT' (fun h => ?_) fun h => ?_
    | refine ⟨_,List.length_map ..,?_⟩
    | refine ⟨false,rfl,?_⟩
    | refine V1 (fun (p0 : Int) => 0 ≤ p0 ∧ p0 ≤ (a0.length : Int)) (fun p0 => [(0,.lst (List.map cStr a0)),(1,.lst (List.map cStr a0)),(5,.sc (.int .i64 p0))]) (fun _ => ⟨[],0⟩) (fun p0 => ((a0.length : Int) + 1 - p0).toNat) (0 : Int) ?_ (ft [] rfl rfl rfl trivial) fun p0 ⟨i0,i1⟩ => ?_
    | refine wG ?_ ?_ (fun _ => rfl) fun x hx hm => ?_
    | refine ⟨by kernel_rfl,?_⟩
    | refine ⟨nx _,?_,?_,(ft [] rfl rfl rfl trivial)⟩
    | refine ⟨true,rfl,?_⟩
  | omega
  | contradiction
  | rfl
  | with_reducible apply And.intro
  | (simp (disch := omega) only [ls] <;> omega)
theorem w1045 (a0 : List Int) (g0 : (a0.length : Int) ≤ 9223372036854775807) : WQv 45 [.lst (a0.map c_i64),.lst (a0.map c_i64)] (fun r : Bool => .sc (.bool r)) (fun r => r = true) := by
 refine go Tryz.func45 (by kernel_rfl) ?_
 repeat' first
  | with_reducible assumption
  | (conv => whnf); first
    | refine wE ‹_› ?_ (fun _ => rfl) ?_
    | refine bJ (fun h => ?_) fun h => ?_
    | refine bD (fun h => ?_) fun h => ?_
    | refine ⟨_,List.length_map ..,?_⟩
    | refine ⟨false,rfl,?_⟩
    | refine V1 (fun (p0 : Int) => 0 ≤ p0 ∧ p0 ≤ (a0.length : Int)) (fun p0 => [(0,.lst (List.map c_i64 a0)),(1,.lst (List.map c_i64 a0)),(5,.sc (.int .i64 p0))]) (fun _ => ⟨[],0⟩) (fun p0 => ((a0.length : Int) + 1 - p0).toNat) (0 : Int) ?_ (ft [] rfl rfl rfl trivial) fun p0 ⟨i0,i1⟩ => ?_
    | refine wG ?_ ?_ (fun _ => rfl) fun x hx hm => ?_
    | refine ⟨by kernel_rfl,?_⟩
    | refine ⟨nx _,?_,?_,(ft [] rfl rfl rfl trivial)⟩
    | refine ⟨true,rfl,?_⟩
  | omega
  | rfl
  | with_reducible apply And.intro
  | (simp (disch := omega) only [ls] <;> omega)
theorem w1162 (a0 : S59) (g0 : (a0.f0.length : Int) ≤ 9223372036854775807) (g1 : (a0.f1.length : Int) ≤ 9223372036854775807) : WQv 162 [.agg (S59.c a0),.agg (S59.c a0)] (fun r : Bool => .sc (.bool r)) (fun r => r = true) := by
 refine go Tryz.func162 (by kernel_rfl) ?_
 repeat' first
  | with_reducible assumption
  | (conv => whnf); first
    | refine wE ‹_› ?_ (fun _ => rfl) ?_
    | refine bJ (fun h => ?_) fun h => ?_
    | refine bD (fun h => ?_) fun h => ?_
    | refine bT' (fun h => ?_) fun h => ?_
    | refine ⟨_,List.length_map ..,?_⟩
    | refine ⟨false,rfl,?_⟩
    | refine V1 (fun (p0 : Int) => 0 ≤ p0 ∧ p0 ≤ (a0.f0.length : Int)) (fun p0 => [(2,.box 0 0),(3,.box 1 0),(5,.sc (.int .i64 p0))]) (fun _ => ⟨[(0,.box (S59.c a0) false),(1,.box (S59.c a0) false)],2⟩) (fun p0 => ((a0.f0.length : Int) + 1 - p0).toNat) (0 : Int) ?_ (ft [(0,some 0),(1,some 1)] rfl rfl rfl ⟨fB rfl rfl rfl,fB rfl rfl rfl,trivial⟩) fun p0 ⟨i0,i1⟩ => ?_
    | refine wG ?_ ?_ (fun _ => rfl) fun x hx hm => ?_
    | refine ⟨by kernel_rfl,?_⟩
    | refine ⟨nx _,?_,?_,(ft [(0,some 0),(1,some 1)] rfl rfl rfl ⟨fB rfl rfl rfl,fB rfl rfl rfl,trivial⟩)⟩
    | refine V1 (fun (q0 : Int) => 0 ≤ q0 ∧ q0 ≤ (a0.f1.length : Int)) (fun q0 => [(2,.box 0 0),(3,.box 1 0),(6,.sc (.int .i64 q0))]) (fun _ => ⟨[(0,.box (S59.c a0) false),(1,.box (S59.c a0) false)],2⟩) (fun q0 => ((a0.f1.length : Int) + 1 - q0).toNat) (0 : Int) ?_ (ft [(0,some 0),(1,some 1)] rfl rfl rfl ⟨fB rfl rfl rfl,fB rfl rfl rfl,trivial⟩) fun q0 ⟨i0,i1⟩ => ?_
    | refine ⟨_,rfl,?_⟩
  | omega
  | contradiction
  | exact beq_self_eq_true _
  | with_reducible apply And.intro
  | (simp (disch := omega) only [ls] <;> omega)
theorem w1095 (a0 : S61) (g0 : (a0.f5.length : Int) ≤ 9223372036854775807) (g1 : (a0.f6.length : Int) ≤ 9223372036854775807) (g2 : (a0.f7.f0.length : Int) ≤ 9223372036854775807) (g3 : (a0.f7.f1.length : Int) ≤ 9223372036854775807) : WQv 95 [.agg (S61.c a0),.agg (S61.c a0)] (fun r : Bool => .sc (.bool r)) (fun r => r = true) := by
 refine go Tryz.func95 (by kernel_rfl) ?_
 repeat' first
  | with_reducible assumption
  | (conv => whnf); first
    | refine bS (fun h => ?_) fun h => ?_
    | refine bI (fun h => ?_) fun h => ?_
    | refine br (fun h => ?_) fun h => ?_
    | refine wC (w1161 _ ?_) fun z161 hz => ?_
    | refine wC (w1162 _ ?_ ?_) fun z162 hz => ?_
    | refine ⟨false,rfl,?_⟩
    | refine ⟨_,rfl,?_⟩
  | omega
  | contradiction
  | dsimp only
  | grind
end Go.Abs.RM
end
section
namespace Go.Abs.RM
open Go.Proofs
set_option maxRecDepth 100000
set_option maxHeartbeats 40000000
theorem w1047 (a0 : S65) (g0 : Slim a0) : WQv 47 [.agg (S65.c a0),.agg (S65.c a0)] (fun r : Bool => .sc (.bool r)) (fun r => r = true) := by
 refine go Tryz.func47 (by kernel_rfl) ?_
 obtain ⟨s0,s1,s2,s3,s4,s5⟩ := g0
 repeat' first
  | (conv => whnf); first
    | refine bI (fun h => ?_) fun h => ?_
    | refine bS (fun h => ?_) fun h => ?_
    | refine br (fun h => ?_) fun h => ?_
    | refine wC (w1045 _ ?_) fun z45 hz => ?_
    | refine wC (w1095 _ ?_ ?_ ?_ ?_) fun z95 hz => ?_
    | refine ⟨false,rfl,?_⟩
    | refine ⟨_,rfl,?_⟩
  | omega
  | contradiction
  | exact beq_self_eq_true _
  | dsimp only
  | grind
theorem w1011 (a0 : List S65) (g0 : (a0.length : Int) ≤ 9223372036854775807) (g1 : ∀ e ∈ a0,Slim e) : WQv 11 [.lst (a0.map S65.c),.lst (a0.map S65.c)] (fun r : Bool => .sc (.bool r)) (fun r => r = true) := by
 refine go Tryz.func11 (by kernel_rfl) ?_
 repeat' first
  | with_reducible assumption
  | (conv => whnf); first
    | refine wE ‹_› ?_ (fun _ => rfl) ?_
    | refine bJ (fun h => ?_) fun h => ?_
    | refine bD (fun h => ?_) fun h => ?_
    | refine bN (fun h => ?_) fun h => ?_
    | refine ⟨_,List.length_map ..,?_⟩
    | refine ⟨false,rfl,?_⟩
    | refine V1 (fun (p0 : Int) => 0 ≤ p0 ∧ p0 ≤ (a0.length : Int)) (fun p0 => [(0,.lst (List.map S65.c a0)),(1,.lst (List.map S65.c a0)),(5,.sc (.int .i64 p0))]) (fun _ => ⟨[],0⟩) (fun p0 => ((a0.length : Int) + 1 - p0).toNat) (0 : Int) ?_ (ft [] rfl rfl rfl trivial) fun p0 ⟨i0,i1⟩ => ?_
    | refine wG ?_ ?_ (fun _ => rfl) fun x hx hm => ?_
    | refine wC (w1047 _ ?_) fun z47 hz => ?_
    | refine ⟨by kernel_rfl,?_⟩
    | refine ⟨nx _,?_,?_,(ft [] rfl rfl rfl trivial)⟩
    | refine ⟨true,rfl,?_⟩
  | omega
  | rfl
  | dsimp only
  | exact g1 _ hm
  | with_reducible apply And.intro
  | (simp (disch := omega) only [ls] <;> omega)
  | grind
theorem w1024 (a0 : S30) (g0 : RmOK a0) : WQv 24 [.agg (S30.c a0)] (fun r : List ByteArray => .lst (r.map cStr)) (fun r => SetP (WithS (stS a0) 4) (stS a0).length r) := by
 refine go Tryz.func24 (by kernel_rfl) ?_
 repeat' first
  | with_reducible assumption
  | (conv => whnf); first
    | refine wC (w1073 ⟨_⟩ ?_) fun z73 hz => ?_
    | refine wC (w1072 _ (4 : Int) ?_) fun z72 hz => ?_
    | refine ⟨_,rfl,?_⟩
  | (have := st_len ‹z73 = _› g0; omega)
  | dsimp only
  | grind
theorem w1025 (a0 : S30) (g0 : RmOK a0) : WQv 25 [.agg (S30.c a0)] (fun r : List ByteArray => .lst (r.map cStr)) (fun r => SetP (WithS (stS a0) 4) (stS a0).length r) := by
 refine go Tryz.func25 (by kernel_rfl) ?_
 repeat' first
  | with_reducible assumption
  | (conv => whnf); first
    | refine wC (w1027 _ ?_) fun z27 hz => ?_
    | refine wC (w1074 _ (4 : Int) ?_) fun z74 hz => ?_
    | refine ⟨_,rfl,?_⟩
  | (have := stS_len ‹RmOK a0›; subst z27; first | assumption | omega)
theorem w1022 (a0 : S30) (a1 : ByteArray) (a2 : List S103) (g0 : RmOK a0) (g1 : PolB a2) (g2 : (a1.size : Int) ≤ 1000) : WQv 22 [.agg (S30.c a0),.sc (.string a1),.lst (a2.map S103.c)] (fun r : List S65 => .lst (r.map S65.c)) (fun r => PlanP a0 a1 a2 r) := by
 refine go Tryz.func22 (by kernel_rfl) ?_
 repeat' first
  | with_reducible assumption
  | (conv => whnf); first
    | refine wE ‹_› ?_ (fun _ => rfl) ?_
    | refine bD (fun h => ?_) fun h => ?_
    | refine bN (fun h => ?_) fun h => ?_
    | refine wC (w1027 _ ?_) fun z27 hz => ?_
    | refine wC (w1068 _ _ ?_ ?_) fun z68 hz => ?_
    | refine wC (w1067 _ _ ?_ ?_ ?_) fun z67 hz => ?_
    | (refine V2 (fun (p0 : List S65) (p1 : Int) => 0 ≤ p1 ∧ p1 ≤ (z67.length : Int) ∧ (p0.length : Int) ≤ p1 ∧ p0 = (z67.take p1.toNat).map (banE a0.f0 a2)) (fun _ p1 => [(1,.sc (.string a1)),(2,.lst (List.map S103.c a2)),(3,.box 0 0),(7,.row 1),(8,.lst (List.map cStr z67)),(9,.sc (.int .i64 p1))]) (fun p0 _ => ⟨[(0,.box (S30.c a0) false),(1,.row (List.map S65.c p0) 29 false 1)],2⟩) (fun _ p1 => ((z67.length : Int) + 1 - p1).toNat) ([] : List S65) (0 : Int) ?_ (ft [(0,some 0),(1,some 1)] rfl rfl rfl ⟨fB rfl rfl rfl,fR rfl rfl fun _ => rfl,trivial⟩) fun p0 p1 ⟨i0,i1,i2,i3⟩ => ?_; rotate_left; have hu := SetP.len ‹SetP _ _ z67›; have hc := cand_len ‹Cands _ _ _ _ z68› ‹_› g0; rotate_right)
    | refine ⟨_,List.length_map ..,?_⟩
    | refine wG ?_ ?_ (fun _ => rfl) fun x hx hm => ?_
    | refine wC (w1069 _ _ ?_ ?_) fun z69 hz => ?_
    | refine wA (f := S65.c) (m := [⟨(0 : Int),_,zS,(2 : Int),true,_,(0 : Int),(0 : Int),[],[],⟨_,(4 : Int),(0 : Int),false,zS,[],[],ze59⟩,(0 : Int),ze63⟩]) rfl (fun _ => ⟨rfl,rfl⟩) ?_ ?_ ?_
    | refine ⟨by kernel_rfl,?_⟩
    | refine ⟨⟨_,nx _⟩,?_,?_,(ft [(0,some 0),(1,some 4)] rfl rfl rfl ⟨fB rfl rfl rfl,fR rfl rfl fun _ => rfl,trivial⟩)⟩
    | refine wC (w1026 _ ?_) fun z26 hz => ?_
    | refine wA (l := []) (f := cStr) (m := _) rfl (fun _ => ⟨rfl,rfl⟩) ?_ ?_ ?_
    | refine wC (w1070 _ ?_) fun z70 hz => ?_
    | (refine V2 (fun (q0 : List ByteArray) (q1 : Int) => 0 ≤ q1 ∧ q1 ≤ (z70.length : Int) ∧ (q0.length : Int) ≤ z26.2.length + q1 ∧ denS a1 z26.2 (z70.drop q1.toNat) q0 = denS a1 z26.2 z70 z26.2) (fun _ q1 => [(1,.sc (.string a1)),(3,.box 0 0),(7,.row 1),(11,.lst (List.map cStr z26.1)),(12,.lst (List.map cStr z26.2)),(13,.row 2),(14,.lst (List.map cStr z70)),(15,.sc (.int .i64 q1))]) (fun q0 _ => ⟨[(0,.box (S30.c a0) false),(1,.row (List.map S65.c p0) 29 false 1),(2,.row (List.map cStr q0) 1 false 2)],3⟩) (fun _ q1 => ((z70.length : Int) + 1 - q1).toNat) (([] : List ByteArray) ++ z26.2) (0 : Int) ?_ (ft [(0,some 0),(1,some 1),(2,some 3)] rfl rfl rfl ⟨fB rfl rfl rfl,fR rfl rfl fun _ => rfl,fR rfl rfl fun _ => rfl,trivial⟩) fun q0 q1 ⟨i0,i1,i2,i3⟩ => ?_; rotate_left; have hu := SetP.len ‹SetP _ _ z70›; have hc := lst_len ‹z26 = _› ‹_› g0; rotate_right)
    | refine wC (w1071 _ ?_) fun z71 hz => ?_
    | refine wC (w1030 _ _ ?_ ?_) fun z30 hz => ?_
    | refine wC (w1029 _ _ ?_) fun z29 hz => ?_
    | refine wA (f := cStr) (m := [_]) rfl (fun _ => ⟨rfl,rfl⟩) ?_ ?_ ?_
    | refine ⟨⟨_,nx _⟩,?_,?_,(ft [(0,some 0),(1,some 1),(2,some 4)] rfl rfl rfl ⟨fB rfl rfl rfl,fR rfl rfl fun _ => rfl,fR rfl rfl fun _ => rfl,trivial⟩)⟩
    | refine ⟨⟨_,nx _⟩,?_,?_,(ft [(0,some 0),(1,some 1),(2,some 2)] rfl rfl rfl ⟨fB rfl rfl rfl,fR rfl rfl fun _ => rfl,fR rfl rfl fun _ => rfl,trivial⟩)⟩
    | refine wD (f := S65.c) rfl (cellP_lit rfl) ?_ ?_ ?_
    | refine ⟨List.map S65.c (p0 ++ [(⟨(0 : Int),a0.f0,zS,(6 : Int),true,zS,(0 : Int),(0 : Int),[],[],(⟨zS,(0 : Int),(0 : Int),false,zS,([] : List ByteArray) ++ z26.1,q0,(⟨[],[],(0 : Int),(0 : Int),(0 : Int),(0 : Int),(0 : Int),(0 : Int),(0 : Int)⟩ : S59)⟩ : S61),(0 : Int),(⟨zS,(0 : Int)⟩ : S63)⟩ : S65)]),_,deep_map (f := S65.c) (ns := [4,2]) (fun _ => rfl) (by repeat (first | exact .nil | refine .leaf (by rfl) ?_ | refine .row (by rfl) (leafs_map (fun _ => rfl) _) ?_)),?_⟩
    | refine ⟨_,_,deep0 (leafs_map (f := S65.c) (fun _ => rfl) _),?_⟩
    | refine ⟨_,rfl,?_⟩
  | omega
  | (have := st_len ‹_ = stS _› g0; omega)
  | (have := lst_len ‹z26 = _› ‹_› g0; simp only [List.length_nil]; omega)
  | exact st_small ‹_› g0
  | (have := cand_len ‹Cands _ _ _ _ z68› ‹_› g0; omega)
  | exact cand_small ‹Cands _ _ _ _ _› ‹_› g0
  | exact users_small ‹Cands _ _ _ _ _› ‹_› g0 ‹SetP _ _ z67› hm
  | rfl
  | exact map_step i3 i0 (by omega) hx (by rw [‹z69 = _›]; rfl)
  | (have := deny_small ‹SetP _ _ z70› g1 hm; omega)
  | exact den_t i3 i0 (by omega) hx (‹z71 = patC _›.symm.trans ‹z71 = 0›) (‹z30 = gm _ _›.symm.trans ‹z30 = false›) (‹z29 = memS _ _›.symm.trans ‹z29 = false›) ‹_›
  | exact den_f i3 i0 (by omega) hx (.inl fun e => ‹¬ z71 = 0› (‹z71 = patC _›.trans e))
  | exact den_f i3 i0 (by omega) hx (.inr (.inl (‹z30 = gm _ _›.symm.trans ‹z30 = true›)))
  | exact den_f i3 i0 (by omega) hx (.inr (.inr (.inl (‹z29 = memS _ _›.symm.trans ‹z29 = true›))))
  | exact den_f i3 i0 (by omega) hx (.inr (.inr (.inr h)))
  | exact plan_y ‹Cands _ _ _ _ z68› ‹_› ‹SetP _ _ z67› ‹p0 = _› (by omega) ‹z26 = _› ‹_› ‹SetP _ _ z70› i3 (by omega) ‹_› rfl
  | exact plan_n ‹Cands _ _ _ _ z68› ‹_› ‹SetP _ _ z67› ‹p0 = _› (by omega) ‹z26 = _› ‹_› ‹SetP _ _ z70› i3 (by omega) ‹_›
  | dsimp only
  | with_reducible apply And.intro
  | (simp (disch := omega) only [ls] <;> omega)
  | grind
end Go.Abs.RM
end
