/- Functions of the program, as Lean functions: printed by dec.py. -/
import Derived.Test.YthbenojbjjgnaaaGreatUAl
import Derived.Test.YthbenojbjjgnaaaGreatUBo
import Derived.Test.YthbenojbjjgnaaaGreatUBp
import Derived.Test.YthbenojbjjgnaaaGreatUBq
set_option linter.unusedVariables false
set_option linter.unusedSimpArgs false
set_option linter.unusedSectionVars false
namespace Go.Abs.RM
open Go.Proofs
noncomputable section
set_option maxRecDepth 100000
set_option maxHeartbeats 4000000
def d131_0 (fuel : Nat) (a0 : List S103) : Nat → (List ByteArray) → Int → Option (List ByteArray)
  | 0,_,_ => none
  | n + 1,o1,s2 => (bif decide (s2 < (a0.length : Int)) then (at1 a0 s2 fun x3 => (bif (x3.f0 == 6) then (rm 16 o1 [x3.f1] (d131_0 fuel a0 n (o1 ++ [x3.f1]) (nx s2))) else d131_0 fuel a0 n o1 (nx s2))) else ((d190 fuel o1).bind fun z4 => ((d191 fuel z4).bind fun z5 => some z5)))
@[irreducible] def d131 (fuel : Nat) (a0 : List S103) : Option (List ByteArray) := d131_0 fuel a0 fuel [] (0 : Int)
theorem d131_ok (fuel : Nat) (a0 : List S103) (r : List ByteArray) (hI : d131 fuel a0 = some r) : WValid P 131 [.lst (a0.map S103.c)] (fun z => z = .lst (r.map cStr)) := by
 refine go Tryz.func131 (by kernel_rfl) ?_
 rw [d131] at hI
 conv => whnf
 refine ⟨_,List.length_map ..,?_⟩
 conv => whnf
 refine L2 (fun o1 s2 => [(3,.row 0),(6,.lst (List.map S103.c a0)),(7,.sc (.int .i64 (a0.length : Int))),(8,.sc (.int .i64 s2))]) (fun o1 s2 => ⟨[(0,.row (List.map cStr o1) 1 false 0)],1⟩) hI (ft [(0,none)] rfl rfl rfl ⟨fitO_nil rfl rfl,trivial⟩) (fun _ _ => rfl) ?_
 rintro n0 o1 s2 hI; rw [d131_0] at hI
 all_goals repeat' ((conv => whnf); first
  | refine B hI (fun hI => ?_) fun hI => ?_
  | refine cL hI (fun _ => rfl) fun x hI => ?_
  | refine aM (f := cStr) hI rfl (fun _ => ⟨rfl,rfl⟩) fun hI => ?_
  | refine ⟨_,_,deep0 (leafs_map (f := cStr) (fun _ => rfl) _),?_⟩
  | refine cO hI (d190_own fuel _) fun x hI => ?_
  | refine cT hI (leafs_map (f := cStr) (fun _ => rfl) _) (d191_set fuel _) (fun x hI => ?_) rfl rfl rfl
  | exact ⟨⟨_,_,_⟩,hI,Nat.lt_succ_self _,(ft [(0,some 3)] rfl rfl rfl ⟨fR rfl rfl fun _ => rfl,trivial⟩)⟩
  | exact ⟨⟨_,_,_⟩,hI,Nat.lt_succ_self _,(ft [(0,some 0)] rfl rfl rfl ⟨fR rfl rfl fun _ => rfl,trivial⟩)⟩
  | (cases hI; rfl))
def d66_0 (fuel : Nat) (a1 : ByteArray) (old : List ByteArray) : List ByteArray → List ByteArray → Option (List ByteArray)
  | [],o => some o
  | p :: l,o => ((d132 fuel p).bind fun z => (bif z == (0 : Int) then ((d133 fuel p a1).bind fun m => (bif !m then ((d134 fuel old p).bind fun c => (bif !c then (bif decide ((o.length : Int) < 100) then (bif roomB 16 (o.length + [p].length) then d66_0 fuel a1 old l (o ++ [p]) else none) else d66_0 fuel a1 old l o) else d66_0 fuel a1 old l o)) else d66_0 fuel a1 old l o)) else d66_0 fuel a1 old l o))
def e66 (a0 : S112) (al o : List ByteArray) : S65 := ⟨(0 : Int),a0.f0.f0,zS,(6 : Int),true,zS,(0 : Int),(0 : Int),[],[],(⟨zS,(0 : Int),(0 : Int),false,zS,al,o,(⟨[],[],(0 : Int),(0 : Int),(0 : Int),(0 : Int),(0 : Int),(0 : Int),(0 : Int)⟩ : S59)⟩ : S61),(0 : Int),(⟨zS,(0 : Int)⟩ : S63)⟩
def d66 (fuel : Nat) (a0 : S112) (a1 : ByteArray) (a2 : List S103) : Option (S65 × Bool) := ((d73 fuel a0).bind fun z1 => ((d129 fuel z1).bind fun z2 =>
  (bif z2.2 then ((d130 fuel z2.1.f5).bind fun al => ((d130 fuel z2.1.f6).bind fun dn => ((d131 fuel a2).bind fun l => (bif decide (l.length ≤ 1000000) then ((d66_0 fuel a1 dn l dn).bind fun o => some (e66 a0 al o,decide ((o.length : Int) > (dn.length : Int)))) else none))))
  else ((d131 fuel a2).bind fun l => (bif decide (l.length ≤ 1000000) then ((d66_0 fuel a1 [] l []).bind fun o => some (e66 a0 [(⟨#[42]⟩ : ByteArray)] o,decide ((o.length : Int) > (([] : List ByteArray).length : Int)))) else none)))))
def z66 : S65 := ⟨(0 : Int),zS,zS,(0 : Int),false,zS,(0 : Int),(0 : Int),[],[],(⟨zS,(0 : Int),(0 : Int),false,zS,[],[],(⟨[],[],(0 : Int),(0 : Int),(0 : Int),(0 : Int),(0 : Int),(0 : Int),(0 : Int)⟩ : S59)⟩ : S61),(0 : Int),(⟨zS,(0 : Int)⟩ : S63)⟩
def b66 : List WV := [.sc zstr,.sc zi64,.sc zi64,.sc zbool,.sc zstr,.row 2,.row 3,.lst [],.lst [],.sc zi64,.sc zi64,.sc zi64,.sc zi64,.sc zi64,.sc zi64,.sc zi64]
theorem d66_ok (fuel : Nat) (a0 : S112) (a1 : ByteArray) (a2 : List S103) (r : S65 × Bool) (hI : d66 fuel a0 a1 a2 = some r) : WValid P 66 [.ipt (S112.c a0),.sc (.string a1),.lst (a2.map S103.c)] (fun z => z = .tup [.agg (S65.c r.1),.sc (.bool r.2)]) := by
  refine go Tryz.func66 (by kernel_rfl) ?_
  rw [d66] at hI
  conv => whnf
  obtain ⟨z1,hz,hI⟩ := bnd hI
  refine .inl ⟨_,d73_ok fuel a0 _ hz,?_⟩
  rintro _ rfl
  conv => whnf
  obtain ⟨z2,hz,hI⟩ := bnd hI
  refine .inl ⟨_,d129_ok fuel z1 _ hz,?_⟩
  rintro _ rfl
  conv => whnf
  refine br (fun h => ?_) (fun h => ?_)
  · have hI := bT h hI
    conv => whnf
    obtain ⟨al,hz,hI⟩ := bnd hI
    refine .inr (.inl ⟨_,_,_,d130_own fuel _ _ hz,?_⟩)
    rintro _ rfl
    conv => whnf
    obtain ⟨dn,hz,hI⟩ := bnd hI
    refine .inr (.inl ⟨_,_,_,d130_own fuel _ _ hz,?_⟩)
    rintro _ rfl
    conv => whnf
    refine ⟨by kernel_rfl,?_⟩
    conv => whnf
    refine ⟨_,List.length_map ..,?_⟩
    conv => whnf
    obtain ⟨l,hz,hI⟩ := bnd hI
    refine .inl ⟨_,d131_ok fuel a2 _ hz,?_⟩
    rintro _ rfl
    conv => whnf
    refine ⟨_,List.length_map ..,?_⟩
    conv => whnf
    obtain ⟨hbig,hI⟩ := ckd hI
    have hbig := of_decide_eq_true hbig
    obtain ⟨o,ho,hI⟩ := bnd hI
    refine loopW tabOk mixed (S := Nat × List ByteArray) (fun q => [(0,.ipt (S112.c a0)),(1,.sc (.string a1)),(6,.box 0 0),(8,.box 1 0),(11,.sc (.int .i64 ((dn.length : Nat) : Int))),(34,.lst (l.map cStr)),(35,.sc (.int .i64 (l.length : Int))),(36,.sc (.int .i64 (q.1 : Int)))]) (fun q => ⟨[(0,.box (S65.c z66) false),(1,.box b66 false),(2,.row (List.map cStr al) 1 false 2),(3,.row (List.map cStr q.2) 1 false 3)],4⟩) (fun q => q.1 ≤ l.length ∧ d66_0 fuel a1 dn (l.drop q.1) q.2 = some o ∧ q.2.take dn.length = dn) (fun q => l.length - q.1) (0,dn) ⟨Nat.zero_le _,ho,List.take_of_length_le (Nat.le_refl _)⟩ (fit_of [(0,some 0),(1,some 2),(2,some 4),(3,some 5)] rfl ⟨⟨rfl,rfl⟩,⟨rfl,rfl⟩,⟨rfl,rfl⟩,⟨rfl,rfl⟩,⟨rfl,rfl⟩,⟨rfl,rfl⟩,⟨rfl,rfl⟩,⟨rfl,rfl⟩,trivial⟩ ⟨fitO_box rfl rfl rfl (fun h => rfl),fitO_rbox rfl rfl rfl (fun h => rfl),fitO_row rfl rfl (leafs_map (f := cStr) (fun _ => rfl) _) (fun h => rfl),fitO_row rfl rfl (leafs_map (f := cStr) (fun _ => rfl) _) (fun h => rfl),trivial⟩) ?_
    rintro ⟨i,o1⟩ ⟨hle,hI1,htk⟩
    conv => whnf
    refine br (fun h => ?_) (fun h => ?_)
    · have hi : i < l.length := by simpa using of_decide_eq_true h
      replace hI1 : d66_0 fuel a1 dn (l.drop i) o1 = some o := hI1
      rw [List.drop_eq_getElem_cons hi,d66_0] at hI1
      conv => whnf
      refine ⟨Int.natCast_nonneg _,cStr l[i],at_ _ (by simp [hi]),rfl,?_⟩
      conv => whnf
      obtain ⟨z,hz,hI1⟩ := bnd hI1
      refine .inl ⟨_,d132_ok fuel _ _ hz,?_⟩
      rintro _ rfl
      conv => whnf
      have hw : IntKind.wrap .i64 ((i : Int) + 1) = ((i + 1 : Nat) : Int) := by rw [IntKind.wrap_i64]; omega
      have hdl : dn.length ≤ o1.length := by
        have := congrArg List.length htk
        rw [List.length_take] at this
        exact this ▸ Nat.min_le_right _ _
      refine br (fun h => ?_) (fun h => ?_)
      · have hI1 := bT h hI1
        conv => whnf
        obtain ⟨m,hz,hI1⟩ := bnd hI1
        refine .inl ⟨_,d133_ok fuel _ _ _ hz,?_⟩
        rintro _ rfl
        conv => whnf
        refine br (fun h => ?_) (fun h => ?_)
        · have hI1 := bT h hI1
          conv => whnf
          refine ⟨Int.natCast_nonneg _,(by rw [List.length_map]; exact Int.ofNat_le.2 hdl),dn.length,(by simp),?_⟩
          conv => whnf
          refine ⟨leafs_map (f := cStr) (fun _ => rfl) _,List.map cStr dn,(by rw [List.drop_zero,← List.map_take]; exact congrArg _ htk),?_⟩
          conv => whnf
          obtain ⟨cc,hz,hI1⟩ := bnd hI1
          refine .inl ⟨_,d134_ok fuel dn _ _ hz,?_⟩
          rintro _ rfl
          conv => whnf
          refine br (fun h => ?_) (fun h => ?_)
          · have hI1 := bT h hI1
            conv => whnf
            refine ⟨_,List.length_map ..,?_⟩
            conv => whnf
            refine br (fun h => ?_) (fun h => ?_)
            · have hI1 := bT h hI1
              obtain ⟨hc,hI1⟩ := ckd hI1
              conv => whnf
              refine ⟨rooms (f := cStr) hc rfl,cellP_lit rfl,List.map cStr (o1 ++ [l[i]]),(List.map_append (f := cStr) (l₁ := o1) (l₂ := [l[i]])).symm,?_⟩
              conv => whnf
              exact ⟨(i + 1,o1 ++ [l[i]]),⟨hi,hI1,by rw [List.take_append_of_le_length hdl]; exact htk⟩,(by show l.length - (i + 1) < l.length - i; omega),(fit_of [(0,some 0),(1,some 1),(2,some 2),(3,some 5)] rfl ⟨⟨rfl,rfl⟩,⟨rfl,rfl⟩,⟨rfl,rfl⟩,⟨rfl,rfl⟩,⟨rfl,rfl⟩,⟨rfl,rfl⟩,⟨rfl,rfl⟩,⟨by show some (WV.sc (.int .i64 (IntKind.wrap .i64 ((i : Int) + 1)))) = _; rw [hw]; rfl,rfl⟩,trivial⟩ ⟨fitO_box rfl rfl rfl (fun h => rfl),fitO_rbox rfl rfl rfl (fun h => rfl),fitO_row rfl rfl (leafs_map (f := cStr) (fun _ => rfl) _) (fun h => rfl),fitO_row rfl rfl (leafs_map (f := cStr) (fun _ => rfl) _) (fun h => rfl),trivial⟩)⟩
            · have hI1 := bF h hI1
              conv => whnf
              exact ⟨(i + 1,o1),⟨hi,hI1,htk⟩,(by show l.length - (i + 1) < l.length - i; omega),(fit_of [(0,some 0),(1,some 1),(2,some 2),(3,some 3)] rfl ⟨⟨rfl,rfl⟩,⟨rfl,rfl⟩,⟨rfl,rfl⟩,⟨rfl,rfl⟩,⟨rfl,rfl⟩,⟨rfl,rfl⟩,⟨rfl,rfl⟩,⟨by show some (WV.sc (.int .i64 (IntKind.wrap .i64 ((i : Int) + 1)))) = _; rw [hw]; rfl,rfl⟩,trivial⟩ ⟨fitO_box rfl rfl rfl (fun h => rfl),fitO_rbox rfl rfl rfl (fun h => rfl),fitO_row rfl rfl (leafs_map (f := cStr) (fun _ => rfl) _) (fun h => rfl),fitO_row rfl rfl (leafs_map (f := cStr) (fun _ => rfl) _) (fun h => rfl),trivial⟩)⟩
          · have hI1 := bF h hI1
            conv => whnf
            exact ⟨(i + 1,o1),⟨hi,hI1,htk⟩,(by show l.length - (i + 1) < l.length - i; omega),(fit_of [(0,some 0),(1,some 1),(2,some 2),(3,some 3)] rfl ⟨⟨rfl,rfl⟩,⟨rfl,rfl⟩,⟨rfl,rfl⟩,⟨rfl,rfl⟩,⟨rfl,rfl⟩,⟨rfl,rfl⟩,⟨rfl,rfl⟩,⟨by show some (WV.sc (.int .i64 (IntKind.wrap .i64 ((i : Int) + 1)))) = _; rw [hw]; rfl,rfl⟩,trivial⟩ ⟨fitO_box rfl rfl rfl (fun h => rfl),fitO_rbox rfl rfl rfl (fun h => rfl),fitO_row rfl rfl (leafs_map (f := cStr) (fun _ => rfl) _) (fun h => rfl),fitO_row rfl rfl (leafs_map (f := cStr) (fun _ => rfl) _) (fun h => rfl),trivial⟩)⟩
        · have hI1 := bF h hI1
          conv => whnf
          exact ⟨(i + 1,o1),⟨hi,hI1,htk⟩,(by show l.length - (i + 1) < l.length - i; omega),(fit_of [(0,some 0),(1,some 1),(2,some 2),(3,some 3)] rfl ⟨⟨rfl,rfl⟩,⟨rfl,rfl⟩,⟨rfl,rfl⟩,⟨rfl,rfl⟩,⟨rfl,rfl⟩,⟨rfl,rfl⟩,⟨rfl,rfl⟩,⟨by show some (WV.sc (.int .i64 (IntKind.wrap .i64 ((i : Int) + 1)))) = _; rw [hw]; rfl,rfl⟩,trivial⟩ ⟨fitO_box rfl rfl rfl (fun h => rfl),fitO_rbox rfl rfl rfl (fun h => rfl),fitO_row rfl rfl (leafs_map (f := cStr) (fun _ => rfl) _) (fun h => rfl),fitO_row rfl rfl (leafs_map (f := cStr) (fun _ => rfl) _) (fun h => rfl),trivial⟩)⟩
      · have hI1 := bF h hI1
        conv => whnf
        exact ⟨(i + 1,o1),⟨hi,hI1,htk⟩,(by show l.length - (i + 1) < l.length - i; omega),(fit_of [(0,some 0),(1,some 1),(2,some 2),(3,some 3)] rfl ⟨⟨rfl,rfl⟩,⟨rfl,rfl⟩,⟨rfl,rfl⟩,⟨rfl,rfl⟩,⟨rfl,rfl⟩,⟨rfl,rfl⟩,⟨rfl,rfl⟩,⟨by show some (WV.sc (.int .i64 (IntKind.wrap .i64 ((i : Int) + 1)))) = _; rw [hw]; rfl,rfl⟩,trivial⟩ ⟨fitO_box rfl rfl rfl (fun h => rfl),fitO_rbox rfl rfl rfl (fun h => rfl),fitO_row rfl rfl (leafs_map (f := cStr) (fun _ => rfl) _) (fun h => rfl),fitO_row rfl rfl (leafs_map (f := cStr) (fun _ => rfl) _) (fun h => rfl),trivial⟩)⟩
    · have hi : ¬ i < l.length := by simpa using of_decide_eq_false h
      replace hI1 : d66_0 fuel a1 dn (l.drop i) o1 = some o := hI1
      rw [List.drop_of_length_le (by omega)] at hI1
      cases hI1
      conv => whnf
      refine ⟨_,List.length_map ..,?_⟩
      conv => whnf
      refine ⟨by kernel_rfl,?_⟩
      conv => whnf
      refine ⟨_,_,deep0 (leafs_map (f := cStr) (fun _ => rfl) _),?_⟩
      conv => whnf
      refine ⟨_,_,deep0 (leafs_map (f := cStr) (fun _ => rfl) _),?_⟩
      conv => whnf
      cases hI
      rfl
  · have hI := bF h hI
    conv => whnf
    obtain ⟨l,hz,hI⟩ := bnd hI
    refine .inl ⟨_,d131_ok fuel a2 _ hz,?_⟩
    rintro _ rfl
    conv => whnf
    refine ⟨_,List.length_map ..,?_⟩
    conv => whnf
    obtain ⟨hbig,hI⟩ := ckd hI
    have hbig := of_decide_eq_true hbig
    obtain ⟨o,ho,hI⟩ := bnd hI
    refine loopW tabOk mixed (S := Nat × List ByteArray) (fun q => [(0,.ipt (S112.c a0)),(1,.sc (.string a1)),(6,.box 0 0),(8,.box 1 0),(11,.sc (.int .i64 ((([] : List ByteArray).length : Nat) : Int))),(34,.lst (l.map cStr)),(35,.sc (.int .i64 (l.length : Int))),(36,.sc (.int .i64 (q.1 : Int)))]) (fun q => ⟨[(0,.box (S65.c z66) false),(1,.box b66 false),(2,.row (List.map cStr [(⟨#[42]⟩ : ByteArray)]) 1 false 2),(3,.row (List.map cStr q.2) 1 false 3)],4⟩) (fun q => q.1 ≤ l.length ∧ d66_0 fuel a1 ([] : List ByteArray) (l.drop q.1) q.2 = some o ∧ q.2.take ([] : List ByteArray).length = ([] : List ByteArray)) (fun q => l.length - q.1) (0,([] : List ByteArray)) ⟨Nat.zero_le _,ho,List.take_of_length_le (Nat.le_refl _)⟩ (fit_of [(0,some 0),(1,some 2),(2,some 1),(3,none)] rfl ⟨⟨rfl,rfl⟩,⟨rfl,rfl⟩,⟨rfl,rfl⟩,⟨rfl,rfl⟩,⟨rfl,rfl⟩,⟨rfl,rfl⟩,⟨rfl,rfl⟩,⟨rfl,rfl⟩,trivial⟩ ⟨fitO_box rfl rfl rfl (fun h => rfl),fitO_rbox rfl rfl rfl (fun h => rfl),fitO_row rfl rfl (leafs_map (f := cStr) (fun _ => rfl) _) (fun h => rfl),fitO_nil rfl rfl,trivial⟩) ?_
    rintro ⟨i,o1⟩ ⟨hle,hI1,htk⟩
    conv => whnf
    refine br (fun h => ?_) (fun h => ?_)
    · have hi : i < l.length := by simpa using of_decide_eq_true h
      replace hI1 : d66_0 fuel a1 ([] : List ByteArray) (l.drop i) o1 = some o := hI1
      rw [List.drop_eq_getElem_cons hi,d66_0] at hI1
      conv => whnf
      refine ⟨Int.natCast_nonneg _,cStr l[i],at_ _ (by simp [hi]),rfl,?_⟩
      conv => whnf
      obtain ⟨z,hz,hI1⟩ := bnd hI1
      refine .inl ⟨_,d132_ok fuel _ _ hz,?_⟩
      rintro _ rfl
      conv => whnf
      have hw : IntKind.wrap .i64 ((i : Int) + 1) = ((i + 1 : Nat) : Int) := by rw [IntKind.wrap_i64]; omega
      have hdl : ([] : List ByteArray).length ≤ o1.length := by
        have := congrArg List.length htk
        rw [List.length_take] at this
        exact this ▸ Nat.min_le_right _ _
      refine br (fun h => ?_) (fun h => ?_)
      · have hI1 := bT h hI1
        conv => whnf
        obtain ⟨m,hz,hI1⟩ := bnd hI1
        refine .inl ⟨_,d133_ok fuel _ _ _ hz,?_⟩
        rintro _ rfl
        conv => whnf
        refine br (fun h => ?_) (fun h => ?_)
        · have hI1 := bT h hI1
          conv => whnf
          refine ⟨Int.natCast_nonneg _,(by rw [List.length_map]; exact Int.ofNat_le.2 hdl),([] : List ByteArray).length,(by simp),?_⟩
          conv => whnf
          refine ⟨leafs_map (f := cStr) (fun _ => rfl) _,List.map cStr ([] : List ByteArray),(by rw [List.drop_zero,← List.map_take]; exact congrArg _ htk),?_⟩
          conv => whnf
          obtain ⟨cc,hz,hI1⟩ := bnd hI1
          refine .inl ⟨_,d134_ok fuel ([] : List ByteArray) _ _ hz,?_⟩
          rintro _ rfl
          conv => whnf
          refine br (fun h => ?_) (fun h => ?_)
          · have hI1 := bT h hI1
            conv => whnf
            refine ⟨_,List.length_map ..,?_⟩
            conv => whnf
            refine br (fun h => ?_) (fun h => ?_)
            · have hI1 := bT h hI1
              obtain ⟨hc,hI1⟩ := ckd hI1
              conv => whnf
              refine ⟨rooms (f := cStr) hc rfl,cellP_lit rfl,List.map cStr (o1 ++ [l[i]]),(List.map_append (f := cStr) (l₁ := o1) (l₂ := [l[i]])).symm,?_⟩
              conv => whnf
              exact ⟨(i + 1,o1 ++ [l[i]]),⟨hi,hI1,by rw [List.take_append_of_le_length hdl]; exact htk⟩,(by show l.length - (i + 1) < l.length - i; omega),(fit_of [(0,some 0),(1,some 1),(2,some 2),(3,some 5)] rfl ⟨⟨rfl,rfl⟩,⟨rfl,rfl⟩,⟨rfl,rfl⟩,⟨rfl,rfl⟩,⟨rfl,rfl⟩,⟨rfl,rfl⟩,⟨rfl,rfl⟩,⟨by show some (WV.sc (.int .i64 (IntKind.wrap .i64 ((i : Int) + 1)))) = _; rw [hw]; rfl,rfl⟩,trivial⟩ ⟨fitO_box rfl rfl rfl (fun h => rfl),fitO_rbox rfl rfl rfl (fun h => rfl),fitO_row rfl rfl (leafs_map (f := cStr) (fun _ => rfl) _) (fun h => rfl),fitO_row rfl rfl (leafs_map (f := cStr) (fun _ => rfl) _) (fun h => rfl),trivial⟩)⟩
            · have hI1 := bF h hI1
              conv => whnf
              exact ⟨(i + 1,o1),⟨hi,hI1,htk⟩,(by show l.length - (i + 1) < l.length - i; omega),(fit_of [(0,some 0),(1,some 1),(2,some 2),(3,some 3)] rfl ⟨⟨rfl,rfl⟩,⟨rfl,rfl⟩,⟨rfl,rfl⟩,⟨rfl,rfl⟩,⟨rfl,rfl⟩,⟨rfl,rfl⟩,⟨rfl,rfl⟩,⟨by show some (WV.sc (.int .i64 (IntKind.wrap .i64 ((i : Int) + 1)))) = _; rw [hw]; rfl,rfl⟩,trivial⟩ ⟨fitO_box rfl rfl rfl (fun h => rfl),fitO_rbox rfl rfl rfl (fun h => rfl),fitO_row rfl rfl (leafs_map (f := cStr) (fun _ => rfl) _) (fun h => rfl),fitO_row rfl rfl (leafs_map (f := cStr) (fun _ => rfl) _) (fun h => rfl),trivial⟩)⟩
          · have hI1 := bF h hI1
            conv => whnf
            exact ⟨(i + 1,o1),⟨hi,hI1,htk⟩,(by show l.length - (i + 1) < l.length - i; omega),(fit_of [(0,some 0),(1,some 1),(2,some 2),(3,some 3)] rfl ⟨⟨rfl,rfl⟩,⟨rfl,rfl⟩,⟨rfl,rfl⟩,⟨rfl,rfl⟩,⟨rfl,rfl⟩,⟨rfl,rfl⟩,⟨rfl,rfl⟩,⟨by show some (WV.sc (.int .i64 (IntKind.wrap .i64 ((i : Int) + 1)))) = _; rw [hw]; rfl,rfl⟩,trivial⟩ ⟨fitO_box rfl rfl rfl (fun h => rfl),fitO_rbox rfl rfl rfl (fun h => rfl),fitO_row rfl rfl (leafs_map (f := cStr) (fun _ => rfl) _) (fun h => rfl),fitO_row rfl rfl (leafs_map (f := cStr) (fun _ => rfl) _) (fun h => rfl),trivial⟩)⟩
        · have hI1 := bF h hI1
          conv => whnf
          exact ⟨(i + 1,o1),⟨hi,hI1,htk⟩,(by show l.length - (i + 1) < l.length - i; omega),(fit_of [(0,some 0),(1,some 1),(2,some 2),(3,some 3)] rfl ⟨⟨rfl,rfl⟩,⟨rfl,rfl⟩,⟨rfl,rfl⟩,⟨rfl,rfl⟩,⟨rfl,rfl⟩,⟨rfl,rfl⟩,⟨rfl,rfl⟩,⟨by show some (WV.sc (.int .i64 (IntKind.wrap .i64 ((i : Int) + 1)))) = _; rw [hw]; rfl,rfl⟩,trivial⟩ ⟨fitO_box rfl rfl rfl (fun h => rfl),fitO_rbox rfl rfl rfl (fun h => rfl),fitO_row rfl rfl (leafs_map (f := cStr) (fun _ => rfl) _) (fun h => rfl),fitO_row rfl rfl (leafs_map (f := cStr) (fun _ => rfl) _) (fun h => rfl),trivial⟩)⟩
      · have hI1 := bF h hI1
        conv => whnf
        exact ⟨(i + 1,o1),⟨hi,hI1,htk⟩,(by show l.length - (i + 1) < l.length - i; omega),(fit_of [(0,some 0),(1,some 1),(2,some 2),(3,some 3)] rfl ⟨⟨rfl,rfl⟩,⟨rfl,rfl⟩,⟨rfl,rfl⟩,⟨rfl,rfl⟩,⟨rfl,rfl⟩,⟨rfl,rfl⟩,⟨rfl,rfl⟩,⟨by show some (WV.sc (.int .i64 (IntKind.wrap .i64 ((i : Int) + 1)))) = _; rw [hw]; rfl,rfl⟩,trivial⟩ ⟨fitO_box rfl rfl rfl (fun h => rfl),fitO_rbox rfl rfl rfl (fun h => rfl),fitO_row rfl rfl (leafs_map (f := cStr) (fun _ => rfl) _) (fun h => rfl),fitO_row rfl rfl (leafs_map (f := cStr) (fun _ => rfl) _) (fun h => rfl),trivial⟩)⟩
    · have hi : ¬ i < l.length := by simpa using of_decide_eq_false h
      replace hI1 : d66_0 fuel a1 ([] : List ByteArray) (l.drop i) o1 = some o := hI1
      rw [List.drop_of_length_le (by omega)] at hI1
      cases hI1
      conv => whnf
      refine ⟨_,List.length_map ..,?_⟩
      conv => whnf
      refine ⟨by kernel_rfl,?_⟩
      conv => whnf
      refine ⟨_,_,deep0 (leafs_map (f := cStr) (fun _ => rfl) _),?_⟩
      conv => whnf
      refine ⟨_,_,deep0 (leafs_map (f := cStr) (fun _ => rfl) _),?_⟩
      conv => whnf
      cases hI
      rfl
@[irreducible] def d21 (fuel : Nat) (a0 : S30) (a1 : ByteArray) (a2 : List S103) : Option (List S65) := ((d65 fuel (⟨a0⟩ : S112) a1 a2).bind fun z1 => ((d66 fuel (⟨a0⟩ : S112) a1 a2).bind fun z2 => (bif z2.2 then (rm 376 z1 [z2.1] (some (z1 ++ [z2.1]))) else some z1)))
theorem d21_ok (fuel : Nat) (a0 : S30) (a1 : ByteArray) (a2 : List S103) (r : List S65) (hI : d21 fuel a0 a1 a2 = some r) : WValid P 21 [.agg (S30.c a0),.sc (.string a1),.lst (a2.map S103.c)] (fun z => z = .lst (r.map S65.c)) := by
 refine go Tryz.func21 (by kernel_rfl) ?_
 rw [d21] at hI
 repeat' ((conv => whnf); first
  | refine B hI (fun hI => ?_) fun hI => ?_
  | refine cO hI (d65_own fuel _ _ _) fun x hI => ?_
  | refine cI hI (d66_ok fuel _ _ _) fun x hI => ?_
  | refine aM (f := S65.c) hI rfl (fun _ => ⟨rfl,rfl⟩) fun hI => ?_
  | refine ⟨_,_,deep0 (leafs_map (f := S65.c) (fun _ => rfl) _),?_⟩
  | (cases hI; rfl))
def d75_0 (fuel : Nat) (a0 : List S65) : Nat → S61 → Int → Option (S61 × Bool)
  | 0,_,_ => none
  | n + 1,o1,s2 => (bif decide (s2 < (a0.length : Int)) then (at1 a0 s2 fun x3 => (bif (x3.f3 == 6) then (at1 a0 s2 fun x4 => some (x4.f10,true)) else d75_0 fuel a0 n o1 (nx s2))) else some (ze61,false))
@[irreducible] def d75 (fuel : Nat) (a0 : List S65) : Option (S61 × Bool) := d75_0 fuel a0 fuel ze61 (0 : Int)
theorem d75_ok (fuel : Nat) (a0 : List S65) (r : S61 × Bool) (hI : d75 fuel a0 = some r) : WValid P 75 [.lst (a0.map S65.c)] (fun z => z = .tup [.agg (S61.c r.1),.sc (.bool r.2)]) := by
 refine go Tryz.func75 (by kernel_rfl) ?_
 rw [d75] at hI
 conv => whnf
 refine L2 (fun o1 s2 => [(0,.lst (List.map S65.c a0)),(2,.box 0 0),(4,.sc (.int .i64 s2))]) (fun o1 s2 => ⟨[(0,.box (S61.c o1) false)],1⟩) hI (ft [(0,some 0)] rfl rfl rfl ⟨fB rfl rfl rfl,trivial⟩) (fun _ _ => rfl) ?_
 rintro n0 o1 s2 hI; rw [d75_0] at hI
 all_goals repeat' ((conv => whnf); first
  | refine B hI (fun hI => ?_) fun hI => ?_
  | refine ⟨_,List.length_map ..,?_⟩
  | refine cL hI (fun _ => rfl) fun x hI => ?_
  | exact ⟨⟨_,_,_⟩,hI,Nat.lt_succ_self _,(ft [(0,some 0)] rfl rfl rfl ⟨fB rfl rfl rfl,trivial⟩)⟩
  | (cases hI; rfl))
@[irreducible] def d26 (fuel : Nat) (a0 : List S65) : Option ((List ByteArray) × (List ByteArray)) := ((d75 fuel a0).bind fun z1 => (bif !z1.2 then some ([(⟨#[42]⟩ : ByteArray)],[]) else some (z1.1.f5,z1.1.f6)))
theorem d26_ok (fuel : Nat) (a0 : List S65) (r : (List ByteArray) × (List ByteArray)) (hI : d26 fuel a0 = some r) : WValid P 26 [.lst (a0.map S65.c)] (fun z => z = .tup [.lst (r.1.map cStr),.lst (r.2.map cStr)]) := by
 refine go Tryz.func26 (by kernel_rfl) ?_
 rw [d26] at hI
 repeat' ((conv => whnf); first
  | refine B hI (fun hI => ?_) fun hI => ?_
  | refine cI hI (d75_ok fuel _) fun x hI => ?_
  | refine ⟨_,_,deep0 (leafs_lit rfl),?_⟩
  | refine ⟨by kernel_rfl,?_⟩
  | (cases hI; rfl))
def d59_0 (fuel : Nat) (a0 : List S65) (a1 : Int) : Nat → Int → Option Int
  | 0,_ => none
  | n + 1,s1 => (bif decide (s1 < (a0.length : Int)) then (at1 a0 s1 fun x2 => (bif (x2.f0 == a1) then some s1 else d59_0 fuel a0 a1 n (nx s1))) else some (-1 : Int))
@[irreducible] def d59 (fuel : Nat) (a0 : List S65) (a1 : Int) : Option Int := d59_0 fuel a0 a1 fuel (0 : Int)
theorem d59_ok (fuel : Nat) (a0 : List S65) (a1 : Int) (r : Int) (hI : d59 fuel a0 a1 = some r) : WValid P 59 [.lst (a0.map S65.c),.sc (.int .i64 a1)] (fun z => z = .sc (.int .i64 r)) := by
 refine go Tryz.func59 (by kernel_rfl) ?_
 rw [d59] at hI
 conv => whnf
 refine L1 (fun s1 => [(0,.lst (List.map S65.c a0)),(1,.sc (.int .i64 a1)),(5,.sc (.int .i64 s1))]) (fun _ => ⟨[],0⟩) hI (ft [] rfl rfl rfl trivial) (fun _ => rfl) ?_
 rintro n0 s1 hI; rw [d59_0] at hI
 all_goals repeat' ((conv => whnf); first
  | refine B hI (fun hI => ?_) fun hI => ?_
  | refine ⟨_,List.length_map ..,?_⟩
  | refine cL hI (fun _ => rfl) fun x hI => ?_
  | exact ⟨⟨_,_⟩,hI,Nat.lt_succ_self _,(ft [] rfl rfl rfl trivial)⟩
  | (cases hI; rfl))
@[irreducible] def d56 (fuel : Nat) (a0 : List S65) (a1 : Int) : Option (S65 × Bool) := ((d59 fuel a0 a1).bind fun z1 => (bif decide (z1 < (0 : Int)) then some (ze65,false) else (at1 a0 z1 fun x2 => some (x2,true))))
theorem d56_ok (fuel : Nat) (a0 : List S65) (a1 : Int) (r : S65 × Bool) (hI : d56 fuel a0 a1 = some r) : WValid P 56 [.lst (a0.map S65.c),.sc (.int .i64 a1)] (fun z => z = .tup [.agg (S65.c r.1),.sc (.bool r.2)]) := by
 refine go Tryz.func56 (by kernel_rfl) ?_
 rw [d56] at hI
 repeat' ((conv => whnf); first
  | refine B hI (fun hI => ?_) fun hI => ?_
  | refine cI hI (d59_ok fuel _ _) fun x hI => ?_
  | refine cL hI (fun _ => rfl) fun x hI => ?_
  | (cases hI; rfl))
def d76_0 (fuel : Nat) (a0 : List S65) (a1 : List S71) : Nat → (List S65) → Int → Option (List S65)
  | 0,_,_ => none
  | n + 1,o1,s2 => (bif decide (s2 < (a1.length : Int)) then (at1 a1 s2 fun x3 => ((d56 fuel a0 x3.f2).bind fun z4 => (bif z4.2 then (rm 376 o1 [z4.1] (d76_0 fuel a0 a1 n (o1 ++ [z4.1]) (nx s2))) else d76_0 fuel a0 a1 n o1 (nx s2)))) else some o1)
@[irreducible] def d76 (fuel : Nat) (a0 : List S65) (a1 : List S71) : Option (List S65) := d76_0 fuel a0 a1 fuel ([] : List S65) (0 : Int)
theorem d76_ok (fuel : Nat) (a0 : List S65) (a1 : List S71) (r : List S65) (hI : d76 fuel a0 a1 = some r) : WValid P 76 [.lst (a0.map S65.c),.lst (a1.map S71.c)] (fun z => z = .lst (r.map S65.c)) := by
 refine go Tryz.func76 (by kernel_rfl) ?_
 rw [d76] at hI
 conv => whnf
 refine L2 (fun o1 s2 => [(0,.lst (List.map S65.c a0)),(1,.lst (List.map S71.c a1)),(5,.row 0),(6,.sc (.int .i64 s2))]) (fun o1 s2 => ⟨[(0,.row (List.map S65.c o1) 29 false 0)],1⟩) hI (ft [(0,some 0)] rfl rfl rfl ⟨fR rfl rfl fun _ => rfl,trivial⟩) (fun _ _ => rfl) ?_
 rintro n0 o1 s2 hI; rw [d76_0] at hI
 all_goals repeat' ((conv => whnf); first
  | refine B hI (fun hI => ?_) fun hI => ?_
  | refine ⟨_,List.length_map ..,?_⟩
  | refine cL hI (fun _ => rfl) fun x hI => ?_
  | refine cI hI (d56_ok fuel _ _) fun x hI => ?_
  | refine aM (f := S65.c) hI rfl (fun _ => ⟨rfl,rfl⟩) fun hI => ?_
  | refine ⟨_,_,deep0 (leafs_map (f := S65.c) (fun _ => rfl) _),?_⟩
  | exact ⟨⟨_,_,_⟩,hI,Nat.lt_succ_self _,(ft [(0,some 3)] rfl rfl rfl ⟨fR rfl rfl fun _ => rfl,trivial⟩)⟩
  | exact ⟨⟨_,_,_⟩,hI,Nat.lt_succ_self _,(ft [(0,some 0)] rfl rfl rfl ⟨fR rfl rfl fun _ => rfl,trivial⟩)⟩
  | (cases hI; rfl))
@[irreducible] def d27 (fuel : Nat) (a0 : S30) : Option (List S65) := ((d76 fuel a0.f1 a0.f5).bind fun z1 => some z1)
theorem d27_ok (fuel : Nat) (a0 : S30) (r : List S65) (hI : d27 fuel a0 = some r) : WValid P 27 [.agg (S30.c a0)] (fun z => z = .lst (r.map S65.c)) := by
 refine go Tryz.func27 (by kernel_rfl) ?_
 rw [d27] at hI
 repeat' ((conv => whnf); first
  | refine cI hI (d76_ok fuel _ _) fun x hI => ?_
  | (cases hI; rfl))
def d78_0 (fuel : Nat) (a0 : ByteArray) : Nat → Int → Option Int
  | 0,_ => none
  | n + 1,s1 => (bif decide (s1 < (a0.size : Int)) then (atS a0 s1 fun b2 => (bif (!((b2.toNat : Int) == 58)) then d78_0 fuel a0 n (nx s1) else some s1)) else some s1)
@[irreducible] def d78 (fuel : Nat) (a0 : ByteArray) : Option Int := d78_0 fuel a0 fuel (0 : Int)
theorem d78_ok (fuel : Nat) (a0 : ByteArray) (r : Int) (hI : d78 fuel a0 = some r) : WValid P 78 [.sc (.string a0)] (fun z => z = .sc (.int .i64 r)) := by
 refine go Tryz.func78 (by kernel_rfl) ?_
 rw [d78] at hI
 conv => whnf
 refine L1 (fun s1 => [(0,.sc (.string a0)),(3,.sc (.int .i64 s1))]) (fun _ => ⟨[],0⟩) hI (ft [] rfl rfl rfl trivial) (fun _ => rfl) ?_
 rintro n0 s1 hI; rw [d78_0] at hI
 all_goals repeat' ((conv => whnf); first
  | refine B hI (fun hI => ?_) fun hI => ?_
  | refine cS hI fun x hI => ?_
  | exact ⟨⟨_,_⟩,hI,Nat.lt_succ_self _,(ft [] rfl rfl rfl trivial)⟩
  | (cases hI; rfl))
@[irreducible] def d197 (fuel : Nat) (a0 : Int) : Option Bool := (bif decide (a0 ≥ (97 : Int)) then (bif decide (a0 ≤ (122 : Int)) then some true else (bif decide (a0 ≥ (48 : Int)) then some (decide (a0 ≤ (57 : Int))) else some false)) else (bif decide (a0 ≥ (48 : Int)) then some (decide (a0 ≤ (57 : Int))) else some false))
theorem d197_ok (fuel : Nat) (a0 : Int) (r : Bool) (hI : d197 fuel a0 = some r) : WValid P 197 [.sc (.int .u8 a0)] (fun z => z = .sc (.bool r)) := by
 refine go Tryz.func197 (by kernel_rfl) ?_
 rw [d197] at hI
 repeat' ((conv => whnf); first
  | refine B hI (fun hI => ?_) fun hI => ?_
  | (cases hI; rfl))
end
end Go.Abs.RM
