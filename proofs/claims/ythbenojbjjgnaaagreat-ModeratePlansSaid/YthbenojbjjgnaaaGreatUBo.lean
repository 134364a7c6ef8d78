/- Functions of the program, as Lean functions: printed by dec.py. -/
import Derived.Test.YthbenojbjjgnaaaGreatUAl
set_option linter.unusedVariables false
set_option linter.unusedSimpArgs false
set_option linter.unusedSectionVars false
namespace Go.Abs.RM
open Go.Proofs
noncomputable section
set_option maxRecDepth 100000
set_option maxHeartbeats 4000000
def d19_0 (fuel : Nat) (a0 : List S103) : Nat → Int → Option Bool
  | 0,_ => none
  | n + 1,s1 => (bif decide (s1 < (a0.length : Int)) then (at1 a0 s1 fun x2 => (bif decide ((x2.f1.size : Int) > (100 : Int)) then some false else (at1 a0 s1 fun x3 => (bif decide ((x3.f2.size : Int) > (100 : Int)) then some false else d19_0 fuel a0 n (nx s1))))) else some true)
@[irreducible] def d19 (fuel : Nat) (a0 : List S103) : Option Bool := (bif decide ((a0.length : Int) > (12 : Int)) then some false else d19_0 fuel a0 fuel (0 : Int))
theorem d19_ok (fuel : Nat) (a0 : List S103) (r : Bool) (hI : d19 fuel a0 = some r) : WValid P 19 [.lst (a0.map S103.c)] (fun z => z = .sc (.bool r)) := by
 refine go Tryz.func19 (by kernel_rfl) ?_
 rw [d19] at hI
 conv => whnf
 refine ⟨_,List.length_map ..,?_⟩
 conv => whnf
 refine B hI (fun hI => ?_) fun hI => ?_
 rotate_left
 conv => whnf
 refine L1 (fun s1 => [(0,.lst (List.map S103.c a0)),(3,.sc (.int .i64 s1))]) (fun _ => ⟨[],0⟩) hI (ft [] rfl rfl rfl trivial) (fun _ => rfl) ?_
 rintro n0 s1 hI; rw [d19_0] at hI
 all_goals repeat' ((conv => whnf); first
  | refine B hI (fun hI => ?_) fun hI => ?_
  | refine ⟨_,List.length_map ..,?_⟩
  | refine cL hI (fun _ => rfl) fun x hI => ?_
  | exact ⟨⟨_,_⟩,hI,Nat.lt_succ_self _,(ft [] rfl rfl rfl trivial)⟩
  | (cases hI; rfl))
def d137_0 (fuel : Nat) (a0 : List ByteArray) : Nat → (List ByteArray) → (List ByteArray) → Int → Option (List ByteArray)
  | 0,_,_,_ => none
  | n + 1,o1,o2,s3 => (bif decide (s3 < (a0.length : Int)) then (at1 a0 s3 fun x4 => (bif memS o1 x4 then d137_0 fuel a0 n o1 o2 (nx s3) else (rm 16 o2 [x4] (d137_0 fuel a0 n (insS o1 x4) (o2 ++ [x4]) (nx s3))))) else ((d191 fuel o2).bind fun z5 => some z5))
@[irreducible] def d137 (fuel : Nat) (a0 : List ByteArray) : Option (List ByteArray) := (bif mkB 16 (a0.length : Int) then d137_0 fuel a0 fuel [] ([] : List ByteArray) (0 : Int) else none)
theorem d137_ok (fuel : Nat) (a0 : List ByteArray) (r : List ByteArray) (hI : d137 fuel a0 = some r) : WValid P 137 [.lst (a0.map cStr)] (fun z => z = .lst (r.map cStr)) := by
 refine go Tryz.func137 (by kernel_rfl) ?_
 rw [d137] at hI
 conv => whnf
 refine ⟨_,List.length_map ..,?_⟩
 conv => whnf
 refine ⟨_,List.length_map ..,?_⟩
 conv => whnf
 refine mk0 hI fun hI => ?_
 conv => whnf
 refine ⟨_,List.length_map ..,?_⟩
 conv => whnf
 refine L3 (fun o1 o2 s3 => [(3,.mp 0),(4,.row 1),(13,.lst (List.map cStr a0)),(14,.sc (.int .i64 (a0.length : Int))),(15,.sc (.int .i64 s3))]) (fun o1 o2 s3 => ⟨[(0,.set (List.map Value.string o1) (some (.bool true))),(1,.row (List.map cStr o2) 1 false 1)],2⟩) hI (ft [(0,some 0),(1,some 1)] rfl rfl rfl ⟨fitO_set rfl rfl (.inl rfl),fR rfl rfl fun _ => rfl,trivial⟩) (fun _ _ _ => rfl) ?_
 rintro n0 o1 o2 s3 hI; rw [d137_0] at hI
 all_goals repeat' ((conv => whnf); first
  | refine B hI (fun hI => ?_) fun hI => ?_
  | refine cL hI (fun _ => rfl) fun x hI => ?_
  | refine ⟨_,hasK_str _ _,B hI (fun hI => ?_) fun hI => ?_⟩
  | refine ⟨by first | exact .inl rfl | exact .inr rfl,_,insK_str _ _,?_⟩
  | refine aM (f := cStr) hI rfl (fun _ => ⟨rfl,rfl⟩) fun hI => ?_
  | refine ⟨_,_,deep0 (leafs_map (f := cStr) (fun _ => rfl) _),?_⟩
  | refine cT hI (leafs_map (f := cStr) (fun _ => rfl) _) (d191_set fuel _) (fun x hI => ?_) rfl rfl rfl
  | exact ⟨⟨_,_,_,_⟩,hI,Nat.lt_succ_self _,(ft [(0,some 0),(1,some 1)] rfl rfl rfl ⟨fitO_set rfl rfl (.inr rfl),fR rfl rfl fun _ => rfl,trivial⟩)⟩
  | exact ⟨⟨_,_,_,_⟩,hI,Nat.lt_succ_self _,(ft [(0,some 0),(1,some 3)] rfl rfl rfl ⟨fitO_set rfl rfl (.inr rfl),fR rfl rfl fun _ => rfl,trivial⟩)⟩
  | (cases hI; rfl))
def d72_0 (fuel : Nat) (a0 : List S65) (a1 : Int) : Nat → (List ByteArray) → (List ByteArray) → Int → Option (List ByteArray)
  | 0,_,_,_ => none
  | n + 1,o1,o2,s3 => (bif decide (s3 < (a0.length : Int)) then (at1 a0 s3 fun x4 => (bif (!(x4.f3 == 2)) then d72_0 fuel a0 a1 n o1 o2 (nx s3) else (bif memS o1 x4.f5 then d72_0 fuel a0 a1 n o1 o2 (nx s3) else (bif (x4.f10.f1 == a1) then (rm 16 o2 [x4.f5] (d72_0 fuel a0 a1 n (insS o1 x4.f5) (o2 ++ [x4.f5]) (nx s3))) else d72_0 fuel a0 a1 n (insS o1 x4.f5) o2 (nx s3))))) else ((d137 fuel o2).bind fun z5 => some z5))
@[irreducible] def d72 (fuel : Nat) (a0 : List S65) (a1 : Int) : Option (List ByteArray) := d72_0 fuel a0 a1 fuel [] [] (0 : Int)
theorem d72_ok (fuel : Nat) (a0 : List S65) (a1 : Int) (r : List ByteArray) (hI : d72 fuel a0 a1 = some r) : WValid P 72 [.lst (a0.map S65.c),.sc (.int .i64 a1)] (fun z => z = .lst (r.map cStr)) := by
 refine go Tryz.func72 (by kernel_rfl) ?_
 rw [d72] at hI
 conv => whnf
 refine ⟨_,List.length_map ..,?_⟩
 conv => whnf
 refine L3 (fun o1 o2 s3 => [(0,.lst (List.map S65.c a0)),(1,.sc (.int .i64 a1)),(5,.mp 0),(6,.row 1),(11,.sc (.int .i64 (a0.length : Int))),(12,.sc (.int .i64 s3))]) (fun o1 o2 s3 => ⟨[(0,.set (List.map Value.string o1) (some (.bool true))),(1,.row (List.map cStr o2) 1 false 1)],2⟩) hI (ft [(0,some 0),(1,none)] rfl rfl rfl ⟨fitO_set rfl rfl (.inl rfl),fitO_nil rfl rfl,trivial⟩) (fun _ _ _ => rfl) ?_
 rintro n0 o1 o2 s3 hI; rw [d72_0] at hI
 all_goals repeat' ((conv => whnf); first
  | refine B hI (fun hI => ?_) fun hI => ?_
  | refine cL hI (fun _ => rfl) fun x hI => ?_
  | refine ⟨_,hasK_str _ _,B hI (fun hI => ?_) fun hI => ?_⟩
  | refine ⟨by first | exact .inl rfl | exact .inr rfl,_,insK_str _ _,?_⟩
  | refine aM (f := cStr) hI rfl (fun _ => ⟨rfl,rfl⟩) fun hI => ?_
  | refine ⟨_,_,deep0 (leafs_map (f := cStr) (fun _ => rfl) _),?_⟩
  | refine cI hI (d137_ok fuel _) fun x hI => ?_
  | exact ⟨⟨_,_,_,_⟩,hI,Nat.lt_succ_self _,(ft [(0,some 0),(1,some 1)] rfl rfl rfl ⟨fitO_set rfl rfl (.inr rfl),fR rfl rfl fun _ => rfl,trivial⟩)⟩
  | exact ⟨⟨_,_,_,_⟩,hI,Nat.lt_succ_self _,(ft [(0,some 0),(1,some 3)] rfl rfl rfl ⟨fitO_set rfl rfl (.inr rfl),fR rfl rfl fun _ => rfl,trivial⟩)⟩
  | (cases hI; rfl))
def d164_0 (fuel : Nat) (a0 : List S65) (a1 : S65 → Option Bool) : Nat → Int → Option Int
  | 0,_ => none
  | n + 1,s1 => (bif decide (s1 < (a0.length : Int)) then (at1 a0 s1 fun x2 => ((a1 x2).bind fun z3 => (bif z3 then some s1 else d164_0 fuel a0 a1 n (nx s1)))) else some (-1 : Int))
@[irreducible] def d164 (fuel : Nat) (a0 : List S65) (a1 : S65 → Option Bool) : Option Int := d164_0 fuel a0 a1 fuel (0 : Int)
theorem d164_ok (fuel : Nat) (a0 : List S65) (a1 : S65 → Option Bool) (c1 : FuncId) (g1 : List WV) (hg1 : g1.all capB = true) (hf1 : ∀ x0_ r,a1 x0_ = some r → WValid P c1 ([] ++ [.agg (S65.c x0_)] ++ g1) (fun z => z = .sc (.bool r))) (r : Int) (hI : d164 fuel a0 a1 = some r) : WValid P 164 [.lst (a0.map S65.c),.fnp c1 [] g1] (fun z => z = .sc (.int .i64 r)) := by
 refine go Tryz.func164 (by kernel_rfl) ?_
 rw [d164] at hI
 conv => whnf
 refine ⟨_,List.length_map ..,?_⟩
 conv => whnf
 refine L1 (fun s1 => [(0,.lst (List.map S65.c a0)),(1,.fnp c1 [] g1),(7,.sc (.int .i64 (a0.length : Int))),(8,.sc (.int .i64 s1))]) (fun _ => ⟨[],0⟩) hI (ft [] rfl rfl rfl trivial) (fun _ => rfl) ?_
 rintro n0 s1 hI; rw [d164_0] at hI
 conv => whnf
 refine B hI (fun hI => ?_) fun hI => ?_
 conv => whnf
 refine cL hI (fun _ => rfl) fun x2 hI => ?_
 conv => whnf
 refine view_caps hg1 ?_
 conv => whnf
 refine cI hI (hf1 _) fun z3 hI => ?_
 rotate_left
 all_goals repeat' ((conv => whnf); first
  | refine B hI (fun hI => ?_) fun hI => ?_
  | exact ⟨⟨_,_⟩,hI,Nat.lt_succ_self _,(ft [] rfl rfl rfl trivial)⟩
  | (cases hI; rfl))
@[irreducible] def d165 (fuel : Nat) (a0 : S65) (a1 : Int) : Option Bool := some (a0.f0 == a1)
theorem d165_ok (fuel : Nat) (a0 : S65) (a1 : Int) (r : Bool) (hI : d165 fuel a0 a1 = some r) : WValid P 165 [.agg (S65.c a0),.ipt [.sc (.int .i64 a1)]] (fun z => z = .sc (.bool r)) := by
 refine go Tryz.func165 (by kernel_rfl) ?_
 rw [d165] at hI
 repeat' ((conv => whnf); first
  | (cases hI; rfl))
@[irreducible] def d98 (fuel : Nat) (a0 : List S65) (a1 : Int) : Option Int := ((d164 fuel a0 (fun x0_ => d165 fuel x0_ a1)).bind fun z1 => some z1)
theorem d98_ok (fuel : Nat) (a0 : List S65) (a1 : Int) (r : Int) (hI : d98 fuel a0 a1 = some r) : WValid P 98 [.lst (a0.map S65.c),.sc (.int .i64 a1)] (fun z => z = .sc (.int .i64 r)) := by
 refine go Tryz.func98 (by kernel_rfl) ?_
 rw [d98] at hI
 conv => whnf
 refine cI hI (d164_ok fuel a0 (fun x0_ => d165 fuel x0_ a1) 165 [.ipt [.sc (.int .i64 a1)]] rfl (fun x0_ r h => d165_ok fuel x0_ a1 r h)) fun z1 hI => ?_
 all_goals repeat' ((conv => whnf); first
  | (cases hI; rfl))
@[irreducible] def d50 (fuel : Nat) (a0 : List S65) (a1 : Int) : Option (S65 × Bool) := ((d98 fuel a0 a1).bind fun z1 => (bif decide (z1 < (0 : Int)) then some (ze65,false) else (at1 a0 z1 fun x2 => some (x2,true))))
theorem d50_ok (fuel : Nat) (a0 : List S65) (a1 : Int) (r : S65 × Bool) (hI : d50 fuel a0 a1 = some r) : WValid P 50 [.lst (a0.map S65.c),.sc (.int .i64 a1)] (fun z => z = .tup [.agg (S65.c r.1),.sc (.bool r.2)]) := by
 refine go Tryz.func50 (by kernel_rfl) ?_
 rw [d50] at hI
 repeat' ((conv => whnf); first
  | refine B hI (fun hI => ?_) fun hI => ?_
  | refine cI hI (d98_ok fuel _ _) fun x hI => ?_
  | refine cL hI (fun _ => rfl) fun x hI => ?_
  | (cases hI; rfl))
def d138_0 (fuel : Nat) (a0 : List S65) : List S71 → List S65 → Option (List S65)
  | [],o => some o
  | e :: l,o => ((d50 fuel a0 e.f2).bind fun z => (bif z.2 then (bif roomB 376 (o.length + [z.1].length) then d138_0 fuel a0 l (o ++ [z.1]) else none) else d138_0 fuel a0 l o))
def d138 (fuel : Nat) (a0 : List S65) (a1 : List S71) : Option (List S65) := (bif decide (a1.length ≤ 1000000) then d138_0 fuel a0 a1 [] else none)
noncomputable def c138A : Code := match Tryz.f138.body with | some (.seq a _) => a | _ => .skip
noncomputable def c138B : Code := match Tryz.f138.body with | some (.seq _ (.seq b _)) => b | _ => .skip
noncomputable def c138C : Code := match Tryz.f138.body with | some (.seq _ (.seq _ (.seq (.seq c _) _))) => c | _ => .skip
noncomputable def c138a : Code := match Tryz.f138.body with | some (.seq _ (.seq _ (.seq (.seq _ (.block _ (.rangeFunc _ _ a _))) _))) => a | _ => .skip
noncomputable def c138b : Code := match Tryz.f138.body with | some (.seq _ (.seq _ (.seq (.seq _ (.block _ (.rangeFunc _ _ _ b))) _))) => b | _ => .skip
noncomputable def c138D : Code := match Tryz.f138.body with | some (.seq _ (.seq _ (.seq _ d))) => d | _ => .skip
theorem each196 (es : List (List WV)) (h : leafs es) : WValid P 196 [.lst es] (fun z => z = .fnp 248 [] [.ipt [.lst es]]) := by
  refine go Tryz.func196 (by kernel_rfl) ?_
  conv => whnf
  rfl
noncomputable def hp138 (a0 : List S65) (o : List S65) : WH := ⟨[(0,.box [.lst (a0.map S65.c)] false),(1,.box [.row 2] false),(2,.row (o.map S65.c) 29 false 2)],3⟩
noncomputable def T138 : WT := [(2,.box 0 0),(5,.box 1 0)]
theorem pre138 (a0 : List S65) (a1 : List S71) : Wk P tabL c138A [(0,.lst (a0.map S65.c)),(1,.lst (a1.map S71.c))] ⟨[],0⟩ (onlyN fun T W => Wk P tabL c138B T W (onlyN fun T W => Wk P tabL c138C T W (onlyN fun T W => lk T 10 = some (.fnp 248 [] [.ipt [.lst (a1.map S71.c)]]) ∧ lk T 2 = some (.box 0 0) ∧ lk T 5 = some (.box 1 0) ∧ Fits T138 W T138 (hp138 a0 [])))) := by
  conv => whnf
  refine .inl ⟨_,each196 _ (leafs_map (fun _ => rfl) _),?_⟩
  rintro _ rfl
  conv => whnf
  refine ⟨rfl,rfl,rfl,fits_of [(0,some 0),(1,some 1),(2,none)] rfl ⟨⟨rfl,rfl⟩,⟨rfl,rfl⟩,trivial⟩ ⟨fitO_box rfl rfl rfl (fun h => rfl),fitO_rbox rfl rfl rfl (fun h => rfl),fitO_nil rfl rfl,trivial⟩⟩
theorem round138 (fuel : Nat) (a0 : List S65) (e : S71) (l : List S71) (o r : List S65) (hI : d138_0 fuel a0 (e :: l) o = some r) :
    Wk P tabL c138a (putsW T138 [11] [.agg (S71.c e)]) (hp138 a0 o) (onlyN fun T2 W2 => Wk P tabL c138b T2 W2 (onlyN fun _ W3 => ∃ s,(∃ l1,l.map S71.c = l1.map S71.c ∧ d138_0 fuel a0 l1 s = some r) ∧ Fits T138 W3 T138 (hp138 a0 s))) := by
  rw [d138_0] at hI
  conv => whnf
  obtain ⟨z1,hz,hI⟩ := bnd hI
  refine .inl ⟨_,d50_ok fuel a0 _ _ hz,?_⟩
  rintro _ rfl
  conv => whnf
  refine br (fun h => ?_) (fun h => ?_)
  · have hI := bT h hI
    obtain ⟨hc,hI⟩ := ckd hI
    conv => whnf
    refine ⟨rooms (f := S65.c) hc rfl,cellP_lit rfl,List.map S65.c (o ++ [z1.1]),(List.map_append (f := S65.c) (l₁ := o) (l₂ := [z1.1])).symm,?_⟩
    conv => whnf
    refine ⟨_,⟨l,rfl,hI⟩,fits_of [(0,some 0),(1,some 1),(2,some 6)] rfl ⟨⟨rfl,rfl⟩,⟨rfl,rfl⟩,trivial⟩ ⟨fitO_box rfl rfl rfl (fun h => rfl),fitO_rbox rfl rfl rfl (fun h => rfl),fitO_row rfl rfl (leafs_map (f := S65.c) (fun _ => rfl) _) (fun h => rfl),trivial⟩⟩
  · have hI := bF h hI
    conv => whnf
    refine ⟨_,⟨l,rfl,hI⟩,fits_of [(0,some 0),(1,some 1),(2,some 2)] rfl ⟨⟨rfl,rfl⟩,⟨rfl,rfl⟩,trivial⟩ ⟨fitO_box rfl rfl rfl (fun h => rfl),fitO_rbox rfl rfl rfl (fun h => rfl),fitO_row rfl rfl (leafs_map (f := S65.c) (fun _ => rfl) _) (fun h => rfl),trivial⟩⟩
theorem post138 (a0 r : List S65) : Wk P tabL c138D T138 (hp138 a0 r) (endsW tabL (resOf Tryz.f138) (fun z => z = .lst (r.map S65.c))) := by
  conv => whnf
  refine ⟨_,_,deep0 (leafs_map (f := S65.c) (fun _ => rfl) _),?_⟩
  conv => whnf
  rfl
theorem prss_S71 : ∀ {l : List S71} {es : List (List AV)},PRss (l.map S71.c) es → ∀ e ∈ es,e.length = 3 ∧ e.all AV.storable = true
  | [],_,.nil => fun _ h => by cases h
  | s :: l,_,.cons h hs => fun e he => by
    rcases List.mem_cons.1 he with rfl | he
    · exact ⟨((prs_all2.1 h).length).symm,storables_of (R := ⟨0,fun _ => False,fun _ => 0,fun _ => nilA⟩) rfl h.wrs⟩
    · exact prss_S71 hs e he
theorem seq_exactly {P : Program} {N n0 : Nat} {x y : Code} {T T1 : TL} {H H1 : Heap} {Q : Post} (h : CW P .out N n0 x T H (exactly .normal T1 H1)) (h2 : CW P .out N n0 y T1 H1 Q) : CW P .out N n0 (.seq x y) T H Q := CW.seq (h.mono (by rintro e T H ⟨rfl,rfl,rfl⟩; exact h2))
theorem d138_ok (fuel : Nat) (a0 : List S65) (a1 : List S71) (r : List S65) (hI : d138 fuel a0 a1 = some r) : WValid P 138 [.lst (a0.map S65.c),.lst (a1.map S71.c)] (fun z => z = .lst (r.map S65.c)) := by
  obtain ⟨hbig,hI⟩ := ckd hI
  have hbig := of_decide_eq_true hbig
  intro xs hxs
  let R0 : Rn := ⟨0,fun _ => False,fun _ => 0,fun _ => nilA⟩
  have rt0 : RelT R0 (argsT 0 [.lst (a0.map S65.c),.lst (a1.map S71.c)]) (argT 0 xs) := fun t v h => let ⟨x,h1,h2⟩ := argsT_rel 0 hxs t v h; ⟨x,h1,.pure h2⟩
  have rh0 : RelH R0 ⟨[],0⟩ ⟨[],0⟩ := ⟨rfl,fun n o h => by (cases h),fun n m o p h => by (cases h),fun _ _ => rfl⟩
  -- ahead of the loop
  obtain ⟨e1,R1,T1,W1,Tc1,H1,hc1,rt1,rh1,kp1,le1,hq1⟩ := W_le (N := 25) tabOk mixed c138A R0 _ _ _ _ _ rfl (by kernel_rfl) rt0 rh0 (pre138 a0 a1)
  cases e1 with
  | exit id => exact hq1.elim
  | ret => exact hq1.elim
  | normal =>
  obtain ⟨e2,R2,T2,W2,Tc2,H2,hc2,rt2,rh2,kp2,le2,hq2⟩ := W_le (N := 25) tabOk mixed c138B R1 _ _ _ _ _ rfl (by kernel_rfl) rt1 rh1 hq1
  cases e2 with
  | exit id => exact hq2.elim
  | ret => exact hq2.elim
  | normal =>
  obtain ⟨e3,R3,T3,W3,Tc3,H3,hc3,rt3,rh3,kp3,le3,hq3⟩ := W_le (N := 25) tabOk mixed c138C R2 _ _ _ _ _ rfl (by kernel_rfl) rt2 rh2 hq2
  cases e3 with
  | exit id => exact hq3.elim
  | ret => exact hq3.elim
  | normal =>
  obtain ⟨h10,h2,h5,hfit⟩ := hq3
  have rtT : RelT R3 T138 Tc3 := fun t v h => by
    simp only [T138,lk_cons] at h
    split at h
    · rename_i e; subst e; cases h; exact rt3 2 _ h2
    · split at h
      · rename_i e; subst e; cases h; exact rt3 5 _ h5
      · cases h
  obtain ⟨R4,rt4,rh4,kp4⟩ := hfit R3 Tc3 H3 rtT rh3
  obtain ⟨g,hg,hgr⟩ := rt3 10 _ h10
  obtain ⟨gs,cs,rfl,hgs,hcs,_,_⟩ := hgr.fnp_inv
  cases hgs
  cases hcs with
  | cons hcx hcs =>
  cases hcs
  cases hcx with
  | ipt hcx =>
  cases hcx with
  | cons hx hxn =>
  cases hxn
  rename_i x
  obtain ⟨es,hes,hx'⟩ : ∃ es,PRss (a1.map S71.c) es ∧ ((x = .sc (.slice none 0 0) ∧ es = []) ∨ ∃ c,x = .isl es c) := by
    rcases (WR.pure (R := R3) hx).lst_inv with ⟨h0,rfl⟩ | ⟨es,c,rfl,h⟩
    · exact ⟨[],by rw [h0]; exact .nil,.inl ⟨rfl,rfl⟩⟩
    · exact ⟨es,h,.inr ⟨c,rfl⟩⟩
  -- the rounds
  have hun : ∀ m,H3.next ≤ m → Unown R4 (hp138 a0 []) m := fun m hm k o h1 h2 e => by
    obtain ⟨p,hp⟩ := rh4.ob_look h1 h2
    rw [e,rh4.fresh m hm] at hp
    cases hp
  have hn0 : look (put H3.objs H3.next (.loop Tc3 25 [11] c138a c138b .ready none)) H3.next = some (.loop Tc3 25 [11] c138a c138b .ready none) := by rw [look_put,if_pos rfl]
  have rhX : RelH R4 (hp138 a0 []) ⟨put H3.objs H3.next (.loop Tc3 25 [11] c138a c138b .ready none),H3.next + 1 + 3⟩ := relH_other rh4 (hun _ (Nat.le_refl _)) (by omega) (by omega)
  obtain ⟨R5,H5,s5,hfed,⟨l5,hl5,hI5⟩,rt5,rh5,hu5,hn5,hle5,hk5⟩ := fed_of tabOk mixed (N := 25) (T0 := T138) (Tc0 := Tc3) (n := H3.next) (a := 3) (b := 8) (c := 3) (s := 3) (z := zE) (by omega) (ps := [11]) (asg := c138a) (body := c138b) (S := List S65) (hp := hp138 a0) (I := fun rem o => ∃ l,rem = l.map S71.c ∧ d138_0 fuel a0 l o = some r)
    (by simp) rfl ⟨by kernel_rfl,by kernel_rfl⟩ ⟨by kernel_rfl,by kernel_rfl⟩ (fun y l s h => by
      obtain ⟨l',he,hI'⟩ := h
      cases l' with
      | nil => cases he
      | cons e l' =>
        cases he
        exact round138 fuel a0 e l' s r hI') hes ⟨a1,rfl,hI⟩ rt4 rhX hn0 (hun _ (Nat.le_refl _)) (show H3.next < H3.next + 1 + 3 by omega)
  cases l5 with
  | cons _ _ => cases hl5
  | nil =>
  cases hI5
  have hlen : es.length ≤ 1000000 := by
    have := (prss_all2.1 hes).length
    rw [List.length_map] at this
    omega
  have hv := each_ok (H := ⟨put H3.objs H3.next (.loop Tc3 25 [11] c138a c138b .ready none),H3.next + 1⟩) hx' (prss_S71 hes) hlen hfed
  have hle5' : H3.next + 1 + 3 ≤ H5.next := hle5
  have rh6 : RelH R5 (hp138 a0 r) ⟨put H5.objs H3.next (.loop Tc3 25 [11] c138a c138b .exhausted none),H5.next + 1⟩ := relH_other rh5 hu5 (Nat.le_succ _) (by omega)
  have hrf : CW P .out 25 0 (.rangeFunc (.tmp 10) #[11] c138a c138b) Tc3 H3 (exactly .normal Tc3 ⟨put H5.objs H3.next (.loop Tc3 25 [11] c138a c138b .exhausted none),H5.next + 1⟩) := by
    refine CW.rangeFunc (first := []) (caps := [.ipt [x]]) (gf := 248) (r := .ret (.tup [])) (H2 := ⟨H5.objs,H5.next + 1⟩) hg hv ?_ ?_
    · refine okEff_glob (show H3.next + 1 ≤ H5.next + 1 by omega) fun k hk => ?_
      rcases hk5 k hk with q | q
      · exact .inl q
      · exact .inr (Nat.le_trans (Nat.le_add_right _ _) q)
    · exact ⟨_,_,_,_,_,_,_,hn5,(by intro h; cases h),(show exactly .normal _ _ .normal _ _ from ⟨rfl,rfl,rfl⟩)⟩
  obtain ⟨e6,R6,T6,W6,Tc6,H6,hc6,rt6,rh7,kp6,le6,hq6⟩ := W_le (N := 25) tabOk mixed c138D R5 _ _ Tc3 _ _ (by kernel_rfl) (by kernel_rfl) rt5 rh6 (post138 a0 r)
  have fin : endW tabL (resOf Tryz.f138) (fun z => z = .lst (r.map S65.c)) T6 W6 → (e6 = .normal ∨ e6 = .ret) → ∃ r' x,PR r' x ∧ r' = .lst (r.map S65.c) ∧ Valid P 138 xs (.ret x) := fun hq he => by
    obtain ⟨v,k,r',x',ns,q1,q2,q3,q4⟩ := endW_ok rt6 rh7 hq
    refine ⟨r',x',q3,q4,valid_of tabOk Tryz.func138 rfl (by kernel_rfl) (by rw [← (prs_all2.1 hxs).length]; show 2 ≤ 25; omega) ?_⟩
    refine seq_exactly (hc1 .out 0) (seq_exactly (hc2 .out 0) (seq_exactly (seq_exactly (hc3 .out 0) (CW.block (hrf.mono ?_))) ((hc6 .out 0).mono ?_)))
    · rintro e T H ⟨rfl,rfl,rfl⟩; exact ⟨rfl,rfl,rfl⟩
    · rintro e' T' H' ⟨rfl,rfl,rfl⟩
      rcases he with rfl | rfl <;> exact ⟨v,q1,k,x',ns,q2,rfl⟩
  cases e6 with
  | normal => exact fin hq6 (.inl rfl)
  | ret => exact fin hq6 (.inr rfl)
  | exit id => exact hq6.elim
@[irreducible] def d73 (fuel : Nat) (a0 : S112) : Option (List S65) := ((d138 fuel a0.f0.f1 a0.f0.f5).bind fun z1 => some z1)
theorem d73_ok (fuel : Nat) (a0 : S112) (r : List S65) (hI : d73 fuel a0 = some r) : WValid P 73 [.ipt (S112.c a0)] (fun z => z = .lst (r.map S65.c)) := by
 refine go Tryz.func73 (by kernel_rfl) ?_
 rw [d73] at hI
 repeat' ((conv => whnf); first
  | refine cI hI (d138_ok fuel _ _) fun x hI => ?_
  | refine ⟨by kernel_rfl,?_⟩
  | (cases hI; rfl))
@[irreducible] def d242 (fuel : Nat) (a0 : ByteArray) (a1 : Int) : Option Int := ((d332 fuel a0 a1).bind fun z1 => some z1)
theorem d242_ok (fuel : Nat) (a0 : ByteArray) (a1 : Int) (r : Int) (hI : d242 fuel a0 a1 = some r) : WValid P 242 [.sc (.string a0),.sc (.int .u8 a1)] (fun z => z = .sc (.int .i64 r)) := by
 refine go Tryz.func242 (by kernel_rfl) ?_
 rw [d242] at hI
 repeat' ((conv => whnf); first
  | refine cI hI (d332_ok fuel _ _) fun x hI => ?_
  | (cases hI; rfl))
end
end Go.Abs.RM
