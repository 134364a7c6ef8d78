/- Functions of the program, as Lean functions: printed by dec.py. -/
import Derived.Test.YthbenojbjjgnaaaGreatUAl
import Derived.Test.YthbenojbjjgnaaaGreatUBr
set_option linter.unusedVariables false
set_option linter.unusedSimpArgs false
set_option linter.unusedSectionVars false
namespace Go.Abs.RM
open Go.Proofs
noncomputable section
set_option maxRecDepth 100000
set_option maxHeartbeats 4000000
def d141_0 (fuel : Nat) (a0 : ByteArray) : Nat → Int → Option Bool
  | 0,_ => none
  | n + 1,s1 => (bif decide (s1 < (a0.size : Int)) then (atS a0 s1 fun b2 => ((d197 fuel (b2.toNat : Int)).bind fun z3 => (bif !z3 then (atS a0 s1 fun b4 => (bif (!((b4.toNat : Int) == 95)) then (atS a0 s1 fun b5 => (bif (!((b5.toNat : Int) == 46)) then (atS a0 s1 fun b6 => (bif (!((b6.toNat : Int) == 45)) then (atS a0 s1 fun b7 => (bif (!((b7.toNat : Int) == 61)) then some false else d141_0 fuel a0 n (nx s1))) else d141_0 fuel a0 n (nx s1))) else d141_0 fuel a0 n (nx s1))) else d141_0 fuel a0 n (nx s1))) else d141_0 fuel a0 n (nx s1)))) else (bif decide ((a0.size : Int) ≥ (1 : Int)) then some (decide ((a0.size : Int) ≤ (32 : Int))) else some false))
@[irreducible] def d141 (fuel : Nat) (a0 : ByteArray) : Option Bool := d141_0 fuel a0 fuel (0 : Int)
theorem d141_ok (fuel : Nat) (a0 : ByteArray) (r : Bool) (hI : d141 fuel a0 = some r) : WValid P 141 [.sc (.string a0)] (fun z => z = .sc (.bool r)) := by
 refine go Tryz.func141 (by kernel_rfl) ?_
 rw [d141] at hI
 conv => whnf
 refine L1 (fun s1 => [(0,.sc (.string a0)),(3,.sc (.int .i64 s1))]) (fun _ => ⟨[],0⟩) hI (ft [] rfl rfl rfl trivial) (fun _ => rfl) ?_
 rintro n0 s1 hI; rw [d141_0] at hI
 all_goals repeat' ((conv => whnf); first
  | refine B hI (fun hI => ?_) fun hI => ?_
  | refine cS hI fun x hI => ?_
  | refine cI hI (d197_ok fuel _) fun x hI => ?_
  | exact ⟨⟨_,_⟩,hI,Nat.lt_succ_self _,(ft [] rfl rfl rfl trivial)⟩
  | (cases hI; rfl))
def d142_0 (fuel : Nat) (a0 : ByteArray) : Nat → Int → Option Int
  | 0,_ => none
  | n + 1,s5 => (bif decide (s5 < (a0.size : Int)) then (atS a0 s5 fun b6 => ((d197 fuel (b6.toNat : Int)).bind fun z7 => (bif !z7 then (atS a0 s5 fun b8 => (bif (!((b8.toNat : Int) == 46)) then (atS a0 s5 fun b9 => (bif (!((b9.toNat : Int) == 45)) then some (3 : Int) else d142_0 fuel a0 n (nx s5))) else d142_0 fuel a0 n (nx s5))) else d142_0 fuel a0 n (nx s5)))) else some (0 : Int))
@[irreducible] def d142 (fuel : Nat) (a0 : ByteArray) : Option Int := (bif decide ((a0.size : Int) < (1 : Int)) then some (3 : Int) else (bif decide ((a0.size : Int) > (32 : Int)) then some (3 : Int) else (atS a0 (0 : Int) fun b1 => ((d197 fuel (b1.toNat : Int)).bind fun z2 => (bif !z2 then some (3 : Int) else (atS a0 (IntKind.wrap .i64 ((a0.size : Int) - (1 : Int))) fun b3 => ((d197 fuel (b3.toNat : Int)).bind fun z4 => (bif !z4 then some (3 : Int) else d142_0 fuel a0 fuel (0 : Int)))))))))
theorem d142_ok (fuel : Nat) (a0 : ByteArray) (r : Int) (hI : d142 fuel a0 = some r) : WValid P 142 [.sc (.string a0)] (fun z => z = .sc (.int .i64 r)) := by
 refine go Tryz.func142 (by kernel_rfl) ?_
 rw [d142] at hI
 conv => whnf
 refine B hI (fun hI => ?_) fun hI => ?_
 rotate_left
 conv => whnf
 refine B hI (fun hI => ?_) fun hI => ?_
 rotate_left
 conv => whnf
 refine cS hI fun b1 hI => ?_
 conv => whnf
 refine cI hI (d197_ok fuel _) fun z2 hI => ?_
 conv => whnf
 refine B hI (fun hI => ?_) fun hI => ?_
 rotate_left
 conv => whnf
 refine cS hI fun b3 hI => ?_
 conv => whnf
 refine cI hI (d197_ok fuel _) fun z4 hI => ?_
 conv => whnf
 refine B hI (fun hI => ?_) fun hI => ?_
 rotate_left
 conv => whnf
 refine L1 (fun s5 => [(0,.sc (.string a0)),(3,.sc (.int .i64 s5))]) (fun _ => ⟨[],0⟩) hI (ft [] rfl rfl rfl trivial) (fun _ => rfl) ?_
 rintro n0 s5 hI; rw [d142_0] at hI
 all_goals repeat' ((conv => whnf); first
  | refine B hI (fun hI => ?_) fun hI => ?_
  | refine cS hI fun x hI => ?_
  | refine cI hI (d197_ok fuel _) fun x hI => ?_
  | exact ⟨⟨_,_⟩,hI,Nat.lt_succ_self _,(ft [] rfl rfl rfl trivial)⟩
  | (cases hI; rfl))
@[irreducible] def d77 (fuel : Nat) (a0 : ByteArray) (a1 : Int) : Option Bool := (bif decide ((a0.size : Int) < (1 : Int)) then some false else (atS a0 (0 : Int) fun b1 => (bif (!((b1.toNat : Int) == a1)) then some false else ((d78 fuel a0).bind fun z2 => (bif decide (z2 < (a0.size : Int)) then (bif decide (0 ≤ (1 : Int)) && decide ((1 : Int) ≤ z2) && decide (z2 ≤ (a0.size : Int)) then ((d141 fuel (a0.extract ((1 : Int).toNat) z2.toNat)).bind fun z3 => (bif z3 then (bif decide (0 ≤ nx z2) && decide (nx z2 ≤ (a0.size : Int)) then ((d142 fuel (a0.extract ((nx z2).toNat) (a0.size))).bind fun z4 => some (z4 == 0)) else none) else some false)) else none) else some false)))))
theorem d77_ok (fuel : Nat) (a0 : ByteArray) (a1 : Int) (r : Bool) (hI : d77 fuel a0 a1 = some r) : WValid P 77 [.sc (.string a0),.sc (.int .u8 a1)] (fun z => z = .sc (.bool r)) := by
 refine go Tryz.func77 (by kernel_rfl) ?_
 rw [d77] at hI
 repeat' ((conv => whnf); first
  | refine B hI (fun hI => ?_) fun hI => ?_
  | refine cS hI fun x hI => ?_
  | refine cI hI (d78_ok fuel _) fun x hI => ?_
  | (obtain ⟨hc,hI⟩ := ckd hI; simp only [Bool.and_eq_true,decide_eq_true_eq] at hc; obtain ⟨⟨hc0,hc1⟩,hc2⟩ := hc; refine ⟨hc0,hc1,hc2,?_⟩)
  | refine cI hI (d141_ok fuel _) fun x hI => ?_
  | (obtain ⟨hc,hI⟩ := ckd hI; simp only [Bool.and_eq_true,decide_eq_true_eq] at hc; obtain ⟨hc0,hc1⟩ := hc; refine ⟨hc0,hc1,?_⟩)
  | refine cI hI (d142_ok fuel _) fun x hI => ?_
  | (cases hI; rfl))
@[irreducible] def d28 (fuel : Nat) (a0 : ByteArray) : Option ByteArray := ((d77 fuel a0 (64 : Int)).bind fun z1 => (bif !z1 then ((d77 fuel a0 (33 : Int)).bind fun z2 => (bif !z2 then some zS else ((d78 fuel a0).bind fun z3 => (bif decide (0 ≤ nx z3) && decide (nx z3 ≤ (a0.size : Int)) then some (a0.extract ((nx z3).toNat) (a0.size)) else none)))) else ((d78 fuel a0).bind fun z4 => (bif decide (0 ≤ nx z4) && decide (nx z4 ≤ (a0.size : Int)) then some (a0.extract ((nx z4).toNat) (a0.size)) else none))))
theorem d28_ok (fuel : Nat) (a0 : ByteArray) (r : ByteArray) (hI : d28 fuel a0 = some r) : WValid P 28 [.sc (.string a0)] (fun z => z = .sc (.string r)) := by
 refine go Tryz.func28 (by kernel_rfl) ?_
 rw [d28] at hI
 repeat' ((conv => whnf); first
  | refine B hI (fun hI => ?_) fun hI => ?_
  | refine cI hI (d77_ok fuel _ _) fun x hI => ?_
  | refine cI hI (d78_ok fuel _) fun x hI => ?_
  | (obtain ⟨hc,hI⟩ := ckd hI; simp only [Bool.and_eq_true,decide_eq_true_eq] at hc; obtain ⟨hc0,hc1⟩ := hc; refine ⟨hc0,hc1,?_⟩)
  | (cases hI; rfl))
def d29_0 (fuel : Nat) (a0 : List ByteArray) (a1 : ByteArray) : Nat → Int → Option Bool
  | 0,_ => none
  | n + 1,s1 => (bif decide (s1 < (a0.length : Int)) then (at1 a0 s1 fun x2 => (bif (x2.toList == a1.toList) then some true else d29_0 fuel a0 a1 n (nx s1))) else some false)
@[irreducible] def d29 (fuel : Nat) (a0 : List ByteArray) (a1 : ByteArray) : Option Bool := d29_0 fuel a0 a1 fuel (0 : Int)
theorem d29_ok (fuel : Nat) (a0 : List ByteArray) (a1 : ByteArray) (r : Bool) (hI : d29 fuel a0 a1 = some r) : WValid P 29 [.lst (a0.map cStr),.sc (.string a1)] (fun z => z = .sc (.bool r)) := by
 refine go Tryz.func29 (by kernel_rfl) ?_
 rw [d29] at hI
 conv => whnf
 refine L1 (fun s1 => [(0,.lst (List.map cStr a0)),(1,.sc (.string a1)),(5,.sc (.int .i64 s1))]) (fun _ => ⟨[],0⟩) hI (ft [] rfl rfl rfl trivial) (fun _ => rfl) ?_
 rintro n0 s1 hI; rw [d29_0] at hI
 all_goals repeat' ((conv => whnf); first
  | refine B hI (fun hI => ?_) fun hI => ?_
  | refine ⟨_,List.length_map ..,?_⟩
  | refine cL hI (fun _ => rfl) fun x hI => ?_
  | exact ⟨⟨_,_⟩,hI,Nat.lt_succ_self _,(ft [] rfl rfl rfl trivial)⟩
  | (cases hI; rfl))
def d71_0 (fuel : Nat) (a0 : ByteArray) : Nat → Int → Option Int
  | 0,_ => none
  | n + 1,s1 => (bif decide (s1 < (a0.size : Int)) then (atS a0 s1 fun b2 => (bif decide ((b2.toNat : Int) < (33 : Int)) then some (3 : Int) else (atS a0 s1 fun b3 => (bif decide ((b3.toNat : Int) > (126 : Int)) then some (3 : Int) else d71_0 fuel a0 n (nx s1))))) else some (0 : Int))
@[irreducible] def d71 (fuel : Nat) (a0 : ByteArray) : Option Int := (bif ((a0.size : Int) == 0) then some (9 : Int) else (bif decide ((a0.size : Int) > (64 : Int)) then some (7 : Int) else d71_0 fuel a0 fuel (0 : Int)))
theorem d71_ok (fuel : Nat) (a0 : ByteArray) (r : Int) (hI : d71 fuel a0 = some r) : WValid P 71 [.sc (.string a0)] (fun z => z = .sc (.int .i64 r)) := by
 refine go Tryz.func71 (by kernel_rfl) ?_
 rw [d71] at hI
 conv => whnf
 refine B hI (fun hI => ?_) fun hI => ?_
 rotate_left
 conv => whnf
 refine B hI (fun hI => ?_) fun hI => ?_
 rotate_left
 conv => whnf
 refine L1 (fun s1 => [(0,.sc (.string a0)),(3,.sc (.int .i64 s1))]) (fun _ => ⟨[],0⟩) hI (ft [] rfl rfl rfl trivial) (fun _ => rfl) ?_
 rintro n0 s1 hI; rw [d71_0] at hI
 all_goals repeat' ((conv => whnf); first
  | refine B hI (fun hI => ?_) fun hI => ?_
  | refine cS hI fun x hI => ?_
  | exact ⟨⟨_,_⟩,hI,Nat.lt_succ_self _,(ft [] rfl rfl rfl trivial)⟩
  | (cases hI; rfl))
def d30_2 (fuel : Nat) (a0 : ByteArray) (a1 : ByteArray) (s9 : List Bool) (s10 : Int) (k1 : (List Bool) → Int → Option Bool) : Nat → (List Bool) → Int → Option Bool
  | 0,_,_ => none
  | n + 1,o11,s12 => (bif decide (s12 < (a0.size : Int)) then (atS a0 s12 fun b13 => (bif ((b13.toNat : Int) == 42) then (inB o11 s12 ((o11[s12.toNat]?).bind fun x14 => (bif x14 then (inB o11 (nx s12) ((o11[(nx s12).toNat]?).bind fun x15 => d30_2 fuel a0 a1 s9 s10 k1 n (o11.set ((nx s12).toNat) true) (nx s12))) else (at1 s9 (nx s12) fun x16 => (inB o11 (nx s12) ((o11[(nx s12).toNat]?).bind fun x17 => d30_2 fuel a0 a1 s9 s10 k1 n (o11.set ((nx s12).toNat) x16) (nx s12))))))) else (at1 s9 s12 fun x18 => (bif x18 then (atS a0 s12 fun b19 => (bif ((b19.toNat : Int) == 63) then (inB o11 (nx s12) ((o11[(nx s12).toNat]?).bind fun x20 => d30_2 fuel a0 a1 s9 s10 k1 n (o11.set ((nx s12).toNat) true) (nx s12))) else (atS a0 s12 fun b21 => (atS a1 s10 fun b22 => (inB o11 (nx s12) ((o11[(nx s12).toNat]?).bind fun x23 => d30_2 fuel a0 a1 s9 s10 k1 n (o11.set ((nx s12).toNat) ((b21.toNat : Int) == (b22.toNat : Int))) (nx s12))))))) else (inB o11 (nx s12) ((o11[(nx s12).toNat]?).bind fun x24 => d30_2 fuel a0 a1 s9 s10 k1 n (o11.set ((nx s12).toNat) false) (nx s12))))))) else k1 o11 (nx s10))
def d30_1 (fuel : Nat) (a0 : ByteArray) (a1 : ByteArray) : Nat → (List Bool) → Int → Option Bool
  | 0,_,_ => none
  | n + 1,s9,s10 => (bif decide (s10 < (a1.size : Int)) then (bif mkB 1 (IntKind.wrap .i64 ((a0.size : Int) + (1 : Int))) then d30_2 fuel a0 a1 s9 s10 (d30_1 fuel a0 a1 n) n (List.replicate ((IntKind.wrap .i64 ((a0.size : Int) + (1 : Int))).toNat) false) (0 : Int) else none) else (at1 s9 (a0.size : Int) fun x25 => some x25))
def d30_0 (fuel : Nat) (a0 : ByteArray) (a1 : ByteArray) : Nat → (List Bool) → Int → Option Bool
  | 0,_,_ => none
  | n + 1,o3,s4 => (bif decide (s4 < (a0.size : Int)) then (inB o3 s4 ((o3[s4.toNat]?).bind fun x5 => (bif x5 then (atS a0 s4 fun b6 => (inB o3 (nx s4) ((o3[(nx s4).toNat]?).bind fun x7 => d30_0 fuel a0 a1 n (o3.set ((nx s4).toNat) ((b6.toNat : Int) == 42)) (nx s4)))) else (inB o3 (nx s4) ((o3[(nx s4).toNat]?).bind fun x8 => d30_0 fuel a0 a1 n (o3.set ((nx s4).toNat) false) (nx s4)))))) else d30_1 fuel a0 a1 fuel o3 (0 : Int))
@[irreducible] def d30 (fuel : Nat) (a0 : ByteArray) (a1 : ByteArray) : Option Bool := ((d71 fuel a0).bind fun z1 => (bif (!(z1 == 0)) then some false else (bif mkB 1 (IntKind.wrap .i64 ((a0.size : Int) + (1 : Int))) then (inB (List.replicate ((IntKind.wrap .i64 ((a0.size : Int) + (1 : Int))).toNat) false) (0 : Int) (((List.replicate ((IntKind.wrap .i64 ((a0.size : Int) + (1 : Int))).toNat) false)[(0 : Int).toNat]?).bind fun x2 => d30_0 fuel a0 a1 fuel ((List.replicate ((IntKind.wrap .i64 ((a0.size : Int) + (1 : Int))).toNat) false).set ((0 : Int).toNat) true) (0 : Int))) else none)))
theorem d30_ok (fuel : Nat) (a0 : ByteArray) (a1 : ByteArray) (r : Bool) (hI : d30 fuel a0 a1 = some r) : WValid P 30 [.sc (.string a0),.sc (.string a1)] (fun z => z = .sc (.bool r)) := by
 refine go Tryz.func30 (by kernel_rfl) ?_
 rw [d30] at hI
 conv => whnf
 refine cI hI (d71_ok fuel _) fun z1 hI => ?_
 conv => whnf
 refine B hI (fun hI => ?_) fun hI => ?_
 rotate_left
 conv => whnf
 refine mkN (f := cBool) (z := false) hI rfl fun hI => ?_
 conv => whnf
 refine cR hI fun hI => ?_
 conv => whnf
 refine eL hI fun x2 hI => ?_
 conv => whnf
 refine ⟨_,(List.map_set (f := cBool) (a := true)).symm,?_⟩
 conv => whnf
 refine L2 (fun o3 s4 => [(0,.sc (.string a0)),(1,.sc (.string a1)),(5,.row 0),(6,.sc (.int .i64 s4))]) (fun o3 s4 => ⟨[(0,.row (List.map cBool o3) 1 false 0)],1⟩) hI (ft [(0,some 0)] rfl rfl rfl ⟨fR rfl rfl fun _ => rfl,trivial⟩) (fun _ _ => rfl) ?_
 rintro n0 o3 s4 hI; rw [d30_0] at hI
 conv => whnf
 refine B hI (fun hI => ?_) fun hI => ?_
 conv => whnf
 refine cR hI fun hI => ?_
 conv => whnf
 refine eL hI fun x5 hI => ?_
 conv => whnf
 refine B hI (fun hI => ?_) fun hI => ?_
 conv => whnf
 refine cS hI fun b6 hI => ?_
 conv => whnf
 refine cR hI fun hI => ?_
 conv => whnf
 refine eL hI fun x7 hI => ?_
 conv => whnf
 refine ⟨_,(List.map_set (f := cBool) (a := ((b6.toNat : Int) == (42 : Int)))).symm,?_⟩
 rotate_left
 conv => whnf
 refine cR hI fun hI => ?_
 conv => whnf
 refine eL hI fun x8 hI => ?_
 conv => whnf
 refine ⟨_,(List.map_set (f := cBool) (a := false)).symm,?_⟩
 rotate_left
 conv => whnf
 refine L2 (fun s9 s10 => [(0,.sc (.string a0)),(1,.sc (.string a1)),(5,.lst (List.map cBool s9)),(7,.sc (.int .i64 s10))]) (fun _ _ => ⟨[],0⟩) hI (suits_trans (lend_suits 5 rfl rfl (leafs_map (f := cBool) (fun _ => rfl) _)) (ft [] rfl rfl rfl trivial)) (fun _ _ => rfl) ?_
 rintro n1 s9 s10 hI; rw [d30_1] at hI
 conv => whnf
 refine B hI (fun hI => ?_) fun hI => ?_
 conv => whnf
 refine mkN (f := cBool) (z := false) hI rfl fun hI => ?_
 conv => whnf
 refine L2 (fun o11 s12 => [(0,.sc (.string a0)),(1,.sc (.string a1)),(5,.lst (List.map cBool s9)),(7,.sc (.int .i64 s10)),(8,.row 0),(9,.sc (.int .i64 s12))]) (fun o11 s12 => ⟨[(0,.row (List.map cBool o11) 1 false 0)],1⟩) hI (ft [(0,some 0)] rfl rfl rfl ⟨fR rfl rfl fun _ => rfl,trivial⟩) (fun _ _ => rfl) ?_
 rintro n2 o11 s12 hI; rw [d30_2] at hI
 conv => whnf
 refine B hI (fun hI => ?_) fun hI => ?_
 conv => whnf
 refine cS hI fun b13 hI => ?_
 conv => whnf
 refine B hI (fun hI => ?_) fun hI => ?_
 conv => whnf
 refine cR hI fun hI => ?_
 conv => whnf
 refine eL hI fun x14 hI => ?_
 conv => whnf
 refine B hI (fun hI => ?_) fun hI => ?_
 conv => whnf
 refine cR hI fun hI => ?_
 conv => whnf
 refine eL hI fun x15 hI => ?_
 conv => whnf
 refine ⟨_,(List.map_set (f := cBool) (a := true)).symm,?_⟩
 rotate_left
 conv => whnf
 refine cL hI (fun _ => rfl) fun x16 hI => ?_
 conv => whnf
 refine cR hI fun hI => ?_
 conv => whnf
 refine eL hI fun x17 hI => ?_
 conv => whnf
 refine ⟨_,(List.map_set (f := cBool) (a := x16)).symm,?_⟩
 rotate_left
 conv => whnf
 refine cL hI (fun _ => rfl) fun x18 hI => ?_
 conv => whnf
 refine B hI (fun hI => ?_) fun hI => ?_
 conv => whnf
 refine cS hI fun b19 hI => ?_
 conv => whnf
 refine B hI (fun hI => ?_) fun hI => ?_
 conv => whnf
 refine cR hI fun hI => ?_
 conv => whnf
 refine eL hI fun x20 hI => ?_
 conv => whnf
 refine ⟨_,(List.map_set (f := cBool) (a := true)).symm,?_⟩
 rotate_left
 conv => whnf
 refine cS hI fun b21 hI => ?_
 conv => whnf
 refine cS hI fun b22 hI => ?_
 conv => whnf
 refine cR hI fun hI => ?_
 conv => whnf
 refine eL hI fun x23 hI => ?_
 conv => whnf
 refine ⟨_,(List.map_set (f := cBool) (a := ((b21.toNat : Int) == (b22.toNat : Int)))).symm,?_⟩
 rotate_left
 conv => whnf
 refine cR hI fun hI => ?_
 conv => whnf
 refine eL hI fun x24 hI => ?_
 conv => whnf
 refine ⟨_,(List.map_set (f := cBool) (a := false)).symm,?_⟩
 rotate_left
 rotate_left
 all_goals repeat' ((conv => whnf); first
  | refine ⟨by kernel_rfl,?_⟩
  | refine cL hI (fun _ => rfl) fun x hI => ?_
  | exact ⟨⟨_,_,_⟩,hI,Nat.lt_succ_self _,(ft [(0,some 0)] rfl rfl rfl ⟨fR rfl rfl fun _ => rfl,trivial⟩)⟩
  | exact ⟨⟨_,_,_⟩,hI,Nat.lt_succ_self _,(suits_trans (lend_suits 5 rfl rfl (leafs_map (f := cBool) (fun _ => rfl) _)) (ft [] rfl rfl rfl trivial))⟩
  | (cases hI; rfl))
end
end Go.Abs.RM
