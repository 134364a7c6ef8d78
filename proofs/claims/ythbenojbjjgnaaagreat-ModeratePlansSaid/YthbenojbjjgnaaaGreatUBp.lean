/- Functions of the program, as Lean functions: printed by dec.py. -/
import Derived.Test.YthbenojbjjgnaaaGreatUAl
import Derived.Test.YthbenojbjjgnaaaGreatUBo
set_option linter.unusedVariables false
set_option linter.unusedSimpArgs false
set_option linter.unusedSectionVars false
namespace Go.Abs.RM
open Go.Proofs
noncomputable section
set_option maxRecDepth 100000
set_option maxHeartbeats 4000000
@[irreducible] def d337 (fuel : Nat) (a0 : Int) : Option Bool := (bif decide (a0 ≥ (97 : Int)) then (bif decide (a0 ≤ (122 : Int)) then some true else (bif decide (a0 ≥ (48 : Int)) then some (decide (a0 ≤ (57 : Int))) else some false)) else (bif decide (a0 ≥ (48 : Int)) then some (decide (a0 ≤ (57 : Int))) else some false))
theorem d337_ok (fuel : Nat) (a0 : Int) (r : Bool) (hI : d337 fuel a0 = some r) : WValid P 337 [.sc (.int .u8 a0)] (fun z => z = .sc (.bool r)) := by
 refine go Tryz.func337 (by kernel_rfl) ?_
 rw [d337] at hI
 repeat' ((conv => whnf); first
  | refine B hI (fun hI => ?_) fun hI => ?_
  | (cases hI; rfl))
def d334_0 (fuel : Nat) (a0 : ByteArray) (a1 : Int → Option Bool) : Nat → Int → Option Bool
  | 0,_ => none
  | n + 1,s1 => (bif decide (s1 < (a0.size : Int)) then (atS a0 s1 fun b2 => ((d337 fuel (b2.toNat : Int)).bind fun z3 => (bif !z3 then (atS a0 s1 fun b4 => ((a1 (b4.toNat : Int)).bind fun z5 => (bif !z5 then some false else d334_0 fuel a0 a1 n (nx s1)))) else d334_0 fuel a0 a1 n (nx s1)))) else some true)
@[irreducible] def d334 (fuel : Nat) (a0 : ByteArray) (a1 : Int → Option Bool) : Option Bool := (bif decide ((a0.size : Int) < (1 : Int)) then some false else (bif decide ((a0.size : Int) > (32 : Int)) then some false else d334_0 fuel a0 a1 fuel (0 : Int)))
theorem d334_ok (fuel : Nat) (a0 : ByteArray) (a1 : Int → Option Bool) (c1 : FuncId) (g1 : List WV) (hg1 : g1.all capB = true) (hf1 : ∀ x0_ r,a1 x0_ = some r → WValid P c1 ([] ++ [.sc (.int .u8 x0_)] ++ g1) (fun z => z = .sc (.bool r))) (r : Bool) (hI : d334 fuel a0 a1 = some r) : WValid P 334 [.sc (.string a0),.fnp c1 [] g1] (fun z => z = .sc (.bool r)) := by
 refine go Tryz.func334 (by kernel_rfl) ?_
 rw [d334] at hI
 conv => whnf
 refine B hI (fun hI => ?_) fun hI => ?_
 rotate_left
 conv => whnf
 refine B hI (fun hI => ?_) fun hI => ?_
 rotate_left
 conv => whnf
 refine L1 (fun s1 => [(0,.sc (.string a0)),(1,.fnp c1 [] g1),(15,.sc (.int .i64 (a0.size : Int))),(16,.sc (.int .i64 s1))]) (fun _ => ⟨[],0⟩) hI (ft [] rfl rfl rfl trivial) (fun _ => rfl) ?_
 rintro n0 s1 hI; rw [d334_0] at hI
 conv => whnf
 refine B hI (fun hI => ?_) fun hI => ?_
 conv => whnf
 refine cS hI fun b2 hI => ?_
 conv => whnf
 refine cI hI (d337_ok fuel _) fun z3 hI => ?_
 conv => whnf
 refine B hI (fun hI => ?_) fun hI => ?_
 conv => whnf
 refine cS hI fun b4 hI => ?_
 conv => whnf
 refine view_caps hg1 ?_
 conv => whnf
 refine cI hI (hf1 _) fun z5 hI => ?_
 rotate_left
 rotate_left
 all_goals repeat' ((conv => whnf); first
  | refine B hI (fun hI => ?_) fun hI => ?_
  | exact ⟨⟨_,_⟩,hI,Nat.lt_succ_self _,(ft [] rfl rfl rfl trivial)⟩
  | (cases hI; rfl))
@[irreducible] def d335 (fuel : Nat) (a0 : Int) : Option Bool := (bif (a0 == 95) then some true else (bif (a0 == 46) then some true else (bif (a0 == 45) then some true else some (a0 == 61))))
theorem d335_ok (fuel : Nat) (a0 : Int) (r : Bool) (hI : d335 fuel a0 = some r) : WValid P 335 [.sc (.int .u8 a0)] (fun z => z = .sc (.bool r)) := by
 refine go Tryz.func335 (by kernel_rfl) ?_
 rw [d335] at hI
 repeat' ((conv => whnf); first
  | refine B hI (fun hI => ?_) fun hI => ?_
  | (cases hI; rfl))
@[irreducible] def d244 (fuel : Nat) (a0 : ByteArray) : Option Bool := ((d334 fuel a0 (fun x0_ => d335 fuel x0_)).bind fun z1 => some z1)
theorem d244_ok (fuel : Nat) (a0 : ByteArray) (r : Bool) (hI : d244 fuel a0 = some r) : WValid P 244 [.sc (.string a0)] (fun z => z = .sc (.bool r)) := by
 refine go Tryz.func244 (by kernel_rfl) ?_
 rw [d244] at hI
 conv => whnf
 refine cI hI (d334_ok fuel a0 (fun x0_ => d335 fuel x0_) 335 [] rfl (fun x0_ r h => d335_ok fuel x0_ r h)) fun z1 hI => ?_
 all_goals repeat' ((conv => whnf); first
  | (cases hI; rfl))
@[irreducible] def d336 (fuel : Nat) (a0 : Int) : Option Bool := (bif (a0 == 46) then some true else some (a0 == 45))
theorem d336_ok (fuel : Nat) (a0 : Int) (r : Bool) (hI : d336 fuel a0 = some r) : WValid P 336 [.sc (.int .u8 a0)] (fun z => z = .sc (.bool r)) := by
 refine go Tryz.func336 (by kernel_rfl) ?_
 rw [d336] at hI
 repeat' ((conv => whnf); first
  | refine B hI (fun hI => ?_) fun hI => ?_
  | (cases hI; rfl))
@[irreducible] def d245 (fuel : Nat) (a0 : ByteArray) : Option Bool := ((d334 fuel a0 (fun x0_ => d336 fuel x0_)).bind fun z1 => (bif z1 then (atS a0 (0 : Int) fun b2 => ((d337 fuel (b2.toNat : Int)).bind fun z3 => (bif z3 then (atS a0 (IntKind.wrap .i64 ((a0.size : Int) - (1 : Int))) fun b4 => ((d337 fuel (b4.toNat : Int)).bind fun z5 => some z5)) else some false))) else some false))
theorem d245_ok (fuel : Nat) (a0 : ByteArray) (r : Bool) (hI : d245 fuel a0 = some r) : WValid P 245 [.sc (.string a0)] (fun z => z = .sc (.bool r)) := by
 refine go Tryz.func245 (by kernel_rfl) ?_
 rw [d245] at hI
 conv => whnf
 refine cI hI (d334_ok fuel a0 (fun x0_ => d336 fuel x0_) 336 [] rfl (fun x0_ r h => d336_ok fuel x0_ r h)) fun z1 hI => ?_
 all_goals repeat' ((conv => whnf); first
  | refine B hI (fun hI => ?_) fun hI => ?_
  | refine cS hI fun x hI => ?_
  | refine cI hI (d337_ok fuel _) fun x hI => ?_
  | (cases hI; rfl))
@[irreducible] def d1425 (fuel : Nat) (a0 : ByteArray) : Option Int := (bif ((⟨#[58]⟩ : ByteArray).toList == a0.toList) then some (0 : Int) else (atS (⟨#[58]⟩ : ByteArray) (0 : Int) fun b1 => ((d332 fuel a0 (b1.toNat : Int)).bind fun z2 => some z2)))
theorem d1425_ok (fuel : Nat) (a0 : ByteArray) (r : Int) (hI : d1425 fuel a0 = some r) : WValid P 425 [.sc (.string a0),.sc (.string (⟨#[58]⟩ : ByteArray))] (fun z => z = .sc (.int .i64 r)) := by
 refine go Tryz.func425 (by kernel_rfl) ?_
 rw [d1425] at hI
 repeat' ((conv => whnf); first
  | refine B hI (fun hI => ?_) fun hI => ?_
  | refine cS hI fun x hI => ?_
  | refine cI hI (d332_ok fuel _ _) fun x hI => ?_
  | (cases hI; rfl))
@[irreducible] def d1333 (fuel : Nat) (a0 : ByteArray) : Option (ByteArray × ByteArray × Bool) := ((d1425 fuel a0).bind fun z1 => (bif decide (z1 ≥ (0 : Int)) then (bif decide (0 ≤ z1) && decide (z1 ≤ (a0.size : Int)) then (bif decide (0 ≤ nx z1) && decide (nx z1 ≤ (a0.size : Int)) then some (a0.extract 0 z1.toNat,a0.extract ((nx z1).toNat) (a0.size),true) else none) else none) else some (a0,zS,false)))
theorem d1333_ok (fuel : Nat) (a0 : ByteArray) (r : ByteArray × ByteArray × Bool) (hI : d1333 fuel a0 = some r) : WValid P 333 [.sc (.string a0),.sc (.string (⟨#[58]⟩ : ByteArray))] (fun z => z = .tup [.sc (.string r.1),.sc (.string r.2.1),.sc (.bool r.2.2)]) := by
 refine go Tryz.func333 (by kernel_rfl) ?_
 rw [d1333] at hI
 repeat' ((conv => whnf); first
  | refine B hI (fun hI => ?_) fun hI => ?_
  | refine cI hI (d1425_ok fuel _) fun x hI => ?_
  | (obtain ⟨hc,hI⟩ := ckd hI; simp only [Bool.and_eq_true,decide_eq_true_eq] at hc; obtain ⟨hc0,hc1⟩ := hc; refine ⟨hc0,hc1,?_⟩)
  | refine ⟨by kernel_rfl,?_⟩
  | (cases hI; rfl))
@[irreducible] def d1243 (fuel : Nat) (a0 : ByteArray) : Option (ByteArray × ByteArray × Bool) := ((d1333 fuel a0).bind fun z1 => some (z1.1,z1.2.1,z1.2.2))
theorem d1243_ok (fuel : Nat) (a0 : ByteArray) (r : ByteArray × ByteArray × Bool) (hI : d1243 fuel a0 = some r) : WValid P 243 [.sc (.string a0),.sc (.string (⟨#[58]⟩ : ByteArray))] (fun z => z = .tup [.sc (.string r.1),.sc (.string r.2.1),.sc (.bool r.2.2)]) := by
 refine go Tryz.func243 (by kernel_rfl) ?_
 rw [d1243] at hI
 repeat' ((conv => whnf); first
  | refine cI hI (d1333_ok fuel _) fun x hI => ?_
  | (cases hI; rfl))
@[irreducible] def d184 (fuel : Nat) (a0 : ByteArray) (a1 : ByteArray) : Option (ByteArray × ByteArray × Bool) := (bif (a0.toList == zS.toList) then some (zS,zS,false) else (atS a0 (0 : Int) fun b1 => ((d242 fuel a1 (b1.toNat : Int)).bind fun z2 => (bif decide (z2 < (0 : Int)) then some (zS,zS,false) else (bif decide (0 ≤ (1 : Int)) && decide ((1 : Int) ≤ (a0.size : Int)) then ((d1243 fuel (a0.extract ((1 : Int).toNat) (a0.size))).bind fun z3 => (bif !z3.2.2 then some (zS,zS,false) else ((d244 fuel z3.1).bind fun z4 => (bif !z4 then some (zS,zS,false) else ((d245 fuel z3.2.1).bind fun z5 => (bif !z5 then some (zS,zS,false) else some (z3.1,z3.2.1,true))))))) else none)))))
theorem d184_ok (fuel : Nat) (a0 : ByteArray) (a1 : ByteArray) (r : ByteArray × ByteArray × Bool) (hI : d184 fuel a0 a1 = some r) : WValid P 184 [.sc (.string a0),.sc (.string a1)] (fun z => z = .tup [.sc (.string r.1),.sc (.string r.2.1),.sc (.bool r.2.2)]) := by
 refine go Tryz.func184 (by kernel_rfl) ?_
 rw [d184] at hI
 repeat' ((conv => whnf); first
  | refine B hI (fun hI => ?_) fun hI => ?_
  | refine cS hI fun x hI => ?_
  | refine cI hI (d242_ok fuel _ _) fun x hI => ?_
  | (obtain ⟨hc,hI⟩ := ckd hI; simp only [Bool.and_eq_true,decide_eq_true_eq] at hc; obtain ⟨hc0,hc1⟩ := hc; refine ⟨hc0,hc1,?_⟩)
  | refine cI hI (d1243_ok fuel _) fun x hI => ?_
  | refine cI hI (d244_ok fuel _) fun x hI => ?_
  | refine cI hI (d245_ok fuel _) fun x hI => ?_
  | (cases hI; rfl))
@[irreducible] def d123 (fuel : Nat) (a0 : ByteArray) : Option ByteArray := ((d184 fuel a0 (⟨#[64,33]⟩ : ByteArray)).bind fun z1 => some z1.2.1)
theorem d123_ok (fuel : Nat) (a0 : ByteArray) (r : ByteArray) (hI : d123 fuel a0 = some r) : WValid P 123 [.sc (.string a0)] (fun z => z = .sc (.string r)) := by
 refine go Tryz.func123 (by kernel_rfl) ?_
 rw [d123] at hI
 repeat' ((conv => whnf); first
  | refine cI hI (d184_ok fuel _ _) fun x hI => ?_
  | (cases hI; rfl))
def d132_0 (fuel : Nat) (a0 : ByteArray) : Nat → Int → Option Int
  | 0,_ => none
  | n + 1,s1 => (bif decide (s1 < (a0.size : Int)) then (atS a0 s1 fun b2 => (bif decide ((b2.toNat : Int) < (33 : Int)) then some (3 : Int) else (atS a0 s1 fun b3 => (bif decide ((b3.toNat : Int) > (126 : Int)) then some (3 : Int) else d132_0 fuel a0 n (nx s1))))) else some (0 : Int))
@[irreducible] def d132 (fuel : Nat) (a0 : ByteArray) : Option Int := (bif (a0.toList == zS.toList) then some (9 : Int) else (bif decide ((a0.size : Int) > (64 : Int)) then some (7 : Int) else d132_0 fuel a0 fuel (0 : Int)))
theorem d132_ok (fuel : Nat) (a0 : ByteArray) (r : Int) (hI : d132 fuel a0 = some r) : WValid P 132 [.sc (.string a0)] (fun z => z = .sc (.int .i64 r)) := by
 refine go Tryz.func132 (by kernel_rfl) ?_
 rw [d132] at hI
 conv => whnf
 refine B hI (fun hI => ?_) fun hI => ?_
 rotate_left
 conv => whnf
 refine B hI (fun hI => ?_) fun hI => ?_
 rotate_left
 conv => whnf
 refine L1 (fun s1 => [(0,.sc (.string a0)),(12,.sc (.int .i64 (a0.size : Int))),(13,.sc (.int .i64 s1))]) (fun _ => ⟨[],0⟩) hI (ft [] rfl rfl rfl trivial) (fun _ => rfl) ?_
 rintro n0 s1 hI; rw [d132_0] at hI
 all_goals repeat' ((conv => whnf); first
  | refine B hI (fun hI => ?_) fun hI => ?_
  | refine cS hI fun x hI => ?_
  | exact ⟨⟨_,_⟩,hI,Nat.lt_succ_self _,(ft [] rfl rfl rfl trivial)⟩
  | (cases hI; rfl))
end
end Go.Abs.RM
