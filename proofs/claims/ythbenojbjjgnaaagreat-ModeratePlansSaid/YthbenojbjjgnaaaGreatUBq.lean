/- Functions of the program, as Lean functions: printed by dec.py. -/
import Derived.Test.YthbenojbjjgnaaaGreatUAl
import Derived.Test.YthbenojbjjgnaaaGreatUBo
import Derived.Test.YthbenojbjjgnaaaGreatUBp
set_option linter.unusedVariables false
set_option linter.unusedSimpArgs false
set_option linter.unusedSectionVars false
namespace Go.Abs.RM
open Go.Proofs
noncomputable section
set_option maxRecDepth 100000
set_option maxHeartbeats 4000000
def d194_0 (fuel : Nat) (a0 : ByteArray) (a1 : ByteArray) : Nat → Int → Option Int
  | 0,_ => none
  | n + 1,s1 => (bif decide ((IntKind.wrap .i64 (s1 + (a0.size : Int))) ≤ (a1.size : Int)) then (bif decide (0 ≤ s1) && decide (s1 ≤ IntKind.wrap .i64 (s1 + (a0.size : Int))) && decide (IntKind.wrap .i64 (s1 + (a0.size : Int)) ≤ (a1.size : Int)) then ((d193 fuel a0 (a1.extract s1.toNat ((IntKind.wrap .i64 (s1 + (a0.size : Int))).toNat))).bind fun z2 => (bif z2 then some s1 else d194_0 fuel a0 a1 n (nx s1))) else none) else some (-1 : Int))
@[irreducible] def d194 (fuel : Nat) (a0 : ByteArray) (a1 : ByteArray) : Option Int := d194_0 fuel a0 a1 fuel (0 : Int)
theorem d194_ok (fuel : Nat) (a0 : ByteArray) (a1 : ByteArray) (r : Int) (hI : d194 fuel a0 a1 = some r) : WValid P 194 [.sc (.string a0),.sc (.string a1)] (fun z => z = .sc (.int .i64 r)) := by
 refine go Tryz.func194 (by kernel_rfl) ?_
 rw [d194] at hI
 conv => whnf
 refine L1 (fun s1 => [(0,.sc (.string a0)),(1,.sc (.string a1)),(5,.sc (.int .i64 s1))]) (fun _ => ⟨[],0⟩) hI (ft [] rfl rfl rfl trivial) (fun _ => rfl) ?_
 rintro n0 s1 hI; rw [d194_0] at hI
 all_goals repeat' ((conv => whnf); first
  | refine B hI (fun hI => ?_) fun hI => ?_
  | (obtain ⟨hc,hI⟩ := ckd hI; simp only [Bool.and_eq_true,decide_eq_true_eq] at hc; obtain ⟨⟨hc0,hc1⟩,hc2⟩ := hc; refine ⟨hc0,hc1,hc2,?_⟩)
  | refine cI hI (d193_ok fuel _ _) fun x hI => ?_
  | exact ⟨⟨_,_⟩,hI,Nat.lt_succ_self _,(ft [] rfl rfl rfl trivial)⟩
  | (cases hI; rfl))
def d133_0 (fuel : Nat) (z2 : List ByteArray) : Nat → ByteArray → Int → Option Bool
  | 0,_,_ => none
  | n + 1,s8,s9 => (bif decide (s9 < (((z2.drop (1 : Int).toNat).take ((IntKind.wrap .i64 ((z2.length : Int) - (1 : Int))).toNat - (1 : Int).toNat)).length : Int)) then (at1 ((z2.drop (1 : Int).toNat).take ((IntKind.wrap .i64 ((z2.length : Int) - (1 : Int))).toNat - (1 : Int).toNat)) s9 fun x10 => ((d194 fuel x10 s8).bind fun z11 => (bif decide (z11 < (0 : Int)) then some false else (bif decide (0 ≤ IntKind.wrap .i64 (z11 + (x10.size : Int))) && decide (IntKind.wrap .i64 (z11 + (x10.size : Int)) ≤ (s8.size : Int)) then d133_0 fuel z2 n (s8.extract ((IntKind.wrap .i64 (z11 + (x10.size : Int))).toNat) (s8.size)) (nx s9) else none)))) else some true)
@[irreducible] def d133 (fuel : Nat) (a0 : ByteArray) (a1 : ByteArray) : Option Bool := ((d132 fuel a0).bind fun z1 => (bif (!(z1 == 0)) then some false else ((d192 fuel a0).bind fun z2 => (bif ((IntKind.wrap .i64 ((z2.length : Int) - (1 : Int))) == 0) then ((d193 fuel a0 a1).bind fun z3 => some z3) else (at1 z2 (0 : Int) fun x4 => (at1 z2 (IntKind.wrap .i64 ((z2.length : Int) - (1 : Int))) fun x5 => (bif decide ((a1.size : Int) < (IntKind.wrap .i64 ((x4.size : Int) + (x5.size : Int)))) then some false else (bif decide (0 ≤ (x4.size : Int)) && decide ((x4.size : Int) ≤ (a1.size : Int)) then ((d193 fuel x4 (a1.extract 0 ((x4.size : Int).toNat))).bind fun z6 => (bif !z6 then some false else (bif decide (0 ≤ IntKind.wrap .i64 ((a1.size : Int) - (x5.size : Int))) && decide (IntKind.wrap .i64 ((a1.size : Int) - (x5.size : Int)) ≤ (a1.size : Int)) then ((d193 fuel x5 (a1.extract ((IntKind.wrap .i64 ((a1.size : Int) - (x5.size : Int))).toNat) (a1.size))).bind fun z7 => (bif !z7 then some false else (bif decide (0 ≤ (x4.size : Int)) && decide ((x4.size : Int) ≤ IntKind.wrap .i64 ((a1.size : Int) - (x5.size : Int))) && decide (IntKind.wrap .i64 ((a1.size : Int) - (x5.size : Int)) ≤ (a1.size : Int)) then (bif decide (0 ≤ (1 : Int)) && decide ((1 : Int) ≤ IntKind.wrap .i64 ((z2.length : Int) - (1 : Int))) && decide (IntKind.wrap .i64 ((z2.length : Int) - (1 : Int)) ≤ (z2.length : Int)) then d133_0 fuel z2 fuel (a1.extract ((x4.size : Int).toNat) ((IntKind.wrap .i64 ((a1.size : Int) - (x5.size : Int))).toNat)) (0 : Int) else none) else none))) else none))) else none))))))))
theorem d133_ok (fuel : Nat) (a0 : ByteArray) (a1 : ByteArray) (r : Bool) (hI : d133 fuel a0 a1 = some r) : WValid P 133 [.sc (.string a0),.sc (.string a1)] (fun z => z = .sc (.bool r)) := by
 refine go Tryz.func133 (by kernel_rfl) ?_
 rw [d133] at hI
 conv => whnf
 refine cI hI (d132_ok fuel _) fun z1 hI => ?_
 conv => whnf
 refine B hI (fun hI => ?_) fun hI => ?_
 rotate_left
 conv => whnf
 refine cI hI (d192_ok fuel _) fun z2 hI => ?_
 conv => whnf
 refine ⟨_,List.length_map ..,?_⟩
 conv => whnf
 refine B hI (fun hI => ?_) fun hI => ?_
 rotate_left
 conv => whnf
 refine cL hI (fun _ => rfl) fun x4 hI => ?_
 conv => whnf
 refine cL hI (fun _ => rfl) fun x5 hI => ?_
 conv => whnf
 refine ⟨by kernel_rfl,?_⟩
 conv => whnf
 refine B hI (fun hI => ?_) fun hI => ?_
 rotate_left
 conv => whnf
 (obtain ⟨hc,hI⟩ := ckd hI; simp only [Bool.and_eq_true,decide_eq_true_eq] at hc; obtain ⟨hc0,hc1⟩ := hc; refine ⟨hc0,hc1,?_⟩)
 conv => whnf
 refine cI hI (d193_ok fuel _ _) fun z6 hI => ?_
 conv => whnf
 refine B hI (fun hI => ?_) fun hI => ?_
 rotate_left
 conv => whnf
 (obtain ⟨hc,hI⟩ := ckd hI; simp only [Bool.and_eq_true,decide_eq_true_eq] at hc; obtain ⟨hc0,hc1⟩ := hc; refine ⟨hc0,hc1,?_⟩)
 conv => whnf
 refine cI hI (d193_ok fuel _ _) fun z7 hI => ?_
 conv => whnf
 refine B hI (fun hI => ?_) fun hI => ?_
 rotate_left
 conv => whnf
 (obtain ⟨hc,hI⟩ := ckd hI; simp only [Bool.and_eq_true,decide_eq_true_eq] at hc; obtain ⟨⟨hc0,hc1⟩,hc2⟩ := hc; refine ⟨hc0,hc1,hc2,?_⟩)
 conv => whnf
 (obtain ⟨hc,hI⟩ := ckd hI; simp only [Bool.and_eq_true,decide_eq_true_eq] at hc; refine ⟨lens_map (f := cStr) (fun _ => rfl),hc.1.1,hc.1.2,(by rw [List.length_map]; exact hc.2),rfl,List.map cStr ((z2.drop (1 : Int).toNat).take ((IntKind.wrap .i64 ((z2.length : Int) - (1 : Int))).toNat - (1 : Int).toNat)),by simp only [List.map_take,List.map_drop],?_⟩)
 conv => whnf
 refine ⟨_,List.length_map ..,?_⟩
 conv => whnf
 refine L2 (fun s8 s9 => [(9,.sc (.string s8)),(74,.lst (List.map cStr ((z2.drop (1 : Int).toNat).take ((IntKind.wrap .i64 ((z2.length : Int) - (1 : Int))).toNat - (1 : Int).toNat)))),(75,.sc (.int .i64 (((z2.drop (1 : Int).toNat).take ((IntKind.wrap .i64 ((z2.length : Int) - (1 : Int))).toNat - (1 : Int).toNat)).length : Int))),(76,.sc (.int .i64 s9))]) (fun _ _ => ⟨[],0⟩) hI (ft [] rfl rfl rfl trivial) (fun _ _ => rfl) ?_
 rintro n0 s8 s9 hI; rw [d133_0] at hI
 all_goals repeat' ((conv => whnf); first
  | refine B hI (fun hI => ?_) fun hI => ?_
  | refine cI hI (d193_ok fuel _ _) fun x hI => ?_
  | refine cL hI (fun _ => rfl) fun x hI => ?_
  | refine cI hI (d194_ok fuel _ _) fun x hI => ?_
  | (obtain ⟨hc,hI⟩ := ckd hI; simp only [Bool.and_eq_true,decide_eq_true_eq] at hc; obtain ⟨hc0,hc1⟩ := hc; refine ⟨hc0,hc1,?_⟩)
  | exact ⟨⟨_,_,_⟩,hI,Nat.lt_succ_self _,(ft [] rfl rfl rfl trivial)⟩
  | (cases hI; rfl))
def d128_0 (fuel : Nat) (a0 : List S103) (a1 : Int) (a2 : ByteArray) : Nat → S103 → Int → Option (S103 × Bool)
  | 0,_,_ => none
  | n + 1,o1,s2 => (bif decide (s2 < (a0.length : Int)) then (at1 a0 s2 fun x3 => (bif (x3.f0 == a1) then ((d133 fuel x3.f1 a2).bind fun z4 => (bif z4 then some (x3,true) else d128_0 fuel a0 a1 a2 n o1 (nx s2))) else d128_0 fuel a0 a1 a2 n o1 (nx s2))) else some (ze103,false))
@[irreducible] def d128 (fuel : Nat) (a0 : List S103) (a1 : Int) (a2 : ByteArray) : Option (S103 × Bool) := d128_0 fuel a0 a1 a2 fuel ze103 (0 : Int)
theorem d128_ok (fuel : Nat) (a0 : List S103) (a1 : Int) (a2 : ByteArray) (r : S103 × Bool) (hI : d128 fuel a0 a1 a2 = some r) : WValid P 128 [.lst (a0.map S103.c),.sc (.int .i64 a1),.sc (.string a2)] (fun z => z = .tup [.agg (S103.c r.1),.sc (.bool r.2)]) := by
 refine go Tryz.func128 (by kernel_rfl) ?_
 rw [d128] at hI
 conv => whnf
 refine ⟨_,List.length_map ..,?_⟩
 conv => whnf
 refine L2 (fun o1 s2 => [(1,.sc (.int .i64 a1)),(2,.sc (.string a2)),(6,.box 0 0),(10,.lst (List.map S103.c a0)),(11,.sc (.int .i64 (a0.length : Int))),(12,.sc (.int .i64 s2))]) (fun o1 s2 => ⟨[(0,.box (S103.c o1) false)],1⟩) hI (ft [(0,some 0)] rfl rfl rfl ⟨fB rfl rfl rfl,trivial⟩) (fun _ _ => rfl) ?_
 rintro n0 o1 s2 hI; rw [d128_0] at hI
 all_goals repeat' ((conv => whnf); first
  | refine B hI (fun hI => ?_) fun hI => ?_
  | refine cL hI (fun _ => rfl) fun x hI => ?_
  | refine cI hI (d133_ok fuel _ _) fun x hI => ?_
  | exact ⟨⟨_,_,_⟩,hI,Nat.lt_succ_self _,(ft [(0,some 0)] rfl rfl rfl ⟨fB rfl rfl rfl,trivial⟩)⟩
  | (cases hI; rfl))
@[irreducible] def d189 (fuel : Nat) (a0 : List S103) (a1 : ByteArray) : Option Bool := ((d128 fuel a0 (2 : Int) a1).bind fun z1 => (bif z1.2 then some true else ((d123 fuel a1).bind fun z2 => ((d128 fuel a0 (6 : Int) z2).bind fun z3 => (bif z3.2 then some (!(z2.toList == zS.toList)) else some false)))))
theorem d189_ok (fuel : Nat) (a0 : List S103) (a1 : ByteArray) (r : Bool) (hI : d189 fuel a0 a1 = some r) : WValid P 189 [.lst (a0.map S103.c),.sc (.string a1)] (fun z => z = .sc (.bool r)) := by
 refine go Tryz.func189 (by kernel_rfl) ?_
 rw [d189] at hI
 repeat' ((conv => whnf); first
  | refine B hI (fun hI => ?_) fun hI => ?_
  | refine cI hI (d128_ok fuel _ _ _) fun x hI => ?_
  | refine cI hI (d123_ok fuel _) fun x hI => ?_
  | (cases hI; rfl))
def d195_0 (fuel : Nat) (a0 : List ByteArray) (a1 : ByteArray) : Nat → Int → Option Int
  | 0,_ => none
  | n + 1,s1 => (bif decide (s1 < (a0.length : Int)) then (at1 a0 s1 fun x2 => (bif (a1.toList == x2.toList) then some s1 else d195_0 fuel a0 a1 n (nx s1))) else some (-1 : Int))
@[irreducible] def d195 (fuel : Nat) (a0 : List ByteArray) (a1 : ByteArray) : Option Int := d195_0 fuel a0 a1 fuel (0 : Int)
theorem d195_ok (fuel : Nat) (a0 : List ByteArray) (a1 : ByteArray) (r : Int) (hI : d195 fuel a0 a1 = some r) : WValid P 195 [.lst (a0.map cStr),.sc (.string a1)] (fun z => z = .sc (.int .i64 r)) := by
 refine go Tryz.func195 (by kernel_rfl) ?_
 rw [d195] at hI
 conv => whnf
 refine ⟨_,List.length_map ..,?_⟩
 conv => whnf
 refine L1 (fun s1 => [(0,.lst (List.map cStr a0)),(1,.sc (.string a1)),(7,.sc (.int .i64 (a0.length : Int))),(8,.sc (.int .i64 s1))]) (fun _ => ⟨[],0⟩) hI (ft [] rfl rfl rfl trivial) (fun _ => rfl) ?_
 rintro n0 s1 hI; rw [d195_0] at hI
 all_goals repeat' ((conv => whnf); first
  | refine B hI (fun hI => ?_) fun hI => ?_
  | refine cL hI (fun _ => rfl) fun x hI => ?_
  | exact ⟨⟨_,_⟩,hI,Nat.lt_succ_self _,(ft [] rfl rfl rfl trivial)⟩
  | (cases hI; rfl))
@[irreducible] def d134 (fuel : Nat) (a0 : List ByteArray) (a1 : ByteArray) : Option Bool := ((d195 fuel a0 a1).bind fun z1 => some (decide (z1 ≥ (0 : Int))))
theorem d134_ok (fuel : Nat) (a0 : List ByteArray) (a1 : ByteArray) (r : Bool) (hI : d134 fuel a0 a1 = some r) : WValid P 134 [.lst (a0.map cStr),.sc (.string a1)] (fun z => z = .sc (.bool r)) := by
 refine go Tryz.func134 (by kernel_rfl) ?_
 rw [d134] at hI
 repeat' ((conv => whnf); first
  | refine cI hI (d195_ok fuel _ _) fun x hI => ?_
  | (cases hI; rfl))
def d190_0 (fuel : Nat) (a0 : List ByteArray) : Nat → (List ByteArray) → Int → Option (List ByteArray)
  | 0,_,_ => none
  | n + 1,o1,s2 => (bif decide (s2 < (a0.length : Int)) then (at1 a0 s2 fun x3 => ((d134 fuel o1 x3).bind fun z4 => (bif !z4 then (rm 16 o1 [x3] (d190_0 fuel a0 n (o1 ++ [x3]) (nx s2))) else d190_0 fuel a0 n o1 (nx s2)))) else some o1)
@[irreducible] def d190 (fuel : Nat) (a0 : List ByteArray) : Option (List ByteArray) := (bif mkB 16 (a0.length : Int) then d190_0 fuel a0 fuel ([] : List ByteArray) (0 : Int) else none)
theorem d190_own (fuel : Nat) (a0 : List ByteArray) (r : List ByteArray) (hI : d190 fuel a0 = some r) : WOwn P 190 [.lst (a0.map cStr)] 1 false (fun es => es = r.map cStr) := by
 refine goOwn Tryz.func190 (by kernel_rfl) ?_
 rw [d190] at hI
 conv => whnf
 refine ⟨_,List.length_map ..,?_⟩
 conv => whnf
 refine mk0 hI fun hI => ?_
 conv => whnf
 refine ⟨_,List.length_map ..,?_⟩
 conv => whnf
 refine L2 (fun o1 s2 => [(3,.row 0),(9,.lst (List.map cStr a0)),(10,.sc (.int .i64 (a0.length : Int))),(11,.sc (.int .i64 s2))]) (fun o1 s2 => ⟨[(0,.row (List.map cStr o1) 1 false 0)],1⟩) hI (ft [(0,some 0)] rfl rfl rfl ⟨fR rfl rfl fun _ => rfl,trivial⟩) (fun _ _ => rfl) ?_
 rintro n0 o1 s2 hI; rw [d190_0] at hI
 all_goals repeat' ((conv => whnf); first
  | refine B hI (fun hI => ?_) fun hI => ?_
  | refine cL hI (fun _ => rfl) fun x hI => ?_
  | refine ⟨_,_,deep0 (leafs_map (f := cStr) (fun _ => rfl) _),?_⟩
  | refine cI hI (d134_ok fuel _ _) fun x hI => ?_
  | refine aM (f := cStr) hI rfl (fun _ => ⟨rfl,rfl⟩) fun hI => ?_
  | exact ⟨⟨_,_,_⟩,hI,Nat.lt_succ_self _,(ft [(0,some 2)] rfl rfl rfl ⟨fR rfl rfl fun _ => rfl,trivial⟩)⟩
  | exact ⟨⟨_,_,_⟩,hI,Nat.lt_succ_self _,(ft [(0,some 0)] rfl rfl rfl ⟨fR rfl rfl fun _ => rfl,trivial⟩)⟩
  | (cases hI; exact ⟨leafs_map (f := cStr) (fun _ => rfl) _,rfl⟩))
def d127_0 (fuel : Nat) (a0 : List S103) (a1 : List ByteArray) : Nat → (List ByteArray) → Int → Option (List ByteArray)
  | 0,_,_ => none
  | n + 1,o1,s2 => (bif decide (s2 < (a1.length : Int)) then (at1 a1 s2 fun x3 => ((d189 fuel a0 x3).bind fun z4 => (bif z4 then (rm 16 o1 [x3] (d127_0 fuel a0 a1 n (o1 ++ [x3]) (nx s2))) else d127_0 fuel a0 a1 n o1 (nx s2)))) else ((d190 fuel o1).bind fun z5 => ((d191 fuel z5).bind fun z6 => some z6)))
@[irreducible] def d127 (fuel : Nat) (a0 : List S103) (a1 : List ByteArray) : Option (List ByteArray) := d127_0 fuel a0 a1 fuel [] (0 : Int)
theorem d127_ok (fuel : Nat) (a0 : List S103) (a1 : List ByteArray) (r : List ByteArray) (hI : d127 fuel a0 a1 = some r) : WValid P 127 [.lst (a0.map S103.c),.lst (a1.map cStr)] (fun z => z = .lst (r.map cStr)) := by
 refine go Tryz.func127 (by kernel_rfl) ?_
 rw [d127] at hI
 conv => whnf
 refine ⟨_,List.length_map ..,?_⟩
 conv => whnf
 refine L2 (fun o1 s2 => [(0,.lst (List.map S103.c a0)),(5,.row 0),(8,.lst (List.map cStr a1)),(9,.sc (.int .i64 (a1.length : Int))),(10,.sc (.int .i64 s2))]) (fun o1 s2 => ⟨[(0,.row (List.map cStr o1) 1 false 0)],1⟩) hI (ft [(0,none)] rfl rfl rfl ⟨fitO_nil rfl rfl,trivial⟩) (fun _ _ => rfl) ?_
 rintro n0 o1 s2 hI; rw [d127_0] at hI
 all_goals repeat' ((conv => whnf); first
  | refine B hI (fun hI => ?_) fun hI => ?_
  | refine cL hI (fun _ => rfl) fun x hI => ?_
  | refine cI hI (d189_ok fuel _ _) fun x hI => ?_
  | refine aM (f := cStr) hI rfl (fun _ => ⟨rfl,rfl⟩) fun hI => ?_
  | refine ⟨_,_,deep0 (leafs_map (f := cStr) (fun _ => rfl) _),?_⟩
  | refine cO hI (d190_own fuel _) fun x hI => ?_
  | refine cT hI (leafs_map (f := cStr) (fun _ => rfl) _) (d191_set fuel _) (fun x hI => ?_) rfl rfl rfl
  | exact ⟨⟨_,_,_⟩,hI,Nat.lt_succ_self _,(ft [(0,some 2)] rfl rfl rfl ⟨fR rfl rfl fun _ => rfl,trivial⟩)⟩
  | exact ⟨⟨_,_,_⟩,hI,Nat.lt_succ_self _,(ft [(0,some 0)] rfl rfl rfl ⟨fR rfl rfl fun _ => rfl,trivial⟩)⟩
  | (cases hI; rfl))
def d65_1 (fuel : Nat) (a0 : S112) (a1 : ByteArray) (a2 : List S103) (z1 : List S65) (s3 : Int) (z5 : List ByteArray) (k0 : (List ByteArray) → Int → Option (List S65)) : Nat → (List ByteArray) → Int → Option (List S65)
  | 0,_,_ => none
  | n + 1,o6,s7 => (bif decide (s7 < (z5.length : Int)) then (at1 z5 s7 fun x8 => ((d123 fuel x8).bind fun z9 => (bif (!(z9.toList == a1.toList)) then (rm 16 o6 [x8] (d65_1 fuel a0 a1 a2 z1 s3 z5 k0 n (o6 ++ [x8]) (nx s7))) else d65_1 fuel a0 a1 a2 z1 s3 z5 k0 n o6 (nx s7)))) else k0 o6 (nx s3))
def d65_2 (fuel : Nat) (a0 : S112) (a2 : List S103) (z10 : List ByteArray) : Nat → (List S65) → Int → Option (List S65)
  | 0,_,_ => none
  | n + 1,o11,s12 => (bif decide (s12 < (z10.length : Int)) then (at1 z10 s12 fun x13 => ((d128 fuel a2 (2 : Int) x13).bind fun z14 => (bif !z14.2 then ((d123 fuel x13).bind fun z15 => ((d128 fuel a2 (6 : Int) z15).bind fun z16 => (rm 376 o11 [(⟨(0 : Int),a0.f0.f0,zS,(2 : Int),true,x13,(0 : Int),(0 : Int),[],[],(⟨z16.1.f2,(4 : Int),(0 : Int),false,zS,[],[],ze59⟩ : S61),(0 : Int),ze63⟩ : S65)] (d65_2 fuel a0 a2 z10 n (o11 ++ [(⟨(0 : Int),a0.f0.f0,zS,(2 : Int),true,x13,(0 : Int),(0 : Int),[],[],(⟨z16.1.f2,(4 : Int),(0 : Int),false,zS,[],[],ze59⟩ : S61),(0 : Int),ze63⟩ : S65)]) (nx s12))))) else (rm 376 o11 [(⟨(0 : Int),a0.f0.f0,zS,(2 : Int),true,x13,(0 : Int),(0 : Int),[],[],(⟨z14.1.f2,(4 : Int),(0 : Int),false,zS,[],[],ze59⟩ : S61),(0 : Int),ze63⟩ : S65)] (d65_2 fuel a0 a2 z10 n (o11 ++ [(⟨(0 : Int),a0.f0.f0,zS,(2 : Int),true,x13,(0 : Int),(0 : Int),[],[],(⟨z14.1.f2,(4 : Int),(0 : Int),false,zS,[],[],ze59⟩ : S61),(0 : Int),ze63⟩ : S65)]) (nx s12)))))) else some o11)
def d65_0 (fuel : Nat) (a0 : S112) (a1 : ByteArray) (a2 : List S103) (z1 : List S65) : Nat → (List ByteArray) → Int → Option (List S65)
  | 0,_,_ => none
  | n + 1,o2,s3 => (bif decide (s3 < ([(1 : Int),(2 : Int),(3 : Int)].length : Int)) then (inB [(1 : Int),(2 : Int),(3 : Int)] s3 (([(1 : Int),(2 : Int),(3 : Int)][s3.toNat]?).bind fun x4 => ((d72 fuel z1 x4).bind fun z5 => d65_1 fuel a0 a1 a2 z1 s3 z5 (d65_0 fuel a0 a1 a2 z1 n) n o2 (0 : Int)))) else ((d127 fuel a2 o2).bind fun z10 => d65_2 fuel a0 a2 z10 fuel [] (0 : Int)))
@[irreducible] def d65 (fuel : Nat) (a0 : S112) (a1 : ByteArray) (a2 : List S103) : Option (List S65) := ((d73 fuel a0).bind fun z1 => d65_0 fuel a0 a1 a2 z1 fuel [] (0 : Int))
theorem d65_own (fuel : Nat) (a0 : S112) (a1 : ByteArray) (a2 : List S103) (r : List S65) (hI : d65 fuel a0 a1 a2 = some r) : WOwn P 65 [.ipt (S112.c a0),.sc (.string a1),.lst (a2.map S103.c)] 29 false (fun es => es = r.map S65.c) := by
 refine goOwn Tryz.func65 (by kernel_rfl) ?_
 rw [d65] at hI
 conv => whnf
 refine cI hI (d73_ok fuel _) fun z1 hI => ?_
 conv => whnf
 refine ⟨_,rfl,?_⟩
 conv => whnf
 refine L2 (fun o2 s3 => [(0,.ipt (S112.c a0)),(1,.sc (.string a1)),(2,.lst (List.map S103.c a2)),(7,.lst (List.map S65.c z1)),(8,.row 0),(20,.row 1),(21,.sc (.int .i64 ([(1 : Int),(2 : Int),(3 : Int)].length : Int))),(22,.sc (.int .i64 s3))]) (fun o2 s3 => ⟨[(0,.row (List.map cStr o2) 1 false 0),(1,.row (List.map c_i64 [(1 : Int),(2 : Int),(3 : Int)]) 1 false 1)],2⟩) hI (ft [(0,none),(1,some 0)] rfl rfl rfl ⟨fitO_nil rfl rfl,fR rfl rfl fun _ => rfl,trivial⟩) (fun _ _ => rfl) ?_
 rintro n0 o2 s3 hI; rw [d65_0] at hI
 conv => whnf
 refine B hI (fun hI => ?_) fun hI => ?_
 conv => whnf
 refine cR hI fun hI => ?_
 conv => whnf
 refine eL hI fun x4 hI => ?_
 conv => whnf
 refine cI hI (d72_ok fuel _ _) fun z5 hI => ?_
 conv => whnf
 refine ⟨_,List.length_map ..,?_⟩
 conv => whnf
 refine L2 (fun o6 s7 => [(0,.ipt (S112.c a0)),(1,.sc (.string a1)),(2,.lst (List.map S103.c a2)),(7,.lst (List.map S65.c z1)),(8,.row 0),(20,.row 1),(21,.sc (.int .i64 ([(1 : Int),(2 : Int),(3 : Int)].length : Int))),(22,.sc (.int .i64 s3)),(28,.lst (List.map cStr z5)),(29,.sc (.int .i64 (z5.length : Int))),(30,.sc (.int .i64 s7))]) (fun o6 s7 => ⟨[(0,.row (List.map cStr o6) 1 false 0),(1,.row (List.map c_i64 [(1 : Int),(2 : Int),(3 : Int)]) 1 false 1)],2⟩) hI (ft [(0,some 0),(1,some 1)] rfl rfl rfl ⟨fR rfl rfl fun _ => rfl,fR rfl rfl fun _ => rfl,trivial⟩) (fun _ _ => rfl) ?_
 rintro n1 o6 s7 hI; rw [d65_1] at hI
 rotate_left
 conv => whnf
 refine ⟨_,_,deep0 (leafs_map (f := cStr) (fun _ => rfl) _),?_⟩
 conv => whnf
 refine cI hI (d127_ok fuel _ _) fun z10 hI => ?_
 conv => whnf
 refine ⟨_,List.length_map ..,?_⟩
 conv => whnf
 refine L2 (fun o11 s12 => [(0,.ipt (S112.c a0)),(2,.lst (List.map S103.c a2)),(13,.row 0),(46,.lst (List.map cStr z10)),(47,.sc (.int .i64 (z10.length : Int))),(48,.sc (.int .i64 s12))]) (fun o11 s12 => ⟨[(0,.row (List.map S65.c o11) 29 false 0)],1⟩) hI (ft [(0,none)] rfl rfl rfl ⟨fitO_nil rfl rfl,trivial⟩) (fun _ _ => rfl) ?_
 rintro n2 o11 s12 hI; rw [d65_2] at hI
 all_goals repeat' ((conv => whnf); first
  | refine B hI (fun hI => ?_) fun hI => ?_
  | refine cL hI (fun _ => rfl) fun x hI => ?_
  | refine cI hI (d123_ok fuel _) fun x hI => ?_
  | refine aM (f := cStr) hI rfl (fun _ => ⟨rfl,rfl⟩) fun hI => ?_
  | refine cI hI (d128_ok fuel _ _ _) fun x hI => ?_
  | refine aM (f := S65.c) hI rfl (fun _ => ⟨rfl,rfl⟩) fun hI => ?_
  | refine ⟨by kernel_rfl,?_⟩
  | exact ⟨⟨_,_,_⟩,hI,Nat.lt_succ_self _,(ft [(0,some 3),(1,some 1)] rfl rfl rfl ⟨fR rfl rfl fun _ => rfl,fR rfl rfl fun _ => rfl,trivial⟩)⟩
  | exact ⟨⟨_,_,_⟩,hI,Nat.lt_succ_self _,(ft [(0,some 0),(1,some 1)] rfl rfl rfl ⟨fR rfl rfl fun _ => rfl,fR rfl rfl fun _ => rfl,trivial⟩)⟩
  | exact ⟨⟨_,_,_⟩,hI,Nat.lt_succ_self _,(ft [(0,some 3)] rfl rfl rfl ⟨fR rfl rfl fun _ => rfl,trivial⟩)⟩
  | (cases hI; exact ⟨leafs_map (f := S65.c) (fun _ => rfl) _,rfl⟩))
def d129_0 (fuel : Nat) (a0 : List S65) : Nat → S61 → Int → Option (S61 × Bool)
  | 0,_,_ => none
  | n + 1,o1,s2 => (bif decide (s2 < (a0.length : Int)) then (at1 a0 s2 fun x3 => (bif (x3.f3 == 6) then some (x3.f10,true) else d129_0 fuel a0 n o1 (nx s2))) else some (ze61,false))
@[irreducible] def d129 (fuel : Nat) (a0 : List S65) : Option (S61 × Bool) := d129_0 fuel a0 fuel ze61 (0 : Int)
theorem d129_ok (fuel : Nat) (a0 : List S65) (r : S61 × Bool) (hI : d129 fuel a0 = some r) : WValid P 129 [.lst (a0.map S65.c)] (fun z => z = .tup [.agg (S61.c r.1),.sc (.bool r.2)]) := by
 refine go Tryz.func129 (by kernel_rfl) ?_
 rw [d129] at hI
 conv => whnf
 refine ⟨_,List.length_map ..,?_⟩
 conv => whnf
 refine L2 (fun o1 s2 => [(2,.box 0 0),(6,.lst (List.map S65.c a0)),(7,.sc (.int .i64 (a0.length : Int))),(8,.sc (.int .i64 s2))]) (fun o1 s2 => ⟨[(0,.box (S61.c o1) false)],1⟩) hI (ft [(0,some 0)] rfl rfl rfl ⟨fB rfl rfl rfl,trivial⟩) (fun _ _ => rfl) ?_
 rintro n0 o1 s2 hI; rw [d129_0] at hI
 all_goals repeat' ((conv => whnf); first
  | refine B hI (fun hI => ?_) fun hI => ?_
  | refine cL hI (fun _ => rfl) fun x hI => ?_
  | exact ⟨⟨_,_,_⟩,hI,Nat.lt_succ_self _,(ft [(0,some 0)] rfl rfl rfl ⟨fB rfl rfl rfl,trivial⟩)⟩
  | (cases hI; rfl))
end
end Go.Abs.RM
