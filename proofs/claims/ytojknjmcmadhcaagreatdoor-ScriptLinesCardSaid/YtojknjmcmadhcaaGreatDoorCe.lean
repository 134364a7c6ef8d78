/- Hexadecimal digits; R04.Digit, R04.Unhex. -/
import Derived.Test.YtojknjmcmadhcaaGreatDoorCd
import Derived.Laws.Bits64b
import Derived.Lib.BufferWrite
import Derived.Stop.BytesEq

section
namespace Go.Proofs.R50
open Go.RowKit Go.Abs

def isH (b : UInt8) : Bool := decide ((48 ≤ b.toNat ∧ b.toNat ≤ 57) ∨ (97 ≤ b.toNat ∧ b.toNat ≤ 102))
def hv (b : UInt8) : Nat := if b.toNat ≤ 57 then b.toNat - 48 else b.toNat - 87
def valH (l : List UInt8) : Nat := l.foldl (fun a b => 16 * a + hv b) 0
/-- The number with these sixteen digits. -/
def hexP (l : List UInt8) : Option Int := if l.length = 16 ∧ l.all isH = true ∧ valH l < 4611686018427387904 then some (valH l : Int) else none
def dgt (b : UInt8) : Int := if isH b then (hv b : Int) else -1

theorem hv_lt {b : UInt8} (h : isH b = true) : hv b < 16 := by
 have := of_decide_eq_true h
 unfold hv
 split <;> omega
theorem valH_snoc (l : List UInt8) (b : UInt8) : valH (l ++ [b]) = 16 * valH l + hv b := by simp [valH]
theorem valH_cons (b : UInt8) : ∀ (n : Nat) (l : List UInt8), l.length = n → valH (b :: l) = hv b * 16 ^ n + valH l
 | 0, l, h => by
  have : l = [] := List.eq_nil_of_length_eq_zero h
  subst this
  simp [valH]
 | n + 1, l, h => by
  obtain ⟨l', c, rfl⟩ : ∃ l' c, l = l' ++ [c] := ⟨l.dropLast, l.getLast (by intro e; subst e; simp at h), (List.dropLast_concat_getLast _).symm⟩
  simp only [List.length_append, List.length_cons, List.length_nil] at h
  rw [← List.cons_append, valH_snoc, valH_snoc, valH_cons b n l' (by omega), Nat.pow_succ]
  rw [Nat.mul_add, ← Nat.add_assoc]
  congr 2
  rw [Nat.mul_comm (16 ^ n) 16, ← Nat.mul_assoc, ← Nat.mul_assoc, Nat.mul_comm 16 (hv b)]
theorem valH_lt : ∀ (n : Nat) (l : List UInt8), l.length = n → l.all isH = true → valH l < 16 ^ n
 | 0, l, h, _ => by
  have : l = [] := List.eq_nil_of_length_eq_zero h
  subst this
  simp [valH]
 | n + 1, l, h, hd => by
  obtain ⟨l', c, rfl⟩ : ∃ l' c, l = l' ++ [c] := ⟨l.dropLast, l.getLast (by intro e; subst e; simp at h), (List.dropLast_concat_getLast _).symm⟩
  simp only [List.length_append, List.length_cons, List.length_nil] at h
  simp only [List.all_append, List.all_cons, List.all_nil, Bool.and_true, Bool.and_eq_true] at hd
  have := valH_lt n l' (by omega) hd.1
  have h2 := hv_lt hd.2
  rw [valH_snoc, Nat.pow_succ]
  omega

set_option maxRecDepth 100000 in
set_option maxHeartbeats 1000000 in
theorem digit_ok (b : UInt8) (w : World) : Calls Tryz.prog 40 #[.int .u8 b.toNat] w fun e w' => e = .returned (.int .i64 (dgt b)) ∧ w' = w := by
 have h256 : b.toNat < 256 := b.toNat_lt
 obtain ⟨B, hB⟩ : ∃ B, b.toNat = B := ⟨_, rfl⟩
 have HB := Lib.hid hB
 rw [hB] at h256 ⊢
 clear hB
 go_enter Tryz.func40, Tryz.ntmps40
 by_cases h1 : 48 ≤ B ∧ B ≤ 57
 ·have e : Hid (dgt b = (B : Int) - 48) := by
   show _ = _
   unfold dgt isH hv
   rw [(HB : _ = _), if_pos (by simp; omega), if_pos (by omega)]
   omega
  obtain ⟨h2, h3⟩ := h1
  have h2 : (48 : Int) ≤ B := by omega
  have h3 : (B : Int) ≤ 57 := by omega
  go_wp2_with fail
  go_ret
  exact ⟨by rw [(e : _ = _)]; rfl, rfl⟩
 ·by_cases h4 : 97 ≤ B ∧ B ≤ 102
  ·have e : Hid (dgt b = (B : Int) - 97 + 10) := by
    show _ = _
    unfold dgt isH hv
    rw [(HB : _ = _), if_pos (by simp; omega), if_neg (by omega)]
    omega
   obtain ⟨h2, h3⟩ := h4
   have h2 : (97 : Int) ≤ B := by omega
   have h3 : (B : Int) ≤ 102 := by omega
   have h5 : ¬ (B : Int) ≤ 57 := by omega
   clear h1
   go_wp2_with fail
   go_ret
   exact ⟨by rw [(e : _ = _)]; rfl, rfl⟩
  ·have e : Hid (dgt b = -1) := by
    show _ = _
    unfold dgt isH
    rw [(HB : _ = _), if_neg (by simp; omega)]
   go_wp2_with fail
   all_goals first
    | (go_ret; exact ⟨by rw [(e : _ = _)]; rfl, rfl⟩)
    | (exfalso; omega)
end Go.Proofs.R50
end

/- R04.Unhex. -/
section
namespace Go.Proofs.R50
open Go.RowKit Go.Abs

theorem hexP_len {l : List UInt8} (h : ¬ l.length = 16) : hexP l = none := by
 unfold hexP
 rw [if_neg (fun q => h q.1)]
theorem hexP_bad {l : List UInt8} {k : Nat} {b : UInt8} (hb : l[k]? = some b) (h : isH b = false) : hexP l = none := by
 unfold hexP
 rw [if_neg]
 rintro ⟨_, q, _⟩
 have := List.all_eq_true.1 q b (List.mem_of_getElem? hb)
 rw [h] at this
 cases this
theorem hexP_big {l : List UInt8} {b : UInt8} (hb : l[0]? = some b) (h : 3 < dgt b) : hexP l = none := by
 unfold hexP
 rw [if_neg]
 rintro ⟨q1, q2, q3⟩
 cases l with
 | nil => simp at hb
 | cons a r =>
  simp only [List.getElem?_cons_zero, Option.some.injEq] at hb
  subst hb
  have hr : r.length = 15 := by simpa using q1
  rw [valH_cons a 15 r hr] at q3
  unfold dgt at h
  split at h
  ·omega
  ·omega
theorem hexV_lt {l : List UInt8} {b : UInt8} {k : Nat} (hb : l[0]? = some b) (h : dgt b ≤ 3) (hk : k ≤ 16) (hl : l.length = 16) (hd : (l.take k).all isH = true) : valH (l.take k) < 4611686018427387904 := by
 cases l with
 | nil => simp at hb
 | cons a r =>
  simp only [List.getElem?_cons_zero, Option.some.injEq] at hb
  subst hb
  cases k with
  | zero => simp [valH]
  | succ k =>
   simp only [List.take_succ_cons, List.all_cons, Bool.and_eq_true] at hd ⊢
   have hr : (r.take k).length = k := by
    rw [List.length_take]
    have : r.length = 15 := by simpa using hl
    omega
   have h2 := valH_lt k _ hr hd.2
   rw [valH_cons a k _ hr]
   unfold dgt at h
   rw [if_pos hd.1] at h
   have h3 : hv a ≤ 3 := by omega
   have h4 : 16 ^ k ≤ 16 ^ 15 := Nat.pow_le_pow_right (by decide) (by omega)
   have h5 : hv a * 16 ^ k ≤ 3 * 16 ^ k := Nat.mul_le_mul_right _ h3
   omega

set_option maxRecDepth 100000 in
set_option maxHeartbeats 2000000 in
theorem rUnhex_ok (s : ByteArray) (w : World) :
  Calls Tryz.prog 27 #[.string s] w fun e w' => e = .returned (.tuple #[.int .i64 ((hexP s.data.toList).getD 0), .bool (hexP s.data.toList).isSome]) ∧ w' = w := by
 go_enter Tryz.func27, Tryz.ntmps27
 by_cases hl : s.size = 16
 ·have hs0 : 0 < s.size := by omega
  have hll : s.data.toList.length = 16 := by simpa using hl
  obtain ⟨b0, hb0⟩ : ∃ b, s[0]'hs0 = b := ⟨_, rfl⟩
  have Hat0 := Lib.hid (byte_at hs0)
  rw [hb0] at Hat0
  have Hll := Lib.hid hll
  have hc0 := Lib.hid (digit_ok b0 w)
  have hB0 : (s[0]'hs0).toNat = b0.toNat := by rw [hb0]
  clear hb0 hll
  go_wp2_with fail
  refine Calls.mono hc0 ?_
  rintro e w' ⟨rfl, rfl⟩
  clear hB0 hs0
  obtain ⟨D0, hD0⟩ : ∃ D0, dgt b0 = D0 := ⟨_, rfl⟩
  have HD0 := Lib.hid hD0
  rw [hD0]
  clear hD0
  by_cases h3 : 3 < D0
  ·have hno : Hid (hexP s.data.toList = none) := hexP_big Hat0 (by rw [(HD0 : _ = _)]; exact h3)
   go_wp2_with fail
   go_ret2
   exact ⟨by rw [(hno : _ = _)]; rfl, rfl⟩
  ·have Hn3 : Hid (dgt b0 ≤ 3) := by show _ ≤ _; rw [(HD0 : _ = _)]; omega
   go_wp2_with fail
   go_loopw [4, 5] (fun n i wr => ∃ k : Nat, k ≤ 16 ∧ i = .int .i64 k ∧ n = .int .i64 (valH (s.data.toList.take k)) ∧ (s.data.toList.take k).all isH = true ∧ wr = w') (fun _ i _ => 16 - (intOf i).toNat)
   case atStart => exact ⟨0, by omega, by go_num, rfl, rfl, rfl⟩
   case round =>
    obtain ⟨k, hk, rfl, rfl, hd, rfl⟩ := hrel
    have hV2 := hexV_lt Hat0 Hn3 hk Hll hd
    obtain ⟨V, hV⟩ : ∃ V, valH (s.data.toList.take k) = V := ⟨_, rfl⟩
    rw [hV] at hV2 ⊢
    have HV := Lib.hid hV
    have Hd := Lib.hid hd
    have hV4 : (V : Int) < 4611686018427387904 := by omega
    clear hV hd hV2
    by_cases hlt : k < 16
    ·have hks : k < s.size := by omega
     have hk9 : (k : Int) < 16 := by omega
     obtain ⟨b, hbe⟩ : ∃ b, s[k]'hks = b := ⟨_, rfl⟩
     have hat := Lib.hid (byte_at hks)
     rw [hbe] at hat
     have hB : (s[k]'hks).toNat = b.toNat := by rw [hbe]
     have hc := Lib.hid (digit_ok b wr)
     clear hbe
     go_wp2_with fail
     refine Calls.mono hc ?_
     rintro e w' ⟨rfl, rfl⟩
     clear hB
     cases hi : isH b with
     | false =>
      have hno : Hid (hexP s.data.toList = none) := hexP_bad hat hi
      have e : dgt b = -1 := by unfold dgt; rw [hi]; rfl
      rw [e]
      clear e hi
      go_wp2_with fail
      go_ret2
      exact ⟨by rw [(hno : _ = _)]; rfl, rfl⟩
     | true =>
      have e : dgt b = (hv b : Int) := by unfold dgt; rw [hi]; rfl
      have h16 := hv_lt hi
      have Hi := Lib.hid hi
      rw [e]
      have Hs : Hid (s.data.toList.take (k + 1) = s.data.toList.take k ++ [b]) := by
       obtain ⟨hk2, e2⟩ := List.getElem?_eq_some_iff.1 hat
       show _ = _
       rw [List.take_succ_eq_append_getElem hk2, e2]
      have Hrel : Hid (valH (s.data.toList.take (k + 1)) = 16 * V + hv b ∧ (s.data.toList.take (k + 1)).all isH = true) := by
       rw [(Hs : _ = _), valH_snoc, (HV : _ = V)]
       refine ⟨rfl, ?_⟩
       rw [List.all_append, (Hd : _ = true)]
       have : isH b = true := Hi
       simp [this]
      have hV5 : Hid (16 * V + hv b < 4611686018427387904) := by
       have := hexV_lt Hat0 Hn3 (k := k + 1) (by omega) Hll Hrel.2
       rw [Hrel.1] at this
       exact this
      obtain ⟨H, hH⟩ : ∃ H, hv b = H := ⟨_, rfl⟩
      rw [hH] at h16 Hrel hV5 ⊢
      have hV6 : (V : Int) ≤ 288230376151711743 := by
       have : 16 * V + H < 4611686018427387904 := hV5
       omega
      have hH0 : (H : Int) ≤ 15 := by omega
      clear e hi hH h16 hV4 hks
      go_wp2_with fail
      go_roundw
      case rel =>
       refine ⟨k + 1, by omega, by go_num, ?_, Hrel.2, by trivial⟩
       rw [Hrel.1]
       congr 1
       omega
      case measure => first | (simp [intOf]; done) | (simp [intOf]; omega)
    ·obtain rfl : k = 16 := by omega
     have ht : s.data.toList.take 16 = s.data.toList := List.take_of_length_le (Nat.le_of_eq Hll)
     rw [ht] at HV Hd
     have hno : Hid (hexP s.data.toList = some (V : Int)) := by
      show _ = _
      unfold hexP
      rw [if_pos ⟨Hll, Hd, by rw [(HV : _ = _)]; omega⟩, (HV : _ = _)]
     clear ht
     go_wp2_with fail
     go_ret2
     exact ⟨by rw [(hno : _ = _)]; rfl, rfl⟩
 ·have hno : Hid (hexP s.data.toList = none) := hexP_len (by simpa using hl)
  have hl2 : ¬ (s.size : Int) = 16 := by omega
  go_wp2_with fail
  go_ret2
  exact ⟨by rw [(hno : _ = _)]; rfl, rfl⟩
end Go.Proofs.R50
end

/- sums.digits. -/
section
namespace Go.Proofs.R50
open Go.RowKit Go.Abs

/-- One hexadecimal digit. -/
def hexC (n : Nat) : UInt8 := UInt8.ofNat (if n % 16 < 10 then 48 + n % 16 else 87 + n % 16)
/-- The last k hexadecimal digits of N. -/
def lastH (N : Nat) : Nat → List UInt8
 | 0 => []
 | k + 1 => hexC (N / 16 ^ k) :: lastH N k
def hexL (N : Nat) : List UInt8 := lastH N 16
theorem lastH_len (N : Nat) : ∀ k, (lastH N k).length = k
 | 0 => rfl
 | k + 1 => by simp [lastH, lastH_len N k]

theorem and_mask (M : Nat) (h : M < 18446744073709551616) : bits BinOp.and IntKind.u64 (M : Int) 4611686018427387903 = ((M % 4611686018427387904 : Nat) : Int) := by
 have h1 := bits_and_u64_nat M 4611686018427387903 h (by decide)
 have h2 : M &&& 4611686018427387903 = M % 4611686018427387904 := Nat.and_two_pow_sub_one_eq_mod M 62
 rw [h2] at h1
 exact h1

/-- The number modulo 2^62. -/
def m62 (n : Int) : Nat := (n % 4611686018427387904).toNat
theorem and_m62 (n : Int) : bits BinOp.and IntKind.u64 (IntKind.u64.wrap n) 4611686018427387903 = (m62 n : Int) := by
 obtain ⟨a, ha⟩ : ∃ a : Nat, IntKind.u64.wrap n = (a : Int) ∧ a < 18446744073709551616 := by
  rw [IntKind.wrap_u64]
  exact ⟨(n % 18446744073709551616).toNat, by omega, by omega⟩
 rw [ha.1, and_mask a ha.2]
 have h2 := ha.1
 rw [IntKind.wrap_u64] at h2
 unfold m62
 omega

/-- The sixteen bytes when k digits are written. -/
def cellsH (M f k : Nat) : Array Value := (List.replicate f (Value.int .u8 0) ++ (lastH M k).map fun b => Value.int .u8 b.toNat).toArray
theorem cellsH_at (M f k : Nat) : (cellsH M (f + 1) k)[f]? = some (.int .u8 0) := by
 rw [cellsH, List.getElem?_toArray, List.getElem?_append_left (by simp)]
 simp
theorem cellsH_set (M f k Q : Nat) (hQ : Q = M / 16 ^ k) : (cellsH M (f + 1) k).setIfInBounds f (.int .u8 ((hexC Q).toNat : Int)) = cellsH M f (k + 1) := by
 apply Array.ext'
 rw [Array.toList_setIfInBounds]
 simp only [cellsH, List.replicate_succ', List.append_assoc, lastH, List.map_cons]
 rw [List.set_append_right _ _ (by simp)]
 simp [← hQ]
theorem run_index9 (s : ByteArray) (i : Int) (b : UInt8) (w : World) (h0 : 0 ≤ i) (h : s.data.toList[i.toNat]? = some b) : (Instr.index 9 (.string s) (.int .u64 i)).run Tryz.prog w = .ok (.int .u8 b.toNat) w := by
 have h2 : s[i.toNat]? = some b := by
  rw [← h, Array.getElem?_toList]; rfl
 simp [Instr.index, Sem.run_bind, asIntOf, run_under Tryz.underlying9, Result.andThen, h0, h2]
theorem hex_index (Q : Nat) (w : World) : (Instr.index 9 (.string ⟨#[48, 49, 50, 51, 52, 53, 54, 55, 56, 57, 97, 98, 99, 100, 101, 102]⟩) (.int .u64 ((Q : Int) % 16))).run Tryz.prog w = .ok (.int .u8 ((hexC Q).toNat : Int)) w := by
 refine run_index9 _ _ _ w (by omega) ?_
 obtain ⟨r, hr, hlt⟩ : ∃ r, Q % 16 = r ∧ r < 16 := ⟨_, rfl, Nat.mod_lt _ (by decide)⟩
 have e : ((Q : Int) % 16).toNat = r := by omega
 rw [e]
 unfold hexC
 rw [hr]
 clear e hr Q
 have : r = 0 ∨ r = 1 ∨ r = 2 ∨ r = 3 ∨ r = 4 ∨ r = 5 ∨ r = 6 ∨ r = 7 ∨ r = 8 ∨ r = 9 ∨ r = 10 ∨ r = 11 ∨ r = 12 ∨ r = 13 ∨ r = 14 ∨ r = 15 := by omega
 rcases this with rfl | rfl | rfl | rfl | rfl | rfl | rfl | rfl | rfl | rfl | rfl | rfl | rfl | rfl | rfl | rfl <;> decide

theorem under79 : Tryz.prog.underlying 79 = some (.array 16 5) := by kernel_rfl
theorem size79 : (Tryz.prog.info? 79).map (·.size) = some 16 := by kernel_rfl
theorem cellsH_len (M f k : Nat) : (cellsH M f k).size = f + k := by simp [cellsH, lastH_len]
theorem cellsH_one (M f k : Nat) : (cellsH M f k).all (·.oneCell') = true := by
 rw [Array.all_eq_true_iff_forall_mem]
 intro v hv
 simp only [cellsH, List.mem_toArray, List.mem_append, List.mem_map] at hv
 rcases hv with hv | ⟨b, _, rfl⟩
 ·rw [(List.mem_replicate.1 hv).2]; rfl
 ·rfl

theorem list_load79 {ops : Array Oper} {rest : List Oper} {a : Act} {w : World} {Q : Exit → Act → World → Prop} {dst : Option Tmp} {x : Operand} {ty : TypeId} {ps : String} {af : Array Edge}
  (b o : Nat) (cs : Array Value) (hr : Hid (w.rangeAt b o cs.toList)) {t : TypeId} {gd : Option (Tmp × Bool)} (ht : t = 79) (hg : gd = none) (hl : Hid (cs.size = 16)) (hx : a.eval x = .pointer (some ⟨b, o, none⟩)) (h : wpList Tryz.prog ops Q rest (a.put dst (.agg cs)) w) :
  wpList Tryz.prog ops Q ({ dst := dst, op := .load t x, type := ty, pos := ps, after := af, guard := gd } :: rest) a w := by
 subst ht hg
 have h' : wpList Tryz.prog ops Q rest (a.put dst (.agg cs.toList.toArray)) w := by simpa using h
 exact wpList_load_mid rfl 79 x rfl b o hx cs.toList _ hr under79 rfl (by rw [size79, Array.length_toList, (hl : _ = _)]) h'
theorem list_store79 {ops : Array Oper} {rest : List Oper} {a : Act} {w : World} {Q : Exit → Act → World → Prop} {dst : Option Tmp} {x y : Operand} {ty : TypeId} {ps : String} {af : Array Edge}
  (b o : Nat) (cs : Array Value) (hr : Hid (w.there b o cs.size)) {t : TypeId} {gd : Option (Tmp × Bool)} (ht : t = 79) (hg : gd = none) (hl : Hid (cs.size = 16)) (h1 : Hid (cs.all (·.oneCell') = true)) (hx : a.eval x = .pointer (some ⟨b, o, none⟩)) (hy : a.eval y = .agg cs)
  (h : wpList Tryz.prog ops Q rest (a.put dst undef) (w.setCells b o cs.toList)) :
  wpList Tryz.prog ops Q ({ dst := dst, op := .store t x y, type := ty, pos := ps, after := af, guard := gd } :: rest) a w := by
 subst ht hg
 exact wpList_store_mid rfl 79 x y rfl b o cs hx hy hr (by rw [size79, (hl : _ = _)]) h1 h

set_option maxRecDepth 100000 in
set_option maxHeartbeats 2000000 in
theorem digits_ok (n : Int) (w : World) :
  Calls Tryz.prog 34 #[.int .i64 n] w fun e w' => e = .returned (.agg ((hexL (m62 n)).map fun b => Value.int .u8 b.toNat).toArray) ∧ Below w.heap.size w w' := by
 have hmk := and_m62 n
 obtain ⟨M, hM⟩ : ∃ M, m62 n = M := ⟨_, rfl⟩
 have hM2 : M < 4611686018427387904 := by rw [← hM]; unfold m62; omega
 rw [hM] at hmk ⊢
 clear hM
 go_enter Tryz.func34, Tryz.ntmps34
 go_wp2_with fail
 have hw0 := Lib.hid (Whole.new (w.alloc (.cells (cellsH M 16 0) 79)) 79 (cellsH M 16 0))
 have hb0 := Lib.hid (((Below.refl w.heap.size w).alloc (Nat.le_refl _) (.cells (cellsH M 16 0) 79)).alloc (by rw [World.size_alloc]; omega) (.cells (cellsH M 16 0) 79))
 have hr0 := Lib.hid (Whole.off (Whole.new w 79 (cellsH M 16 0)) (World.grownBy_alloc (w.alloc (.cells (cellsH M 16 0) 79)) (.cells (cellsH M 16 0) 79) none) (by simp))
 rw [World.size_alloc] at hw0
 go_loopw [3, 9] (fun u i wr => ∃ (k p Q : Nat), p + k = 16 ∧ u = .int .u64 (Q : Int) ∧ i = .int .i64 (k : Int) ∧ Q = M / 16 ^ k ∧ Whole wr (w.heap.size + 1) 79 (cellsH M p k) ∧ Whole wr w.heap.size 79 (cellsH M 16 0) ∧ Below w.heap.size w wr) (fun _ i _ => 16 - (intOf i).toNat)
 case atStart => exact ⟨0, 16, M, rfl, rfl, rfl, by simp, hw0, hr0, hb0⟩
 case round =>
  obtain ⟨k, p, Q, hpk, rfl, rfl, hQ, hW, hR, q⟩ := hrel
  have HQ := Lib.hid hQ
  have Hq := Lib.hid q
  have HW := Lib.hid hW
  have HR := Lib.hid hR
  clear hQ q hb0 hw0 hr0 hW hR
  by_cases hk : k < 16
  ·obtain ⟨p, rfl⟩ : ∃ p', p = p' + 1 := ⟨p - 1, by omega⟩
   have hfz := Whole.free HW p
   have hc : wr.cell? ⟨w.heap.size + 1, p, none⟩ = some (.int .u8 0) := (Whole.cell HW p).trans (cellsH_at M p k)
   have hQ2 : (Q : Int) ≤ 4611686018427387903 := by
    have : Q ≤ M := by rw [(HQ : Q = _)]; exact Nat.div_le_self _ _
    omega
   have hlk : ((k : Nat) : Int) < 16 := by omega
   have hix := hex_index Q wr
   have hsub : (15 : Int) - (k : Int) = (p : Int) := by omega
   have HW2 : Hid (Whole (wr.setCell ⟨w.heap.size + 1, p, none⟩ (.int .u8 ((hexC Q).toNat : Int))) (w.heap.size + 1) 79 (cellsH M p (k + 1))) := by
    have := Whole.put HW p (.int .u8 ((hexC Q).toNat : Int))
    rwa [cellsH_set M p k Q HQ] at this
   have HR2 := Lib.hid (Whole.far HR (p := ⟨w.heap.size + 1, p, none⟩) (by simp) (.int .u8 ((hexC Q).toNat : Int)))
   have Hb := Lib.hid (Below.setCell Hq (p := ⟨w.heap.size + 1, p, none⟩) (Nat.le_succ _) (.int .u8 ((hexC Q).toNat : Int)))
   have HQ10 : Hid (Q / 16 = M / 16 ^ (k + 1)) := by show _ = _; rw [(HQ : Q = _), Nat.div_div_eq_div_mul, Nat.pow_succ]
   clear hmk hM2
   go_wp2_with fail
   exact ⟨⟨k + 1, p, Q / 16, by omega, by simp, by go_num, HQ10, HW2, HR2, Hb⟩, by simp [intOf]; omega⟩
  ·obtain rfl : k = 16 := by omega
   obtain rfl : p = 0 := by omega
   clear hmk hM2
   have hra : wr.rangeAt (w.heap.size + 1) 0 (cellsH M 0 16).toList := fun j v hv => by
    rw [Nat.zero_add]
    exact (Whole.cell HW j).trans (by simpa using hv)
   have hth : wr.there w.heap.size 0 (cellsH M 0 16).size := by
    have := Whole.there HR
    rwa [show (cellsH M 16 0).size = (cellsH M 0 16).size by rw [cellsH_len, cellsH_len]] at this
   have Hra := Lib.hid hra
   have Hth := Lib.hid hth
   have HR2 := Lib.hid (Whole.fillAll HR (cs' := cellsH M 0 16) (by rw [cellsH_len, cellsH_len]))
   have Hb := Lib.hid (Hq : Below w.heap.size w wr)
   have Hsz : Hid ((cellsH M 0 16).size = 16) := cellsH_len _ _ _
   have Hone := Lib.hid (cellsH_one M 0 16)
   clear hra hth
   generalize hcs : cellsH M 0 16 = cs at *
   go_wp2_with (first | ((with_reducible refine list_load79 (w.heap.size + 1) 0 cs Hra ?_ ?_ Hsz ?_ ?_); all_goals try rfl) | ((with_reducible refine list_store79 w.heap.size 0 cs Hth ?_ ?_ Hsz Hone ?_ ?_ ?_); all_goals try rfl))
   have hB : Below w.heap.size w (wr.setCells w.heap.size 0 cs.toList) := by
    have h1 := setCells_off (g := w.heap.size) cs.toList 0 wr wr (some w.heap.size) ⟨rfl, rfl, rfl, Nat.le_refl _, fun _ _ _ => rfl⟩ (.inr rfl)
    exact (Hb : Below _ _ _).grown h1 (Below.size Hb) (fun q hq => by cases hq; exact Nat.le_refl _)
   have hfin : (hexL M).map (fun b => Value.int .u8 (b.toNat : Int)) = cs.toList := by
    rw [← hcs]
    simp [cellsH, hexL]
   rw [show ((hexL M).map fun b => Value.int .u8 (b.toNat : Int)).toArray = cs by rw [hfin]]
   refine bodyPost_ret (v := .agg cs) (results_cell_row rfl _ _ w.heap.size 79 cs (0, 0) _ rfl HR2 under79 rfl (by rw [size79, (Hsz : _ = _)])) rfl ⟨rfl, hB⟩
end Go.Proofs.R50
end

/- Hexadecimal digits there and back. -/
section
namespace Go.Proofs.R50

theorem hexC_nat (n : Nat) : (hexC n).toNat = if n % 16 < 10 then 48 + n % 16 else 87 + n % 16 := by
 unfold hexC
 rw [UInt8.toNat_ofNat']
 split <;> omega
theorem hexC_isH (n : Nat) : isH (hexC n) = true := by
 have := hexC_nat n
 unfold isH
 rw [this]
 split <;> simp <;> omega
theorem hexC_hv (n : Nat) : hv (hexC n) = n % 16 := by
 unfold hv
 rw [hexC_nat]
 by_cases h : n % 16 < 10
 ·rw [if_pos h]; rw [if_pos (by omega)]; omega
 ·rw [if_neg h]; rw [if_neg (by omega)]; omega
theorem hexC_of {b : UInt8} (h : isH b = true) : hexC (hv b) = b := by
 apply UInt8.toNat_inj.1
 have h1 := of_decide_eq_true h
 have h2 := hv_lt h
 rw [hexC_nat]
 unfold hv at h2 ⊢
 split at h2
 ·rename_i h3
  rw [if_pos h3]
  split <;> omega
 ·rename_i h3
  rw [if_neg h3]
  split <;> omega
theorem hexC_mod (n : Nat) : hexC (n % 16) = hexC n := by
 unfold hexC
 rw [Nat.mod_mod]
theorem lastH_all (N : Nat) : ∀ k, (lastH N k).all isH = true
 | 0 => rfl
 | k + 1 => by simp [lastH, hexC_isH, lastH_all N k]
theorem valH_lastH (N : Nat) : ∀ k, valH (lastH N k) = N % 16 ^ k
 | 0 => by simp [lastH, valH, Nat.mod_one]
 | k + 1 => by
  rw [lastH, valH_cons _ k _ (lastH_len N k), hexC_hv, valH_lastH N k, Nat.pow_succ, Nat.mod_mul, Nat.mul_comm, Nat.add_comm]
theorem lastH_mod (N M : Nat) : ∀ k, N % 16 ^ k = M % 16 ^ k → lastH N k = lastH M k
 | 0, _ => rfl
 | k + 1, h => by
  have h0 : N % 16 ^ k = M % 16 ^ k := by
   have e : ∀ x, x % 16 ^ (k + 1) % 16 ^ k = x % 16 ^ k := fun x => Nat.mod_mod_of_dvd x ⟨16, Nat.pow_succ ..⟩
   rw [← e N, ← e M, h]
  have h1 : N / 16 ^ k % 16 = M / 16 ^ k % 16 := by
   rw [Nat.pow_succ, Nat.mod_mul, Nat.mod_mul, h0] at h
   have := Nat.add_left_cancel h
   exact Nat.eq_of_mul_eq_mul_left (Nat.pow_pos (by decide)) this
  rw [lastH, lastH, lastH_mod N M k h0, ← hexC_mod, h1, hexC_mod]
theorem lastH_valH : ∀ (k : Nat) (l : List UInt8), l.length = k → l.all isH = true → lastH (valH l) k = l
 | 0, l, h, _ => by
  have : l = [] := List.eq_nil_of_length_eq_zero h
  subst this
  rfl
 | k + 1, l, h, hd => by
  cases l with
  | nil => simp at h
  | cons b r =>
   have hr : r.length = k := by simpa using h
   simp only [List.all_cons, Bool.and_eq_true] at hd
   have h1 := valH_lt k r hr hd.2
   rw [valH_cons b k r hr, lastH]
   have e1 : (hv b * 16 ^ k + valH r) / 16 ^ k = hv b := by
    rw [Nat.mul_comm, Nat.mul_add_div (Nat.pow_pos (by decide)), Nat.div_eq_of_lt h1, Nat.add_zero]
   rw [e1, hexC_of hd.1]
   congr 1
   rw [lastH_mod _ (valH r) k (by rw [Nat.mul_comm, Nat.mul_add_mod])]
   exact lastH_valH k r hr hd.2

/-- What the loop of sums.Unhex makes of a byte, and of a text. -/
def pv (b : UInt8) : Nat := if 97 ≤ b.toNat then (b.toNat - 87) % 16 else b.toNat % 16
def uOf (l : List UInt8) : Nat := l.foldl (fun a b => (a * 16 + pv b) % 18446744073709551616) 0
theorem uOf_snoc (l : List UInt8) (b : UInt8) : uOf (l ++ [b]) = (uOf l * 16 + pv b) % 18446744073709551616 := by simp [uOf]
theorem pv_hv {b : UInt8} (h : isH b = true) : pv b = hv b := by
 have h1 := of_decide_eq_true h
 unfold pv hv
 split <;> split <;> omega
theorem uOf_val : ∀ (n : Nat) (l : List UInt8), l.length = n → n ≤ 16 → l.all isH = true → uOf l = valH l
 | 0, l, h, _, _ => by
  have : l = [] := List.eq_nil_of_length_eq_zero h
  subst this
  rfl
 | n + 1, l, h, hn, hd => by
  obtain ⟨l', c, rfl⟩ : ∃ l' c, l = l' ++ [c] := ⟨l.dropLast, l.getLast (by intro e; subst e; simp at h), (List.dropLast_concat_getLast _).symm⟩
  have hlt := valH_lt (n + 1) _ h hd
  simp only [List.length_append, List.length_cons, List.length_nil] at h
  simp only [List.all_append, List.all_cons, List.all_nil, Bool.and_true, Bool.and_eq_true] at hd
  rw [valH_snoc] at hlt ⊢
  rw [uOf_snoc, uOf_val n l' (by omega) (by omega) hd.1, pv_hv hd.2]
  have h16 : 16 ^ (n + 1) ≤ 16 ^ 16 := Nat.pow_le_pow_right (by decide) hn
  rw [Nat.mod_eq_of_lt (by omega)]
  omega
/-- The test of sums.Unhex. -/
theorem hexP_eq {l : List UInt8} (hl : l.length = 16) : hexP l = if hexL (uOf l % 4611686018427387904) = l then some ((uOf l % 4611686018427387904 : Nat) : Int) else none := by
 have hpow : (16 : Nat) ^ 16 = 18446744073709551616 := by decide
 by_cases h : hexL (uOf l % 4611686018427387904) = l
 ·rw [if_pos h]
  have h1 : l.all isH = true := by rw [← h]; exact lastH_all _ _
  have h2 : valH l = uOf l % 4611686018427387904 := by
   have := valH_lastH (uOf l % 4611686018427387904) 16
   rw [show lastH (uOf l % 4611686018427387904) 16 = l from h] at this
   rw [this]
   exact Nat.mod_eq_of_lt (by omega)
  unfold hexP
  rw [if_pos ⟨hl, h1, by rw [h2]; exact Nat.mod_lt _ (by decide)⟩, h2]
 ·rw [if_neg h]
  unfold hexP
  rw [if_neg]
  rintro ⟨_, q2, q3⟩
  refine h ?_
  rw [uOf_val 16 l hl (Nat.le_refl _) q2, Nat.mod_eq_of_lt q3]
  exact lastH_valH 16 l hl q2
end Go.Proofs.R50
end

/- sums.Unhex. -/
section
namespace Go.Proofs.R50
open Go.RowKit Go.Abs

def cellsB (l : List UInt8) : Array Value := (l.map fun b => Value.int .u8 b.toNat).toArray

theorem copy_in (w : World) (s : ByteArray) (hs : s.size = 16) : ∃ w1, (Builtin.copy_ #[78, 9] 3 #[.slice (some ⟨w.heap.size, 0, none⟩) 16 16, .string s]).run Tryz.prog (w.alloc (.cells (cellsB (List.replicate 16 0)) 79)) = .ok (goInt 16) w1 ∧
  Whole w1 w.heap.size 79 (cellsB s.data.toList) ∧ Below w.heap.size w w1 := by
 have h5 : (Tryz.prog.info? 5).map (·.size) = some 1 := by kernel_rfl
 have hg : (w.alloc (.cells (cellsB (List.replicate 16 0)) 79)).heap[w.heap.size]? = some (.cells (cellsB (List.replicate 16 0)) 79 (0, 0)) := heap_alloc_at _ _
 have h := Lib.run_copy_row_string (P := Tryz.prog) (w.alloc (.cells (cellsB (List.replicate 16 0)) 79)) 78 9 3 5 w.heap.size 0 16 16 s (cellsB (List.replicate 16 0)) 79 Tryz.underlying78 h5 hg (by omega) (by rw [hs]; decide)
 rw [hs] at h
 refine ⟨_, h, ?_, ?_⟩
 ·have e : (List.take 0 (cellsB (List.replicate 16 0)).toList ++ Lib.byteCells s.data.toList ++ List.drop (0 + 16) (cellsB (List.replicate 16 0)).toList).toArray = cellsB s.data.toList := by
   rw [List.drop_of_length_le (by simp [cellsB])]
   simp [cellsB, Lib.byteCells]
  rw [e]
  unfold Whole World.setRow
  simp only [Array.getElem?_modify, hg]
  simp
 ·refine Below.trans ((Below.refl w.heap.size w).alloc (Nat.le_refl _) (.cells (cellsB (List.replicate 16 0)) 79)) ⟨rfl, rfl, rfl, by simp [World.setRow], fun k hk => ?_⟩
  unfold World.setRow
  simp only [Array.getElem?_modify]
  rw [if_neg (by omega)]

theorem cellsB_at {l : List UInt8} {k : Nat} {b : UInt8} (h : l[k]? = some b) : (cellsB l)[k]? = some (.int .u8 b.toNat) := by
 simp [cellsB, h]
theorem index79 {l : List UInt8} {k : Nat} {b : UInt8} (hk : k < 16) (h : l[k]? = some b) (w : World) : (Instr.index 79 (.agg (cellsB l)) (.int .i64 (k : Int))).run Tryz.prog w = .ok (.int .u8 b.toNat) w := by
 have h1 : (isAgg 5).run Tryz.prog w = .ok false w := by kernel_rfl
 have h2 : (sizeOf 5).run Tryz.prog w = .ok 1 w := by kernel_rfl
 have h3 : (0 : Int) ≤ k ∧ (k : Int) < 16 := by omega
 simp [Instr.index, Sem.run_bind, asIntOf, run_under under79, Result.andThen, h1, h2, h3, part, cellsB_at h]
 exact fun q => absurd hk (by omega)

theorem uOf_lt (l : List UInt8) : uOf l < 18446744073709551616 := by
 rcases List.eq_nil_or_concat l with rfl | ⟨l', c, rfl⟩
 ·decide
 ·rw [List.concat_eq_append, uOf_snoc]
  exact Nat.mod_lt _ (by decide)

set_option maxRecDepth 100000 in
set_option maxHeartbeats 2000000 in
theorem unhex_ok (s : ByteArray) (w : World) :
  Calls Tryz.prog 51 #[.string s] w fun e w' => e = .returned (.tuple #[.int .i64 ((hexP s.data.toList).getD 0), .bool (hexP s.data.toList).isSome]) ∧ Below w.heap.size w w' := by
 go_enter Tryz.func51, Tryz.ntmps51
 by_cases hl : s.size = 16
 ·have hll : s.data.toList.length = 16 := by simpa using hl
  have Hll := Lib.hid hll
  obtain ⟨w1, hcp0, hW, hB⟩ := copy_in w s hl
  have hcp : (Builtin.copy_ #[78, 9] 3 #[.slice (some ⟨w.heap.size, 0, none⟩) 16 16, .string s]).run Tryz.prog (w.alloc (.cells #[.int .u8 0, .int .u8 0, .int .u8 0, .int .u8 0, .int .u8 0, .int .u8 0, .int .u8 0, .int .u8 0, .int .u8 0, .int .u8 0, .int .u8 0, .int .u8 0, .int .u8 0, .int .u8 0, .int .u8 0, .int .u8 0] 79)) = .ok (goInt 16) w1 := hcp0
  clear hcp0
  have HW := Lib.hid hW
  have HB := Lib.hid hB
  have Hsz : Hid ((cellsB s.data.toList).size = 16) := by show _ = _; simp [cellsB, hl]
  have Hra : Hid (w1.rangeAt w.heap.size 0 (cellsB s.data.toList).toList) := fun j v hv => by
   rw [Nat.zero_add]
   exact (Whole.cell HW j).trans (by simpa using hv)
  clear hll hW hB
  go_wp2_with ((with_reducible refine list_load79 w.heap.size 0 (cellsB s.data.toList) Hra ?_ ?_ Hsz ?_ ?_); all_goals try rfl)
  clear hcp
  go_loopw [5, 17] (fun u i wr => ∃ k : Nat, k ≤ 16 ∧ i = .int .i64 k ∧ u = .int .u64 (uOf (s.data.toList.take k)) ∧ wr = w1) (fun _ i _ => 16 - (intOf i).toNat)
  case atStart => exact ⟨0, by omega, by go_num, rfl, rfl⟩
  case round =>
   obtain ⟨k, hk, rfl, rfl, rfl⟩ := hrel
   obtain ⟨U, hU⟩ : ∃ U, uOf (s.data.toList.take k) = U := ⟨_, rfl⟩
   have HU := Lib.hid hU
   rw [hU]
   clear hU
   by_cases hlt : k < 16
   ·have hks : k < s.size := by omega
    obtain ⟨b, hbe⟩ : ∃ b, s[k]'hks = b := ⟨_, rfl⟩
    have hat := byte_at hks
    rw [hbe] at hat
    have hix := index79 hlt hat wr
    have Hs : Hid (s.data.toList.take (k + 1) = s.data.toList.take k ++ [b]) := by
     obtain ⟨hk2, e2⟩ := List.getElem?_eq_some_iff.1 hat
     show _ = _
     rw [List.take_succ_eq_append_getElem hk2, e2]
    have Hrel : Hid (uOf (s.data.toList.take (k + 1)) = (U * 16 + pv b) % 18446744073709551616) := by
     show _ = _
     rw [(Hs : _ = _), uOf_snoc, (HU : _ = U)]
    have hk9 : (k : Int) < 16 := by omega
    obtain ⟨B, hBe⟩ : ∃ B, b.toNat = B := ⟨_, rfl⟩
    have h256 : B < 256 := by rw [← hBe]; exact b.toNat_lt
    have HBe := Lib.hid hBe
    rw [hBe] at hix
    clear hBe hbe hat hks
    by_cases h97 : 97 ≤ B
    ·have h97' : (97 : Int) ≤ B := by omega
     have h255 : (B : Int) ≤ 255 := by omega
     clear h256
     go_wp2_with fail
     refine ⟨⟨k + 1, by omega, by go_num, ?_, trivial⟩, by simp [intOf]; omega⟩
     rw [(Hrel : _ = _)]
     congr 1
     rw [IntKind.wrap_u64, IntKind.wrap_u64]
     unfold pv
     rw [(HBe : _ = B), if_pos h97]
     omega
    ·have h97' : ¬ (97 : Int) ≤ B := by omega
     have h255 : (B : Int) ≤ 255 := by omega
     clear h256
     go_wp2_with fail
     refine ⟨⟨k + 1, by omega, by go_num, ?_, trivial⟩, by simp [intOf]; omega⟩
     rw [(Hrel : _ = _)]
     congr 1
     rw [IntKind.wrap_u64, IntKind.wrap_u64]
     unfold pv
     rw [(HBe : _ = B), if_neg h97]
     omega
   ·obtain rfl : k = 16 := by omega
    have hU2 : U < 18446744073709551616 := by
     rw [← (HU : _ = U)]
     exact uOf_lt _
    have hfull : s.data.toList.take 16 = s.data.toList := List.take_of_length_le (Nat.le_of_eq Hll)
    have hUf : uOf s.data.toList = U := by rw [← (HU : _ = U), hfull]
    have hP := hexP_eq Hll
    rw [hUf] at hP
    obtain ⟨V, hV⟩ : ∃ V, U % 4611686018427387904 = V := ⟨_, rfl⟩
    have hand := and_mask U hU2
    rw [hV] at hP hand
    have hVlt : V < 4611686018427387904 := by omega
    have hm62 : m62 (V : Int) = V := by unfold m62; omega
    have hwr : wrap64 (V : Int) = V := by unfold wrap64; omega
    have hld : ∀ (X : Ext wr), (Instr.loadAt 79 (.pointer (some ⟨w.heap.size, 0, none⟩))).run Tryz.prog X.val = .ok (.agg (cellsB s.data.toList)) X.val := fun X => by
     have hr : X.val.rangeAt w.heap.size 0 (cellsB s.data.toList).toList := fun j v hv => by
      rw [Nat.zero_add]
      exact ((Whole.on HW X.below).cell j).trans (by simpa using hv)
     have := run_loadAt_mid X.val w.heap.size 0 79 (cellsB s.data.toList).toList _ hr under79 rfl (by rw [size79, Array.length_toList, (Hsz : _ = _)])
     simpa using this
    have hc := digits_ok (V : Int)
    rw [hm62] at hc
    have hnq : ∀ w, (binOp .neq 79 (.agg ((hexL V).map fun b => Value.int .u8 b.toNat).toArray) (.agg (cellsB s.data.toList))).run Tryz.prog w = .ok (.bool (!(hexL V == s.data.toList))) w := fun w => by
     rw [run_neq_struct, show (Op.equalIn 10000 79 (.agg ((hexL V).map fun b => Value.int .u8 b.toNat).toArray) (.agg (cellsB s.data.toList))).run Tryz.prog w = .ok (hexL V == s.data.toList) w from run_equalIn_bytes w 9998 79 5 16 under79 (by kernel_rfl) (fun w => by kernel_rfl) (hexL V) s.data.toList (lastH_len V 16) Hll]
     rfl
    have hg : ∀ w, (eqGuard .neq 79 (.tmp 38) (.tmp 39) (.agg ((hexL V).map fun b => Value.int .u8 b.toNat).toArray) (.agg (cellsB s.data.toList))).run Tryz.prog w = .ok () w := fun w => run_eqGuard_agg w .neq 79 _ _ _ _ (by kernel_rfl)
    have Hc := Lib.hid hc
    have Hld := Lib.hid hld
    have HP := Lib.hid hP
    clear hc hld hP hm62 hUf hfull hU2 hVlt hV
    obtain ⟨A, hA⟩ : ∃ A, ((hexL V).map fun b => Value.int .u8 b.toNat).toArray = A := ⟨_, rfl⟩
    have HA := Lib.hid hA
    rw [hA] at hnq hg
    clear hA
    obtain ⟨q, hq⟩ : ∃ q, (hexL V == s.data.toList) = q := ⟨_, rfl⟩
    rw [hq] at hnq
    have Hq := Lib.hid hq
    clear hq
    have hdg : ∀ X : Ext wr, Calls Tryz.prog 34 #[.int .i64 (V : Int)] X.val fun e w' => e = .returned (.agg A) ∧ ∃ y : Ext wr, w' = y.val := fun X => by rw [← (HA : _ = A)]; exact ext_of (Hc _)
    go_wp2_with fail
    rw [hwr]
    refine wp_region_ext (by kernel_rfl) (by kernel_rfl) ?_
    repeat (first | go_big_quiet_skip | (go_big_quiet_want; (first | (refine quiet_load 79 _ rfl _ rfl _ Hld ?_; simp only [Act.put, List.setIfInBounds_toArray, List.set_cons_succ, List.set_cons_zero]; go_big_quiet_on) | (go_big_quiet_op; (first | go_big_quiet_on | go_big_quiet_call (with_reducible exact hdg _))))))
    refine wpQuiet_nil ?_
    intro X
    have Hb := Lib.hid ((HB : Below w.heap.size w wr).trans (X.below.mono (Below.size HB)))
    clear hnq hg hdg
    cases q with
    | true =>
     have Hfin : Hid (hexP s.data.toList = some (V : Int)) := by show _ = _; rw [(HP : _ = _), if_pos (beq_iff_eq.1 Hq)]
     go_wp2_with fail
     go_ret2
     exact ⟨by rw [(Hfin : _ = _)]; rfl, Hb⟩
    | false =>
     have Hfin : Hid (hexP s.data.toList = none) := by show _ = _; rw [(HP : _ = _), if_neg (beq_eq_false_iff_ne.1 Hq)]
     go_wp2_with fail
     go_ret2
     exact ⟨by rw [(Hfin : _ = _)]; rfl, Hb⟩
 ·have hno : Hid (hexP s.data.toList = none) := hexP_len (by simpa using hl)
  have hb0 := Lib.hid ((Below.refl w.heap.size w).alloc (Nat.le_refl _) (.cells (cellsB (List.replicate 16 0)) 79))
  go_wp2_with fail
  go_ret2
  exact ⟨by rw [(hno : _ = _)]; rfl, hb0⟩
end Go.Proofs.R50
end
