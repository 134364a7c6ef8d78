/- Prefixes of texts. -/
import Derived.Test.YtojknjmcmadhcaaGreatDoorCb
import Derived.Test.YtojknjmcmadhcaaGreatDoorBv
import Derived.Lib.Strings
import Derived.Laws.BytesString
import Derived.Laws.Cells
import Derived.IntWalk

section
namespace Go.Proofs.R50
open Go.RowKit

/-- Does s begin with p? -/
def pre (p s : ByteArray) : Bool := decide (p.size ≤ s.size ∧ s.extract 0 p.size = p)
/-- The rest behind p; the empty text if s does not begin so. -/
def behind (p s : ByteArray) : ByteArray := if pre p s then s.extract p.size s.size else ByteArray.empty
/-- .. the text itself if s does not begin so. -/
def behind2 (p s : ByteArray) : ByteArray := if pre p s then s.extract p.size s.size else s

theorem pre_yes {s p : ByteArray} (h1 : p.size ≤ s.size) (h2 : s.extract 0 p.size = p) : pre p s = true := by simp [pre, h1, h2]
theorem pre_no1 {s p : ByteArray} (h1 : ¬ p.size ≤ s.size) : pre p s = false := by simp [pre, h1]
theorem pre_no2 {s p : ByteArray} (h2 : ¬ s.extract 0 p.size = p) : pre p s = false := by simp [pre, h2]

theorem toList_inj {a b : ByteArray} (h : a.toList = b.toList) : a = b := by
 rw [Lib.toList_data, Lib.toList_data] at h
 cases a; cases b
 simp at h
 subst h
 rfl
theorem str_ne {a b : ByteArray} (h : ¬ a = b) : (a.toList == b.toList) = false := by
 rw [beq_eq_false_iff_ne]
 exact fun q => h (toList_inj q)
set_option maxRecDepth 100000 in
set_option maxHeartbeats 1000000 in
theorem begins_ok (s p : ByteArray) (w : World) :
  Calls Tryz.prog 39 #[.string s, .string p] w fun e w' => e = .returned (.tuple #[.string (behind p s), .bool (pre p s)]) ∧ w' = w := by
 go_enter Tryz.func39, Tryz.ntmps39
 by_cases h1 : p.size ≤ s.size
 ·by_cases h2 : s.extract 0 p.size = p
  ·have hp := Lib.hid (pre_yes h1 h2)
   go_wp2_with fail
   go_ret2
   refine ⟨?_, rfl⟩
   rw [behind, show pre p s = true from hp]; rfl
  ·have hp := Lib.hid (pre_no2 h2)
   have h3 := str_ne h2
   clear h2
   go_wp2_with fail
   go_ret2
   refine ⟨?_, rfl⟩
   rw [behind, show pre p s = false from hp]; rfl
 ·have hp := Lib.hid (pre_no1 h1)
  go_wp2_with fail
  go_ret2
  refine ⟨?_, rfl⟩
  rw [behind, show pre p s = false from hp]; rfl

set_option maxRecDepth 100000 in
set_option maxHeartbeats 1000000 in
theorem hasPrefix_ok (s p : ByteArray) (w : World) :
  Calls Tryz.prog 89 #[.string s, .string p] w fun e w' => e = .returned (.bool (pre p s)) ∧ w' = w := by
 go_enter Tryz.func89, Tryz.ntmps89
 by_cases h1 : p.size ≤ s.size
 ·by_cases h2 : s.extract 0 p.size = p
  ·have hp := Lib.hid (pre_yes h1 h2)
   go_wp2_with fail
   go_ret
   exact ⟨by rw [show pre p s = true from hp]; rfl, rfl⟩
  ·have hp := Lib.hid (pre_no2 h2)
   have h3 := str_ne h2
   clear h2
   go_wp2_with fail
   go_ret
   exact ⟨by rw [show pre p s = false from hp]; rfl, rfl⟩
 ·have hp := Lib.hid (pre_no1 h1)
  go_wp2_with fail
  go_ret
  exact ⟨by rw [show pre p s = false from hp]; rfl, rfl⟩

set_option maxRecDepth 100000 in
set_option maxHeartbeats 1000000 in
theorem liteCutPrefix_ok (s p : ByteArray) (w : World) :
  Calls Tryz.prog 66 #[.string s, .string p] w fun e w' => e = .returned (.tuple #[.string (behind2 p s), .bool (pre p s)]) ∧ w' = w := by
 have hc := Lib.hid (hasPrefix_ok s p w)
 go_enter Tryz.func66, Tryz.ntmps66
 go_wp2_with fail
 refine Calls.mono hc ?_
 rintro e w' ⟨rfl, rfl⟩
 cases hp : pre p s with
 | true =>
  have h1 : p.size ≤ s.size := by
   have : decide (p.size ≤ s.size ∧ s.extract 0 p.size = p) = true := hp
   exact (of_decide_eq_true this).1
  have Hp := Lib.hid hp
  clear hp
  go_wp2_with fail
  go_ret2
  refine ⟨?_, rfl⟩
  rw [behind2, show pre p s = true from Hp]; rfl
 | false =>
  have Hp := Lib.hid hp
  clear hp
  go_wp2_with fail
  go_ret2
  refine ⟨?_, rfl⟩
  rw [behind2, show pre p s = false from Hp]; rfl

set_option maxRecDepth 100000 in
set_option maxHeartbeats 1000000 in
theorem cutPrefix_ok (s p : ByteArray) (w : World) :
  Calls Tryz.prog 49 #[.string s, .string p] w fun e w' => e = .returned (.tuple #[.string (behind2 p s), .bool (pre p s)]) ∧ w' = w := by
 have hc := Lib.hid (liteCutPrefix_ok s p w)
 go_enter Tryz.func49, Tryz.ntmps49
 go_wp2_with fail
 refine Calls.mono hc ?_
 rintro e w' ⟨rfl, rfl⟩
 go_wp2_with fail
 go_ret2
 exact ⟨rfl, rfl⟩
end Go.Proofs.R50
end

/- The fields of an act. -/
section
namespace Go.Proofs.R50
open Go.RowKit

def mark : Nat → ByteArray
 | 0 => ⟨#[110, 61]⟩
 | 1 => ⟨#[99, 61]⟩
 | 2 => ⟨#[116, 111, 61]⟩
 | _ => ⟨#[116, 101, 120, 116, 61]⟩
/-- Which field: 0 for none. -/
def fieldN (s : ByteArray) : Nat := if pre (mark 0) s then 1 else if pre (mark 1) s then 2 else if pre (mark 2) s then 3 else if pre (mark 3) s then 4 else 0
def fmark (s : ByteArray) : ByteArray := if fieldN s = 0 then ByteArray.empty else mark (fieldN s - 1)
def fval (s : ByteArray) : ByteArray := if fieldN s = 0 then ByteArray.empty else behind2 (mark (fieldN s - 1)) s

theorem fieldN_at {s : ByteArray} {k : Nat} (hk : k < 4) (h : pre (mark k) s = true) (hn : ∀ j, j < k → pre (mark j) s = false) : fieldN s = k + 1 := by
 rcases (by omega : k = 0 ∨ k = 1 ∨ k = 2 ∨ k = 3) with rfl | rfl | rfl | rfl
 ·simp [fieldN, h]
 ·simp [fieldN, h, hn 0 (by omega)]
 ·simp [fieldN, h, hn 0 (by omega), hn 1 (by omega)]
 ·simp [fieldN, h, hn 0 (by omega), hn 1 (by omega), hn 2 (by omega)]
theorem fieldN_none {s : ByteArray} (hn : ∀ j, j < 4 → pre (mark j) s = false) : fieldN s = 0 := by
 simp [fieldN, hn 0 (by omega), hn 1 (by omega), hn 2 (by omega), hn 3 (by omega)]

theorem index96 (k : Nat) (hk : k < 4) (w : World) : (Instr.index 96 (.agg #[.string ⟨#[110, 61]⟩, .string ⟨#[99, 61]⟩, .string ⟨#[116, 111, 61]⟩, .string ⟨#[116, 101, 120, 116, 61]⟩]) (.int .i64 k)).run Tryz.prog w = .ok (.string (mark k)) w := by
 rcases (by omega : k = 0 ∨ k = 1 ∨ k = 2 ∨ k = 3) with rfl | rfl | rfl | rfl <;> kernel_rfl

set_option maxRecDepth 100000 in
set_option maxHeartbeats 1000000 in
theorem field_ok (s : ByteArray) (w : World) :
  Calls Tryz.prog 32 #[.string s] w fun e w' => e = .returned (.tuple #[.string (fmark s), .string (fval s), .bool (!(fieldN s == 0))]) ∧ w' = w := by
 go_enter Tryz.func32, Tryz.ntmps32
 go_wp2_with fail
 go_loopw [10] (fun i wr => ∃ k : Nat, k ≤ 4 ∧ i = .int .i64 k ∧ wr = w ∧ ∀ j, j < k → pre (mark j) s = false) (fun i _ => 4 - (intOf i).toNat)
 case atStart => exact ⟨0, by omega, by go_num, rfl, fun j hj => by omega⟩
 case round =>
  obtain ⟨k, hk, rfl, rfl, hn⟩ := hrel
  have Hn := Lib.hid hn
  clear hn
  by_cases hlt : k < 4
  ·have hix := index96 k hlt wr
   have hc := Lib.hid (cutPrefix_ok s (mark k) wr)
   have hl : ((k : Nat) : Int) < 4 := by omega
   go_wp2_with fail
   refine Calls.mono hc ?_
   rintro e w' ⟨rfl, rfl⟩
   cases hp : pre (mark k) s with
   | true =>
    have Hp := Lib.hid hp
    clear hp
    go_wp2_with fail
    go_ret3
    refine ⟨?_, rfl⟩
    have e : fieldN s = k + 1 := fieldN_at hlt Hp Hn
    rw [fmark, fval, e]
    rfl
   | false =>
    have Hp := Lib.hid hp
    clear hp
    go_wp2_with fail
    go_roundw
    case rel =>
     refine ⟨k + 1, by omega, by go_num, by trivial, fun j hj => ?_⟩
     rcases Nat.lt_succ_iff_lt_or_eq.1 hj with hj | rfl
     ·exact Hn j hj
     ·exact Hp
    case measure => first | (simp [intOf]; done) | (simp [intOf]; omega)
  ·have hk4 : k = 4 := by omega
   subst hk4
   go_wp2_with fail
   go_ret3
   refine ⟨?_, rfl⟩
   have e : fieldN s = 0 := fieldN_none Hn
   rw [fmark, fval, e]
   rfl
end Go.Proofs.R50
end

/- Decimal digits, plain. -/
section
namespace Go.Proofs.R50

def dig (n : Nat) : UInt8 := UInt8.ofNat (48 + n % 10)
/-- The last k digits of N. -/
def lastD (N : Nat) : Nat → List UInt8
 | 0 => []
 | k + 1 => dig (N / 10 ^ k) :: lastD N k
def ndF : Nat → Nat → Nat
 | 0, _ => 1
 | f + 1, N => if N / 10 = 0 then 1 else 1 + ndF f (N / 10)
/-- How many digits (of a number of at most 25). -/
def nd (N : Nat) : Nat := ndF 25 N
def decN (N : Nat) : List UInt8 := lastD N (nd N)
def decI (n : Int) : List UInt8 := if n < 0 then 45 :: decN n.natAbs else decN n.natAbs

theorem lastD_len (N : Nat) : ∀ k, (lastD N k).length = k
 | 0 => rfl
 | k + 1 => by simp [lastD, lastD_len N k]

theorem ndF_eq : ∀ (f N K : Nat), 1 ≤ K → K ≤ f → N / 10 ^ K = 0 → (∀ j, 1 ≤ j → j < K → N / 10 ^ j ≠ 0) → ndF f N = K
 | 0, N, K, h1, h2, _, _ => by omega
 | f + 1, N, K, h1, h2, h3, h4 => by
  unfold ndF
  by_cases h : N / 10 = 0
  ·rw [if_pos h]
   rcases Nat.lt_or_ge 1 K with q | q
   ·exact absurd (by simpa using h) (h4 1 (Nat.le_refl _) q)
   ·omega
  ·rw [if_neg h]
   obtain ⟨K', rfl⟩ : ∃ K', K = K' + 1 := ⟨K - 1, by omega⟩
   have hK : 1 ≤ K' := by
    rcases Nat.eq_zero_or_pos K' with q | q
    ·subst q; simp at h3; omega
    ·exact q
   have e : ∀ j, N / 10 / 10 ^ j = N / 10 ^ (j + 1) := fun j => by rw [Nat.div_div_eq_div_mul, Nat.pow_succ, Nat.mul_comm]
   rw [ndF_eq f (N / 10) K' hK (by omega) (by rw [e]; exact h3) (fun j a b => by rw [e]; exact h4 (j + 1) (by omega) (by omega))]
   omega

theorem nd_eq {N K : Nat} (h1 : 1 ≤ K) (h2 : K ≤ 20) (h3 : N / 10 ^ K = 0) (h4 : ∀ j, 1 ≤ j → j < K → N / 10 ^ j ≠ 0) : nd N = K := ndF_eq 25 N K h1 (by omega) h3 h4

theorem decN_eq {N K : Nat} (h1 : 1 ≤ K) (h2 : K ≤ 20) (h3 : N / 10 ^ K = 0) (h4 : ∀ j, 1 ≤ j → j < K → N / 10 ^ j ≠ 0) : decN N = lastD N K := by
 rw [decN, nd_eq h1 h2 h3 h4]

theorem ndF_pos : ∀ f N, 1 ≤ ndF f N
 | 0, _ => Nat.le_refl _
 | f + 1, N => by unfold ndF; split <;> omega
theorem ndF_le : ∀ (f K N : Nat), N < 10 ^ (K + 1) → ndF f N ≤ K + 1
 | 0, K, N, _ => by unfold ndF; omega
 | f + 1, 0, N, h => by
  unfold ndF
  have : N / 10 = 0 := by simp at h; omega
  rw [if_pos this]
  omega
 | f + 1, K + 1, N, h => by
  unfold ndF
  split
  ·omega
  ·have : N / 10 < 10 ^ (K + 1) := by
    rw [Nat.div_lt_iff_lt_mul (by decide)]
    rwa [Nat.pow_succ] at h
   have := ndF_le f K (N / 10) this
   omega
theorem decN_len {N : Nat} : (decN N).length = nd N := lastD_len N _
theorem decN_pos (N : Nat) : 1 ≤ (decN N).length := by rw [decN_len]; exact ndF_pos _ _
theorem decN_le {N K : Nat} (h : N < 10 ^ (K + 1)) : (decN N).length ≤ K + 1 := by rw [decN_len]; exact ndF_le _ _ _ h
theorem decI_len {n : Int} (h : n.natAbs ≤ 1000000000000) : 1 ≤ (decI n).length ∧ (decI n).length ≤ (if n < 0 then 14 else 13) := by
 have h1 := decN_pos n.natAbs
 have h2 := decN_le (N := n.natAbs) (K := 12) (by omega)
 unfold decI
 split
 ·simp only [List.length_cons]; omega
 ·omega
end Go.Proofs.R50
end

/- R01.Text. -/
section
namespace Go.Proofs.R50
open Go.RowKit Go.Abs

def bytesI (ns : List Int) : ByteArray := ⟨(ns.map fun n => UInt8.ofNat n.toNat).toArray⟩

theorem foldl_push : ∀ (ns : List Int) (s : ByteArray), ns.foldl (fun r n => r.push (UInt8.ofNat n.toNat)) s = ⟨s.data ++ (ns.map fun n => UInt8.ofNat n.toNat).toArray⟩
 | [], s => by cases s; simp
 | n :: ns, s => by
  rw [List.foldl_cons, foldl_push ns]
  cases s
  simp [ByteArray.push]

theorem conv_bytes {w : World} {a : Addr} {ns : List Int} (cap : Nat) (h : ∀ j z, ns[j]? = some z → w.cell? (a.add j) = some (.int .u8 z)) :
  (convert 78 9 (.slice (some a) ns.length cap)).run Tryz.prog w = .ok (.string (bytesI ns)) w := by
 rw [run_convert_bytes_string w 78 9 5 _ _ _ Tryz.underlying78 Tryz.underlying5 Tryz.underlying9]
 have hl := run_loadCells_list (P := Tryz.prog) (w := w) a (ns.map (Value.int .u8)) (fun j v hv => by
  rw [List.getElem?_map] at hv
  cases hz : ns[j]? with
  | none => rw [hz] at hv; cases hv
  | some z => rw [hz] at hv; cases hv; exact h j z hz)
 rw [List.length_map] at hl
 rw [run_bytesToString w a ns.length cap ns hl, foldl_push]
 simp [bytesI]

theorem conv_one (w : World) (t : TypeId) (z : Int) (cap : Nat) : (convert 78 9 (.slice (some ⟨w.heap.size, 0, none⟩) 1 cap)).run Tryz.prog (w.alloc (.cells #[.int .u8 z] t)) = .ok (.string (bytesI [z])) (w.alloc (.cells #[.int .u8 z] t)) :=
 conv_bytes (ns := [z]) cap fun j x hx => by
  cases j with
  | succ j => simp at hx
  | zero =>
   simp at hx
   subst hx
   exact (cell_of_heap (heap_alloc_at _ _)).trans rfl

theorem bytes_dig (M : Nat) : bytesI [48 + (M : Int) % 10] = ⟨#[dig M]⟩ := by
 have : (48 + (M : Int) % 10).toNat = 48 + M % 10 := by omega
 simp only [bytesI, List.map_cons, List.map_nil, this, dig]

theorem cat_str (a b : List UInt8) : (⟨a.toArray⟩ ++ ⟨b.toArray⟩ : ByteArray) = ⟨(a ++ b).toArray⟩ := by
 apply ByteArray.ext
 rw [ByteArray.data_append]
 simp

theorem decI_pos {M k : Nat} (h1 : 1 ≤ k) (h2 : k ≤ 20) (hQ : 0 = M / 10 ^ k) (h3 : ∀ j, 1 ≤ j → j < k → M / 10 ^ j ≠ 0) : decI (M : Int) = lastD M k := by
 rw [← decN_eq h1 h2 hQ.symm h3]
 unfold decI
 rw [if_neg (by omega), Int.natAbs_natCast]
theorem decI_neg {M k : Nat} (h1 : 1 ≤ k) (h2 : k ≤ 20) (hQ : 0 = M / 10 ^ k) (h3 : ∀ j, 1 ≤ j → j < k → M / 10 ^ j ≠ 0) (hM : 0 < M) : decI (-(M : Int)) = 45 :: lastD M k := by
 rw [← decN_eq h1 h2 hQ.symm h3]
 unfold decI
 rw [if_pos (by omega), Int.natAbs_neg, Int.natAbs_natCast]

set_option maxRecDepth 100000 in
set_option maxHeartbeats 1000000 in
theorem rText_ok (n : Int) (hn : -9223372036854775808 ≤ n ∧ n ≤ 9223372036854775807) (w : World) :
  Calls Tryz.prog 22 #[.int .i64 n] w fun e w' => e = .returned (.string ⟨(decI n).toArray⟩) ∧ Below w.heap.size w w' := by
 have hcv := conv_one w 5 (48 + (n.natAbs : Int) % 10) 1
 go_enter Tryz.func22, Tryz.ntmps22
 by_cases h : 0 < n
 ·obtain ⟨M, rfl⟩ : ∃ M : Nat, n = (M : Int) := ⟨n.natAbs, by omega⟩
  rw [Int.natAbs_natCast] at hcv
  go_wp2_with fail
  have hb0 := Lib.hid ((Below.refl w.heap.size w).alloc (Nat.le_refl _) (.cells #[.int .u8 (48 + (M : Int) % 10)] 5))
  clear hcv
  go_loopw [3, 4] (fun m s wr => ∃ (k Q : Nat), m = .int .i64 (-(Q : Int)) ∧ s = .string ⟨(lastD M k).toArray⟩ ∧ Q = M / 10 ^ k ∧ 1 ≤ k ∧ k ≤ 20 ∧ (∀ j, 1 ≤ j → j < k → M / 10 ^ j ≠ 0) ∧ Below w.heap.size w wr) (fun m _ _ => (intOf m).natAbs)
  case atStart => exact ⟨1, M / 10, by simp, by rw [bytes_dig]; simp [lastD], by simp, by omega, by omega, fun j a b => by omega, hb0⟩
  case round =>
   obtain ⟨k, Q, rfl, rfl, hQ, h1, h2, h3, q⟩ := hrel
   have H3 := Lib.hid h3
   have HQ := Lib.hid hQ
   have Hq := Lib.hid q
   clear h3 hQ q hb0
   by_cases hz : Q = 0
   ·subst hz
    go_wp2_with fail
    go_ret
    exact ⟨by rw [decI_pos h1 h2 HQ H3]; rfl, Hq⟩
   ·have hcv := conv_one wr 5 (48 + (Q : Int) % 10) 1
    have hQ2 : (Q : Int) ≤ 9223372036854775808 := by
     have : Q ≤ M := by rw [(HQ : Q = _)]; exact Nat.div_le_self _ _
     omega
    have hz2 : ¬ (Q : Int) = 0 := by omega
    have hsz : ¬ 9223372036854775807 < (bytesI [48 + (Q : Int) % 10]).size + (lastD M k).length := by rw [lastD_len, bytes_dig]; show ¬ _ < 1 + k; omega
    have hk : k < 20 := by
     rcases Nat.lt_or_ge k 20 with q | q
     ·exact q
     ·exfalso
      have e : k = 20 := by omega
      subst e
      apply hz
      rw [(HQ : Q = _)]
      exact Nat.div_eq_of_lt (by omega)
    go_wp2_with fail
    go_roundw
    case rel =>
     refine ⟨k + 1, Q / 10, by simp, ?_, ?_, by omega, by omega, fun j a b => ?_, (Hq : Below _ _ _).alloc (Below.size Hq) _⟩
     ·rw [bytes_dig]
      have : dig Q = dig (M / 10 ^ k) := by rw [(HQ : Q = _)]
      rw [this]
      rfl
     ·rw [(HQ : Q = _), Nat.div_div_eq_div_mul, Nat.pow_succ]
     ·rcases Nat.lt_succ_iff_lt_or_eq.1 b with b | rfl
      ·exact H3 j a b
      ·intro e; exact hz (HQ.trans e)
    case measure =>
     simp [intOf]
     omega
 ·obtain ⟨M, rfl⟩ : ∃ M : Nat, n = -(M : Int) := ⟨n.natAbs, by omega⟩
  rw [Int.natAbs_neg, Int.natAbs_natCast] at hcv
  go_wp2_with fail
  have hb0 := Lib.hid ((Below.refl w.heap.size w).alloc (Nat.le_refl _) (.cells #[.int .u8 (48 + (M : Int) % 10)] 5))
  clear hcv
  go_loopw [3, 4] (fun m s wr => ∃ (k Q : Nat), m = .int .i64 (-(Q : Int)) ∧ s = .string ⟨(lastD M k).toArray⟩ ∧ Q = M / 10 ^ k ∧ 1 ≤ k ∧ k ≤ 20 ∧ (∀ j, 1 ≤ j → j < k → M / 10 ^ j ≠ 0) ∧ Below w.heap.size w wr) (fun m _ _ => (intOf m).natAbs)
  case atStart => exact ⟨1, M / 10, by simp, by rw [bytes_dig]; simp [lastD], by simp, by omega, by omega, fun j a b => by omega, hb0⟩
  case round =>
   obtain ⟨k, Q, rfl, rfl, hQ, h1, h2, h3, q⟩ := hrel
   have H3 := Lib.hid h3
   have HQ := Lib.hid hQ
   have Hq := Lib.hid q
   clear h3 hQ q hb0
   by_cases hz : Q = 0
   ·subst hz
    by_cases hM : 0 < M
    ·have hm2 : -(M : Int) < 0 := by omega
     have hsz : ¬ 9223372036854775807 < 1 + (lastD M k).length := by rw [lastD_len]; omega
     go_wp2_with fail
     go_ret
     exact ⟨by rw [decI_neg h1 h2 HQ H3 hM, show (45 :: lastD M k) = [45] ++ lastD M k from rfl, ← cat_str]; rfl, Hq⟩
    ·obtain rfl : M = 0 := by omega
     go_wp2_with fail
     go_ret
     exact ⟨by rw [show -((0 : Nat) : Int) = ((0 : Nat) : Int) from rfl, decI_pos h1 h2 HQ H3]; rfl, Hq⟩
   ·have hcv := conv_one wr 5 (48 + (Q : Int) % 10) 1
    have hQ2 : (Q : Int) ≤ 9223372036854775808 := by
     have : Q ≤ M := by rw [(HQ : Q = _)]; exact Nat.div_le_self _ _
     omega
    have hz2 : ¬ (Q : Int) = 0 := by omega
    have hsz : ¬ 9223372036854775807 < (bytesI [48 + (Q : Int) % 10]).size + (lastD M k).length := by rw [lastD_len, bytes_dig]; show ¬ _ < 1 + k; omega
    have hk : k < 20 := by
     rcases Nat.lt_or_ge k 20 with q | q
     ·exact q
     ·exfalso
      have e : k = 20 := by omega
      subst e
      apply hz
      rw [(HQ : Q = _)]
      exact Nat.div_eq_of_lt (by omega)
    go_wp2_with fail
    go_roundw
    case rel =>
     refine ⟨k + 1, Q / 10, by simp, ?_, ?_, by omega, by omega, fun j a b => ?_, (Hq : Below _ _ _).alloc (Below.size Hq) _⟩
     ·rw [bytes_dig]
      have : dig Q = dig (M / 10 ^ k) := by rw [(HQ : Q = _)]
      rw [this]
      rfl
     ·rw [(HQ : Q = _), Nat.div_div_eq_div_mul, Nat.pow_succ]
     ·rcases Nat.lt_succ_iff_lt_or_eq.1 b with b | rfl
      ·exact H3 j a b
      ·intro e; exact hz (HQ.trans e)
    case measure =>
     simp [intOf]
     omega
end Go.Proofs.R50
end

/- num.Text. -/
section
namespace Go.Proofs.R50
open Go.RowKit Go.Abs

/-- The twenty bytes when k digits are written. -/
def cellsD (M f k : Nat) : Array Value := (List.replicate f (Value.int .u8 0) ++ (lastD M k).map fun b => Value.int .u8 b.toNat).toArray

theorem dig_nat (Q : Nat) : (dig Q).toNat = 48 + Q % 10 := by
 unfold dig
 rw [UInt8.toNat_ofNat']
 omega

theorem cellsD_at (M f k : Nat) : (cellsD M (f + 1) k)[f]? = some (.int .u8 0) := by
 rw [cellsD, List.getElem?_toArray, List.getElem?_append_left (by simp)]
 simp

theorem cellsD_set (M f k Q : Nat) (hQ : Q = M / 10 ^ k) : (cellsD M (f + 1) k).setIfInBounds f (.int .u8 (48 + (Q : Int) % 10)) = cellsD M f (k + 1) := by
 apply Array.ext'
 have e : (48 + (Q : Int) % 10) = ((dig Q).toNat : Int) := by rw [dig_nat]; omega
 rw [Array.toList_setIfInBounds]
 simp only [cellsD, List.replicate_succ', List.append_assoc, lastD, List.map_cons]
 rw [List.set_append_right _ _ (by simp)]
 simp [e, ← hQ]

theorem cellsD_digit (M f k j : Nat) (z : Int) (h : ((lastD M k).map fun b => (b.toNat : Int))[j]? = some z) : (cellsD M f k)[f + j]? = some (.int .u8 z) := by
 rw [List.getElem?_map] at h
 cases hb : (lastD M k)[j]? with
 | none => rw [hb] at h; cases h
 | some b =>
  rw [hb] at h
  cases h
  rw [cellsD, List.getElem?_toArray, List.getElem?_append_right (by simp)]
  simp [hb]

theorem bytesI_nat (l : List UInt8) : bytesI (l.map fun b => (b.toNat : Int)) = ⟨l.toArray⟩ := by
 simp only [bytesI, List.map_map]
 congr 2
 conv => rhs; rw [← List.map_id l]
 apply List.map_congr_left
 intro b _
 simp

theorem add_at (b o j : Nat) : (⟨b, o, none⟩ : Addr).add j = ⟨b, o + j, none⟩ := by
 unfold Addr.add
 split
 ·subst_vars; rfl
 ·rfl

theorem slice77 (g p : Nat) (hp : p < 20) (w : World) : (Instr.sliceAt 77 (.pointer (some ⟨g, 0, none⟩)) (some (.int .i64 (p : Int))) none none).run Tryz.prog w = .ok (.slice (some ⟨g, p, none⟩) (20 - p) (20 - p)) w := by
 have hs : (sizeOf 5).run Tryz.prog w = .ok 1 w := by kernel_rfl
 have hal : Tryz.prog.arrayLen 77 = 20 := by kernel_rfl
 have hel : Tryz.prog.elem 77 = 5 := by kernel_rfl
 have h := run_sliceAt_array_l (P := Tryz.prog) w 77 ⟨g, 0, none⟩ (by rw [hal, hel]; exact Tryz.underlying77) .i64 (p : Int) (by omega) (by rw [hal]; omega)
 rw [h, hal, hel, hs]
 have e : ¬ (20 = p) := by omega
 simp [Result.andThen, slicedAt, e, Addr.add]
 exact fun h => h.symm

theorem uneg (M : Nat) (h1 : 0 < M) (h2 : (M : Int) ≤ 9223372036854775808) : IntKind.u64.wrap (-IntKind.u64.wrap (-(M : Int))) = (M : Int) := by
 rw [IntKind.wrap_u64, IntKind.wrap_u64]
 omega

set_option maxRecDepth 100000 in
set_option maxHeartbeats 1000000 in
theorem text_ok (n : Int) (hn : -9223372036854775808 ≤ n ∧ n ≤ 9223372036854775807) (w : World) :
  Calls Tryz.prog 19 #[.int .i64 n] w fun e w' => e = .returned (.string ⟨(decI n).toArray⟩) ∧ Below w.heap.size w w' := by
 go_enter Tryz.func19, Tryz.ntmps19
 by_cases h : n < 0
 ·obtain ⟨M, rfl⟩ : ∃ M : Nat, n = -(M : Int) := ⟨n.natAbs, by omega⟩
  have hM : 0 < M := by omega
  have hun := uneg M hM (by omega)
  go_wp2_with fail
  have hw0 := Lib.hid (Whole.new w 77 (cellsD M 20 0))
  have hb0 := Lib.hid ((Below.refl w.heap.size w).alloc (Nat.le_refl _) (.cells (cellsD M 20 0) 77))
  go_loopw [3, 5, 13] (fun u f i wr => ∃ (k p Q : Nat), p + k = 20 ∧ u = .int .u64 (Q : Int) ∧ f = .int .i64 (p : Int) ∧ i = .int .i64 (k : Int) ∧ Q = M / 10 ^ k ∧ (∀ j, 1 ≤ j → j ≤ k → M / 10 ^ j ≠ 0) ∧ Whole wr w.heap.size 77 (cellsD M p k) ∧ Below w.heap.size w wr) (fun _ _ i _ => 20 - (intOf i).toNat)
  case atStart => exact ⟨0, 20, M, rfl, rfl, rfl, rfl, by simp, fun j a b => by omega, hw0, hb0⟩
  case round =>
   obtain ⟨k, p, Q, hpk, rfl, rfl, rfl, hQ, h3, hW, q⟩ := hrel
   have H3 := Lib.hid h3
   have HQ := Lib.hid hQ
   have Hq := Lib.hid q
   have HW := Lib.hid hW
   clear h3 hQ q hb0 hw0 hW
   by_cases hk : k < 20
   ·obtain ⟨p, rfl⟩ : ∃ p', p = p' + 1 := ⟨p - 1, by omega⟩
    have hfz := Whole.free HW p
    have hc : wr.cell? ⟨w.heap.size, p, none⟩ = some (.int .u8 0) := (Whole.cell HW p).trans (cellsD_at M p k)
    have hQ2 : (Q : Int) ≤ 9223372036854775808 := by
     have : Q ≤ M := by rw [(HQ : Q = _)]; exact Nat.div_le_self _ _
     omega
    have hlk : ((k : Nat) : Int) < 20 := by omega
    have hW2 : Whole (wr.setCell ⟨w.heap.size, p, none⟩ (.int .u8 (48 + (Q : Int) % 10))) w.heap.size 77 (cellsD M p (k + 1)) := by
     have := Whole.put HW p (.int .u8 (48 + (Q : Int) % 10))
     rwa [cellsD_set M p k Q HQ] at this
    have Hb := Lib.hid (Below.setCell Hq (p := ⟨w.heap.size, p, none⟩) (Nat.le_refl _) (.int .u8 (48 + (Q : Int) % 10)))
    have hQ10 : Q / 10 = M / 10 ^ (k + 1) := by rw [(HQ : Q = _), Nat.div_div_eq_div_mul, Nat.pow_succ]
    have HQ10 := Lib.hid hQ10
    by_cases hz : Q / 10 = 0
    ·have hz2 : (Q : Int) / 10 = 0 := by omega
     have hsl := slice77 w.heap.size p (by omega) (wr.setCell ⟨w.heap.size, p, none⟩ (.int .u8 (48 + (Q : Int) % 10)))
     have hcv := conv_bytes (w := wr.setCell ⟨w.heap.size, p, none⟩ (.int .u8 (48 + (Q : Int) % 10))) (a := ⟨w.heap.size, p, none⟩) (ns := (lastD M (k + 1)).map fun b => (b.toNat : Int)) (20 - p) (fun j z hz => by
      rw [add_at]
      exact (Whole.cell hW2 (p + j)).trans (cellsD_digit M p (k + 1) j z hz))
     rw [List.length_map, lastD_len, bytesI_nat, show k + 1 = 20 - p by omega] at hcv
     have hkp : 20 - p = k + 1 := by omega
     rw [hkp] at hcv hsl
     have h1 : 1 ≤ k + 1 := by omega
     have h2 : k + 1 ≤ 20 := by omega
     have HQe : Hid (0 = M / 10 ^ (k + 1)) := by rw [← hQ10]; exact hz.symm
     have H3e : Hid (∀ j, 1 ≤ j → j < k + 1 → M / 10 ^ j ≠ 0) := fun j a b => H3 j a (by omega)
     clear hkp
     have hsz : ¬ 9223372036854775807 < 1 + (lastD M (k + 1)).length := by rw [lastD_len]; omega
     have hm2 : -(M : Int) < 0 := by omega
     clear hW2 hQ10 hz
     go_wp2_with fail
     go_ret
     exact ⟨by rw [decI_neg h1 h2 HQe H3e hM, show (45 :: lastD M (k + 1)) = [45] ++ lastD M (k + 1) from rfl, ← cat_str]; rfl, Hb⟩
    ·have hz2 : ¬ (Q : Int) / 10 = 0 := by omega
     have HW2 := Lib.hid hW2
     have HH : Hid (∀ j, 1 ≤ j → j ≤ k + 1 → M / 10 ^ j ≠ 0) := fun j a b => by
      rcases Nat.lt_or_ge j (k + 1) with c | c
      ·exact H3 j a (by omega)
      ·obtain rfl : j = k + 1 := by omega
       rw [← (HQ10 : Q / 10 = _)]
       exact hz
     clear hW2 hQ10
     go_wp2_with fail
     refine ⟨⟨k + 1, p, Q / 10, by omega, by simp, rfl, by go_num, HQ10, HH, HW2, Hb⟩, ?_⟩
     simp [intOf]
     omega
   ·exfalso
    obtain rfl : k = 20 := by omega
    exact H3 20 (by omega) (by omega) (Nat.div_eq_of_lt (by omega))
 ·obtain ⟨M, rfl⟩ : ∃ M : Nat, n = (M : Int) := ⟨n.natAbs, by omega⟩
  go_wp2_with fail
  have hw0 := Lib.hid (Whole.new w 77 (cellsD M 20 0))
  have hb0 := Lib.hid ((Below.refl w.heap.size w).alloc (Nat.le_refl _) (.cells (cellsD M 20 0) 77))
  go_loopw [3, 5, 13] (fun u f i wr => ∃ (k p Q : Nat), p + k = 20 ∧ u = .int .u64 (Q : Int) ∧ f = .int .i64 (p : Int) ∧ i = .int .i64 (k : Int) ∧ Q = M / 10 ^ k ∧ (∀ j, 1 ≤ j → j ≤ k → M / 10 ^ j ≠ 0) ∧ Whole wr w.heap.size 77 (cellsD M p k) ∧ Below w.heap.size w wr) (fun _ _ i _ => 20 - (intOf i).toNat)
  case atStart => exact ⟨0, 20, M, rfl, rfl, rfl, rfl, by simp, fun j a b => by omega, hw0, hb0⟩
  case round =>
   obtain ⟨k, p, Q, hpk, rfl, rfl, rfl, hQ, h3, hW, q⟩ := hrel
   have H3 := Lib.hid h3
   have HQ := Lib.hid hQ
   have Hq := Lib.hid q
   have HW := Lib.hid hW
   clear h3 hQ q hb0 hw0 hW
   by_cases hk : k < 20
   ·obtain ⟨p, rfl⟩ : ∃ p', p = p' + 1 := ⟨p - 1, by omega⟩
    have hfz := Whole.free HW p
    have hc : wr.cell? ⟨w.heap.size, p, none⟩ = some (.int .u8 0) := (Whole.cell HW p).trans (cellsD_at M p k)
    have hQ2 : (Q : Int) ≤ 9223372036854775808 := by
     have : Q ≤ M := by rw [(HQ : Q = _)]; exact Nat.div_le_self _ _
     omega
    have hlk : ((k : Nat) : Int) < 20 := by omega
    have hW2 : Whole (wr.setCell ⟨w.heap.size, p, none⟩ (.int .u8 (48 + (Q : Int) % 10))) w.heap.size 77 (cellsD M p (k + 1)) := by
     have := Whole.put HW p (.int .u8 (48 + (Q : Int) % 10))
     rwa [cellsD_set M p k Q HQ] at this
    have Hb := Lib.hid (Below.setCell Hq (p := ⟨w.heap.size, p, none⟩) (Nat.le_refl _) (.int .u8 (48 + (Q : Int) % 10)))
    have hQ10 : Q / 10 = M / 10 ^ (k + 1) := by rw [(HQ : Q = _), Nat.div_div_eq_div_mul, Nat.pow_succ]
    have HQ10 := Lib.hid hQ10
    by_cases hz : Q / 10 = 0
    ·have hz2 : (Q : Int) / 10 = 0 := by omega
     have hsl := slice77 w.heap.size p (by omega) (wr.setCell ⟨w.heap.size, p, none⟩ (.int .u8 (48 + (Q : Int) % 10)))
     have hcv := conv_bytes (w := wr.setCell ⟨w.heap.size, p, none⟩ (.int .u8 (48 + (Q : Int) % 10))) (a := ⟨w.heap.size, p, none⟩) (ns := (lastD M (k + 1)).map fun b => (b.toNat : Int)) (20 - p) (fun j z hz => by
      rw [add_at]
      exact (Whole.cell hW2 (p + j)).trans (cellsD_digit M p (k + 1) j z hz))
     rw [List.length_map, lastD_len, bytesI_nat, show k + 1 = 20 - p by omega] at hcv
     have hkp : 20 - p = k + 1 := by omega
     rw [hkp] at hcv hsl
     have h1 : 1 ≤ k + 1 := by omega
     have h2 : k + 1 ≤ 20 := by omega
     have HQe : Hid (0 = M / 10 ^ (k + 1)) := by rw [← hQ10]; exact hz.symm
     have H3e : Hid (∀ j, 1 ≤ j → j < k + 1 → M / 10 ^ j ≠ 0) := fun j a b => H3 j a (by omega)
     clear hkp
     clear hW2 hQ10 hz
     go_wp2_with fail
     go_ret
     exact ⟨by rw [decI_pos h1 h2 HQe H3e]; rfl, Hb⟩
    ·have hz2 : ¬ (Q : Int) / 10 = 0 := by omega
     have HW2 := Lib.hid hW2
     have HH : Hid (∀ j, 1 ≤ j → j ≤ k + 1 → M / 10 ^ j ≠ 0) := fun j a b => by
      rcases Nat.lt_or_ge j (k + 1) with c | c
      ·exact H3 j a (by omega)
      ·obtain rfl : j = k + 1 := by omega
       rw [← (HQ10 : Q / 10 = _)]
       exact hz
     clear hW2 hQ10
     go_wp2_with fail
     refine ⟨⟨k + 1, p, Q / 10, by omega, by simp, rfl, by go_num, HQ10, HH, HW2, Hb⟩, ?_⟩
     simp [intOf]
     omega
   ·exfalso
    obtain rfl : k = 20 := by omega
    exact H3 20 (by omega) (by omega) (Nat.div_eq_of_lt (by omega))
end Go.Proofs.R50
end

/- Decimal numbers read. -/
section
namespace Go.Proofs.R50
open Go.RowKit Go.Abs

def isD (b : UInt8) : Bool := decide (48 ≤ b.toNat ∧ b.toNat ≤ 57)
def body : List UInt8 → List UInt8
 | [] => []
 | b :: r => if b = 45 then r else b :: r
def valN (l : List UInt8) : Nat := l.foldl (fun a b => 10 * a + (b.toNat - 48)) 0
def numV (l : List UInt8) : Int := if l.head? = some 45 then -(valN (body l) : Int) else valN (body l)
/-- The number of a text. -/
def numP (l : List UInt8) : Option Int := if (body l).all isD = true ∧ (numV l).natAbs ≤ 1000000000000 ∧ decI (numV l) = l then some (numV l) else none

theorem valN_snoc (l : List UInt8) (b : UInt8) : valN (l ++ [b]) = 10 * valN l + (b.toNat - 48) := by simp [valN]
theorem valN_le : ∀ (n : Nat) (l : List UInt8), l.length = n → l.all isD = true → valN l < 10 ^ n
 | 0, l, h, _ => by
  have : l = [] := List.eq_nil_of_length_eq_zero h
  subst this
  simp [valN]
 | n + 1, l, h, hd => by
  obtain ⟨l', b, rfl⟩ : ∃ l' b, l = l' ++ [b] := ⟨l.dropLast, l.getLast (by intro e; subst e; simp at h), (List.dropLast_concat_getLast _).symm⟩
  simp only [List.length_append, List.length_cons, List.length_nil] at h
  simp only [List.all_append, List.all_cons, List.all_nil, Bool.and_true, Bool.and_eq_true] at hd
  have := valN_le n l' (by omega) hd.1
  rw [valN_snoc, Nat.pow_succ]
  have hb : b.toNat ≤ 57 := (of_decide_eq_true hd.2).2
  omega
theorem body_len : ∀ l : List UInt8, (body l).length ≤ l.length
 | [] => Nat.le_refl _
 | b :: r => by
  show (if b = 45 then r else b :: r).length ≤ _
  split <;> simp
theorem body_minus {l : List UInt8} (h : l[0]? = some 45) : body (l.take 1) = [] := by
 cases l with
 | nil => simp at h
 | cons b r => simp at h; subst h; simp [body]
theorem body_snoc {l : List UInt8} {k : Nat} {b : UInt8} (hb : l[k]? = some b) (h : ¬ (k = 0 ∧ b = 45)) : body (l.take (k + 1)) = body (l.take k) ++ [b] := by
 obtain ⟨hk, e⟩ := List.getElem?_eq_some_iff.1 hb
 rw [List.take_succ_eq_append_getElem hk, e]
 cases k with
 | zero =>
  have : ¬ b = 45 := fun q => h ⟨rfl, q⟩
  simp [body, this]
 | succ k =>
  cases l with
  | nil => simp at hk
  | cons a r =>
   simp only [List.take_succ_cons, List.cons_append, body]
   split <;> rfl
theorem numP_none_of {l : List UInt8} (h : ¬ (1 ≤ l.length ∧ l.length ≤ 14)) : numP l = none := by
 unfold numP
 rw [if_neg]
 rintro ⟨_, h2, h3⟩
 have := decI_len h2
 rw [h3] at this
 split at this <;> omega

set_option maxRecDepth 100000 in
set_option maxHeartbeats 1000000 in
theorem within_ok (n : Int) (w : World) :
  Calls Tryz.prog 67 #[.int .i64 n] w fun e w' => e = .returned (.bool (decide (n.natAbs ≤ 1000000000000))) ∧ Below w.heap.size w w' := by
 have hb : Below w.heap.size w (w.alloc (.cells #[.int .i64 (-1000000000000), .int .i64 1000000000000] 3)) := (Below.refl w.heap.size w).alloc (Nat.le_refl _) _
 have Hb := Lib.hid hb
 have c0 : (w.alloc (.cells #[.int .i64 (-1000000000000), .int .i64 1000000000000] 3)).cell? ⟨w.heap.size, 0, none⟩ = some (.int .i64 (-1000000000000)) := (cell_of_heap (heap_alloc_at _ _)).trans rfl
 have c1 : (w.alloc (.cells #[.int .i64 (-1000000000000), .int .i64 1000000000000] 3)).cell? ⟨w.heap.size, 1, none⟩ = some (.int .i64 1000000000000) := (cell_of_heap (heap_alloc_at _ _)).trans rfl
 clear hb
 go_enter Tryz.func67, Tryz.ntmps67
 go_wp2_with fail
 go_loopw [7] (fun i wr => ∃ k : Nat, k ≤ 2 ∧ i = .int .i64 k ∧ wr = w.alloc (.cells #[.int .i64 (-1000000000000), .int .i64 1000000000000] 3) ∧ (1 ≤ k → -1000000000000 ≤ n) ∧ (2 ≤ k → n ≤ 1000000000000)) (fun i _ => 2 - (intOf i).toNat)
 case atStart => exact ⟨0, by omega, by go_num, rfl, fun h => by omega, fun h => by omega⟩
 case round =>
  obtain ⟨k, hk, rfl, rfl, h1, h2⟩ := hrel
  rcases (by omega : k = 0 ∨ k = 1 ∨ k = 2) with rfl | rfl | rfl
  ·rw [show ((0 : Nat) : Int) = 0 from rfl]
   clear h1 h2
   by_cases hlo : n < -1000000000000
   ·go_wp2_with fail
    go_ret
    exact ⟨by rw [decide_eq_false (by omega)]; rfl, Hb⟩
   ·go_wp2_with fail
    go_roundw
    case rel => exact ⟨1, by omega, by go_num, by trivial, fun _ => by omega, fun h => by omega⟩
    case measure => first | (simp [intOf]; done) | (simp [intOf]; omega)
  ·rw [show ((1 : Nat) : Int) = 1 from rfl]
   have h1 := h1 (by omega)
   clear h2
   by_cases hhi : 1000000000000 < n
   ·go_wp2_with fail
    go_ret
    exact ⟨by rw [decide_eq_false (by omega)]; rfl, Hb⟩
   ·go_wp2_with fail
    go_roundw
    case rel => exact ⟨2, by omega, by go_num, by trivial, fun _ => h1, fun _ => by omega⟩
    case measure => first | (simp [intOf]; done) | (simp [intOf]; omega)
  ·have h1 := h1 (by omega)
   have h2 := h2 (by omega)
   go_wp2_with fail
   go_ret
   exact ⟨by rw [decide_eq_true (by omega)]; rfl, Hb⟩
end Go.Proofs.R50
end
