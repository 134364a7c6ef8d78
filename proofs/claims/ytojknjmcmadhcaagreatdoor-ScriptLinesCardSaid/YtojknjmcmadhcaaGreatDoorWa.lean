/- begins and plain of the law; sums.Hex, R04.Hex. -/
import Derived.Test.YtojknjmcmadhcaaGreatDoorCl
import Derived.Test.YtojknjmcmadhcaaGreatDoorBs

section
namespace Go.Proofs.R50
open Go.ChangeShapes Go.WideShapes Go.ChangeAt Go.RowKit

set_option maxRecDepth 100000 in
set_option maxHeartbeats 1000000 in
theorem lbegins_ok (s p : ByteArray) (w : World) :
  Calls Tryz.prog 18 #[.string s, .string p] w fun e w' => e = .returned (.bool (pre p s)) ∧ w' = w := by
 go_enter Tryz.func18, Tryz.ntmps18
 by_cases h1 : p.size ≤ s.size
 ·by_cases h2 : s.extract 0 p.size = p
  ·have hp := Lib.hid (pre_yes h1 h2)
   go_wp2_with fail
   go_ret
   exact ⟨by rw [(hp : _ = _)]; rfl, rfl⟩
  ·have hp := Lib.hid (pre_no2 h2)
   have h3 := str_ne h2
   clear h2
   go_wp2_with fail
   go_ret
   exact ⟨by rw [(hp : _ = _)]; rfl, rfl⟩
 ·have hp := Lib.hid (pre_no1 h1)
  go_wp2_with fail
  go_ret
  exact ⟨by rw [(hp : _ = _)]; rfl, rfl⟩

/-- Can a text be a name in a script? -/
def plainB (s : ByteArray) : Bool := decide ((32 : UInt8) ∉ s.data.toList) && decide ((10 : UInt8) ∉ s.data.toList) && decide (s ≠ ⟨#[]⟩) && !(s.data.toList[0]? == some 35) && decide (fieldN s = 0)
theorem lastH_cons (N k : Nat) : lastH N (k + 1) = hexC (N / 16 ^ k) :: lastH N k := rfl
theorem list_store79N {ops : Array Oper} {rest : List Oper} {a : Act} {w : World} {Q : Exit → Act → World → Prop} {dst : Option Tmp} {x y : Operand} {ty : TypeId} {ps : String} {af : Array Edge}
  (g : Nat) (old cs : Array Value) (hw : Hid (Whole w g 79 old)) (ho : Hid (old.size = 16)) (hl : Hid (cs.size = 16)) (h1 : Hid (cs.all (·.oneCell') = true)) {t : TypeId} {gd : Option (Tmp × Bool)} (ht : t = 79) (hg : gd = none) (hx : a.eval x = .pointer (some ⟨g, 0, none⟩)) (hy : a.eval y = .agg cs)
  (h : ∀ w', Whole w' g 79 cs → w.grownBy w' (some g) → wpList Tryz.prog ops Q rest (a.put dst undef) w') :
  wpList Tryz.prog ops Q ({ dst := dst, op := .store t x y, type := ty, pos := ps, after := af, guard := gd } :: rest) a w := by
 have hw' : Whole w g 79 old := hw
 have ho' : old.size = 16 := ho
 have hl' : cs.size = 16 := hl
 refine list_store79 g 0 cs (show Hid _ from ?_) ht hg hl h1 hx hy ?_
 ·show w.there g 0 cs.size
  rw [hl', ← ho']
  exact hw'.there
 ·exact h _ (Whole.fillAll hw' (by rw [hl', ho'])) (setCells_off _ _ _ _ _ (World.grownBy.refl w _) (.inr rfl))

set_option maxRecDepth 100000 in
set_option maxHeartbeats 1000000 in
theorem hex_ok (n : Int) (w : World) : Calls Tryz.prog 20 #[.int .i64 n] w fun e w' => e = .returned (.string ⟨(hexL (m62 n)).toArray⟩) ∧ Below w.heap.size w w' := by
 have Hc := Lib.hid (digits_ok n w)
 go_enter Tryz.func20, Tryz.ntmps20
 go_wp2_with fail
 refine Calls.mono Hc ?_
 rintro e w1 ⟨rfl, hb⟩
 have hlen : (hexL (m62 n)).length = 16 := lastH_len _ _
 obtain ⟨L, hL⟩ : ∃ L, hexL (m62 n) = L := ⟨_, rfl⟩
 rw [hL] at hlen ⊢
 have hone : (L.map fun b => Value.int .u8 b.toNat).toArray.all (·.oneCell') = true := by
  rw [Array.all_eq_true_iff_forall_mem]
  intro v hv
  simp at hv
  obtain ⟨b, _, rfl⟩ := hv
  rfl
 have hcv := fun (w2 : World) (hw : Whole w2 w1.heap.size 79 (L.map fun b => Value.int .u8 b.toNat).toArray) => conv_bytes (w := w2) (a := ⟨w1.heap.size, 0, none⟩) (ns := L.map fun b => (b.toNat : Int)) 16 (fun j z hz => by
  rw [add_at, Nat.zero_add, hw.cell j]
  simp only [List.getElem?_toArray, List.getElem?_map] at hz ⊢
  cases hq : L[j]? with
  | none => rw [hq] at hz; cases hz
  | some b => rw [hq] at hz; cases hz; rfl)
 simp only [List.length_map, hlen, bytesI_nat] at hcv
 have hsz : (L.map fun b => Value.int .u8 b.toNat).toArray.size = 16 := by simp [hlen]
 obtain ⟨cs, hcs⟩ : ∃ cs, (L.map fun b => Value.int .u8 b.toNat).toArray = cs := ⟨_, rfl⟩
 rw [hcs] at hone hcv hsz ⊢
 have Hone := Lib.hid hone
 have Hcv := Lib.hid hcv
 have Hsz := Lib.hid hsz
 have Hw := Lib.hid (Whole.new w1 79 #[.int .u8 0, .int .u8 0, .int .u8 0, .int .u8 0, .int .u8 0, .int .u8 0, .int .u8 0, .int .u8 0, .int .u8 0, .int .u8 0, .int .u8 0, .int .u8 0, .int .u8 0, .int .u8 0, .int .u8 0, .int .u8 0])
 have Hb := Lib.hid ((hb : Below w.heap.size w w1).alloc hb.size (.cells #[.int .u8 0, .int .u8 0, .int .u8 0, .int .u8 0, .int .u8 0, .int .u8 0, .int .u8 0, .int .u8 0, .int .u8 0, .int .u8 0, .int .u8 0, .int .u8 0, .int .u8 0, .int .u8 0, .int .u8 0, .int .u8 0] 79))
 have Ho : Hid ((#[.int .u8 0, .int .u8 0, .int .u8 0, .int .u8 0, .int .u8 0, .int .u8 0, .int .u8 0, .int .u8 0, .int .u8 0, .int .u8 0, .int .u8 0, .int .u8 0, .int .u8 0, .int .u8 0, .int .u8 0, .int .u8 0] : Array Value).size = 16) := rfl
 have hw1 : w.heap.size ≤ w1.heap.size := hb.size
 have HL := Lib.hid hL
 clear hone hcv hsz hcs hL hb hlen
 go_wp2_with ((with_reducible refine list_store79N w1.heap.size _ cs Hw Ho Hsz Hone ?_ ?_ ?_ ?_ ?_); all_goals try rfl)
 intro w2 hW hg
 have hcv := (Hcv : ∀ w2, _ → _) w2 hW
 have hsl : (Instr.sliceAt 79 (.pointer (some ⟨w1.heap.size, 0, none⟩)) none none none).run Tryz.prog w2 = .ok (.slice (some ⟨w1.heap.size, 0, none⟩) 16 16) w2 := by kernel_rfl
 have hbf := below_row Hb hg hw1 (by rw [World.size_alloc]; omega)
 have Hbf := Lib.hid hbf
 clear hW hg hbf
 go_wp2_with fail
 go_ret
 exact ⟨by rw [(HL : _ = L)]; rfl, Hbf⟩

theorem bytes_hi (Q : Nat) (h : 9 < Q % 16) : bytesI [97 + (Q : Int) % 16 - 10] = ⟨#[hexC Q]⟩ := by
 have e : (97 + (Q : Int) % 16 - 10).toNat = 87 + Q % 16 := by omega
 show (⟨#[UInt8.ofNat (97 + (Q : Int) % 16 - 10).toNat]⟩ : ByteArray) = _
 rw [e]
 unfold hexC
 rw [if_neg (by omega)]
theorem bytes_lo (Q : Nat) (h : ¬ 9 < Q % 16) : bytesI [48 + (Q : Int) % 16] = ⟨#[hexC Q]⟩ := by
 have e : (48 + (Q : Int) % 16).toNat = 48 + Q % 16 := by omega
 show (⟨#[UInt8.ofNat (48 + (Q : Int) % 16).toNat]⟩ : ByteArray) = _
 rw [e]
 unfold hexC
 rw [if_pos (by omega)]
theorem rem62 (n : Int) : (IntKind.u64.wrap n).tmod 4611686018427387904 = (m62 n : Int) := by
 rw [IntKind.wrap_u64, Int.tmod_eq_emod_of_nonneg (by omega)]
 unfold m62
 omega

set_option maxRecDepth 100000 in
set_option maxHeartbeats 1000000 in
theorem rhex_ok (n : Int) (w : World) : Calls Tryz.prog 23 #[.int .i64 n] w fun e w' => e = .returned (.string ⟨(hexL (m62 n)).toArray⟩) ∧ Below w.heap.size w w' := by
 have hrm := rem62 n
 obtain ⟨M, hM⟩ : ∃ M, m62 n = M := ⟨_, rfl⟩
 have hM2 : M < 4611686018427387904 := by rw [← hM]; unfold m62; omega
 rw [hM] at hrm ⊢
 clear hM
 have hb0 := Lib.hid (Below.refl w.heap.size w)
 go_enter Tryz.func23, Tryz.ntmps23
 go_wp2_with fail
 go_loopw [3, 4, 5] (fun u t i wr => ∃ (k : Nat), k ≤ 16 ∧ u = .int .u64 ((M / 16 ^ k : Nat) : Int) ∧ t = .string ⟨(lastH M k).toArray⟩ ∧ i = .int .i64 (k : Int) ∧ Below w.heap.size w wr) (fun _ _ i _ => 16 - (intOf i).toNat)
 case atStart => exact ⟨0, Nat.zero_le _, by simp, rfl, rfl, hb0⟩
 case round =>
  obtain ⟨k, hk, rfl, rfl, rfl, q⟩ := hrel
  by_cases hlt : k < 16
  ·obtain ⟨Q, hQ⟩ : ∃ Q, M / 16 ^ k = Q := ⟨_, rfl⟩
   have hQ2 : Q ≤ M := by rw [← hQ]; exact Nat.div_le_self _ _
   rw [hQ]
   have HQ := Lib.hid hQ
   have Hq := Lib.hid q
   have hQs := lastH_len M k
   clear hQ q hb0 hrm
   have hmes : 16 - (k + 1) < 16 - k := by omega
   have HQ16 : Hid (Q / 16 = M / 16 ^ (k + 1)) := by show _ = _; rw [← (HQ : _ = Q), Nat.div_div_eq_div_mul, Nat.pow_succ]
   by_cases h9 : 9 < Q % 16
   ·have h9i : (9 : Int) < (Q : Int) % 16 := by omega
    have hcv := conv_one wr 5 (97 + (Q : Int) % 16 - 10) 1
    have hsz : ¬ 9223372036854775807 < (bytesI [97 + (Q : Int) % 16 - 10]).size + (lastH M k).length := by rw [hQs, bytes_hi Q h9]; show ¬ _ < 1 + k; omega
    have hbb := bytes_hi Q h9
    have Hbb := Lib.hid hbb
    have Hb2 := Lib.hid ((Hq : Below w.heap.size w wr).alloc (Below.size Hq) (.cells #[.int .u8 (97 + (Q : Int) % 16 - 10)] 5))
    clear hbb
    go_wp2_with fail
    refine ⟨⟨k + 1, by omega, ?_, ?_, by go_num, Hb2⟩, by simp [intOf]; omega⟩
    ·rw [← (HQ16 : _ = _)]; simp
    ·rw [(Hbb : _ = _), lastH_cons, (HQ : _ = Q)]; rfl
   ·have h9i : ¬ (9 : Int) < (Q : Int) % 16 := by omega
    have hcv := conv_one wr 5 (48 + (Q : Int) % 16) 1
    have hsz : ¬ 9223372036854775807 < (bytesI [48 + (Q : Int) % 16]).size + (lastH M k).length := by rw [hQs, bytes_lo Q h9]; show ¬ _ < 1 + k; omega
    have hbb := bytes_lo Q h9
    have Hbb := Lib.hid hbb
    have Hb2 := Lib.hid ((Hq : Below w.heap.size w wr).alloc (Below.size Hq) (.cells #[.int .u8 (48 + (Q : Int) % 16)] 5))
    clear hbb
    go_wp2_with fail
    refine ⟨⟨k + 1, by omega, ?_, ?_, by go_num, Hb2⟩, by simp [intOf]; omega⟩
    ·rw [← (HQ16 : _ = _)]; simp
    ·rw [(Hbb : _ = _), lastH_cons, (HQ : _ = Q)]; rfl
  ·obtain rfl : k = 16 := by omega
   have Hq := Lib.hid q
   clear q hb0 hrm
   go_wp2_with fail
   go_ret
   exact ⟨rfl, Hq⟩
end Go.Proofs.R50
end

/- plain of the law. -/
section
namespace Go.Proofs.R50
open Go.ChangeShapes Go.WideShapes Go.ChangeAt Go.RowKit

theorem fieldN_of {s : ByteArray} {j : Nat} (hj : j < 4) (h : pre (mark j) s = true) : fieldN s ≠ 0 := fun e => by
 unfold fieldN at e
 rcases (by omega : j = 0 ∨ j = 1 ∨ j = 2 ∨ j = 3) with rfl | rfl | rfl | rfl
 ·rw [if_pos h] at e; cases e
 ·rw [if_pos h] at e; split at e <;> cases e
 ·rw [if_pos h] at e
  split at e
  ·cases e
  ·split at e <;> cases e
 ·rw [if_pos h] at e
  split at e
  ·cases e
  ·split at e
   ·cases e
   ·split at e <;> cases e
theorem plain_bad {s : ByteArray} {k : Nat} {b : UInt8} (h : s.data.toList[k]? = some b) (hb : b = 32 ∨ b = 10) : plainB s = false := by
 have hm : b ∈ s.data.toList := List.mem_of_getElem? h
 unfold plainB
 rcases hb with rfl | rfl
 ·rw [decide_eq_false (fun q => q hm)]; simp
 ·rw [decide_eq_false (p := (10 : UInt8) ∉ s.data.toList) (fun q => q hm)]; simp
theorem plain_empty : plainB ⟨#[]⟩ = false := by decide
theorem plain_hash {s : ByteArray} (h : s.data.toList[0]? = some 35) : plainB s = false := by
 unfold plainB
 rw [h]
 simp
theorem plain_mark {s : ByteArray} (h : fieldN s ≠ 0) : plainB s = false := by
 unfold plainB
 rw [decide_eq_false h, Bool.and_false]
theorem plain_yes {s : ByteArray} {b : UInt8} (h1 : (32 : UInt8) ∉ s.data.toList) (h2 : (10 : UInt8) ∉ s.data.toList) (hb : s.data.toList[0]? = some b) (h3 : ¬ b = 35) (h4 : fieldN s = 0) : plainB s = true := by
 have hne : s ≠ ⟨#[]⟩ := fun e => by subst e; cases hb
 unfold plainB
 rw [decide_eq_true h1, decide_eq_true h2, decide_eq_true hne, decide_eq_true h4, hb]
 simpa using h3

set_option maxRecDepth 100000 in
set_option maxHeartbeats 1000000 in
theorem plain_ok (s : ByteArray) (w : World) (hs : s.size ≤ 100000) : Calls Tryz.prog 10 #[.string s] w fun e w' => e = .returned (.bool (plainB s)) ∧ w' = w := by
 go_enter Tryz.func10, Tryz.ntmps10
 go_wp2_with fail
 go_loopw [3] (fun i wr => ∃ k : Nat, k ≤ s.size ∧ i = .int .i64 k ∧ wr = w ∧ ∀ j b, s.data.toList[j]? = some b → j < k → ¬ b = 32 ∧ ¬ b = 10) (fun i _ => s.size - (intOf i).toNat)
 case atStart => exact ⟨0, Nat.zero_le _, rfl, rfl, fun j b _ hj => by omega⟩
 case round =>
  obtain ⟨k, hk, rfl, rfl, hq⟩ := hrel
  have Hq := Lib.hid hq
  clear hq
  by_cases hlt : k < s.size
  ·have hbt := byte_at hlt
   obtain ⟨b, hb⟩ : ∃ b, s[k]'hlt = b := ⟨_, rfl⟩
   rw [hb] at hbt
   have hix := run_index9i s (k : Int) b wr (by omega) (by rw [Int.toNat_natCast]; exact hbt)
   have hbn : (s[k]'hlt).toNat = b.toNat := by rw [hb]
   obtain ⟨B, hB⟩ : ∃ B : Nat, b.toNat = B := ⟨_, rfl⟩
   have Hbt := Lib.hid hbt
   have HB := Lib.hid hB
   rw [hB] at hix hbn
   clear hbt hb hB
   by_cases h1 : B = 32
   ·have Hno : Hid (plainB s = false) := plain_bad Hbt (.inl (u8_eq (n := 32) (by decide) (by rw [(HB : _ = B)]; exact h1)))
    subst h1
    go_wp2_with fail
    go_ret
    exact ⟨by rw [(Hno : _ = _)]; rfl, by trivial⟩
   ·by_cases h2 : B = 10
    ·have Hno : Hid (plainB s = false) := plain_bad Hbt (.inr (u8_eq (n := 10) (by decide) (by rw [(HB : _ = B)]; exact h2)))
     subst h2
     go_wp2_with fail
     go_ret
     exact ⟨by rw [(Hno : _ = _)]; rfl, by trivial⟩
    ·have h1' : ¬ (B : Int) = 32 := by omega
     have h2' : ¬ (B : Int) = 10 := by omega
     have h1b : ((B : Int) == 32) = false := beq_eq_false_iff_ne.2 h1'
     have h2b : ((B : Int) == 10) = false := beq_eq_false_iff_ne.2 h2'
     have Hq2 : Hid (∀ j b, s.data.toList[j]? = some b → j < k + 1 → ¬ b = 32 ∧ ¬ b = 10) := fun j c hc hj => by
      rcases Nat.lt_succ_iff_lt_or_eq.1 hj with hj | rfl
      ·exact Hq j c hc hj
      ·have e : b = c := by
        have := (Hbt : _ = _).symm.trans hc
        injection this
       have hBb : b.toNat = B := HB
       subst e
       exact ⟨fun q => h1 (by rw [← hBb, q]; rfl), fun q => h2 (by rw [← hBb, q]; rfl)⟩
     go_wp2_with fail
     exact ⟨⟨k + 1, by omega, by go_num, by trivial, Hq2⟩, by simp [intOf]; omega⟩
  ·obtain rfl : k = s.size := by omega
   have hn1 : (32 : UInt8) ∉ s.data.toList := fun hm => by
    obtain ⟨j, hj⟩ := List.getElem?_of_mem hm
    exact (Hq j _ hj (by have := (List.getElem?_eq_some_iff.1 hj).1; simpa using this)).1 rfl
   have hn2 : (10 : UInt8) ∉ s.data.toList := fun hm => by
    obtain ⟨j, hj⟩ := List.getElem?_of_mem hm
    exact (Hq j _ hj (by have := (List.getElem?_eq_some_iff.1 hj).1; simpa using this)).2 rfl
   clear Hq
   by_cases hse : s = ⟨#[]⟩
   ·subst hse
    go_wp2_with fail
    go_ret
    exact ⟨by rw [plain_empty]; rfl, by trivial⟩
   ·obtain ⟨b, hb0⟩ := first_byte hse
    have hne := isEmpty_no hse
    have hix := run_index9i s 0 b wr (Int.le_refl _) hb0
    by_cases h35 : b = 35
    ·subst h35
     have Hno := Lib.hid (plain_hash hb0)
     have hix2 : (Instr.index 9 (.string s) (.int .i64 0)).run Tryz.prog wr = .ok (.int .u8 35) wr := hix
     clear hix hb0 hn1 hn2 hse
     go_wp2_with fail
     go_ret
     exact ⟨by rw [(Hno : _ = _)]; rfl, by trivial⟩
    ·have h35i : ¬ (b.toNat : Int) = 35 := fun q => h35 (u8_eq (n := 35) (by decide) (by omega))
     obtain ⟨B, hB⟩ : ∃ B : Int, (b.toNat : Int) = B := ⟨_, rfl⟩
     rw [hB] at hix h35i
     have Hb0 := Lib.hid hb0
     have Hn1 := Lib.hid hn1
     have Hn2 := Lib.hid hn2
     have H35 := Lib.hid h35
     clear hB hb0 hn1 hn2 h35
     have hc0 := lbegins_ok s ⟨#[110, 61]⟩ wr
     have hc1 := lbegins_ok s ⟨#[99, 61]⟩ wr
     have hc2 := lbegins_ok s ⟨#[116, 111, 61]⟩ wr
     have hc3 := lbegins_ok s ⟨#[116, 101, 120, 116, 61]⟩ wr
     cases h0 : pre (mark 0) s with
     | true =>
      rw [show pre ⟨#[110, 61]⟩ s = true from h0] at hc0
      have Hno := Lib.hid (plain_mark (fieldN_of (by decide) h0))
      have Hc0 := Lib.hid hc0
      clear hc0 hc1 hc2 hc3 h0
      go_wp2_with fail
      refine Calls.mono Hc0 ?_
      rintro e w2 ⟨rfl, rfl⟩
      go_wp2_with fail
      go_ret
      exact ⟨by rw [(Hno : _ = _)]; rfl, by trivial⟩
     | false =>
      rw [show pre ⟨#[110, 61]⟩ s = false from h0] at hc0
      have Hc0 := Lib.hid hc0
      cases h1 : pre (mark 1) s with
      | true =>
       rw [show pre ⟨#[99, 61]⟩ s = true from h1] at hc1
       have Hno := Lib.hid (plain_mark (fieldN_of (by decide) h1))
       have Hc1 := Lib.hid hc1
       clear hc0 hc1 hc2 hc3 h0 h1
       go_wp2_with fail
       refine Calls.mono Hc0 ?_
       rintro e w2 ⟨rfl, rfl⟩
       go_wp2_with fail
       refine Calls.mono Hc1 ?_
       rintro e w2 ⟨rfl, rfl⟩
       go_wp2_with fail
       go_ret
       exact ⟨by rw [(Hno : _ = _)]; rfl, by trivial⟩
      | false =>
       rw [show pre ⟨#[99, 61]⟩ s = false from h1] at hc1
       have Hc1 := Lib.hid hc1
       cases h2 : pre (mark 2) s with
       | true =>
        rw [show pre ⟨#[116, 111, 61]⟩ s = true from h2] at hc2
        have Hno := Lib.hid (plain_mark (fieldN_of (by decide) h2))
        have Hc2 := Lib.hid hc2
        clear hc0 hc1 hc2 hc3 h0 h1 h2
        go_wp2_with fail
        refine Calls.mono Hc0 ?_
        rintro e w2 ⟨rfl, rfl⟩
        go_wp2_with fail
        refine Calls.mono Hc1 ?_
        rintro e w2 ⟨rfl, rfl⟩
        go_wp2_with fail
        refine Calls.mono Hc2 ?_
        rintro e w2 ⟨rfl, rfl⟩
        go_wp2_with fail
        go_ret
        exact ⟨by rw [(Hno : _ = _)]; rfl, by trivial⟩
       | false =>
        rw [show pre ⟨#[116, 111, 61]⟩ s = false from h2] at hc2
        have Hc2 := Lib.hid hc2
        have Hres : Hid (plainB s = !(pre (mark 3) s)) := by
         show _ = _
         cases h3 : pre (mark 3) s with
         | true => exact plain_mark (fieldN_of (by decide) h3)
         | false => exact plain_yes Hn1 Hn2 Hb0 H35 (fieldN_none fun j hj => by rcases (by omega : j = 0 ∨ j = 1 ∨ j = 2 ∨ j = 3) with rfl | rfl | rfl | rfl <;> assumption)
        obtain ⟨R, hR⟩ : ∃ R, pre (mark 3) s = R := ⟨_, rfl⟩
        rw [show pre ⟨#[116, 101, 120, 116, 61]⟩ s = R from hR] at hc3
        rw [hR] at Hres
        have Hc3 := Lib.hid hc3
        clear hc0 hc1 hc2 hc3 h0 h1 h2 hR
        go_wp2_with fail
        refine Calls.mono Hc0 ?_
        rintro e w2 ⟨rfl, rfl⟩
        go_wp2_with fail
        refine Calls.mono Hc1 ?_
        rintro e w2 ⟨rfl, rfl⟩
        go_wp2_with fail
        refine Calls.mono Hc2 ?_
        rintro e w2 ⟨rfl, rfl⟩
        go_wp2_with fail
        refine Calls.mono Hc3 ?_
        rintro e w2 ⟨rfl, rfl⟩
        go_wp2_with fail
        go_ret
        refine ⟨?_, by trivial⟩
        rw [(Hres : _ = _)]
        show Ending.returned (.bool (B != 35 && !R)) = _
        rw [show (B != 35) = true from bne_iff_ne.2 h35i]
        rfl
end Go.Proofs.R50
end

/- What the walks of both Line lean on. -/
section
namespace Go.Proofs.R50
open Go.ChangeShapes Go.WideShapes Go.ChangeAt Go.RowKit

theorem wp_cut {P : Program} {x y : Code} {Q : Exit → Act → World → Prop} {a : Act} {w : World} (I : Act → World → Prop) (h1 : x.wp P (fun e a w => e = .normal ∧ I a w) a w) (h2 : ∀ a w, I a w → y.wp P Q a w) : (x.seq y).wp P Q a w :=
 wp_seq (wp_mono h1 fun e a w ⟨he, hi⟩ => by subst he; exact h2 a w hi)

section
variable {P : Program}
theorem run_append_row (w : World) (base : Nat) (t ty e : TypeId) (i : TypeInfo) (z : Value) (size bytes : Nat) (ht : P.underlying t = some (.slice e)) (hi : P.info? e = some i) (hz : i.zero = some z)
  (hsize : i.size = size) (hby : i.bytes = bytes) (hzs : z.cells.size = size) (hsz : 0 < size) (v : Value) (n : Nat) (xs : List Value) (hown : w.ownsRow base e size v n xs)
  (src : Value) (m : Nat) (news : List Value) (hr : Row w src size m news) (h1 : ∀ u ∈ news, u.oneCell' = true) (h63 : n + m ≤ maxLen) (hbytes : (n + m) * bytes ≤ 140737488355328) (hbase : base ≤ w.heap.size) :
  ∃ v' w', (Builtin.append_ #[t, t] ty #[v, src]).run P w = .ok v' w' ∧ w'.ownsRow base e size v' (n + m) (xs ++ news) ∧ w.grownBy w' v.ownBlock := by
 obtain ⟨ao, cap, rfl, hmc, hcap, hlen, hcell⟩ := hr
 cases ao with
 | none =>
  have hm : m = 0 := by
   rcases Nat.eq_zero_or_pos m with h | h
   ·exact h
   ·obtain ⟨b, off, h, _⟩ := hcell h
    cases h
  subst hm
  have hn : news = [] := List.eq_nil_of_length_eq_zero (by simpa using hlen)
  subst hn
  refine ⟨v, w, ?_, by simpa using hown, World.grownBy.refl w _⟩
  rcases hown.2 with ⟨rfl, rfl⟩ | ⟨g, cap', cur, rfl, _, _, hnc, _⟩
  ·simp [Builtin.append_, run_underlying ht, sizeOf, typeInfo, hi, Builtin.lenOf, Builtin.firstCells]
  ·simp [Builtin.append_, run_underlying ht, sizeOf, typeInfo, hi, Builtin.lenOf, Builtin.firstCells, hnc, storeCells]
 | some a =>
  have hc : ∀ j u, news[j]? = some u → w.cell? (a.add j) = some u := fun j u hu => by
   have hm : 0 < m := by
    rcases Nat.eq_zero_or_pos m with h | h
    ·subst h
     have : news = [] := List.eq_nil_of_length_eq_zero (by simpa using hlen)
     subst this
     simp at hu
    ·exact h
   obtain ⟨b, off, h, _, hc⟩ := hcell hm
   obtain rfl : a = ⟨b, off, none⟩ := by injection h
   rw [Addr.add_mid]
   exact hc j u hu
  obtain ⟨v', w', h2, h3, h4, _⟩ := run_append_own (P := P) w base t ty e i z size bytes ht hi hz hsize hby hzs hsz v n xs hown a m cap news hlen hc h1 h63 hbytes hbase
  exact ⟨v', w', h2, h3, h4⟩
end
/-- append of a list of texts to a row of one's own. -/
theorem list_appendS {ops : Array Oper} {rest : List Oper} {o : Oper} {a : Act} {w : World} {Q : Exit → Act → World → Prop} (hgd : o.guard = none) (s x : Operand)
  (ho : o.op = .call { callee := .builtin .append, args := #[s, x], argTypes := #[29, 29] })
  (base : Nat) (v : Value) (ss tt uu : List ByteArray) (hs : a.eval s = v) (hown : Hid (w.ownsRow base 9 1 v ss.length (ss.map Value.string)))
  (src : Value) (hx : a.eval x = src) (hsrc : Hid (Strs w src tt)) (huu : Hid (uu = ss ++ tt)) (hne : Hid (uu ≠ []))
  (hm : uu.length ≤ 1000000) (hbase : base ≤ w.heap.size)
  (k : ∀ g cap w', w'.ownsRow base 9 1 (.slice (some ⟨g, 0, none⟩) uu.length cap) uu.length (uu.map Value.string) → w.grownBy w' v.ownBlock → wpList Tryz.prog ops Q rest (a.put o.dst (.slice (some ⟨g, 0, none⟩) uu.length cap)) w') :
  wpList Tryz.prog ops Q (o :: rest) a w := by
 obtain ⟨i0, hi, hz0, hz1, hz2⟩ := info_parts Tryz.info9'
 have huu' : uu = ss ++ tt := huu
 have hl : uu.length = ss.length + tt.length := by rw [huu', List.length_append]
 have hsrc' : Row w src 1 tt.length (tt.map Value.string) := hsrc
 obtain ⟨v', w', hrun, h2, h3⟩ := run_append_row (P := Tryz.prog) w base 29 o.type 9 i0 (.string ByteArray.empty) 1 16 Tryz.underlying29 hi hz0 hz1 hz2 rfl (by omega) v ss.length (ss.map Value.string) hown src tt.length (tt.map Value.string) hsrc' (by
  intro u hu
  obtain ⟨z, _, rfl⟩ := List.mem_map.1 hu
  rfl) (by unfold maxLen; omega) (by omega) hbase
 rw [← List.map_append, ← huu', ← hl] at h2
 have hnil : v' ≠ .slice none 0 0 := fun e => by
  subst e
  rcases h2.2 with ⟨_, h⟩ | ⟨g, cap, cur, h, _⟩
  ·exact (hne : uu ≠ []) (List.eq_nil_of_length_eq_zero h)
  ·cases h
 obtain ⟨g, cap, cur, rfl, _⟩ := own_form h2 hnil
 refine wpList_plain hgd fun K' hK' => ?_
 unfold Oper.wp execOp
 simp only [ho, resolve, invoke, builtin, Sem.run_bind, Sem.run_pure, Result.andThen_ok, List.map_toArray, List.map_cons, List.map_nil, hs, hx, hrun]
 exact hK' _ _ (k g cap w' h2 h3)

/-- A text that ends with words, each behind a blank. -/
def lineL (wd : ByteArray) (ps : List ByteArray) : ByteArray := ba (wd.data.toList ++ ps.flatMap fun p => 32 :: p.data.toList)
def optN (m : List UInt8) (n : Int) : List ByteArray := if n = 0 then [] else [⟨m.toArray⟩ ++ ⟨(decI n).toArray⟩]
def optH (n : Int) : List ByteArray := if n = 0 then [] else [⟨#[116, 111, 61]⟩ ++ ⟨(hexL (m62 n)).toArray⟩]
def optT (tx : ByteArray) : List ByteArray := if tx = ⟨#[]⟩ then [] else [⟨#[116, 101, 120, 116, 61]⟩ ++ tx]
def restB (names : List ByteArray) (n cn tg : Int) (tx : ByteArray) : List ByteArray := names ++ optN [110, 61] n ++ optN [99, 61] cn ++ optH tg ++ optT tx
def lineB (wd : ByteArray) (names : List ByteArray) (n cn tg : Int) (tx : ByteArray) : ByteArray := lineL wd (restB names n cn tg tx)

theorem lineL_snoc (wd : ByteArray) (ps : List ByteArray) (p : ByteArray) : lineL wd (ps ++ [p]) = lineL wd ps ++ ⟨#[32]⟩ ++ p := by
 rw [cat_ba (lineL wd ps ++ ⟨#[32]⟩) p, cat_ba (lineL wd ps)]
 unfold lineL
 rw [data_ba, data_ba]
 simp
theorem lineL_nil (wd : ByteArray) : lineL wd [] = wd := by
 unfold lineL
 simp [ba_data]
theorem lineL_join (wd : ByteArray) (ps : List ByteArray) : (⟨(Lib.join ((wd :: ps).map (·.data.toList)) [32]).toArray⟩ : ByteArray) = lineL wd ps := by
 rw [List.map_cons, Lib.join_cons]
 unfold lineL ba Lib.joinTail
 rw [List.map_map, ← List.flatMap_def]
 rfl
theorem ba_cat_size (x y : ByteArray) : (x ++ y).size = x.size + y.size := ByteArray.size_append
theorem tail_size (N : Nat) : ∀ ps : List ByteArray, (∀ p ∈ ps, p.size ≤ N) → (ps.flatMap fun p => 32 :: p.data.toList).length ≤ ps.length * (N + 1)
 | [], _ => by simp
 | p :: ps, h => by
  have h1 := h p (List.mem_cons_self ..)
  have h2 := tail_size N ps fun q hq => h q (List.mem_cons_of_mem _ hq)
  rw [List.flatMap_cons, List.length_append, List.length_cons, data_len, List.length_cons, Nat.succ_mul]
  omega
theorem lineL_size (N : Nat) (wd : ByteArray) (ps : List ByteArray) (h : ∀ p ∈ ps, p.size ≤ N) : (lineL wd ps).size ≤ wd.size + ps.length * (N + 1) := by
 unfold lineL
 rw [ba_size, List.length_append, data_len]
 have := tail_size N ps h
 omega
theorem decI_le {n : Int} (hn : -9223372036854775808 ≤ n ∧ n ≤ 9223372036854775807) : (decI n).length ≤ 21 := by
 have h2 : (decN n.natAbs).length ≤ 20 := decN_le (K := 19) (by omega)
 unfold decI
 split
 ·rw [List.length_cons]; omega
 ·omega
theorem hexL_len (n : Nat) : (hexL n).length = 16 := lastH_len _ _
theorem optN_le {m : List UInt8} {n : Int} (hm : m.length ≤ 2) (hn : -9223372036854775808 ≤ n ∧ n ≤ 9223372036854775807) : (optN m n).length ≤ 1 ∧ ∀ p ∈ optN m n, p.size ≤ 1100 := by
 unfold optN
 split
 ·exact ⟨by simp, fun p hp => by cases hp⟩
 ·refine ⟨by simp, fun p hp => ?_⟩
  obtain rfl := List.mem_singleton.1 hp
  rw [ba_cat_size]
  have h1 := decI_le hn
  have h2 : (⟨m.toArray⟩ : ByteArray).size = m.length := rfl
  have h3 : (⟨(decI n).toArray⟩ : ByteArray).size = (decI n).length := rfl
  omega
theorem optH_le {n : Int} : (optH n).length ≤ 1 ∧ ∀ p ∈ optH n, p.size ≤ 1100 := by
 unfold optH
 split
 ·exact ⟨by simp, fun p hp => by cases hp⟩
 ·refine ⟨by simp, fun p hp => ?_⟩
  obtain rfl := List.mem_singleton.1 hp
  rw [ba_cat_size]
  have h1 := hexL_len (m62 n)
  have h2 : (⟨#[116, 111, 61]⟩ : ByteArray).size = 3 := rfl
  have h3 : (⟨(hexL (m62 n)).toArray⟩ : ByteArray).size = (hexL (m62 n)).length := rfl
  omega
theorem optT_le {tx : ByteArray} (h : tx.size ≤ 1000) : (optT tx).length ≤ 1 ∧ ∀ p ∈ optT tx, p.size ≤ 1100 := by
 unfold optT
 split
 ·exact ⟨by simp, fun p hp => by cases hp⟩
 ·refine ⟨by simp, fun p hp => ?_⟩
  obtain rfl := List.mem_singleton.1 hp
  rw [ba_cat_size]
  have h2 : (⟨#[116, 101, 120, 116, 61]⟩ : ByteArray).size = 5 := rfl
  omega
/-- strings.Join at blanks. -/
theorem join_ok (g cap : Nat) (wd : ByteArray) (ps : List ByteArray) (w : World) (h : Strs w (.slice (some ⟨g, 0, none⟩) (wd :: ps).length cap) (wd :: ps)) (hs : (lineL wd ps).size ≤ 1000000) (hl : ps.length ≤ 1000000) :
  Calls Tryz.prog 21 #[.slice (some ⟨g, 0, none⟩) (wd :: ps).length cap, .string ⟨#[32]⟩] w fun e w' => e = .returned (.string (lineL wd ps)) ∧ Below w.heap.size w w' := by
 obtain ⟨ao, cap', e, h1, h2, _, h4⟩ := h
 injection e with e1 e2 e3
 subst e1 e3
 obtain ⟨b, off, e, hb, hc⟩ := h4 (by simp)
 obtain ⟨rfl, rfl⟩ : g = b ∧ 0 = off := by injection e with e; injection e with a b; exact ⟨a, b⟩
 have key := Any.strings_Join joinLays joinExtra g 0 cap (wd :: ps) ⟨#[32]⟩ w (fun j y hy => hc j (.string y) (by rw [List.getElem?_map, hy]; rfl)) hb (by simp only [List.length_cons]; omega) h1 (by
  have := congrArg ByteArray.size (lineL_join wd ps)
  have e : (⟨(Lib.join ((wd :: ps).map (·.data.toList)) [32]).toArray⟩ : ByteArray).size = (Lib.join ((wd :: ps).map (·.data.toList)) [32]).length := rfl
  rw [e] at this
  show (Lib.join ((wd :: ps).map (·.data.toList)) [32]).length ≤ _
  omega)
 refine key.mono ?_
 rintro e w' ⟨rfl, hb'⟩
 exact ⟨by rw [← lineL_join], hb'⟩
end Go.Proofs.R50
end
