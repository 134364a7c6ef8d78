/- num.Parse. -/
import Derived.Test.YtojknjmcmadhcaaGreatDoorCc

section
namespace Go.Proofs.R50
open Go.RowKit Go.Abs

theorem byte_at {s : ByteArray} {k : Nat} (h : k < s.size) : s.data.toList[k]? = some (s[k]'h) := by
  rw [Array.getElem?_toList]
  exact Array.getElem?_eq_getElem h
theorem u8_eq {b : UInt8} {n : Nat} (hn : n < 256) (h : b.toNat = n) : b = UInt8.ofNat n := by
  apply UInt8.toNat_inj.1
  rw [h, UInt8.toNat_ofNat']
  omega
theorem isD_of {b : UInt8} (h1 : 48 ≤ b.toNat) (h2 : b.toNat ≤ 57) : isD b = true := decide_eq_true ⟨h1, h2⟩
theorem numP_bad {l : List UInt8} (h : ¬ (body l).all isD = true) : numP l = none := by
  unfold numP
  rw [if_neg (fun q => h q.1)]
/-- A byte that is no digit stands in the text. -/
theorem body_bad {l : List UInt8} {k : Nat} {b : UInt8} (hb : l[k]? = some b) (h : ¬ (k = 0 ∧ b = 45)) (hd : isD b = false) : numP l = none := by
  refine numP_bad fun q => ?_
  have h1 := body_snoc hb h
  have : b ∈ body l := by
    obtain ⟨hk, _⟩ := List.getElem?_eq_some_iff.1 hb
    have e : body l = body (l.take (k + 1)) ++ l.drop (k + 1) := by
      cases l with
      | nil => simp at hk
      | cons a r =>
        simp only [List.take_succ_cons, List.drop_succ_cons, body]
        split <;> simp
    rw [e, h1]
    simp
  have := List.all_eq_true.1 q b this
  rw [hd] at this
  cases this

set_option maxRecDepth 100000 in
set_option maxHeartbeats 2000000 in
theorem parse_ok (s : ByteArray) (w : World) :
    Calls Tryz.prog 50 #[.string s] w fun e w' => e = .returned (.tuple #[.int .i64 ((numP s.data.toList).getD 0), .bool (numP s.data.toList).isSome]) ∧ Below w.heap.size w w' := by
  go_enter Tryz.func50, Tryz.ntmps50
  by_cases hl : 1 ≤ s.size ∧ s.size ≤ 14
  · obtain ⟨hl1, hl2⟩ := hl
    have hne : ¬ s = ByteArray.empty := by rintro rfl; exact absurd hl1 (by decide)
    have hz1 : ¬ s.size = 0 := by omega
    have hz2 : ¬ (14 : Int) < ((s.size : Nat) : Int) := by omega
    go_wp2_with fail
    go_loopw [4, 17] (fun n i wr => ∃ k : Nat, k ≤ s.size ∧ i = .int .i64 k ∧ n = .int .i64 (valN (body (s.data.toList.take k))) ∧ (body (s.data.toList.take k)).all isD = true ∧ wr = w) (fun _ i _ => s.size - (intOf i).toNat)
    case atStart => exact ⟨0, by omega, by go_num, rfl, rfl, rfl⟩
    case round =>
      obtain ⟨k, hk, rfl, rfl, hd, rfl⟩ := hrel
      have hV1 := valN_le _ _ rfl hd
      have hV2 : (body (s.data.toList.take k)).length ≤ k := Nat.le_trans (body_len _) (by rw [List.length_take]; omega)
      obtain ⟨V, hV⟩ : ∃ V, valN (body (s.data.toList.take k)) = V := ⟨_, rfl⟩
      have hV3 : V < 10 ^ 14 := by
        rw [← hV]
        exact Nat.lt_of_lt_of_le hV1 (Nat.pow_le_pow_right (by decide) (by omega))
      have HV := Lib.hid hV
      have Hd := Lib.hid hd
      rw [hV]
      clear hV1 hV2 hV hd
      have hV4 : (V : Int) < 100000000000000 := by omega
      by_cases hlt : k < s.size
      · rcases Nat.eq_zero_or_pos k with rfl | hk0
        · have hV0 : V = 0 := HV.symm
          subst hV0
          clear hV3
          have hat : Hid (s.data.toList[0]? = some (s[0]'hlt)) := byte_at hlt
          rw [show ((0 : Nat) : Int) = 0 from rfl]
          go_wp2_with fail
          · have h45 : s[0].toNat = 45 := by
              have h := ‹(((s[0]'hlt).toNat : Int) == 45) = true›
              have := eq_of_beq h
              omega
            have hb45 : (s[0]'hlt) = 45 := u8_eq (by decide) h45
            have hat2 : s.data.toList[0]? = some 45 := by rw [(hat : _ = _), hb45]
            have hb1 := body_minus hat2
            exact ⟨⟨1, by omega, by go_num, by rw [hb1]; rfl, by rw [hb1]; rfl, trivial⟩, by simp [intOf]; omega⟩
          all_goals
            have h45 : ¬ s[0].toNat = 45 := by
              have h := ‹(((s[0]'hlt).toNat : Int) == 45) = false›
              have := beq_eq_false_iff_ne.1 h
              omega
            have hm2 : ¬ (0 = 0 ∧ (s[0]'hlt) = 45) := fun q => h45 (by rw [q.2]; rfl)
          · go_ret2
            exact ⟨by rw [body_bad hat hm2 (decide_eq_false (by omega))]; rfl, Below.refl _ _⟩
          · have hs := body_snoc hat hm2
            have hd : isD (s[0]'hlt) = true := isD_of (by omega) (by omega)
            refine ⟨⟨1, by omega, by go_num, ?_, ?_, trivial⟩, by simp [intOf]; omega⟩
            · rw [hs, valN_snoc, (HV : _ = 0)]
              congr 1
              omega
            · rw [hs, List.all_append, (Hd : _ = true)]
              simp [hd]
          · go_ret2
            exact ⟨by rw [body_bad hat hm2 (decide_eq_false (by omega))]; rfl, Below.refl _ _⟩
        · obtain ⟨b, hbe⟩ : ∃ b, s[k]'hlt = b := ⟨_, rfl⟩
          have hat := Lib.hid (byte_at hlt)
          rw [hbe] at hat
          obtain ⟨B, hB⟩ : ∃ B, (s[k]'hlt).toNat = B := ⟨_, rfl⟩
          have hbB : b.toNat = B := by rw [← hbe]; exact hB
          have HbB := Lib.hid hbB
          have Hm2 : Hid (¬ (k = 0 ∧ b = 45)) := fun q => by omega
          have hk1 : ¬ (k : Int) = 0 := by omega
          have hk9 : ¬ k = 0 := by omega
          clear hbe hbB hk0 hV3
          by_cases hd1 : B < 48
          · have hno : Hid (numP s.data.toList = none) := body_bad hat Hm2 (decide_eq_false (by rw [(HbB : b.toNat = B)]; omega))
            have hd2 : (B : Int) < 48 := by omega
            go_wp2_with fail
            go_ret2
            exact ⟨by rw [(hno : _ = _)]; rfl, Below.refl _ _⟩
          · by_cases hd3 : 57 < B
            · have hno : Hid (numP s.data.toList = none) := body_bad hat Hm2 (decide_eq_false (by rw [(HbB : b.toNat = B)]; omega))
              have hd2 : ¬ (B : Int) < 48 := by omega
              have hd4 : (57 : Int) < (B : Int) := by omega
              go_wp2_with fail
              go_ret2
              exact ⟨by rw [(hno : _ = _)]; rfl, Below.refl _ _⟩
            · have hd2 : ¬ (B : Int) < 48 := by omega
              have hd4 : ¬ (57 : Int) < (B : Int) := by omega
              have hB57 : (B : Int) ≤ 57 := by omega
              have hB48 : (48 : Int) ≤ (B : Int) := by omega
              have Hs := Lib.hid (body_snoc hat Hm2)
              have Hdb : Hid (isD b = true) := isD_of (by rw [(HbB : b.toNat = B)]; omega) (by rw [(HbB : b.toNat = B)]; omega)
              have Hrel : Hid (valN (body (s.data.toList.take (k + 1))) = 10 * V + (B - 48) ∧ (body (s.data.toList.take (k + 1))).all isD = true) := by
                rw [(Hs : _ = _), valN_snoc, (HV : _ = V), (HbB : b.toNat = B)]
                refine ⟨rfl, ?_⟩
                rw [List.all_append, (Hd : _ = true)]
                have : isD b = true := Hdb
                simp [this]
              go_wp2_with fail
              refine ⟨⟨k + 1, by omega, by go_num, ?_, Hrel.2, trivial⟩, ?_⟩
              · rw [Hrel.1]
                congr 1
                omega
              · simp [intOf]
                omega
      · have hke : k = s.size := by omega
        subst hke
        rw [show s.size = s.data.toList.length from (by simp), List.take_length] at HV Hd
        have hs0 : 0 < s.size := by omega
        clear hV3 hk hlt hz1 hne hl1
        iterate 30 (first | go_values | go_skip | go_guarded | go_step | go_upon | go_back)
        generalize hc : (((s[0]'hs0).toNat : Int) == 45) = c
        have hh : s.data.toList.head? = some (s[0]'hs0) := by rw [← byte_at hs0, List.head?_eq_getElem?]
        have Hn1 : Hid (c = true → numV s.data.toList = -(V : Int)) := fun q => by
          rw [q] at hc
          have h45 : (s[0]'hs0).toNat = 45 := by
            have := eq_of_beq hc
            omega
          unfold numV
          rw [hh, u8_eq (by decide) h45, if_pos (by decide), (HV : _ = V)]
        have Hn2 : Hid (c = false → numV s.data.toList = (V : Int)) := fun q => by
          rw [q] at hc
          have h45 : ¬ (s[0]'hs0).toNat = 45 := by
            have := beq_eq_false_iff_ne.1 hc
            omega
          unfold numV
          rw [hh, if_neg (fun q => h45 (by rw [Option.some.inj q]; rfl)), (HV : _ = V)]
        clear hc hh
        generalize (s[0]'hs0).toNat = B0
        clear hs0
        cases c
        rotate_left
        · have hnum : Hid (numV s.data.toList = (-(V : Int))) := Hn1 rfl
          clear Hn1 Hn2
          go_wp2_with fail
          refine Calls.mono (within_ok (-(V : Int)) wr) ?_
          rintro e w2 ⟨rfl, q2⟩
          by_cases hw : ((-(V : Int))).natAbs ≤ 1000000000000
          · have Hw := Lib.hid hw
            rw [decide_eq_true hw]
            clear hw
            go_wp2_with fail
            refine Calls.mono (text_ok (-(V : Int)) (by omega) w2) ?_
            rintro e w3 ⟨rfl, q3⟩
            have Q3 := Lib.hid (q2.trans (q3.mono q2.size))
            clear q2 q3
            by_cases he : decI (-(V : Int)) = s.data.toList
            · have hT : (⟨(decI (-(V : Int))).toArray⟩ : ByteArray) = s := by rw [he]
              have hno : Hid (numP s.data.toList = some (-(V : Int))) := by
                show _ = _
                unfold numP
                rw [if_pos ⟨Hd, by rw [(hnum : _ = _)]; exact Hw, by rw [(hnum : _ = _)]; exact he⟩, (hnum : _ = _)]
              rw [hT]
              clear he hT
              go_wp2_with fail
              go_ret2
              exact ⟨by rw [(hno : _ = _)]; rfl, Q3⟩
            · have hno : Hid (numP s.data.toList = none) := by
                show _ = _
                unfold numP
                rw [if_neg (fun q => he (by rw [← (hnum : _ = _)]; exact q.2.2))]
              have hT := str_ne (a := ⟨(decI (-(V : Int))).toArray⟩) (b := s) (fun q => he (by rw [← q]))
              obtain ⟨T, hTe⟩ : ∃ T : ByteArray, (⟨(decI (-(V : Int))).toArray⟩ : ByteArray) = T := ⟨_, rfl⟩
              rw [hTe] at hT ⊢
              clear he hTe
              go_wp2_with fail
              go_ret2
              exact ⟨by rw [(hno : _ = _)]; rfl, Q3⟩
          · have hno : Hid (numP s.data.toList = none) := by
              show _ = _
              unfold numP
              rw [if_neg (fun q => hw (by rw [← (hnum : _ = _)]; exact q.2.1))]
            rw [decide_eq_false hw]
            have Q2 := Lib.hid q2
            clear hw q2
            go_wp2_with fail
            go_ret2
            exact ⟨by rw [(hno : _ = _)]; rfl, Q2⟩
        · have hnum : Hid (numV s.data.toList = (V : Int)) := Hn2 rfl
          clear Hn1 Hn2
          go_wp2_with fail
          refine Calls.mono (within_ok (V : Int) wr) ?_
          rintro e w2 ⟨rfl, q2⟩
          by_cases hw : ((V : Int)).natAbs ≤ 1000000000000
          · have Hw := Lib.hid hw
            rw [decide_eq_true hw]
            clear hw
            go_wp2_with fail
            refine Calls.mono (text_ok (V : Int) (by omega) w2) ?_
            rintro e w3 ⟨rfl, q3⟩
            have Q3 := Lib.hid (q2.trans (q3.mono q2.size))
            clear q2 q3
            by_cases he : decI (V : Int) = s.data.toList
            · have hT : (⟨(decI (V : Int)).toArray⟩ : ByteArray) = s := by rw [he]
              have hno : Hid (numP s.data.toList = some (V : Int)) := by
                show _ = _
                unfold numP
                rw [if_pos ⟨Hd, by rw [(hnum : _ = _)]; exact Hw, by rw [(hnum : _ = _)]; exact he⟩, (hnum : _ = _)]
              rw [hT]
              clear he hT
              go_wp2_with fail
              go_ret2
              exact ⟨by rw [(hno : _ = _)]; rfl, Q3⟩
            · have hno : Hid (numP s.data.toList = none) := by
                show _ = _
                unfold numP
                rw [if_neg (fun q => he (by rw [← (hnum : _ = _)]; exact q.2.2))]
              have hT := str_ne (a := ⟨(decI (V : Int)).toArray⟩) (b := s) (fun q => he (by rw [← q]))
              obtain ⟨T, hTe⟩ : ∃ T : ByteArray, (⟨(decI (V : Int)).toArray⟩ : ByteArray) = T := ⟨_, rfl⟩
              rw [hTe] at hT ⊢
              clear he hTe
              go_wp2_with fail
              go_ret2
              exact ⟨by rw [(hno : _ = _)]; rfl, Q3⟩
          · have hno : Hid (numP s.data.toList = none) := by
              show _ = _
              unfold numP
              rw [if_neg (fun q => hw (by rw [← (hnum : _ = _)]; exact q.2.1))]
            rw [decide_eq_false hw]
            have Q2 := Lib.hid q2
            clear hw q2
            go_wp2_with fail
            go_ret2
            exact ⟨by rw [(hno : _ = _)]; rfl, Q2⟩
  · have hno : numP s.data.toList = none := numP_none_of hl
    have Hno := Lib.hid hno
    clear hno
    by_cases h0 : s.size = 0
    · go_wp2_with fail
      go_ret2
      exact ⟨by rw [(Hno : _ = _)]; rfl, Below.refl _ _⟩
    · have h14 : 14 < s.size := by omega
      clear hl
      go_wp2_with fail
      go_ret2
      exact ⟨by rw [(Hno : _ = _)]; rfl, Below.refl _ _⟩
end Go.Proofs.R50
end

/- R01.Parse. -/
section
namespace Go.Proofs.R50
open Go.RowKit Go.Abs

theorem lastD_head (N : Nat) : ∀ k, 1 ≤ k → ∃ M, (lastD N k).head? = some (dig M)
  | _k + 1, _ => ⟨_, rfl⟩
theorem dig_ne (M : Nat) : dig M ≠ 45 := fun h => by
  have := dig_nat M
  rw [h] at this
  have e : (45 : UInt8).toNat = 45 := rfl
  omega
theorem numP_len {l : List UInt8} {n : Int} (h : numP l = some n) : (l.head? = some 45 → 2 ≤ l.length ∧ l.length ≤ 14) ∧ (l.head? ≠ some 45 → 1 ≤ l.length ∧ l.length ≤ 13) := by
  unfold numP at h
  split at h
  · rename_i hq
    obtain ⟨_, h2, h3⟩ := hq
    have h4 := decN_pos (numV l).natAbs
    have h5 := decN_le (N := (numV l).natAbs) (K := 12) (by omega)
    obtain ⟨M, hM⟩ := lastD_head (numV l).natAbs (nd (numV l).natAbs) (ndF_pos _ _)
    rw [← h3]
    unfold decI
    split
    · constructor
      · intro _; simp only [List.length_cons]; omega
      · intro q; exact absurd rfl q
    · constructor
      · intro q
        have : (decN (numV l).natAbs).head? = some (dig M) := hM
        rw [this] at q
        exact absurd (Option.some.inj q) (dig_ne M)
      · intro _; omega
  · cases h
theorem numP_out1 {l : List UInt8} (h : l.head? = some 45) (hl : ¬ (2 ≤ l.length ∧ l.length ≤ 14)) : numP l = none := by
  cases hn : numP l with
  | none => rfl
  | some n => exact absurd ((numP_len hn).1 h) hl
theorem numP_out0 {l : List UInt8} (h : l.head? ≠ some 45) (hl : ¬ (1 ≤ l.length ∧ l.length ≤ 13)) : numP l = none := by
  cases hn : numP l with
  | none => rfl
  | some n => exact absurd ((numP_len hn).2 h) hl

set_option maxRecDepth 100000 in
set_option maxHeartbeats 2000000 in
theorem rParse_ok (s : ByteArray) (w : World) :
    Calls Tryz.prog 26 #[.string s] w fun e w' => e = .returned (.tuple #[.int .i64 ((numP s.data.toList).getD 0), .bool (numP s.data.toList).isSome]) ∧ Below w.heap.size w w' := by
  go_enter Tryz.func26, Tryz.ntmps26
  by_cases hs0 : 0 < s.size
  · go_wp2_with fail
    all_goals have hlen : s.data.toList.length = s.size := by simp
    all_goals have hhead : s.data.toList.head? = some (s[0]'hs0) := by rw [← byte_at hs0, List.head?_eq_getElem?]
    all_goals first
      | (have h45 : s[0].toNat = 45 := by
           have := eq_of_beq ‹(((s[0]'hs0).toNat : Int) == 45) = true›
           omega)
      | (have h45 : ¬ s[0].toNat = 45 := by
           have := beq_eq_false_iff_ne.1 ‹(((s[0]'hs0).toNat : Int) == 45) = false›
           omega)
    · go_ret2
      exact ⟨by rw [numP_out1 (by rw [hhead, u8_eq (by decide) h45]; rfl) (by omega)]; rfl, Below.refl _ _⟩
    · go_ret2
      have h8 : ¬ (2 ≤ s.data.toList.length ∧ s.data.toList.length ≤ 14) := by
        rcases ‹(((s.size : Nat) : Int) == 1) = true ∨ (14 : Int) < ((s.size : Nat) : Int)› with h9 | h9
        · have := eq_of_beq h9
          omega
        · omega
      exact ⟨by rw [numP_out1 (by rw [hhead, u8_eq (by decide) h45]; rfl) h8]; rfl, Below.refl _ _⟩
    · have h9 := ‹(((s.size : Nat) : Int) == 1) = false ∧ ((s.size : Nat) : Int) ≤ 14›
      have h10 := h9.2
      clear h9
      have hz : s.size ≤ 14 ∧ 1 ≤ s.size := by
        omega
      obtain ⟨hz1, hz2⟩ := hz
      have hb0 : Hid (body (s.data.toList.take 1) = []) := body_minus (by rw [byte_at hs0, u8_eq (by decide) h45]; rfl)
      have h0 : Hid (∀ (k : Nat) (b : UInt8), 1 ≤ k → s.data.toList[k]? = some b → ¬ (k = 0 ∧ b = 45)) := fun k b hk hb q => by
        omega
      have Hhd : Hid (s.data.toList.head? = some 45) := by
        show _ = _; rw [List.head?_eq_getElem?, byte_at hs0, u8_eq (by decide) h45]; rfl
      rename (((s[0]'hs0).toNat : Int) == 45) = true => hx
      clear hx h45 hhead hlen
      generalize (s[0]'hs0).toNat = B0
      clear hs0
      go_loopw [5, 6] (fun n i wr => ∃ k : Nat, 1 ≤ k ∧ k ≤ s.size ∧ i = .int .i64 k ∧ n = .int .i64 (valN (body (s.data.toList.take k))) ∧ (body (s.data.toList.take k)).all isD = true ∧ wr = w) (fun _ i _ => s.size - (intOf i).toNat)
      case atStart => exact ⟨1, by omega, hz2, rfl, by rw [(hb0 : _ = _)]; rfl, by rw [(hb0 : _ = _)]; rfl, rfl⟩
      case round =>
        obtain ⟨k, hAk, hk, rfl, rfl, hd, rfl⟩ := hrel
        have hV1 := valN_le _ _ rfl hd
        have hV2 : (body (s.data.toList.take k)).length ≤ k := Nat.le_trans (body_len _) (by rw [List.length_take]; omega)
        obtain ⟨V, hV⟩ : ∃ V, valN (body (s.data.toList.take k)) = V := ⟨_, rfl⟩
        have hV3 : V < 10 ^ 14 := by
          rw [← hV]
          exact Nat.lt_of_lt_of_le hV1 (Nat.pow_le_pow_right (by decide) (by omega))
        have HV := Lib.hid hV
        have Hd := Lib.hid hd
        rw [hV]
        clear hV1 hV2 hV hd hb0
        have hV4 : (V : Int) < 100000000000000 := by omega
        clear hV3
        have HAk := Lib.hid hAk
        by_cases hlt : k < s.size
        · obtain ⟨b, hbe⟩ : ∃ b, s[k]'hlt = b := ⟨_, rfl⟩
          have hat := Lib.hid (byte_at hlt)
          rw [hbe] at hat
          obtain ⟨B, hB⟩ : ∃ B, (s[k]'hlt).toNat = B := ⟨_, rfl⟩
          have hbB : b.toNat = B := by rw [← hbe]; exact hB
          have HbB := Lib.hid hbB
          have Hm2 := Lib.hid ((h0 : ∀ _ _, _) k b hAk hat)
          clear hbe hbB hAk
          by_cases hd1 : B < 48
          · have hno : Hid (numP s.data.toList = none) := body_bad hat Hm2 (decide_eq_false (by rw [(HbB : b.toNat = B)]; omega))
            have hd2 : (B : Int) < 48 := by omega
            go_wp2_with fail
            go_ret2
            exact ⟨by rw [(hno : _ = _)]; rfl, Below.refl _ _⟩
          · by_cases hd3 : 57 < B
            · have hno : Hid (numP s.data.toList = none) := body_bad hat Hm2 (decide_eq_false (by rw [(HbB : b.toNat = B)]; omega))
              have hd2 : ¬ (B : Int) < 48 := by omega
              have hd4 : (57 : Int) < (B : Int) := by omega
              go_wp2_with fail
              go_ret2
              exact ⟨by rw [(hno : _ = _)]; rfl, Below.refl _ _⟩
            · have hd2 : ¬ (B : Int) < 48 := by omega
              have hd4 : ¬ (57 : Int) < (B : Int) := by omega
              have hB57 : (B : Int) ≤ 57 := by omega
              have hB48 : (48 : Int) ≤ (B : Int) := by omega
              have Hs := Lib.hid (body_snoc hat Hm2)
              have Hdb : Hid (isD b = true) := isD_of (by rw [(HbB : b.toNat = B)]; omega) (by rw [(HbB : b.toNat = B)]; omega)
              have Hrel : Hid (valN (body (s.data.toList.take (k + 1))) = 10 * V + (B - 48) ∧ (body (s.data.toList.take (k + 1))).all isD = true) := by
                rw [(Hs : _ = _), valN_snoc, (HV : _ = V), (HbB : b.toNat = B)]
                refine ⟨rfl, ?_⟩
                rw [List.all_append, (Hd : _ = true)]
                have : isD b = true := Hdb
                simp [this]
              go_wp2_with fail
              go_roundw
              case rel =>
                refine ⟨k + 1, Nat.le_succ_of_le HAk, by omega, by go_num, ?_, Hrel.2, by trivial⟩
                rw [Hrel.1]
                congr 1
                omega
              case measure => first | (simp [intOf]; done) | (simp [intOf]; omega)
        · have hke : k = s.size := by omega
          subst hke
          rw [show s.size = s.data.toList.length from (by simp), List.take_length] at HV Hd
          have hnum : Hid (numV s.data.toList = (-(V : Int))) := by
            have hhd : s.data.toList.head? = some 45 := Hhd
            show _ = _
            unfold numV
            rw [if_pos hhd, (HV : _ = V)]
          clear hk hlt hAk
          by_cases hw : ((-(V : Int))).natAbs ≤ 1000000000000
          · have hw1 : ¬ (-(V : Int)) < -1000000000000 := by omega
            have hw2 : ¬ (1000000000000 : Int) < (-(V : Int)) := by omega
            have Hw := Lib.hid hw
            clear hw
            go_wp2_with fail
            refine Calls.mono (rText_ok (-(V : Int)) (by omega) wr) ?_
            rintro e w3 ⟨rfl, q3⟩
            have Q3 := Lib.hid q3
            clear q3
            by_cases he : decI (-(V : Int)) = s.data.toList
            · have hT : (⟨(decI (-(V : Int))).toArray⟩ : ByteArray) = s := by rw [he]
              have hno : Hid (numP s.data.toList = some (-(V : Int))) := by
                show _ = _
                unfold numP
                rw [if_pos ⟨Hd, by rw [(hnum : _ = _)]; exact Hw, by rw [(hnum : _ = _)]; exact he⟩, (hnum : _ = _)]
              rw [hT]
              clear he hT
              go_wp2_with fail
              go_ret2
              exact ⟨by rw [(hno : _ = _)]; rfl, Q3⟩
            · have hno : Hid (numP s.data.toList = none) := by
                show _ = _
                unfold numP
                rw [if_neg (fun q => he (by rw [← (hnum : _ = _)]; exact q.2.2))]
              have hT := str_ne (a := ⟨(decI (-(V : Int))).toArray⟩) (b := s) (fun q => he (by rw [← q]))
              obtain ⟨T, hTe⟩ : ∃ T : ByteArray, (⟨(decI (-(V : Int))).toArray⟩ : ByteArray) = T := ⟨_, rfl⟩
              rw [hTe] at hT ⊢
              clear he hTe
              go_wp2_with fail
              go_ret2
              exact ⟨by rw [(hno : _ = _)]; rfl, Q3⟩
          · have hno : Hid (numP s.data.toList = none) := by
              show _ = _
              unfold numP
              rw [if_neg (fun q => hw (by rw [← (hnum : _ = _)]; exact q.2.1))]
            have hw1 : -(V : Int) < -1000000000000 := by omega
            
            clear hw
            go_wp2_with fail
            go_ret2
            exact ⟨by rw [(hno : _ = _)]; rfl, Below.refl _ _⟩
    · exact absurd hs0 (by rw [‹s = ByteArray.empty›]; decide)
    · go_ret2
      have h8 : ¬ (1 ≤ s.data.toList.length ∧ s.data.toList.length ≤ 13) := by
        rcases ‹(((s.size : Nat) : Int) == 0) = true ∨ (13 : Int) < ((s.size : Nat) : Int)› with h9 | h9
        · have := eq_of_beq h9
          omega
        · omega
      exact ⟨by rw [numP_out0 (by rw [hhead]; exact fun q => h45 (by rw [Option.some.inj q]; rfl)) h8]; rfl, Below.refl _ _⟩
    · have h9 := ‹(((s.size : Nat) : Int) == 0) = false ∧ ((s.size : Nat) : Int) ≤ 13›
      have h10 := h9.2
      clear h9
      have hz : s.size ≤ 13 ∧ 0 ≤ s.size := by
        omega
      obtain ⟨hz1, hz2⟩ := hz
      have hb0 : Hid (body (s.data.toList.take 0) = []) := rfl
      have h0 : Hid (∀ (k : Nat) (b : UInt8), 0 ≤ k → s.data.toList[k]? = some b → ¬ (k = 0 ∧ b = 45)) := fun k b hk hb q => by
        obtain ⟨rfl, rfl⟩ := q; rw [byte_at hs0] at hb; exact h45 (by rw [Option.some.inj hb]; rfl)
      have Hhd : Hid (¬ s.data.toList.head? = some 45) := by
        intro q; rw [List.head?_eq_getElem?, byte_at hs0] at q; exact h45 (by rw [Option.some.inj q]; rfl)
      rename (((s[0]'hs0).toNat : Int) == 45) = false => hx
      clear hx h45 hhead hlen
      generalize (s[0]'hs0).toNat = B0
      clear hs0
      go_loopw [5, 6] (fun n i wr => ∃ k : Nat, 0 ≤ k ∧ k ≤ s.size ∧ i = .int .i64 k ∧ n = .int .i64 (valN (body (s.data.toList.take k))) ∧ (body (s.data.toList.take k)).all isD = true ∧ wr = w) (fun _ i _ => s.size - (intOf i).toNat)
      case atStart => exact ⟨0, by omega, hz2, rfl, by rw [(hb0 : _ = _)]; rfl, by rw [(hb0 : _ = _)]; rfl, rfl⟩
      case round =>
        obtain ⟨k, hAk, hk, rfl, rfl, hd, rfl⟩ := hrel
        have hV1 := valN_le _ _ rfl hd
        have hV2 : (body (s.data.toList.take k)).length ≤ k := Nat.le_trans (body_len _) (by rw [List.length_take]; omega)
        obtain ⟨V, hV⟩ : ∃ V, valN (body (s.data.toList.take k)) = V := ⟨_, rfl⟩
        have hV3 : V < 10 ^ 14 := by
          rw [← hV]
          exact Nat.lt_of_lt_of_le hV1 (Nat.pow_le_pow_right (by decide) (by omega))
        have HV := Lib.hid hV
        have Hd := Lib.hid hd
        rw [hV]
        clear hV1 hV2 hV hd hb0
        have hV4 : (V : Int) < 100000000000000 := by omega
        clear hV3
        have HAk := Lib.hid hAk
        by_cases hlt : k < s.size
        · obtain ⟨b, hbe⟩ : ∃ b, s[k]'hlt = b := ⟨_, rfl⟩
          have hat := Lib.hid (byte_at hlt)
          rw [hbe] at hat
          obtain ⟨B, hB⟩ : ∃ B, (s[k]'hlt).toNat = B := ⟨_, rfl⟩
          have hbB : b.toNat = B := by rw [← hbe]; exact hB
          have HbB := Lib.hid hbB
          have Hm2 := Lib.hid ((h0 : ∀ _ _, _) k b hAk hat)
          clear hbe hbB hAk
          by_cases hd1 : B < 48
          · have hno : Hid (numP s.data.toList = none) := body_bad hat Hm2 (decide_eq_false (by rw [(HbB : b.toNat = B)]; omega))
            have hd2 : (B : Int) < 48 := by omega
            go_wp2_with fail
            go_ret2
            exact ⟨by rw [(hno : _ = _)]; rfl, Below.refl _ _⟩
          · by_cases hd3 : 57 < B
            · have hno : Hid (numP s.data.toList = none) := body_bad hat Hm2 (decide_eq_false (by rw [(HbB : b.toNat = B)]; omega))
              have hd2 : ¬ (B : Int) < 48 := by omega
              have hd4 : (57 : Int) < (B : Int) := by omega
              go_wp2_with fail
              go_ret2
              exact ⟨by rw [(hno : _ = _)]; rfl, Below.refl _ _⟩
            · have hd2 : ¬ (B : Int) < 48 := by omega
              have hd4 : ¬ (57 : Int) < (B : Int) := by omega
              have hB57 : (B : Int) ≤ 57 := by omega
              have hB48 : (48 : Int) ≤ (B : Int) := by omega
              have Hs := Lib.hid (body_snoc hat Hm2)
              have Hdb : Hid (isD b = true) := isD_of (by rw [(HbB : b.toNat = B)]; omega) (by rw [(HbB : b.toNat = B)]; omega)
              have Hrel : Hid (valN (body (s.data.toList.take (k + 1))) = 10 * V + (B - 48) ∧ (body (s.data.toList.take (k + 1))).all isD = true) := by
                rw [(Hs : _ = _), valN_snoc, (HV : _ = V), (HbB : b.toNat = B)]
                refine ⟨rfl, ?_⟩
                rw [List.all_append, (Hd : _ = true)]
                have : isD b = true := Hdb
                simp [this]
              go_wp2_with fail
              go_roundw
              case rel =>
                refine ⟨k + 1, Nat.le_succ_of_le HAk, by omega, by go_num, ?_, Hrel.2, by trivial⟩
                rw [Hrel.1]
                congr 1
                omega
              case measure => first | (simp [intOf]; done) | (simp [intOf]; omega)
        · have hke : k = s.size := by omega
          subst hke
          rw [show s.size = s.data.toList.length from (by simp), List.take_length] at HV Hd
          have hnum : Hid (numV s.data.toList = (V : Int)) := by
            have hhd : ¬ s.data.toList.head? = some 45 := Hhd
            show _ = _
            unfold numV
            rw [if_neg hhd, (HV : _ = V)]
          clear hk hlt hAk
          by_cases hw : ((V : Int)).natAbs ≤ 1000000000000
          · have hw1 : ¬ (V : Int) < -1000000000000 := by omega
            have hw2 : ¬ (1000000000000 : Int) < (V : Int) := by omega
            have Hw := Lib.hid hw
            clear hw
            go_wp2_with fail
            refine Calls.mono (rText_ok (V : Int) (by omega) wr) ?_
            rintro e w3 ⟨rfl, q3⟩
            have Q3 := Lib.hid q3
            clear q3
            by_cases he : decI (V : Int) = s.data.toList
            · have hT : (⟨(decI (V : Int)).toArray⟩ : ByteArray) = s := by rw [he]
              have hno : Hid (numP s.data.toList = some (V : Int)) := by
                show _ = _
                unfold numP
                rw [if_pos ⟨Hd, by rw [(hnum : _ = _)]; exact Hw, by rw [(hnum : _ = _)]; exact he⟩, (hnum : _ = _)]
              rw [hT]
              clear he hT
              go_wp2_with fail
              go_ret2
              exact ⟨by rw [(hno : _ = _)]; rfl, Q3⟩
            · have hno : Hid (numP s.data.toList = none) := by
                show _ = _
                unfold numP
                rw [if_neg (fun q => he (by rw [← (hnum : _ = _)]; exact q.2.2))]
              have hT := str_ne (a := ⟨(decI (V : Int)).toArray⟩) (b := s) (fun q => he (by rw [← q]))
              obtain ⟨T, hTe⟩ : ∃ T : ByteArray, (⟨(decI (V : Int)).toArray⟩ : ByteArray) = T := ⟨_, rfl⟩
              rw [hTe] at hT ⊢
              clear he hTe
              go_wp2_with fail
              go_ret2
              exact ⟨by rw [(hno : _ = _)]; rfl, Q3⟩
          · have hno : Hid (numP s.data.toList = none) := by
              show _ = _
              unfold numP
              rw [if_neg (fun q => hw (by rw [← (hnum : _ = _)]; exact q.2.1))]
            have hw1 : ¬ (V : Int) < -1000000000000 := by omega
            have hw2 : (1000000000000 : Int) < (V : Int) := by omega
            clear hw
            go_wp2_with fail
            go_ret2
            exact ⟨by rw [(hno : _ = _)]; rfl, Below.refl _ _⟩
  · have hs : s = ByteArray.empty := by simpa using hs0
    subst hs
    go_wp2_with fail
    go_ret2
    exact ⟨by rw [numP_out0 (by decide) (by decide)]; rfl, Below.refl _ _⟩
end Go.Proofs.R50
end
