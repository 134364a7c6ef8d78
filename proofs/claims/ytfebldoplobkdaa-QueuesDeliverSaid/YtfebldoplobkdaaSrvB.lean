/- Names of servers: the two functions answer alike. -/
import Derived.Test.YtfebldoplobkdaaSrvA
namespace Go.Proofs.Ytfebldoplobkdaa
open Go.ChangeShapes Go.WideShapes Go.ChangeAt Go.RowKit

def SrvPost (s : ByteArray) (w : World) (x : Ending) (w' : World) : Prop := ∃ r : Bool, x = .returned (.bool r) ∧ (r = true ↔ Srv s) ∧ Below w.heap.size w w'
theorem SrvPost.mk' {s : ByteArray} {w w' : World} (r : Bool) (h : r = true ↔ Srv s) (hb : Below w.heap.size w w') : SrvPost s w (.returned (.bool r)) w' := ⟨r, rfl, h, hb⟩

set_option maxRecDepth 100000 in
set_option maxHeartbeats 1000000 in
theorem server_any (s : ByteArray) (w : World) (hs : s.size ≤ 9223372036854775807) : Calls Try.prog 44 #[.string s] w (SrvPost s w) := by
  have q0 := Below.refl w.heap.size w
  go_enter Try.func44, Try.ntmps44
  go_wp2_with fail
  refine (valid_any s _).mono ?_
  rintro x w1 ⟨r, rfl, hr, hb⟩
  have q1 := q0.trans (hb.mono q0.size)
  have HR := Lib.hid hr
  clear hr hb q0
  cases r with
  | false =>
    go_wp2_with fail
    go_ret
    exact SrvPost.mk' false ⟨fun h => by simp at h, fun h => HR.out.2 ⟨h.lo, h.hi, h.all⟩⟩ q1
  | true =>
    obtain ⟨g1, g2, g3⟩ := HR.out.1 rfl
    have G3 := Lib.hid g3
    clear g3 HR
    have h0 : 0 < s.size := by omega
    have hz : s.size - 1 < s.size := by omega
    cases hL : lettB ((s[0]'h0).toNat : Int) with
    | false =>
      have HL := Lib.hid hL
      clear hL
      go_wp2_with fail
      refine (letter _ _).mono ?_
      rintro x w2 ⟨rfl, hb⟩
      rw [HL.out]
      have q2 := q1.trans (hb.mono q1.size)
      clear hb
      go_wp2_with fail
      go_ret
      exact SrvPost.mk' false ⟨fun h => by simp at h, fun h => by rw [h.fst h0] at HL; exact absurd HL.out (by simp)⟩ q2
    | true =>
      have HL := Lib.hid hL
      clear hL
      cases hK : lettB ((s[s.size - 1]'hz).toNat : Int) with
      | false =>
        have HK := Lib.hid hK
        clear hK
        go_wp2_with fail
        refine (letter _ _).mono ?_
        rintro x w2 ⟨rfl, hb⟩
        rw [HL.out]
        have q2 := q1.trans (hb.mono q1.size)
        clear hb
        go_wp2_with fail
        refine (letter _ _).mono ?_
        rintro x w3 ⟨rfl, hb⟩
        rw [HK.out]
        have q3 := q2.trans (hb.mono q2.size)
        clear hb
        go_wp2_with fail
        go_ret
        exact SrvPost.mk' false ⟨fun h => by simp at h, fun h => by rw [h.lst hz] at HK; exact absurd HK.out (by simp)⟩ q3
      | true =>
        have HK := Lib.hid hK
        clear hK
        go_wp2_with fail
        refine (letter _ _).mono ?_
        rintro x w2 ⟨rfl, hb⟩
        rw [HL.out]
        have q2 := q1.trans (hb.mono q1.size)
        clear hb
        go_wp2_with fail
        refine (letter _ _).mono ?_
        rintro x w3 ⟨rfl, hb⟩
        rw [HK.out]
        have q3 := q2.trans (hb.mono q2.size)
        clear hb
        go_wp2_with fail
        go_ret
        exact SrvPost.mk' true ⟨fun _ => ⟨g1, g2, G3.out, fun _ => HL.out, fun _ => HK.out⟩, fun _ => rfl⟩ q3

theorem Server_yes (s : ByteArray) (w : World) (hs : s.size ≤ 9223372036854775807) (h : Srv s) : Calls Try.prog 39 #[.string s] w fun x w' => x = .returned (.int .i64 0) ∧ Below w.heap.size w w' := by
  have H := Lib.hid h
  clear h
  go_enter Try.func39, Try.ntmps39
  go_wp2_with fail
  refine (server_any s _ hs).mono ?_
  rintro x w1 ⟨r, rfl, hr, hb⟩
  obtain rfl : r = true := hr.2 H.out
  clear hr
  go_wp2_with fail
  go_ret
  exact ⟨rfl, hb⟩
theorem Server_no (s : ByteArray) (w : World) (hs : s.size ≤ 9223372036854775807) (h : ¬ Srv s) : Calls Try.prog 39 #[.string s] w fun x w' => x = .returned (.int .i64 3) ∧ Below w.heap.size w w' := by
  have H := Lib.hid h
  clear h
  go_enter Try.func39, Try.ntmps39
  go_wp2_with fail
  refine (server_any s _ hs).mono ?_
  rintro x w1 ⟨r, rfl, hr, hb⟩
  obtain rfl : r = false := by cases r with | false => rfl | true => exact absurd (hr.1 rfl) H.out
  clear hr
  go_wp2_with fail
  go_ret
  exact ⟨rfl, hb⟩

/-- The reference's answer. -/
def RSrvPost (s : ByteArray) (w : World) (x : Ending) (w' : World) : Prop := ((Srv s ∧ x = .returned (.int .i64 0)) ∨ (¬ Srv s ∧ x = .returned (.int .i64 3))) ∧ Below w.heap.size w w'
theorem RSrvPost.yes {s : ByteArray} {w w' : World} (h : Srv s) (hb : Below w.heap.size w w') : RSrvPost s w (.returned (.int .i64 0)) w' := ⟨.inl ⟨h, rfl⟩, hb⟩
theorem RSrvPost.no {s : ByteArray} {w w' : World} (h : ¬ Srv s) (hb : Below w.heap.size w w') : RSrvPost s w (.returned (.int .i64 3)) w' := ⟨.inr ⟨h, rfl⟩, hb⟩

set_option maxRecDepth 100000 in
set_option maxHeartbeats 1000000 in
theorem rServer_any (s : ByteArray) (w : World) (hs : s.size ≤ 9223372036854775807) : Calls Try.prog 25 #[.string s] w (RSrvPost s w) := by
  have q0 := Below.refl w.heap.size w
  by_cases h1 : s.size < 1
  · go_enter Try.func25, Try.ntmps25
    go_wp2_with fail
    go_ret
    exact RSrvPost.no (fun h => by have := h.lo; omega) q0
  by_cases h2 : 32 < s.size
  · go_enter Try.func25, Try.ntmps25
    go_wp2_with fail
    go_ret
    exact RSrvPost.no (fun h => by have := h.hi; omega) q0
  have h0 : 0 < s.size := by omega
  have hz : s.size - 1 < s.size := by omega
  cases hL : lettB ((s[0]'h0).toNat : Int) with
  | false =>
    have HL := Lib.hid hL
    clear hL
    go_enter Try.func25, Try.ntmps25
    go_wp2_with fail
    refine (rletter _ _).mono ?_
    rintro x w1 ⟨rfl, hb⟩
    rw [HL.out]
    have q1 := q0.trans (hb.mono q0.size)
    clear hb
    go_wp2_with fail
    go_ret
    exact RSrvPost.no (fun h => by rw [h.fst h0] at HL; exact absurd HL.out (by simp)) q1
  | true =>
  have HL := Lib.hid hL
  clear hL
  cases hK : lettB ((s[s.size - 1]'hz).toNat : Int) with
  | false =>
    have HK := Lib.hid hK
    clear hK
    go_enter Try.func25, Try.ntmps25
    go_wp2_with fail
    refine (rletter _ _).mono ?_
    rintro x w1 ⟨rfl, hb⟩
    rw [HL.out]
    have q1 := q0.trans (hb.mono q0.size)
    clear hb
    go_wp2_with fail
    refine (rletter _ _).mono ?_
    rintro x w2 ⟨rfl, hb⟩
    rw [HK.out]
    have q2 := q1.trans (hb.mono q1.size)
    clear hb
    go_wp2_with fail
    go_ret
    exact RSrvPost.no (fun h => by rw [h.lst hz] at HK; exact absurd HK.out (by simp)) q2
  | true =>
    have HK := Lib.hid hK
    clear hK
    go_enter Try.func25, Try.ntmps25
    go_wp2_with fail
    refine (rletter _ _).mono ?_
    rintro x w1 ⟨rfl, hb⟩
    rw [HL.out]
    have q1 := q0.trans (hb.mono q0.size)
    clear hb
    go_wp2_with fail
    refine (rletter _ _).mono ?_
    rintro x w2 ⟨rfl, hb⟩
    rw [HK.out]
    have q2 := q1.trans (hb.mono q1.size)
    clear hb
    go_wp2_with fail
    go_loopw [3] (fun i wr => ∃ k : Nat, k ≤ s.size ∧ i = .int .i64 k ∧ Below w.heap.size w wr ∧ GoodTo s k) (fun i _ => s.size - (intOf i).toNat)
    case atStart => exact ⟨0, Nat.zero_le _, rfl, q2, GoodTo.zero⟩
    case round =>
      clear q0 q1 q2
      obtain ⟨k, hk, rfl, q, G⟩ := hrel
      have HG : Hid (GoodTo s k) := Lib.hid G
      clear G
      by_cases hlt : k < s.size
      · have hbd := byte_bd s[k]
        cases hM : lettB (s[k].toNat : Int) with
        | true =>
          have hh : Hid (hostB (s[k].toNat : Int) = true) := Lib.hid (by unfold hostB; rw [hM]; rfl)
          have HM := Lib.hid hM
          clear hM
          go_wp2_with fail
          refine (rletter _ _).mono ?_
          rintro x w1 ⟨rfl, hb⟩
          rw [HM.out]
          have q' := q.trans (hb.mono q.size)
          clear hb
          go_wp2_with fail
          go_roundw
          case rel => exact ⟨k + 1, by omega, by go_num, q', HG.out.step hlt hh.out⟩
          case measure => simp [intOf]; omega
        | false =>
          have HM := Lib.hid hM
          have hD : dotB (s[k].toNat : Int) = (((s[k].toNat : Int) == 46) || ((s[k].toNat : Int) == 45)) := dotB_beq
          have HD := Lib.hid hD
          clear hM hD
          cases c46 : ((s[k].toNat : Int) == 46) with
          | true =>
            have hh : Hid (hostB (s[k].toNat : Int) = true) := Lib.hid (by unfold hostB; rw [HD.out, c46]; simp)
            have n46 : ((s[k].toNat : Int) != 46) = false := by rw [bne, c46]; rfl
            go_wp2_with fail
            refine (rletter _ _).mono ?_
            rintro x w1 ⟨rfl, hb⟩
            rw [HM.out]
            have q' := q.trans (hb.mono q.size)
            clear hb
            go_wp2_with fail
            go_roundw
            case rel => exact ⟨k + 1, by omega, by go_num, q', HG.out.step hlt hh.out⟩
            case measure => simp [intOf]; omega
          | false =>
            have n46 : ((s[k].toNat : Int) != 46) = true := by rw [bne, c46]; rfl
            cases c45 : ((s[k].toNat : Int) == 45) with
            | true =>
              have hh : Hid (hostB (s[k].toNat : Int) = true) := Lib.hid (by unfold hostB; rw [HD.out, c46, c45]; simp)
              have n45 : ((s[k].toNat : Int) != 45) = false := by rw [bne, c45]; rfl
              go_wp2_with fail
              refine (rletter _ _).mono ?_
              rintro x w1 ⟨rfl, hb⟩
              rw [HM.out]
              have q' := q.trans (hb.mono q.size)
              clear hb
              go_wp2_with fail
              go_roundw
              case rel => exact ⟨k + 1, by omega, by go_num, q', HG.out.step hlt hh.out⟩
              case measure => simp [intOf]; omega
            | false =>
              have hh : Hid (hostB (s[k].toNat : Int) = false) := Lib.hid (by unfold hostB; rw [HD.out, HM.out, c46, c45]; rfl)
              have n45 : ((s[k].toNat : Int) != 45) = true := by rw [bne, c45]; rfl
              go_wp2_with fail
              refine (rletter _ _).mono ?_
              rintro x w1 ⟨rfl, hb⟩
              rw [HM.out]
              have q' := q.trans (hb.mono q.size)
              clear hb
              go_wp2_with fail
              go_ret
              exact RSrvPost.no (fun h => by rw [h.all k hlt] at hh; exact absurd hh.out (by simp)) q'
      · go_wp2_with fail
        go_ret
        exact RSrvPost.yes ⟨by omega, by omega, fun i hi => HG.out i hi (by omega), fun _ => HL.out, fun _ => HK.out⟩ q

end Go.Proofs.Ytfebldoplobkdaa
