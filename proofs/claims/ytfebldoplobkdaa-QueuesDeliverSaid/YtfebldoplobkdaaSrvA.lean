/- Names of servers: ids.Server and its reference. -/
import Derived.Test.YtfebldoplobkdaaMem
import Derived.Test.YtfebldoplobkdaaRows
namespace Go.Proofs.Ytfebldoplobkdaa
open Go.ChangeShapes Go.WideShapes Go.ChangeAt Go.RowKit

def lettB (c : Int) : Bool := decide ((97 ≤ c ∧ c ≤ 122) ∨ (48 ≤ c ∧ c ≤ 57))
def dotB (c : Int) : Bool := decide (c = 46 ∨ c = 45)
def hostB (c : Int) : Bool := lettB c || dotB c
theorem ret_bool {a b : Bool} (h : a = b) : Ending.returned (.bool a) = .returned (.bool b) := by rw [h]
theorem lettB_yes {c : Int} (h : (97 ≤ c ∧ c ≤ 122) ∨ (48 ≤ c ∧ c ≤ 57)) : lettB c = true := by unfold lettB; simpa using h
theorem lettB_no {c : Int} (h : ¬ ((97 ≤ c ∧ c ≤ 122) ∨ (48 ≤ c ∧ c ≤ 57))) : lettB c = false := by unfold lettB; simpa using h
theorem dotB_yes {c : Int} (h : c = 46 ∨ c = 45) : dotB c = true := by unfold dotB; simpa using h
theorem dotB_no {c : Int} (h : ¬ (c = 46 ∨ c = 45)) : dotB c = false := by unfold dotB; simpa using h
theorem dotB_beq {c : Int} : dotB c = ((c == 46) || (c == 45)) := by
  unfold dotB
  by_cases h1 : c = 46 <;> by_cases h2 : c = 45 <;> simp [h1, h2]

/-- A server's name. -/
structure Srv (s : ByteArray) : Prop where
  lo : 1 ≤ s.size
  hi : s.size ≤ 32
  all : ∀ i (h : i < s.size), hostB (s[i].toNat : Int) = true
  fst : ∀ h : 0 < s.size, lettB ((s[0]'h).toNat : Int) = true
  lst : ∀ h : s.size - 1 < s.size, lettB ((s[s.size - 1]'h).toNat : Int) = true

theorem letter (c : Int) (w : World) : Calls Try.prog 50 #[.int .u8 c] w fun x w' => x = .returned (.bool (lettB c)) ∧ Below w.heap.size w w' := by
  by_cases h1 : 97 ≤ c
  · by_cases h2 : c ≤ 122
    · rw [lettB_yes (by omega)]
      go_enter Try.func50, Try.ntmps50
      go_wp2
      go_ret
      exact ⟨rfl, Below.refl _ _⟩
    · rw [lettB_no (by omega)]
      have h5 : decide (c ≤ 57) = false := by simp; omega
      go_enter Try.func50, Try.ntmps50
      go_wp2
      go_ret
      exact ⟨rfl, Below.refl _ _⟩
  · by_cases h3 : 48 ≤ c
    · by_cases h4 : c ≤ 57
      · rw [lettB_yes (by omega)]
        go_enter Try.func50, Try.ntmps50
        go_wp2
        go_ret
        exact ⟨rfl, Below.refl _ _⟩
      · rw [lettB_no (by omega)]
        have h5 : decide (c ≤ 57) = false := by simp; omega
        go_enter Try.func50, Try.ntmps50
        go_wp2
        go_ret
        exact ⟨rfl, Below.refl _ _⟩
    · rw [lettB_no (by omega)]
      go_enter Try.func50, Try.ntmps50
      go_wp2
      go_ret
      exact ⟨rfl, Below.refl _ _⟩

theorem rletter (c : Int) (w : World) : Calls Try.prog 38 #[.int .u8 c] w fun x w' => x = .returned (.bool (lettB c)) ∧ Below w.heap.size w w' := by
  by_cases h1 : 97 ≤ c
  · by_cases h2 : c ≤ 122
    · rw [lettB_yes (by omega)]
      go_enter Try.func38, Try.ntmps38
      go_wp2
      go_ret
      exact ⟨rfl, Below.refl _ _⟩
    · rw [lettB_no (by omega)]
      have h5 : decide (c ≤ 57) = false := by simp; omega
      go_enter Try.func38, Try.ntmps38
      go_wp2
      go_ret
      exact ⟨rfl, Below.refl _ _⟩
  · by_cases h3 : 48 ≤ c
    · by_cases h4 : c ≤ 57
      · rw [lettB_yes (by omega)]
        go_enter Try.func38, Try.ntmps38
        go_wp2
        go_ret
        exact ⟨rfl, Below.refl _ _⟩
      · rw [lettB_no (by omega)]
        have h5 : decide (c ≤ 57) = false := by simp; omega
        go_enter Try.func38, Try.ntmps38
        go_wp2
        go_ret
        exact ⟨rfl, Below.refl _ _⟩
    · rw [lettB_no (by omega)]
      go_enter Try.func38, Try.ntmps38
      go_wp2
      go_ret
      exact ⟨rfl, Below.refl _ _⟩

theorem other (c : Int) (w : World) : Calls Try.prog 49 #[.int .u8 c] w fun x w' => x = .returned (.bool (dotB c)) ∧ Below w.heap.size w w' := by
  by_cases h1 : c = 46
  · rw [dotB_yes (by omega)]
    have h1' : (c == 46) = true := by simp [h1]
    clear h1
    go_enter Try.func49, Try.ntmps49
    go_wp2
    go_ret
    exact ⟨rfl, Below.refl _ _⟩
  · have h1' : (c == 46) = false := by simp [h1]
    by_cases h2 : c = 45
    · rw [dotB_yes (by omega)]
      have h2' : (c == 45) = true := by simp [h2]
      clear h1 h2
      go_enter Try.func49, Try.ntmps49
      go_wp2
      go_ret
      exact ⟨rfl, Below.refl _ _⟩
    · rw [dotB_no (by omega)]
      have h2' : (c == 45) = false := by simp [h2]
      clear h1 h2
      go_enter Try.func49, Try.ntmps49
      go_wp2
      go_ret
      exact ⟨rfl, Below.refl _ _⟩

/-- All bytes before k are good. -/
def GoodTo (s : ByteArray) (k : Nat) : Prop := ∀ i (h : i < s.size), i < k → hostB (s[i].toNat : Int) = true
theorem GoodTo.zero {s : ByteArray} : GoodTo s 0 := fun i h hk => by omega
theorem GoodTo.step {s : ByteArray} {k : Nat} (h : GoodTo s k) (hk : k < s.size) (hc : hostB (s[k].toNat : Int) = true) : GoodTo s (k + 1) := fun i hi hik => by
  by_cases e : i = k
  · subst e; exact hc
  · exact h i hi (by omega)
theorem byte_bd (c : UInt8) : 0 ≤ (c.toNat : Int) ∧ (c.toNat : Int) ≤ 255 := by have := c.toNat_lt; omega

/-- What the loop over the bytes finds. -/
def ValidPost (s : ByteArray) (w : World) (x : Ending) (w' : World) : Prop := ∃ r : Bool, x = .returned (.bool r) ∧ (r = true ↔ 1 ≤ s.size ∧ s.size ≤ 32 ∧ ∀ i (h : i < s.size), hostB (s[i].toNat : Int) = true) ∧ Below w.heap.size w w'
theorem ValidPost.no {s : ByteArray} {w w' : World} (h : ¬ (1 ≤ s.size ∧ s.size ≤ 32 ∧ ∀ i (h : i < s.size), hostB (s[i].toNat : Int) = true)) (hb : Below w.heap.size w w') : ValidPost s w (.returned (.bool false)) w' := ⟨false, rfl, by simpa using h, hb⟩
theorem ValidPost.yes {s : ByteArray} {w w' : World} (h : 1 ≤ s.size ∧ s.size ≤ 32 ∧ ∀ i (h : i < s.size), hostB (s[i].toNat : Int) = true) (hb : Below w.heap.size w w') : ValidPost s w (.returned (.bool true)) w' := ⟨true, rfl, by simpa using h, hb⟩

set_option maxRecDepth 100000 in
set_option maxHeartbeats 1000000 in
theorem valid_any (s : ByteArray) (w : World) : Calls Try.prog 48 #[.string s, .func (.func 49) #[] #[]] w (ValidPost s w) := by
  have q0 := Below.refl w.heap.size w
  by_cases h1 : s.size < 1
  · go_enter Try.func48, Try.ntmps48
    go_wp2_with fail
    go_ret
    exact ValidPost.no (by omega) q0
  by_cases h2 : 32 < s.size
  · go_enter Try.func48, Try.ntmps48
    go_wp2_with fail
    go_ret
    exact ValidPost.no (by omega) q0
  go_enter Try.func48, Try.ntmps48
  go_wp2_with fail
  go_loopw [16] (fun i wr => ∃ k : Nat, k ≤ s.size ∧ i = .int .i64 k ∧ Below w.heap.size w wr ∧ GoodTo s k) (fun i _ => s.size - (intOf i).toNat)
  case atStart => exact ⟨0, Nat.zero_le _, rfl, q0, GoodTo.zero⟩
  case round =>
    clear q0
    obtain ⟨k, hk, rfl, q, G⟩ := hrel
    have HG : Hid (GoodTo s k) := Lib.hid G
    clear G
    by_cases hlt : k < s.size
    · have hbd := byte_bd s[k]
      cases hL : lettB (s[k].toNat : Int) with
      | true =>
        have hh : Hid (hostB (s[k].toNat : Int) = true) := Lib.hid (by unfold hostB; rw [hL]; rfl)
        have hL' := Lib.hid hL
        clear hL
        go_wp2_with fail
        refine (letter _ _).mono ?_
        rintro x w1 ⟨rfl, hb⟩
        rw [hL'.out]
        have q' := q.trans (hb.mono q.size)
        clear hb
        go_wp2_with fail
        go_roundw
        case rel => exact ⟨k + 1, by omega, by go_num, q', HG.out.step hlt hh.out⟩
        case measure => simp [intOf]; omega
      | false =>
        have hL' := Lib.hid hL
        cases hD : dotB (s[k].toNat : Int) with
        | true =>
          have hh : Hid (hostB (s[k].toNat : Int) = true) := Lib.hid (by unfold hostB; rw [hD]; simp)
          have hD' := Lib.hid hD
          clear hL hD
          go_wp2_with fail
          refine (letter _ _).mono ?_
          rintro x w1 ⟨rfl, hb⟩
          rw [hL'.out]
          have q' := q.trans (hb.mono q.size)
          clear hb
          go_wp2_with fail
          refine (other _ _).mono ?_
          rintro x w2 ⟨rfl, hb⟩
          rw [hD'.out]
          have q2 := q'.trans (hb.mono q'.size)
          clear hb
          go_wp2_with fail
          go_roundw
          case rel => exact ⟨k + 1, by omega, by go_num, q2, HG.out.step hlt hh.out⟩
          case measure => simp [intOf]; omega
        | false =>
          have hh : Hid (hostB (s[k].toNat : Int) = false) := Lib.hid (by unfold hostB; rw [hL, hD]; rfl)
          have hD' := Lib.hid hD
          clear hL hD
          go_wp2_with fail
          refine (letter _ _).mono ?_
          rintro x w1 ⟨rfl, hb⟩
          rw [hL'.out]
          have q' := q.trans (hb.mono q.size)
          clear hb
          go_wp2_with fail
          refine (other _ _).mono ?_
          rintro x w2 ⟨rfl, hb⟩
          rw [hD'.out]
          have q2 := q'.trans (hb.mono q'.size)
          clear hb
          go_wp2_with fail
          go_ret
          exact ValidPost.no (fun h => by rw [h.2.2 k hlt] at hh; exact absurd hh.out (by simp)) q2
    · go_wp2_with fail
      go_ret
      exact ValidPost.yes ⟨by omega, by omega, fun i hi => HG.out i hi (by omega)⟩ q

end Go.Proofs.Ytfebldoplobkdaa
