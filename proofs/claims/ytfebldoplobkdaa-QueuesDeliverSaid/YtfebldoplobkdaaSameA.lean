/- Equality of lists of numbers and of texts: a list is equal to itself. -/
import Derived.Test.YtfebldoplobkdaaMem
import Derived.Test.YtfebldoplobkdaaRows
namespace Go.Proofs.Ytfebldoplobkdaa
open Go.ChangeShapes Go.WideShapes Go.ChangeAt Go.RowKit

set_option maxRecDepth 100000 in
set_option maxHeartbeats 1000000 in
theorem sameInts (v : Value) (n : Nat) (xs : List Int) (w : World) (h : Row w v 1 n (xs.map (Value.int .i64))) :
    Calls Try.prog 33 #[v, v] w fun x w' => x = .returned (.bool true) ∧ Below w.heap.size w w' := by
  obtain ⟨ao, cap, rfl, hnc, hcap, hlen, hcell⟩ := h
  have q0 := Below.refl w.heap.size w
  have hl : xs.length = n := by simpa using hlen
  clear hlen
  go_enter Try.func33, Try.ntmps33
  go_wp2_with fail
  go_loopw [5] (fun i wr => ∃ k : Nat, k ≤ n ∧ i = .int .i64 k ∧ Below w.heap.size w wr) (fun i _ => n - (intOf i).toNat)
  case atStart => exact ⟨0, Nat.zero_le _, rfl, q0⟩
  case round =>
    clear q0
    obtain ⟨k, hk, rfl, q⟩ := hrel
    by_cases hlt : k < n
    · obtain ⟨b, off, rfl, hb, hc⟩ := hcell (by omega)
      have hu : (xs.map (Value.int .i64))[k]? = some ((Value.int .i64) xs[k]) := by simp [hl, hlt]
      have hk0 := hc k _ hu
      clear hu hc hcell
      generalize xs[k] = u at *
      go_wp2_with fail
      have hx : ∀ X : Ext wr, X.val.cell? ⟨b, off + k, none⟩ = some ((Value.int .i64) u) := fun X => (ext_cell q hb X _).trans hk0
      refine wp_region_ext (by kernel_rfl) (by kernel_rfl) ?_
      repeat (go_big_quiet_step (fail))
      refine wpQuiet_nil ?_
      intro X
      have q' := q.trans (X.below.mono q.size)
      go_wp2_with fail
      go_roundw
      case rel => exact ⟨k + 1, by omega, by go_num, q'⟩
      case measure => simp [intOf]; omega
    · go_wp2_with fail
      go_ret
      exact ⟨rfl, q⟩

set_option maxRecDepth 100000 in
set_option maxHeartbeats 1000000 in
theorem sameTexts (v : Value) (n : Nat) (xs : List ByteArray) (w : World) (h : Row w v 1 n (xs.map Value.string)) :
    Calls Try.prog 46 #[v, v] w fun x w' => x = .returned (.bool true) ∧ Below w.heap.size w w' := by
  obtain ⟨ao, cap, rfl, hnc, hcap, hlen, hcell⟩ := h
  have q0 := Below.refl w.heap.size w
  have hl : xs.length = n := by simpa using hlen
  clear hlen
  go_enter Try.func46, Try.ntmps46
  go_wp2_with fail
  go_loopw [5] (fun i wr => ∃ k : Nat, k ≤ n ∧ i = .int .i64 k ∧ Below w.heap.size w wr) (fun i _ => n - (intOf i).toNat)
  case atStart => exact ⟨0, Nat.zero_le _, rfl, q0⟩
  case round =>
    clear q0
    obtain ⟨k, hk, rfl, q⟩ := hrel
    by_cases hlt : k < n
    · obtain ⟨b, off, rfl, hb, hc⟩ := hcell (by omega)
      have hu : (xs.map Value.string)[k]? = some (Value.string xs[k]) := by simp [hl, hlt]
      have hk0 := hc k _ hu
      clear hu hc hcell
      generalize xs[k] = u at *
      go_wp2_with fail
      have hx : ∀ X : Ext wr, X.val.cell? ⟨b, off + k, none⟩ = some (Value.string u) := fun X => (ext_cell q hb X _).trans hk0
      refine wp_region_ext (by kernel_rfl) (by kernel_rfl) ?_
      repeat (go_big_quiet_step (fail))
      refine wpQuiet_nil ?_
      intro X
      have q' := q.trans (X.below.mono q.size)
      go_wp2_with fail
      go_roundw
      case rel => exact ⟨k + 1, by omega, by go_num, q'⟩
      case measure => simp [intOf]; omega
    · go_wp2_with fail
      go_ret
      exact ⟨rfl, q⟩

end Go.Proofs.Ytfebldoplobkdaa
