/- Identifiers of events: HasId, twice. -/
import Derived.Test.YtfebldoplobkdaaAll
import Derived.Test.YtfebldoplobkdaaSrvB
namespace Go.Proofs.Ytfebldoplobkdaa
open Go.ChangeShapes Go.WideShapes Go.ChangeAt Go.RowKit

/-- The identifier of an event. -/
def idOf : List Value → Int
  | .int _ n :: _ => n
  | _ => 0
theorem EvOK.id_ {w : World} {cs : List Value} (h : EvOK w cs) : cs[0]? = some (.int .i64 (idOf cs)) := by
  obtain ⟨_, _, _, _, _, _, _, _, _, _, _, _, _, _, _, _, _, _, _, _, _, _, _, _, _, _, _, _, _, rfl, _⟩ := h
  rfl
def hasB (es : List (List Value)) (id : Int) : Bool := es.any fun c => idOf c == id
theorem hasB_yes {es : List (List Value)} {id : Int} {k : Nat} (hk : k < es.length) (h : (idOf es[k] == id) = true) : hasB es id = true := List.any_eq_true.2 ⟨es[k], List.getElem_mem _, h⟩
theorem hasB_no {es : List (List Value)} {id : Int} (h : ∀ i (hi : i < es.length), (idOf es[i] == id) = false) : hasB es id = false := by
  unfold hasB
  rw [List.any_eq_false]
  intro c hc
  obtain ⟨i, hi, rfl⟩ := List.mem_iff_getElem.1 hc
  simp [h i hi]
def NoneTo (es : List (List Value)) (id : Int) (k : Nat) : Prop := ∀ i (hi : i < es.length), i < k → (idOf es[i] == id) = false
theorem NoneTo.zero {es : List (List Value)} {id : Int} : NoneTo es id 0 := fun i hi h => by omega
theorem NoneTo.step {es : List (List Value)} {id : Int} {k : Nat} (h : NoneTo es id k) (hk : k < es.length) (hc : (idOf es[k] == id) = false) : NoneTo es id (k + 1) := fun i hi hik => by
  by_cases e : i = k
  · subst e; exact hc
  · exact h i hi (by omega)

/-- The identifier of an element: where it lies, in a later world. -/
theorem Evs.idAt {w wr : World} {ao : Option Addr} {n cap : Nat} {es : List (List Value)} (h : Evs w (.slice ao n cap) es) (q : Below w.heap.size w wr) {k : Nat} (hk : k < es.length) :
    ∃ b off, ao = some ⟨b, off, none⟩ ∧ b < w.heap.size ∧ wr.cell? ⟨b, off + k * 29, none⟩ = some (.int .i64 (idOf es[k])) := by
  obtain ⟨b, off, e, hb, hr, he⟩ := h.at_ hk
  exact ⟨b, off, e, hb, by have := rangeAt_on hr hb q 0 _ he.id_; simpa using this⟩

set_option maxRecDepth 100000 in
set_option maxHeartbeats 1000000 in
theorem hasId_any (v : Value) (es : List (List Value)) (id : Int) (w : World) (h : Evs w v es) :
    Calls Try.prog 28 #[v, .int .i64 id] w fun x w' => x = .returned (.bool (hasB es id)) ∧ Below w.heap.size w w' := by
  obtain ⟨ao, cap, rfl, hl, hcap⟩ := h.form
  have q0 := Below.refl w.heap.size w
  go_enter Try.func28, Try.ntmps28
  go_wp2_with fail
  go_loopw [5] (fun i wr => ∃ k : Nat, k ≤ es.length ∧ i = .int .i64 k ∧ Below w.heap.size w wr ∧ NoneTo es id k) (fun i _ => es.length - (intOf i).toNat)
  case atStart => exact ⟨0, Nat.zero_le _, rfl, q0, NoneTo.zero⟩
  case round =>
    clear q0
    obtain ⟨k, hk, rfl, q, G⟩ := hrel
    have HG := Lib.hid G
    clear G
    by_cases hlt : k < es.length
    · obtain ⟨b, off, rfl, hb, hc⟩ := h.idAt q hlt
      cases hE : (idOf es[k] == id) with
      | true =>
        have hY := Lib.hid (hasB_yes hlt hE)
        clear h
        generalize idOf es[k] = m at *
        go_wp2_with fail
        go_ret
        exact ⟨ret_bool hY.out.symm, q⟩
      | false =>
        have hN := Lib.hid (HG.out.step hlt hE)
        clear h
        generalize idOf es[k] = m at *
        go_wp2_with fail
        go_roundw
        case rel => exact ⟨k + 1, by omega, by go_num, q, hN.out⟩
        case measure => simp [intOf]; omega
    · go_wp2_with fail
      go_ret
      exact ⟨ret_bool (hasB_no fun i hi => HG.out i hi (by omega)).symm, q⟩

/-- Two events with one identifier. -/
def TwicePost (es : List (List Value)) (w : World) (x : Ending) (w' : World) : Prop := ∃ r : Bool, x = .returned (.bool r) ∧ (r = true ↔ ¬ (es.map idOf).Nodup) ∧ Below w.heap.size w w'
theorem TwicePost.mk' {es : List (List Value)} {w w' : World} (r : Bool) (h : r = true ↔ ¬ (es.map idOf).Nodup) (hb : Below w.heap.size w w') : TwicePost es w (.returned (.bool r)) w' := ⟨r, rfl, h, hb⟩
/-- No two of the first k, and of element k none of the first j. -/
def ApartTo (es : List (List Value)) (k j : Nat) : Prop := (∀ a b (ha : a < es.length) (hb : b < es.length), b < a → a < k → idOf es[a] ≠ idOf es[b]) ∧ ∀ b (hk : k < es.length) (hb : b < es.length), b < j → idOf es[k] ≠ idOf es[b]
theorem ApartTo.zero {es : List (List Value)} : ApartTo es 0 0 := ⟨fun _ _ _ _ _ h => by omega, fun _ _ _ h => by omega⟩
theorem ApartTo.inner {es : List (List Value)} {k j : Nat} (h : ApartTo es k j) (hk : k < es.length) (hj : j < es.length) (he : (idOf es[k] == idOf es[j]) = false) : ApartTo es k (j + 1) := ⟨h.1, fun b hk' hb hbj => by
  by_cases e : b = j
  · subst e; simpa using he
  · exact h.2 b hk' hb (by omega)⟩
theorem ApartTo.outer {es : List (List Value)} {k : Nat} (h : ApartTo es k k) : ApartTo es (k + 1) 0 := ⟨fun a b ha hb hba hak => by
  by_cases e : a = k
  · subst e; exact h.2 b ha hb hba
  · exact h.1 a b ha hb hba (by omega), fun _ _ _ h => by omega⟩
theorem ApartTo.nodup {es : List (List Value)} (h : ApartTo es es.length 0) : (es.map idOf).Nodup := by
  rw [List.nodup_iff_pairwise_ne, List.pairwise_iff_getElem]
  intro i j hi hj hij
  simp only [List.length_map] at hi hj
  simp only [List.getElem_map]
  exact fun e => h.1 j i hj hi hij hj e.symm
theorem twice_dup {es : List (List Value)} {k j : Nat} (hk : k < es.length) (hj : j < k) (he : (idOf es[k] == idOf es[j]) = true) : ¬ (es.map idOf).Nodup := fun hn => by
  rw [List.nodup_iff_pairwise_ne, List.pairwise_iff_getElem] at hn
  have := hn j k (by simp; omega) (by simpa using hk) hj
  simp only [List.getElem_map] at this
  exact this (by simpa using (beq_iff_eq.1 he).symm)

set_option maxRecDepth 100000 in
set_option maxHeartbeats 1000000 in
theorem twice_any (v : Value) (es : List (List Value)) (w : World) (h : Evs w v es) : Calls Try.prog 40 #[v] w (TwicePost es w) := by
  obtain ⟨ao, cap, rfl, hl, hcap⟩ := h.form
  have q0 := Below.refl w.heap.size w
  go_enter Try.func40, Try.ntmps40
  go_wp2_with fail
  go_loopw [7] (fun i wr => ∃ k : Nat, k ≤ es.length ∧ i = .int .i64 k ∧ Below w.heap.size w wr ∧ ApartTo es k 0) (fun i _ => es.length - (intOf i).toNat)
  case atStart => exact ⟨0, Nat.zero_le _, rfl, q0, ApartTo.zero⟩
  case round =>
    clear q0
    obtain ⟨k, hk, rfl, q, G⟩ := hrel
    have HG := Lib.hid G
    clear G
    by_cases hlt : k < es.length
    · go_wp2_with fail
      obtain ⟨wo, rfl⟩ : ∃ wo : World, wo = wr := ⟨_, rfl⟩
      go_loopw [11] (fun i wr => ∃ j : Nat, j ≤ k ∧ i = .int .i64 j ∧ Below w.heap.size w wr ∧ ApartTo es k j) (fun i _ => k - (intOf i).toNat)
      case atStart => exact ⟨0, Nat.zero_le _, rfl, q, HG.out⟩
      case round =>
        clear q HG
        obtain ⟨j, hj, rfl, q, G⟩ := hrel
        have HG := Lib.hid G
        clear G
        by_cases hjk : j < k
        · obtain ⟨b, off, rfl, hb, hc⟩ := h.idAt q hlt
          obtain ⟨b', off', e', hb', hc'⟩ := h.idAt q (show j < es.length by omega)
          obtain ⟨rfl, rfl⟩ : b = b' ∧ off = off' := by simpa using e'
          clear e'
          cases hE : (idOf es[k] == idOf es[j]) with
          | true =>
            have hY := Lib.hid (twice_dup hlt hjk hE)
            clear h
            generalize idOf es[k] = m at *
            generalize idOf es[j] = m' at *
            go_wp2_with fail
            have hx : ∀ X : Ext wr, X.val.cell? ⟨b, off + k * 29, none⟩ = some (.int .i64 m) := fun X => (ext_cell (Below.refl _ _) (Nat.lt_of_lt_of_le hb q.size) X _).trans hc
            have hy : ∀ X : Ext wr, X.val.cell? ⟨b, off + j * 29, none⟩ = some (.int .i64 m') := fun X => (ext_cell (Below.refl _ _) (Nat.lt_of_lt_of_le hb q.size) X _).trans hc'
            clear hc hc'
            refine wp_region_ext (by kernel_rfl) (by kernel_rfl) ?_
            repeat (first | go_big_quiet_skip | (go_big_quiet_want; (first | (go_big_quiet_op; (first | go_big_quiet_on | go_big_quiet_call (fail))))))
            refine wpQuiet_nil ?_
            intro X
            have q' := q.trans (X.below.mono q.size)
            clear hx hy
            go_wp2_with fail
            go_ret
            exact TwicePost.mk' true ⟨fun _ => hY.out, fun _ => rfl⟩ q'
          | false =>
            have hN := Lib.hid (HG.out.inner hlt (by omega) hE)
            clear h
            generalize idOf es[k] = m at *
            generalize idOf es[j] = m' at *
            go_wp2_with fail
            have hx : ∀ X : Ext wr, X.val.cell? ⟨b, off + k * 29, none⟩ = some (.int .i64 m) := fun X => (ext_cell (Below.refl _ _) (Nat.lt_of_lt_of_le hb q.size) X _).trans hc
            have hy : ∀ X : Ext wr, X.val.cell? ⟨b, off + j * 29, none⟩ = some (.int .i64 m') := fun X => (ext_cell (Below.refl _ _) (Nat.lt_of_lt_of_le hb q.size) X _).trans hc'
            clear hc hc'
            refine wp_region_ext (by kernel_rfl) (by kernel_rfl) ?_
            repeat (first | go_big_quiet_skip | (go_big_quiet_want; (first | (go_big_quiet_op; (first | go_big_quiet_on | go_big_quiet_call (fail))))))
            refine wpQuiet_nil ?_
            intro X
            have q' := q.trans (X.below.mono q.size)
            clear hx hy
            go_wp2_with fail
            go_roundw
            case rel => exact ⟨j + 1, by omega, by go_num, q', hN.out⟩
            case measure => simp [intOf]; omega
        · obtain rfl : j = k := by omega
          go_wp2_with fail
          go_roundw
          case rel => exact ⟨j + 1, by omega, by go_num, q, HG.out.outer⟩
          case measure => simp [intOf]; omega
    · obtain rfl : k = es.length := by omega
      go_wp2_with fail
      go_ret
      exact TwicePost.mk' false ⟨fun h => by simp at h, fun h => absurd HG.out.nodup h⟩ q

end Go.Proofs.Ytfebldoplobkdaa
