/- Small searches: Has, place, Same. -/
import Derived.Test.YtkagjfgjcbanpaaGreatCd

section
namespace Go.Proofs.R29
open Go.ChangeShapes Go.WideShapes Go.ChangeAt Go.RowKit

/-- The slice v shows the numbers xs. -/
def Ints (w : World) (v : Value) (xs : List Int) : Prop := Row w v 1 xs.length (xs.map (Value.int .i64))
theorem Ints.on {w w' : World} {v : Value} {xs : List Int} (h : Ints w v xs) (hb : Below w.heap.size w w') : Ints w' v xs := Row.on h hb
theorem Ints.form {w : World} {v : Value} {xs : List Int} (h : Ints w v xs) : ∃ ao cap, v = .slice ao xs.length cap ∧ xs.length ≤ cap ∧ cap ≤ 9223372036854775807 := by
  obtain ⟨ao, cap, h1, h2, h3, _⟩ := h
  exact ⟨ao, cap, h1, h2, h3⟩
theorem Ints.at_ {w : World} {ao : Option Addr} {n cap : Nat} {xs : List Int} (h : Ints w (.slice ao n cap) xs) {k : Nat} (hk : k < xs.length) :
    ∃ b off, ao = some ⟨b, off, none⟩ ∧ b < w.heap.size ∧ ∀ w', Below w.heap.size w w' → w'.cell? ⟨b, off + k, none⟩ = some (.int .i64 xs[k]) := by
  obtain ⟨ao', cap', h1, h2, h3, h4, h5⟩ := h
  cases h1
  obtain ⟨b, off, e, hb, hc⟩ := h5 (by omega)
  exact ⟨b, off, e, hb, fun w' q => (q.cell (p := ⟨b, off + k, none⟩) hb).trans (hc k _ (by simp [hk]))⟩

theorem mem_of_get {α : Type} {xs : List α} {k : Nat} (hk : k < xs.length) : xs[k] ∈ xs := List.getElem_mem hk

set_option maxRecDepth 100000 in
set_option maxHeartbeats 1000000 in
theorem has_ok (v : Value) (xs : List Int) (n : Int) (w : World) (h : Ints w v xs) :
    Calls Tryz.prog 26 #[v, .int .i64 n] w fun x w' => x = .returned (.bool (decide (n ∈ xs))) ∧ w' = w := by
  obtain ⟨ao, cap, rfl, hl, hcap⟩ := h.form
  go_enter Tryz.func26, Tryz.ntmps26
  go_wp2_with fail
  go_loopw [5] (fun i wr => ∃ k : Nat, k ≤ xs.length ∧ i = .int .i64 k ∧ wr = w ∧ ∀ j (hj : j < xs.length), j < k → xs[j] ≠ n) (fun i _ => xs.length - (intOf i).toNat)
  case atStart => exact ⟨0, Nat.zero_le _, rfl, rfl, fun j _ hj => by omega⟩
  case round =>
    obtain ⟨k, hk, rfl, rfl, hq⟩ := hrel
    have Hq := Lib.hid hq
    clear hq
    by_cases hlt : k < xs.length
    · obtain ⟨b, o, rfl, hb, hc⟩ := h.at_ hlt
      have hc := hc wr (Below.refl _ _)
      clear h
      by_cases he : xs[k] = n
      · have hmem : n ∈ xs := he ▸ mem_of_get hlt
        have Hm := Lib.hid hmem
        rw [he] at hc
        clear he hmem
        go_wp2_with fail
        go_ret
        exact ⟨by have : n ∈ xs := Hm; simp [this], rfl⟩
      · have Hk := Lib.hid he
        generalize hgx : xs[k] = xk at *
        have Hgx := Lib.hid hgx
        clear hgx
        go_wp2_with fail
        go_roundw
        case rel =>
          refine ⟨k + 1, by omega, by go_num, by trivial, fun j hj hjk => ?_⟩
          rcases Nat.lt_succ_iff_lt_or_eq.1 hjk with hj2 | rfl
          · exact Hq j hj hj2
          · have : xs[j] = xk := Hgx
            rw [this]
            exact Hk
        case measure => simp [intOf]; omega
    · go_wp2_with fail
      go_ret
      refine ⟨?_, rfl⟩
      have : n ∉ xs := fun hm => by
        obtain ⟨j, hj, e⟩ := List.getElem_of_mem hm
        exact Hq j hj (by omega) e
      simp [this]

/-- The id of an event. -/
def idOf : List Value → Int
  | .int _ n :: _ => n
  | _ => 0
theorem EvOK.id0 {w : World} {c : List Value} (h : EvOK w c) : c[0]? = some (.int .i64 (idOf c)) := by
  obtain ⟨id, _, _, _, _, _, _, _, _, _, _, _, _, _, _, _, _, _, _, _, _, _, _, _, _, _, _, _, _, rfl, _⟩ := h
  rfl

set_option maxRecDepth 100000 in
set_option maxHeartbeats 1000000 in
theorem place_ok (v : Value) (es : List (List Value)) (n : Int) (w : World) (h : Evs w v es) :
    Calls Tryz.prog 61 #[v, .int .i64 n] w fun x w' => (∃ r : Int, x = .returned (.int .i64 r) ∧ (r < 0 ↔ n ∉ es.map idOf)) ∧ w' = w := by
  obtain ⟨ao, cap, rfl, hl, hcap⟩ := h.form
  go_enter Tryz.func61, Tryz.ntmps61
  go_wp2_with fail
  go_loopw [5] (fun i wr => ∃ k : Nat, k ≤ es.length ∧ i = .int .i64 k ∧ wr = w ∧ ∀ j c, j < k → es[j]? = some c → idOf c ≠ n) (fun i _ => es.length - (intOf i).toNat)
  case atStart => exact ⟨0, Nat.zero_le _, rfl, rfl, fun j _ hj => by omega⟩
  case round =>
    obtain ⟨k, hk, rfl, rfl, hq⟩ := hrel
    have Hq := Lib.hid hq
    clear hq
    by_cases hlt : k < es.length
    · obtain ⟨b, o, rfl, hb, hr, he⟩ := h.at_ hlt
      have hc : wr.cell? ⟨b, o + k * 29 + 0, none⟩ = some (.int .i64 (idOf es[k])) := hr 0 _ he.id0
      simp only [Nat.add_zero] at hc
      have hget : es[k]? = some es[k] := by simp [hlt]
      clear h hr he
      generalize es[k] = c at *
      have Hg := Lib.hid hget
      clear hget
      by_cases hn : idOf c = n
      · have hmem : n ∈ es.map idOf := by
          have : es[k]? = some c := Hg
          rw [← hn]
          exact List.mem_map_of_mem (List.mem_of_getElem? this)
        have Hm := Lib.hid hmem
        rw [hn] at hc
        clear hn hmem
        go_wp2_with fail
        go_ret
        refine ⟨⟨k, rfl, ?_⟩, rfl⟩
        have : n ∈ es.map idOf := Hm
        constructor
        · intro h; omega
        · intro h; exact absurd this h
      · have Hk := Lib.hid hn
        generalize hgx : idOf c = xk at *
        have Hgx := Lib.hid hgx
        clear hgx
        go_wp2_with fail
        go_roundw
        case rel =>
          refine ⟨k + 1, by omega, by go_num, by trivial, fun j c' hjk hc' => ?_⟩
          rcases Nat.lt_succ_iff_lt_or_eq.1 hjk with hj2 | rfl
          · exact Hq j c' hj2 hc'
          · have h1 : es[j]? = some c := Hg
            rw [h1] at hc'
            cases hc'
            have h2 : idOf c = xk := Hgx
            rw [h2]
            exact Hk
        case measure => simp [intOf]; omega
    · go_wp2_with fail
      go_ret
      refine ⟨⟨-1, rfl, ?_⟩, rfl⟩
      constructor
      · intro _ hm
        obtain ⟨c, hc, e⟩ := List.mem_map.1 hm
        obtain ⟨j, hj, rfl⟩ := List.getElem_of_mem hc
        exact Hq j _ (by omega) (by simp [hj]) e
      · intro _; omega

set_option maxRecDepth 100000 in
set_option maxHeartbeats 1000000 in
theorem same_ok (v1 v2 : Value) (xs : List Int) (w : World) (h1 : Ints w v1 xs) (h2 : Ints w v2 xs) :
    Calls Tryz.prog 21 #[v1, v2] w fun x w' => x = .returned (.bool true) ∧ Below w.heap.size w w' := by
  obtain ⟨a1, c1, rfl, hl1, hc1⟩ := h1.form
  obtain ⟨a2, c2, rfl, hl2, hc2⟩ := h2.form
  have q0 := Below.refl w.heap.size w
  go_enter Tryz.func21, Tryz.ntmps21
  go_wp2_with fail
  go_loopw [5] (fun i wr => ∃ k : Nat, k ≤ xs.length ∧ i = .int .i64 k ∧ Below w.heap.size w wr) (fun i _ => xs.length - (intOf i).toNat)
  case atStart => exact ⟨0, Nat.zero_le _, rfl, q0⟩
  case round =>
    clear q0
    obtain ⟨k, hk, rfl, q⟩ := hrel
    by_cases hlt : k < xs.length
    · obtain ⟨b1, o1, rfl, hb1, k1⟩ := h1.at_ hlt
      obtain ⟨b2, o2, rfl, hb2, k2⟩ := h2.at_ hlt
      have hx : ∀ X : Ext wr, X.val.cell? ⟨b1, o1 + k, none⟩ = some (.int .i64 xs[k]) := fun X => k1 _ (q.trans (X.below.mono q.size))
      have hy : ∀ X : Ext wr, X.val.cell? ⟨b2, o2 + k, none⟩ = some (.int .i64 xs[k]) := fun X => k2 _ (q.trans (X.below.mono q.size))
      clear k1 k2 h1 h2
      generalize xs[k] = n at *
      go_wp2_with fail
      refine wp_region_ext (by kernel_rfl) (by kernel_rfl) ?_
      repeat (first | go_big_quiet_skip | (go_big_quiet_want; (go_big_quiet_op; (first | go_big_quiet_on | fail))))
      refine wpQuiet_nil ?_
      intro X
      have q' := q.trans (X.below.mono q.size)
      clear hx hy
      go_wp2_with fail
      go_roundw
      case rel => exact ⟨k + 1, by omega, by go_num, q'⟩
      case measure => simp [intOf]; omega
    · go_wp2_with fail
      go_ret
      exact ⟨rfl, q⟩

end Go.Proofs.R29
end
