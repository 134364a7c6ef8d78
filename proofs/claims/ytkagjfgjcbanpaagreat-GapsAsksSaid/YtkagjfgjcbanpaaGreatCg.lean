/- Own rows: a store. -/
import Derived.Test.YtkagjfgjcbanpaaGreatCf
import Derived.Laws.AppendOwn

section
namespace Go.Proofs.R29
open Go.ChangeShapes Go.WideShapes Go.ChangeAt Go.RowKit

/-- A store into an own row. -/
theorem own_set {base g n cap : Nat} {xs : List Value} {w : World} (h : w.ownsRow base 3 1 (.slice (some ⟨g, 0, none⟩) n cap) n xs) (j : Nat) (u : Value) :
    (w.setCell ⟨g, j, none⟩ u).ownsRow base 3 1 (.slice (some ⟨g, 0, none⟩) n cap) n (xs.set j u) := by
  refine ⟨by rw [List.length_set]; exact h.1, .inr ?_⟩
  rcases h.2 with ⟨h0, _⟩ | ⟨g', cap', cur, hv, hbase, hbk, h1, h2, h3, h4⟩
  · cases h0
  · cases hv
    refine ⟨g, cap, cur.setIfInBounds j u, rfl, hbase, heap_setCell_same w g j cur 3 u hbk, h1, h2, by rw [Array.size_setIfInBounds]; exact h3, ?_⟩
    rw [Array.toList_setIfInBounds, List.take_set, h4]

/-- The cells of an own row. -/
theorem own_cell {base g n cap : Nat} {xs : List Value} {w : World} (h : w.ownsRow base 3 1 (.slice (some ⟨g, 0, none⟩) n cap) n xs) {j : Nat} {u : Value} (hu : xs[j]? = some u) : w.cell? ⟨g, j, none⟩ = some u ∧ w.frozen? ⟨g, j, none⟩ = false := by
  rcases h.2 with ⟨h0, _⟩ | ⟨g', cap', cur, hv, hbase, hbk, h1, h2, h3, h4⟩
  · cases h0
  · cases hv
    refine ⟨?_, frozen_of_row w g j cur 3 hbk⟩
    rw [Go.Abs.cell_of_heap hbk]
    rw [← h4, List.getElem?_take] at hu
    split at hu
    · simpa using hu
    · cases hu

end Go.Proofs.R29
end

/- Lists that are shifted. -/
section
namespace Go.Proofs.R29

/-- The row in the midst of the shifting. -/
def shiftL (n : Int) (xs : List Int) (j : Nat) : List Int := (xs ++ [n]).take (j + 1) ++ xs.drop j

theorem shiftL_len {n : Int} {xs : List Int} {j : Nat} (h : j ≤ xs.length) : (shiftL n xs j).length = xs.length + 1 := by
  simp [shiftL]; omega
theorem shiftL_start (n : Int) (xs : List Int) : shiftL n xs xs.length = xs ++ [n] := by
  unfold shiftL
  rw [List.drop_length, List.append_nil, List.take_of_length_le (by simp)]
theorem shiftL_at {n : Int} {xs : List Int} {i : Nat} (h : i < xs.length) : (shiftL n xs (i + 1))[i]? = some xs[i] := by
  unfold shiftL
  rw [List.getElem?_append_left (by simp; omega), List.getElem?_take, if_pos (by omega), List.getElem?_append_left h, List.getElem?_eq_getElem h]

theorem set_mid {A B : List Int} {y x : Int} {i : Nat} (h : A.length = i) : (A ++ y :: B).set i x = A ++ x :: B := by
  subst h
  rw [List.set_append_right _ _ (Nat.le_refl _), Nat.sub_self]
  rfl

theorem shiftL_form {n : Int} {xs : List Int} {j : Nat} (h : j ≤ xs.length) : ∃ y, shiftL n xs j = xs.take j ++ y :: xs.drop j := by
  have hl : j < (xs ++ [n]).length := by simp; omega
  refine ⟨(xs ++ [n])[j], ?_⟩
  unfold shiftL
  rw [List.take_succ_eq_append_getElem hl, List.take_append_of_le_length h, List.append_assoc]
  rfl

theorem shiftL_set {n : Int} {xs : List Int} {i : Nat} (h : i < xs.length) : (shiftL n xs (i + 1)).set (i + 1) xs[i] = shiftL n xs i := by
  obtain ⟨y, e⟩ := shiftL_form (n := n) (xs := xs) (j := i + 1) h
  have hl : i < (xs ++ [n]).length := by simp; omega
  rw [e, set_mid (by rw [List.length_take]; omega)]
  unfold shiftL
  rw [List.take_append_of_le_length (by omega), List.drop_eq_getElem_cons h]

theorem shiftL_end {n : Int} {xs : List Int} {k : Nat} (h : k ≤ xs.length) : (shiftL n xs k).set k n = xs.take k ++ n :: xs.drop k := by
  obtain ⟨y, e⟩ := shiftL_form (n := n) (xs := xs) (j := k) h
  rw [e, set_mid (by rw [List.length_take]; omega)]
end Go.Proofs.R29
end

/- R08.With: a number into its place. -/
section
namespace Go.Proofs.R29
open Go.ChangeShapes Go.WideShapes Go.ChangeAt Go.RowKit Go.Shelf

/-- Where n goes. -/
def spotOf (n : Int) : List Int → Nat
  | [] => 0
  | m :: l => if m < n then spotOf n l + 1 else 0
theorem spotOf_le (n : Int) : ∀ xs : List Int, spotOf n xs ≤ xs.length
  | [] => Nat.le_refl _
  | m :: l => by
    unfold spotOf
    split
    · have := spotOf_le n l; simp; omega
    · simp
theorem spotOf_of {n : Int} : ∀ {xs : List Int} {k : Nat}, k ≤ xs.length → (∀ j (h : j < xs.length), j < k → xs[j] < n) → (∀ h : k < xs.length, ¬ xs[k] < n) → spotOf n xs = k
  | [], k, h, _, _ => by simp at h; simp [spotOf, h]
  | m :: l, 0, _, _, h3 => by
    have h0 := h3 (by simp)
    have h0 : ¬ m < n := h0
    unfold spotOf
    rw [if_neg h0]
  | m :: l, k + 1, h1, h2, h3 => by
    have h0 : m < n := h2 0 (by simp) (by omega)
    unfold spotOf
    rw [if_pos h0, spotOf_of (xs := l) (k := k) (by simpa using h1) (fun j h hj => h2 (j + 1) (by simpa using h) (by omega)) (fun h => h3 (by simpa using h))]

/-- n in its place, once. -/
def withL (n : Int) (xs : List Int) : List Int := if xs[spotOf n xs]? = some n then xs else xs.take (spotOf n xs) ++ n :: xs.drop (spotOf n xs)

def WithPost (base : Nat) (n : Int) (xs : List Int) (w : World) (x : Ending) (w' : World) : Prop := ∃ v', x = .returned v' ∧ w'.ownsRow base 3 1 v' (withL n xs).length ((withL n xs).map (Value.int .i64)) ∧ Below base w w'

set_option maxRecDepth 100000 in
set_option maxHeartbeats 2000000 in
theorem with_ok (v : Value) (xs : List Int) (n : Int) (w : World) (base : Nat) (h : w.ownsRow base 3 1 v xs.length (xs.map (Value.int .i64))) (hbase : base ≤ w.heap.size) (hn : xs.length ≤ 1000000) :
    Calls Tryz.prog 62 #[v, .int .i64 n] w (WithPost base n xs w) := by
  obtain ⟨i0, hi, hz0, hz1, hz2⟩ := info_parts Tryz.info3'
  have hI := ints_of_own' h
  obtain ⟨ao, cap, e, hl, hcap⟩ := hI.form
  subst e
  have HI := Lib.hid hI
  have Hown := Lib.hid h
  clear hI
  clear h
  go_enter Tryz.func62, Tryz.ntmps62
  go_wp2_with fail
  go_loopw [5] (fun i wr => ∃ k : Nat, k ≤ xs.length ∧ i = .int .i64 k ∧ wr = w ∧ ∀ j (hj : j < xs.length), j < k → xs[j] < n) (fun i _ => xs.length - (intOf i).toNat)
  case atStart => exact ⟨0, Nat.zero_le _, rfl, rfl, fun j _ hj => by omega⟩
  case round =>
    obtain ⟨k, hk, rfl, rfl, hq⟩ := hrel
    have Hq := Lib.hid hq
    clear hq
    by_cases hlt : k < xs.length
    · obtain ⟨b, o, rfl, hb, hc⟩ := Ints.at_ HI hlt
      have hc := hc wr (Below.refl _ _)
      by_cases hx : xs[k] < n
      · have Hx := Lib.hid hx
        generalize hgx : xs[k] = xk at *
        have Hgx := Lib.hid hgx
        clear hgx
        go_wp2_with fail
        go_roundw
        case rel =>
          refine ⟨k + 1, by omega, by go_num, by trivial, fun j hj hjk => ?_⟩
          rcases Nat.lt_succ_iff_lt_or_eq.1 hjk with hj2 | rfl
          · exact Hq j hj hj2
          · have : xs[j] = xk := Hgx
            rw [this]
            exact Hx
        case measure => first | (simp [intOf]; done) | (simp [intOf]; omega)
      · have hsp : spotOf n xs = k := spotOf_of hk Hq (fun _ => hx)
        by_cases he : xs[k] = n
        · have hw : withL n xs = xs := by unfold withL; rw [hsp, if_pos (by simp [hlt, he])]
          have Hw := Lib.hid hw
          rw [he] at hc hx
          clear he hw hsp
          go_wp2_with fail
          go_ret
          refine ⟨_, rfl, ?_, Below.refl _ _⟩
          rw [(Hw : withL n xs = xs)]
          exact Hown
        · have hw : withL n xs = xs.take k ++ n :: xs.drop k := by unfold withL; rw [hsp, if_neg (by simp [hlt, he])]
          have Hw := Lib.hid hw
          generalize xs[k] = xk at *
          clear hw hsp
          have HownA := Lib.hid (World.ownsRow.alloc (Hown : wr.ownsRow base 3 1 _ xs.length _) (.cells #[.int .i64 n] 3))
          have HnewA : Hid (∀ j u, [Value.int .i64 n][j]? = some u → (wr.alloc (.cells #[.int .i64 n] 3)).cell? ((⟨wr.heap.size, 0, none⟩ : Addr).add j) = some u) := fun j u hu => by
            cases j with
            | succ j => simp at hu
            | zero =>
              simp at hu
              subst hu
              exact (Go.Abs.cell_of_heap (Go.Abs.heap_alloc_at _ _)).trans rfl
          have HbA : base ≤ (wr.alloc (.cells #[.int .i64 n] 3)).heap.size := by rw [World.size_alloc]; omega
          have HobA : Hid (∀ q, (Value.slice (some ⟨b, o, none⟩) xs.length cap).ownBlock = some q → base ≤ q) := fun q hq => by
            rcases (Hown : wr.ownsRow base 3 1 _ xs.length _).2 with ⟨h0, _⟩ | ⟨_, _, _, h0, hbase', _⟩
            · cases h0
            · cases h0; cases hq; exact hbase'
          go_wp2_with (at_builtin; go_loud (refine wpList_append_own (wr.alloc (.cells #[.int .i64 n] 3)) rfl _ _ 24 rfl base 3 i0 (.int .i64 0) 1 8 Tryz.underlying24 hi hz0 hz1 hz2 rfl (by omega) _ xs.length _ rfl HownA ⟨wr.heap.size, 0, none⟩ 1 1 [.int .i64 n] rfl rfl HnewA (fun u hu => by simp at hu; subst hu; rfl) (by unfold maxLen; omega) (by omega) HbA ?_))
          intro v2 w2 hown2 hg2 _
          have hbel : Below base wr w2 := ((Below.refl base wr).alloc hbase _).grown hg2 HbA HobA
          have e2 : xs.map (Value.int .i64) ++ [Value.int .i64 n] = (xs ++ [n]).map (Value.int .i64) := by simp
          rw [e2] at hown2
          obtain ⟨g, cap2, rfl, hbg, _⟩ := Lib.holds_of_ownsRow hown2 (fun e => by
            subst e
            rcases hown2.2 with ⟨_, h0⟩ | ⟨_, _, _, h0, _⟩
            · omega
            · cases h0)
          have Hown2 := Lib.hid hown2
          have Hbel := Lib.hid hbel
          clear hown2 hg2 hbel HnewA HobA
          go_wp2_with fail
          have Hrow0 : Hid (w2.ownsRow base 3 1 (.slice (some ⟨g, 0, none⟩) (xs.length + 1) cap2) (xs.length + 1) ((shiftL n xs xs.length).map (Value.int .i64))) := by rw [shiftL_start]; exact Hown2
          generalize wr = w0 at *
          go_loopw [6] (fun i wx => ∃ j : Nat, k ≤ j ∧ j ≤ xs.length ∧ i = .int .i64 j ∧ wx.ownsRow base 3 1 (.slice (some ⟨g, 0, none⟩) (xs.length + 1) cap2) (xs.length + 1) ((shiftL n xs j).map (Value.int .i64)) ∧ Below base w0 wx) (fun i _ => (intOf i).toNat)
          case atStart => exact ⟨xs.length, hk, Nat.le_refl _, by go_num, Hrow0, Hbel⟩
          case round =>
            obtain ⟨j, hkj, hjl, rfl, hrow, q⟩ := hrel
            have Hrow := Lib.hid hrow
            clear hrow
            by_cases hlt2 : k < j
            · obtain ⟨i, rfl⟩ : ∃ i, j = i + 1 := ⟨j - 1, by omega⟩
              have c1 := (own_cell Hrow (j := i) (u := .int .i64 xs[i]) (by rw [List.getElem?_map, shiftL_at (by omega)]; rfl)).1
              obtain ⟨y, hy⟩ : ∃ y, (shiftL n xs (i + 1))[i + 1]? = some y := ⟨_, List.getElem?_eq_getElem (by rw [shiftL_len hjl]; omega)⟩
              obtain ⟨c2, c3⟩ := own_cell Hrow (j := i + 1) (u := .int .i64 y) (by rw [List.getElem?_map, hy]; rfl)
              have hset := own_set Hrow (i + 1) (.int .i64 xs[i])
              rw [← List.map_set, shiftL_set (by omega)] at hset
              have Hset := Lib.hid hset
              have hq : Below base w0 (wr.setCell ⟨g, i + 1, none⟩ (.int .i64 xs[i])) := q.setCell hbg _
              have Hq2 := Lib.hid hq
              clear hset hq hy
              generalize xs[i] = xi at *
              go_wp2_with fail
              go_roundw
              case rel => exact ⟨i, by omega, by omega, by go_num, Hset, Hq2⟩
              case measure => first | (simp [intOf]; done) | (simp [intOf]; omega)
            · have hjk : j = k := by omega
              subst hjk
              obtain ⟨y, hy⟩ : ∃ y, (shiftL n xs j)[j]? = some y := ⟨_, List.getElem?_eq_getElem (by rw [shiftL_len hjl]; omega)⟩
              obtain ⟨c2, c3⟩ := own_cell Hrow (j := j) (u := .int .i64 y) (by rw [List.getElem?_map, hy]; rfl)
              have hset := own_set Hrow j (.int .i64 n)
              rw [← List.map_set, shiftL_end hjl] at hset
              have hq : Below base w0 (wr.setCell ⟨g, j, none⟩ (.int .i64 n)) := q.setCell hbg _
              have Hset := Lib.hid hset
              have Hq2 := Lib.hid hq
              clear hset hq hy
              go_wp2_with fail
              go_ret
              have hlw : (withL n xs).length = xs.length + 1 := by rw [(Hw : withL n xs = _), List.length_append, List.length_take, List.length_cons, List.length_drop]; omega
              refine ⟨_, rfl, ?_, Hq2⟩
              rw [hlw, (Hw : withL n xs = _)]
              exact Hset
    · have hw : withL n xs = xs.take k ++ n :: xs.drop k := by
        unfold withL
        rw [spotOf_of hk Hq (fun h => absurd h hlt), if_neg (by simp [show xs.length ≤ k by omega])]
      have Hw := Lib.hid hw
      clear hw
      have HownA := Lib.hid (World.ownsRow.alloc (Hown : wr.ownsRow base 3 1 _ xs.length _) (.cells #[.int .i64 n] 3))
      have HnewA : Hid (∀ j u, [Value.int .i64 n][j]? = some u → (wr.alloc (.cells #[.int .i64 n] 3)).cell? ((⟨wr.heap.size, 0, none⟩ : Addr).add j) = some u) := fun j u hu => by
        cases j with
        | succ j => simp at hu
        | zero =>
          simp at hu
          subst hu
          exact (Go.Abs.cell_of_heap (Go.Abs.heap_alloc_at _ _)).trans rfl
      have HbA : base ≤ (wr.alloc (.cells #[.int .i64 n] 3)).heap.size := by rw [World.size_alloc]; omega
      have HobA : Hid (∀ q, (Value.slice ao xs.length cap).ownBlock = some q → base ≤ q) := fun q hq => by
        rcases (Hown : wr.ownsRow base 3 1 _ xs.length _).2 with ⟨h0, _⟩ | ⟨_, _, _, h0, hbase', _⟩
        · injection h0 with e1; subst e1; cases hq
        · cases h0; cases hq; exact hbase'
      go_wp2_with (at_builtin; go_loud (refine wpList_append_own (wr.alloc (.cells #[.int .i64 n] 3)) rfl _ _ 24 rfl base 3 i0 (.int .i64 0) 1 8 Tryz.underlying24 hi hz0 hz1 hz2 rfl (by omega) _ xs.length _ rfl HownA ⟨wr.heap.size, 0, none⟩ 1 1 [.int .i64 n] rfl rfl HnewA (fun u hu => by simp at hu; subst hu; rfl) (by unfold maxLen; omega) (by omega) HbA ?_))
      intro v2 w2 hown2 hg2 _
      have hbel : Below base wr w2 := ((Below.refl base wr).alloc hbase _).grown hg2 HbA HobA
      have e2 : xs.map (Value.int .i64) ++ [Value.int .i64 n] = (xs ++ [n]).map (Value.int .i64) := by simp
      rw [e2] at hown2
      obtain ⟨g, cap2, rfl, hbg, _⟩ := Lib.holds_of_ownsRow hown2 (fun e => by
        subst e
        rcases hown2.2 with ⟨_, h0⟩ | ⟨_, _, _, h0, _⟩
        · omega
        · cases h0)
      have Hown2 := Lib.hid hown2
      have Hbel := Lib.hid hbel
      clear hown2 hg2 hbel HnewA HobA
      go_wp2_with fail
      have Hrow0 : Hid (w2.ownsRow base 3 1 (.slice (some ⟨g, 0, none⟩) (xs.length + 1) cap2) (xs.length + 1) ((shiftL n xs xs.length).map (Value.int .i64))) := by rw [shiftL_start]; exact Hown2
      generalize wr = w0 at *
      go_loopw [6] (fun i wx => ∃ j : Nat, k ≤ j ∧ j ≤ xs.length ∧ i = .int .i64 j ∧ wx.ownsRow base 3 1 (.slice (some ⟨g, 0, none⟩) (xs.length + 1) cap2) (xs.length + 1) ((shiftL n xs j).map (Value.int .i64)) ∧ Below base w0 wx) (fun i _ => (intOf i).toNat)
      case atStart => exact ⟨xs.length, hk, Nat.le_refl _, by go_num, Hrow0, Hbel⟩
      case round =>
        obtain ⟨j, hkj, hjl, rfl, hrow, q⟩ := hrel
        have Hrow := Lib.hid hrow
        clear hrow
        by_cases hlt2 : k < j
        · exfalso; omega
        · have hjk : j = k := by omega
          subst hjk
          obtain ⟨y, hy⟩ : ∃ y, (shiftL n xs j)[j]? = some y := ⟨_, List.getElem?_eq_getElem (by rw [shiftL_len hjl]; omega)⟩
          obtain ⟨c2, c3⟩ := own_cell Hrow (j := j) (u := .int .i64 y) (by rw [List.getElem?_map, hy]; rfl)
          have hset := own_set Hrow j (.int .i64 n)
          rw [← List.map_set, shiftL_end hjl] at hset
          have hq : Below base w0 (wr.setCell ⟨g, j, none⟩ (.int .i64 n)) := q.setCell hbg _
          have Hset := Lib.hid hset
          have Hq2 := Lib.hid hq
          clear hset hq hy
          go_wp2_with fail
          go_ret
          have hlw : (withL n xs).length = xs.length + 1 := by rw [(Hw : withL n xs = _), List.length_append, List.length_take, List.length_cons, List.length_drop]; omega
          refine ⟨_, rfl, ?_, Hq2⟩
          rw [hlw, (Hw : withL n xs = _)]
          exact Hset
end Go.Proofs.R29
end
