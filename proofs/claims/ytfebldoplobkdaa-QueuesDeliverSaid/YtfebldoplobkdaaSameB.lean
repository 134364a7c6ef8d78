/- Equality of the power levels, of a content and of an event: each is equal to itself. -/
import Derived.Test.YtfebldoplobkdaaSameA
namespace Go.Proofs.Ytfebldoplobkdaa
open Go.ChangeShapes Go.WideShapes Go.ChangeAt Go.RowKit

theorem flatMap_at {α : Type} (g : α → List Value) (size : Nat) (hg : ∀ x, (g x).length = size) : ∀ (xs : List α) (k : Nat) (x : α) (j : Nat), xs[k]? = some x → j < size → (xs.flatMap g)[k * size + j]? = (g x)[j]?
  | [], k, x, j, h, _ => by simp at h
  | y :: ys, 0, x, j, h, hj => by
    simp at h
    subst h
    rw [List.flatMap_cons, Nat.zero_mul, Nat.zero_add, List.getElem?_append_left (by rw [hg]; exact hj)]
  | y :: ys, k + 1, x, j, h, hj => by
    rw [List.flatMap_cons, List.getElem?_append_right (by rw [hg, Nat.add_mul]; omega), hg]
    rw [show (k + 1) * size + j - size = k * size + j from by rw [Nat.add_mul]; omega]
    exact flatMap_at g size hg ys k x j (by simpa using h) hj

theorem flatMap_len {α : Type} (g : α → List Value) (size : Nat) (hg : ∀ x, (g x).length = size) : ∀ xs : List α, (xs.flatMap g).length = xs.length * size
  | [] => by simp
  | y :: ys => by rw [List.flatMap_cons, List.length_append, hg, flatMap_len g size hg ys, List.length_cons, Nat.add_mul]; omega

set_option maxRecDepth 100000 in
set_option maxHeartbeats 1000000 in
theorem sameLevels (uv kv : Value) (nu nk : Nat) (us : List (ByteArray × Int)) (ks : List (Int × Int)) (i1 i2 i3 i4 i5 i6 i7 : Int) (w : World)
    (hu : Row w uv 2 nu (us.flatMap fun p => [.string p.1, .int .i64 p.2])) (hk : Row w kv 2 nk (ks.flatMap fun p => [.int .i64 p.1, .int .i64 p.2])) :
    Calls Try.prog 47 #[.agg #[uv, kv, .int .i64 i1, .int .i64 i2, .int .i64 i3, .int .i64 i4, .int .i64 i5, .int .i64 i6, .int .i64 i7], .agg #[uv, kv, .int .i64 i1, .int .i64 i2, .int .i64 i3, .int .i64 i4, .int .i64 i5, .int .i64 i6, .int .i64 i7]] w fun x w' => x = .returned (.bool true) ∧ Below w.heap.size w w' := by
  obtain ⟨ua, uc, rfl, hnu, hcu, hlu, hcellu⟩ := hu
  obtain ⟨ka, kc, rfl, hnk, hck, hlk, hcellk⟩ := hk
  have hlu' : us.length = nu := by rw [flatMap_len _ 2 (fun _ => rfl)] at hlu; omega
  have hlk' : ks.length = nk := by rw [flatMap_len _ 2 (fun _ => rfl)] at hlk; omega
  clear hlu hlk
  have q0 := Below.refl w.heap.size w
  go_enter Try.func47, Try.ntmps47
  go_wp2_with fail
  go_loopw [5] (fun i wr => ∃ k : Nat, k ≤ nu ∧ i = .int .i64 k ∧ Below w.heap.size w wr ∧ Whole wr w.heap.size 31 #[.slice ua nu uc, .slice ka nk kc, .int .i64 i1, .int .i64 i2, .int .i64 i3, .int .i64 i4, .int .i64 i5, .int .i64 i6, .int .i64 i7] ∧ Whole wr (w.heap.size + 1) 31 #[.slice ua nu uc, .slice ka nk kc, .int .i64 i1, .int .i64 i2, .int .i64 i3, .int .i64 i4, .int .i64 i5, .int .i64 i6, .int .i64 i7]) (fun i _ => nu - (intOf i).toNat)
  case atStart => exact ⟨0, Nat.zero_le _, rfl, (q0.alloc (Nat.le_refl _) _).alloc (by simp) _, heap_alloc2_old w _ _, heap_alloc2_new w _ _⟩
  case round =>
    clear q0
    obtain ⟨k, hk, rfl, q, B1, B2⟩ := hrel
    have c1 := B1.cell
    have c2 := B2.cell
    by_cases hlt : k < nu
    · obtain ⟨b, off, rfl, hb, hc⟩ := hcellu (by omega)
      have hk0 := hc (k * 2) (.string us[k].1) ((flatMap_at _ 2 (fun _ => rfl) us k us[k] 0 (by simp [hlu', hlt]) (by omega)).trans rfl)
      have hk1 := hc (k * 2 + 1) (.int .i64 us[k].2) ((flatMap_at _ 2 (fun _ => rfl) us k us[k] 1 (by simp [hlu', hlt]) (by omega)).trans rfl)
      clear hc hcellu hcellk
      generalize us[k].1 = u at *
      generalize us[k].2 = m at *
      rw [← Nat.add_assoc] at hk1
      go_wp2_with fail
      have hx : ∀ X : Ext wr, X.val.cell? ⟨b, off + k * 2, none⟩ = some (.string u) := fun X => (ext_cell q hb X _).trans hk0
      have hy : ∀ X : Ext wr, X.val.cell? ⟨b, off + k * 2 + 1, none⟩ = some (.int .i64 m) := fun X => (ext_cell q hb X _).trans hk1
      have hz1 : ∀ (X : Ext wr) (o : Nat), X.val.cell? ⟨w.heap.size, o, none⟩ = #[Value.slice (some ⟨b, off, none⟩) nu uc, .slice ka nk kc, .int .i64 i1, .int .i64 i2, .int .i64 i3, .int .i64 i4, .int .i64 i5, .int .i64 i6, .int .i64 i7][o]? := fun X o => (B1.on X.below).cell o
      have hz2 : ∀ (X : Ext wr) (o : Nat), X.val.cell? ⟨w.heap.size + 1, o, none⟩ = #[Value.slice (some ⟨b, off, none⟩) nu uc, .slice ka nk kc, .int .i64 i1, .int .i64 i2, .int .i64 i3, .int .i64 i4, .int .i64 i5, .int .i64 i6, .int .i64 i7][o]? := fun X o => (B2.on X.below).cell o
      refine wp_region_ext (by kernel_rfl) (by kernel_rfl) ?_
      repeat (go_big_quiet_step (fail))
      refine wpQuiet_nil ?_
      intro X
      have q' := q.trans (X.below.mono q.size)
      have B1' := B1.on X.below
      have B2' := B2.on X.below
      clear hx hy hz1 hz2 c1 c2 B1 B2
      go_wp2_with fail
      go_roundw
      case rel => exact ⟨k + 1, by omega, by go_num, q', B1', B2'⟩
      case measure => simp [intOf]; omega
    · clear hcellu
      go_wp2_with fail
      go_loopw [6] (fun i wr => ∃ k : Nat, k ≤ nk ∧ i = .int .i64 k ∧ Below w.heap.size w wr ∧ Whole wr w.heap.size 31 #[.slice ua nu uc, .slice ka nk kc, .int .i64 i1, .int .i64 i2, .int .i64 i3, .int .i64 i4, .int .i64 i5, .int .i64 i6, .int .i64 i7] ∧ Whole wr (w.heap.size + 1) 31 #[.slice ua nu uc, .slice ka nk kc, .int .i64 i1, .int .i64 i2, .int .i64 i3, .int .i64 i4, .int .i64 i5, .int .i64 i6, .int .i64 i7]) (fun i _ => nk - (intOf i).toNat)
      case atStart => exact ⟨0, Nat.zero_le _, rfl, q, B1, B2⟩
      case round =>
        clear q B1 B2 c1 c2
        obtain ⟨k, hk, rfl, q, B1, B2⟩ := hrel
        have c1 := B1.cell
        have c2 := B2.cell
        by_cases hlt : k < nk
        · obtain ⟨b, off, rfl, hb, hc⟩ := hcellk (by omega)
          have hk0 := hc (k * 2) (.int .i64 ks[k].1) ((flatMap_at _ 2 (fun _ => rfl) ks k ks[k] 0 (by simp [hlk', hlt]) (by omega)).trans rfl)
          have hk1 := hc (k * 2 + 1) (.int .i64 ks[k].2) ((flatMap_at _ 2 (fun _ => rfl) ks k ks[k] 1 (by simp [hlk', hlt]) (by omega)).trans rfl)
          clear hc hcellk
          generalize ks[k].1 = u at *
          generalize ks[k].2 = m at *
          rw [← Nat.add_assoc] at hk1
          go_wp2_with fail
          have hx : ∀ X : Ext wr, X.val.cell? ⟨b, off + k * 2, none⟩ = some (.int .i64 u) := fun X => (ext_cell q hb X _).trans hk0
          have hy : ∀ X : Ext wr, X.val.cell? ⟨b, off + k * 2 + 1, none⟩ = some (.int .i64 m) := fun X => (ext_cell q hb X _).trans hk1
          have hz1 : ∀ (X : Ext wr) (o : Nat), X.val.cell? ⟨w.heap.size, o, none⟩ = #[Value.slice ua nu uc, .slice (some ⟨b, off, none⟩) nk kc, .int .i64 i1, .int .i64 i2, .int .i64 i3, .int .i64 i4, .int .i64 i5, .int .i64 i6, .int .i64 i7][o]? := fun X o => (B1.on X.below).cell o
          have hz2 : ∀ (X : Ext wr) (o : Nat), X.val.cell? ⟨w.heap.size + 1, o, none⟩ = #[Value.slice ua nu uc, .slice (some ⟨b, off, none⟩) nk kc, .int .i64 i1, .int .i64 i2, .int .i64 i3, .int .i64 i4, .int .i64 i5, .int .i64 i6, .int .i64 i7][o]? := fun X o => (B2.on X.below).cell o
          refine wp_region_ext (by kernel_rfl) (by kernel_rfl) ?_
          repeat (go_big_quiet_step (fail))
          refine wpQuiet_nil ?_
          intro X
          have q' := q.trans (X.below.mono q.size)
          have B1' := B1.on X.below
          have B2' := B2.on X.below
          clear hx hy hz1 hz2 c1 c2 B1 B2
          go_wp2_with fail
          go_roundw
          case rel => exact ⟨k + 1, by omega, by go_num, q', B1', B2'⟩
          case measure => simp [intOf]; omega
        · clear hcellk
          go_wp2_with fail
          go_ret
          exact ⟨rfl, q⟩

end Go.Proofs.Ytfebldoplobkdaa
