/- Lists of events: what a slice of events shows; a list is equal to itself. -/
import Derived.Test.YtfebldoplobkdaaSameC
namespace Go.Proofs.Ytfebldoplobkdaa
open Go.ChangeShapes Go.WideShapes Go.ChangeAt Go.RowKit

theorem flatten_at (size : Nat) : ∀ (xs : List (List Value)), (∀ c ∈ xs, c.length = size) → ∀ (k : Nat) (c : List Value) (j : Nat), xs[k]? = some c → j < size → xs.flatten[k * size + j]? = c[j]?
  | [], _, k, c, j, h, _ => by simp at h
  | y :: ys, hg, 0, c, j, h, hj => by
    simp at h
    subst h
    rw [List.flatten_cons, Nat.zero_mul, Nat.zero_add, List.getElem?_append_left (by rw [hg _ (List.mem_cons_self ..)]; exact hj)]
  | y :: ys, hg, k + 1, c, j, h, hj => by
    have hy := hg y (List.mem_cons_self ..)
    rw [List.flatten_cons, List.getElem?_append_right (by rw [hy, Nat.add_mul]; omega), hy]
    rw [show (k + 1) * size + j - size = k * size + j from by rw [Nat.add_mul]; omega]
    exact flatten_at size ys (fun c hc => hg c (List.mem_cons_of_mem _ hc)) k c j (by simpa using h) hj
theorem flatten_len (size : Nat) : ∀ (xs : List (List Value)), (∀ c ∈ xs, c.length = size) → xs.flatten.length = xs.length * size
  | [], _ => by simp
  | y :: ys, h => by rw [List.flatten_cons, List.length_append, h y (List.mem_cons_self ..), flatten_len size ys fun c hc => h c (List.mem_cons_of_mem _ hc), List.length_cons, Nat.add_mul]; omega

/-- The slice v shows the events es. -/
def Evs (w : World) (v : Value) (es : List (List Value)) : Prop := Row w v 29 es.length es.flatten ∧ ∀ c ∈ es, EvOK w c
theorem Evs.on {w w' : World} {v : Value} {es : List (List Value)} (h : Evs w v es) (hb : Below w.heap.size w w') : Evs w' v es := ⟨h.1.on hb, fun c hc => (h.2 c hc).on hb⟩
theorem Evs.nil {w : World} : Evs w (.slice none 0 0) [] := ⟨Row.nil, fun c hc => by cases hc⟩
/-- An element: where it lies. -/
theorem Evs.at_ {w : World} {ao : Option Addr} {n cap : Nat} {es : List (List Value)} (h : Evs w (.slice ao n cap) es) {k : Nat} (hk : k < es.length) :
    ∃ b off, ao = some ⟨b, off, none⟩ ∧ b < w.heap.size ∧ w.rangeAt b (off + k * 29) es[k] ∧ EvOK w es[k] := by
  obtain ⟨⟨ao', cap', h1, _, _, _, h5⟩, h6⟩ := h
  obtain ⟨b, off, e, hb, hc⟩ := h5 (by omega)
  have e1 : ao = ao' := by injection h1
  refine ⟨b, off, e1.trans e, hb, fun j v hv => ?_, h6 _ (List.getElem_mem _)⟩
  have hj : j < 29 := by have := (List.getElem?_eq_some_iff.1 hv).1; rw [(h6 _ (List.getElem_mem hk)).len] at this; exact this
  rw [Nat.add_assoc]
  exact hc _ _ ((flatten_at 29 es (fun c hc => (h6 c hc).len) k es[k] j (by simp [hk]) hj).trans hv)
theorem Evs.form {w : World} {v : Value} {es : List (List Value)} (h : Evs w v es) : ∃ ao cap, v = .slice ao es.length cap ∧ es.length ≤ cap ∧ cap ≤ 9223372036854775807 := by
  obtain ⟨⟨ao, cap, h1, h2, h3, _⟩, _⟩ := h
  exact ⟨ao, cap, h1, h2, h3⟩

theorem under37 : Try.prog.underlying 37 = some (.struct (Try.prog.underlying 37 |>.elim #[] fun | .struct fs => fs | _ => #[])) := by kernel_rfl
theorem size37 : (Try.prog.info? 37).map (·.size) = some 29 := by kernel_rfl
theorem load37 {w : World} {b o : Nat} {cs : List Value} (h : w.rangeAt b o cs) (hl : cs.length = 29) : (Instr.loadAt 37 (.pointer (some ⟨b, o, none⟩))).run Try.prog w = .ok (.agg cs.toArray) w :=
  run_loadAt_mid w b o 37 cs _ h under37 rfl (by rw [size37, hl])
theorem rangeAt_on {w w' : World} {b o : Nat} {cs : List Value} (h : w.rangeAt b o cs) (hb : b < w.heap.size) (hw : Below w.heap.size w w') : w'.rangeAt b o cs := fun j v hv => (hw.cell (p := ⟨b, o + j, none⟩) hb).trans (h j v hv)

set_option maxRecDepth 100000 in
set_option maxHeartbeats 1000000 in
theorem sameAll (v1 v2 : Value) (es : List (List Value)) (w : World) (h1 : Evs w v1 es) (h2 : Evs w v2 es) :
    Calls Try.prog 23 #[v1, v2] w fun x w' => x = .returned (.bool true) ∧ Below w.heap.size w w' := by
  obtain ⟨a1, c1, rfl, hl1, hc1⟩ := h1.form
  obtain ⟨a2, c2, rfl, hl2, hc2⟩ := h2.form
  have q0 := Below.refl w.heap.size w
  go_enter Try.func23, Try.ntmps23
  go_wp2_with fail
  go_loopw [5] (fun i wr => ∃ k : Nat, k ≤ es.length ∧ i = .int .i64 k ∧ Below w.heap.size w wr) (fun i _ => es.length - (intOf i).toNat)
  case atStart => exact ⟨0, Nat.zero_le _, rfl, q0⟩
  case round =>
    clear q0
    obtain ⟨k, hk, rfl, q⟩ := hrel
    by_cases hlt : k < es.length
    · obtain ⟨b1, o1, rfl, hb1, hr1, he⟩ := h1.at_ hlt
      obtain ⟨b2, o2, rfl, hb2, hr2, _⟩ := h2.at_ hlt
      have hE := fun (X : Ext wr) => sameEvent es[k] X.val (he.on (q.trans (X.below.mono q.size)))
      have hl := he.len
      have hx : ∀ X : Ext wr, (Instr.loadAt 37 (.pointer (some ⟨b1, o1 + k * 29, none⟩))).run Try.prog X.val = .ok (.agg es[k].toArray) X.val := fun X => load37 (rangeAt_on hr1 hb1 (q.trans (X.below.mono q.size))) hl
      have hy : ∀ X : Ext wr, (Instr.loadAt 37 (.pointer (some ⟨b2, o2 + k * 29, none⟩))).run Try.prog X.val = .ok (.agg es[k].toArray) X.val := fun X => load37 (rangeAt_on hr2 hb2 (q.trans (X.below.mono q.size))) hl
      have hl' : Hid (es[k].length = 29) := Lib.hid hl
      clear hr1 hr2 he h1 h2 hl hl'
      generalize es[k] = c at *
      go_wp2_with fail
      refine wp_region_ext (by kernel_rfl) (by kernel_rfl) ?_
      repeat (first | go_big_quiet_skip | (go_big_quiet_want; (first | (refine quiet_load 37 _ rfl _ rfl _ hx ?_; simp only [Act.put, List.setIfInBounds_toArray, List.set_cons_succ, List.set_cons_zero]; go_big_quiet_on) | (refine quiet_load 37 _ rfl _ rfl _ hy ?_; simp only [Act.put, List.setIfInBounds_toArray, List.set_cons_succ, List.set_cons_zero]; go_big_quiet_on) | (go_big_quiet_op; (first | go_big_quiet_on | go_big_quiet_call (with_reducible exact ext_of (hE _)))))))
      refine wpQuiet_nil ?_
      intro X
      have q' := q.trans (X.below.mono q.size)
      clear hx hy hE
      go_wp2_with fail
      go_roundw
      case rel => exact ⟨k + 1, by omega, by go_num, q'⟩
      case measure => simp [intOf]; omega
    · go_wp2_with fail
      go_ret
      exact ⟨rfl, q⟩

end Go.Proofs.Ytfebldoplobkdaa
