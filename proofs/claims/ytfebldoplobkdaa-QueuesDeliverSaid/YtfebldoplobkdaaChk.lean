/- Size and Check of a queue. -/
import Derived.Test.YtfebldoplobkdaaIds
namespace Go.Proofs.Ytfebldoplobkdaa
open Go.ChangeShapes Go.WideShapes Go.ChangeAt Go.RowKit

set_option maxRecDepth 100000 in
set_option maxHeartbeats 1000000 in
theorem qSize (to : ByteArray) (next : Int) (ev op : Value) (fails at_ : Int) (eo ee : List (List Value)) (w : World) (ho : Evs w op eo) (he : Evs w ev ee) (hs : eo.length + ee.length ≤ 100000) :
    Calls Try.prog 24 #[.agg #[.string to, .int .i64 next, ev, op, .int .i64 fails, .int .i64 at_]] w fun x w' => x = .returned (.int .i64 (ee.length + eo.length)) ∧ Below w.heap.size w w' := by
  obtain ⟨oa, oc, rfl, _, _⟩ := ho.form
  obtain ⟨ea, ec, rfl, _, _⟩ := he.form
  clear ho he
  go_enter Try.func24, Try.ntmps24
  go_wp2_with fail
  go_ret
  exact ⟨rfl, (Below.refl _ _).alloc (Nat.le_refl _) _⟩

set_option maxRecDepth 100000 in
set_option maxHeartbeats 1000000 in
theorem rSize (to : ByteArray) (next : Int) (ev op : Value) (fails at_ : Int) (eo ee : List (List Value)) (w : World) (ho : Evs w op eo) (he : Evs w ev ee) (hs : eo.length + ee.length ≤ 100000) :
    Calls Try.prog 26 #[.agg #[.string to, .int .i64 next, ev, op, .int .i64 fails, .int .i64 at_]] w fun x w' => x = .returned (.int .i64 (ee.length + eo.length)) ∧ Below w.heap.size w w' := by
  obtain ⟨oa, oc, rfl, _, _⟩ := ho.form
  obtain ⟨ea, ec, rfl, _, _⟩ := he.form
  clear ho he
  go_enter Try.func26, Try.ntmps26
  go_wp2_with fail
  go_ret
  exact ⟨rfl, (Below.refl _ _).alloc (Nat.le_refl _) _⟩

/-- A right queue. -/
structure Right (to : ByteArray) (next : Int) (ee eo : List (List Value)) (fails at_ : Int) : Prop where
  srv : Srv to
  n1 : 0 ≤ next
  n2 : next ≤ 1000000000000
  f1 : 0 ≤ fails
  f2 : fails ≤ 1000000000000
  a1 : -1000000000000 ≤ at_
  a2 : at_ ≤ 1000000000000
  lo : eo.length ≤ 50
  ls : ee.length + eo.length ≤ 500
  nd : ((eo ++ ee).map idOf).Nodup
  s1 : eo.length = 0 → fails = 0 ∧ at_ = 0
  s2 : 0 < eo.length → next ≠ 0

/-- What a Check answers: OK for a right queue alone. -/
def ChkPost (p : Prop) (w : World) (x : Ending) (w' : World) : Prop := ∃ c : Int, x = .returned (.int .i64 c) ∧ (c = 0 → p) ∧ Below w.heap.size w w'
theorem ChkPost.no {p : Prop} {w w' : World} (c : Int) (hc : c ≠ 0) (h : Below w.heap.size w w') : ChkPost p w (.returned (.int .i64 c)) w' := ⟨c, rfl, fun e => absurd e hc, h⟩
theorem ChkPost.yes {p : Prop} {w w' : World} (h : Below w.heap.size w w') (hp : p) : ChkPost p w (.returned (.int .i64 0)) w' := ⟨0, rfl, fun _ => hp, h⟩

theorem Evs.take_ {w : World} {ao : Option Addr} {n cap : Nat} {es : List (List Value)} (h : Evs w (.slice ao n cap) es) {k : Nat} (hk : k ≤ es.length) : Evs w (.slice ao k cap) (es.take k) := by
  obtain ⟨⟨ao', cap', h1, h2, h3, h4, h5⟩, h6⟩ := h
  injection h1 with e1 e2 e3
  subst e1 e3
  have hlk : (es.take k).length = k := by simp; omega
  have hin : ∀ c ∈ es.take k, c.length = 29 := fun c hc => (h6 c (List.mem_of_mem_take hc)).len
  refine ⟨⟨ao, cap, by rw [hlk], by rw [hlk]; omega, h3, flatten_len 29 _ hin, fun hn => ?_⟩, fun c hc => h6 c (List.mem_of_mem_take hc)⟩
  rw [hlk] at hn
  obtain ⟨b, off, e, hb, hc⟩ := h5 (by omega)
  refine ⟨b, off, e, hb, fun j u hu => hc j u ?_⟩
  have hpre : es.flatten = (es.take k).flatten ++ (es.drop k).flatten := by rw [← List.flatten_append, List.take_append_drop]
  rw [hpre, List.getElem?_append_left (List.getElem?_eq_some_iff.1 hu).1]
  exact hu
/-- The ids of the first k differ. -/
def DistTo (es : List (List Value)) (k : Nat) : Prop := ∀ a b (ha : a < es.length) (hb : b < es.length), b < a → a < k → idOf es[a] ≠ idOf es[b]
theorem DistTo.zero {es : List (List Value)} : DistTo es 0 := fun _ _ _ _ _ h => by omega
theorem DistTo.step {es : List (List Value)} {k : Nat} (h : DistTo es k) (hk : k < es.length) (hh : hasB (es.take k) (idOf es[k]) = false) : DistTo es (k + 1) := fun a b ha hb hba hak => by
  by_cases e : a = k
  · subst e
    intro he
    have hbl : b < (es.take a).length := by simp; omega
    have : hasB (es.take a) (idOf es[a]) = true := hasB_yes hbl (by simp [he])
    rw [this] at hh
    cases hh
  · exact h a b ha hb hba (by omega)
theorem DistTo.nodup {es : List (List Value)} (h : DistTo es es.length) : (es.map idOf).Nodup := ApartTo.nodup ⟨h, fun _ hk => by omega⟩

set_option maxRecDepth 100000 in
set_option maxHeartbeats 2000000 in
theorem rCheck_any (to : ByteArray) (next : Int) (ev op : Value) (fails at_ : Int) (eo ee : List (List Value)) (w : World) (ho : Evs w op eo) (he : Evs w ev ee) (hs : eo.length + ee.length ≤ 100000) (hto : to.size ≤ 9223372036854775807)
    (hn1 : -9223372036854775808 ≤ next) (hn2 : next ≤ 9223372036854775807) (hf1 : -9223372036854775808 ≤ fails) (hf2 : fails ≤ 9223372036854775807) (ha1 : -9223372036854775808 ≤ at_) (ha2 : at_ ≤ 9223372036854775807) :
    Calls Try.prog 9 #[.agg #[.string to, .int .i64 next, ev, op, .int .i64 fails, .int .i64 at_]] w (ChkPost (Right to next ee eo fails at_) w) := by
  have q0 : Below w.heap.size w (w.alloc (.cells #[.string to, .int .i64 next, ev, op, .int .i64 fails, .int .i64 at_] 24)) := (Below.refl _ _).alloc (Nat.le_refl _) _
  have B := Whole.new w 24 #[.string to, .int .i64 next, ev, op, .int .i64 fails, .int .i64 at_]
  have hol := ho.form
  have hel := he.form
  go_enter Try.func9, Try.ntmps9
  go_wp2_with fail
  refine (rServer_any to _ hto).mono ?_
  rintro x w1 ⟨hx, hb⟩
  replace B := B.on hb
  replace q0 := q0.trans (hb.mono q0.size)
  have z0 := B.lt
  have c0 := B.cell
  clear hb
  rcases hx with ⟨hS, rfl⟩ | ⟨hS, rfl⟩
  case inr =>
    clear ho he hol hel
    go_wp2_with fail
    go_ret
    exact ChkPost.no 3 (by omega) q0
  have HS := Lib.hid hS
  clear hS
  by_cases hr : 0 ≤ next ∧ next ≤ 1000000000000 ∧ 0 ≤ fails ∧ fails ≤ 1000000000000 ∧ -1000000000000 ≤ at_ ∧ at_ ≤ 1000000000000
  case neg =>
    have HR := Lib.hid hr
    clear hr ho he hol hel
    by_cases r1 : next < 0 <;> try by_cases r2 : 1000000000000 < next <;> try by_cases r3 : fails < 0 <;> try by_cases r4 : 1000000000000 < fails <;> try by_cases r5 : at_ < -1000000000000 <;> try by_cases r6 : 1000000000000 < at_
    all_goals (first | (exfalso; exact absurd ⟨by omega, by omega, by omega, by omega, by omega, by omega⟩ HR.out) | skip)
    all_goals go_wp2_with fail
    all_goals go_ret
    all_goals exact ChkPost.no 2 (by omega) q0
  obtain ⟨r1, r2, r3, r4, r5, r6⟩ := hr
  obtain ⟨oa, oc, rfl, hoc1, hoc2⟩ := hol
  obtain ⟨ea, ec, rfl, hec1, hec2⟩ := hel
  by_cases l1 : 50 < eo.length
  · clear ho he
    go_wp2_with fail
    go_ret
    exact ChkPost.no 7 (by omega) q0
  have ho1 := ho.on q0
  have he1 := he.on q0
  clear ho he
  go_wp2_with fail
  refine (rSize _ _ _ _ _ _ eo ee _ ho1 he1 (by omega)).mono ?_
  rintro x w2 ⟨rfl, hb⟩
  replace B := B.on hb
  replace ho1 := ho1.on hb
  replace he1 := he1.on hb
  replace q0 := q0.trans (hb.mono q0.size)
  clear z0 c0
  have z0 := B.lt
  have c0 := B.cell
  clear hb
  by_cases l2 : 500 < ee.length + eo.length
  · clear ho1 he1
    go_wp2_with fail
    go_ret
    exact ChkPost.no 29 (by omega) q0
  go_wp2_with fail
  refine (rAll _ _ _ _ _ _ eo ee _ ho1 he1 (by omega)).mono ?_
  rintro x w3 ⟨v, rfl, hv, hb⟩
  replace B := B.on hb
  replace q0 := q0.trans (hb.mono q0.size)
  clear z0 c0 hb ho1 he1
  obtain ⟨es, hes⟩ : ∃ es, es = eo ++ ee := ⟨_, rfl⟩
  have hel : es.length = eo.length + ee.length := by rw [hes, List.length_append]
  rw [← hes] at hv
  have HES := Lib.hid hes
  have HEL := Lib.hid hel
  clear hes hel
  obtain ⟨va, vc, rfl, hv1, hv2⟩ := hv.form
  go_wp2_with fail
  go_loopw [4] (fun i wr => ∃ k : Nat, k ≤ es.length ∧ i = .int .i64 k ∧ Below w.heap.size w wr ∧ Below w3.heap.size w3 wr ∧ Whole wr w.heap.size 24 #[.string to, .int .i64 next, .slice ea ee.length ec, .slice oa eo.length oc, .int .i64 fails, .int .i64 at_] ∧ DistTo es k) (fun i _ => es.length - (intOf i).toNat)
  case atStart => exact ⟨0, Nat.zero_le _, rfl, q0, Below.refl _ _, B, DistTo.zero⟩
  case round =>
    clear q0 B
    obtain ⟨k, hk, rfl, q, q3, B, G⟩ := hrel
    have HG := Lib.hid G
    clear G
    by_cases hlt : k < es.length
    · obtain ⟨b, off, rfl, hb, hc⟩ := hv.idAt q3 hlt
      have hI := fun X : Ext wr => hasId_any _ (es.take k) (idOf es[k]) X.val ((hv.on (q3.trans (X.below.mono q3.size))).take_ hk)
      have hx : ∀ X : Ext wr, X.val.cell? ⟨b, off + k * 29, none⟩ = some (.int .i64 (idOf es[k])) := fun X => (ext_cell (Below.refl _ _) (Nat.lt_of_lt_of_le hb q3.size) X _).trans hc
      cases hE : hasB (es.take k) (idOf es[k]) with
      | true =>
        rw [hE] at hI
        clear hv hc hE
        generalize idOf es[k] = m at *
        go_wp2_with fail
        refine wp_region_ext (by kernel_rfl) (by kernel_rfl) ?_
        repeat (first | go_big_quiet_skip | (go_big_quiet_want; (first | (go_big_quiet_op; (first | go_big_quiet_on | go_big_quiet_call (with_reducible exact ext_of (hI _)))))))
        refine wpQuiet_nil ?_
        intro X
        have q' := q.trans (X.below.mono q.size)
        clear hx hI
        go_wp2_with fail
        go_ret
        exact ChkPost.no 4 (by omega) q'
      | false =>
        have hN := Lib.hid (HG.out.step hlt hE)
        rw [hE] at hI
        clear hv hc hE
        generalize idOf es[k] = m at *
        go_wp2_with fail
        refine wp_region_ext (by kernel_rfl) (by kernel_rfl) ?_
        repeat (first | go_big_quiet_skip | (go_big_quiet_want; (first | (go_big_quiet_op; (first | go_big_quiet_on | go_big_quiet_call (with_reducible exact ext_of (hI _)))))))
        refine wpQuiet_nil ?_
        intro X
        have q' := q.trans (X.below.mono q.size)
        have q3' := q3.trans (X.below.mono q3.size)
        have B' := B.on X.below
        clear hx hI
        go_wp2_with fail
        go_roundw
        case rel => exact ⟨k + 1, by omega, by go_num, q', q3', B', hN.out⟩
        case measure => simp [intOf]; omega
    · obtain rfl : k = es.length := by omega
      have hnd := Lib.hid HG.out.nodup
      have z0 := B.lt
      have c0 := B.cell
      clear hv
      by_cases h0 : eo.length = 0
      · have e0 : ((eo.length : Int) == 0) = true := beq_iff_eq.2 (by omega)
        by_cases hf0 : fails = 0
        · by_cases ha0 : at_ = 0
          · have e1 : (fails == 0) = true := by simp [hf0]
            have e2 : (at_ == 0) = true := by simp [ha0]
            have n1 : (fails != 0) = false := by simp [hf0]
            have n2 : (at_ != 0) = false := by simp [ha0]
            have n3 : decide ((0 : Int) < eo.length) = false := decide_eq_false (by omega)
            have HR : Hid (Right to next ee eo fails at_) := Lib.hid ⟨HS.out, r1, r2, r3, r4, r5, r6, by omega, by omega, by rw [← HES.out]; exact hnd.out, fun _ => ⟨hf0, ha0⟩, fun h => by omega⟩
            clear hf0 ha0 h0
            go_wp2_with fail
            go_ret
            exact ChkPost.yes q HR.out
          · have e1 : (fails == 0) = true := by simp [hf0]
            have n1 : (fails != 0) = false := by simp [hf0]
            have n2 : (at_ != 0) = true := by simp [ha0]
            clear hf0 ha0 h0
            go_wp2_with fail
            go_ret
            exact ChkPost.no 26 (by omega) q
        · have n1 : (fails != 0) = true := by simp [hf0]
          clear hf0 h0
          go_wp2_with fail
          go_ret
          exact ChkPost.no 26 (by omega) q
      · have e0 : ((eo.length : Int) == 0) = false := beq_eq_false_iff_ne.2 (by omega)
        have n3 : decide ((0 : Int) < eo.length) = true := decide_eq_true (by omega)
        have n3' : (0 : Int) < eo.length := by omega
        by_cases hn0 : next = 0
        · have e3 : (next == 0) = true := by simp [hn0]
          clear hn0
          go_wp2_with fail
          go_ret
          exact ChkPost.no 26 (by omega) q
        · have e3 : (next == 0) = false := by simp [hn0]
          have HR : Hid (Right to next ee eo fails at_) := Lib.hid ⟨HS.out, r1, r2, r3, r4, r5, r6, by omega, by omega, by rw [← HES.out]; exact hnd.out, fun h => by omega, fun _ => hn0⟩
          clear hn0
          go_wp2_with fail
          go_ret
          exact ChkPost.yes q HR.out

end Go.Proofs.Ytfebldoplobkdaa
