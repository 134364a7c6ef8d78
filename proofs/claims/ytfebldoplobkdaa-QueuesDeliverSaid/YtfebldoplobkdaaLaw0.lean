/- Rows of events whose elements were there ahead; the contracts in their terms. -/
import Derived.Test.YtfebldoplobkdaaLiveB
import Derived.Test.YtfebldoplobkdaaValid
import Derived.Test.YtfebldoplobkdaaEqs
import Derived.Test.YtfebldoplobkdaaOpen2
import Derived.Test.YtfebldoplobkdaaPushR
namespace Go.Proofs.Ytfebldoplobkdaa
open Go.ChangeShapes Go.WideShapes Go.ChangeAt Go.RowKit

/-- A row of events in a world; the events' own lists lie in an earlier world. -/
def Ev0 (w0 wx : World) (v : Value) (es : List (List Value)) : Prop := Row wx v 29 es.length es.flatten ∧ ∀ c ∈ es, EvOK w0 c
theorem Ev0.evs {w0 wx : World} {v : Value} {es : List (List Value)} (h : Ev0 w0 wx v es) (q : Below w0.heap.size w0 wx) : Evs wx v es := ⟨h.1, fun c hc => (h.2 c hc).on q⟩
theorem Ev0.of {w0 wx : World} {v : Value} {es : List (List Value)} (h : Evs wx v es) (k : ∀ c ∈ es, EvOK w0 c) : Ev0 w0 wx v es := ⟨h.1, k⟩
theorem Ev0.on {w0 wx wy : World} {v : Value} {es : List (List Value)} (h : Ev0 w0 wx v es) (hb : Below wx.heap.size wx wy) : Ev0 w0 wy v es := ⟨h.1.on hb, h.2⟩
theorem Ev0.off {w0 wx wy : World} {g : Nat} {t : TypeId} {cs : Array Value} {v : Value} {es : List (List Value)} (h : Ev0 w0 wx v es) (hw : Whole wx g t cs) (hs : cs.size < 29) (hb : wx.grownBy wy (some g)) : Ev0 w0 wy v es := ⟨h.1.off_small hw hs hb, h.2⟩
theorem Ev0.form {w0 wx : World} {v : Value} {es : List (List Value)} (h : Ev0 w0 wx v es) : ∃ ao cap, v = .slice ao es.length cap := by obtain ⟨⟨a, c, h, _⟩, _⟩ := h; exact ⟨a, c, h⟩
theorem Ev0.cap {w0 wx : World} {ao : Option Addr} {n c : Nat} {es : List (List Value)} (h : Ev0 w0 wx (.slice ao n c) es) : es.length ≤ c ∧ c ≤ 9223372036854775807 := by
  obtain ⟨⟨a, c', e, h1, h2, _⟩, _⟩ := h
  injection e with _ _ e
  subst e
  exact ⟨h1, h2⟩
theorem Ev0.nil {w0 wx : World} : Ev0 w0 wx (.slice none 0 0) [] := ⟨Row.nil, fun c hc => by cases hc⟩

theorem pushL_in {ee eo : List (List Value)} {c x : List Value} (h : x ∈ pushL ee eo c) : x ∈ ee ∨ x = c := by
  unfold pushL at h
  split at h
  · exact .inl h
  · split at h
    · exact .inl h
    · simpa using h
theorem pushL_short {ee eo : List (List Value)} {c : List Value} (h : ee.length + eo.length ≤ 500) : (pushL ee eo c).length + eo.length ≤ 500 := by
  unfold pushL
  split
  · exact h
  · split
    · exact h
    · simp; omega
theorem hasB_mem {es : List (List Value)} {id : Int} (h : hasB es id = false) : id ∉ es.map idOf := by
  intro hm
  obtain ⟨c, hc, e⟩ := List.mem_map.1 hm
  have : hasB es id = true := List.any_eq_true.2 ⟨c, hc, by simp [e]⟩
  rw [this] at h
  cases h
/-- The queue behind Push is right. -/
theorem Right.push {to : ByteArray} {next : Int} {ee eo : List (List Value)} {fails at_ : Int} {c : List Value} (R : Right to next ee eo fails at_) : Right to next (pushL ee eo c) eo fails at_ := by
  refine ⟨R.srv, R.n1, R.n2, R.f1, R.f2, R.a1, R.a2, R.lo, pushL_short R.ls, ?_, R.s1, R.s2⟩
  unfold pushL
  split
  · exact R.nd
  · split
    · exact R.nd
    · rename_i h _
      have h := hasB_mem (by simpa using h)
      have e : (eo ++ (ee ++ [c])).map idOf = (eo ++ ee).map idOf ++ [idOf c] := by simp
      rw [e]
      refine List.nodup_append.2 ⟨R.nd, by simp, ?_⟩
      intro a ha b hb e
      have : b = idOf c := by simpa using hb
      subst this
      subst e
      exact h ha
theorem idOf_take {es : List (List Value)} {k : Nat} : es.take k ++ es.drop k = es := List.take_append_drop k es
/-- The queue behind Open is right. -/
theorem Right.open_ {to : ByteArray} {next : Int} {ee eo : List (List Value)} {fails at_ : Int} (R : Right to next ee eo fails at_) : Right to (oN next eo ee) (oE next eo ee) (oO next eo ee) fails at_ := by
  unfold oN oE oO
  cases h : takes next eo ee with
  | false => simpa using R
  | true =>
    simp only [takes, Bool.and_eq_true, decide_eq_true_eq] at h
    obtain ⟨⟨h1, h2⟩, h3⟩ := h
    have h0 : eo = [] := List.eq_nil_of_length_eq_zero h1
    have hz := R.s1 h1
    have n1 := R.n1
    have ls := R.ls
    refine ⟨R.srv, by simp; omega, by simp; omega, R.f1, R.f2, R.a1, R.a2, by simp; omega, by simp; omega, ?_, fun _ => hz, fun _ => by simp; omega⟩
    have nd := R.nd
    rw [h0, List.nil_append] at nd
    simp only [if_true]
    rw [idOf_take]
    exact nd
theorem oE_in {next : Int} {eo ee : List (List Value)} {x : List Value} (h : x ∈ oE next eo ee) : x ∈ ee := by
  unfold oE at h
  split at h
  · exact List.mem_of_mem_drop h
  · exact h
theorem oO_in {next : Int} {eo ee : List (List Value)} {x : List Value} (h : x ∈ oO next eo ee) : x ∈ eo ∨ x ∈ ee := by
  unfold oO at h
  split at h
  · exact .inr (List.mem_of_mem_take h)
  · exact .inl h

theorem qPush0 (to : ByteArray) (next : Int) (ev op : Value) (fails at_ : Int) (eo ee : List (List Value)) (ce : List Value) (w0 w : World) (q : Below w0.heap.size w0 w) (ho : Ev0 w0 w op eo) (he : Ev0 w0 w ev ee) (hc : EvOK w0 ce) (hs : eo.length + ee.length ≤ 1000) :
    Calls Try.prog 11 #[.agg #[.string to, .int .i64 next, ev, op, .int .i64 fails, .int .i64 at_], .agg ce.toArray] w fun x w' => ∃ v, x = .returned (.tuple #[.agg #[.string to, .int .i64 next, v, op, .int .i64 fails, .int .i64 at_], .int .i64 (pushE ee eo ce)]) ∧ Ev0 w0 w' v (pushL ee eo ce) ∧ Below w.heap.size w w' := by
  refine (qPush to next ev op fails at_ eo ee ce w (ho.evs q) (he.evs q) (hc.on q) hs).mono ?_
  rintro x w' ⟨v, rfl, hv, hb⟩
  exact ⟨v, rfl, Ev0.of hv fun c h => (pushL_in h).elim (he.2 c) (fun e => e ▸ hc), hb⟩
theorem rPush0 (to : ByteArray) (next : Int) (ev op : Value) (fails at_ : Int) (eo ee : List (List Value)) (ce : List Value) (w0 w : World) (q : Below w0.heap.size w0 w) (ho : Ev0 w0 w op eo) (he : Ev0 w0 w ev ee) (hc : EvOK w0 ce) (hs : eo.length + ee.length ≤ 1000) :
    Calls Try.prog 12 #[.agg #[.string to, .int .i64 next, ev, op, .int .i64 fails, .int .i64 at_], .agg ce.toArray] w fun x w' => ∃ v, x = .returned (.tuple #[.agg #[.string to, .int .i64 next, v, op, .int .i64 fails, .int .i64 at_], .int .i64 (pushE ee eo ce)]) ∧ Ev0 w0 w' v (pushL ee eo ce) ∧ Below w.heap.size w w' := by
  refine (rPush to next ev op fails at_ eo ee ce w (ho.evs q) (he.evs q) (hc.on q) hs).mono ?_
  rintro x w' ⟨v, rfl, hv, hb⟩
  exact ⟨v, rfl, Ev0.of hv fun c h => (pushL_in h).elim (he.2 c) (fun e => e ▸ hc), hb⟩
theorem qOpen0 (to : ByteArray) (next : Int) (ev op : Value) (fails at_ : Int) (now : Int) (eo ee : List (List Value)) (w0 w : World) (q : Below w0.heap.size w0 w) (ho : Ev0 w0 w op eo) (he : Ev0 w0 w ev ee) (hs : eo.length ≤ 100000 ∧ ee.length ≤ 100000) (hn : 0 ≤ next ∧ next ≤ 1000000000000) :
    Calls Try.prog 16 #[.agg #[.string to, .int .i64 next, ev, op, .int .i64 fails, .int .i64 at_], .int .i64 now] w fun x w' => ∃ v1 v2 pc, x = .returned (.tuple #[.agg #[.string to, .int .i64 (oN next eo ee), v1, v2, .int .i64 fails, .int .i64 at_], .agg pc, .bool (oK next at_ now eo ee)]) ∧
      Ev0 w0 w' v1 (oE next eo ee) ∧ Ev0 w0 w' v2 (oO next eo ee) ∧ (oK next at_ now eo ee = true → ∃ u, pc = pkc to (oN next eo ee - 1) u ∧ Ev0 w0 w' u (oO next eo ee)) ∧ (oK next at_ now eo ee = false → pc = pk0) ∧ Below w.heap.size w w' := by
  refine (qOpen_any to next ev op fails at_ now eo ee w (ho.evs q) (he.evs q) hs hn).mono ?_
  rintro x w' ⟨v1, v2, pc, rfl, h1, h2, h3, h4, hb⟩
  have kO : ∀ c ∈ oO next eo ee, EvOK w0 c := fun c h => (oO_in h).elim (ho.2 c) (he.2 c)
  exact ⟨v1, v2, pc, rfl, Ev0.of h1 fun c h => he.2 c (oE_in h), Ev0.of h2 kO, fun h => by obtain ⟨u, e, hu⟩ := h3 h; exact ⟨u, e, Ev0.of hu kO⟩, h4, hb⟩
theorem rOpen0 (to : ByteArray) (next : Int) (ev op : Value) (fails at_ : Int) (now : Int) (eo ee : List (List Value)) (w0 w : World) (q : Below w0.heap.size w0 w) (ho : Ev0 w0 w op eo) (he : Ev0 w0 w ev ee) (hs : eo.length ≤ 100000 ∧ ee.length ≤ 100000) (hn : 0 ≤ next ∧ next ≤ 1000000000000) :
    Calls Try.prog 17 #[.agg #[.string to, .int .i64 next, ev, op, .int .i64 fails, .int .i64 at_], .int .i64 now] w fun x w' => ∃ v1 v2 pc, x = .returned (.tuple #[.agg #[.string to, .int .i64 (oN next eo ee), v1, v2, .int .i64 fails, .int .i64 at_], .agg pc, .bool (oK next at_ now eo ee)]) ∧
      Ev0 w0 w' v1 (oE next eo ee) ∧ Ev0 w0 w' v2 (oO next eo ee) ∧ (oK next at_ now eo ee = true → ∃ u, pc = pkc to (oN next eo ee - 1) u ∧ Ev0 w0 w' u (oO next eo ee)) ∧ (oK next at_ now eo ee = false → pc = pk0) ∧ Below w.heap.size w w' := by
  refine (rOpen_any to next ev op fails at_ now eo ee w (ho.evs q) (he.evs q) hs hn).mono ?_
  rintro x w' ⟨v1, v2, pc, rfl, h1, h2, h3, h4, hb⟩
  have kO : ∀ c ∈ oO next eo ee, EvOK w0 c := fun c h => (oO_in h).elim (ho.2 c) (he.2 c)
  exact ⟨v1, v2, pc, rfl, Ev0.of h1 fun c h => he.2 c (oE_in h), Ev0.of h2 kO, fun h => by obtain ⟨u, e, hu⟩ := h3 h; exact ⟨u, e, Ev0.of hu kO⟩, h4, hb⟩
end Go.Proofs.Ytfebldoplobkdaa
