/- Ack, on both sides. -/
import Derived.Test.YtfebldoplobkdaaPk
namespace Go.Proofs.Ytfebldoplobkdaa
open Go.ChangeShapes Go.WideShapes Go.ChangeAt Go.RowKit

set_option maxRecDepth 100000 in
set_option maxHeartbeats 1000000 in
theorem qAckYes (to : ByteArray) (next : Int) (ev op : Value) (fails at_ : Int) (n : Int) (eo ee : List (List Value)) (w : World) (ho : Evs w op eo) (he : Evs w ev ee) (hn : 0 ≤ next ∧ next ≤ 1000000000001) (h : 0 < eo.length) (h2 : n = next - 1) :
    Calls Try.prog 19 #[.agg #[.string to, .int .i64 next, ev, op, .int .i64 fails, .int .i64 at_], .int .i64 n] w fun x w' => x = .returned (.agg #[.string to, .int .i64 next, ev, .slice none 0 0, .int .i64 0, .int .i64 0]) ∧ Below w.heap.size w w' := by
  obtain ⟨n1, n2⟩ := hn
  obtain ⟨oa, oc, rfl, hoc1, hoc2⟩ := ho.form
  obtain ⟨ea, ec, rfl, hec1, hec2⟩ := he.form
  clear ho he
  subst h2
  go_enter Try.func19, Try.ntmps19
  go_wp2_with fail
  refine bodyPost_ret (v := .agg #[.string to, .int .i64 next, .slice ea ee.length ec, .slice none 0 0, .int .i64 0, .int .i64 0]) (by simp [results, Try.results19, go_sem]) rfl ⟨rfl, ?_⟩
  repeat (first | exact Below.refl _ _ | refine Below.setCell ?_ (by first | omega | (simp; done) | (simp; omega)) _ | refine Below.alloc ?_ (by first | omega | (simp; done) | (simp; omega)) _)

set_option maxRecDepth 100000 in
set_option maxHeartbeats 1000000 in
theorem qAckNo (to : ByteArray) (next : Int) (ev op : Value) (fails at_ : Int) (n : Int) (eo ee : List (List Value)) (w : World) (ho : Evs w op eo) (he : Evs w ev ee) (hn : 0 ≤ next ∧ next ≤ 1000000000001) (h : ¬ (0 < eo.length ∧ n = next - 1)) :
    Calls Try.prog 19 #[.agg #[.string to, .int .i64 next, ev, op, .int .i64 fails, .int .i64 at_], .int .i64 n] w fun x w' => x = .returned (.agg #[.string to, .int .i64 next, ev, op, .int .i64 fails, .int .i64 at_]) ∧ Below w.heap.size w w' := by
  obtain ⟨n1, n2⟩ := hn
  obtain ⟨oa, oc, rfl, hoc1, hoc2⟩ := ho.form
  obtain ⟨ea, ec, rfl, hec1, hec2⟩ := he.form
  clear ho he
  by_cases h0 : 0 < eo.length
  · have h1 : ¬ n = next - 1 := fun e => h ⟨h0, e⟩
    clear h
    go_enter Try.func19, Try.ntmps19
    go_wp2_with fail
    refine bodyPost_ret (v := .agg #[.string to, .int .i64 next, (.slice ea ee.length ec), (.slice oa eo.length oc), .int .i64 fails, .int .i64 at_]) (by simp [results, Try.results19, go_sem]) rfl ⟨rfl, ?_⟩
    repeat (first | exact Below.refl _ _ | refine Below.setCell ?_ (by first | omega | (simp; done) | (simp; omega)) _ | refine Below.alloc ?_ (by first | omega | (simp; done) | (simp; omega)) _)
  · clear h
    go_enter Try.func19, Try.ntmps19
    go_wp2_with fail
    refine bodyPost_ret (v := .agg #[.string to, .int .i64 next, (.slice ea ee.length ec), (.slice oa eo.length oc), .int .i64 fails, .int .i64 at_]) (by simp [results, Try.results19, go_sem]) rfl ⟨rfl, ?_⟩
    repeat (first | exact Below.refl _ _ | refine Below.setCell ?_ (by first | omega | (simp; done) | (simp; omega)) _ | refine Below.alloc ?_ (by first | omega | (simp; done) | (simp; omega)) _)

set_option maxRecDepth 100000 in
set_option maxHeartbeats 1000000 in
theorem rAckYes (to : ByteArray) (next : Int) (ev op : Value) (fails at_ : Int) (n : Int) (eo ee : List (List Value)) (w : World) (ho : Evs w op eo) (he : Evs w ev ee) (hn : 0 ≤ next ∧ next ≤ 1000000000001) (h : 0 < eo.length) (h2 : n = next - 1) :
    Calls Try.prog 21 #[.agg #[.string to, .int .i64 next, ev, op, .int .i64 fails, .int .i64 at_], .int .i64 n] w fun x w' => x = .returned (.agg #[.string to, .int .i64 next, ev, .slice none 0 0, .int .i64 0, .int .i64 0]) ∧ Below w.heap.size w w' := by
  obtain ⟨n1, n2⟩ := hn
  obtain ⟨oa, oc, rfl, hoc1, hoc2⟩ := ho.form
  obtain ⟨ea, ec, rfl, hec1, hec2⟩ := he.form
  clear ho he
  subst h2
  go_enter Try.func21, Try.ntmps21
  go_wp2_with fail
  refine bodyPost_ret (v := .agg #[.string to, .int .i64 next, .slice ea ee.length ec, .slice none 0 0, .int .i64 0, .int .i64 0]) (by simp [results, Try.results21, go_sem]) rfl ⟨rfl, ?_⟩
  repeat (first | exact Below.refl _ _ | refine Below.setCell ?_ (by first | omega | (simp; done) | (simp; omega)) _ | refine Below.alloc ?_ (by first | omega | (simp; done) | (simp; omega)) _)

set_option maxRecDepth 100000 in
set_option maxHeartbeats 1000000 in
theorem rAckNo (to : ByteArray) (next : Int) (ev op : Value) (fails at_ : Int) (n : Int) (eo ee : List (List Value)) (w : World) (ho : Evs w op eo) (he : Evs w ev ee) (hn : 0 ≤ next ∧ next ≤ 1000000000001) (h : ¬ (0 < eo.length ∧ n = next - 1)) :
    Calls Try.prog 21 #[.agg #[.string to, .int .i64 next, ev, op, .int .i64 fails, .int .i64 at_], .int .i64 n] w fun x w' => x = .returned (.agg #[.string to, .int .i64 next, ev, op, .int .i64 fails, .int .i64 at_]) ∧ Below w.heap.size w w' := by
  obtain ⟨n1, n2⟩ := hn
  obtain ⟨oa, oc, rfl, hoc1, hoc2⟩ := ho.form
  obtain ⟨ea, ec, rfl, hec1, hec2⟩ := he.form
  clear ho he
  by_cases h0 : 0 < eo.length
  · have h1 : ¬ n = next - 1 := fun e => h ⟨h0, e⟩
    clear h
    go_enter Try.func21, Try.ntmps21
    go_wp2_with fail
    refine bodyPost_ret (v := .agg #[.string to, .int .i64 next, (.slice ea ee.length ec), (.slice oa eo.length oc), .int .i64 fails, .int .i64 at_]) (by simp [results, Try.results21, go_sem]) rfl ⟨rfl, ?_⟩
    repeat (first | exact Below.refl _ _ | refine Below.setCell ?_ (by first | omega | (simp; done) | (simp; omega)) _ | refine Below.alloc ?_ (by first | omega | (simp; done) | (simp; omega)) _)
  · clear h
    go_enter Try.func21, Try.ntmps21
    go_wp2_with fail
    refine bodyPost_ret (v := .agg #[.string to, .int .i64 next, (.slice ea ee.length ec), (.slice oa eo.length oc), .int .i64 fails, .int .i64 at_]) (by simp [results, Try.results21, go_sem]) rfl ⟨rfl, ?_⟩
    repeat (first | exact Below.refl _ _ | refine Below.setCell ?_ (by first | omega | (simp; done) | (simp; omega)) _ | refine Below.alloc ?_ (by first | omega | (simp; done) | (simp; omega)) _)

end Go.Proofs.Ytfebldoplobkdaa
