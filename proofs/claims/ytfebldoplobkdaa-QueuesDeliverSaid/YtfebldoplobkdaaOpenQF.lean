/- Open, the program. -/
import Derived.Test.YtfebldoplobkdaaOpenF
namespace Go.Proofs.Ytfebldoplobkdaa
open Go.ChangeShapes Go.WideShapes Go.ChangeAt Go.RowKit

set_option maxRecDepth 100000 in
set_option maxHeartbeats 4000000 in
theorem qOpenFLate (to : ByteArray) (next : Int) (ev op : Value) (fails at_ : Int) (now : Int) (eo ee : List (List Value)) (w : World) (ho : Evs w op eo) (he : Evs w ev ee) (hs : eo.length ≤ 100000 ∧ ee.length ≤ 100000) (hn : 0 ≤ next ∧ next ≤ 1000000000000) (h0 : 0 < eo.length) (h1 : now < at_) :
    Calls Try.prog 16 #[.agg #[.string to, .int .i64 next, ev, op, .int .i64 fails, .int .i64 at_], .int .i64 now] w (OpenPostF ev to next fails at_ eo ee false w) := by
  obtain ⟨n1, n2⟩ := hn
  obtain ⟨s1, s2⟩ := hs
  obtain ⟨oa, oc, rfl, hoc1, hoc2⟩ := ho.form
  obtain ⟨ea, ec, rfl, hec1, hec2⟩ := he.form
  have HE := fun (wx : World) (h : Below w.heap.size w wx) => he.on h
  have HO := fun (wx : World) (h : Below w.heap.size w wx) => ho.on h
  clear ho he
  have q : Below w.heap.size w (((w.alloc (.cells #[.string to, .int .i64 next, (.slice ea ee.length ec), (.slice oa eo.length oc), .int .i64 fails, .int .i64 at_] 24)).alloc (.cells #[.string ⟨#[]⟩, .int .i64 0, .slice none 0 0, .slice none 0 0, .int .i64 0, .int .i64 0] 24)).alloc (.cells #[.string ⟨#[]⟩, .string ⟨#[]⟩, .int .i64 0, .int .i64 0, .string ⟨#[]⟩, .slice none 0 0, .slice none 0 0, .slice none 0 0, .string ⟨#[]⟩, .int .i64 0] 49)) := (((Below.refl _ _).alloc (Nat.le_refl _) _).alloc (by simp) _).alloc (by simp; omega) _
  have B2 : Whole (((w.alloc (.cells #[.string to, .int .i64 next, (.slice ea ee.length ec), (.slice oa eo.length oc), .int .i64 fails, .int .i64 at_] 24)).alloc (.cells #[.string ⟨#[]⟩, .int .i64 0, .slice none 0 0, .slice none 0 0, .int .i64 0, .int .i64 0] 24)).alloc (.cells #[.string ⟨#[]⟩, .string ⟨#[]⟩, .int .i64 0, .int .i64 0, .string ⟨#[]⟩, .slice none 0 0, .slice none 0 0, .slice none 0 0, .string ⟨#[]⟩, .int .i64 0] 49)) (w.heap.size + 1) 24 #[.string ⟨#[]⟩, .int .i64 0, .slice none 0 0, .slice none 0 0, .int .i64 0, .int .i64 0] := (by have := (Whole.new (w.alloc (.cells #[.string to, .int .i64 next, (.slice ea ee.length ec), (.slice oa eo.length oc), .int .i64 fails, .int .i64 at_] 24)) 24 #[.string ⟨#[]⟩, .int .i64 0, .slice none 0 0, .slice none 0 0, .int .i64 0, .int .i64 0]).on ((Below.refl _ _).alloc (Nat.le_refl _) (.cells #[.string ⟨#[]⟩, .string ⟨#[]⟩, .int .i64 0, .int .i64 0, .string ⟨#[]⟩, .slice none 0 0, .slice none 0 0, .slice none 0 0, .string ⟨#[]⟩, .int .i64 0] 49)); rwa [size_alloc'] at this)
  have B3 : Whole (((w.alloc (.cells #[.string to, .int .i64 next, (.slice ea ee.length ec), (.slice oa eo.length oc), .int .i64 fails, .int .i64 at_] 24)).alloc (.cells #[.string ⟨#[]⟩, .int .i64 0, .slice none 0 0, .slice none 0 0, .int .i64 0, .int .i64 0] 24)).alloc (.cells #[.string ⟨#[]⟩, .string ⟨#[]⟩, .int .i64 0, .int .i64 0, .string ⟨#[]⟩, .slice none 0 0, .slice none 0 0, .slice none 0 0, .string ⟨#[]⟩, .int .i64 0] 49)) (w.heap.size + 1 + 1) 49 #[.string ⟨#[]⟩, .string ⟨#[]⟩, .int .i64 0, .int .i64 0, .string ⟨#[]⟩, .slice none 0 0, .slice none 0 0, .slice none 0 0, .string ⟨#[]⟩, .int .i64 0] := (by have := Whole.new ((w.alloc (.cells #[.string to, .int .i64 next, (.slice ea ee.length ec), (.slice oa eo.length oc), .int .i64 fails, .int .i64 at_] 24)).alloc (.cells #[.string ⟨#[]⟩, .int .i64 0, .slice none 0 0, .slice none 0 0, .int .i64 0, .int .i64 0] 24)) 49 #[.string ⟨#[]⟩, .string ⟨#[]⟩, .int .i64 0, .int .i64 0, .string ⟨#[]⟩, .slice none 0 0, .slice none 0 0, .slice none 0 0, .string ⟨#[]⟩, .int .i64 0]; rwa [size_alloc', size_alloc'] at this)
  have B2H := Lib.hid B2
  have B3H := Lib.hid B3
  have QH := Lib.hid q
  clear q B2 B3
  go_enter Try.func16, Try.ntmps16
  go_wp2_with (first | ((with_reducible refine list_store24 _ _ _ #[.string to, .int .i64 next, (.slice ea ee.length ec), (.slice oa eo.length oc), .int .i64 fails, .int .i64 at_] B2H.out rfl ?_ ?_ ?_ ?_ ?_ ?_ ?_); all_goals try rfl; all_goals try (simp [Value.oneCell']; done)))
  case refine_4 => simp [Value.oneCell']
  intro w3 z3 g3
  have B3 := B3H.out.off g3 (by intro e; injection e with e; omega)
  have f3 := Lib.hid z3
  have q3 := below_row QH.out g3 (by omega) (by simp; omega)
  clear z3 B2H B3H
  go_wp2_with (first | ((with_reducible refine list_store49 _ _ _ #[.string ⟨#[]⟩, .string ⟨#[]⟩, .int .i64 0, .int .i64 0, .string ⟨#[]⟩, .slice none 0 0, .slice none 0 0, .slice none 0 0, .string ⟨#[]⟩, .int .i64 0] B3 rfl ?_ ?_ ?_ ?_ ?_ ?_ ?_); all_goals try rfl; all_goals try (simp [Value.oneCell']; done)))
  case refine_4 => simp [Value.oneCell']
  intro w4 z4 g4
  have e1 := (f3.out.off g4 (by intro e; injection e with e; omega)).cell
  have e2 := z4.cell
  have q4 := below_row q3 g4 (by omega) (by have := B3.lt; omega)
  clear B3 z4 f3
  go_wp2_with fail
  exact bodyPost_ret (v := .tuple #[.agg #[.string to, .int .i64 next, (.slice ea ee.length ec), (.slice oa eo.length oc), .int .i64 fails, .int .i64 at_], .agg #[.string ⟨#[]⟩, .string ⟨#[]⟩, .int .i64 0, .int .i64 0, .string ⟨#[]⟩, .slice none 0 0, .slice none 0 0, .slice none 0 0, .string ⟨#[]⟩, .int .i64 0], .bool false]) (by simp [results, Try.results16, go_sem, e1, e2]) rfl ⟨_, _, _, rfl, HE _ q4, HO _ q4, fun h => by simp at h, fun _ => rfl, q4, .inl rfl⟩

set_option maxRecDepth 100000 in
set_option maxHeartbeats 4000000 in
theorem qOpenFNone (to : ByteArray) (next : Int) (ev op : Value) (fails at_ : Int) (now : Int) (eo ee : List (List Value)) (w : World) (ho : Evs w op eo) (he : Evs w ev ee) (hs : eo.length ≤ 100000 ∧ ee.length ≤ 100000) (hn : 0 ≤ next ∧ next ≤ 1000000000000) (h0 : eo.length = 0) (h1 : ee.length = 0 ∨ 1000000000000 ≤ next) :
    Calls Try.prog 16 #[.agg #[.string to, .int .i64 next, ev, op, .int .i64 fails, .int .i64 at_], .int .i64 now] w (OpenPostF ev to next fails at_ eo ee false w) := by
  obtain ⟨n1, n2⟩ := hn
  obtain ⟨s1, s2⟩ := hs
  obtain ⟨oa, oc, rfl, hoc1, hoc2⟩ := ho.form
  obtain ⟨ea, ec, rfl, hec1, hec2⟩ := he.form
  have HE := fun (wx : World) (h : Below w.heap.size w wx) => he.on h
  have HO := fun (wx : World) (h : Below w.heap.size w wx) => ho.on h
  clear ho he
  have e0 : ¬ 0 < eo.length := by omega
  clear h0
  by_cases h2 : ee.length = 0
  · have e1 : ((ee.length : Int) == 0) = true := beq_iff_eq.2 (by omega)
    clear h1 h2
    have q : Below w.heap.size w (((w.alloc (.cells #[.string to, .int .i64 next, (.slice ea ee.length ec), (.slice oa eo.length oc), .int .i64 fails, .int .i64 at_] 24)).alloc (.cells #[.string ⟨#[]⟩, .int .i64 0, .slice none 0 0, .slice none 0 0, .int .i64 0, .int .i64 0] 24)).alloc (.cells #[.string ⟨#[]⟩, .string ⟨#[]⟩, .int .i64 0, .int .i64 0, .string ⟨#[]⟩, .slice none 0 0, .slice none 0 0, .slice none 0 0, .string ⟨#[]⟩, .int .i64 0] 49)) := (((Below.refl _ _).alloc (Nat.le_refl _) _).alloc (by simp) _).alloc (by simp; omega) _
    have B2 : Whole (((w.alloc (.cells #[.string to, .int .i64 next, (.slice ea ee.length ec), (.slice oa eo.length oc), .int .i64 fails, .int .i64 at_] 24)).alloc (.cells #[.string ⟨#[]⟩, .int .i64 0, .slice none 0 0, .slice none 0 0, .int .i64 0, .int .i64 0] 24)).alloc (.cells #[.string ⟨#[]⟩, .string ⟨#[]⟩, .int .i64 0, .int .i64 0, .string ⟨#[]⟩, .slice none 0 0, .slice none 0 0, .slice none 0 0, .string ⟨#[]⟩, .int .i64 0] 49)) (w.heap.size + 1) 24 #[.string ⟨#[]⟩, .int .i64 0, .slice none 0 0, .slice none 0 0, .int .i64 0, .int .i64 0] := (by have := (Whole.new (w.alloc (.cells #[.string to, .int .i64 next, (.slice ea ee.length ec), (.slice oa eo.length oc), .int .i64 fails, .int .i64 at_] 24)) 24 #[.string ⟨#[]⟩, .int .i64 0, .slice none 0 0, .slice none 0 0, .int .i64 0, .int .i64 0]).on ((Below.refl _ _).alloc (Nat.le_refl _) (.cells #[.string ⟨#[]⟩, .string ⟨#[]⟩, .int .i64 0, .int .i64 0, .string ⟨#[]⟩, .slice none 0 0, .slice none 0 0, .slice none 0 0, .string ⟨#[]⟩, .int .i64 0] 49)); rwa [size_alloc'] at this)
    have B3 : Whole (((w.alloc (.cells #[.string to, .int .i64 next, (.slice ea ee.length ec), (.slice oa eo.length oc), .int .i64 fails, .int .i64 at_] 24)).alloc (.cells #[.string ⟨#[]⟩, .int .i64 0, .slice none 0 0, .slice none 0 0, .int .i64 0, .int .i64 0] 24)).alloc (.cells #[.string ⟨#[]⟩, .string ⟨#[]⟩, .int .i64 0, .int .i64 0, .string ⟨#[]⟩, .slice none 0 0, .slice none 0 0, .slice none 0 0, .string ⟨#[]⟩, .int .i64 0] 49)) (w.heap.size + 1 + 1) 49 #[.string ⟨#[]⟩, .string ⟨#[]⟩, .int .i64 0, .int .i64 0, .string ⟨#[]⟩, .slice none 0 0, .slice none 0 0, .slice none 0 0, .string ⟨#[]⟩, .int .i64 0] := (by have := Whole.new ((w.alloc (.cells #[.string to, .int .i64 next, (.slice ea ee.length ec), (.slice oa eo.length oc), .int .i64 fails, .int .i64 at_] 24)).alloc (.cells #[.string ⟨#[]⟩, .int .i64 0, .slice none 0 0, .slice none 0 0, .int .i64 0, .int .i64 0] 24)) 49 #[.string ⟨#[]⟩, .string ⟨#[]⟩, .int .i64 0, .int .i64 0, .string ⟨#[]⟩, .slice none 0 0, .slice none 0 0, .slice none 0 0, .string ⟨#[]⟩, .int .i64 0]; rwa [size_alloc', size_alloc'] at this)
    have B2H := Lib.hid B2
    have B3H := Lib.hid B3
    have QH := Lib.hid q
    clear q B2 B3
    go_enter Try.func16, Try.ntmps16
    go_wp2_with (first | ((with_reducible refine list_store24 _ _ _ #[.string to, .int .i64 next, (.slice ea ee.length ec), (.slice oa eo.length oc), .int .i64 fails, .int .i64 at_] B2H.out rfl ?_ ?_ ?_ ?_ ?_ ?_ ?_); all_goals try rfl; all_goals try (simp [Value.oneCell']; done)))
    case refine_4 => simp [Value.oneCell']
    intro w3 z3 g3
    have B3 := B3H.out.off g3 (by intro e; injection e with e; omega)
    have f3 := Lib.hid z3
    have q3 := below_row QH.out g3 (by omega) (by simp; omega)
    clear z3 B2H B3H
    go_wp2_with (first | ((with_reducible refine list_store49 _ _ _ #[.string ⟨#[]⟩, .string ⟨#[]⟩, .int .i64 0, .int .i64 0, .string ⟨#[]⟩, .slice none 0 0, .slice none 0 0, .slice none 0 0, .string ⟨#[]⟩, .int .i64 0] B3 rfl ?_ ?_ ?_ ?_ ?_ ?_ ?_); all_goals try rfl; all_goals try (simp [Value.oneCell']; done)))
    case refine_4 => simp [Value.oneCell']
    intro w4 z4 g4
    have e1 := (f3.out.off g4 (by intro e; injection e with e; omega)).cell
    have e2 := z4.cell
    have q4 := below_row q3 g4 (by omega) (by have := B3.lt; omega)
    clear B3 z4 f3
    go_wp2_with fail
    exact bodyPost_ret (v := .tuple #[.agg #[.string to, .int .i64 next, (.slice ea ee.length ec), (.slice oa eo.length oc), .int .i64 fails, .int .i64 at_], .agg #[.string ⟨#[]⟩, .string ⟨#[]⟩, .int .i64 0, .int .i64 0, .string ⟨#[]⟩, .slice none 0 0, .slice none 0 0, .slice none 0 0, .string ⟨#[]⟩, .int .i64 0], .bool false]) (by simp [results, Try.results16, go_sem, e1, e2]) rfl ⟨_, _, _, rfl, HE _ q4, HO _ q4, fun h => by simp at h, fun _ => rfl, q4, .inl rfl⟩
  · have e1 : ((ee.length : Int) == 0) = false := beq_eq_false_iff_ne.2 (by omega)
    have h3 : 1000000000000 ≤ next := by omega
    clear h1 h2
    have q : Below w.heap.size w (((w.alloc (.cells #[.string to, .int .i64 next, (.slice ea ee.length ec), (.slice oa eo.length oc), .int .i64 fails, .int .i64 at_] 24)).alloc (.cells #[.string ⟨#[]⟩, .int .i64 0, .slice none 0 0, .slice none 0 0, .int .i64 0, .int .i64 0] 24)).alloc (.cells #[.string ⟨#[]⟩, .string ⟨#[]⟩, .int .i64 0, .int .i64 0, .string ⟨#[]⟩, .slice none 0 0, .slice none 0 0, .slice none 0 0, .string ⟨#[]⟩, .int .i64 0] 49)) := (((Below.refl _ _).alloc (Nat.le_refl _) _).alloc (by simp) _).alloc (by simp; omega) _
    have B2 : Whole (((w.alloc (.cells #[.string to, .int .i64 next, (.slice ea ee.length ec), (.slice oa eo.length oc), .int .i64 fails, .int .i64 at_] 24)).alloc (.cells #[.string ⟨#[]⟩, .int .i64 0, .slice none 0 0, .slice none 0 0, .int .i64 0, .int .i64 0] 24)).alloc (.cells #[.string ⟨#[]⟩, .string ⟨#[]⟩, .int .i64 0, .int .i64 0, .string ⟨#[]⟩, .slice none 0 0, .slice none 0 0, .slice none 0 0, .string ⟨#[]⟩, .int .i64 0] 49)) (w.heap.size + 1) 24 #[.string ⟨#[]⟩, .int .i64 0, .slice none 0 0, .slice none 0 0, .int .i64 0, .int .i64 0] := (by have := (Whole.new (w.alloc (.cells #[.string to, .int .i64 next, (.slice ea ee.length ec), (.slice oa eo.length oc), .int .i64 fails, .int .i64 at_] 24)) 24 #[.string ⟨#[]⟩, .int .i64 0, .slice none 0 0, .slice none 0 0, .int .i64 0, .int .i64 0]).on ((Below.refl _ _).alloc (Nat.le_refl _) (.cells #[.string ⟨#[]⟩, .string ⟨#[]⟩, .int .i64 0, .int .i64 0, .string ⟨#[]⟩, .slice none 0 0, .slice none 0 0, .slice none 0 0, .string ⟨#[]⟩, .int .i64 0] 49)); rwa [size_alloc'] at this)
    have B3 : Whole (((w.alloc (.cells #[.string to, .int .i64 next, (.slice ea ee.length ec), (.slice oa eo.length oc), .int .i64 fails, .int .i64 at_] 24)).alloc (.cells #[.string ⟨#[]⟩, .int .i64 0, .slice none 0 0, .slice none 0 0, .int .i64 0, .int .i64 0] 24)).alloc (.cells #[.string ⟨#[]⟩, .string ⟨#[]⟩, .int .i64 0, .int .i64 0, .string ⟨#[]⟩, .slice none 0 0, .slice none 0 0, .slice none 0 0, .string ⟨#[]⟩, .int .i64 0] 49)) (w.heap.size + 1 + 1) 49 #[.string ⟨#[]⟩, .string ⟨#[]⟩, .int .i64 0, .int .i64 0, .string ⟨#[]⟩, .slice none 0 0, .slice none 0 0, .slice none 0 0, .string ⟨#[]⟩, .int .i64 0] := (by have := Whole.new ((w.alloc (.cells #[.string to, .int .i64 next, (.slice ea ee.length ec), (.slice oa eo.length oc), .int .i64 fails, .int .i64 at_] 24)).alloc (.cells #[.string ⟨#[]⟩, .int .i64 0, .slice none 0 0, .slice none 0 0, .int .i64 0, .int .i64 0] 24)) 49 #[.string ⟨#[]⟩, .string ⟨#[]⟩, .int .i64 0, .int .i64 0, .string ⟨#[]⟩, .slice none 0 0, .slice none 0 0, .slice none 0 0, .string ⟨#[]⟩, .int .i64 0]; rwa [size_alloc', size_alloc'] at this)
    have B2H := Lib.hid B2
    have B3H := Lib.hid B3
    have QH := Lib.hid q
    clear q B2 B3
    go_enter Try.func16, Try.ntmps16
    go_wp2_with (first | ((with_reducible refine list_store24 _ _ _ #[.string to, .int .i64 next, (.slice ea ee.length ec), (.slice oa eo.length oc), .int .i64 fails, .int .i64 at_] B2H.out rfl ?_ ?_ ?_ ?_ ?_ ?_ ?_); all_goals try rfl; all_goals try (simp [Value.oneCell']; done)))
    case refine_4 => simp [Value.oneCell']
    intro w3 z3 g3
    have B3 := B3H.out.off g3 (by intro e; injection e with e; omega)
    have f3 := Lib.hid z3
    have q3 := below_row QH.out g3 (by omega) (by simp; omega)
    clear z3 B2H B3H
    go_wp2_with (first | ((with_reducible refine list_store49 _ _ _ #[.string ⟨#[]⟩, .string ⟨#[]⟩, .int .i64 0, .int .i64 0, .string ⟨#[]⟩, .slice none 0 0, .slice none 0 0, .slice none 0 0, .string ⟨#[]⟩, .int .i64 0] B3 rfl ?_ ?_ ?_ ?_ ?_ ?_ ?_); all_goals try rfl; all_goals try (simp [Value.oneCell']; done)))
    case refine_4 => simp [Value.oneCell']
    intro w4 z4 g4
    have e1 := (f3.out.off g4 (by intro e; injection e with e; omega)).cell
    have e2 := z4.cell
    have q4 := below_row q3 g4 (by omega) (by have := B3.lt; omega)
    clear B3 z4 f3
    go_wp2_with fail
    exact bodyPost_ret (v := .tuple #[.agg #[.string to, .int .i64 next, (.slice ea ee.length ec), (.slice oa eo.length oc), .int .i64 fails, .int .i64 at_], .agg #[.string ⟨#[]⟩, .string ⟨#[]⟩, .int .i64 0, .int .i64 0, .string ⟨#[]⟩, .slice none 0 0, .slice none 0 0, .slice none 0 0, .string ⟨#[]⟩, .int .i64 0], .bool false]) (by simp [results, Try.results16, go_sem, e1, e2]) rfl ⟨_, _, _, rfl, HE _ q4, HO _ q4, fun h => by simp at h, fun _ => rfl, q4, .inl rfl⟩

set_option maxRecDepth 100000 in
set_option maxHeartbeats 4000000 in
theorem qOpenFAgain (to : ByteArray) (next : Int) (ev op : Value) (fails at_ : Int) (now : Int) (eo ee : List (List Value)) (w : World) (ho : Evs w op eo) (he : Evs w ev ee) (hs : eo.length ≤ 100000 ∧ ee.length ≤ 100000) (hn : 0 ≤ next ∧ next ≤ 1000000000000) (h0 : 0 < eo.length) (h1 : at_ ≤ now) :
    Calls Try.prog 16 #[.agg #[.string to, .int .i64 next, ev, op, .int .i64 fails, .int .i64 at_], .int .i64 now] w (OpenPostF ev to next fails at_ eo ee true w) := by
  obtain ⟨n1, n2⟩ := hn
  obtain ⟨s1, s2⟩ := hs
  obtain ⟨oa, oc, rfl, hoc1, hoc2⟩ := ho.form
  obtain ⟨ea, ec, rfl, hec1, hec2⟩ := he.form
  have HE := fun (wx : World) (h : Below w.heap.size w wx) => he.on h
  have HO := fun (wx : World) (h : Below w.heap.size w wx) => ho.on h
  clear ho he
  go_enter Try.func16, Try.ntmps16
  go_wp2_with fail
  have q : Below w.heap.size w (((w.alloc (.cells #[.string to, .int .i64 next, (.slice ea ee.length ec), (.slice oa eo.length oc), .int .i64 fails, .int .i64 at_] 24)).alloc (.cells #[.string ⟨#[]⟩, .int .i64 0, .slice none 0 0, .slice none 0 0, .int .i64 0, .int .i64 0] 24)).alloc (.cells #[.string ⟨#[]⟩, .string ⟨#[]⟩, .int .i64 0, .int .i64 0, .string ⟨#[]⟩, .slice none 0 0, .slice none 0 0, .slice none 0 0, .string ⟨#[]⟩, .int .i64 0] 49)) := (((Below.refl _ _).alloc (Nat.le_refl _) _).alloc (by simp) _).alloc (by simp; omega) _
  have B1 : Whole (((w.alloc (.cells #[.string to, .int .i64 next, (.slice ea ee.length ec), (.slice oa eo.length oc), .int .i64 fails, .int .i64 at_] 24)).alloc (.cells #[.string ⟨#[]⟩, .int .i64 0, .slice none 0 0, .slice none 0 0, .int .i64 0, .int .i64 0] 24)).alloc (.cells #[.string ⟨#[]⟩, .string ⟨#[]⟩, .int .i64 0, .int .i64 0, .string ⟨#[]⟩, .slice none 0 0, .slice none 0 0, .slice none 0 0, .string ⟨#[]⟩, .int .i64 0] 49)) w.heap.size 24 #[.string to, .int .i64 next, (.slice ea ee.length ec), (.slice oa eo.length oc), .int .i64 fails, .int .i64 at_] := (Whole.new w 24 #[.string to, .int .i64 next, (.slice ea ee.length ec), (.slice oa eo.length oc), .int .i64 fails, .int .i64 at_]).on (((Below.refl _ _).alloc (Nat.le_refl _) _).alloc (by simp) _)
  have B2 : Whole (((w.alloc (.cells #[.string to, .int .i64 next, (.slice ea ee.length ec), (.slice oa eo.length oc), .int .i64 fails, .int .i64 at_] 24)).alloc (.cells #[.string ⟨#[]⟩, .int .i64 0, .slice none 0 0, .slice none 0 0, .int .i64 0, .int .i64 0] 24)).alloc (.cells #[.string ⟨#[]⟩, .string ⟨#[]⟩, .int .i64 0, .int .i64 0, .string ⟨#[]⟩, .slice none 0 0, .slice none 0 0, .slice none 0 0, .string ⟨#[]⟩, .int .i64 0] 49)) (w.heap.size + 1) 24 #[.string ⟨#[]⟩, .int .i64 0, .slice none 0 0, .slice none 0 0, .int .i64 0, .int .i64 0] := by
    have := (Whole.new (w.alloc (.cells #[.string to, .int .i64 next, (.slice ea ee.length ec), (.slice oa eo.length oc), .int .i64 fails, .int .i64 at_] 24)) 24 #[.string ⟨#[]⟩, .int .i64 0, .slice none 0 0, .slice none 0 0, .int .i64 0, .int .i64 0]).on ((Below.refl _ _).alloc (Nat.le_refl _) (.cells #[.string ⟨#[]⟩, .string ⟨#[]⟩, .int .i64 0, .int .i64 0, .string ⟨#[]⟩, .slice none 0 0, .slice none 0 0, .slice none 0 0, .string ⟨#[]⟩, .int .i64 0] 49))
    rwa [size_alloc'] at this
  have B3 : Whole (((w.alloc (.cells #[.string to, .int .i64 next, (.slice ea ee.length ec), (.slice oa eo.length oc), .int .i64 fails, .int .i64 at_] 24)).alloc (.cells #[.string ⟨#[]⟩, .int .i64 0, .slice none 0 0, .slice none 0 0, .int .i64 0, .int .i64 0] 24)).alloc (.cells #[.string ⟨#[]⟩, .string ⟨#[]⟩, .int .i64 0, .int .i64 0, .string ⟨#[]⟩, .slice none 0 0, .slice none 0 0, .slice none 0 0, .string ⟨#[]⟩, .int .i64 0] 49)) (w.heap.size + 1 + 1) 49 #[.string ⟨#[]⟩, .string ⟨#[]⟩, .int .i64 0, .int .i64 0, .string ⟨#[]⟩, .slice none 0 0, .slice none 0 0, .slice none 0 0, .string ⟨#[]⟩, .int .i64 0] := by
    have := Whole.new ((w.alloc (.cells #[.string to, .int .i64 next, (.slice ea ee.length ec), (.slice oa eo.length oc), .int .i64 fails, .int .i64 at_] 24)).alloc (.cells #[.string ⟨#[]⟩, .int .i64 0, .slice none 0 0, .slice none 0 0, .int .i64 0, .int .i64 0] 24)) 49 #[.string ⟨#[]⟩, .string ⟨#[]⟩, .int .i64 0, .int .i64 0, .string ⟨#[]⟩, .slice none 0 0, .slice none 0 0, .slice none 0 0, .string ⟨#[]⟩, .int .i64 0]
    rwa [size_alloc', size_alloc'] at this
  obtain ⟨w1, hw1⟩ : ∃ w1, w1 = ((w.alloc (.cells #[.string to, .int .i64 next, (.slice ea ee.length ec), (.slice oa eo.length oc), .int .i64 fails, .int .i64 at_] 24)).alloc (.cells #[.string ⟨#[]⟩, .int .i64 0, .slice none 0 0, .slice none 0 0, .int .i64 0, .int .i64 0] 24)).alloc (.cells #[.string ⟨#[]⟩, .string ⟨#[]⟩, .int .i64 0, .int .i64 0, .string ⟨#[]⟩, .slice none 0 0, .slice none 0 0, .slice none 0 0, .string ⟨#[]⟩, .int .i64 0] 49) := ⟨_, rfl⟩
  try rw [← hw1] at B1 B2 B3 q ⊢
  clear hw1
  have HKX : Kept (Below w.heap.size w) (w.heap.size + 1) (w.heap.size + 1 + 1) := below_kept (by omega) (by omega)
  refine wp_region_net4 w false [2, 3, 4] none (opF (Below w.heap.size w) w.heap.size (w.heap.size + 1) (w.heap.size + 1 + 1) (w.heap.size + 1 + 1 + 1) #[.string to, .int .i64 next, (.slice ea ee.length ec), (.slice oa eo.length oc), .int .i64 fails, .int .i64 at_] to (next - 1) (eo)) (by kernel_rfl) (by kernel_rfl) (by kernel_rfl) (opF_nil (q) B1 B2 B3) (fun h => by simp at h) (by decide) (grownBy_of_below q) ?_
  apply Exists.intro
  apply And.intro
  · rintro W1 ⟨ν, hν, _, hW, hF⟩
    have b1' := opF_row ν hF
    have hld : ∀ (X : Ext W1), (Instr.loadAt 24 (.pointer (some ⟨w.heap.size, 0, none⟩))).run Try.prog X.val = .ok (.agg #[.string to, .int .i64 next, (.slice ea ee.length ec), (.slice oa eo.length oc), .int .i64 fails, .int .i64 at_]) X.val := fun X => load24 (Whole.range (b1'.on X.below)) rfl
    simp only [quietOps, List.contains_cons, List.contains_nil]
    simp
    clear hF b1'
    repeat (first | go_big_quiet_skip | (go_big_quiet_want; (first | (refine quiet_load 24 _ rfl _ rfl _ hld ?_; simp only [Act.put, List.setIfInBounds_toArray, List.set_cons_succ, List.set_cons_zero]; go_big_quiet_on) | (go_big_quiet_op; (first | go_big_quiet_on | go_big_quiet_call (fail))))))
    exact wpQuiet_nil rfl
  refine ⟨⟨opF_on HKX, fun j hj => ?_⟩, ?_⟩
  · match j, hj with
    | 0, _ =>
      refine ⟨_, rfl, rfl, fun w5 ν hν hn hpre hpost hw5 hf => ?_⟩
      match ν, hf, hn, hpost 1 (by decide) (by kernel_rfl), hpost 2 (by decide) (by kernel_rfl) with
      | [n0, n1, n2], ⟨fx, f0, f1, f2, f3, f4, f5⟩, hn, p1, p2 =>
        have hn' : n0 = none := by simpa using hn
        have p1' : n1 = none := by simpa using p1
        have p2' : n2 = none := by simpa using p2
        subst hn' p1' p2'
        have q5 := below_of_grown hw5
        have hsz : w.heap.size + 1 + 1 + 1 ≤ w5.heap.size := by have := (f3 rfl).lt; omega
        refine leaves_fn 31 [.tmp 19] _ [.agg #[.string to, .int .i64 next, (.slice ea ee.length ec), (.slice oa eo.length oc), .int .i64 fails, .int .i64 at_]] (by kernel_rfl) rfl rfl (qPacketO _ _ _ _ _ _ (eo) _ (HO _ fx) s1 ⟨n1, by omega⟩) ?_
        rintro x w6 ⟨v, rfl, own, hb6⟩
        exact ⟨_, rfl, grownBy_trans hw5 (grownBy_of_below hb6), HKX.on _ _ fx hb6, f0.on hb6, fun hn => (f1 hn).on hb6, fun u hu => by simp at hu, fun hn => (f3 hn).on hb6, fun u hu => ⟨v, by simpa using hu.symm, own_base own hsz⟩, fun u hu => by simp at hu⟩
    | 1, _ =>
      refine ⟨_, rfl, rfl, fun w5 ν hν hn hpre hpost hw5 hf => ?_⟩
      match ν, hf, hn, hpre 0 (by decide) (by kernel_rfl), hpost 2 (by decide) (by kernel_rfl) with
      | [n0, n1, n2], ⟨fx, f0, f1, f2, f3, f4, f5⟩, hn, ⟨u0, p0⟩, p2 =>
        have hn' : n1 = none := by simpa using hn
        have p0' : n0 = some u0 := by simpa using p0
        have p2' : n2 = none := by simpa using p2
        subst hn' p0' p2'
        refine leaves_store 24 24 _ _ (w.heap.size + 1) #[.string ⟨#[]⟩, .int .i64 0, .slice none 0 0, .slice none 0 0, .int .i64 0, .int .i64 0] #[.string to, .int .i64 next, (.slice ea ee.length ec), (.slice oa eo.length oc), .int .i64 fails, .int .i64 at_] rfl rfl rfl size24 (f1 rfl) rfl (by simp [Value.oneCell']) hw5 (.inl (by omega)) fun w6 z6 h6 => ⟨HKX.one _ _ fx h6, f0.off h6 (by intro e; injection e with e; omega), fun hn => by simp at hn, fun u _ => z6, fun hn => (f3 hn).off h6 (by intro e; injection e with e; omega), fun u hu => ?_, fun u hu => by simp at hu⟩
        obtain ⟨v, e, o⟩ := f4 u hu
        exact ⟨v, e, own_off o h6 (by omega)⟩
    | 2, _ =>
      refine ⟨_, rfl, rfl, fun w5 ν hν hn hpre hpost hw5 hf => ?_⟩
      match ν, hf, hn, hpre 0 (by decide) (by kernel_rfl), hpre 1 (by decide) (by kernel_rfl) with
      | [n0, n1, n2], ⟨fx, f0, f1, f2, f3, f4, f5⟩, hn, ⟨u0, p0⟩, ⟨u1, p1⟩ =>
        have hn' : n2 = none := by simpa using hn
        have p0' : n0 = some u0 := by simpa using p0
        have p1' : n1 = some u1 := by simpa using p1
        subst hn' p0' p1'
        obtain ⟨v, rfl, o⟩ := f4 _ rfl
        obtain ⟨vo, vc, rfl⟩ := own_slice o
        refine leaves_store 49 49 _ _ (w.heap.size + 1 + 1) pk0 (pkc to (next - 1) (.slice vo (eo).length vc)) rfl rfl rfl info49 (f3 rfl) rfl (by simp [pkc, Value.oneCell']) hw5 (.inl (by omega)) fun w6 z6 h6 => ⟨HKX.two _ _ fx h6, f0.off h6 (by intro e; injection e with e; omega), fun hn => by simp at hn, fun u hu => (f2 u hu).off h6 (by intro e; injection e with e; omega), fun hn => by simp at hn, fun u hu => ?_, fun u hu => ⟨_, z6, own_off o h6 (by omega)⟩⟩
        obtain ⟨v2, e, o2⟩ := f4 u hu
        exact ⟨v2, e, own_off o2 h6 (by omega)⟩
  · intro ν hν hall w5 hw5 hf
    match ν, hf, hall 0 (by decide), hall 1 (by decide), hall 2 (by decide) with
    | [n0, n1, n2], ⟨fx, f0, f1, f2, f3, f4, f5⟩, ⟨u0, p0⟩, ⟨u1, p1⟩, ⟨u2, p2⟩ =>
      have p0' : n0 = some u0 := by simpa using p0
      have p1' : n1 = some u1 := by simpa using p1
      have p2' : n2 = some u2 := by simpa using p2
      subst p0' p1' p2'
      have z1 := f2 _ rfl
      obtain ⟨v, z2, o⟩ := f5 _ rfl
      clear f0 f1 f2 f3 f4 f5 hall hν B1 B2 B3
      obtain ⟨vo, vc, rfl⟩ := own_slice o
      have q5 := below_of_grown hw5
      have hO : Evs w5 (.slice oa eo.length oc) (eo) := HO _ fx
      have hP : Evs w5 (.slice vo (eo).length vc) (eo) := ⟨Row.of_own o, hO.2⟩
      have HEV := HE _ fx
      have HEV := Lib.hid HEV
      clear fx
      have e1 := z1.cell
      have e2 := z2.cell
      clear o z1 z2
      simp only [dstsOfS, dstAt, List.map_cons, List.map_nil, fillO]
      simp [Act.put]
      go_wp2_with fail
      exact bodyPost_ret (v := .tuple #[.agg #[.string to, .int .i64 next, (.slice ea ee.length ec), (.slice oa eo.length oc), .int .i64 fails, .int .i64 at_], .agg (pkc to (next - 1) (.slice vo (eo).length vc)), .bool true]) (by simp [results, Try.results16, go_sem, e1, e2, pkc]) rfl ⟨_, _, _, rfl, HEV.out, hO, fun _ => ⟨_, rfl, hP⟩, fun h => by simp at h, q5, .inl rfl⟩

end Go.Proofs.Ytfebldoplobkdaa
