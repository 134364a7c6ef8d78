/- The laws' screen valid; Same and SamePacket of equal values. -/
import Derived.Test.YtfebldoplobkdaaPk
namespace Go.Proofs.Ytfebldoplobkdaa
open Go.ChangeShapes Go.WideShapes Go.ChangeAt Go.RowKit

set_option maxRecDepth 100000 in
set_option maxHeartbeats 1000000 in
theorem qSame (to : ByteArray) (next : Int) (ev op : Value) (fails at_ : Int) (ev2 op2 : Value) (eo ee : List (List Value)) (w : World) (ho : Evs w op eo) (he : Evs w ev ee) (ho2 : Evs w op2 eo) (he2 : Evs w ev2 ee) :
    Calls Try.prog 13 #[.agg #[.string to, .int .i64 next, ev, op, .int .i64 fails, .int .i64 at_], .agg #[.string to, .int .i64 next, ev2, op2, .int .i64 fails, .int .i64 at_]] w fun x w' => x = .returned (.bool true) ∧ Below w.heap.size w w' := by
  go_enter Try.func13, Try.ntmps13
  go_wp2_with fail
  have q0 : Below w.heap.size w ((w.alloc (.cells #[.string to, .int .i64 next, ev, op, .int .i64 fails, .int .i64 at_] 24)).alloc (.cells #[.string to, .int .i64 next, ev2, op2, .int .i64 fails, .int .i64 at_] 24)) := ((Below.refl _ _).alloc (Nat.le_refl _) _).alloc (by simp) _
  have B1 : Whole ((w.alloc (.cells #[.string to, .int .i64 next, ev, op, .int .i64 fails, .int .i64 at_] 24)).alloc (.cells #[.string to, .int .i64 next, ev2, op2, .int .i64 fails, .int .i64 at_] 24)) w.heap.size 24 #[.string to, .int .i64 next, ev, op, .int .i64 fails, .int .i64 at_] := (Whole.new w 24 #[.string to, .int .i64 next, ev, op, .int .i64 fails, .int .i64 at_]).on ((Below.refl _ _).alloc (Nat.le_refl _) _)
  have B2 : Whole ((w.alloc (.cells #[.string to, .int .i64 next, ev, op, .int .i64 fails, .int .i64 at_] 24)).alloc (.cells #[.string to, .int .i64 next, ev2, op2, .int .i64 fails, .int .i64 at_] 24)) (w.heap.size + 1) 24 #[.string to, .int .i64 next, ev2, op2, .int .i64 fails, .int .i64 at_] := by
    have := Whole.new (w.alloc (.cells #[.string to, .int .i64 next, ev, op, .int .i64 fails, .int .i64 at_] 24)) 24 #[.string to, .int .i64 next, ev2, op2, .int .i64 fails, .int .i64 at_]
    rwa [size_alloc'] at this
  obtain ⟨w1, hw1⟩ : ∃ w1, w1 = (w.alloc (.cells #[.string to, .int .i64 next, ev, op, .int .i64 fails, .int .i64 at_] 24)).alloc (.cells #[.string to, .int .i64 next, ev2, op2, .int .i64 fails, .int .i64 at_] 24) := ⟨_, rfl⟩
  try rw [← hw1] at B1 B2 q0 ⊢
  clear hw1
  refine (sameAll _ _ ee _ (he.on q0) (he2.on q0)).mono ?_
  rintro x w2 ⟨rfl, hb⟩
  replace B1 := B1.on hb
  replace B2 := B2.on hb
  have q2 := q0.trans (hb.mono q0.size)
  clear hb q0
  have c1 := B1.cell 3
  have c2 := B2.cell 3
  simp at c1 c2
  go_wp2_with fail
  refine (sameAll _ _ eo _ (ho.on q2) (ho2.on q2)).mono ?_
  rintro x w3 ⟨rfl, hb⟩
  have q3 := q2.trans (hb.mono q2.size)
  clear hb q2 c1 c2 B1 B2
  go_wp2_with fail
  go_ret
  exact ⟨rfl, q3⟩

set_option maxRecDepth 100000 in
set_option maxHeartbeats 1000000 in
theorem samePk (to : ByteArray) (n : Int) (v u : Value) (es : List (List Value)) (w : World) (hv : Evs w v es) (hu : Evs w u es) :
    Calls Try.prog 18 #[.agg #[.string ⟨#[]⟩, .string to, .int .i64 1, .int .i64 n, .string ⟨#[]⟩, v, .slice none 0 0, .slice none 0 0, .string ⟨#[]⟩, .int .i64 0], .agg #[.string ⟨#[]⟩, .string to, .int .i64 1, .int .i64 n, .string ⟨#[]⟩, u, .slice none 0 0, .slice none 0 0, .string ⟨#[]⟩, .int .i64 0]] w fun x w' => x = .returned (.bool true) ∧ Below w.heap.size w w' := by
  go_enter Try.func18, Try.ntmps18
  go_wp2_with fail
  have q0 : Below w.heap.size w ((w.alloc (.cells #[.string ⟨#[]⟩, .string to, .int .i64 1, .int .i64 n, .string ⟨#[]⟩, v, .slice none 0 0, .slice none 0 0, .string ⟨#[]⟩, .int .i64 0] 49)).alloc (.cells #[.string ⟨#[]⟩, .string to, .int .i64 1, .int .i64 n, .string ⟨#[]⟩, u, .slice none 0 0, .slice none 0 0, .string ⟨#[]⟩, .int .i64 0] 49)) := ((Below.refl _ _).alloc (Nat.le_refl _) _).alloc (by simp) _
  have B1 : Whole ((w.alloc (.cells #[.string ⟨#[]⟩, .string to, .int .i64 1, .int .i64 n, .string ⟨#[]⟩, v, .slice none 0 0, .slice none 0 0, .string ⟨#[]⟩, .int .i64 0] 49)).alloc (.cells #[.string ⟨#[]⟩, .string to, .int .i64 1, .int .i64 n, .string ⟨#[]⟩, u, .slice none 0 0, .slice none 0 0, .string ⟨#[]⟩, .int .i64 0] 49)) w.heap.size 49 #[.string ⟨#[]⟩, .string to, .int .i64 1, .int .i64 n, .string ⟨#[]⟩, v, .slice none 0 0, .slice none 0 0, .string ⟨#[]⟩, .int .i64 0] := (Whole.new w 49 #[.string ⟨#[]⟩, .string to, .int .i64 1, .int .i64 n, .string ⟨#[]⟩, v, .slice none 0 0, .slice none 0 0, .string ⟨#[]⟩, .int .i64 0]).on ((Below.refl _ _).alloc (Nat.le_refl _) _)
  have B2 : Whole ((w.alloc (.cells #[.string ⟨#[]⟩, .string to, .int .i64 1, .int .i64 n, .string ⟨#[]⟩, v, .slice none 0 0, .slice none 0 0, .string ⟨#[]⟩, .int .i64 0] 49)).alloc (.cells #[.string ⟨#[]⟩, .string to, .int .i64 1, .int .i64 n, .string ⟨#[]⟩, u, .slice none 0 0, .slice none 0 0, .string ⟨#[]⟩, .int .i64 0] 49)) (w.heap.size + 1) 49 #[.string ⟨#[]⟩, .string to, .int .i64 1, .int .i64 n, .string ⟨#[]⟩, u, .slice none 0 0, .slice none 0 0, .string ⟨#[]⟩, .int .i64 0] := by
    have := Whole.new (w.alloc (.cells #[.string ⟨#[]⟩, .string to, .int .i64 1, .int .i64 n, .string ⟨#[]⟩, v, .slice none 0 0, .slice none 0 0, .string ⟨#[]⟩, .int .i64 0] 49)) 49 #[.string ⟨#[]⟩, .string to, .int .i64 1, .int .i64 n, .string ⟨#[]⟩, u, .slice none 0 0, .slice none 0 0, .string ⟨#[]⟩, .int .i64 0]
    rwa [size_alloc'] at this
  obtain ⟨w1, hw1⟩ : ∃ w1, w1 = (w.alloc (.cells #[.string ⟨#[]⟩, .string to, .int .i64 1, .int .i64 n, .string ⟨#[]⟩, v, .slice none 0 0, .slice none 0 0, .string ⟨#[]⟩, .int .i64 0] 49)).alloc (.cells #[.string ⟨#[]⟩, .string to, .int .i64 1, .int .i64 n, .string ⟨#[]⟩, u, .slice none 0 0, .slice none 0 0, .string ⟨#[]⟩, .int .i64 0] 49) := ⟨_, rfl⟩
  try rw [← hw1] at B1 B2 q0 ⊢
  clear hw1
  refine (sameInts _ 0 [] _ Row.nil).mono ?_
  rintro x w2 ⟨rfl, hb⟩
  replace B1 := B1.on hb
  replace B2 := B2.on hb
  have q2 := q0.trans (hb.mono q0.size)
  clear hb q0
  have c1 := B1.cell 5
  have c2 := B2.cell 5
  simp at c1 c2
  go_wp2_with fail
  refine (sameAll _ _ es _ (hv.on q2) (hu.on q2)).mono ?_
  rintro x w3 ⟨rfl, hb⟩
  replace B1 := B1.on hb
  replace B2 := B2.on hb
  have q3 := q2.trans (hb.mono q2.size)
  clear hb q2 c1 c2
  have c1 := B1.cell 7
  have c2 := B2.cell 7
  simp at c1 c2
  go_wp2_with fail
  refine (sameAll _ _ [] _ Evs.nil Evs.nil).mono ?_
  rintro x w4 ⟨rfl, hb⟩
  have q4 := q3.trans (hb.mono q3.size)
  clear hb q3 c1 c2 B1 B2
  go_wp2_with fail
  go_ret
  exact ⟨rfl, q4⟩

set_option maxRecDepth 100000 in
set_option maxHeartbeats 1000000 in
theorem samePk0 (w : World) :
    Calls Try.prog 18 #[.agg #[.string ⟨#[]⟩, .string ⟨#[]⟩, .int .i64 0, .int .i64 0, .string ⟨#[]⟩, .slice none 0 0, .slice none 0 0, .slice none 0 0, .string ⟨#[]⟩, .int .i64 0], .agg #[.string ⟨#[]⟩, .string ⟨#[]⟩, .int .i64 0, .int .i64 0, .string ⟨#[]⟩, .slice none 0 0, .slice none 0 0, .slice none 0 0, .string ⟨#[]⟩, .int .i64 0]] w fun x w' => x = .returned (.bool true) ∧ Below w.heap.size w w' := by
  go_enter Try.func18, Try.ntmps18
  go_wp2_with fail
  have q0 : Below w.heap.size w ((w.alloc (.cells #[.string ⟨#[]⟩, .string ⟨#[]⟩, .int .i64 0, .int .i64 0, .string ⟨#[]⟩, .slice none 0 0, .slice none 0 0, .slice none 0 0, .string ⟨#[]⟩, .int .i64 0] 49)).alloc (.cells #[.string ⟨#[]⟩, .string ⟨#[]⟩, .int .i64 0, .int .i64 0, .string ⟨#[]⟩, .slice none 0 0, .slice none 0 0, .slice none 0 0, .string ⟨#[]⟩, .int .i64 0] 49)) := ((Below.refl _ _).alloc (Nat.le_refl _) _).alloc (by simp) _
  have B1 : Whole ((w.alloc (.cells #[.string ⟨#[]⟩, .string ⟨#[]⟩, .int .i64 0, .int .i64 0, .string ⟨#[]⟩, .slice none 0 0, .slice none 0 0, .slice none 0 0, .string ⟨#[]⟩, .int .i64 0] 49)).alloc (.cells #[.string ⟨#[]⟩, .string ⟨#[]⟩, .int .i64 0, .int .i64 0, .string ⟨#[]⟩, .slice none 0 0, .slice none 0 0, .slice none 0 0, .string ⟨#[]⟩, .int .i64 0] 49)) w.heap.size 49 #[.string ⟨#[]⟩, .string ⟨#[]⟩, .int .i64 0, .int .i64 0, .string ⟨#[]⟩, .slice none 0 0, .slice none 0 0, .slice none 0 0, .string ⟨#[]⟩, .int .i64 0] := (Whole.new w 49 #[.string ⟨#[]⟩, .string ⟨#[]⟩, .int .i64 0, .int .i64 0, .string ⟨#[]⟩, .slice none 0 0, .slice none 0 0, .slice none 0 0, .string ⟨#[]⟩, .int .i64 0]).on ((Below.refl _ _).alloc (Nat.le_refl _) _)
  have B2 : Whole ((w.alloc (.cells #[.string ⟨#[]⟩, .string ⟨#[]⟩, .int .i64 0, .int .i64 0, .string ⟨#[]⟩, .slice none 0 0, .slice none 0 0, .slice none 0 0, .string ⟨#[]⟩, .int .i64 0] 49)).alloc (.cells #[.string ⟨#[]⟩, .string ⟨#[]⟩, .int .i64 0, .int .i64 0, .string ⟨#[]⟩, .slice none 0 0, .slice none 0 0, .slice none 0 0, .string ⟨#[]⟩, .int .i64 0] 49)) (w.heap.size + 1) 49 #[.string ⟨#[]⟩, .string ⟨#[]⟩, .int .i64 0, .int .i64 0, .string ⟨#[]⟩, .slice none 0 0, .slice none 0 0, .slice none 0 0, .string ⟨#[]⟩, .int .i64 0] := by
    have := Whole.new (w.alloc (.cells #[.string ⟨#[]⟩, .string ⟨#[]⟩, .int .i64 0, .int .i64 0, .string ⟨#[]⟩, .slice none 0 0, .slice none 0 0, .slice none 0 0, .string ⟨#[]⟩, .int .i64 0] 49)) 49 #[.string ⟨#[]⟩, .string ⟨#[]⟩, .int .i64 0, .int .i64 0, .string ⟨#[]⟩, .slice none 0 0, .slice none 0 0, .slice none 0 0, .string ⟨#[]⟩, .int .i64 0]
    rwa [size_alloc'] at this
  obtain ⟨w1, hw1⟩ : ∃ w1, w1 = (w.alloc (.cells #[.string ⟨#[]⟩, .string ⟨#[]⟩, .int .i64 0, .int .i64 0, .string ⟨#[]⟩, .slice none 0 0, .slice none 0 0, .slice none 0 0, .string ⟨#[]⟩, .int .i64 0] 49)).alloc (.cells #[.string ⟨#[]⟩, .string ⟨#[]⟩, .int .i64 0, .int .i64 0, .string ⟨#[]⟩, .slice none 0 0, .slice none 0 0, .slice none 0 0, .string ⟨#[]⟩, .int .i64 0] 49) := ⟨_, rfl⟩
  try rw [← hw1] at B1 B2 q0 ⊢
  clear hw1
  refine (sameInts _ 0 [] _ Row.nil).mono ?_
  rintro x w2 ⟨rfl, hb⟩
  replace B1 := B1.on hb
  replace B2 := B2.on hb
  have q2 := q0.trans (hb.mono q0.size)
  clear hb q0
  have c1 := B1.cell 5
  have c2 := B2.cell 5
  simp at c1 c2
  go_wp2_with fail
  refine (sameAll _ _ [] _ (Evs.nil) (Evs.nil)).mono ?_
  rintro x w3 ⟨rfl, hb⟩
  replace B1 := B1.on hb
  replace B2 := B2.on hb
  have q3 := q2.trans (hb.mono q2.size)
  clear hb q2 c1 c2
  have c1 := B1.cell 7
  have c2 := B2.cell 7
  simp at c1 c2
  go_wp2_with fail
  refine (sameAll _ _ [] _ Evs.nil Evs.nil).mono ?_
  rintro x w4 ⟨rfl, hb⟩
  have q4 := q3.trans (hb.mono q3.size)
  clear hb q3 c1 c2 B1 B2
  go_wp2_with fail
  go_ret
  exact ⟨rfl, q4⟩

end Go.Proofs.Ytfebldoplobkdaa
