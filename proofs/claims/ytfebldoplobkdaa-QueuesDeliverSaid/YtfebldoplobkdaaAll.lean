/- All events of a queue: the open ones, then those that wait. -/
import Derived.Test.YtfebldoplobkdaaApp
namespace Go.Proofs.Ytfebldoplobkdaa
open Go.ChangeShapes Go.WideShapes Go.ChangeAt Go.RowKit

theorem zinfo : (Try.prog.info? 37).map (fun i => (i.zero, i.size, i.bytes)) = some (some (.agg #[.int .i64 0, .string ⟨#[]⟩, .string ⟨#[]⟩, .int .i64 0, .bool false, .string ⟨#[]⟩, .int .i64 0, .int .i64 0, .slice none 0 0, .slice none 0 0, .string ⟨#[]⟩, .int .i64 0, .int .i64 0, .bool false, .string ⟨#[]⟩, .slice none 0 0, .slice none 0 0, .slice none 0 0, .slice none 0 0, .int .i64 0, .int .i64 0, .int .i64 0, .int .i64 0, .int .i64 0, .int .i64 0, .int .i64 0, .int .i64 0, .string ⟨#[]⟩, .int .i64 0]), 29, 376) := by kernel_rfl

/-- A result that is a slice of events. -/
def EvsPost (es : List (List Value)) (w : World) (x : Ending) (w' : World) : Prop := ∃ v, x = .returned v ∧ Evs w' v es ∧ Below w.heap.size w w'

def allF (W : World) (eo ee : List (List Value)) : Nat → World → List Value → Prop
  | 0, _, _ => True
  | 1, w, ν => ∃ v, ν = [v] ∧ w.ownsRow W.heap.size 37 29 v 0 []
  | 2, w, ν => ∃ a v, ν = [a, v] ∧ w.ownsRow W.heap.size 37 29 v eo.length eo.flatten
  | 3, w, ν => ∃ a b v, ν = [a, b, v] ∧ w.ownsRow W.heap.size 37 29 v (eo.length + ee.length) (eo.flatten ++ ee.flatten)
  | _, w, ν => ∃ a b v, ν = [a, b, v, v] ∧ w.ownsRow W.heap.size 37 29 v (eo.length + ee.length) (eo.flatten ++ ee.flatten)
theorem allF_on {W : World} {eo ee : List (List Value)} : ∀ (p : Nat) (w w' : World) (ν : List Value), allF W eo ee p w ν → Below w.heap.size w w' → allF W eo ee p w' ν
  | 0, _, _, _, _, _ => trivial
  | 1, _, _, _, ⟨v, h, o⟩, hb => ⟨v, h, own_on o hb⟩
  | 2, _, _, _, ⟨a, v, h, o⟩, hb => ⟨a, v, h, own_on o hb⟩
  | 3, _, _, _, ⟨a, b, v, h, o⟩, hb => ⟨a, b, v, h, own_on o hb⟩
  | _ + 4, _, _, _, ⟨a, b, v, h, o⟩, hb => ⟨a, b, v, h, own_on o hb⟩

set_option maxRecDepth 100000 in
set_option maxHeartbeats 1000000 in
theorem rAll (to : ByteArray) (next : Int) (ev op : Value) (fails at_ : Int) (eo ee : List (List Value)) (w : World) (ho : Evs w op eo) (he : Evs w ev ee) (hs : eo.length + ee.length ≤ 100000) :
    Calls Try.prog 27 #[.agg #[.string to, .int .i64 next, ev, op, .int .i64 fails, .int .i64 at_]] w (EvsPost (eo ++ ee) w) := by
  obtain ⟨i0, hi0, hz0, hz1, hz2⟩ := info_parts zinfo
  go_enter Try.func27, Try.ntmps27
  go_wp2_with fail
  have q0 : Below w.heap.size w (w.alloc (.cells #[.string to, .int .i64 next, ev, op, .int .i64 fails, .int .i64 at_] 24)) := (Below.refl _ _).alloc (Nat.le_refl _) _
  have B1 := Whole.new w 24 #[.string to, .int .i64 next, ev, op, .int .i64 fails, .int .i64 at_]
  have ho1 := ho.on q0
  have he1 := he.on q0
  obtain ⟨w1, hw1⟩ : ∃ w1, w1 = w.alloc (.cells #[.string to, .int .i64 next, ev, op, .int .i64 fails, .int .i64 at_] 24) := ⟨_, rfl⟩
  rw [← hw1] at B1 ho1 he1 q0 ⊢
  clear hw1 ho he
  refine wp_region_net [0, 3, 6, 7] none (allF w1 eo ee) (by kernel_rfl) (by kernel_rfl) (by kernel_rfl) trivial ?_
  apply Exists.intro
  apply And.intro
  · intro W1 hW
    have hb := below_of_grown hW
    have hx : ∀ (X : Ext W1) (o : Nat), X.val.cell? ⟨w.heap.size, o, none⟩ = (#[.string to, .int .i64 next, ev, op, .int .i64 fails, .int .i64 at_] : Array Value)[o]? := fun X o => ((B1.on hb).on X.below).cell o
    simp only [quietOps, List.contains_cons, List.contains_nil]
    simp
    repeat (first | go_big_quiet_skip | (go_big_quiet_want; (first | (go_big_quiet_op; (first | go_big_quiet_on | go_big_quiet_call (fail))))))
    exact wpQuiet_nil rfl
  refine ⟨⟨allF_on, fun j hj => ?_⟩, ?_⟩
  · match j, hj with
    | 0, _ =>
      refine ⟨_, rfl, rfl, fun w2 ν hν hw2 _ => ?_⟩
      obtain rfl : ν = [] := List.eq_nil_of_length_eq_zero hν
      exact leaves_value (build0 _ _ _ _ _ w2) (grownBy_trans hw2 (World.grownBy_alloc _ _ _)) ⟨_, rfl, World.ownsRow_made w2 #[] 0 hw2.size (by simp [maxLen]) (by simp)⟩
    | 1, _ =>
      refine ⟨_, rfl, rfl, fun w2 ν hν hw2 hf => ?_⟩
      obtain ⟨v, rfl, own⟩ := hf
      have hb := below_of_grown hw2
      refine leaves_append _ _ w1.heap.size 22 37 i0 _ 29 376 rfl Try.underlying22 hi0 hz0 hz1 hz2 rfl (by omega) v 0 [] rfl own op eo.length eo.flatten rfl (ho1.on hb).1 (ho1.on hb).one (by simp only [maxLen]; omega) (by omega) hw2 (Nat.le_refl _) hw2.size ?_
      intro v' w' h2 _ _
      exact ⟨v, v', rfl, by simpa using h2⟩
    | 2, _ =>
      refine ⟨_, rfl, rfl, fun w2 ν hν hw2 hf => ?_⟩
      obtain ⟨a, v, rfl, own⟩ := hf
      have hb := below_of_grown hw2
      refine leaves_append _ _ w1.heap.size 22 37 i0 _ 29 376 rfl Try.underlying22 hi0 hz0 hz1 hz2 rfl (by omega) v eo.length eo.flatten rfl own ev ee.length ee.flatten rfl (he1.on hb).1 (he1.on hb).one (by simp only [maxLen]; omega) (by omega) hw2 (Nat.le_refl _) hw2.size ?_
      intro v' w' h2 _ _
      exact ⟨a, v, v', rfl, h2⟩
    | 3, _ =>
      refine ⟨_, rfl, rfl, fun w2 ν hν hw2 hf => ?_⟩
      obtain ⟨a, b, v, rfl, own⟩ := hf
      exact ⟨hw2, a, b, v, rfl, own⟩
  · intro ν w2 hν hw2 hf
    obtain ⟨a, b, v, rfl, own⟩ := hf
    have hb := below_of_grown hw2
    have hev : Evs w2 v (eo ++ ee) := ⟨by rw [List.flatten_append, List.length_append]; exact Row.of_own own, fun c hc => by
      rcases List.mem_append.1 hc with h | h
      · exact (ho1.on hb).2 c h
      · exact (he1.on hb).2 c h⟩
    have q2 := q0.trans (hb.mono q0.size)
    clear own
    simp only [dstsOfS, dstAt, List.map_cons, List.map_nil, fillA]
    simp [Act.put]
    go_wp2_with fail
    go_ret
    exact ⟨v, rfl, hev, q2⟩

set_option maxRecDepth 100000 in
set_option maxHeartbeats 1000000 in
theorem qEvents (to : ByteArray) (next : Int) (ev op : Value) (fails at_ : Int) (eo ee : List (List Value)) (w : World) (ho : Evs w op eo) (he : Evs w ev ee) (hs : eo.length + ee.length ≤ 100000) :
    Calls Try.prog 29 #[.agg #[.string to, .int .i64 next, ev, op, .int .i64 fails, .int .i64 at_]] w (EvsPost (eo ++ ee) w) := by
  obtain ⟨i0, hi0, hz0, hz1, hz2⟩ := info_parts zinfo
  go_enter Try.func29, Try.ntmps29
  go_wp2_with fail
  have q0 : Below w.heap.size w (w.alloc (.cells #[.string to, .int .i64 next, ev, op, .int .i64 fails, .int .i64 at_] 24)) := (Below.refl _ _).alloc (Nat.le_refl _) _
  have B1 := Whole.new w 24 #[.string to, .int .i64 next, ev, op, .int .i64 fails, .int .i64 at_]
  have ho1 := ho.on q0
  have he1 := he.on q0
  obtain ⟨w1, hw1⟩ : ∃ w1, w1 = w.alloc (.cells #[.string to, .int .i64 next, ev, op, .int .i64 fails, .int .i64 at_] 24) := ⟨_, rfl⟩
  rw [← hw1] at B1 ho1 he1 q0 ⊢
  clear hw1 ho he
  refine wp_region_net [0, 3, 6, 7] none (allF w1 eo ee) (by kernel_rfl) (by kernel_rfl) (by kernel_rfl) trivial ?_
  apply Exists.intro
  apply And.intro
  · intro W1 hW
    have hb := below_of_grown hW
    have hx : ∀ (X : Ext W1) (o : Nat), X.val.cell? ⟨w.heap.size, o, none⟩ = (#[.string to, .int .i64 next, ev, op, .int .i64 fails, .int .i64 at_] : Array Value)[o]? := fun X o => ((B1.on hb).on X.below).cell o
    simp only [quietOps, List.contains_cons, List.contains_nil]
    simp
    repeat (first | go_big_quiet_skip | (go_big_quiet_want; (first | (go_big_quiet_op; (first | go_big_quiet_on | go_big_quiet_call (fail))))))
    exact wpQuiet_nil rfl
  refine ⟨⟨allF_on, fun j hj => ?_⟩, ?_⟩
  · match j, hj with
    | 0, _ =>
      refine ⟨_, rfl, rfl, fun w2 ν hν hw2 _ => ?_⟩
      obtain rfl : ν = [] := List.eq_nil_of_length_eq_zero hν
      exact leaves_value (build0 _ _ _ _ _ w2) (grownBy_trans hw2 (World.grownBy_alloc _ _ _)) ⟨_, rfl, World.ownsRow_made w2 #[] 0 hw2.size (by simp [maxLen]) (by simp)⟩
    | 1, _ =>
      refine ⟨_, rfl, rfl, fun w2 ν hν hw2 hf => ?_⟩
      obtain ⟨v, rfl, own⟩ := hf
      have hb := below_of_grown hw2
      refine leaves_append _ _ w1.heap.size 22 37 i0 _ 29 376 rfl Try.underlying22 hi0 hz0 hz1 hz2 rfl (by omega) v 0 [] rfl own op eo.length eo.flatten rfl (ho1.on hb).1 (ho1.on hb).one (by simp only [maxLen]; omega) (by omega) hw2 (Nat.le_refl _) hw2.size ?_
      intro v' w' h2 _ _
      exact ⟨v, v', rfl, by simpa using h2⟩
    | 2, _ =>
      refine ⟨_, rfl, rfl, fun w2 ν hν hw2 hf => ?_⟩
      obtain ⟨a, v, rfl, own⟩ := hf
      have hb := below_of_grown hw2
      refine leaves_append _ _ w1.heap.size 22 37 i0 _ 29 376 rfl Try.underlying22 hi0 hz0 hz1 hz2 rfl (by omega) v eo.length eo.flatten rfl own ev ee.length ee.flatten rfl (he1.on hb).1 (he1.on hb).one (by simp only [maxLen]; omega) (by omega) hw2 (Nat.le_refl _) hw2.size ?_
      intro v' w' h2 _ _
      exact ⟨a, v, v', rfl, h2⟩
    | 3, _ =>
      refine ⟨_, rfl, rfl, fun w2 ν hν hw2 hf => ?_⟩
      obtain ⟨a, b, v, rfl, own⟩ := hf
      exact ⟨hw2, a, b, v, rfl, own⟩
  · intro ν w2 hν hw2 hf
    obtain ⟨a, b, v, rfl, own⟩ := hf
    have hb := below_of_grown hw2
    have hev : Evs w2 v (eo ++ ee) := ⟨by rw [List.flatten_append, List.length_append]; exact Row.of_own own, fun c hc => by
      rcases List.mem_append.1 hc with h | h
      · exact (ho1.on hb).2 c h
      · exact (he1.on hb).2 c h⟩
    have q2 := q0.trans (hb.mono q0.size)
    clear own
    simp only [dstsOfS, dstAt, List.map_cons, List.map_nil, fillA]
    simp [Act.put]
    go_wp2_with fail
    go_ret
    exact ⟨v, rfl, hev, q2⟩

end Go.Proofs.Ytfebldoplobkdaa
