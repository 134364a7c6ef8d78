/- The packet of the open transaction, and that its row of events is its own. -/
import Derived.Test.YtfebldoplobkdaaPushR
namespace Go.Proofs.Ytfebldoplobkdaa
open Go.ChangeShapes Go.WideShapes Go.ChangeAt Go.RowKit

/-- A result that is a packet of a transaction, whose events lie in a block of its own. -/
def PkOwn (to : ByteArray) (n : Int) (es : List (List Value)) (w : World) (x : Ending) (w' : World) : Prop := ∃ v, x = .returned (.agg (pkc to n v)) ∧ w'.ownsRow w.heap.size 37 29 v es.length es.flatten ∧ Below w.heap.size w w'

set_option maxRecDepth 100000 in
set_option maxHeartbeats 1000000 in
theorem qPacketO (to : ByteArray) (next : Int) (ev op : Value) (fails at_ : Int) (eo : List (List Value)) (w : World) (ho : Evs w op eo) (hs : eo.length ≤ 100000) (hn : 0 ≤ next ∧ next ≤ 1000000000001) :
    Calls Try.prog 31 #[.agg #[.string to, .int .i64 next, ev, op, .int .i64 fails, .int .i64 at_]] w (PkOwn to (next - 1) eo w) := by
  obtain ⟨i0, hi0, hz0, hz1, hz2⟩ := info_parts zinfo
  obtain ⟨n1, n2⟩ := hn
  go_enter Try.func31, Try.ntmps31
  go_wp2_with fail
  have q0 : Below w.heap.size w ((w.alloc (.cells #[.string to, .int .i64 next, ev, op, .int .i64 fails, .int .i64 at_] 24)).alloc (.cells #[.string ⟨#[]⟩, .string ⟨#[]⟩, .int .i64 0, .int .i64 0, .string ⟨#[]⟩, .slice none 0 0, .slice none 0 0, .slice none 0 0, .string ⟨#[]⟩, .int .i64 0] 49)) := ((Below.refl _ _).alloc (Nat.le_refl _) _).alloc (by rw [size_alloc']; omega) _
  have B1 : Whole ((w.alloc (.cells #[.string to, .int .i64 next, ev, op, .int .i64 fails, .int .i64 at_] 24)).alloc (.cells #[.string ⟨#[]⟩, .string ⟨#[]⟩, .int .i64 0, .int .i64 0, .string ⟨#[]⟩, .slice none 0 0, .slice none 0 0, .slice none 0 0, .string ⟨#[]⟩, .int .i64 0] 49)) w.heap.size 24 #[.string to, .int .i64 next, ev, op, .int .i64 fails, .int .i64 at_] := (Whole.new w 24 #[.string to, .int .i64 next, ev, op, .int .i64 fails, .int .i64 at_]).on ((Below.refl _ _).alloc (Nat.le_refl _) _)
  have B2 : Whole ((w.alloc (.cells #[.string to, .int .i64 next, ev, op, .int .i64 fails, .int .i64 at_] 24)).alloc (.cells #[.string ⟨#[]⟩, .string ⟨#[]⟩, .int .i64 0, .int .i64 0, .string ⟨#[]⟩, .slice none 0 0, .slice none 0 0, .slice none 0 0, .string ⟨#[]⟩, .int .i64 0] 49)) (w.heap.size + 1) 49 pk0 := by
    have := Whole.new (w.alloc (.cells #[.string to, .int .i64 next, ev, op, .int .i64 fails, .int .i64 at_] 24)) 49 #[.string ⟨#[]⟩, .string ⟨#[]⟩, .int .i64 0, .int .i64 0, .string ⟨#[]⟩, .slice none 0 0, .slice none 0 0, .slice none 0 0, .string ⟨#[]⟩, .int .i64 0]
    rwa [size_alloc'] at this
  obtain ⟨w1, hw1⟩ : ∃ w1, w1 = (w.alloc (.cells #[.string to, .int .i64 next, ev, op, .int .i64 fails, .int .i64 at_] 24)).alloc (.cells #[.string ⟨#[]⟩, .string ⟨#[]⟩, .int .i64 0, .int .i64 0, .string ⟨#[]⟩, .slice none 0 0, .slice none 0 0, .slice none 0 0, .string ⟨#[]⟩, .int .i64 0] 49) := ⟨_, rfl⟩
  rw [← hw1] at B1 B2 q0 ⊢
  clear hw1
  refine wp_region_net [5, 8, 9, 10] (some (w.heap.size + 1)) (pkF w1 (w.heap.size + 1) to (next - 1) eo) (by kernel_rfl) (by kernel_rfl) (by kernel_rfl) B2 ?_
  apply Exists.intro
  apply And.intro
  · intro W1 hW
    have B1' := B1.off hW (by simp)
    have hx : ∀ (X : Ext W1) (o : Nat), X.val.cell? ⟨w.heap.size, o, none⟩ = (#[.string to, .int .i64 next, ev, op, .int .i64 fails, .int .i64 at_] : Array Value)[o]? := fun X o => (B1'.on X.below).cell o
    simp only [quietOps, List.contains_cons, List.contains_nil]
    simp
    repeat (first | go_big_quiet_skip | (go_big_quiet_want; (first | (go_big_quiet_op; (first | go_big_quiet_on | go_big_quiet_call (fail))))))
    exact wpQuiet_nil rfl
  refine ⟨⟨pkF_on, fun j hj => ?_⟩, ?_⟩
  · match j, hj with
    | 0, _ =>
      refine ⟨_, rfl, rfl, fun w2 ν hν hw2 hf => ?_⟩
      obtain rfl : ν = [] := List.eq_nil_of_length_eq_zero hν
      exact leaves_value (build0 _ _ _ _ _ w2) (grownBy_trans hw2 (World.grownBy_alloc _ _ _)) ⟨⟨_, rfl, World.ownsRow_made w2 #[] 0 hw2.size (by simp [maxLen]) (by simp)⟩, Whole.on hf ((Below.refl _ _).alloc (Nat.le_refl _) _)⟩
    | 1, _ =>
      refine ⟨_, rfl, rfl, fun w2 ν hν hw2 hf => ?_⟩
      obtain ⟨⟨v, rfl, own⟩, z⟩ := hf
      have h2 := ho.on (below_row q0 hw2 (by omega) q0.size)
      refine leaves_append2 _ _ w1.heap.size 22 37 i0 _ 29 376 rfl Try.underlying22 hi0 hz0 hz1 hz2 rfl (by omega) v 0 [] rfl own op eo.length eo.flatten rfl h2.1 h2.one (by simp only [maxLen]; omega) (by omega) hw2 (Nat.le_refl _) hw2.size ?_
      intro v' w' h2 h3 _
      exact ⟨⟨v, v', rfl, by simpa using h2⟩, z.own own B2.lt h3⟩
    | 2, _ =>
      refine ⟨_, rfl, rfl, fun w2 ν hν hw2 hf => ?_⟩
      obtain ⟨⟨a, v, rfl, own⟩, z⟩ := hf
      obtain ⟨ao, cap, rfl⟩ := own_slice own
      exact leaves_value (build49 _ to (next - 1) ao eo.length cap _ rfl rfl rfl rfl rfl w2) hw2 ⟨⟨_, _, rfl, own⟩, z⟩
    | 3, _ =>
      refine ⟨_, rfl, rfl, fun w2 ν hν hw2 hf => ?_⟩
      obtain ⟨⟨a, v, rfl, own⟩, z⟩ := hf
      refine leaves_store 49 49 _ _ (w.heap.size + 1) pk0 (pkc to (next - 1) v) rfl rfl rfl info49 z rfl ?_ hw2 (.inr rfl) fun w' z' hg => ⟨_, _, rfl, own_off own hg B2.lt, z'⟩
      obtain ⟨ao, cap, rfl⟩ := own_slice own
      simp [pkc, Value.oneCell']
  · intro ν w2 hν hw2 hf
    obtain ⟨a, v, rfl, own, z⟩ := hf
    have q2 : Below w.heap.size w w2 := below_row q0 hw2 (by omega) q0.size
    have hev := Lib.hid (own_base own q0.size)
    have hc := z.cell
    clear own z B1 B2 ho
    simp only [dstsOfS, dstAt, List.map_cons, List.map_nil, fillA]
    simp [Act.put]
    go_wp2_with fail
    exact bodyPost_ret (v := .agg (pkc to (next - 1) v)) (by simp [results, Try.results31, go_sem, hc, pkc]) rfl ⟨v, rfl, hev.out, q2⟩

set_option maxRecDepth 100000 in
set_option maxHeartbeats 1000000 in
theorem rPacketO (to : ByteArray) (next : Int) (ev op : Value) (fails at_ : Int) (eo : List (List Value)) (w : World) (ho : Evs w op eo) (hs : eo.length ≤ 100000) (hn : 0 ≤ next ∧ next ≤ 1000000000001) :
    Calls Try.prog 32 #[.agg #[.string to, .int .i64 next, ev, op, .int .i64 fails, .int .i64 at_]] w (PkOwn to (next - 1) eo w) := by
  obtain ⟨i0, hi0, hz0, hz1, hz2⟩ := info_parts zinfo
  obtain ⟨n1, n2⟩ := hn
  go_enter Try.func32, Try.ntmps32
  go_wp2_with fail
  have q0 : Below w.heap.size w ((w.alloc (.cells #[.string to, .int .i64 next, ev, op, .int .i64 fails, .int .i64 at_] 24)).alloc (.cells #[.string ⟨#[]⟩, .string ⟨#[]⟩, .int .i64 0, .int .i64 0, .string ⟨#[]⟩, .slice none 0 0, .slice none 0 0, .slice none 0 0, .string ⟨#[]⟩, .int .i64 0] 49)) := ((Below.refl _ _).alloc (Nat.le_refl _) _).alloc (by rw [size_alloc']; omega) _
  have B1 : Whole ((w.alloc (.cells #[.string to, .int .i64 next, ev, op, .int .i64 fails, .int .i64 at_] 24)).alloc (.cells #[.string ⟨#[]⟩, .string ⟨#[]⟩, .int .i64 0, .int .i64 0, .string ⟨#[]⟩, .slice none 0 0, .slice none 0 0, .slice none 0 0, .string ⟨#[]⟩, .int .i64 0] 49)) w.heap.size 24 #[.string to, .int .i64 next, ev, op, .int .i64 fails, .int .i64 at_] := (Whole.new w 24 #[.string to, .int .i64 next, ev, op, .int .i64 fails, .int .i64 at_]).on ((Below.refl _ _).alloc (Nat.le_refl _) _)
  have B2 : Whole ((w.alloc (.cells #[.string to, .int .i64 next, ev, op, .int .i64 fails, .int .i64 at_] 24)).alloc (.cells #[.string ⟨#[]⟩, .string ⟨#[]⟩, .int .i64 0, .int .i64 0, .string ⟨#[]⟩, .slice none 0 0, .slice none 0 0, .slice none 0 0, .string ⟨#[]⟩, .int .i64 0] 49)) (w.heap.size + 1) 49 pk0 := by
    have := Whole.new (w.alloc (.cells #[.string to, .int .i64 next, ev, op, .int .i64 fails, .int .i64 at_] 24)) 49 #[.string ⟨#[]⟩, .string ⟨#[]⟩, .int .i64 0, .int .i64 0, .string ⟨#[]⟩, .slice none 0 0, .slice none 0 0, .slice none 0 0, .string ⟨#[]⟩, .int .i64 0]
    rwa [size_alloc'] at this
  obtain ⟨w1, hw1⟩ : ∃ w1, w1 = (w.alloc (.cells #[.string to, .int .i64 next, ev, op, .int .i64 fails, .int .i64 at_] 24)).alloc (.cells #[.string ⟨#[]⟩, .string ⟨#[]⟩, .int .i64 0, .int .i64 0, .string ⟨#[]⟩, .slice none 0 0, .slice none 0 0, .slice none 0 0, .string ⟨#[]⟩, .int .i64 0] 49) := ⟨_, rfl⟩
  rw [← hw1] at B1 B2 q0 ⊢
  clear hw1
  refine wp_region_net [5, 8, 9, 10] (some (w.heap.size + 1)) (pkF w1 (w.heap.size + 1) to (next - 1) eo) (by kernel_rfl) (by kernel_rfl) (by kernel_rfl) B2 ?_
  apply Exists.intro
  apply And.intro
  · intro W1 hW
    have B1' := B1.off hW (by simp)
    have hx : ∀ (X : Ext W1) (o : Nat), X.val.cell? ⟨w.heap.size, o, none⟩ = (#[.string to, .int .i64 next, ev, op, .int .i64 fails, .int .i64 at_] : Array Value)[o]? := fun X o => (B1'.on X.below).cell o
    simp only [quietOps, List.contains_cons, List.contains_nil]
    simp
    repeat (first | go_big_quiet_skip | (go_big_quiet_want; (first | (go_big_quiet_op; (first | go_big_quiet_on | go_big_quiet_call (fail))))))
    exact wpQuiet_nil rfl
  refine ⟨⟨pkF_on, fun j hj => ?_⟩, ?_⟩
  · match j, hj with
    | 0, _ =>
      refine ⟨_, rfl, rfl, fun w2 ν hν hw2 hf => ?_⟩
      obtain rfl : ν = [] := List.eq_nil_of_length_eq_zero hν
      exact leaves_value (build0 _ _ _ _ _ w2) (grownBy_trans hw2 (World.grownBy_alloc _ _ _)) ⟨⟨_, rfl, World.ownsRow_made w2 #[] 0 hw2.size (by simp [maxLen]) (by simp)⟩, Whole.on hf ((Below.refl _ _).alloc (Nat.le_refl _) _)⟩
    | 1, _ =>
      refine ⟨_, rfl, rfl, fun w2 ν hν hw2 hf => ?_⟩
      obtain ⟨⟨v, rfl, own⟩, z⟩ := hf
      have h2 := ho.on (below_row q0 hw2 (by omega) q0.size)
      refine leaves_append2 _ _ w1.heap.size 22 37 i0 _ 29 376 rfl Try.underlying22 hi0 hz0 hz1 hz2 rfl (by omega) v 0 [] rfl own op eo.length eo.flatten rfl h2.1 h2.one (by simp only [maxLen]; omega) (by omega) hw2 (Nat.le_refl _) hw2.size ?_
      intro v' w' h2 h3 _
      exact ⟨⟨v, v', rfl, by simpa using h2⟩, z.own own B2.lt h3⟩
    | 2, _ =>
      refine ⟨_, rfl, rfl, fun w2 ν hν hw2 hf => ?_⟩
      obtain ⟨⟨a, v, rfl, own⟩, z⟩ := hf
      obtain ⟨ao, cap, rfl⟩ := own_slice own
      exact leaves_value (build49 _ to (next - 1) ao eo.length cap _ rfl rfl rfl rfl rfl w2) hw2 ⟨⟨_, _, rfl, own⟩, z⟩
    | 3, _ =>
      refine ⟨_, rfl, rfl, fun w2 ν hν hw2 hf => ?_⟩
      obtain ⟨⟨a, v, rfl, own⟩, z⟩ := hf
      refine leaves_store 49 49 _ _ (w.heap.size + 1) pk0 (pkc to (next - 1) v) rfl rfl rfl info49 z rfl ?_ hw2 (.inr rfl) fun w' z' hg => ⟨_, _, rfl, own_off own hg B2.lt, z'⟩
      obtain ⟨ao, cap, rfl⟩ := own_slice own
      simp [pkc, Value.oneCell']
  · intro ν w2 hν hw2 hf
    obtain ⟨a, v, rfl, own, z⟩ := hf
    have q2 : Below w.heap.size w w2 := below_row q0 hw2 (by omega) q0.size
    have hev := Lib.hid (own_base own q0.size)
    have hc := z.cell
    clear own z B1 B2 ho
    simp only [dstsOfS, dstAt, List.map_cons, List.map_nil, fillA]
    simp [Act.put]
    go_wp2_with fail
    exact bodyPost_ret (v := .agg (pkc to (next - 1) v)) (by simp [results, Try.results32, go_sem, hc, pkc]) rfl ⟨v, rfl, hev.out, q2⟩

end Go.Proofs.Ytfebldoplobkdaa
