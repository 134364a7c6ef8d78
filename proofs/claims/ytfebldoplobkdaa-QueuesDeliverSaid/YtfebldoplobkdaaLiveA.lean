/- The example of the chapter: lives. -/
import Derived.Test.YtfebldoplobkdaaOpenA
import Derived.Test.YtfebldoplobkdaaFailQ
import Derived.Test.YtfebldoplobkdaaAcks
import Derived.Test.YtfebldoplobkdaaNums
namespace Go.Proofs.Ytfebldoplobkdaa
open Go.ChangeShapes Go.WideShapes Go.ChangeAt Go.RowKit

/-- The event whose id is n, all else zero. -/
def evz (n : Int) : List Value := [.int .i64 n, .string ⟨#[]⟩, .string ⟨#[]⟩, .int .i64 0, .bool false, .string ⟨#[]⟩, .int .i64 0, .int .i64 0, .slice none 0 0, .slice none 0 0, .string ⟨#[]⟩, .int .i64 0, .int .i64 0, .bool false, .string ⟨#[]⟩, .slice none 0 0, .slice none 0 0, .slice none 0 0, .slice none 0 0, .int .i64 0, .int .i64 0, .int .i64 0, .int .i64 0, .int .i64 0, .int .i64 0, .int .i64 0, .int .i64 0, .string ⟨#[]⟩, .int .i64 0]
theorem evz_ok (n : Int) (w : World) : EvOK w (evz n) := ⟨_, _, _, _, _, _, _, _, _, _, _, _, _, _, _, _, _, _, _, _, _, _, _, _, _, _, _, _, _, rfl, ⟨0, [], Row.nil⟩, ⟨0, [], Row.nil⟩, ⟨0, [], Row.nil⟩, ⟨0, [], Row.nil⟩, ⟨0, [], Row.nil⟩, ⟨0, [], Row.nil⟩⟩
theorem Row.off_small {w w' : World} {g : Nat} {t : TypeId} {cs : Array Value} {v : Value} {n : Nat} {xs : List Value} (h : Row w v 29 n xs) (hw : Whole w g t cs) (hs : cs.size < 29) (hb : w.grownBy w' (some g)) : Row w' v 29 n xs := by
  obtain ⟨ao, cap, h1, h2, h3, h4, h5⟩ := h
  refine ⟨ao, cap, h1, h2, h3, h4, fun hn => ?_⟩
  obtain ⟨b, off, e, hlt, hc⟩ := h5 hn
  have hne : b ≠ g := fun e => by
    subst e
    have h6 := hc 28 _ (List.getElem?_eq_getElem (by omega))
    rw [hw.cell] at h6
    rw [Array.getElem?_eq_none (by omega)] at h6
    cases h6
  refine ⟨b, off, e, Nat.lt_of_lt_of_le hlt hb.size, fun j u hu => ?_⟩
  have h7 := hb.block b hlt (fun e => hne (by injection e))
  have h8 := hc j u hu
  unfold World.cell? at h8 ⊢
  simp only at h8 ⊢
  rw [h7]
  exact h8
/-- A slice of events all of whose other fields are zero. -/
def Evz (w : World) (v : Value) (ns : List Int) : Prop := Row w v 29 ns.length (ns.map evz).flatten
theorem Evz.evs {w : World} {v : Value} {ns : List Int} (h : Evz w v ns) : Evs w v (ns.map evz) := ⟨by rw [List.length_map]; exact h, fun c hc => by
  obtain ⟨n, _, rfl⟩ := List.mem_map.1 hc
  exact evz_ok n w⟩
theorem Evz.of {w : World} {v : Value} {ns : List Int} (h : Evs w v (ns.map evz)) : Evz w v ns := by
  have := h.1
  rw [List.length_map] at this
  exact this
theorem Evz.on {w w' : World} {v : Value} {ns : List Int} (h : Evz w v ns) (hb : Below w.heap.size w w') : Evz w' v ns := Row.on h hb
theorem Evz.off {w w' : World} {g : Nat} {t : TypeId} {cs : Array Value} {v : Value} {ns : List Int} (h : Evz w v ns) (hw : Whole w g t cs) (hs : cs.size < 29) (hb : w.grownBy w' (some g)) : Evz w' v ns := Row.off_small h hw hs hb
theorem below_new {w : World} {o : Obj} : Below w.heap.size w (w.alloc o) := (Below.refl _ _).alloc (Nat.le_refl _) _

set_option maxRecDepth 100000 in
set_option maxHeartbeats 1000000 in
theorem live1 (w : World) : Calls Try.prog 11 #[.agg #[.string ⟨#[98]⟩, .int .i64 0, .slice none 0 0, .slice none 0 0, .int .i64 0, .int .i64 0], .agg #[.int .i64 5, .string ⟨#[]⟩, .string ⟨#[]⟩, .int .i64 0, .bool false, .string ⟨#[]⟩, .int .i64 0, .int .i64 0, .slice none 0 0, .slice none 0 0, .string ⟨#[]⟩, .int .i64 0, .int .i64 0, .bool false, .string ⟨#[]⟩, .slice none 0 0, .slice none 0 0, .slice none 0 0, .slice none 0 0, .int .i64 0, .int .i64 0, .int .i64 0, .int .i64 0, .int .i64 0, .int .i64 0, .int .i64 0, .int .i64 0, .string ⟨#[]⟩, .int .i64 0]] w fun x w' => ∃ v, x = .returned (.tuple #[.agg #[.string ⟨#[98]⟩, .int .i64 0, v, .slice none 0 0, .int .i64 0, .int .i64 0], .int .i64 0]) ∧ Evz w' v [5] ∧ Below w.heap.size w w' := by
  refine (qPush _ 0 _ _ 0 0 [] [] (evz 5) w Evs.nil Evs.nil (evz_ok 5 w) (by decide)).mono ?_
  rintro x w' ⟨v, rfl, hv, hb⟩
  exact ⟨v, rfl, Evz.of hv, hb⟩
theorem live2 (v1 : Value) (w : World) (h : Evz w v1 [5]) : Calls Try.prog 11 #[.agg #[.string ⟨#[98]⟩, .int .i64 0, v1, .slice none 0 0, .int .i64 0, .int .i64 0], .agg #[.int .i64 3, .string ⟨#[]⟩, .string ⟨#[]⟩, .int .i64 0, .bool false, .string ⟨#[]⟩, .int .i64 0, .int .i64 0, .slice none 0 0, .slice none 0 0, .string ⟨#[]⟩, .int .i64 0, .int .i64 0, .bool false, .string ⟨#[]⟩, .slice none 0 0, .slice none 0 0, .slice none 0 0, .slice none 0 0, .int .i64 0, .int .i64 0, .int .i64 0, .int .i64 0, .int .i64 0, .int .i64 0, .int .i64 0, .int .i64 0, .string ⟨#[]⟩, .int .i64 0]] w fun x w' => ∃ v, x = .returned (.tuple #[.agg #[.string ⟨#[98]⟩, .int .i64 0, v, .slice none 0 0, .int .i64 0, .int .i64 0], .int .i64 0]) ∧ Evz w' v [5, 3] ∧ Below w.heap.size w w' := by
  refine (qPush _ 0 _ _ 0 0 [] [evz 5] (evz 3) w Evs.nil h.evs (evz_ok 3 w) (by decide)).mono ?_
  rintro x w' ⟨v, rfl, hv, hb⟩
  exact ⟨v, rfl, Evz.of hv, hb⟩
theorem live3 (v : Value) (w : World) (h : Evz w v [5, 3]) : Calls Try.prog 16 #[.agg #[.string ⟨#[98]⟩, .int .i64 0, v, .slice none 0 0, .int .i64 0, .int .i64 0], .int .i64 0] w fun x w' => ∃ v1 v2 u, x = .returned (.tuple #[.agg #[.string ⟨#[98]⟩, .int .i64 1, v1, v2, .int .i64 0, .int .i64 0], .agg #[.string ⟨#[]⟩, .string ⟨#[98]⟩, .int .i64 1, .int .i64 0, .string ⟨#[]⟩, u, .slice none 0 0, .slice none 0 0, .string ⟨#[]⟩, .int .i64 0], .bool true]) ∧ Evz w' v1 [] ∧ Evz w' v2 [5, 3] ∧ Evz w' u [5, 3] ∧ Below w.heap.size w w' := by
  refine (qOpen_any _ 0 _ _ 0 0 0 [] [evz 5, evz 3] w Evs.nil h.evs (by decide) (by decide)).mono ?_
  rintro x w' ⟨v1, v2, pc, rfl, h1, h2, h3, h4, hb⟩
  obtain ⟨u, rfl, hu⟩ := h3 (by decide)
  exact ⟨v1, v2, u, rfl, Evz.of (ns := []) h1, Evz.of (ns := [5, 3]) h2, Evz.of (ns := [5, 3]) hu, hb⟩
theorem live4 (v1 v2 : Value) (w : World) (h1 : Evz w v1 []) (h2 : Evz w v2 [5, 3]) : Calls Try.prog 20 #[.agg #[.string ⟨#[98]⟩, .int .i64 1, v1, v2, .int .i64 0, .int .i64 0], .int .i64 500] w fun x w' => x = .returned (.agg #[.string ⟨#[98]⟩, .int .i64 1, v1, v2, .int .i64 1, .int .i64 1500]) ∧ Below w.heap.size w w' :=
  qFailYes _ 1 _ _ 0 0 500 [evz 5, evz 3] [] w h2.evs h1.evs (by decide) (by decide) (by decide)
theorem live5 (v1 v2 : Value) (w : World) (h1 : Evz w v1 []) (h2 : Evz w v2 [5, 3]) : Calls Try.prog 16 #[.agg #[.string ⟨#[98]⟩, .int .i64 1, v1, v2, .int .i64 1, .int .i64 1500], .int .i64 1499] w fun x w' => ∃ v3 v4, x = .returned (.tuple #[.agg #[.string ⟨#[98]⟩, .int .i64 1, v3, v4, .int .i64 1, .int .i64 1500], .agg #[.string ⟨#[]⟩, .string ⟨#[]⟩, .int .i64 0, .int .i64 0, .string ⟨#[]⟩, .slice none 0 0, .slice none 0 0, .slice none 0 0, .string ⟨#[]⟩, .int .i64 0], .bool false]) ∧ Evz w' v3 [] ∧ Evz w' v4 [5, 3] ∧ Below w.heap.size w w' := by
  refine (qOpen_any _ 1 _ _ 1 1500 1499 [evz 5, evz 3] [] w h2.evs h1.evs (by decide) (by decide)).mono ?_
  rintro x w' ⟨v1, v2, pc, rfl, k1, k2, _, h4, hb⟩
  obtain rfl := h4 (by decide)
  exact ⟨v1, v2, rfl, Evz.of (ns := []) k1, Evz.of (ns := [5, 3]) k2, hb⟩
theorem live6 (v1 v2 : Value) (w : World) (h1 : Evz w v1 []) (h2 : Evz w v2 [5, 3]) : Calls Try.prog 16 #[.agg #[.string ⟨#[98]⟩, .int .i64 1, v1, v2, .int .i64 1, .int .i64 1500], .int .i64 1500] w fun x w' => ∃ v3 v4 u, x = .returned (.tuple #[.agg #[.string ⟨#[98]⟩, .int .i64 1, v3, v4, .int .i64 1, .int .i64 1500], .agg #[.string ⟨#[]⟩, .string ⟨#[98]⟩, .int .i64 1, .int .i64 0, .string ⟨#[]⟩, u, .slice none 0 0, .slice none 0 0, .string ⟨#[]⟩, .int .i64 0], .bool true]) ∧ Evz w' v3 [] ∧ Evz w' v4 [5, 3] ∧ Evz w' u [5, 3] ∧ Below w.heap.size w w' := by
  refine (qOpen_any _ 1 _ _ 1 1500 1500 [evz 5, evz 3] [] w h2.evs h1.evs (by decide) (by decide)).mono ?_
  rintro x w' ⟨v1, v2, pc, rfl, k1, k2, h3, _, hb⟩
  obtain ⟨u, rfl, ku⟩ := h3 (by decide)
  exact ⟨v1, v2, u, rfl, Evz.of (ns := []) k1, Evz.of (ns := [5, 3]) k2, Evz.of (ns := [5, 3]) ku, hb⟩
theorem live7 (v1 v2 : Value) (w : World) (h1 : Evz w v1 []) (h2 : Evz w v2 [5, 3]) : Calls Try.prog 19 #[.agg #[.string ⟨#[98]⟩, .int .i64 1, v1, v2, .int .i64 0, .int .i64 0], .int .i64 1] w fun x w' => x = .returned (.agg #[.string ⟨#[98]⟩, .int .i64 1, v1, v2, .int .i64 0, .int .i64 0]) ∧ Below w.heap.size w w' :=
  qAckNo _ 1 _ _ 0 0 1 [evz 5, evz 3] [] w h2.evs h1.evs (by decide) (by decide)
theorem live8 (v1 v2 : Value) (w : World) (h1 : Evz w v1 []) (h2 : Evz w v2 [5, 3]) : Calls Try.prog 19 #[.agg #[.string ⟨#[98]⟩, .int .i64 1, v1, v2, .int .i64 0, .int .i64 0], .int .i64 0] w fun x w' => x = .returned (.agg #[.string ⟨#[98]⟩, .int .i64 1, v1, .slice none 0 0, .int .i64 0, .int .i64 0]) ∧ Below w.heap.size w w' :=
  qAckYes _ 1 _ _ 0 0 0 [evz 5, evz 3] [] w h2.evs h1.evs (by decide) (by decide) (by decide)
theorem live9 (v1 v2 : Value) (w : World) (h1 : Evz w v1 []) (h2 : Evz w v2 [5, 3]) : Calls Try.prog 24 #[.agg #[.string ⟨#[98]⟩, .int .i64 1, v1, v2, .int .i64 0, .int .i64 0]] w fun x w' => x = .returned (.int .i64 2) ∧ Below w.heap.size w w' :=
  qSize _ 1 _ _ 0 0 [evz 5, evz 3] [] w h2.evs h1.evs (by decide)
theorem live10 (v1 v2 : Value) (w : World) (h1 : Evz w v1 []) (h2 : Evz w v2 [5, 3]) : Calls Try.prog 20 #[.agg #[.string ⟨#[98]⟩, .int .i64 1, v1, v2, .int .i64 1, .int .i64 1500], .int .i64 1500] w fun x w' => x = .returned (.agg #[.string ⟨#[98]⟩, .int .i64 1, v1, v2, .int .i64 2, .int .i64 3500]) ∧ Below w.heap.size w w' :=
  qFailYes _ 1 _ _ 1 1500 1500 [evz 5, evz 3] [] w h2.evs h1.evs (by decide) (by decide) (by decide)
theorem live11 (v1 : Value) (w : World) (h1 : Evz w v1 []) : Calls Try.prog 24 #[.agg #[.string ⟨#[98]⟩, .int .i64 1, v1, .slice none 0 0, .int .i64 0, .int .i64 0]] w fun x w' => x = .returned (.int .i64 0) ∧ Below w.heap.size w w' :=
  qSize _ 1 _ _ 0 0 [] [] w Evs.nil h1.evs (by decide)
theorem live12 (v1 v2 : Value) (w : World) (h1 : Evz w v1 []) (h2 : Evz w v2 [5, 3]) : Calls Try.prog 14 #[.agg #[.string ⟨#[98]⟩, .int .i64 1, v1, v2, .int .i64 0, .int .i64 0]] w fun x w' => x = .returned (.int .i64 0) ∧ Below w.heap.size w w' :=
  qCheck _ 1 _ _ 0 0 [evz 5, evz 3] [] w h2.evs h1.evs ⟨⟨by decide, by decide, fun i h => by
    have h' : i < 1 := h
    obtain rfl : i = 0 := by omega
    rfl, fun _ => rfl, fun _ => rfl⟩, by decide, by decide, by decide, by decide, by decide, by decide, by decide, by decide, by decide, by decide, by decide⟩
theorem field5 (v1 v2 : Value) (w : World) : (Instr.field 24 (.agg #[.string ⟨#[98]⟩, .int .i64 1, v1, v2, .int .i64 2, .int .i64 3500]) 5).run Try.prog w = .ok (.int .i64 3500) w := rfl

end Go.Proofs.Ytfebldoplobkdaa
