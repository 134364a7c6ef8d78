/- Lists of acts; content and same of the law: a list is the same as one that shows the same. -/
import Derived.Test.YtojknjmcmadhcaaGreatDoorCj
import Derived.Deep.MidRow

section
namespace Go.Proofs.R50
open Go.ChangeShapes Go.WideShapes Go.ChangeAt Go.RowKit

def bodyC (tx : ByteArray) (cn tg : Int) : Array Value := #[.string tx, .int .i64 cn, .int .i64 tg, .bool false, .string ⟨#[]⟩, .slice none 0 0, .slice none 0 0, .slice none 0 0, .slice none 0 0, .int .i64 0, .int .i64 0, .int .i64 0, .int .i64 0, .int .i64 0, .int .i64 0, .int .i64 0]

/-- The slice v shows acts. -/
structure Acts (w : World) (v : Value) (ts : List (Value × PA)) : Prop where
 row : Row w v 19 ts.length (actsC ts)
 names : ∀ t ∈ ts, Strs w t.1 t.2.2.1.names
theorem Acts.on {w w' : World} {v : Value} {ts : List (Value × PA)} (h : Acts w v ts) (hb : Below w.heap.size w w') : Acts w' v ts := ⟨h.row.on hb, fun t ht => (h.names t ht).on hb⟩
theorem ActsOwn.acts {w : World} {base : Nat} {v : Value} {ts : List (Value × PA)} (h : ActsOwn w base v ts) : Acts w v ts := ⟨Row.of_own h.row, fun t ht => Strs.of_own (h.names t ht)⟩
theorem Acts.nil {w : World} : Acts w (.slice none 0 0) [] := ⟨Row.nil, fun t ht => by cases ht⟩
theorem acts_at : ∀ (ts : List (Value × PA)) (k : Nat) (t : Value × PA) (j : Nat), ts[k]? = some t → j < 19 → (actsC ts)[k * 19 + j]? = (cellsT t)[j]?
 | [], k, t, j, h, _ => by simp at h
 | y :: ys, 0, t, j, h, hj => by
  simp at h
  subst h
  have hl : (cellsT y).toList.length = 19 := rfl
  show ((cellsT y).toList ++ actsC ys)[0 * 19 + j]? = _
  rw [Nat.zero_mul, Nat.zero_add, List.getElem?_append_left (by rw [hl]; exact hj), Array.getElem?_toList]
 | y :: ys, k + 1, t, j, h, hj => by
  have hl : (cellsT y).toList.length = 19 := rfl
  show ((cellsT y).toList ++ actsC ys)[(k + 1) * 19 + j]? = _
  rw [List.getElem?_append_right (by rw [hl]; omega), hl, show (k + 1) * 19 + j - 19 = k * 19 + j by omega]
  exact acts_at ys k t j (by simpa using h) hj
theorem Acts.form {w : World} {v : Value} {ts : List (Value × PA)} (h : Acts w v ts) : ∃ ao cap, v = .slice ao ts.length cap ∧ ts.length ≤ cap ∧ cap ≤ 9223372036854775807 := by
 obtain ⟨ao, cap, h1, h2, h3, _⟩ := h.row
 exact ⟨ao, cap, h1, h2, h3⟩
theorem Acts.at_ {w : World} {ao : Option Addr} {n cap : Nat} {ts : List (Value × PA)} (h : Acts w (.slice ao n cap) ts) {k : Nat} (hk : k < ts.length) :
  ∃ b off, ao = some ⟨b, off, none⟩ ∧ b < w.heap.size ∧ (∀ j v, (cellsT ts[k])[j]? = some v → w.cell? ⟨b, off + k * 19 + j, none⟩ = some v) := by
 obtain ⟨ao', cap', h1, _, _, _, h5⟩ := h.row
 obtain ⟨b, off, e, hb, hc⟩ := h5 (by omega)
 have e1 : ao = ao' := by injection h1
 refine ⟨b, off, e1.trans e, hb, fun j v hv => ?_⟩
 have hj : j < 19 := by have := (Array.getElem?_eq_some_iff.1 hv).1; exact this
 rw [Nat.add_assoc]
 exact hc _ _ ((acts_at ts k ts[k] j (by simp [hk]) hj).trans hv)
theorem under35 : ∃ fs, Tryz.prog.underlying 35 = some (.struct fs) := ⟨_, Tryz.underlying35⟩
theorem size35 : (Tryz.prog.info? 35).map (·.size) = some 16 := by kernel_rfl
theorem load35 {w : World} {b o : Nat} (tx : ByteArray) (cn tg : Int) (h : w.rangeAt b o (bodyC tx cn tg).toList) : (Instr.loadAt 35 (.pointer (some ⟨b, o, none⟩))).run Tryz.prog w = .ok (.agg (bodyC tx cn tg)) w := by
 obtain ⟨fs, hu⟩ := under35
 exact run_loadAt_mid w b o 35 (bodyC tx cn tg).toList _ h hu rfl (by rw [size35]; rfl)

end Go.Proofs.R50
end
