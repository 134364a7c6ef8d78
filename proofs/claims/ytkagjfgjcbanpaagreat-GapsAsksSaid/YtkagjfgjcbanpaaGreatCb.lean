/- Rows of cells in memory, as a slice shows them. -/
import Derived.Test.YtkagjfgjcbanpaaGreatCa
import Derived.Test.YtkagjfgjcbanpaaGreatProg
import Derived.KernelRfl
import Derived.Handy
import Derived.LoopTactic

section
namespace Go.Proofs.R29
open Go.RowKit

/-- The slice v shows n elements of 'size' cells each; xs: the cells, one behind the other. -/
def Row (w : World) (v : Value) (size n : Nat) (xs : List Value) : Prop :=
  ∃ ao cap, v = .slice ao n cap ∧ n ≤ cap ∧ cap ≤ 9223372036854775807 ∧ xs.length = n * size ∧ (0 < n → ∃ b off, ao = some ⟨b, off, none⟩ ∧ b < w.heap.size ∧ ∀ j u, xs[j]? = some u → w.cell? ⟨b, off + j, none⟩ = some u)

theorem Row.on {w w' : World} {v : Value} {size n : Nat} {xs : List Value} (h : Row w v size n xs) (hb : Below w.heap.size w w') : Row w' v size n xs := by
  obtain ⟨ao, cap, h1, h2, h3, h4, h5⟩ := h
  refine ⟨ao, cap, h1, h2, h3, h4, fun hn => ?_⟩
  obtain ⟨b, off, e, hlt, hc⟩ := h5 hn
  exact ⟨b, off, e, Nat.lt_of_lt_of_le hlt hb.size, fun j u hu => (hb.cell (p := ⟨b, off + j, none⟩) hlt).trans (hc j u hu)⟩

theorem Row.nil {w : World} {size : Nat} : Row w (.slice none 0 0) size 0 [] := ⟨none, 0, rfl, Nat.le_refl _, by omega, by simp, fun h => by omega⟩

theorem ext_cell {w w1 : World} {b : Nat} (hw : Below w.heap.size w w1) (hb : b < w.heap.size) (X : Ext w1) (o : Nat) : X.val.cell? ⟨b, o, none⟩ = w.cell? ⟨b, o, none⟩ :=
  (X.cell b o (Nat.lt_of_lt_of_le hb hw.size)).trans (hw.cell (p := ⟨b, o, none⟩) hb)

/-- A load of a whole struct, its value known in every world of the class. -/
theorem quiet_load {P : Program} {o : Oper} {a : Act} {K : Act → Prop} {W : World} (ty : TypeId) (x : Operand) (ho : o.op = .load ty x) (p : Addr) (hx : a.eval x = .pointer (some p)) (v : Value)
    (h : ∀ X : Ext W, (Instr.loadAt ty (.pointer (some p))).run P X.val = .ok v X.val) (hk : K (a.put o.dst v)) : o.quiet P a (fun w' => ∃ X : Ext W, w' = X.val) K := by
  refine ⟨v, ?_, hk⟩
  rintro _ ⟨X, rfl⟩
  unfold Oper.quietAt execOp
  simp only [ho, hx, Sem.run_bind, h X, Result.andThen_ok, Sem.run_pure]
  exact ⟨rfl, rfl⟩
end Go.Proofs.R29
end

/- What the cells of a room show: numbers, texts, events. -/
section
namespace Go.Proofs.R29
open Go.ChangeShapes Go.WideShapes Go.ChangeAt Go.RowKit

/-- What a slice of numbers, of texts, of levels shows. -/
def IntsOK (w : World) (v : Value) : Prop := ∃ (n : Nat) (xs : List Int), Row w v 1 n (xs.map (Value.int .i64))
def TextsOK (w : World) (v : Value) : Prop := ∃ (n : Nat) (xs : List ByteArray), Row w v 1 n (xs.map Value.string)
def UsersOK (w : World) (v : Value) : Prop := ∃ (n : Nat) (xs : List (ByteArray × Int)), Row w v 2 n (xs.flatMap fun p => [.string p.1, .int .i64 p.2])
def KindsOK (w : World) (v : Value) : Prop := ∃ (n : Nat) (xs : List (Int × Int)), Row w v 2 n (xs.flatMap fun p => [.int .i64 p.1, .int .i64 p.2])
section
variable {w w' : World} {v : Value}
theorem IntsOK.on (h : IntsOK w v) (hb : Below w.heap.size w w') : IntsOK w' v := let ⟨n, xs, h⟩ := h; ⟨n, xs, h.on hb⟩
theorem TextsOK.on (h : TextsOK w v) (hb : Below w.heap.size w w') : TextsOK w' v := let ⟨n, xs, h⟩ := h; ⟨n, xs, h.on hb⟩
theorem UsersOK.on (h : UsersOK w v) (hb : Below w.heap.size w w') : UsersOK w' v := let ⟨n, xs, h⟩ := h; ⟨n, xs, h.on hb⟩
theorem KindsOK.on (h : KindsOK w v) (hb : Below w.heap.size w w') : KindsOK w' v := let ⟨n, xs, h⟩ := h; ⟨n, xs, h.on hb⟩
end

/-- What the cells of an event are. -/
def EvOK (w : World) (cs : List Value) : Prop := ∃ (id : Int) (room sender : ByteArray) (kind : Int) (st : Bool) (key : ByteArray) (time depth : Int) (pv av : Value) (text : ByteArray) (n tg : Int) (th : Bool) (via : ByteArray) (alv dnv uv kv : Value) (i1 i2 i3 i4 i5 i6 i7 : Int) (hash : Int) (srv : ByteArray) (sum : Int), cs = [.int .i64 id, .string room, .string sender, .int .i64 kind, .bool st, .string key, .int .i64 time, .int .i64 depth, pv, av, .string text, .int .i64 n, .int .i64 tg, .bool th, .string via, alv, dnv, uv, kv, .int .i64 i1, .int .i64 i2, .int .i64 i3, .int .i64 i4, .int .i64 i5, .int .i64 i6, .int .i64 i7, .int .i64 hash, .string srv, .int .i64 sum] ∧ IntsOK w pv ∧ IntsOK w av ∧ TextsOK w alv ∧ TextsOK w dnv ∧ UsersOK w uv ∧ KindsOK w kv
theorem EvOK.on {w w' : World} {cs : List Value} (h : EvOK w cs) (hb : Below w.heap.size w w') : EvOK w' cs := by
  obtain ⟨id, room, sender, kind, st, key, time, depth, pv, av, text, n, tg, th, via, alv, dnv, uv, kv, i1, i2, i3, i4, i5, i6, i7, hash, srv, sum, rfl, h1, h2, h3, h4, h5, h6⟩ := h
  exact ⟨_, _, _, _, _, _, _, _, _, _, _, _, _, _, _, _, _, _, _, _, _, _, _, _, _, _, _, _, _, rfl, h1.on hb, h2.on hb, h3.on hb, h4.on hb, h5.on hb, h6.on hb⟩
theorem EvOK.len {w : World} {cs : List Value} (h : EvOK w cs) : cs.length = 29 := by
  obtain ⟨_, _, _, _, _, _, _, _, _, _, _, _, _, _, _, _, _, _, _, _, _, _, _, _, _, _, _, _, _, rfl, _⟩ := h
  rfl

theorem flatten_at (size : Nat) : ∀ (xs : List (List Value)), (∀ c ∈ xs, c.length = size) → ∀ (k : Nat) (c : List Value) (j : Nat), xs[k]? = some c → j < size → xs.flatten[k * size + j]? = c[j]?
  | [], _, k, c, j, h, _ => by simp at h
  | y :: ys, hg, 0, c, j, h, hj => by
    simp at h
    subst h
    rw [List.flatten_cons, Nat.zero_mul, Nat.zero_add, List.getElem?_append_left (by rw [hg _ (List.mem_cons_self ..)]; exact hj)]
  | y :: ys, hg, k + 1, c, j, h, hj => by
    have hy := hg y (List.mem_cons_self ..)
    rw [List.flatten_cons, List.getElem?_append_right (by rw [hy, Nat.add_mul]; omega), hy]
    rw [show (k + 1) * size + j - size = k * size + j from by rw [Nat.add_mul]; omega]
    exact flatten_at size ys (fun c hc => hg c (List.mem_cons_of_mem _ hc)) k c j (by simpa using h) hj
theorem flatten_len (size : Nat) : ∀ (xs : List (List Value)), (∀ c ∈ xs, c.length = size) → xs.flatten.length = xs.length * size
  | [], _ => by simp
  | y :: ys, h => by rw [List.flatten_cons, List.length_append, h y (List.mem_cons_self ..), flatten_len size ys fun c hc => h c (List.mem_cons_of_mem _ hc), List.length_cons, Nat.add_mul]; omega

/-- The slice v shows the events es. -/
def Evs (w : World) (v : Value) (es : List (List Value)) : Prop := Row w v 29 es.length es.flatten ∧ ∀ c ∈ es, EvOK w c
theorem Evs.on {w w' : World} {v : Value} {es : List (List Value)} (h : Evs w v es) (hb : Below w.heap.size w w') : Evs w' v es := ⟨h.1.on hb, fun c hc => (h.2 c hc).on hb⟩
theorem Evs.nil {w : World} : Evs w (.slice none 0 0) [] := ⟨Row.nil, fun c hc => by cases hc⟩
/-- An element: where it lies. -/
theorem Evs.at_ {w : World} {ao : Option Addr} {n cap : Nat} {es : List (List Value)} (h : Evs w (.slice ao n cap) es) {k : Nat} (hk : k < es.length) :
    ∃ b off, ao = some ⟨b, off, none⟩ ∧ b < w.heap.size ∧ w.rangeAt b (off + k * 29) es[k] ∧ EvOK w es[k] := by
  obtain ⟨⟨ao', cap', h1, _, _, _, h5⟩, h6⟩ := h
  obtain ⟨b, off, e, hb, hc⟩ := h5 (by omega)
  have e1 : ao = ao' := by injection h1
  refine ⟨b, off, e1.trans e, hb, fun j v hv => ?_, h6 _ (List.getElem_mem _)⟩
  have hj : j < 29 := by have := (List.getElem?_eq_some_iff.1 hv).1; rw [(h6 _ (List.getElem_mem hk)).len] at this; exact this
  rw [Nat.add_assoc]
  exact hc _ _ ((flatten_at 29 es (fun c hc => (h6 c hc).len) k es[k] j (by simp [hk]) hj).trans hv)
theorem Evs.form {w : World} {v : Value} {es : List (List Value)} (h : Evs w v es) : ∃ ao cap, v = .slice ao es.length cap ∧ es.length ≤ cap ∧ cap ≤ 9223372036854775807 := by
  obtain ⟨⟨ao, cap, h1, h2, h3, _⟩, _⟩ := h
  exact ⟨ao, cap, h1, h2, h3⟩

theorem under78 : Tryz.prog.underlying 78 = some (.struct (Tryz.prog.underlying 78 |>.elim #[] fun | .struct fs => fs | _ => #[])) := by kernel_rfl
theorem size78 : (Tryz.prog.info? 78).map (·.size) = some 29 := by kernel_rfl
theorem load78 {w : World} {b o : Nat} {cs : List Value} (h : w.rangeAt b o cs) (hl : cs.length = 29) : (Instr.loadAt 78 (.pointer (some ⟨b, o, none⟩))).run Tryz.prog w = .ok (.agg cs.toArray) w :=
  run_loadAt_mid w b o 78 cs _ h under78 rfl (by rw [size78, hl])
theorem rangeAt_on {w w' : World} {b o : Nat} {cs : List Value} (h : w.rangeAt b o cs) (hb : b < w.heap.size) (hw : Below w.heap.size w w') : w'.rangeAt b o cs := fun j v hv => (hw.cell (p := ⟨b, o + j, none⟩) hb).trans (h j v hv)

def SomeBool (p : Prop) (w : World) (x : Ending) (w' : World) : Prop := ∃ r : Bool, x = .returned (.bool r) ∧ (r = true → p) ∧ Below w.heap.size w w'
theorem SomeBool.no {p : Prop} {w w' : World} (h : Below w.heap.size w w') : SomeBool p w (.returned (.bool false)) w' := ⟨false, rfl, by simp, h⟩
theorem SomeBool.yes {p : Prop} {w w' : World} (h : Below w.heap.size w w') (hp : p) : SomeBool p w (.returned (.bool true)) w' := ⟨true, rfl, fun _ => hp, h⟩

theorem Row.form1 {w : World} {v : Value} {size n : Nat} {xs : List Value} (h : Row w v size n xs) : ∃ ao cap, v = .slice ao n cap := let ⟨ao, cap, h, _⟩ := h; ⟨ao, cap, h⟩

end Go.Proofs.R29
end
