/- Open: what it leaves; parts of a row of events; the return of a queue and a packet. -/
import Derived.Test.YtfebldoplobkdaaPkO
namespace Go.Proofs.Ytfebldoplobkdaa
open Go.ChangeShapes Go.WideShapes Go.ChangeAt Go.RowKit

/-- What Open leaves. -/
def OpenPost (to : ByteArray) (next fails at_ : Int) (eo ee : List (List Value)) (ok : Bool) (w : World) (x : Ending) (w' : World) : Prop :=
  ∃ v1 v2 pc, x = .returned (.tuple #[.agg #[.string to, .int .i64 next, v1, v2, .int .i64 fails, .int .i64 at_], .agg pc, .bool ok]) ∧ Evs w' v1 ee ∧ Evs w' v2 eo ∧
    (ok = true → ∃ u, pc = pkc to (next - 1) u ∧ Evs w' u eo) ∧ (ok = false → pc = pk0) ∧ Below w.heap.size w w'

theorem flatten_take {n : Nat} : ∀ (es : List (List Value)) (k : Nat), (∀ c ∈ es, c.length = n) → (es.take k).flatten = es.flatten.take (k * n)
  | [], k, _ => by simp
  | c :: es, 0, _ => by simp
  | c :: es, k + 1, h => by
    have hc : c.length = n := h c (List.mem_cons_self ..)
    rw [List.take_succ_cons, List.flatten_cons, List.flatten_cons, flatten_take es k fun x hx => h x (List.mem_cons_of_mem _ hx), show (k + 1) * n = c.length + k * n by rw [hc, Nat.add_mul]; omega, List.take_append]
    rw [List.take_of_length_le (l := c) (by omega), show c.length + k * n - c.length = k * n by omega]
theorem flatten_drop {n : Nat} : ∀ (es : List (List Value)) (k : Nat), (∀ c ∈ es, c.length = n) → (es.drop k).flatten = es.flatten.drop (k * n)
  | [], k, _ => by simp
  | c :: es, 0, _ => by simp
  | c :: es, k + 1, h => by
    have hc : c.length = n := h c (List.mem_cons_self ..)
    rw [List.drop_succ_cons, List.flatten_cons, flatten_drop es k fun x hx => h x (List.mem_cons_of_mem _ hx), show (k + 1) * n = c.length + k * n by rw [hc, Nat.add_mul]; omega, List.drop_append]
    rw [show List.drop (c.length + k * n) c = [] from List.drop_eq_nil_of_le (by omega), List.nil_append, show c.length + k * n - c.length = k * n by omega]
theorem Row.take_ {w : World} {ao : Option Addr} {len cap n size : Nat} {xs : List Value} (h : Row w (.slice ao len cap) size len xs) (hn : n ≤ len) : Row w (.slice ao n cap) size n (xs.take (n * size)) := by
  obtain ⟨ao', c', hv, h1, h2, h3, h4⟩ := h
  obtain ⟨rfl, rfl⟩ : ao = ao' ∧ cap = c' := by injection hv with e1 e2 e3; exact ⟨e1, e3⟩
  refine ⟨ao, cap, rfl, by omega, h2, ?_, fun hp => ?_⟩
  · rw [List.length_take, h3]
    exact Nat.min_eq_left (Nat.mul_le_mul_right _ hn)
  · obtain ⟨b, off, e, hb, hc⟩ := h4 (by omega)
    refine ⟨b, off, e, hb, fun j u hu => hc j u ?_⟩
    rw [List.getElem?_take] at hu
    split at hu
    · exact hu
    · cases hu
theorem Row.drop_ {w : World} {ao : Option Addr} {len cap n size : Nat} {xs : List Value} (h : Row w (.slice ao len cap) size len xs) (hn : n ≤ len) : Row w (.slice (if cap = n then ao else ao.map (·.add (n * size))) (len - n) (cap - n)) size (len - n) (xs.drop (n * size)) := by
  obtain ⟨ao', c', hv, h1, h2, h3, h4⟩ := h
  obtain ⟨rfl, rfl⟩ : ao = ao' ∧ cap = c' := by injection hv with e1 e2 e3; exact ⟨e1, e3⟩
  refine ⟨_, cap - n, rfl, by omega, by omega, ?_, fun hp => ?_⟩
  · rw [List.length_drop, h3, Nat.mul_sub_right_distrib]
  · obtain ⟨b, off, e, hb, hc⟩ := h4 (by omega)
    subst e
    rw [if_neg (by omega)]
    refine ⟨b, off + n * size, by rw [Option.map_some, Addr.add_mid], hb, fun j u hu => ?_⟩
    rw [List.getElem?_drop] at hu
    rw [Nat.add_assoc]
    exact hc _ u hu
theorem Evs.takeS {w : World} {ao : Option Addr} {len cap n : Nat} {es : List (List Value)} (h : Evs w (.slice ao len cap) es) (hl : es.length = len) (hn : n ≤ len) : Evs w (.slice ao n cap) (es.take n) := by
  subst hl
  refine ⟨?_, fun c hc => h.2 c (List.mem_of_mem_take hc)⟩
  rw [flatten_take es n fun c hc => (h.2 c hc).len, List.length_take, Nat.min_eq_left hn]
  exact h.1.take_ hn
theorem Evs.dropS {w : World} {ao : Option Addr} {len cap n : Nat} {es : List (List Value)} (h : Evs w (.slice ao len cap) es) (hl : es.length = len) (hn : n ≤ len) : Evs w (.slice (if cap = n then ao else ao.map (·.add (n * 29))) (len - n) (cap - n)) (es.drop n) := by
  subst hl
  refine ⟨?_, fun c hc => h.2 c (List.mem_of_mem_drop hc)⟩
  rw [flatten_drop es n fun c hc => (h.2 c hc).len, List.length_drop]
  exact h.1.drop_ hn
theorem size49 : (Try.prog.info? 49).map (·.size) = some 10 := by kernel_rfl
/-- A packet goes into a variable known whole. -/
theorem list_store49 {ops : Array Oper} {rest : List Oper} {a : Act} {w : World} {Q : Exit → Act → World → Prop} {dst : Option Tmp} {x y : Operand} {ty : TypeId} {ps : String} {af : Array Edge}
    (g : Nat) (te : TypeId) (old cs : Array Value) (hw : Whole w g te old) {t : TypeId} {gd : Option (Tmp × Bool)} (ht : t = 49) (hg : gd = none) (hs : old.size = 10) (hl : cs.size = 10) (h1 : cs.all (·.oneCell') = true) (hx : a.eval x = .pointer (some ⟨g, 0, none⟩)) (hy : a.eval y = .agg cs)
    (h : ∀ w', Whole w' g te cs → w.grownBy w' (some g) → wpList Try.prog ops Q rest (a.put dst undef) w') : wpList Try.prog ops Q ({ dst := dst, op := .store t x y, type := ty, pos := ps, after := af, guard := gd } :: rest) a w := by
  subst ht hg
  exact wpList_store_whole rfl 49 x y rfl g te old cs hx hy hw (by rw [size49, hs]) (by omega) h1 h
/-- A queue's field that is a slice is set, in a variable known whole. -/
theorem list_put24 {ops : Array Oper} {rest : List Oper} {a : Act} {w : World} {Q : Exit → Act → World → Prop} {dst : Option Tmp} {x y : Operand} {ty : TypeId} {ps : String} {af : Array Edge}
    (g i : Nat) (te : TypeId) (cs : Array Value) (v : Value) (hw : Whole w g te cs) {t : TypeId} {gd : Option (Tmp × Bool)} (ht : t = 22) (hg : gd = none) (hi : i < cs.size) (hx : a.eval x = .pointer (some ⟨g, i, none⟩)) (hy : a.eval y = v) (hv : ∃ p q r, v = .slice p q r)
    (h : ∀ w', Whole w' g te (cs.setIfInBounds i v) → w.grownBy w' (some g) → wpList Try.prog ops Q rest (a.put dst undef) w') : wpList Try.prog ops Q ({ dst := dst, op := .store t x y, type := ty, pos := ps, after := af, guard := gd } :: rest) a w := by
  subst ht hg
  obtain ⟨p, q, r, rfl⟩ := hv
  refine wpList_plain rfl fun K hK => ?_
  unfold Oper.wp execOp
  simp only [hx, hy, Sem.run_bind, run_store_one w g i 22 te cs (.slice p q r) hw hi size22 rfl rfl, Sem.run_pure, Result.andThen_ok]
  exact hK _ _ (h _ (hw.put i _) (setCells_off _ _ _ _ _ (World.grownBy.refl w _) (.inr rfl)))
/-- A literal without elements gets a copy of a row. -/
theorem list_lit {ops : Array Oper} {rest : List Oper} {a : Act} {w : World} {Q : Exit → Act → World → Prop} {dst : Option Tmp} {x y : Operand} {ty : TypeId} {ps : String} {af : Array Edge} (base h : Nat)
    (src : Value) (es : List (List Value)) (hw : Whole w h 37 #[]) (hb : base ≤ h) (he : Evs w src es) (hl : es.length ≤ 100000) {t t' : TypeId} {gd : Option (Tmp × Bool)} (ht : t = 22) (ht' : t' = 22) (hg : gd = none) (hx : a.eval x = .slice (some ⟨h, 0, none⟩) 0 0) (hy : a.eval y = src)
    (k : ∀ v' w', w'.ownsRow base 37 29 v' es.length es.flatten → Below w.heap.size w w' → wpList Try.prog ops Q rest (a.put dst v') w') :
    wpList Try.prog ops Q ({ dst := dst, op := .call { callee := .builtin .append, args := #[x, y], argTypes := #[t, t'] }, type := ty, pos := ps, after := af, guard := gd } :: rest) a w := by
  subst ht ht' hg
  obtain ⟨i0, hi0, hz0, hz1, hz2⟩ := info_parts zinfo
  obtain ⟨v', w', hrun, h2, h3⟩ := run_append_lit (P := Try.prog) w base h 22 ty 37 i0 _ 29 376 Try.underlying22 hi0 hz0 hz1 hz2 rfl (by omega) hw hb src es.length es.flatten he.1 he.one (by simp only [maxLen]; omega) (by omega)
  refine wpList_plain rfl fun K hK => ?_
  unfold Oper.wp execOp
  simp only [resolve, invoke, builtin, Sem.run_bind, Sem.run_pure, Result.andThen_ok, List.map_toArray, List.map_cons, List.map_nil, hx, hy, hrun]
  exact hK _ _ (k v' w' h2 (below_of_grown h3))

/-- The return of a queue and its packet. -/
def opF (X : World → Prop) (g g1 g2 B : Nat) (cs : Array Value) (to : ByteArray) (n : Int) (es : List (List Value)) : List (Option Value) → World → Prop
  | [n0, n1, n2], w =>
    X w ∧ Whole w g 24 cs ∧ (n1 = none → Whole w g1 24 #[.string ⟨#[]⟩, .int .i64 0, .slice none 0 0, .slice none 0 0, .int .i64 0, .int .i64 0]) ∧ (∀ u, n1 = some u → Whole w g1 24 cs) ∧ (n2 = none → Whole w g2 49 pk0) ∧
    (∀ u, n0 = some u → ∃ v, u = .agg (pkc to n v) ∧ w.ownsRow B 37 29 v es.length es.flatten) ∧
    (∀ u, n2 = some u → ∃ v, Whole w g2 49 (pkc to n v) ∧ w.ownsRow B 37 29 v es.length es.flatten)
  | _, _ => False
/-- What a call, or a store into a result, leaves. -/
structure Kept (X : World → Prop) (g1 g2 : Nat) : Prop where
  on : ∀ w w', X w → Below w.heap.size w w' → X w'
  one : ∀ w w', X w → w.grownBy w' (some g1) → X w'
  two : ∀ w w', X w → w.grownBy w' (some g2) → X w'
theorem below_kept {w : World} {g1 g2 : Nat} (h1 : w.heap.size ≤ g1) (h2 : w.heap.size ≤ g2) : Kept (Below w.heap.size w) g1 g2 :=
  ⟨fun _ _ x hb => x.trans (hb.mono x.size), fun _ _ x hb => below_row x hb h1 x.size, fun _ _ x hb => below_row x hb h2 x.size⟩
theorem opF_on {X : World → Prop} {g g1 g2 B : Nat} {cs : Array Value} {to : ByteArray} {n : Int} {es : List (List Value)} (hX : Kept X g1 g2) : ∀ (w w' : World) (ν : List (Option Value)), opF X g g1 g2 B cs to n es ν w → Below w.heap.size w w' → opF X g g1 g2 B cs to n es ν w' := by
  intro w w' ν h hb
  match ν, h with
  | [n0, n1, n2], ⟨x, h0, h1, h2, h3, h4, h5⟩ =>
    exact ⟨hX.on _ _ x hb, h0.on hb, fun hn => (h1 hn).on hb, fun u hu => (h2 u hu).on hb, fun hn => (h3 hn).on hb, fun u hu => by obtain ⟨v, e, o⟩ := h4 u hu; exact ⟨v, e, own_on o hb⟩, fun u hu => by obtain ⟨v, e, o⟩ := h5 u hu; exact ⟨v, e.on hb, own_on o hb⟩⟩
theorem opF_nil {X : World → Prop} {w : World} {g g1 g2 B : Nat} {cs : Array Value} {to : ByteArray} {n : Int} {es : List (List Value)} (x : X w) (h : Whole w g 24 cs) (h1 : Whole w g1 24 #[.string ⟨#[]⟩, .int .i64 0, .slice none 0 0, .slice none 0 0, .int .i64 0, .int .i64 0]) (h2 : Whole w g2 49 pk0) : opF X g g1 g2 B cs to n es [none, none, none] w :=
  ⟨x, h, fun _ => h1, fun _ h => by simp at h, fun _ => h2, fun _ h => by simp at h, fun _ h => by simp at h⟩
theorem opF_row {X : World → Prop} {w : World} {g g1 g2 B : Nat} {cs : Array Value} {to : ByteArray} {n : Int} {es : List (List Value)} : ∀ ν : List (Option Value), opF X g g1 g2 B cs to n es ν w → Whole w g 24 cs := by
  intro ν h
  match ν, h with
  | [n0, n1, n2], ⟨_, h0, _⟩ => exact h0

/-- A world within Open: what was there ahead, the three variables, the rows that are its own. -/
structure Mid (w wx : World) (cs : Array Value) (rows : List (Value × Nat × List Value)) : Prop where
  q : Below w.heap.size w wx
  b1 : Whole wx w.heap.size 24 cs
  b2 : Whole wx (w.heap.size + 1) 24 #[.string ⟨#[]⟩, .int .i64 0, .slice none 0 0, .slice none 0 0, .int .i64 0, .int .i64 0]
  b3 : Whole wx (w.heap.size + 1 + 1) 49 pk0
  own : ∀ r ∈ rows, wx.ownsRow (w.heap.size + 1 + 1 + 1) 37 29 r.1 r.2.1 r.2.2
theorem Mid.on {w wx wy : World} {cs : Array Value} {rows : List (Value × Nat × List Value)} (h : Mid w wx cs rows) (hb : Below wx.heap.size wx wy) : Mid w wy cs rows :=
  ⟨h.q.trans (hb.mono h.q.size), h.b1.on hb, h.b2.on hb, h.b3.on hb, fun r hr => own_on (h.own r hr) hb⟩
theorem Mid.add {w wx : World} {cs : Array Value} {rows : List (Value × Nat × List Value)} {v : Value} {n : Nat} {xs : List Value} (h : Mid w wx cs rows) (o : wx.ownsRow (w.heap.size + 1 + 1 + 1) 37 29 v n xs) : Mid w wx cs ((v, n, xs) :: rows) :=
  ⟨h.q, h.b1, h.b2, h.b3, fun r hr => by
    rcases List.mem_cons.1 hr with e | e
    · subst e; exact o
    · exact h.own r e⟩
theorem Mid.lt {w wx : World} {cs : Array Value} {rows : List (Value × Nat × List Value)} (h : Mid w wx cs rows) : w.heap.size + 1 + 1 + 1 ≤ wx.heap.size := h.b3.lt
theorem grownBy_cell (w : World) (g i : Nat) (v : Value) : w.grownBy (w.setCell ⟨g, i, none⟩ v) (some g) :=
  setCells_off [v] i w w (some g) (World.grownBy.refl w _) (.inr rfl)
theorem Mid.put {w wx : World} {cs : Array Value} {rows : List (Value × Nat × List Value)} (h : Mid w wx cs rows) (i : Nat) (v : Value) : Mid w (wx.setCell ⟨w.heap.size, i, none⟩ v) (cs.setIfInBounds i v) rows :=
  ⟨below_row h.q (grownBy_cell _ _ _ _) (Nat.le_refl _) h.q.size, h.b1.put i v, h.b2.far (by simp) v, h.b3.far (by simp; omega) v, fun r hr => own_off (h.own r hr) (grownBy_cell _ _ _ _) (by omega)⟩
/-- The rows that are Open's own stay so while results are stored. -/
def Rows (w : World) (rows : List (Value × Nat × List Value)) (wx : World) : Prop := Below w.heap.size w wx ∧ ∀ r ∈ rows, wx.ownsRow (w.heap.size + 1 + 1 + 1) 37 29 r.1 r.2.1 r.2.2
theorem Mid.rows {w wx : World} {cs : Array Value} {rows : List (Value × Nat × List Value)} (h : Mid w wx cs rows) : Rows w rows wx := ⟨h.q, h.own⟩
theorem rows_kept (w : World) (rows : List (Value × Nat × List Value)) : Kept (Rows w rows) (w.heap.size + 1) (w.heap.size + 1 + 1) :=
  ⟨fun _ _ x hb => ⟨x.1.trans (hb.mono x.1.size), fun r hr => own_on (x.2 r hr) hb⟩, fun _ _ x hb => ⟨below_row x.1 hb (by omega) x.1.size, fun r hr => own_off (x.2 r hr) hb (by omega)⟩, fun _ _ x hb => ⟨below_row x.1 hb (by omega) x.1.size, fun r hr => own_off (x.2 r hr) hb (by omega)⟩⟩
theorem below_eq {a b : Nat} {w w' : World} (h : Below a w w') (e : b = a) : Below b w w' := e ▸ h

end Go.Proofs.Ytfebldoplobkdaa
