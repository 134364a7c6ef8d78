/- The program's Push. -/
import Derived.Test.YtfebldoplobkdaaNetb
import Derived.Deep.WholeRow
import Derived.ArgAppend
namespace Go.Proofs.Ytfebldoplobkdaa
open Go.ChangeShapes Go.WideShapes Go.ChangeAt Go.RowKit

section
variable {P : Program}
/-- A whole value into the block that was made last. -/
theorem wpList_copy_new {ops : Array Oper} {rest : List Oper} {op : Oper} {a : Act} {w : World} {Q : Exit → Act → World → Prop} (hgd : op.guard = none) (t : TypeId) (x y : Operand) (ho : op.op = .store t x y)
    (c c' : Array Value) (hx : a.eval x = .pointer (some ⟨w.heap.size, 0, none⟩)) (hy : a.eval y = .agg c') (hi : (P.info? t).map (·.size) = some c'.size) (hs : c.size = c'.size) (h1 : c'.all (·.oneCell') = true)
    (h : wpList P ops Q rest (a.put op.dst undef) (w.alloc (.cells c' t))) : wpList P ops Q (op :: rest) a (w.alloc (.cells c t)) :=
  wpList_plain hgd fun K hK => by
    unfold Oper.wp execOp
    simp only [ho, hx, hy, run_storeAt_new w t c c' hi hs h1, Sem.run_bind, Sem.run_pure, Result.andThen_ok]
    exact hK _ _ h
/-- A store of a whole variable. -/
theorem wpList_store_whole {ops : Array Oper} {rest : List Oper} {op : Oper} {a : Act} {w : World} {Q : Exit → Act → World → Prop} (hgd : op.guard = none) (t : TypeId) (x y : Operand) (ho : op.op = .store t x y)
    (g : Nat) (te : TypeId) (old cs : Array Value) (hx : a.eval x = .pointer (some ⟨g, 0, none⟩)) (hy : a.eval y = .agg cs) (hw : Whole w g te old) (hi : (P.info? t).map (·.size) = some old.size) (hsz : cs.size = old.size) (h1 : cs.all (·.oneCell') = true)
    (h : ∀ w', Whole w' g te cs → w.grownBy w' (some g) → wpList P ops Q rest (a.put op.dst undef) w') : wpList P ops Q (op :: rest) a w :=
  wpList_store_mid hgd t x y ho g 0 cs hx hy (by rw [hsz]; exact hw.there) (by rw [hi, hsz]) h1 (h _ (hw.fillAll hsz) (setCells_off _ _ _ _ _ (World.grownBy.refl w _) (.inr rfl)))
end
theorem size24 : (Try.prog.info? 24).map (·.size) = some 6 := by kernel_rfl

/-- An event is read as a whole. -/
theorem list_load37 {ops : Array Oper} {rest : List Oper} {a : Act} {w : World} {Q : Exit → Act → World → Prop} {dst : Option Tmp} {x : Operand} {ty : TypeId} {ps : String} {af : Array Edge}
    (b o : Nat) (cs : List Value) (hr : w.rangeAt b o cs) {t : TypeId} {gd : Option (Tmp × Bool)} (ht : t = 37) (hg : gd = none) (hl : cs.length = 29) (hx : a.eval x = .pointer (some ⟨b, o, none⟩)) (h : wpList Try.prog ops Q rest (a.put dst (.agg cs.toArray)) w) :
    wpList Try.prog ops Q ({ dst := dst, op := .load t x, type := ty, pos := ps, after := af, guard := gd } :: rest) a w := by
  subst ht hg
  exact wpList_load_mid rfl 37 x rfl b o hx cs _ hr under37 rfl (by rw [size37, hl]) h
/-- An event goes into a new variable. -/
theorem list_copy37 {ops : Array Oper} {rest : List Oper} {a : Act} {w : World} {Q : Exit → Act → World → Prop} {dst : Option Tmp} {x y : Operand} {ty : TypeId} {ps : String} {af : Array Edge}
    (c : Array Value) (cs : List Value) {t t' : TypeId} {gd : Option (Tmp × Bool)} (ht : t = 37) (ht' : t' = 37) (hg : gd = none) (hs : c.size = 29) (hl : cs.length = 29) (h1 : ∀ v ∈ cs, v.oneCell' = true) (hx : a.eval x = .pointer (some ⟨w.heap.size, 0, none⟩)) (hy : a.eval y = .agg cs.toArray)
    (h : wpList Try.prog ops Q rest (a.put dst undef) (w.alloc (.cells cs.toArray 37))) : wpList Try.prog ops Q ({ dst := dst, op := .store t x y, type := ty, pos := ps, after := af, guard := gd } :: rest) a (w.alloc (.cells c t')) := by
  subst ht ht' hg
  exact wpList_copy_new rfl 37 x y rfl c _ hx hy (by rw [size37]; simp [hl]) (by simp [hs, hl]) (all_oneCell_toArray h1) h
/-- A queue goes into a variable known whole. -/
theorem list_store24 {ops : Array Oper} {rest : List Oper} {a : Act} {w : World} {Q : Exit → Act → World → Prop} {dst : Option Tmp} {x y : Operand} {ty : TypeId} {ps : String} {af : Array Edge}
    (g : Nat) (te : TypeId) (old cs : Array Value) (hw : Whole w g te old) {t : TypeId} {gd : Option (Tmp × Bool)} (ht : t = 24) (hg : gd = none) (hs : old.size = 6) (hl : cs.size = 6) (h1 : cs.all (·.oneCell') = true) (hx : a.eval x = .pointer (some ⟨g, 0, none⟩)) (hy : a.eval y = .agg cs)
    (h : ∀ w', Whole w' g te cs → w.grownBy w' (some g) → wpList Try.prog ops Q rest (a.put dst undef) w') : wpList Try.prog ops Q ({ dst := dst, op := .store t x y, type := ty, pos := ps, after := af, guard := gd } :: rest) a w := by
  subst ht hg
  exact wpList_store_whole rfl 24 x y rfl g te old cs hx hy hw (by rw [size24, hs]) (by omega) h1 h

theorem run_store_one {P : Program} (w : World) (g i : Nat) (t te : TypeId) (cs : Array Value) (v : Value) (hw : Whole w g te cs) (hi : i < cs.size) (hs : (P.info? t).map (·.size) = some 1) (hv : v.cells = #[v]) (h1 : v.oneCell' = true) :
    (Instr.storeAt t (.pointer (some ⟨g, i, none⟩)) v).run P w = .ok () (w.setCells g i [v]) := by
  have := run_storeCells_cells (P := P) g i [v] 0 w (fun j hj => by
      have : j = 0 := by simpa using hj
      subst this
      have := hw.cell i
      simp only [Nat.add_zero]
      rw [this]; simp [hi]) (fun j hj => by
      have : j = 0 := by simpa using hj
      subst this
      exact hw.free _) (fun u hu => by
      obtain rfl : u = v := by simpa using hu
      exact h1)
  simp only [Nat.add_zero] at this
  cases hq : P.info? t with
  | none => simp [hq] at hs
  | some d =>
    have hd : d.size = 1 := by simpa [hq] using hs
    simp only [Instr.storeAt, Instr.sureAddr, Sem.run_bind, Sem.run_pure, Result.andThen_ok]
    simp [storeVar, sizeOf, typeInfo, hq, hd, hv, this]
/-- A store into one field of a variable, as a special operation. -/
theorem leaves_put {P : Program} {o : Oper} {a : Act} {W w : World} {row : Option Nat} {G : Value → World → Prop} (t te : TypeId) (p x : Operand) (g i : Nat) (cs : Array Value) (v : Value) (ho : o.op = .store t p x)
    (hp : a.eval p = .pointer (some ⟨g, i, none⟩)) (hx : a.eval x = v) (hs : (P.info? t).map (·.size) = some 1) (hv : v.cells = #[v]) (h1 : v.oneCell' = true) (hw : Whole w g te cs) (hi : i < cs.size)
    (hW : W.grownBy w row) (hg : W.heap.size ≤ g ∨ row = some g) (k : ∀ w', Whole w' g te (cs.setIfInBounds i v) → w.grownBy w' (some g) → G undef w') : Leaves P o a W w row G := by
  unfold Leaves execOp
  simp only [ho, hp, hx, Sem.run_bind, run_store_one w g i t te cs v hw hi hs hv h1, Result.andThen_ok, Sem.run_pure]
  exact ⟨setCells_off _ _ _ _ _ hW hg, k _ (hw.put i v) (setCells_off _ _ _ _ _ (World.grownBy.refl w _) (.inr rfl))⟩
/-- An append onto a slice without room: the result lies in a new block. -/
theorem leaves_grow {P : Program} {o : Oper} {a : Act} {W w : World} {row : Option Nat} {G : Value → World → Prop} (s x : Operand) (t e : TypeId) (i : TypeInfo) (z : Value) (size bytes : Nat) (ho : o.op = .call { callee := .builtin .append, args := #[s, x], argTypes := #[t, t] })
    (ht : P.underlying t = some (.slice e)) (hi : P.info? e = some i) (hz : i.zero = some z)
    (hsize : i.size = size) (hby : i.bytes = bytes) (hzs : z.cells.size = size) (hsz : 0 < size) (ao : Option Addr) (n : Nat) (xs : List Value) (hs : a.eval s = .slice ao n n) (hr0 : Row w (.slice ao n n) size n xs)
    (src : Value) (m : Nat) (hm : 0 < m) (news : List Value) (hx : a.eval x = src) (hr : Row w src size m news) (h1 : ∀ u ∈ news, u.oneCell' = true) (h63 : n + m ≤ maxLen) (hbytes : (n + m) * bytes ≤ 140737488355328) (hW : W.grownBy w row)
    (h : ∀ v' w', w'.ownsRow w.heap.size e size v' (n + m) (xs ++ news) → w.grownBy w' none → G v' w') : Leaves P o a W w row G := by
  have key : ∃ v' w', (Builtin.append_ #[t, t] o.type #[.slice ao n n, src]).run P w = .ok v' w' ∧ w'.ownsRow w.heap.size e size v' (n + m) (xs ++ news) ∧ w.grownBy w' none := by
    have hr' := hr
    obtain ⟨so, sc, rfl, _, _, hl2, hc2⟩ := hr
    obtain ⟨b2, o2, rfl, hb2, hcell2⟩ := hc2 hm
    obtain ⟨ao', c', hv, _, _, hl, hc⟩ := hr0
    obtain rfl : ao = ao' := by injection hv
    rcases Nat.eq_zero_or_pos n with rfl | hn
    · have hx0 : xs = [] := List.eq_nil_of_length_eq_zero (by simpa using hl)
      subst hx0
      cases ao with
      | some a => exact run_append_arg_grows (P := P) (w := w) t o.type e i z size bytes ht hi hz hsize hby hzs hsz a 0 0 [] (by simp) (fun j u hu => by simp at hu) ⟨b2, o2, none⟩ m sc news hl2 (fun j u hu => by rw [Addr.add_mid]; exact hcell2 j u hu) (by omega) h63 hbytes
      | none => exact run_append_row (P := P) w w.heap.size t o.type e i z size bytes ht hi hz hsize hby hzs hsz (.slice none 0 0) 0 [] (World.ownsRow_nil _ _ _ _) _ m news hr' h1 h63 hbytes (Nat.le_refl _)
    · obtain ⟨b1, o1, rfl, hb1, hcell1⟩ := hc hn
      exact run_append_arg_grows (P := P) (w := w) t o.type e i z size bytes ht hi hz hsize hby hzs hsz ⟨b1, o1, none⟩ n n xs hl (fun j u hu => by rw [Addr.add_mid]; exact hcell1 j u hu) ⟨b2, o2, none⟩ m sc news hl2 (fun j u hu => by rw [Addr.add_mid]; exact hcell2 j u hu) (by omega) h63 hbytes
  obtain ⟨v', w', hrun, h2, h3⟩ := key
  have hg : W.grownBy w' row := grownBy_trans hW (grownBy_of_below (below_of_grown h3))
  unfold Leaves execOp
  simp only [ho, resolve, invoke, builtin, Sem.run_bind, Sem.run_pure, Result.andThen_ok, List.map_toArray, List.map_cons, List.map_nil, hs, hx, hrun]
  exact ⟨hg, h v' w' h2 h3⟩

theorem own_base {w : World} {base base' : Nat} {e : TypeId} {size n : Nat} {v : Value} {xs : List Value} (h : w.ownsRow base e size v n xs) (hb : base' ≤ base) : w.ownsRow base' e size v n xs := by
  obtain ⟨hl, h⟩ := h
  rcases h with h | ⟨g, cap, cur, rfl, h1, h2⟩
  · exact ⟨hl, .inl h⟩
  · exact ⟨hl, .inr ⟨g, cap, cur, rfl, Nat.le_trans hb h1, h2⟩⟩
theorem Row.tight {w : World} {ao : Option Addr} {n cap size : Nat} {xs : List Value} (h : Row w (.slice ao n cap) size n xs) : Row w (.slice ao n n) size n xs := by
  obtain ⟨ao', c', hv, h1, h2, h3, h4⟩ := h
  obtain rfl : ao = ao' := by injection hv
  exact ⟨ao, n, rfl, Nat.le_refl _, by omega, h3, h4⟩
theorem Row.whole {w : World} {b : Nat} {t : TypeId} {ce : List Value} {size : Nat} (h : Whole w b t ce.toArray) (hl : ce.length = size) : Row w (.slice (some ⟨b, 0, none⟩) 1 1) size 1 ce :=
  ⟨_, 1, rfl, Nat.le_refl _, by omega, by omega, fun _ => ⟨b, 0, rfl, h.lt, fun j u hu => by
    rw [Nat.zero_add, h.cell j]
    simpa using hu⟩⟩
def pushF (W : World) (g : Nat) (cs : Array Value) (ee : List (List Value)) (ce : List Value) : Nat → World → List Value → Prop
  | 0, w, _ => Whole w g 24 cs
  | 1, w, ν => (∃ b, ν = [.slice (some ⟨b, 0, none⟩) 1 1] ∧ Whole w b 37 ce.toArray) ∧ Whole w g 24 cs
  | 2, w, ν => (∃ a v, ν = [a, v] ∧ w.ownsRow W.heap.size 37 29 v (ee.length + 1) (ee.flatten ++ ce)) ∧ Whole w g 24 cs
  | _, w, ν => ∃ a v, ν = [a, v, undef] ∧ w.ownsRow W.heap.size 37 29 v (ee.length + 1) (ee.flatten ++ ce) ∧ Whole w g 24 (cs.setIfInBounds 2 v)
theorem pushF_on {W : World} {g : Nat} {cs : Array Value} {ee : List (List Value)} {ce : List Value} : ∀ (p : Nat) (w w' : World) (ν : List Value), pushF W g cs ee ce p w ν → Below w.heap.size w w' → pushF W g cs ee ce p w' ν
  | 0, _, _, _, h, hb => Whole.on h hb
  | 1, _, _, _, ⟨⟨v, h, o⟩, z⟩, hb => ⟨⟨v, h, o.on hb⟩, z.on hb⟩
  | 2, _, _, _, ⟨⟨a, v, h, o⟩, z⟩, hb => ⟨⟨a, v, h, own_on o hb⟩, z.on hb⟩
  | _ + 3, _, _, _, ⟨a, v, h, o, z⟩, hb => ⟨a, v, h, own_on o hb, z.on hb⟩
theorem pushF_row {W : World} {g : Nat} {cs : Array Value} {ee : List (List Value)} {ce : List Value} : ∀ (p : Nat) (w : World) (ν : List Value), p < 3 → pushF W g cs ee ce p w ν → Whole w g 24 cs
  | 0, _, _, _, h => h
  | 1, _, _, _, ⟨_, z⟩ => z
  | 2, _, _, _, ⟨_, z⟩ => z
  | _ + 3, _, _, h, _ => by omega
theorem Whole.range {w : World} {g : Nat} {t : TypeId} {cs : List Value} (h : Whole w g t cs.toArray) : w.rangeAt g 0 cs := fun j v hv => by
  rw [Nat.zero_add, h.cell j]
  simpa using hv
theorem Evs.snoc {w : World} {v u : Value} {es : List (List Value)} {c : List Value} (h : Row w v 29 (es.length + 1) (es.flatten ++ c)) (he : Evs w u es) (hc : EvOK w c) : Evs w v (es ++ [c]) :=
  ⟨by rw [show (es ++ [c]).flatten = es.flatten ++ c by simp, List.length_append]; exact h, fun x hx => by
    rcases List.mem_append.1 hx with h | h
    · exact he.2 x h
    · obtain rfl : x = c := by simpa using h
      exact hc⟩
theorem size22 : (Try.prog.info? 22).map (·.size) = some 1 := by kernel_rfl
theorem build1 (e : Operand → Value) (o : Oper) (x : Operand) (ho : o.op = .buildSlice 22 1 #[(0, x)]) (room sender key text via srv : ByteArray) (id kind time depth n tg i1 i2 i3 i4 i5 i6 i7 hash sum : Int) (st th : Bool) (pv av alv dnv uv kv : Value) (hx : e x = .agg #[.int .i64 id, .string room, .string sender, .int .i64 kind, .bool st, .string key, .int .i64 time, .int .i64 depth, pv, av, .string text, .int .i64 n, .int .i64 tg, .bool th, .string via, alv, dnv, uv, kv, .int .i64 i1, .int .i64 i2, .int .i64 i3, .int .i64 i4, .int .i64 i5, .int .i64 i6, .int .i64 i7, .int .i64 hash, .string srv, .int .i64 sum]) (w : World) :
    (execOp e o).run Try.prog w = .ok (.value (.slice (some ⟨w.heap.size, 0, none⟩) 1 1)) (w.alloc (.cells #[.int .i64 id, .string room, .string sender, .int .i64 kind, .bool st, .string key, .int .i64 time, .int .i64 depth, pv, av, .string text, .int .i64 n, .int .i64 tg, .bool th, .string via, alv, dnv, uv, kv, .int .i64 i1, .int .i64 i2, .int .i64 i3, .int .i64 i4, .int .i64 i5, .int .i64 i6, .int .i64 i7, .int .i64 hash, .string srv, .int .i64 sum] 37)) := by
  unfold execOp
  rw [ho]
  simp only [List.map_toArray, List.map_cons, List.map_nil, hx]
  kernel_rfl

/-- What Push leaves: the events that wait, and the error. -/
def pushL (ee eo : List (List Value)) (c : List Value) : List (List Value) := if hasB (eo ++ ee) (idOf c) then ee else if 500 ≤ ee.length + eo.length then ee else ee ++ [c]
def pushE (ee eo : List (List Value)) (c : List Value) : Int := if hasB (eo ++ ee) (idOf c) then 4 else if 500 ≤ ee.length + eo.length then 29 else 0
def PushPost (to : ByteArray) (next : Int) (op : Value) (fails at_ : Int) (es : List (List Value)) (e : Int) (w : World) (x : Ending) (w' : World) : Prop :=
  ∃ v, x = .returned (.tuple #[.agg #[.string to, .int .i64 next, v, op, .int .i64 fails, .int .i64 at_], .int .i64 e]) ∧ Evs w' v es ∧ Below w.heap.size w w'
theorem PushPost.dup {to : ByteArray} {next : Int} {v op : Value} {fails at_ : Int} {ee eo : List (List Value)} {c : List Value} {w w' : World} (h : hasB (eo ++ ee) (idOf c) = true) (hv : Evs w' v ee) (hb : Below w.heap.size w w') :
    PushPost to next op fails at_ (pushL ee eo c) (pushE ee eo c) w (.returned (.tuple #[.agg #[.string to, .int .i64 next, v, op, .int .i64 fails, .int .i64 at_], .int .i64 4])) w' := ⟨v, by simp [pushE, h], by simpa [pushL, h] using hv, hb⟩
theorem PushPost.full {to : ByteArray} {next : Int} {v op : Value} {fails at_ : Int} {ee eo : List (List Value)} {c : List Value} {w w' : World} (h : hasB (eo ++ ee) (idOf c) = false) (hs : 500 ≤ ee.length + eo.length) (hv : Evs w' v ee) (hb : Below w.heap.size w w') :
    PushPost to next op fails at_ (pushL ee eo c) (pushE ee eo c) w (.returned (.tuple #[.agg #[.string to, .int .i64 next, v, op, .int .i64 fails, .int .i64 at_], .int .i64 29])) w' := ⟨v, by simp [pushE, h, hs], by simpa [pushL, h, hs] using hv, hb⟩
theorem PushPost.done {to : ByteArray} {next : Int} {v op : Value} {fails at_ : Int} {ee eo : List (List Value)} {c : List Value} {w w' : World} (h : hasB (eo ++ ee) (idOf c) = false) (hs : ¬ 500 ≤ ee.length + eo.length) (hv : Evs w' v (ee ++ [c])) (hb : Below w.heap.size w w') :
    PushPost to next op fails at_ (pushL ee eo c) (pushE ee eo c) w (.returned (.tuple #[.agg #[.string to, .int .i64 next, v, op, .int .i64 fails, .int .i64 at_], .int .i64 0])) w' := ⟨v, by simp [pushE, h, hs], by simpa [pushL, h, hs] using hv, hb⟩

set_option maxRecDepth 100000 in
set_option maxHeartbeats 1000000 in
theorem qPush (to : ByteArray) (next : Int) (ev op : Value) (fails at_ : Int) (eo ee : List (List Value)) (ce : List Value) (w : World) (ho : Evs w op eo) (he : Evs w ev ee) (hc : EvOK w ce) (hs : eo.length + ee.length ≤ 1000) :
    Calls Try.prog 11 #[.agg #[.string to, .int .i64 next, ev, op, .int .i64 fails, .int .i64 at_], .agg ce.toArray] w (PushPost to next op fails at_ (pushL ee eo ce) (pushE ee eo ce) w) := by
  obtain ⟨id, room, sender, kind, st, key, time, depth, pv, av, text, n, tg, th, via, alv, dnv, uv, kv, i1, i2, i3, i4, i5, i6, i7, hash, srv, sum, rfl, hcr⟩ := id hc
  have HC := Lib.hid hc
  clear hcr hc
  obtain ⟨i0, hi0, hz0, hz1, hz2⟩ := info_parts zinfo
  obtain ⟨oa, oc, rfl, hoc1, hoc2⟩ := ho.form
  obtain ⟨ea, ec, rfl, hec1, hec2⟩ := he.form
  go_enter Try.func11, Try.ntmps11
  go_wp2_with fail
  have q0 : Below w.heap.size w (((w.alloc (.cells #[.string to, .int .i64 next, (.slice ea ee.length ec), (.slice oa eo.length oc), .int .i64 fails, .int .i64 at_] 24)).alloc (.cells #[.int .i64 id, .string room, .string sender, .int .i64 kind, .bool st, .string key, .int .i64 time, .int .i64 depth, pv, av, .string text, .int .i64 n, .int .i64 tg, .bool th, .string via, alv, dnv, uv, kv, .int .i64 i1, .int .i64 i2, .int .i64 i3, .int .i64 i4, .int .i64 i5, .int .i64 i6, .int .i64 i7, .int .i64 hash, .string srv, .int .i64 sum] 37)).alloc (.cells #[.string ⟨#[]⟩, .int .i64 0, .slice none 0 0, .slice none 0 0, .int .i64 0, .int .i64 0] 24)) := (((Below.refl _ _).alloc (Nat.le_refl _) _).alloc (by simp) _).alloc (by simp; omega) _
  have B1 : Whole (((w.alloc (.cells #[.string to, .int .i64 next, (.slice ea ee.length ec), (.slice oa eo.length oc), .int .i64 fails, .int .i64 at_] 24)).alloc (.cells #[.int .i64 id, .string room, .string sender, .int .i64 kind, .bool st, .string key, .int .i64 time, .int .i64 depth, pv, av, .string text, .int .i64 n, .int .i64 tg, .bool th, .string via, alv, dnv, uv, kv, .int .i64 i1, .int .i64 i2, .int .i64 i3, .int .i64 i4, .int .i64 i5, .int .i64 i6, .int .i64 i7, .int .i64 hash, .string srv, .int .i64 sum] 37)).alloc (.cells #[.string ⟨#[]⟩, .int .i64 0, .slice none 0 0, .slice none 0 0, .int .i64 0, .int .i64 0] 24)) w.heap.size 24 #[.string to, .int .i64 next, (.slice ea ee.length ec), (.slice oa eo.length oc), .int .i64 fails, .int .i64 at_] := (Whole.new w 24 #[.string to, .int .i64 next, (.slice ea ee.length ec), (.slice oa eo.length oc), .int .i64 fails, .int .i64 at_]).on (((Below.refl _ _).alloc (Nat.le_refl _) _).alloc (by simp) _)
  have B2 : Whole (((w.alloc (.cells #[.string to, .int .i64 next, (.slice ea ee.length ec), (.slice oa eo.length oc), .int .i64 fails, .int .i64 at_] 24)).alloc (.cells #[.int .i64 id, .string room, .string sender, .int .i64 kind, .bool st, .string key, .int .i64 time, .int .i64 depth, pv, av, .string text, .int .i64 n, .int .i64 tg, .bool th, .string via, alv, dnv, uv, kv, .int .i64 i1, .int .i64 i2, .int .i64 i3, .int .i64 i4, .int .i64 i5, .int .i64 i6, .int .i64 i7, .int .i64 hash, .string srv, .int .i64 sum] 37)).alloc (.cells #[.string ⟨#[]⟩, .int .i64 0, .slice none 0 0, .slice none 0 0, .int .i64 0, .int .i64 0] 24)) (w.heap.size + 1) 37 #[.int .i64 id, .string room, .string sender, .int .i64 kind, .bool st, .string key, .int .i64 time, .int .i64 depth, pv, av, .string text, .int .i64 n, .int .i64 tg, .bool th, .string via, alv, dnv, uv, kv, .int .i64 i1, .int .i64 i2, .int .i64 i3, .int .i64 i4, .int .i64 i5, .int .i64 i6, .int .i64 i7, .int .i64 hash, .string srv, .int .i64 sum] := by
    have := (Whole.new (w.alloc (.cells #[.string to, .int .i64 next, (.slice ea ee.length ec), (.slice oa eo.length oc), .int .i64 fails, .int .i64 at_] 24)) 37 #[.int .i64 id, .string room, .string sender, .int .i64 kind, .bool st, .string key, .int .i64 time, .int .i64 depth, pv, av, .string text, .int .i64 n, .int .i64 tg, .bool th, .string via, alv, dnv, uv, kv, .int .i64 i1, .int .i64 i2, .int .i64 i3, .int .i64 i4, .int .i64 i5, .int .i64 i6, .int .i64 i7, .int .i64 hash, .string srv, .int .i64 sum]).on ((Below.refl _ _).alloc (Nat.le_refl _) (.cells #[.string ⟨#[]⟩, .int .i64 0, .slice none 0 0, .slice none 0 0, .int .i64 0, .int .i64 0] 24))
    rwa [size_alloc'] at this
  have B3 : Whole (((w.alloc (.cells #[.string to, .int .i64 next, (.slice ea ee.length ec), (.slice oa eo.length oc), .int .i64 fails, .int .i64 at_] 24)).alloc (.cells #[.int .i64 id, .string room, .string sender, .int .i64 kind, .bool st, .string key, .int .i64 time, .int .i64 depth, pv, av, .string text, .int .i64 n, .int .i64 tg, .bool th, .string via, alv, dnv, uv, kv, .int .i64 i1, .int .i64 i2, .int .i64 i3, .int .i64 i4, .int .i64 i5, .int .i64 i6, .int .i64 i7, .int .i64 hash, .string srv, .int .i64 sum] 37)).alloc (.cells #[.string ⟨#[]⟩, .int .i64 0, .slice none 0 0, .slice none 0 0, .int .i64 0, .int .i64 0] 24)) (w.heap.size + 1 + 1) 24 #[.string ⟨#[]⟩, .int .i64 0, .slice none 0 0, .slice none 0 0, .int .i64 0, .int .i64 0] := by
    have := Whole.new ((w.alloc (.cells #[.string to, .int .i64 next, (.slice ea ee.length ec), (.slice oa eo.length oc), .int .i64 fails, .int .i64 at_] 24)).alloc (.cells #[.int .i64 id, .string room, .string sender, .int .i64 kind, .bool st, .string key, .int .i64 time, .int .i64 depth, pv, av, .string text, .int .i64 n, .int .i64 tg, .bool th, .string via, alv, dnv, uv, kv, .int .i64 i1, .int .i64 i2, .int .i64 i3, .int .i64 i4, .int .i64 i5, .int .i64 i6, .int .i64 i7, .int .i64 hash, .string srv, .int .i64 sum] 37)) 24 #[.string ⟨#[]⟩, .int .i64 0, .slice none 0 0, .slice none 0 0, .int .i64 0, .int .i64 0]
    rwa [size_alloc', size_alloc'] at this
  obtain ⟨w1, hw1⟩ : ∃ w1, w1 = ((w.alloc (.cells #[.string to, .int .i64 next, (.slice ea ee.length ec), (.slice oa eo.length oc), .int .i64 fails, .int .i64 at_] 24)).alloc (.cells #[.int .i64 id, .string room, .string sender, .int .i64 kind, .bool st, .string key, .int .i64 time, .int .i64 depth, pv, av, .string text, .int .i64 n, .int .i64 tg, .bool th, .string via, alv, dnv, uv, kv, .int .i64 i1, .int .i64 i2, .int .i64 i3, .int .i64 i4, .int .i64 i5, .int .i64 i6, .int .i64 i7, .int .i64 hash, .string srv, .int .i64 sum] 37)).alloc (.cells #[.string ⟨#[]⟩, .int .i64 0, .slice none 0 0, .slice none 0 0, .int .i64 0, .int .i64 0] 24) := ⟨_, rfl⟩
  try rw [← hw1] at B1 B2 B3 q0 ⊢
  clear hw1
  obtain ⟨k0, z0, c0⟩ : True ∧ True ∧ True := ⟨trivial, trivial, trivial⟩
  clear k0 z0 c0
  have ho1 := ho.on q0
  have he1 := he.on q0
  have hc1 := HC.out.on q0
  have HE := Lib.hid he
  clear ho he
  refine (qEvents _ _ _ _ _ _ eo ee _ ho1 he1 (by omega)).mono ?_
  rintro x w2 ⟨va, rfl, hv, hb⟩
  have q2 := q0.trans (hb.mono q0.size)
  replace B1 := B1.on hb
  replace B2 := B2.on hb
  replace B3 := B3.on hb
  replace ho1 := ho1.on hb
  replace he1 := he1.on hb
  replace hc1 := hc1.on hb
  clear hb q0
  obtain ⟨es, hes⟩ : ∃ es, es = eo ++ ee := ⟨_, rfl⟩
  rw [← hes] at hv
  have HES := Lib.hid hes
  have hlen : es.length = eo.length + ee.length := by rw [hes, List.length_append]
  clear hes
  obtain ⟨ao, cap, rfl, hl, hcap⟩ := hv.form
  go_wp2_with fail
  go_loopw [11] (fun i wr => ∃ k : Nat, k ≤ es.length ∧ i = .int .i64 k ∧ Below w2.heap.size w2 wr ∧ NoneTo es id k) (fun i _ => es.length - (intOf i).toNat)
  case atStart => exact ⟨0, Nat.zero_le _, rfl, Below.refl _ _, NoneTo.zero⟩
  case round =>
    obtain ⟨k, hk, rfl, q, G⟩ := hrel
    have HG := Lib.hid G
    clear G
    have b1 := B1.on q
    have b2 := B2.on q
    have b3 := B3.on q
    have l1 := b1.lt
    have l2 := b2.lt
    have l3 := b3.lt
    by_cases hlt : k < es.length
    · obtain ⟨b, o, rfl, hbl, hr, hek⟩ := hv.at_ hlt
      have hb2 : b < wr.heap.size := Nat.lt_of_lt_of_le hbl q.size
      have hr2 := rangeAt_on hr hbl q
      cases hX : (idOf es[k] == id) with
      | true =>
        have HY := Lib.hid (hasB_yes hlt hX)
        clear hv hr HG
        generalize es[k] = c at *
        have h1c := hek.one
        obtain ⟨id2, room2, sender2, kind2, st2, key2, time2, depth2, pv2, av2, text2, n2, tg2, th2, via2, alv2, dnv2, uv2, kv2, i12, i22, i32, i42, i52, i62, i72, hash2, srv2, sum2, rfl, hkr⟩ := hek
        clear hkr
        replace hX : (id2 == id) = true := hX
        have e0 := b2.cell 0
        have d0 := b1.cell 0
        have d1 := b1.cell 1
        have d2 := b1.cell 2
        have d3 := b1.cell 3
        have d4 := b1.cell 4
        have d5 := b1.cell 5
        simp at e0 d0 d1 d2 d3 d4 d5
        clear B1 B2 B3
        go_wp2_with (first | ((with_reducible refine list_load37 b (o + k * 29) _ hr2 rfl ?_ ?_ ?_ ?_); all_goals try rfl) | ((with_reducible refine list_copy37 _ _ rfl rfl ?_ ?_ ?_ h1c ?_ ?_ ?_); all_goals try rfl) | ((with_reducible refine list_store24 _ _ _ #[.string to, .int .i64 next, (.slice ea ee.length ec), (.slice oa eo.length oc), .int .i64 fails, .int .i64 at_] (b3.on ((Below.refl _ _).alloc (Nat.le_refl _) _)) rfl ?_ ?_ ?_ ?_ ?_ ?_ ?_); all_goals try rfl; all_goals try (simp [Value.oneCell']; done)))
        case refine_4 => simp [Value.oneCell']
        intro w3 z3 g3
        have f3 := z3.cell
        clear hr2 h1c b1 b2 b3 z3
        go_wp2_with fail
        exact bodyPost_ret (v := .tuple #[.agg #[.string to, .int .i64 next, (.slice ea ee.length ec), (.slice oa eo.length oc), .int .i64 fails, .int .i64 at_], .int .i64 4]) (by simp [results, Try.results11, go_sem, f3]) rfl (PushPost.dup (by rw [← HES.out]; exact HY.out) (HE.out.on (below_row ((q2.trans (q.mono q2.size)).alloc (by omega) _) g3 (by omega) (by simp; omega))) (below_row ((q2.trans (q.mono q2.size)).alloc (by omega) _) g3 (by omega) (by simp; omega)))
      | false =>
        have HN := Lib.hid (HG.out.step hlt hX)
        clear hv hr HG
        generalize es[k] = c at *
        have h1c := hek.one
        obtain ⟨id2, room2, sender2, kind2, st2, key2, time2, depth2, pv2, av2, text2, n2, tg2, th2, via2, alv2, dnv2, uv2, kv2, i12, i22, i32, i42, i52, i62, i72, hash2, srv2, sum2, rfl, hkr⟩ := hek
        clear hkr
        replace hX : (id2 == id) = false := hX
        have e0 := b2.cell 0
        have d0 := b1.cell 0
        have d1 := b1.cell 1
        have d2 := b1.cell 2
        have d3 := b1.cell 3
        have d4 := b1.cell 4
        have d5 := b1.cell 5
        simp at e0 d0 d1 d2 d3 d4 d5
        clear B1 B2 B3
        go_wp2_with (first | ((with_reducible refine list_load37 b (o + k * 29) _ hr2 rfl ?_ ?_ ?_ ?_); all_goals try rfl) | ((with_reducible refine list_copy37 _ _ rfl rfl ?_ ?_ ?_ h1c ?_ ?_ ?_); all_goals try rfl))
        go_roundw
        case rel => exact ⟨k + 1, by omega, by go_num, q.alloc q.size _, HN.out⟩
        case measure => simp [intOf]; omega
    · have HN := Lib.hid (hasB_no fun i hi => HG.out i hi (by omega))
      have d0 := b1.cell 0
      have d1 := b1.cell 1
      have d2 := b1.cell 2
      have d3 := b1.cell 3
      have d4 := b1.cell 4
      have d5 := b1.cell 5
      simp at d0 d1 d2 d3 d4 d5
      clear B1 B2 B3 hv HG
      go_wp2_with fail
      refine (qSize _ _ _ _ _ _ eo ee _ (ho1.on q) (he1.on q) (by omega)).mono ?_
      rintro x w4 ⟨rfl, hb⟩
      replace q := q.trans (hb.mono q.size)
      replace b1 := b1.on hb
      replace b2 := b2.on hb
      replace b3 := b3.on hb
      clear hb d0 d1 d2 d3 d4 d5 l1 l2 l3
      have d0 := b1.cell 0
      have d1 := b1.cell 1
      have d2 := b1.cell 2
      have d3 := b1.cell 3
      have d4 := b1.cell 4
      have d5 := b1.cell 5
      simp at d0 d1 d2 d3 d4 d5
      have l1 := b1.lt
      have l2 := b2.lt
      have l3 := b3.lt
      by_cases h5 : 500 ≤ ee.length + eo.length
      · go_wp2_with (first | ((with_reducible refine list_store24 _ _ _ #[.string to, .int .i64 next, (.slice ea ee.length ec), (.slice oa eo.length oc), .int .i64 fails, .int .i64 at_] b3 rfl ?_ ?_ ?_ ?_ ?_ ?_ ?_); all_goals try rfl; all_goals try (simp [Value.oneCell']; done)))
        case refine_4 => simp [Value.oneCell']
        intro w3 z3 g3
        have f3 := z3.cell
        clear b1 b2 b3 z3
        go_wp2_with fail
        have q3 : Below w.heap.size w w3 := below_row (q2.trans (q.mono q2.size)) g3 (by omega) (by omega)
        exact bodyPost_ret (v := .tuple #[.agg #[.string to, .int .i64 next, (.slice ea ee.length ec), (.slice oa eo.length oc), .int .i64 fails, .int .i64 at_], .int .i64 29]) (by simp [results, Try.results11, go_sem, f3]) rfl (PushPost.full (by rw [← HES.out]; exact HN.out) h5 (HE.out.on q3) q3)
      · go_wp2_with fail
        have hev : ∀ {wx : World}, Below w.heap.size w wx → Evs wx (.slice ea ee.length ec) ee := fun hb => HE.out.on hb
        have q4 := q2.trans (q.mono q2.size)
        refine wp_region_net2 [10, 11, 13] (some w.heap.size) (pushF w4 w.heap.size #[.string to, .int .i64 next, (.slice ea ee.length ec), (.slice oa eo.length oc), .int .i64 fails, .int .i64 at_] ee #[.int .i64 id, .string room, .string sender, .int .i64 kind, .bool st, .string key, .int .i64 time, .int .i64 depth, pv, av, .string text, .int .i64 n, .int .i64 tg, .bool th, .string via, alv, dnv, uv, kv, .int .i64 i1, .int .i64 i2, .int .i64 i3, .int .i64 i4, .int .i64 i5, .int .i64 i6, .int .i64 i7, .int .i64 hash, .string srv, .int .i64 sum].toList) (by kernel_rfl) (by kernel_rfl) (by kernel_rfl) b1 (by kernel_rfl) (by decide) ?_
        apply Exists.intro
        apply And.intro
        · rintro W1 ⟨ν, hν, hW, hF⟩
          have b1' := pushF_row _ _ _ hν hF
          have b2' := b2.off hW (by simp)
          have hld : ∀ (X : Ext W1), (Instr.loadAt 37 (.pointer (some ⟨w.heap.size + 1, 0, none⟩))).run Try.prog X.val = .ok (.agg #[.int .i64 id, .string room, .string sender, .int .i64 kind, .bool st, .string key, .int .i64 time, .int .i64 depth, pv, av, .string text, .int .i64 n, .int .i64 tg, .bool th, .string via, alv, dnv, uv, kv, .int .i64 i1, .int .i64 i2, .int .i64 i3, .int .i64 i4, .int .i64 i5, .int .i64 i6, .int .i64 i7, .int .i64 hash, .string srv, .int .i64 sum]) X.val := fun X => load37 (Whole.range (b2'.on X.below)) rfl
          have hx : ∀ (X : Ext W1) (o : Nat), X.val.cell? ⟨w.heap.size, o, none⟩ = (#[.string to, .int .i64 next, (.slice ea ee.length ec), (.slice oa eo.length oc), .int .i64 fails, .int .i64 at_] : Array Value)[o]? := fun X o => (b1'.on X.below).cell o
          simp only [quietOps, List.contains_cons, List.contains_nil]
          simp
          clear hF b2'
          repeat (first | go_big_quiet_skip | (go_big_quiet_want; (first | (refine quiet_load 37 _ rfl _ rfl _ hld ?_; simp only [Act.put, List.setIfInBounds_toArray, List.set_cons_succ, List.set_cons_zero]; go_big_quiet_on) | (go_big_quiet_op; (first | go_big_quiet_on | go_big_quiet_call (fail))))))
          exact wpQuiet_nil rfl
        refine ⟨⟨pushF_on, fun j hj => ?_⟩, ?_⟩
        · match j, hj with
          | 0, _ =>
            refine ⟨_, rfl, rfl, fun w5 ν hν hw5 hf => ?_⟩
            obtain rfl : ν = [] := List.eq_nil_of_length_eq_zero hν
            exact leaves_value (build1 (x := .tmp 35) (ho := rfl) (hx := rfl) (w := w5)) (grownBy_trans hw5 (World.grownBy_alloc _ _ _)) ⟨⟨_, rfl, Whole.new _ _ _⟩, Whole.on hf ((Below.refl _ _).alloc (Nat.le_refl _) _)⟩
          | 1, _ =>
            refine ⟨_, rfl, rfl, fun w5 ν hν hw5 hf => ?_⟩
            obtain ⟨⟨b, rfl, zb⟩, z⟩ := hf
            have q5 := below_row q4 hw5 (Nat.le_refl _) q4.size
            refine leaves_grow _ _ 22 37 i0 _ 29 376 rfl Try.underlying22 hi0 hz0 hz1 hz2 rfl (by omega) ea ee.length ee.flatten rfl (hev q5).1.tight _ 1 (by omega) #[.int .i64 id, .string room, .string sender, .int .i64 kind, .bool st, .string key, .int .i64 time, .int .i64 depth, pv, av, .string text, .int .i64 n, .int .i64 tg, .bool th, .string via, alv, dnv, uv, kv, .int .i64 i1, .int .i64 i2, .int .i64 i3, .int .i64 i4, .int .i64 i5, .int .i64 i6, .int .i64 i7, .int .i64 hash, .string srv, .int .i64 sum].toList rfl (Row.whole zb rfl) (HC.out.one) (by simp only [maxLen]; omega) (by omega) hw5 ?_
            intro v' w6 h2 h3
            exact ⟨⟨_, v', rfl, own_base h2 hw5.size⟩, z.on (below_of_grown h3)⟩
          | 2, _ =>
            refine ⟨_, rfl, rfl, fun w5 ν hν hw5 hf => ?_⟩
            obtain ⟨⟨a, v, rfl, own⟩, z⟩ := hf
            obtain ⟨vo, vc, rfl⟩ := own_slice own
            exact leaves_put 22 24 _ _ w.heap.size 2 _ (.slice vo (ee.length + 1) vc) rfl rfl rfl size22 rfl rfl z (by simp) hw5 (.inr rfl) fun w6 z6 h6 => ⟨_, _, rfl, own_off own h6 b1.lt, z6⟩
        · intro ν w5 hν hw5 hf
          obtain ⟨a, v, rfl, own, z⟩ := hf
          obtain ⟨vo, vc, rfl⟩ := own_slice own
          have q5 : Below w.heap.size w w5 := below_row q4 hw5 (Nat.le_refl _) q4.size
          have OWN := Lib.hid own
          have c5 := z.cell
          have l5 := z.lt
          have b5 := b3.off hw5 (by intro e; injection e with e; omega)
          clear own z b1 b2 b3 d0 d1 d2 d3 d4 d5
          simp only [dstsOfS, dstAt, List.map_cons, List.map_nil, fillA]
          simp [Act.put]
          have d0 := c5 0
          have d1 := c5 1
          have d2 := c5 2
          have d3 := c5 3
          have d4 := c5 4
          have d5 := c5 5
          simp at d0 d1 d2 d3 d4 d5
          clear c5
          go_wp2_with (first | ((with_reducible refine list_store24 _ _ _ #[.string to, .int .i64 next, (.slice vo (ee.length + 1) vc), (.slice oa eo.length oc), .int .i64 fails, .int .i64 at_] b5 rfl ?_ ?_ ?_ ?_ ?_ ?_ ?_); all_goals try rfl; all_goals try (simp [Value.oneCell']; done)))
          case refine_4 => simp [Value.oneCell']
          intro w3 z3 g3
          have f3 := z3.cell
          clear b5 z3
          go_wp2_with fail
          have q6 : Below w.heap.size w w3 := below_row q5 g3 (by omega) (by omega)
          have hE6 : Evs w3 (.slice vo (ee.length + 1) vc) (ee ++ [#[.int .i64 id, .string room, .string sender, .int .i64 kind, .bool st, .string key, .int .i64 time, .int .i64 depth, pv, av, .string text, .int .i64 n, .int .i64 tg, .bool th, .string via, alv, dnv, uv, kv, .int .i64 i1, .int .i64 i2, .int .i64 i3, .int .i64 i4, .int .i64 i5, .int .i64 i6, .int .i64 i7, .int .i64 hash, .string srv, .int .i64 sum].toList]) := Evs.snoc (Row.of_own (own_off OWN.out g3 l3)) (hev q6) (HC.out.on q6)
          exact bodyPost_ret (v := .tuple #[.agg #[.string to, .int .i64 next, (.slice vo (ee.length + 1) vc), (.slice oa eo.length oc), .int .i64 fails, .int .i64 at_], .int .i64 0]) (by simp [results, Try.results11, go_sem, f3]) rfl (PushPost.done (by rw [← HES.out]; exact HN.out) h5 hE6 q6)

end Go.Proofs.Ytfebldoplobkdaa
