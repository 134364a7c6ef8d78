/- The packet of the open transaction. -/
import Derived.Test.YtfebldoplobkdaaChkB
namespace Go.Proofs.Ytfebldoplobkdaa
open Go.ChangeShapes Go.WideShapes Go.ChangeAt Go.RowKit

/-- The cells of a packet of a transaction. -/
def pkc (to : ByteArray) (n : Int) (v : Value) : Array Value := #[.string ⟨#[]⟩, .string to, .int .i64 1, .int .i64 n, .string ⟨#[]⟩, v, .slice none 0 0, .slice none 0 0, .string ⟨#[]⟩, .int .i64 0]
/-- The cells of no packet. -/
def pk0 : Array Value := #[.string ⟨#[]⟩, .string ⟨#[]⟩, .int .i64 0, .int .i64 0, .string ⟨#[]⟩, .slice none 0 0, .slice none 0 0, .slice none 0 0, .string ⟨#[]⟩, .int .i64 0]
/-- A result that is a packet of a transaction. -/
def PkPost (to : ByteArray) (n : Int) (es : List (List Value)) (w : World) (x : Ending) (w' : World) : Prop := ∃ v, x = .returned (.agg (pkc to n v)) ∧ Evs w' v es ∧ Below w.heap.size w w'

theorem size_alloc' (w : World) (o : Obj) : (w.alloc o).heap.size = w.heap.size + 1 := by simp
/-- What was there ahead of a function: not its own variable 'g'. -/
theorem below_row {w w1 w2 : World} {b g : Nat} (q : Below b w w1) (hw : w1.grownBy w2 (some g)) (hb : b ≤ g) (hb1 : b ≤ w1.heap.size) : Below b w w2 :=
  ⟨hw.os.trans q.os, hw.tape.trans q.tape, hw.output.trans q.output, Nat.le_trans q.size hw.size, fun i hi => (hw.block i (by omega) (fun e => by injection e with e; omega)).trans (q.block i hi)⟩

section
variable {P : Program}
/-- An append, as a special operation, in a region that also turns a variable. -/
theorem leaves_append2 {o : Oper} {a : Act} {W w : World} {row : Option Nat} {G : Value → World → Prop} (s x : Operand) (base : Nat) (t e : TypeId) (i : TypeInfo) (z : Value) (size bytes : Nat) (ho : o.op = .call { callee := .builtin .append, args := #[s, x], argTypes := #[t, t] })
    (ht : P.underlying t = some (.slice e)) (hi : P.info? e = some i) (hz : i.zero = some z)
    (hsize : i.size = size) (hby : i.bytes = bytes) (hzs : z.cells.size = size) (hsz : 0 < size) (v : Value) (n : Nat) (xs : List Value) (hs : a.eval s = v) (hown : w.ownsRow base e size v n xs)
    (src : Value) (m : Nat) (news : List Value) (hx : a.eval x = src) (hr : Row w src size m news) (h1 : ∀ u ∈ news, u.oneCell' = true) (h63 : n + m ≤ maxLen) (hbytes : (n + m) * bytes ≤ 140737488355328) (hW : W.grownBy w row) (hbase : W.heap.size ≤ base) (hbase' : base ≤ w.heap.size)
    (h : ∀ v' w', w'.ownsRow base e size v' (n + m) (xs ++ news) → w.grownBy w' v.ownBlock → W.grownBy w' row → G v' w') : Leaves P o a W w row G := by
  obtain ⟨v', w', hrun, h2, h3⟩ := run_append_row (P := P) w base t o.type e i z size bytes ht hi hz hsize hby hzs hsz v n xs hown src m news hr h1 h63 hbytes hbase'
  have hg : W.grownBy w' row := ⟨h3.os.trans hW.os, h3.tape.trans hW.tape, h3.output.trans hW.output, Nat.le_trans hW.size h3.size, fun k hk hr => (h3.block k (Nat.lt_of_lt_of_le hk hW.size) (fun e => by
    have := (hown.lt k e.symm).1
    omega)).trans (hW.block k hk hr)⟩
  unfold Leaves execOp
  simp only [ho, resolve, invoke, builtin, Sem.run_bind, Sem.run_pure, Result.andThen_ok, List.map_toArray, List.map_cons, List.map_nil, hs, hx, hrun]
  exact ⟨hg, h v' w' h2 h3 hg⟩

/-- A variable known whole, when a row of ours has grown. -/
theorem Whole.own {w w' : World} {g base size n : Nat} {t e : TypeId} {cs : Array Value} {v : Value} {xs : List Value} (h : Whole w g t cs) (hown : w.ownsRow base e size v n xs) (hg : g < base) (h3 : w.grownBy w' v.ownBlock) : Whole w' g t cs :=
  h.off h3 fun e => by
    have := (hown.lt g e.symm).1
    omega

/-- A store of a whole variable, as a special operation. -/
theorem leaves_store {o : Oper} {a : Act} {W w : World} {row : Option Nat} {G : Value → World → Prop} (t te : TypeId) (p x : Operand) (g : Nat) (old cs : Array Value) (ho : o.op = .store t p x)
    (hp : a.eval p = .pointer (some ⟨g, 0, none⟩)) (hx : a.eval x = .agg cs) (hi : (P.info? t).map (·.size) = some old.size) (hw : Whole w g te old) (hsz : cs.size = old.size) (hone : cs.all (·.oneCell') = true)
    (hW : W.grownBy w row) (hg : W.heap.size ≤ g ∨ row = some g) (k : ∀ w', Whole w' g te cs → w.grownBy w' (some g) → G undef w') : Leaves P o a W w row G := by
  unfold Leaves execOp
  simp only [ho, hp, hx, Sem.run_bind, run_storeAt_mid w g 0 t cs (by rw [hsz]; exact hw.there) (by rw [hi, hsz]) hone, Result.andThen_ok, Sem.run_pure]
  exact ⟨setCells_off _ _ _ _ _ hW hg, k _ (hw.fillAll hsz) (setCells_off _ _ _ _ _ (World.grownBy.refl w _) (.inr rfl))⟩

theorem own_off {w w' : World} {base g : Nat} {e : TypeId} {size n : Nat} {v : Value} {xs : List Value} (h : w.ownsRow base e size v n xs) (hb : w.grownBy w' (some g)) (hg : g < base) : w'.ownsRow base e size v n xs :=
  h.kept hb (.inr fun e => by
    have := (h.lt g e).1
    omega)
theorem own_slice {w : World} {base : Nat} {e : TypeId} {size n : Nat} {v : Value} {xs : List Value} (h : w.ownsRow base e size v n xs) : ∃ ao cap, v = .slice ao n cap := by
  obtain ⟨_, h⟩ := h
  rcases h with ⟨rfl, rfl⟩ | ⟨g, cap, cur, rfl, _⟩
  · exact ⟨_, _, rfl⟩
  · exact ⟨_, _, rfl⟩
theorem Evs.off {w w' : World} {v : Value} {es : List (List Value)} {g b : Nat} (h : Evs w v es) (hb : Below b w w') : b = w.heap.size → Evs w' v es := fun e => h.on (e ▸ hb)
end

theorem info49 : (Try.prog.info? 49).map (·.size) = some pk0.size := by kernel_rfl
theorem build49 (e : Operand → Value) (to : ByteArray) (n : Int) (ao : Option Addr) (k cap : Nat) (o : Oper) (ho : o.op = .build 49 #[(1, .tmp 4), (2, .const (.int .i64 1)), (3, .tmp 7), (5, .tmp 11)]) (h4 : e (.tmp 4) = .string to) (h7 : e (.tmp 7) = .int .i64 n) (h11 : e (.tmp 11) = .slice ao k cap)
    (hc : e (.const (.int .i64 1)) = .int .i64 1) (w : World) : (execOp e o).run Try.prog w = .ok (.value (.agg (pkc to n (.slice ao k cap)))) w := by
  unfold execOp
  rw [ho]
  simp only [List.map_toArray, List.map_cons, List.map_nil, h4, h7, h11, hc]
  kernel_rfl

def pkF (W : World) (g : Nat) (to : ByteArray) (n : Int) (eo : List (List Value)) : Nat → World → List Value → Prop
  | 0, w, _ => Whole w g 49 pk0
  | 1, w, ν => (∃ v, ν = [v] ∧ w.ownsRow W.heap.size 37 29 v 0 []) ∧ Whole w g 49 pk0
  | 2, w, ν => (∃ a v, ν = [a, v] ∧ w.ownsRow W.heap.size 37 29 v eo.length eo.flatten) ∧ Whole w g 49 pk0
  | 3, w, ν => (∃ a v, ν = [a, v, .agg (pkc to n v)] ∧ w.ownsRow W.heap.size 37 29 v eo.length eo.flatten) ∧ Whole w g 49 pk0
  | _, w, ν => ∃ a v, ν = [a, v, .agg (pkc to n v), undef] ∧ w.ownsRow W.heap.size 37 29 v eo.length eo.flatten ∧ Whole w g 49 (pkc to n v)
theorem pkF_on {W : World} {g : Nat} {to : ByteArray} {n : Int} {eo : List (List Value)} : ∀ (p : Nat) (w w' : World) (ν : List Value), pkF W g to n eo p w ν → Below w.heap.size w w' → pkF W g to n eo p w' ν
  | 0, _, _, _, h, hb => Whole.on h hb
  | 1, _, _, _, ⟨⟨v, h, o⟩, z⟩, hb => ⟨⟨v, h, own_on o hb⟩, z.on hb⟩
  | 2, _, _, _, ⟨⟨a, v, h, o⟩, z⟩, hb => ⟨⟨a, v, h, own_on o hb⟩, z.on hb⟩
  | 3, _, _, _, ⟨⟨a, v, h, o⟩, z⟩, hb => ⟨⟨a, v, h, own_on o hb⟩, z.on hb⟩
  | _ + 4, _, _, _, ⟨a, v, h, o, z⟩, hb => ⟨a, v, h, own_on o hb, z.on hb⟩

set_option maxRecDepth 100000 in
set_option maxHeartbeats 1000000 in
theorem rPacket (to : ByteArray) (next : Int) (ev op : Value) (fails at_ : Int) (eo : List (List Value)) (w : World) (ho : Evs w op eo) (hs : eo.length ≤ 100000) (hn : 0 ≤ next ∧ next ≤ 1000000000001) :
    Calls Try.prog 32 #[.agg #[.string to, .int .i64 next, ev, op, .int .i64 fails, .int .i64 at_]] w (PkPost to (next - 1) eo w) := by
  obtain ⟨i0, hi0, hz0, hz1, hz2⟩ := info_parts zinfo
  obtain ⟨n1, n2⟩ := hn
  go_enter Try.func32, Try.ntmps32
  go_wp2_with fail
  have q0 : Below w.heap.size w ((w.alloc (.cells #[.string to, .int .i64 next, ev, op, .int .i64 fails, .int .i64 at_] 24)).alloc (.cells #[.string ⟨#[]⟩, .string ⟨#[]⟩, .int .i64 0, .int .i64 0, .string ⟨#[]⟩, .slice none 0 0, .slice none 0 0, .slice none 0 0, .string ⟨#[]⟩, .int .i64 0] 49)) := ((Below.refl _ _).alloc (Nat.le_refl _) _).alloc (by rw [size_alloc']; omega) _
  have B1 : Whole ((w.alloc (.cells #[.string to, .int .i64 next, ev, op, .int .i64 fails, .int .i64 at_] 24)).alloc (.cells #[.string ⟨#[]⟩, .string ⟨#[]⟩, .int .i64 0, .int .i64 0, .string ⟨#[]⟩, .slice none 0 0, .slice none 0 0, .slice none 0 0, .string ⟨#[]⟩, .int .i64 0] 49)) w.heap.size 24 #[.string to, .int .i64 next, ev, op, .int .i64 fails, .int .i64 at_] := (Whole.new w 24 #[.string to, .int .i64 next, ev, op, .int .i64 fails, .int .i64 at_]).on ((Below.refl _ _).alloc (Nat.le_refl _) _)
  have B2 : Whole ((w.alloc (.cells #[.string to, .int .i64 next, ev, op, .int .i64 fails, .int .i64 at_] 24)).alloc (.cells #[.string ⟨#[]⟩, .string ⟨#[]⟩, .int .i64 0, .int .i64 0, .string ⟨#[]⟩, .slice none 0 0, .slice none 0 0, .slice none 0 0, .string ⟨#[]⟩, .int .i64 0] 49)) (w.heap.size + 1) 49 pk0 := by
    have := Whole.new (w.alloc (.cells #[.string to, .int .i64 next, ev, op, .int .i64 fails, .int .i64 at_] 24)) 49 #[.string ⟨#[]⟩, .string ⟨#[]⟩, .int .i64 0, .int .i64 0, .string ⟨#[]⟩, .slice none 0 0, .slice none 0 0, .slice none 0 0, .string ⟨#[]⟩, .int .i64 0]
    rwa [size_alloc'] at this
  obtain ⟨w1, hw1⟩ : ∃ w1, w1 = (w.alloc (.cells #[.string to, .int .i64 next, ev, op, .int .i64 fails, .int .i64 at_] 24)).alloc (.cells #[.string ⟨#[]⟩, .string ⟨#[]⟩, .int .i64 0, .int .i64 0, .string ⟨#[]⟩, .slice none 0 0, .slice none 0 0, .slice none 0 0, .string ⟨#[]⟩, .int .i64 0] 49) := ⟨_, rfl⟩
  rw [← hw1] at B1 B2 q0 ⊢
  clear hw1
  refine wp_region_net [5, 8, 9, 10] (some (w.heap.size + 1)) (pkF w1 (w.heap.size + 1) to (next - 1) eo) (by kernel_rfl) (by kernel_rfl) (by kernel_rfl) B2 ?_
  apply Exists.intro
  apply And.intro
  · intro W1 hW
    have B1' := B1.off hW (by simp)
    have hx : ∀ (X : Ext W1) (o : Nat), X.val.cell? ⟨w.heap.size, o, none⟩ = (#[.string to, .int .i64 next, ev, op, .int .i64 fails, .int .i64 at_] : Array Value)[o]? := fun X o => (B1'.on X.below).cell o
    simp only [quietOps, List.contains_cons, List.contains_nil]
    simp
    repeat (first | go_big_quiet_skip | (go_big_quiet_want; (first | (go_big_quiet_op; (first | go_big_quiet_on | go_big_quiet_call (fail))))))
    exact wpQuiet_nil rfl
  refine ⟨⟨pkF_on, fun j hj => ?_⟩, ?_⟩
  · match j, hj with
    | 0, _ =>
      refine ⟨_, rfl, rfl, fun w2 ν hν hw2 hf => ?_⟩
      obtain rfl : ν = [] := List.eq_nil_of_length_eq_zero hν
      exact leaves_value (build0 _ _ _ _ _ w2) (grownBy_trans hw2 (World.grownBy_alloc _ _ _)) ⟨⟨_, rfl, World.ownsRow_made w2 #[] 0 hw2.size (by simp [maxLen]) (by simp)⟩, Whole.on hf ((Below.refl _ _).alloc (Nat.le_refl _) _)⟩
    | 1, _ =>
      refine ⟨_, rfl, rfl, fun w2 ν hν hw2 hf => ?_⟩
      obtain ⟨⟨v, rfl, own⟩, z⟩ := hf
      have h2 := ho.on (below_row q0 hw2 (by omega) q0.size)
      refine leaves_append2 _ _ w1.heap.size 22 37 i0 _ 29 376 rfl Try.underlying22 hi0 hz0 hz1 hz2 rfl (by omega) v 0 [] rfl own op eo.length eo.flatten rfl h2.1 h2.one (by simp only [maxLen]; omega) (by omega) hw2 (Nat.le_refl _) hw2.size ?_
      intro v' w' h2 h3 _
      exact ⟨⟨v, v', rfl, by simpa using h2⟩, z.own own B2.lt h3⟩
    | 2, _ =>
      refine ⟨_, rfl, rfl, fun w2 ν hν hw2 hf => ?_⟩
      obtain ⟨⟨a, v, rfl, own⟩, z⟩ := hf
      obtain ⟨ao, cap, rfl⟩ := own_slice own
      exact leaves_value (build49 _ to (next - 1) ao eo.length cap _ rfl rfl rfl rfl rfl w2) hw2 ⟨⟨_, _, rfl, own⟩, z⟩
    | 3, _ =>
      refine ⟨_, rfl, rfl, fun w2 ν hν hw2 hf => ?_⟩
      obtain ⟨⟨a, v, rfl, own⟩, z⟩ := hf
      refine leaves_store 49 49 _ _ (w.heap.size + 1) pk0 (pkc to (next - 1) v) rfl rfl rfl info49 z rfl ?_ hw2 (.inr rfl) fun w' z' hg => ⟨_, _, rfl, own_off own hg B2.lt, z'⟩
      obtain ⟨ao, cap, rfl⟩ := own_slice own
      simp [pkc, Value.oneCell']
  · intro ν w2 hν hw2 hf
    obtain ⟨a, v, rfl, own, z⟩ := hf
    have q2 : Below w.heap.size w w2 := below_row q0 hw2 (by omega) q0.size
    have hev : Evs w2 v eo := ⟨Row.of_own own, (ho.on q2).2⟩
    have hc := z.cell
    clear own z B1 B2 ho
    simp only [dstsOfS, dstAt, List.map_cons, List.map_nil, fillA]
    simp [Act.put]
    go_wp2_with fail
    exact bodyPost_ret (v := .agg (pkc to (next - 1) v)) (by simp [results, Try.results32, go_sem, hc, pkc]) rfl ⟨v, rfl, hev, q2⟩

set_option maxRecDepth 100000 in
set_option maxHeartbeats 1000000 in
theorem qPacket (to : ByteArray) (next : Int) (ev op : Value) (fails at_ : Int) (eo : List (List Value)) (w : World) (ho : Evs w op eo) (hs : eo.length ≤ 100000) (hn : 0 ≤ next ∧ next ≤ 1000000000001) :
    Calls Try.prog 31 #[.agg #[.string to, .int .i64 next, ev, op, .int .i64 fails, .int .i64 at_]] w (PkPost to (next - 1) eo w) := by
  obtain ⟨i0, hi0, hz0, hz1, hz2⟩ := info_parts zinfo
  obtain ⟨n1, n2⟩ := hn
  go_enter Try.func31, Try.ntmps31
  go_wp2_with fail
  have q0 : Below w.heap.size w ((w.alloc (.cells #[.string to, .int .i64 next, ev, op, .int .i64 fails, .int .i64 at_] 24)).alloc (.cells #[.string ⟨#[]⟩, .string ⟨#[]⟩, .int .i64 0, .int .i64 0, .string ⟨#[]⟩, .slice none 0 0, .slice none 0 0, .slice none 0 0, .string ⟨#[]⟩, .int .i64 0] 49)) := ((Below.refl _ _).alloc (Nat.le_refl _) _).alloc (by rw [size_alloc']; omega) _
  have B1 : Whole ((w.alloc (.cells #[.string to, .int .i64 next, ev, op, .int .i64 fails, .int .i64 at_] 24)).alloc (.cells #[.string ⟨#[]⟩, .string ⟨#[]⟩, .int .i64 0, .int .i64 0, .string ⟨#[]⟩, .slice none 0 0, .slice none 0 0, .slice none 0 0, .string ⟨#[]⟩, .int .i64 0] 49)) w.heap.size 24 #[.string to, .int .i64 next, ev, op, .int .i64 fails, .int .i64 at_] := (Whole.new w 24 #[.string to, .int .i64 next, ev, op, .int .i64 fails, .int .i64 at_]).on ((Below.refl _ _).alloc (Nat.le_refl _) _)
  have B2 : Whole ((w.alloc (.cells #[.string to, .int .i64 next, ev, op, .int .i64 fails, .int .i64 at_] 24)).alloc (.cells #[.string ⟨#[]⟩, .string ⟨#[]⟩, .int .i64 0, .int .i64 0, .string ⟨#[]⟩, .slice none 0 0, .slice none 0 0, .slice none 0 0, .string ⟨#[]⟩, .int .i64 0] 49)) (w.heap.size + 1) 49 pk0 := by
    have := Whole.new (w.alloc (.cells #[.string to, .int .i64 next, ev, op, .int .i64 fails, .int .i64 at_] 24)) 49 #[.string ⟨#[]⟩, .string ⟨#[]⟩, .int .i64 0, .int .i64 0, .string ⟨#[]⟩, .slice none 0 0, .slice none 0 0, .slice none 0 0, .string ⟨#[]⟩, .int .i64 0]
    rwa [size_alloc'] at this
  obtain ⟨w1, hw1⟩ : ∃ w1, w1 = (w.alloc (.cells #[.string to, .int .i64 next, ev, op, .int .i64 fails, .int .i64 at_] 24)).alloc (.cells #[.string ⟨#[]⟩, .string ⟨#[]⟩, .int .i64 0, .int .i64 0, .string ⟨#[]⟩, .slice none 0 0, .slice none 0 0, .slice none 0 0, .string ⟨#[]⟩, .int .i64 0] 49) := ⟨_, rfl⟩
  rw [← hw1] at B1 B2 q0 ⊢
  clear hw1
  refine wp_region_net [5, 8, 9, 10] (some (w.heap.size + 1)) (pkF w1 (w.heap.size + 1) to (next - 1) eo) (by kernel_rfl) (by kernel_rfl) (by kernel_rfl) B2 ?_
  apply Exists.intro
  apply And.intro
  · intro W1 hW
    have B1' := B1.off hW (by simp)
    have hx : ∀ (X : Ext W1) (o : Nat), X.val.cell? ⟨w.heap.size, o, none⟩ = (#[.string to, .int .i64 next, ev, op, .int .i64 fails, .int .i64 at_] : Array Value)[o]? := fun X o => (B1'.on X.below).cell o
    simp only [quietOps, List.contains_cons, List.contains_nil]
    simp
    repeat (first | go_big_quiet_skip | (go_big_quiet_want; (first | (go_big_quiet_op; (first | go_big_quiet_on | go_big_quiet_call (fail))))))
    exact wpQuiet_nil rfl
  refine ⟨⟨pkF_on, fun j hj => ?_⟩, ?_⟩
  · match j, hj with
    | 0, _ =>
      refine ⟨_, rfl, rfl, fun w2 ν hν hw2 hf => ?_⟩
      obtain rfl : ν = [] := List.eq_nil_of_length_eq_zero hν
      exact leaves_value (build0 _ _ _ _ _ w2) (grownBy_trans hw2 (World.grownBy_alloc _ _ _)) ⟨⟨_, rfl, World.ownsRow_made w2 #[] 0 hw2.size (by simp [maxLen]) (by simp)⟩, Whole.on hf ((Below.refl _ _).alloc (Nat.le_refl _) _)⟩
    | 1, _ =>
      refine ⟨_, rfl, rfl, fun w2 ν hν hw2 hf => ?_⟩
      obtain ⟨⟨v, rfl, own⟩, z⟩ := hf
      have h2 := ho.on (below_row q0 hw2 (by omega) q0.size)
      refine leaves_append2 _ _ w1.heap.size 22 37 i0 _ 29 376 rfl Try.underlying22 hi0 hz0 hz1 hz2 rfl (by omega) v 0 [] rfl own op eo.length eo.flatten rfl h2.1 h2.one (by simp only [maxLen]; omega) (by omega) hw2 (Nat.le_refl _) hw2.size ?_
      intro v' w' h2 h3 _
      exact ⟨⟨v, v', rfl, by simpa using h2⟩, z.own own B2.lt h3⟩
    | 2, _ =>
      refine ⟨_, rfl, rfl, fun w2 ν hν hw2 hf => ?_⟩
      obtain ⟨⟨a, v, rfl, own⟩, z⟩ := hf
      obtain ⟨ao, cap, rfl⟩ := own_slice own
      exact leaves_value (build49 _ to (next - 1) ao eo.length cap _ rfl rfl rfl rfl rfl w2) hw2 ⟨⟨_, _, rfl, own⟩, z⟩
    | 3, _ =>
      refine ⟨_, rfl, rfl, fun w2 ν hν hw2 hf => ?_⟩
      obtain ⟨⟨a, v, rfl, own⟩, z⟩ := hf
      refine leaves_store 49 49 _ _ (w.heap.size + 1) pk0 (pkc to (next - 1) v) rfl rfl rfl info49 z rfl ?_ hw2 (.inr rfl) fun w' z' hg => ⟨_, _, rfl, own_off own hg B2.lt, z'⟩
      obtain ⟨ao, cap, rfl⟩ := own_slice own
      simp [pkc, Value.oneCell']
  · intro ν w2 hν hw2 hf
    obtain ⟨a, v, rfl, own, z⟩ := hf
    have q2 : Below w.heap.size w w2 := below_row q0 hw2 (by omega) q0.size
    have hev : Evs w2 v eo := ⟨Row.of_own own, (ho.on q2).2⟩
    have hc := z.cell
    clear own z B1 B2 ho
    simp only [dstsOfS, dstAt, List.map_cons, List.map_nil, fillA]
    simp [Act.put]
    go_wp2_with fail
    exact bodyPost_ret (v := .agg (pkc to (next - 1) v)) (by simp [results, Try.results31, go_sem, hc, pkc]) rfl ⟨v, rfl, hev, q2⟩

end Go.Proofs.Ytfebldoplobkdaa
