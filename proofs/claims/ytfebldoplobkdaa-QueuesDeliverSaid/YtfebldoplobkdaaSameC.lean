/- Equality of a content and of an event: each is equal to itself. -/
import Derived.Test.YtfebldoplobkdaaSameB
namespace Go.Proofs.Ytfebldoplobkdaa
open Go.ChangeShapes Go.WideShapes Go.ChangeAt Go.RowKit

/-- What a slice of numbers, of texts, of levels shows. -/
def IntsOK (w : World) (v : Value) : Prop := ∃ (n : Nat) (xs : List Int), Row w v 1 n (xs.map (Value.int .i64))
def TextsOK (w : World) (v : Value) : Prop := ∃ (n : Nat) (xs : List ByteArray), Row w v 1 n (xs.map Value.string)
def UsersOK (w : World) (v : Value) : Prop := ∃ (n : Nat) (xs : List (ByteArray × Int)), Row w v 2 n (xs.flatMap fun p => [.string p.1, .int .i64 p.2])
def KindsOK (w : World) (v : Value) : Prop := ∃ (n : Nat) (xs : List (Int × Int)), Row w v 2 n (xs.flatMap fun p => [.int .i64 p.1, .int .i64 p.2])
section
variable {w w' : World} {v : Value}
theorem IntsOK.on (h : IntsOK w v) (hb : Below w.heap.size w w') : IntsOK w' v := let ⟨n, xs, h⟩ := h; ⟨n, xs, h.on hb⟩
theorem TextsOK.on (h : TextsOK w v) (hb : Below w.heap.size w w') : TextsOK w' v := let ⟨n, xs, h⟩ := h; ⟨n, xs, h.on hb⟩
theorem UsersOK.on (h : UsersOK w v) (hb : Below w.heap.size w w') : UsersOK w' v := let ⟨n, xs, h⟩ := h; ⟨n, xs, h.on hb⟩
theorem KindsOK.on (h : KindsOK w v) (hb : Below w.heap.size w w') : KindsOK w' v := let ⟨n, xs, h⟩ := h; ⟨n, xs, h.on hb⟩
end

theorem below_box2 {w w1 : World} {a b : Obj} (hb : Below ((w.alloc a).alloc b).heap.size ((w.alloc a).alloc b) w1) : Below w.heap.size w w1 :=
  (((Below.refl _ _).alloc (Nat.le_refl _) _).alloc (by simp) _).trans (hb.mono (by simp; omega))

set_option maxRecDepth 100000 in
set_option maxHeartbeats 1000000 in
theorem sameContent (text : ByteArray) (n tg : Int) (th : Bool) (via : ByteArray) (alv dnv uv kv : Value) (i1 i2 i3 i4 i5 i6 i7 : Int) (w : World) (h1 : TextsOK w alv) (h2 : TextsOK w dnv) (h3 : UsersOK w uv) (h4 : KindsOK w kv) :
    Calls Try.prog 43 #[.agg #[.string text, .int .i64 n, .int .i64 tg, .bool th, .string via, alv, dnv, uv, kv, .int .i64 i1, .int .i64 i2, .int .i64 i3, .int .i64 i4, .int .i64 i5, .int .i64 i6, .int .i64 i7], .agg #[.string text, .int .i64 n, .int .i64 tg, .bool th, .string via, alv, dnv, uv, kv, .int .i64 i1, .int .i64 i2, .int .i64 i3, .int .i64 i4, .int .i64 i5, .int .i64 i6, .int .i64 i7]] w fun x w' => x = .returned (.bool true) ∧ Below w.heap.size w w' := by
  go_enter Try.func43, Try.ntmps43
  go_wp2_with fail
  have B1 := heap_alloc2_old w (.cells #[.string text, .int .i64 n, .int .i64 tg, .bool th, .string via, alv, dnv, uv, kv, .int .i64 i1, .int .i64 i2, .int .i64 i3, .int .i64 i4, .int .i64 i5, .int .i64 i6, .int .i64 i7] 33) (.cells #[.string text, .int .i64 n, .int .i64 tg, .bool th, .string via, alv, dnv, uv, kv, .int .i64 i1, .int .i64 i2, .int .i64 i3, .int .i64 i4, .int .i64 i5, .int .i64 i6, .int .i64 i7] 33)
  have B2 := heap_alloc2_new w (.cells #[.string text, .int .i64 n, .int .i64 tg, .bool th, .string via, alv, dnv, uv, kv, .int .i64 i1, .int .i64 i2, .int .i64 i3, .int .i64 i4, .int .i64 i5, .int .i64 i6, .int .i64 i7] 33) (.cells #[.string text, .int .i64 n, .int .i64 tg, .bool th, .string via, alv, dnv, uv, kv, .int .i64 i1, .int .i64 i2, .int .i64 i3, .int .i64 i4, .int .i64 i5, .int .i64 i6, .int .i64 i7] 33)
  have q0 : Below w.heap.size w ((w.alloc (.cells #[.string text, .int .i64 n, .int .i64 tg, .bool th, .string via, alv, dnv, uv, kv, .int .i64 i1, .int .i64 i2, .int .i64 i3, .int .i64 i4, .int .i64 i5, .int .i64 i6, .int .i64 i7] 33)).alloc (.cells #[.string text, .int .i64 n, .int .i64 tg, .bool th, .string via, alv, dnv, uv, kv, .int .i64 i1, .int .i64 i2, .int .i64 i3, .int .i64 i4, .int .i64 i5, .int .i64 i6, .int .i64 i7] 33)) := ((Below.refl _ _).alloc (Nat.le_refl _) _).alloc (by simp) _
  obtain ⟨na, xa, ra⟩ := h1.on q0
  obtain ⟨nd, xd, rd⟩ := h2.on q0
  obtain ⟨nu, xu, ru⟩ := h3.on q0
  obtain ⟨nk, xk, rk⟩ := h4.on q0
  refine (sameTexts _ _ _ _ ra).mono ?_
  rintro x w1 ⟨rfl, hb⟩
  replace B1 := Whole.on (t := 33) B1 hb
  replace B2 := Whole.on (t := 33) B2 hb
  replace rd := rd.on hb
  replace ru := ru.on hb
  replace rk := rk.on hb
  replace q0 := q0.trans (hb.mono q0.size)
  have c1 := B1.cell
  have c2 := B2.cell
  clear hb ra
  go_wp2_with fail
  refine (sameTexts _ _ _ _ rd).mono ?_
  rintro x w2 ⟨rfl, hb⟩
  replace B1 := B1.on hb
  replace B2 := B2.on hb
  replace ru := ru.on hb
  replace rk := rk.on hb
  replace q0 := q0.trans (hb.mono q0.size)
  clear c1 c2
  have c1 := B1.cell
  have c2 := B2.cell
  clear hb rd
  go_wp2_with fail
  refine (sameLevels _ _ _ _ _ _ _ _ _ _ _ _ _ _ ru rk).mono ?_
  rintro x w3 ⟨rfl, hb⟩
  go_wp2_with fail
  go_ret
  exact ⟨rfl, q0.trans (hb.mono q0.size)⟩

/-- What the cells of an event are. -/
def EvOK (w : World) (cs : List Value) : Prop := ∃ (id : Int) (room sender : ByteArray) (kind : Int) (st : Bool) (key : ByteArray) (time depth : Int) (pv av : Value) (text : ByteArray) (n tg : Int) (th : Bool) (via : ByteArray) (alv dnv uv kv : Value) (i1 i2 i3 i4 i5 i6 i7 : Int) (hash : Int) (srv : ByteArray) (sum : Int), cs = [.int .i64 id, .string room, .string sender, .int .i64 kind, .bool st, .string key, .int .i64 time, .int .i64 depth, pv, av, .string text, .int .i64 n, .int .i64 tg, .bool th, .string via, alv, dnv, uv, kv, .int .i64 i1, .int .i64 i2, .int .i64 i3, .int .i64 i4, .int .i64 i5, .int .i64 i6, .int .i64 i7, .int .i64 hash, .string srv, .int .i64 sum] ∧ IntsOK w pv ∧ IntsOK w av ∧ TextsOK w alv ∧ TextsOK w dnv ∧ UsersOK w uv ∧ KindsOK w kv
theorem EvOK.on {w w' : World} {cs : List Value} (h : EvOK w cs) (hb : Below w.heap.size w w') : EvOK w' cs := by
  obtain ⟨id, room, sender, kind, st, key, time, depth, pv, av, text, n, tg, th, via, alv, dnv, uv, kv, i1, i2, i3, i4, i5, i6, i7, hash, srv, sum, rfl, h1, h2, h3, h4, h5, h6⟩ := h
  exact ⟨_, _, _, _, _, _, _, _, _, _, _, _, _, _, _, _, _, _, _, _, _, _, _, _, _, _, _, _, _, rfl, h1.on hb, h2.on hb, h3.on hb, h4.on hb, h5.on hb, h6.on hb⟩
theorem EvOK.len {w : World} {cs : List Value} (h : EvOK w cs) : cs.length = 29 := by
  obtain ⟨_, _, _, _, _, _, _, _, _, _, _, _, _, _, _, _, _, _, _, _, _, _, _, _, _, _, _, _, _, rfl, _⟩ := h
  rfl

set_option maxRecDepth 100000 in
set_option maxHeartbeats 1000000 in
theorem sameEvent (cs : List Value) (w : World) (h : EvOK w cs) :
    Calls Try.prog 37 #[.agg cs.toArray, .agg cs.toArray] w fun x w' => x = .returned (.bool true) ∧ Below w.heap.size w w' := by
  obtain ⟨id, room, sender, kind, st, key, time, depth, pv, av, text, n, tg, th, via, alv, dnv, uv, kv, i1, i2, i3, i4, i5, i6, i7, hash, srv, sum, rfl, h1, h2, h3, h4, h5, h6⟩ := h
  go_enter Try.func37, Try.ntmps37
  go_wp2_with fail
  have B1 := heap_alloc2_old w (.cells #[.int .i64 id, .string room, .string sender, .int .i64 kind, .bool st, .string key, .int .i64 time, .int .i64 depth, pv, av, .string text, .int .i64 n, .int .i64 tg, .bool th, .string via, alv, dnv, uv, kv, .int .i64 i1, .int .i64 i2, .int .i64 i3, .int .i64 i4, .int .i64 i5, .int .i64 i6, .int .i64 i7, .int .i64 hash, .string srv, .int .i64 sum] 37) (.cells #[.int .i64 id, .string room, .string sender, .int .i64 kind, .bool st, .string key, .int .i64 time, .int .i64 depth, pv, av, .string text, .int .i64 n, .int .i64 tg, .bool th, .string via, alv, dnv, uv, kv, .int .i64 i1, .int .i64 i2, .int .i64 i3, .int .i64 i4, .int .i64 i5, .int .i64 i6, .int .i64 i7, .int .i64 hash, .string srv, .int .i64 sum] 37)
  have B2 := heap_alloc2_new w (.cells #[.int .i64 id, .string room, .string sender, .int .i64 kind, .bool st, .string key, .int .i64 time, .int .i64 depth, pv, av, .string text, .int .i64 n, .int .i64 tg, .bool th, .string via, alv, dnv, uv, kv, .int .i64 i1, .int .i64 i2, .int .i64 i3, .int .i64 i4, .int .i64 i5, .int .i64 i6, .int .i64 i7, .int .i64 hash, .string srv, .int .i64 sum] 37) (.cells #[.int .i64 id, .string room, .string sender, .int .i64 kind, .bool st, .string key, .int .i64 time, .int .i64 depth, pv, av, .string text, .int .i64 n, .int .i64 tg, .bool th, .string via, alv, dnv, uv, kv, .int .i64 i1, .int .i64 i2, .int .i64 i3, .int .i64 i4, .int .i64 i5, .int .i64 i6, .int .i64 i7, .int .i64 hash, .string srv, .int .i64 sum] 37)
  have q0 : Below w.heap.size w ((w.alloc (.cells #[.int .i64 id, .string room, .string sender, .int .i64 kind, .bool st, .string key, .int .i64 time, .int .i64 depth, pv, av, .string text, .int .i64 n, .int .i64 tg, .bool th, .string via, alv, dnv, uv, kv, .int .i64 i1, .int .i64 i2, .int .i64 i3, .int .i64 i4, .int .i64 i5, .int .i64 i6, .int .i64 i7, .int .i64 hash, .string srv, .int .i64 sum] 37)).alloc (.cells #[.int .i64 id, .string room, .string sender, .int .i64 kind, .bool st, .string key, .int .i64 time, .int .i64 depth, pv, av, .string text, .int .i64 n, .int .i64 tg, .bool th, .string via, alv, dnv, uv, kv, .int .i64 i1, .int .i64 i2, .int .i64 i3, .int .i64 i4, .int .i64 i5, .int .i64 i6, .int .i64 i7, .int .i64 hash, .string srv, .int .i64 sum] 37)) := ((Below.refl _ _).alloc (Nat.le_refl _) _).alloc (by simp) _
  obtain ⟨np, xp, rp⟩ := h1.on q0
  obtain ⟨na, xa, ra⟩ := h2.on q0
  replace h3 := h3.on q0
  replace h4 := h4.on q0
  replace h5 := h5.on q0
  replace h6 := h6.on q0
  refine (sameInts _ _ _ _ rp).mono ?_
  rintro x w1 ⟨rfl, hb⟩
  replace B1 := Whole.on (t := 37) B1 hb
  replace B2 := Whole.on (t := 37) B2 hb
  replace ra := ra.on hb
  replace h3 := h3.on hb
  replace h4 := h4.on hb
  replace h5 := h5.on hb
  replace h6 := h6.on hb
  replace q0 := q0.trans (hb.mono q0.size)
  have c1 := B1.cell
  have c2 := B2.cell
  clear hb rp h1 h2
  go_wp2_with fail
  refine (sameInts _ _ _ _ ra).mono ?_
  rintro x w2 ⟨rfl, hb⟩
  replace B1 := B1.on hb
  replace B2 := B2.on hb
  replace h3 := h3.on hb
  replace h4 := h4.on hb
  replace h5 := h5.on hb
  replace h6 := h6.on hb
  replace q0 := q0.trans (hb.mono q0.size)
  clear c1 c2
  have c1 := B1.cell
  have c2 := B2.cell
  clear hb ra
  go_wp2_with fail
  refine (sameContent _ _ _ _ _ _ _ _ _ _ _ _ _ _ _ _ _ h3 h4 h5 h6).mono ?_
  rintro x w3 ⟨rfl, hb⟩
  replace B1 := B1.on hb
  replace B2 := B2.on hb
  replace q0 := q0.trans (hb.mono q0.size)
  clear c1 c2
  have c1 := B1.cell
  have c2 := B2.cell
  clear hb h3 h4 h5 h6
  go_wp2_with fail
  go_ret
  exact ⟨rfl, q0⟩

end Go.Proofs.Ytfebldoplobkdaa
