/- The reference's Push. -/
import Derived.Test.YtfebldoplobkdaaNetd
namespace Go.Proofs.Ytfebldoplobkdaa
open Go.ChangeShapes Go.WideShapes Go.ChangeAt Go.RowKit

section
variable {P : Program}
/-- append onto a literal without elements: nothing that was there is touched. -/
theorem run_append_lit (w : World) (base h : Nat) (t ty e : TypeId) (i : TypeInfo) (z : Value) (size bytes : Nat) (ht : P.underlying t = some (.slice e)) (hi : P.info? e = some i) (hz : i.zero = some z)
    (hsize : i.size = size) (hby : i.bytes = bytes) (hzs : z.cells.size = size) (hsz : 0 < size) (hw : Whole w h e #[]) (hbh : base ≤ h)
    (src : Value) (m : Nat) (news : List Value) (hr : Row w src size m news) (h1 : ∀ u ∈ news, u.oneCell' = true) (h63 : m ≤ maxLen) (hbytes : m * bytes ≤ 140737488355328) :
    ∃ v' w', (Builtin.append_ #[t, t] ty #[.slice (some ⟨h, 0, none⟩) 0 0, src]).run P w = .ok v' w' ∧ w'.ownsRow base e size v' m news ∧ w.grownBy w' none := by
  have own0 : w.ownsRow base e size (.slice (some ⟨h, 0, none⟩) 0 0) 0 [] := ⟨by simp, .inr ⟨h, 0, #[], rfl, hbh, hw, Nat.le_refl _, by simp [maxLen], by simp, by simp⟩⟩
  obtain ⟨ao, cap, rfl, hmc, hcap, hlen, hcell⟩ := hr
  have hlt := hw.lt
  rcases Nat.eq_zero_or_pos m with rfl | hm
  · have hn : news = [] := List.eq_nil_of_length_eq_zero (by simpa using hlen)
    subst hn
    cases ao with
    | none =>
      refine ⟨.slice (some ⟨h, 0, none⟩) 0 0, w, ?_, own0, World.grownBy.refl w _⟩
      simp [Builtin.append_, run_underlying ht, sizeOf, typeInfo, hi, Builtin.lenOf, Builtin.firstCells, storeCells]
    | some a =>
      have hrun := run_append_room (P := P) w t ty e i ht hi h 0 0 #[] hw a 0 cap [] (by simp) (by simp) (by simp) (Nat.le_refl _) (by simp)
      simp only [Nat.zero_mul, List.take_zero, List.length_nil, List.append_nil, Nat.add_zero, List.drop_nil] at hrun
      refine ⟨_, _, hrun, ⟨by simp, .inr ⟨h, 0, #[], rfl, hbh, setRow_heap w h #[] _ e _ hw, Nat.le_refl _, by simp [maxLen], by simp, by simp⟩⟩, ⟨rfl, rfl, rfl, by simp, fun k hk _ => ?_⟩⟩
      by_cases e : k = h
      · subst e
        exact (setRow_heap w k #[] _ _ _ hw).trans hw.symm
      · exact setRow_other w h k _ e
  · obtain ⟨b2, o2, rfl, hb2, hcell2⟩ := hcell hm
    obtain ⟨v', w', h1', h2, h3⟩ := run_append_arg_grows (P := P) (w := w) t ty e i z size bytes ht hi hz hsize hby hzs hsz ⟨h, 0, none⟩ 0 0 [] (by simp) (fun j u hu => by simp at hu) ⟨b2, o2, none⟩ m cap news hlen (fun j u hu => by rw [Addr.add_mid]; exact hcell2 j u hu) (by omega) (by omega) (by simpa using hbytes)
    simp only [Nat.zero_add, List.nil_append] at h2
    exact ⟨v', w', h1', own_base h2 (by omega), h3⟩

theorem leaves_lit {o : Oper} {a : Act} {W w : World} {row : Option Nat} {G : Value → World → Prop} (s x : Operand) (base h : Nat) (t e : TypeId) (i : TypeInfo) (z : Value) (size bytes : Nat) (ho : o.op = .call { callee := .builtin .append, args := #[s, x], argTypes := #[t, t] })
    (ht : P.underlying t = some (.slice e)) (hi : P.info? e = some i) (hz : i.zero = some z)
    (hsize : i.size = size) (hby : i.bytes = bytes) (hzs : z.cells.size = size) (hsz : 0 < size) (hs : a.eval s = .slice (some ⟨h, 0, none⟩) 0 0) (hw : Whole w h e #[]) (hbh : base ≤ h)
    (src : Value) (m : Nat) (news : List Value) (hx : a.eval x = src) (hr : Row w src size m news) (h1 : ∀ u ∈ news, u.oneCell' = true) (h63 : m ≤ maxLen) (hbytes : m * bytes ≤ 140737488355328) (hW : W.grownBy w row)
    (k : ∀ v' w', w'.ownsRow base e size v' m news → Below w.heap.size w w' → G v' w') : Leaves P o a W w row G := by
  obtain ⟨v', w', hrun, h2, h3⟩ := run_append_lit (P := P) w base h t o.type e i z size bytes ht hi hz hsize hby hzs hsz hw hbh src m news hr h1 h63 hbytes
  have hg : W.grownBy w' row := grownBy_trans hW (grownBy_of_below (below_of_grown h3))
  unfold Leaves execOp
  simp only [ho, resolve, invoke, builtin, Sem.run_bind, Sem.run_pure, Result.andThen_ok, List.map_toArray, List.map_cons, List.map_nil, hs, hx, hrun]
  exact ⟨hg, k v' w' h2 (below_of_grown h3)⟩

/-- A call of a function, as a special operation. -/
theorem leaves_fn {o : Oper} {a : Act} {W w : World} {row : Option Nat} {G : Value → World → Prop} {R : Ending → World → Prop} (f : Nat) (us : List Operand) (ts : Array TypeId) (vs : List Value)
    (hf : (P.funcs[f]?).map (fun fn => (fn.name == "runtime.NumGoroutine", fn.body.isSome)) = some (false, true)) (ho : o.op = .call { callee := .value (.func f), args := us.toArray, argTypes := ts }) (hv : us.map a.eval = vs) (hc : Calls P f vs.toArray w R) (k : ∀ x w', R x w' → ∃ u, x = .returned u ∧ W.grownBy w' row ∧ G u w') : Leaves P o a W w row G := by
  cases hq : P.funcs[f]? with
  | none => simp [hq] at hf
  | some fn =>
    simp only [hq, Option.map_some, Option.some.injEq, Prod.mk.injEq] at hf
    exact leaves_call f us.toArray ts vs.toArray fn hq (by simpa using hf.1) (fun e => by rw [e] at hf; cases hf.2) ho (by rw [← hv]; simp) hc k
end
theorem under24 : Try.prog.underlying 24 = some (.struct (Try.prog.underlying 24 |>.elim #[] fun | .struct fs => fs | _ => #[])) := by kernel_rfl
theorem load24 {w : World} {b o : Nat} {cs : List Value} (h : w.rangeAt b o cs) (hl : cs.length = 6) : (Instr.loadAt 24 (.pointer (some ⟨b, o, none⟩))).run Try.prog w = .ok (.agg cs.toArray) w :=
  run_loadAt_mid w b o 24 cs _ h under24 rfl (by rw [size24, hl])

def rp1F (es : List (List Value)) (id : Int) : Nat → World → List Value → Prop
  | 0, _, _ => True
  | 1, w, ν => ∃ v, ν = [v] ∧ Evs w v es
  | _, _, ν => ∃ v, ν = [v, .bool (hasB es id)]
theorem rp1F_on {es : List (List Value)} {id : Int} : ∀ (p : Nat) (w w' : World) (ν : List Value), rp1F es id p w ν → Below w.heap.size w w' → rp1F es id p w' ν
  | 0, _, _, _, _, _ => trivial
  | 1, _, _, _, ⟨v, h, o⟩, hb => ⟨v, h, o.on hb⟩
  | _ + 2, _, _, _, h, _ => h

/-- The region that appends a copy: what its special operations leave. -/
def rp5F (W : World) (g : Nat) (cs : Array Value) (ee : List (List Value)) (ce : List Value) : List (Option Value) → World → Prop
  | [n0, n1, n2, n3, n4], w =>
    (∀ u, n0 = some u → n1 = none → ∃ h, u = .slice (some ⟨h, 0, none⟩) 0 0 ∧ Whole w h 37 #[] ∧ W.heap.size ≤ h) ∧
    (∀ u, n1 = some u → n3 = none → w.ownsRow W.heap.size 37 29 u ee.length ee.flatten) ∧
    (∀ u, n2 = some u → n3 = none → ∃ b, u = .slice (some ⟨b, 0, none⟩) 1 1 ∧ Whole w b 37 ce.toArray) ∧
    (∀ u, n3 = some u → w.ownsRow W.heap.size 37 29 u (ee.length + 1) (ee.flatten ++ ce)) ∧
    (n4 = none → Whole w g 24 cs) ∧ (∀ u, n4 = some u → ∃ v, n3 = some v ∧ Whole w g 24 (cs.setIfInBounds 2 v))
  | _, _ => False
theorem rp5F_on {W : World} {g : Nat} {cs : Array Value} {ee : List (List Value)} {ce : List Value} : ∀ (w w' : World) (ν : List (Option Value)), rp5F W g cs ee ce ν w → Below w.heap.size w w' → rp5F W g cs ee ce ν w' := by
  intro w w' ν h hb
  match ν, h with
  | [n0, n1, n2, n3, n4], ⟨h0, h1, h2, h3, h4, h5⟩ =>
    exact ⟨fun u hu hn => by obtain ⟨h, e, z, l⟩ := h0 u hu hn; exact ⟨h, e, z.on hb, l⟩, fun u hu hn => own_on (h1 u hu hn) hb, fun u hu hn => by obtain ⟨b, e, z⟩ := h2 u hu hn; exact ⟨b, e, z.on hb⟩, fun u hu => own_on (h3 u hu) hb, fun hn => (h4 hn).on hb, fun u hu => by obtain ⟨v, e, z⟩ := h5 u hu; exact ⟨v, e, z.on hb⟩⟩
theorem rp5F_nil {W w : World} {g : Nat} {cs : Array Value} {ee : List (List Value)} {ce : List Value} (h : Whole w g 24 cs) : rp5F W g cs ee ce [none, none, none, none, none] w :=
  ⟨fun _ h _ => by simp at h, fun _ h _ => by simp at h, fun _ h _ => by simp at h, fun _ h => by simp at h, fun _ => h, fun _ h => by simp at h⟩
theorem rp5F_row {W w : World} {g : Nat} {cs : Array Value} {ee : List (List Value)} {ce : List Value} : ∀ ν : List (Option Value), ν[4]? = some none → rp5F W g cs ee ce ν w → Whole w g 24 cs := by
  intro ν hn h
  match ν, h with
  | [n0, n1, n2, n3, n4], ⟨h0, h1, h2, h3, h4, h5⟩ => exact h4 (by simpa using hn)

set_option maxRecDepth 100000 in
set_option maxHeartbeats 4000000 in
theorem rPush (to : ByteArray) (next : Int) (ev op : Value) (fails at_ : Int) (eo ee : List (List Value)) (ce : List Value) (w : World) (ho : Evs w op eo) (he : Evs w ev ee) (hc : EvOK w ce) (hs : eo.length + ee.length ≤ 1000) :
    Calls Try.prog 12 #[.agg #[.string to, .int .i64 next, ev, op, .int .i64 fails, .int .i64 at_], .agg ce.toArray] w (PushPost to next op fails at_ (pushL ee eo ce) (pushE ee eo ce) w) := by
  obtain ⟨id, room, sender, kind, st, key, time, depth, pv, av, text, n, tg, th, via, alv, dnv, uv, kv, i1, i2, i3, i4, i5, i6, i7, hash, srv, sum, rfl, hcr⟩ := id hc
  have HC := Lib.hid hc
  clear hcr hc
  obtain ⟨i0, hi0, hz0, hz1, hz2⟩ := info_parts zinfo
  obtain ⟨oa, oc, rfl, hoc1, hoc2⟩ := ho.form
  obtain ⟨ea, ec, rfl, hec1, hec2⟩ := he.form
  go_enter Try.func12, Try.ntmps12
  go_wp2_with fail
  have q0 : Below w.heap.size w (((w.alloc (.cells #[.string to, .int .i64 next, (.slice ea ee.length ec), (.slice oa eo.length oc), .int .i64 fails, .int .i64 at_] 24)).alloc (.cells #[.int .i64 id, .string room, .string sender, .int .i64 kind, .bool st, .string key, .int .i64 time, .int .i64 depth, pv, av, .string text, .int .i64 n, .int .i64 tg, .bool th, .string via, alv, dnv, uv, kv, .int .i64 i1, .int .i64 i2, .int .i64 i3, .int .i64 i4, .int .i64 i5, .int .i64 i6, .int .i64 i7, .int .i64 hash, .string srv, .int .i64 sum] 37)).alloc (.cells #[.string ⟨#[]⟩, .int .i64 0, .slice none 0 0, .slice none 0 0, .int .i64 0, .int .i64 0] 24)) := (((Below.refl _ _).alloc (Nat.le_refl _) _).alloc (by simp) _).alloc (by simp; omega) _
  have B1 : Whole (((w.alloc (.cells #[.string to, .int .i64 next, (.slice ea ee.length ec), (.slice oa eo.length oc), .int .i64 fails, .int .i64 at_] 24)).alloc (.cells #[.int .i64 id, .string room, .string sender, .int .i64 kind, .bool st, .string key, .int .i64 time, .int .i64 depth, pv, av, .string text, .int .i64 n, .int .i64 tg, .bool th, .string via, alv, dnv, uv, kv, .int .i64 i1, .int .i64 i2, .int .i64 i3, .int .i64 i4, .int .i64 i5, .int .i64 i6, .int .i64 i7, .int .i64 hash, .string srv, .int .i64 sum] 37)).alloc (.cells #[.string ⟨#[]⟩, .int .i64 0, .slice none 0 0, .slice none 0 0, .int .i64 0, .int .i64 0] 24)) w.heap.size 24 #[.string to, .int .i64 next, (.slice ea ee.length ec), (.slice oa eo.length oc), .int .i64 fails, .int .i64 at_] := (Whole.new w 24 #[.string to, .int .i64 next, (.slice ea ee.length ec), (.slice oa eo.length oc), .int .i64 fails, .int .i64 at_]).on (((Below.refl _ _).alloc (Nat.le_refl _) _).alloc (by simp) _)
  have B2 : Whole (((w.alloc (.cells #[.string to, .int .i64 next, (.slice ea ee.length ec), (.slice oa eo.length oc), .int .i64 fails, .int .i64 at_] 24)).alloc (.cells #[.int .i64 id, .string room, .string sender, .int .i64 kind, .bool st, .string key, .int .i64 time, .int .i64 depth, pv, av, .string text, .int .i64 n, .int .i64 tg, .bool th, .string via, alv, dnv, uv, kv, .int .i64 i1, .int .i64 i2, .int .i64 i3, .int .i64 i4, .int .i64 i5, .int .i64 i6, .int .i64 i7, .int .i64 hash, .string srv, .int .i64 sum] 37)).alloc (.cells #[.string ⟨#[]⟩, .int .i64 0, .slice none 0 0, .slice none 0 0, .int .i64 0, .int .i64 0] 24)) (w.heap.size + 1) 37 #[.int .i64 id, .string room, .string sender, .int .i64 kind, .bool st, .string key, .int .i64 time, .int .i64 depth, pv, av, .string text, .int .i64 n, .int .i64 tg, .bool th, .string via, alv, dnv, uv, kv, .int .i64 i1, .int .i64 i2, .int .i64 i3, .int .i64 i4, .int .i64 i5, .int .i64 i6, .int .i64 i7, .int .i64 hash, .string srv, .int .i64 sum] := by
    have := (Whole.new (w.alloc (.cells #[.string to, .int .i64 next, (.slice ea ee.length ec), (.slice oa eo.length oc), .int .i64 fails, .int .i64 at_] 24)) 37 #[.int .i64 id, .string room, .string sender, .int .i64 kind, .bool st, .string key, .int .i64 time, .int .i64 depth, pv, av, .string text, .int .i64 n, .int .i64 tg, .bool th, .string via, alv, dnv, uv, kv, .int .i64 i1, .int .i64 i2, .int .i64 i3, .int .i64 i4, .int .i64 i5, .int .i64 i6, .int .i64 i7, .int .i64 hash, .string srv, .int .i64 sum]).on ((Below.refl _ _).alloc (Nat.le_refl _) (.cells #[.string ⟨#[]⟩, .int .i64 0, .slice none 0 0, .slice none 0 0, .int .i64 0, .int .i64 0] 24))
    rwa [size_alloc'] at this
  have B3 : Whole (((w.alloc (.cells #[.string to, .int .i64 next, (.slice ea ee.length ec), (.slice oa eo.length oc), .int .i64 fails, .int .i64 at_] 24)).alloc (.cells #[.int .i64 id, .string room, .string sender, .int .i64 kind, .bool st, .string key, .int .i64 time, .int .i64 depth, pv, av, .string text, .int .i64 n, .int .i64 tg, .bool th, .string via, alv, dnv, uv, kv, .int .i64 i1, .int .i64 i2, .int .i64 i3, .int .i64 i4, .int .i64 i5, .int .i64 i6, .int .i64 i7, .int .i64 hash, .string srv, .int .i64 sum] 37)).alloc (.cells #[.string ⟨#[]⟩, .int .i64 0, .slice none 0 0, .slice none 0 0, .int .i64 0, .int .i64 0] 24)) (w.heap.size + 1 + 1) 24 #[.string ⟨#[]⟩, .int .i64 0, .slice none 0 0, .slice none 0 0, .int .i64 0, .int .i64 0] := by
    have := Whole.new ((w.alloc (.cells #[.string to, .int .i64 next, (.slice ea ee.length ec), (.slice oa eo.length oc), .int .i64 fails, .int .i64 at_] 24)).alloc (.cells #[.int .i64 id, .string room, .string sender, .int .i64 kind, .bool st, .string key, .int .i64 time, .int .i64 depth, pv, av, .string text, .int .i64 n, .int .i64 tg, .bool th, .string via, alv, dnv, uv, kv, .int .i64 i1, .int .i64 i2, .int .i64 i3, .int .i64 i4, .int .i64 i5, .int .i64 i6, .int .i64 i7, .int .i64 hash, .string srv, .int .i64 sum] 37)) 24 #[.string ⟨#[]⟩, .int .i64 0, .slice none 0 0, .slice none 0 0, .int .i64 0, .int .i64 0]
    rwa [size_alloc', size_alloc'] at this
  obtain ⟨w1, hw1⟩ : ∃ w1, w1 = ((w.alloc (.cells #[.string to, .int .i64 next, (.slice ea ee.length ec), (.slice oa eo.length oc), .int .i64 fails, .int .i64 at_] 24)).alloc (.cells #[.int .i64 id, .string room, .string sender, .int .i64 kind, .bool st, .string key, .int .i64 time, .int .i64 depth, pv, av, .string text, .int .i64 n, .int .i64 tg, .bool th, .string via, alv, dnv, uv, kv, .int .i64 i1, .int .i64 i2, .int .i64 i3, .int .i64 i4, .int .i64 i5, .int .i64 i6, .int .i64 i7, .int .i64 hash, .string srv, .int .i64 sum] 37)).alloc (.cells #[.string ⟨#[]⟩, .int .i64 0, .slice none 0 0, .slice none 0 0, .int .i64 0, .int .i64 0] 24) := ⟨_, rfl⟩
  try rw [← hw1] at B1 B2 B3 q0 ⊢
  clear hw1
  have HE := Lib.hid he
  have HO := Lib.hid ho
  clear ho he
  refine wp_region_net [1, 4] none (rp1F (eo ++ ee) id) (by kernel_rfl) (by kernel_rfl) (by kernel_rfl) trivial ?_
  apply Exists.intro
  apply And.intro
  · intro W1 hW
    have hb := below_of_grown hW
    have b1 := B1.on hb
    have b2 := B2.on hb
    have hld : ∀ (X : Ext W1), (Instr.loadAt 24 (.pointer (some ⟨w.heap.size, 0, none⟩))).run Try.prog X.val = .ok (.agg #[.string to, .int .i64 next, (.slice ea ee.length ec), (.slice oa eo.length oc), .int .i64 fails, .int .i64 at_]) X.val := fun X => load24 (Whole.range (b1.on X.below)) rfl
    have hx : ∀ (X : Ext W1) (o : Nat), X.val.cell? ⟨w.heap.size + 1, o, none⟩ = (#[.int .i64 id, .string room, .string sender, .int .i64 kind, .bool st, .string key, .int .i64 time, .int .i64 depth, pv, av, .string text, .int .i64 n, .int .i64 tg, .bool th, .string via, alv, dnv, uv, kv, .int .i64 i1, .int .i64 i2, .int .i64 i3, .int .i64 i4, .int .i64 i5, .int .i64 i6, .int .i64 i7, .int .i64 hash, .string srv, .int .i64 sum] : Array Value)[o]? := fun X o => (b2.on X.below).cell o
    simp only [quietOps, List.contains_cons, List.contains_nil]
    simp
    clear b1 b2 hb
    repeat (first | go_big_quiet_skip | (go_big_quiet_want; (first | (refine quiet_load 24 _ rfl _ rfl _ hld ?_; simp only [Act.put, List.setIfInBounds_toArray, List.set_cons_succ, List.set_cons_zero]; go_big_quiet_on) | (go_big_quiet_op; (first | go_big_quiet_on | go_big_quiet_call (fail))))))
    exact wpQuiet_nil rfl
  refine ⟨⟨rp1F_on, fun j hj => ?_⟩, ?_⟩
  · match j, hj with
    | 0, _ =>
      refine ⟨_, rfl, rfl, fun w2 ν hν hw2 _ => ?_⟩
      obtain rfl : ν = [] := List.eq_nil_of_length_eq_zero hν
      have hb := below_of_grown hw2
      have q2 := q0.trans (hb.mono q0.size)
      refine leaves_fn 27 [.tmp 6] _ [.agg #[.string to, .int .i64 next, (.slice ea ee.length ec), (.slice oa eo.length oc), .int .i64 fails, .int .i64 at_]] (by kernel_rfl) rfl rfl (rAll _ _ _ _ _ _ eo ee _ (HO.out.on q2) (HE.out.on q2) (by omega)) ?_
      rintro x w3 ⟨v, rfl, hv, hb3⟩
      exact ⟨_, rfl, grownBy_trans hw2 (grownBy_of_below hb3), _, rfl, hv⟩
    | 1, _ =>
      refine ⟨_, rfl, rfl, fun w2 ν hν hw2 hf => ?_⟩
      obtain ⟨v, rfl, hv⟩ := hf
      refine leaves_fn 28 [.tmp 7, .tmp 9] _ [v, .int .i64 id] (by kernel_rfl) rfl rfl (hasId_any v (eo ++ ee) id _ hv) ?_
      rintro x w3 ⟨rfl, hb3⟩
      exact ⟨_, rfl, grownBy_trans hw2 (grownBy_of_below hb3), _, rfl⟩
  · intro ν w2 hν hw2 hf
    obtain ⟨v, rfl⟩ := hf
    have hb := below_of_grown hw2
    have q2 := q0.trans (hb.mono q0.size)
    replace B1 := B1.on hb
    replace B2 := B2.on hb
    replace B3 := B3.on hb
    clear hb hw2 q0
    simp only [dstsOfS, dstAt, List.map_cons, List.map_nil, fillA]
    simp [Act.put]
    cases hX : hasB (eo ++ ee) id with
    | true =>
      have d0 := B1.cell 0
      have d1 := B1.cell 1
      have d2 := B1.cell 2
      have d3 := B1.cell 3
      have d4 := B1.cell 4
      have d5 := B1.cell 5
      simp at d0 d1 d2 d3 d4 d5
      have HX := Lib.hid hX
      clear hX
      go_wp2_with (first | ((with_reducible refine list_store24 _ _ _ #[.string to, .int .i64 next, (.slice ea ee.length ec), (.slice oa eo.length oc), .int .i64 fails, .int .i64 at_] B3 rfl ?_ ?_ ?_ ?_ ?_ ?_ ?_); all_goals try rfl; all_goals try (simp [Value.oneCell']; done)))
      case refine_4 => simp [Value.oneCell']
      intro w3 z3 g3
      have f3 := z3.cell
      have q3 : Below w.heap.size w w3 := below_row q2 g3 (by omega) (by have := B3.lt; omega)
      clear B1 B2 B3 z3
      go_wp2_with fail
      exact bodyPost_ret (v := .tuple #[.agg #[.string to, .int .i64 next, (.slice ea ee.length ec), (.slice oa eo.length oc), .int .i64 fails, .int .i64 at_], .int .i64 4]) (by simp [results, Try.results12, go_sem, f3]) rfl (PushPost.dup HX.out (HE.out.on q3) q3)
    | false =>
      have HX := Lib.hid hX
      clear hX
      have d0 := B1.cell 0
      have d1 := B1.cell 1
      have d2 := B1.cell 2
      have d3 := B1.cell 3
      have d4 := B1.cell 4
      have d5 := B1.cell 5
      simp at d0 d1 d2 d3 d4 d5
      go_wp2_with fail
      refine (rSize _ _ _ _ _ _ eo ee _ (HO.out.on q2) (HE.out.on q2) (by omega)).mono ?_
      rintro x w4 ⟨rfl, hb⟩
      replace q2 := q2.trans (hb.mono q2.size)
      replace B1 := B1.on hb
      replace B2 := B2.on hb
      replace B3 := B3.on hb
      clear hb d0 d1 d2 d3 d4 d5
      have d0 := B1.cell 0
      have d1 := B1.cell 1
      have d2 := B1.cell 2
      have d3 := B1.cell 3
      have d4 := B1.cell 4
      have d5 := B1.cell 5
      simp at d0 d1 d2 d3 d4 d5
      by_cases h5 : 500 ≤ ee.length + eo.length
      · go_wp2_with (first | ((with_reducible refine list_store24 _ _ _ #[.string to, .int .i64 next, (.slice ea ee.length ec), (.slice oa eo.length oc), .int .i64 fails, .int .i64 at_] B3 rfl ?_ ?_ ?_ ?_ ?_ ?_ ?_); all_goals try rfl; all_goals try (simp [Value.oneCell']; done)))
        case refine_4 => simp [Value.oneCell']
        intro w3 z3 g3
        have f3 := z3.cell
        have q3 : Below w.heap.size w w3 := below_row q2 g3 (by omega) (by have := B3.lt; omega)
        clear B1 B2 B3 z3
        go_wp2_with fail
        exact bodyPost_ret (v := .tuple #[.agg #[.string to, .int .i64 next, (.slice ea ee.length ec), (.slice oa eo.length oc), .int .i64 fails, .int .i64 at_], .int .i64 29]) (by simp [results, Try.results12, go_sem, f3]) rfl (PushPost.full HX.out h5 (HE.out.on q3) q3)
      · go_wp2_with fail
        have hev : ∀ {wx : World}, Below w.heap.size w wx → Evs wx (.slice ea ee.length ec) ee := fun hb => HE.out.on hb
        have lg := B1.lt
        refine wp_region_net4 w4 true [0, 3, 5, 6, 8] (some w.heap.size) (rp5F w4 w.heap.size #[.string to, .int .i64 next, (.slice ea ee.length ec), (.slice oa eo.length oc), .int .i64 fails, .int .i64 at_] ee #[.int .i64 id, .string room, .string sender, .int .i64 kind, .bool st, .string key, .int .i64 time, .int .i64 depth, pv, av, .string text, .int .i64 n, .int .i64 tg, .bool th, .string via, alv, dnv, uv, kv, .int .i64 i1, .int .i64 i2, .int .i64 i3, .int .i64 i4, .int .i64 i5, .int .i64 i6, .int .i64 i7, .int .i64 hash, .string srv, .int .i64 sum].toList) (by kernel_rfl) (by kernel_rfl) (by kernel_rfl) (rp5F_nil B1) (fun _ => by kernel_rfl) (by decide) (World.grownBy.refl _ _) ?_
        apply Exists.intro
        apply And.intro
        · rintro W1 ⟨ν, hν, hk, hW, hF⟩
          have b1' := rp5F_row ν (hk rfl) hF
          have b2' := B2.off hW (by simp)
          have hld : ∀ (X : Ext W1), (Instr.loadAt 37 (.pointer (some ⟨w.heap.size + 1, 0, none⟩))).run Try.prog X.val = .ok (.agg #[.int .i64 id, .string room, .string sender, .int .i64 kind, .bool st, .string key, .int .i64 time, .int .i64 depth, pv, av, .string text, .int .i64 n, .int .i64 tg, .bool th, .string via, alv, dnv, uv, kv, .int .i64 i1, .int .i64 i2, .int .i64 i3, .int .i64 i4, .int .i64 i5, .int .i64 i6, .int .i64 i7, .int .i64 hash, .string srv, .int .i64 sum]) X.val := fun X => load37 (Whole.range (b2'.on X.below)) rfl
          have hx : ∀ (X : Ext W1) (o : Nat), X.val.cell? ⟨w.heap.size, o, none⟩ = (#[.string to, .int .i64 next, (.slice ea ee.length ec), (.slice oa eo.length oc), .int .i64 fails, .int .i64 at_] : Array Value)[o]? := fun X o => (b1'.on X.below).cell o
          simp only [quietOps, List.contains_cons, List.contains_nil]
          simp
          clear hF b2'
          repeat (first | go_big_quiet_skip | (go_big_quiet_want; (first | (refine quiet_load 37 _ rfl _ rfl _ hld ?_; simp only [Act.put, List.setIfInBounds_toArray, List.set_cons_succ, List.set_cons_zero]; go_big_quiet_on) | (go_big_quiet_op; (first | go_big_quiet_on | go_big_quiet_call (fail))))))
          exact wpQuiet_nil rfl
        refine ⟨⟨rp5F_on, fun j hj => ?_⟩, ?_⟩
        · match j, hj with
          | 0, _ =>
            refine ⟨_, rfl, rfl, fun w5 ν hν hn hpre hpost hw5 hf => ?_⟩
            match ν, hf, hn, hpost 1 (by decide) (by kernel_rfl) with
            | [n0, n1, n2, n3, n4], ⟨f0, f1, f2, f3, f4, f5⟩, hn, p1 =>
              have hn' : n0 = none := by simpa using hn
              have p1' : n1 = none := by simpa using p1
              subst hn' p1'
              have hb5 : Below w5.heap.size w5 (w5.alloc (.cells #[] 37)) := (Below.refl _ _).alloc (Nat.le_refl _) _
              refine leaves_value (build0 _ _ _ _ _ w5) (grownBy_trans hw5 (World.grownBy_alloc _ _ _)) ⟨fun u hu _ => ?_, fun u hu => by simp at hu, fun u hu hn => ?_, fun u hu => own_on (f3 u hu) hb5, fun hn => (f4 hn).on hb5, fun u hu => ?_⟩
              · simp at hu
                subst hu
                exact ⟨_, rfl, Whole.new w5 37 #[], hw5.size⟩
              · obtain ⟨b, e, z⟩ := f2 u hu hn
                exact ⟨b, e, z.on hb5⟩
              · obtain ⟨v, e, z⟩ := f5 u hu
                exact ⟨v, e, z.on hb5⟩
          | 1, _ =>
            refine ⟨_, rfl, rfl, fun w5 ν hν hn hpre hpost hw5 hf => ?_⟩
            match ν, hf, hn, hpre 0 (by decide) (by kernel_rfl), hpost 3 (by decide) (by kernel_rfl) with
            | [n0, n1, n2, n3, n4], ⟨f0, f1, f2, f3, f4, f5⟩, hn, p0, p3 =>
              obtain ⟨u0, p0⟩ := p0
              have p0' : n0 = some u0 := by simpa using p0
              have hn' : n1 = none := by simpa using hn
              have p3' : n3 = none := by simpa using p3
              subst hn' p3' p0'
              obtain ⟨h, rfl, zh, lh⟩ := f0 _ rfl rfl
              have q5 := below_row q2 hw5 (Nat.le_refl _) q2.size
              have he5 := hev q5
              refine leaves_lit _ _ w4.heap.size h 22 37 i0 _ 29 376 rfl Try.underlying22 hi0 hz0 hz1 hz2 rfl (by omega) ?_ zh lh (.slice ea ee.length ec) ee.length ee.flatten ?_ he5.1 he5.one (by simp only [maxLen]; omega) (by omega) hw5 ?_
              · cases n2 <;> cases n4 <;> rfl
              · cases n2 <;> cases n4 <;> rfl
              intro v' w6 h2 h3
              refine ⟨fun u _ hn => by simp at hn, fun u hu _ => ?_, fun u hu hn => ?_, fun u hu => by simp at hu, fun hn => (f4 hn).on h3, fun u hu => ?_⟩
              · simp at hu
                subst hu
                exact h2
              · obtain ⟨b, e, z⟩ := f2 u hu hn
                exact ⟨b, e, z.on h3⟩
              · obtain ⟨v, e, z⟩ := f5 u hu
                simp at e
          | 2, _ =>
            refine ⟨_, rfl, rfl, fun w5 ν hν hn hpre hpost hw5 hf => ?_⟩
            match ν, hf, hn, hpost 3 (by decide) (by kernel_rfl) with
            | [n0, n1, n2, n3, n4], ⟨f0, f1, f2, f3, f4, f5⟩, hn, p3 =>
              have hn' : n2 = none := by simpa using hn
              have p3' : n3 = none := by simpa using p3
              subst hn' p3'
              have hb5 : Below w5.heap.size w5 (w5.alloc (.cells #[.int .i64 id, .string room, .string sender, .int .i64 kind, .bool st, .string key, .int .i64 time, .int .i64 depth, pv, av, .string text, .int .i64 n, .int .i64 tg, .bool th, .string via, alv, dnv, uv, kv, .int .i64 i1, .int .i64 i2, .int .i64 i3, .int .i64 i4, .int .i64 i5, .int .i64 i6, .int .i64 i7, .int .i64 hash, .string srv, .int .i64 sum] 37)) := (Below.refl _ _).alloc (Nat.le_refl _) _
              refine leaves_value (build1 (x := .tmp 20) (ho := rfl) (hx := ?_) (w := w5)) (grownBy_trans hw5 (World.grownBy_alloc _ _ _)) ⟨fun u hu hn => ?_, fun u hu hn => own_on (f1 u hu hn) hb5, fun u hu hn => ?_, fun u hu => by simp at hu, fun hn => (f4 hn).on hb5, fun u hu => ?_⟩
              · cases n0 <;> cases n1 <;> cases n4 <;> rfl
              · obtain ⟨h, e, z, l⟩ := f0 u hu hn
                exact ⟨h, e, z.on hb5, l⟩
              · simp at hu
                subst hu
                exact ⟨_, rfl, Whole.new _ _ _⟩
              · obtain ⟨v, e, z⟩ := f5 u hu
                simp at e
          | 3, _ =>
            refine ⟨_, rfl, rfl, fun w5 ν hν hn hpre hpost hw5 hf => ?_⟩
            match ν, hf, hn, hpre 1 (by decide) (by kernel_rfl), hpre 2 (by decide) (by kernel_rfl), hpost 4 (by decide) (by kernel_rfl) with
            | [n0, n1, n2, n3, n4], ⟨f0, f1, f2, f3, f4, f5⟩, hn, ⟨u1, p1⟩, ⟨u2, p2⟩, p4 =>
              have p1' : n1 = some u1 := by simpa using p1
              have p2' : n2 = some u2 := by simpa using p2
              have hn' : n3 = none := by simpa using hn
              have p4' : n4 = none := by simpa using p4
              subst hn' p1' p2' p4'
              have own := f1 _ rfl rfl
              obtain ⟨b, rfl, zb⟩ := f2 _ rfl rfl
              refine leaves_append2 _ _ w4.heap.size 22 37 i0 _ 29 376 rfl Try.underlying22 hi0 hz0 hz1 hz2 rfl (by omega) u1 ee.length ee.flatten ?_ own _ 1 #[.int .i64 id, .string room, .string sender, .int .i64 kind, .bool st, .string key, .int .i64 time, .int .i64 depth, pv, av, .string text, .int .i64 n, .int .i64 tg, .bool th, .string via, alv, dnv, uv, kv, .int .i64 i1, .int .i64 i2, .int .i64 i3, .int .i64 i4, .int .i64 i5, .int .i64 i6, .int .i64 i7, .int .i64 hash, .string srv, .int .i64 sum].toList ?_ (Row.whole zb rfl) (HC.out.one) (by simp only [maxLen]; omega) (by omega) hw5 (Nat.le_refl _) hw5.size ?_
              · cases n0 <;> rfl
              · cases n0 <;> rfl
              intro v' w6 h2 h3 _
              refine ⟨fun u _ hn => by simp at hn, fun u _ hn => by simp at hn, fun u _ hn => by simp at hn, fun u hu => ?_, fun hn => (f4 hn).own own lg h3, fun u hu => by simp at hu⟩
              simp at hu
              subst hu
              exact h2
          | 4, _ =>
            refine ⟨_, rfl, rfl, fun w5 ν hν hn hpre hpost hw5 hf => ?_⟩
            match ν, hf, hn, hpre 3 (by decide) (by kernel_rfl) with
            | [n0, n1, n2, n3, n4], ⟨f0, f1, f2, f3, f4, f5⟩, hn, ⟨u3, p3⟩ =>
              have p3' : n3 = some u3 := by simpa using p3
              have hn' : n4 = none := by simpa using hn
              subst hn' p3'
              have own := f3 _ rfl
              obtain ⟨vo, vc, rfl⟩ := own_slice own
              refine leaves_put 22 24 _ _ w.heap.size 2 _ (.slice vo (ee.length + 1) vc) rfl ?_ ?_ size22 rfl rfl (f4 rfl) (by simp) hw5 (.inr rfl) fun w6 z6 h6 => ⟨fun u hu hn => ?_, fun u hu hn => by simp at hn, fun u hu hn => by simp at hn, fun u hu => ?_, fun hn => by simp at hn, fun u hu => ⟨_, rfl, z6⟩⟩
              · cases n0 <;> cases n1 <;> cases n2 <;> rfl
              · cases n0 <;> cases n1 <;> cases n2 <;> rfl
              · obtain ⟨h, e, z, l⟩ := f0 u hu hn
                exact ⟨h, e, z.off h6 (by intro e2; injection e2 with e2; omega), l⟩
              · simp at hu
                subst hu
                exact own_off own h6 lg
        · intro ν hν hall w5 hw5 hf
          match ν, hf, hall 0 (by decide), hall 1 (by decide), hall 2 (by decide), hall 3 (by decide), hall 4 (by decide) with
          | [n0, n1, n2, n3, n4], ⟨f0, f1, f2, f3, f4, f5⟩, ⟨u0, p0⟩, ⟨u1, p1⟩, ⟨u2, p2⟩, ⟨u3, p3⟩, ⟨u4, p4⟩ =>
            have p0' : n0 = some u0 := by simpa using p0
            have p1' : n1 = some u1 := by simpa using p1
            have p2' : n2 = some u2 := by simpa using p2
            have p3' : n3 = some u3 := by simpa using p3
            have p4' : n4 = some u4 := by simpa using p4
            subst p0' p1' p2' p3' p4'
            have own := f3 _ rfl
            obtain ⟨v, hv, z⟩ := f5 _ rfl
            obtain rfl : u3 = v := by simpa using hv
            clear f0 f1 f2 f3 f4 f5 hv
            obtain ⟨vo, vc, rfl⟩ := own_slice own
            have q5 : Below w.heap.size w w5 := below_row q2 hw5 (Nat.le_refl _) q2.size
            have OWN := Lib.hid own
            have c5 := z.cell
            have b5 := B3.off hw5 (by intro e; injection e with e; omega)
            have l3 := B3.lt
            clear own z B1 B2 B3 d0 d1 d2 d3 d4 d5 hall hν
            simp only [dstsOfS, dstAt, List.map_cons, List.map_nil, fillO]
            simp [Act.put]
            have d0 := c5 0
            have d1 := c5 1
            have d2 := c5 2
            have d3 := c5 3
            have d4 := c5 4
            have d5 := c5 5
            simp at d0 d1 d2 d3 d4 d5
            clear c5
            go_wp2_with (first | ((with_reducible refine list_store24 _ _ _ #[.string to, .int .i64 next, (.slice vo (ee.length + 1) vc), (.slice oa eo.length oc), .int .i64 fails, .int .i64 at_] b5 rfl ?_ ?_ ?_ ?_ ?_ ?_ ?_); all_goals try rfl; all_goals try (simp [Value.oneCell']; done)))
            case refine_4 => simp [Value.oneCell']
            intro w3 z3 g3
            have f3 := z3.cell
            clear b5 z3
            go_wp2_with fail
            have q6 : Below w.heap.size w w3 := below_row q5 g3 (by omega) (by have := hw5.size; omega)
            have hE6 : Evs w3 (.slice vo (ee.length + 1) vc) (ee ++ [#[.int .i64 id, .string room, .string sender, .int .i64 kind, .bool st, .string key, .int .i64 time, .int .i64 depth, pv, av, .string text, .int .i64 n, .int .i64 tg, .bool th, .string via, alv, dnv, uv, kv, .int .i64 i1, .int .i64 i2, .int .i64 i3, .int .i64 i4, .int .i64 i5, .int .i64 i6, .int .i64 i7, .int .i64 hash, .string srv, .int .i64 sum].toList]) := Evs.snoc (Row.of_own (own_off OWN.out g3 l3)) (hev q6) (HC.out.on q6)
            exact bodyPost_ret (v := .tuple #[.agg #[.string to, .int .i64 next, (.slice vo (ee.length + 1) vc), (.slice oa eo.length oc), .int .i64 fails, .int .i64 at_], .int .i64 0]) (by simp [results, Try.results12, go_sem, f3]) rfl (PushPost.done HX.out h5 hE6 q6)

end Go.Proofs.Ytfebldoplobkdaa
