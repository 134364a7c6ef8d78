/- What the argument of ScriptLines reads as: an act. -/
import Derived.Test.YtojknjmcmadhcaaGreatDoorWe
import Derived.Deep.Slices
import Derived.Deep.Fields
import Derived.SliceStrings
import Derived.ChangeOld
import Derived.ShutString
import Derived.Lib.SmallJoins

section
namespace Go.Proofs.R50.Tr
open Go.Deep Go.Joins Go.ChangeShapes Go.WideShapes Go.ChangeAt Go.RowKit Go.Proofs.R50

theorem cellsOf3 : Tryz.prog.cellsOf 3 = 1 := by kernel_rfl
theorem cellsOf4 : Tryz.prog.cellsOf 4 = 1 := by kernel_rfl
theorem cellsOf9 : Tryz.prog.cellsOf 9 = 1 := by kernel_rfl
theorem cellsOf29 : Tryz.prog.cellsOf 29 = 1 := by kernel_rfl
theorem cellsOf30 : Tryz.prog.cellsOf 30 = 1 := by kernel_rfl
theorem cellsOf31 : Tryz.prog.cellsOf 31 = 1 := by kernel_rfl
theorem cellsOf33 : Tryz.prog.cellsOf 33 = 9 := by kernel_rfl
theorem cellsOf35 : Tryz.prog.cellsOf 35 = 16 := by kernel_rfl
theorem cellsOf37 : Tryz.prog.cellsOf 37 = 19 := by kernel_rfl
theorem flatten_at3 {size : Nat} : ∀ (es : List (List Value)) (j : Nat) (u : Value), (∀ c ∈ es, c.length = size) → es.flatten[j]? = some u → ∃ i r c, es[i]? = some c ∧ r < size ∧ j = i * size + r ∧ c[r]? = some u
 | [], j, u, _, h => by simp at h
 | c :: es, j, u, hl, h => by
  have hc := hl c (List.mem_cons_self ..)
  rw [List.flatten_cons] at h
  by_cases hj : j < c.length
  ·rw [List.getElem?_append_left hj] at h
   exact ⟨0, j, c, rfl, by omega, by omega, h⟩
  ·rw [List.getElem?_append_right (by omega)] at h
   obtain ⟨i, r, c', h1, h2, h3, h4⟩ := flatten_at3 es (j - c.length) u (fun x hx => hl x (List.mem_cons_of_mem _ hx)) h
   exact ⟨i + 1, r, c', by simpa using h1, h2, by rw [Nat.add_mul]; omega, h4⟩
theorem flatMap_one {α : Type} (g : α → Value) : ∀ xs : List α, xs.flatMap (fun n => [g n]) = xs.map g
 | [] => rfl
 | x :: xs => by rw [List.flatMap_cons, flatMap_one g xs]; rfl
theorem flatten_map {α : Type} (g : α → List Value) : ∀ es : List (List Value), (∀ c ∈ es, ∃ x : α, c = g x) → ∃ xs : List α, es.flatten = xs.flatMap g ∧ xs.length = es.length
 | [], _ => ⟨[], rfl, rfl⟩
 | c :: es, h => by
  obtain ⟨x, rfl⟩ := h c (List.mem_cons_self ..)
  obtain ⟨xs, h1, h2⟩ := flatten_map g es fun x hx => h x (List.mem_cons_of_mem _ hx)
  exact ⟨x :: xs, by simp [h1], by simp [h2]⟩

section
variable {H : Type} {enc : TypeId × Value → H} {W : World} {base : Nat} {spare : Nat → Bool} {held : Bool}
/-- A slice that reads as data: a row of elements. -/
theorem row_of_trod {P : Program} {t e size fuel : Nat} {cs : List Value} {y : DataW H × List MemPlace} (ht : P.underlying t = some (.slice e)) (hs : P.cellsOf e = size) (hpos : 0 < size) (p : List Value → Prop)
  (hp : ∀ n cs' y', DataW.trod enc P W base spare held n e cs' = some y' → cs'.length = size → p cs') (h : DataW.trod enc P W base spare held fuel t cs = some y) :
  ∃ v, cs = [v] ∧ ∃ es : List (List Value), Row W v size es.length es.flatten ∧ ∀ c ∈ es, p c ∧ c.length = size := by
 rcases open_slice ht h with ⟨hcs, _⟩ | ⟨a, l, c, m, n, D, Pl, hcs, hb, hl, hm, hmm, hx, hi⟩
 ·exact ⟨_, hcs, [], Row.nil, fun c hc => by cases hc⟩
 ·have hlm : l ≤ m := by rw [hmm]; split <;> omega
  have each : ∀ i, i < l → ∃ c' : List Value, W.cells? base (a.add (i * size)) size = some c' ∧ p c' ∧ c'.length = size := fun i hil => by
   obtain ⟨c', h1, h2⟩ := hi i (by omega)
   rw [hs] at h1
   obtain ⟨_, h3, _⟩ := World.cells?_some h1
   exact ⟨c', h1, hp _ _ _ h2 h3, h3⟩
  obtain ⟨f, hf⟩ := choose_lt each
  have hall : ∀ c ∈ (List.range l).map f, c.length = size := fun c hc => by
   obtain ⟨i, hi', rfl⟩ := List.mem_map.1 hc
   exact (hf i (List.mem_range.1 hi')).2.2
  refine ⟨_, hcs, (List.range l).map f, ⟨some a, c, by simp, by simpa using hl, by simpa [maxLen] using hm, ?_, fun hp0 => ?_⟩, fun c hc => ?_⟩
  ·have : ∀ es : List (List Value), (∀ c ∈ es, c.length = size) → es.flatten.length = es.length * size := by
    intro es
    induction es with
    | nil => intro _; simp
    | cons c es ih =>
     intro h
     rw [List.flatten_cons, List.length_append, ih fun x hx => h x (List.mem_cons_of_mem _ hx), h c (List.mem_cons_self ..), List.length_cons, Nat.add_mul]
     omega
   exact this _ hall
  ·have hl0 : 0 < l := by simpa using hp0
   obtain ⟨_, hlen, hc⟩ := World.cells?_some (hf 0 hl0).1
   obtain ⟨b, off, spot⟩ := a
   have h0 := hc 0 (by omega)
   have hf0 := (hf 0 hl0).2.2
   rw [List.getElem?_eq_getElem (by omega)] at h0
   have hspot : spot = none := by
    have := World.cell?_spot h0
    simpa [Addr.add] using this
   subst hspot
   refine ⟨b, off, rfl, ?_, fun j u hu => ?_⟩
   ·rw [add_add] at h0
    rw [Go.WideShapes.add_plain] at h0
    exact block_lt_of_cell h0
   ·obtain ⟨i, r, c', h1, h2, h3, h4⟩ := flatten_at3 _ j u hall hu
    have hil : i < l := by
     have := (List.getElem?_eq_some_iff.1 h1).1
     simpa using this
    have : c' = f i := by simpa [hil] using h1.symm
    subst this
    obtain ⟨_, hlen', hc'⟩ := World.cells?_some (hf i hil).1
    have h5 := hc' r (by omega)
    rw [add_add, Go.WideShapes.add_plain] at h5
    rw [h3, h5]
    have := List.getElem?_eq_getElem (l := f i) (i := r) (by omega)
    rw [this] at h4
    simpa [List.getD, this] using h4
  ·obtain ⟨i, hi', rfl⟩ := List.mem_map.1 hc
   exact (hf i (List.mem_range.1 hi')).2

theorem slice_of_trod {t e fuel : Nat} {cs : List Value} {y : DataW H × List MemPlace} (ht : Tryz.prog.underlying t = some (.slice e)) (h : DataW.trod enc Tryz.prog W base spare held fuel t cs = some y) : ∃ (o : Option Addr) (l c : Nat), cs = [.slice o l c] := by
 rcases open_slice ht h with ⟨hcs, _⟩ | ⟨a, l, c, m, n, D, Pl, hcs, _⟩
 ·exact ⟨_, _, _, hcs⟩
 ·exact ⟨_, _, _, hcs⟩
theorem names_of_trod {fuel : Nat} {cs : List Value} {y : DataW H × List MemPlace} (h : DataW.trod enc Tryz.prog W base spare held fuel 29 cs = some y) : ∃ v, cs = [v] ∧ ∃ xs, Strs W v xs := by
 obtain ⟨v, hv, es, hr, hp⟩ := row_of_trod Tryz.underlying29 cellsOf9 (by omega) (fun c => ∃ n : ByteArray, c = [.string n]) (fun n cs' y' h _ => by obtain ⟨n, e, _⟩ := DataW.trod_string Tryz.underlying9 h; exact ⟨n, e⟩) h
 obtain ⟨xs, h1, h2⟩ := flatten_map (fun n : ByteArray => [.string n]) es fun c hc => (hp c hc).1
 refine ⟨v, hv, xs, ?_⟩
 unfold Strs
 rw [h2]
 rw [h1, flatMap_one] at hr
 exact hr
set_option maxRecDepth 100000 in
theorem levels_of_trod {fuel : Nat} {cs : List Value} {y : DataW H × List MemPlace} (h : DataW.trod enc Tryz.prog W base spare held fuel 33 cs = some y) : ∃ (ou ok : Option Addr) (lu cu lk ck : Nat) (i1 i2 i3 i4 i5 i6 i7 : Int), cs = [.slice ou lu cu, .slice ok lk ck, .int .i64 i1, .int .i64 i2, .int .i64 i3, .int .i64 i4, .int .i64 i5, .int .i64 i6, .int .i64 i7] := by
 obtain ⟨xs, k, _, _, hlen, hxl, hg⟩ := DataW.trod_struct Tryz.underlying33 h
 rw [cellsOf33] at hlen
 match cs, hlen with
 | [c0, c1, c2, c3, c4, c5, c6, c7, c8], _ =>
  have h0 : DataW.trod enc Tryz.prog W base spare held k 30 (([c0, c1, c2, c3, c4, c5, c6, c7, c8].drop 0).take (Tryz.prog.cellsOf 30)) = xs[0]? := hg 0 _ rfl
  rw [cellsOf30] at h0
  have h1 : DataW.trod enc Tryz.prog W base spare held k 31 (([c0, c1, c2, c3, c4, c5, c6, c7, c8].drop 1).take (Tryz.prog.cellsOf 31)) = xs[1]? := hg 1 _ rfl
  rw [cellsOf31] at h1
  have h2 : DataW.trod enc Tryz.prog W base spare held k 3 (([c0, c1, c2, c3, c4, c5, c6, c7, c8].drop 2).take (Tryz.prog.cellsOf 3)) = xs[2]? := hg 2 _ rfl
  rw [cellsOf3] at h2
  have h3 : DataW.trod enc Tryz.prog W base spare held k 3 (([c0, c1, c2, c3, c4, c5, c6, c7, c8].drop 3).take (Tryz.prog.cellsOf 3)) = xs[3]? := hg 3 _ rfl
  rw [cellsOf3] at h3
  have h4 : DataW.trod enc Tryz.prog W base spare held k 3 (([c0, c1, c2, c3, c4, c5, c6, c7, c8].drop 4).take (Tryz.prog.cellsOf 3)) = xs[4]? := hg 4 _ rfl
  rw [cellsOf3] at h4
  have h5 : DataW.trod enc Tryz.prog W base spare held k 3 (([c0, c1, c2, c3, c4, c5, c6, c7, c8].drop 5).take (Tryz.prog.cellsOf 3)) = xs[5]? := hg 5 _ rfl
  rw [cellsOf3] at h5
  have h6 : DataW.trod enc Tryz.prog W base spare held k 3 (([c0, c1, c2, c3, c4, c5, c6, c7, c8].drop 6).take (Tryz.prog.cellsOf 3)) = xs[6]? := hg 6 _ rfl
  rw [cellsOf3] at h6
  have h7 : DataW.trod enc Tryz.prog W base spare held k 3 (([c0, c1, c2, c3, c4, c5, c6, c7, c8].drop 7).take (Tryz.prog.cellsOf 3)) = xs[7]? := hg 7 _ rfl
  rw [cellsOf3] at h7
  have h8 : DataW.trod enc Tryz.prog W base spare held k 3 (([c0, c1, c2, c3, c4, c5, c6, c7, c8].drop 8).take (Tryz.prog.cellsOf 3)) = xs[8]? := hg 8 _ rfl
  rw [cellsOf3] at h8
  match xs, hxl with
  | [x0, x1, x2, x3, x4, x5, x6, x7, x8], _ =>
   replace h0 : DataW.trod enc Tryz.prog W base spare held k 30 [c0] = some x0 := by simpa using h0
   obtain ⟨ou, lu, cu, e0⟩ := slice_of_trod Tryz.underlying30 h0
   simp at e0
   subst_vars
   replace h1 : DataW.trod enc Tryz.prog W base spare held k 31 [c1] = some x1 := by simpa using h1
   obtain ⟨ok, lk, ck, e1⟩ := slice_of_trod Tryz.underlying31 h1
   simp at e1
   subst_vars
   replace h2 : DataW.trod enc Tryz.prog W base spare held k 3 [c2] = some x2 := by simpa using h2
   obtain ⟨i1, e2, _, w2⟩ := DataW.trod_int Tryz.underlying3 h2
   have b2 := bounds_i64 w2
   simp at e2
   subst_vars
   replace h3 : DataW.trod enc Tryz.prog W base spare held k 3 [c3] = some x3 := by simpa using h3
   obtain ⟨i2, e3, _, w3⟩ := DataW.trod_int Tryz.underlying3 h3
   have b3 := bounds_i64 w3
   simp at e3
   subst_vars
   replace h4 : DataW.trod enc Tryz.prog W base spare held k 3 [c4] = some x4 := by simpa using h4
   obtain ⟨i3, e4, _, w4⟩ := DataW.trod_int Tryz.underlying3 h4
   have b4 := bounds_i64 w4
   simp at e4
   subst_vars
   replace h5 : DataW.trod enc Tryz.prog W base spare held k 3 [c5] = some x5 := by simpa using h5
   obtain ⟨i4, e5, _, w5⟩ := DataW.trod_int Tryz.underlying3 h5
   have b5 := bounds_i64 w5
   simp at e5
   subst_vars
   replace h6 : DataW.trod enc Tryz.prog W base spare held k 3 [c6] = some x6 := by simpa using h6
   obtain ⟨i5, e6, _, w6⟩ := DataW.trod_int Tryz.underlying3 h6
   have b6 := bounds_i64 w6
   simp at e6
   subst_vars
   replace h7 : DataW.trod enc Tryz.prog W base spare held k 3 [c7] = some x7 := by simpa using h7
   obtain ⟨i6, e7, _, w7⟩ := DataW.trod_int Tryz.underlying3 h7
   have b7 := bounds_i64 w7
   simp at e7
   subst_vars
   replace h8 : DataW.trod enc Tryz.prog W base spare held k 3 [c8] = some x8 := by simpa using h8
   obtain ⟨i7, e8, _, w8⟩ := DataW.trod_int Tryz.underlying3 h8
   have b8 := bounds_i64 w8
   simp at e8
   subst_vars
   exact ⟨_, _, _, _, _, _, _, _, _, _, _, _, _, rfl⟩
set_option maxRecDepth 100000 in
theorem content_of_trod {fuel : Nat} {cs : List Value} {y : DataW H × List MemPlace} (h : DataW.trod enc Tryz.prog W base spare held fuel 35 cs = some y) : ∃ (tx : ByteArray) (cn tg : Int) (th : Bool) (via : ByteArray) (oa od ou ok : Option Addr) (la ca ld cd lu cu lk ck : Nat) (i1 i2 i3 i4 i5 i6 i7 : Int), cs = [.string tx, .int .i64 cn, .int .i64 tg, .bool th, .string via, .slice oa la ca, .slice od ld cd, .slice ou lu cu, .slice ok lk ck, .int .i64 i1, .int .i64 i2, .int .i64 i3, .int .i64 i4, .int .i64 i5, .int .i64 i6, .int .i64 i7] ∧ (-9223372036854775808 ≤ cn ∧ cn ≤ 9223372036854775807) := by
 obtain ⟨xs, k, _, _, hlen, hxl, hg⟩ := DataW.trod_struct Tryz.underlying35 h
 rw [cellsOf35] at hlen
 match cs, hlen with
 | [c0, c1, c2, c3, c4, c5, c6, c7, c8, c9, c10, c11, c12, c13, c14, c15], _ =>
  have h0 : DataW.trod enc Tryz.prog W base spare held k 9 (([c0, c1, c2, c3, c4, c5, c6, c7, c8, c9, c10, c11, c12, c13, c14, c15].drop 0).take (Tryz.prog.cellsOf 9)) = xs[0]? := hg 0 _ rfl
  rw [cellsOf9] at h0
  have h1 : DataW.trod enc Tryz.prog W base spare held k 3 (([c0, c1, c2, c3, c4, c5, c6, c7, c8, c9, c10, c11, c12, c13, c14, c15].drop 1).take (Tryz.prog.cellsOf 3)) = xs[1]? := hg 1 _ rfl
  rw [cellsOf3] at h1
  have h2 : DataW.trod enc Tryz.prog W base spare held k 3 (([c0, c1, c2, c3, c4, c5, c6, c7, c8, c9, c10, c11, c12, c13, c14, c15].drop 2).take (Tryz.prog.cellsOf 3)) = xs[2]? := hg 2 _ rfl
  rw [cellsOf3] at h2
  have h3 : DataW.trod enc Tryz.prog W base spare held k 4 (([c0, c1, c2, c3, c4, c5, c6, c7, c8, c9, c10, c11, c12, c13, c14, c15].drop 3).take (Tryz.prog.cellsOf 4)) = xs[3]? := hg 3 _ rfl
  rw [cellsOf4] at h3
  have h4 : DataW.trod enc Tryz.prog W base spare held k 9 (([c0, c1, c2, c3, c4, c5, c6, c7, c8, c9, c10, c11, c12, c13, c14, c15].drop 4).take (Tryz.prog.cellsOf 9)) = xs[4]? := hg 4 _ rfl
  rw [cellsOf9] at h4
  have h5 : DataW.trod enc Tryz.prog W base spare held k 29 (([c0, c1, c2, c3, c4, c5, c6, c7, c8, c9, c10, c11, c12, c13, c14, c15].drop 5).take (Tryz.prog.cellsOf 29)) = xs[5]? := hg 5 _ rfl
  rw [cellsOf29] at h5
  have h6 : DataW.trod enc Tryz.prog W base spare held k 29 (([c0, c1, c2, c3, c4, c5, c6, c7, c8, c9, c10, c11, c12, c13, c14, c15].drop 6).take (Tryz.prog.cellsOf 29)) = xs[6]? := hg 6 _ rfl
  rw [cellsOf29] at h6
  have h7 : DataW.trod enc Tryz.prog W base spare held k 33 (([c0, c1, c2, c3, c4, c5, c6, c7, c8, c9, c10, c11, c12, c13, c14, c15].drop 7).take (Tryz.prog.cellsOf 33)) = xs[7]? := hg 7 _ rfl
  rw [cellsOf33] at h7
  match xs, hxl with
  | [x0, x1, x2, x3, x4, x5, x6, x7], _ =>
   replace h0 : DataW.trod enc Tryz.prog W base spare held k 9 [c0] = some x0 := by simpa using h0
   obtain ⟨tx, e0, _, _⟩ := DataW.trod_string Tryz.underlying9 h0
   simp at e0
   subst_vars
   replace h1 : DataW.trod enc Tryz.prog W base spare held k 3 [c1] = some x1 := by simpa using h1
   obtain ⟨cn, e1, _, w1⟩ := DataW.trod_int Tryz.underlying3 h1
   have b1 := bounds_i64 w1
   simp at e1
   subst_vars
   replace h2 : DataW.trod enc Tryz.prog W base spare held k 3 [c2] = some x2 := by simpa using h2
   obtain ⟨tg, e2, _, w2⟩ := DataW.trod_int Tryz.underlying3 h2
   have b2 := bounds_i64 w2
   simp at e2
   subst_vars
   replace h3 : DataW.trod enc Tryz.prog W base spare held k 4 [c3] = some x3 := by simpa using h3
   obtain ⟨th, e3, _⟩ := DataW.trod_bool Tryz.underlying4 h3
   simp at e3
   subst_vars
   replace h4 : DataW.trod enc Tryz.prog W base spare held k 9 [c4] = some x4 := by simpa using h4
   obtain ⟨via, e4, _, _⟩ := DataW.trod_string Tryz.underlying9 h4
   simp at e4
   subst_vars
   replace h5 : DataW.trod enc Tryz.prog W base spare held k 29 [c5] = some x5 := by simpa using h5
   obtain ⟨oa, la, ca, e5⟩ := slice_of_trod Tryz.underlying29 h5
   simp at e5
   subst_vars
   replace h6 : DataW.trod enc Tryz.prog W base spare held k 29 [c6] = some x6 := by simpa using h6
   obtain ⟨od, ld, cd, e6⟩ := slice_of_trod Tryz.underlying29 h6
   simp at e6
   subst_vars
   replace h7 : DataW.trod enc Tryz.prog W base spare held k 33 [c7, c8, c9, c10, c11, c12, c13, c14, c15] = some x7 := by simpa using h7
   obtain ⟨ou, ok, lu, cu, lk, ck, i1, i2, i3, i4, i5, i6, i7, e7⟩ := levels_of_trod h7
   simp only [List.cons.injEq, and_true] at e7
   obtain ⟨rfl, rfl, rfl, rfl, rfl, rfl, rfl, rfl, rfl⟩ := e7
   exact ⟨_, _, _, _, _, _, _, _, _, _, _, _, _, _, _, _, _, _, _, _, _, _, _, _, rfl, b1⟩
set_option maxRecDepth 100000 in
theorem act_of_trod {fuel : Nat} {cs : List Value} {y : DataW H × List MemPlace} (h : DataW.trod enc Tryz.prog W base spare held fuel 37 cs = some y) : ∃ (wd : ByteArray) (nv : Value) (n : Int) (tx : ByteArray) (cn tg : Int) (th : Bool) (via : ByteArray) (oa od ou ok : Option Addr) (la ca ld cd lu cu lk ck : Nat) (i1 i2 i3 i4 i5 i6 i7 : Int), cs = [.string wd, nv, .int .i64 n, .string tx, .int .i64 cn, .int .i64 tg, .bool th, .string via, .slice oa la ca, .slice od ld cd, .slice ou lu cu, .slice ok lk ck, .int .i64 i1, .int .i64 i2, .int .i64 i3, .int .i64 i4, .int .i64 i5, .int .i64 i6, .int .i64 i7] ∧ (∃ xs, Strs W nv xs) ∧ (-9223372036854775808 ≤ n ∧ n ≤ 9223372036854775807) ∧ (-9223372036854775808 ≤ cn ∧ cn ≤ 9223372036854775807) := by
 obtain ⟨xs, k, _, _, hlen, hxl, hg⟩ := DataW.trod_struct Tryz.underlying37 h
 rw [cellsOf37] at hlen
 match cs, hlen with
 | [c0, c1, c2, c3, c4, c5, c6, c7, c8, c9, c10, c11, c12, c13, c14, c15, c16, c17, c18], _ =>
  have h0 : DataW.trod enc Tryz.prog W base spare held k 9 (([c0, c1, c2, c3, c4, c5, c6, c7, c8, c9, c10, c11, c12, c13, c14, c15, c16, c17, c18].drop 0).take (Tryz.prog.cellsOf 9)) = xs[0]? := hg 0 _ rfl
  rw [cellsOf9] at h0
  have h1 : DataW.trod enc Tryz.prog W base spare held k 29 (([c0, c1, c2, c3, c4, c5, c6, c7, c8, c9, c10, c11, c12, c13, c14, c15, c16, c17, c18].drop 1).take (Tryz.prog.cellsOf 29)) = xs[1]? := hg 1 _ rfl
  rw [cellsOf29] at h1
  have h2 : DataW.trod enc Tryz.prog W base spare held k 3 (([c0, c1, c2, c3, c4, c5, c6, c7, c8, c9, c10, c11, c12, c13, c14, c15, c16, c17, c18].drop 2).take (Tryz.prog.cellsOf 3)) = xs[2]? := hg 2 _ rfl
  rw [cellsOf3] at h2
  have h3 : DataW.trod enc Tryz.prog W base spare held k 35 (([c0, c1, c2, c3, c4, c5, c6, c7, c8, c9, c10, c11, c12, c13, c14, c15, c16, c17, c18].drop 3).take (Tryz.prog.cellsOf 35)) = xs[3]? := hg 3 _ rfl
  rw [cellsOf35] at h3
  match xs, hxl with
  | [x0, x1, x2, x3], _ =>
   replace h0 : DataW.trod enc Tryz.prog W base spare held k 9 [c0] = some x0 := by simpa using h0
   obtain ⟨wd, e0, _, _⟩ := DataW.trod_string Tryz.underlying9 h0
   simp at e0
   subst_vars
   replace h1 : DataW.trod enc Tryz.prog W base spare held k 29 [c1] = some x1 := by simpa using h1
   obtain ⟨nv, e1, xs, k1⟩ := names_of_trod h1
   simp at e1
   subst_vars
   replace h2 : DataW.trod enc Tryz.prog W base spare held k 3 [c2] = some x2 := by simpa using h2
   obtain ⟨n, e2, _, w2⟩ := DataW.trod_int Tryz.underlying3 h2
   have b2 := bounds_i64 w2
   simp at e2
   subst_vars
   replace h3 : DataW.trod enc Tryz.prog W base spare held k 35 [c3, c4, c5, c6, c7, c8, c9, c10, c11, c12, c13, c14, c15, c16, c17, c18] = some x3 := by simpa using h3
   obtain ⟨tx, cn, tg, th, via, oa, od, ou, ok, la, ca, ld, cd, lu, cu, lk, ck, i1, i2, i3, i4, i5, i6, i7, e3, k3⟩ := content_of_trod h3
   simp only [List.cons.injEq, and_true] at e3
   obtain ⟨rfl, rfl, rfl, rfl, rfl, rfl, rfl, rfl, rfl, rfl, rfl, rfl, rfl, rfl, rfl, rfl⟩ := e3
   exact ⟨_, _, _, _, _, _, _, _, _, _, _, _, _, _, _, _, _, _, _, _, _, _, _, _, _, _, _, rfl, ⟨_, k1⟩, b2, k3⟩
end
end Go.Proofs.R50.Tr
end
