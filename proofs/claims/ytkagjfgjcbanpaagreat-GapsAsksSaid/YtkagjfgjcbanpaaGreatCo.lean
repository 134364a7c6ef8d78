/- What the argument of the law reads as: a room. -/
import Derived.Test.YtkagjfgjcbanpaaGreatCd
import Derived.Deep.Slices
import Derived.Deep.Fields
import Derived.SliceStrings
import Derived.ChangeOld
import Derived.ShutString
import Derived.Lib.SmallJoins

section
namespace Go.Proofs.R29
open Go.Deep Go.Joins Go.ChangeShapes Go.WideShapes Go.ChangeAt Go.RowKit


theorem cellsOf3 : Tryz.prog.cellsOf 3 = 1 := by kernel_rfl
theorem cellsOf4 : Tryz.prog.cellsOf 4 = 1 := by kernel_rfl
theorem cellsOf9 : Tryz.prog.cellsOf 9 = 1 := by kernel_rfl
theorem cellsOf128 : Tryz.prog.cellsOf 128 = 2 := by kernel_rfl
theorem cellsOf181 : Tryz.prog.cellsOf 181 = 2 := by kernel_rfl
theorem cellsOf24 : Tryz.prog.cellsOf 24 = 1 := by kernel_rfl
theorem cellsOf68 : Tryz.prog.cellsOf 68 = 1 := by kernel_rfl
theorem cellsOf69 : Tryz.prog.cellsOf 69 = 1 := by kernel_rfl
theorem cellsOf70 : Tryz.prog.cellsOf 70 = 1 := by kernel_rfl
theorem cellsOf72 : Tryz.prog.cellsOf 72 = 9 := by kernel_rfl
theorem cellsOf74 : Tryz.prog.cellsOf 74 = 16 := by kernel_rfl
theorem cellsOf78 : Tryz.prog.cellsOf 78 = 29 := by kernel_rfl
theorem cellsOf57 : Tryz.prog.cellsOf 57 = 1 := by kernel_rfl
theorem cellsOf76 : Tryz.prog.cellsOf 76 = 2 := by kernel_rfl
theorem cellsOf22 : Tryz.prog.cellsOf 22 = 1 := by kernel_rfl
theorem cellsOf23 : Tryz.prog.cellsOf 23 = 1 := by kernel_rfl
theorem cellsOf26 : Tryz.prog.cellsOf 26 = 1 := by kernel_rfl
theorem cellsOf27 : Tryz.prog.cellsOf 27 = 1 := by kernel_rfl
theorem cellsOf28 : Tryz.prog.cellsOf 28 = 1 := by kernel_rfl
theorem cellsOf59 : Tryz.prog.cellsOf 59 = 3 := by kernel_rfl
theorem cellsOf61 : Tryz.prog.cellsOf 61 = 4 := by kernel_rfl
theorem cellsOf63 : Tryz.prog.cellsOf 63 = 2 := by kernel_rfl
theorem cellsOf105 : Tryz.prog.cellsOf 105 = 4 := by kernel_rfl
theorem cellsOf30 : Tryz.prog.cellsOf 30 = 9 := by kernel_rfl
theorem flatten_at3 {size : Nat} : ∀ (es : List (List Value)) (j : Nat) (u : Value), (∀ c ∈ es, c.length = size) → es.flatten[j]? = some u → ∃ i r c, es[i]? = some c ∧ r < size ∧ j = i * size + r ∧ c[r]? = some u
  | [], j, u, _, h => by simp at h
  | c :: es, j, u, hl, h => by
    have hc := hl c (List.mem_cons_self ..)
    rw [List.flatten_cons] at h
    by_cases hj : j < c.length
    · rw [List.getElem?_append_left hj] at h
      exact ⟨0, j, c, rfl, by omega, by omega, h⟩
    · rw [List.getElem?_append_right (by omega)] at h
      obtain ⟨i, r, c', h1, h2, h3, h4⟩ := flatten_at3 es (j - c.length) u (fun x hx => hl x (List.mem_cons_of_mem _ hx)) h
      exact ⟨i + 1, r, c', by simpa using h1, h2, by rw [Nat.add_mul]; omega, h4⟩
theorem flatMap_one {α : Type} (g : α → Value) : ∀ xs : List α, xs.flatMap (fun n => [g n]) = xs.map g
  | [] => rfl
  | x :: xs => by rw [List.flatMap_cons, flatMap_one g xs]; rfl
theorem flatten_map {α : Type} (g : α → List Value) : ∀ es : List (List Value), (∀ c ∈ es, ∃ x : α, c = g x) → ∃ xs : List α, es.flatten = xs.flatMap g ∧ xs.length = es.length
  | [], _ => ⟨[], rfl, rfl⟩
  | c :: es, h => by
    obtain ⟨x, rfl⟩ := h c (List.mem_cons_self ..)
    obtain ⟨xs, h1, h2⟩ := flatten_map g es fun x hx => h x (List.mem_cons_of_mem _ hx)
    exact ⟨x :: xs, by simp [h1], by simp [h2]⟩

section
variable {H : Type} {enc : TypeId × Value → H} {W : World} {base : Nat} {spare : Nat → Bool} {held : Bool}
/-- A slice that reads as data: a row of elements. -/
theorem row_of_trod {P : Program} {t e size fuel : Nat} {cs : List Value} {y : DataW H × List MemPlace} (ht : P.underlying t = some (.slice e)) (hs : P.cellsOf e = size) (hpos : 0 < size) (p : List Value → Prop)
    (hp : ∀ n cs' y', DataW.trod enc P W base spare held n e cs' = some y' → cs'.length = size → p cs') (h : DataW.trod enc P W base spare held fuel t cs = some y) :
    ∃ v, cs = [v] ∧ ∃ es : List (List Value), Row W v size es.length es.flatten ∧ ∀ c ∈ es, p c ∧ c.length = size := by
  rcases open_slice ht h with ⟨hcs, _⟩ | ⟨a, l, c, m, n, D, Pl, hcs, hb, hl, hm, hmm, hx, hi⟩
  · exact ⟨_, hcs, [], Row.nil, fun c hc => by cases hc⟩
  · have hlm : l ≤ m := by rw [hmm]; split <;> omega
    have each : ∀ i, i < l → ∃ c' : List Value, W.cells? base (a.add (i * size)) size = some c' ∧ p c' ∧ c'.length = size := fun i hil => by
      obtain ⟨c', h1, h2⟩ := hi i (by omega)
      rw [hs] at h1
      obtain ⟨_, h3, _⟩ := World.cells?_some h1
      exact ⟨c', h1, hp _ _ _ h2 h3, h3⟩
    obtain ⟨f, hf⟩ := choose_lt each
    have hall : ∀ c ∈ (List.range l).map f, c.length = size := fun c hc => by
      obtain ⟨i, hi', rfl⟩ := List.mem_map.1 hc
      exact (hf i (List.mem_range.1 hi')).2.2
    refine ⟨_, hcs, (List.range l).map f, ⟨some a, c, by simp, by simpa using hl, by simpa [maxLen] using hm, ?_, fun hp0 => ?_⟩, fun c hc => ?_⟩
    · have : ∀ es : List (List Value), (∀ c ∈ es, c.length = size) → es.flatten.length = es.length * size := by
        intro es
        induction es with
        | nil => intro _; simp
        | cons c es ih =>
          intro h
          rw [List.flatten_cons, List.length_append, ih fun x hx => h x (List.mem_cons_of_mem _ hx), h c (List.mem_cons_self ..), List.length_cons, Nat.add_mul]
          omega
      exact this _ hall
    · have hl0 : 0 < l := by simpa using hp0
      obtain ⟨_, hlen, hc⟩ := World.cells?_some (hf 0 hl0).1
      obtain ⟨b, off, spot⟩ := a
      have h0 := hc 0 (by omega)
      have hf0 := (hf 0 hl0).2.2
      rw [List.getElem?_eq_getElem (by omega)] at h0
      have hspot : spot = none := by
        have := World.cell?_spot h0
        simpa [Addr.add] using this
      subst hspot
      refine ⟨b, off, rfl, ?_, fun j u hu => ?_⟩
      · rw [add_add] at h0
        rw [Go.WideShapes.add_plain] at h0
        exact block_lt_of_cell h0
      · obtain ⟨i, r, c', h1, h2, h3, h4⟩ := flatten_at3 _ j u hall hu
        have hil : i < l := by
          have := (List.getElem?_eq_some_iff.1 h1).1
          simpa using this
        have : c' = f i := by simpa [hil] using h1.symm
        subst this
        obtain ⟨_, hlen', hc'⟩ := World.cells?_some (hf i hil).1
        have h5 := hc' r (by omega)
        rw [add_add, Go.WideShapes.add_plain] at h5
        rw [h3, h5]
        have := List.getElem?_eq_getElem (l := f i) (i := r) (by omega)
        rw [this] at h4
        simpa [List.getD, this] using h4
    · obtain ⟨i, hi', rfl⟩ := List.mem_map.1 hc
      exact (hf i (List.mem_range.1 hi')).2

theorem ints_of_trod {fuel : Nat} {cs : List Value} {y : DataW H × List MemPlace} (h : DataW.trod enc Tryz.prog W base spare held fuel 24 cs = some y) : ∃ v, cs = [v] ∧ IntsOK W v := by
  obtain ⟨v, hv, es, hr, hp⟩ := row_of_trod Tryz.underlying24 cellsOf3 (by omega) (fun c => ∃ n : Int, c = [.int .i64 n]) (fun n cs' y' h _ => by obtain ⟨n, e, _⟩ := DataW.trod_int Tryz.underlying3 h; exact ⟨n, e⟩) h
  obtain ⟨xs, h1, h2⟩ := flatten_map (fun n : Int => [.int .i64 n]) es fun c hc => (hp c hc).1
  exact ⟨v, hv, es.length, xs, by rw [h1, flatMap_one] at hr; exact hr⟩
theorem texts_of_trod {fuel : Nat} {cs : List Value} {y : DataW H × List MemPlace} (h : DataW.trod enc Tryz.prog W base spare held fuel 68 cs = some y) : ∃ v, cs = [v] ∧ TextsOK W v := by
  obtain ⟨v, hv, es, hr, hp⟩ := row_of_trod Tryz.underlying68 cellsOf9 (by omega) (fun c => ∃ n : ByteArray, c = [.string n]) (fun n cs' y' h _ => by obtain ⟨n, e, _⟩ := DataW.trod_string Tryz.underlying9 h; exact ⟨n, e⟩) h
  obtain ⟨xs, h1, h2⟩ := flatten_map (fun n : ByteArray => [.string n]) es fun c hc => (hp c hc).1
  exact ⟨v, hv, es.length, xs, by rw [h1, flatMap_one] at hr; exact hr⟩
set_option maxRecDepth 100000 in
theorem level_of_trod {fuel : Nat} {cs : List Value} {y : DataW H × List MemPlace} (h : DataW.trod enc Tryz.prog W base spare held fuel 128 cs = some y) : ∃ p : ByteArray × Int, cs = [.string p.1, .int .i64 p.2] := by
  obtain ⟨xs, k, _, _, hlen, hxl, hg⟩ := DataW.trod_struct Tryz.underlying128 h
  rw [cellsOf128] at hlen
  match cs, hlen with
  | [c0, c1], _ =>
    have h0 : DataW.trod enc Tryz.prog W base spare held k 9 (([c0, c1].drop 0).take (Tryz.prog.cellsOf 9)) = xs[0]? := hg 0 _ rfl
    have h1 : DataW.trod enc Tryz.prog W base spare held k 3 (([c0, c1].drop 1).take (Tryz.prog.cellsOf 3)) = xs[1]? := hg 1 _ rfl
    rw [cellsOf9] at h0
    rw [cellsOf3] at h1
    match xs, hxl with
    | [x0, x1], _ =>
      simp at h0 h1
      obtain ⟨a, e0, _⟩ := DataW.trod_string Tryz.underlying9 h0
      obtain ⟨b, e1, _⟩ := DataW.trod_int Tryz.underlying3 h1
      simp at e0 e1
      subst e0 e1
      exact ⟨(a, b), rfl⟩
set_option maxRecDepth 100000 in
theorem kind_of_trod {fuel : Nat} {cs : List Value} {y : DataW H × List MemPlace} (h : DataW.trod enc Tryz.prog W base spare held fuel 181 cs = some y) : ∃ p : Int × Int, cs = [.int .i64 p.1, .int .i64 p.2] := by
  obtain ⟨xs, k, _, _, hlen, hxl, hg⟩ := DataW.trod_struct Tryz.underlying181 h
  rw [cellsOf181] at hlen
  match cs, hlen with
  | [c0, c1], _ =>
    have h0 : DataW.trod enc Tryz.prog W base spare held k 57 (([c0, c1].drop 0).take (Tryz.prog.cellsOf 57)) = xs[0]? := hg 0 _ rfl
    have h1 : DataW.trod enc Tryz.prog W base spare held k 3 (([c0, c1].drop 1).take (Tryz.prog.cellsOf 3)) = xs[1]? := hg 1 _ rfl
    rw [cellsOf57] at h0
    rw [cellsOf3] at h1
    match xs, hxl with
    | [x0, x1], _ =>
      simp at h0 h1
      obtain ⟨a, e0, _⟩ := DataW.trod_int Tryz.underlying57 h0
      obtain ⟨b, e1, _⟩ := DataW.trod_int Tryz.underlying3 h1
      simp at e0 e1
      subst e0 e1
      exact ⟨(a, b), rfl⟩
theorem users_of_trod {fuel : Nat} {cs : List Value} {y : DataW H × List MemPlace} (h : DataW.trod enc Tryz.prog W base spare held fuel 69 cs = some y) : ∃ v, cs = [v] ∧ UsersOK W v := by
  obtain ⟨v, hv, es, hr, hp⟩ := row_of_trod Tryz.underlying69 cellsOf128 (by omega) (fun c => ∃ p : ByteArray × Int, c = [.string p.1, .int .i64 p.2]) (fun n cs' y' h _ => level_of_trod h) h
  obtain ⟨xs, h1, h2⟩ := flatten_map (fun p : ByteArray × Int => [.string p.1, .int .i64 p.2]) es fun c hc => (hp c hc).1
  exact ⟨v, hv, es.length, xs, by rw [h1] at hr; exact hr⟩
theorem kinds_of_trod {fuel : Nat} {cs : List Value} {y : DataW H × List MemPlace} (h : DataW.trod enc Tryz.prog W base spare held fuel 70 cs = some y) : ∃ v, cs = [v] ∧ KindsOK W v := by
  obtain ⟨v, hv, es, hr, hp⟩ := row_of_trod Tryz.underlying70 cellsOf181 (by omega) (fun c => ∃ p : Int × Int, c = [.int .i64 p.1, .int .i64 p.2]) (fun n cs' y' h _ => kind_of_trod h) h
  obtain ⟨xs, h1, h2⟩ := flatten_map (fun p : Int × Int => [.int .i64 p.1, .int .i64 p.2]) es fun c hc => (hp c hc).1
  exact ⟨v, hv, es.length, xs, by rw [h1] at hr; exact hr⟩
set_option maxRecDepth 100000 in
theorem levels_of_trod {fuel : Nat} {cs : List Value} {y : DataW H × List MemPlace} (h : DataW.trod enc Tryz.prog W base spare held fuel 72 cs = some y) : ∃ (uv kv : Value) (i1 i2 i3 i4 i5 i6 i7 : Int), cs = [uv, kv, .int .i64 i1, .int .i64 i2, .int .i64 i3, .int .i64 i4, .int .i64 i5, .int .i64 i6, .int .i64 i7] ∧ UsersOK W uv ∧ KindsOK W kv := by
  obtain ⟨xs, k, _, _, hlen, hxl, hg⟩ := DataW.trod_struct Tryz.underlying72 h
  rw [cellsOf72] at hlen
  match cs, hlen with
  | [c0, c1, c2, c3, c4, c5, c6, c7, c8], _ =>
    have h0 : DataW.trod enc Tryz.prog W base spare held k 69 (([c0, c1, c2, c3, c4, c5, c6, c7, c8].drop 0).take (Tryz.prog.cellsOf 69)) = xs[0]? := hg 0 _ rfl
    rw [cellsOf69] at h0
    have h1 : DataW.trod enc Tryz.prog W base spare held k 70 (([c0, c1, c2, c3, c4, c5, c6, c7, c8].drop 1).take (Tryz.prog.cellsOf 70)) = xs[1]? := hg 1 _ rfl
    rw [cellsOf70] at h1
    have h2 : DataW.trod enc Tryz.prog W base spare held k 3 (([c0, c1, c2, c3, c4, c5, c6, c7, c8].drop 2).take (Tryz.prog.cellsOf 3)) = xs[2]? := hg 2 _ rfl
    rw [cellsOf3] at h2
    have h3 : DataW.trod enc Tryz.prog W base spare held k 3 (([c0, c1, c2, c3, c4, c5, c6, c7, c8].drop 3).take (Tryz.prog.cellsOf 3)) = xs[3]? := hg 3 _ rfl
    rw [cellsOf3] at h3
    have h4 : DataW.trod enc Tryz.prog W base spare held k 3 (([c0, c1, c2, c3, c4, c5, c6, c7, c8].drop 4).take (Tryz.prog.cellsOf 3)) = xs[4]? := hg 4 _ rfl
    rw [cellsOf3] at h4
    have h5 : DataW.trod enc Tryz.prog W base spare held k 3 (([c0, c1, c2, c3, c4, c5, c6, c7, c8].drop 5).take (Tryz.prog.cellsOf 3)) = xs[5]? := hg 5 _ rfl
    rw [cellsOf3] at h5
    have h6 : DataW.trod enc Tryz.prog W base spare held k 3 (([c0, c1, c2, c3, c4, c5, c6, c7, c8].drop 6).take (Tryz.prog.cellsOf 3)) = xs[6]? := hg 6 _ rfl
    rw [cellsOf3] at h6
    have h7 : DataW.trod enc Tryz.prog W base spare held k 3 (([c0, c1, c2, c3, c4, c5, c6, c7, c8].drop 7).take (Tryz.prog.cellsOf 3)) = xs[7]? := hg 7 _ rfl
    rw [cellsOf3] at h7
    have h8 : DataW.trod enc Tryz.prog W base spare held k 3 (([c0, c1, c2, c3, c4, c5, c6, c7, c8].drop 8).take (Tryz.prog.cellsOf 3)) = xs[8]? := hg 8 _ rfl
    rw [cellsOf3] at h8
    match xs, hxl with
    | [x0, x1, x2, x3, x4, x5, x6, x7, x8], _ =>
      replace h0 : DataW.trod enc Tryz.prog W base spare held k 69 [c0] = some x0 := by simpa using h0
      obtain ⟨uv, e0, k0⟩ := users_of_trod h0
      simp at e0
      subst_vars
      replace h1 : DataW.trod enc Tryz.prog W base spare held k 70 [c1] = some x1 := by simpa using h1
      obtain ⟨kv, e1, k1⟩ := kinds_of_trod h1
      simp at e1
      subst_vars
      replace h2 : DataW.trod enc Tryz.prog W base spare held k 3 [c2] = some x2 := by simpa using h2
      obtain ⟨i1, e2, _, w2⟩ := DataW.trod_int Tryz.underlying3 h2
      have b2 := bounds_i64 w2
      simp at e2
      subst_vars
      replace h3 : DataW.trod enc Tryz.prog W base spare held k 3 [c3] = some x3 := by simpa using h3
      obtain ⟨i2, e3, _, w3⟩ := DataW.trod_int Tryz.underlying3 h3
      have b3 := bounds_i64 w3
      simp at e3
      subst_vars
      replace h4 : DataW.trod enc Tryz.prog W base spare held k 3 [c4] = some x4 := by simpa using h4
      obtain ⟨i3, e4, _, w4⟩ := DataW.trod_int Tryz.underlying3 h4
      have b4 := bounds_i64 w4
      simp at e4
      subst_vars
      replace h5 : DataW.trod enc Tryz.prog W base spare held k 3 [c5] = some x5 := by simpa using h5
      obtain ⟨i4, e5, _, w5⟩ := DataW.trod_int Tryz.underlying3 h5
      have b5 := bounds_i64 w5
      simp at e5
      subst_vars
      replace h6 : DataW.trod enc Tryz.prog W base spare held k 3 [c6] = some x6 := by simpa using h6
      obtain ⟨i5, e6, _, w6⟩ := DataW.trod_int Tryz.underlying3 h6
      have b6 := bounds_i64 w6
      simp at e6
      subst_vars
      replace h7 : DataW.trod enc Tryz.prog W base spare held k 3 [c7] = some x7 := by simpa using h7
      obtain ⟨i6, e7, _, w7⟩ := DataW.trod_int Tryz.underlying3 h7
      have b7 := bounds_i64 w7
      simp at e7
      subst_vars
      replace h8 : DataW.trod enc Tryz.prog W base spare held k 3 [c8] = some x8 := by simpa using h8
      obtain ⟨i7, e8, _, w8⟩ := DataW.trod_int Tryz.underlying3 h8
      have b8 := bounds_i64 w8
      simp at e8
      subst_vars
      exact ⟨_, _, _, _, _, _, _, _, _, rfl, k0, k1⟩
set_option maxRecDepth 100000 in
theorem content_of_trod {fuel : Nat} {cs : List Value} {y : DataW H × List MemPlace} (h : DataW.trod enc Tryz.prog W base spare held fuel 74 cs = some y) : ∃ (text : ByteArray) (n tg : Int) (th : Bool) (via : ByteArray) (alv dnv uv kv : Value) (i1 i2 i3 i4 i5 i6 i7 : Int), cs = [.string text, .int .i64 n, .int .i64 tg, .bool th, .string via, alv, dnv, uv, kv, .int .i64 i1, .int .i64 i2, .int .i64 i3, .int .i64 i4, .int .i64 i5, .int .i64 i6, .int .i64 i7] ∧ TextsOK W alv ∧ TextsOK W dnv ∧ UsersOK W uv ∧ KindsOK W kv := by
  obtain ⟨xs, k, _, _, hlen, hxl, hg⟩ := DataW.trod_struct Tryz.underlying74 h
  rw [cellsOf74] at hlen
  match cs, hlen with
  | [c0, c1, c2, c3, c4, c5, c6, c7, c8, c9, c10, c11, c12, c13, c14, c15], _ =>
    have h0 : DataW.trod enc Tryz.prog W base spare held k 9 (([c0, c1, c2, c3, c4, c5, c6, c7, c8, c9, c10, c11, c12, c13, c14, c15].drop 0).take (Tryz.prog.cellsOf 9)) = xs[0]? := hg 0 _ rfl
    rw [cellsOf9] at h0
    have h1 : DataW.trod enc Tryz.prog W base spare held k 3 (([c0, c1, c2, c3, c4, c5, c6, c7, c8, c9, c10, c11, c12, c13, c14, c15].drop 1).take (Tryz.prog.cellsOf 3)) = xs[1]? := hg 1 _ rfl
    rw [cellsOf3] at h1
    have h2 : DataW.trod enc Tryz.prog W base spare held k 3 (([c0, c1, c2, c3, c4, c5, c6, c7, c8, c9, c10, c11, c12, c13, c14, c15].drop 2).take (Tryz.prog.cellsOf 3)) = xs[2]? := hg 2 _ rfl
    rw [cellsOf3] at h2
    have h3 : DataW.trod enc Tryz.prog W base spare held k 4 (([c0, c1, c2, c3, c4, c5, c6, c7, c8, c9, c10, c11, c12, c13, c14, c15].drop 3).take (Tryz.prog.cellsOf 4)) = xs[3]? := hg 3 _ rfl
    rw [cellsOf4] at h3
    have h4 : DataW.trod enc Tryz.prog W base spare held k 9 (([c0, c1, c2, c3, c4, c5, c6, c7, c8, c9, c10, c11, c12, c13, c14, c15].drop 4).take (Tryz.prog.cellsOf 9)) = xs[4]? := hg 4 _ rfl
    rw [cellsOf9] at h4
    have h5 : DataW.trod enc Tryz.prog W base spare held k 68 (([c0, c1, c2, c3, c4, c5, c6, c7, c8, c9, c10, c11, c12, c13, c14, c15].drop 5).take (Tryz.prog.cellsOf 68)) = xs[5]? := hg 5 _ rfl
    rw [cellsOf68] at h5
    have h6 : DataW.trod enc Tryz.prog W base spare held k 68 (([c0, c1, c2, c3, c4, c5, c6, c7, c8, c9, c10, c11, c12, c13, c14, c15].drop 6).take (Tryz.prog.cellsOf 68)) = xs[6]? := hg 6 _ rfl
    rw [cellsOf68] at h6
    have h7 : DataW.trod enc Tryz.prog W base spare held k 72 (([c0, c1, c2, c3, c4, c5, c6, c7, c8, c9, c10, c11, c12, c13, c14, c15].drop 7).take (Tryz.prog.cellsOf 72)) = xs[7]? := hg 7 _ rfl
    rw [cellsOf72] at h7
    match xs, hxl with
    | [x0, x1, x2, x3, x4, x5, x6, x7], _ =>
      replace h0 : DataW.trod enc Tryz.prog W base spare held k 9 [c0] = some x0 := by simpa using h0
      obtain ⟨text, e0, _, w0⟩ := DataW.trod_string Tryz.underlying9 h0
      simp at e0
      subst_vars
      replace h1 : DataW.trod enc Tryz.prog W base spare held k 3 [c1] = some x1 := by simpa using h1
      obtain ⟨n, e1, _, w1⟩ := DataW.trod_int Tryz.underlying3 h1
      have b1 := bounds_i64 w1
      simp at e1
      subst_vars
      replace h2 : DataW.trod enc Tryz.prog W base spare held k 3 [c2] = some x2 := by simpa using h2
      obtain ⟨tg, e2, _, w2⟩ := DataW.trod_int Tryz.underlying3 h2
      have b2 := bounds_i64 w2
      simp at e2
      subst_vars
      replace h3 : DataW.trod enc Tryz.prog W base spare held k 4 [c3] = some x3 := by simpa using h3
      obtain ⟨th, e3, _⟩ := DataW.trod_bool Tryz.underlying4 h3
      simp at e3
      subst_vars
      replace h4 : DataW.trod enc Tryz.prog W base spare held k 9 [c4] = some x4 := by simpa using h4
      obtain ⟨via, e4, _, w4⟩ := DataW.trod_string Tryz.underlying9 h4
      simp at e4
      subst_vars
      replace h5 : DataW.trod enc Tryz.prog W base spare held k 68 [c5] = some x5 := by simpa using h5
      obtain ⟨alv, e5, k5⟩ := texts_of_trod h5
      simp at e5
      subst_vars
      replace h6 : DataW.trod enc Tryz.prog W base spare held k 68 [c6] = some x6 := by simpa using h6
      obtain ⟨dnv, e6, k6⟩ := texts_of_trod h6
      simp at e6
      subst_vars
      replace h7 : DataW.trod enc Tryz.prog W base spare held k 72 [c7, c8, c9, c10, c11, c12, c13, c14, c15] = some x7 := by simpa using h7
      obtain ⟨uv, kv, i1, i2, i3, i4, i5, i6, i7, e7, hu, hk⟩ := levels_of_trod h7
      simp only [List.cons.injEq, and_true] at e7
      obtain ⟨rfl, rfl, rfl, rfl, rfl, rfl, rfl, rfl, rfl⟩ := e7
      exact ⟨_, _, _, _, _, _, _, _, _, _, _, _, _, _, _, _, rfl, k5, k6, hu, hk⟩
set_option maxRecDepth 100000 in
theorem sig_of_trod {fuel : Nat} {cs : List Value} {y : DataW H × List MemPlace} (h : DataW.trod enc Tryz.prog W base spare held fuel 76 cs = some y) : ∃ p : ByteArray × Int, cs = [.string p.1, .int .i64 p.2] := by
  obtain ⟨xs, k, _, _, hlen, hxl, hg⟩ := DataW.trod_struct Tryz.underlying76 h
  rw [cellsOf76] at hlen
  match cs, hlen with
  | [c0, c1], _ =>
    have h0 : DataW.trod enc Tryz.prog W base spare held k 9 (([c0, c1].drop 0).take (Tryz.prog.cellsOf 9)) = xs[0]? := hg 0 _ rfl
    have h1 : DataW.trod enc Tryz.prog W base spare held k 3 (([c0, c1].drop 1).take (Tryz.prog.cellsOf 3)) = xs[1]? := hg 1 _ rfl
    rw [cellsOf9] at h0
    rw [cellsOf3] at h1
    match xs, hxl with
    | [x0, x1], _ =>
      simp at h0 h1
      obtain ⟨a, e0, _⟩ := DataW.trod_string Tryz.underlying9 h0
      obtain ⟨b, e1, _⟩ := DataW.trod_int Tryz.underlying3 h1
      simp at e0 e1
      subst e0 e1
      exact ⟨(a, b), rfl⟩
set_option maxRecDepth 100000 in
theorem event_of_trod {fuel : Nat} {cs : List Value} {y : DataW H × List MemPlace} (h : DataW.trod enc Tryz.prog W base spare held fuel 78 cs = some y) : EvOK W cs := by
  obtain ⟨xs, k, _, _, hlen, hxl, hg⟩ := DataW.trod_struct Tryz.underlying78 h
  rw [cellsOf78] at hlen
  match cs, hlen with
  | [c0, c1, c2, c3, c4, c5, c6, c7, c8, c9, c10, c11, c12, c13, c14, c15, c16, c17, c18, c19, c20, c21, c22, c23, c24, c25, c26, c27, c28], _ =>
    have h0 : DataW.trod enc Tryz.prog W base spare held k 3 (([c0, c1, c2, c3, c4, c5, c6, c7, c8, c9, c10, c11, c12, c13, c14, c15, c16, c17, c18, c19, c20, c21, c22, c23, c24, c25, c26, c27, c28].drop 0).take (Tryz.prog.cellsOf 3)) = xs[0]? := hg 0 _ rfl
    rw [cellsOf3] at h0
    have h1 : DataW.trod enc Tryz.prog W base spare held k 9 (([c0, c1, c2, c3, c4, c5, c6, c7, c8, c9, c10, c11, c12, c13, c14, c15, c16, c17, c18, c19, c20, c21, c22, c23, c24, c25, c26, c27, c28].drop 1).take (Tryz.prog.cellsOf 9)) = xs[1]? := hg 1 _ rfl
    rw [cellsOf9] at h1
    have h2 : DataW.trod enc Tryz.prog W base spare held k 9 (([c0, c1, c2, c3, c4, c5, c6, c7, c8, c9, c10, c11, c12, c13, c14, c15, c16, c17, c18, c19, c20, c21, c22, c23, c24, c25, c26, c27, c28].drop 2).take (Tryz.prog.cellsOf 9)) = xs[2]? := hg 2 _ rfl
    rw [cellsOf9] at h2
    have h3 : DataW.trod enc Tryz.prog W base spare held k 57 (([c0, c1, c2, c3, c4, c5, c6, c7, c8, c9, c10, c11, c12, c13, c14, c15, c16, c17, c18, c19, c20, c21, c22, c23, c24, c25, c26, c27, c28].drop 3).take (Tryz.prog.cellsOf 57)) = xs[3]? := hg 3 _ rfl
    rw [cellsOf57] at h3
    have h4 : DataW.trod enc Tryz.prog W base spare held k 4 (([c0, c1, c2, c3, c4, c5, c6, c7, c8, c9, c10, c11, c12, c13, c14, c15, c16, c17, c18, c19, c20, c21, c22, c23, c24, c25, c26, c27, c28].drop 4).take (Tryz.prog.cellsOf 4)) = xs[4]? := hg 4 _ rfl
    rw [cellsOf4] at h4
    have h5 : DataW.trod enc Tryz.prog W base spare held k 9 (([c0, c1, c2, c3, c4, c5, c6, c7, c8, c9, c10, c11, c12, c13, c14, c15, c16, c17, c18, c19, c20, c21, c22, c23, c24, c25, c26, c27, c28].drop 5).take (Tryz.prog.cellsOf 9)) = xs[5]? := hg 5 _ rfl
    rw [cellsOf9] at h5
    have h6 : DataW.trod enc Tryz.prog W base spare held k 3 (([c0, c1, c2, c3, c4, c5, c6, c7, c8, c9, c10, c11, c12, c13, c14, c15, c16, c17, c18, c19, c20, c21, c22, c23, c24, c25, c26, c27, c28].drop 6).take (Tryz.prog.cellsOf 3)) = xs[6]? := hg 6 _ rfl
    rw [cellsOf3] at h6
    have h7 : DataW.trod enc Tryz.prog W base spare held k 3 (([c0, c1, c2, c3, c4, c5, c6, c7, c8, c9, c10, c11, c12, c13, c14, c15, c16, c17, c18, c19, c20, c21, c22, c23, c24, c25, c26, c27, c28].drop 7).take (Tryz.prog.cellsOf 3)) = xs[7]? := hg 7 _ rfl
    rw [cellsOf3] at h7
    have h8 : DataW.trod enc Tryz.prog W base spare held k 24 (([c0, c1, c2, c3, c4, c5, c6, c7, c8, c9, c10, c11, c12, c13, c14, c15, c16, c17, c18, c19, c20, c21, c22, c23, c24, c25, c26, c27, c28].drop 8).take (Tryz.prog.cellsOf 24)) = xs[8]? := hg 8 _ rfl
    rw [cellsOf24] at h8
    have h9 : DataW.trod enc Tryz.prog W base spare held k 24 (([c0, c1, c2, c3, c4, c5, c6, c7, c8, c9, c10, c11, c12, c13, c14, c15, c16, c17, c18, c19, c20, c21, c22, c23, c24, c25, c26, c27, c28].drop 9).take (Tryz.prog.cellsOf 24)) = xs[9]? := hg 9 _ rfl
    rw [cellsOf24] at h9
    have h10 : DataW.trod enc Tryz.prog W base spare held k 74 (([c0, c1, c2, c3, c4, c5, c6, c7, c8, c9, c10, c11, c12, c13, c14, c15, c16, c17, c18, c19, c20, c21, c22, c23, c24, c25, c26, c27, c28].drop 10).take (Tryz.prog.cellsOf 74)) = xs[10]? := hg 10 _ rfl
    rw [cellsOf74] at h10
    have h11 : DataW.trod enc Tryz.prog W base spare held k 3 (([c0, c1, c2, c3, c4, c5, c6, c7, c8, c9, c10, c11, c12, c13, c14, c15, c16, c17, c18, c19, c20, c21, c22, c23, c24, c25, c26, c27, c28].drop 26).take (Tryz.prog.cellsOf 3)) = xs[11]? := hg 11 _ rfl
    rw [cellsOf3] at h11
    have h12 : DataW.trod enc Tryz.prog W base spare held k 76 (([c0, c1, c2, c3, c4, c5, c6, c7, c8, c9, c10, c11, c12, c13, c14, c15, c16, c17, c18, c19, c20, c21, c22, c23, c24, c25, c26, c27, c28].drop 27).take (Tryz.prog.cellsOf 76)) = xs[12]? := hg 12 _ rfl
    rw [cellsOf76] at h12
    match xs, hxl with
    | [x0, x1, x2, x3, x4, x5, x6, x7, x8, x9, x10, x11, x12], _ =>
      replace h0 : DataW.trod enc Tryz.prog W base spare held k 3 [c0] = some x0 := by simpa using h0
      obtain ⟨id, e0, _, w0⟩ := DataW.trod_int Tryz.underlying3 h0
      have b0 := bounds_i64 w0
      simp at e0
      subst_vars
      replace h1 : DataW.trod enc Tryz.prog W base spare held k 9 [c1] = some x1 := by simpa using h1
      obtain ⟨room, e1, _, w1⟩ := DataW.trod_string Tryz.underlying9 h1
      simp at e1
      subst_vars
      replace h2 : DataW.trod enc Tryz.prog W base spare held k 9 [c2] = some x2 := by simpa using h2
      obtain ⟨sender, e2, _, w2⟩ := DataW.trod_string Tryz.underlying9 h2
      simp at e2
      subst_vars
      replace h3 : DataW.trod enc Tryz.prog W base spare held k 57 [c3] = some x3 := by simpa using h3
      obtain ⟨kind, e3, _, w3⟩ := DataW.trod_int Tryz.underlying57 h3
      have b3 := bounds_i64 w3
      simp at e3
      subst_vars
      replace h4 : DataW.trod enc Tryz.prog W base spare held k 4 [c4] = some x4 := by simpa using h4
      obtain ⟨st, e4, _⟩ := DataW.trod_bool Tryz.underlying4 h4
      simp at e4
      subst_vars
      replace h5 : DataW.trod enc Tryz.prog W base spare held k 9 [c5] = some x5 := by simpa using h5
      obtain ⟨key, e5, _, w5⟩ := DataW.trod_string Tryz.underlying9 h5
      simp at e5
      subst_vars
      replace h6 : DataW.trod enc Tryz.prog W base spare held k 3 [c6] = some x6 := by simpa using h6
      obtain ⟨time, e6, _, w6⟩ := DataW.trod_int Tryz.underlying3 h6
      have b6 := bounds_i64 w6
      simp at e6
      subst_vars
      replace h7 : DataW.trod enc Tryz.prog W base spare held k 3 [c7] = some x7 := by simpa using h7
      obtain ⟨depth, e7, _, w7⟩ := DataW.trod_int Tryz.underlying3 h7
      have b7 := bounds_i64 w7
      simp at e7
      subst_vars
      replace h8 : DataW.trod enc Tryz.prog W base spare held k 24 [c8] = some x8 := by simpa using h8
      obtain ⟨pv, e8, k8⟩ := ints_of_trod h8
      simp at e8
      subst_vars
      replace h9 : DataW.trod enc Tryz.prog W base spare held k 24 [c9] = some x9 := by simpa using h9
      obtain ⟨av, e9, k9⟩ := ints_of_trod h9
      simp at e9
      subst_vars
      replace h10 : DataW.trod enc Tryz.prog W base spare held k 74 [c10, c11, c12, c13, c14, c15, c16, c17, c18, c19, c20, c21, c22, c23, c24, c25] = some x10 := by simpa using h10
      obtain ⟨text, n, tg, th, via, alv, dnv, uv, kv, i1, i2, i3, i4, i5, i6, i7, e10, ha, hd, hu, hk⟩ := content_of_trod h10
      simp only [List.cons.injEq, and_true] at e10
      obtain ⟨rfl, rfl, rfl, rfl, rfl, rfl, rfl, rfl, rfl, rfl, rfl, rfl, rfl, rfl, rfl, rfl⟩ := e10
      replace h11 : DataW.trod enc Tryz.prog W base spare held k 3 [c26] = some x11 := by simpa using h11
      obtain ⟨hash, e11, _, w11⟩ := DataW.trod_int Tryz.underlying3 h11
      have b11 := bounds_i64 w11
      simp at e11
      subst_vars
      replace h12 : DataW.trod enc Tryz.prog W base spare held k 76 [c27, c28] = some x12 := by simpa using h12
      obtain ⟨p, e12⟩ := sig_of_trod h12
      simp only [List.cons.injEq, and_true] at e12
      obtain ⟨rfl, rfl⟩ := e12
      exact ⟨_, _, _, _, _, _, _, _, _, _, _, _, _, _, _, _, _, _, _, _, _, _, _, _, _, _, _, _, _, rfl, k8, k9, ha, hd, hu, hk⟩
theorem evs_of_trod {fuel : Nat} {cs : List Value} {y : DataW H × List MemPlace} (h : DataW.trod enc Tryz.prog W base spare held fuel 22 cs = some y) : ∃ v, cs = [v] ∧ ∃ es, Evs W v es := by
  obtain ⟨v, hv, es, hr, hp⟩ := row_of_trod Tryz.underlying22 cellsOf78 (by omega) (EvOK W) (fun n cs' y' h _ => event_of_trod h) h
  exact ⟨v, hv, es, hr, fun c hc => (hp c hc).1⟩
set_option maxRecDepth 100000 in
theorem entry_of_trod {fuel : Nat} {cs : List Value} {y : DataW H × List MemPlace} (h : DataW.trod enc Tryz.prog W base spare held fuel 59 cs = some y) : ∃ (a : Int) (s : ByteArray) (b : Int), cs = [.int .i64 a, .string s, .int .i64 b] := by
  obtain ⟨xs, k, _, _, hlen, hxl, hg⟩ := DataW.trod_struct Tryz.underlying59 h
  rw [cellsOf59] at hlen
  match cs, hlen with
  | [c0, c1, c2], _ =>
    have h0 : DataW.trod enc Tryz.prog W base spare held k 57 (([c0, c1, c2].drop 0).take (Tryz.prog.cellsOf 57)) = xs[0]? := hg 0 _ rfl
    rw [cellsOf57] at h0
    have h1 : DataW.trod enc Tryz.prog W base spare held k 9 (([c0, c1, c2].drop 1).take (Tryz.prog.cellsOf 9)) = xs[1]? := hg 1 _ rfl
    rw [cellsOf9] at h1
    have h2 : DataW.trod enc Tryz.prog W base spare held k 3 (([c0, c1, c2].drop 2).take (Tryz.prog.cellsOf 3)) = xs[2]? := hg 2 _ rfl
    rw [cellsOf3] at h2
    match xs, hxl with
    | [x0, x1, x2], _ =>
      replace h0 : DataW.trod enc Tryz.prog W base spare held k 57 [c0] = some x0 := by simpa using h0
      obtain ⟨a, e0, _, _⟩ := DataW.trod_int Tryz.underlying57 h0
      simp at e0
      subst_vars
      replace h1 : DataW.trod enc Tryz.prog W base spare held k 9 [c1] = some x1 := by simpa using h1
      obtain ⟨s, e1, _, _⟩ := DataW.trod_string Tryz.underlying9 h1
      simp at e1
      subst_vars
      replace h2 : DataW.trod enc Tryz.prog W base spare held k 3 [c2] = some x2 := by simpa using h2
      obtain ⟨b, e2, _, _⟩ := DataW.trod_int Tryz.underlying3 h2
      simp at e2
      subst_vars
      exact ⟨_, _, _, rfl⟩
set_option maxRecDepth 100000 in
theorem receipt_of_trod {fuel : Nat} {cs : List Value} {y : DataW H × List MemPlace} (h : DataW.trod enc Tryz.prog W base spare held fuel 61 cs = some y) : ∃ (s : ByteArray) (a b c : Int), cs = [.string s, .int .i64 a, .int .i64 b, .int .i64 c] := by
  obtain ⟨xs, k, _, _, hlen, hxl, hg⟩ := DataW.trod_struct Tryz.underlying61 h
  rw [cellsOf61] at hlen
  match cs, hlen with
  | [c0, c1, c2, c3], _ =>
    have h0 : DataW.trod enc Tryz.prog W base spare held k 9 (([c0, c1, c2, c3].drop 0).take (Tryz.prog.cellsOf 9)) = xs[0]? := hg 0 _ rfl
    rw [cellsOf9] at h0
    have h1 : DataW.trod enc Tryz.prog W base spare held k 3 (([c0, c1, c2, c3].drop 1).take (Tryz.prog.cellsOf 3)) = xs[1]? := hg 1 _ rfl
    rw [cellsOf3] at h1
    have h2 : DataW.trod enc Tryz.prog W base spare held k 3 (([c0, c1, c2, c3].drop 2).take (Tryz.prog.cellsOf 3)) = xs[2]? := hg 2 _ rfl
    rw [cellsOf3] at h2
    have h3 : DataW.trod enc Tryz.prog W base spare held k 3 (([c0, c1, c2, c3].drop 3).take (Tryz.prog.cellsOf 3)) = xs[3]? := hg 3 _ rfl
    rw [cellsOf3] at h3
    match xs, hxl with
    | [x0, x1, x2, x3], _ =>
      replace h0 : DataW.trod enc Tryz.prog W base spare held k 9 [c0] = some x0 := by simpa using h0
      obtain ⟨s, e0, _, _⟩ := DataW.trod_string Tryz.underlying9 h0
      simp at e0
      subst_vars
      replace h1 : DataW.trod enc Tryz.prog W base spare held k 3 [c1] = some x1 := by simpa using h1
      obtain ⟨a, e1, _, _⟩ := DataW.trod_int Tryz.underlying3 h1
      simp at e1
      subst_vars
      replace h2 : DataW.trod enc Tryz.prog W base spare held k 3 [c2] = some x2 := by simpa using h2
      obtain ⟨b, e2, _, _⟩ := DataW.trod_int Tryz.underlying3 h2
      simp at e2
      subst_vars
      replace h3 : DataW.trod enc Tryz.prog W base spare held k 3 [c3] = some x3 := by simpa using h3
      obtain ⟨c, e3, _, _⟩ := DataW.trod_int Tryz.underlying3 h3
      simp at e3
      subst_vars
      exact ⟨_, _, _, _, rfl⟩
set_option maxRecDepth 100000 in
theorem typing_of_trod {fuel : Nat} {cs : List Value} {y : DataW H × List MemPlace} (h : DataW.trod enc Tryz.prog W base spare held fuel 63 cs = some y) : ∃ (s : ByteArray) (a : Int), cs = [.string s, .int .i64 a] := by
  obtain ⟨xs, k, _, _, hlen, hxl, hg⟩ := DataW.trod_struct Tryz.underlying63 h
  rw [cellsOf63] at hlen
  match cs, hlen with
  | [c0, c1], _ =>
    have h0 : DataW.trod enc Tryz.prog W base spare held k 9 (([c0, c1].drop 0).take (Tryz.prog.cellsOf 9)) = xs[0]? := hg 0 _ rfl
    rw [cellsOf9] at h0
    have h1 : DataW.trod enc Tryz.prog W base spare held k 3 (([c0, c1].drop 1).take (Tryz.prog.cellsOf 3)) = xs[1]? := hg 1 _ rfl
    rw [cellsOf3] at h1
    match xs, hxl with
    | [x0, x1], _ =>
      replace h0 : DataW.trod enc Tryz.prog W base spare held k 9 [c0] = some x0 := by simpa using h0
      obtain ⟨s, e0, _, _⟩ := DataW.trod_string Tryz.underlying9 h0
      simp at e0
      subst_vars
      replace h1 : DataW.trod enc Tryz.prog W base spare held k 3 [c1] = some x1 := by simpa using h1
      obtain ⟨a, e1, _, _⟩ := DataW.trod_int Tryz.underlying3 h1
      simp at e1
      subst_vars
      exact ⟨_, _, rfl⟩

theorem strcol_of_row {w : World} {v : Value} {size r : Nat} {es : List (List Value)} (h : Row w v size es.length es.flatten) (hr : r < size) (hp : ∀ c ∈ es, c.length = size ∧ ∃ s, c[r]? = some (.string s)) : ∃ ao n cap, v = .slice ao n cap ∧ StrCol w ao n size r := by
  obtain ⟨ao, cap, rfl, _, _, _, h5⟩ := h
  refine ⟨ao, _, cap, rfl, fun k hk => ?_⟩
  obtain ⟨b, off, e, hb, hc⟩ := h5 (by omega)
  have hm : es[k] ∈ es := List.getElem_mem hk
  obtain ⟨s, hs⟩ := (hp _ hm).2
  refine ⟨b, off, s, e, fun w' q => ?_⟩
  have h1 := flatten_at size es (fun c hc => (hp c hc).1) k es[k] r (by simp [hk]) hr
  rw [Nat.add_assoc]
  exact (q.cell (p := ⟨b, off + (k * size + r), none⟩) hb).trans (hc _ _ (h1.trans hs))
theorem state_of_trod {fuel : Nat} {cs : List Value} {y : DataW H × List MemPlace} (h : DataW.trod enc Tryz.prog W base spare held fuel 26 cs = some y) : ∃ v, cs = [v] ∧ ∃ ao n cap, v = .slice ao n cap ∧ StrCol W ao n 3 1 := by
  obtain ⟨v, hv, es, hr, hp⟩ := row_of_trod Tryz.underlying26 cellsOf59 (by omega) (fun c => ∃ s, c[1]? = some (.string s)) (fun n cs' y' h _ => by obtain ⟨a, s, b, rfl⟩ := entry_of_trod h; exact ⟨s, rfl⟩) h
  exact ⟨v, hv, strcol_of_row hr (by omega) fun c hc => ⟨(hp c hc).2, (hp c hc).1⟩⟩
theorem receipts_of_trod {fuel : Nat} {cs : List Value} {y : DataW H × List MemPlace} (h : DataW.trod enc Tryz.prog W base spare held fuel 27 cs = some y) : ∃ v, cs = [v] ∧ ∃ ao n cap, v = .slice ao n cap ∧ StrCol W ao n 4 0 := by
  obtain ⟨v, hv, es, hr, hp⟩ := row_of_trod Tryz.underlying27 cellsOf61 (by omega) (fun c => ∃ s, c[0]? = some (.string s)) (fun n cs' y' h _ => by obtain ⟨s, a, b, c, rfl⟩ := receipt_of_trod h; exact ⟨s, rfl⟩) h
  exact ⟨v, hv, strcol_of_row hr (by omega) fun c hc => ⟨(hp c hc).2, (hp c hc).1⟩⟩
theorem typings_of_trod {fuel : Nat} {cs : List Value} {y : DataW H × List MemPlace} (h : DataW.trod enc Tryz.prog W base spare held fuel 28 cs = some y) : ∃ v, cs = [v] ∧ ∃ ao n cap, v = .slice ao n cap ∧ StrCol W ao n 2 0 := by
  obtain ⟨v, hv, es, hr, hp⟩ := row_of_trod Tryz.underlying28 cellsOf63 (by omega) (fun c => ∃ s, c[0]? = some (.string s)) (fun n cs' y' h _ => by obtain ⟨s, a, rfl⟩ := typing_of_trod h; exact ⟨s, rfl⟩) h
  exact ⟨v, hv, strcol_of_row hr (by omega) fun c hc => ⟨(hp c hc).2, (hp c hc).1⟩⟩
theorem rows_of_trod {fuel : Nat} {cs : List Value} {y : DataW H × List MemPlace} (h : DataW.trod enc Tryz.prog W base spare held fuel 23 cs = some y) : ∃ v, cs = [v] ∧ ∃ ao n cap, v = .slice ao n cap := by
  obtain ⟨v, hv, es, hr, _⟩ := row_of_trod Tryz.underlying23 cellsOf105 (by omega) (fun _ => True) (fun _ _ _ _ _ => trivial) h
  obtain ⟨ao, cap, e⟩ := hr.form1
  exact ⟨v, hv, ao, _, cap, e⟩
theorem heads_of_trod {fuel : Nat} {cs : List Value} {y : DataW H × List MemPlace} (h : DataW.trod enc Tryz.prog W base spare held fuel 24 cs = some y) : ∃ v, cs = [v] ∧ ∃ ao n cap, v = .slice ao n cap := by
  obtain ⟨v, hv, n, xs, hr⟩ := ints_of_trod h
  obtain ⟨ao, cap, e⟩ := hr.form1
  exact ⟨v, hv, ao, _, cap, e⟩
set_option maxRecDepth 100000 in
theorem room_of_trod {fuel : Nat} {cs : List Value} {y : DataW H × List MemPlace} (h : DataW.trod enc Tryz.prog W base spare held fuel 30 cs = some y) : ∃ es ws, RoomOK W cs es ws := by
  obtain ⟨xs, k, _, _, hlen, hxl, hg⟩ := DataW.trod_struct Tryz.underlying30 h
  rw [cellsOf30] at hlen
  match cs, hlen with
  | [c0, c1, c2, c3, c4, c5, c6, c7, c8], _ =>
    have h0 : DataW.trod enc Tryz.prog W base spare held k 9 (([c0, c1, c2, c3, c4, c5, c6, c7, c8].drop 0).take (Tryz.prog.cellsOf 9)) = xs[0]? := hg 0 _ rfl
    rw [cellsOf9] at h0
    have h1 : DataW.trod enc Tryz.prog W base spare held k 22 (([c0, c1, c2, c3, c4, c5, c6, c7, c8].drop 1).take (Tryz.prog.cellsOf 22)) = xs[1]? := hg 1 _ rfl
    rw [cellsOf22] at h1
    have h2 : DataW.trod enc Tryz.prog W base spare held k 23 (([c0, c1, c2, c3, c4, c5, c6, c7, c8].drop 2).take (Tryz.prog.cellsOf 23)) = xs[2]? := hg 2 _ rfl
    rw [cellsOf23] at h2
    have h3 : DataW.trod enc Tryz.prog W base spare held k 22 (([c0, c1, c2, c3, c4, c5, c6, c7, c8].drop 3).take (Tryz.prog.cellsOf 22)) = xs[3]? := hg 3 _ rfl
    rw [cellsOf22] at h3
    have h4 : DataW.trod enc Tryz.prog W base spare held k 24 (([c0, c1, c2, c3, c4, c5, c6, c7, c8].drop 4).take (Tryz.prog.cellsOf 24)) = xs[4]? := hg 4 _ rfl
    rw [cellsOf24] at h4
    have h5 : DataW.trod enc Tryz.prog W base spare held k 26 (([c0, c1, c2, c3, c4, c5, c6, c7, c8].drop 5).take (Tryz.prog.cellsOf 26)) = xs[5]? := hg 5 _ rfl
    rw [cellsOf26] at h5
    have h6 : DataW.trod enc Tryz.prog W base spare held k 3 (([c0, c1, c2, c3, c4, c5, c6, c7, c8].drop 6).take (Tryz.prog.cellsOf 3)) = xs[6]? := hg 6 _ rfl
    rw [cellsOf3] at h6
    have h7 : DataW.trod enc Tryz.prog W base spare held k 27 (([c0, c1, c2, c3, c4, c5, c6, c7, c8].drop 7).take (Tryz.prog.cellsOf 27)) = xs[7]? := hg 7 _ rfl
    rw [cellsOf27] at h7
    have h8 : DataW.trod enc Tryz.prog W base spare held k 28 (([c0, c1, c2, c3, c4, c5, c6, c7, c8].drop 8).take (Tryz.prog.cellsOf 28)) = xs[8]? := hg 8 _ rfl
    rw [cellsOf28] at h8
    match xs, hxl with
    | [x0, x1, x2, x3, x4, x5, x6, x7, x8], _ =>
      replace h0 : DataW.trod enc Tryz.prog W base spare held k 9 [c0] = some x0 := by simpa using h0
      obtain ⟨id, e0, _, _⟩ := DataW.trod_string Tryz.underlying9 h0
      simp at e0
      subst_vars
      replace h1 : DataW.trod enc Tryz.prog W base spare held k 22 [c1] = some x1 := by simpa using h1
      obtain ⟨ev, e1, k1⟩ := evs_of_trod h1
      simp at e1
      subst_vars
      replace h2 : DataW.trod enc Tryz.prog W base spare held k 23 [c2] = some x2 := by simpa using h2
      obtain ⟨rv, e2, k2⟩ := rows_of_trod h2
      simp at e2
      subst_vars
      replace h3 : DataW.trod enc Tryz.prog W base spare held k 22 [c3] = some x3 := by simpa using h3
      obtain ⟨wt, e3, k3⟩ := evs_of_trod h3
      simp at e3
      subst_vars
      replace h4 : DataW.trod enc Tryz.prog W base spare held k 24 [c4] = some x4 := by simpa using h4
      obtain ⟨hv, e4, k4⟩ := heads_of_trod h4
      simp at e4
      subst_vars
      replace h5 : DataW.trod enc Tryz.prog W base spare held k 26 [c5] = some x5 := by simpa using h5
      obtain ⟨sv, e5, k5⟩ := state_of_trod h5
      simp at e5
      subst_vars
      replace h6 : DataW.trod enc Tryz.prog W base spare held k 3 [c6] = some x6 := by simpa using h6
      obtain ⟨nx, e6, _, _⟩ := DataW.trod_int Tryz.underlying3 h6
      simp at e6
      subst_vars
      replace h7 : DataW.trod enc Tryz.prog W base spare held k 27 [c7] = some x7 := by simpa using h7
      obtain ⟨cv, e7, k7⟩ := receipts_of_trod h7
      simp at e7
      subst_vars
      replace h8 : DataW.trod enc Tryz.prog W base spare held k 28 [c8] = some x8 := by simpa using h8
      obtain ⟨tv, e8, k8⟩ := typings_of_trod h8
      simp at e8
      subst_vars
      exact by
        obtain ⟨ra, rn, rc, rfl⟩ := k2
        obtain ⟨ha, hn, hc, rfl⟩ := k4
        obtain ⟨sa, sn, sc, rfl, hs⟩ := k5
        obtain ⟨ca, cn, cc, rfl, hct⟩ := k7
        obtain ⟨ta, tn, tc, rfl, ht⟩ := k8
        exact ⟨_, _, _, _, _, _, _, _, _, _, _, _, _, _, _, _, _, _, _, _, _, rfl, k1.choose_spec, k3.choose_spec, hs, hct, ht⟩
end
end Go.Proofs.R29
end
