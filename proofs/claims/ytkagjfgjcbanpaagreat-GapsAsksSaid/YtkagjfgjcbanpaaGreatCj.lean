/- R01.Sorted and R01.Union. -/
import Derived.Test.YtkagjfgjcbanpaaGreatCi
import Derived.Test.YtkagjfgjcbanpaaGreatAc
import Derived.Maps.Own
import Derived.Below
import Derived.OwnWalk
import Derived.Test.YtkagjfgjcbanpaaGreatCh
import Derived.Test.YtkagjfgjcbanpaaGreatCd
import Derived.Deep.WholeRow
import Derived.ArgAppend

section
namespace Go.Proofs.R29
open Go.ChangeShapes Go.WideShapes Go.ChangeAt Go.RowKit Go.Shelf

/-- A result in order that is not nil. -/
abbrev OrdPost (xs : List Int) (w : World) : Ending → World → Prop := PutPost (ordered xs) w

/-- The value s shows the list xs, and is not nil. -/
def Shown (w : World) (s : Value) (xs : List Int) : Prop := ∃ g o cap, s = .slice (some ⟨g, o, none⟩) xs.length cap ∧ Ints w (.slice (some ⟨g, o, none⟩) xs.length cap) xs
theorem Shown.on {w w' : World} {s : Value} {xs : List Int} (h : Shown w s xs) (q : Below w.heap.size w w') : Shown w' s xs := by
  obtain ⟨g, o, cap, e, h⟩ := h
  exact ⟨g, o, cap, e, h.on q⟩

theorem shown_empty (w : World) : Shown (w.alloc (.cells #[] 3)) (.slice (some ⟨w.heap.size, 0, none⟩) 0 0) [] := by
  have h := World.ownsRow_made (base := w.heap.size) (e := 3) (size := 1) w #[] 0 (Nat.le_refl _) (by simp [maxLen]) rfl
  exact ⟨w.heap.size, 0, 0, rfl, ints_of_own' h⟩

set_option maxRecDepth 100000 in
set_option maxHeartbeats 2000000 in
theorem rSorted_ok (v : Value) (xs : List Int) (w : World) (h : Ints w v xs) (hn : xs.length ≤ 1000000) : Calls Tryz.prog 92 #[v] w (OrdPost xs w) := by
  obtain ⟨ao, cap, rfl, hl, hcap⟩ := h.form
  have HI := Lib.hid h
  have Hn := Lib.hid hn
  clear h hn
  go_enter Tryz.func92, Tryz.ntmps92
  go_wp2_with fail
  have Hs0 := Lib.hid (shown_empty w)
  have Hb0 := Lib.hid ((Below.refl w.heap.size w).alloc (Nat.le_refl _) (.cells #[] 3))
  go_loopw [3, 4] (fun s i wr => ∃ k : Nat, k ≤ xs.length ∧ i = .int .i64 k ∧ Below w.heap.size w wr ∧ Shown wr s (ordered (xs.take k))) (fun _ i _ => xs.length - (intOf i).toNat)
  case atStart => exact ⟨0, Nat.zero_le _, rfl, Hb0, by rw [List.take_zero, ordered_nil]; exact Hs0⟩
  case round =>
    obtain ⟨k, hk, rfl, q, hs⟩ := hrel
    obtain ⟨g, o, c, rfl, hI⟩ := hs
    have Hs := Lib.hid hI
    clear hI
    by_cases hlt : k < xs.length
    · obtain ⟨b, o2, rfl, hb, hc⟩ := Ints.at_ HI hlt
      have hc := hc wr q
      have hsn : ordered (xs.take (k + 1)) = putL xs[k] (ordered (xs.take k)) := by
        rw [List.take_succ_eq_append_getElem hlt, putL_ordered]
      have hle : (ordered (xs.take k)).length ≤ 1000000 := Nat.le_trans (ordered_len _) (Nat.le_trans (by rw [List.length_take]; exact Nat.min_le_right _ _) Hn)
      have hput := put_ok g o c (ordered (xs.take k)) xs[k] wr Hs hle
      have Hsn := Lib.hid hsn
      have Hput := Lib.hid hput
      clear hsn hle hput
      generalize xs[k] = x at *
      go_wp2_with fail
      refine Calls.mono Hput ?_
      rintro e w2 ⟨g2, o2', c2, rfl, hI2, q2⟩
      have HI2 := Lib.hid hI2
      have q3 := Below.trans q (q2.mono (Below.size q))
      clear hI2 Hput
      go_wp2_with fail
      go_roundw
      case rel => exact ⟨k + 1, by omega, by go_num, q3, g2, o2', c2, by rw [(Hsn : _ = _)], by rw [(Hsn : _ = _)]; exact HI2⟩
      case measure => simp [intOf]; omega
    · have hkl : k = xs.length := by omega
      subst hkl
      rw [List.take_length] at Hs
      simp only [List.take_length]
      go_wp2_with fail
      go_ret
      exact ⟨g, o, c, rfl, Hs, q⟩

set_option maxRecDepth 100000 in
set_option maxHeartbeats 2000000 in
theorem rUnion_ok (v u : Value) (xs ys : List Int) (w : World) (h1 : Ints w v xs) (h2 : Ints w u ys) (hn1 : xs.length ≤ 500000) (hn2 : ys.length ≤ 500000) : Calls Tryz.prog 60 #[v, u] w (OrdPost (xs ++ ys) w) := by
  obtain ⟨ao, cap, rfl, hl, hcap⟩ := h2.form
  have hsort := rSorted_ok v xs w h1 (by omega)
  have HI := Lib.hid h2
  have Hn1 := Lib.hid hn1
  have Hn2 := Lib.hid hn2
  have Hsort := Lib.hid hsort
  clear h1 h2 hn1 hn2 hsort
  go_enter Tryz.func60, Tryz.ntmps60
  go_wp2_with fail
  refine Calls.mono Hsort ?_
  rintro e w1 ⟨g1, o1, c1, rfl, hI1, q1⟩
  have HI1 := Lib.hid hI1
  clear hI1 Hsort
  go_wp2_with fail
  go_loopw [5, 6] (fun s i wr => ∃ k : Nat, k ≤ ys.length ∧ i = .int .i64 k ∧ Below w.heap.size w wr ∧ Shown wr s (ordered (xs ++ ys.take k))) (fun _ i _ => ys.length - (intOf i).toNat)
  case atStart => exact ⟨0, Nat.zero_le _, rfl, q1, g1, o1, c1, by rw [List.take_zero, List.append_nil], by rw [List.take_zero, List.append_nil]; exact HI1⟩
  case round =>
    obtain ⟨k, hk, rfl, q, hs⟩ := hrel
    obtain ⟨g, o, c, rfl, hI⟩ := hs
    have Hs := Lib.hid hI
    clear hI HI1
    by_cases hlt : k < ys.length
    · obtain ⟨b, o2, rfl, hb, hc⟩ := Ints.at_ HI hlt
      have hc := hc wr q
      have hsn : ordered (xs ++ ys.take (k + 1)) = putL ys[k] (ordered (xs ++ ys.take k)) := by
        rw [List.take_succ_eq_append_getElem hlt, putL_ordered, List.append_assoc]
      have hle : (ordered (xs ++ ys.take k)).length ≤ 1000000 := Nat.le_trans (ordered_len _) (by
        rw [List.length_append]
        have : (ys.take k).length ≤ ys.length := by rw [List.length_take]; exact Nat.min_le_right _ _
        have h1 : xs.length ≤ 500000 := Hn1
        have h2 : ys.length ≤ 500000 := Hn2
        omega)
      have hput := put_ok g o c (ordered (xs ++ ys.take k)) ys[k] wr Hs hle
      have Hsn := Lib.hid hsn
      have Hput := Lib.hid hput
      clear hsn hle hput
      generalize ys[k] = x at *
      go_wp2_with fail
      refine Calls.mono Hput ?_
      rintro e w2 ⟨g2, o2', c2, rfl, hI2, q2⟩
      have HI2 := Lib.hid hI2
      have q3 := Below.trans q (q2.mono (Below.size q))
      clear hI2 Hput
      go_wp2_with fail
      go_roundw
      case rel => exact ⟨k + 1, by omega, by go_num, q3, g2, o2', c2, by rw [(Hsn : _ = _)], by rw [(Hsn : _ = _)]; exact HI2⟩
      case measure => simp [intOf]; omega
    · have hkl : k = ys.length := by omega
      subst hkl
      rw [List.take_length] at Hs
      simp only [List.take_length]
      go_wp2_with fail
      go_ret
      exact ⟨g, o, c, rfl, Hs, q⟩
end Go.Proofs.R29
end

/- Maps with int keys that the call itself has made: make, store, delete. -/
section
namespace Go.Proofs.R29
open Go.Abs Go.ChangeMaps Go.MapKept

/-- Block b of w is a map with the keys ks. -/
def OwnKeys (w : World) (b : Nat) (ks : List Int) : Prop := ∃ (es : Array MapEntry) (clock : Nat), w.heap[b]? = some (.map es clock) ∧ es.toList.map (·.key) = ks.map (Value.int .i64) ∧ ks.Nodup ∧ bornsOk clock (es.toList.map (·.born)) = true

/-- Block b of w is a map of at most n keys: the numbers of S. -/
def OwnSet (w : World) (b n : Nat) (S : Int → Prop) : Prop := ∃ ks, OwnKeys w b ks ∧ ks.length ≤ n ∧ ∀ m, m ∈ ks ↔ S m

theorem OwnKeys.lt {w : World} {b : Nat} {ks : List Int} (h : OwnKeys w b ks) : b < w.heap.size := by
  obtain ⟨es, clock, hb, _⟩ := h
  exact (Array.getElem?_eq_some_iff.1 hb).1
theorem OwnSet.lt {w : World} {b n : Nat} {S : Int → Prop} (h : OwnSet w b n S) : b < w.heap.size := by
  obtain ⟨ks, h, _⟩ := h
  exact h.lt
theorem OwnKeys.of_block {w w' : World} {b : Nat} {ks : List Int} (h : OwnKeys w b ks) (e : w'.heap[b]? = w.heap[b]?) : OwnKeys w' b ks := by
  obtain ⟨es, clock, hb, r⟩ := h
  exact ⟨es, clock, e.trans hb, r⟩
theorem OwnSet.of_block {w w' : World} {b n : Nat} {S : Int → Prop} (h : OwnSet w b n S) (e : w'.heap[b]? = w.heap[b]?) : OwnSet w' b n S := by
  obtain ⟨ks, h, r⟩ := h
  exact ⟨ks, h.of_block e, r⟩
theorem OwnSet.grown {w w' : World} {b n : Nat} {S : Int → Prop} {row : Option Nat} (h : OwnSet w b n S) (hg : w.grownBy w' row) (hne : some b ≠ row) : OwnSet w' b n S := h.of_block (hg.block b h.lt hne)
theorem OwnSet.congr {w : World} {b n : Nat} {S S' : Int → Prop} (h : OwnSet w b n S) (e : ∀ m, S m ↔ S' m) : OwnSet w b n S' := by
  obtain ⟨ks, h1, h2, h3⟩ := h
  exact ⟨ks, h1, h2, fun m => (h3 m).trans (e m)⟩
theorem OwnSet.mono {w : World} {b n n' : Nat} {S : Int → Prop} (h : OwnSet w b n S) (e : n ≤ n') : OwnSet w b n' S := by
  obtain ⟨ks, h1, h2, h3⟩ := h
  exact ⟨ks, h1, by omega, h3⟩

theorem ownSet_made (w : World) : OwnSet (w.alloc (.map #[] 0)) w.heap.size 0 fun _ => False :=
  ⟨[], ⟨#[], 0, (MapKept.heap_alloc w _).1, rfl, List.nodup_nil, rfl⟩, Nat.le_refl _, fun m => by simp⟩

theorem find_int (n : Int) : ∀ (ks : List Int) (i : Nat), (n ∉ ks ∧ findK (.int .i64 n) (ks.map (Value.int .i64)) i = some none) ∨ (∃ j, ks[j]? = some n ∧ findK (.int .i64 n) (ks.map (Value.int .i64)) i = some (some (i + j)))
  | [], i => .inl ⟨by simp, rfl⟩
  | k :: ks, i => by
    by_cases h : n = k
    · subst h
      exact .inr ⟨0, rfl, by simp [findK, sameKey]⟩
    · have hb : (n == k) = false := by simp [h]
      rcases find_int n ks (i + 1) with ⟨h1, h2⟩ | ⟨j, h1, h2⟩
      · exact .inl ⟨by simp [h, h1], by simp [findK, sameKey, hb, h2]⟩
      · exact .inr ⟨j + 1, by simpa using h1, by simp [findK, sameKey, hb, h2]; omega⟩

section
variable {P : Program} {t k e : TypeId}

theorem check_int (hk : P.underlying k = some (.int .i64)) (n : Int) (b : Bool) (w : World) : (Instr.checkKey b 10000 k (.int .i64 n)).run P w = .ok () w := by
  have e : Instr.checkKey b 10000 k (.int .i64 n) = Instr.checkKey b (9999 + 1) k (.int .i64 n) := rfl
  rw [e]
  unfold Instr.checkKey
  simp [Sem.run_bind, run_under hk, Result.andThen_ok]

theorem same_int (n : Int) : ∀ x r, sameKey (.int .i64 n) x = some r → Instr.sameNow (.int .i64) (.int .i64 n) x = some r := by
  intro x r hr
  cases x <;> simp only [sameKey] at hr <;> (try cases hr)
  exact hr

theorem bornsOk_push {clock : Nat} : ∀ {l : List Nat}, bornsOk clock l = true → bornsOk (clock + 1) (l ++ [clock]) = true
  | [], _ => by simp [bornsOk, freshB]
  | b :: r, h => by
    simp only [bornsOk, Bool.and_eq_true] at h
    obtain ⟨h1, h2, h3⟩ := h
    have hlt : b < clock := by rwa [Nat.blt_eq] at h1
    have f : ∀ l : List Nat, freshB b l = true → freshB b (l ++ [clock]) = true := by
      intro l
      induction l with
      | nil =>
        intro _
        have hne : Nat.beq b clock = false := by
          cases hq : Nat.beq b clock with
          | false => rfl
          | true => have := Nat.eq_of_beq_eq_true hq; omega
        simp [freshB, hne]
      | cons c l ih =>
        intro h
        simp only [List.cons_append, freshB] at h ⊢
        cases hq : Nat.beq b c with
        | true => rw [hq] at h; exact absurd h (by simp)
        | false => rw [hq] at h; exact ih h
    simp only [List.cons_append, bornsOk, Bool.and_eq_true]
    exact ⟨by rw [Nat.blt_eq]; omega, f _ h2, bornsOk_push h3⟩

theorem bornsOk_erase {clock : Nat} : ∀ {l : List Nat} (i : Nat), bornsOk clock l = true → bornsOk clock (l.eraseIdx i) = true
  | [], i, h => by simpa using h
  | b :: r, 0, h => by
    simp only [bornsOk, Bool.and_eq_true] at h
    simpa using h.2.2
  | b :: r, i + 1, h => by
    simp only [bornsOk, Bool.and_eq_true] at h
    obtain ⟨h1, h2, h3⟩ := h
    have f : ∀ (l : List Nat) (i : Nat), freshB b l = true → freshB b (l.eraseIdx i) = true := by
      intro l
      induction l with
      | nil => intro i h; simpa using h
      | cons c l ih =>
        intro i h
        simp only [freshB] at h
        cases hq : Nat.beq b c with
        | true => rw [hq] at h; exact absurd h (by simp)
        | false =>
          rw [hq] at h
          cases i with
          | zero => simpa using h
          | succ i => simp only [List.eraseIdx_cons_succ, freshB, hq]; exact ih i h
    simp only [List.eraseIdx_cons_succ, bornsOk, Bool.and_eq_true]
    exact ⟨h1, f _ _ h2, bornsOk_erase i h3⟩

theorem grown_setBlock {w : World} {b : Nat} {o : Obj} {es : Array MapEntry} {clock : Nat} (h : w.heap[b]? = some (.map es clock)) : w.grownBy (setBlock w b o) (some b) :=
  ⟨rfl, rfl, rfl, by simp [setBlock], fun i _ hi => heap_setBlock_other h _ (fun e => hi (by rw [e]))⟩

theorem run_update_int (ht : P.underlying t = some (.map k e)) (hk : P.underlying k = some (.int .i64)) {w : World} {b n : Nat} {S : Int → Prop} (h : OwnSet w b n S) (m : Int) (x : Value) :
    ∃ w', (Instr.mapUpdate t (.map (some b)) (.int .i64 m) x).run P w = .ok () w' ∧ OwnSet w' b (n + 1) (fun z => z = m ∨ S z) ∧ w.grownBy w' (some b) := by
  obtain ⟨ks, ⟨es, clock, hb, hks, hnd, hborn⟩, hn, hS⟩ := h
  have hlt : b < w.heap.size := (Array.getElem?_eq_some_iff.1 hb).1
  have hents : Ents (ks.map (Value.int .i64)) (es.toList.map (·.val)) es := ⟨hks, rfl⟩
  rcases find_int m ks 0 with ⟨h1, h2⟩ | ⟨j, h1, h2⟩
  · obtain ⟨hrun, _⟩ := run_findKey (P := P) hk (same_int m) hents h2 w
    refine ⟨setBlock w b (.map (es.push { key := .int .i64 m, val := x, born := clock }) (clock + 1)), ?_, ⟨ks ++ [m], ⟨_, _, heap_setBlock_same hb _, ?_, ?_, ?_⟩, by simp; omega, fun z => ?_⟩, grown_setBlock hb⟩
    · simp only [Instr.mapUpdate, Sem.run_bind, run_under ht, Result.andThen_ok, Go.Abs.run_getObj_map hb, check_int hk, hrun, Option.bind_none, Go.Abs.run_setObj hb]
      rfl
    · simp [hks]
    · exact List.nodup_append.2 ⟨hnd, by simp, fun a ha c hc => by simp at hc; subst hc; rintro rfl; exact h1 ha⟩
    · rw [Array.toList_push, List.map_append]
      exact bornsOk_push hborn
    · rw [List.mem_append, hS]
      simp
      exact Or.comm
  · rw [Nat.zero_add] at h2
    obtain ⟨e0, he, hrun, hek, _⟩ := find_entry hk (same_int m) hents h2 w
    refine ⟨setBlock w b (.map (es.modify j fun e => { e with key := .int .i64 m, val := x }) clock), ?_, ⟨ks, ⟨_, _, heap_setBlock_same hb _, ?_, hnd, ?_⟩, by omega, fun z => ?_⟩, grown_setBlock hb⟩
    · have hst : (Instr.keyThatStays (((es[j]?).map (·.key)).getD (.int .i64 m)) (.int .i64 m)).run P w = .ok (.int .i64 m) w := by
        rw [he]
        simp only [Option.map_some, Option.getD_some, hek, Instr.keyThatStays]
        have : sameKey (.int .i64 m) (.int .i64 m) = some true := by simp [sameKey]
        rw [if_pos (sameBits_key this _)]
        rfl
      simp only [Instr.mapUpdate, Sem.run_bind, run_under ht, Result.andThen_ok, Go.Abs.run_getObj_map hb, check_int hk, hrun, hst, Go.Abs.run_setObj hb]
      rfl
    · rw [Array.toList_modify, map_modify_same MapEntry.key _ _ _ (fun a ha => by
        rw [Array.getElem?_toList, he] at ha; cases ha; exact hek.symm)]
      exact hks
    · rw [Array.toList_modify, map_modify_same MapEntry.born _ _ _ (by intros; rfl)]
      exact hborn
    · rw [hS]
      constructor
      · exact .inr
      · rintro (rfl | q)
        · exact (hS _).1 (List.mem_of_getElem? h1)
        · exact q

theorem mem_eraseIdx : ∀ {ks : List Int} {j : Nat} (h : j < ks.length), ks.Nodup → ∀ {z : Int}, z ∈ ks.eraseIdx j ↔ z ∈ ks ∧ z ≠ ks[j]
  | [], _, h, _, _ => by simp at h
  | k :: ks, 0, _, hn, z => by
    obtain ⟨h1, h2⟩ := List.nodup_cons.1 hn
    simp only [List.eraseIdx_cons_zero, List.getElem_cons_zero, List.mem_cons]
    constructor
    · intro q
      exact ⟨.inr q, fun e => h1 (e ▸ q)⟩
    · rintro ⟨q | q, r⟩
      · exact absurd q r
      · exact q
  | k :: ks, j + 1, h, hn, z => by
    obtain ⟨h1, h2⟩ := List.nodup_cons.1 hn
    have hj : j < ks.length := by simpa using h
    simp only [List.eraseIdx_cons_succ, List.getElem_cons_succ, List.mem_cons]
    rw [mem_eraseIdx hj h2]
    constructor
    · rintro (q | ⟨q, r⟩)
      · refine ⟨.inl q, fun e => h1 ?_⟩
        rw [← q, e]
        exact List.getElem_mem _
      · exact ⟨.inr q, r⟩
    · rintro ⟨q | q, r⟩
      · exact .inl q
      · exact .inr ⟨q, r⟩

theorem run_delete_int (ht : P.underlying t = some (.map k e)) (hk : P.underlying k = some (.int .i64)) {w : World} {b n : Nat} {S : Int → Prop} (h : OwnSet w b n S) (m : Int) (ts : Array TypeId) (hts : ts[0]? = some t) (ty : TypeId) :
    ∃ w', (Builtin.delete_ ts ty #[.map (some b), .int .i64 m]).run P w = .ok (.tuple #[]) w' ∧ OwnSet w' b n (fun z => S z ∧ z ≠ m) ∧ w.grownBy w' (some b) := by
  obtain ⟨ks, ⟨es, clock, hb, hks, hnd, hborn⟩, hn, hS⟩ := h
  have hlt : b < w.heap.size := (Array.getElem?_eq_some_iff.1 hb).1
  have hents : Ents (ks.map (Value.int .i64)) (es.toList.map (·.val)) es := ⟨hks, rfl⟩
  have e0 : (#[Value.map (some b), .int .i64 m] : Array Value)[0]? = some (.map (some b)) := rfl
  have e1 : (#[Value.map (some b), .int .i64 m] : Array Value)[1]? = some (.int .i64 m) := rfl
  rcases find_int m ks 0 with ⟨h1, h2⟩ | ⟨j, h1, h2⟩
  · obtain ⟨hrun, _⟩ := run_findKey (P := P) hk (same_int m) hents h2 w
    refine ⟨setBlock w b (.map es clock), ?_, ⟨ks, ⟨_, _, heap_setBlock_same hb _, hks, hnd, hborn⟩, hn, fun z => ?_⟩, grown_setBlock hb⟩
    · simp only [Builtin.delete_, hts, e0, e1, Sem.run_bind, run_under ht, Result.andThen_ok, Go.Abs.run_getObj_map hb, check_int hk, hrun, Option.bind_none, Go.Abs.run_setObj hb, Sem.run_pure]
      rfl
    · rw [hS]
      constructor
      · intro q
        exact ⟨q, fun e => h1 (e ▸ (hS z).2 q)⟩
      · exact fun q => q.1
  · rw [Nat.zero_add] at h2
    obtain ⟨e2, he, hrun, hek, _⟩ := find_entry hk (same_int m) hents h2 w
    have mapE : ∀ {β : Type} (f : MapEntry → β) (l : List MapEntry) (j : Nat), (l.eraseIdx j).map f = (l.map f).eraseIdx j := by
      intro β f l j
      rw [List.eraseIdx_eq_take_drop_succ, List.eraseIdx_eq_take_drop_succ, List.map_append, List.map_take, List.map_drop]
    have hj : j < ks.length := by
      rcases Nat.lt_or_ge j ks.length with q | q
      · exact q
      · rw [List.getElem?_eq_none q] at h1; cases h1
    have hval : ks[j] = m := by rw [List.getElem?_eq_getElem hj] at h1; exact Option.some.inj h1
    refine ⟨setBlock w b (.map (es.eraseIdxIfInBounds j) clock), ?_, ⟨ks.eraseIdx j, ⟨_, _, heap_setBlock_same hb _, ?_, ?_, ?_⟩, ?_, fun z => ?_⟩, grown_setBlock hb⟩
    · simp only [Builtin.delete_, hts, e0, e1, Sem.run_bind, run_under ht, Result.andThen_ok, Go.Abs.run_getObj_map hb, check_int hk, hrun, Go.Abs.run_setObj hb, Sem.run_pure]
      rfl
    · rw [Array.toList_eraseIdxIfInBounds, mapE, hks]
      rw [List.eraseIdx_eq_take_drop_succ, List.eraseIdx_eq_take_drop_succ, List.map_append, List.map_take, List.map_drop]
    · exact hnd.sublist (List.eraseIdx_sublist _ _)
    · rw [Array.toList_eraseIdxIfInBounds, mapE]
      exact bornsOk_erase j hborn
    · have := List.length_eraseIdx_le ks j
      omega
    · rw [mem_eraseIdx hj hnd, hval]; exact and_congr_left fun _ => hS z
end
end Go.Proofs.R29
end

/- The laws of maps for the walk; the keys of a set in order. -/
section
namespace Go.Proofs.R29
open Go.ChangeShapes Go.WideShapes Go.ChangeAt Go.RowKit Go.Shelf

section
variable {P : Program}
/-- A whole value into the block that was made last. -/
theorem wpList_copy_new {ops : Array Oper} {rest : List Oper} {op : Oper} {a : Act} {w : World} {Q : Exit → Act → World → Prop} (hgd : op.guard = none) (t : TypeId) (x y : Operand) (ho : op.op = .store t x y)
    (c c' : Array Value) (hx : a.eval x = .pointer (some ⟨w.heap.size, 0, none⟩)) (hy : a.eval y = .agg c') (hi : (P.info? t).map (·.size) = some c'.size) (hs : c.size = c'.size) (h1 : c'.all (·.oneCell') = true)
    (h : wpList P ops Q rest (a.put op.dst undef) (w.alloc (.cells c' t))) : wpList P ops Q (op :: rest) a (w.alloc (.cells c t)) :=
  wpList_plain hgd fun K hK => by
    unfold Oper.wp execOp
    simp only [ho, hx, hy, run_storeAt_new w t c c' hi hs h1, Sem.run_bind, Sem.run_pure, Result.andThen_ok]
    exact hK _ _ h

theorem wpList_update_int {ops : Array Oper} {rest : List Oper} {o : Oper} {a : Act} {w : World} {Q : Exit → Act → World → Prop} (hg : o.guard = none) (m x v : Operand) (t k e : TypeId) (hop : o.op = Op.mapUpdate t m x v)
    (ht : P.underlying t = some (.map k e)) (hk : P.underlying k = some (.int .i64)) (b n : Nat) (S : Int → Prop) (hown : OwnSet w b n S) (hm : a.eval m = .map (some b)) (z : Int) (hx : a.eval x = .int .i64 z)
    (hK : ∀ w', OwnSet w' b (n + 1) (fun y => y = z ∨ S y) → w.grownBy w' (some b) → wpList P ops Q rest (a.put o.dst undef) w') : wpList P ops Q (o :: rest) a w := by
  refine wpList_plain hg fun K' hK' => ?_
  obtain ⟨w', hrun, r1, r2⟩ := run_update_int ht hk hown z (a.eval v)
  unfold Oper.wp
  simp [execOp, hop, hm, hx, hrun, Result.andThen]
  exact hK' _ _ (hK w' r1 r2)

theorem wpList_delete_int {ops : Array Oper} {rest : List Oper} {o : Oper} {a : Act} {w : World} {Q : Exit → Act → World → Prop} (hg : o.guard = none) (m x : Operand) (t t' k e : TypeId) (hop : o.op = .call { callee := .builtin .delete, args := #[m, x], argTypes := #[t, t'] })
    (ht : P.underlying t = some (.map k e)) (hk : P.underlying k = some (.int .i64)) (b n : Nat) (S : Int → Prop) (hown : OwnSet w b n S) (hm : a.eval m = .map (some b)) (z : Int) (hx : a.eval x = .int .i64 z)
    (hK : ∀ w', OwnSet w' b n (fun y => S y ∧ y ≠ z) → w.grownBy w' (some b) → wpList P ops Q rest (a.put o.dst (.tuple #[])) w') : wpList P ops Q (o :: rest) a w := by
  refine wpList_plain hg fun K' hK' => ?_
  obtain ⟨w', hrun, r1, r2⟩ := run_delete_int ht hk hown z #[t, t'] rfl o.type
  unfold Oper.wp execOp
  simp only [hop, resolve, invoke, builtin, Sem.run_bind, Sem.run_pure, Result.andThen_ok, List.map_toArray, List.map_cons, List.map_nil, hm, hx, hrun]
  exact hK' _ _ (hK w' r1 r2)
end

/-- An event goes into a new variable. -/
theorem list_copy78 {ops : Array Oper} {rest : List Oper} {a : Act} {w : World} {Q : Exit → Act → World → Prop} {dst : Option Tmp} {x y : Operand} {ty : TypeId} {ps : String} {af : Array Edge}
    (c : Array Value) (cs : List Value) {t t' : TypeId} {gd : Option (Tmp × Bool)} (ht : t = 78) (ht' : t' = 78) (hg : gd = none) (hs : c.size = 29) (hl : Hid (cs.length = 29)) (h1 : Hid (∀ v ∈ cs, v.oneCell' = true)) (hx : a.eval x = .pointer (some ⟨w.heap.size, 0, none⟩)) (hy : a.eval y = .agg cs.toArray)
    (h : wpList Tryz.prog ops Q rest (a.put dst undef) (w.alloc (.cells cs.toArray 78))) : wpList Tryz.prog ops Q ({ dst := dst, op := .store t x y, type := ty, pos := ps, after := af, guard := gd } :: rest) a (w.alloc (.cells c t')) := by
  subst ht ht' hg
  have hl : cs.length = 29 := hl
  exact wpList_copy_new rfl 78 x y rfl c _ hx hy (by rw [size78]; simp [hl]) (by simp [hs, hl]) (all_oneCell_toArray h1) h

theorem EvOK.one {w : World} {cs : List Value} (h : EvOK w cs) : ∀ v ∈ cs, v.oneCell' = true := by
  obtain ⟨id, room, sender, kind, st, key, time, depth, pv, av, text, n, tg, th, via, alv, dnv, uv, kv, i1, i2, i3, i4, i5, i6, i7, hash, srv, sum, rfl, ⟨np, xp, ⟨ap, cp, rfl, _⟩⟩, ⟨na, xa, ⟨aa, ca, rfl, _⟩⟩, ⟨nb, xb, ⟨ab, cb, rfl, _⟩⟩, ⟨nc, xc, ⟨ac, cc, rfl, _⟩⟩, ⟨nd, xd, ⟨ad, cd, rfl, _⟩⟩, ⟨ne, xe, ⟨ae, ce, rfl, _⟩⟩⟩ := h
  intro v hv
  simp only [List.mem_cons, List.not_mem_nil, or_false] at hv
  rcases hv with rfl | rfl | rfl | rfl | rfl | rfl | rfl | rfl | rfl | rfl | rfl | rfl | rfl | rfl | rfl | rfl | rfl | rfl | rfl | rfl | rfl | rfl | rfl | rfl | rfl | rfl | rfl | rfl | rfl <;> rfl

theorem below_grown {base : Nat} {w w1 w2 : World} {b : Nat} (hb : Below base w w1) (hg : w1.grownBy w2 (some b)) (h1 : base ≤ w1.heap.size) (h : base ≤ b) : Below base w w2 :=
  hb.grown hg h1 fun q hq => by cases hq; exact h

/-- The keys of a set, in order. -/
theorem sorted_set (b n : Nat) (S : Int → Prop) (L : List Int) (w : World) (h : OwnSet w b n S) (hn : n ≤ 1000000) (hL : ∀ m, S m ↔ m ∈ L) : Calls Tryz.prog 163 #[.map (some b)] w (PutPost (ordered L) w) := by
  obtain ⟨ks, ⟨es, clock, hb, hks, hnd, hborn⟩, hl, hS⟩ := h
  have hsz : es.size = ks.length := by have := congrArg List.length hks; simpa using this
  refine (sorted_walk b es clock ks w hb hks hborn (by omega)).mono ?_
  rintro e w' ⟨cap, rfl, hown, q⟩
  have e0 : (ks.mergeSort fun x y => decide (x ≤ y)) = ordered L := by
    have h1 : msort ks = ordered ks := msort_ordered hnd
    have h2 : ordered ks = ordered L := ordered_of (ordered_inc ks) fun m => by rw [ordered_mem, hS, hL]
    exact h1.trans h2
  have el : (ordered L).length = ks.length := by rw [← e0]; exact List.length_mergeSort ks
  rw [e0, ← el] at hown
  exact ⟨_, 0, cap, by rw [el], ints_of_own' hown, q⟩
end Go.Proofs.R29
end
