/- Sets of numbers (map[int]bool, all true) that the call itself has made: make, store, delete, look up, count. -/
import Derived.Test.YtojknjmcmadhcaaGreatDoorAc
import Derived.Maps.Own
import Derived.Below
import Derived.OwnWalk
import Derived.Test.YtojknjmcmadhcaaGreatDoorBl
import Derived.Test.YtojknjmcmadhcaaGreatDoorBv
import Derived.Test.YtojknjmcmadhcaaGreatDoorAh
import Derived.Deep.WholeRow
import Derived.Deep.MidRow
import Derived.ArgAppend
import Derived.Maps.OwnOps
import Derived.Carry
import Derived.Lib.Hide

section
namespace Go.Proofs.R50
open Go.Abs Go.ChangeMaps Go.MapKept

/-- Block b of w is a map with the keys ks. -/
def OwnKeys (w : World) (b : Nat) (ks : List Int) : Prop := ∃ (es : Array MapEntry) (clock : Nat), w.heap[b]? = some (.map es clock) ∧ es.toList.map (·.key) = ks.map (Value.int .i64) ∧ ks.Nodup ∧ bornsOk clock (es.toList.map (·.born)) = true ∧ ∀ e ∈ es.toList, e.val = .bool true

/-- Block b of w is a map of at most n keys: the numbers of S. -/
def OwnSet (w : World) (b n : Nat) (S : Int → Prop) : Prop := ∃ ks, OwnKeys w b ks ∧ ks.length ≤ n ∧ ∀ m, m ∈ ks ↔ S m

theorem OwnKeys.lt {w : World} {b : Nat} {ks : List Int} (h : OwnKeys w b ks) : b < w.heap.size := by
  obtain ⟨es, clock, hb, _⟩ := h
  exact (Array.getElem?_eq_some_iff.1 hb).1
theorem OwnSet.lt {w : World} {b n : Nat} {S : Int → Prop} (h : OwnSet w b n S) : b < w.heap.size := by
  obtain ⟨ks, h, _⟩ := h
  exact h.lt
theorem OwnKeys.of_block {w w' : World} {b : Nat} {ks : List Int} (h : OwnKeys w b ks) (e : w'.heap[b]? = w.heap[b]?) : OwnKeys w' b ks := by
  obtain ⟨es, clock, hb, r⟩ := h
  exact ⟨es, clock, e.trans hb, r⟩
theorem OwnSet.of_block {w w' : World} {b n : Nat} {S : Int → Prop} (h : OwnSet w b n S) (e : w'.heap[b]? = w.heap[b]?) : OwnSet w' b n S := by
  obtain ⟨ks, h, r⟩ := h
  exact ⟨ks, h.of_block e, r⟩
theorem OwnSet.grown {w w' : World} {b n : Nat} {S : Int → Prop} {row : Option Nat} (h : OwnSet w b n S) (hg : w.grownBy w' row) (hne : some b ≠ row) : OwnSet w' b n S := h.of_block (hg.block b h.lt hne)
theorem OwnSet.congr {w : World} {b n : Nat} {S S' : Int → Prop} (h : OwnSet w b n S) (e : ∀ m, S m ↔ S' m) : OwnSet w b n S' := by
  obtain ⟨ks, h1, h2, h3⟩ := h
  exact ⟨ks, h1, h2, fun m => (h3 m).trans (e m)⟩
theorem OwnSet.mono {w : World} {b n n' : Nat} {S : Int → Prop} (h : OwnSet w b n S) (e : n ≤ n') : OwnSet w b n' S := by
  obtain ⟨ks, h1, h2, h3⟩ := h
  exact ⟨ks, h1, by omega, h3⟩

theorem ownSet_made (w : World) : OwnSet (w.alloc (.map #[] 0)) w.heap.size 0 fun _ => False :=
  ⟨[], ⟨#[], 0, (MapKept.heap_alloc w _).1, rfl, List.nodup_nil, rfl, by simp⟩, Nat.le_refl _, fun m => by simp⟩

theorem find_int (n : Int) : ∀ (ks : List Int) (i : Nat), (n ∉ ks ∧ findK (.int .i64 n) (ks.map (Value.int .i64)) i = some none) ∨ (∃ j, ks[j]? = some n ∧ findK (.int .i64 n) (ks.map (Value.int .i64)) i = some (some (i + j)))
  | [], i => .inl ⟨by simp, rfl⟩
  | k :: ks, i => by
    by_cases h : n = k
    · subst h
      exact .inr ⟨0, rfl, by simp [findK, sameKey]⟩
    · have hb : (n == k) = false := by simp [h]
      rcases find_int n ks (i + 1) with ⟨h1, h2⟩ | ⟨j, h1, h2⟩
      · exact .inl ⟨by simp [h, h1], by simp [findK, sameKey, hb, h2]⟩
      · exact .inr ⟨j + 1, by simpa using h1, by simp [findK, sameKey, hb, h2]; omega⟩

section
variable {P : Program} {t k e : TypeId}

theorem check_int (hk : P.underlying k = some (.int .i64)) (n : Int) (b : Bool) (w : World) : (Instr.checkKey b 10000 k (.int .i64 n)).run P w = .ok () w := by
  have e : Instr.checkKey b 10000 k (.int .i64 n) = Instr.checkKey b (9999 + 1) k (.int .i64 n) := rfl
  rw [e]
  unfold Instr.checkKey
  simp [Sem.run_bind, run_under hk, Result.andThen_ok]

theorem same_int (n : Int) : ∀ x r, sameKey (.int .i64 n) x = some r → Instr.sameNow (.int .i64) (.int .i64 n) x = some r := by
  intro x r hr
  cases x <;> simp only [sameKey] at hr <;> (try cases hr)
  exact hr

theorem bornsOk_push {clock : Nat} : ∀ {l : List Nat}, bornsOk clock l = true → bornsOk (clock + 1) (l ++ [clock]) = true
  | [], _ => by simp [bornsOk, freshB]
  | b :: r, h => by
    simp only [bornsOk, Bool.and_eq_true] at h
    obtain ⟨h1, h2, h3⟩ := h
    have hlt : b < clock := by rwa [Nat.blt_eq] at h1
    have f : ∀ l : List Nat, freshB b l = true → freshB b (l ++ [clock]) = true := by
      intro l
      induction l with
      | nil =>
        intro _
        have hne : Nat.beq b clock = false := by
          cases hq : Nat.beq b clock with
          | false => rfl
          | true => have := Nat.eq_of_beq_eq_true hq; omega
        simp [freshB, hne]
      | cons c l ih =>
        intro h
        simp only [List.cons_append, freshB] at h ⊢
        cases hq : Nat.beq b c with
        | true => rw [hq] at h; exact absurd h (by simp)
        | false => rw [hq] at h; exact ih h
    simp only [List.cons_append, bornsOk, Bool.and_eq_true]
    exact ⟨by rw [Nat.blt_eq]; omega, f _ h2, bornsOk_push h3⟩

theorem bornsOk_erase {clock : Nat} : ∀ {l : List Nat} (i : Nat), bornsOk clock l = true → bornsOk clock (l.eraseIdx i) = true
  | [], i, h => by simpa using h
  | b :: r, 0, h => by
    simp only [bornsOk, Bool.and_eq_true] at h
    simpa using h.2.2
  | b :: r, i + 1, h => by
    simp only [bornsOk, Bool.and_eq_true] at h
    obtain ⟨h1, h2, h3⟩ := h
    have f : ∀ (l : List Nat) (i : Nat), freshB b l = true → freshB b (l.eraseIdx i) = true := by
      intro l
      induction l with
      | nil => intro i h; simpa using h
      | cons c l ih =>
        intro i h
        simp only [freshB] at h
        cases hq : Nat.beq b c with
        | true => rw [hq] at h; exact absurd h (by simp)
        | false =>
          rw [hq] at h
          cases i with
          | zero => simpa using h
          | succ i => simp only [List.eraseIdx_cons_succ, freshB, hq]; exact ih i h
    simp only [List.eraseIdx_cons_succ, bornsOk, Bool.and_eq_true]
    exact ⟨h1, f _ _ h2, bornsOk_erase i h3⟩

theorem grown_setBlock {w : World} {b : Nat} {o : Obj} {es : Array MapEntry} {clock : Nat} (h : w.heap[b]? = some (.map es clock)) : w.grownBy (setBlock w b o) (some b) :=
  ⟨rfl, rfl, rfl, by simp [setBlock], fun i _ hi => heap_setBlock_other h _ (fun e => hi (by rw [e]))⟩

theorem modify_all {α : Type} (p : α → Prop) (f : α → α) : ∀ (l : List α) (j : Nat), (∀ a ∈ l, p a) → (∀ a, p a → p (f a)) → ∀ a ∈ l.modify j f, p a
  | [], j, _, _, a, ha => by cases j <;> simp at ha
  | x :: l, 0, h, hf, a, ha => by
    simp only [List.modify_zero_cons, List.mem_cons] at ha
    rcases ha with rfl | ha
    · exact hf _ (h _ (by simp))
    · exact h _ (by simp [ha])
  | x :: l, j + 1, h, hf, a, ha => by
    simp only [List.modify_succ_cons, List.mem_cons] at ha
    rcases ha with rfl | ha
    · exact h _ (by simp)
    · exact modify_all p f l j (fun y hy => h y (by simp [hy])) hf a ha

/-- How many keys. -/
def cnt (w : World) (b : Nat) : Nat := match w.heap[b]? with | some (.map es _) => es.size | _ => 0

theorem cnt_of {w : World} {b : Nat} {es : Array MapEntry} {clock : Nat} (h : w.heap[b]? = some (.map es clock)) : cnt w b = es.size := by simp [cnt, h]

theorem run_lookup_int (ht : P.underlying t = some (.map k e)) (hk : P.underlying k = some (.int .i64)) {w : World} (hz : (zeroValue e).run P w = .ok (.bool false) w) {b n : Nat} {S : Int → Prop} (h : OwnSet w b n S) (m : Int) :
    ∃ r : Bool, (Instr.lookup t (.map (some b)) (.int .i64 m) false).run P w = .ok (.bool r) w ∧ (r = true ↔ S m) := by
  obtain ⟨ks, ⟨es, clock, hb, hks, hnd, hborn, htr⟩, hn, hS⟩ := h
  have hents : Ents (ks.map (Value.int .i64)) (es.toList.map (·.val)) es := ⟨hks, rfl⟩
  rcases find_int m ks 0 with ⟨h1, h2⟩ | ⟨j, h1, h2⟩
  · obtain ⟨hrun, _⟩ := run_findKey (P := P) hk (same_int m) hents h2 w
    refine ⟨false, ?_, by simp; exact fun q => h1 ((hS m).2 q)⟩
    simp only [Instr.lookup, Sem.run_bind, run_under ht, Result.andThen_ok, Go.Abs.run_getObj_map hb, check_int hk, hrun, Option.bind_none, Sem.run_pure, hz]
    rfl
  · rw [Nat.zero_add] at h2
    obtain ⟨e0, he, hrun, hek, _⟩ := find_entry hk (same_int m) hents h2 w
    have hv : e0.val = .bool true := htr e0 (by rw [← Array.getElem?_toList] at he; exact List.mem_of_getElem? he)
    refine ⟨true, ?_, by simp; exact (hS m).1 (List.mem_of_getElem? h1)⟩
    simp only [Instr.lookup, Sem.run_bind, run_under ht, Result.andThen_ok, Go.Abs.run_getObj_map hb, check_int hk, hrun, Sem.run_pure, hv]
    rfl

theorem run_len_int (ht : P.underlying t = some (.map k e)) {w : World} {b n : Nat} {S : Int → Prop} (h : OwnSet w b n S) (ts : Array TypeId) (hts : ts[0]? = some t) (ty : TypeId) : (Builtin.len_ ts ty #[.map (some b)]).run P w = .ok (.int .i64 (cnt w b)) w := by
  obtain ⟨ks, ⟨es, clock, hb, hks, hnd, hborn, htr⟩, hn, hS⟩ := h
  have e0 : (#[Value.map (some b)] : Array Value)[0]? = some (.map (some b)) := rfl
  simp [Builtin.len_, hts, Sem.run_bind, run_under ht, Result.andThen, getObj, Sem.run, hb, goInt, cnt]

theorem cnt_zero {w : World} {b n : Nat} {S : Int → Prop} (h : OwnSet w b n S) (h0 : cnt w b = 0) (m : Int) : ¬ S m := by
  obtain ⟨ks, ⟨es, clock, hb, hks, hnd, hborn, htr⟩, hn, hS⟩ := h
  have : es.size = 0 := by simpa [cnt, hb] using h0
  have hl : ks = [] := by
    have := congrArg List.length hks
    cases ks with
    | nil => rfl
    | cons a r => simp at this; omega
  rw [← hS, hl]
  simp

theorem nodup_le : ∀ {l l' : List Int}, l.Nodup → (∀ m ∈ l, m ∈ l') → l.length ≤ l'.length
  | [], _, _, _ => Nat.zero_le _
  | a :: r, l', hn, hs => by
    obtain ⟨h1, h2⟩ := List.nodup_cons.1 hn
    have ha := hs a (by simp)
    have := nodup_le (l := r) (l' := l'.erase a) h2 fun m hm => (List.mem_erase_of_ne (fun e => h1 (by rw [← e]; exact hm))).2 (hs m (by simp [hm]))
    rw [List.length_erase_of_mem ha] at this
    have := List.length_pos_of_mem ha
    simp only [List.length_cons]
    omega

theorem cnt_le {w : World} {b n : Nat} {S : Int → Prop} (h : OwnSet w b n S) (L : List Int) (hL : ∀ m, S m → m ∈ L) : cnt w b ≤ L.length := by
  obtain ⟨ks, ⟨es, clock, hb, hks, hnd, hborn, htr⟩, hn, hS⟩ := h
  have e : cnt w b = ks.length := by
    have := congrArg List.length hks
    simpa [cnt, hb] using this
  rw [e]
  exact nodup_le hnd fun m hm => hL m ((hS m).1 hm)

theorem cnt_same {w w' : World} {b : Nat} (h : w'.heap[b]? = w.heap[b]?) : cnt w' b = cnt w b := by simp [cnt, h]

theorem run_update_int (ht : P.underlying t = some (.map k e)) (hk : P.underlying k = some (.int .i64)) {w : World} {b n : Nat} {S : Int → Prop} (h : OwnSet w b n S) (m : Int) :
    ∃ w', (Instr.mapUpdate t (.map (some b)) (.int .i64 m) (.bool true)).run P w = .ok () w' ∧ OwnSet w' b (n + 1) (fun z => z = m ∨ S z) ∧ w.grownBy w' (some b) ∧ (¬ S m → cnt w' b = cnt w b + 1) ∧ w'.heap.size = w.heap.size := by
  obtain ⟨ks, ⟨es, clock, hb, hks, hnd, hborn, htr⟩, hn, hS⟩ := h
  have hlt : b < w.heap.size := (Array.getElem?_eq_some_iff.1 hb).1
  have hents : Ents (ks.map (Value.int .i64)) (es.toList.map (·.val)) es := ⟨hks, rfl⟩
  rcases find_int m ks 0 with ⟨h1, h2⟩ | ⟨j, h1, h2⟩
  · obtain ⟨hrun, _⟩ := run_findKey (P := P) hk (same_int m) hents h2 w
    refine ⟨setBlock w b (.map (es.push { key := .int .i64 m, val := .bool true, born := clock }) (clock + 1)), ?_, ⟨ks ++ [m], ⟨_, _, heap_setBlock_same hb _, ?_, ?_, ?_, ?_⟩, by simp; omega, fun z => ?_⟩, grown_setBlock hb, fun _ => by rw [cnt_of (heap_setBlock_same hb _), cnt_of hb]; simp, by simp [setBlock]⟩
    · simp only [Instr.mapUpdate, Sem.run_bind, run_under ht, Result.andThen_ok, Go.Abs.run_getObj_map hb, check_int hk, hrun, Option.bind_none, Go.Abs.run_setObj hb]
      rfl
    · simp [hks]
    · exact List.nodup_append.2 ⟨hnd, by simp, fun a ha c hc => by simp at hc; subst hc; rintro rfl; exact h1 ha⟩
    · rw [Array.toList_push, List.map_append]
      exact bornsOk_push hborn
    · intro e he
      rw [Array.toList_push, List.mem_append] at he
      rcases he with he | he
      · exact htr e he
      · simp at he; rw [he]
    · rw [List.mem_append, hS]
      simp
      exact Or.comm
  · rw [Nat.zero_add] at h2
    obtain ⟨e0, he, hrun, hek, _⟩ := find_entry hk (same_int m) hents h2 w
    refine ⟨setBlock w b (.map (es.modify j fun e => { e with key := .int .i64 m, val := .bool true }) clock), ?_, ⟨ks, ⟨_, _, heap_setBlock_same hb _, ?_, hnd, ?_, ?_⟩, by omega, fun z => ?_⟩, grown_setBlock hb, fun q => absurd ((hS m).1 (List.mem_of_getElem? h1)) q, by simp [setBlock]⟩
    · have hst : (Instr.keyThatStays (((es[j]?).map (·.key)).getD (.int .i64 m)) (.int .i64 m)).run P w = .ok (.int .i64 m) w := by
        rw [he]
        simp only [Option.map_some, Option.getD_some, hek, Instr.keyThatStays]
        have : sameKey (.int .i64 m) (.int .i64 m) = some true := by simp [sameKey]
        rw [if_pos (sameBits_key this _)]
        rfl
      simp only [Instr.mapUpdate, Sem.run_bind, run_under ht, Result.andThen_ok, Go.Abs.run_getObj_map hb, check_int hk, hrun, hst, Go.Abs.run_setObj hb]
      rfl
    · rw [Array.toList_modify, map_modify_same MapEntry.key _ _ _ (fun a ha => by
        rw [Array.getElem?_toList, he] at ha; cases ha; exact hek.symm)]
      exact hks
    · rw [Array.toList_modify, map_modify_same MapEntry.born _ _ _ (by intros; rfl)]
      exact hborn
    · intro e he
      rw [Array.toList_modify] at he
      exact modify_all (fun (e : MapEntry) => e.val = .bool true) _ _ _ htr (fun _ _ => rfl) e he
    · rw [hS]
      constructor
      · exact .inr
      · rintro (rfl | q)
        · exact (hS _).1 (List.mem_of_getElem? h1)
        · exact q

theorem mem_eraseIdx : ∀ {ks : List Int} {j : Nat} (h : j < ks.length), ks.Nodup → ∀ {z : Int}, z ∈ ks.eraseIdx j ↔ z ∈ ks ∧ z ≠ ks[j]
  | [], _, h, _, _ => by simp at h
  | k :: ks, 0, _, hn, z => by
    obtain ⟨h1, h2⟩ := List.nodup_cons.1 hn
    simp only [List.eraseIdx_cons_zero, List.getElem_cons_zero, List.mem_cons]
    constructor
    · intro q
      exact ⟨.inr q, fun e => h1 (e ▸ q)⟩
    · rintro ⟨q | q, r⟩
      · exact absurd q r
      · exact q
  | k :: ks, j + 1, h, hn, z => by
    obtain ⟨h1, h2⟩ := List.nodup_cons.1 hn
    have hj : j < ks.length := by simpa using h
    simp only [List.eraseIdx_cons_succ, List.getElem_cons_succ, List.mem_cons]
    rw [mem_eraseIdx hj h2]
    constructor
    · rintro (q | ⟨q, r⟩)
      · refine ⟨.inl q, fun e => h1 ?_⟩
        rw [← q, e]
        exact List.getElem_mem _
      · exact ⟨.inr q, r⟩
    · rintro ⟨q | q, r⟩
      · exact .inl q
      · exact .inr ⟨q, r⟩

theorem run_delete_int (ht : P.underlying t = some (.map k e)) (hk : P.underlying k = some (.int .i64)) {w : World} {b n : Nat} {S : Int → Prop} (h : OwnSet w b n S) (m : Int) (ts : Array TypeId) (hts : ts[0]? = some t) (ty : TypeId) :
    ∃ w', (Builtin.delete_ ts ty #[.map (some b), .int .i64 m]).run P w = .ok (.tuple #[]) w' ∧ OwnSet w' b n (fun z => S z ∧ z ≠ m) ∧ w.grownBy w' (some b) := by
  obtain ⟨ks, ⟨es, clock, hb, hks, hnd, hborn, htr⟩, hn, hS⟩ := h
  have hlt : b < w.heap.size := (Array.getElem?_eq_some_iff.1 hb).1
  have hents : Ents (ks.map (Value.int .i64)) (es.toList.map (·.val)) es := ⟨hks, rfl⟩
  have e0 : (#[Value.map (some b), .int .i64 m] : Array Value)[0]? = some (.map (some b)) := rfl
  have e1 : (#[Value.map (some b), .int .i64 m] : Array Value)[1]? = some (.int .i64 m) := rfl
  rcases find_int m ks 0 with ⟨h1, h2⟩ | ⟨j, h1, h2⟩
  · obtain ⟨hrun, _⟩ := run_findKey (P := P) hk (same_int m) hents h2 w
    refine ⟨setBlock w b (.map es clock), ?_, ⟨ks, ⟨_, _, heap_setBlock_same hb _, hks, hnd, hborn, htr⟩, hn, fun z => ?_⟩, grown_setBlock hb⟩
    · simp only [Builtin.delete_, hts, e0, e1, Sem.run_bind, run_under ht, Result.andThen_ok, Go.Abs.run_getObj_map hb, check_int hk, hrun, Option.bind_none, Go.Abs.run_setObj hb, Sem.run_pure]
      rfl
    · rw [hS]
      constructor
      · intro q
        exact ⟨q, fun e => h1 (e ▸ (hS z).2 q)⟩
      · exact fun q => q.1
  · rw [Nat.zero_add] at h2
    obtain ⟨e2, he, hrun, hek, _⟩ := find_entry hk (same_int m) hents h2 w
    have mapE : ∀ {β : Type} (f : MapEntry → β) (l : List MapEntry) (j : Nat), (l.eraseIdx j).map f = (l.map f).eraseIdx j := by
      intro β f l j
      rw [List.eraseIdx_eq_take_drop_succ, List.eraseIdx_eq_take_drop_succ, List.map_append, List.map_take, List.map_drop]
    have hj : j < ks.length := by
      rcases Nat.lt_or_ge j ks.length with q | q
      · exact q
      · rw [List.getElem?_eq_none q] at h1; cases h1
    have hval : ks[j] = m := by rw [List.getElem?_eq_getElem hj] at h1; exact Option.some.inj h1
    refine ⟨setBlock w b (.map (es.eraseIdxIfInBounds j) clock), ?_, ⟨ks.eraseIdx j, ⟨_, _, heap_setBlock_same hb _, ?_, ?_, ?_, ?_⟩, ?_, fun z => ?_⟩, grown_setBlock hb⟩
    · simp only [Builtin.delete_, hts, e0, e1, Sem.run_bind, run_under ht, Result.andThen_ok, Go.Abs.run_getObj_map hb, check_int hk, hrun, Go.Abs.run_setObj hb, Sem.run_pure]
      rfl
    · rw [Array.toList_eraseIdxIfInBounds, mapE, hks]
      rw [List.eraseIdx_eq_take_drop_succ, List.eraseIdx_eq_take_drop_succ, List.map_append, List.map_take, List.map_drop]
    · exact hnd.sublist (List.eraseIdx_sublist _ _)
    · rw [Array.toList_eraseIdxIfInBounds, mapE]
      exact bornsOk_erase j hborn
    · intro e he
      rw [Array.toList_eraseIdxIfInBounds] at he
      exact htr e (List.mem_of_mem_eraseIdx he)
    · have := List.length_eraseIdx_le ks j
      omega
    · rw [mem_eraseIdx hj hnd, hval]; exact and_congr_left fun _ => hS z
end
end Go.Proofs.R50
end

/- Some key of a map. -/
section
namespace Go.Proofs.R50
open Go.Abs Go.RowKit Go.ChangeMaps

set_option maxHeartbeats 4000000 in
set_option maxRecDepth 100000 in
theorem any_walk (bm n : Nat) (S : Int → Prop) (w : World) (h : OwnSet w bm n S) (h0 : cnt w bm ≠ 0) :
    Calls Tryz.prog 792 #[.map (some bm)] w fun e w' => ∃ k, S k ∧ e = .returned (.int .i64 k) ∧ Below w.heap.size w w' := by
  obtain ⟨ks, ⟨es, clock, hb, hk, hnd0, hborn, htr⟩, hn, hS⟩ := h
  have hbm := (Array.getElem?_eq_some_iff.1 hb).1
  rw [cnt_of hb] at h0
  go_enter Tryz.func792, Tryz.ntmps792
  go_wp2_with (at_range; refine wpList_range_at _ rfl _ 468 rfl 3 4 Tryz.underlying468 bm es clock rfl hb ?_)
  go_frame
  obtain ⟨hnd, hold⟩ := bornsOk_ok hborn
  have hold' : ∀ x ∈ es.toList, x.born < clock := fun x hx => hold _ (List.mem_map_of_mem hx)
  have hit0 : (w.alloc (.mapIter (some bm) clock #[] clock)).heap[w.heap.size]? = some (.mapIter (some bm) clock #[] clock) := heap_alloc_at _ _
  have hb0 : (w.alloc (.mapIter (some bm) clock #[] clock)).heap[bm]? = some (.map es clock) := (heap_alloc_lt _ _ (by omega)).trans hb
  have bel0 : Below w.heap.size w (w.alloc (.mapIter (some bm) clock #[] clock)) := (Below.refl _ w).alloc (by omega) _
  go_loopw [] (fun wr => wr = w.alloc (.mapIter (some bm) clock #[] clock)) (fun _ => 0)
  case atStart => rfl
  case round =>
    subst hrel
    refine wp_seq_k fun K1 hK1 => ?_
    refine wp_region_list ?_
    refine wpList_next_at _ rfl _ rfl w.heap.size bm clock clock #[] es clock rfl hit0 hb0 hold' (Nat.le_refl _) ?_ ?_
    · intro h1
      have h2 : (leftOf es #[]).toList = es.toList := by simp [leftOf]
      have h3 := congrArg List.length h2
      simp at h3
      omega
    · intro e he w2 hw2
      obtain ⟨hem, hes⟩ := mem_left he
      obtain ⟨x, hx, hxk⟩ : ∃ x, e.key = .int .i64 x ∧ x ∈ ks := by
        have : e.key ∈ es.toList.map (·.key) := List.mem_map_of_mem hem
        rw [hk] at this
        obtain ⟨x, hx, h⟩ := List.mem_map.1 this
        exact ⟨x, h.symm, hx⟩
      have hsz2 : w2.heap = (w.alloc (.mapIter (some bm) clock #[] clock)).heap := by rcases hw2 with rfl | rfl <;> rfl
      have bel2 : Below w.heap.size w w2 := by rcases hw2 with rfl | rfl; exact bel0; exact bel0.drew
      obtain ⟨w3, hw3⟩ : ∃ w3, setBlock w2 w.heap.size (.mapIter (some bm) clock (#[].push e.born) clock) = w3 := ⟨_, rfl⟩
      rw [hw3, hx]
      have hlt1 : w.heap.size < w2.heap.size := by rw [hsz2]; exact (Array.getElem?_eq_some_iff.1 hit0).1
      have ho3 : ∀ k, k ≠ w.heap.size → w3.heap[k]? = w2.heap[k]? := fun k hk => by rw [← hw3]; exact Array.getElem?_setIfInBounds_ne (fun q => hk q.symm)
      have hit3 : w3.heap[w.heap.size]? = some (.mapIter (some bm) clock (#[].push e.born) clock) := by rw [← hw3]; simp [setBlock, hlt1]
      have hb3 : w3.heap[bm]? = some (.map es clock) := by rw [ho3 _ (by omega), hsz2]; exact hb0
      have hs3 : w3.heap.size = w2.heap.size := by rw [← hw3]; simp [setBlock]
      have hg3 : w2.grownBy w3 (some w.heap.size) := by
        refine ⟨by rw [← hw3]; rfl, by rw [← hw3]; rfl, by rw [← hw3]; rfl, by rw [hs3]; exact Nat.le_refl _, fun k _ hk => ho3 k (fun q => hk (by rw [q]))⟩
      have bel3 : Below w.heap.size w w3 := bel2.grown hg3 bel2.size (fun k h => by cases h; omega)
      have hen : (Instr.entry (.pointer (some ⟨w.heap.size, 0, none⟩))).run Tryz.prog w3 = .ok (.tuple #[.int .i64 x, e.val]) w3 := by
        have := run_entry_at (P := Tryz.prog) w3 w.heap.size bm clock #[] es clock e hit3 hb3 hem hnd
        rw [hx] at this; exact this
      clear hit0 hb0 bel0 hit3 hb3 hs3 hg3 ho3 bel2 hsz2 hlt1
      go_wp2
      go_ret
      exact ⟨x, (hS x).1 hxk, rfl, bel3⟩
end Go.Proofs.R50
end

/- joining.origin: the parts. -/
section
namespace Go.Proofs.R50
open Go.Abs Go.ChangeShapes Go.WideShapes Go.ChangeAt Go.RowKit Go.Shelf

section
variable {P : Program}
theorem wpList_copy_new {ops : Array Oper} {rest : List Oper} {op : Oper} {a : Act} {w : World} {Q : Exit → Act → World → Prop} (hgd : op.guard = none) (t : TypeId) (x y : Operand) (ho : op.op = .store t x y)
    (c c' : Array Value) (hx : a.eval x = .pointer (some ⟨w.heap.size, 0, none⟩)) (hy : a.eval y = .agg c') (hi : (P.info? t).map (·.size) = some c'.size) (hs : c.size = c'.size) (h1 : c'.all (·.oneCell') = true)
    (h : wpList P ops Q rest (a.put op.dst undef) (w.alloc (.cells c' t))) : wpList P ops Q (op :: rest) a (w.alloc (.cells c t)) :=
  wpList_plain hgd fun K hK => by
    unfold Oper.wp execOp
    simp only [ho, hx, hy, run_storeAt_new w t c c' hi hs h1, Sem.run_bind, Sem.run_pure, Result.andThen_ok]
    exact hK _ _ h

theorem wpList_update_int {ops : Array Oper} {rest : List Oper} {o : Oper} {a : Act} {w : World} {Q : Exit → Act → World → Prop} (hg : o.guard = none) (m x v : Operand) (t k e : TypeId) (hop : o.op = Op.mapUpdate t m x v)
    (ht : P.underlying t = some (.map k e)) (hk : P.underlying k = some (.int .i64)) (b n : Nat) (S : Int → Prop) (hown : OwnSet w b n S) (hm : a.eval m = .map (some b)) (z : Int) (hx : a.eval x = .int .i64 z) (hv : a.eval v = .bool true)
    (hK : ∀ w', OwnSet w' b (n + 1) (fun y => y = z ∨ S y) → w.grownBy w' (some b) → (¬ S z → cnt w' b = cnt w b + 1) → wpList P ops Q rest (a.put o.dst undef) w') : wpList P ops Q (o :: rest) a w := by
  refine wpList_plain hg fun K' hK' => ?_
  obtain ⟨w', hrun, r1, r2, r3, _⟩ := run_update_int ht hk hown z
  unfold Oper.wp
  simp [execOp, hop, hm, hx, hv, hrun, Result.andThen]
  exact hK' _ _ (hK w' r1 r2 r3)

theorem wpList_delete_int {ops : Array Oper} {rest : List Oper} {o : Oper} {a : Act} {w : World} {Q : Exit → Act → World → Prop} (hg : o.guard = none) (m x : Operand) (t t' k e : TypeId) (hop : o.op = .call { callee := .builtin .delete, args := #[m, x], argTypes := #[t, t'] })
    (ht : P.underlying t = some (.map k e)) (hk : P.underlying k = some (.int .i64)) (b n : Nat) (S : Int → Prop) (hown : OwnSet w b n S) (hm : a.eval m = .map (some b)) (z : Int) (hx : a.eval x = .int .i64 z)
    (hK : ∀ w', OwnSet w' b n (fun y => S y ∧ y ≠ z) → w.grownBy w' (some b) → wpList P ops Q rest (a.put o.dst (.tuple #[])) w') : wpList P ops Q (o :: rest) a w := by
  refine wpList_plain hg fun K' hK' => ?_
  obtain ⟨w', hrun, r1, r2⟩ := run_delete_int ht hk hown z #[t, t'] rfl o.type
  unfold Oper.wp execOp
  simp only [hop, resolve, invoke, builtin, Sem.run_bind, Sem.run_pure, Result.andThen_ok, List.map_toArray, List.map_cons, List.map_nil, hm, hx, hrun]
  exact hK' _ _ (hK w' r1 r2)

theorem wpList_lookup_set {ops : Array Oper} {rest : List Oper} {o : Oper} {a : Act} {w : World} {Q : Exit → Act → World → Prop} (hg : o.guard = none) (m x : Operand) (t k e : TypeId) (hop : o.op = Op.lookup t m x false)
    (ht : P.underlying t = some (.map k e)) (hk : P.underlying k = some (.int .i64)) (hz : ∀ w : World, (zeroValue e).run P w = .ok (.bool false) w) (b n : Nat) (S : Int → Prop) (hown : OwnSet w b n S) (hm : a.eval m = .map (some b)) (z : Int) (hx : a.eval x = .int .i64 z)
    (hK : ∀ r : Bool, (r = true ↔ S z) → wpList P ops Q rest (a.put o.dst (.bool r)) w) : wpList P ops Q (o :: rest) a w := by
  refine wpList_plain hg fun K' hK' => ?_
  obtain ⟨r, hrun, h⟩ := run_lookup_int ht hk (hz w) hown z
  unfold Oper.wp
  simp [execOp, hop, hm, hx, hrun, Result.andThen]
  exact hK' _ _ (hK r h)
end

theorem zero4 (w : World) : (zeroValue 4).run Tryz.prog w = .ok (.bool false) w := by
  have h : Tryz.t4.zero = some (.bool false) := by kernel_rfl
  simp [zeroValue, Sem.run_bind, h]

theorem under169b : Tryz.prog.underlying 169 = some (.struct (Tryz.prog.underlying 169 |>.elim #[] fun | .struct fs => fs | _ => #[])) := by kernel_rfl
theorem size169 : (Tryz.prog.info? 169).map (·.size) = some 29 := by kernel_rfl

/-- An event goes into a new variable. -/
theorem list_copy169 {ops : Array Oper} {rest : List Oper} {a : Act} {w : World} {Q : Exit → Act → World → Prop} {dst : Option Tmp} {x y : Operand} {ty : TypeId} {ps : String} {af : Array Edge}
    (c : Array Value) (cs : List Value) {t t' : TypeId} {gd : Option (Tmp × Bool)} (ht : t = 169) (ht' : t' = 169) (hg : gd = none) (hs : c.size = 29) (hl : Hid (cs.length = 29)) (h1 : Hid (∀ v ∈ cs, v.oneCell' = true)) (hx : a.eval x = .pointer (some ⟨w.heap.size, 0, none⟩)) (hy : a.eval y = .agg cs.toArray)
    (h : wpList Tryz.prog ops Q rest (a.put dst undef) (w.alloc (.cells cs.toArray 169))) : wpList Tryz.prog ops Q ({ dst := dst, op := .store t x y, type := ty, pos := ps, after := af, guard := gd } :: rest) a (w.alloc (.cells c t')) := by
  subst ht ht' hg
  have hl : cs.length = 29 := hl
  exact wpList_copy_new rfl 169 x y rfl c _ hx hy (by rw [size169]; simp [hl]) (by simp [hs, hl]) (all_oneCell_toArray h1) h

/-- A slice of numbers in blocks below lo or from hi on. -/
def ShI (lo hi : Nat) (w : World) (v : Value) (xs : List Int) : Prop :=
  ∃ ao cap, v = .slice ao xs.length cap ∧ ∀ j z, xs[j]? = some z → ∃ b o, ao = some ⟨b, o, none⟩ ∧ (b < lo ∨ hi ≤ b) ∧ w.cell? ⟨b, o + j, none⟩ = some (.int .i64 z)

theorem cell_lt {w : World} {b o : Nat} {v : Value} (h : w.cell? ⟨b, o, none⟩ = some v) : b < w.heap.size := by
  rcases Nat.lt_or_ge b w.heap.size with q | q
  · exact q
  · have : w.heap[b]? = none := Array.getElem?_eq_none q
    simp [World.cell?, this] at h

theorem ShI.on {lo hi : Nat} {w w' : World} {v : Value} {xs : List Int} (h : ShI lo hi w v xs) (hb : ∀ b, (b < lo ∨ hi ≤ b) → b < w.heap.size → w'.heap[b]? = w.heap[b]?) : ShI lo hi w' v xs := by
  obtain ⟨ao, cap, e, h⟩ := h
  refine ⟨ao, cap, e, fun j z hj => ?_⟩
  obtain ⟨b, o, e2, hlt, hc⟩ := h j z hj
  exact ⟨b, o, e2, hlt, (cell_same (hb b hlt (cell_lt hc))).trans hc⟩

noncomputable def intsE : List (List AV) → Option (List Int)
  | [] => some []
  | [.sc (.int .i64 n)] :: r => match intsE r with | some l => some (n :: l) | none => none
  | _ => none
noncomputable def intsA : AV → Option (List Int)
  | .sc (.slice none 0 0) => some []
  | .isl es _ => intsE es
  | _ => none

theorem intsE_tvs {w : World} {I : Nat → Nat → Prop} {J : Nat → Prop} : ∀ {es : List (List AV)} {l : List Int} {vs : List Value}, intsE es = some l → TVs w I J es.flatten vs → vs = l.map (Value.int .i64) ∧ es.length = l.length
  | [], l, vs, h, hv => by
    cases h
    cases hv
    exact ⟨rfl, rfl⟩
  | e :: r, l, vs, h, hv => by
    unfold intsE at h
    split at h
    · rename_i h2; cases h2
    · rename_i n r' h2
      cases h2
      split at h
      · rename_i l' hl
        cases h
        cases hv with
        | cons h1 h2 =>
          cases h1
          obtain ⟨rfl, e⟩ := intsE_tvs hl h2
          exact ⟨rfl, by simp [e]⟩
      · cases h
    · cases h

theorem shI_of {w : World} {I : Nat → Nat → Prop} {J : Nat → Prop} {lo hi : Nat} (hI : ∀ b off, I b off → b < lo ∨ hi ≤ b) {x : AV} {v : Value} {l : List Int} (h : intsA x = some l) (hv : TV w I J x v) : ShI lo hi w v l := by
  unfold intsA at h
  split at h
  · cases h
    cases hv
    exact ⟨none, 0, rfl, fun j z hj => by simp at hj⟩
  · cases hv with
    | isl h1 h2 h3 h4 h5 =>
      rename_i es cd a vs s cap
      obtain ⟨rfl, e⟩ := intsE_tvs h h1
      refine ⟨some a, cap, by rw [e], fun j z hj => ?_⟩
      obtain ⟨hs, hr⟩ := h2
      obtain ⟨q1, q2⟩ := hr j (.int .i64 z) (by simp [hj])
      obtain ⟨b, o, sp⟩ := a
      simp only at hs q1 q2
      subst hs
      exact ⟨b, o, rfl, hI _ _ q1, q2⟩
  · cases h

theorem tv_oneCell {w : World} {I : Nat → Nat → Prop} {J : Nat → Prop} {x : AV} {v : Value} (h : TV w I J x v) (hs : x.storable = true) : v.oneCell' = true := storable_vr (σ := ⟨w, I, J, id, fun _ => none, fun _ => False⟩) (.tree h) hs

theorem tvs_at {w : World} {I : Nat → Nat → Prop} {J : Nat → Prop} : ∀ {cs : List AV} {vs : List Value}, TVs w I J cs vs → ∀ {i : Nat} {x : AV}, cs[i]? = some x → ∃ v, vs[i]? = some v ∧ TV w I J x v
  | _, _, .nil, i, x, h => by simp at h
  | _, _, .cons h1 h2, 0, x, h => by simp at h; subst h; exact ⟨_, rfl, h1⟩
  | _, _, .cons h1 h2, i + 1, x, h => tvs_at h2 (i := i) (by simpa using h)

theorem tvs_len {w : World} {I : Nat → Nat → Prop} {J : Nat → Prop} : ∀ {cs : List AV} {vs : List Value}, TVs w I J cs vs → vs.length = cs.length
  | _, _, .nil => rfl
  | _, _, .cons h1 h2 => by simp [tvs_len h2]

theorem tvs_one {w : World} {I : Nat → Nat → Prop} {J : Nat → Prop} : ∀ {cs : List AV} {vs : List Value}, TVs w I J cs vs → cs.all AV.storable = true → ∀ v ∈ vs, v.oneCell' = true
  | _, _, .nil, _, v, hv => by cases hv
  | _, _, .cons h1 h2, ha, v, hv => by
    simp only [List.all_cons, Bool.and_eq_true] at ha
    rcases List.mem_cons.1 hv with rfl | hv
    · exact tv_oneCell h1 ha.1
    · exact tvs_one h2 ha.2 v hv

/-- What store.Get answers for a number. -/
structure Got (evs : AV) (n : Int) (ok : Bool) (ra rb : List Int) : Prop where
  val : ∃ cs pa aa, Valid Tryz.prog 161 [evs, .sc (.int .i64 n)] (.ret (.tup [.agg cs, .sc (.bool ok)])) ∧ cs.length = 29 ∧ cs.all AV.storable = true ∧ cs[8]? = some pa ∧ cs[9]? = some aa ∧ intsA pa = some ra ∧ intsA aa = some rb

def GetPost (lo hi : Nat) (w0 : World) (ok : Bool) (ra rb : List Int) (e : Ending) (w' : World) : Prop :=
  ∃ c : List Value, e = .returned (.tuple #[.agg c.toArray, .bool ok]) ∧ c.length = 29 ∧ (∀ x ∈ c, x.oneCell' = true) ∧ (∃ pv av, c[8]? = some pv ∧ c[9]? = some av ∧ ShI lo hi w' pv ra ∧ ShI lo hi w' av rb) ∧ Below w0.heap.size w0 w'

theorem get_post {evs : AV} {n : Int} {ok : Bool} {ra rb : List Int} (h : Got evs n ok ra rb) {I : Nat → Nat → Prop} {J : Nat → Prop} {w : World} {v : Value} (hI : ∀ b off, I b off → b < w.heap.size) (hJ : ∀ b, J b → b < w.heap.size) (hv : TV w I J evs v)
    {wr : World} (q : Below w.heap.size w wr) : Calls Tryz.prog 161 #[v, .int .i64 n] wr (GetPost w.heap.size wr.heap.size wr ok ra rb) := by
  obtain ⟨cs, pa, aa, hval, hl, hst, h8, h9, ha, hb⟩ := h.val
  have hv' : TV wr I J evs v := hv.mono (fun b off hb => ⟨hb, cell_same (q.block b (hI b off hb))⟩) (fun b hb => ⟨hb, q.block b (hJ b hb)⟩)
  refine (hval.2 wr I J _ (fun b off hb => Nat.lt_of_lt_of_le (hI b off hb) q.size) (fun b hb => Nat.lt_of_lt_of_le (hJ b hb) q.size) (.cons hv' (.cons (.sc rfl) .nil))).mono ?_
  rintro e w' ⟨hbel, I', J', _, hI', _, _, ho⟩
  have hI2 : ∀ b off, I' b off → b < w.heap.size ∨ wr.heap.size ≤ b := fun b off hb => by
    rcases hI' b off hb with hb | hb
    · exact .inl (hI b off hb)
    · exact .inr hb.1
  cases e with
  | panicked c => exact ho.elim
  | outgrown => exact ho.elim
  | returned x =>
    cases ho with
    | tup h1 =>
      cases h1 with
      | cons h1 h2 =>
        cases h2 with
        | cons h2 h3 =>
          cases h3
          cases h2
          cases h1 with
          | agg hc =>
            rename_i ds
            obtain ⟨pv, e8, t8⟩ := tvs_at hc h8
            obtain ⟨av, e9, t9⟩ := tvs_at hc h9
            exact ⟨ds, rfl, (tvs_len hc).trans hl, tvs_one hc hst, ⟨pv, av, e8, e9, shI_of hI2 ha t8, shI_of hI2 hb t9⟩, hbel⟩
end Go.Proofs.R50
end

/- joining.origin: the walk. -/
section
namespace Go.Proofs.R50
open Go.Abs Go.ChangeShapes Go.WideShapes Go.ChangeAt Go.RowKit Go.Shelf Go.ChangeMaps

/-- What is known of the numbers that may be met. -/
structure OTab (evs : AV) (id : Int) (D : List Int) (ok : Int → Bool) (ra rb : Int → List Int) : Prop where
  got : ∀ n ∈ D, Got evs n (ok n) (ra n) (rb n)
  refs : ∀ n ∈ D, ∀ m, m ∈ ra n ∨ m ∈ rb n → Got evs m (ok m) (ra m) (rb m) ∧ (ok m = true → m ∈ D)
  short : ∀ n ∈ D, (ra n).length ≤ 1000000 ∧ (rb n).length ≤ 1000000
  mem : id ∈ D
  least : ∀ S : Int → Prop, S id → (∀ n, S n → ∀ m, m ∈ ra n ∨ m ∈ rb n → ok m = true → S m) → ∀ n ∈ D, S n
  nodup : D.Nodup
  len : D.length ≤ 1000000

section
variable (id : Int) (D : List Int) (ok : Int → Bool) (ra rb : Int → List Int)
def Cl (Lf Dn : Int → Prop) (n : Int) : Prop := ∀ m, m ∈ ra n ∨ m ∈ rb n → ok m = true → Lf m ∨ Dn m
structure Inv0 (Lf Dn : Int → Prop) : Prop where
  start : Lf id ∨ Dn id
  lf : ∀ m, Lf m → m ∈ D
  dn : ∀ m, Dn m → m ∈ D
  dis : ∀ m, Lf m → ¬ Dn m
  cl : ∀ n, Dn n → Cl ok ra rb Lf Dn n
structure Inv1 (cur : Int) (pr : List Int) (Lf Dn : Int → Prop) : Prop where
  start : Lf id ∨ Dn id
  lf : ∀ m, Lf m → m ∈ D
  dn : ∀ m, Dn m → m ∈ D
  dis : ∀ m, Lf m → ¬ Dn m
  here : Dn cur
  cl : ∀ n, Dn n → n ≠ cur → Cl ok ra rb Lf Dn n
  pr : ∀ m ∈ pr, ok m = true → Lf m ∨ Dn m
end
section
variable {id : Int} {D : List Int} {ok : Int → Bool} {ra rb : Int → List Int} {Lf Dn : Int → Prop} {cur : Int} {pr : List Int}
theorem Inv0.next (h : Inv0 id D ok ra rb Lf Dn) (hc : Lf cur) : Inv1 id D ok ra rb cur [] (fun m => Lf m ∧ m ≠ cur) (fun m => m = cur ∨ Dn m) where
  start := by
    rcases h.start with q | q
    · rcases Classical.em (id = cur) with e | e
      · exact .inr (.inl e)
      · exact .inl ⟨q, e⟩
    · exact .inr (.inr q)
  lf := fun m q => h.lf m q.1
  dn := fun m q => by
    rcases q with rfl | q
    · exact h.lf _ hc
    · exact h.dn m q
  dis := fun m q r => by
    rcases r with r | r
    · exact q.2 r
    · exact h.dis m q.1 r
  here := .inl rfl
  cl := fun n q hn m hm hok => by
    rcases q with q | q
    · exact absurd q hn
    · rcases h.cl n q m hm hok with r | r
      · rcases Classical.em (m = cur) with e | e
        · exact .inr (.inl e)
        · exact .inl ⟨r, e⟩
      · exact .inr (.inr r)
  pr := fun m hm => by simp at hm
theorem Inv1.done (h : Inv1 id D ok ra rb cur pr Lf Dn) (hp : ∀ m, m ∈ ra cur ∨ m ∈ rb cur → m ∈ pr) : Inv0 id D ok ra rb Lf Dn where
  start := h.start
  lf := h.lf
  dn := h.dn
  dis := h.dis
  cl := fun n q m hm hok => by
    rcases Classical.em (n = cur) with e | e
    · subst e; exact h.pr m (hp m hm) hok
    · exact h.cl n q e m hm hok
theorem Inv1.skip (h : Inv1 id D ok ra rb cur pr Lf Dn) {z : Int} (hz : ok z = false ∨ Dn z) : Inv1 id D ok ra rb cur (pr ++ [z]) Lf Dn where
  start := h.start
  lf := h.lf
  dn := h.dn
  dis := h.dis
  here := h.here
  cl := h.cl
  pr := fun m hm hok => by
    rcases List.mem_append.1 hm with q | q
    · exact h.pr m q hok
    · simp at q
      subst q
      rcases hz with e | e
      · rw [e] at hok; cases hok
      · exact .inr e
theorem Inv1.put (h : Inv1 id D ok ra rb cur pr Lf Dn) {z : Int} (hz : z ∈ D) (hd : ¬ Dn z) : Inv1 id D ok ra rb cur (pr ++ [z]) (fun m => m = z ∨ Lf m) Dn where
  start := h.start.imp .inr _root_.id
  lf := fun m q => by
    rcases q with rfl | q
    · exact hz
    · exact h.lf m q
  dn := h.dn
  dis := fun m q r => by
    rcases q with rfl | q
    · exact hd r
    · exact h.dis m q r
  here := h.here
  cl := fun n q hn m hm hok => (h.cl n q hn m hm hok).imp .inr _root_.id
  pr := fun m hm hok => by
    rcases List.mem_append.1 hm with q | q
    · exact (h.pr m q hok).imp .inr _root_.id
    · simp at q
      exact .inl (.inl q)
theorem Inv0.all {evs : AV} (T : OTab evs id D ok ra rb) (h : Inv0 id D ok ra rb Lf Dn) (he : ∀ m, ¬ Lf m) (m : Int) : Dn m ↔ m ∈ D :=
  ⟨h.dn m, T.least Dn (h.start.resolve_left (he id)) (fun n hn m hm hok => (h.cl n hn m hm hok).resolve_left (he m)) m⟩
theorem inv0_start {evs : AV} (T : OTab evs id D ok ra rb) : Inv0 id D ok ra rb (fun m => m = id ∨ False) (fun _ => False) where
  start := .inl (.inl rfl)
  lf := fun m q => by
    rcases q with rfl | q
    · exact T.mem
    · exact q.elim
  dn := fun m q => q.elim
  dis := fun m _ q => q.elim
  cl := fun n q => q.elim
end

def xsOf (ra rb : Int → List Int) (cur : Int) : Nat → List Int
  | 0 => ra cur
  | _ => rb cur
def prOf (ra rb : Int → List Int) (cur : Int) : Nat → List Int
  | 0 => []
  | 1 => ra cur
  | _ => ra cur ++ rb cur

theorem below_grown {base : Nat} {w w1 w2 : World} {b : Nat} (hb : Below base w w1) (hg : w1.grownBy w2 (some b)) (h1 : base ≤ w1.heap.size) (h : base ≤ b) : Below base w w2 :=
  hb.grown hg h1 fun q hq => by cases hq; exact h

/-- What holds in the middle of a round. -/
structure Mid (base : Nat) (w : World) (hi c1 : Nat) (wx : World) (pv av : Value) (xa xb : List Int) (n5 n6 : Nat) (Lf Dn : Int → Prop) : Prop where
  bel : Below base w wx
  left : OwnSet wx base n5 Lf
  dn : OwnSet wx (base + 1) n6 Dn
  cnt : cnt wx (base + 1) = c1
  pa : ShI base hi wx pv xa
  pb : ShI base hi wx av xb
theorem info119 (w : World) : (sizeOf 119).run Tryz.prog w = .ok 1 w := by
  have h : Tryz.t119.size = 1 := by kernel_rfl
  simp [sizeOf, h]
theorem index0 (a b : Option Addr) (n m c d : Nat) (w : World) : (Instr.index 857 (.agg #[.slice a n c, .slice b m d]) (.int .i64 0)).run Tryz.prog w = .ok (.slice a n c) w := by
  simp [Instr.index, Sem.run_bind, asIntOf, run_under Tryz.underlying857, run_under Tryz.underlying119, Result.andThen, part, isAgg]
theorem index1 (a b : Option Addr) (n m c d : Nat) (w : World) : (Instr.index 857 (.agg #[.slice a n c, .slice b m d]) (.int .i64 1)).run Tryz.prog w = .ok (.slice b m d) w := by
  simp [Instr.index, Sem.run_bind, asIntOf, run_under Tryz.underlying857, run_under Tryz.underlying119, Result.andThen, part, isAgg]
end Go.Proofs.R50
end
