/- The parts of a text between bytes of a kind; what a line of a script says; plain. -/
import Derived.Test.YtojknjmcmadhcaaGreatDoorCe
import Derived.Test.YtojknjmcmadhcaaGreatDoorCb
import Derived.Lib.SplitLaws
import Derived.Maps.AppendAt
import Derived.OwnWalk
import Derived.Test.YtojknjmcmadhcaaGreatDoorIb
import Derived.Lib.CutLaws
import Derived.Shelf.Strings.SplitCore

section
namespace Go.Proofs.R50

/-- The parts of l between the bytes c. -/
def splitL (c : UInt8) : List UInt8 → List (List UInt8)
 | [] => [[]]
 | b :: r => if b = c then [] :: splitL c r else
  match splitL c r with
  | [] => [[b]]
  | w :: ws => (b :: w) :: ws
def ba (l : List UInt8) : ByteArray := ⟨l.toArray⟩
theorem ba_data (s : ByteArray) : ba s.data.toList = s := by cases s; simp [ba]
theorem data_ba (l : List UInt8) : (ba l).data.toList = l := by simp [ba]
/-- The same for texts. -/
def splitB (c : UInt8) (s : ByteArray) : List ByteArray := (splitL c s.data.toList).map ba

theorem splitL_ne (c : UInt8) : ∀ l, splitL c l ≠ []
 | [] => by simp [splitL]
 | b :: r => by
  unfold splitL
  split
  ·simp
  ·split <;> simp
theorem splitL_cons_ne {c b : UInt8} {r : List UInt8} {w : List UInt8} {ws : List (List UInt8)} (h : ¬ b = c) (hs : splitL c r = w :: ws) : splitL c (b :: r) = (b :: w) :: ws := by
 rw [splitL, if_neg h, hs]
theorem splitL_miss {c : UInt8} : ∀ {l : List UInt8}, c ∉ l → splitL c l = [l]
 | [], _ => rfl
 | b :: r, h => splitL_cons_ne (fun e => h (by simp [e])) (splitL_miss (fun q => h (by simp [q])))
theorem splitL_hit {c : UInt8} : ∀ {l : List UInt8} {i : Nat}, l[i]? = some c → (∀ k, k < i → l[k]? ≠ some c) → splitL c l = l.take i :: splitL c (l.drop (i + 1))
 | [], i, h, _ => by simp at h
 | b :: r, 0, h, _ => by
  have : b = c := by simpa using h
  subst this
  simp [splitL]
 | b :: r, i + 1, h, hn => by
  have hb : ¬ b = c := fun e => hn 0 (by omega) (by simp [e])
  have := splitL_hit (l := r) (i := i) (by simpa using h) (fun k hk => by have := hn (k + 1) (by omega); simpa using this)
  rw [splitL_cons_ne hb this]
  simp
theorem splitL_snoc_eq (c : UInt8) : ∀ l : List UInt8, splitL c (l ++ [c]) = splitL c l ++ [[]]
 | [] => by simp [splitL]
 | b :: r => by
  have ih := splitL_snoc_eq c r
  by_cases h : b = c
  ·subst h
   simp [splitL, ih]
  ·obtain ⟨w, ws, e⟩ := List.exists_cons_of_ne_nil (splitL_ne c r)
   rw [List.cons_append, splitL_cons_ne h e, splitL_cons_ne h (by rw [ih, e, List.cons_append])]
   rfl
theorem splitL_snoc_ne {c b : UInt8} (h : ¬ b = c) : ∀ l : List UInt8, splitL c (l ++ [b]) = (splitL c l).dropLast ++ [(splitL c l).getLast (splitL_ne c l) ++ [b]]
 | [] => by simp [splitL, h]
 | d :: r => by
  have ih := splitL_snoc_ne h r
  obtain ⟨w, ws, e⟩ := List.exists_cons_of_ne_nil (splitL_ne c r)
  by_cases hd : d = c
  ·subst hd
   have e2 : splitL d (d :: r) = [] :: splitL d r := by simp [splitL]
   have e3 : splitL d (d :: r ++ [b]) = [] :: splitL d (r ++ [b]) := by simp [splitL]
   rw [e3, ih]
   simp only [e2, e, List.dropLast_cons_cons, List.cons_append, List.getLast_cons_cons]
  ·have e2 := splitL_cons_ne hd e
   cases ws with
   | nil =>
    have ih2 : splitL c (r ++ [b]) = [w ++ [b]] := by rw [ih]; simp [e]
    rw [List.cons_append, splitL_cons_ne hd ih2]
    simp [e2]
   | cons x xs =>
    have ih2 : splitL c (r ++ [b]) = w :: ((x :: xs).dropLast ++ [(x :: xs).getLast (by simp) ++ [b]]) := by rw [ih]; simp [e]
    rw [List.cons_append, splitL_cons_ne hd ih2]
    simp [e2]

/-- The parts put together again. -/
def tailL (c : UInt8) (ws : List (List UInt8)) : List UInt8 := ws.flatMap (c :: ·)
theorem splitL_join (c : UInt8) : ∀ (l w : List UInt8) (ws : List (List UInt8)), splitL c l = w :: ws → l = w ++ tailL c ws
 | [], w, ws, h => by
  simp [splitL] at h
  obtain ⟨rfl, rfl⟩ := h
  rfl
 | b :: r, w, ws, h => by
  obtain ⟨w', ws', e⟩ := List.exists_cons_of_ne_nil (splitL_ne c r)
  have ih := splitL_join c r w' ws' e
  by_cases hb : b = c
  ·subst hb
   simp [splitL] at h
   obtain ⟨rfl, rfl⟩ := h
   rw [e]
   simp [tailL, List.flatMap_cons]
   exact ih
  ·rw [splitL_cons_ne hb e] at h
   injection h with h1 h2
   subst h1 h2
   simp [← ih]

theorem indexByte_miss {l : List UInt8} {c : UInt8} (h : Lib.indexByte l c = -1) : c ∉ l := fun q => by
 obtain ⟨k, hk⟩ := List.getElem?_of_mem q
 exact Lib.indexByte_none h k hk
theorem splitK_one (c : UInt8) : ∀ (k : Nat) (l : List UInt8), l.count c = k → Lib.splitK [c] 0 k l = splitL c l
 | 0, l, h => by
  rw [splitL_miss (List.count_eq_zero.1 h)]; rfl
 | k + 1, l, h => by
  have hge := Lib.indexByte_ge l c
  have hne : ¬ Lib.indexByte l c = -1 := fun e => by
   have := List.count_eq_zero.2 (indexByte_miss e)
   omega
  obtain ⟨i, hi⟩ : ∃ i : Nat, Lib.indexByte l c = i := ⟨(Lib.indexByte l c).toNat, by omega⟩
  obtain ⟨h1, h2⟩ := Lib.indexByte_some hi
  rw [splitL_hit h1 h2]
  have hx : Lib.index l [c] = i := by rw [Lib.index_one, hi]
  have hm : ¬ (Lib.index l [c] == -1) = true := fun e => by have := beq_iff_eq.1 e; omega
  rw [Lib.splitK, if_neg hm, hx]
  simp only [Int.toNat_natCast, Nat.add_zero, List.length_cons, List.length_nil, Nat.zero_add]
  rw [splitK_one c k]
  obtain ⟨hlt, he⟩ := List.getElem?_eq_some_iff.1 h1
  have e1 : l = l.take i ++ c :: l.drop (i + 1) := by
   rw [← he, List.getElem_cons_drop, List.take_append_drop]
  have e2 : (l.take i).count c = 0 := List.count_eq_zero.2 fun q => by
   obtain ⟨j, hj⟩ := List.getElem?_of_mem q
   rw [List.getElem?_take] at hj
   split at hj
   ·exact h2 j (by assumption) hj
   ·cases hj
  rw [e1, List.count_append, e2, List.count_cons_self] at h
  omega
theorem splitB_kit (c : UInt8) (s : ByteArray) : Lib.splitB ⟨#[c]⟩ 0 (Lib.countB s ⟨#[c]⟩) s = splitB c s := by
 have h1 := Lib.splitB_data ⟨#[c]⟩ 0 (Lib.countB s ⟨#[c]⟩) s
 have h2 : Lib.countB s ⟨#[c]⟩ = s.data.toList.count c := Lib.count_one c _
 have h3 : (⟨#[c]⟩ : ByteArray).data.toList = [c] := rfl
 rw [h3] at h1
 unfold splitB
 rw [← splitK_one c _ _ h2.symm, ← h1, List.map_map]
 have : (ba ∘ fun x : ByteArray => x.data.toList) = id := by funext x; exact ba_data x
 rw [this, List.map_id]
theorem splitB_len (c : UInt8) (s : ByteArray) : (splitB c s).length = Lib.countB s ⟨#[c]⟩ + 1 := by
 rw [← splitB_kit]
 exact Lib.splitB_all ⟨#[c]⟩ (Nat.le_refl 1) 0 _ s rfl

/-- What is read of an act behind its word. -/
structure AS where
 names : List ByteArray
 n : Int
 cn : Int
 tg : Int
 s1 : Bool
 s2 : Bool
 s3 : Bool
def AS.z : AS := ⟨[], 0, 0, 0, false, false, false⟩
/-- A text field's value: the word s behind its mark, and all words behind it. -/
def textOf (s : ByteArray) (r : List ByteArray) : ByteArray := ba (s.data.toList.drop 5 ++ r.flatMap fun w => 32 :: w.data.toList)
def actGo : List ByteArray → AS → Option (AS × ByteArray)
 | [], a => some (a, ByteArray.empty)
 | s :: r, a =>
  if s = ByteArray.empty then none else
  if fieldN s = 0 then (if a.s1 || a.s2 || a.s3 then none else actGo r { a with names := a.names ++ [s] }) else
  if fieldN s = 1 then (if a.s1 then none else match numP (fval s).data.toList with | none => none | some n => actGo r { a with n := n, s1 := true }) else
  if fieldN s = 2 then (if a.s2 then none else match numP (fval s).data.toList with | none => none | some n => actGo r { a with cn := n, s2 := true }) else
  if fieldN s = 3 then (if a.s3 then none else match hexP (fval s).data.toList with | none => none | some n => actGo r { a with tg := n, s3 := true }) else
  some (a, textOf s r)
end Go.Proofs.R50
end

/- Lists of texts; R02.Find; the words of acts. -/
section
namespace Go.Proofs.R50
open Go.ChangeShapes Go.WideShapes Go.ChangeAt Go.RowKit

def wordsU : List (List UInt8) := [[115, 101, 114, 118, 101, 114, 115], [97, 115], [118, 105, 101, 119], [99, 114, 101, 97, 116, 101], [115, 101, 110, 100], [106, 111, 105, 110], [105, 110, 118, 105, 116, 101], [115, 121, 110, 99], [100, 101, 108, 105, 118, 101, 114], [100, 114, 111, 112], [99, 111, 112, 121], [99, 117, 116], [104, 101, 97, 108], [99, 114, 97, 115, 104], [115, 116, 97, 114, 116], [116, 105, 99, 107], [102, 108, 117, 115, 104], [115, 101, 116, 116, 108, 101], [101, 118, 105, 108]]
/-- Is s the word of an act? -/
def isWord (s : ByteArray) : Bool := decide (s.data.toList ∈ wordsU)
theorem word_hit {s : ByteArray} {l : List UInt8} (h : (s.toList == l) = true) (hw : decide (l ∈ wordsU) = true) : isWord s = true := by
 have := beq_iff_eq.1 h
 rw [Lib.toList_data] at this
 unfold isWord
 rw [this]
 exact hw
theorem word_miss {s : ByteArray} (h : ∀ l ∈ wordsU, (s.toList == l) = false) : isWord s = false := by
 unfold isWord
 rw [decide_eq_false_iff_not]
 intro hm
 have := h _ hm
 rw [Lib.toList_data] at this
 exact absurd this (by simp)

set_option maxRecDepth 100000 in
set_option maxHeartbeats 4000000 in
theorem word_ok (s : ByteArray) (w : World) :
  Calls Tryz.prog 31 #[.string s] w fun e w' => e = .returned (.bool (isWord s)) ∧ w' = w := by
 go_enter Tryz.func31, Tryz.ntmps31
 go_wp2_with fail
 all_goals first
  | (rename_i ha hb; rw [ha] at hb; cases hb; done)
  | (go_ret; refine ⟨?_, rfl⟩; rw [word_hit (by assumption) (by decide)]; rfl)
  | (go_ret; refine ⟨?_, rfl⟩; rw [word_miss (fun l hl => by simp only [wordsU, List.mem_cons, List.not_mem_nil, or_false] at hl; rcases hl with rfl | rfl | rfl | rfl | rfl | rfl | rfl | rfl | rfl | rfl | rfl | rfl | rfl | rfl | rfl | rfl | rfl | rfl | rfl <;> assumption)]; rfl)

/-- The slice v shows the texts ss. -/
def Strs (w : World) (v : Value) (ss : List ByteArray) : Prop := Row w v 1 ss.length (ss.map Value.string)
theorem Strs.on {w w' : World} {v : Value} {ss : List ByteArray} (h : Strs w v ss) (hb : Below w.heap.size w w') : Strs w' v ss := Row.on h hb
theorem Strs.form {w : World} {v : Value} {ss : List ByteArray} (h : Strs w v ss) : ∃ ao cap, v = .slice ao ss.length cap ∧ ss.length ≤ cap ∧ cap ≤ 9223372036854775807 := by
 obtain ⟨ao, cap, h1, h2, h3, _⟩ := h
 exact ⟨ao, cap, h1, h2, h3⟩
theorem Strs.at_ {w : World} {ao : Option Addr} {n cap : Nat} {ss : List ByteArray} (h : Strs w (.slice ao n cap) ss) {k : Nat} (hk : k < ss.length) :
  ∃ b off, ao = some ⟨b, off, none⟩ ∧ b < w.heap.size ∧ ∀ w', Below w.heap.size w w' → w'.cell? ⟨b, off + k, none⟩ = some (.string ss[k]) := by
 obtain ⟨ao', cap', h1, h2, h3, h4, h5⟩ := h
 cases h1
 obtain ⟨b, off, e, hb, hc⟩ := h5 (by omega)
 exact ⟨b, off, e, hb, fun w' q => (q.cell (p := ⟨b, off + k, none⟩) hb).trans (hc k _ (by simp [hk]))⟩

set_option maxRecDepth 100000 in
set_option maxHeartbeats 1000000 in
theorem find_ok (v : Value) (ss : List ByteArray) (s : ByteArray) (w : World) (h : Strs w v ss) :
  Calls Tryz.prog 38 #[v, .string s] w fun x w' => (∃ i : Int, x = .returned (.int .i64 i) ∧ (0 ≤ i ↔ s ∈ ss)) ∧ w' = w := by
 obtain ⟨ao, cap, rfl, hl, hcap⟩ := h.form
 go_enter Tryz.func38, Tryz.ntmps38
 go_wp2_with fail
 go_loopw [5] (fun i wr => ∃ k : Nat, k ≤ ss.length ∧ i = .int .i64 k ∧ wr = w ∧ ∀ j (hj : j < ss.length), j < k → ss[j] ≠ s) (fun i _ => ss.length - (intOf i).toNat)
 case atStart => exact ⟨0, Nat.zero_le _, rfl, rfl, fun j _ hj => by omega⟩
 case round =>
  obtain ⟨k, hk, rfl, rfl, hq⟩ := hrel
  have Hq := Lib.hid hq
  clear hq
  by_cases hlt : k < ss.length
  ·obtain ⟨b, o, rfl, hb, hc⟩ := h.at_ hlt
   have hc := hc wr (Below.refl _ _)
   clear h
   by_cases he : ss[k] = s
   ·have hmem : s ∈ ss := he ▸ List.getElem_mem hlt
    have Hm := Lib.hid hmem
    rw [he] at hc
    clear he hmem
    go_wp2_with fail
    go_ret
    exact ⟨⟨k, rfl, by have : s ∈ ss := Hm; simp [this]⟩, rfl⟩
   ·have Hk := Lib.hid he
    generalize hgx : ss[k] = xk at *
    have hne := str_ne (he : ¬ xk = s)
    have Hgx := Lib.hid hgx
    clear hgx he
    go_wp2_with fail
    go_roundw
    case rel =>
     refine ⟨k + 1, by omega, by go_num, by trivial, fun j hj hjk => ?_⟩
     rcases Nat.lt_succ_iff_lt_or_eq.1 hjk with hj2 | rfl
     ·exact Hq j hj hj2
     ·have : ss[j] = xk := Hgx
      rw [this]
      exact Hk
    case measure => simp [intOf]; omega
  ·go_wp2_with fail
   go_ret
   refine ⟨⟨-1, rfl, ?_⟩, rfl⟩
   have : s ∉ ss := fun hm => by
    obtain ⟨j, hj, e⟩ := List.getElem_of_mem hm
    exact Hq j hj (by omega) e
   simp [this]

theorem Strs.of_whole {w : World} {b : Nat} {t : TypeId} {ss : List ByteArray} (h : Whole w b t (ss.map Value.string).toArray) (hl : ss.length ≤ 9223372036854775807) : Strs w (.slice (some ⟨b, 0, none⟩) ss.length ss.length) ss :=
 ⟨_, _, rfl, Nat.le_refl _, hl, by simp, fun _ => ⟨b, 0, rfl, h.lt, fun j u hu => by rw [Nat.zero_add, h.cell j]; simpa using hu⟩⟩
theorem isWord_iff {s : ByteArray} {i : Int} (h : 0 ≤ i ↔ s ∈ wordsU.map ba) : isWord s = decide (0 ≤ i) := by
 unfold isWord
 rw [decide_eq_decide, h, List.mem_map]
 constructor
 ·intro q
  exact ⟨_, q, ba_data s⟩
 ·rintro ⟨l, hl, rfl⟩
  rwa [data_ba]

set_option maxRecDepth 100000 in
set_option maxHeartbeats 4000000 in
theorem rword_ok (s : ByteArray) (w : World) :
  Calls Tryz.prog 24 #[.string s] w fun e w' => e = .returned (.bool (isWord s)) ∧ Below w.heap.size w w' := by
 go_enter Tryz.func24, Tryz.ntmps24
 have hb := Lib.hid ((Below.refl w.heap.size w).alloc (Nat.le_refl _) (.cells ((wordsU.map ba).map Value.string).toArray 9))
 go_wp2_with fail
 refine Calls.mono (find_ok _ (wordsU.map ba) s _ (Strs.of_whole (Whole.new w 9 ((wordsU.map ba).map Value.string).toArray) (by decide))) ?_
 rintro e w' ⟨⟨i, rfl, hi⟩, rfl⟩
 have Hi := Lib.hid (isWord_iff hi)
 clear hi
 go_wp2_with fail
 go_ret
 exact ⟨by rw [(Hi : _ = _)]; rfl, hb⟩
end Go.Proofs.R50
end

/- The reference's field; strings.Cut at one byte. -/
section
namespace Go.Proofs.R50
open Go.RowKit Go.Abs

def marksL : List ByteArray := [mark 0, mark 1, mark 2, mark 3]

set_option maxRecDepth 100000 in
set_option maxHeartbeats 1000000 in
theorem rfield_ok (s : ByteArray) (w : World) :
  Calls Tryz.prog 25 #[.string s] w fun e w' => e = .returned (.int .i64 (fieldN s)) ∧ Below w.heap.size w w' := by
 have hS : Strs (w.alloc (.cells (marksL.map Value.string).toArray 9)) (.slice (some ⟨w.heap.size, 0, none⟩) 4 4) marksL := Strs.of_whole (Whole.new w 9 (marksL.map Value.string).toArray) (by decide)
 have HS := Lib.hid hS
 have hb := Lib.hid ((Below.refl w.heap.size w).alloc (Nat.le_refl _) (.cells (marksL.map Value.string).toArray 9))
 have Hpre := Lib.hid (begins_ok s)
 clear hS
 go_enter Tryz.func25, Tryz.ntmps25
 go_wp2_with fail
 go_loopw [4] (fun i wr => ∃ k : Nat, k ≤ 4 ∧ i = .int .i64 k ∧ wr = w.alloc (.cells (marksL.map Value.string).toArray 9) ∧ ∀ j, j < k → pre (mark j) s = false) (fun i _ => 4 - (intOf i).toNat)
 case atStart => exact ⟨0, Nat.zero_le _, rfl, rfl, fun j hj => by omega⟩
 case round =>
  obtain ⟨k, hk, rfl, hwr, hq⟩ := hrel
  have Hq := Lib.hid hq
  clear hq
  by_cases hlt : k < 4
  ·have hc : wr.cell? ⟨w.heap.size, k, none⟩ = some (.string (mark k)) := by
    obtain ⟨b, o, e, hlb, hc⟩ := Strs.at_ HS (k := k) (by simpa [marksL] using hlt)
    cases e
    have := hc _ (Below.refl _ _)
    rw [hwr, ← Nat.zero_add k, this]
    rcases (by omega : k = 0 ∨ k = 1 ∨ k = 2 ∨ k = 3) with rfl | rfl | rfl | rfl <;> rfl
   have Hwr := Lib.hid hwr
   clear hwr
   have hck := begins_ok s (mark k) wr
   cases hp : pre (mark k) s with
   | true =>
    have Hf := Lib.hid (fieldN_at hlt hp Hq)
    rw [hp] at hck
    have Hck := Lib.hid hck
    clear hp hck
    generalize mark k = mk at *
    have hlk : ((k : Nat) : Int) < 4 := by omega
    go_wp2_with fail
    refine Calls.mono Hck ?_
    rintro e w' ⟨rfl, rfl⟩
    go_wp2_with fail
    go_ret
    exact ⟨by rw [(Hf : _ = _)]; simp, by rw [(Hwr : _ = _)]; exact hb⟩
   | false =>
    have Hn : Hid (∀ j, j < k + 1 → pre (mark j) s = false) := fun j hj => by
     rcases Nat.lt_succ_iff_lt_or_eq.1 hj with h | rfl
     ·exact Hq j h
     ·exact hp
    rw [hp] at hck
    have Hck := Lib.hid hck
    clear hp hck Hq
    generalize hmk : mark k = mk at *
    have Hmk := Lib.hid hmk
    clear hmk
    have hlk : ((k : Nat) : Int) < 4 := by omega
    go_wp2_with fail
    refine Calls.mono Hck ?_
    rintro e w' ⟨rfl, rfl⟩
    go_wp2_with fail
    go_roundw
    case rel => exact ⟨k + 1, by omega, by go_num, Hwr, Hn⟩
    case measure => first | (simp [intOf]; done) | (simp [intOf]; omega)
  ·obtain rfl : k = 4 := by omega
   have Hf := Lib.hid (fieldN_none Hq)
   go_wp2_with fail
   go_ret
   exact ⟨by rw [(Hf : _ = _)]; rfl, hb⟩

/-- What is ahead of the first byte c (all, if there is none), what is behind it, and whether there is one. -/
def cut3 (c : UInt8) (s : ByteArray) : ByteArray × ByteArray × Bool :=
 if Lib.indexByte s.data.toList c = -1 then (s, ByteArray.empty, false) else (s.extract 0 (Lib.indexByte s.data.toList c).toNat, s.extract ((Lib.indexByte s.data.toList c).toNat + 1) s.size, true)

theorem cut_miss {c : UInt8} {s : ByteArray} (h : Lib.indexByte s.data.toList c = -1) : splitL c s.data.toList = [s.data.toList] := splitL_miss (indexByte_miss h)
theorem cut_hit {c : UInt8} {s : ByteArray} {i : Nat} (h : Lib.indexByte s.data.toList c = i) : splitL c s.data.toList = (s.extract 0 i).data.toList :: splitL c (s.extract (i + 1) s.size).data.toList ∧ i < s.size := by
 obtain ⟨h1, h2⟩ := Lib.indexByte_some h
 refine ⟨?_, ?_⟩
 ·rw [splitL_hit h1 h2, Lib.extract_from_zero, Lib.extract_to_end]
 ·have := (List.getElem?_eq_some_iff.1 h1).1
  simpa using this

set_option maxRecDepth 100000 in
set_option maxHeartbeats 2000000 in
theorem liteCut_miss (s : ByteArray) (c : UInt8) (w : World) (hix : Lib.indexByte s.data.toList c = -1) :
  Calls Tryz.prog 48 #[.string s, .string ⟨#[c]⟩] w fun e w' => e = .returned (.tuple #[.string s, .string ByteArray.empty, .bool false]) ∧ Below w.heap.size w w' := by
 have hc := Tryz.stringslite_Index_one s c w
 rw [hix] at hc
 have Hc := Lib.hid hc
 clear hc hix
 go_enter Tryz.func48, Tryz.ntmps48
 go_wp2_with fail
 refine Calls.mono Hc ?_
 rintro e w' ⟨rfl, rfl⟩
 go_wp2_with fail
 go_ret3
 exact ⟨rfl, Below.refl _ _⟩

set_option maxRecDepth 100000 in
set_option maxHeartbeats 2000000 in
theorem liteCut_hit (s : ByteArray) (c : UInt8) (w : World) (hs : s.size ≤ 1000000) (i : Nat) (hix : Lib.indexByte s.data.toList c = i) :
  Calls Tryz.prog 48 #[.string s, .string ⟨#[c]⟩] w fun e w' => e = .returned (.tuple #[.string (s.extract 0 i), .string (s.extract (i + 1) s.size), .bool true]) ∧ Below w.heap.size w w' := by
 have hc := Tryz.stringslite_Index_one s c w
 have hlt := (cut_hit hix).2
 rw [hix] at hc
 have Hc := Lib.hid hc
 clear hc hix
 have c1 : (0 : Int) ≤ ↑i := by omega
 have c2 : (↑i : Int) ≤ ↑s.size := by omega
 have c3 : (0 : Int) ≤ ↑i + 1 := by omega
 have c4 : (↑i + 1 : Int) ≤ ↑s.size := by omega
 have hwr : wrap64 ((i : Int) + 1) = (i : Int) + 1 := by unfold wrap64; omega
 have htn : ((i : Int) + 1).toNat = i + 1 := by omega
 go_enter Tryz.func48, Tryz.ntmps48
 go_wp2_with fail
 refine Calls.mono Hc ?_
 rintro e w' ⟨rfl, rfl⟩
 go_wp2_with fail
 refine wp_region_ext (by kernel_rfl) (by kernel_rfl) ?_
 repeat (first | go_big_quiet_skip | (go_big_quiet_want; (go_big_quiet_op; (try rw [hwr]); (first | go_big_quiet_on | fail))))
 refine wpQuiet_nil ?_
 intro X
 go_wp2_with fail
 go_ret3
 exact ⟨rfl, X.below⟩

theorem cut3_no {c : UInt8} {s : ByteArray} (h : (cut3 c s).2.2 = false) : splitB c s = [(cut3 c s).1] ∧ (cut3 c s).1 = s := by
 by_cases hx : Lib.indexByte s.data.toList c = -1
 ·have e : cut3 c s = (s, ByteArray.empty, false) := by unfold cut3; rw [if_pos hx]
  rw [e]
  refine ⟨?_, rfl⟩
  unfold splitB
  rw [cut_miss hx]
  simp [ba_data]
 ·unfold cut3 at h
  rw [if_neg hx] at h
  cases h
theorem cut3_yes {c : UInt8} {s : ByteArray} (h : (cut3 c s).2.2 = true) : splitB c s = (cut3 c s).1 :: splitB c (cut3 c s).2.1 ∧ (cut3 c s).2.1.size < s.size := by
 by_cases hx : Lib.indexByte s.data.toList c = -1
 ·unfold cut3 at h
  rw [if_pos hx] at h
  cases h
 ·have hge := Lib.indexByte_ge s.data.toList c
  obtain ⟨i, hi⟩ : ∃ i : Nat, Lib.indexByte s.data.toList c = i := ⟨(Lib.indexByte s.data.toList c).toNat, by omega⟩
  have e : cut3 c s = (s.extract 0 i, s.extract (i + 1) s.size, true) := by unfold cut3; rw [if_neg hx, hi]; simp
  obtain ⟨h1, h2⟩ := cut_hit hi
  rw [e]
  refine ⟨?_, by simp; omega⟩
  unfold splitB
  rw [h1, List.map_cons, ba_data]

theorem liteCut_ok (s : ByteArray) (c : UInt8) (w : World) (hs : s.size ≤ 1000000) :
  Calls Tryz.prog 48 #[.string s, .string ⟨#[c]⟩] w fun e w' => e = .returned (.tuple #[.string (cut3 c s).1, .string (cut3 c s).2.1, .bool (cut3 c s).2.2]) ∧ Below w.heap.size w w' := by
 by_cases hx : Lib.indexByte s.data.toList c = -1
 ·have e : cut3 c s = (s, ByteArray.empty, false) := by unfold cut3; rw [if_pos hx]
  rw [e]
  exact liteCut_miss s c w hx
 ·have hge := Lib.indexByte_ge s.data.toList c
  obtain ⟨i, hi⟩ : ∃ i : Nat, Lib.indexByte s.data.toList c = i := ⟨(Lib.indexByte s.data.toList c).toNat, by omega⟩
  have e : cut3 c s = (s.extract 0 i, s.extract (i + 1) s.size, true) := by unfold cut3; rw [if_neg hx, hi]; simp
  rw [e]
  exact liteCut_hit s c w hs i hi

set_option maxRecDepth 100000 in
set_option maxHeartbeats 2000000 in
theorem cut_ok (s : ByteArray) (c : UInt8) (w : World) (hs : s.size ≤ 1000000) :
  Calls Tryz.prog 30 #[.string s, .string ⟨#[c]⟩] w fun e w' => e = .returned (.tuple #[.string (cut3 c s).1, .string (cut3 c s).2.1, .bool (cut3 c s).2.2]) ∧ Below w.heap.size w w' := by
 have Hc := Lib.hid (liteCut_ok s c w hs)
 generalize cut3 c s = q at *
 obtain ⟨a, b, m⟩ := q
 go_enter Tryz.func30, Tryz.ntmps30
 go_wp2_with fail
 refine Calls.mono Hc ?_
 rintro e w' ⟨rfl, hb⟩
 have Hb := Lib.hid hb
 clear hb
 go_wp2_with fail
 go_ret3
 exact ⟨rfl, Hb⟩
end Go.Proofs.R50
end

/- strings.Split at one byte. -/
section
namespace Go.Proofs
open Go.Shelf
def splitRen : Ren := ⟨renPairs [(138, 46), (143, 47), (195, 62), (197, 63), (217, 85), (218, 64), (219, 65), (221, 29), (224, 87), (225, 86), (260, 84), (266, 135), (267, 88), (268, 45), (314, 136)], renPairs [(0, 0), (3, 3), (4, 4), (5, 5), (9, 9), (21, 21), (31, 29), (46, 173), (51, 233), (105, 123), (119, 229), (138, 231), (139, 232), (146, 234)], renPairs [(1, 0), (3, 1), (4, 2)]⟩
theorem splitLays : Lays.n221 Tryz.prog splitRen := by
 constructor <;> first | kernel_rfl | (intro _; kernel_rfl)
end Go.Proofs
namespace Go.Proofs.R50
open Go.RowKit Go.Abs

theorem genSplit_ok (s : ByteArray) (c : UInt8) (w : World) (hs : s.size ≤ 1000000) :
  Calls Tryz.prog 29 #[.string s, .string ⟨#[c]⟩, .int .i64 0, .int .i64 (-1)] w fun e w' => ∃ v, e = .returned v ∧ Strs w' v (splitB c s) ∧ Below w.heap.size w w' := by
 have hcl : Lib.countB s ⟨#[c]⟩ ≤ s.size := Lib.countB_le ⟨#[c]⟩ (Nat.le_refl 1) _ s (Nat.le_refl _)
 have h := Any.strings_genSplit_core (P := Tryz.prog) (ρ := splitRen) splitLays (by kernel_rfl) s ⟨#[c]⟩ 0 (-1) (Lib.countB s ⟨#[c]⟩ + 1) w (by omega) (Nat.le_refl 1) (Nat.zero_le _)
  (fun x cs _ => by
   have := Tryz.strings_Index_one x c (w.alloc (.cells cs 9))
   rw [← Lib.index_one] at this
   exact this)
  (by
   have := Tryz.strings_Count_one s c w
   unfold Lib.countByte at this
   rw [← Lib.count_one] at this
   exact this)
  (by decide) (by decide) (by rw [if_pos (by decide)]; omega)
 refine Calls.mono h ?_
 rintro e w' ⟨rfl, rfl⟩
 rw [Nat.add_sub_cancel, splitB_kit]
 have hl := splitB_len c s
 refine ⟨_, rfl, ?_, (Below.refl w.heap.size w).alloc (Nat.le_refl _) _⟩
 have hcs : Lib.cellsOf (splitB c s) (Lib.countB s ⟨#[c]⟩ + 1) = ((splitB c s).map Value.string).toArray := by rw [← hl, Lib.cellsOf_full]
 rw [hcs, ← hl]
 exact Strs.of_whole (Whole.new w 9 _) (by omega)

set_option maxRecDepth 100000 in
set_option maxHeartbeats 2000000 in
theorem split_ok (s : ByteArray) (c : UInt8) (w : World) (hs : s.size ≤ 1000000) :
  Calls Tryz.prog 15 #[.string s, .string ⟨#[c]⟩] w fun e w' => ∃ v, e = .returned v ∧ Strs w' v (splitB c s) ∧ Below w.heap.size w w' := by
 have Hc := Lib.hid (genSplit_ok s c w hs)
 go_enter Tryz.func15, Tryz.ntmps15
 go_wp2_with fail
 refine Calls.mono Hc ?_
 rintro e w' ⟨v, rfl, h1, h2⟩
 obtain ⟨ao, cap, rfl, -⟩ := Strs.form h1
 have H1 := Lib.hid h1
 have H2 := Lib.hid h2
 clear h1 h2
 go_wp2_with fail
 go_ret
 exact ⟨_, rfl, H1, H2⟩
end Go.Proofs.R50
end
