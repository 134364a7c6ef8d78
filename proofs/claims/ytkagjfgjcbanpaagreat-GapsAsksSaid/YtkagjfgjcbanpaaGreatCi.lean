/- Plain lists: increasing lists with the same numbers are the same list. -/
import Derived.Test.YtkagjfgjcbanpaaGreatCh
import Derived.Test.YtkagjfgjcbanpaaGreatCf
import Derived.Test.YtkagjfgjcbanpaaGreatCg

section
namespace Go.Proofs.R29
open Go.Lib

/-- Increasing, each once. -/
abbrev Inc (xs : List Int) : Prop := xs.Pairwise (· < ·)

theorem inc_ext : ∀ {xs ys : List Int}, Inc xs → Inc ys → (∀ m, m ∈ xs ↔ m ∈ ys) → xs = ys
  | [], [], _, _, _ => rfl
  | [], y :: ys, _, _, h => by have := (h y).2 (by simp); simp at this
  | x :: xs, [], _, _, h => by have := (h x).1 (by simp); simp at this
  | x :: xs, y :: ys, h1, h2, h => by
    obtain ⟨a1, a2⟩ := List.pairwise_cons.1 h1
    obtain ⟨b1, b2⟩ := List.pairwise_cons.1 h2
    have hxy : x = y := by
      have p : x ∈ y :: ys := (h x).1 (by simp)
      have q : y ∈ x :: xs := (h y).2 (by simp)
      rcases List.mem_cons.1 p with p | p
      · exact p
      · rcases List.mem_cons.1 q with q | q
        · exact q.symm
        · have := a1 _ q
          have := b1 _ p
          omega
    subst hxy
    congr 1
    refine inc_ext a2 b2 fun m => ⟨fun hm => ?_, fun hm => ?_⟩
    · rcases List.mem_cons.1 ((h m).1 (List.mem_cons_of_mem _ hm)) with e | e
      · have := a1 _ hm; omega
      · exact e
    · rcases List.mem_cons.1 ((h m).2 (List.mem_cons_of_mem _ hm)) with e | e
      · have := b1 _ hm; omega
      · exact e

theorem compactUpTo_inc (d : Array Int) (hd : ∀ i j, i ≤ j → j < d.size → d[i]! ≤ d[j]!) : ∀ m, m ≤ d.size →
    Inc (compactUpTo d m) ∧ (∀ x, x ∈ compactUpTo d m ↔ ∃ j, j < m ∧ d[j]! = x) ∧ (∀ x ∈ compactUpTo d m, ∀ k, m ≤ k + 1 → k < d.size → x ≤ d[k]!)
  | 0, _ => ⟨by simp [compactUpTo], by simp [compactUpTo], by simp [compactUpTo]⟩
  | m + 1, hm => by
    obtain ⟨h1, h2, h3⟩ := compactUpTo_inc d hd m (by omega)
    rw [compactUpTo_succ]
    by_cases hk : keeps d m = true
    · rw [if_pos hk]
      have hlt : ∀ x ∈ compactUpTo d m, x < d[m]! := by
        intro x hx
        unfold keeps at hk
        have hk := of_decide_eq_true hk
        obtain ⟨j, hj, rfl⟩ := (h2 x).1 hx
        have e1 : d[j]! ≤ d[m - 1]! := hd _ _ (by omega) (by omega)
        have e2 : d[m - 1]! ≤ d[m]! := hd _ _ (by omega) (by omega)
        rcases hk with hk | hk
        · omega
        · omega
      refine ⟨List.pairwise_append.2 ⟨h1, by simp, fun x hx y hy => by simp at hy; subst hy; exact hlt x hx⟩, fun x => ?_, fun x hx k hk1 hk2 => ?_⟩
      · rw [List.mem_append, h2]
        constructor
        · rintro (⟨j, hj, e⟩ | e)
          · exact ⟨j, by omega, e⟩
          · simp at e; exact ⟨m, by omega, e.symm⟩
        · rintro ⟨j, hj, e⟩
          by_cases hjm : j < m
          · exact .inl ⟨j, hjm, e⟩
          · have : j = m := by omega
            subst this
            exact .inr (by simp [e])
      · rcases List.mem_append.1 hx with hx | hx
        · exact h3 x hx k (by omega) hk2
        · simp at hx
          subst hx
          exact hd _ _ (by omega) hk2
    · rw [if_neg hk, List.append_nil]
      have hk' : m ≠ 0 ∧ d[m]! = d[m - 1]! := by
        unfold keeps at hk
        simp at hk
        exact ⟨hk.1, hk.2⟩
      refine ⟨h1, fun x => ?_, fun x hx k hk1 hk2 => h3 x hx k (by omega) hk2⟩
      rw [h2]
      constructor
      · rintro ⟨j, hj, e⟩
        exact ⟨j, by omega, e⟩
      · rintro ⟨j, hj, e⟩
        by_cases hjm : j < m
        · exact ⟨j, hjm, e⟩
        · have : j = m := by omega
          subst this
          exact ⟨j - 1, by omega, by rw [← hk'.2]; exact e⟩

theorem compact_inc {zs : List Int} (h : zs.Pairwise (· ≤ ·)) : Inc (compact zs) ∧ ∀ m, m ∈ compact zs ↔ m ∈ zs := by
  have hd : ∀ i j, i ≤ j → j < zs.toArray.size → zs.toArray[i]! ≤ zs.toArray[j]! := by
    intro i j hij hj
    have hj' : j < zs.length := by simpa using hj
    rw [getElem!_pos zs.toArray i (by simp; omega), getElem!_pos zs.toArray j hj]
    simp only [List.getElem_toArray]
    rcases Nat.lt_or_ge i j with hl | hl
    · exact List.pairwise_iff_getElem.1 h i j (by omega) hj' hl
    · have : i = j := by omega
      subst this
      exact Int.le_refl _
  obtain ⟨h1, h2, _⟩ := compactUpTo_inc zs.toArray hd zs.length (by simp)
  refine ⟨h1, fun m => ?_⟩
  unfold compact
  rw [h2]
  constructor
  · rintro ⟨j, hj, e⟩
    rw [getElem!_pos zs.toArray j (by simpa using hj)] at e
    simp only [List.getElem_toArray] at e
    exact e ▸ List.getElem_mem _
  · intro hm
    obtain ⟨j, hj, e⟩ := List.getElem_of_mem hm
    refine ⟨j, hj, ?_⟩
    rw [getElem!_pos zs.toArray j (by simpa using hj)]
    simpa using e

theorem msort_le (xs : List Int) : (msort xs).Pairwise (· ≤ ·) := by
  have h := List.pairwise_mergeSort (le := fun x y : Int => decide (x ≤ y)) (fun a b c h1 h2 => by simp at *; omega) (fun a b => by simp; omega) xs
  exact h.imp (by simp)

theorem ordered_inc (xs : List Int) : Inc (ordered xs) := (compact_inc (msort_le xs)).1
theorem ordered_mem (xs : List Int) (m : Int) : m ∈ ordered xs ↔ m ∈ xs := by
  rw [ordered, (compact_inc (msort_le xs)).2]
  exact List.mem_mergeSort

/-- An increasing list with the numbers of another one is this one in order. -/
theorem ordered_of {xs ys : List Int} (h : Inc xs) (hm : ∀ m, m ∈ xs ↔ m ∈ ys) : xs = ordered ys :=
  inc_ext h (ordered_inc ys) fun m => by rw [hm, ordered_mem]

/-- A sorted list that has nothing twice is in order. -/
theorem msort_ordered {xs : List Int} (h : xs.Nodup) : msort xs = ordered xs := by
  refine ordered_of ?_ fun m => List.mem_mergeSort
  have h1 := msort_le xs
  have h2 : (msort xs).Nodup := (List.mergeSort_perm xs _).nodup_iff.2 h
  exact List.Pairwise.imp₂ (fun a b hab hne => by omega) h1 h2

theorem spot_lt (n : Int) : ∀ (xs : List Int), ∀ m ∈ xs.take (spotOf n xs), m < n
  | [], m, h => by simp at h
  | x :: xs, m, h => by
    unfold spotOf at h
    split at h
    · rename_i hx
      rw [List.take_succ_cons] at h
      rcases List.mem_cons.1 h with rfl | h
      · exact hx
      · exact spot_lt n xs m h
    · simp at h

theorem spot_ge (n : Int) : ∀ (xs : List Int), Inc xs → ∀ m ∈ xs.drop (spotOf n xs), n ≤ m
  | [], _, m, h => by simp at h
  | x :: xs, hi, m, h => by
    obtain ⟨a1, a2⟩ := List.pairwise_cons.1 hi
    unfold spotOf at h
    split at h
    · rename_i hx
      rw [List.drop_succ_cons] at h
      exact spot_ge n xs a2 m h
    · rename_i hx
      rw [List.drop_zero] at h
      rcases List.mem_cons.1 h with rfl | h
      · omega
      · have := a1 _ h; omega

theorem withL_inc {n : Int} {xs : List Int} (h : Inc xs) : Inc (withL n xs) ∧ ∀ m, m ∈ withL n xs ↔ m = n ∨ m ∈ xs := by
  have hsplit : ∀ m, m ∈ xs ↔ m ∈ xs.take (spotOf n xs) ∨ m ∈ xs.drop (spotOf n xs) := fun m => by rw [← List.mem_append, List.take_append_drop]
  unfold withL
  split
  · rename_i hs
    refine ⟨h, fun m => ⟨fun hm => .inr hm, ?_⟩⟩
    rintro (rfl | hm)
    · exact List.mem_of_getElem? hs
    · exact hm
  · rename_i hs
    refine ⟨?_, fun m => ?_⟩
    · refine List.pairwise_append.2 ⟨h.sublist (List.take_sublist _ _), List.pairwise_cons.2 ⟨fun m hm => ?_, h.sublist (List.drop_sublist _ _)⟩, fun x hx y hy => ?_⟩
      · have h1 := spot_ge n xs h m hm
        have h2 : m ≠ n := by
          rintro rfl
          apply hs
          have hsp := spotOf_le m xs
          obtain ⟨j, hj, e⟩ := List.getElem_of_mem hm
          rw [List.getElem_drop] at e
          rw [List.length_drop] at hj
          have h0 : spotOf m xs < xs.length := by omega
          rw [List.getElem?_eq_getElem h0]
          rcases Nat.eq_zero_or_pos j with rfl | hj0
          · simpa using e
          · have q1 : xs[spotOf m xs] < xs[spotOf m xs + j] := List.pairwise_iff_getElem.1 h _ _ _ _ (by omega)
            have q2 : m ≤ xs[spotOf m xs] := spot_ge m xs h _ (by rw [List.drop_eq_getElem_cons h0]; exact List.mem_cons_self)
            omega
        omega
      · have h1 := spot_lt n xs x hx
        rcases List.mem_cons.1 hy with rfl | hy
        · exact h1
        · have := spot_ge n xs h y hy; omega
    · rw [List.mem_append, List.mem_cons, hsplit m]
      constructor
      · rintro (q | q | q)
        · exact .inr (.inl q)
        · exact .inl q
        · exact .inr (.inr q)
      · rintro (q | q | q)
        · exact .inr (.inl q)
        · exact .inl q
        · exact .inr (.inr q)

theorem withAll_inc : ∀ {ns xs : List Int}, Inc xs → Inc (withAll xs ns) ∧ ∀ m, m ∈ withAll xs ns ↔ m ∈ xs ∨ m ∈ ns
  | [], xs, h => ⟨h, fun m => by simp [withAll]⟩
  | n :: ns, xs, h => by
    obtain ⟨h1, h2⟩ := withL_inc (n := n) h
    obtain ⟨h3, h4⟩ := withAll_inc (ns := ns) h1
    have e : withAll xs (n :: ns) = withAll (withL n xs) ns := rfl
    rw [e]
    refine ⟨h3, fun m => ?_⟩
    rw [h4, h2, List.mem_cons]
    constructor
    · rintro ((q | q) | q)
      · exact .inr (.inl q)
      · exact .inl q
      · exact .inr (.inr q)
    · rintro (q | q | q)
      · exact .inl (.inr q)
      · exact .inl (.inl q)
      · exact .inr q

theorem withAll_ordered (ns : List Int) : withAll [] ns = ordered ns := by
  obtain ⟨h1, h2⟩ := withAll_inc (ns := ns) (xs := []) List.Pairwise.nil
  exact ordered_of h1 fun m => by rw [h2]; simp

theorem withAll_ordered2 (xs ns : List Int) : withAll (ordered xs) ns = ordered (xs ++ ns) := by
  obtain ⟨h1, h2⟩ := withAll_inc (ns := ns) (xs := ordered xs) (ordered_inc xs)
  exact ordered_of h1 fun m => by rw [h2, ordered_mem, List.mem_append]
end Go.Proofs.R29
end

/- R01.Put: a number into its place, into a list of its own. -/
section
namespace Go.Proofs.R29
open Go.ChangeShapes Go.WideShapes Go.ChangeAt Go.RowKit Go.Shelf

/-- n in its place, once (R01.Put). -/
def putL (n : Int) (xs : List Int) : List Int := if n ∈ xs then xs else xs.take (spotOf n xs) ++ n :: xs.drop (spotOf n xs)

/-- A list that is not nil. -/
def PutPost (ys : List Int) (w : World) (x : Ending) (w' : World) : Prop :=
  ∃ g o cap, x = .returned (.slice (some ⟨g, o, none⟩) ys.length cap) ∧ Ints w' (.slice (some ⟨g, o, none⟩) ys.length cap) ys ∧ Below w.heap.size w w'

theorem putL_inc {n : Int} {xs : List Int} (h : Inc xs) : Inc (putL n xs) ∧ ∀ m, m ∈ putL n xs ↔ m = n ∨ m ∈ xs := by
  by_cases hm : n ∈ xs
  · have e : putL n xs = xs := by unfold putL; rw [if_pos hm]
    rw [e]
    refine ⟨h, fun m => ⟨.inr, ?_⟩⟩
    rintro (rfl | q)
    · exact hm
    · exact q
  · have e : putL n xs = withL n xs := by
      unfold putL withL
      rw [if_neg hm, if_neg (fun hs => hm (List.mem_of_getElem? hs))]
    rw [e]
    exact withL_inc h

theorem putL_ordered (n : Int) (ys : List Int) : putL n (ordered ys) = ordered (ys ++ [n]) := by
  obtain ⟨h1, h2⟩ := putL_inc (n := n) (ordered_inc ys)
  refine ordered_of h1 fun m => ?_
  rw [h2, ordered_mem, List.mem_append, List.mem_singleton]
  exact Or.comm

theorem ordered_len (ys : List Int) : (ordered ys).length ≤ ys.length := Nat.le_trans (Lib.compact_length_le _) (Nat.le_of_eq (List.length_mergeSort ys))

theorem below_append {base : Nat} {w w1 w2 : World} {e : TypeId} {size n : Nat} {v : Value} {xs : List Value} (hb : Below base w w1) (h1 : base ≤ w1.heap.size) (hown : w1.ownsRow base e size v n xs) (hg : w1.grownBy w2 v.ownBlock) : Below base w w2 :=
  hb.grown hg h1 fun q hq => by
    rcases hown.2 with ⟨h0, _⟩ | ⟨_, _, _, h0, hbase', _⟩
    · subst h0; cases hq
    · subst h0; cases hq; exact hbase'

theorem own_form {base : Nat} {w : World} {n : Nat} {v : Value} {xs : List Int} (h : w.ownsRow base 3 1 v n (xs.map (Value.int .i64))) (hne : v ≠ .slice none 0 0) : ∃ g cap, v = .slice (some ⟨g, 0, none⟩) n cap ∧ base ≤ g ∧ n ≤ cap := by
  rcases h.2 with ⟨h0, _⟩ | ⟨g, cap, cur, h0, hbase', _, h4, _⟩
  · exact absurd h0 hne
  · exact ⟨g, cap, h0, hbase', h4⟩

set_option maxRecDepth 100000 in
set_option maxHeartbeats 1000000 in
theorem put_has (b o cap : Nat) (xs : List Int) (n : Int) (w : World) (h : Ints w (.slice (some ⟨b, o, none⟩) xs.length cap) xs) (hm : n ∈ xs) :
    Calls Tryz.prog 114 #[.slice (some ⟨b, o, none⟩) xs.length cap, .int .i64 n] w fun x w' => x = .returned (.slice (some ⟨b, o, none⟩) xs.length cap) ∧ w' = w := by
  have hhas := has_ok _ xs n w h
  rw [decide_eq_true hm] at hhas
  have Hhas := Lib.hid hhas
  clear hhas hm h
  go_enter Tryz.func114, Tryz.ntmps114
  go_wp2_with fail
  refine Calls.mono Hhas ?_
  rintro x w' ⟨rfl, rfl⟩
  go_wp2_with fail
  go_ret
  exact ⟨rfl, rfl⟩

set_option maxRecDepth 100000 in
set_option maxHeartbeats 2000000 in
theorem put_new (b o cap : Nat) (xs : List Int) (n : Int) (w : World) (h : Ints w (.slice (some ⟨b, o, none⟩) xs.length cap) xs) (hn : xs.length ≤ 1000000) (hm : n ∉ xs) :
    Calls Tryz.prog 114 #[.slice (some ⟨b, o, none⟩) xs.length cap, .int .i64 n] w (PutPost (putL n xs) w) := by
  obtain ⟨i0, hi, hz0, hz1, hz2⟩ := info_parts Tryz.info3'
  obtain ⟨_, _, eform, _, hcap⟩ := h.form
  cases eform
  have hhas := has_ok _ xs n w h
  have hcells : ∀ j (hj : j < xs.length) w', Below w.heap.size w w' → w'.cell? ⟨b, o + j, none⟩ = some (.int .i64 xs[j]) := fun j hj w' q => by
    obtain ⟨b', o', e, _, hc⟩ := h.at_ hj
    cases e
    exact hc w' q
  have Hcells := Lib.hid hcells
  have hp : putL n xs = xs.take (spotOf n xs) ++ n :: xs.drop (spotOf n xs) := by unfold putL; rw [if_neg hm]
  have Hp := Lib.hid hp
  rw [decide_eq_false hm] at hhas
  have Hhas := Lib.hid hhas
  clear hhas hm hp h hcells
  go_enter Tryz.func114, Tryz.ntmps114
  go_wp2_with fail
  refine Calls.mono Hhas ?_
  rintro x w' ⟨rfl, rfl⟩
  go_wp2_with fail
  go_loopw [5] (fun i wr => ∃ k : Nat, k ≤ xs.length ∧ i = .int .i64 k ∧ wr = w' ∧ ∀ j (hj : j < xs.length), j < k → xs[j] < n) (fun i _ => xs.length - (intOf i).toNat)
  case atStart => exact ⟨0, Nat.zero_le _, rfl, rfl, fun j _ hj => by omega⟩
  case round =>
    obtain ⟨k, hk, rfl, rfl, hq⟩ := hrel
    have Hq := Lib.hid hq
    clear hq
    by_cases hlt : k < xs.length
    · have hc := (Hcells : ∀ j (hj : j < xs.length) w', _ → _) k hlt wr (Below.refl _ _)
      by_cases hx : xs[k] < n
      · have Hx := Lib.hid hx
        generalize hgx : xs[k] = xk at *
        have Hgx := Lib.hid hgx
        clear hgx
        go_wp2_with fail
        go_roundw
        case rel =>
          refine ⟨k + 1, by omega, by go_num, by trivial, fun j hj hjk => ?_⟩
          rcases Nat.lt_succ_iff_lt_or_eq.1 hjk with hj2 | rfl
          · exact Hq j hj hj2
          · have : xs[j] = xk := Hgx
            rw [this]
            exact Hx
        case measure => first | (simp [intOf]; done) | (simp [intOf]; omega)
      · have hsp : spotOf n xs = k := spotOf_of hk Hq (fun _ => hx)
        generalize xs[k] = xk at *
        have Hsp := Lib.hid hsp
        clear hsp
        have HownA := Lib.hid (World.ownsRow_made (base := wr.heap.size) (e := 3) (size := 1) wr #[] 0 (Nat.le_refl _) (by simp [maxLen]) rfl)
        have HbA : wr.heap.size ≤ (wr.alloc (.cells #[] 3)).heap.size := by rw [World.size_alloc]; omega
        have HqA := Lib.hid ((Below.refl wr.heap.size wr).alloc (Nat.le_refl _) (.cells #[] 3))
        have HnewA : Hid (∀ j u, ((xs.take k).map (Value.int .i64))[j]? = some u → (wr.alloc (.cells #[] 3)).cell? ((⟨b, o, none⟩ : Addr).add j) = some u) := fun j u hu => by
          have hj : j < (xs.take k).length := by have := (List.getElem?_eq_some_iff.1 hu).1; simpa using this
          have hj2 : j < xs.length := by rw [List.length_take] at hj; omega
          rw [Addr.add_lit, Hcells j hj2 _ HqA]
          rw [List.getElem?_map, List.getElem?_eq_getElem hj, List.getElem_take] at hu
          simpa using hu
        have Hone : Hid (∀ (l : List Int), ∀ u ∈ l.map (Value.int .i64), u.oneCell' = true) := fun l u hu => by obtain ⟨_, _, rfl⟩ := List.mem_map.1 hu; rfl
        have Hlt : Hid (((xs.take k).map (Value.int .i64)).length = k * 1) := by show _ = _; rw [List.length_map, List.length_take]; omega
        go_wp2_with (at_builtin; go_loud (refine wpList_append_own (wr.alloc (.cells #[] 3)) rfl _ _ 24 rfl wr.heap.size 3 i0 (.int .i64 0) 1 8 Tryz.underlying24 hi hz0 hz1 hz2 rfl (by omega) _ 0 _ rfl HownA ⟨b, o, none⟩ k cap ((xs.take k).map (Value.int .i64)) rfl Hlt HnewA (Hone _) (by unfold maxLen; omega) (by omega) HbA ?_))
        intro v2 w2 hown2 hg2 hnil2
        have hq2 : Below wr.heap.size wr w2 := below_append HqA HbA HownA hg2
        have hne2 : v2 ≠ .slice none 0 0 := fun e => by first | exact hnil2 e | (have := (hnil2.1 e).1; simp at this)
        have hs2 := hq2.size
        replace hown2 : w2.ownsRow wr.heap.size 3 1 v2 k ((xs.take k).map (Value.int .i64)) := by simpa using hown2
        obtain ⟨g2, c2, rfl, hg2b, hc2⟩ := own_form hown2 hne2
        have Hown2 := Lib.hid hown2
        have Hq2 := Lib.hid hq2
        clear hown2 hg2 hnil2 hne2 hq2 HownA HqA HnewA HbA Hlt
        have HownB := Lib.hid (World.ownsRow.alloc (Hown2 : w2.ownsRow wr.heap.size 3 1 _ k _) (.cells #[.int .i64 n] 3))
        have HbB : wr.heap.size ≤ (w2.alloc (.cells #[.int .i64 n] 3)).heap.size := by rw [World.size_alloc]; omega
        have HqB := Lib.hid ((Hq2 : Below wr.heap.size wr w2).alloc hs2 (.cells #[.int .i64 n] 3))
        have HnewB : Hid (∀ j u, ([n].map (Value.int .i64))[j]? = some u → (w2.alloc (.cells #[.int .i64 n] 3)).cell? ((⟨w2.heap.size, 0, none⟩ : Addr).add j) = some u) := fun j u hu => by
          cases j with
          | succ j => simp at hu
          | zero =>
            simp at hu
            subst hu
            exact (Go.Abs.cell_of_heap (Go.Abs.heap_alloc_at _ _)).trans rfl
        go_wp2_with (at_builtin; go_loud (refine wpList_append_own (w2.alloc (.cells #[.int .i64 n] 3)) rfl _ _ 24 rfl wr.heap.size 3 i0 (.int .i64 0) 1 8 Tryz.underlying24 hi hz0 hz1 hz2 rfl (by omega) _ k _ rfl HownB ⟨w2.heap.size, 0, none⟩ 1 1 ([n].map (Value.int .i64)) rfl rfl HnewB (Hone _) (by unfold maxLen; omega) (by omega) HbB ?_))
        intro v3 w3 hown3 hg3 hnil3
        have hq3 : Below wr.heap.size wr w3 := below_append HqB HbB HownB hg3
        have hne3 : v3 ≠ .slice none 0 0 := fun e => by first | exact hnil3 e | (have := (hnil3.1 e).1; simp at this)
        have hs3 := hq3.size
        replace hown3 : w3.ownsRow wr.heap.size 3 1 v3 (k + 1) ((xs.take k ++ [n]).map (Value.int .i64)) := by simpa using hown3
        obtain ⟨g3, c3, rfl, hg3b, hc3⟩ := own_form hown3 hne3
        have Hown3 := Lib.hid hown3
        have Hq3 := Lib.hid hq3
        clear hown3 hg3 hnil3 hne3 hq3 HownB HqB HnewB HbB
        have HnewC : Hid (∀ j u, ((xs.drop k).map (Value.int .i64))[j]? = some u → w3.cell? ((⟨b, o + k, none⟩ : Addr).add j) = some u) := fun j u hu => by
          have hj : j < (xs.drop k).length := by have := (List.getElem?_eq_some_iff.1 hu).1; simpa using this
          have hj2 : k + j < xs.length := by rw [List.length_drop] at hj; omega
          rw [Addr.add_lit, Nat.add_assoc, Hcells (k + j) hj2 _ Hq3]
          rw [List.getElem?_map, List.getElem?_eq_getElem hj, List.getElem_drop] at hu
          simpa using hu
        have Hld : Hid (((xs.drop k).map (Value.int .i64)).length = (xs.length - k) * 1) := by show _ = _; rw [List.length_map, List.length_drop]; omega
        go_wp2_with (at_builtin; go_loud (refine wpList_append_own w3 rfl _ _ 24 rfl wr.heap.size 3 i0 (.int .i64 0) 1 8 Tryz.underlying24 hi hz0 hz1 hz2 rfl (by omega) _ (k + 1) _ rfl Hown3 ⟨b, o + k, none⟩ (xs.length - k) (cap - k) ((xs.drop k).map (Value.int .i64)) (by first | rfl | go_num) Hld HnewC (Hone _) (by unfold maxLen; omega) (by omega) hs3 ?_))
        intro v4 w4 hown4 hg4 hnil4
        have hq4 : Below wr.heap.size wr w4 := below_append Hq3 hs3 Hown3 hg4
        have hne4 : v4 ≠ .slice none 0 0 := fun e => by first | exact hnil4 e | (have := (hnil4.1 e).1; simp at this)
        replace hown4 : w4.ownsRow wr.heap.size 3 1 v4 (k + 1 + (xs.length - k)) ((xs.take k ++ [n] ++ xs.drop k).map (Value.int .i64)) := by simpa using hown4
        have el : xs.take k ++ [n] ++ xs.drop k = putL n xs := by rw [(Hp : putL n xs = _), (Hsp : spotOf n xs = k), List.append_assoc]; rfl
        have ell : k + 1 + (xs.length - k) = (putL n xs).length := by rw [← el]; simp; omega
        rw [el, ell] at hown4
        obtain ⟨g4, c4, rfl, hg4b, hc4⟩ := own_form hown4 hne4
        have hI4 := ints_of_own' hown4
        have HI4 := Lib.hid hI4
        have Hq4 := Lib.hid hq4
        have Hell := Lib.hid ell
        clear hown4 hg4 hnil4 hne4 hq4 Hown3 Hq3 HnewC Hld hI4 el ell
        go_wp2_with fail
        go_ret
        exact ⟨g4, 0, c4, by first | rfl | (rw [← (Hell : _ = _)]), HI4, Hq4⟩
    · have hsp : spotOf n xs = k := spotOf_of hk Hq (fun h => absurd h hlt)
      have Hsp := Lib.hid hsp
      clear hsp
      have HownA := Lib.hid (World.ownsRow_made (base := wr.heap.size) (e := 3) (size := 1) wr #[] 0 (Nat.le_refl _) (by simp [maxLen]) rfl)
      have HbA : wr.heap.size ≤ (wr.alloc (.cells #[] 3)).heap.size := by rw [World.size_alloc]; omega
      have HqA := Lib.hid ((Below.refl wr.heap.size wr).alloc (Nat.le_refl _) (.cells #[] 3))
      have HnewA : Hid (∀ j u, ((xs.take k).map (Value.int .i64))[j]? = some u → (wr.alloc (.cells #[] 3)).cell? ((⟨b, o, none⟩ : Addr).add j) = some u) := fun j u hu => by
        have hj : j < (xs.take k).length := by have := (List.getElem?_eq_some_iff.1 hu).1; simpa using this
        have hj2 : j < xs.length := by rw [List.length_take] at hj; omega
        rw [Addr.add_lit, Hcells j hj2 _ HqA]
        rw [List.getElem?_map, List.getElem?_eq_getElem hj, List.getElem_take] at hu
        simpa using hu
      have Hone : Hid (∀ (l : List Int), ∀ u ∈ l.map (Value.int .i64), u.oneCell' = true) := fun l u hu => by obtain ⟨_, _, rfl⟩ := List.mem_map.1 hu; rfl
      have Hlt : Hid (((xs.take k).map (Value.int .i64)).length = k * 1) := by show _ = _; rw [List.length_map, List.length_take]; omega
      go_wp2_with (at_builtin; go_loud (refine wpList_append_own (wr.alloc (.cells #[] 3)) rfl _ _ 24 rfl wr.heap.size 3 i0 (.int .i64 0) 1 8 Tryz.underlying24 hi hz0 hz1 hz2 rfl (by omega) _ 0 _ rfl HownA ⟨b, o, none⟩ k cap ((xs.take k).map (Value.int .i64)) rfl Hlt HnewA (Hone _) (by unfold maxLen; omega) (by omega) HbA ?_))
      intro v2 w2 hown2 hg2 hnil2
      have hq2 : Below wr.heap.size wr w2 := below_append HqA HbA HownA hg2
      have hne2 : v2 ≠ .slice none 0 0 := fun e => by first | exact hnil2 e | (have := (hnil2.1 e).1; simp at this)
      have hs2 := hq2.size
      replace hown2 : w2.ownsRow wr.heap.size 3 1 v2 k ((xs.take k).map (Value.int .i64)) := by simpa using hown2
      obtain ⟨g2, c2, rfl, hg2b, hc2⟩ := own_form hown2 hne2
      have Hown2 := Lib.hid hown2
      have Hq2 := Lib.hid hq2
      clear hown2 hg2 hnil2 hne2 hq2 HownA HqA HnewA HbA Hlt
      have HownB := Lib.hid (World.ownsRow.alloc (Hown2 : w2.ownsRow wr.heap.size 3 1 _ k _) (.cells #[.int .i64 n] 3))
      have HbB : wr.heap.size ≤ (w2.alloc (.cells #[.int .i64 n] 3)).heap.size := by rw [World.size_alloc]; omega
      have HqB := Lib.hid ((Hq2 : Below wr.heap.size wr w2).alloc hs2 (.cells #[.int .i64 n] 3))
      have HnewB : Hid (∀ j u, ([n].map (Value.int .i64))[j]? = some u → (w2.alloc (.cells #[.int .i64 n] 3)).cell? ((⟨w2.heap.size, 0, none⟩ : Addr).add j) = some u) := fun j u hu => by
        cases j with
        | succ j => simp at hu
        | zero =>
          simp at hu
          subst hu
          exact (Go.Abs.cell_of_heap (Go.Abs.heap_alloc_at _ _)).trans rfl
      go_wp2_with (at_builtin; go_loud (refine wpList_append_own (w2.alloc (.cells #[.int .i64 n] 3)) rfl _ _ 24 rfl wr.heap.size 3 i0 (.int .i64 0) 1 8 Tryz.underlying24 hi hz0 hz1 hz2 rfl (by omega) _ k _ rfl HownB ⟨w2.heap.size, 0, none⟩ 1 1 ([n].map (Value.int .i64)) rfl rfl HnewB (Hone _) (by unfold maxLen; omega) (by omega) HbB ?_))
      intro v3 w3 hown3 hg3 hnil3
      have hq3 : Below wr.heap.size wr w3 := below_append HqB HbB HownB hg3
      have hne3 : v3 ≠ .slice none 0 0 := fun e => by first | exact hnil3 e | (have := (hnil3.1 e).1; simp at this)
      have hs3 := hq3.size
      replace hown3 : w3.ownsRow wr.heap.size 3 1 v3 (k + 1) ((xs.take k ++ [n]).map (Value.int .i64)) := by simpa using hown3
      obtain ⟨g3, c3, rfl, hg3b, hc3⟩ := own_form hown3 hne3
      have Hown3 := Lib.hid hown3
      have Hq3 := Lib.hid hq3
      clear hown3 hg3 hnil3 hne3 hq3 HownB HqB HnewB HbB
      rcases Nat.lt_or_ge k cap with hkc | hkc
      · have hkc2 : ¬ cap = k := by omega
        have HnewC : Hid (∀ j u, ((xs.drop k).map (Value.int .i64))[j]? = some u → w3.cell? ((⟨b, o + k, none⟩ : Addr).add j) = some u) := fun j u hu => by
          have hj : j < (xs.drop k).length := by have := (List.getElem?_eq_some_iff.1 hu).1; simpa using this
          have hj2 : k + j < xs.length := by rw [List.length_drop] at hj; omega
          rw [Addr.add_lit, Nat.add_assoc, Hcells (k + j) hj2 _ Hq3]
          rw [List.getElem?_map, List.getElem?_eq_getElem hj, List.getElem_drop] at hu
          simpa using hu
        have Hld : Hid (((xs.drop k).map (Value.int .i64)).length = (xs.length - k) * 1) := by show _ = _; rw [List.length_map, List.length_drop]; omega
        go_wp2_with (at_builtin; go_loud (refine wpList_append_own w3 rfl _ _ 24 rfl wr.heap.size 3 i0 (.int .i64 0) 1 8 Tryz.underlying24 hi hz0 hz1 hz2 rfl (by omega) _ (k + 1) _ rfl Hown3 ⟨b, o + k, none⟩ (xs.length - k) (cap - k) ((xs.drop k).map (Value.int .i64)) (by first | rfl | go_num) Hld HnewC (Hone _) (by unfold maxLen; omega) (by omega) hs3 ?_))
        intro v4 w4 hown4 hg4 hnil4
        have hq4 : Below wr.heap.size wr w4 := below_append Hq3 hs3 Hown3 hg4
        have hne4 : v4 ≠ .slice none 0 0 := fun e => by first | exact hnil4 e | (have := (hnil4.1 e).1; simp at this)
        replace hown4 : w4.ownsRow wr.heap.size 3 1 v4 (k + 1 + (xs.length - k)) ((xs.take k ++ [n] ++ xs.drop k).map (Value.int .i64)) := by simpa using hown4
        have el : xs.take k ++ [n] ++ xs.drop k = putL n xs := by rw [(Hp : putL n xs = _), (Hsp : spotOf n xs = k), List.append_assoc]; rfl
        have ell : k + 1 + (xs.length - k) = (putL n xs).length := by rw [← el]; simp; omega
        rw [el, ell] at hown4
        obtain ⟨g4, c4, rfl, hg4b, hc4⟩ := own_form hown4 hne4
        have hI4 := ints_of_own' hown4
        have HI4 := Lib.hid hI4
        have Hq4 := Lib.hid hq4
        have Hell := Lib.hid ell
        clear hown4 hg4 hnil4 hne4 hq4 Hown3 Hq3 HnewC Hld hI4 el ell
        go_wp2_with fail
        go_ret
        exact ⟨g4, 0, c4, by first | rfl | (rw [← (Hell : _ = _)]), HI4, Hq4⟩
      · obtain rfl : cap = k := by omega
        go_wp2_with fail
        go_ret
        have el : xs.take cap ++ [n] = putL n xs := by rw [(Hp : putL n xs = _), (Hsp : spotOf n xs = cap), List.drop_of_length_le (by omega)]
        have ell : cap + 1 = (putL n xs).length := by rw [← el]; simp; omega
        have h3 : w3.ownsRow wr.heap.size 3 1 (.slice (some ⟨g3, 0, none⟩) (cap + 1) c3) (cap + 1) ((xs.take cap ++ [n]).map (Value.int .i64)) := Hown3
        rw [el, ell] at h3
        exact ⟨g3, 0, c3, by rw [ell]; rfl, ints_of_own' h3, Hq3⟩

theorem put_ok (b o cap : Nat) (xs : List Int) (n : Int) (w : World) (h : Ints w (.slice (some ⟨b, o, none⟩) xs.length cap) xs) (hn : xs.length ≤ 1000000) :
    Calls Tryz.prog 114 #[.slice (some ⟨b, o, none⟩) xs.length cap, .int .i64 n] w (PutPost (putL n xs) w) := by
  by_cases hm : n ∈ xs
  · have e : putL n xs = xs := by unfold putL; rw [if_pos hm]
    refine (put_has b o cap xs n w h hm).mono ?_
    rintro x w' ⟨rfl, rfl⟩
    rw [e]
    exact ⟨b, o, cap, rfl, h, Below.refl _ _⟩
  · exact put_new b o cap xs n w h hn hm
end Go.Proofs.R29
end
