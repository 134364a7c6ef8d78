/- Regions that draw their order, whose special operations wait for one another in part only. -/
import Derived.Test.YtfebldoplobkdaaCall
namespace Go.Proofs.Ytfebldoplobkdaa
open Go.ChangeShapes Go.WideShapes Go.ChangeAt Go.RowKit

section
variable {P : Program} {ops : Array Oper}

/-- The frame A with the values of the special operations that are done. -/
def fillO (A : Act) : List (Option Tmp) → List (Option Value) → Act
  | d :: ds, some v :: vs => fillO (A.put d v) ds vs
  | _ :: ds, none :: vs => fillO A ds vs
  | _, _ => A
theorem fillO_size : ∀ (ds : List (Option Tmp)) (vs : List (Option Value)) (A : Act), (fillO A ds vs).tmps.size = A.tmps.size
  | [], _, _ => rfl
  | _ :: _, [], _ => rfl
  | d :: ds, some v :: vs, A => by rw [fillO, fillO_size ds vs, put_size]
  | d :: ds, none :: vs, A => by rw [fillO, fillO_size ds vs]
theorem fillO_defers : ∀ (ds : List (Option Tmp)) (vs : List (Option Value)) (A : Act), (fillO A ds vs).defers = A.defers
  | [], _, _ => rfl
  | _ :: _, [], _ => rfl
  | d :: ds, some v :: vs, A => by rw [fillO, fillO_defers ds vs, put_defers]
  | d :: ds, none :: vs, A => by rw [fillO, fillO_defers ds vs]
theorem fillO_other {s : Tmp} : ∀ (ds : List (Option Tmp)) (vs : List (Option Value)) (A : Act), (∀ (j : Nat) (u : Value), vs[j]? = some (some u) → ds[j]? ≠ some (some s)) → (fillO A ds vs).tmps.getD s undef = A.tmps.getD s undef
  | [], _, _, _ => rfl
  | _ :: _, [], _, _ => rfl
  | d :: ds, some v :: vs, A, h => by
    rw [fillO, fillO_other ds vs _ fun j u hj => by have := h (j + 1) u (by simpa using hj); simpa using this]
    cases d with
    | none => rfl
    | some t => exact put_getD_ne fun e => h 0 v (by simp) (by simp [e])
  | d :: ds, none :: vs, A, h => by
    rw [fillO, fillO_other ds vs _ fun j u hj => by have := h (j + 1) u (by simpa using hj); simpa using this]
theorem fillO_at {s : Tmp} : ∀ (ds : List (Option Tmp)) (vs : List (Option Value)) (A : Act) (j : Nat) (v : Value), s < A.tmps.size → ds[j]? = some (some s) → (∀ i, i ≠ j → ds[i]? ≠ some (some s)) → vs[j]? = some (some v) → (fillO A ds vs).tmps.getD s undef = v
  | [], _, _, j, _, _, h, _, _ => by simp at h
  | _ :: _, [], _, j, _, _, _, _, h => by simp at h
  | d :: ds, none :: vs, A, j, v, hs, hd, hu, hv => by
    rw [fillO]
    cases j with
    | zero => simp at hv
    | succ j => exact fillO_at ds vs _ j v hs (by simpa using hd) (fun i hi => by have := hu (i + 1) (by omega); simpa using this) (by simpa using hv)
  | d :: ds, some u :: vs, A, j, v, hs, hd, hu, hv => by
    rw [fillO]
    cases j with
    | zero =>
      simp at hd hv
      subst hd hv
      rw [fillO_other ds vs _ fun i _ _ => by have := hu (i + 1) (by omega); simpa using this]
      exact put_getD_same hs
    | succ j =>
      exact fillO_at ds vs _ j v (by rw [put_size]; exact hs) (by simpa using hd) (fun i hi => by have := hu (i + 1) (by omega); simpa using this) (by simpa using hv)
theorem fillO_all (A : Act) : ∀ (ds : List (Option Tmp)) (vs : List Value) (A : Act), fillO A ds (vs.map some) = fillA A ds vs
  | [], _, _ => rfl
  | _ :: _, [], _ => rfl
  | d :: ds, v :: vs, B => by rw [List.map_cons, fillO, fillA, fillO_all A ds vs]

def netC (ops : Array Oper) (S : List Nat) : Bool :=
  Region.noSelect ops &&
  ((List.range ops.size).all fun i => (S.contains i || (dstAt ops i).isSome) && (List.range ops.size).all fun j => j == i || (dstAt ops i).isNone || dstAt ops j != dstAt ops i) &&
  ((List.range ops.size).all fun i => match ops[i]? with
    | none => false
    | some o => (o.after.all fun e => !Region.binds .any e || decide (e.on < i)) &&
      (match o.dst with | some d => !(o.looksAt ops).contains d | none => true) &&
      (List.range ops.size).all fun j => match dstAt ops j with
        | none => true
        | some d => j == i || !(o.looksAt ops).contains d ||
            (decide (j < i) && waits3 ops i j && (S.contains i || !S.contains j)) || (decide (i < j) && waits3 ops j i && (!S.contains i || S.contains j))) &&
  (S.all fun i => decide (i < ops.size)) &&
  ((List.range S.length).all fun j => j == 0 || decide (S.getD (j - 1) 0 < S.getD j 0))

structure NetC (ops : Array Oper) (S : List Nat) : Prop where
  sel : Region.noSelect ops = true
  lt : ∀ j, j < S.length → S.getD j 0 < ops.size
  dst : ∀ i, i < ops.size → i ∉ S → ∃ d, dstAt ops i = some d
  uniq : ∀ i, i < ops.size → ∀ d, dstAt ops i = some d → ∀ j, j < ops.size → j ≠ i → dstAt ops j ≠ some d
  after : ∀ i o, ops[i]? = some o → ∀ e ∈ o.after, Region.binds .any e = true → e.on < i
  looks : ∀ i o, ops[i]? = some o → ∀ j, j < ops.size → ∀ d, dstAt ops j = some d → d ∈ o.looksAt ops →
    (j < i ∧ waits3 ops i j = true ∧ (i ∈ S ∨ j ∉ S)) ∨ (i < j ∧ waits3 ops j i = true ∧ (i ∉ S ∨ j ∈ S))
  inc : ∀ j, j < S.length → j ≠ 0 → S.getD (j - 1) 0 < S.getD j 0

theorem netC_of {S : List Nat} (h : netC ops S = true) : NetC ops S := by
  simp only [netC, Bool.and_eq_true] at h
  obtain ⟨⟨⟨⟨h1, h3⟩, h4⟩, h5⟩, h6⟩ := h
  refine ⟨h1, fun j hj => ?_, fun i hi hq => ?_, fun i hi d hd j hj hji he => ?_, fun i o ho e he hb => ?_, fun i o ho j hj d hd hl => ?_, fun j hj hj0 => ?_⟩
  · have hm : S.getD j 0 ∈ S := by simp [List.getD, hj]
    simpa using List.all_eq_true.1 h5 _ hm
  · have := List.all_eq_true.1 h3 i (List.mem_range.2 hi)
    simp only [Bool.and_eq_true, Bool.or_eq_true, List.contains_iff_mem] at this
    rcases this.1 with h' | h'
    · exact absurd h' hq
    · exact Option.isSome_iff_exists.1 h'
  · have := List.all_eq_true.1 h3 i (List.mem_range.2 hi)
    simp only [Bool.and_eq_true] at this
    have h' := List.all_eq_true.1 this.2 j (List.mem_range.2 hj)
    simp [hji, hd, he] at h'
  · have hi : i < ops.size := (Array.getElem?_eq_some_iff.1 ho).1
    have := List.all_eq_true.1 h4 i (List.mem_range.2 hi)
    simp only [ho, Bool.and_eq_true] at this
    have h' := Array.all_eq_true_iff_forall_mem.1 this.1.1 e he
    simpa [hb] using h'
  · have hi : i < ops.size := (Array.getElem?_eq_some_iff.1 ho).1
    have := List.all_eq_true.1 h4 i (List.mem_range.2 hi)
    simp only [ho, Bool.and_eq_true] at this
    have h' := List.all_eq_true.1 this.2 j (List.mem_range.2 hj)
    simp only [hd, Bool.or_eq_true, Bool.not_eq_true', Bool.and_eq_true, decide_eq_true_eq, beq_iff_eq, List.contains_iff_mem] at h'
    rcases h' with ((h' | h') | h') | h'
    · subst h'
      have h5' := this.1.2
      have hdo : o.dst = some d := by simpa [dstAt, ho] using hd
      simp [hdo, hl] at h5'
    · simp [hl] at h'
    · refine .inl ⟨h'.1.1, h'.1.2, ?_⟩
      rcases h'.2 with h2 | h2
      · exact .inl h2
      · exact .inr (by simpa using h2)
    · refine .inr ⟨h'.1.1, h'.1.2, ?_⟩
      rcases h'.2 with h2 | h2
      · exact .inl (by simpa using h2)
      · exact .inr h2
  · have := List.all_eq_true.1 h6 j (List.mem_range.2 hj)
    simpa [hj0] using this

structure Inv4 (ops : Array Oper) (W : World) (row : Option Nat) (S : List Nat) (A a0 : Act) (F : List (Option Value) → World → Prop) (listed : Array Bool) (a : Act) (w : World) : Prop where
  size : listed.size = ops.size
  closed : Closed ops listed
  defers : a.defers = A.defers
  len : a.tmps.size = A.tmps.size
  new : ∀ s, (∀ i ∈ S, dstAt ops i ≠ some s) → (∀ i, i < ops.size → dstAt ops i = some s → listed.getD i true = true) → a.tmps.getD s undef = A.tmps.getD s undef
  old : ∀ s i, i < ops.size → dstAt ops i = some s → listed.getD i true = false → a.tmps.getD s undef = a0.tmps.getD s undef
  off : W.grownBy w row
  spec : ∃ ν : List (Option Value), ν.length = S.length ∧ (∀ j, j < S.length → listed.getD (S.getD j 0) true = (ν.getD j none).isSome) ∧ F ν w ∧ ∀ j v s, ν[j]? = some (some v) → dstAt ops (S.getD j 0) = some s → a.tmps.getD s undef = v

/-- What is asked of the special operations: the j-th, once those that it waits for are done (those that wait for it are not); ν: what they left. -/
structure SpecOK4 (P : Program) (ops : Array Oper) (W : World) (row : Option Nat) (S : List Nat) (A : Act) (F : List (Option Value) → World → Prop) : Prop where
  stable : ∀ w w' ν, F ν w → Below w.heap.size w w' → F ν w'
  steps : ∀ j, j < S.length → ∃ o, ops[S.getD j 0]? = some o ∧ o.guard = none ∧
    ∀ w (ν : List (Option Value)), ν.length = S.length → ν[j]? = some none → (∀ k, k < S.length → waits3 ops (S.getD j 0) (S.getD k 0) = true → ∃ u, ν[k]? = some (some u)) → (∀ k, k < S.length → waits3 ops (S.getD k 0) (S.getD j 0) = true → ν[k]? = some none) →
      W.grownBy w row → F ν w → Leaves P o (fillO A (dstsOfS ops S) ν) W w row (fun u w' => F (ν.set j (some u)) w')

theorem S_injC {S : List Nat} (ms : NetC ops S) : ∀ d i j, i < S.length → j < S.length → j = i + d + 1 → S.getD i 0 < S.getD j 0
  | 0, i, j, _, hj, he => by
    subst he
    exact ms.inc (i + 1) hj (by omega)
  | d + 1, i, j, hi, hj, he => Nat.lt_trans (S_injC ms d i (j - 1) hi (by omega) (by omega)) (ms.inc j hj (by omega))
theorem S_neC {S : List Nat} (ms : NetC ops S) {i j : Nat} (hi : i < S.length) (hj : j < S.length) (h : i ≠ j) : S.getD i 0 ≠ S.getD j 0 := by
  rcases Nat.lt_or_ge i j with h' | h'
  · have := S_injC ms (j - i - 1) i j hi hj (by omega); omega
  · have := S_injC ms (i - j - 1) j i hj hi (by omega); omega

theorem getD_some {ν : List (Option Value)} {j : Nat} {v : Value} (h : ν[j]? = some (some v)) : (ν.getD j none).isSome = true := by
  simp [List.getD, h]
theorem some_getD {ν : List (Option Value)} {j : Nat} (h : (ν.getD j none).isSome = true) : ∃ v, ν[j]? = some (some v) := by
  rw [List.getD] at h
  cases hq : ν[j]? with
  | none => simp [hq] at h
  | some o =>
    cases o with
    | none => simp [hq] at h
    | some v => exact ⟨v, rfl⟩
theorem none_getD {ν : List (Option Value)} {j : Nat} (hj : j < ν.length) (h : (ν.getD j none).isSome = false) : ν[j]? = some none := by
  rw [List.getD] at h
  cases hq : ν[j]? with
  | none => simp at hq; omega
  | some o =>
    cases o with
    | none => rfl
    | some v => simp [hq] at h

/-- The walk over a list of operations with their indices. -/
theorem quietAt_of4 {W : World} {okW : World → Prop} {S : List Nat} {A a0 : Act} (ms : NetC ops S) (hrefl : okW W) : ∀ (l : List (Nat × Oper)) (a : Act), (∀ x ∈ l, ops[x.1]? = some x.2 ∧ x.1 ∉ S) → l.Pairwise (fun x y => x.1 < y.1) →
    (∀ i, i < ops.size → i ∉ S → (∀ x ∈ l, x.1 ≠ i) → ∀ x ∈ l, i < x.1) →
    (∀ i, i < ops.size → ∀ d, dstAt ops i = some d → d < a.tmps.size) →
    (∀ x ∈ l, ∀ s, dstAt ops x.1 = some s → a.tmps.getD s undef = a0.tmps.getD s undef) →
    (∀ W1, okW W1 → wpQuiet P ops (fun w' => ∃ x : Ext W1, w' = x.val) (fun a' => a' = A) (l.map (·.2)) a) →
    ∀ x ∈ l, ∀ d, x.2.dst = some d → ∃ ai, QuietAt2 P ops okW S A a0 x.1 x.2 d ai
  | [], a, _, _, _, _, _, _, x, hx, _, _ => by cases hx
  | (b, o) :: l, a, hl, hpw, hall, hsz, hop, h, x, hx, d', hd' => by
    obtain ⟨h0, hbS⟩ := hl (b, o) (List.mem_cons_self ..)
    have hbs : b < ops.size := (Array.getElem?_eq_some_iff.1 h0).1
    obtain ⟨d, hdb⟩ := ms.dst b hbs hbS
    have hd : o.dst = some d := by simpa [dstAt, h0] using hdb
    have huniq := ms.uniq b hbs d hdb
    have hpw' := List.pairwise_cons.1 hpw
    have hl' : ∀ y ∈ l, ops[y.1]? = some y.2 ∧ y.1 ∉ S := fun y hy => hl y (List.mem_cons_of_mem _ hy)
    have later : ∀ o1 ∈ l.map (·.2), o1.dst ≠ some d := fun o1 ho1 he => by
      obtain ⟨y, hy, rfl⟩ := List.mem_map.1 ho1
      have h3 := (hl' y hy).1
      have hs := (Array.getElem?_eq_some_iff.1 h3).1
      have := hpw'.1 y hy
      exact huniq _ hs (by omega) (by simp [dstAt, h3, he])
    have hdl : d < a.tmps.size := hsz b hbs d hdb
    obtain ⟨hag1, hag2, hag3⟩ := quiet_agree _ _ (h W hrefl)
    have val : ∀ v, ∀ W1, wpQuiet P ops (fun w' => ∃ x : Ext W1, w' = x.val) (fun a' => a' = A) (l.map (·.2)) (a.put (some d) v) → v = A.tmps.getD d undef := fun v W1 hv => by
      obtain ⟨_, _, h3⟩ := quiet_agree _ _ hv
      rw [h3 d later, put_getD_same hdl]
    have next : (∀ W1, okW W1 → wpQuiet P ops (fun w' => ∃ x : Ext W1, w' = x.val) (fun a' => a' = A) (l.map (·.2)) (a.put (some d) (A.tmps.getD d undef))) := fun W1 hW1 => by
      have h1 := h W1 hW1
      rw [List.map_cons] at h1
      unfold wpQuiet at h1
      by_cases hw : Region.wanted o (yielded ops a.tmps) = true
      · rw [if_pos hw] at h1
        obtain ⟨v, _, hv⟩ := h1
        rw [hd] at hv
        have := val v W1 hv
        subst this
        exact hv
      · rw [if_neg hw, hd] at h1
        have := val undef W1 h1
        rw [← this]
        exact h1
    rcases List.mem_cons.1 hx with hx | hx
    · subst hx
      obtain rfl : d' = d := Option.some.inj (hd'.symm.trans hd)
      refine ⟨a, fun s hs => ?_, fun s j hj hjS hjs hij => ?_, hag2, ?_⟩
      · refine (hag3 s fun o1 ho1 he => ?_).symm
        obtain ⟨y, hy, rfl⟩ := List.mem_map.1 ho1
        obtain ⟨h3, h4⟩ := hl y hy
        have hss := (Array.getElem?_eq_some_iff.1 h3).1
        have h5 := hs y.1 hss h4 (by simp [dstAt, h3, he])
        rcases List.mem_cons.1 hy with h6 | h6
        · subst h6; simp at h5
        · have := hpw'.1 y h6
          simp at h5
          omega
      · simp only at hij
        by_cases hjl : ∃ y ∈ (b, o) :: l, y.1 = j
        · obtain ⟨y, hy, rfl⟩ := hjl
          exact hop y hy s hjs
        · exfalso
          have := hall j hj hjS (fun y hy he => hjl ⟨y, hy, he⟩) (b, o) (List.mem_cons_self ..)
          simp at this
          omega
      · simp only
        by_cases hw : Region.wanted o (yielded ops a.tmps) = true
        · refine .inl ⟨hw, fun w hbw => ?_⟩
          have h1 := h w hbw
          rw [List.map_cons] at h1
          unfold wpQuiet at h1
          rw [if_pos hw] at h1
          obtain ⟨v, hv1, hv⟩ := h1
          rw [hd] at hv
          have := val v w hv
          subst this
          have h2 := hv1 w ⟨⟨w, Below.refl _ _⟩, rfl⟩
          unfold Gives Oper.quietAt at *
          generalize (execOp a.eval o).run P w = r at *
          cases r with
          | halt x w' => exact h2
          | ok nx w' =>
            cases nx <;> simp only [Oper.quietUpon] at h2 ⊢
            · exact h2
            · exact h2
            · obtain ⟨e1, hc⟩ := h2
              exact ⟨e1, hc.mono fun e w'' ⟨he, x, hx⟩ => ⟨he, hx ▸ x.below⟩⟩
        · have hw' : Region.wanted o (yielded ops a.tmps) = false := by simpa using hw
          refine .inr ⟨hw', ?_⟩
          have h1 := h W hrefl
          rw [List.map_cons] at h1
          unfold wpQuiet at h1
          rw [if_neg hw, hd] at h1
          exact (val undef W h1).symm
    · exact quietAt_of4 ms hrefl l _ hl' hpw'.2
        (fun i hi hiS hne y hy => by
          by_cases hib : i = b
          · subst hib; exact hpw'.1 y hy
          · exact hall i hi hiS (fun z hz => by
              rcases List.mem_cons.1 hz with h6 | h6
              · subst h6; exact fun e => hib e.symm
              · exact hne z h6) y (List.mem_cons_of_mem _ hy))
        (fun i hi d1 hd1 => by rw [put_size]; exact hsz i hi d1 hd1)
        (fun y hy s hs => by
          have hyb := hpw'.1 y hy
          have hys := (Array.getElem?_eq_some_iff.1 (hl' y hy).1).1
          have hne : s ≠ d := fun e => by
            subst e
            simp at hyb
            exact huniq y.1 hys (by omega) hs
          rw [put_getD_ne hne]
          exact hop y (List.mem_cons_of_mem _ hy) s hs) next x hx d' hd'

theorem fillO_seen {S : List Nat} {A a a0 : Act} {W w : World} {row : Option Nat} {F : List (Option Value) → World → Prop} {listed : Array Bool} (ms : NetC ops S) (hz : ∀ i, i < ops.size → ∀ s, dstAt ops i = some s → s < A.tmps.size)
    (hA0 : ∀ s, (∀ i, i < ops.size → i ∉ S → dstAt ops i ≠ some s) → A.tmps.getD s undef = a0.tmps.getD s undef)
    (inv : Inv4 ops W row S A a0 F listed a w) {ν : List (Option Value)} (hν : ν.length = S.length) (hl : ∀ j, j < S.length → listed.getD (S.getD j 0) true = (ν.getD j none).isSome) (hv : ∀ j v s, ν[j]? = some (some v) → dstAt ops (S.getD j 0) = some s → a.tmps.getD s undef = v)
    {s : Tmp} (hq : ∀ i, i < ops.size → i ∉ S → dstAt ops i = some s → listed.getD i true = true) : a.tmps.getD s undef = (fillO A (dstsOfS ops S) ν).tmps.getD s undef := by
  by_cases hex : ∃ j, j < S.length ∧ dstAt ops (S.getD j 0) = some s
  · obtain ⟨j, hj, hd⟩ := hex
    have huq : ∀ i, i ≠ j → (dstsOfS ops S)[i]? ≠ some (some s) := fun i hij he => by
      have hi : i < S.length := by
        rcases Nat.lt_or_ge i S.length with h | h
        · exact h
        · rw [List.getElem?_eq_none (by simpa [dstsOfS] using h)] at he; cases he
      rw [dstsOfS_at hi] at he
      exact ms.uniq _ (ms.lt j hj) s hd _ (ms.lt i hi) (S_neC ms hi hj hij) (Option.some.inj he)
    by_cases hjν : (ν.getD j none).isSome = true
    · obtain ⟨v, hvj⟩ := some_getD hjν
      rw [fillO_at _ _ _ j v (hz _ (ms.lt j hj) s hd) (by rw [dstsOfS_at hj, hd]) huq hvj]
      exact hv j _ s hvj hd
    · rw [fillO_other _ _ _ fun i u hi he => by
        by_cases hij : i = j
        · subst hij; exact hjν (getD_some hi)
        · exact huq i hij he]
      have hun : listed.getD (S.getD j 0) true = false := by rw [hl j hj]; simpa using hjν
      rw [inv.old s _ (ms.lt j hj) hd hun]
      exact (hA0 s fun i hi hiS he => ms.uniq _ (ms.lt j hj) s hd i hi (fun e => hiS (by rw [e]; exact getS hj)) he).symm
  · rw [fillO_other _ _ _ fun i u hi he => by
      have hi' : i < S.length := by have := (List.getElem?_eq_some_iff.1 hi).1; omega
      rw [dstsOfS_at hi'] at he
      exact hex ⟨i, hi', Option.some.inj he⟩]
    exact inv.new s (fun i hi he => by
      obtain ⟨j, hj, hje⟩ := List.mem_iff_getElem.1 hi
      exact hex ⟨j, hj, by simp [List.getD, hj, hje, he]⟩) fun i hi he => by
        by_cases hiS : i ∈ S
        · exfalso
          obtain ⟨j, hj, hje⟩ := List.mem_iff_getElem.1 hiS
          exact hex ⟨j, hj, by simp [List.getD, hj, hje, he]⟩
        · exact hq i hi hiS he

/-- The last special operation waits for each quiet one. -/
def lastC (ops : Array Oper) (S : List Nat) : Bool := decide (0 < S.length) && (List.range ops.size).all fun j => S.contains j || waits3 ops (S.getD (S.length - 1) 0) j
theorem lastC_of {ops : Array Oper} {S : List Nat} (h : lastC ops S = true) : ∀ j, j < ops.size → j ∉ S → S.length - 1 < S.length ∧ waits3 ops (S.getD (S.length - 1) 0) j = true := fun j hj hS => by
  simp only [lastC, Bool.and_eq_true, decide_eq_true_eq] at h
  have := List.all_eq_true.1 h.2 j (List.mem_range.2 hj)
  simp only [Bool.or_eq_true, List.contains_iff_mem, hS, false_or] at this
  exact ⟨by omega, this⟩
theorem net_core4 {okW : World → Prop} {W : World} {row : Option Nat} {S : List Nat} {A a0 : Act} {F : List (Option Value) → World → Prop} {Q : Exit → Act → World → Prop} (ms : NetC ops S) (sp : SpecOK4 P ops W row S A F)
    (L : Bool) (hok : ∀ (ν : List (Option Value)) w, ν.length = S.length → (L = true → ν[S.length - 1]? = some none) → W.grownBy w row → F ν w → okW w) (hlast : L = true → ∀ j, j < ops.size → j ∉ S → S.length - 1 < S.length ∧ waits3 ops (S.getD (S.length - 1) 0) j = true)
    (hz : ∀ i, i < ops.size → ∀ s, dstAt ops i = some s → s < A.tmps.size)
    (hA0 : ∀ s, (∀ i, i < ops.size → i ∉ S → dstAt ops i ≠ some s) → A.tmps.getD s undef = a0.tmps.getD s undef)
    (hq : ∀ i, i < ops.size → i ∉ S → ∀ o s, ops[i]? = some o → o.dst = some s → ∃ ai, QuietAt2 P ops okW S A a0 i o s ai)
    (hT : ∀ ν : List (Option Value), ν.length = S.length → (∀ k, k < S.length → ∃ u, ν[k]? = some (some u)) → ∀ w, W.grownBy w row → F ν w → Q .normal (fillO A (dstsOfS ops S) ν) w) :
    ∀ (f : Nat) (listed : Array Bool) (a : Act) (w : World), Inv4 ops W row S A a0 F listed a w → unl listed ops.size = f → wpAny P .any ops Q f listed a w
  | 0, listed, a, w, inv, hu => by
    have hl := unl_zero ops.size hu
    refine ⟨?_, ?_⟩
    · cases hr : Region.ready .any ops listed with
      | nil => rfl
      | cons j r =>
        have hj : j ∈ Region.ready .any ops listed := by rw [hr]; exact List.mem_cons_self ..
        obtain ⟨h1, o, ho, _⟩ := mem_ready.1 hj
        rw [hl j (Array.getElem?_eq_some_iff.1 ho).1] at h1
        cases h1
    · obtain ⟨ν, hp, hpl, hf, hv⟩ := inv.spec
      have hpk : ∀ k, k < S.length → ∃ u, ν[k]? = some (some u) := fun k hk => by
        have h1 := hpl k hk
        rw [hl _ (ms.lt _ hk)] at h1
        exact some_getD h1.symm
      have hA : a = fillO A (dstsOfS ops S) ν := act_eq (by rw [fillO_defers]; exact inv.defers) (by rw [fillO_size]; exact inv.len) fun s =>
        fillO_seen ms hz hA0 inv hp hpl hv fun i hi _ _ => hl i hi
      rw [hA]
      exact hT ν hp hpk w inv.off hf
  | f + 1, listed, a, w, inv, hu => by
    refine ⟨fun h0 => ?_, fun j hj => ?_⟩
    · obtain ⟨i, hi, hun, hkl⟩ := unl_least (listed := listed) ops.size (by omega)
      have hoi : ops[i]? = some ops[i] := Array.getElem?_eq_getElem hi
      have : i ∈ Region.ready .any ops listed := mem_ready.2 ⟨hun, _, hoi, fun e he hb => by
        have h1 := ms.after i _ hoi e he hb
        have h2 := hkl _ h1
        have hlt : e.on < listed.size := by rw [inv.size]; omega
        simp [hlt] at h2 ⊢
        exact h2⟩
      rw [h0] at this
      cases this
    · obtain ⟨hju, o, ho, hall⟩ := mem_ready.1 hj
      have hjs : j < ops.size := (Array.getElem?_eq_some_iff.1 ho).1
      have hjl : j < listed.size := by rw [inv.size]; exact hjs
      have hjf : listed.getD j false = false := by simp [hjl] at hju ⊢; exact hju
      have hcnt : unl (listed.setIfInBounds j true) ops.size = f := by
        have := unl_set hjl hju ops.size hjs
        omega
      have hclosed : Closed ops (listed.setIfInBounds j true) := fun i oi hoi hl e he hb => by
        by_cases hij : i = j
        · subst hij
          obtain rfl : oi = o := Option.some.inj (hoi.symm.trans ho)
          exact getD_set_true (hall e he hb)
        · rw [getD_set_ne false (Ne.symm hij)] at hl
          exact getD_set_true (inv.closed i oi hoi hl e he hb)
      have hset : ∀ i, i ≠ j → (listed.setIfInBounds j true).getD i true = listed.getD i true := fun i hij => getD_set_ne true (Ne.symm hij)
      have hsetj : (listed.setIfInBounds j true).getD j true = true := by simp [hjl]
      unfold wpOp
      simp only [ho]
      by_cases hsp : j ∈ S
      · -- a special operation
        obtain ⟨c, hck, rfl⟩ : ∃ c, c < S.length ∧ j = S.getD c 0 := by
          obtain ⟨c, hc, hce⟩ := List.mem_iff_getElem.1 hsp
          exact ⟨c, hc, by simp [List.getD, hc, hce]⟩
        obtain ⟨o', ho', hgd, hstep⟩ := sp.steps c hck
        obtain rfl : o' = o := Option.some.inj (ho'.symm.trans ho)
        obtain ⟨ν, hp, hpl, hf, hv⟩ := inv.spec
        have hcn : ν[c]? = some none := none_getD (by omega) (by rw [← hpl c hck]; exact hju)
        have hpre : ∀ k, k < S.length → waits3 ops (S.getD c 0) (S.getD k 0) = true → ∃ u, ν[k]? = some (some u) := fun k hk hwk => by
          have h3 := true_of_false (ready_waits inv.closed hj hwk)
          rw [hpl k hk] at h3
          exact some_getD h3
        have hpost : ∀ k, k < S.length → waits3 ops (S.getD k 0) (S.getD c 0) = true → ν[k]? = some none := fun k hk hwk => by
          refine none_getD (by omega) ?_
          rw [← hpl k hk]
          cases hl : listed.getD (S.getD k 0) true with
          | false => rfl
          | true =>
            have hil : listed.getD (S.getD k 0) false = true := getD_true_of (by rw [inv.size]; exact ms.lt k hk) hl
            rw [waits3_listed inv.closed hil hwk] at hjf
            cases hjf
        have hlook : ∀ s, s ∈ o'.looksAt ops → a.tmps.getD s undef = (fillO A (dstsOfS ops S) ν).tmps.getD s undef := fun s hs =>
          fillO_seen ms hz hA0 inv hp hpl hv fun i hi hiS he => by
            rcases ms.looks _ o' ho i hi s he hs with ⟨_, h2, _⟩ | ⟨_, _, h3⟩
            · exact true_of_false (ready_waits inv.closed hj h2)
            · rcases h3 with h3 | h3
              · exact absurd hsp h3
              · exact absurd h3 hiS
        obtain ⟨hex, _⟩ := exec_same (Region.noSelect_spec ms.sel _ o' · · ho) hlook (by rw [fillO_size]; exact inv.len)
        have hw : Region.wanted o' (yielded ops a.tmps) = true := by simp [Region.wanted, hgd]
        simp only [hw, if_true]
        refine .inl (Leaves.wp (G := fun u w' => F (ν.set c (some u)) w') (W := W) (row := row) ?_ fun u w'' hb hf' => ?_)
        · have := hstep w ν hp hcn hpre hpost inv.off hf
          unfold Leaves at *
          rw [hex]
          exact this
        · have hdo : ∀ s, o'.dst = some s → dstAt ops (S.getD c 0) = some s := fun s hs => by unfold dstAt; rw [ho]; exact hs
          have hne : ∀ s, dstAt ops (S.getD c 0) ≠ some s → (a.put o'.dst u).tmps.getD s undef = a.tmps.getD s undef := fun s hs => by
            cases hd : o'.dst with
            | none => rfl
            | some t => exact put_getD_ne fun e => hs (by rw [hdo t hd, e])
          refine net_core4 ms sp L hok hlast hz hA0 hq hT f _ _ _ ⟨by simp [inv.size], hclosed, by rw [put_defers]; exact inv.defers, by rw [put_size]; exact inv.len, fun s hsd hs => ?_, fun s i hi he hl => ?_, hb, ν.set c (some u), by simp [hp], fun i hi => ?_, hf', fun i v s hiv his => ?_⟩ hcnt
          · rw [hne s (hsd _ hsp)]
            refine inv.new s hsd fun i hi he => ?_
            by_cases hij : i = S.getD c 0
            · subst hij
              exact absurd he (hsd _ hsp)
            · rw [← hset i hij]; exact hs i hi he
          · have hij : i ≠ S.getD c 0 := fun e => by subst e; rw [hsetj] at hl; cases hl
            rw [hne s fun e => ms.uniq i hi s he _ hjs (Ne.symm hij) e]
            rw [hset i hij] at hl
            exact inv.old s i hi he hl
          · by_cases hic : i = c
            · subst hic
              rw [hsetj]
              have : i < ν.length := by omega
              simp [List.getD, this]
            · rw [hset _ (S_neC ms hi hck hic), hpl i hi]
              rw [List.getD, List.getD, List.getElem?_set_ne (fun e => hic e.symm)]
          · by_cases hic : i ≠ c
            · rw [List.getElem?_set_ne (fun e => hic e.symm)] at hiv
              have hiS : i < S.length := by have := (List.getElem?_eq_some_iff.1 hiv).1; omega
              rw [hne s fun e => ms.uniq _ (ms.lt i hiS) s his _ hjs (S_neC ms hck hiS (fun e => hic e.symm)) e]
              exact hv i v s hiv his
            · have hic : i = c := by simpa using hic
              subst hic
              have hlt : i < ν.length := by omega
              rw [List.getElem?_set_self hlt] at hiv
              simp at hiv
              subst hiv
              have : o'.dst = some s := by unfold dstAt at his; rw [ho] at his; exact his
              rw [this]
              exact put_getD_same (by rw [inv.len]; exact hz _ hjs s his)
      · -- a quiet one
        obtain ⟨s0, hs0⟩ := ms.dst j hjs hsp
        have hos : o.dst = some s0 := by simpa [dstAt, ho] using hs0
        obtain ⟨ai, hai⟩ := hq j hjs hsp o s0 ho hos
        have hlook : ∀ s, s ∈ o.looksAt ops → a.tmps.getD s undef = ai.tmps.getD s undef := fun s hs => by
          by_cases hex : ∃ i, i < ops.size ∧ dstAt ops i = some s
          · obtain ⟨i, hi, he⟩ := hex
            have only : ∀ i', i' < ops.size → dstAt ops i' = some s → i' = i := fun i' hi' he' => by
              rcases Decidable.em (i' = i) with h | h
              · exact h
              · exact absurd he' (ms.uniq i hi s he i' hi' h)
            rcases ms.looks j o ho i hi s he hs with ⟨h1, h2, h3⟩ | ⟨h1, h2, h3⟩
            · have hiS : i ∉ S := by
                rcases h3 with h3 | h3
                · exact absurd h3 hsp
                · exact h3
              have hil := true_of_false (ready_waits inv.closed hj h2)
              rw [inv.new s (fun i' hi' he' => by
                obtain ⟨q, hq1, hq2⟩ := List.mem_iff_getElem.1 hi'
                have hq3 := ms.lt q hq1
                have : S.getD q 0 = i' := by simp [List.getD, hq1, hq2]
                rw [this] at hq3
                exact hiS (only i' hq3 he' ▸ hi')) fun i' hi' he' => by rw [only i' hi' he']; exact hil]
              exact (hai.done s fun i' hi' _ he' => by rw [only i' hi' he']; exact h1).symm
            · have hil : listed.getD i true = false := by
                cases hl : listed.getD i true with
                | false => rfl
                | true =>
                  have hil : listed.getD i false = true := getD_true_of (by rw [inv.size]; exact hi) hl
                  rw [waits3_listed inv.closed hil h2] at hjf
                  cases hjf
              rw [inv.old s i hi he hil]
              by_cases hiS : i ∈ S
              · have h5 : ∀ i', i' < ops.size → i' ∉ S → dstAt ops i' ≠ some s := fun i' hi' hS he' => hS (only i' hi' he' ▸ hiS)
                rw [hai.done s fun i' hi' hS he' => absurd he' (h5 i' hi' hS)]
                exact (hA0 s h5).symm
              · exact (hai.open_ s i hi hiS he (by omega)).symm
          · rw [inv.new s (fun i hi he => by
              obtain ⟨q, hq1, hq2⟩ := List.mem_iff_getElem.1 hi
              have hq3 := ms.lt q hq1
              have : S.getD q 0 = i := by simp [List.getD, hq1, hq2]
              rw [this] at hq3
              exact hex ⟨i, hq3, he⟩) fun i hi he => absurd ⟨i, hi, he⟩ hex]
            exact (hai.done s fun i hi _ he => absurd ⟨i, hi, he⟩ hex).symm
        obtain ⟨hex, hwt⟩ := exec_same (Region.noSelect_spec ms.sel j o · · ho) hlook (by rw [inv.len]; exact hai.len.symm)
        have step : ∀ w'', Below w.heap.size w w'' → wpAny P .any ops Q f (listed.setIfInBounds j true) (a.put o.dst (A.tmps.getD s0 undef)) w'' := fun w'' hb => by
          refine net_core4 ms sp L hok hlast hz hA0 hq hT f _ _ _ ⟨by simp [inv.size], hclosed, by rw [put_defers]; exact inv.defers, by rw [put_size]; exact inv.len, fun s hsd hs => ?_, fun s i hi he hl => ?_, grownBy_trans inv.off (grownBy_of_below hb), ?_⟩ hcnt
          · rw [hos]
            by_cases hss : s = s0
            · subst hss
              exact put_getD_same (by rw [inv.len]; exact hz j hjs _ hs0)
            · rw [put_getD_ne hss]
              refine inv.new s hsd fun i hi he => ?_
              have hij : i ≠ j := fun e => by
                subst e
                rw [hs0] at he
                exact hss (Option.some.inj he).symm
              rw [← hset i hij]
              exact hs i hi he
          · have hij : i ≠ j := fun e => by subst e; rw [hsetj] at hl; cases hl
            have hss : s ≠ s0 := fun e => by
              subst e
              exact ms.uniq j hjs _ hs0 i hi hij he
            rw [hos, put_getD_ne hss]
            rw [hset i hij] at hl
            exact inv.old s i hi he hl
          · obtain ⟨ν, hp, hpl, hf, hv⟩ := inv.spec
            refine ⟨ν, hp, fun c hc => ?_, sp.stable w w'' ν hf hb, fun i v s hiv his => ?_⟩
            · rw [hset _ (fun e => hsp (by rw [← e]; exact getS hc))]
              exact hpl c hc
            · have hiS : i < S.length := by have := (List.getElem?_eq_some_iff.1 hiv).1; omega
              have hss : s ≠ s0 := fun e => by
                subst e
                exact ms.uniq j hjs _ hs0 _ (ms.lt i hiS) (fun e => hsp (by rw [← e]; exact getS hiS)) his
              rw [hos, put_getD_ne hss]
              exact hv i v s hiv his
        rw [hwt]
        rcases hai.ok with ⟨hw, hg⟩ | ⟨hw, hg⟩
        · simp only [hw, if_true]
          refine .inl (Gives.wp (v := A.tmps.getD s0 undef) ?_ fun w'' hb => step w'' hb)
          have hokw : okW w := by
            obtain ⟨ν, hp, hpl, hf, hv⟩ := inv.spec
            refine hok ν w hp (fun hL => ?_) inv.off hf
            obtain ⟨hc, hcw⟩ := hlast hL j hjs hsp
            generalize S.length - 1 = c at *
            refine none_getD (by omega) ?_
            rw [← hpl c hc]
            cases h1 : listed.getD (S.getD c 0) true with
            | false => rfl
            | true =>
              have h2 : listed.getD (S.getD c 0) false = true := getD_true_of (by rw [inv.size]; exact ms.lt c hc) h1
              rw [waits3_listed inv.closed h2 hcw] at hjf
              cases hjf
          have := hg w hokw
          unfold Gives Oper.quietAt at *
          rw [hex]
          exact this
        · simp only [hw, Bool.false_eq_true, if_false]
          rw [← hg]
          exact step w (Below.refl _ _)

theorem rep_get {n j : Nat} (h : j < n) : (List.replicate n (none : Option Value))[j]? = some none := by simp [h]
theorem wp_region_net4 {id : Nat} {Q : Exit → Act → World → Prop} {a : Act} {w : World} {l : List Oper} (W0 : World) (L : Bool) (S : List Nat) (row : Option Nat) (F : List (Option Value) → World → Prop)
    (hm : P.follows .mixedOrders = true) (hB : netC l.toArray S = true) (hr : roomB l.toArray l.length a.tmps.size = true) (hF0 : F (List.replicate S.length none) w)
    (hL : L = true → lastC l.toArray S = true) (hS : 0 < S.length) (hW0 : W0.grownBy w row)
    (h : ∃ A, (∀ W1, (∃ ν : List (Option Value), ν.length = S.length ∧ (L = true → ν[S.length - 1]? = some none) ∧ W0.grownBy W1 row ∧ F ν W1) → wpQuiet P l.toArray (fun w' => ∃ x : Ext W1, w' = x.val) (fun a' => a' = A) (quietOps S 0 l) a) ∧ SpecOK4 P l.toArray W0 row S A F ∧
      ∀ ν : List (Option Value), ν.length = S.length → (∀ k, k < S.length → ∃ u, ν[k]? = some (some u)) → ∀ w1, W0.grownBy w1 row → F ν w1 → Q .normal (fillO A (dstsOfS l.toArray S) ν) w1) : (Code.region id l.toArray true).wp P Q a w := by
  obtain ⟨A, h, sp, hT⟩ := h
  have ms := netC_of hB
  have hb0 : Below w.heap.size w { w with drawn := w.drawn + 1 } := ⟨rfl, rfl, rfl, Nat.le_refl _, fun _ _ => rfl⟩
  have hrefl := hW0
  have h00 : ∃ ν : List (Option Value), ν.length = S.length ∧ (L = true → ν[S.length - 1]? = some none) ∧ W0.grownBy w row ∧ F ν w := ⟨List.replicate S.length none, by simp, fun _ => rep_get (by omega), hrefl, hF0⟩
  have hag := quiet_agree _ _ (h w h00)
  have hroom : ∀ i, i < l.toArray.size → ∀ s, dstAt l.toArray i = some s → s < a.tmps.size := fun i hi s hs => room_of hr i (by simpa using hi) s hs
  have hmem : ∀ x, x ∈ quietPairs S 0 l ↔ l.toArray[x.1]? = some x.2 ∧ x.1 ∉ S := fun x => by
    rw [quietPairs_mem]; simp
  have hq := quietAt_of4 (okW := fun W1 => ∃ ν : List (Option Value), ν.length = S.length ∧ (L = true → ν[S.length - 1]? = some none) ∧ W0.grownBy W1 row ∧ F ν W1) (a0 := a) ms h00 (quietPairs S 0 l) a (fun x hx => (hmem x).1 hx) (quietPairs_inc l 0) (fun i hi hiS hne => by
      exfalso
      have hoi : l.toArray[i]? = some l.toArray[i] := Array.getElem?_eq_getElem hi
      exact hne (i, l.toArray[i]) ((hmem _).2 ⟨hoi, hiS⟩) rfl) hroom (fun _ _ _ _ => rfl) (fun W1 hW => by rw [quietPairs_map]; exact h W1 hW)
  have hA0 : ∀ s, (∀ i, i < l.toArray.size → i ∉ S → dstAt l.toArray i ≠ some s) → A.tmps.getD s undef = a.tmps.getD s undef := fun s hs => hag.2.2 s fun o ho he => by
    rw [← quietPairs_map] at ho
    obtain ⟨x, hx, rfl⟩ := List.mem_map.1 ho
    obtain ⟨h1, h2⟩ := (hmem x).1 hx
    exact hs x.1 (Array.getElem?_eq_some_iff.1 h1).1 h2 (by simp [dstAt, h1, he])
  refine wp_region_any hm ?_
  refine net_core4 (okW := fun W1 => ∃ ν : List (Option Value), ν.length = S.length ∧ (L = true → ν[S.length - 1]? = some none) ∧ W0.grownBy W1 row ∧ F ν W1) (a0 := a) ms sp L (fun ν w' h1 h2 h3 h4 => ⟨ν, h1, h2, h3, h4⟩) (fun h => lastC_of (hL h)) (fun i hi s hs => by rw [← hag.2.1]; exact hroom i hi s hs) hA0 (fun i hi hs o s ho hd => hq (i, o) ((hmem _).2 ⟨ho, hs⟩) s hd) hT _ _ a _ ?_ (unl_all _ (Nat.le_refl _))
  refine ⟨by simp, fun j oj _ hl => (by rw [getD_replicate_false] at hl; cases hl), hag.1, hag.2.1, fun s hsd hs => (hA0 s fun i hi hiS he => ?_).symm, fun _ _ _ _ _ => rfl, grownBy_trans hW0 (grownBy_of_below hb0), List.replicate S.length none, by simp, fun j hj => ?_, sp.stable _ _ _ hF0 hb0, fun j v _ h => ?_⟩
  · have hi' : i < l.length := by simpa using hi
    have := hs i hi he
    simp [hi'] at this
  · have := ms.lt j hj
    have : S.getD j 0 < l.length := by simpa using this
    have h1 : (Array.replicate l.toArray.size false)[S.getD j 0]? = some false := by
      rw [Array.getElem?_replicate, if_pos (by simpa using this)]
    rw [Array.getD_eq_getD_getElem?, h1]
    simp [List.getD, hj]
  · rw [List.getElem?_replicate] at h
    split at h <;> simp at h

end
end Go.Proofs.Ytfebldoplobkdaa
