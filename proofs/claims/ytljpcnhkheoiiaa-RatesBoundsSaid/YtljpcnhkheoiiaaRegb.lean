/- Regions that draw their order, the second form: operations that read, compute, assign or call, and among them a chain of special ones (a new block, a store): one walk in the order of the text serves every order. -/
import Derived.Test.YtljpcnhkheoiiaaReg
namespace Go.Proofs.Ytljpcnhkheoiiaa
open Go.RowKit

theorem grownBy_trans {a b c : World} {row : Option Nat} (h : a.grownBy b row) (k : b.grownBy c row) : a.grownBy c row :=
  ⟨k.os.trans h.os, k.tape.trans h.tape, k.output.trans h.output, Nat.le_trans h.size k.size, fun i hi hr => (k.block i (Nat.lt_of_lt_of_le hi h.size) hr).trans (h.block i hi hr)⟩
theorem grownBy_of_below {a b : World} {row : Option Nat} (h : Below a.heap.size a b) : a.grownBy b row := ⟨h.os, h.tape, h.output, h.size, fun i hi _ => h.block i hi⟩
theorem below_of_grownBy {a b : World} (h : a.grownBy b none) : Below a.heap.size a b := ⟨h.os, h.tape, h.output, h.size, fun i hi => h.block i hi (by simp)⟩

section
variable {P : Program} {ops : Array Oper}

/-- Operation j waits for i: itself, or by way of one or two others. -/
def waits2 (ops : Array Oper) (j i : Nat) : Bool := Region.waitsFor .any ops j i || (List.range j).any fun k => decide (i < k) && Region.waitsFor .any ops j k && Region.waitsFor .any ops k i
def waits3 (ops : Array Oper) (j i : Nat) : Bool := waits2 ops j i || (List.range j).any fun k => decide (i < k) && Region.waitsFor .any ops j k && waits2 ops k i

/-- The shape: the special operations lie at n .. n + k - 1. -/
def meshB (ops : Array Oper) (n k : Nat) : Bool :=
  Region.noSelect ops && decide (n + k ≤ ops.size) &&
  ((List.range ops.size).all fun i => (decide (n ≤ i ∧ i < n + k) || (dstAt ops i).isSome) && (List.range ops.size).all fun j => j == i || (dstAt ops i).isNone || dstAt ops j != dstAt ops i) &&
  ((List.range ops.size).all fun i => match ops[i]? with
    | none => false
    | some o => (o.after.all fun e => !Region.binds .any e || decide (e.on < i)) &&
      (List.range ops.size).all fun j => match dstAt ops j with
        | none => true
        | some d => j == i || !(o.looksAt ops).contains d ||
            (decide (j < i) && waits3 ops i j && (decide (n ≤ i ∧ i < n + k) || decide (j < n ∨ n + k ≤ j))) || (decide (i < j) && waits3 ops j i && decide ((i < n ∨ n + k ≤ i) ∧ (j < n ∨ n + k ≤ j)))) &&
  ((List.range ops.size).all fun i => match ops[i]? with | some o => (match o.dst with | some d => !(o.looksAt ops).contains d | none => true) | none => true) &&
  ((List.range k).all fun j => j == 0 || waits3 ops (n + j) (n + j - 1))

structure Mesh (ops : Array Oper) (n k : Nat) : Prop where
  sel : Region.noSelect ops = true
  le : n + k ≤ ops.size
  dst : ∀ i, i < ops.size → (i < n ∨ n + k ≤ i) → ∃ d, dstAt ops i = some d
  uniq : ∀ i, i < ops.size → ∀ d, dstAt ops i = some d → ∀ j, j < ops.size → j ≠ i → dstAt ops j ≠ some d
  after : ∀ i o, ops[i]? = some o → ∀ e ∈ o.after, Region.binds .any e = true → e.on < i
  looks : ∀ i o, ops[i]? = some o → ∀ j, j < ops.size → ∀ d, dstAt ops j = some d → d ∈ o.looksAt ops →
    (j < i ∧ waits3 ops i j = true ∧ ((n ≤ i ∧ i < n + k) ∨ (j < n ∨ n + k ≤ j))) ∨ (i < j ∧ waits3 ops j i = true ∧ (i < n ∨ n + k ≤ i) ∧ (j < n ∨ n + k ≤ j))
  chain : ∀ j, j < k → j ≠ 0 → waits3 ops (n + j) (n + j - 1) = true

theorem mesh_of {n k : Nat} (h : meshB ops n k = true) : Mesh ops n k := by
  simp only [meshB, Bool.and_eq_true, decide_eq_true_eq] at h
  obtain ⟨⟨⟨⟨⟨h1, h2⟩, h3⟩, h4⟩, h5⟩, h6⟩ := h
  refine ⟨h1, h2, fun i hi hq => ?_, fun i hi d hd j hj hji he => ?_, fun i o ho e he hb => ?_, fun i o ho j hj d hd hl => ?_, fun j hj hj0 => ?_⟩
  · have := List.all_eq_true.1 h3 i (List.mem_range.2 hi)
    simp only [Bool.and_eq_true, Bool.or_eq_true, decide_eq_true_eq] at this
    rcases this.1 with h' | h'
    · omega
    · exact Option.isSome_iff_exists.1 h'
  · have := List.all_eq_true.1 h3 i (List.mem_range.2 hi)
    simp only [Bool.and_eq_true] at this
    have h' := List.all_eq_true.1 this.2 j (List.mem_range.2 hj)
    simp [hji, hd, he] at h'
  · have hi : i < ops.size := (Array.getElem?_eq_some_iff.1 ho).1
    have := List.all_eq_true.1 h4 i (List.mem_range.2 hi)
    simp only [ho, Bool.and_eq_true] at this
    have h' := Array.all_eq_true_iff_forall_mem.1 this.1 e he
    simpa [hb] using h'
  · have hi : i < ops.size := (Array.getElem?_eq_some_iff.1 ho).1
    have := List.all_eq_true.1 h4 i (List.mem_range.2 hi)
    simp only [ho, Bool.and_eq_true] at this
    have h' := List.all_eq_true.1 this.2 j (List.mem_range.2 hj)
    simp only [hd, Bool.or_eq_true, Bool.not_eq_true', Bool.and_eq_true, decide_eq_true_eq, beq_iff_eq] at h'
    rcases h' with ((h' | h') | h') | h'
    · subst h'
      have h5' := List.all_eq_true.1 h5 j (List.mem_range.2 hi)
      have hdo : o.dst = some d := by simpa [dstAt, ho] using hd
      simp [ho, hdo, hl] at h5'
    · simp [hl] at h'
    · exact .inl ⟨h'.1.1, h'.1.2, h'.2⟩
    · exact .inr ⟨h'.1.1, h'.1.2, h'.2⟩
  · have := List.all_eq_true.1 h6 j (List.mem_range.2 hj)
    simpa [hj0] using this

def Closed (ops : Array Oper) (listed : Array Bool) : Prop := ∀ j oj, ops[j]? = some oj → listed.getD j false = true → ∀ e ∈ oj.after, Region.binds .any e = true → listed.getD e.on false = true

theorem waits_listed {listed : Array Bool} (hc : Closed ops listed) {j i : Nat} (hj : listed.getD j false = true) (h : Region.waitsFor .any ops j i = true) : listed.getD i false = true := by
  obtain ⟨o', ho', e, he, hb, hon⟩ := Region.waitsFor_spec h
  have := hc j o' ho' hj e he hb
  rwa [hon] at this
theorem waits2_listed {listed : Array Bool} (hc : Closed ops listed) {j i : Nat} (hj : listed.getD j false = true) (h : waits2 ops j i = true) : listed.getD i false = true := by
  simp only [waits2, Bool.or_eq_true] at h
  rcases h with h | h
  · exact waits_listed hc hj h
  · obtain ⟨k, _, hk⟩ := List.any_eq_true.1 h
    simp only [Bool.and_eq_true] at hk
    exact waits_listed hc (waits_listed hc hj hk.1.2) hk.2
theorem waits3_listed {listed : Array Bool} (hc : Closed ops listed) {j i : Nat} (hj : listed.getD j false = true) (h : waits3 ops j i = true) : listed.getD i false = true := by
  simp only [waits3, Bool.or_eq_true] at h
  rcases h with h | h
  · exact waits2_listed hc hj h
  · obtain ⟨k, _, hk⟩ := List.any_eq_true.1 h
    simp only [Bool.and_eq_true] at hk
    exact waits2_listed hc (waits_listed hc hj hk.1.2) hk.2
/-- What comes up now: all that it waits for is listed. -/
theorem ready_waits {listed : Array Bool} (hc : Closed ops listed) {j i : Nat} (hr : j ∈ Region.ready .any ops listed) (h : waits3 ops j i = true) : listed.getD i false = true := by
  obtain ⟨_, oj, hoj, hall⟩ := mem_ready.1 hr
  have one : ∀ k, Region.waitsFor .any ops j k = true → listed.getD k false = true := fun k hk => by
    obtain ⟨o', ho', e, he, hb, hon⟩ := Region.waitsFor_spec hk
    obtain rfl : o' = oj := Option.some.inj (ho'.symm.trans hoj)
    have := hall e he hb
    rwa [hon] at this
  simp only [waits3, Bool.or_eq_true] at h
  rcases h with h | h
  · simp only [waits2, Bool.or_eq_true] at h
    rcases h with h | h
    · exact one _ h
    · obtain ⟨k, _, hk⟩ := List.any_eq_true.1 h
      simp only [Bool.and_eq_true] at hk
      exact waits_listed hc (one _ hk.1.2) hk.2
  · obtain ⟨k, _, hk⟩ := List.any_eq_true.1 h
    simp only [Bool.and_eq_true] at hk
    exact waits2_listed hc (one _ hk.1.2) hk.2


def special (n k i : Nat) : Prop := n ≤ i ∧ i < n + k

/-- What the walk in the order of the text shows of one operation: at a frame in which what was written before it is at its place, and what is written later is not. -/
structure QuietAt (P : Program) (ops : Array Oper) (W : World) (row : Option Nat) (n k : Nat) (A a0 : Act) (i : Nat) (o : Oper) (d : Tmp) (ai : Act) : Prop where
  done : ∀ s, (∀ j, j < ops.size → dstAt ops j = some s → j < i) → ai.tmps.getD s undef = A.tmps.getD s undef
  open_ : ∀ s j, j < ops.size → dstAt ops j = some s → i ≤ j → ¬ special n k j → ai.tmps.getD s undef = a0.tmps.getD s undef
  len : ai.tmps.size = A.tmps.size
  ok : (Region.wanted o (yielded ops ai.tmps) = true ∧ ∀ w, W.grownBy w row → Gives P o ai w (A.tmps.getD d undef)) ∨ (Region.wanted o (yielded ops ai.tmps) = false ∧ A.tmps.getD d undef = undef)

theorem quietAt_of {W : World} {row : Option Nat} {n k : Nat} {A a0 : Act} (ms : Mesh ops n k) (hrefl : W.grownBy W row) : ∀ (l : List Oper) (c : Nat) (a : Act), (∀ j, j < l.length → l[j]? = ops[if c + j < n then c + j else c + j + k]?) → c + l.length + k = ops.size →
    (∀ i, i < ops.size → ∀ d, dstAt ops i = some d → d < a.tmps.size) →
    (∀ s j, j < ops.size → dstAt ops j = some s → (if c < n then c else c + k) ≤ j → ¬ special n k j → a.tmps.getD s undef = a0.tmps.getD s undef) →
    (∀ W1, W.grownBy W1 row → wpQuiet P ops (fun w' => ∃ x : Ext W1, w' = x.val) (fun a' => a' = A) l a) →
    ∀ i, (if c < n then c else c + k) ≤ i → i < ops.size → ¬ special n k i → ∀ o d, ops[i]? = some o → o.dst = some d → ∃ ai, QuietAt P ops W row n k A a0 i o d ai
  | [], c, a, _, hk, _, _, _, i, hki, hin, hsp, o, d, _, _ => by
    exfalso
    unfold special at hsp
    have := ms.le
    simp at hk
    split at hki <;> omega
  | o :: l, c, a, hl, hk, hsz, hop, h, i, hki, hin, hsp, o', d', ho', hd' => by
    have hcn := ms.le
    simp only [List.length_cons] at hk
    -- the index of the operation at the head of the list
    obtain ⟨b, hb⟩ : ∃ b, b = if c < n then c else c + k := ⟨_, rfl⟩
    have h0 : ops[b]? = some o := by have := hl 0 (by simp); rw [hb]; simpa using this.symm
    rw [← hb] at hki hop
    have hbs : b < ops.size := (Array.getElem?_eq_some_iff.1 h0).1
    have hbq : b < n ∨ n + k ≤ b := by rw [hb]; split <;> omega
    obtain ⟨d, hdb⟩ := ms.dst b hbs hbq
    have hd : o.dst = some d := by simpa [dstAt, h0] using hdb
    have huniq := ms.uniq b hbs d hdb
    -- what follows in the list has greater indices
    have idx : ∀ j, j < l.length → b < (if c + (j + 1) < n then c + (j + 1) else c + (j + 1) + k) := fun j _ => by rw [hb]; split <;> split <;> omega
    have at_ : ∀ j (hj : j < l.length), ops[if c + (j + 1) < n then c + (j + 1) else c + (j + 1) + k]? = some (l[j]) := fun j hj => by
      have := hl (j + 1) (by simp; omega)
      rw [← this]
      simp [hj]
    have later : ∀ o1 ∈ l, o1.dst ≠ some d := fun o1 ho1 he => by
      obtain ⟨j, hj, hje⟩ := List.mem_iff_getElem.1 ho1
      have h3 := at_ j hj
      rw [hje] at h3
      have hs := (Array.getElem?_eq_some_iff.1 h3).1
      have := idx j hj
      exact huniq _ hs (by omega) (by simp [dstAt, h3, he])
    have hdl : d < a.tmps.size := hsz b hbs d hdb
    obtain ⟨hag1, hag2, hag3⟩ := quiet_agree _ _ (h W hrefl)
    have val : ∀ v, ∀ W1, wpQuiet P ops (fun w' => ∃ x : Ext W1, w' = x.val) (fun a' => a' = A) l (a.put (some d) v) → v = A.tmps.getD d undef := fun v W1 hv => by
      obtain ⟨_, _, h3⟩ := quiet_agree _ _ hv
      rw [h3 d later, put_getD_same hdl]
    have next : (∀ W1, W.grownBy W1 row → wpQuiet P ops (fun w' => ∃ x : Ext W1, w' = x.val) (fun a' => a' = A) l (a.put (some d) (A.tmps.getD d undef))) := fun W1 hW1 => by
      have h1 := h W1 hW1
      unfold wpQuiet at h1
      by_cases hw : Region.wanted o (yielded ops a.tmps) = true
      · rw [if_pos hw] at h1
        obtain ⟨v, _, hv⟩ := h1
        rw [hd] at hv
        have := val v W1 hv
        subst this
        exact hv
      · rw [if_neg hw, hd] at h1
        have := val undef W1 h1
        rw [← this]
        exact h1
    by_cases hib : i = b
    · subst hib
      obtain rfl : o' = o := Option.some.inj (ho'.symm.trans h0)
      obtain rfl : d' = d := Option.some.inj (hd'.symm.trans hd)
      refine ⟨a, fun s hs => ?_, fun s j hj hjs hij hjq => hop s j hj hjs hij hjq, hag2, ?_⟩
      · refine (hag3 s fun o1 ho1 he => ?_).symm
        rcases List.mem_cons.1 ho1 with h1 | h1
        · subst h1
          have := hs i hbs (by simp [dstAt, h0, he])
          omega
        · obtain ⟨j, hj, hje⟩ := List.mem_iff_getElem.1 h1
          have h3 := at_ j hj
          rw [hje] at h3
          have hss := (Array.getElem?_eq_some_iff.1 h3).1
          have := hs _ hss (by simp [dstAt, h3, he])
          have := idx j hj
          omega
      · by_cases hw : Region.wanted o' (yielded ops a.tmps) = true
        · refine .inl ⟨hw, fun w hbw => ?_⟩
          have h1 := h w hbw
          unfold wpQuiet at h1
          rw [if_pos hw] at h1
          obtain ⟨v, hv1, hv⟩ := h1
          rw [hd] at hv
          have := val v w hv
          subst this
          have h2 := hv1 w ⟨⟨w, Below.refl _ _⟩, rfl⟩
          unfold Gives Oper.quietAt at *
          generalize (execOp a.eval o').run P w = r at *
          cases r with
          | halt x w' => exact h2
          | ok nx w' =>
            cases nx <;> simp only [Oper.quietUpon] at h2 ⊢
            · exact h2
            · exact h2
            · obtain ⟨e1, hc⟩ := h2
              exact ⟨e1, hc.mono fun e w'' ⟨he, x, hx⟩ => ⟨he, hx ▸ x.below⟩⟩
        · have hw' : Region.wanted o' (yielded ops a.tmps) = false := by simpa using hw
          refine .inr ⟨hw', ?_⟩
          have h1 := h W hrefl
          unfold wpQuiet at h1
          rw [if_neg hw, hd] at h1
          exact (val undef W h1).symm
    · have hlt : b < i := by omega
      have hb' : (if c + 1 < n then c + 1 else c + 1 + k) ≤ i := by
        unfold special at hsp
        rw [hb] at hlt
        split <;> split at hlt <;> omega
      exact quietAt_of ms hrefl l (c + 1) _ (fun j hj => by have := hl (j + 1) (by simp; omega); simpa [Nat.add_assoc, Nat.add_comm 1 j] using this) (by omega)
        (fun i hi d1 hd1 => by rw [put_size]; exact hsz i hi d1 hd1)
        (fun s j hj hjs hij hjq => by
          have hbj : b < j := by
            rw [hb]
            split at hij <;> split <;> omega
          have hne : s ≠ d := fun e => by
            subst e
            exact huniq j hj (by omega) hjs
          rw [put_getD_ne hne]
          exact hop s j hj hjs (by omega) hjq) next i hb' hin hsp o' d' ho' hd'


/-- What a special operation leaves: the value and the world meet G; of what was there at the region's start, only block 'row' may have turned. -/
def Leaves (P : Program) (o : Oper) (a : Act) (W w : World) (row : Option Nat) (G : Value → World → Prop) : Prop :=
  match (execOp a.eval o).run P w with
  | .ok (.value u) w' => W.grownBy w' row ∧ G u w'
  | .ok .skip w' => W.grownBy w' row ∧ G undef w'
  | .ok (.enter f args) w' => Calls P f args w' (fun e w'' => ∃ u, e = .returned u ∧ W.grownBy w'' row ∧ G u w'')
  | _ => False

theorem Leaves.wp {o : Oper} {a : Act} {W w : World} {row : Option Nat} {G : Value → World → Prop} {K : Act → World → Prop} {Q : Exit → Act → World → Prop} (h : Leaves P o a W w row G) (hk : ∀ u w'', W.grownBy w'' row → G u w'' → K (a.put o.dst u) w'') : o.wp P a w K Q := by
  unfold Leaves at h
  unfold Oper.wp
  generalize (execOp a.eval o).run P w = r at *
  cases r with
  | ok n w' =>
    cases n <;> simp only at h <;> simp only [Oper.upon]
    case value u => exact hk _ _ h.1 h.2
    case skip => exact hk _ _ h.1 h.2
    case enter f args => exact h.mono fun e w'' ⟨v, he, hb, hf⟩ => by subst he; exact hk _ _ hb hf
  | halt x w' => simp only at h

structure Inv2 (ops : Array Oper) (W : World) (row : Option Nat) (n k : Nat) (A a0 : Act) (d : Option Tmp) (F : Nat → World → Value → Prop) (listed : Array Bool) (a : Act) (w : World) : Prop where
  size : listed.size = ops.size
  closed : Closed ops listed
  defers : a.defers = A.defers
  len : a.tmps.size = A.tmps.size
  new : ∀ s, d ≠ some s → (∀ i, i < ops.size → dstAt ops i = some s → listed.getD i true = true) → a.tmps.getD s undef = A.tmps.getD s undef
  old : ∀ s i, d ≠ some s → i < ops.size → dstAt ops i = some s → listed.getD i true = false → a.tmps.getD s undef = a0.tmps.getD s undef
  off : W.grownBy w row
  spec : ∃ p v, p ≤ k ∧ (∀ j, j < k → listed.getD (n + j) true = decide (j < p)) ∧ F p w v ∧ ∀ s, d = some s → 0 < p → a.tmps.getD s undef = v

theorem true_of_false {listed : Array Bool} {i : Nat} (h : listed.getD i false = true) : listed.getD i true = true := by
  rcases Nat.lt_or_ge i listed.size with h' | h'
  · simp [h'] at h ⊢; exact h
  · simp [Array.getElem?_eq_none h']

theorem exec_same {a A : Act} {o : Oper} (hs : ∀ cs b, o.op ≠ .select cs b) (h : ∀ s, s ∈ o.looksAt ops → a.tmps.getD s undef = A.tmps.getD s undef) (hl : a.tmps.size = A.tmps.size) :
    execOp a.eval o = execOp A.eval o ∧ Region.wanted o (yielded ops a.tmps) = Region.wanted o (yielded ops A.tmps) := by
  refine ⟨execOp_congr o hs fun x hx => eval_same fun t ht => ?_, ?_⟩
  · subst ht
    exact h t (List.mem_append_left _ (List.mem_filterMap.2 ⟨.tmp t, by simpa using hx, rfl⟩))
  · unfold Region.wanted
    cases hg : o.guard with
    | none => rfl
    | some gw =>
      obtain ⟨g, want⟩ := gw
      simp only
      rw [yielded_same (fun t ht => h t ?_) hl]
      refine List.mem_append_right _ ?_
      simp only [hg]
      have : (ops[g]?).bind (·.dst) = some t := ht
      rw [this]
      simp

/-- What is asked of the special operations: the j-th, once those ahead of it in the chain are done. -/
structure SpecOK (P : Program) (ops : Array Oper) (W : World) (row : Option Nat) (n k : Nat) (A : Act) (d : Option Tmp) (F : Nat → World → Value → Prop) : Prop where
  stable : ∀ p w w' v, F p w v → Below w.heap.size w w' → F p w' v
  first : ∀ s, d = some s → 0 < k ∧ dstAt ops n = some s
  steps : ∀ j, j < k → ∃ o, ops[n + j]? = some o ∧ o.guard = none ∧ o.dst = (if j = 0 then d else none) ∧
    ∀ w v, W.grownBy w row → F j w v → Leaves P o (A.put d v) W w row (fun u w' => F (j + 1) w' (if j = 0 ∧ d.isSome = true then u else v))

theorem mesh_core {W : World} {row : Option Nat} {n k : Nat} {A a0 : Act} {d : Option Tmp} {F : Nat → World → Value → Prop} {Q : Exit → Act → World → Prop} (ms : Mesh ops n k) (sp : SpecOK P ops W row n k A d F)
    (hz : ∀ i, i < ops.size → ∀ s, dstAt ops i = some s → s < A.tmps.size)
    (hq : ∀ i, i < ops.size → ¬ special n k i → ∀ o s, ops[i]? = some o → o.dst = some s → ∃ ai, QuietAt P ops W row n k A a0 i o s ai)
    (hT : ∀ v w, W.grownBy w row → F k w v → Q .normal (A.put d v) w) :
    ∀ (f : Nat) (listed : Array Bool) (a : Act) (w : World), Inv2 ops W row n k A a0 d F listed a w → unl listed ops.size = f → wpAny P .any ops Q f listed a w
  | 0, listed, a, w, inv, hu => by
    have hl := unl_zero ops.size hu
    refine ⟨?_, ?_⟩
    · cases hr : Region.ready .any ops listed with
      | nil => rfl
      | cons j r =>
        have hj : j ∈ Region.ready .any ops listed := by rw [hr]; exact List.mem_cons_self ..
        obtain ⟨h1, o, ho, _⟩ := mem_ready.1 hj
        rw [hl j (Array.getElem?_eq_some_iff.1 ho).1] at h1
        cases h1
    · obtain ⟨p, v, hp, hpl, hf, hv⟩ := inv.spec
      have hpk : p = k := by
        rcases Nat.lt_or_ge p k with h | h
        · have h1 := hpl p h
          rw [hl (n + p) (by have := ms.le; omega)] at h1
          simp at h1
        · omega
      subst hpk
      have hA : a = A.put d v := act_eq (by rw [put_defers]; exact inv.defers) (by rw [put_size]; exact inv.len) fun s => by
        by_cases hsd : d = some s
        · obtain ⟨hk, hdn⟩ := sp.first s hsd
          rw [hsd, put_getD_same (hz n (by have := ms.le; omega) s hdn)]
          exact hv s hsd hk
        · have : (A.put d v).tmps.getD s undef = A.tmps.getD s undef := by
            cases d with
            | none => rfl
            | some t => exact put_getD_ne fun e => hsd (by rw [e])
          rw [this]
          exact inv.new s hsd fun i hi _ => hl i hi
      rw [hA]
      exact hT v w inv.off hf
  | f + 1, listed, a, w, inv, hu => by
    refine ⟨fun h0 => ?_, fun j hj => ?_⟩
    · obtain ⟨i, hi, hun, hkl⟩ := unl_least (listed := listed) ops.size (by omega)
      have hoi : ops[i]? = some ops[i] := Array.getElem?_eq_getElem hi
      have : i ∈ Region.ready .any ops listed := mem_ready.2 ⟨hun, _, hoi, fun e he hb => by
        have h1 := ms.after i _ hoi e he hb
        have h2 := hkl _ h1
        have hlt : e.on < listed.size := by rw [inv.size]; omega
        simp [hlt] at h2 ⊢
        exact h2⟩
      rw [h0] at this
      cases this
    · obtain ⟨hju, o, ho, hall⟩ := mem_ready.1 hj
      have hjs : j < ops.size := (Array.getElem?_eq_some_iff.1 ho).1
      have hjl : j < listed.size := by rw [inv.size]; exact hjs
      have hjf : listed.getD j false = false := by simp [hjl] at hju ⊢; exact hju
      have hcnt : unl (listed.setIfInBounds j true) ops.size = f := by
        have := unl_set hjl hju ops.size hjs
        omega
      have hclosed : Closed ops (listed.setIfInBounds j true) := fun i oi hoi hl e he hb => by
        by_cases hij : i = j
        · subst hij
          obtain rfl : oi = o := Option.some.inj (hoi.symm.trans ho)
          exact getD_set_true (hall e he hb)
        · rw [getD_set_ne false (Ne.symm hij)] at hl
          exact getD_set_true (inv.closed i oi hoi hl e he hb)
      have hset : ∀ i, i ≠ j → (listed.setIfInBounds j true).getD i true = listed.getD i true := fun i hij => getD_set_ne true (Ne.symm hij)
      have hsetj : (listed.setIfInBounds j true).getD j true = true := by simp [hjl]
      unfold wpOp
      simp only [ho]
      by_cases hsp : special n k j
      · -- a special operation
        obtain ⟨c, rfl⟩ : ∃ c, j = n + c := ⟨j - n, by unfold special at hsp; omega⟩
        have hck : c < k := by unfold special at hsp; omega
        obtain ⟨o', ho', hgd, hdst, hstep⟩ := sp.steps c hck
        obtain rfl : o' = o := Option.some.inj (ho'.symm.trans ho)
        obtain ⟨p, v, hp, hpl, hf, hv⟩ := inv.spec
        have hcp : c = p := by
          have h1 := hpl c hck
          rw [hju] at h1
          have h1 : ¬ c < p := by simpa using h1.symm
          rcases Nat.lt_or_ge p c with h | h
          · have h2 := hpl (c - 1) (by omega)
            have h3 := true_of_false (ready_waits inv.closed hj (ms.chain c hck (by omega)))
            rw [show n + c - 1 = n + (c - 1) by omega, h2] at h3
            have : c - 1 < p := by simpa using h3
            omega
          · omega
        subst hcp
        have hlook : ∀ s, s ∈ o'.looksAt ops → a.tmps.getD s undef = (A.put d v).tmps.getD s undef := fun s hs => by
          by_cases hsd : d = some s
          · obtain ⟨hk0, hdn⟩ := sp.first s hsd
            rw [hsd, put_getD_same (hz n (by have := ms.le; omega) s hdn)]
            refine hv s hsd ?_
            rcases ms.looks (n + c) o' ho n (by have := ms.le; omega) s hdn hs with ⟨h1, _, _⟩ | ⟨_, _, h3, _⟩
            · omega
            · exfalso; unfold special at hsp; omega
          · have : (A.put d v).tmps.getD s undef = A.tmps.getD s undef := by
              cases d with
              | none => rfl
              | some t => exact put_getD_ne fun e => hsd (by rw [e])
            rw [this]
            refine inv.new s hsd fun i hi he => ?_
            rcases ms.looks (n + c) o' ho i hi s he hs with ⟨_, h2, _⟩ | ⟨_, _, h3, _⟩
            · exact true_of_false (ready_waits inv.closed hj h2)
            · exfalso; unfold special at hsp; omega
        obtain ⟨hex, _⟩ := exec_same (Region.noSelect_spec ms.sel _ o' · · ho) hlook (by rw [put_size]; exact inv.len)
        have hw : Region.wanted o' (yielded ops a.tmps) = true := by simp [Region.wanted, hgd]
        simp only [hw, if_true]
        refine .inl (Leaves.wp (G := fun u w' => F (c + 1) w' (if c = 0 ∧ d.isSome = true then u else v)) (W := W) (row := row) ?_ fun u w'' hb hf' => ?_)
        · have := hstep w v inv.off hf
          unfold Leaves at *
          rw [hex]
          exact this
        · refine mesh_core ms sp hz hq hT f _ _ _ ⟨by simp [inv.size], hclosed, by rw [put_defers]; exact inv.defers, by rw [put_size]; exact inv.len, fun s hsd hs => ?_, fun s i hsd hi he hl => ?_, hb, c + 1, _, by omega, fun j hj' => ?_, hf', fun s hsd _ => ?_⟩ hcnt
          · have h1 : (a.put o'.dst u).tmps.getD s undef = a.tmps.getD s undef := by
              rw [hdst]
              split
              · cases d with
                | none => rfl
                | some t => exact put_getD_ne fun e => hsd (by rw [e])
              · rfl
            rw [h1]
            refine inv.new s hsd fun i hi he => ?_
            by_cases hij : i = n + c
            · subst hij
              have : o'.dst = some s := by simpa [dstAt, ho] using he
              rw [hdst] at this
              split at this
              · exact absurd this hsd
              · cases this
            · rw [← hset i hij]; exact hs i hi he
          · have hij : i ≠ n + c := fun e => by subst e; rw [hsetj] at hl; cases hl
            have h1 : (a.put o'.dst u).tmps.getD s undef = a.tmps.getD s undef := by
              rw [hdst]
              split
              · cases d with
                | none => rfl
                | some t => exact put_getD_ne fun e => hsd (by rw [e])
              · rfl
            rw [h1]
            rw [hset i hij] at hl
            exact inv.old s i hsd hi he hl
          · by_cases hjc : j = c
            · subst hjc
              rw [hsetj]
              simp
            · rw [hset _ (by omega), hpl j hj']
              by_cases hjlt : j < c
              · simp [hjlt, show j < c + 1 by omega]
              · simp [hjlt, show ¬ j < c + 1 by omega]
          · obtain ⟨hk0, hdn⟩ := sp.first s hsd
            by_cases hc0 : c = 0
            · subst hc0
              rw [hdst, if_pos rfl, hsd, put_getD_same (by rw [inv.len]; exact hz n (by have := ms.le; omega) s hdn)]
              simp
            · rw [hdst, if_neg hc0]
              simp only [hc0, false_and, if_false]
              exact hv s hsd (by omega)
      · -- a quiet one
        have hjq : j < n ∨ n + k ≤ j := by unfold special at hsp; omega
        obtain ⟨s0, hs0⟩ := ms.dst j hjs hjq
        have hos : o.dst = some s0 := by simpa [dstAt, ho] using hs0
        obtain ⟨ai, hai⟩ := hq j hjs hsp o s0 ho hos
        have hs0d : d ≠ some s0 := fun e => by
          obtain ⟨hk0, hdn⟩ := sp.first s0 e
          exact ms.uniq j hjs s0 hs0 n (by have := ms.le; omega) (by omega) hdn
        have hlook : ∀ s, s ∈ o.looksAt ops → a.tmps.getD s undef = ai.tmps.getD s undef := fun s hs => by
          have hsd : d ≠ some s := fun e => by
            obtain ⟨hk0, hdn⟩ := sp.first s e
            rcases ms.looks j o ho n (by have := ms.le; omega) s hdn hs with ⟨_, _, h3⟩ | ⟨_, _, _, h3⟩
            · rcases h3 with h3 | h3
              · exact hsp h3
              · omega
            · omega
          by_cases hex : ∃ i, i < ops.size ∧ dstAt ops i = some s
          · obtain ⟨i, hi, he⟩ := hex
            have only : ∀ i', i' < ops.size → dstAt ops i' = some s → i' = i := fun i' hi' he' => by
              rcases Decidable.em (i' = i) with h | h
              · exact h
              · exact absurd he' (ms.uniq i hi s he i' hi' h)
            rcases ms.looks j o ho i hi s he hs with ⟨h1, h2, h3⟩ | ⟨h1, h2, _, h4⟩
            · have hil := true_of_false (ready_waits inv.closed hj h2)
              rw [inv.new s hsd fun i' hi' he' => by rw [only i' hi' he']; exact hil]
              exact (hai.done s fun i' hi' he' => by rw [only i' hi' he']; exact h1).symm
            · have hil : listed.getD i true = false := by
                cases hl : listed.getD i true with
                | false => rfl
                | true =>
                  have hil : listed.getD i false = true := getD_true_of (by rw [inv.size]; exact hi) hl
                  rw [waits3_listed inv.closed hil h2] at hjf
                  cases hjf
              rw [inv.old s i hsd hi he hil]
              exact (hai.open_ s i hi he (by omega) (by unfold special; omega)).symm
          · rw [inv.new s hsd fun i hi he => absurd ⟨i, hi, he⟩ hex]
            exact (hai.done s fun i hi he => absurd ⟨i, hi, he⟩ hex).symm
        obtain ⟨hex, hwt⟩ := exec_same (Region.noSelect_spec ms.sel j o · · ho) hlook (by rw [inv.len]; exact hai.len.symm)
        have step : ∀ w'', Below w.heap.size w w'' → wpAny P .any ops Q f (listed.setIfInBounds j true) (a.put o.dst (A.tmps.getD s0 undef)) w'' := fun w'' hb => by
          refine mesh_core ms sp hz hq hT f _ _ _ ⟨by simp [inv.size], hclosed, by rw [put_defers]; exact inv.defers, by rw [put_size]; exact inv.len, fun s hsd hs => ?_, fun s i hsd hi he hl => ?_, grownBy_trans inv.off (grownBy_of_below hb), ?_⟩ hcnt
          · rw [hos]
            by_cases hss : s = s0
            · subst hss
              exact put_getD_same (by rw [inv.len]; exact hz j hjs _ hs0)
            · rw [put_getD_ne hss]
              refine inv.new s hsd fun i hi he => ?_
              have hij : i ≠ j := fun e => by
                subst e
                rw [hs0] at he
                exact hss (Option.some.inj he).symm
              rw [← hset i hij]
              exact hs i hi he
          · have hij : i ≠ j := fun e => by subst e; rw [hsetj] at hl; cases hl
            have hss : s ≠ s0 := fun e => by
              subst e
              exact ms.uniq j hjs _ hs0 i hi hij he
            rw [hos, put_getD_ne hss]
            rw [hset i hij] at hl
            exact inv.old s i hsd hi he hl
          · obtain ⟨p, v, hp, hpl, hf, hv⟩ := inv.spec
            refine ⟨p, v, hp, fun c hc => ?_, sp.stable p w w'' v hf hb, fun s hsd hp0 => ?_⟩
            · rw [hset _ (fun e => hsp (by unfold special; omega))]
              exact hpl c hc
            · have hss : s ≠ s0 := fun e => hs0d (by rw [hsd, e])
              rw [hos, put_getD_ne hss]
              exact hv s hsd hp0
        rw [hwt]
        rcases hai.ok with ⟨hw, hg⟩ | ⟨hw, hg⟩
        · simp only [hw, if_true]
          refine .inl (Gives.wp (v := A.tmps.getD s0 undef) ?_ fun w'' hb => step w'' hb)
          have := hg w inv.off
          unfold Gives Oper.quietAt at *
          rw [hex]
          exact this
        · simp only [hw, Bool.false_eq_true, if_false]
          rw [← hg]
          exact step w (Below.refl _ _)


theorem mesh_quiet_len {n k N : Nat} (h : n + k ≤ N) {l : List Oper} (hl : l.length = N) : (l.take n ++ l.drop (n + k)).length + k = N := by simp; omega

/-- **A REGION THAT DRAWS ITS ORDER**: quiet operations, and a chain of special ones at n .. n + k - 1. What F says is kept from special operation to special operation. -/
theorem wp_region_mesh {id : Nat} {Q : Exit → Act → World → Prop} {a : Act} {w : World} {l : List Oper} (n k : Nat) (row : Option Nat) (d : Option Tmp) (F : Nat → World → Value → Prop)
    (hm : P.follows .mixedOrders = true) (hB : meshB l.toArray n k = true) (hr : roomB l.toArray l.length a.tmps.size = true) {v0 : Value} (hF0 : F 0 w v0)
    (h : ∃ A, (∀ W1, w.grownBy W1 row → wpQuiet P l.toArray (fun w' => ∃ x : Ext W1, w' = x.val) (fun a' => a' = A) (l.take n ++ l.drop (n + k)) a) ∧ SpecOK P l.toArray w row n k A d F ∧
      ∀ v w1, w.grownBy w1 row → F k w1 v → Q .normal (A.put d v) w1) : (Code.region id l.toArray true).wp P Q a w := by
  obtain ⟨A, h, sp, hT⟩ := h
  have ms := mesh_of hB
  have hle : n + k ≤ l.length := by have := ms.le; simpa using this
  have hb0 : Below w.heap.size w { w with drawn := w.drawn + 1 } := ⟨rfl, rfl, rfl, Nat.le_refl _, fun _ _ => rfl⟩
  have hrefl : w.grownBy w row := grownBy_of_below (Below.refl _ _)
  have hag := quiet_agree _ _ (h w hrefl)
  have hroom : ∀ i, i < l.toArray.size → ∀ s, dstAt l.toArray i = some s → s < a.tmps.size := fun i hi s hs => room_of hr i (by simpa using hi) s hs
  have hq := quietAt_of (a0 := a) ms hrefl (l.take n ++ l.drop (n + k)) 0 a (fun j hj => by
      simp only [Nat.zero_add, List.getElem?_toArray]
      simp at hj
      by_cases hjn : j < n
      · rw [if_pos hjn, List.getElem?_append_left (by simp; omega)]
        simp [hjn]
      · rw [if_neg hjn, List.getElem?_append_right (by simp; omega)]
        simp only [List.length_take, List.getElem?_drop]
        congr 1
        omega) (by simp; omega) hroom (fun _ _ _ _ _ _ => rfl) h
  refine wp_region_any hm ?_
  have hu : unl (Array.replicate l.toArray.size false) l.toArray.size = l.toArray.size := unl_replicate _ (Nat.le_refl _)
  refine mesh_core ms sp (fun i hi s hs => by rw [← hag.2.1]; exact hroom i hi s hs) (fun i hi hs o s ho hd => hq i (by unfold special at hs; split <;> omega) hi hs o s ho hd) hT _ _ a _ ?_ hu
  refine ⟨by simp, fun j oj _ hl => (by rw [getD_replicate_false] at hl; cases hl), hag.1, hag.2.1, fun s hsd hs => ?_, fun _ _ _ _ _ _ => rfl, grownBy_of_below hb0, 0, v0, Nat.zero_le _, fun j hj => ?_, sp.stable _ _ _ _ hF0 hb0, fun _ _ h0 => absurd h0 (by omega)⟩
  · refine (hag.2.2 s fun o ho he => ?_).symm
    obtain ⟨j, hj, hje⟩ := List.mem_iff_getElem.1 ho
    have : ∃ i : Nat, l[i]? = some o := by
      rcases List.mem_append.1 ho with h1 | h1
      · obtain ⟨i, hi, hie⟩ := List.mem_iff_getElem.1 (List.mem_of_mem_take h1)
        exact ⟨i, by simp [hi, hie]⟩
      · obtain ⟨i, hi, hie⟩ := List.mem_iff_getElem.1 (List.mem_of_mem_drop h1)
        exact ⟨i, by simp [hi, hie]⟩
    obtain ⟨i, hi⟩ := this
    have hil : i < l.length := (List.getElem?_eq_some_iff.1 hi).1
    have := hs i (by simpa using hil) (by simp [dstAt, hi, he])
    simp [hil] at this
  · have : n + j < l.length := by omega
    simp [this]

/-- Block g is just these cells, none frozen. -/
def Whole (w : World) (g : Nat) (t : TypeId) (cs : Array Value) : Prop := w.heap[g]? = some (.cells cs t (0, 0))
section
variable {w w' : World} {g : Nat} {t : TypeId} {cs : Array Value}
theorem Whole.lt (h : Whole w g t cs) : g < w.heap.size := by
  rcases Nat.lt_or_ge g w.heap.size with h' | h'
  · exact h'
  · unfold Whole at h; rw [Array.getElem?_eq_none h'] at h; cases h
theorem Whole.cell (h : Whole w g t cs) (i : Nat) : w.cell? ⟨g, i, none⟩ = cs[i]? := cell_of_row w g i cs t (0, 0) h
theorem Whole.free (h : Whole w g t cs) (i : Nat) : w.frozen? ⟨g, i, none⟩ = false := frozen_of_row w g i cs t h
theorem Whole.on (h : Whole w g t cs) (hb : Below w.heap.size w w') : Whole w' g t cs := (hb.block g h.lt).trans h
theorem Whole.off (h : Whole w g t cs) {row : Option Nat} (hb : w.grownBy w' row) (hr : some g ≠ row) : Whole w' g t cs := (hb.block g h.lt hr).trans h
theorem Whole.put (h : Whole w g t cs) (i : Nat) (v : Value) : Whole (w.setCell ⟨g, i, none⟩ v) g t (cs.setIfInBounds i v) := heap_setCell_same w g i cs t v h
theorem Whole.far (h : Whole w g t cs) {p : Addr} (hp : g ≠ p.block) (u : Value) : Whole (w.setCell p u) g t cs := (heap_setCell_other w p g u hp).trans h
theorem Whole.new (w : World) (t : TypeId) (cs : Array Value) : Whole (w.alloc (.cells cs t)) w.heap.size t cs := heap_alloc_new w _
theorem Whole.there (h : Whole w g t cs) : w.there g 0 cs.size := fun j hj => by
  rw [Nat.zero_add, h.cell, h.free]
  exact ⟨by simp [hj], rfl⟩
end

theorem Whole.fill {g : Nat} {t : TypeId} : ∀ (vs : List Value) (o : Nat) (w : World) (cs : Array Value), Whole w g t cs → o + vs.length ≤ cs.size →
    ∃ cs' : Array Value, Whole (w.setCells g o vs) g t cs' ∧ cs'.size = cs.size ∧ (∀ i, i < o → cs'[i]? = cs[i]?) ∧ (∀ i, o + vs.length ≤ i → cs'[i]? = cs[i]?) ∧ ∀ i, i < vs.length → cs'[o + i]? = vs[i]?
  | [], o, w, cs, h, _ => ⟨cs, h, rfl, fun _ _ => rfl, fun _ _ => rfl, fun i hi => by simp at hi⟩
  | v :: vs, o, w, cs, h, hl => by
    simp only [List.length_cons] at hl
    obtain ⟨cs', h1, h2, h3, h4, h5⟩ := Whole.fill vs (o + 1) _ _ (h.put o v) (by simp; omega)
    refine ⟨cs', h1, by rw [h2]; simp, fun i hi => ?_, fun i hi => ?_, fun i hi => ?_⟩
    · rw [h3 i (by omega)]; simp [Array.getElem?_setIfInBounds_ne (show o ≠ i by omega)]
    · simp only [List.length_cons] at hi
      rw [h4 i (by omega)]; simp [Array.getElem?_setIfInBounds_ne (show o ≠ i by omega)]
    · cases i with
      | zero =>
        rw [Nat.add_zero, h3 o (by omega)]
        simp [show o < cs.size by omega]
      | succ i =>
        simp only [List.length_cons] at hi
        have := h5 i (by omega)
        rw [show o + (i + 1) = o + 1 + i by omega, this]
        simp

theorem Whole.fillAll {w : World} {g : Nat} {t : TypeId} {cs cs' : Array Value} (h : Whole w g t cs) (hs : cs'.size = cs.size) : Whole (w.setCells g 0 cs'.toList) g t cs' := by
  obtain ⟨c, h1, h2, _, _, h5⟩ := Whole.fill cs'.toList 0 w cs h (by simp; omega)
  have : c = cs' := by
    apply Array.ext
    · omega
    · intro i hi hi'
      have := h5 i (by simpa using hi')
      simpa [hi, hi'] using this
  rw [← this]
  rw [this] at h1 ⊢
  exact h1

theorem setCells_off {g : Nat} : ∀ (vs : List Value) (o : Nat) (w : World) (W : World) (row : Option Nat), W.grownBy w row → (W.heap.size ≤ g ∨ row = some g) → W.grownBy (w.setCells g o vs) row
  | [], _, _, _, _, h, _ => h
  | v :: vs, o, w, W, row, h, hg => setCells_off vs (o + 1) _ W row ⟨h.os, h.tape, h.output, by simpa [World.setCell] using h.size, fun i hi hr => (heap_setCell_other w ⟨g, o, none⟩ i v (by
      intro e
      have e' : i = g := e
      rcases hg with hg | hg
      · omega
      · exact hr (by rw [e', hg]))).trans (h.block i hi hr)⟩ hg

/-- What a new variable is. -/
def NewAt (W : World) (t : TypeId) (Z : Array Value) (w : World) (v : Value) : Prop := ∃ g, v = .pointer (some ⟨g, 0, none⟩) ∧ W.heap.size ≤ g ∧ Whole w g t Z
theorem NewAt.on {W w w' : World} {t : TypeId} {Z : Array Value} {v : Value} (h : NewAt W t Z w v) (hb : Below w.heap.size w w') : NewAt W t Z w' v :=
  let ⟨g, h1, h2, h3⟩ := h
  ⟨g, h1, h2, h3.on hb⟩

def boxF (W : World) (t : TypeId) (Z cs : Array Value) : Nat → World → Value → Prop
  | 0, _, _ => True
  | 1, w, v => NewAt W t Z w v
  | _, w, v => NewAt W t cs w v

/-- **A new variable is laid and filled**, whenever its operations come up: 'x := ..' (x in memory). -/
theorem wp_region_box {id : Nat} {Q : Exit → Act → World → Prop} {a : Act} {w : World} {l : List Oper} (n : Nat) {d : Tmp} {t : TypeId} {x : Operand} {Z : Array Value} {o1 o2 : Oper}
    (hm : P.follows .mixedOrders = true) (hB : meshB l.toArray n 2 = true) (hr : roomB l.toArray l.length a.tmps.size = true)
    (h1 : l[n]? = some o1) (h2 : l[n + 1]? = some o2) (p1 : o1.op = .alloc t) (p2 : o1.guard = none) (p3 : o1.dst = some d) (s1 : o2.op = .store t (.tmp d) x) (s2 : o2.guard = none) (s3 : o2.dst = none) (hxd : x ≠ .tmp d)
    (hz : ∀ W, (Instr.alloc t true (.tuple #[])).run P W = .ok (.pointer (some ⟨W.heap.size, 0, none⟩)) (W.alloc (.cells Z t)))
    (hi : (P.info? t).map (·.size) = some Z.size) (hd : d < a.tmps.size)
    (h : ∃ A, (∀ W1, Below w.heap.size w W1 → wpQuiet P l.toArray (fun w' => ∃ x : Ext W1, w' = x.val) (fun a' => a' = A) (l.take n ++ l.drop (n + 2)) a) ∧
      (∃ cs : Array Value, A.eval x = .agg cs ∧ cs.size = Z.size ∧ cs.all (·.oneCell') = true ∧
        ∀ g w1, Below w.heap.size w w1 → w.heap.size ≤ g → Whole w1 g t cs → Q .normal (A.put (some d) (.pointer (some ⟨g, 0, none⟩))) w1)) : (Code.region id l.toArray true).wp P Q a w := by
  obtain ⟨A, hq, cs, hcs, hsz, hone, hT⟩ := h
  have hAs : A.tmps.size = a.tmps.size := (quiet_agree _ _ (hq w (Below.refl _ _))).2.1.symm
  have hev : ∀ v, (A.put (some d) v).eval x = .agg cs := fun v => by
    rw [Act.eval_put (fun d' hd' => by rw [← Option.some.inj hd']; exact hxd)]; exact hcs
  refine wp_region_mesh n 2 none (some d) (boxF w t Z cs) hm hB hr (v0 := undef) trivial ⟨A, fun W1 hW => hq W1 (below_of_grownBy hW), ⟨?_, ?_, ?_⟩, ?_⟩
  · intro p w1 w2 v hf hb
    match p, hf with
    | 0, _ => trivial
    | 1, hf => exact NewAt.on hf hb
    | p + 2, hf => exact NewAt.on hf hb
  · intro s hs
    cases hs
    exact ⟨by omega, by simp [dstAt, h1, p3]⟩
  · intro j hj
    match j, hj with
    | 0, _ =>
      refine ⟨o1, by simpa using h1, p2, by simp [p3], fun w1 v hw _ => ?_⟩
      unfold Leaves execOp
      simp only [p1, Sem.run_bind, hz, Result.andThen_ok, Sem.run_pure]
      exact ⟨grownBy_trans hw (World.grownBy_alloc _ _ _), w1.heap.size, rfl, hw.size, Whole.new _ _ _⟩
    | 1, _ =>
      refine ⟨o2, by simpa using h2, s2, by simp [s3], fun w1 v hw hf => ?_⟩
      obtain ⟨g, rfl, hg, hwh⟩ := hf
      have hpt : (A.put (some d) (.pointer (some ⟨g, 0, none⟩))).eval (.tmp d) = .pointer (some ⟨g, 0, none⟩) := put_getD_same (by rw [hAs]; exact hd)
      unfold Leaves execOp
      simp only [s1, hpt, hev, Sem.run_bind, run_storeAt_mid w1 g 0 t cs (by rw [hsz]; exact hwh.there) (by rw [hi, hsz]) hone, Result.andThen_ok, Sem.run_pure]
      exact ⟨setCells_off _ _ _ _ _ hw (.inl hg), g, rfl, hg, hwh.fillAll hsz⟩
  · intro v w1 hw hf
    obtain ⟨g, rfl, hg, hwh⟩ := hf
    exact hT g w1 (below_of_grownBy hw) hg hwh


def fillF (g : Nat) (t : TypeId) (old cs : Array Value) : Nat → World → Value → Prop
  | 0, w, _ => Whole w g t old
  | _, w, _ => Whole w g t cs

/-- **A variable that lies in a block of its own is stored into as a whole**: 'x = ..', among operations that read and call, and do not read x. -/
theorem wp_region_fill {id : Nat} {Q : Exit → Act → World → Prop} {a : Act} {w : World} {l : List Oper} (n : Nat) {t te : TypeId} {p x : Operand} {old : Array Value} {g : Nat} {o1 : Oper}
    (hm : P.follows .mixedOrders = true) (hB : meshB l.toArray n 1 = true) (hr : roomB l.toArray l.length a.tmps.size = true)
    (h1 : l[n]? = some o1) (p1 : o1.op = .store t p x) (p2 : o1.guard = none) (p3 : o1.dst = none) (hi : (P.info? t).map (·.size) = some old.size) (hw : Whole w g te old)
    (h : ∃ A, (∀ W1, w.grownBy W1 (some g) → wpQuiet P l.toArray (fun w' => ∃ x : Ext W1, w' = x.val) (fun a' => a' = A) (l.take n ++ l.drop (n + 1)) a) ∧
      A.eval p = .pointer (some ⟨g, 0, none⟩) ∧ ∃ cs : Array Value, A.eval x = .agg cs ∧ cs.size = old.size ∧ cs.all (·.oneCell') = true ∧
        ∀ w1, w.grownBy w1 (some g) → Whole w1 g te cs → Q .normal A w1) : (Code.region id l.toArray true).wp P Q a w := by
  obtain ⟨A, hq, hp, cs, hcs, hsz, hone, hT⟩ := h
  refine wp_region_mesh n 1 (some g) none (fillF g te old cs) hm hB hr (v0 := undef) hw ⟨A, hq, ⟨?_, ?_, ?_⟩, ?_⟩
  · intro p w1 w2 v hf hb
    match p, hf with
    | 0, hf => exact Whole.on hf hb
    | p + 1, hf => exact Whole.on hf hb
  · intro s hs
    cases hs
  · intro j hj
    match j, hj with
    | 0, _ =>
      refine ⟨o1, by simpa using h1, p2, by simp [p3], fun w1 v hw1 hf => ?_⟩
      have hf' : Whole w1 g te old := hf
      have e1 : (A.put none v).eval p = .pointer (some ⟨g, 0, none⟩) := hp
      have e2 : (A.put none v).eval x = .agg cs := hcs
      unfold Leaves execOp
      simp only [p1, e1, e2, Sem.run_bind, run_storeAt_mid w1 g 0 t cs (by rw [hsz]; exact hf'.there) (by rw [hi, hsz]) hone, Result.andThen_ok, Sem.run_pure]
      exact ⟨setCells_off _ _ _ _ _ hw1 (.inr rfl), hf'.fillAll hsz⟩
  · intro v w1 hw1 hf
    exact hT w1 hw1 hf

end
end Go.Proofs.Ytljpcnhkheoiiaa
