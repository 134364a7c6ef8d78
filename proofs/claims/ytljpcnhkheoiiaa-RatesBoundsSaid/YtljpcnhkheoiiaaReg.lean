/- Regions that draw their order: a head of operations that read, compute or call (what a call makes is new), one new block at most, and a tail whose order is fixed: one walk in the order of the text serves every order. -/
import Derived.Test.YtljpcnhkheoiiaaWalkX
import Derived.StillTail
import Derived.Deep.MidRow
namespace Go.Proofs.Ytljpcnhkheoiiaa
open Go.RowKit

section
variable {P : Program} {ops : Array Oper}

/-- How many of the first m operations are not yet listed. -/
def unl (listed : Array Bool) : Nat → Nat
  | 0 => 0
  | m + 1 => unl listed m + (if listed.getD m true then 0 else 1)

theorem unl_set_ge {listed : Array Bool} {i : Nat} : ∀ m, m ≤ i → unl (listed.setIfInBounds i true) m = unl listed m
  | 0, _ => rfl
  | m + 1, h => by
    simp only [unl]
    rw [unl_set_ge m (by omega), getD_set_ne true (by omega)]

theorem unl_set {listed : Array Bool} {i : Nat} (hs : i < listed.size) (hu : listed.getD i true = false) : ∀ m, i < m → unl (listed.setIfInBounds i true) m + 1 = unl listed m
  | 0, h => by omega
  | m + 1, h => by
    simp only [unl]
    by_cases hm : i = m
    · subst hm
      rw [unl_set_ge i (Nat.le_refl _), hu]
      have : (listed.setIfInBounds i true).getD i true = true := by simp [hs]
      rw [this]
      simp
    · rw [getD_set_ne true hm]
      have := unl_set hs hu m (by omega)
      omega

theorem unl_zero {listed : Array Bool} : ∀ m, unl listed m = 0 → ∀ i, i < m → listed.getD i true = true
  | 0, _, _, h => by omega
  | m + 1, h, i, hi => by
    simp only [unl] at h
    by_cases him : i = m
    · subst him
      cases hl : listed.getD i true with
      | true => rfl
      | false => simp [hl] at h
    · exact unl_zero m (by omega) i (by omega)

theorem unl_least {listed : Array Bool} : ∀ m, unl listed m ≠ 0 → ∃ i, i < m ∧ listed.getD i true = false ∧ ∀ k, k < i → listed.getD k true = true
  | 0, h => absurd rfl h
  | m + 1, h => by
    by_cases hz : unl listed m = 0
    · refine ⟨m, by omega, ?_, unl_zero m hz⟩
      simp only [unl, hz] at h
      cases hl : listed.getD m true with
      | true => simp [hl] at h
      | false => rfl
    · obtain ⟨i, hi, hu, hk⟩ := unl_least m hz
      exact ⟨i, by omega, hu, hk⟩

/-- The slots that the head writes. -/
def dstAt (ops : Array Oper) (i : Nat) : Option Tmp := (ops[i]?).bind (·.dst)

/-- The shape of such a region: n operations of the head; m = n, or n + 1 with a new block's operation at n. -/
def planB (ops : Array Oper) (n m : Nat) : Bool :=
  Region.noSelect ops && decide (m < ops.size) && decide (n ≤ m) && decide (m ≤ n + 1) &&
  -- each operation of the head (and the new block's) writes a slot of its own
  ((List.range m).all fun i => (dstAt ops i).isSome && (List.range m).all fun k => k == i || dstAt ops k != dstAt ops i) &&
  -- it waits for those before it alone, and for each whose slot it looks at
  ((List.range m).all fun i => match ops[i]? with
    | none => false
    | some o => (o.after.all fun e => !Region.binds .any e || decide (e.on < i ∧ e.on < n)) &&
      (List.range m).all fun k => match dstAt ops k with
        | none => true
        | some d => !(o.looksAt ops).contains d || (decide (k < i) && Region.waitsFor .any ops i k)) &&
  -- the tail: its first waits, by way of the head, for all; each other for the one ahead
  ((List.range n).all fun i => (List.range n).any (fun j => decide (i < j) && Region.waitsFor .any ops j i) || Region.waitsFor .any ops m i) &&
  (decide (m = n) || Region.waitsFor .any ops m n) &&
  ((List.range ops.size).all fun t => decide (t ≤ m) || Region.waitsFor .any ops t (t - 1)) &&
  Region.seqB .any ops (ops.size - m) m ((List.range ops.size).map (fun i => decide (i < m))).toArray


structure Plan (ops : Array Oper) (n m : Nat) : Prop where
  sel : Region.noSelect ops = true
  lt : m < ops.size
  nm : n ≤ m
  mn : m ≤ n + 1
  dst : ∀ i, i < m → ∃ o d, ops[i]? = some o ∧ o.dst = some d ∧ ∀ k, k < m → k ≠ i → dstAt ops k ≠ some d
  after : ∀ i, i < m → ∀ o, ops[i]? = some o → ∀ e ∈ o.after, Region.binds .any e = true → e.on < i ∧ e.on < n
  looks : ∀ i, i < m → ∀ o, ops[i]? = some o → ∀ k, k < m → ∀ d, dstAt ops k = some d → d ∈ o.looksAt ops → k < i ∧ Region.waitsFor .any ops i k = true
  sink : ∀ i, i < n → (∃ j, i < j ∧ j < n ∧ Region.waitsFor .any ops j i = true) ∨ Region.waitsFor .any ops m i = true
  sinkA : m ≠ n → Region.waitsFor .any ops m n = true
  chain : ∀ t, m < t → t < ops.size → Region.waitsFor .any ops t (t - 1) = true
  seq : Region.seqB .any ops (ops.size - m) m ((List.range ops.size).map (fun i => decide (i < m))).toArray = true

theorem plan_of {ops : Array Oper} {n m : Nat} (h : planB ops n m = true) : Plan ops n m := by
  simp only [planB, Bool.and_eq_true, decide_eq_true_eq] at h
  obtain ⟨⟨⟨⟨⟨⟨⟨⟨⟨h1, h2⟩, h3⟩, h4⟩, h5⟩, h6⟩, h7⟩, h8⟩, h9⟩, h10⟩ := h
  refine ⟨h1, h2, h3, h4, fun i hi => ?_, fun i hi o ho e he hb => ?_, fun i hi o ho k hk d hd hl => ?_, fun i hi => ?_, fun hne => ?_, fun t ht hts => ?_, h10⟩
  · have := List.all_eq_true.1 h5 i (List.mem_range.2 hi)
    simp only [Bool.and_eq_true] at this
    obtain ⟨ha, hb⟩ := this
    cases ho : ops[i]? with
    | none => simp [dstAt, ho] at ha
    | some o =>
      cases hd : o.dst with
      | none => simp [dstAt, ho, hd] at ha
      | some d =>
        refine ⟨o, d, rfl, hd, fun k hk hki he => ?_⟩
        have hb' := List.all_eq_true.1 hb k (List.mem_range.2 hk)
        have hdi : dstAt ops i = some d := by simp [dstAt, ho, hd]
        simp [hki, he, hdi] at hb'
  · have := List.all_eq_true.1 h6 i (List.mem_range.2 hi)
    simp only [ho, Bool.and_eq_true] at this
    have h' := Array.all_eq_true_iff_forall_mem.1 this.1 e he
    simp only [hb, Bool.not_true, Bool.false_or, decide_eq_true_eq] at h'
    exact h'
  · have := List.all_eq_true.1 h6 i (List.mem_range.2 hi)
    simp only [ho, Bool.and_eq_true] at this
    have h' := List.all_eq_true.1 this.2 k (List.mem_range.2 hk)
    simp only [hd, Bool.or_eq_true, Bool.not_eq_true', Bool.and_eq_true, decide_eq_true_eq] at h'
    rcases h' with h' | h'
    · simp [hl] at h'
    · exact h'
  · have := List.all_eq_true.1 h7 i (List.mem_range.2 hi)
    simp only [Bool.or_eq_true] at this
    rcases this with h' | h'
    · obtain ⟨j, hj, hj2⟩ := List.any_eq_true.1 h'
      simp only [Bool.and_eq_true, decide_eq_true_eq] at hj2
      exact .inl ⟨j, hj2.1, List.mem_range.1 hj, hj2.2⟩
    · exact .inr h'
  · simp only [Bool.or_eq_true, decide_eq_true_eq] at h8
    rcases h8 with h' | h'
    · exact absurd h' hne
    · exact h'
  · have := List.all_eq_true.1 h9 t (List.mem_range.2 hts)
    simp only [Bool.or_eq_true, decide_eq_true_eq] at this
    rcases this with h' | h'
    · omega
    · exact h'

/-- An operation, carried out in the world w, leaves v and a world in which nothing of w has turned. -/
def Gives (P : Program) (o : Oper) (a : Act) (w : World) (v : Value) : Prop := o.quietAt P a (fun w'' => Below w.heap.size w w'') w v

theorem Gives.wp {o : Oper} {a : Act} {w : World} {v : Value} {K : Act → World → Prop} {Q : Exit → Act → World → Prop} (h : Gives P o a w v) (hk : ∀ w'', Below w.heap.size w w'' → K (a.put o.dst v) w'') : o.wp P a w K Q := by
  unfold Gives Oper.quietAt at h
  unfold Oper.wp
  generalize (execOp a.eval o).run P w = r at *
  cases r with
  | ok n w' =>
    cases n <;> simp only [Oper.quietUpon] at h <;> simp only [Oper.upon]
    case value u =>
      obtain ⟨e1, e2⟩ := h
      rw [e1, e2]
      exact hk _ (Below.refl _ _)
    case skip =>
      obtain ⟨e1, e2⟩ := h
      rw [e1, ← e2]
      exact hk _ (Below.refl _ _)
    case enter f args =>
      obtain ⟨e1, hc⟩ := h
      rw [e1]
      exact hc.mono fun e w'' ⟨he, hw''⟩ => by subst he; exact hk _ hw''
  | halt x w' => simp only [Oper.quietUpon] at h

/-- What the head leaves, said at the frame at its end: A. -/
structure HeadOK (P : Program) (ops : Array Oper) (W : World) (n : Nat) (A : Act) : Prop where
  ok : ∀ i, i < n → ∀ o d, ops[i]? = some o → o.dst = some d → d < A.tmps.size ∧
    ((Region.wanted o (yielded ops A.tmps) = true ∧ ∀ w, Below W.heap.size W w → Gives P o A w (A.tmps.getD d undef)) ∨ (Region.wanted o (yielded ops A.tmps) = false ∧ A.tmps.getD d undef = undef))


/-- An operation that makes something new: what it leaves meets F; nothing of w has turned. -/
def Makes (P : Program) (o : Oper) (a : Act) (w : World) (F : World → Value → Prop) : Prop :=
  match (execOp a.eval o).run P w with
  | .ok (.value v) w' => Below w.heap.size w w' ∧ F w' v
  | .ok (.enter f args) w' => w' = w ∧ Calls P f args w (fun e w'' => ∃ v, e = .returned v ∧ Below w.heap.size w w'' ∧ F w'' v)
  | _ => False

theorem Makes.wp {o : Oper} {a : Act} {w : World} {F : World → Value → Prop} {K : Act → World → Prop} {Q : Exit → Act → World → Prop} (h : Makes P o a w F) (hk : ∀ v w'', Below w.heap.size w w'' → F w'' v → K (a.put o.dst v) w'') : o.wp P a w K Q := by
  unfold Makes at h
  unfold Oper.wp
  generalize (execOp a.eval o).run P w = r at *
  cases r with
  | ok n w' =>
    cases n <;> simp only at h <;> simp only [Oper.upon]
    case value u => exact hk _ _ h.1 h.2
    case enter f args =>
      obtain ⟨e1, hc⟩ := h
      rw [e1]
      exact hc.mono fun e w'' ⟨v, he, hb, hf⟩ => by subst he; exact hk _ _ hb hf
  | halt x w' => simp only at h

structure Inv (ops : Array Oper) (W : World) (n m : Nat) (A : Act) (F : World → Value → Prop) (listed : Array Bool) (a : Act) (w : World) : Prop where
  size : listed.size = ops.size
  closed : ∀ j oj, j < m → ops[j]? = some oj → listed.getD j false = true → ∀ e ∈ oj.after, Region.binds .any e = true → listed.getD e.on false = true
  tail : ∀ t, m ≤ t → t < ops.size → listed.getD t true = false
  defers : a.defers = A.defers
  len : a.tmps.size = A.tmps.size
  agree : ∀ s, (∀ i, i < m → dstAt ops i = some s → listed.getD i true = true ∧ i < n) → a.tmps.getD s undef = A.tmps.getD s undef
  below : Below W.heap.size W w
  fresh : n < m → listed.getD n true = true → ∀ d, dstAt ops n = some d → F w (a.tmps.getD d undef)

theorem getD_true_of {listed : Array Bool} {i : Nat} (hi : i < listed.size) (h : listed.getD i true = true) : listed.getD i false = true := by
  simp [hi] at h ⊢; exact h

/-- While something of the head is open, no operation of the tail comes up. -/
theorem tail_not {n m : Nat} {listed : Array Bool} (pl : Plan ops n m) (hsz : listed.size = ops.size) (hcl : ∀ j oj, j < m → ops[j]? = some oj → listed.getD j false = true → ∀ e ∈ oj.after, Region.binds .any e = true → listed.getD e.on false = true)
    (htl : ∀ t, m ≤ t → t < ops.size → listed.getD t true = false) {t : Nat} (ht : m ≤ t) (hr : t ∈ Region.ready .any ops listed) : unl listed m = 0 := by
  obtain ⟨_, ot, hot, hall⟩ := mem_ready.1 hr
  have htlt : t < ops.size := (Array.getElem?_eq_some_iff.1 hot).1
  have waits : ∀ i, Region.waitsFor .any ops t i = true → listed.getD i false = true := fun i h => by
    obtain ⟨o', ho', e, he, hb, hon⟩ := Region.waitsFor_spec h
    have : o' = ot := Option.some.inj (ho'.symm.trans hot)
    subst this
    have h2 := hall e he hb
    rwa [hon] at h2
  have htm : t = m := by
    rcases Nat.lt_or_ge m t with h | h
    · have h1 := waits _ (pl.chain t h htlt)
      rw [getD_both (htl (t - 1) (by omega) (by omega))] at h1
      cases h1
    · omega
  subst htm
  have head : ∀ d i, n - i = d → i < n → listed.getD i false = true := by
    intro d
    induction d using Nat.strongRecOn with
    | _ d ih =>
      intro i hd hi
      rcases pl.sink i hi with ⟨j, hij, hjn, hw⟩ | hw
      · have hj := ih (n - j) (by omega) j rfl hjn
        obtain ⟨o', ho', e, he, hb, hon⟩ := Region.waitsFor_spec hw
        have := hcl j o' (by have := pl.nm; omega) ho' hj e he hb
        rwa [hon] at this
      · exact waits i hw
  have all : ∀ i, i < t → listed.getD i true = true := fun i hi => by
    have hf : listed.getD i false = true := by
      by_cases hin : i < n
      · exact head _ i rfl hin
      · have hin' : i = n := by have := pl.mn; omega
        subst hin'
        exact waits i (pl.sinkA (by omega))
    have hlt : i < listed.size := by rw [hsz]; omega
    simp [hlt] at hf ⊢
    exact hf
  rcases Nat.eq_zero_or_pos (unl listed t) with h | h
  · exact h
  · obtain ⟨i, hi, hu, _⟩ := unl_least t (Nat.ne_of_gt h)
    rw [all i hi] at hu
    cases hu

theorem yielded_same {a A : Act} {g : Nat} (h : ∀ d, dstAt ops g = some d → a.tmps.getD d undef = A.tmps.getD d undef) (hl : a.tmps.size = A.tmps.size) : yielded ops a.tmps g = yielded ops A.tmps g := by
  unfold yielded
  cases hd : (ops[g]?).bind (·.dst) with
  | none => rfl
  | some d =>
    have h' := h d hd
    simp only [Option.bind_some]
    by_cases hlt : d < a.tmps.size
    · have hlt' : d < A.tmps.size := hl ▸ hlt
      simp [hlt, hlt'] at h' ⊢
      rw [h']
    · have hlt' : ¬ d < A.tmps.size := hl ▸ hlt
      simp [Array.getElem?_eq_none (Nat.le_of_not_lt hlt), Array.getElem?_eq_none (Nat.le_of_not_lt hlt')]

theorem eval_same {a A : Act} {x : Operand} (h : ∀ d, x = .tmp d → a.tmps.getD d undef = A.tmps.getD d undef) : a.eval x = A.eval x := by
  cases x with
  | tmp t => exact h t rfl
  | const v => rfl
  | global g => rfl
  | func f => rfl


theorem put_getD_same {a : Act} {d : Tmp} {v : Value} (h : d < a.tmps.size) : (a.put (some d) v).tmps.getD d undef = v := by
  simp [Act.put, h]
theorem put_getD_ne {a : Act} {d s : Tmp} {v : Value} (h : s ≠ d) : (a.put (some d) v).tmps.getD s undef = a.tmps.getD s undef := by
  simp [Act.put, Array.getElem?_setIfInBounds_ne (Ne.symm h)]
theorem put_size {a : Act} {d : Option Tmp} {v : Value} : (a.put d v).tmps.size = a.tmps.size := by cases d <;> simp [Act.put]
theorem put_defers {a : Act} {d : Option Tmp} {v : Value} : (a.put d v).defers = a.defers := by cases d <;> rfl

/-- One operation ahead of the tail has been carried out. -/
theorem Inv.step {W : World} {n m : Nat} {A : Act} {F : World → Value → Prop} {listed : Array Bool} {a : Act} {w : World} (pl : Plan ops n m) (hF : ∀ w w' v, F w v → Below w.heap.size w w' → F w' v)
    (inv : Inv ops W n m A F listed a w) {j : Nat} {o : Oper} {d : Tmp} {v : Value} {w' : World} (hj : j ∈ Region.ready .any ops listed) (hjm : j < m) (ho : ops[j]? = some o) (hd : o.dst = some d) (hdl : d < A.tmps.size)
    (hb : Below w.heap.size w w') (hv : j < n → v = A.tmps.getD d undef) (hf : j = n → F w' v) : Inv ops W n m A F (listed.setIfInBounds j true) (a.put o.dst v) w' := by
  obtain ⟨hju, oj, hoj, hall⟩ := mem_ready.1 hj
  have hoe : oj = o := Option.some.inj (hoj.symm.trans ho)
  subst hoe
  have hjs : j < listed.size := by rw [inv.size]; exact (Array.getElem?_eq_some_iff.1 ho).1
  have hdj : dstAt ops j = some d := by simp [dstAt, ho, hd]
  have only : ∀ i, i < m → dstAt ops i = some d → i = j := fun i hi he => by
    obtain ⟨oo, dd, h1, h2, h3⟩ := pl.dst j hjm
    have : oo = oj := Option.some.inj (h1.symm.trans ho)
    subst this
    have : dd = d := Option.some.inj (h2.symm.trans hd)
    subst this
    rcases Decidable.em (i = j) with h | h
    · exact h
    · exact absurd he (h3 i hi h)
  rw [hd]
  refine ⟨by simp [inv.size], fun k ok hk hok hl e he hbe => ?_, fun t ht hts => ?_, by rw [put_defers]; exact inv.defers, by rw [put_size]; exact inv.len, fun s hs => ?_, inv.below.trans (hb.mono inv.below.size), fun hnm hl d' hd' => ?_⟩
  · by_cases hkj : k = j
    · subst hkj
      have : ok = oj := Option.some.inj (hok.symm.trans ho)
      subst this
      exact getD_set_true (hall e he hbe)
    · rw [getD_set_ne false (Ne.symm hkj)] at hl
      exact getD_set_true (inv.closed k ok hk hok hl e he hbe)
  · rw [getD_set_ne true (by omega)]
    exact inv.tail t ht hts
  · by_cases hsd : s = d
    · subst hsd
      have hj2 := hs j hjm hdj
      rw [put_getD_same (by rw [inv.len]; exact hdl)]
      exact hv hj2.2
    · rw [put_getD_ne hsd]
      refine inv.agree s fun i hi he => ?_
      have h2 := hs i hi he
      have hij : i ≠ j := fun e => by
        subst e
        rw [hdj] at he
        exact hsd (Option.some.inj he).symm
      rw [getD_set_ne true (Ne.symm hij)] at h2
      exact h2
  · by_cases hjn : j = n
    · subst hjn
      rw [hdj] at hd'
      obtain rfl := Option.some.inj hd'
      rw [put_getD_same (by rw [inv.len]; exact hdl)]
      exact hf rfl
    · rw [getD_set_ne true hjn] at hl
      have hne : d' ≠ d := fun e => by
        subst e
        exact hjn (only n hnm hd').symm
      rw [put_getD_ne hne]
      exact hF _ _ _ (inv.fresh hnm hl d' hd') hb

theorem Inv.same {W : World} {n m : Nat} {A : Act} {F : World → Value → Prop} {listed : Array Bool} {a : Act} {w : World} (pl : Plan ops n m)
    (inv : Inv ops W n m A F listed a w) {j : Nat} {o : Oper} (hj : j ∈ Region.ready .any ops listed) (hjm : j < m) (ho : ops[j]? = some o) :
    execOp a.eval o = execOp A.eval o ∧ Region.wanted o (yielded ops a.tmps) = Region.wanted o (yielded ops A.tmps) := by
  obtain ⟨hju, oj, hoj, hall⟩ := mem_ready.1 hj
  have hoe : oj = o := Option.some.inj (hoj.symm.trans ho)
  subst hoe
  have slot : ∀ s, s ∈ oj.looksAt ops → a.tmps.getD s undef = A.tmps.getD s undef := fun s hs => inv.agree s fun i hi he => by
    obtain ⟨h1, h2⟩ := pl.looks j hjm oj ho i hi s he hs
    obtain ⟨o', ho', e, hee, hb, hon⟩ := Region.waitsFor_spec h2
    have : o' = oj := Option.some.inj (ho'.symm.trans ho)
    subst this
    have h3 := hall e hee hb
    have h4 := (pl.after j hjm _ ho e hee hb).2
    rw [hon] at h3 h4
    have hlt : i < listed.size := by rw [inv.size]; have := pl.lt; omega
    refine ⟨?_, h4⟩
    simp [hlt] at h3 ⊢
    exact h3
  refine ⟨execOp_congr oj (Region.noSelect_spec pl.sel j oj · · ho) fun x hx => eval_same fun d hd => slot d ?_, ?_⟩
  · subst hd
    exact List.mem_append_left _ (List.mem_filterMap.2 ⟨.tmp d, by simpa using hx, rfl⟩)
  · unfold Region.wanted
    cases hg : oj.guard with
    | none => rfl
    | some gw =>
      obtain ⟨g, want⟩ := gw
      simp only
      rw [yielded_same (fun d hd => slot d ?_) inv.len]
      refine List.mem_append_right _ ?_
      simp only [hg]
      have : (ops[g]?).bind (·.dst) = some d := hd
      rw [this]
      simp


/-- Whatever order is picked, the head is done, and the tail begins in a frame that is known. -/
theorem plan_core {W : World} {n m : Nat} {A : Act} {F : World → Value → Prop} {Q : Exit → Act → World → Prop} (pl : Plan ops n m) (hF : ∀ w w' v, F w v → Below w.heap.size w w' → F w' v)
    (hh : HeadOK P ops W n A) (hn : n < m → ∀ o d, ops[n]? = some o → o.dst = some d → d < A.tmps.size ∧ Region.wanted o (yielded ops A.tmps) = true ∧ ∀ w, Below W.heap.size W w → Makes P o A w F)
    (hT : ∀ listed a w, Inv ops W n m A F listed a w → unl listed m = 0 → wpAny P .any ops Q (ops.size - m) listed a w) :
    ∀ (f : Nat) (listed : Array Bool) (a : Act) (w : World), Inv ops W n m A F listed a w → unl listed m = f → wpAny P .any ops Q (f + (ops.size - m)) listed a w
  | 0, listed, a, w, inv, hu => by rw [Nat.zero_add]; exact hT listed a w inv hu
  | f + 1, listed, a, w, inv, hu => by
    rw [show f + 1 + (ops.size - m) = (f + (ops.size - m)) + 1 by omega]
    refine ⟨fun h0 => ?_, fun j hj => ?_⟩
    · obtain ⟨i, hi, hun, hk⟩ := unl_least (listed := listed) m (by omega)
      obtain ⟨o, d, ho, hd, _⟩ := pl.dst i hi
      have : i ∈ Region.ready .any ops listed := mem_ready.2 ⟨hun, o, ho, fun e he hb => by
        have h1 := (pl.after i hi o ho e he hb).1
        have h2 := hk _ h1
        have hlt : e.on < listed.size := by rw [inv.size]; have := pl.lt; omega
        simp [hlt] at h2 ⊢
        exact h2⟩
      rw [h0] at this
      cases this
    · have hjm : j < m := by
        rcases Nat.lt_or_ge j m with h | h
        · exact h
        · have := tail_not pl inv.size inv.closed inv.tail h hj
          omega
      obtain ⟨o, d, ho, hd, _⟩ := pl.dst j hjm
      obtain ⟨hex, hwt⟩ := inv.same pl hj hjm ho
      have hjs : j < listed.size := by rw [inv.size]; exact (Array.getElem?_eq_some_iff.1 ho).1
      have hcnt : unl (listed.setIfInBounds j true) m = f := by
        have := unl_set hjs (mem_ready.1 hj).1 m hjm
        omega
      unfold wpOp
      simp only [ho]
      by_cases hjn : j < n
      · obtain ⟨hdl, hg⟩ := hh.ok j hjn o d ho hd
        rw [hwt]
        rcases hg with ⟨hw, hg⟩ | ⟨hw, hg⟩
        · simp only [hw, if_true]
          refine .inl (Gives.wp (v := A.tmps.getD d undef) ?_ fun w'' hb => ?_)
          · have := hg w inv.below
            unfold Gives Oper.quietAt at *
            rw [hex]
            exact this
          · exact plan_core pl hF hh hn hT f _ _ _ (inv.step pl hF hj hjm ho hd hdl hb (fun _ => rfl) (fun h => by omega)) hcnt
        · simp only [hw, Bool.false_eq_true, if_false]
          exact plan_core pl hF hh hn hT f _ _ _ (inv.step pl hF hj hjm ho hd hdl (Below.refl _ _) (fun _ => hg.symm) (fun h => by omega)) hcnt
      · have hjn' : j = n := by have := pl.mn; omega
        subst hjn'
        obtain ⟨hdl, hw, hm⟩ := hn hjm o d ho hd
        rw [hwt]
        simp only [hw, if_true]
        refine .inl (Makes.wp (F := F) ?_ fun v w'' hb hf => ?_)
        · have := hm w inv.below
          unfold Makes at *
          rw [hex]
          exact this
        · exact plan_core pl hF hh hn hT f _ _ _ (inv.step pl hF hj hjm ho hd hdl hb (fun h => by omega) (fun _ => hf)) hcnt

theorem unl_replicate {k : Nat} : ∀ m, m ≤ k → unl (Array.replicate k false) m = m
  | 0, _ => rfl
  | m + 1, h => by
    simp only [unl]
    rw [unl_replicate m (by omega)]
    have : m < k := by omega
    simp [this]

theorem listed_at_end {listed : Array Bool} {m k : Nat} (hs : listed.size = k) (hz : ∀ i, i < m → listed.getD i true = true) (ht : ∀ t, m ≤ t → t < k → listed.getD t true = false) :
    listed = ((List.range k).map (fun i => decide (i < m))).toArray := by
  apply Array.ext
  · simp [hs]
  · intro i h1 h2
    simp only [List.getElem_toArray, List.getElem_map, List.getElem_range]
    by_cases him : i < m
    · have := hz i him
      simp [h1] at this
      simp [this, him]
    · have := ht i (by omega) (by omega)
      simp [h1] at this
      simp [this, him]

theorem act_eq {a A : Act} (hd : a.defers = A.defers) (hl : a.tmps.size = A.tmps.size) (h : ∀ s, a.tmps.getD s undef = A.tmps.getD s undef) : a = A := by
  cases a with | mk t1 d1 => cases A with | mk t2 d2 =>
  simp only at *
  subst hd
  congr 1
  apply Array.ext hl
  intro i h1 h2
  have := h i
  simpa [h1, h2] using this


theorem quiet_agree {C : World → Prop} {A : Act} : ∀ (l : List Oper) (a : Act), wpQuiet P ops C (fun a' => a' = A) l a →
    a.defers = A.defers ∧ a.tmps.size = A.tmps.size ∧ ∀ s, (∀ o ∈ l, o.dst ≠ some s) → A.tmps.getD s undef = a.tmps.getD s undef
  | [], a, h => by
    have h' : a = A := h
    subst h'
    exact ⟨rfl, rfl, fun _ _ => rfl⟩
  | o :: l, a, h => by
    have key : ∀ v, wpQuiet P ops C (fun a' => a' = A) l (a.put o.dst v) → a.defers = A.defers ∧ a.tmps.size = A.tmps.size ∧ ∀ s, (∀ o' ∈ o :: l, o'.dst ≠ some s) → A.tmps.getD s undef = a.tmps.getD s undef := fun v hv => by
      obtain ⟨h1, h2, h3⟩ := quiet_agree l _ hv
      rw [put_defers] at h1
      rw [put_size] at h2
      refine ⟨h1, h2, fun s hs => ?_⟩
      rw [h3 s fun o' ho' => hs o' (List.mem_cons_of_mem _ ho')]
      cases hd : o.dst with
      | none => rfl
      | some d => exact put_getD_ne fun e => hs o (List.mem_cons_self ..) (by rw [hd, e])
    unfold wpQuiet at h
    by_cases hw : Region.wanted o (yielded ops a.tmps) = true
    · rw [if_pos hw] at h
      obtain ⟨v, _, hv⟩ := h
      exact key v hv
    · rw [if_neg hw] at h
      exact key _ h

theorem head_of_quiet {W : World} {n m : Nat} {A : Act} (pl : Plan ops n m) : ∀ (l : List Oper) (k : Nat) (a : Act), (∀ j, j < l.length → l[j]? = ops[k + j]?) → k + l.length = n →
    (∀ i, i < m → ∀ d, dstAt ops i = some d → d < a.tmps.size) →
    (∀ W1, Below W.heap.size W W1 → wpQuiet P ops (fun w' => ∃ x : Ext W1, w' = x.val) (fun a' => a' = A) l a) →
    ∀ i, k ≤ i → i < n → ∀ o d, ops[i]? = some o → o.dst = some d → d < A.tmps.size ∧
      ((Region.wanted o (yielded ops A.tmps) = true ∧ ∀ w, Below W.heap.size W w → Gives P o A w (A.tmps.getD d undef)) ∨ (Region.wanted o (yielded ops A.tmps) = false ∧ A.tmps.getD d undef = undef))
  | [], k, a, _, hk, _, _, i, hki, hin, o, d, _, _ => by simp at hk; omega
  | o :: l, k, a, hl, hk, hsz, h, i, hki, hin, o', d', ho', hd' => by
    have h0 : ops[k]? = some o := by simpa using (hl 0 (by simp)).symm
    simp only [List.length_cons] at hk
    have hkm : k < m := by have := pl.nm; omega
    obtain ⟨oo, d, hoo, hd, huniq⟩ := pl.dst k hkm
    obtain rfl : oo = o := Option.some.inj (hoo.symm.trans h0)
    have hdk : dstAt ops k = some d := by simp [dstAt, h0, hd]
    have later : ∀ o1 ∈ l, o1.dst ≠ some d := fun o1 ho1 he => by
      obtain ⟨j, hj, hje⟩ := List.mem_iff_getElem.1 ho1
      have h2 := hl (j + 1) (by simp; omega)
      have h3 : ops[k + (j + 1)]? = some o1 := by rw [← h2]; simp [hj, hje]
      exact huniq (k + (j + 1)) (by have := pl.nm; omega) (by omega) (by simp [dstAt, h3, he])
    have hdl : d < a.tmps.size := hsz k hkm d hdk
    obtain ⟨hag1, hag2, hag3⟩ := quiet_agree _ _ (h W (Below.refl _ _))
    -- the value that this operation leaves
    have val : ∀ v, ∀ W1, wpQuiet P ops (fun w' => ∃ x : Ext W1, w' = x.val) (fun a' => a' = A) l (a.put (some d) v) → v = A.tmps.getD d undef := fun v W1 hv => by
      obtain ⟨_, _, h3⟩ := quiet_agree _ _ hv
      rw [h3 d later, put_getD_same hdl]
    -- what it looks at is at its place in A
    have slot : ∀ s, s ∈ oo.looksAt ops → a.tmps.getD s undef = A.tmps.getD s undef := fun s hs => by
      refine (hag3 s fun o1 ho1 he => ?_).symm
      rcases List.mem_cons.1 ho1 with h1 | h1
      · subst h1
        have := (pl.looks k hkm _ h0 k hkm s (by simp [dstAt, h0, he]) hs).1
        omega
      · obtain ⟨j, hj, hje⟩ := List.mem_iff_getElem.1 h1
        have h2 := hl (j + 1) (by simp; omega)
        have h3 : ops[k + (j + 1)]? = some o1 := by rw [← h2]; simp [hj, hje]
        have := (pl.looks k hkm _ h0 (k + (j + 1)) (by have := pl.nm; omega) s (by simp [dstAt, h3, he]) hs).1
        omega
    have hex : execOp A.eval oo = execOp a.eval oo := execOp_congr oo (Region.noSelect_spec pl.sel k oo · · h0) fun x hx => (eval_same fun t ht => by
      subst ht
      exact slot t (List.mem_append_left _ (List.mem_filterMap.2 ⟨.tmp t, by simpa using hx, rfl⟩))).symm
    have hwt : Region.wanted oo (yielded ops A.tmps) = Region.wanted oo (yielded ops a.tmps) := by
      unfold Region.wanted
      cases hg : oo.guard with
      | none => rfl
      | some gw =>
        obtain ⟨g, want⟩ := gw
        simp only
        rw [yielded_same (fun t ht => (slot t ?_).symm) hag2.symm]
        refine List.mem_append_right _ ?_
        simp only [hg]
        have : (ops[g]?).bind (·.dst) = some t := ht
        rw [this]
        simp
    have next : (∀ W1, Below W.heap.size W W1 → wpQuiet P ops (fun w' => ∃ x : Ext W1, w' = x.val) (fun a' => a' = A) l (a.put (some d) (A.tmps.getD d undef))) := fun W1 hW1 => by
      have h1 := h W1 hW1
      unfold wpQuiet at h1
      by_cases hw : Region.wanted oo (yielded ops a.tmps) = true
      · rw [if_pos hw] at h1
        obtain ⟨v, _, hv⟩ := h1
        rw [hd] at hv
        have := val v W1 hv
        subst this
        exact hv
      · rw [if_neg hw, hd] at h1
        have := val undef W1 h1
        rw [← this]
        exact h1
    by_cases hik : i = k
    · subst hik
      obtain rfl : o' = oo := Option.some.inj (ho'.symm.trans h0)
      obtain rfl : d' = d := Option.some.inj (hd'.symm.trans hd)
      refine ⟨by rw [← hag2]; exact hdl, ?_⟩
      rw [hwt]
      by_cases hw : Region.wanted o' (yielded ops a.tmps) = true
      · refine .inl ⟨hw, fun w hbw => ?_⟩
        have h1 := h w hbw
        unfold wpQuiet at h1
        rw [if_pos hw] at h1
        obtain ⟨v, hv1, hv⟩ := h1
        rw [hd] at hv
        have := val v w hv
        subst this
        have h2 := hv1 w ⟨⟨w, Below.refl _ _⟩, rfl⟩
        unfold Gives Oper.quietAt at *
        rw [hex]
        generalize (execOp a.eval o').run P w = r at *
        cases r with
        | halt x w' => exact h2
        | ok nx w' =>
          cases nx <;> simp only [Oper.quietUpon] at h2 ⊢
          · exact h2
          · exact h2
          · obtain ⟨e1, hc⟩ := h2
            exact ⟨e1, hc.mono fun e w'' ⟨he, x, hx⟩ => ⟨he, hx ▸ x.below⟩⟩
      · have hw' : Region.wanted o' (yielded ops a.tmps) = false := by simpa using hw
        refine .inr ⟨hw', ?_⟩
        have h1 := h W (Below.refl _ _)
        unfold wpQuiet at h1
        rw [if_neg hw, hd] at h1
        exact (val undef W h1).symm
    · exact head_of_quiet pl l (k + 1) _ (fun j hj => by have := hl (j + 1) (by simp; omega); simpa [Nat.add_assoc, Nat.add_comm 1 j] using this) (by omega)
        (fun i hi d1 hd1 => by rw [put_size]; exact hsz i hi d1 hd1) next i (by omega) hin o' d' ho' hd'


theorem seq_tail {m : Nat} {Q : Exit → Act → World → Prop} {listed : Array Bool} {a : Act} {w : World} {l : List Oper} (pl : Plan l.toArray m m ∨ ∃ n, Plan l.toArray n m) (hs : listed.size = l.toArray.size) (hz : ∀ i, i < m → listed.getD i true = true) (ht : ∀ t, m ≤ t → t < l.toArray.size → listed.getD t true = false)
    (h : wpList P l.toArray Q (l.drop m) a w) : wpAny P .any l.toArray Q (l.toArray.size - m) listed a w := by
  have hq : Region.seqB .any l.toArray (l.toArray.size - m) m ((List.range l.toArray.size).map (fun i => decide (i < m))).toArray = true := by
    rcases pl with pl | ⟨n, pl⟩
    · exact pl.seq
    · exact pl.seq
  have hle : (l.drop m).length = l.toArray.size - m := by simp
  rw [listed_at_end hs hz ht]
  have := wpAny_of_seq (md := .any) (Q' := Q) (l.drop m) m ((List.range l.toArray.size).map (fun i => decide (i < m))).toArray a w (fun j => by simp [List.getElem?_drop]) (by rw [hle]; exact hq) h
  rwa [hle] at this

/-- The slots that the head writes are slots of the frame. -/
def roomB (ops : Array Oper) (m k : Nat) : Bool := (List.range m).all fun i => match dstAt ops i with | some d => decide (d < k) | none => true
theorem room_of {m k : Nat} (h : roomB ops m k = true) : ∀ i, i < m → ∀ d, dstAt ops i = some d → d < k := fun i hi d hd => by
  have := List.all_eq_true.1 h i (List.mem_range.2 hi)
  simpa [hd] using this

theorem inv_start {W : World} {n m : Nat} {A : Act} {F : World → Value → Prop} {a : Act} (pl : Plan ops n m) (hag : a.defers = A.defers ∧ a.tmps.size = A.tmps.size ∧ ∀ s, (∀ o ∈ ops.toList.take n, o.dst ≠ some s) → A.tmps.getD s undef = a.tmps.getD s undef) (hw : Below W.heap.size W { W with drawn := W.drawn + 1 }) :
    Inv ops W n m A F (Array.replicate ops.size false) a { W with drawn := W.drawn + 1 } := by
  refine ⟨by simp, fun j oj _ _ hl => (by rw [getD_replicate_false] at hl; cases hl), fun t _ ht => by simp [ht], hag.1, hag.2.1, fun s hs => ?_, hw, fun hnm hl => ?_⟩
  · refine (hag.2.2 s fun o ho he => ?_).symm
    obtain ⟨j, hj, hje⟩ := List.mem_iff_getElem.1 ho
    have hjn : j < n := by simp at hj; omega
    have hjs : j < ops.size := by simp at hj; omega
    have h3 : ops[j]? = some o := by
      rw [← hje]
      simp [hjs]
    have := (hs j (by have := pl.nm; omega) (by simp [dstAt, h3, he])).1
    simp [hjs] at this
  · have := pl.lt
    have hns : n < ops.size := by omega
    simp [hns] at hl

/-- **A HEAD THAT READS AND CALLS, A TAIL OF FIXED ORDER.** -/
theorem wp_region_plan {id : Nat} {Q : Exit → Act → World → Prop} {a : Act} {w : World} {l : List Oper} (n : Nat) {A : Act} (hm : P.follows .mixedOrders = true) (hB : planB l.toArray n n = true) (hr : roomB l.toArray n a.tmps.size = true)
    (h : ∀ W1, Below w.heap.size w W1 → wpQuiet P l.toArray (fun w' => ∃ x : Ext W1, w' = x.val) (fun a' => a' = A) (l.take n) a)
    (ht : ∀ w1, Below w.heap.size w w1 → wpList P l.toArray Q (l.drop n) A w1) : (Code.region id l.toArray true).wp P Q a w := by
  have pl := plan_of hB
  have hb0 : Below w.heap.size w { w with drawn := w.drawn + 1 } := ⟨rfl, rfl, rfl, Nat.le_refl _, fun _ _ => rfl⟩
  have hln : n ≤ l.length := by have := pl.lt; simp at this; omega
  have hag := quiet_agree _ _ (h w (Below.refl _ _))
  have hh : HeadOK P l.toArray w n A := ⟨fun i hi o d ho hd => head_of_quiet pl (l.take n) 0 a (fun j hj => by simp at hj; simp [hj]) (by simp; omega) (room_of hr) h i (Nat.zero_le _) hi o d ho hd⟩
  refine wp_region_any hm ?_
  have := plan_core (Q := Q) (F := fun _ _ => True) pl (fun _ _ _ _ _ => trivial) hh (fun hlt => by omega) (fun listed a' w' inv hu => by
    have hz := unl_zero n hu
    have hA : a' = A := act_eq inv.defers inv.len fun s => inv.agree s fun i hi _ => ⟨hz i hi, hi⟩
    subst hA
    exact seq_tail (.inl pl) inv.size hz inv.tail (ht _ inv.below)) n _ a _ (inv_start pl (by simpa using hag) hb0) (unl_replicate n (by simp; omega))
  rwa [show n + (l.toArray.size - n) = l.toArray.size by simp; omega] at this

/-- **THE SAME WITH ONE OPERATION THAT MAKES SOMETHING NEW**, whenever it comes up: of what it leaves F is known. -/
theorem wp_region_make {id : Nat} {Q : Exit → Act → World → Prop} {a : Act} {w : World} {l : List Oper} (n : Nat) {A : Act} {o : Oper} {d : Tmp} (F : World → Value → Prop) (hm : P.follows .mixedOrders = true) (hB : planB l.toArray n (n + 1) = true) (hr : roomB l.toArray (n + 1) a.tmps.size = true)
    (ho : l[n]? = some o) (hd : o.dst = some d) (hg : o.guard = none) (hF : ∀ w w' v, F w v → Below w.heap.size w w' → F w' v) (hmk : ∀ w1, Below w.heap.size w w1 → Makes P o A w1 F)
    (h : ∀ W1, Below w.heap.size w W1 → wpQuiet P l.toArray (fun w' => ∃ x : Ext W1, w' = x.val) (fun a' => a' = A) (l.take n) a)
    (ht : ∀ v w1, Below w.heap.size w w1 → F w1 v → wpList P l.toArray Q (l.drop (n + 1)) (A.put (some d) v) w1) : (Code.region id l.toArray true).wp P Q a w := by
  have pl := plan_of hB
  have hb0 : Below w.heap.size w { w with drawn := w.drawn + 1 } := ⟨rfl, rfl, rfl, Nat.le_refl _, fun _ _ => rfl⟩
  have hln : n + 1 ≤ l.length := by have := pl.lt; simp at this; omega
  have hag := quiet_agree _ _ (h w (Below.refl _ _))
  have hh : HeadOK P l.toArray w n A := ⟨fun i hi o d ho hd => head_of_quiet pl (l.take n) 0 a (fun j hj => by simp at hj; simp [hj]) (by simp; omega) (room_of hr) h i (Nat.zero_le _) hi o d ho hd⟩
  have hno : (l.toArray)[n]? = some o := by simpa using ho
  have hdn : dstAt l.toArray n = some d := by unfold dstAt; rw [hno]; exact hd
  refine wp_region_any hm ?_
  have := plan_core (Q := Q) (F := F) pl hF hh (fun _ o' d' ho' hd' => by
    obtain rfl : o' = o := Option.some.inj (ho'.symm.trans hno)
    obtain rfl : d' = d := Option.some.inj (hd'.symm.trans hd)
    exact ⟨by rw [← hag.2.1]; exact room_of hr n (by omega) d' hdn, by simp [Region.wanted, hg], hmk⟩) (fun listed a' w' inv hu => by
    have hz := unl_zero (n + 1) hu
    have hdl : d < A.tmps.size := by rw [← hag.2.1]; exact room_of hr n (by omega) d hdn
    have hf := inv.fresh (by omega) (hz n (by omega)) d hdn
    have hA : a' = A.put (some d) (a'.tmps.getD d undef) := act_eq (by rw [put_defers]; exact inv.defers) (by rw [put_size]; exact inv.len) fun s => by
      by_cases hsd : s = d
      · subst hsd
        rw [put_getD_same hdl]
      · rw [put_getD_ne hsd]
        refine inv.agree s fun i hi he => ⟨hz i hi, ?_⟩
        rcases Nat.lt_or_ge i n with h1 | h1
        · exact h1
        · have : i = n := by omega
          subst this
          rw [hdn] at he
          exact absurd (Option.some.inj he).symm hsd
    rw [hA]
    exact seq_tail (.inr ⟨n, pl⟩) inv.size hz inv.tail (ht _ _ inv.below hf)) (n + 1) _ a _ (inv_start pl (by simpa using hag) hb0) (unl_replicate (n + 1) (by simp; omega))
  rwa [show n + 1 + (l.toArray.size - (n + 1)) = l.toArray.size by simp; omega] at this


/-- The same two, the frame at the head's end to be found by the walk ('apply Exists.intro'). -/
theorem wp_region_plan_ex {id : Nat} {Q : Exit → Act → World → Prop} {a : Act} {w : World} {l : List Oper} (n : Nat) (hm : P.follows .mixedOrders = true) (hB : planB l.toArray n n = true) (hr : roomB l.toArray n a.tmps.size = true)
    (h : ∃ A, (∀ W1, Below w.heap.size w W1 → wpQuiet P l.toArray (fun w' => ∃ x : Ext W1, w' = x.val) (fun a' => a' = A) (l.take n) a) ∧ ∀ w1, Below w.heap.size w w1 → wpList P l.toArray Q (l.drop n) A w1) : (Code.region id l.toArray true).wp P Q a w :=
  let ⟨_, h1, h2⟩ := h
  wp_region_plan n hm hB hr h1 h2
theorem wp_region_make_ex {id : Nat} {Q : Exit → Act → World → Prop} {a : Act} {w : World} {l : List Oper} (n : Nat) {o : Oper} {d : Tmp} (F : World → Value → Prop) (hm : P.follows .mixedOrders = true) (hB : planB l.toArray n (n + 1) = true) (hr : roomB l.toArray (n + 1) a.tmps.size = true)
    (ho : l[n]? = some o) (hd : o.dst = some d) (hg : o.guard = none) (hF : ∀ w w' v, F w v → Below w.heap.size w w' → F w' v)
    (h : ∃ A, (∀ W1, Below w.heap.size w W1 → wpQuiet P l.toArray (fun w' => ∃ x : Ext W1, w' = x.val) (fun a' => a' = A) (l.take n) a) ∧ (∀ w1, Below w.heap.size w w1 → Makes P o A w1 F) ∧
      ∀ v w1, Below w.heap.size w w1 → F w1 v → wpList P l.toArray Q (l.drop (n + 1)) (A.put (some d) v) w1) : (Code.region id l.toArray true).wp P Q a w :=
  let ⟨_, h1, h2, h3⟩ := h
  wp_region_make n F hm hB hr ho hd hg hF h2 h1 h3

end
end Go.Proofs.Ytljpcnhkheoiiaa
