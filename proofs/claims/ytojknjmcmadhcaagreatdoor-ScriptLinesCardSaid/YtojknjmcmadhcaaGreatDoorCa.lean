/- The base: worlds that extend one another; regions that draw their order; rows of cells. Nothing here names the program. -/
import Derived.WalkKit
import Derived.ProofKit
import Derived.OpenShut
import Derived.Outline
import Derived.Below
import Derived.BigQuiet
import Derived.Deep.QuietTactic
import Derived.Lib.Hide
import Derived.StillTail
import Derived.Deep.MidRow

section
namespace Go.Proofs.R50
open Go.RowKit

/-- A world in which nothing of W has turned. -/
structure Ext (W : World) where
 val : World
 below : Below W.heap.size W val
instance (W : World) : Nonempty (Ext W) := ⟨⟨W, Below.refl _ _⟩⟩

theorem wp_region_ext {P : Program} {id : Nat} {Q : Exit → Act → World → Prop} {a : Act} {w : World} {l : List Oper} (hm : P.follows .mixedOrders = true) (hB : Region.lexB .any l.toArray = true)
  (h : wpQuiet P l.toArray (fun w' => ∃ x : Ext w, w' = x.val) (fun a' => ∀ x : Ext w, Q .normal a' x.val) l a) : (Code.region id l.toArray true).wp P Q a w := by
 refine wp_region_quiet (C := fun w' => ∃ x : Ext w, w' = x.val) hm hB ⟨⟨{ w with drawn := w.drawn + 1 }, rfl, rfl, rfl, Nat.le_refl _, fun _ _ => rfl⟩, rfl⟩ ?_
 have e : (fun a' => ∀ w', (∃ x : Ext w, w' = x.val) → Q .normal a' w') = (fun a' => ∀ x : Ext w, Q .normal a' x.val) := by
  funext a'
  exact propext ⟨fun h x => h _ ⟨x, rfl⟩, fun h w' ⟨x, hx⟩ => hx ▸ h x⟩
 rw [e]
 exact h

theorem ext_of {P : Program} {f : FuncId} {args : Array Value} {W : World} {x : Ext W} {v : Value}
  (h : Calls P f args x.val fun e w' => e = .returned v ∧ Below x.val.heap.size x.val w') : Calls P f args x.val fun e w'' => e = .returned v ∧ ∃ y : Ext W, w'' = y.val :=
 h.mono fun _ w' ⟨he, hb⟩ => ⟨he, ⟨⟨w', x.below.trans (hb.mono x.below.size)⟩, rfl⟩⟩

theorem Ext.cell {W : World} (x : Ext W) (b o : Nat) (h : b < W.heap.size) : x.val.cell? ⟨b, o, none⟩ = W.cell? ⟨b, o, none⟩ := x.below.cell (p := ⟨b, o, none⟩) h
theorem Ext.frozen {W : World} (x : Ext W) (b o : Nat) (h : b < W.heap.size) : x.val.frozen? ⟨b, o, none⟩ = W.frozen? ⟨b, o, none⟩ := x.below.frozen (p := ⟨b, o, none⟩) h

section
variable {P : Program} {ops : Array Oper}

/-- How many of the first m operations are not yet listed. -/
def unl (listed : Array Bool) : Nat → Nat
 | 0 => 0
 | m + 1 => unl listed m + (if listed.getD m true then 0 else 1)

theorem unl_set_ge {listed : Array Bool} {i : Nat} : ∀ m, m ≤ i → unl (listed.setIfInBounds i true) m = unl listed m
 | 0, _ => rfl
 | m + 1, h => by
  simp only [unl]
  rw [unl_set_ge m (by omega), getD_set_ne true (by omega)]

theorem unl_set {listed : Array Bool} {i : Nat} (hs : i < listed.size) (hu : listed.getD i true = false) : ∀ m, i < m → unl (listed.setIfInBounds i true) m + 1 = unl listed m
 | 0, h => by omega
 | m + 1, h => by
  simp only [unl]
  by_cases hm : i = m
  ·subst hm
   rw [unl_set_ge i (Nat.le_refl _), hu]
   have : (listed.setIfInBounds i true).getD i true = true := by simp [hs]
   rw [this]
   simp
  ·rw [getD_set_ne true hm]
   have := unl_set hs hu m (by omega)
   omega

theorem unl_zero {listed : Array Bool} : ∀ m, unl listed m = 0 → ∀ i, i < m → listed.getD i true = true
 | 0, _, _, h => by omega
 | m + 1, h, i, hi => by
  simp only [unl] at h
  by_cases him : i = m
  ·subst him
   cases hl : listed.getD i true with
   | true => rfl
   | false => simp [hl] at h
  ·exact unl_zero m (by omega) i (by omega)

theorem unl_least {listed : Array Bool} : ∀ m, unl listed m ≠ 0 → ∃ i, i < m ∧ listed.getD i true = false ∧ ∀ k, k < i → listed.getD k true = true
 | 0, h => absurd rfl h
 | m + 1, h => by
  by_cases hz : unl listed m = 0
  ·refine ⟨m, by omega, ?_, unl_zero m hz⟩
   simp only [unl, hz] at h
   cases hl : listed.getD m true with
   | true => simp [hl] at h
   | false => rfl
  ·obtain ⟨i, hi, hu, hk⟩ := unl_least m hz
   exact ⟨i, by omega, hu, hk⟩

/-- The slots that the head writes. -/
def dstAt (ops : Array Oper) (i : Nat) : Option Tmp := (ops[i]?).bind (·.dst)

structure Plan (ops : Array Oper) (n m : Nat) : Prop where
 sel : Region.noSelect ops = true
 lt : m < ops.size
 nm : n ≤ m
 mn : m ≤ n + 1
 dst : ∀ i, i < m → ∃ o d, ops[i]? = some o ∧ o.dst = some d ∧ ∀ k, k < m → k ≠ i → dstAt ops k ≠ some d
 after : ∀ i, i < m → ∀ o, ops[i]? = some o → ∀ e ∈ o.after, Region.binds .any e = true → e.on < i ∧ e.on < n
 looks : ∀ i, i < m → ∀ o, ops[i]? = some o → ∀ k, k < m → ∀ d, dstAt ops k = some d → d ∈ o.looksAt ops → k < i ∧ Region.waitsFor .any ops i k = true
 sink : ∀ i, i < n → (∃ j, i < j ∧ j < n ∧ Region.waitsFor .any ops j i = true) ∨ Region.waitsFor .any ops m i = true
 sinkA : m ≠ n → Region.waitsFor .any ops m n = true
 chain : ∀ t, m < t → t < ops.size → Region.waitsFor .any ops t (t - 1) = true
 seq : Region.seqB .any ops (ops.size - m) m ((List.range ops.size).map (fun i => decide (i < m))).toArray = true

/-- An operation, carried out in the world w, leaves v and a world in which nothing of w has turned. -/
def Gives (P : Program) (o : Oper) (a : Act) (w : World) (v : Value) : Prop := o.quietAt P a (fun w'' => Below w.heap.size w w'') w v

theorem Gives.wp {o : Oper} {a : Act} {w : World} {v : Value} {K : Act → World → Prop} {Q : Exit → Act → World → Prop} (h : Gives P o a w v) (hk : ∀ w'', Below w.heap.size w w'' → K (a.put o.dst v) w'') : o.wp P a w K Q := by
 unfold Gives Oper.quietAt at h
 unfold Oper.wp
 generalize (execOp a.eval o).run P w = r at *
 cases r with
 | ok n w' =>
  cases n <;> simp only [Oper.quietUpon] at h <;> simp only [Oper.upon]
  case value u =>
   obtain ⟨e1, e2⟩ := h
   rw [e1, e2]
   exact hk _ (Below.refl _ _)
  case skip =>
   obtain ⟨e1, e2⟩ := h
   rw [e1, ← e2]
   exact hk _ (Below.refl _ _)
  case enter f args =>
   obtain ⟨e1, hc⟩ := h
   rw [e1]
   exact hc.mono fun e w'' ⟨he, hw''⟩ => by subst he; exact hk _ hw''
 | halt x w' => simp only [Oper.quietUpon] at h

/-- What the head leaves, said at the frame at its end: A. -/
structure HeadOK (P : Program) (ops : Array Oper) (W : World) (n : Nat) (A : Act) : Prop where
 ok : ∀ i, i < n → ∀ o d, ops[i]? = some o → o.dst = some d → d < A.tmps.size ∧
  ((Region.wanted o (yielded ops A.tmps) = true ∧ ∀ w, Below W.heap.size W w → Gives P o A w (A.tmps.getD d undef)) ∨ (Region.wanted o (yielded ops A.tmps) = false ∧ A.tmps.getD d undef = undef))


/-- An operation that makes something new: what it leaves meets F; nothing of w has turned. -/
def Makes (P : Program) (o : Oper) (a : Act) (w : World) (F : World → Value → Prop) : Prop :=
 match (execOp a.eval o).run P w with
 | .ok (.value v) w' => Below w.heap.size w w' ∧ F w' v
 | .ok (.enter f args) w' => w' = w ∧ Calls P f args w (fun e w'' => ∃ v, e = .returned v ∧ Below w.heap.size w w'' ∧ F w'' v)
 | _ => False

theorem Makes.wp {o : Oper} {a : Act} {w : World} {F : World → Value → Prop} {K : Act → World → Prop} {Q : Exit → Act → World → Prop} (h : Makes P o a w F) (hk : ∀ v w'', Below w.heap.size w w'' → F w'' v → K (a.put o.dst v) w'') : o.wp P a w K Q := by
 unfold Makes at h
 unfold Oper.wp
 generalize (execOp a.eval o).run P w = r at *
 cases r with
 | ok n w' =>
  cases n <;> simp only at h <;> simp only [Oper.upon]
  case value u => exact hk _ _ h.1 h.2
  case enter f args =>
   obtain ⟨e1, hc⟩ := h
   rw [e1]
   exact hc.mono fun e w'' ⟨v, he, hb, hf⟩ => by subst he; exact hk _ _ hb hf
 | halt x w' => simp only at h

structure Inv (ops : Array Oper) (W : World) (n m : Nat) (A : Act) (F : World → Value → Prop) (listed : Array Bool) (a : Act) (w : World) : Prop where
 size : listed.size = ops.size
 closed : ∀ j oj, j < m → ops[j]? = some oj → listed.getD j false = true → ∀ e ∈ oj.after, Region.binds .any e = true → listed.getD e.on false = true
 tail : ∀ t, m ≤ t → t < ops.size → listed.getD t true = false
 defers : a.defers = A.defers
 len : a.tmps.size = A.tmps.size
 agree : ∀ s, (∀ i, i < m → dstAt ops i = some s → listed.getD i true = true ∧ i < n) → a.tmps.getD s undef = A.tmps.getD s undef
 below : Below W.heap.size W w
 fresh : n < m → listed.getD n true = true → ∀ d, dstAt ops n = some d → F w (a.tmps.getD d undef)

theorem getD_true_of {listed : Array Bool} {i : Nat} (hi : i < listed.size) (h : listed.getD i true = true) : listed.getD i false = true := by
 simp [hi] at h ⊢; exact h

theorem yielded_same {a A : Act} {g : Nat} (h : ∀ d, dstAt ops g = some d → a.tmps.getD d undef = A.tmps.getD d undef) (hl : a.tmps.size = A.tmps.size) : yielded ops a.tmps g = yielded ops A.tmps g := by
 unfold yielded
 cases hd : (ops[g]?).bind (·.dst) with
 | none => rfl
 | some d =>
  have h' := h d hd
  simp only [Option.bind_some]
  by_cases hlt : d < a.tmps.size
  ·have hlt' : d < A.tmps.size := hl ▸ hlt
   simp [hlt, hlt'] at h' ⊢
   rw [h']
  ·have hlt' : ¬ d < A.tmps.size := hl ▸ hlt
   simp [Array.getElem?_eq_none (Nat.le_of_not_lt hlt), Array.getElem?_eq_none (Nat.le_of_not_lt hlt')]

theorem eval_same {a A : Act} {x : Operand} (h : ∀ d, x = .tmp d → a.tmps.getD d undef = A.tmps.getD d undef) : a.eval x = A.eval x := by
 cases x with
 | tmp t => exact h t rfl
 | const v => rfl
 | global g => rfl
 | func f => rfl


theorem put_getD_same {a : Act} {d : Tmp} {v : Value} (h : d < a.tmps.size) : (a.put (some d) v).tmps.getD d undef = v := by
 simp [Act.put, h]
theorem put_getD_ne {a : Act} {d s : Tmp} {v : Value} (h : s ≠ d) : (a.put (some d) v).tmps.getD s undef = a.tmps.getD s undef := by
 simp [Act.put, Array.getElem?_setIfInBounds_ne (Ne.symm h)]
theorem put_size {a : Act} {d : Option Tmp} {v : Value} : (a.put d v).tmps.size = a.tmps.size := by cases d <;> simp [Act.put]
theorem put_defers {a : Act} {d : Option Tmp} {v : Value} : (a.put d v).defers = a.defers := by cases d <;> rfl

/-- One operation ahead of the tail has been carried out. -/
theorem Inv.step {W : World} {n m : Nat} {A : Act} {F : World → Value → Prop} {listed : Array Bool} {a : Act} {w : World} (pl : Plan ops n m) (hF : ∀ w w' v, F w v → Below w.heap.size w w' → F w' v)
  (inv : Inv ops W n m A F listed a w) {j : Nat} {o : Oper} {d : Tmp} {v : Value} {w' : World} (hj : j ∈ Region.ready .any ops listed) (hjm : j < m) (ho : ops[j]? = some o) (hd : o.dst = some d) (hdl : d < A.tmps.size)
  (hb : Below w.heap.size w w') (hv : j < n → v = A.tmps.getD d undef) (hf : j = n → F w' v) : Inv ops W n m A F (listed.setIfInBounds j true) (a.put o.dst v) w' := by
 obtain ⟨hju, oj, hoj, hall⟩ := mem_ready.1 hj
 have hoe : oj = o := Option.some.inj (hoj.symm.trans ho)
 subst hoe
 have hjs : j < listed.size := by rw [inv.size]; exact (Array.getElem?_eq_some_iff.1 ho).1
 have hdj : dstAt ops j = some d := by simp [dstAt, ho, hd]
 have only : ∀ i, i < m → dstAt ops i = some d → i = j := fun i hi he => by
  obtain ⟨oo, dd, h1, h2, h3⟩ := pl.dst j hjm
  have : oo = oj := Option.some.inj (h1.symm.trans ho)
  subst this
  have : dd = d := Option.some.inj (h2.symm.trans hd)
  subst this
  rcases Decidable.em (i = j) with h | h
  ·exact h
  ·exact absurd he (h3 i hi h)
 rw [hd]
 refine ⟨by simp [inv.size], fun k ok hk hok hl e he hbe => ?_, fun t ht hts => ?_, by rw [put_defers]; exact inv.defers, by rw [put_size]; exact inv.len, fun s hs => ?_, inv.below.trans (hb.mono inv.below.size), fun hnm hl d' hd' => ?_⟩
 ·by_cases hkj : k = j
  ·subst hkj
   have : ok = oj := Option.some.inj (hok.symm.trans ho)
   subst this
   exact getD_set_true (hall e he hbe)
  ·rw [getD_set_ne false (Ne.symm hkj)] at hl
   exact getD_set_true (inv.closed k ok hk hok hl e he hbe)
 ·rw [getD_set_ne true (by omega)]
  exact inv.tail t ht hts
 ·by_cases hsd : s = d
  ·subst hsd
   have hj2 := hs j hjm hdj
   rw [put_getD_same (by rw [inv.len]; exact hdl)]
   exact hv hj2.2
  ·rw [put_getD_ne hsd]
   refine inv.agree s fun i hi he => ?_
   have h2 := hs i hi he
   have hij : i ≠ j := fun e => by
    subst e
    rw [hdj] at he
    exact hsd (Option.some.inj he).symm
   rw [getD_set_ne true (Ne.symm hij)] at h2
   exact h2
 ·by_cases hjn : j = n
  ·subst hjn
   rw [hdj] at hd'
   obtain rfl := Option.some.inj hd'
   rw [put_getD_same (by rw [inv.len]; exact hdl)]
   exact hf rfl
  ·rw [getD_set_ne true hjn] at hl
   have hne : d' ≠ d := fun e => by
    subst e
    exact hjn (only n hnm hd').symm
   rw [put_getD_ne hne]
   exact hF _ _ _ (inv.fresh hnm hl d' hd') hb

theorem Inv.same {W : World} {n m : Nat} {A : Act} {F : World → Value → Prop} {listed : Array Bool} {a : Act} {w : World} (pl : Plan ops n m)
  (inv : Inv ops W n m A F listed a w) {j : Nat} {o : Oper} (hj : j ∈ Region.ready .any ops listed) (hjm : j < m) (ho : ops[j]? = some o) :
  execOp a.eval o = execOp A.eval o ∧ Region.wanted o (yielded ops a.tmps) = Region.wanted o (yielded ops A.tmps) := by
 obtain ⟨hju, oj, hoj, hall⟩ := mem_ready.1 hj
 have hoe : oj = o := Option.some.inj (hoj.symm.trans ho)
 subst hoe
 have slot : ∀ s, s ∈ oj.looksAt ops → a.tmps.getD s undef = A.tmps.getD s undef := fun s hs => inv.agree s fun i hi he => by
  obtain ⟨h1, h2⟩ := pl.looks j hjm oj ho i hi s he hs
  obtain ⟨o', ho', e, hee, hb, hon⟩ := Region.waitsFor_spec h2
  have : o' = oj := Option.some.inj (ho'.symm.trans ho)
  subst this
  have h3 := hall e hee hb
  have h4 := (pl.after j hjm _ ho e hee hb).2
  rw [hon] at h3 h4
  have hlt : i < listed.size := by rw [inv.size]; have := pl.lt; omega
  refine ⟨?_, h4⟩
  simp [hlt] at h3 ⊢
  exact h3
 refine ⟨execOp_congr oj (Region.noSelect_spec pl.sel j oj · · ho) fun x hx => eval_same fun d hd => slot d ?_, ?_⟩
 ·subst hd
  exact List.mem_append_left _ (List.mem_filterMap.2 ⟨.tmp d, by simpa using hx, rfl⟩)
 ·unfold Region.wanted
  cases hg : oj.guard with
  | none => rfl
  | some gw =>
   obtain ⟨g, want⟩ := gw
   simp only
   rw [yielded_same (fun d hd => slot d ?_) inv.len]
   refine List.mem_append_right _ ?_
   simp only [hg]
   have : (ops[g]?).bind (·.dst) = some d := hd
   rw [this]
   simp


theorem unl_replicate {k : Nat} : ∀ m, m ≤ k → unl (Array.replicate k false) m = m
 | 0, _ => rfl
 | m + 1, h => by
  simp only [unl]
  rw [unl_replicate m (by omega)]
  have : m < k := by omega
  simp [this]

theorem act_eq {a A : Act} (hd : a.defers = A.defers) (hl : a.tmps.size = A.tmps.size) (h : ∀ s, a.tmps.getD s undef = A.tmps.getD s undef) : a = A := by
 cases a with | mk t1 d1 => cases A with | mk t2 d2 =>
 simp only at *
 subst hd
 congr 1
 apply Array.ext hl
 intro i h1 h2
 have := h i
 simpa [h1, h2] using this


theorem quiet_agree {C : World → Prop} {A : Act} : ∀ (l : List Oper) (a : Act), wpQuiet P ops C (fun a' => a' = A) l a →
  a.defers = A.defers ∧ a.tmps.size = A.tmps.size ∧ ∀ s, (∀ o ∈ l, o.dst ≠ some s) → A.tmps.getD s undef = a.tmps.getD s undef
 | [], a, h => by
  have h' : a = A := h
  subst h'
  exact ⟨rfl, rfl, fun _ _ => rfl⟩
 | o :: l, a, h => by
  have key : ∀ v, wpQuiet P ops C (fun a' => a' = A) l (a.put o.dst v) → a.defers = A.defers ∧ a.tmps.size = A.tmps.size ∧ ∀ s, (∀ o' ∈ o :: l, o'.dst ≠ some s) → A.tmps.getD s undef = a.tmps.getD s undef := fun v hv => by
   obtain ⟨h1, h2, h3⟩ := quiet_agree l _ hv
   rw [put_defers] at h1
   rw [put_size] at h2
   refine ⟨h1, h2, fun s hs => ?_⟩
   rw [h3 s fun o' ho' => hs o' (List.mem_cons_of_mem _ ho')]
   cases hd : o.dst with
   | none => rfl
   | some d => exact put_getD_ne fun e => hs o (List.mem_cons_self ..) (by rw [hd, e])
  unfold wpQuiet at h
  by_cases hw : Region.wanted o (yielded ops a.tmps) = true
  ·rw [if_pos hw] at h
   obtain ⟨v, _, hv⟩ := h
   exact key v hv
  ·rw [if_neg hw] at h
   exact key _ h

/-- The slots that the head writes are slots of the frame. -/
def roomB (ops : Array Oper) (m k : Nat) : Bool := (List.range m).all fun i => match dstAt ops i with | some d => decide (d < k) | none => true
theorem room_of {m k : Nat} (h : roomB ops m k = true) : ∀ i, i < m → ∀ d, dstAt ops i = some d → d < k := fun i hi d hd => by
 have := List.all_eq_true.1 h i (List.mem_range.2 hi)
 simpa [hd] using this

end
theorem grownBy_trans {a b c : World} {row : Option Nat} (h : a.grownBy b row) (k : b.grownBy c row) : a.grownBy c row :=
 ⟨k.os.trans h.os, k.tape.trans h.tape, k.output.trans h.output, Nat.le_trans h.size k.size, fun i hi hr => (k.block i (Nat.lt_of_lt_of_le hi h.size) hr).trans (h.block i hi hr)⟩
theorem grownBy_of_below {a b : World} {row : Option Nat} (h : Below a.heap.size a b) : a.grownBy b row := ⟨h.os, h.tape, h.output, h.size, fun i hi _ => h.block i hi⟩
section
variable {P : Program} {ops : Array Oper}

/-- Operation j waits for i: itself, or by way of one or two others. -/
def waits2 (ops : Array Oper) (j i : Nat) : Bool := Region.waitsFor .any ops j i || (List.range j).any fun k => decide (i < k) && Region.waitsFor .any ops j k && Region.waitsFor .any ops k i
def waits3 (ops : Array Oper) (j i : Nat) : Bool := waits2 ops j i || (List.range j).any fun k => decide (i < k) && Region.waitsFor .any ops j k && waits2 ops k i

/-- The shape: S: the special operations, in the order in which each waits for the one ahead of it. All others are quiet. -/
def netB (ops : Array Oper) (S : List Nat) : Bool :=
 Region.noSelect ops &&
 ((List.range ops.size).all fun i => (S.contains i || (dstAt ops i).isSome) && (List.range ops.size).all fun j => j == i || (dstAt ops i).isNone || dstAt ops j != dstAt ops i) &&
 ((List.range ops.size).all fun i => match ops[i]? with
  | none => false
  | some o => (o.after.all fun e => !Region.binds .any e || decide (e.on < i)) &&
   (match o.dst with | some d => !(o.looksAt ops).contains d | none => true) &&
   (List.range ops.size).all fun j => match dstAt ops j with
    | none => true
    | some d => j == i || !(o.looksAt ops).contains d ||
      (decide (j < i) && waits3 ops i j && (S.contains i || !S.contains j)) || (decide (i < j) && waits3 ops j i && (!S.contains i || S.contains j))) &&
 (S.all fun i => decide (i < ops.size)) &&
 ((List.range S.length).all fun j => j == 0 || (decide (S.getD (j - 1) 0 < S.getD j 0) && waits3 ops (S.getD j 0) (S.getD (j - 1) 0)))

structure Net (ops : Array Oper) (S : List Nat) : Prop where
 sel : Region.noSelect ops = true
 lt : ∀ j, j < S.length → S.getD j 0 < ops.size
 dst : ∀ i, i < ops.size → i ∉ S → ∃ d, dstAt ops i = some d
 uniq : ∀ i, i < ops.size → ∀ d, dstAt ops i = some d → ∀ j, j < ops.size → j ≠ i → dstAt ops j ≠ some d
 after : ∀ i o, ops[i]? = some o → ∀ e ∈ o.after, Region.binds .any e = true → e.on < i
 looks : ∀ i o, ops[i]? = some o → ∀ j, j < ops.size → ∀ d, dstAt ops j = some d → d ∈ o.looksAt ops →
  (j < i ∧ waits3 ops i j = true ∧ (i ∈ S ∨ j ∉ S)) ∨ (i < j ∧ waits3 ops j i = true ∧ (i ∉ S ∨ j ∈ S))
 inc : ∀ j, j < S.length → j ≠ 0 → S.getD (j - 1) 0 < S.getD j 0
 chain : ∀ j, j < S.length → j ≠ 0 → waits3 ops (S.getD j 0) (S.getD (j - 1) 0) = true

theorem net_of {S : List Nat} (h : netB ops S = true) : Net ops S := by
 simp only [netB, Bool.and_eq_true] at h
 obtain ⟨⟨⟨⟨h1, h3⟩, h4⟩, h5⟩, h6⟩ := h
 refine ⟨h1, fun j hj => ?_, fun i hi hq => ?_, fun i hi d hd j hj hji he => ?_, fun i o ho e he hb => ?_, fun i o ho j hj d hd hl => ?_, fun j hj hj0 => ?_, fun j hj hj0 => ?_⟩
 ·have hm : S.getD j 0 ∈ S := by simp [List.getD, hj]
  simpa using List.all_eq_true.1 h5 _ hm
 ·have := List.all_eq_true.1 h3 i (List.mem_range.2 hi)
  simp only [Bool.and_eq_true, Bool.or_eq_true, List.contains_iff_mem] at this
  rcases this.1 with h' | h'
  ·exact absurd h' hq
  ·exact Option.isSome_iff_exists.1 h'
 ·have := List.all_eq_true.1 h3 i (List.mem_range.2 hi)
  simp only [Bool.and_eq_true] at this
  have h' := List.all_eq_true.1 this.2 j (List.mem_range.2 hj)
  simp [hji, hd, he] at h'
 ·have hi : i < ops.size := (Array.getElem?_eq_some_iff.1 ho).1
  have := List.all_eq_true.1 h4 i (List.mem_range.2 hi)
  simp only [ho, Bool.and_eq_true] at this
  have h' := Array.all_eq_true_iff_forall_mem.1 this.1.1 e he
  simpa [hb] using h'
 ·have hi : i < ops.size := (Array.getElem?_eq_some_iff.1 ho).1
  have := List.all_eq_true.1 h4 i (List.mem_range.2 hi)
  simp only [ho, Bool.and_eq_true] at this
  have h' := List.all_eq_true.1 this.2 j (List.mem_range.2 hj)
  simp only [hd, Bool.or_eq_true, Bool.not_eq_true', Bool.and_eq_true, decide_eq_true_eq, beq_iff_eq, List.contains_iff_mem] at h'
  rcases h' with ((h' | h') | h') | h'
  ·subst h'
   have h5' := this.1.2
   have hdo : o.dst = some d := by simpa [dstAt, ho] using hd
   simp [hdo, hl] at h5'
  ·simp [hl] at h'
  ·refine .inl ⟨h'.1.1, h'.1.2, ?_⟩
   rcases h'.2 with h2 | h2
   ·exact .inl h2
   ·exact .inr (by simpa using h2)
  ·refine .inr ⟨h'.1.1, h'.1.2, ?_⟩
   rcases h'.2 with h2 | h2
   ·exact .inl (by simpa using h2)
   ·exact .inr h2
 ·have := List.all_eq_true.1 h6 j (List.mem_range.2 hj)
  simp only [hj0, Bool.or_eq_true, Bool.and_eq_true, decide_eq_true_eq, beq_iff_eq, false_or] at this
  exact this.1
 ·have := List.all_eq_true.1 h6 j (List.mem_range.2 hj)
  simp only [hj0, Bool.or_eq_true, Bool.and_eq_true, decide_eq_true_eq, beq_iff_eq, false_or] at this
  exact this.2

def Closed (ops : Array Oper) (listed : Array Bool) : Prop := ∀ j oj, ops[j]? = some oj → listed.getD j false = true → ∀ e ∈ oj.after, Region.binds .any e = true → listed.getD e.on false = true

theorem waits_listed {listed : Array Bool} (hc : Closed ops listed) {j i : Nat} (hj : listed.getD j false = true) (h : Region.waitsFor .any ops j i = true) : listed.getD i false = true := by
 obtain ⟨o', ho', e, he, hb, hon⟩ := Region.waitsFor_spec h
 have := hc j o' ho' hj e he hb
 rwa [hon] at this
theorem waits2_listed {listed : Array Bool} (hc : Closed ops listed) {j i : Nat} (hj : listed.getD j false = true) (h : waits2 ops j i = true) : listed.getD i false = true := by
 simp only [waits2, Bool.or_eq_true] at h
 rcases h with h | h
 ·exact waits_listed hc hj h
 ·obtain ⟨k, _, hk⟩ := List.any_eq_true.1 h
  simp only [Bool.and_eq_true] at hk
  exact waits_listed hc (waits_listed hc hj hk.1.2) hk.2
theorem waits3_listed {listed : Array Bool} (hc : Closed ops listed) {j i : Nat} (hj : listed.getD j false = true) (h : waits3 ops j i = true) : listed.getD i false = true := by
 simp only [waits3, Bool.or_eq_true] at h
 rcases h with h | h
 ·exact waits2_listed hc hj h
 ·obtain ⟨k, _, hk⟩ := List.any_eq_true.1 h
  simp only [Bool.and_eq_true] at hk
  exact waits2_listed hc (waits_listed hc hj hk.1.2) hk.2
/-- What comes up now: all that it waits for is listed. -/
theorem ready_waits {listed : Array Bool} (hc : Closed ops listed) {j i : Nat} (hr : j ∈ Region.ready .any ops listed) (h : waits3 ops j i = true) : listed.getD i false = true := by
 obtain ⟨_, oj, hoj, hall⟩ := mem_ready.1 hr
 have one : ∀ k, Region.waitsFor .any ops j k = true → listed.getD k false = true := fun k hk => by
  obtain ⟨o', ho', e, he, hb, hon⟩ := Region.waitsFor_spec hk
  obtain rfl : o' = oj := Option.some.inj (ho'.symm.trans hoj)
  have := hall e he hb
  rwa [hon] at this
 simp only [waits3, Bool.or_eq_true] at h
 rcases h with h | h
 ·simp only [waits2, Bool.or_eq_true] at h
  rcases h with h | h
  ·exact one _ h
  ·obtain ⟨k, _, hk⟩ := List.any_eq_true.1 h
   simp only [Bool.and_eq_true] at hk
   exact waits_listed hc (one _ hk.1.2) hk.2
 ·obtain ⟨k, _, hk⟩ := List.any_eq_true.1 h
  simp only [Bool.and_eq_true] at hk
  exact waits2_listed hc (one _ hk.1.2) hk.2



structure QuietAt (P : Program) (ops : Array Oper) (W : World) (row : Option Nat) (S : List Nat) (A a0 : Act) (i : Nat) (o : Oper) (d : Tmp) (ai : Act) : Prop where
 done : ∀ s, (∀ j, j < ops.size → j ∉ S → dstAt ops j = some s → j < i) → ai.tmps.getD s undef = A.tmps.getD s undef
 open_ : ∀ s j, j < ops.size → j ∉ S → dstAt ops j = some s → i ≤ j → ai.tmps.getD s undef = a0.tmps.getD s undef
 len : ai.tmps.size = A.tmps.size
 ok : (Region.wanted o (yielded ops ai.tmps) = true ∧ ∀ w, W.grownBy w row → Gives P o ai w (A.tmps.getD d undef)) ∨ (Region.wanted o (yielded ops ai.tmps) = false ∧ A.tmps.getD d undef = undef)

/-- What a special operation leaves: the value and the world meet G; of what was there at the region's start, only block 'row' may have turned. -/
def Leaves (P : Program) (o : Oper) (a : Act) (W w : World) (row : Option Nat) (G : Value → World → Prop) : Prop :=
 match (execOp a.eval o).run P w with
 | .ok (.value u) w' => W.grownBy w' row ∧ G u w'
 | .ok .skip w' => W.grownBy w' row ∧ G undef w'
 | .ok (.enter f args) w' => Calls P f args w' (fun e w'' => ∃ u, e = .returned u ∧ W.grownBy w'' row ∧ G u w'')
 | _ => False

theorem Leaves.wp {o : Oper} {a : Act} {W w : World} {row : Option Nat} {G : Value → World → Prop} {K : Act → World → Prop} {Q : Exit → Act → World → Prop} (h : Leaves P o a W w row G) (hk : ∀ u w'', W.grownBy w'' row → G u w'' → K (a.put o.dst u) w'') : o.wp P a w K Q := by
 unfold Leaves at h
 unfold Oper.wp
 generalize (execOp a.eval o).run P w = r at *
 cases r with
 | ok n w' =>
  cases n <;> simp only at h <;> simp only [Oper.upon]
  case value u => exact hk _ _ h.1 h.2
  case skip => exact hk _ _ h.1 h.2
  case enter f args => exact h.mono fun e w'' ⟨v, he, hb, hf⟩ => by subst he; exact hk _ _ hb hf
 | halt x w' => simp only at h

theorem true_of_false {listed : Array Bool} {i : Nat} (h : listed.getD i false = true) : listed.getD i true = true := by
 rcases Nat.lt_or_ge i listed.size with h' | h'
 ·simp [h'] at h ⊢; exact h
 ·simp [Array.getElem?_eq_none h']

theorem exec_same {a A : Act} {o : Oper} (hs : ∀ cs b, o.op ≠ .select cs b) (h : ∀ s, s ∈ o.looksAt ops → a.tmps.getD s undef = A.tmps.getD s undef) (hl : a.tmps.size = A.tmps.size) :
  execOp a.eval o = execOp A.eval o ∧ Region.wanted o (yielded ops a.tmps) = Region.wanted o (yielded ops A.tmps) := by
 refine ⟨execOp_congr o hs fun x hx => eval_same fun t ht => ?_, ?_⟩
 ·subst ht
  exact h t (List.mem_append_left _ (List.mem_filterMap.2 ⟨.tmp t, by simpa using hx, rfl⟩))
 ·unfold Region.wanted
  cases hg : o.guard with
  | none => rfl
  | some gw =>
   obtain ⟨g, want⟩ := gw
   simp only
   rw [yielded_same (fun t ht => h t ?_) hl]
   refine List.mem_append_right _ ?_
   simp only [hg]
   have : (ops[g]?).bind (·.dst) = some t := ht
   rw [this]
   simp


/-- The frame A with the special operations' values at their places. -/
def fillA (A : Act) : List (Option Tmp) → List Value → Act
 | d :: ds, v :: vs => fillA (A.put d v) ds vs
 | _, _ => A

theorem fillA_size : ∀ (ds : List (Option Tmp)) (vs : List Value) (A : Act), (fillA A ds vs).tmps.size = A.tmps.size
 | [], _, _ => rfl
 | _ :: _, [], _ => rfl
 | d :: ds, v :: vs, A => by rw [fillA, fillA_size ds vs, put_size]
theorem fillA_defers : ∀ (ds : List (Option Tmp)) (vs : List Value) (A : Act), (fillA A ds vs).defers = A.defers
 | [], _, _ => rfl
 | _ :: _, [], _ => rfl
 | d :: ds, v :: vs, A => by rw [fillA, fillA_defers ds vs, put_defers]
theorem fillA_other {s : Tmp} : ∀ (ds : List (Option Tmp)) (vs : List Value) (A : Act), (∀ j, j < vs.length → ds[j]? ≠ some (some s)) → (fillA A ds vs).tmps.getD s undef = A.tmps.getD s undef
 | [], _, _, _ => rfl
 | _ :: _, [], _, _ => rfl
 | d :: ds, v :: vs, A, h => by
  rw [fillA, fillA_other ds vs _ fun j hj => by have := h (j + 1) (by simp; omega); simpa using this]
  cases d with
  | none => rfl
  | some t => exact put_getD_ne fun e => h 0 (by simp) (by simp [e])
theorem fillA_at {s : Tmp} : ∀ (ds : List (Option Tmp)) (vs : List Value) (A : Act) (j : Nat) (v : Value), s < A.tmps.size → ds[j]? = some (some s) → (∀ i, i ≠ j → ds[i]? ≠ some (some s)) → vs[j]? = some v → (fillA A ds vs).tmps.getD s undef = v
 | [], _, _, j, _, _, h, _, _ => by simp at h
 | _ :: _, [], _, j, _, _, _, _, h => by simp at h
 | d :: ds, u :: vs, A, j, v, hs, hd, hu, hv => by
  rw [fillA]
  cases j with
  | zero =>
   simp at hd hv
   subst hd hv
   rw [fillA_other ds vs _ fun i _ => by have := hu (i + 1) (by omega); simpa using this]
   exact put_getD_same hs
  | succ j =>
   exact fillA_at ds vs _ j v (by rw [put_size]; exact hs) (by simpa using hd) (fun i hi => by have := hu (i + 1) (by omega); simpa using this) (by simpa using hv)

def dstsOfS (ops : Array Oper) (S : List Nat) : List (Option Tmp) := S.map (dstAt ops)

structure Inv3 (ops : Array Oper) (W : World) (row : Option Nat) (S : List Nat) (A a0 : Act) (F : Nat → World → List Value → Prop) (listed : Array Bool) (a : Act) (w : World) : Prop where
 size : listed.size = ops.size
 closed : Closed ops listed
 defers : a.defers = A.defers
 len : a.tmps.size = A.tmps.size
 new : ∀ s, (∀ i ∈ S, dstAt ops i ≠ some s) → (∀ i, i < ops.size → dstAt ops i = some s → listed.getD i true = true) → a.tmps.getD s undef = A.tmps.getD s undef
 old : ∀ s i, i < ops.size → dstAt ops i = some s → listed.getD i true = false → a.tmps.getD s undef = a0.tmps.getD s undef
 off : W.grownBy w row
 spec : ∃ ν : List Value, ν.length ≤ S.length ∧ (∀ j, j < S.length → listed.getD (S.getD j 0) true = decide (j < ν.length)) ∧ F ν.length w ν ∧ ∀ j v s, ν[j]? = some v → dstAt ops (S.getD j 0) = some s → a.tmps.getD s undef = v

/-- What is asked of the special operations: the j-th, once those ahead of it in the chain are done; ν: what they left. -/
structure SpecOK (P : Program) (ops : Array Oper) (W : World) (row : Option Nat) (S : List Nat) (A : Act) (F : Nat → World → List Value → Prop) : Prop where
 stable : ∀ p w w' ν, F p w ν → Below w.heap.size w w' → F p w' ν
 steps : ∀ j, j < S.length → ∃ o, ops[S.getD j 0]? = some o ∧ (o.guard = none ∨ ∀ w ν, ν.length = j → F j w ν → Region.wanted o (yielded ops (fillA A (dstsOfS ops S) ν).tmps) = true) ∧
  ∀ w ν, ν.length = j → W.grownBy w row → F j w ν → Leaves P o (fillA A (dstsOfS ops S) ν) W w row (fun u w' => F (j + 1) w' (ν ++ [u]))

theorem getS {S : List Nat} {j : Nat} (h : j < S.length) : S.getD j 0 ∈ S := by simp [List.getD, h]
theorem dstsOfS_at {S : List Nat} {j : Nat} (h : j < S.length) : (dstsOfS ops S)[j]? = some (dstAt ops (S.getD j 0)) := by simp [dstsOfS, List.getD, h]

theorem S_inj {S : List Nat} (ms : Net ops S) : ∀ d i j, i < S.length → j < S.length → j = i + d + 1 → S.getD i 0 < S.getD j 0
 | 0, i, j, _, hj, he => by
  subst he
  exact ms.inc (i + 1) hj (by omega)
 | d + 1, i, j, hi, hj, he => Nat.lt_trans (S_inj ms d i (j - 1) hi (by omega) (by omega)) (ms.inc j hj (by omega))

theorem S_ne {S : List Nat} (ms : Net ops S) {i j : Nat} (hi : i < S.length) (hj : j < S.length) (h : i ≠ j) : S.getD i 0 ≠ S.getD j 0 := by
 rcases Nat.lt_or_ge i j with h' | h'
 ·have := S_inj ms (j - i - 1) i j hi hj (by omega); omega
 ·have := S_inj ms (i - j - 1) j i hj hi (by omega); omega

/-- What is at a slot of the frame that the special operations see. -/
theorem fillA_seen {S : List Nat} {A a a0 : Act} {W w : World} {row : Option Nat} {F : Nat → World → List Value → Prop} {listed : Array Bool} (ms : Net ops S) (hz : ∀ i, i < ops.size → ∀ s, dstAt ops i = some s → s < A.tmps.size)
  (hA0 : ∀ s, (∀ i, i < ops.size → i ∉ S → dstAt ops i ≠ some s) → A.tmps.getD s undef = a0.tmps.getD s undef)
  (inv : Inv3 ops W row S A a0 F listed a w) {ν : List Value} (hν : ν.length ≤ S.length) (hl : ∀ j, j < S.length → listed.getD (S.getD j 0) true = decide (j < ν.length)) (hv : ∀ j v s, ν[j]? = some v → dstAt ops (S.getD j 0) = some s → a.tmps.getD s undef = v)
  {s : Tmp} (hq : ∀ i, i < ops.size → i ∉ S → dstAt ops i = some s → listed.getD i true = true) : a.tmps.getD s undef = (fillA A (dstsOfS ops S) ν).tmps.getD s undef := by
 by_cases hex : ∃ j, j < S.length ∧ dstAt ops (S.getD j 0) = some s
 ·obtain ⟨j, hj, hd⟩ := hex
  have huq : ∀ i, i ≠ j → (dstsOfS ops S)[i]? ≠ some (some s) := fun i hij he => by
   have hi : i < S.length := by
    rcases Nat.lt_or_ge i S.length with h | h
    ·exact h
    ·rw [List.getElem?_eq_none (by simpa [dstsOfS] using h)] at he; cases he
   rw [dstsOfS_at hi] at he
   exact ms.uniq _ (ms.lt j hj) s hd _ (ms.lt i hi) (S_ne ms hi hj hij) (Option.some.inj he)
  by_cases hjν : j < ν.length
  ·have hvj : ν[j]? = some ν[j] := List.getElem?_eq_getElem hjν
   rw [fillA_at _ _ _ j ν[j] (hz _ (ms.lt j hj) s hd) (by rw [dstsOfS_at hj, hd]) huq hvj]
   exact hv j _ s hvj hd
  ·rw [fillA_other _ _ _ fun i hi he => by
    by_cases hij : i = j
    ·omega
    ·exact huq i hij he]
   have hun : listed.getD (S.getD j 0) true = false := by rw [hl j hj]; simp; omega
   rw [inv.old s _ (ms.lt j hj) hd hun]
   exact (hA0 s fun i hi hiS he => ms.uniq _ (ms.lt j hj) s hd i hi (fun e => hiS (by rw [e]; exact getS hj)) he).symm
 ·rw [fillA_other _ _ _ fun i hi he => by
   rw [dstsOfS_at (by omega)] at he
   exact hex ⟨i, by omega, Option.some.inj he⟩]
  exact inv.new s (fun i hi he => by
   obtain ⟨j, hj, hje⟩ := List.mem_iff_getElem.1 hi
   exact hex ⟨j, hj, by simp [List.getD, hj, hje, he]⟩) fun i hi he => by
    by_cases hiS : i ∈ S
    ·exfalso
     obtain ⟨j, hj, hje⟩ := List.mem_iff_getElem.1 hiS
     exact hex ⟨j, hj, by simp [List.getD, hj, hje, he]⟩
    ·exact hq i hi hiS he

theorem unl_all {k : Nat} : ∀ m, m ≤ k → unl (Array.replicate k false) m = m := fun m h => unl_replicate m h

/-- The quiet operations of a list, in its order. -/
def quietOps (S : List Nat) : Nat → List Oper → List Oper
 | _, [] => []
 | i, o :: l => if S.contains i then quietOps S (i + 1) l else o :: quietOps S (i + 1) l
def quietPairs (S : List Nat) : Nat → List Oper → List (Nat × Oper)
 | _, [] => []
 | i, o :: l => if S.contains i then quietPairs S (i + 1) l else (i, o) :: quietPairs S (i + 1) l
theorem quietPairs_map {S : List Nat} : ∀ (l : List Oper) (i : Nat), (quietPairs S i l).map (·.2) = quietOps S i l
 | [], _ => rfl
 | o :: l, i => by simp only [quietPairs, quietOps]; split <;> simp [quietPairs_map l]
theorem quietPairs_mem {S : List Nat} : ∀ (l : List Oper) (i : Nat) (x : Nat × Oper), x ∈ quietPairs S i l ↔ i ≤ x.1 ∧ l[x.1 - i]? = some x.2 ∧ x.1 ∉ S
 | [], i, x => by simp [quietPairs]
 | o :: l, i, x => by
  simp only [quietPairs]
  have ih := quietPairs_mem (S := S) l (i + 1) x
  by_cases hx : x.1 = i
  ·have h1 : x ∉ quietPairs S (i + 1) l := fun h => by have := (ih.1 h).1; omega
   split
   ·rename_i hS
    have hS' : i ∈ S := by simpa using hS
    simp only [h1, hx]
    simp [hS']
   ·rename_i hS
    have hS' : i ∉ S := by simpa using hS
    obtain ⟨x1, x2⟩ := x
    simp only at hx
    subst hx
    simp [h1, hS']
    exact eq_comm
  ·have h2 : x ∈ (if S.contains i = true then quietPairs S (i + 1) l else (i, o) :: quietPairs S (i + 1) l) ↔ x ∈ quietPairs S (i + 1) l := by
    split
    ·rfl
    ·constructor
     ·intro h
      rcases List.mem_cons.1 h with h | h
      ·exact absurd (by rw [h]) hx
      ·exact h
     ·exact List.mem_cons_of_mem _
   rw [h2, ih]
   constructor
   ·rintro ⟨a1, a2, a3⟩
    refine ⟨by omega, ?_, a3⟩
    rw [show x.1 - i = (x.1 - (i + 1)) + 1 by omega]
    simpa using a2
   ·rintro ⟨a1, a2, a3⟩
    refine ⟨by omega, ?_, a3⟩
    rw [show x.1 - i = (x.1 - (i + 1)) + 1 by omega] at a2
    simpa using a2
theorem quietPairs_inc {S : List Nat} : ∀ (l : List Oper) (i : Nat), (quietPairs S i l).Pairwise (fun x y => x.1 < y.1)
 | [], _ => List.Pairwise.nil
 | o :: l, i => by
  simp only [quietPairs]
  split
  ·exact quietPairs_inc l (i + 1)
  ·exact List.pairwise_cons.2 ⟨fun y hy => by have := ((quietPairs_mem l (i + 1) y).1 hy).1; simp; omega, quietPairs_inc l (i + 1)⟩

/-- Block g is just these cells, none frozen. -/
def Whole (w : World) (g : Nat) (t : TypeId) (cs : Array Value) : Prop := w.heap[g]? = some (.cells cs t (0, 0))
section
variable {w w' : World} {g : Nat} {t : TypeId} {cs : Array Value}
theorem Whole.lt (h : Whole w g t cs) : g < w.heap.size := by
 rcases Nat.lt_or_ge g w.heap.size with h' | h'
 ·exact h'
 ·unfold Whole at h; rw [Array.getElem?_eq_none h'] at h; cases h
theorem Whole.cell (h : Whole w g t cs) (i : Nat) : w.cell? ⟨g, i, none⟩ = cs[i]? := cell_of_row w g i cs t (0, 0) h
theorem Whole.free (h : Whole w g t cs) (i : Nat) : w.frozen? ⟨g, i, none⟩ = false := frozen_of_row w g i cs t h
theorem Whole.on (h : Whole w g t cs) (hb : Below w.heap.size w w') : Whole w' g t cs := (hb.block g h.lt).trans h
theorem Whole.off (h : Whole w g t cs) {row : Option Nat} (hb : w.grownBy w' row) (hr : some g ≠ row) : Whole w' g t cs := (hb.block g h.lt hr).trans h
theorem Whole.put (h : Whole w g t cs) (i : Nat) (v : Value) : Whole (w.setCell ⟨g, i, none⟩ v) g t (cs.setIfInBounds i v) := heap_setCell_same w g i cs t v h
theorem Whole.far (h : Whole w g t cs) {p : Addr} (hp : g ≠ p.block) (u : Value) : Whole (w.setCell p u) g t cs := (heap_setCell_other w p g u hp).trans h
theorem Whole.new (w : World) (t : TypeId) (cs : Array Value) : Whole (w.alloc (.cells cs t)) w.heap.size t cs := heap_alloc_new w _
theorem Whole.there (h : Whole w g t cs) : w.there g 0 cs.size := fun j hj => by
 rw [Nat.zero_add, h.cell, h.free]
 exact ⟨by simp [hj], rfl⟩
end

theorem Whole.fill {g : Nat} {t : TypeId} : ∀ (vs : List Value) (o : Nat) (w : World) (cs : Array Value), Whole w g t cs → o + vs.length ≤ cs.size →
  ∃ cs' : Array Value, Whole (w.setCells g o vs) g t cs' ∧ cs'.size = cs.size ∧ (∀ i, i < o → cs'[i]? = cs[i]?) ∧ (∀ i, o + vs.length ≤ i → cs'[i]? = cs[i]?) ∧ ∀ i, i < vs.length → cs'[o + i]? = vs[i]?
 | [], o, w, cs, h, _ => ⟨cs, h, rfl, fun _ _ => rfl, fun _ _ => rfl, fun i hi => by simp at hi⟩
 | v :: vs, o, w, cs, h, hl => by
  simp only [List.length_cons] at hl
  obtain ⟨cs', h1, h2, h3, h4, h5⟩ := Whole.fill vs (o + 1) _ _ (h.put o v) (by simp; omega)
  refine ⟨cs', h1, by rw [h2]; simp, fun i hi => ?_, fun i hi => ?_, fun i hi => ?_⟩
  ·rw [h3 i (by omega)]; simp [Array.getElem?_setIfInBounds_ne (show o ≠ i by omega)]
  ·simp only [List.length_cons] at hi
   rw [h4 i (by omega)]; simp [Array.getElem?_setIfInBounds_ne (show o ≠ i by omega)]
  ·cases i with
   | zero =>
    rw [Nat.add_zero, h3 o (by omega)]
    simp [show o < cs.size by omega]
   | succ i =>
    simp only [List.length_cons] at hi
    have := h5 i (by omega)
    rw [show o + (i + 1) = o + 1 + i by omega, this]
    simp

theorem Whole.fillAll {w : World} {g : Nat} {t : TypeId} {cs cs' : Array Value} (h : Whole w g t cs) (hs : cs'.size = cs.size) : Whole (w.setCells g 0 cs'.toList) g t cs' := by
 obtain ⟨c, h1, h2, _, _, h5⟩ := Whole.fill cs'.toList 0 w cs h (by simp; omega)
 have : c = cs' := by
  apply Array.ext
  ·omega
  ·intro i hi hi'
   have := h5 i (by simpa using hi')
   simpa [hi, hi'] using this
 rw [← this]
 rw [this] at h1 ⊢
 exact h1

theorem setCells_off {g : Nat} : ∀ (vs : List Value) (o : Nat) (w : World) (W : World) (row : Option Nat), W.grownBy w row → (W.heap.size ≤ g ∨ row = some g) → W.grownBy (w.setCells g o vs) row
 | [], _, _, _, _, h, _ => h
 | v :: vs, o, w, W, row, h, hg => setCells_off vs (o + 1) _ W row ⟨h.os, h.tape, h.output, by simpa [World.setCell] using h.size, fun i hi hr => (heap_setCell_other w ⟨g, o, none⟩ i v (by
   intro e
   have e' : i = g := e
   rcases hg with hg | hg
   ·omega
   ·exact hr (by rw [e', hg]))).trans (h.block i hi hr)⟩ hg

/-- What a new variable is. -/
def NewAt (W : World) (t : TypeId) (Z : Array Value) (w : World) (v : Value) : Prop := ∃ g, v = .pointer (some ⟨g, 0, none⟩) ∧ W.heap.size ≤ g ∧ Whole w g t Z
theorem NewAt.on {W w w' : World} {t : TypeId} {Z : Array Value} {v : Value} (h : NewAt W t Z w v) (hb : Below w.heap.size w w') : NewAt W t Z w' v :=
 let ⟨g, h1, h2, h3⟩ := h
 ⟨g, h1, h2, h3.on hb⟩


end
end Go.Proofs.R50
end
