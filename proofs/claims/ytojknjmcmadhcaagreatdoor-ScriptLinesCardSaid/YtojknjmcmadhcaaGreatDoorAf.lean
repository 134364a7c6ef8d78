/- Plain steps within rounds of a loop over a function, and outside; a call of a yield. -/
import Derived.Test.YtojknjmcmadhcaaGreatDoorAe
import Derived.RangeFuncCalls
import Derived.RangeFuncIn
import Derived.RangeFuncLeaves
import Derived.OrdersIn
import Derived.Scope
import Derived.LoopNIn

section
namespace Go.Abs

variable {P : Program}

/-- Outside of rounds; in a round of a loop. -/
inductive FK where
  | out
  | rnd (l : Nat)

def FK.F : FK → Fence
  | .out => Fence.wide
  | .rnd l => Fence.wide.inRound l

def FK.isOut : FK → Bool
  | .out => true
  | .rnd _ => false

/-- No deferring. -/
def noDefer (o : Oper) : Bool := match o.op with | .defer _ => false | _ => true

theorem noDefer_ne {o : Oper} (h : noDefer o = true) : ∀ c, o.op ≠ .defer c := fun c e => by simp [noDefer, e] at h

theorem fk_fn (k : FK) (f : FuncId) : k.F.fn f := by cases k <;> trivial

theorem rowsIn_of_rows (k : FK) {n : Nat} {row : String} {args : Array Value} {w : World} {R : Value → World → Prop} (h : Rows P row args w R) : RowsIn k.F n P row args w R := by
  cases k with
  | out => exact fun c cs _ => let ⟨v, w', r, s⟩ := h c cs; ⟨v, w', r, stepsIn_wide.2 s⟩
  | rnd l => exact fun c cs _ => let ⟨v, w', r, s⟩ := h c cs; ⟨v, w', r, stepsIn_wide.2 s⟩

theorem callsIn_of_calls (k : FK) {n : Nat} {f : FuncId} {args : Array Value} {w : World} {R : Ending → World → Prop} (h : Calls P f args w R) : CallsIn k.F n P f args w R := by
  cases k with
  | out => exact callsIn_wide.2 h
  | rnd l => exact CallsIn.inRound l (callsIn_wide.2 h)

theorem fk_depth (k : FK) (n : Nat) : k.F.depth.isSome = true → 1 ≤ n := by cases k <;> (intro h; cases h)

theorem wpIn_of_wp (k : FK) {o : Oper} (hd : noDefer o = true) {a : Act} {w : World} {next : Act → World → Prop} {Q : Exit → Act → World → Prop} (n : Nat) (h : o.wp P a w next Q) : o.wpIn k.F n P a w next Q := by
  refine ⟨fun _ _ => fk_fn k _, ?_⟩
  rw [Oper.semAt_eq _ _ _ (noDefer_ne hd)]
  unfold Oper.wp at h
  generalize (execOp a.eval o).run P w = r at h
  cases r with
  | ok x w' =>
    cases x <;> simp only [Oper.upon, Oper.uponIn] at h ⊢
    case enter f args => exact ⟨fk_depth k n, callsIn_of_calls k h⟩
    case row r args => exact ⟨fk_depth k n, rowsIn_of_rows k h⟩
    all_goals exact h
  | halt x w' => cases x <;> simp only [Oper.upon, Oper.uponIn] at h ⊢ <;> exact h

theorem wpOpIn_of (k : FK) (n : Nat) {ops : Array Oper} (hd : ops.toList.all noDefer = true) {Q : Exit → Act → World → Prop} (hq : ¬ LetsOut Q) {i : Nat} {K : Act → World → Prop} {a : Act} {w : World} (h : wpOp P ops Q i K a w) : wpOpIn k.F n P ops Q i K a w := by
  unfold wpOp at h
  unfold wpOpIn
  cases ho : ops[i]? with
  | none => rw [ho] at h; exact h
  | some o =>
    rw [ho] at h
    simp only [] at h ⊢
    have hdo : noDefer o = true := (List.all_eq_true.1 hd) o (by simpa using Array.mem_of_getElem? ho)
    split
    · rename_i hw
      rw [if_pos hw] at h
      rcases h with h | h
      · exact wpIn_of_wp k hdo n h
      · exact absurd h.2 hq
    · rename_i hw
      rw [if_neg hw] at h
      exact ⟨fun _ _ => fk_fn k _, h⟩

theorem wpAnyIn_of (k : FK) (n : Nat) {ops : Array Oper} {md : Region.Mode} (hd : ops.toList.all noDefer = true) {Q : Exit → Act → World → Prop} (hq : ¬ LetsOut Q) : ∀ (fuel : Nat) (listed : Array Bool) (a : Act) (w : World), wpAny P md ops Q fuel listed a w → wpAnyIn k.F n P md ops Q fuel listed a w
  | 0, _, _, _, h => h
  | fuel + 1, _listed, _a, _w, h => ⟨h.1, fun i hi => wpOpIn_of k n hd hq (wpOp_mono (fun a w h => wpAnyIn_of k n hd hq fuel _ a w h) (h.2 i hi))⟩

/-! ### Yields -/

/-- A round of a loop, called with these values. -/
def Round2 (P : Program) (n : Nat) (args : List AV) (H : Heap) (r : Out) (H' : Heap) : Prop :=
  ∀ (σ : Sg) (vs : List Value), SR σ → σ.h = look H.objs → (∀ m, H.next ≤ m → σ.h m = none ∧ ¬ σ.dead m) → VRs σ args vs →
    YieldAt Fence.wide 0 P (σ.r n) vs.toArray σ.w fun e w' => ∃ σ', σ'.w = w' ∧ σ'.h = look H'.objs ∧ Le σ σ' ∧ SR σ' ∧ H.next ≤ H'.next ∧ (∀ m, σ'.dead m → Used σ m ∨ (H.next ≤ m ∧ m < H'.next)) ∧
      (∀ m, H'.next ≤ m → σ'.h m = none ∧ ¬ σ'.dead m) ∧ OutR σ' r e

def Obl.isRound : Obl → Bool
  | .round _ _ _ _ _ => true
  | _ => false

/-- What is owed for a step, rounds and all. -/
def Obl.holdsY (P : Program) : Obl → Prop
  | .round n args H r H' => Round2 P n args H r H'
  | o => o.holds P

theorem Obl.holds_of {o : Obl} (h : o.holdsY P) (hr : o.isRound = false) : o.holds P := by
  cases o <;> first | exact h | cases hr

def noRound (rc : Rec) : Bool := rc.ob.all fun o => !o.isRound

theorem holds_rec {rc : Rec} (h : ∀ ob ∈ rc.ob, ob.holdsY P) (hr : noRound rc = true) : ∀ ob ∈ rc.ob, ob.holds P := fun ob hob => by
  have := (List.all_eq_true.1 hr) ob hob
  exact Obl.holds_of (h ob hob) (by simpa using this)

variable {tab : Tab} {σ : Sg}

theorem noDefer_of_step {hd : Hd} {i : Nat} {T : Tm} {H : Heap} {o : Oper} {rc : Rec} (h : stepA tab hd i T H o = some rc) : noDefer o = true := by
  cases hop : o.op <;> try (simp [noDefer, hop]; done)
  case defer c =>
    exfalso
    have h1 : calleeOf hd T o = none := by simp [calleeOf, hop]
    have h2 : yieldOf T o = none := by simp [yieldOf, hop]
    have h3 : panicOf T o = none := by simp [panicOf, hop]
    have h4 : aop tab T H H.next o = none := by simp [aop, hop]
    simp [stepA, h1, h2, h3, h4] at h

theorem stepIn_sound (tabOk : TabOK P tab) (sr : SR σ) (k : FK) {hd : Hd} {i : Nat} {T : Tm} {a : Act} (tr : TR σ T a) {H : Heap} {o : Oper} {rc : Rec} (h : stepA tab hd i T H o = some rc) (hag : Agree H σ rc.e) (hob : ∀ ob ∈ rc.ob, ob.holdsY P)
    (hk : k.isOut = true ∨ noRound rc = true) {next : Act → World → Prop} {Q : Exit → Act → World → Prop} (_hq : ¬ LetsOut Q)
    (hret : ∀ v, rc.out = .ret v → ∀ σ' x, Le σ σ' → SR σ' → σ'.h = effOn rc.e σ.h → DeadOk H σ σ' rc.e → VR σ' v x → next (a.put o.dst x) σ'.w)
    (hpan : ∀ v, rc.out = .pan v → ∀ σ' x, Le σ σ' → SR σ' → σ'.h = effOn rc.e σ.h → DeadOk H σ σ' rc.e → VR σ' v x → Q (.panic [{ v := x, recovered := false }]) a σ'.w) : o.wpIn k.F 0 P a σ.w next Q := by
  cases hr : noRound rc with
  | true => exact wpIn_of_wp k (noDefer_of_step h) 0 (step_sound tabOk sr tr h hag (holds_rec hob hr) hret hpan)
  | false =>
    have hko : k = .out := by
      rcases hk with hk | hk
      · cases k with
        | out => rfl
        | rnd l => cases hk
      · rw [hr] at hk; cases hk
    subst hko
    have hnd := noDefer_of_step h
    unfold stepA at h
    split at h
    · exfalso
      rename_i f args obs hcal
      have hobs : ∀ o ∈ obs, o.isRound = false := fun o ho => by
        rcases calleeOf_obs hcal with e | ⟨_, _, _, e⟩
        · rw [e] at ho; cases ho
        · rw [e] at ho
          simp only [List.mem_singleton] at ho
          rw [ho]; rfl
      have hall : (obs.all fun o => !o.isRound) = true := List.all_eq_true.2 fun o ho => by rw [hobs o ho]; rfl
      split at h
      · split at h
        · cases h; exact absurd hr (by simp only [noRound, List.all_cons, hall]; simp [Obl.isRound])
        · cases h
      split at h
      · rename_i rc' hown
        cases h
        unfold ownA at hown
        split at hown
        · split at hown
          · split at hown
            · cases hown; exact absurd hr (by simp only [noRound, List.singleton_append, List.all_cons, hall]; simp [Obl.isRound])
            · cases hown
          · cases hown
        · cases hown
      split at h
      · split at h
        · cases h; exact absurd hr (by simp only [noRound, List.all_cons, hall]; simp [Obl.isRound])
        · cases h
      · cases h
    · split at h
      · rename_i n args hy
        split at h
        · rename_i r H' hrd
          cases h
          have hrnd : Round2 P n args H r H' := hob _ List.mem_cons_self
          obtain ⟨vs, hvs, hrun⟩ := yield_enter (P := P) tr hy
          obtain ⟨hag1, hag2⟩ := hag
          obtain ⟨fn, tmps, assign, body, hyr, hR⟩ := hrnd σ vs sr hag1 hag2 hvs
          refine ⟨fun _ _ => trivial, ?_⟩
          rw [Oper.semAt_eq _ _ _ (noDefer_ne hnd), hrun, hyr, Oper.uponIn_round]
          refine ⟨fk_depth .out 0, hR.mono ?_⟩
          rintro e w' ⟨σ', rfl, h1, l, sr', h2, h3, h4, h5⟩
          cases r <;> cases e <;> simp only [OutR] at h5
          · exact hret _ rfl σ' _ l sr' h1 ⟨h2, h3, h4⟩ h5
          · obtain ⟨x, rfl, hx⟩ := h5
            exact hpan _ rfl σ' x l sr' h1 ⟨h2, h3, h4⟩ hx
        · cases h
      split at h
      · cases h; simp [noRound] at hr
      split at h
      · cases h; simp [noRound] at hr
      · cases h

theorem runOpsIn_sound (tabOk : TabOK P tab) (k : FK) {hd : Hd} {ops : Array Oper} {N : Nat} {Q : Exit → Act → World → Prop} (hq : ¬ LetsOut Q) : ∀ (l : List Oper) (i : Nat) (T : TL) (H : Heap) (σ : Sg) (a : Act) (rr : RR) (recs : List Rec), SS σ a N T H → dstOk N l = true →
    runOps tab hd ops l i T H = some (rr, recs) → (∀ k, l[k]? = ops[i + k]?) → (∀ rc ∈ recs, ∀ ob ∈ rc.ob, ob.holdsY P) → (k.isOut = true ∨ ∀ rc ∈ recs, noRound rc = true) →
    (∀ T' H', rr = .done T' H' → ∀ σ' a', Lg H.next σ σ' → H.next ≤ H'.next → SS σ' a' N T' H' → a'.defers = a.defers → Q .normal a' σ'.w) →
    (∀ v H', rr = .pan v H' → ∀ σ' a' x, Lg H.next σ σ' → H.next ≤ H'.next → SP σ' H' → VR σ' v x → a'.defers = a.defers → Q (.panic [{ v := x, recovered := false }]) a' σ'.w) →
    wpOpsIn k.F 0 P ops Q (List.range' i l.length) a σ.w
  | [], i, T, H, σ, a, rr, recs, ss, _, h, _, _, _, hdn, _ => by
    cases h
    exact hdn T H rfl σ a (Lg.refl _ σ) (Nat.le_refl _) ss rfl
  | o :: r, i, T, H, σ, a, rr, recs, ss, hdst, h, hl, hob, hk, hdn, hpn => by
    have ho : ops[i]? = some o := by have := hl 0; simpa using this.symm
    have hr : ∀ k, r[k]? = ops[i + 1 + k]? := fun k => by
      have := hl (k + 1)
      rw [show i + (k + 1) = i + 1 + k by omega] at this
      simpa using this
    simp only [dstOk, List.all_cons, Bool.and_eq_true] at hdst
    have hdo : ∀ t, o.dst = some t → t < a.tmps.size := fun t ht => by
      have := hdst.1
      rw [ht] at this
      rw [ss.size]
      simpa using this
    rw [List.length_cons, List.range'_succ]
    simp only [wpOpsIn, ho]
    simp only [runOps] at h
    split at h
    · cases h
    · rename_i hw
      rw [if_neg (by rw [wanted_vr ss.tr hw]; simp)]
      refine ⟨fun _ _ => fk_fn k _, ?_⟩
      split at h
      · rename_i rr' rs hrun
        cases h
        have hn0 : H.next ≤ (H.apply undone.e).next := apply_next (e := undone.e) rfl
        refine runOpsIn_sound tabOk k hq r (i + 1) _ _ σ _ _ rs ⟨sp_apply (e := undone.e) ss.toSP (by rfl) ss.sr rfl (show DeadOk H σ σ (.loc [] [] 0) from rfl), tr_putD ss.tr hdo (undef_vr σ), put_size'.trans ss.size⟩ hdst.2 hrun hr (fun rc hrc => hob rc (by simp [hrc])) (hk.imp id fun h rc hrc => h rc (by simp [hrc])) (fun T' H' e σ' a' l n s d => hdn T' H' e σ' a' (l.weak hn0) (Nat.le_trans hn0 n) s (d.trans put_defers')) (fun v H' e σ' a' x l n s hx d => hpn v H' e σ' a' x (l.weak hn0) (Nat.le_trans hn0 n) s hx (d.trans put_defers'))
      · cases h
    · rename_i hw
      rw [if_pos (wanted_vr ss.tr hw)]
      split at h
      · cases h
      · rename_i rc hrc
        split at h
        · rename_i hok
          have hag := agree_of ss.toSP rc.e
          have hn0 := apply_next hok
          split at h
          · rename_i v hv
            split at h
            · rename_i rr' rs hrun
              cases h
              refine stepIn_sound tabOk ss.sr k ss.tr hrc hag (hob rc (by simp)) (hk.imp id fun h => h rc (by simp)) hq (fun v' hv' σ' x l sr' hh hdd hx => ?_) (fun v' hv' => by rw [hv] at hv'; cases hv')
              rw [hv] at hv'
              cases hv'
              refine runOpsIn_sound tabOk k hq r (i + 1) _ _ σ' _ _ rs ⟨sp_apply ss.toSP hok sr' hh hdd, tr_putD (ss.tr.mono l) hdo hx, put_size'.trans ss.size⟩ hdst.2 hrun hr (fun rc hrc => hob rc (by simp [hrc])) (hk.imp id fun h rc hrc => h rc (by simp [hrc]))
                (fun T' H' e σ'' a' l' n s d => hdn T' H' e σ'' a' ((lg_of l hok hag hh hdd).trans sr' (l'.weak hn0) s.sr) (Nat.le_trans hn0 n) s (d.trans put_defers')) (fun v H' e σ'' a' x l' n s hx d => hpn v H' e σ'' a' x ((lg_of l hok hag hh hdd).trans sr' (l'.weak hn0) s.sr) (Nat.le_trans hn0 n) s hx (d.trans put_defers'))
            · cases h
          · rename_i v hv
            cases h
            refine stepIn_sound tabOk ss.sr k ss.tr hrc hag (hob rc (by simp)) (hk.imp id fun h => h rc (by simp)) hq (fun v' hv' => by rw [hv] at hv'; cases hv') (fun v' hv' σ' x l sr' hh hdd hx => ?_)
            rw [hv] at hv'
            cases hv'
            exact hpn v _ rfl σ' a x (lg_of l hok hag hh hdd) hn0 (sp_apply ss.toSP hok sr' hh hdd) hx rfl
        · cases h


section
variable {hd : Hd} {ops : Array Oper} {l : List Oper} {recs : List Rec} {T0 : TL} {H0 : Heap} {rr : RR} {N : Nat} {σ0 σ : Sg} {a0 a : Act} {listed : Array Bool}

theorem wpAnyIn_inv (tabOk : TabOK P tab) (k : FK) (F : Fit tab hd ops l recs T0 H0 rr) (hl : l = ops.toList) (hdst : dstOk N l = true) {Q : Exit → Act → World → Prop} (hq : ¬ LetsOut Q) (hob : ∀ rc ∈ recs, ∀ ob ∈ rc.ob, ob.holdsY P) (hkk : k.isOut = true ∨ ∀ rc ∈ recs, noRound rc = true)
    (hrr : ∀ v H', rr = .pan v H' → ∃ k, k < l.length ∧ ∃ v, (recs.getD k undone).out = .pan v)
    (hdn : ∀ T' H', rr = .done T' H' → ∀ σ' a', Lg H0.next σ0 σ' → H0.next ≤ H'.next → SS σ' a' N T' H' → a'.defers = a0.defers → Q .normal a' σ'.w)
    (hpn : ∀ v H', rr = .pan v H' → ∀ σ' a' x, Lg H0.next σ0 σ' → H0.next ≤ H'.next → SP σ' H' → VR σ' v x → a'.defers = a0.defers → Q (.panic [{ v := x, recovered := false }]) a' σ'.w) :
    ∀ (fuel : Nat) (listed : Array Bool) (σ : Sg) (a : Act), Inv l recs T0 H0 N σ0 a0 listed σ a → unl (Sl listed) l.length ≤ fuel → wpAnyIn k.F 0 P .any ops Q fuel listed a σ.w := by
  have fin : ∀ (listed : Array Bool) (σ : Sg) (a : Act), Inv l recs T0 H0 N σ0 a0 listed σ a → (∀ i, i < l.length → Sl listed i = true) → Q .normal a σ.w := fun listed σ a I hall => by
    cases hq : rr with
    | done T' H' =>
      obtain ⟨rfl, rfl⟩ := F.done T' H' hq
      exact hdn _ _ hq σ a I.le (next_le F (Nat.zero_le _)) ⟨sp_at F I (Nat.le_refl _) hall (fun i h1 h2 => by omega), tr_at I hall, I.size⟩ I.defers
    | pan v H' =>
      obtain ⟨k, hk, v', hv'⟩ := hrr v H' hq
      obtain ⟨u, hu⟩ := I.rets k (hall k hk)
      rw [hu] at hv'
      cases hv'
  intro fuel
  induction fuel with
  | zero =>
    intro listed σ a I hf
    have hall := unl_zero (S := Sl listed) l.length (by omega)
    refine ⟨?_, fin listed σ a I hall⟩
    cases hq : Region.ready .any ops listed with
    | nil => rfl
    | cons i r =>
      have : i ∈ Region.ready .any ops listed := by rw [hq]; simp
      rw [mem_ready] at this
      obtain ⟨h1, o, ho, _⟩ := this
      have hi : i < l.length := by
        subst hl
        have := (Array.getElem?_eq_some_iff.1 ho).1
        simpa using this
      have := hall i hi
      unfold Sl at this
      have hsz : i < listed.size := by rw [I.lsz]; exact hi
      simp [hsz] at this h1
      rw [this] at h1; cases h1
  | succ fuel ih =>
    intro listed σ a I hf
    refine ⟨fun h => fin listed σ a I (ready_nil F hl I h), fun j hj => ?_⟩
    rw [mem_ready] at hj
    obtain ⟨h1, o, ho, hr⟩ := hj
    have hol : l[j]? = some o := by subst hl; simpa using ho
    have hjl : j < l.length := (List.getElem?_eq_some_iff.1 hol).1
    have hjs : Sl listed j = false := by
      unfold Sl
      have hsz : j < listed.size := by rw [I.lsz]; exact hjl
      simp [hsz] at h1 ⊢
      exact h1
    have hr' : ∀ e ∈ o.after.toList, Region.binds .any e = true → Sl listed e.on = true := fun e he hb => hr e (by simpa using he) hb
    have hd0 : ∀ t, o.dst = some t → t < N := fun t ht => by
      have := (List.all_eq_true.1 hdst) o (List.mem_of_getElem? hol)
      rw [ht] at this
      simpa using this
    have hcount : unl (Sl (listed.setIfInBounds j true)) l.length ≤ fuel := by
      have hls : j < listed.size := by rw [I.lsz]; exact hjl
      have hS : Sl (listed.setIfInBounds j true) = fun i => decide (i = j) || Sl listed i := funext (Sl_set hls)
      have := unl_insert (S := Sl listed) hjs l.length
      rw [if_pos hjl] at this
      rw [hS]
      omega
    have hag := agree_at F I hol hjs hr'
    have hlook : ∀ t ∈ o.looksAt ops, seenT T0 l recs (Sl listed) l.length t = look (Ts T0 l recs j) t := fun t ht => seen_t F I hol hjs hr' ht
    simp only [wpOpIn, ho]
    rcases F.good j o hol with ⟨hw, hu⟩ | ⟨hw, hst, hok⟩
    · rw [← wantedA_congr hlook] at hw
      rw [if_neg (by rw [wanted_vr I.tr hw]; simp)]
      refine ⟨fun _ _ => fk_fn k _, ?_⟩
      refine ih _ σ _ (inv_insert F I hol hjs hr' hd0 (v := undefA) (by rw [hu]; rfl) (Le.refl σ) I.sr ?_ ?_ (undef_vr σ)) hcount
      · rw [eAt, hu]; rfl
      · rw [eAt, hu]; rfl
    · rw [← wantedA_congr hlook] at hw
      rw [if_pos (wanted_vr I.tr hw)]
      rw [← stepA_congr (aev_looks hlook)] at hst
      have hmem : recs.getD j undone ∈ recs := by
        have : j < recs.length := by rw [F.len]; exact hjl
        simp [this]
      refine stepIn_sound tabOk I.sr k I.tr hst hag (hob _ hmem) (hkk.imp id fun h => h _ hmem) hq (fun v hv σ' x le sr' hh hdd hx => ?_) (fun v hv σ' x le sr' hh hdd hx => ?_)
      · exact ih _ σ' _ (inv_insert F I hol hjs hr' hd0 hv le sr' hh hdd hx) hcount
      · obtain ⟨q1, q2⟩ := F.pan j v hjl hv
        have hbef : ∀ i, i < j → Sl listed i = true := fun i hi => by
          rcases F.apart i j l[i] o hi (List.getElem?_eq_getElem (by omega)) hol with h | ⟨_, _, u, hu⟩
          · exact ready_bit I hol hr' h
          · rw [hv] at hu; cases hu
        have sp := sp_at F I (Nat.le_of_lt hjl) hbef (fun i a b => by rw [show i = j by omega]; exact hjs)
        exact hpn v _ q2 σ' a x (I.le.trans I.sr ((lg_of le (ok_at F j) hag hh hdd).weak (next_le F (Nat.zero_le j))) sr') (next_le F (i := 0) (j := j + 1) (Nat.zero_le _)) (sp_apply sp (ok_at F j) sr' hh hdd) hx I.defers

end

/-- A region that draws, within rounds and without. -/
theorem drawnIn_any (tabOk : TabOK P tab) (k : FK) {hd : Hd} {ops : Array Oper} {N : Nat} {Q : Exit → Act → World → Prop} {T : TL} {H : Heap} {σ : Sg} {a : Act} {rr : RR} {recs : List Rec} (ss : SS σ a N T H) (hdst : dstOk N ops.toList = true)
    (h : runOps tab hd ops ops.toList 0 T H = some (rr, recs)) (hdr : drawOk H ops ops.toList recs = true) (hq : ¬ LetsOut Q) (hob : ∀ rc ∈ recs, ∀ ob ∈ rc.ob, ob.holdsY P) (hkk : k.isOut = true ∨ ∀ rc ∈ recs, noRound rc = true)
    (hdn : ∀ T' H', rr = .done T' H' → ∀ σ' a', Lg H.next σ σ' → H.next ≤ H'.next → SS σ' a' N T' H' → a'.defers = a.defers → Q .normal a' σ'.w)
    (hpn : ∀ v H', rr = .pan v H' → ∀ σ' a' x, Lg H.next σ σ' → H.next ≤ H'.next → SP σ' H' → VR σ' v x → a'.defers = a.defers → Q (.panic [{ v := x, recovered := false }]) a' σ'.w) :
    wpAnyIn k.F 0 P .any ops Q ops.size (Array.replicate ops.size false) a { σ.w with drawn := σ.w.drawn + 1 } := by
  have F := fit h hdr
  have no : ∀ i, Sl (Array.replicate ops.size false) i = false := fun i => by
    unfold Sl
    rw [Array.getD_eq_getD_getElem?, Array.getElem?_replicate]
    split <;> rfl
  refine wpAnyIn_inv (σ0 := σ) (a0 := a) (T0 := T) (H0 := H) tabOk k F rfl hdst hq hob hkk (fun v H' e => ?_) hdn hpn ops.size _ σ.drew a ⟨sr_drew ss.sr, ⟨le_drew σ, fun _ h => .inl h⟩, fun m => ?_, ?_, ss.size, rfl, fun m hm => ?_, fun j o _ hs => ?_, fun j hs => ?_, by simp⟩ ?_
  · subst e
    obtain ⟨k, h1, h2⟩ := runOps_pan _ _ _ _ _ _ _ h
    exact ⟨k, by rw [← F.len]; exact h1, h2⟩
  · rw [seenH, lastOf_nothing no]
    exact congrFun ss.h m
  · rw [show seenT T ops.toList recs (Sl (Array.replicate ops.size false)) ops.toList.length = look T from funext fun t => lastOf_nothing no _]
    exact ss.tr.mono (le_drew σ)
  · rcases Nat.lt_or_ge m H.next with q | q
    · exact .inl q
    · obtain ⟨h1, h2⟩ := ss.fresh m q
      rcases hm with hm | hm
      · exact absurd h1 hm
      · exact absurd hm h2
  · rw [no] at hs; cases hs
  · rw [no] at hs; cases hs
  · exact unl_le _

end Go.Abs
end

/- Code: what a body does, on heaps of names. -/
section
namespace Go.Abs

/-- How a piece of code ends. -/
inductive AX where
  | normal
  | exit (id : Nat)
  | goto (l : Nat)
  | ret
  | pan (v : AV)

abbrev Post := AX → TL → Heap → Prop

/-- The marks of loops over functions among the deferred calls: blocks that nobody knows. -/
def Marks (B : Nat) (σ : Sg) : List Deferred → Prop
  | [] => True
  | d :: ds => (∃ b, d = { target := .collected b, args := #[] } ∧ B ≤ b ∧ b < σ.w.heap.size ∧ σ.w.heap[b]? = some (.deferred (some [])) ∧ ¬ σ.J b ∧ (∀ n o, σ.h n = some o → σ.r n ≠ b) ∧ (∀ d' ∈ ds, d'.target ≠ .collected b)) ∧ Marks B σ ds

theorem Marks.mono {B : Nat} {σ σ' : Sg} (l : Le σ σ') (sr' : SR σ') : ∀ {ds : List Deferred}, Marks B σ ds → Marks B σ' ds
  | [], _ => trivial
  | _d :: _ds, ⟨⟨b, h1, h2, h3, h4, h0, h5, h6⟩, hr⟩ =>
    ⟨⟨b, h1, h2, Nat.lt_of_lt_of_le h3 l.size, (l.frame b h3 h5).trans h4, fun h => h0 (l.jnew b h h3 h5), l.notOwn sr' h3 h5, h6⟩, hr.mono l sr'⟩

structure Arr (N n0 B : Nat) (σ : Sg) (a : Act) (T : TL) (H : Heap) : Prop where
  ss : SS σ a N T H
  n0 : n0 ≤ H.next
  mks : Marks B σ a.defers
  hB : B ≤ σ.w.heap.size

def CWQ (N n0 B : Nat) (Q : Post) (σ0 : Sg) : Exit → Act → World → Prop := fun e a w => ∃ σ, σ.w = w ∧ Lg n0 σ0 σ ∧
  match e with
  | .normal => ∃ T H, Arr N n0 B σ a T H ∧ Q .normal T H
  | .exit id => ∃ T H, Arr N n0 B σ a T H ∧ Q (.exit id) T H
  | .goto l => ∃ T H, Arr N n0 B σ a T H ∧ Q (.goto l) T H
  | .ret => ∃ T H, Arr N n0 B σ a T H ∧ Q .ret T H
  | .panic ch => ∃ v H x, n0 ≤ H.next ∧ B ≤ σ.w.heap.size ∧ Marks B σ a.defers ∧ ch = [{ v := x, recovered := false }] ∧ SP σ H ∧ VR σ v x ∧ Q (.pan v) [] H
  | .outgrown => False

theorem CWQ.shut {N n0 B : Nat} {Q : Post} {σ : Sg} : ¬ LetsOut (CWQ N n0 B Q σ) := fun ⟨_, _, _, _, _, h⟩ => h

/-- From these temporaries and this heap the code comes to its end so. -/
def CW (P : Program) (k : FK) (N n0 : Nat) (c : Code) (T : TL) (H : Heap) (Q : Post) : Prop :=
  ∀ B σ a, Arr N n0 B σ a T H → c.wpIn k.F 0 P (CWQ N n0 B Q σ) a σ.w

variable {P : Program} {tab : Tab} {N n0 : Nat} {T : TL} {H : Heap} {Q Q' : Post} {k : FK}

theorem CWQ.mono {B : Nat} {σ : Sg} {e : Exit} {a : Act} {w : World} (h : CWQ N n0 B Q σ e a w) (hq : ∀ x T H, Q x T H → Q' x T H) : CWQ N n0 B Q' σ e a w := by
  obtain ⟨σ', hw, l, h⟩ := h
  refine ⟨σ', hw, l, ?_⟩
  cases e <;> simp only [] at h ⊢
  case panic ch => obtain ⟨v, H, x, h1, h2, h3, h4, h5, h6, h7⟩ := h; exact ⟨v, H, x, h1, h2, h3, h4, h5, h6, hq _ _ _ h7⟩
  all_goals (obtain ⟨T, H, h1, h2⟩ := h; exact ⟨T, H, h1, hq _ _ _ h2⟩)

theorem CWQ.base {B : Nat} {σ σ1 : Sg} {e : Exit} {a : Act} {w : World} (l0 : Lg n0 σ σ1) (sr1 : SR σ1) (h : CWQ N n0 B Q σ1 e a w) : CWQ N n0 B Q σ e a w := by
  obtain ⟨σ', hw, l, h⟩ := h
  have fin : SR σ' → CWQ N n0 B Q σ e a w := fun sr => ⟨σ', hw, l0.trans sr1 l sr, h⟩
  cases e <;> simp only [] at h
  case panic ch => obtain ⟨v, H, x, h1, h2, h3, h4, h5, h6, h7⟩ := h; exact fin h5.sr
  all_goals (obtain ⟨T, H, h1, h2⟩ := h; exact fin h1.ss.sr)

theorem CW.mono {c : Code} (h : CW P k N n0 c T H Q) (hq : ∀ x T H, Q x T H → Q' x T H) : CW P k N n0 c T H Q' :=
  fun B σ a ar => wpIn_mono (h B σ a ar) fun _ _ _ h => h.mono hq

/-- What comes next. -/
def nextP (K : TL → Heap → Prop) (Q : Post) : Post := fun e T H => match e with
  | .normal => K T H
  | e => Q e T H

theorem CWQ.then {B : Nat} {K : TL → Heap → Prop} {R : Act → World → Prop} {σ : Sg} {e : Exit} {a : Act} {w : World} (h : CWQ N n0 B (nextP K Q) σ e a w)
    (hk : ∀ σ' T H, Lg n0 σ σ' → Arr N n0 B σ' a T H → K T H → σ'.w = w → R a w) : Exit.then R (CWQ N n0 B Q σ) e a w := by
  obtain ⟨σ', hw, l, h⟩ := h
  cases e <;> simp only [nextP] at h <;> simp only [Exit.then]
  case normal => obtain ⟨T, H, h1, h2⟩ := h; exact hk σ' T H l h1 h2 hw
  all_goals exact ⟨σ', hw, l, h⟩

theorem CW.skip (h : Q .normal T H) : CW P k N n0 .skip T H Q := fun _ σ _ ar => wpIn_skip ⟨σ, rfl, .refl _ σ, T, H, ar, h⟩
theorem CW.label {l : Nat} (h : Q .normal T H) : CW P k N n0 (.label l) T H Q := fun _ σ _ ar => wpIn_label ⟨σ, rfl, .refl _ σ, T, H, ar, h⟩
theorem CW.exit {id : Nat} (h : Q (.exit id) T H) : CW P k N n0 (.exit id) T H Q := fun _ σ _ ar => wpIn_exit ⟨σ, rfl, .refl _ σ, T, H, ar, h⟩
theorem CW.goto {l : Nat} (h : Q (.goto l) T H) : CW P k N n0 (.goto l) T H Q := fun _ σ _ ar => wpIn_goto ⟨σ, rfl, .refl _ σ, T, H, ar, h⟩
theorem CW.ret (h : Q .ret T H) : CW P k N n0 .ret T H Q := fun _ σ _ ar => wpIn_ret ⟨σ, rfl, .refl _ σ, T, H, ar, h⟩

theorem CW.seq {x y : Code} (h : CW P k N n0 x T H (nextP (fun T H => CW P k N n0 y T H Q) Q)) : CW P k N n0 (.seq x y) T H Q := fun B σ a ar =>
  wpIn_seq (wpIn_mono (h B σ a ar) fun _ _ _ h => h.then fun σ' T H l ar' hk hw => by subst hw; exact wpIn_mono (hk B σ' _ ar') fun _ _ _ h => h.base l ar'.ss.sr)

theorem CW.cond {c : Operand} {x y : Code} {b : Bool} (hc : aev (look T) c = some (.sc (.bool b))) (h : CW P k N n0 (if b then x else y) T H Q) : CW P k N n0 (.cond c x y) T H Q := fun B σ a ar =>
  wpIn_cond ((aev_vr ar.ss.tr hc).sc_inv).1 (h B σ a ar)

/-- The end of a block. -/
def blockP (id : Nat) (Q : Post) : Post := fun e T H => match e with
  | .exit id' => if id' = id then Q .normal T H else Q (.exit id') T H
  | e => Q e T H

theorem CW.block {id : Nat} {c : Code} (h : CW P k N n0 c T H (blockP id Q)) : CW P k N n0 (.block id c) T H Q := fun B σ a ar =>
  wpIn_block (wpIn_mono (h B σ a ar) fun e a' w' h => by
    obtain ⟨σ', hw, l, h⟩ := h
    cases e <;> simp only [blockP] at h <;> simp only [Exit.inBlock]
    case exit id' =>
      obtain ⟨T, H, h1, h2⟩ := h
      split
      · rename_i e; rw [if_pos e] at h2; exact ⟨σ', hw, l, T, H, h1, h2⟩
      · rename_i e; rw [if_neg e] at h2; exact ⟨σ', hw, l, T, H, h1, h2⟩
    all_goals exact ⟨σ', hw, l, h⟩)

/-- No jump leaves. -/
def stayP (Q : Post) : Post := fun e T H => match e with
  | .goto _ => False
  | e => Q e T H

theorem wpIn_scope_straight {F : Fence} {n : Nat} {QQ : Exit → Act → World → Prop} {a : Act} {w : World} {c : Code} (h : c.wpIn F n P (Exit.noGoto QQ) a w) : (Code.scope c).wpIn F n P QQ a w := by
  intro b kk cs hro hb hr
  have s1 : step P (lone (b.atR a (.code (.scope c) :: kk)) cs w) = .next (lone (b.atR a (.code c :: .inScope c :: kk)) cs w) := step_lone_go (by simp [stepG, stepG.exec, Frame.atR])
  have s2 : ∀ a w, step P (lone (b.atR a (.inScope c :: kk)) cs w) = .next (lone (b.atR a kk) cs w) := fun a w => step_lone_go (by simp [stepG, stepG.exec, Frame.atR])
  have h0 : (lone (b.atR a (.code (.scope c) :: kk)) cs w).fenced P F := fenced_calm hb hr rfl
  obtain ⟨e, a₁, w₁, hq, harr⟩ := h b (.inScope c :: kk) cs hro hb hr
  cases e with
  | normal => exact ⟨.normal, a₁, w₁, hq, .head h0 s1 (StepsIn.trans harr (.one (fenced_calm hb hr rfl) (s2 _ _)))⟩
  | exit id =>
    have hx : exitTo id (.inScope c :: kk) = exitTo id kk := by simp [exitTo]
    exact ⟨.exit id, a₁, w₁, hq, fun k' hk => .head h0 s1 (harr.1 k' (by rw [hx]; exact hk)),
      fun hr' hk => let ⟨k₁, h1, h2⟩ := harr.2 hr' (by rw [hx]; exact hk); ⟨k₁, h1, .head h0 s1 h2⟩⟩
  | goto l => exact hq.elim
  | ret => exact ⟨_, a₁, w₁, hq, .of_steps (.one h0 s1) harr⟩
  | panic ch => exact ⟨_, a₁, w₁, hq, .of_steps (.one h0 s1) harr⟩
  | outgrown => exact ⟨_, a₁, w₁, hq, .of_steps (.one h0 s1) harr⟩

theorem CW.scope {c : Code} (h : CW P k N n0 c T H (stayP Q)) : CW P k N n0 (.scope c) T H Q := fun B σ a ar =>
  wpIn_scope_straight (wpIn_mono (h B σ a ar) fun e a' w' h => by
    obtain ⟨σ', hw, l, h⟩ := h
    cases e <;> simp only [stayP] at h <;> simp only [Exit.noGoto]
    case goto l => obtain ⟨_, _, _, h⟩ := h; exact h
    all_goals exact ⟨σ', hw, l, h⟩)

/-- At most so many rounds. -/
def CW.rounds (P : Program) (k : FK) (N n0 : Nat) (c : Code) (Q : Post) : Nat → TL → Heap → Prop
  | 0, _, _ => False
  | n + 1, T, H => CW P k N n0 c T H (nextP (CW.rounds P k N n0 c Q n) Q)

theorem CW.loop {c : Code} (n : Nat) (h : CW.rounds P k N n0 c Q n T H) : CW P k N n0 (.loop c) T H Q := fun B σ a ar => by
  refine wpIn_loop_rounds n ?_
  have : ∀ n T H σ1 a, CW.rounds P k N n0 c Q n T H → Arr N n0 B σ1 a T H → Lg n0 σ σ1 → Code.roundsIn k.F 0 P c (CWQ N n0 B Q σ) n a σ1.w := by
    intro n
    induction n with
    | zero => intro T H σ1 a h; exact h.elim
    | succ n ih =>
      intro T H σ1 a h ar l
      refine wpIn_mono (h B σ1 a ar) fun e a' w' h => ?_
      have := h.then (R := Code.roundsIn k.F 0 P c (CWQ N n0 B Q σ) n) fun σ' T H l' ar' hk hw => by subst hw; exact ih T H σ' _ hk ar' (l.trans ar.ss.sr l' ar'.ss.sr)
      cases e <;> simp only [Exit.then] at this ⊢
      case normal => exact this
      all_goals exact this.base l ar.ss.sr
  exact this n T H σ a h ar (.refl _ σ)

/-- A region. -/
def afterP (Q : Post) : RR → Prop
  | .done T H => Q .normal T H
  | .pan v H => Q (.pan v) [] H

theorem CW.region (tabOk : TabOK P tab) {hd : Hd} {ops : Array Oper} {id : Nat} {draw : Bool} {rr : RR} {recs : List Rec} (hm : P.follows .mixedOrders = true) (hdst : dstOk N ops.toList = true)
    (h : runOps tab hd ops ops.toList 0 T H = some (rr, recs)) (hdr : (draw = true → drawOk H ops ops.toList recs = true)) (hob : ∀ rc ∈ recs, ∀ ob ∈ rc.ob, ob.holdsY P)
    (hkk : k.isOut = true ∨ ∀ rc ∈ recs, noRound rc = true) (hq : afterP Q rr) : CW P k N n0 (.region id ops draw) T H Q := fun B σ a ar => by
  have hdn : ∀ T' H', rr = .done T' H' → ∀ σ' a', Lg H.next σ σ' → H.next ≤ H'.next → SS σ' a' N T' H' → a'.defers = a.defers → CWQ N n0 B Q σ .normal a' σ'.w := fun T' H' e σ' a' l n s d => by
    subst e; exact ⟨σ', rfl, l.weak ar.n0, T', H', ⟨s, Nat.le_trans ar.n0 n, by rw [d]; exact ar.mks.mono l.1 s.sr, Nat.le_trans ar.hB l.1.size⟩, hq⟩
  have hpn : ∀ v H', rr = .pan v H' → ∀ σ' a' x, Lg H.next σ σ' → H.next ≤ H'.next → SP σ' H' → VR σ' v x → a'.defers = a.defers → CWQ N n0 B Q σ (.panic [{ v := x, recovered := false }]) a' σ'.w := fun v H' e σ' a' x l n s hx d => by
    subst e; exact ⟨σ', rfl, l.weak ar.n0, v, H', x, Nat.le_trans ar.n0 n, Nat.le_trans ar.hB l.1.size, by rw [d]; exact ar.mks.mono l.1 s.sr, rfl, s, hx, hq⟩
  cases draw with
  | true =>
    exact wpIn_region_any hm (drawnIn_any (Q := CWQ N n0 B Q σ) tabOk k ar.ss hdst h (hdr rfl) CWQ.shut hob hkk hdn hpn)
  | false =>
    refine wpIn_region ?_
    have := runOpsIn_sound (Q := CWQ N n0 B Q σ) tabOk k CWQ.shut ops.toList 0 T H σ a rr recs ar.ss hdst h (fun k => by simp) hob hkk hdn hpn
    rwa [← List.range_eq_range', Array.length_toList] at this

/-- Fewer temporaries. -/
theorem CW.drop {c : Code} {T' : TL} (ht : ∀ t x, look T' t = some x → look T t = some x) (h : CW P k N n0 c T' H Q) : CW P k N n0 c T H Q := fun B σ a ar =>
  h B σ a ⟨⟨ar.ss.toSP, fun t x hx => ar.ss.tr t x (ht t x hx), ar.ss.size⟩, ar.n0, ar.mks, ar.hB⟩

end Go.Abs
end

/- Functions: from the body to the call. -/
section
namespace Go.Abs

variable {P : Program} {tab : Tab} {N n0 : Nat} {σ : Sg}

/-- A result variable. -/
def resV (tab : Tab) (T : TL) (H : Heap) : ResultVar → Option AV
  | .tmp t => look T t
  | .cell a t => match look T a, tab t with
    | some p, some d => (loadA H d p).map (·.v)
    | _, _ => none

def resA (tab : Tab) (T : TL) (H : Heap) (rs : List ResultVar) : Option AV :=
  match mapOpt (resV tab T H) rs with
  | some [v] => some v
  | some vs => some (.tup vs)
  | none => none

def resRead (tmps : Array Value) : ResultVar → Sem Value
  | .tmp t => pure (tmps.getD t undef)
  | .cell b t => do loadVar t (← asAddr (tmps.getD b undef))

theorem results_eq (fn : Func) (tmps : Array Value) : results fn tmps = (do
    let vs ← fn.results.mapM (resRead tmps)
    pure (if h : vs.size = 1 then vs[0] else .tuple vs)) := rfl

theorem res_list (tabOk : TabOK P tab) {a : Act} {T : TL} {H : Heap} (ss : SS σ a N T H) : ∀ {rs : List ResultVar} {vs : List AV}, mapOpt (resV tab T H) rs = some vs →
    ∃ xs, (rs.mapM (resRead a.tmps) : Sem (List Value)).run P σ.w = .ok xs σ.w ∧ VRs σ vs xs
  | [], vs, h => by cases h; exact ⟨[], by simp, .nil⟩
  | r :: rs, vs, h => by
    simp only [mapOpt] at h
    split at h
    · cases h
    rename_i v h1
    split at h
    · cases h
    · rename_i vs' h2
      cases h
      obtain ⟨xs, hx, hxs⟩ := res_list tabOk ss h2
      have one : ∃ x, (resRead a.tmps r).run P σ.w = .ok x σ.w ∧ VR σ v x := by
        cases r with
        | tmp t => exact ⟨_, by simp [resRead], ss.tr t v h1⟩
        | cell b t =>
          simp only [resV] at h1
          split at h1
          · rename_i p d hp hd
            cases hl : loadA H d p with
            | none => rw [hl] at h1; cases h1
            | some res =>
              rw [hl] at h1
              cases h1
              have hv := ss.tr b p hp
              unfold loadA at hl
              split at hl
              · rename_i cs rd hr
                split at hl
                · rename_i y hy
                  cases hl
                  obtain ⟨bb, oo, vs, hpv, hra, hvs⟩ := readAt_vr ss.sr hv hr (fun m _ => by rw [ss.h])
                  obtain ⟨x, hx, hxv⟩ := run_loadVar_of (tabOk t d hd) hra hvs hy
                  exact ⟨x, by simp [resRead, hpv, asAddr, hx], hxv⟩
                · cases hl
              · cases hl
          · cases h1
      obtain ⟨x, hx1, hx2⟩ := one
      exact ⟨x :: xs, by simp only [List.mapM_cons, Sem.run_bind, hx1, Result.andThen_ok, hx, Sem.run_pure], .cons hx2 hxs⟩

theorem results_vr (tabOk : TabOK P tab) {a : Act} {T : TL} {H : Heap} (ss : SS σ a N T H) {fn : Func} {v : AV} (h : resA tab T H fn.results.toList = some v) :
    ∃ x, (results fn a.tmps).run P σ.w = .ok x σ.w ∧ VR σ v x := by
  have run : ∀ {vs : List AV}, mapOpt (resV tab T H) fn.results.toList = some vs → ∃ xs, (results fn a.tmps).run P σ.w = .ok (if h : xs.toArray.size = 1 then xs.toArray[0] else .tuple xs.toArray) σ.w ∧ VRs σ vs xs := fun {vs} hv => by
    obtain ⟨xs, h1, h2⟩ := res_list tabOk ss hv
    refine ⟨xs, ?_, h2⟩
    rw [results_eq, Sem.run_bind, Array.mapM_eq_mapM_toList]
    simp [Sem.run_map, h1]
  unfold resA at h
  split at h
  · rename_i u hu
    cases h
    obtain ⟨xs, h1, h2⟩ := run hu
    cases h2 with
    | cons hx hn => cases hn; exact ⟨_, h1, by simpa using hx⟩
  · rename_i vs hne hu
    cases h
    obtain ⟨xs, h1, h2⟩ := run hu
    refine ⟨_, h1, ?_⟩
    rw [dif_neg]
    · exact .tup h2
    · intro hl
      have := h2.length
      simp at hl
      match vs, this with
      | [v], _ => exact hne v rfl
      | [], q => simp [hl] at q
      | _ :: _ :: _, q => simp [hl] at q
  · cases h

/-- Arguments as temporaries. -/
def argT (i : Nat) : List AV → TL
  | [] => []
  | v :: r => (i, v) :: argT (i + 1) r

theorem argT_look : ∀ {args : List AV} {i t : Nat} {v : AV}, look (argT i args) t = some v → i ≤ t ∧ args[t - i]? = some v
  | [], _, _, _, h => by cases h
  | u :: r, i, t, v, h => by
    simp only [argT, look] at h
    split at h
    · rename_i e; subst e; cases h; simp
    · rename_i e
      obtain ⟨h1, h2⟩ := argT_look h
      refine ⟨by omega, ?_⟩
      rw [show t - i = (t - (i + 1)) + 1 by omega]
      simpa using h2

theorem argT_tr {args : List AV} {vs : List Value} (h : VRs σ args vs) {n : Nat} : TR σ (look (argT 0 args)) { tmps := vs.toArray ++ Array.replicate n undef, defers := [] } := fun t v hv => by
  obtain ⟨_, h2⟩ := argT_look hv
  obtain ⟨x, hx, hvx⟩ := h.get h2
  have : (vs.toArray ++ Array.replicate n undef).getD t undef = x := by
    rw [Array.getD_eq_getD_getElem?]
    rw [Nat.sub_zero] at hx
    have hlt : t < vs.length := (List.getElem?_eq_some_iff.1 hx).1
    rw [Array.getElem?_append_left (by simpa using hlt)]
    simp [hx]
  rw [this]; exact hvx

/-! ### Marks are taken at the end -/

/-- A mark's block is shut. -/
def Sg.take (σ : Sg) (b : Nat) : Sg := { σ with w := σ.w.putObj b (.deferred none) }

theorem take_other {b c : Nat} (h : c ≠ b) : (σ.take b).w.heap[c]? = σ.w.heap[c]? := World.putObj_heap_other h

theorem lv_take {b : Nat} (hb : σ.w.heap[b]? = some (.deferred (some []))) (hJ : ¬ σ.J b) (ho : ∀ n o, σ.h n = some o → σ.r n ≠ b) : Lv σ (σ.take b) where
  icell := fun c off h => ⟨h, by
    by_cases e : c = b
    · subst e
      have hlt := (Array.getElem?_eq_some_iff.1 hb).1
      have : (σ.take c).w.heap[c]? = some (.deferred none) := World.putObj_heap_same hlt
      simp [World.cell?, hb, this]
    · exact cell_same (take_other e)⟩
  jmap := fun c h => ⟨h, take_other (fun e => hJ (e ▸ h))⟩
  cells := fun n es s fz h => .inr ⟨es, fz, h, Nat.le_refl _, .inl ⟨rfl, fun arr t rg ha => ⟨arr, t, rg, (take_other (ho n _ h)).trans ha, rfl⟩⟩⟩
  maps := fun n ks vs bs c fz h => .inr ⟨rfl, ks, vs, bs, c, fz, h⟩
  loops := fun n T N ps asg body st pend h => ⟨rfl, st, pend, h⟩
  deads := fun _ h => h

theorem sr_take {b : Nat} (hb : σ.w.heap[b]? = some (.deferred (some []))) (hJ : ¬ σ.J b) (ho : ∀ n o, σ.h n = some o → σ.r n ≠ b) (sr : SR σ) : SR (σ.take b) where
  obj := fun n o h => OR.keepV (lv_take hb hJ ho) (sr.obj n o h) rfl (take_other (ho n o h)) (fun _ h => h) (fun h => h)
  inj := sr.inj
  lt := fun n o h => by have := sr.lt n o h; show σ.r n < (σ.w.putObj b _).heap.size; rw [World.putObj_size]; exact this
  ilt := fun c off h => by have := sr.ilt c off h; show c < (σ.w.putObj b _).heap.size; rw [World.putObj_size]; exact this
  jlt := fun c h => by have := sr.jlt c h; show c < (σ.w.putObj b _).heap.size; rw [World.putObj_size]; exact this
  alive := sr.alive

theorem le_take {b : Nat} (hb : σ.w.heap[b]? = some (.deferred (some []))) (hJ : ¬ σ.J b) (ho : ∀ n o, σ.h n = some o → σ.r n ≠ b) {σ0 : Sg} (l : Le σ0 σ) (h0 : σ0.w.heap.size ≤ b) : Le σ0 (σ.take b) where
  os := l.os
  tape := l.tape
  output := l.output
  size := by show _ ≤ (σ.w.putObj b _).heap.size; rw [World.putObj_size]; exact l.size
  frame := fun c hc hn => (take_other (by omega)).trans (l.frame c hc hn)
  old := l.old
  icell := fun c off h => let ⟨p, q⟩ := l.icell c off h; let ⟨p', q'⟩ := (lv_take hb hJ ho).icell c off p; ⟨p', q'.trans q⟩
  inew := l.inew
  jnew := l.jnew
  jmap := fun c h => let ⟨p, q⟩ := l.jmap c h; let ⟨p', q'⟩ := (lv_take hb hJ ho).jmap c p; ⟨p', q'.trans q⟩
  cells := fun n es s fz h => by
    rcases l.cells n es s fz h with d | ⟨es', fz', h', hlen, ⟨hr, hs⟩ | ⟨hlt, hge⟩⟩
    · exact .inl d
    · refine .inr ⟨es', fz', h', hlen, .inl ⟨hr, fun arr t rg ha => ?_⟩⟩
      obtain ⟨arr', t', rg', q1, q2⟩ := hs arr t rg ha
      exact ⟨arr', t', rg', (take_other (by rw [← hr]; exact ho n _ h')).trans q1, q2⟩
    · exact .inr ⟨es', fz', h', hlen, .inr ⟨hlt, hge⟩⟩
  maps := l.maps
  loops := l.loops
  deads := l.deads

theorem Marks.take {B b : Nat} : ∀ {ds : List Deferred}, Marks B σ ds → (∀ d' ∈ ds, d'.target ≠ .collected b) → Marks B (σ.take b) ds
  | [], _, _ => trivial
  | d :: ds, ⟨⟨c, h1, h2, h3, h4, h0, h5, h6⟩, hr⟩, hne => by
    have hcb : c ≠ b := fun e => hne d (by simp) (by rw [h1, e])
    exact ⟨⟨c, h1, h2, by show c < (σ.w.putObj b _).heap.size; rw [World.putObj_size]; exact h3, (take_other hcb).trans h4, h0, h5, h6⟩, hr.take (fun d' hd => hne d' (by simp [hd]))⟩

theorem leaves_marks {σ0 : Sg} {B : Nat} (hB : σ0.w.heap.size ≤ B) {fn : Func} {tmps : Array Value} {R : Ending → World → Prop} {u : FrameMode} (hu : u ≠ .run) : ∀ (ds : List Deferred) (σ : Sg), Marks B σ ds → SR σ → Le σ0 σ →
    (∀ σ', SR σ' → Le σ0 σ' → σ'.h = σ.h → σ'.dead = σ.dead → σ.w.heap.size = σ'.w.heap.size → (∀ x v, VR σ x v → VR σ' x v) → LeavesIn Fence.wide 0 P fn tmps R [] u σ'.w) → LeavesInM Fence.wide 0 P fn tmps R ds u σ.w
  | [], σ, _, sr, l, h => h σ sr l rfl rfl rfl (fun _ _ h => h)
  | d :: ds, σ, ⟨⟨b, h1, h2, h3, h4, h0, h5, h6⟩, hr⟩, sr, l, h => by
    refine ⟨hu, .inl ⟨b, σ.w.putObj b (.deferred none), by rw [h1], run_takeDeferred h4, ?_⟩⟩
    refine leaves_marks hB hu ds (σ.take b) (hr.take h6) (sr_take h4 h0 h5 sr) (le_take h4 h0 h5 l (by omega)) fun σ' sr' l' q1 q2 q3 q4 => ?_
    refine h σ' sr' l' q1 q2 ?_ (fun x v hx => q4 x v (hx.monoV (lv_take h4 h0 h5)))
    rw [← q3]
    show _ = (σ.w.putObj b _).heap.size
    rw [World.putObj_size]

/-- The end of a call in the caller's heap. -/
def ends2 (tab : Tab) (rs : List ResultVar) (r : Out) (H1 : Heap) : Post := fun e T H => match e with
  | .normal | .ret => H = H1 ∧ ∃ v, resA tab T H rs = some v ∧ r = .ret v
  | .pan v => H = H1 ∧ r = .pan v
  | _ => False

theorem valid2_of (tabOk : TabOK P tab) {f : FuncId} {fn : Func} {c : Code} {args : List AV} {H H1 : Heap} {r : Out} (hf : P.funcs[f]? = some fn) (hb : fn.body = some c) (hn : (fn.name == "runtime.NumGoroutine") = false) (hl : args.length ≤ fn.ntmps)
    (h : CW P .out fn.ntmps H.next c (argT 0 args) H (ends2 tab fn.results.toList r H1)) : Valid2 P f args H r H1 := by
  refine ⟨⟨fn, hf, by rw [hb]; rfl, hn⟩, fun σ vs sr hh hfr hv => (callsIn_wide (n := 0)).1 ?_⟩
  refine callsIn_of_wp_marks hf hb trivial ?_
  have hlen := hv.length
  refine wpIn_mono (h σ.w.heap.size σ _ ⟨⟨⟨sr, hh, hfr⟩, argT_tr hv, by simp; omega⟩, Nat.le_refl _, trivial, Nat.le_refl _⟩) fun e a w h => ?_
  obtain ⟨σ', rfl, l, h⟩ := h
  have dd : ∀ {σ' : Sg} {n}, Lg H.next σ σ' → (∀ m, n ≤ m → σ'.h m = none ∧ ¬ σ'.dead m) → ∀ m, σ'.dead m → Used σ m ∨ (H.next ≤ m ∧ m < n) := fun {σ'} {n} l hfr m hm => by
    rcases l.2 m (.inr hm) with q | q
    · exact .inl q
    · refine .inr ⟨q, ?_⟩
      rcases Nat.lt_or_ge m n with p | p
      · exact p
      · exact absurd hm (hfr m p).2
  have lg : ∀ {s : Sg}, Le σ s → s.h = σ'.h → s.dead = σ'.dead → Lg H.next σ s := fun {s} l1 q1 q2 => ⟨l1, fun m hm => l.2 m (by unfold Used at hm ⊢; rwa [q1, q2] at hm)⟩
  have done : ∀ (u : FrameMode), u = .returning → (∃ T H', Arr fn.ntmps H.next σ.w.heap.size σ' a T H' ∧ H' = H1 ∧ ∃ v, resA tab T H' fn.results.toList = some v ∧ r = .ret v) →
      LeavesInM Fence.wide 0 P fn a.tmps (fun e w' => ∃ s, s.w = w' ∧ s.h = look H1.objs ∧ Le σ s ∧ SR s ∧ H.next ≤ H1.next ∧ (∀ m, s.dead m → Used σ m ∨ (H.next ≤ m ∧ m < H1.next)) ∧ (∀ m, H1.next ≤ m → s.h m = none ∧ ¬ s.dead m) ∧ OutR s r e) a.defers u σ'.w := by
    rintro u rfl ⟨T, H', ar, rfl, v, hv, rfl⟩
    refine leaves_marks (σ0 := σ) (Nat.le_refl _) (by simp) a.defers σ' ar.mks ar.ss.sr l.1 fun s srs ls q1 q2 _ q4 => ?_
    have fr : ∀ m, H'.next ≤ m → s.h m = none ∧ ¬ s.dead m := fun m hm => by rw [q1, q2]; exact ar.ss.fresh m hm
    obtain ⟨x, hx, hxv⟩ := results_vr (σ := s) (N := fn.ntmps) (T := T) (H := H') (a := a) tabOk ⟨⟨srs, q1.trans ar.ss.h, fr⟩, fun t v hv => q4 _ _ (ar.ss.tr t v hv), ar.ss.size⟩ hv
    exact ⟨x, hx, s, rfl, q1.trans ar.ss.h, ls, srs, ar.n0, dd (lg ls q1 q2) fr, fr, hxv⟩
  cases e <;> simp only [ends2] at h <;> simp only [bodyPostM]
  case normal => exact done _ rfl h
  case ret => exact done _ rfl h
  case panic ch =>
    obtain ⟨v, H', x, h1, _, mks, rfl, sp, hx, rfl, rfl⟩ := h
    refine leaves_marks (σ0 := σ) (Nat.le_refl _) (by simp) a.defers σ' mks sp.sr l.1 fun s srs ls q1 q2 _ q4 => ?_
    have fr : ∀ m, H'.next ≤ m → s.h m = none ∧ ¬ s.dead m := fun m hm => by rw [q1, q2]; exact sp.fresh m hm
    exact ⟨s, rfl, q1.trans sp.h, ls, srs, h1, dd (lg ls q1 q2) fr, fr, x, rfl, q4 _ _ hx⟩
  case exit => obtain ⟨_, _, _, h⟩ := h; exact h
  case goto => obtain ⟨_, _, _, h⟩ := h; exact h

/-- The end of a call with trees. -/
def ends1 (tab : Tab) (rs : List ResultVar) (r : Out) : Post := fun e T H => match e with
  | .normal | .ret => ∃ v, resA tab T H rs = some v ∧ ∃ k x ns, viewA H k v = some (x, ns) ∧ r = .ret x
  | .pan v => ∃ k x ns, viewA H k v = some (x, ns) ∧ r = .pan x
  | _ => False

mutual
theorem tv_vr {σ : Sg} {w : World} {I : Nat → Nat → Prop} {J : Nat → Prop} (hw : σ.w = w) (hI : σ.I = I) (hJ : σ.J = J) {x : AV} {v : Value} (h : TV w I J x v) : VR σ x v := by
  subst hw hI hJ; exact .tree h
end

theorem tvs_vrs : ∀ {xs : List AV} {vs : List Value}, TVs σ.w σ.I σ.J xs vs → VRs σ xs vs
  | [], _, .nil => .nil
  | _ :: _, _, .cons h hs => .cons (.tree h) (tvs_vrs hs)

theorem valid_of (tabOk : TabOK P tab) {f : FuncId} {fn : Func} {c : Code} {args : List AV} {r : Out} (hf : P.funcs[f]? = some fn) (hb : fn.body = some c) (hn : (fn.name == "runtime.NumGoroutine") = false) (hl : args.length ≤ fn.ntmps)
    (h : CW P .out fn.ntmps 0 c (argT 0 args) ⟨[], 0⟩ (ends1 tab fn.results.toList r)) : Valid P f args r := by
  refine ⟨⟨fn, hf, by rw [hb]; rfl, hn⟩, fun w I J vs hI hJ hv => (callsIn_wide (n := 0)).1 ?_⟩
  refine callsIn_of_wp_marks hf hb trivial ?_
  let σ : Sg := ⟨w, I, J, fun _ => 0, fun _ => none, fun _ => False⟩
  have sr : SR σ := ⟨fun n o h => by (cases h), fun n m o p h => by (cases h), fun n o h => by (cases h), hI, hJ, fun n o h => by (cases h)⟩
  have hvr : VRs σ args vs := tvs_vrs hv
  have hlen := hvr.length
  refine wpIn_mono (h w.heap.size σ _ ⟨⟨⟨sr, rfl, fun m _ => ⟨rfl, fun h => h⟩⟩, argT_tr hvr, by simp; omega⟩, Nat.le_refl _, trivial, Nat.le_refl _⟩) fun e a w' h => ?_
  obtain ⟨σ', rfl, l, h⟩ := h
  -- what is shown outside
  have out : ∀ {s : Sg} {H : Heap} {v x : AV} {xv : Value} {k : Nat} {ns : List Nat}, Le σ s → SP s H → VR s v xv → viewA H k v = some (x, ns) →
      RowKit.Below w.heap.size w s.w ∧ ∃ (I' : Nat → Nat → Prop) (J' : Nat → Prop), (∀ b off, I b off → I' b off) ∧ (∀ b off, I' b off → I b off ∨ (w.heap.size ≤ b ∧ b < s.w.heap.size)) ∧
        (∀ b, J b → J' b) ∧ (∀ b, J' b → J b ∨ (w.heap.size ≤ b ∧ b < s.w.heap.size)) ∧ TV s.w I' J' x xv := by
    intro s H v x xv k ns l sp hv hview
    have ll := le_lend sp.sr ns
    have sl := sr_lend sp.sr ns
    have tv := view_vr sp.sr (H := H) (ns0 := ns) k v x ns xv hv hview (fun n _ => by rw [sp.h]) (fun n hn => hn)
    have lt : Le σ (s.lend ns) := l.trans sp.sr ll sl
    refine ⟨⟨l.os, l.tape, l.output, l.size, fun k hk => l.frame k hk (fun n o ho => by cases ho)⟩, (s.lend ns).I, (s.lend ns).J, fun b off h => (lt.icell b off h).1, fun b off h => ?_, fun b h => (lt.jmap b h).1, fun b h => ?_, tv⟩
    · rcases Nat.lt_or_ge b w.heap.size with q | q
      · exact .inl (lt.inew b off h q (fun n o ho => by cases ho))
      · exact .inr ⟨q, sl.ilt b off h⟩
    · rcases Nat.lt_or_ge b w.heap.size with q | q
      · exact .inl (lt.jnew b h q (fun n o ho => by cases ho))
      · exact .inr ⟨q, sl.jlt b h⟩
  have done : ∀ (u : FrameMode), u = .returning → (∃ T H', Arr fn.ntmps 0 w.heap.size σ' a T H' ∧ ∃ v, resA tab T H' fn.results.toList = some v ∧ ∃ k x ns, viewA H' k v = some (x, ns) ∧ r = .ret x) →
      LeavesInM Fence.wide 0 P fn a.tmps (fun e w' => RowKit.Below w.heap.size w w' ∧ ∃ (I' : Nat → Nat → Prop) (J' : Nat → Prop), (∀ b off, I b off → I' b off) ∧ (∀ b off, I' b off → I b off ∨ (w.heap.size ≤ b ∧ b < w'.heap.size)) ∧
        (∀ b, J b → J' b) ∧ (∀ b, J' b → J b ∨ (w.heap.size ≤ b ∧ b < w'.heap.size)) ∧ OutV w' I' J' r e) a.defers u σ'.w := by
    rintro u rfl ⟨T, H', ar, v, hv, k, x, ns, hx, rfl⟩
    refine leaves_marks (σ0 := σ) (Nat.le_refl _) (by simp) a.defers σ' ar.mks ar.ss.sr l.1 fun s srs ls q1 q2 _ q4 => ?_
    have fr : ∀ m, H'.next ≤ m → s.h m = none ∧ ¬ s.dead m := fun m hm => by rw [q1, q2]; exact ar.ss.fresh m hm
    have sps : SP s H' := ⟨srs, q1.trans ar.ss.h, fr⟩
    obtain ⟨y, hy, hyv⟩ := results_vr (σ := s) (N := fn.ntmps) (T := T) (H := H') (a := a) tabOk ⟨sps, fun t v hv => q4 _ _ (ar.ss.tr t v hv), ar.ss.size⟩ hv
    exact ⟨y, hy, out ls sps hyv hx⟩
  cases e <;> simp only [ends1] at h <;> simp only [bodyPostM]
  case normal => exact done _ rfl h
  case ret => exact done _ rfl h
  case panic ch =>
    obtain ⟨v, H', y, h1, _, mks, rfl, sp, hy, k, x, ns, hx, rfl⟩ := h
    refine leaves_marks (σ0 := σ) (Nat.le_refl _) (by simp) a.defers σ' mks sp.sr l.1 fun s srs ls q1 q2 _ q4 => ?_
    have fr : ∀ m, H'.next ≤ m → s.h m = none ∧ ¬ s.dead m := fun m hm => by rw [q1, q2]; exact sp.fresh m hm
    obtain ⟨bel, I', J', h1, h2, h3, h4, h5⟩ := out ls ⟨srs, q1.trans sp.h, fr⟩ (q4 _ _ hy) hx
    exact ⟨bel, I', J', h1, h2, h3, h4, y, rfl, h5⟩
  case exit => obtain ⟨_, _, _, h⟩ := h; exact h
  case goto => obtain ⟨_, _, _, h⟩ := h; exact h

end Go.Abs
end

/- Calls whose result is a row of the callee's own: from the body. -/
section
namespace Go.Abs

variable {P : Program} {tab : Tab} {σ : Sg}

def endsO (tab : Tab) (rs : List ResultVar) (es : List (List AV)) (s fz : Nat) : Post := fun e T H => match e with
  | .normal | .ret => ∃ n g c es0 k ns, resA tab T H rs = some (.sl n g 0 g c) ∧ look H.objs n = some (.cells es0 s fz) ∧ es0.length = g ∧ viewLists (viewA H k) es0 = some (es, ns) ∧ n ∉ ns
  | _ => False

theorem validOwn_of (tabOk : TabOK P tab) {f : FuncId} {fn : Func} {c : Code} {args : List AV} {es : List (List AV)} {s fz : Nat} (hf : P.funcs[f]? = some fn) (hb : fn.body = some c) (hn : (fn.name == "runtime.NumGoroutine") = false) (hl : args.length ≤ fn.ntmps)
    (h : CW P .out fn.ntmps 0 c (argT 0 args) ⟨[], 0⟩ (endsO tab fn.results.toList es s fz)) : ValidOwn P f args es s fz := by
  refine ⟨⟨fn, hf, by rw [hb]; rfl, hn⟩, fun w I J vs hI hJ hv => (callsIn_wide (n := 0)).1 ?_⟩
  refine callsIn_of_wp_marks hf hb trivial ?_
  let σ : Sg := ⟨w, I, J, fun _ => 0, fun _ => none, fun _ => False⟩
  have sr : SR σ := ⟨fun n o h => by (cases h), fun n m o p h => by (cases h), fun n o h => by (cases h), hI, hJ, fun n o h => by (cases h)⟩
  have hvr : VRs σ args vs := tvs_vrs hv
  have hlen := hvr.length
  refine wpIn_mono (h w.heap.size σ _ ⟨⟨⟨sr, rfl, fun m _ => ⟨rfl, fun h => h⟩⟩, argT_tr hvr, by simp; omega⟩, Nat.le_refl _, trivial, Nat.le_refl _⟩) fun e a w' h => ?_
  obtain ⟨σ1, rfl, l1, h⟩ := h
  have done : ∀ (u : FrameMode), u = .returning → (∃ T H', Arr fn.ntmps 0 w.heap.size σ1 a T H' ∧ ∃ n g c es0 k ns, resA tab T H' fn.results.toList = some (.sl n g 0 g c) ∧ look H'.objs n = some (.cells es0 s fz) ∧ es0.length = g ∧ viewLists (viewA H' k) es0 = some (es, ns) ∧ n ∉ ns) →
      LeavesInM Fence.wide 0 P fn a.tmps (fun e w' => RowKit.Below w.heap.size w w' ∧ ∃ (I' : Nat → Nat → Prop) (J' : Nat → Prop), (∀ b off, I b off → I' b off) ∧ (∀ b off, I' b off → I b off ∨ (w.heap.size ≤ b ∧ b < w'.heap.size)) ∧
        (∀ b, J b → J' b) ∧ (∀ b, J' b → J b ∨ (w.heap.size ≤ b ∧ b < w'.heap.size)) ∧ ∃ B cap, Fresh1 w w' I' J' es s fz B cap ∧ e = .returned (.slice (some ⟨B, 0, none⟩) es.length cap)) a.defers u σ1.w := by
    rintro u rfl ⟨T, H', ar, n, g, c, es0, k, ns, hv, ho, hg, hview, hnn⟩
    refine leaves_marks (σ0 := σ) (Nat.le_refl _) (by simp) a.defers σ1 ar.mks ar.ss.sr l1.1 fun σ' sr' l w1 w2 _ w4 => ?_
    have fr : ∀ m, H'.next ≤ m → σ'.h m = none ∧ ¬ σ'.dead m := fun m hm => by rw [w1, w2]; exact ar.ss.fresh m hm
    have sps : SP σ' H' := ⟨sr', w1.trans ar.ss.h, fr⟩
    obtain ⟨y, hy, hyv⟩ := results_vr (σ := σ') (N := fn.ntmps) (T := T) (H := H') (a := a) tabOk ⟨sps, fun t v hv => w4 _ _ (ar.ss.tr t v hv), ar.ss.size⟩ hv
    have bel : RowKit.Below w.heap.size w σ'.w := ⟨l.os, l.tape, l.output, l.size, fun k hk => l.frame k hk (fun n o ho => by cases ho)⟩
    have ll := le_lend sr' ns
    have sl := sr_lend sr' ns
    have lt : Le σ (σ'.lend ns) := l.trans sr' ll sl
    have hn : σ'.h n = some (.cells es0 s fz) := by rw [sps.h]; exact ho
    obtain ⟨cap', arr, t', rg, rfl, hw, _, hr, hle, _⟩ := hyv.sl_inv sr' hn hg
    obtain ⟨arr0, t0, rg0, full, q1, qj, q2, q3, q4, q5, q6, q7⟩ := sr'.obj n _ hn
    rw [hw] at q1
    cases q1
    obtain ⟨n3, h3, h4, h5⟩ := viewLists_flat hview
    have hel : es.length = g := by have := congrArg List.length h5; simp at this; omega
    have hes : ∀ e ∈ es, e.length = s := fun e he => by
      have : e.length ∈ es.map List.length := List.mem_map_of_mem he
      rw [h5] at this
      obtain ⟨e', he', hl⟩ := List.mem_map.1 this
      rw [← hl]; exact q4 e' he'
    have htv : LTVs σ' ns es.flatten full := viewList_vr (fun x x' m v h1 h2 h3 h4 => view_vr sr' (H := H') k x x' m v h1 h2 h3 h4) q3 h3 (fun n _ => by rw [sps.h]) (fun m hm => (h4 m).1 hm)
    have hapart : ∀ m ∈ ns, ∀ o, σ'.h m = some o → σ'.r m ≠ σ'.r n := fun m hm o ho e => hnn (by rw [← sr'.inj m n o _ ho hn e]; exact hm)
    refine ⟨_, hy, bel, (σ'.lend ns).I, (σ'.lend ns).J, fun b off h => (lt.icell b off h).1, fun b off h => ?_, fun b h => (lt.jmap b h).1, fun b h => ?_, σ'.r n, cap', ⟨l.old n _ hn rfl, sr'.lt n _ hn, ⟨arr, t', rg, full, hw, ?_, q2, htv, hes, q5, q6, ?_, by rw [Nat.zero_add] at hr; exact hr⟩, by rw [hel]; exact hle⟩, by rw [hel, Nat.zero_mul]⟩
    · rcases Nat.lt_or_ge b w.heap.size with q | q
      · exact .inl (lt.inew b off h q (fun n o ho => by cases ho))
      · exact .inr ⟨q, sl.ilt b off h⟩
    · rcases Nat.lt_or_ge b w.heap.size with q | q
      · exact .inl (lt.jnew b h q (fun n o ho => by cases ho))
      · exact .inr ⟨q, sl.jlt b h⟩
    · rintro (h | ⟨m, hm, hr', ks, vs, bs, c, fz', hh⟩)
      · exact qj h
      · exact hapart m hm _ hh hr'
    · rintro off ho' (h | ⟨m, hm, hr', es', s', fz', hh, _⟩)
      · exact q7 off ho' h
      · exact hapart m hm _ hh hr'
  cases e <;> simp only [endsO] at h <;> simp only [bodyPostM]
  case normal => exact done _ rfl h
  case ret => exact done _ rfl h
  case panic ch => obtain ⟨_, _, _, _, _, _, _, _, _, h⟩ := h; exact h.elim
  case exit => obtain ⟨_, _, _, h⟩ := h; exact h
  case goto => obtain ⟨_, _, _, h⟩ := h; exact h

end Go.Abs
end
