/- The walking machine's steps, continued: reading, writing, arithmetic. -/
import Derived.Test.YthbenojbjjgnaaaGreatUAg
import Derived.Test.YthbenojbjjgnaaaGreatUAf
set_option linter.unusedVariables false
set_option linter.unusedSimpArgs false
set_option linter.unusedSectionVars false
section
namespace Go.Abs
def nilA : AV := .sc (.slice none 0 0)
def RelT (R : Rn) (T : WT) (Tc : TL) : Prop := ∀ t v,lk T t = some v → ∃ x,look Tc t = some x ∧ WR R v x
def hasO (R : Rn) (n : Nat) : WO → Prop
 | .box _ _ => True
 | .set _ _ => True
 | .row _ _ _ _ => R.av n ≠ nilA
def rootO (n : Nat) : WO → Nat
 | .box _ _ => n
 | .set _ _ => n
 | .row _ _ _ rt => rt
def RowR (R : Rn) (H : Heap) (n : Nat) (es : List (List WV)) (s : Nat) (fz : Bool) : Prop :=
 (R.av n = nilA ∧ es = []) ∨ ∃ g cap xs fz',R.av n = .sl (R.ob n) g 0 g cap ∧ look H.objs (R.ob n) = some (.cells xs s fz') ∧ xs.length = g ∧ WRss R es xs ∧ (cap = none ∨ cap = some g) ∧ fz' ≤ g ∧ (fz = false → fz' = 0)
def ObjR (R : Rn) (H : Heap) (n : Nat) : WO → Prop
 | .box cs fz => ∃ xs fz',look H.objs (R.ob n) = some (.cells [xs] cs.length fz') ∧ WRs R cs xs ∧ fz' ≤ 1 ∧ (fz = false → fz' = 0)
 | .row es s fz _ => (∀ e ∈ es,e.length = s) ∧ RowR R H n es s fz
 | .set ks v => ∃ vs bs clock,look H.objs (R.ob n) = some (.map ks vs bs clock false) ∧ vs.length = ks.length ∧ ∀ x ∈ vs,∃ v0,v = some v0 ∧ x = .sc v0
structure RelH (R : Rn) (W : WH) (H : Heap) : Prop where
 nx : W.nx = R.nx
 obj : ∀ n o,lk W.objs n = some o → n < R.nx ∧ R.al n ∧ ObjR R H n o
 inj : ∀ n m o p,lk W.objs n = some o → lk W.objs m = some p → hasO R n o → hasO R m p → R.ob n = R.ob m → n = m
 fresh : ∀ m,H.next ≤ m → look H.objs m = none
theorem RelH.ob_look {R : Rn} {W : WH} {H : Heap} (rh : RelH R W H) {n : Nat} {o : WO} (h : lk W.objs n = some o) (ho : hasO R n o) : ∃ p,look H.objs (R.ob n) = some p := by
 obtain ⟨_,_,hr⟩ := rh.obj n o h
 cases o with
 | box cs fz => obtain ⟨xs,fz',hx,_⟩ := hr; exact ⟨_,hx⟩
 | set ks v => obtain ⟨vs,bs,clock,hx,_⟩ := hr; exact ⟨_,hx⟩
 | row es s fz rt =>
  rcases hr.2 with ⟨h1,_⟩ | ⟨g,cap,xs,fz',_,h2,_⟩
  ·exact absurd h1 ho
  ·exact ⟨_,h2⟩
theorem RelH.ob_lt {R : Rn} {W : WH} {H : Heap} (rh : RelH R W H) {n : Nat} {o : WO} (h : lk W.objs n = some o) (ho : hasO R n o) : R.ob n < H.next := by
 obtain ⟨p,hp⟩ := rh.ob_look h ho
 rcases Nat.lt_or_ge (R.ob n) H.next with q | q
 ·exact q
 ·rw [rh.fresh _ q] at hp; cases hp
def Owns (ow : Nat → Nat) (R : Rn) (W : WH) : Prop := ∀ n o,lk W.objs n = some o → hasO R n o → ow (R.ob n) = rootO n o
def Told (ow : Nat → Nat) (e : WE) (next : Nat) : Eff → Prop
 | .loc rd ups _ => (∀ m ∈ rd,m < next ∧ (ow m ∈ e.rd ∨ ow m ∈ e.wr)) ∧ ∀ p ∈ ups,p.1 < next ∧ ow p.1 ∈ e.wr
 | .glob _ => False
def EffR (R : Rn) (W : WH) (H : Heap) (R' : Rn) (W' : WH) (e : WE) (e' : Eff) : Prop :=
 ∀ ow,Owns ow R W → ∃ ow',(∀ c,c < H.next → ow' c = ow c) ∧ Owns ow' R' W' ∧ Told ow' e (H.apply e').next e'
inductive Ans where
 | none
 | call (r : Out)
 | own (es : List (List AV)) (s fz : Nat)
 | inl (r : Out) (H' : Heap)
def hdA (A : Nat → Ans) : Hd where
 call := fun i _ _ => match A i with | .call r => some r | _ => Option.none
 inl := fun i _ _ _ => match A i with | .inl r H' => some (r,H') | _ => Option.none
 isInl := fun i _ => match A i with | .inl _ _ => true | _ => false
 own := fun i _ _ => match A i with | .own es s fz => some (es,s,fz) | _ => Option.none
 isOwn := fun i _ => match A i with | .own _ _ _ => true | _ => false
 round := fun _ _ _ => Option.none
 meth := fun _ _ => Option.none
variable {P : Program} {tab : Tab}
def StepOK (P : Program) (tab : Tab) (Tc : TL) (H : Heap) (o : Oper) (a : Ans) (x : AV) (e' : Eff) : Prop :=
 ∀ A i,A i = a → ∃ obs,stepA tab (hdA A) i (look Tc) H o = some ⟨.ret x,e',obs⟩ ∧ ∀ ob ∈ obs,ob.holds P ∧ ob.isRound = false
def Stepped (P : Program) (tab : Tab) (R : Rn) (W : WH) (H : Heap) (Tc : TL) (o : Oper) (K : WK) : Prop :=
 ∃ v W' e,K v W' e ∧ ∃ a x e' R',StepOK P tab Tc H o a x e' ∧ okEff H e' = true ∧ R.Le R' ∧ WR R' v x ∧ RelH R' W' (H.apply e') ∧ EffR R W H R' W' e e'
def Unown (R : Rn) (W : WH) (k : Nat) : Prop := ∀ n o,lk W.objs n = some o → hasO R n o → R.ob n ≠ k
def Kept (R : Rn) (W : WH) (H : Heap) (R' : Rn) (W' : WH) (H' : Heap) : Prop :=
 H.next ≤ H'.next ∧ (∀ k,look H'.objs k ≠ none → look H.objs k ≠ none ∨ H.next ≤ k) ∧ ∀ k,k < H.next → Unown R W k → look H'.objs k = look H.objs k ∧ Unown R' W' k
theorem Kept.refl (R : Rn) (W : WH) (H : Heap) : Kept R W H R W H := ⟨Nat.le_refl _,fun _ h => .inl h,fun _ _ h => ⟨rfl,h⟩⟩
theorem Kept.trans {R R1 R2 : Rn} {W W1 W2 : WH} {H H1 H2 : Heap} (h : Kept R W H R1 W1 H1) (h' : Kept R1 W1 H1 R2 W2 H2) : Kept R W H R2 W2 H2 :=
 ⟨Nat.le_trans h.1 h'.1,fun k hk => (h'.2.1 k hk).elim (h.2.1 k) fun q => .inr (Nat.le_trans h.1 q),fun k hk hu => by
  obtain ⟨a1,a2⟩ := h.2.2 k hk hu
  obtain ⟨b1,b2⟩ := h'.2.2 k (Nat.lt_of_lt_of_le hk h.1) a2
  exact ⟨b1.trans a1,b2⟩⟩
def SteppedG (P : Program) (tab : Tab) (R : Rn) (W : WH) (H : Heap) (Tc : TL) (o : Oper) (K : WK) : Prop :=
 ∃ v W' e,K v W' e ∧ ∃ a x H' R',StepOK P tab Tc H o a x (.glob H') ∧ okEff H (.glob H') = true ∧ GL ∈ e.wr ∧ R.Le R' ∧ WR R' v x ∧ RelH R' W' H' ∧ Kept R W H R' W' H' ∧
  ∀ ow,Owns ow R W → ∃ ow',(∀ c,c < H.next → ow' c = ow c) ∧ Owns ow' R' W'
variable {R : Rn} {T : WT} {W : WH} {H : Heap} {Tc : TL} {o : Oper} {K : WK}
def isPlain (o : Oper) : Prop := (∀ c,o.op = .call c → ∃ b,c.callee = .builtin b) ∧ ∀ x,o.op ≠ .panic x
theorem stepOK_aop {x : AV} {rd : List Nat} {ups : List (Nat × AO)} {nw : Nat} (hp : isPlain o) (h : aop tab (look Tc) H H.next o = some ⟨x,.loc rd ups nw⟩) : StepOK P tab Tc H o .none x (.loc rd ups nw) := by
 intro A i _
 refine ⟨[],?_,fun _ h => by cases h⟩
 have h1 : calleeOf (hdA A) (look Tc) o = none := by
  unfold calleeOf
  split
  ·rename_i c hc
   obtain ⟨b,hb⟩ := hp.1 c hc
   rw [hb]
  ·rfl
 have h2 : yieldOf (look Tc) o = none := by
  unfold yieldOf
  split
  ·rename_i c hc
   obtain ⟨b,hb⟩ := hp.1 c hc
   rw [hb]
  ·rfl
 have h3 : panicOf (look Tc) o = none := by
  unfold panicOf
  split
  ·rename_i y hy; exact absurd hy (hp.2 y)
  ·rfl
 unfold stepA
 rw [h1,h2,h3,h]
theorem effR_reads {e : WE} {rd : List Nat} (rh : RelH R W H) (hm : ∀ m ∈ rd,∃ n o,lk W.objs n = some o ∧ hasO R n o ∧ R.ob n = m ∧ (rootO n o ∈ e.rd ∨ rootO n o ∈ e.wr)) : EffR R W H R W e (.loc rd [] 0) := by
 intro ow hw
 refine ⟨ow,fun _ _ => rfl,hw,fun m h => ?_,fun p h => by cases h⟩
 obtain ⟨n,o,h1,h2,h3,h4⟩ := hm m h
 have := rh.ob_lt h1 h2
 rw [h3] at this
 refine ⟨by simp [Heap.apply]; omega,?_⟩
 rw [← h3,hw n o h1 h2]
 exact h4
theorem relH_apply {rd : List Nat} {k : Nat} (rh : RelH R W H) : RelH R W (H.apply (.loc rd [] k)) :=
 ⟨rh.nx,rh.obj,rh.inj,fun m hm => rh.fresh m (by simp [Heap.apply] at hm; omega)⟩
theorem step_read {v : WV} {e : WE} {x : AV} {rd : List Nat} (rh : RelH R W H) (hp : isPlain o) (hk : K v W e) (h : aop tab (look Tc) H H.next o = some ⟨x,.loc rd [] 0⟩) (hv : WR R v x)
  (hm : ∀ m ∈ rd,∃ n o,lk W.objs n = some o ∧ hasO R n o ∧ R.ob n = m ∧ (rootO n o ∈ e.rd ∨ rootO n o ∈ e.wr)) : Stepped P tab R W H Tc o K :=
 ⟨v,W,e,hk,.none,x,_,R,stepOK_aop hp h,rfl,Rn.Le.refl R,hv,relH_apply rh,effR_reads rh hm⟩
theorem step_quiet {v : WV} {x : AV} (rh : RelH R W H) (hp : isPlain o) (hk : plainK v W K) (h : aop tab (look Tc) H H.next o = quiet x) (hv : WR R v x) : Stepped P tab R W H Tc o K :=
 step_read rh hp hk h hv (fun _ h => by cases h)
theorem ev_ok (rt : RelT R T Tc) {z : Operand} {v : WV} (h : evW T z = some v) : ∃ x,aev (look Tc) z = some x ∧ WR R v x := by
 unfold evW at h
 split at h
 ·exact rt _ _ h
 ·rename_i y
  unfold ofConstW at h
  split at h
  ·rename_i cs
   cases hq : cs.all scalarB with
   | false => rw [hq] at h; cases h
   | true =>
    rw [hq] at h
    cases h
    refine ⟨.agg (cs.toList.map .sc),by simp [aev,ofConst,hq],.pure (.agg ?_)⟩
    induction cs.toList with
    | nil => exact .nil
    | cons a l ih => exact .cons .sc ih
  ·rename_i hne
   cases hq : scalarB y with
   | false => rw [hq] at h; cases h
   | true =>
    rw [hq] at h
    cases h
    refine ⟨.sc y,?_,.pure .sc⟩
    simp only [aev]
    unfold ofConst
    split
    ·rename_i cs; exact absurd rfl (hne cs)
    ·rw [hq]; rfl
 ·rename_i f
  cases h
  exact ⟨.fn (.func f) [] [],rfl,.pure (.fnp .nil .nil rfl rfl)⟩
 ·cases h
theorem plain_op (h1 : ∀ c,o.op ≠ .call c) (h2 : ∀ x,o.op ≠ .panic x) : isPlain o := ⟨fun c hc => absurd hc (h1 c),h2⟩
theorem mv_sound (rt : RelT R T Tc) (rh : RelH R W H) {x : Operand} (ho : o.op = .move x ∨ o.op = .assign x) (h : mvW T W K x) : Stepped P tab R W H Tc o K := by
 unfold mvW at h
 split at h
 ·rename_i v hv
  obtain ⟨y,hy,hr⟩ := ev_ok rt hv
  rcases ho with ho | ho
  all_goals exact step_quiet rh (plain_op (fun c hc => by rw [ho] at hc; cases hc) (fun x hc => by rw [ho] at hc; cases hc)) h (by simp [aop,ho,hy]) hr
 ·exact h.elim
theorem pick_sound (rt : RelT R T Tc) (rh : RelH R W H) {c a b : Operand} (ho : o.op = .pick c a b) (h : pickW T W K c a b) : Stepped P tab R W H Tc o K := by
 have hp : isPlain o := plain_op (fun c hc => by rw [ho] at hc; cases hc) (fun x hc => by rw [ho] at hc; cases hc)
 unfold pickW at h
 split at h
 ·rename_i q hq
  obtain ⟨y,hy,hr⟩ := ev_ok rt hq
  obtain rfl := hr.sc_inv
  cases q with
  | true =>
   have h := bothT h
   unfold mvW at h
   split at h
   ·rename_i v hv
    obtain ⟨z,hz,hr⟩ := ev_ok rt hv
    exact step_quiet rh hp h (by simp [aop,ho,hy,hz]) hr
   ·exact h.elim
  | false =>
   have h := bothF h
   unfold mvW at h
   split at h
   ·rename_i v hv
    obtain ⟨z,hz,hr⟩ := ev_ok rt hv
    exact step_quiet rh hp h (by simp [aop,ho,hy,hz]) hr
   ·exact h.elim
 ·exact h.elim
def Rn.add (R : Rn) (c : Nat) (x : AV) : Rn := ⟨R.nx + 1,fun m => R.al m ∨ m = R.nx,upd R.ob R.nx c,upd R.av R.nx x⟩
theorem Rn.add_le (c : Nat) (x : AV) : R.Le (R.add c x) := ⟨Nat.le_succ _,fun n hn ha => by
 have hne : n ≠ R.nx := by omega
 refine ⟨ha.resolve_right hne,upd_ne _ _ hne,upd_ne _ _ hne⟩⟩
theorem upd_at {α : Type} (f : Nat → α) (n : Nat) (a : α) : upd f n a n = a := upd_same f n a
theorem ObjR.move {R' : Rn} {H' : Heap} (l : R.Le R') {n : Nat} {o : WO} (hb : R'.ob n = R.ob n) (ha : R'.av n = R.av n) (hl : hasO R n o → look H'.objs (R.ob n) = look H.objs (R.ob n)) (h : ObjR R H n o) : ObjR R' H' n o := by
 cases o with
 | box cs fz =>
  obtain ⟨xs,fz',h1,h2,h3⟩ := h
  exact ⟨xs,fz',by rw [hb,hl trivial]; exact h1,h2.mono l,h3⟩
 | set ks v =>
  obtain ⟨vs,bs,clock,h1,h2⟩ := h
  exact ⟨vs,bs,clock,by rw [hb,hl trivial]; exact h1,h2⟩
 | row es s fz rt =>
  refine ⟨h.1,?_⟩
  rcases h.2 with ⟨h1,h2⟩ | ⟨g,cap,xs,fz',h1,h2,h3,h4,h5⟩
  ·exact .inl ⟨by rw [ha]; exact h1,h2⟩
  ·have hh : hasO R n (.row es s fz rt) := by intro e; rw [h1] at e; cases e
   exact .inr ⟨g,cap,xs,fz',by rw [ha,hb]; exact h1,by rw [hb,hl hh]; exact h2,h3,WRss.mono l h4,h5⟩
theorem hasO.move {R' : Rn} {n : Nat} {o : WO} (ha : R'.av n = R.av n) (h : hasO R' n o) : hasO R n o := by
 cases o with
 | box cs fz => trivial
 | set ks v => trivial
 | row es s fz rt => intro e; exact h (by rw [ha]; exact e)
theorem relH_new (rh : RelH R W H) {c : Nat} {x : AV} {wo : WO} {W' : WH} {H' : Heap} (hw : W'.objs = (R.nx,wo) :: W.objs) (hn : W'.nx = R.nx + 1)
  (hH : ∀ m,m ≠ c ∨ ¬ hasO (R.add c x) R.nx wo → look H'.objs m = look H.objs m) (hf : ∀ m,H'.next ≤ m → look H'.objs m = none) (hc : hasO (R.add c x) R.nx wo → look H.objs c = none)
  (ho : ObjR (R.add c x) H' R.nx wo) : RelH (R.add c x) W' H' := by
 have old : ∀ {n : Nat} {o : WO},lk W'.objs n = some o → n ≠ R.nx → lk W.objs n = some o := fun {n o} h hne => by
  rw [hw,lk_cons,if_neg (fun e => hne e.symm)] at h
  exact h
 have new : ∀ {o : WO},lk W'.objs R.nx = some o → o = wo := fun {o} h => by
  rw [hw,lk_cons,if_pos rfl] at h
  cases h
  rfl
 have apart : ∀ {n : Nat} {o : WO},lk W.objs n = some o → hasO R n o → R.ob n ≠ c ∨ ¬ hasO (R.add c x) R.nx wo := fun {n o} h ho' => by
  by_cases hh : hasO (R.add c x) R.nx wo
  ·refine .inl fun e => ?_
   obtain ⟨p,hp⟩ := rh.ob_look h ho'
   rw [e,hc hh] at hp
   cases hp
  ·exact .inr hh
 by_cases hh : hasO (R.add c x) R.nx wo
 ·refine ⟨hn,fun n o h => ?_,fun n m o p h1 h2 h3 h4 e => ?_,hf⟩
  ·by_cases hne : n = R.nx
   ·subst hne
    obtain rfl := new h
    exact ⟨Nat.lt_succ_self _,.inr rfl,ho⟩
   ·have h' := old h hne
    obtain ⟨q1,q2,q3⟩ := rh.obj n o h'
    exact ⟨Nat.lt_succ_of_lt q1,.inl q2,q3.move (Rn.add_le c x) (upd_ne _ _ hne) (upd_ne _ _ hne) fun ho' => hH _ (apart h' ho')⟩
  ·by_cases hn1 : n = R.nx
   ·by_cases hm1 : m = R.nx
    ·rw [hn1,hm1]
    ·exfalso
     have h2' := old h2 hm1
     have e' : c = R.ob m := by
      rw [hn1] at e
      have a1 : (R.add c x).ob R.nx = c := upd_at _ _ _
      have a2 : (R.add c x).ob m = R.ob m := upd_ne _ _ hm1
      rw [a1,a2] at e
      exact e
     exact ((apart h2' (h4.move (upd_ne _ _ hm1))).resolve_right (fun q => q hh)) e'.symm
   ·by_cases hm1 : m = R.nx
    ·exfalso
     have h1' := old h1 hn1
     have e' : R.ob n = c := by
      rw [hm1] at e
      have a1 : (R.add c x).ob R.nx = c := upd_at _ _ _
      have a2 : (R.add c x).ob n = R.ob n := upd_ne _ _ hn1
      rw [a1,a2] at e
      exact e
     exact ((apart h1' (h3.move (upd_ne _ _ hn1))).resolve_right (fun q => q hh)) e'
    ·have a1 : (R.add c x).ob n = R.ob n := upd_ne _ _ hn1
     have a2 : (R.add c x).ob m = R.ob m := upd_ne _ _ hm1
     rw [a1,a2] at e
     exact rh.inj n m o p (old h1 hn1) (old h2 hm1) (h3.move (upd_ne _ _ hn1)) (h4.move (upd_ne _ _ hm1)) e
 ·-- nothing new in the abstract heap
  refine ⟨hn,fun n o h => ?_,fun n m o p h1 h2 h3 h4 e => ?_,hf⟩
  ·by_cases hne : n = R.nx
   ·subst hne
    obtain rfl := new h
    exact ⟨Nat.lt_succ_self _,.inr rfl,ho⟩
   ·have h' := old h hne
    obtain ⟨q1,q2,q3⟩ := rh.obj n o h'
    exact ⟨Nat.lt_succ_of_lt q1,.inl q2,q3.move (Rn.add_le c x) (upd_ne _ _ hne) (upd_ne _ _ hne) fun _ => hH _ (.inr hh)⟩
  ·have hn1 : n ≠ R.nx := fun e1 => by subst e1; rw [new h1] at h3; exact hh h3
   have hm1 : m ≠ R.nx := fun e1 => by subst e1; rw [new h2] at h4; exact hh h4
   have a1 : (R.add c x).ob n = R.ob n := upd_ne _ _ hn1
   have a2 : (R.add c x).ob m = R.ob m := upd_ne _ _ hm1
   rw [a1,a2] at e
   exact rh.inj n m o p (old h1 hn1) (old h2 hm1) (h3.move (upd_ne _ _ hn1)) (h4.move (upd_ne _ _ hm1)) e
theorem step_new0 {W0 : WH} {x : AV} {wo : WO} {ao : AO} {rd : List Nat} {e : WE} {v : WV} (rh0 : RelH R W0 H) (sub : ∀ n o,lk W.objs n = some o → lk W0.objs n = some o) (rh : RelH R W H) (hp : isPlain o) (hk : K v ⟨(W.nx,wo) :: W.objs,W.nx + 1⟩ e)
  (h : aop tab (look Tc) H H.next o = some ⟨x,.loc rd [(H.next,ao)] 1⟩) (hv : WR (R.add H.next x) v x) (hr : rootO W.nx wo ∈ e.wr) (hh : hasO (R.add H.next x) R.nx wo)
  (hm : ∀ m ∈ rd,∃ n o,lk W0.objs n = some o ∧ hasO R n o ∧ R.ob n = m ∧ (rootO n o ∈ e.rd ∨ rootO n o ∈ e.wr))
  (ho : ObjR (R.add H.next x) (H.apply (.loc rd [(H.next,ao)] 1)) R.nx wo) : Stepped P tab R W0 H Tc o K := by
 have hl : ∀ m,look (H.apply (.loc rd [(H.next,ao)] 1)).objs m = if H.next = m then some ao else look H.objs m := fun m => look_put _ _ _ _
 refine ⟨v,_,e,hk,.none,x,_,R.add H.next x,stepOK_aop hp h,?_,Rn.add_le _ _,hv,?_,?_⟩
 ·simp [okEff]
 ·refine relH_new rh (c := H.next) (x := x) (wo := wo) (by rw [rh.nx]) (by show W.nx + 1 = _; rw [rh.nx]) (fun m hm => ?_) (fun m hm => ?_) (fun _ => rh.fresh _ (Nat.le_refl _)) ho
  ·rw [hl,if_neg]
   intro e
   rcases hm with q | q
   ·exact q e.symm
   ·exact q hh
  ·simp only [Heap.apply] at hm
   rw [hl,if_neg (by omega)]
   exact rh.fresh m (by omega)
 ·intro ow how
  refine ⟨upd ow H.next (rootO W.nx wo),fun c hc => upd_ne _ _ (by omega),fun n o' h1 h2 => ?_,fun m hm' => ?_,fun p hp => ?_⟩
  ·rw [lk_cons] at h1
   by_cases hn : W.nx = n
   ·rw [if_pos hn] at h1
    cases h1
    subst hn
    have : (R.add H.next x).ob W.nx = H.next := by rw [rh.nx]; exact upd_at _ _ _
    rw [this]
    exact upd_at _ _ _
   ·rw [if_neg hn] at h1
    have hne : n ≠ R.nx := fun e => hn (by rw [rh.nx,e])
    have h3 : hasO R n o' := h2.move (upd_ne _ _ hne)
    have h4 := rh.ob_lt h1 h3
    have h5 : (R.add H.next x).ob n = R.ob n := upd_ne _ _ hne
    rw [h5,upd_ne _ _ (by omega)]
    exact how n o' (sub _ _ h1) h3
  ·obtain ⟨n,o',h1,h2,h3,h4⟩ := hm m hm'
   have := rh0.ob_lt h1 h2
   rw [h3] at this
   refine ⟨by simp [Heap.apply]; omega,?_⟩
   rw [upd_ne _ _ (by omega),← h3,how n o' h1 h2]
   exact h4
  ·simp only [List.mem_singleton] at hp
   subst hp
   refine ⟨by simp [Heap.apply]; omega,?_⟩
   show upd ow H.next (rootO W.nx wo) H.next ∈ _
   rw [upd_at]
   exact hr
theorem step_new {x : AV} {wo : WO} {ao : AO} {rd : List Nat} {e : WE} {v : WV} (rh : RelH R W H) (hp : isPlain o) (hk : K v ⟨(W.nx,wo) :: W.objs,W.nx + 1⟩ e)
  (h : aop tab (look Tc) H H.next o = some ⟨x,.loc rd [(H.next,ao)] 1⟩) (hv : WR (R.add H.next x) v x) (hr : rootO W.nx wo ∈ e.wr) (hh : hasO (R.add H.next x) R.nx wo)
  (hm : ∀ m ∈ rd,∃ n o,lk W.objs n = some o ∧ hasO R n o ∧ R.ob n = m ∧ (rootO n o ∈ e.rd ∨ rootO n o ∈ e.wr))
  (ho : ObjR (R.add H.next x) (H.apply (.loc rd [(H.next,ao)] 1)) R.nx wo) : Stepped P tab R W H Tc o K := step_new0 rh (fun _ _ h => h) rh hp hk h hv hr hh hm ho
theorem newBox_sound (rh : RelH R W H) (hp : isPlain o) {cs : List WV} {xs : List AV} (hx : WRs R cs xs) (ha : aop tab (look Tc) H H.next o = some ⟨.pt H.next 1 0 0,.loc [] [(H.next,.cells [xs] xs.length 0)] 1⟩) (h : newBox W cs K) :
  Stepped P tab R W H Tc o K := by
 have hl := (wrs_all2.1 hx).length
 refine step_new rh hp (h : K _ _ _) ha ?_ (by simp [rootO]) trivial (fun _ h => by cases h) ?_
 ·refine .box (by rw [rh.nx]; exact Nat.lt_succ_self _) rfl fun _ => ?_
  rw [rh.nx]
  show _ = AV.pt ((R.add H.next _).ob R.nx) 1 0 0
  rw [show (R.add H.next (.pt H.next 1 0 0)).ob R.nx = H.next from upd_at _ _ _]
 ·refine ⟨xs,0,?_,hx.mono (Rn.add_le _ _),Nat.zero_le _,fun _ => rfl⟩
  rw [show (R.add H.next (.pt H.next 1 0 0)).ob R.nx = H.next from upd_at _ _ _,hl]
  exact (look_put _ _ _ _).trans (by rw [if_pos rfl])
theorem alloc_sound (rh : RelH R W H) {t : TypeId} (ho : o.op = .alloc t) (h : allocW tab W K t) : Stepped P tab R W H Tc o K := by
 have hp : isPlain o := plain_op (fun c hc => by rw [ho] at hc; cases hc) (fun x hc => by rw [ho] at hc; cases hc)
 unfold allocW at h
 split at h
 ·rename_i d hd
  split at h
  ·exact h.elim
  ·rename_i hk
   refine newBox_sound rh hp (zeroN_ok d 0).wrs ?_ h
   simp only [aop,ho,hd,newVarA,hk]
  ·rename_i hk
   refine newBox_sound rh hp (zero_ok d).wrs ?_ h
   simp only [aop,ho,hd,newVarA]
 ·exact h.elim
theorem bind_some {α β : Type} {x : Option α} {f : α → Option β} {b : β} (h : x.bind f = some b) : ∃ a,x = some a ∧ f a = some b := by
 cases x with
 | none => cases h
 | some a => exact ⟨a,rfl,h⟩
theorem beq_of_bif {b : Bool} {X : Prop} (h : bif b then X else False) : b = true ∧ X := by
 cases b with
 | true => exact ⟨rfl,h⟩
 | false => exact h.elim
theorem box_sound (rt : RelT R T Tc) (rh : RelH R W H) {t : TypeId} {x : Operand} (ho : o.op = .box t x) (h : boxW tab T W K t x) : Stepped P tab R W H Tc o K := by
 have hp : isPlain o := plain_op (fun c hc => by rw [ho] at hc; cases hc) (fun x hc => by rw [ho] at hc; cases hc)
 unfold boxW at h
 split at h
 ·rename_i d cs hd hcs
  obtain ⟨v,hv,hc⟩ := bind_some hcs
  obtain ⟨y,hy,hr⟩ := ev_ok rt hv
  obtain ⟨xs,hxs,hrs⟩ := cells_ok hr hc
  split at h
  ·exact h.elim
  ·rename_i hk
   obtain ⟨hb,h⟩ := beq_of_bif h
   have hl : xs.length = d.size := by rw [← (wrs_all2.1 hrs).length]; exact Nat.eq_of_beq_eq_true hb
   refine newBox_sound rh hp hrs ?_ h
   simp only [aop,ho,hd,hy,hxs,if_pos hl,newVarA]
 ·exact h.elim
theorem mapO_ok (rt : RelT R T Tc) : ∀ {l : List (Nat × Operand)} {ps : List (Nat × WV)},mapO (fun p : Nat × Operand => (evW T p.2).map fun v => (p.1,v)) l = some ps →
  ∃ qs,mapOpt (fun p : Nat × Operand => (aev (look Tc) p.2).map fun v => (p.1,v)) l = some qs ∧ All2 (fun a b => a.1 = b.1 ∧ WR R a.2 b.2) ps qs
 | [],_,h => by cases h; exact ⟨[],rfl,.nil⟩
 | p :: l,ps,h => by
  simp only [mapO] at h
  split at h
  ·cases h
  ·rename_i a ha
   split at h
   ·cases h
   ·rename_i bs hbs
    cases h
    cases hv : evW T p.2 with
    | none => rw [hv] at ha; cases ha
    | some v =>
     rw [hv] at ha
     cases ha
     obtain ⟨y,hy,hr⟩ := ev_ok rt hv
     obtain ⟨qs,hq,hqr⟩ := mapO_ok rt hbs
     exact ⟨(p.1,y) :: qs,by simp [mapOpt,hy,hq],.cons ⟨rfl,hr⟩ hqr⟩
theorem fill_ok {place : Nat → Option (Nat × Nat)} : ∀ {ps : List (Nat × WV)} {qs : List (Nat × AV)} {cs cs' : List WV} {xs : List AV},All2 (fun a b => a.1 = b.1 ∧ WR R a.2 b.2) ps qs → WRs R cs xs → fillW place ps cs = some cs' →
  ∃ xs',fillParts place xs qs = some xs' ∧ WRs R cs' xs'
 | _,_,cs,cs',xs,.nil,hx,h => by cases h; exact ⟨xs,rfl,hx⟩
 | (i,v) :: ps,(j,y) :: qs,cs,cs',xs,.cons hh hs,hx,h => by
  obtain ⟨rfl,hr⟩ := hh
  simp only [fillW] at h
  split at h
  ·rename_i off size new hpl hc
   obtain ⟨ys,hy,hyr⟩ := cells_ok hr hc
   cases hb : (Nat.beq new.length size && Nat.ble (off + size) cs.length) with
   | false => rw [hb] at h; cases h
   | true =>
    rw [hb] at h
    simp only [Bool.and_eq_true] at hb
    have h1 : ys.length = size := by rw [← (wrs_all2.1 hyr).length]; exact Nat.eq_of_beq_eq_true hb.1
    have h2 : off + size ≤ xs.length := by rw [← (wrs_all2.1 hx).length]; exact Nat.le_of_ble_eq_true hb.2
    obtain ⟨xs',h3,h4⟩ := fill_ok hs (splice_ok hx off hyr) h
    refine ⟨xs',?_,h4⟩
    simp only [fillParts,hpl,hy]
    rw [if_pos ⟨h1,h2⟩]
    exact h3
  ·cases h
theorem set_ok {s : Nat} : ∀ {ps : List (Nat × WV)} {qs : List (Nat × AV)} {cs cs' : List (List WV)} {xs : List (List AV)},All2 (fun a b => a.1 = b.1 ∧ WR R a.2 b.2) ps qs → WRss R cs xs → (∀ e ∈ cs,e.length = s) → setW s ps cs = some cs' →
  ∃ xs',setParts s xs qs = some xs' ∧ WRss R cs' xs' ∧ (∀ e ∈ cs',e.length = s) ∧ cs'.length = cs.length
 | _,_,cs,cs',xs,.nil,hx,hs,h => by cases h; exact ⟨xs,rfl,hx,hs,rfl⟩
 | (i,v) :: ps,(j,y) :: qs,cs,cs',xs,.cons hh hss,hx,hs,h => by
  obtain ⟨rfl,hr⟩ := hh
  simp only [setW] at h
  split at h
  ·rename_i new hc
   obtain ⟨ys,hy,hyr⟩ := cells_ok hr hc
   cases hb : (Nat.beq new.length s && Nat.blt i cs.length) with
   | false => rw [hb] at h; cases h
   | true =>
    rw [hb] at h
    simp only [Bool.and_eq_true] at hb
    have h0 : new.length = s := Nat.eq_of_beq_eq_true hb.1
    have h1 : ys.length = s := by rw [← (wrs_all2.1 hyr).length]; exact h0
    have h2 : i < xs.length := by rw [← All2.length hx]; exact Nat.blt_eq.mp hb.2
    obtain ⟨xs',h3,h4,h5,h6⟩ := set_ok hss (All2.set hx i hyr) (fun e he => by
     rcases List.mem_or_eq_of_mem_set he with q | rfl
     ·exact hs e q
     ·exact h0) h
    refine ⟨xs',?_,h4,h5,by rw [h6]; simp⟩
    simp only [setParts,hy]
    rw [if_pos ⟨h1,h2⟩]
    exact h3
  ·cases h
theorem build_sound (rt : RelT R T Tc) (rh : RelH R W H) {t : TypeId} {parts : Array (Nat × Operand)} (ho : o.op = .build t parts) (h : buildW tab T W K t parts) : Stepped P tab R W H Tc o K := by
 have hp : isPlain o := plain_op (fun c hc => by rw [ho] at hc; cases hc) (fun x hc => by rw [ho] at hc; cases hc)
 unfold buildW at h
 split at h
 ·rename_i d ps hd hps
  obtain ⟨qs,hq,hqr⟩ := mapO_ok rt hps
  split at h
  ·rename_i fs hk
   split at h
   ·rename_i cs hcs
    have hz : PRs (bif rawB t ps then zeroN d 6 else zeroW d) (d.zero.map .sc) := by
     cases rawB t ps
     ·exact zero_ok d
     ·exact zeroN_ok d 6
    obtain ⟨xs,hx,hxr⟩ := fill_ok hqr hz.wrs hcs
    refine step_quiet rh hp h ?_ (.agg hxr)
    unfold placeW at hx
    simp only [aop,ho,hd,hq,hk,hx]
   ·exact h.elim
  ·exact h.elim
 ·exact h.elim
theorem rows_sound (rt : RelT R T Tc) (rh : RelH R W H) {t : TypeId} {len : Nat} {parts : Array (Nat × Operand)} (ho : o.op = .buildSlice t len parts) (h : rowsW tab T W K t len parts) : Stepped P tab R W H Tc o K := by
 have hp : isPlain o := plain_op (fun c hc => by rw [ho] at hc; cases hc) (fun x hc => by rw [ho] at hc; cases hc)
 unfold rowsW at h
 split at h
 ·rename_i de ps hd hps
  obtain ⟨d,hd1,hd2⟩ := bind_some hd
  obtain ⟨qs,hq,hqr⟩ := mapO_ok rt hps
  split at h
  ·rename_i es hes
   obtain ⟨hb,h⟩ := beq_of_bif h
   simp only [Bool.and_eq_true,Bool.not_eq_true'] at hb
   obtain ⟨⟨b1,b2⟩,b3⟩ := hb
   have c1 : de.zero.length = de.size := Nat.eq_of_beq_eq_true b1
   have c2 : de.size ≠ 0 := Nat.ne_of_beq_eq_false b2
   have c3 : len * de.size ≤ 2 ^ 20 := Nat.le_of_ble_eq_true b3
   obtain ⟨xs,hx,hxr,hxl,hlen⟩ := set_ok hqr (All2.replicate len (zero_ok de).wrs) (fun e he => by
    rw [(List.mem_replicate.1 he).2]
    simp [zeroW,c1]) hes
   have hlx : xs.length = len := by rw [← All2.length hxr,hlen]; simp
   unfold elemD at hd2
   split at hd2
   ·rename_i te hk
    refine step_new rh hp (h : K _ _ _) (x := .sl H.next len 0 len (some len)) (ao := .cells xs de.size 0) (rd := []) ?_ ?_ (by simp [rootO]) ?_ (fun _ h => by cases h) ?_
    ·simp only [aop,ho,hd1,hq,hk,hd2]
     rw [if_pos ⟨c3,c1,c2⟩,hx]
    ·refine .row (by rw [rh.nx]; exact Nat.lt_succ_self _) rfl fun _ => ?_
     rw [rh.nx]
     exact (upd_at _ _ _).symm
    ·show (R.add _ _).av R.nx ≠ nilA
     rw [show (R.add H.next (.sl H.next len 0 len (some len))).av R.nx = _ from upd_at _ _ _]
     intro e; cases e
    ·refine ⟨hxl,.inr ⟨len,some len,xs,0,?_,?_,hlx,WRss.mono (Rn.add_le _ _) hxr,.inr rfl,Nat.zero_le _,fun _ => rfl⟩⟩
     ·rw [show (R.add H.next (.sl H.next len 0 len (some len))).av R.nx = _ from upd_at _ _ _,show (R.add H.next (.sl H.next len 0 len (some len))).ob R.nx = _ from upd_at _ _ _]
     ·rw [show (R.add H.next (.sl H.next len 0 len (some len))).ob R.nx = _ from upd_at _ _ _]
      exact (look_put _ _ _ _).trans (by rw [if_pos rfl])
   ·cases hd2
  ·exact h.elim
 ·exact h.elim
end Go.Abs
end
section
namespace Go.Abs
variable {P : Program} {tab : Tab} {R : Rn} {T : WT} {W : WH} {H : Heap} {Tc : TL} {o : Oper} {K : WK}
theorem give_some {e : WE} {v : Option WV} (h : giveW W K e v) : ∃ x,v = some x ∧ K x W e := by
 unfold giveW at h
 split at h
 ·exact ⟨_,rfl,h⟩
 ·exact h.elim
theorem RelH.box_obj (rh : RelH R W H) {n : Nat} {cs : List WV} {fz : Bool} (h : lk W.objs n = some (.box cs fz)) : R.al n ∧ ∃ xs fz',look H.objs (R.ob n) = some (.cells [xs] cs.length fz') ∧ WRs R cs xs ∧ fz' ≤ 1 ∧ (fz = false → fz' = 0) := (rh.obj n _ h).2
theorem RelH.row_obj (rh : RelH R W H) {n : Nat} {es : List (List WV)} {s rt : Nat} {fz : Bool} (h : lk W.objs n = some (.row es s fz rt)) : R.al n ∧ (∀ e ∈ es,e.length = s) ∧ RowR R H n es s fz :=
 let ⟨_,h2,h3⟩ := rh.obj n _ h; ⟨h2,h3.1,h3.2⟩
theorem take_drop_ok {cs : List WV} {xs : List AV} (h : WRs R cs xs) (n k : Nat) : WRs R (takeW n (dropW k cs)) ((xs.drop k).take n) := by
 rw [takeW_eq,dropW_eq]
 exact wrs_all2.2 (((wrs_all2.1 h).drop k).take n)
theorem load_sound (rt : RelT R T Tc) (rh : RelH R W H) {t : TypeId} {a : Operand} (ho : o.op = .load t a) (h : loadW tab T W K t a) : Stepped P tab R W H Tc o K := by
 have hp : isPlain o := plain_op (fun c hc => by rw [ho] at hc; cases hc) (fun x hc => by rw [ho] at hc; cases hc)
 unfold loadW at h
 split at h
 ·rename_i d cs hd ha
  obtain ⟨v,hv,h⟩ := give_some h
  obtain ⟨y,hy,hr⟩ := ev_ok rt ha
  obtain ⟨xs,rfl,hx⟩ := hr.ipt_inv
  rw [takeW_eq] at hv
  have hxt : WRs R (cs.take d.size) (xs.take d.size) := wrs_all2.2 ((wrs_all2.1 hx.wrs).take _)
  obtain ⟨x,hx1,hx2⟩ := ofCells_ok hxt hv
  have hle : d.size ≤ xs.length := by
   have : (xs.take d.size).length = d.size := by
    unfold ofCells at hx1
    split at hx1
    ·assumption
    ·cases hx1
   rw [List.length_take] at this
   omega
  refine step_quiet rh hp h ?_ hx2
  simp only [aop,ho,hd,hy,loadA,readAt]
  rw [if_pos hle]
  simp only [hx1]
  rfl
 ·rename_i d n fo hd ha
  unfold loadBox at h
  split at h
  ·rename_i cs fz hcs
   obtain ⟨hb,h⟩ := beq_of_bif h
   obtain ⟨v,hv,h⟩ := give_some h
   obtain ⟨y,hy,hr⟩ := ev_ok rt ha
   obtain ⟨hal,xs,fz',hlook,hx,_⟩ := rh.box_obj hcs
   obtain rfl := hr.box_inv.2.2 hal
   obtain ⟨x,hx1,hx2⟩ := ofCells_ok (take_drop_ok hx d.size fo) hv
   have hle : fo + d.size ≤ cs.length := Nat.le_of_ble_eq_true hb
   refine step_read (rd := [R.ob n]) rh hp h ?_ hx2 (fun m hm => ?_)
   ·simp only [aop,ho,hd,hy,loadA,readAt,hlook,List.length_cons,List.length_nil,Nat.zero_add,if_true,List.getElem?_cons_zero]
    rw [if_pos hle]
    simp only [hx1]
   ·simp only [List.mem_singleton] at hm
    subst hm
    exact ⟨n,_,hcs,trivial,rfl,.inl (by simp [rootO])⟩
  ·exact h.elim
 ·rename_i d n i fo hd ha
  unfold loadElt at h
  split at h
  ·rename_i es s fz rt' hes
   obtain ⟨cs,hcs,h⟩ := h
   obtain ⟨hb,h⟩ := beq_of_bif h
   obtain ⟨v,hv,h⟩ := give_some h
   obtain ⟨y,hy,hr⟩ := ev_ok rt ha
   obtain ⟨hal,hlen,hrow⟩ := rh.row_obj hes
   obtain ⟨g,cap,hav,rfl⟩ := hr.elt_inv.2.2 hal
   rcases hrow with ⟨h1,_⟩ | ⟨g',cap',xs,fz',h1,hlook,hg,hx,_⟩
   ·rw [hav] at h1; cases h1
   rw [hav] at h1
   cases h1
   obtain ⟨x0,hx0,hx0r⟩ := All2.get hx hcs
   obtain ⟨x,hx1,hx2⟩ := ofCells_ok (take_drop_ok hx0r d.size fo) hv
   have hle : fo + d.size ≤ s := Nat.le_of_ble_eq_true hb
   refine step_read (rd := [R.ob n]) rh hp h ?_ hx2 (fun m hm => ?_)
   ·simp only [aop,ho,hd,hy,loadA,readAt,hlook]
    rw [if_pos hg,hx0]
    simp only []
    rw [if_pos hle]
    simp only [hx1]
   ·simp only [List.mem_singleton] at hm
    subst hm
    exact ⟨n,_,hes,(show R.av n ≠ nilA by rw [hav]; intro e; cases e),rfl,.inl (by simp [rootO])⟩
  ·exact h.elim
 ·exact h.elim
theorem relH_set (rh : RelH R W H) {n : Nat} {wo wo' : WO} {H' : Heap} (hn : lk W.objs n = some wo) (hh : hasO R n wo) (hH : ∀ m,m ≠ R.ob n → look H'.objs m = look H.objs m) (hf : ∀ m,H'.next ≤ m → look H'.objs m = none)
  (hk : hasO R n wo' ) (ho : ObjR R H' n wo') : RelH R ⟨(n,wo') :: W.objs,W.nx⟩ H' := by
 have old : ∀ {m : Nat} {o : WO},lk ((n,wo') :: W.objs) m = some o → m ≠ n → lk W.objs m = some o := fun {m o} h hne => by
  rw [lk_cons,if_neg (fun e => hne e.symm)] at h
  exact h
 have at_ : ∀ {m : Nat} {o : WO},lk ((n,wo') :: W.objs) m = some o → hasO R m o → ∃ p,lk W.objs m = some p ∧ hasO R m p := fun {m o} h q => by
  by_cases hne : m = n
  ·subst hne; exact ⟨wo,hn,hh⟩
  ·exact ⟨o,old h hne,q⟩
 refine ⟨rh.nx,fun m o h => ?_,fun m k o p h1 h2 h3 h4 e => ?_,hf⟩
 ·by_cases hne : m = n
  ·subst hne
   rw [lk_cons,if_pos rfl] at h
   cases h
   obtain ⟨q1,q2,_⟩ := rh.obj m _ hn
   exact ⟨q1,q2,ho⟩
  ·have h' := old h hne
   obtain ⟨q1,q2,q3⟩ := rh.obj m o h'
   exact ⟨q1,q2,q3.move (Rn.Le.refl R) rfl rfl fun q => hH _ fun e => hne (rh.inj m n _ _ h' hn q hh e)⟩
 ·obtain ⟨o',a1,a2⟩ := at_ h1 h3
  obtain ⟨p',b1,b2⟩ := at_ h2 h4
  exact rh.inj m k _ _ a1 b1 a2 b2 e
theorem step_set {wo wo' : WO} {ao : AO} {n : Nat} {e : WE} {v : WV} {x : AV} (rh : RelH R W H) (hp : isPlain o) (hn : lk W.objs n = some wo) (hh : hasO R n wo) (hk : K v ⟨(n,wo') :: W.objs,W.nx⟩ e)
  (h : aop tab (look Tc) H H.next o = some ⟨x,.loc [R.ob n] [(R.ob n,ao)] 0⟩) (hv : WR R v x) (hr : rootO n wo ∈ e.wr) (hrr : rootO n wo' = rootO n wo) (hh' : hasO R n wo')
  (ho : ObjR R (H.apply (.loc [R.ob n] [(R.ob n,ao)] 0)) n wo') : Stepped P tab R W H Tc o K := by
 have hlt := rh.ob_lt hn hh
 have hl : ∀ m,look (H.apply (.loc [R.ob n] [(R.ob n,ao)] 0)).objs m = if R.ob n = m then some ao else look H.objs m := fun m => look_put _ _ _ _
 refine ⟨v,_,e,hk,.none,x,_,R,stepOK_aop hp h,?_,Rn.Le.refl R,hv,?_,?_⟩
 ·obtain ⟨p,hp⟩ := rh.ob_look hn hh
  simp [okEff,hp]
 ·refine relH_set rh hn hh (fun m hm => by rw [hl,if_neg (fun e => hm e.symm)]) (fun m hm => ?_) hh' ho
  simp only [Heap.apply] at hm
  rw [hl,if_neg (by omega)]
  exact rh.fresh m (by omega)
 ·intro ow how
  have howr := how n wo hn hh
  refine ⟨ow,fun _ _ => rfl,fun m o' h1 h2 => ?_,fun m hm => ?_,fun p hp => ?_⟩
  ·rw [lk_cons] at h1
   by_cases hne : n = m
   ·subst hne
    rw [if_pos rfl] at h1
    cases h1
    rw [howr,hrr]
   ·rw [if_neg hne] at h1
    exact how m o' h1 h2
  ·simp only [List.mem_singleton] at hm
   subst hm
   exact ⟨by simp [Heap.apply]; omega,.inr (by rw [howr]; exact hr)⟩
  ·simp only [List.mem_singleton] at hp
   subst hp
   exact ⟨by simp [Heap.apply]; omega,by rw [howr]; exact hr⟩
theorem store_sound (rt : RelT R T Tc) (rh : RelH R W H) {t : TypeId} {a x : Operand} (ho : o.op = .store t a x) (h : storeW tab T W K t a x) : Stepped P tab R W H Tc o K := by
 have hp : isPlain o := plain_op (fun c hc => by rw [ho] at hc; cases hc) (fun x hc => by rw [ho] at hc; cases hc)
 unfold storeW at h
 split at h
 ·rename_i d n fo new hd ha hnew
  unfold storeBox at h
  split at h
  ·rename_i cs hcs
   obtain ⟨hb,h⟩ := beq_of_bif h
   simp only [Bool.and_eq_true] at hb
   obtain ⟨⟨b1,b2⟩,b3⟩ := hb
   obtain ⟨v,hv,hc⟩ := bind_some hnew
   obtain ⟨z,hz,hzr⟩ := ev_ok rt hv
   obtain ⟨ys,hys,hyr⟩ := cells_ok hzr hc
   obtain ⟨y,hy,hr⟩ := ev_ok rt ha
   obtain ⟨hal,xs,fz',hlook,hx,_,hz0⟩ := rh.box_obj hcs
   obtain rfl := hz0 rfl
   obtain rfl := hr.box_inv.2.2 hal
   have hln : new.length = d.size := Nat.eq_of_beq_eq_true b1
   have c1 : ys.length = d.size := by rw [← (wrs_all2.1 hyr).length]; exact hln
   have c2 : fo + d.size ≤ cs.length := Nat.le_of_ble_eq_true b2
   have c3 := storables_of b3 hyr
   refine step_set (wo' := .box (spliceW cs fo new) false) (ao := .cells [splice xs fo ys] cs.length 0) rh hp hcs trivial h ?_ (.pure .sc) (by simp [rootO]) rfl trivial ?_
   ·simp only [aop,ho,hd,hy,hz,storeA,hys,hlook,List.length_cons,List.length_nil,Nat.zero_add]
    rw [if_pos ⟨trivial,c1,c3,Nat.zero_le _⟩]
    simp only [List.getElem?_cons_zero]
    rw [if_pos c2]
    rfl
   ·have hlen : (spliceW cs fo new).length = cs.length := by
     rw [spliceW_eq]
     simp only [List.length_append,List.length_take,List.length_drop]
     omega
    refine ⟨splice xs fo ys,0,?_,splice_ok hx fo hyr,Nat.zero_le _,fun _ => rfl⟩
    rw [hlen]
    exact (look_put _ _ _ _).trans (by rw [if_pos rfl])
  ·exact h.elim
 ·rename_i d n i fo new hd ha hnew
  unfold storeElt at h
  split at h
  ·rename_i es s rt' hes
   obtain ⟨cs,hcs,h⟩ := h
   obtain ⟨hb,h⟩ := beq_of_bif h
   simp only [Bool.and_eq_true] at hb
   obtain ⟨⟨b1,b2⟩,b3⟩ := hb
   obtain ⟨zs,rfl,h⟩ := h
   obtain ⟨v,hv,hc⟩ := bind_some hnew
   obtain ⟨z,hz,hzr⟩ := ev_ok rt hv
   obtain ⟨ys,hys,hyr⟩ := cells_ok hzr hc
   obtain ⟨y,hy,hr⟩ := ev_ok rt ha
   obtain ⟨hal,hlen,hrow⟩ := rh.row_obj hes
   obtain ⟨g,cap,hav,rfl⟩ := hr.elt_inv.2.2 hal
   rcases hrow with ⟨h1,_⟩ | ⟨g',cap',xs,fz',h1,hlook,hg,hx,hcap,hfg,hfz⟩
   ·rw [hav] at h1; cases h1
   have h1' := h1
   rw [hav] at h1'
   cases h1'
   obtain rfl := hfz rfl
   obtain ⟨x0,hx0,hx0r⟩ := All2.get hx hcs
   have hln : new.length = d.size := Nat.eq_of_beq_eq_true b1
   have c1 : ys.length = d.size := by rw [← (wrs_all2.1 hyr).length]; exact hln
   have c2 : fo + d.size ≤ s := Nat.le_of_ble_eq_true b2
   have c3 := storables_of b3 hyr
   have hcl : cs.length = s := hlen cs (List.mem_of_getElem? hcs)
   have hh : hasO R n (.row es s false rt') := by intro e; rw [hav] at e; cases e
   refine step_set (wo' := .row (es.set i (spliceW cs fo new)) s false rt') (ao := .cells (xs.set i (splice x0 fo ys)) s 0) rh hp hes hh h ?_ (.pure .sc) (by simp [rootO]) rfl hh ?_
   ·simp only [aop,ho,hd,hy,hz,storeA,hys,hlook]
    rw [if_pos ⟨hg,c1,c3,Nat.zero_le _⟩,hx0]
    simp only []
    rw [if_pos c2]
    rfl
   ·refine ⟨fun e he => ?_,.inr ⟨g,cap,xs.set i (splice x0 fo ys),0,hav,(look_put _ _ _ _).trans (by rw [if_pos rfl]),by simpa using hg,All2.set hx i (splice_ok hx0r fo hyr),hcap,Nat.zero_le _,fun _ => rfl⟩⟩
    rcases List.mem_or_eq_of_mem_set he with q | rfl
    ·exact hlen e q
    ·rw [spliceW_eq]
     simp only [List.length_append,List.length_take,List.length_drop]
     omega
  ·exact h.elim
 ·exact h.elim
theorem alive_al (rh : RelH R W H) {n : Nat} (h : aliveB W n = true) : R.al n := by
 unfold aliveB at h
 split at h
 ·rename_i o ho; exact (rh.obj n o ho).2.1
 ·cases h
theorem nil_sound (rt : RelT R T Tc) (rh : RelH R W H) {x : Operand} (ho : o.op = .nilCheck x) (h : nilW' T W K x) : Stepped P tab R W H Tc o K := by
 have hp : isPlain o := plain_op (fun c hc => by rw [ho] at hc; cases hc) (fun x hc => by rw [ho] at hc; cases hc)
 unfold nilW' at h
 split at h
 ·rename_i cs hx
  obtain ⟨y,hy,hr⟩ := ev_ok rt hx
  have hr' := hr
  obtain ⟨xs,rfl,_⟩ := hr.ipt_inv
  exact step_quiet rh hp h (by simp [aop,ho,hy]) hr'
 ·rename_i n fo hx
  obtain ⟨hb,h⟩ := beq_of_bif h
  obtain ⟨y,hy,hr⟩ := ev_ok rt hx
  have hr' := hr
  obtain rfl := hr.box_inv.2.2 (alive_al rh hb)
  exact step_quiet rh hp h (by simp [aop,ho,hy]) hr'
 ·rename_i n i fo hx
  obtain ⟨hb,h⟩ := beq_of_bif h
  obtain ⟨y,hy,hr⟩ := ev_ok rt hx
  have hr' := hr
  obtain ⟨g,cap,_,rfl⟩ := hr.elt_inv.2.2 (alive_al rh hb)
  exact step_quiet rh hp h (by simp [aop,ho,hy]) hr'
 ·exact h.elim
theorem binOpA_int (op : BinOp) (t : TypeId) (c : Bool) (k j : IntKind) (a b : Int) : binOpA tab op t c (.sc (.int k a)) (.sc (.int j b)) = match pureVal (binOp op t (.int k a) (.int j b)) with | some v => quiet (.sc v) | none => none := by
 cases op <;> rfl
theorem binOpA_add (t : TypeId) (c : Bool) (a b : ByteArray) : binOpA tab .add t c (.sc (.string a)) (.sc (.string b)) = if a.size + b.size ≤ 2 ^ 60 then quiet (.sc (.string (a ++ b))) else none := rfl
theorem binOpA_str (op : BinOp) (hop : op ≠ .add) (t : TypeId) (c : Bool) (a b : ByteArray) : binOpA tab op t c (.sc (.string a)) (.sc (.string b)) = match pureVal (Op.stringOp op a b) with | some v => quiet (.sc v) | none => none := by
 cases op <;> first | rfl | exact absurd rfl hop
theorem binOpA_eql (t : TypeId) (c : Bool) (a b : Bool) : binOpA tab .eql t c (.sc (.bool a)) (.sc (.bool b)) = match tab t with | some d => (match eqA d c (.sc (.bool a)) (.sc (.bool b)) with | some b => quiet (.sc (.bool b)) | none => none) | none => none := rfl
theorem binOpA_neq (t : TypeId) (c : Bool) (a b : Bool) : binOpA tab .neq t c (.sc (.bool a)) (.sc (.bool b)) = match tab t with | some d => (match eqA d c (.sc (.bool a)) (.sc (.bool b)) with | some b => quiet (.sc (.bool (!b))) | none => none) | none => none := rfl
theorem map_some {α β : Type} {x : Option α} {f : α → β} {b : β} (h : x.map f = some b) : ∃ a,x = some a ∧ f a = b := by
 cases x with
 | none => cases h
 | some a => cases h; exact ⟨a,rfl,rfl⟩
theorem isBool_eq {d : TyD} (h : isBool d = true) : d.k = .bool := by
 unfold isBool at h
 split at h
 ·assumption
 ·cases h
theorem bin_sound (rt : RelT R T Tc) (rh : RelH R W H) {op : BinOp} {t u : TypeId} {x y : Operand} (ho : o.op = .binOp op t x y u) (h : binW tab T W K op t x y) : Stepped P tab R W H Tc o K := by
 have hp : isPlain o := plain_op (fun c hc => by rw [ho] at hc; cases hc) (fun x hc => by rw [ho] at hc; cases hc)
 unfold binW at h
 split at h
 ·rename_i es ha hb
  obtain ⟨x1,hx1,hr1⟩ := ev_ok rt ha
  obtain ⟨x2,hx2,hr2⟩ := ev_ok rt hb
  obtain rfl := hr2.sc_inv
  unfold nilB at h
  split at h
  ·rename_i hk
   obtain ⟨d,hd,hdk⟩ := map_some hk
   have hdk' : ∃ e,d.k = .slice e := by
    unfold isSlK at hdk
    split at hdk
    ·rename_i e he; exact ⟨e,he⟩
    ·cases hdk
   obtain ⟨e,he⟩ := hdk'
   rcases hr1.lst_inv with ⟨rfl,rfl⟩ | ⟨xs,c,rfl,hx⟩
   ·exact step_quiet rh hp (h true fun _ => rfl) (by simp only [aop,ho,hx1,hx2,binOpA,hd,eqA,nilEq,he]) (.pure .sc)
   ·exact step_quiet rh hp (h false fun e => by cases e) (by simp only [aop,ho,hx1,hx2,binOpA,hd,eqA,nilEq,he]) (.pure .sc)
  ·exact h.elim
 ·rename_i a b _ ha hb
  obtain ⟨x1,hx1,hr1⟩ := ev_ok rt ha
  obtain ⟨x2,hx2,hr2⟩ := ev_ok rt hb
  have fin : ∀ {v : WV} {z : AV},plainK v W K → binOpA tab op t (isConst x || isConst y) x1 x2 = quiet z → WR R v z → Stepped P tab R W H Tc o K := fun h1 h2 h3 =>
   step_quiet rh hp h1 (by simp only [aop,ho,hx1,hx2]; exact h2) h3
  have num : ∀ {v : WV},scBin tab op t a b = some v → K v W ⟨[],[]⟩ → Stepped P tab R W H Tc o K := fun {v} h1 h2 => by
   unfold scBin at h1
   split at h1
   ·obtain rfl := hr1.sc_inv
    obtain rfl := hr2.sc_inv
    obtain ⟨w,hw,rfl⟩ := map_some h1
    exact fin h2 (by rw [binOpA_int,hw]) (.pure .sc)
   ·obtain rfl := hr1.sc_inv
    obtain rfl := hr2.sc_inv
    split at h1
    ·rename_i hk
     obtain ⟨d,hd,hdk⟩ := map_some hk
     cases h1
     exact fin h2 (by rw [binOpA_eql,hd]; simp only [eqA,isBool_eq hdk]) (.pure .sc)
    ·rename_i hk
     obtain ⟨d,hd,hdk⟩ := map_some hk
     cases h1
     exact fin h2 (by rw [binOpA_neq,hd]; simp only [eqA,isBool_eq hdk]) (.pure .sc)
    ·cases h1
   ·cases h1
  unfold catW at h
  split at h
  ·obtain rfl := hr1.sc_inv
   obtain rfl := hr2.sc_inv
   split at h
   ·exact fin h.2 (by rw [binOpA_add,if_pos h.1]) (.pure .sc)
   ·rename_i hop
    obtain ⟨v,hv,h⟩ := give_some h
    obtain ⟨w,hw,rfl⟩ := map_some hv
    exact fin h (by rw [binOpA_str _ (fun e => hop e),hw]) (.pure .sc)
  ·obtain ⟨v,hv,h⟩ := give_some h
   exact num hv h
 ·exact h.elim
theorem un_sound (rt : RelT R T Tc) (rh : RelH R W H) {op : UnOp} {t : TypeId} {x : Operand} (ho : o.op = .unOp op t x) (h : unW T W K op x) : Stepped P tab R W H Tc o K := by
 have hp : isPlain o := plain_op (fun c hc => by rw [ho] at hc; cases hc) (fun x hc => by rw [ho] at hc; cases hc)
 unfold unW at h
 split at h
 ·rename_i v hv
  obtain ⟨y,hy,hr⟩ := ev_ok rt hv
  obtain rfl := hr.sc_inv
  split at h
  ·obtain ⟨z,hz,h⟩ := give_some h
   obtain ⟨w,hw,rfl⟩ := map_some hz
   exact step_quiet rh hp h (by simp only [aop,ho,hy,hw]) (.pure .sc)
  ·obtain ⟨z,hz,h⟩ := give_some h
   obtain ⟨w,hw,rfl⟩ := map_some hz
   exact step_quiet rh hp h (by simp only [aop,ho,hy,hw]) (.pure .sc)
  ·exact h.elim
 ·exact h.elim
theorem fieldOf_ok {t : TypeId} {f off : Nat} {dt : TyD} (h : fieldOf tab t f = some (off,dt)) : ∃ d fs t',tab t = some d ∧ d.k = .strct fs ∧ fs[f]? = some (off,t') ∧ tab t' = some dt := by
 unfold fieldOf at h
 split at h
 ·rename_i d hd
  split at h
  ·rename_i fs hk
   split at h
   ·rename_i off' t' hf
    obtain ⟨dt',h1,h2⟩ := map_some h
    cases h2
    exact ⟨d,fs,t',hd,hk,hf,h1⟩
   ·cases h
  ·cases h
 ·cases h
theorem fieldAddr_sound (rt : RelT R T Tc) (rh : RelH R W H) {t : TypeId} {x : Operand} {f : Nat} (ho : o.op = .fieldAddr t x f) (h : fieldAddrW tab T W K t x f) : Stepped P tab R W H Tc o K := by
 have hp : isPlain o := plain_op (fun c hc => by rw [ho] at hc; cases hc) (fun x hc => by rw [ho] at hc; cases hc)
 unfold fieldAddrW at h
 split at h
 ·rename_i off dt a hf ha
  obtain ⟨d,fs,t',hd,hk,hff,ht'⟩ := fieldOf_ok hf
  obtain ⟨y,hy,hr⟩ := ev_ok rt ha
  cases hz : Nat.beq dt.size 0 with
  | true => rw [hz] at h; exact h.elim
  | false =>
   rw [hz] at h
   have hsz : dt.size ≠ 0 := Nat.ne_of_beq_eq_false hz
   simp only [cond_false] at h
   unfold faddr at h
   split at h
   ·rename_i cs
    obtain ⟨hb,h⟩ := beq_of_bif h
    obtain ⟨xs,rfl,hx⟩ := hr.ipt_inv
    have hle : off + dt.size ≤ xs.length := by rw [← (prs_all2.1 hx).length]; exact Nat.le_of_ble_eq_true hb
    refine step_quiet rh hp h (x := .ipt (xs.drop off)) ?_ (.pure (.ipt ?_))
    ·simp only [aop,ho,hd,hy,fieldAtA,hk,hff,ht']
     rw [if_neg hsz,if_pos hle]
    ·rw [dropW_eq]; exact prs_all2.2 ((prs_all2.1 hx).drop off)
   ·rename_i n fo
    obtain ⟨hb,h⟩ := beq_of_bif h
    obtain ⟨q1,q2,q3⟩ := hr.box_inv
    obtain rfl := q3 (alive_al rh hb)
    refine step_quiet rh hp h (x := .pt (R.ob n) 1 0 (fo + off)) ?_ (.box q1 rfl fun _ => rfl)
    simp only [aop,ho,hd,hy,fieldAtA,hk,hff,ht']
    rw [if_neg hsz]
   ·rename_i n i fo
    obtain ⟨hb,h⟩ := beq_of_bif h
    obtain ⟨q1,q2,q3⟩ := hr.elt_inv
    obtain ⟨g,cap,hav,rfl⟩ := q3 (alive_al rh hb)
    refine step_quiet rh hp h (x := .pt (R.ob n) g i (fo + off)) ?_ (.elt q1 rfl fun _ => ⟨g,cap,hav,rfl⟩)
    simp only [aop,ho,hd,hy,fieldAtA,hk,hff,ht']
    rw [if_neg hsz]
   ·exact h.elim
 ·exact h.elim
theorem field_sound (rt : RelT R T Tc) (rh : RelH R W H) {t : TypeId} {x : Operand} {f : Nat} (ho : o.op = .field t x f) (h : fieldW tab T W K t x f) : Stepped P tab R W H Tc o K := by
 have hp : isPlain o := plain_op (fun c hc => by rw [ho] at hc; cases hc) (fun x hc => by rw [ho] at hc; cases hc)
 unfold fieldW at h
 split at h
 ·rename_i off dt cs hf ha
  obtain ⟨d,fs,t',hd,hk,hff,ht'⟩ := fieldOf_ok hf
  obtain ⟨y,hy,hr⟩ := ev_ok rt ha
  obtain ⟨xs,rfl,hx⟩ := hr.agg_inv
  obtain ⟨hb,h⟩ := beq_of_bif h
  have hle : off + dt.size ≤ xs.length := by rw [← (wrs_all2.1 hx).length]; exact Nat.le_of_ble_eq_true hb
  obtain ⟨v,hv,h⟩ := give_some h
  obtain ⟨z,hz1,hz2⟩ := ofCells_ok (take_drop_ok hx dt.size off) hv
  refine step_quiet rh hp h ?_ hz2
  simp only [aop,ho,hd,hy,fieldA,hk,hff,partA,ht']
  rw [if_pos hle]
  simp only [hz1]
 ·exact h.elim
theorem elemD_ok {t : TypeId} {de : TyD} (h : (tab t).bind (elemD tab) = some de) : ∃ d e,tab t = some d ∧ d.k = .slice e ∧ tab e = some de := by
 obtain ⟨d,h1,h2⟩ := bind_some h
 unfold elemD at h2
 split at h2
 ·rename_i e hk; exact ⟨d,e,h1,hk,h2⟩
 ·cases h2
theorem prss_get {es : List (List WV)} {xs : List (List AV)} (h : PRss es xs) {i : Nat} {c : List WV} (hc : es[i]? = some c) : ∃ x,xs[i]? = some x ∧ PRs c x := (prss_all2.1 h).get hc
theorem indexAddr_sound (rt : RelT R T Tc) (rh : RelH R W H) {t : TypeId} {x i : Operand} (ho : o.op = .indexAddr t x i) (h : indexAddrW tab T W K t x i) : Stepped P tab R W H Tc o K := by
 have hp : isPlain o := plain_op (fun c hc => by rw [ho] at hc; cases hc) (fun x hc => by rw [ho] at hc; cases hc)
 unfold indexAddrW at h
 split at h
 ·rename_i de es k iv hd hx hi
  obtain ⟨d,e,hd1,hk,hde⟩ := elemD_ok hd
  obtain ⟨y,hy,hr⟩ := ev_ok rt hx
  obtain ⟨z,hz,hrz⟩ := ev_ok rt hi
  obtain rfl := hrz.sc_inv
  obtain ⟨h0,cs,hcs,hlen,h⟩ := h
  rcases hr.lst_inv with ⟨rfl,rfl⟩ | ⟨xs,c,rfl,hxs⟩
  ·simp at hcs
  obtain ⟨x0,hx0,hx0r⟩ := prss_get hxs hcs
  have hl : x0.length = de.size := by rw [← (prs_all2.1 hx0r).length]; exact hlen
  refine step_quiet rh hp h (x := .ipt x0) ?_ (.pure (.ipt hx0r))
  simp only [aop,ho,hd1,hy,hz,intOf,indexAtA,hk,hde]
  rw [if_pos h0,hx0]
  simp only []
  rw [if_pos hl]
 ·rename_i de n k iv hd hx hi
  obtain ⟨d,e,hd1,hk,hde⟩ := elemD_ok hd
  obtain ⟨y,hy,hr⟩ := ev_ok rt hx
  obtain ⟨z,hz,hrz⟩ := ev_ok rt hi
  obtain rfl := hrz.sc_inv
  unfold idxRow at h
  split at h
  ·rename_i es s fz rt' hes
   obtain ⟨hb,h0,hlt,h⟩ := beq_of_bif h
   obtain ⟨q1,q2,q3⟩ := hr.row_inv
   obtain ⟨hal,hlen,hrow⟩ := rh.row_obj hes
   have hs : s = de.size := Nat.eq_of_beq_eq_true hb
   rcases hrow with ⟨_,rfl⟩ | ⟨g,cap,xs,fz',hav,hlook,hg,hxs,_⟩
   ·simp at hlt
   have hq := q3 hal
   rw [hav] at hq
   subst hq
   have hgl : g = es.length := by rw [All2.length hxs,hg]
   refine step_read (rd := [R.ob n]) (x := .pt (R.ob n) g iv.toNat 0) rh hp h ?_ (.elt q1 rfl fun _ => ⟨g,cap,hav,rfl⟩) (fun m hm => ?_)
   ·simp only [aop,ho,hd1,hy,hz,intOf,indexAtA,hk,hde,hlook]
    rw [if_pos ⟨hg,hs,h0,by omega,by omega⟩]
    simp [reads]
   ·simp only [List.mem_singleton] at hm
    subst hm
    exact ⟨n,_,hes,(show R.av n ≠ nilA by rw [hav]; intro e; cases e),rfl,.inl (by simp [rootO])⟩
  ·exact h.elim
 ·exact h.elim
theorem isStr_eq {d : TyD} (h : isStr d = true) : d.k = .str := by
 unfold isStr at h
 split at h
 ·assumption
 ·cases h
theorem index_sound (rt : RelT R T Tc) (rh : RelH R W H) {t : TypeId} {x i : Operand} (ho : o.op = .index t x i) (h : indexW tab T W K t x i) : Stepped P tab R W H Tc o K := by
 have hp : isPlain o := plain_op (fun c hc => by rw [ho] at hc; cases hc) (fun x hc => by rw [ho] at hc; cases hc)
 unfold indexW at h
 split at h
 ·rename_i d s k iv hd hx hi
  obtain ⟨hb,h0,b,hbb,h⟩ := beq_of_bif h
  obtain ⟨y,hy,hr⟩ := ev_ok rt hx
  obtain ⟨z,hz,hrz⟩ := ev_ok rt hi
  obtain rfl := hrz.sc_inv
  obtain rfl := hr.sc_inv
  refine step_quiet rh hp h ?_ (.pure .sc)
  simp only [aop,ho,hd,hy,hz,intOf,indexA,isStr_eq hb]
  rw [if_pos h0,hbb]
 ·exact h.elim
end Go.Abs
end
