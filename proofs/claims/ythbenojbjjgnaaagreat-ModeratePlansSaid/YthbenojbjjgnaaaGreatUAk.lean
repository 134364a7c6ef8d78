/- The walking machine: a loop over an iterator. -/
import Derived.Test.YthbenojbjjgnaaaGreatUAj
import Derived.Test.YthbenojbjjgnaaaGreatUAg
set_option linter.unusedVariables false
set_option linter.unusedSimpArgs false
set_option linter.unusedSectionVars false
section
namespace Go.Abs
noncomputable section
variable {P : Program} {tab : Tab} {R : Rn} {T : WT} {W : WH} {H : Heap} {Tc : TL} {k : FK} {N n0 : Nat}
def axOf : WX → AX
 | .normal => .normal
 | .exit id => .exit id
 | .ret => .ret
def codeDst (N : Nat) : Code → Bool
 | .region _ ops _ => dstOk N ops.toList
 | .seq a b => codeDst N a && codeDst N b
 | .cond _ a b => codeDst N a && codeDst N b
 | .block _ a => codeDst N a
 | .loop a => codeDst N a
 | .scope a => codeDst N a
 | _ => true
def Comes (P : Program) (N : Nat) (c : Code) (R : Rn) (W : WH) (Tc : TL) (H : Heap) (Q : WQ) : Prop :=
 ∃ x R' T' W' Tc' H',(∀ k n0,CW P k N n0 c Tc H (exactly (axOf x) Tc' H')) ∧ RelT R' T' Tc' ∧ RelH R' W' H' ∧ Kept R W H R' W' H' ∧ Q x T' W'
inductive LoopW (P : Program) (x : Code) (T : WT) (W : WH) (Q : WQ) : Prop
 | mk (h : ∀ N R Tc H,codeDst N x = true → RelT R T Tc → RelH R W H → Comes P N (.loop x) R W Tc H Q)
def afterW (Q : WQ) (K : WT → WH → Prop) : WQ := fun e T H => match e with | .normal => K T H | .exit id => Q (.exit id) T H | .ret => Q .ret T H
def blockW (id : Nat) (Q : WQ) : WQ := fun e T H => match e with | .normal => Q .normal T H | .exit id' => (bif Nat.beq id' id then Q .normal T H else Q (.exit id') T H) | .ret => Q .ret T H
def condW (T : WT) (c : Operand) (X Y : Prop) : Prop := match evW T c with
 | some (.sc (.bool b)) => both b X Y
 | _ => False
def Wk (P : Program) (tab : Tab) (c : Code) : WT → WH → WQ → Prop := Code.rec (motive := fun _ => WT → WH → WQ → Prop)
 (fun T H Q => Q .normal T H)
 (fun _ ops draw T H Q => regionW P tab ops draw T H Q)
 (fun _ _ wx wy T H Q => wx T H (afterW Q fun T' H' => wy T' H' Q))
 (fun c _ _ wx wy T H Q => condW T c (wx T H Q) (wy T H Q))
 (fun id _ wx T H Q => wx T H (blockW id Q))
 (fun x _ T H Q => LoopW P x T H Q)
 (fun _ _ _ _ _ _ _ _ _ => False)
 (fun id T H Q => Q (.exit id) T H)
 (fun _ wx T H Q => wx T H Q)
 (fun _ T H Q => Q .normal T H)
 (fun _ _ _ _ => False)
 (fun T H Q => Q .ret T H)
 (fun _ _ _ _ => False)
 c
theorem region_comes (tabOk : TabOK P tab) (hm : P.follows .mixedOrders = true) {id : Nat} {ops : Array Oper} {draw : Bool} {Q : WQ} (hd : dstOk N ops.toList = true) (rt : RelT R T Tc) (rh : RelH R W H) (h : regionW P tab ops draw T W Q) : Comes P N (.region id ops draw) R W Tc H Q := by
 unfold regionW at h
 obtain ⟨A,T',W',es,R',Tc',H',recs,q⟩ := opsW_sound ops.toList 0 R T W Tc H [] rt rh h
 obtain ⟨ow,how⟩ := owns_exists rh
 obtain ⟨ow',_,_,ht⟩ := q.told ow how
 have hf := q.fin
 rw [List.append_nil] at hf
 have hq : (draw = true → drawOk H ops ops.toList recs = true) ∧ Q .normal T' W' := by
  cases draw with
  | true =>
   obtain ⟨h1,h2⟩ := hf
   rw [List.reverse_reverse] at h1
   exact ⟨fun _ => draw_ok q.len q.ret ht h1,h2⟩
  | false => exact ⟨fun h => (by cases h),hf⟩
 refine ⟨.normal,R',T',W',Tc',H',fun k n0 => ?_,q.rt,q.rh,q.kept,hq.2⟩
 refine CW.region tabOk hm hd q.run hq.1 (fun rc hrc ob hob => ?_) (.inr fun rc hrc => ?_) ⟨rfl,rfl,rfl⟩
 ·obtain ⟨h1,h2⟩ := q.obs rc hrc ob hob
  cases ob <;> first | exact h1 | cases h2
 ·simp only [noRound,List.all_eq_true,Bool.not_eq_true']
  intro ob hob
  exact (q.obs rc hrc ob hob).2
theorem W_sound (tabOk : TabOK P tab) (hm : P.follows .mixedOrders = true) : ∀ (c : Code) (R : Rn) (T : WT) (W0 : WH) (Tc : TL) (H : Heap) (Q : WQ),codeDst N c = true → RelT R T Tc → RelH R W0 H → Wk P tab c T W0 Q → Comes P N c R W0 Tc H Q := by
 intro c
 induction c with
 | skip => intro R T W0 Tc H Q _ rt rh h; exact ⟨.normal,R,T,W0,Tc,H,fun k n0 => CW.skip ⟨rfl,rfl,rfl⟩,rt,rh,Kept.refl ..,h⟩
 | label l => intro R T W0 Tc H Q _ rt rh h; exact ⟨.normal,R,T,W0,Tc,H,fun k n0 => CW.label ⟨rfl,rfl,rfl⟩,rt,rh,Kept.refl ..,h⟩
 | exit id => intro R T W0 Tc H Q _ rt rh h; exact ⟨.exit id,R,T,W0,Tc,H,fun k n0 => CW.exit ⟨rfl,rfl,rfl⟩,rt,rh,Kept.refl ..,h⟩
 | ret => intro R T W0 Tc H Q _ rt rh h; exact ⟨.ret,R,T,W0,Tc,H,fun k n0 => CW.ret ⟨rfl,rfl,rfl⟩,rt,rh,Kept.refl ..,h⟩
 | goto l => intro R T W0 Tc H Q _ rt rh h; exact h.elim
 | refuse w => intro R T W0 Tc H Q _ rt rh h; exact h.elim
 | rangeFunc g ps a b => intro R T W0 Tc H Q _ rt rh h; exact h.elim
 | region id ops draw => intro R T W0 Tc H Q hd rt rh h; exact region_comes tabOk hm hd rt rh h
 | loop x => intro R T W0 Tc H Q hd rt rh h; cases h with | mk h => exact h N R Tc H hd rt rh
 | seq x y ihx ihy =>
  intro R T W0 Tc H Q hd rt rh h
  simp only [codeDst,Bool.and_eq_true] at hd
  obtain ⟨e,R1,T1,W1,Tc1,H1,h1,rt1,rh1,kp1,hq⟩ := ihx R T W0 Tc H _ hd.1 rt rh h
  cases e with
  | normal =>
   obtain ⟨e2,R2,T2,W2,Tc2,H2,h2,rt2,rh2,kp2,hq2⟩ := ihy R1 T1 W1 Tc1 H1 Q hd.2 rt1 rh1 hq
   refine ⟨e2,R2,T2,W2,Tc2,H2,fun k n0 => CW.seq ((h1 k n0).mono ?_),rt2,rh2,kp1.trans kp2,hq2⟩
   rintro e3 T3 H3 ⟨rfl,rfl,rfl⟩
   exact h2 k n0
  | exit id =>
   refine ⟨.exit id,R1,T1,W1,Tc1,H1,fun k n0 => CW.seq ((h1 k n0).mono ?_),rt1,rh1,kp1,hq⟩
   rintro e3 T3 H3 ⟨rfl,rfl,rfl⟩
   exact ⟨rfl,rfl,rfl⟩
  | ret =>
   refine ⟨.ret,R1,T1,W1,Tc1,H1,fun k n0 => CW.seq ((h1 k n0).mono ?_),rt1,rh1,kp1,hq⟩
   rintro e3 T3 H3 ⟨rfl,rfl,rfl⟩
   exact ⟨rfl,rfl,rfl⟩
 | cond c x y ihx ihy =>
  intro R T W0 Tc H Q hd rt rh h
  simp only [codeDst,Bool.and_eq_true] at hd
  have h : condW T c (Wk P tab x T W0 Q) (Wk P tab y T W0 Q) := h
  unfold condW at h
  split at h
  ·rename_i b hb
   obtain ⟨z,hz,hr⟩ := ev_ok rt hb
   obtain rfl := hr.sc_inv
   cases b with
   | true =>
    obtain ⟨e,R1,T1,W1,Tc1,H1,h1,q⟩ := ihx R T W0 Tc H Q hd.1 rt rh h
    exact ⟨e,R1,T1,W1,Tc1,H1,fun k n0 => CW.cond hz (h1 k n0),q⟩
   | false =>
    obtain ⟨e,R1,T1,W1,Tc1,H1,h1,q⟩ := ihy R T W0 Tc H Q hd.2 rt rh h
    exact ⟨e,R1,T1,W1,Tc1,H1,fun k n0 => CW.cond hz (h1 k n0),q⟩
  ·exact h.elim
 | block id x ihx =>
  intro R T W0 Tc H Q hd rt rh h
  simp only [codeDst] at hd
  obtain ⟨e,R1,T1,W1,Tc1,H1,h1,rt1,rh1,kp1,hq⟩ := ihx R T W0 Tc H _ hd rt rh h
  cases e with
  | normal =>
   refine ⟨.normal,R1,T1,W1,Tc1,H1,fun k n0 => CW.block ((h1 k n0).mono ?_),rt1,rh1,kp1,hq⟩
   rintro e3 T3 H3 ⟨rfl,rfl,rfl⟩
   exact ⟨rfl,rfl,rfl⟩
  | ret =>
   refine ⟨.ret,R1,T1,W1,Tc1,H1,fun k n0 => CW.block ((h1 k n0).mono ?_),rt1,rh1,kp1,hq⟩
   rintro e3 T3 H3 ⟨rfl,rfl,rfl⟩
   exact ⟨rfl,rfl,rfl⟩
  | exit id' =>
   have hq : bif Nat.beq id' id then Q .normal T1 W1 else Q (.exit id') T1 W1 := hq
   cases hb : Nat.beq id' id with
   | true =>
    rw [hb] at hq
    refine ⟨.normal,R1,T1,W1,Tc1,H1,fun k n0 => CW.block ((h1 k n0).mono ?_),rt1,rh1,kp1,hq⟩
    rintro e3 T3 H3 ⟨rfl,rfl,rfl⟩
    simp only [axOf,blockP]
    rw [if_pos (Nat.eq_of_beq_eq_true hb)]
    exact ⟨rfl,rfl,rfl⟩
   | false =>
    rw [hb] at hq
    refine ⟨.exit id',R1,T1,W1,Tc1,H1,fun k n0 => CW.block ((h1 k n0).mono ?_),rt1,rh1,kp1,hq⟩
    rintro e3 T3 H3 ⟨rfl,rfl,rfl⟩
    simp only [axOf,blockP]
    rw [if_neg (Nat.ne_of_beq_eq_false hb)]
    exact ⟨rfl,rfl,rfl⟩
 | scope x ihx =>
  intro R T W0 Tc H Q hd rt rh h
  simp only [codeDst] at hd
  obtain ⟨e,R1,T1,W1,Tc1,H1,h1,q⟩ := ihx R T W0 Tc H Q hd rt rh h
  refine ⟨e,R1,T1,W1,Tc1,H1,fun k n0 => CW.scope ((h1 k n0).mono ?_),q⟩
  rintro e3 T3 H3 ⟨rfl,rfl,rfl⟩
  cases e <;> exact ⟨rfl,rfl,rfl⟩
theorem putAll_upd : ∀ (ups : List (Nat × AO)) (objs : List (Nat × AO)) (f : Nat → Option AO) (m : Nat),(∀ m,look objs m = f m) → look (putAll objs ups) m = updAll f ups m
 | [],objs,f,m,h => h m
 | (n,o) :: r,objs,f,m,h => by
  simp only [putAll,updAll]
  refine putAll_upd r _ _ m fun m => ?_
  rw [look_put]
  unfold upd
  split
  ·rename_i e; rw [if_pos e.symm]
  ·rename_i e; rw [if_neg (fun q => e q.symm)]; exact h m
theorem CW.lend {c : Code} {Q : Post} {ms : List Nat} {Tc2 : TL} (hm : ∀ m ∈ ms,∃ o,look H.objs m = some o) (ht : ∀ t x,look Tc2 t = some x → look Tc t = some x ∨ ∃ y j ns,look Tc t = some y ∧ viewA H j y = some (x,ns) ∧ ∀ n ∈ ns,n ∈ ms)
  (h : CW P k N n0 c Tc2 ⟨putAll H.objs (marks H ms),H.next⟩ Q) : CW P k N n0 c Tc H Q := by
 intro B σ a ar
 have sp := ar.ss.toSP
 have hh : ∀ n ∈ ms,look H.objs n = σ.h n := fun n _ => by rw [sp.h]
 have le := le_lend sp.sr ms
 have sr' := sr_lend sp.sr ms
 have hσ : (σ.lend ms).h = look (putAll H.objs (marks H ms)) := by
  rw [lend_h hh hm]
  funext m
  exact (putAll_upd _ _ _ m fun m => by rw [sp.h]).symm
 have used : ∀ m,Used (σ.lend ms) m → Used σ m := fun m hu => by
  rcases hu with q | q
  ·refine .inl fun e => q ?_
   show (if m ∈ ms then (σ.h m).map frozenO else σ.h m) = none
   rw [e]; simp
  ·exact .inr q
 have fr : ∀ m,H.next ≤ m → (σ.lend ms).h m = none ∧ ¬ (σ.lend ms).dead m := fun m hm' => by
  obtain ⟨q1,q2⟩ := sp.fresh m hm'
  refine ⟨?_,q2⟩
  show (if m ∈ ms then (σ.h m).map frozenO else σ.h m) = none
  rw [q1]; simp
 have ar' : Arr N n0 B (σ.lend ms) a Tc2 ⟨putAll H.objs (marks H ms),H.next⟩ := by
  refine ⟨⟨⟨sr',hσ,fr⟩,fun t x hx => ?_,ar.ss.size⟩,ar.n0,ar.mks.mono le sr',ar.hB⟩
  rcases ht t x hx with q | ⟨y,j,ns,q1,q2,q3⟩
  ·exact (ar.ss.tr t x q).mono le
  ·exact .tree (view_vr sp.sr j y x ns _ (ar.ss.tr t y q1) q2 (fun n _ => by rw [sp.h]) q3)
 exact wpIn_mono (h B (σ.lend ms) a ar') fun _ _ _ hq => hq.base ⟨le,fun m hm => .inl (used m hm)⟩ sr'
def Suits (T : WT) (W : WH) (T1 : WT) (W1 : WH) : Prop := ∀ R Tc H,RelT R T Tc → RelH R W H → ∃ R1 Tc1 H1,(∀ (P : Program) (k : FK) (N n0 : Nat) (c : Code) (Q : Post),CW P k N n0 c Tc1 H1 Q → CW P k N n0 c Tc H Q) ∧ RelT R1 T1 Tc1 ∧ RelH R1 W1 H1 ∧ Kept R W H R1 W1 H1
theorem loopW (tabOk : TabOK P tab) (hm : P.follows .mixedOrders = true) {x : Code} {Q : WQ} {S : Type} (sh : S → WT) (hp : S → WH) (I : S → Prop) (m : S → Nat) (s0 : S) (h0 : I s0) (fit : Suits T W (sh s0) (hp s0))
  (step : ∀ s,I s → Wk P tab x (sh s) (hp s) (fun e T' W' => match e with | .normal => ∃ s',I s' ∧ m s' < m s ∧ Suits T' W' (sh s') (hp s') | .exit id => Q (.exit id) T' W' | .ret => Q .ret T' W')) : LoopW P x T W Q := by
 refine ⟨fun N R Tc H hd rt rh => ?_⟩
 have : ∀ n s R Tc H,m s < n → I s → RelT R (sh s) Tc → RelH R (hp s) H → ∃ e R' T' W' Tc' H',(∀ k n0,CW.rounds P k N n0 x (exactly (axOf e) Tc' H') n Tc H) ∧ RelT R' T' Tc' ∧ RelH R' W' H' ∧ Kept R (hp s) H R' W' H' ∧ Q e T' W' := by
  intro n
  induction n with
  | zero => intro s R Tc H h; omega
  | succ n ih =>
   intro s R Tc H hlt hI rt rh
   obtain ⟨e,R1,T1,W1,Tc1,H1,h1,rt1,rh1,kp1,hq⟩ := W_sound tabOk hm x R (sh s) (hp s) Tc H _ hd rt rh (step s hI)
   cases e with
   | normal =>
    obtain ⟨s',hI',hlt',hfit⟩ := hq
    obtain ⟨R2,Tc2,H2,hgo,rt2,rh2,kp2⟩ := hfit R1 Tc1 H1 rt1 rh1
    obtain ⟨e,R3,T3,W3,Tc3,H3,h3,rt3,rh3,kp3,hq3⟩ := ih s' R2 Tc2 H2 (by omega) hI' rt2 rh2
    refine ⟨e,R3,T3,W3,Tc3,H3,fun k n0 => (h1 k n0).mono ?_,rt3,rh3,(kp1.trans kp2).trans kp3,hq3⟩
    rintro e4 T4 H4 ⟨rfl,rfl,rfl⟩
    have := h3 k n0
    cases n with
    | zero => exact this.elim
    | succ n => exact hgo P k N n0 x _ this
   | exit id =>
    refine ⟨.exit id,R1,T1,W1,Tc1,H1,fun k n0 => (h1 k n0).mono ?_,rt1,rh1,kp1,hq⟩
    rintro e4 T4 H4 ⟨rfl,rfl,rfl⟩
    exact ⟨rfl,rfl,rfl⟩
   | ret =>
    refine ⟨.ret,R1,T1,W1,Tc1,H1,fun k n0 => (h1 k n0).mono ?_,rt1,rh1,kp1,hq⟩
    rintro e4 T4 H4 ⟨rfl,rfl,rfl⟩
    exact ⟨rfl,rfl,rfl⟩
 obtain ⟨R1,Tc1,H1,hgo,rt1,rh1,kp0⟩ := fit R Tc H rt rh
 obtain ⟨e,R',T',W',Tc',H',h1,rt',rh',kp',hq'⟩ := this (m s0 + 1) s0 R1 Tc1 H1 (Nat.lt_succ_self _) h0 rt1 rh1
 exact ⟨e,R',T',W',Tc',H',fun k n0 => hgo P k N n0 _ _ (CW.loop _ (h1 k n0)),rt',rh',kp0.trans kp',hq'⟩
abbrev NM := List (Nat × Option Nat)
def backC (ns : NM) (v : WV) : Option WV := match v with
 | .row n => (match lk ns n with | some (some m) => some (.row m) | some none => some (.sc (.slice none 0 0)) | none => none)
 | .box n fo => (match lk ns n with | some (some m) => some (.box m fo) | _ => none)
 | .elt n i fo => (match lk ns n with | some (some m) => some (.elt m i fo) | _ => none)
 | .agg _ => none
 | .tup _ => none
 | .win _ _ _ _ => none
 | .fn _ _ _ => none
 | .mp n => (match lk ns n with | some (some m) => some (.mp m) | _ => none)
 | v => some v
def backV (ns : NM) (v : WV) : Option WV := match v with
 | .agg cs => bif cs.all leafB then some (.agg cs) else (mapO (backC ns) cs).map .agg
 | v => backC ns v
def fitT (ns : NM) (T : WT) : WT → Prop
 | [] => True
 | (t,v) :: r => (lk T t = backV ns v ∧ (backV ns v).isSome = true) ∧ fitT ns T r
def fitO (ns : NM) (W : WH) (n : Nat) (o : WO) : Prop := match lk ns n,o with
 | some (some m),.row es s fz _ => ∃ fz' rt',lk W.objs m = some (.row es s fz' rt') ∧ leafs es ∧ (fz = false → fz' = false)
 | some (some m),.box cs fz => ∃ cs' fz',mapO (backC ns) cs = some cs' ∧ lk W.objs m = some (.box cs' fz') ∧ (fz = false → fz' = false)
 | some none,.row es _ _ _ => es = []
 | some (some m),.set ks v => ∃ v0,lk W.objs m = some (.set ks v0) ∧ (v0 = none ∨ v0 = v)
 | _,_ => False
def fitH (ns : NM) (W : WH) : List (Nat × WO) → Prop
 | [] => True
 | (n,o) :: r => fitO ns W n o ∧ fitH ns W r
def nmOk (ns : NM) (nx : Nat) : Bool := ns.all (fun p => Nat.blt p.1 nx) && (ns.filterMap (fun p => p.2)).Nodup
theorem fitT_get {ns : NM} {T : WT} : ∀ {T1 : WT} {t : Nat} {v : WV},fitT ns T T1 → lk T1 t = some v → ∃ w,lk T t = some w ∧ backV ns v = some w
 | [],_,_,_,h => by cases h
 | (t',v') :: r,t,v,hf,h => by
  rw [lk_cons] at h
  split at h
  ·rename_i e
   subst e
   cases h
   obtain ⟨⟨h1,h2⟩,_⟩ := hf
   cases hb : backV ns v' with
   | none => rw [hb] at h2; cases h2
   | some w => exact ⟨w,h1.trans hb,rfl⟩
  ·exact fitT_get hf.2 h
theorem fitH_get {ns : NM} {W : WH} : ∀ {l : List (Nat × WO)} {n : Nat} {o : WO},fitH ns W l → lk l n = some o → fitO ns W n o
 | [],_,_,_,h => by cases h
 | (n',o') :: r,n,o,hf,h => by
  rw [lk_cons] at h
  split at h
  ·rename_i e; subst e; cases h; exact hf.1
  ·exact fitH_get hf.2 h
theorem nm_inj {ns : NM} : ∀ {a b m : Nat},(ns.filterMap (fun p => p.2)).Nodup → lk ns a = some (some m) → lk ns b = some (some m) → a = b := by
 have aux : ∀ (l : NM) (a m : Nat),lk l a = some (some m) → m ∈ l.filterMap (fun p => p.2) := fun l a m h => by
  have := lk_mem h
  simp only [List.mem_filterMap]
  exact ⟨_,this,rfl⟩
 induction ns with
 | nil => intro a b m _ h; cases h
 | cons p r ih =>
  intro a b m hn ha hb
  obtain ⟨c,q⟩ := p
  rw [lk_cons] at ha hb
  have hn' : (r.filterMap (fun p => p.2)).Nodup := by
   cases q with
   | none => simpa using hn
   | some q => simp only [List.filterMap_cons] at hn; exact (List.nodup_cons.1 hn).2
  split at ha
  ·rename_i e1
   split at hb
   ·rename_i e2; rw [← e1,← e2]
   ·cases ha
    exfalso
    simp only [List.filterMap_cons] at hn
    exact (List.nodup_cons.1 hn).1 (aux r b m hb)
  ·split at hb
   ·cases hb
    exfalso
    simp only [List.filterMap_cons] at hn
    exact (List.nodup_cons.1 hn).1 (aux r a m ha)
   ·exact ih hn' ha hb
def Rn.turn (R : Rn) (ns : NM) (nx : Nat) : Rn where
 nx := nx
 al := fun n => ∃ q,lk ns n = some q ∧ ∀ m,q = some m → R.al m
 ob := fun n => match lk ns n with | some (some m) => R.ob m | _ => 0
 av := fun n => match lk ns n with | some (some m) => R.av m | _ => nilA
theorem backC_ok {ns : NM} {nx : Nat} (hns : ∀ n q,lk ns n = some q → n < nx) {v w : WV} {x : AV} (h : backC ns v = some w) (hr : WR R w x) : WR (R.turn ns nx) v x := by
 unfold backC at h
 split at h
 ·rename_i n
  split at h
  ·rename_i m hm
   cases h
   obtain ⟨a,b,c⟩ := hr.row_inv
   refine .row (hns _ _ hm) b fun hal => ?_
   obtain ⟨q,hq,hq2⟩ := hal
   rw [hm] at hq
   cases hq
   have := c (hq2 m rfl)
   simp only [Rn.turn,hm]
   exact this
  ·rename_i hm
   cases h
   obtain rfl := hr.sc_inv
   refine .row (hns _ _ hm) rfl fun _ => ?_
   simp only [Rn.turn,hm]
   rfl
  ·cases h
 ·rename_i n fo
  split at h
  ·rename_i m hm
   cases h
   obtain ⟨a,b,c⟩ := hr.box_inv
   refine .box (hns _ _ hm) b fun hal => ?_
   obtain ⟨q,hq,hq2⟩ := hal
   rw [hm] at hq
   cases hq
   have := c (hq2 m rfl)
   simp only [Rn.turn,hm]
   exact this
  ·cases h
 ·rename_i n i fo
  split at h
  ·rename_i m hm
   cases h
   obtain ⟨a,b,c⟩ := hr.elt_inv
   refine .elt (hns _ _ hm) b fun hal => ?_
   obtain ⟨q,hq,hq2⟩ := hal
   rw [hm] at hq
   cases hq
   have := c (hq2 m rfl)
   simp only [Rn.turn,hm]
   exact this
  ·cases h
 ·cases h
 ·cases h
 ·cases h
 ·cases h
 ·rename_i n
  split at h
  ·rename_i m hm
   cases h
   obtain ⟨a,c⟩ := hr.mp_inv
   refine .mp (hns _ _ hm) fun hal => ?_
   obtain ⟨q,hq,hq2⟩ := hal
   rw [hm] at hq
   cases hq
   have := c (hq2 m rfl)
   simp only [Rn.turn,hm]
   exact this
  ·cases h
 ·rename_i n1 n2 n3 n4 n5 n6 n7 n8
  cases h
  cases hr with
  | pure h => exact .pure h
  | agg => exact absurd rfl (n4 _)
  | tup => exact absurd rfl (n5 _)
  | row => exact absurd rfl (n1 _)
  | box => exact absurd rfl (n2 _ _)
  | elt => exact absurd rfl (n3 _ _ _)
  | win => exact absurd rfl (n6 _ _ _ _)
  | fn => exact absurd rfl (n7 _ _ _)
  | mp => exact absurd rfl (n8 _)
theorem backCs_ok {ns : NM} {nx : Nat} (hns : ∀ n q,lk ns n = some q → n < nx) : ∀ {cs ds : List WV} {xs : List AV},mapO (backC ns) cs = some ds → WRs R ds xs → WRs (R.turn ns nx) cs xs
 | [],_,_,h,hr => by cases h; cases hr; exact .nil
 | c :: cs,ds,xs,h,hr => by
  simp only [mapO] at h
  split at h
  ·cases h
  ·rename_i a ha
   split at h
   ·cases h
   ·rename_i bs hbs
    cases h
    cases hr with
    | cons h1 h2 => exact .cons (backC_ok hns ha h1) (backCs_ok hns hbs h2)
theorem leafs_turn {R1 : Rn} {cs : List WV} {xs : List AV} (hl : cs.all leafB = true) (h : WRs R cs xs) : WRs R1 cs xs := (leaf_prs hl h).wrs
theorem backV_ok {ns : NM} {nx : Nat} (hns : ∀ n q,lk ns n = some q → n < nx) {v w : WV} {x : AV} (h : backV ns v = some w) (hr : WR R w x) : WR (R.turn ns nx) v x := by
 unfold backV at h
 split at h
 ·rename_i cs
  cases hb : cs.all leafB with
  | true =>
   rw [hb] at h
   cases h
   obtain ⟨xs,rfl,hx⟩ := hr.agg_inv
   exact .agg (leafs_turn hb hx)
  | false =>
   rw [hb] at h
   obtain ⟨ds,hds,rfl⟩ := map_some h
   obtain ⟨xs,rfl,hx⟩ := hr.agg_inv
   exact .agg (backCs_ok hns hds hx)
 ·exact backC_ok hns h hr
theorem suits_trans {T1 T2 : WT} {W1 W2 : WH} (h : Suits T W T1 W1) (h' : Suits T1 W1 T2 W2) : Suits T W T2 W2 := fun R Tc H rt rh => by
 obtain ⟨R1,Tc1,H1,g1,rt1,rh1,kp1⟩ := h R Tc H rt rh
 obtain ⟨R2,Tc2,H2,g2,rt2,rh2,kp2⟩ := h' R1 Tc1 H1 rt1 rh1
 exact ⟨R2,Tc2,H2,fun P k N n0 c Q q => g1 P k N n0 c Q (g2 P k N n0 c Q q),rt2,rh2,kp1.trans kp2⟩
theorem nil_suits (t : Nat) (h : lk T t = some (.sc (.slice none 0 0))) : Suits T W ((t,.lst []) :: T) W := fun R Tc H rt rh => by
 obtain ⟨x,hx,hr⟩ := rt t _ h
 obtain rfl := hr.sc_inv
 exact ⟨R,Tc,H,fun _ _ _ _ _ _ q => q,relT_cons rt hx (.pure .emp),rh,Kept.refl ..⟩
theorem lend_suits (t : Nat) {m s rt' : Nat} {es : List (List WV)} {fz : Bool} (h1 : lk T t = some (.row m)) (h2 : lk W.objs m = some (.row es s fz rt')) (hl : leafs es) : Suits T W ((t,.lst es) :: T) ⟨freezeW W.objs [m],W.nx⟩ := fun R Tc H rt rh => by
 obtain ⟨x,hx,hr⟩ := rt t _ h1
 obtain ⟨d,ns,y,ms,⟨rfl,rfl⟩,hv,hp,hlent⟩ := viewC_ok (X := fun d ns => d = .lst es ∧ ns = [m]) rh 0 hr (by unfold viewC; simp only [h2]; exact ⟨_,_,deep0 hl,by simp⟩)
 have hsome := hlent.some rh
 refine ⟨R,put Tc t y,⟨putAll H.objs (marks H ms),H.next⟩,fun P k N n0 c Q q => CW.lend hsome (fun t' z hz => ?_) q,relT_put rt (.pure hp),relH_freeze rh hlent fun c => .inl (look_marks ms H.objs H.objs H.next c hsome),?_⟩
 case refine_2 =>
  have hlk : ∀ c,look (putAll H.objs (marks H ms)) c = if c ∈ ms then (look H.objs c).map frozenO else look H.objs c := fun c => look_marks ms H.objs H.objs H.next c hsome
  refine ⟨Nat.le_refl _,fun k hk => .inl fun e => hk ?_,fun k _ hu => ⟨?_,fun n o hn hh => ?_⟩⟩
  ·rw [hlk,e]; simp
  ·rw [hlk,if_neg]
   intro hm
   obtain ⟨n,_,o',a1,a2,a3,_⟩ := hlent k hm
   exact hu n _ a1 a2 a3
  ·rw [lk_freeze] at hn
   obtain ⟨p,hp',rfl⟩ := map_some hn
   refine hu n p hp' ?_
   cases p with
   | box cs fz => trivial
   | set ks v => trivial
   | row es' s' fz' rt2 =>
    simp only [freezeO] at hh
    cases hc : [m].contains n <;> rw [hc] at hh <;> exact hh
 rw [look_put] at hz
 split at hz
 ·rename_i e
  subst e
  cases hz
  exact .inr ⟨x,3,ms,hx,hv,fun n hn => hn⟩
 ·exact .inl hz
def Fits (T : WT) (W : WH) (T1 : WT) (W1 : WH) : Prop := ∀ R Tc H,RelT R T Tc → RelH R W H → ∃ R1,RelT R1 T1 Tc ∧ RelH R1 W1 H ∧ Kept R W H R1 W1 H
theorem fits_of (ns : NM) {T1 : WT} {W1 : WH} (hn : nmOk ns W1.nx = true) (hT : fitT ns T T1) (hH : fitH ns W W1.objs) : Fits T W T1 W1 := by
 intro R Tc H rt rh
 simp only [nmOk,Bool.and_eq_true,List.all_eq_true,decide_eq_true_eq] at hn
 have hns : ∀ n q,lk ns n = some q → n < W1.nx := fun n q h => Nat.blt_eq.mp (hn.1 _ (lk_mem h))
 refine ⟨R.turn ns W1.nx,fun t v h => ?_,⟨rfl,fun n o h => ?_,fun n m o p h1 h2 h3 h4 e => ?_,rh.fresh⟩,Nat.le_refl _,fun _ h => .inl h,fun k _ hu => ⟨rfl,fun n o hn hh e => ?_⟩⟩
 ·obtain ⟨w,hw,hb⟩ := fitT_get hT h
  obtain ⟨x,hx,hr⟩ := rt t w hw
  exact ⟨x,hx,backV_ok hns hb hr⟩
 ·have hf := fitH_get hH h
  unfold fitO at hf
  split at hf
  ·rename_i m es s fz rt1 hm
   obtain ⟨fz',rt',hl,hle,hfz⟩ := hf
   obtain ⟨q1,q2,q3,q4⟩ := rh.obj m _ hl
   refine ⟨hns _ _ hm,⟨_,hm,fun k e => (by cases e; exact q2)⟩,q3,?_⟩
   have a1 : (R.turn ns W1.nx).ob n = R.ob m := by simp only [Rn.turn,hm]
   have a2 : (R.turn ns W1.nx).av n = R.av m := by simp only [Rn.turn,hm]
   rcases q4 with ⟨b1,b2⟩ | ⟨g,cap,xs,fz2,b1,b2,b3,b4,b5,b6,b7⟩
   ·exact .inl ⟨a2.trans b1,b2⟩
   ·exact .inr ⟨g,cap,xs,fz2,by rw [a1,a2]; exact b1,by rw [a1]; exact b2,b3,(leafs_prss hle b4).wrss,b5,b6,fun h => b7 (hfz h)⟩
  ·rename_i m cs fz hm
   obtain ⟨cs',fz1,hc,hl,hfz⟩ := hf
   obtain ⟨q1,q2,xs,fz2,q3,q4,q5,q6⟩ := rh.obj m _ hl
   refine ⟨hns _ _ hm,⟨_,hm,fun k e => (by cases e; exact q2)⟩,xs,fz2,?_,backCs_ok hns hc q4,q5,fun h => q6 (hfz h)⟩
   have a1 : (R.turn ns W1.nx).ob n = R.ob m := by simp only [Rn.turn,hm]
   have hlen : cs.length = cs'.length := by
    have h1 := (wrs_all2.1 q4).length
    have h2 := (wrs_all2.1 (backCs_ok hns hc q4)).length
    omega
   rw [a1,hlen]
   exact q3
  ·rename_i es s fz rt1 hm
   subst hf
   refine ⟨hns _ _ hm,⟨_,hm,fun k e => (by cases e)⟩,fun _ h => (by cases h),.inl ⟨?_,rfl⟩⟩
   simp only [Rn.turn,hm]
  ·rename_i m ks v hm
   obtain ⟨v0,hl,hv⟩ := hf
   obtain ⟨q1,q2,vs,bs,clock,q3,q4,q5⟩ := rh.obj m _ hl
   refine ⟨hns _ _ hm,⟨_,hm,fun k e => (by cases e; exact q2)⟩,vs,bs,clock,?_,q4,fun x hx => ?_⟩
   ·have a1 : (R.turn ns W1.nx).ob n = R.ob m := by simp only [Rn.turn,hm]
    rw [a1]
    exact q3
   ·obtain ⟨w,h1,h2⟩ := q5 x hx
    rcases hv with rfl | rfl
    ·cases h1
    ·exact ⟨w,h1,h2⟩
  ·exact hf.elim
 ·have key : ∀ {n : Nat} {o : WO},lk W1.objs n = some o → hasO (R.turn ns W1.nx) n o → ∃ m o',lk ns n = some (some m) ∧ lk W.objs m = some o' ∧ hasO R m o' := fun {n o} h hh => by
   have hf := fitH_get hH h
   unfold fitO at hf
   split at hf
   ·rename_i m es s fz rt1 hm
    obtain ⟨fz',rt',hl,_⟩ := hf
    refine ⟨m,_,hm,hl,?_⟩
    intro e
    exact hh (by simp only [Rn.turn,hm]; exact e)
   ·rename_i m cs fz hm
    obtain ⟨cs',_,_,hl,_⟩ := hf
    exact ⟨m,_,hm,hl,trivial⟩
   ·rename_i es s fz rt1 hm
    exact absurd (show (R.turn ns W1.nx).av n = nilA by simp only [Rn.turn,hm]) hh
   ·rename_i m ks v hm
    obtain ⟨_,hl,_⟩ := hf
    exact ⟨m,_,hm,hl,trivial⟩
   ·exact hf.elim
  obtain ⟨a,o',a1,a2,a3⟩ := key h1 h3
  obtain ⟨b,p',b1,b2,b3⟩ := key h2 h4
  have e1 : (R.turn ns W1.nx).ob n = R.ob a := by simp only [Rn.turn,a1]
  have e2 : (R.turn ns W1.nx).ob m = R.ob b := by simp only [Rn.turn,b1]
  rw [e1,e2] at e
  have := rh.inj a b _ _ a2 b2 a3 b3 e
  subst this
  exact nm_inj hn.2 a1 b1
 ·have hf := fitH_get hH hn
  unfold fitO at hf
  split at hf
  ·rename_i m es s fz rt1 hm
   obtain ⟨fz',rt',hl,_⟩ := hf
   have e1 : (R.turn ns W1.nx).ob n = R.ob m := by simp only [Rn.turn,hm]
   refine hu m _ hl ?_ (by rw [← e1,e])
   intro e2
   exact hh (by simp only [Rn.turn,hm]; exact e2)
  ·rename_i m cs fz hm
   obtain ⟨cs',_,_,hl,_⟩ := hf
   have e1 : (R.turn ns W1.nx).ob n = R.ob m := by simp only [Rn.turn,hm]
   exact hu m _ hl trivial (by rw [← e1,e])
  ·rename_i es s fz rt1 hm
   exact absurd (show (R.turn ns W1.nx).av n = nilA by simp only [Rn.turn,hm]) hh
  ·rename_i m ks v hm
   obtain ⟨_,hl,_⟩ := hf
   have e1 : (R.turn ns W1.nx).ob n = R.ob m := by simp only [Rn.turn,hm]
   exact hu m _ hl trivial (by rw [← e1,e])
  ·exact hf.elim
theorem fit_of (ns : NM) {T1 : WT} {W1 : WH} (hn : nmOk ns W1.nx = true) (hT : fitT ns T T1) (hH : fitH ns W W1.objs) : Suits T W T1 W1 := fun R Tc H rt rh =>
 let ⟨R1,a,b,c⟩ := fits_of ns hn hT hH R Tc H rt rh
 ⟨R1,Tc,H,fun _ _ _ _ _ _ q => q,a,b,c⟩
def argsT (i : Nat) : List WV → WT
 | [] => []
 | v :: r => (i,v) :: argsT (i + 1) r
def resW (tab : Tab) (T : WT) (H : WH) : ResultVar → Option WV
 | .tmp t => lk T t
 | .cell a t => match lk T a,tab t with
  | some (.box n fo),some d => (match lk H.objs n with
   | some (.box cs _) => bif Nat.ble (fo + d.size) cs.length then ofCellsW d (takeW d.size (dropW fo cs)) else none
   | _ => none)
  | _,_ => none
def oneW : List WV → WV
 | [d] => d
 | ds => .tup ds
def endW (tab : Tab) (rs : List ResultVar) (G : WV → Prop) (T : WT) (H : WH) : Prop := match mapO (resW tab T H) rs with
 | some vs => viewVs H vs fun ds _ => G (oneW ds)
 | none => False
def endsW (tab : Tab) (rs : List ResultVar) (G : WV → Prop) : WQ := fun e T H => match e with
 | .exit _ => False
 | .normal => endW tab rs G T H
 | .ret => endW tab rs G T H
theorem res_ok (rt : RelT R T Tc) (rh : RelH R W H) {r : ResultVar} {v : WV} (h : resW tab T W r = some v) : ∃ x,resV tab Tc H r = some x ∧ WR R v x := by
 cases r with
 | tmp t => exact rt t v h
 | cell a t =>
  simp only [resW] at h
  split at h
  ·rename_i n fo d ha hd
   split at h
   ·rename_i cs fz hcs
    cases hb : Nat.ble (fo + d.size) cs.length with
    | false => rw [hb] at h; cases h
    | true =>
     rw [hb] at h
     obtain ⟨y,hy,hr⟩ := rt a _ ha
     obtain ⟨hal,xs,fz',hlook,hx,_⟩ := rh.box_obj hcs
     obtain rfl := hr.box_inv.2.2 hal
     obtain ⟨x,hx1,hx2⟩ := ofCells_ok (take_drop_ok hx d.size fo) h
     have hle : fo + d.size ≤ cs.length := Nat.le_of_ble_eq_true hb
     refine ⟨x,?_,hx2⟩
     simp only [resV,hy,hd,loadA,readAt,hlook,List.length_cons,List.length_nil,Nat.zero_add,if_true,List.getElem?_cons_zero]
     rw [if_pos hle]
     simp only [hx1]
     rfl
   ·cases h
  ·cases h
theorem ress_ok (rt : RelT R T Tc) (rh : RelH R W H) : ∀ {rs : List ResultVar} {vs : List WV},mapO (resW tab T W) rs = some vs → ∃ xs,mapOpt (resV tab Tc H) rs = some xs ∧ WRs R vs xs
 | [],_,h => by cases h; exact ⟨[],rfl,.nil⟩
 | r :: rs,vs,h => by
  simp only [mapO] at h
  split at h
  ·cases h
  ·rename_i a ha
   split at h
   ·cases h
   ·rename_i bs hbs
    cases h
    obtain ⟨y,hy,hr⟩ := res_ok rt rh ha
    obtain ⟨ys,hys,hrs⟩ := ress_ok rt rh hbs
    exact ⟨y :: ys,by simp [mapOpt,hy,hys],.cons hr hrs⟩
theorem endW_ok (rt : RelT R T Tc) (rh : RelH R W H) {rs : List ResultVar} {G : WV → Prop} (h : endW tab rs G T W) : ∃ v k r x ns,resA tab Tc H rs = some v ∧ viewA H k v = some (x,ns) ∧ PR r x ∧ G r := by
 unfold endW at h
 split at h
 ·rename_i vs hvs
  obtain ⟨xs,hxs,hx⟩ := ress_ok rt rh hvs
  obtain ⟨ds,ns,ys,ms,hG,hv,hp,_⟩ := viewVs_ok rh 4 hx h
  have hlen := (prs_all2.1 hp).length
  unfold resA
  rw [hxs]
  have tup : (∀ d,ds ≠ [d]) → (∀ x,xs ≠ [x]) → ∃ v k r x ns,(match (some xs : Option (List AV)) with | some [v] => some v | some vs => some (.tup vs) | none => none) = some v ∧ viewA H k v = some (x,ns) ∧ PR r x ∧ G r := fun h1 h2 => by
   refine ⟨.tup xs,9,.tup ds,.tup ys,ms,?_,?_,.tup hp,?_⟩
   ·split
    ·rename_i x e; cases e; exact absurd rfl (h2 x)
    ·rename_i q e; cases e; rfl
    ·rename_i e; cases e
   ·show (match viewList (viewA H 8) xs with | some (ds,ns) => some (AV.tup ds,ns) | none => none) = _
    rw [hv]
   ·have : oneW ds = .tup ds := by
     unfold oneW
     split
     ·rename_i d; exact absurd rfl (h1 d)
     ·rfl
    rw [← this]; exact hG
  cases hx with
  | nil =>
   cases hv
   cases hp
   exact tup (fun d e => by cases e) (fun x e => by cases e)
  | @cons c cs x xs h1 h2 =>
   cases h2 with
   | nil =>
    simp only [viewList] at hv
    split at hv
    ·rename_i d ns' q1 q2 q3 q4
     cases q4
     cases hv
     cases hp with
     | cons p1 p2 =>
      cases p2
      exact ⟨x,8,_,_,_,rfl,q3,p1,hG⟩
    ·cases hv
   | cons h3 h4 =>
    have hl2 : ys.length ≥ 2 := by
     have := hlen
     have hvl : ∀ {l l' : List AV} {m : List Nat},viewList (viewA H 8) l = some (l',m) → l'.length = l.length := by
      intro l
      induction l with
      | nil => intro l' m h; cases h; rfl
      | cons a l ih =>
       intro l' m h
       simp only [viewList] at h
       split at h
       ·rename_i e1 e2; cases h; simp [ih e2]
       ·cases h
     rw [hvl hv]
     simp
    refine tup (fun d e => ?_) (fun x e => by cases e)
    subst e
    simp at hlen
    omega
 ·exact h.elim
theorem argsT_rel : ∀ {args : List WV} {xs : List AV} (i : Nat),PRs args xs → ∀ t v,lk (argsT i args) t = some v → ∃ x,look (argT i xs) t = some x ∧ PR v x
 | _,_,_,.nil,_,_,h => by cases h
 | v :: r,x :: xs,i,.cons h hs,t,w,hl => by
  simp only [argsT,argT] at hl ⊢
  rw [lk_cons] at hl
  simp only [look]
  split at hl
  ·rename_i e; cases hl; rw [if_pos e]; exact ⟨x,rfl,h⟩
  ·rename_i e; rw [if_neg e]; exact argsT_rel (i + 1) hs t w hl
theorem wvalid (tabOk : TabOK P tab) (hm : P.follows .mixedOrders = true) {f : FuncId} {fn : Func} {c : Code} {args : List WV} {G : WV → Prop} (hf : P.funcs[f]? = some fn) (hb : fn.body = some c) (hn : (fn.name == "runtime.NumGoroutine") = false) (hl : args.length ≤ fn.ntmps) (hd : codeDst fn.ntmps c = true)
  (h : Wk P tab c (argsT 0 args) ⟨[],0⟩ (endsW tab fn.results.toList G)) : WValid P f args G := by
 intro xs hxs
 let R0 : Rn := ⟨0,fun _ => False,fun _ => 0,fun _ => nilA⟩
 have rt : RelT R0 (argsT 0 args) (argT 0 xs) := fun t v h => let ⟨x,h1,h2⟩ := argsT_rel 0 hxs t v h; ⟨x,h1,.pure h2⟩
 have rh : RelH R0 ⟨[],0⟩ ⟨[],0⟩ := ⟨rfl,fun n o h => by (cases h),fun n m o p h => by (cases h),fun _ _ => rfl⟩
 obtain ⟨e,R1,T1,W1,Tc1,H1,hc,rt1,rh1,kp1,hq⟩ := W_sound tabOk hm c R0 _ _ _ _ _ hd rt rh h
 have fin : endW tab fn.results.toList G T1 W1 → (e = .normal ∨ e = .ret) → ∃ r x,PR r x ∧ G r ∧ Valid P f xs (.ret x) := fun hq he => by
  obtain ⟨v,k,r,x,ns,h1,h2,h3,h4⟩ := endW_ok rt1 rh1 hq
  refine ⟨r,x,h3,h4,valid_of tabOk hf hb hn (by rw [← (prs_all2.1 hxs).length]; exact hl) ((hc .out 0).mono ?_)⟩
  rintro e' T' H' ⟨rfl,rfl,rfl⟩
  rcases he with rfl | rfl <;> exact ⟨v,h1,k,x,ns,h2,rfl⟩
 cases e with
 | normal => exact fin hq (.inl rfl)
 | ret => exact fin hq (.inr rfl)
 | exit id => exact hq.elim
def ownW (rs : List ResultVar) (s : Nat) (z : Bool) (G : List (List WV) → Prop) (T : WT) (H : WH) : Prop := match rs with
 | [.tmp t] => (match lk T t with
  | some (.row n) => (match lk H.objs n with
   | some (.row es s' fz _) => (bif Nat.beq s' s && (z || !fz) then leafs es ∧ G es else False)
   | _ => False)
  | some (.sc (.slice none 0 0)) => G []
  | _ => False)
 | _ => False
def ownsW (rs : List ResultVar) (s : Nat) (z : Bool) (G : List (List WV) → Prop) : WQ := fun e T H => match e with
 | .exit _ => False
 | .normal => ownW rs s z G T H
 | .ret => ownW rs s z G T H
theorem wown (tabOk : TabOK P tab) (hm : P.follows .mixedOrders = true) {f : FuncId} {fn : Func} {c : Code} {args : List WV} {s : Nat} {z : Bool} {G : List (List WV) → Prop} (hf : P.funcs[f]? = some fn) (hb : fn.body = some c) (hn : (fn.name == "runtime.NumGoroutine") = false) (hl : args.length ≤ fn.ntmps) (hd : codeDst fn.ntmps c = true)
  (h : Wk P tab c (argsT 0 args) ⟨[],0⟩ (ownsW fn.results.toList s z G)) : WOwn P f args s z G := by
 intro xs hxs
 let R0 : Rn := ⟨0,fun _ => False,fun _ => 0,fun _ => nilA⟩
 have rt : RelT R0 (argsT 0 args) (argT 0 xs) := fun t v h => let ⟨x,h1,h2⟩ := argsT_rel 0 hxs t v h; ⟨x,h1,.pure h2⟩
 have rh : RelH R0 ⟨[],0⟩ ⟨[],0⟩ := ⟨rfl,fun n o h => by (cases h),fun n m o p h => by (cases h),fun _ _ => rfl⟩
 obtain ⟨e,R1,T1,W1,Tc1,H1,hc,rt1,rh1,kp1,hq⟩ := W_sound tabOk hm c R0 _ _ _ _ _ hd rt rh h
 have fin : ownW fn.results.toList s z G T1 W1 → (e = .normal ∨ e = .ret) → (∃ es ys fz,PRss es ys ∧ G es ∧ (∀ e ∈ es,e.length = s) ∧ fz ≤ ys.length ∧ (z = false → fz = 0) ∧ ValidOwn P f xs ys s fz) ∨ (G [] ∧ Valid P f xs (.ret (.sc (.slice none 0 0)))) := fun hq he => by
  have nil : ∀ t,fn.results.toList = [.tmp t] → look Tc1 t = some nilA → Valid P f xs (.ret (.sc (.slice none 0 0))) := fun t hrs hx => by
   refine valid_of tabOk hf hb hn (by rw [← (prs_all2.1 hxs).length]; exact hl) ((hc .out 0).mono ?_)
   rintro e' T' H' ⟨rfl,rfl,rfl⟩
   have : resA tab T' H' fn.results.toList = some nilA := by rw [hrs]; simp [resA,mapOpt,resV,hx]
   rcases he with rfl | rfl <;> exact ⟨nilA,this,1,nilA,[],rfl,rfl⟩
  unfold ownW at hq
  split at hq
  ·rename_i t hrs
   split at hq
   ·rename_i n hn1
    split at hq
    ·rename_i es s' fz rt' hes
     obtain ⟨hb',hle,hG⟩ := beq_of_bif hq
     simp only [Bool.and_eq_true] at hb'
     obtain ⟨hb',hbz⟩ := hb'
     obtain rfl := Nat.eq_of_beq_eq_true hb'
     obtain ⟨x,hx,hr⟩ := rt1 t _ hn1
     obtain ⟨hal,hlen,hrow⟩ := rh1.row_obj hes
     have hq2 := hr.row_inv.2.2 hal
     rcases hrow with ⟨hav0,rfl⟩ | ⟨g,cap,zs,fz',hav,hlook,hg,hzs,_,hfg,hf0⟩
     ·exact .inr ⟨hG,nil t hrs (by rw [hx,hq2,hav0])⟩
     ·rw [hav] at hq2
      subst hq2
      refine .inl ⟨es,zs,fz',leafs_prss hle hzs,hG,hlen,by omega,(fun hz => hf0 (by subst hz; simpa using hbz)),validOwn_of tabOk hf hb hn (by rw [← (prs_all2.1 hxs).length]; exact hl) ((hc .out 0).mono ?_)⟩
      rintro e' T' H' ⟨rfl,rfl,rfl⟩
      have : resA tab T' H' fn.results.toList = some (.sl (R1.ob n) g 0 g cap) := by rw [hrs]; simp [resA,mapOpt,resV,hx]
      rcases he with rfl | rfl <;> exact ⟨R1.ob n,g,cap,zs,1,[],this,hlook,hg,leafs_view (k := 0) hle hzs,by simp⟩
    ·exact hq.elim
   ·rename_i hn1
    obtain ⟨x,hx,hr⟩ := rt1 t _ hn1
    obtain rfl := hr.sc_inv
    exact .inr ⟨hq,nil t hrs hx⟩
   ·exact hq.elim
  ·exact hq.elim
 cases e with
 | normal => exact fin hq (.inl rfl)
 | ret => exact fin hq (.inr rfl)
 | exit id => exact hq.elim
def updW (rs : List ResultVar) (s : Nat) (G : List (List WV) → Prop) (T : WT) (H : WH) : Prop := match rs with
 | [.tmp t] => (match lk T t with
  | some (.row n) => (match lk H.objs n with
   | some (.row es s' false _) => (bif Nat.beq s' s then leafs es ∧ G es else False)
   | _ => False)
  | _ => False)
 | _ => False
def updsW (rs : List ResultVar) (s : Nat) (G : List (List WV) → Prop) : WQ := fun e T H => match e with
 | .exit _ => False
 | .normal => updW rs s G T H
 | .ret => updW rs s G T H
theorem wupd (tabOk : TabOK P tab) (hm : P.follows .mixedOrders = true) {f : FuncId} {fn : Func} {c : Code} {post : List WV} {s : Nat} {es : List (List WV)} {G : List (List WV) → Prop} (hf : P.funcs[f]? = some fn) (hb : fn.body = some c) (hn : (fn.name == "runtime.NumGoroutine") = false) (hl : post.length + 1 ≤ fn.ntmps) (hd : codeDst fn.ntmps c = true)
  (hes : ∀ e ∈ es,e.length = s) (h : Wk P tab c (argsT 0 (.row 0 :: post)) ⟨[(0,.row es s false 0)],1⟩ (updsW fn.results.toList s G)) : WUpd P f post s es G := by
 intro H x xs hfr hsh hxs
 obtain ⟨b,hb1,hb2⟩ : ∃ b,(∀ b' g o l cp,x = .sl b' g o l cp → b' = b) ∧ refA x = true := by
  rcases hsh with ⟨rfl,_⟩ | ⟨b,g,cap,zs,rfl,_⟩
  ·exact ⟨0,fun _ _ _ _ _ e => (by cases e),rfl⟩
  ·exact ⟨b,fun _ _ _ _ _ e => (by cases e; rfl),rfl⟩
 let R0 : Rn := ⟨1,fun n => n = 0,fun _ => b,fun _ => x⟩
 have rt : RelT R0 (argsT 0 (.row 0 :: post)) (argT 0 (x :: xs)) := fun t v h => by
  simp only [argsT,argT] at h ⊢
  rw [lk_cons] at h
  simp only [look]
  split at h
  ·rename_i e
   cases h
   rw [if_pos e]
   exact ⟨x,rfl,.row (Nat.lt_succ_self _) hb2 fun _ => rfl⟩
  ·rename_i e
   rw [if_neg e]
   obtain ⟨y,h1,h2⟩ := argsT_rel 1 hxs t v h
   exact ⟨y,h1,.pure h2⟩
 have rh : RelH R0 ⟨[(0,.row es s false 0)],1⟩ H := by
  refine ⟨rfl,fun n o h => ?_,fun n m o p h h' _ _ _ => ?_,hfr⟩
  ·rw [lk_cons] at h
   split at h
   ·rename_i e
    cases h
    subst e
    refine ⟨Nat.lt_succ_self _,rfl,hes,?_⟩
    rcases hsh with ⟨e,e2⟩ | ⟨b',g,cap,zs,e,f1,f2,f3,f4⟩
    ·exact .inl ⟨e,e2⟩
    ·have := hb1 _ _ _ _ _ e
     subst this
     exact .inr ⟨g,cap,zs,0,e,f1,f2,f3.wrss,f4,Nat.zero_le _,fun _ => rfl⟩
   ·cases h
  ·rw [lk_cons] at h h'
   split at h
   ·split at h'
    ·rename_i e1 e2; rw [← e1,← e2]
    ·cases h'
   ·cases h
 obtain ⟨e,R1,T1,W1,Tc1,H1,hc,rt1,rh1,kp1,hq⟩ := W_sound tabOk hm c R0 _ _ _ _ _ hd rt rh h
 have fin : updW fn.results.toList s G T1 W1 → (e = .normal ∨ e = .ret) → ∃ es' y H',G es' ∧ (∀ e ∈ es',e.length = s) ∧ leafs es' ∧ Valid2 P f (x :: xs) H (.ret y) H' ∧ H.next ≤ H'.next ∧ (∀ m,H'.next ≤ m → look H'.objs m = none) ∧
   (∀ k,look H'.objs k ≠ none → look H.objs k ≠ none ∨ H.next ≤ k) ∧ (∀ k,k < H.next → notRow x k → look H'.objs k = look H.objs k ∧ notRow y k) ∧ ShowsR H' y es' s := fun hq he => by
  unfold updW at hq
  split at hq
  ·rename_i t hrs
   split at hq
   ·rename_i n hn1
    split at hq
    ·rename_i es' s' rt' hes'
     obtain ⟨hb',hle,hG⟩ := beq_of_bif hq
     obtain rfl := Nat.eq_of_beq_eq_true hb'
     obtain ⟨y,hy,hr⟩ := rt1 t _ hn1
     obtain ⟨hal,hlen,hrow⟩ := rh1.row_obj hes'
     have hya := hr.row_inv.2.2 hal
     refine ⟨es',y,H1,hG,hlen,hle,valid2_of tabOk hf hb hn (by rw [List.length_cons,← (prs_all2.1 hxs).length]; exact hl) ((hc .out H.next).mono ?_),kp1.1,rh1.fresh,kp1.2.1,fun k hk hnr => ?_,?_⟩
     ·rintro e' T' H' ⟨rfl,rfl,rfl⟩
      have : resA tab T' H' fn.results.toList = some y := by rw [hrs]; simp [resA,mapOpt,resV,hy]
      rcases he with rfl | rfl <;> exact ⟨rfl,y,this,rfl⟩
     ·obtain ⟨q1,q2⟩ := kp1.2.2 k hk fun n o hno hh => by
       have hx0 : x ≠ nilA := by
        rw [lk_cons] at hno
        split at hno
        ·cases hno; exact hh
        ·cases hno
       rcases hsh with ⟨e0,_⟩ | ⟨b',g,cap,zs,e0,_⟩
       ·exact absurd e0 hx0
       ·have := hb1 _ _ _ _ _ e0
        subst this
        exact hnr _ _ _ _ _ e0
      refine ⟨q1,fun b' g o l cp e0 => ?_⟩
      rw [hya] at e0
      rcases hrow with ⟨e1,_⟩ | ⟨g',cap,zs,fz',hav,_⟩
      ·rw [e1] at e0; cases e0
      ·rw [hav] at e0
       cases e0
       exact q2 n _ hes' (by intro e2; rw [hav] at e2; cases e2)
     ·rcases hrow with ⟨e1,e2⟩ | ⟨g',cap,zs,fz',hav,f1,f2,f3,f4,_,f6⟩
      ·exact .inl ⟨hya.trans e1,e2⟩
      ·have := f6 rfl
       subst this
       exact .inr ⟨_,g',cap,zs,hya.trans hav,f1,f2,leafs_prss hle f3,f4⟩
    ·exact hq.elim
   ·exact hq.elim
  ·exact hq.elim
 cases e with
 | normal => exact fin hq (.inl rfl)
 | ret => exact fin hq (.inr rfl)
 | exit id => exact hq.elim
end
end Go.Abs
end
section
namespace Go.Abs
def zi (n : Int) : Value := .int .i64 n
def zs (b : ByteArray) : Value := .string b
def nsl : Value := .slice none 0 0
def u8s (l : List Int) : List (List AV) := l.map fun n => [.sc (.int .u8 n)]
def i64s (l : List Int) : List (List AV) := l.map fun n => [.sc (.int .i64 n)]
structure Ent where
 f : FuncId
 args : List AV
 out : Out
def findE (f : FuncId) (args : List AV) : List Ent → Option Out
 | [] => none
 | e :: es => bif Nat.beq e.f f then (bif eqAVs e.args args then some e.out else findE f args es) else findE f args es
theorem findE_ok {P : Program} {f : FuncId} {args : List AV} {r : Out} : ∀ {es : List Ent},(∀ e ∈ es,Valid P e.f e.args e.out) → findE f args es = some r → Valid P f args r
 | [],_,h => by cases h
 | e :: es,he,h => by
  simp only [findE] at h
  cases h1 : Nat.beq e.f f with
  | false =>
   rw [h1] at h
   exact findE_ok (fun x hx => he x (by simp [hx])) h
  | true =>
   rw [h1] at h
   cases h2 : eqAVs e.args args with
   | false =>
    rw [h2] at h
    exact findE_ok (fun x hx => he x (by simp [hx])) h
   | true =>
    rw [h2] at h
    cases h
    have := he e (by simp)
    rwa [Nat.eq_of_beq_eq_true h1,eqAVs_eq h2] at this
structure Spec where
 s1 : FuncId → List AV → (FuncId → List AV → Option Out) → Option Out
 s2 : FuncId → List AV → Heap → (FuncId → List AV → Heap → Option (Out × Heap)) → Option (Out × Heap)
 meth : TypeId → String → Option FuncId := fun _ _ => none
structure SpecOK (P : Program) (S : Spec) : Prop where
 s1 : ∀ c1,(∀ f args r,c1 f args = some r → Valid P f args r) → ∀ f args r,S.s1 f args c1 = some r → Valid P f args r
 s2 : ∀ c2,(∀ f args H r H',c2 f args H = some (r,H') → Valid2 P f args H r H') → ∀ f args H r H',S.s2 f args H c2 = some (r,H') → Valid2 P f args H r H'
 meth : ∀ t m f,S.meth t m = some f → MethOK P t m f := by intro _ _ _ h; cases h
def mkE (P : Program) (inl own : List FuncId) (S : Spec) (es : List Ent) : Env where
 tab := tabT P
 fn := fnT P
 isInl := fun f => inl.any fun g => Nat.beq g f
 isOwn := fun f => own.any fun g => Nat.beq g f
 spec := fun f args c1 => match findE f args es with
  | some r => some r
  | none => S.s1 f args c1
 spec2 := S.s2
 meth := S.meth
theorem mkE_ok {P : Program} {inl own : List FuncId} {S : Spec} {es : List Ent} (hm : P.follows .mixedOrders = true) (hn : P.funcs.toList.all (fun fn => !(fn.name == "runtime.NumGoroutine")) = true) (hS : SpecOK P S) (he : ∀ e ∈ es, Valid P e.f e.args e.out) :
  EnvOK P (mkE P inl own S es) where
 tab := tabT_ok P
 mixed := hm
 fn := fun _ _ h => fnT_ok hn h
 spec := fun c1 hc f args r h => by
  simp only [mkE] at h
  split at h
  ·rename_i hf; cases h; exact findE_ok he hf
  ·exact hS.s1 c1 hc f args r h
 spec2 := hS.s2
 meth := hS.meth
def isOut : Option Out → Out → Bool
 | some (.ret a),.ret b => eqAV a b
 | some (.pan a),.pan b => eqAV a b
 | _,_ => false
theorem isOut_eq {x : Option Out} {r : Out} (h : isOut x r = true) : x = some r := by
 unfold isOut at h
 split at h
 ·rw [eqAV_eq h]
 ·rw [eqAV_eq h]
 ·cases h
theorem ran {P : Program} {E : Env} (ok : EnvOK P E) (fuel n : Nat) {f : FuncId} {args : List AV} {r : Out} (h : isOut ((ev E fuel n).c1 f args) r = true) : Valid P f args r := ev_valid ok (isOut_eq h)
theorem ents_cons {P : Program} {f : FuncId} {args : List AV} {r : Out} {es : List Ent} (h : Valid P f args r) (he : ∀ e ∈ es,Valid P e.f e.args e.out) : ∀ e ∈ (⟨f,args,r⟩ :: es : List Ent),Valid P e.f e.args e.out := fun e hm => by
 rcases List.mem_cons.1 hm with rfl | hm
 ·exact h
 ·exact he e hm
end Go.Abs
end
section
namespace Go.Abs
noncomputable section
variable {P : Program} {tab : Tab} {R : Rn} {T : WT} {W : WH} {H : Heap} {Tc : TL} {k : FK} {N n0 : Nat}
def ComesL (P : Program) (N : Nat) (c : Code) (R : Rn) (W : WH) (Tc : TL) (H : Heap) (Q : WQ) : Prop :=
 ∃ x R' T' W' Tc' H',(∀ k n0,CW P k N n0 c Tc H (exactly (axOf x) Tc' H')) ∧ RelT R' T' Tc' ∧ RelH R' W' H' ∧ Kept R W H R' W' H' ∧ R.Le R' ∧ Q x T' W'
def noLoop : Code → Bool
 | .loop _ => false
 | .rangeFunc _ _ _ _ => false
 | .seq a b => noLoop a && noLoop b
 | .cond _ a b => noLoop a && noLoop b
 | .block _ a => noLoop a
 | .scope a => noLoop a
 | _ => true
theorem region_le (tabOk : TabOK P tab) (hm : P.follows .mixedOrders = true) {id : Nat} {ops : Array Oper} {draw : Bool} {Q : WQ} (hd : dstOk N ops.toList = true) (rt : RelT R T Tc) (rh : RelH R W H) (h : regionW P tab ops draw T W Q) : ComesL P N (.region id ops draw) R W Tc H Q := by
 unfold regionW at h
 obtain ⟨A,T',W',es,R',Tc',H',recs,q⟩ := opsW_sound ops.toList 0 R T W Tc H [] rt rh h
 obtain ⟨ow,how⟩ := owns_exists rh
 obtain ⟨ow',_,_,ht⟩ := q.told ow how
 have hf := q.fin
 rw [List.append_nil] at hf
 have hq : (draw = true → drawOk H ops ops.toList recs = true) ∧ Q .normal T' W' := by
  cases draw with
  | true =>
   obtain ⟨h1,h2⟩ := hf
   rw [List.reverse_reverse] at h1
   exact ⟨fun _ => draw_ok q.len q.ret ht h1,h2⟩
  | false => exact ⟨fun h => (by cases h),hf⟩
 refine ⟨.normal,R',T',W',Tc',H',fun k n0 => ?_,q.rt,q.rh,q.kept,q.le,hq.2⟩
 refine CW.region tabOk hm hd q.run hq.1 (fun rc hrc ob hob => ?_) (.inr fun rc hrc => ?_) ⟨rfl,rfl,rfl⟩
 ·obtain ⟨h1,h2⟩ := q.obs rc hrc ob hob
  cases ob <;> first | exact h1 | cases h2
 ·simp only [noRound,List.all_eq_true,Bool.not_eq_true']
  intro ob hob
  exact (q.obs rc hrc ob hob).2
theorem W_le (tabOk : TabOK P tab) (hm : P.follows .mixedOrders = true) : ∀ (c : Code) (R : Rn) (T : WT) (W0 : WH) (Tc : TL) (H : Heap) (Q : WQ),noLoop c = true → codeDst N c = true → RelT R T Tc → RelH R W0 H → Wk P tab c T W0 Q → ComesL P N c R W0 Tc H Q := by
 intro c
 induction c with
 | skip => intro R T W0 Tc H Q _ _ rt rh h; exact ⟨.normal,R,T,W0,Tc,H,fun k n0 => CW.skip ⟨rfl,rfl,rfl⟩,rt,rh,Kept.refl ..,Rn.Le.refl R,h⟩
 | label l => intro R T W0 Tc H Q _ _ rt rh h; exact ⟨.normal,R,T,W0,Tc,H,fun k n0 => CW.label ⟨rfl,rfl,rfl⟩,rt,rh,Kept.refl ..,Rn.Le.refl R,h⟩
 | exit id => intro R T W0 Tc H Q _ _ rt rh h; exact ⟨.exit id,R,T,W0,Tc,H,fun k n0 => CW.exit ⟨rfl,rfl,rfl⟩,rt,rh,Kept.refl ..,Rn.Le.refl R,h⟩
 | ret => intro R T W0 Tc H Q _ _ rt rh h; exact ⟨.ret,R,T,W0,Tc,H,fun k n0 => CW.ret ⟨rfl,rfl,rfl⟩,rt,rh,Kept.refl ..,Rn.Le.refl R,h⟩
 | goto l => intro R T W0 Tc H Q _ _ rt rh h; exact h.elim
 | refuse w => intro R T W0 Tc H Q _ _ rt rh h; exact h.elim
 | rangeFunc g ps a b => intro R T W0 Tc H Q _ _ rt rh h; exact h.elim
 | region id ops draw => intro R T W0 Tc H Q _ hd rt rh h; exact region_le tabOk hm hd rt rh h
 | loop x => intro R T W0 Tc H Q hn; cases hn
 | seq x y ihx ihy =>
  intro R T W0 Tc H Q hn hd rt rh h
  simp only [codeDst,Bool.and_eq_true] at hd
  simp only [noLoop,Bool.and_eq_true] at hn
  obtain ⟨e,R1,T1,W1,Tc1,H1,h1,rt1,rh1,kp1,le1,hq⟩ := ihx R T W0 Tc H _ hn.1 hd.1 rt rh h
  cases e with
  | normal =>
   obtain ⟨e2,R2,T2,W2,Tc2,H2,h2,rt2,rh2,kp2,le2,hq2⟩ := ihy R1 T1 W1 Tc1 H1 Q hn.2 hd.2 rt1 rh1 hq
   refine ⟨e2,R2,T2,W2,Tc2,H2,fun k n0 => CW.seq ((h1 k n0).mono ?_),rt2,rh2,kp1.trans kp2,le1.trans le2,hq2⟩
   rintro e3 T3 H3 ⟨rfl,rfl,rfl⟩
   exact h2 k n0
  | exit id =>
   refine ⟨.exit id,R1,T1,W1,Tc1,H1,fun k n0 => CW.seq ((h1 k n0).mono ?_),rt1,rh1,kp1,le1,hq⟩
   rintro e3 T3 H3 ⟨rfl,rfl,rfl⟩
   exact ⟨rfl,rfl,rfl⟩
  | ret =>
   refine ⟨.ret,R1,T1,W1,Tc1,H1,fun k n0 => CW.seq ((h1 k n0).mono ?_),rt1,rh1,kp1,le1,hq⟩
   rintro e3 T3 H3 ⟨rfl,rfl,rfl⟩
   exact ⟨rfl,rfl,rfl⟩
 | cond c x y ihx ihy =>
  intro R T W0 Tc H Q hn hd rt rh h
  simp only [codeDst,Bool.and_eq_true] at hd
  simp only [noLoop,Bool.and_eq_true] at hn
  have h : condW T c (Wk P tab x T W0 Q) (Wk P tab y T W0 Q) := h
  unfold condW at h
  split at h
  ·rename_i b hb
   obtain ⟨z,hz,hr⟩ := ev_ok rt hb
   obtain rfl := hr.sc_inv
   cases b with
   | true =>
    obtain ⟨e,R1,T1,W1,Tc1,H1,h1,q⟩ := ihx R T W0 Tc H Q hn.1 hd.1 rt rh h
    exact ⟨e,R1,T1,W1,Tc1,H1,fun k n0 => CW.cond hz (h1 k n0),q⟩
   | false =>
    obtain ⟨e,R1,T1,W1,Tc1,H1,h1,q⟩ := ihy R T W0 Tc H Q hn.2 hd.2 rt rh h
    exact ⟨e,R1,T1,W1,Tc1,H1,fun k n0 => CW.cond hz (h1 k n0),q⟩
  ·exact h.elim
 | block id x ihx =>
  intro R T W0 Tc H Q hn hd rt rh h
  simp only [codeDst] at hd
  simp only [noLoop] at hn
  obtain ⟨e,R1,T1,W1,Tc1,H1,h1,rt1,rh1,kp1,le1,hq⟩ := ihx R T W0 Tc H _ hn hd rt rh h
  cases e with
  | normal =>
   refine ⟨.normal,R1,T1,W1,Tc1,H1,fun k n0 => CW.block ((h1 k n0).mono ?_),rt1,rh1,kp1,le1,hq⟩
   rintro e3 T3 H3 ⟨rfl,rfl,rfl⟩
   exact ⟨rfl,rfl,rfl⟩
  | ret =>
   refine ⟨.ret,R1,T1,W1,Tc1,H1,fun k n0 => CW.block ((h1 k n0).mono ?_),rt1,rh1,kp1,le1,hq⟩
   rintro e3 T3 H3 ⟨rfl,rfl,rfl⟩
   exact ⟨rfl,rfl,rfl⟩
  | exit id' =>
   have hq : bif Nat.beq id' id then Q .normal T1 W1 else Q (.exit id') T1 W1 := hq
   cases hb : Nat.beq id' id with
   | true =>
    rw [hb] at hq
    refine ⟨.normal,R1,T1,W1,Tc1,H1,fun k n0 => CW.block ((h1 k n0).mono ?_),rt1,rh1,kp1,le1,hq⟩
    rintro e3 T3 H3 ⟨rfl,rfl,rfl⟩
    simp only [axOf,blockP]
    rw [if_pos (Nat.eq_of_beq_eq_true hb)]
    exact ⟨rfl,rfl,rfl⟩
   | false =>
    rw [hb] at hq
    refine ⟨.exit id',R1,T1,W1,Tc1,H1,fun k n0 => CW.block ((h1 k n0).mono ?_),rt1,rh1,kp1,le1,hq⟩
    rintro e3 T3 H3 ⟨rfl,rfl,rfl⟩
    simp only [axOf,blockP]
    rw [if_neg (Nat.ne_of_beq_eq_false hb)]
    exact ⟨rfl,rfl,rfl⟩
 | scope x ihx =>
  intro R T W0 Tc H Q hn hd rt rh h
  simp only [codeDst] at hd
  simp only [noLoop] at hn
  obtain ⟨e,R1,T1,W1,Tc1,H1,h1,q⟩ := ihx R T W0 Tc H Q hn hd rt rh h
  refine ⟨e,R1,T1,W1,Tc1,H1,fun k n0 => CW.scope ((h1 k n0).mono ?_),q⟩
  rintro e3 T3 H3 ⟨rfl,rfl,rfl⟩
  cases e <;> first | exact ⟨rfl,rfl,rfl⟩ | exact h.elim
theorem relH_other (rh : RelH R W H) {n nx : Nat} {x : AO} (hu : Unown R W n) (hle : H.next ≤ nx) (hlt : n < nx) : RelH R W ⟨put H.objs n x,nx⟩ := by
 have same : ∀ m o,lk W.objs m = some o → hasO R m o → look (put H.objs n x) (R.ob m) = look H.objs (R.ob m) := fun m o h1 h2 => by
  rw [look_put,if_neg (fun e => hu m o h1 h2 e.symm)]
 refine ⟨rh.nx,fun m o h => ?_,rh.inj,fun m hm => ?_⟩
 ·obtain ⟨q1,q2,q3⟩ := rh.obj m o h
  refine ⟨q1,q2,?_⟩
  cases o with
  | box cs fz =>
   obtain ⟨xs,fz',a,b⟩ := q3
   exact ⟨xs,fz',(same m _ h trivial).trans a,b⟩
  | set ks v =>
   obtain ⟨vs,bs,clock,a,b⟩ := q3
   exact ⟨vs,bs,clock,(same m _ h trivial).trans a,b⟩
  | row es s fz rt =>
   obtain ⟨q4,q5⟩ := q3
   refine ⟨q4,?_⟩
   rcases q5 with q | ⟨g,cap,xs,fz',a,b,c⟩
   ·exact .inl q
   ·exact .inr ⟨g,cap,xs,fz',a,(same m _ h (show R.av m ≠ nilA by rw [a]; intro e; cases e)).trans b,c⟩
 ·show look (put H.objs n x) m = none
  have hm : nx ≤ m := hm
  rw [look_put,if_neg (by omega)]
  exact rh.fresh m (by omega)
theorem relH_next (rh : RelH R W H) {nx : Nat} (hle : H.next ≤ nx) : RelH R W ⟨H.objs,nx⟩ := ⟨rh.nx,rh.obj,rh.inj,fun m hm => rh.fresh m (Nat.le_trans hle hm)⟩
def putsW (T : WT) : List Tmp → List WV → WT
 | p :: ps,v :: vs => putsW ((p,v) :: T) ps vs
 | _,_ => T
theorem putsW_ok : ∀ {ps : List Tmp} {ys : List WV} {xs : List AV} {T : WT} {Tc : TL},RelT R T Tc → PRs ys xs → RelT R (putsW T ps ys) (putsT Tc ps xs)
 | [],_,_,_,_,rt,_ => by unfold putsW putsT; exact rt
 | _ :: _,_,_,_,_,rt,.nil => by unfold putsW putsT; exact rt
 | _ :: ps,_,_,_,_,rt,.cons h hs => by unfold putsW putsT; exact putsW_ok (relT_put rt (.pure h)) hs
def onlyN (Q : WT → WH → Prop) : WQ := fun e T W => match e with
 | .normal => Q T W
 | .exit _ => False
 | .ret => False
theorem round_ok (tabOk : TabOK P tab) (hm : P.follows .mixedOrders = true) {T0 : WT} {Tc0 : TL} {n : Nat} {ps : List Tmp} {asg body : Code} {S : Type} {hp : S → WH} {s0 : S} (rt : RelT R T0 Tc0) (rh : RelH R (hp s0) H) (hn : look H.objs n = some (.loop Tc0 N ps asg body .ready none))
  (hu : Unown R (hp s0) n) (hnx : n < H.next) (hps : ∀ p ∈ ps,p < N) (hnl : noLoop asg = true ∧ noLoop body = true) (hd : codeDst N asg = true ∧ codeDst N body = true) {ys : List WV} {xs : List AV} (hxs : PRs ys xs) (hlen : ys.length = ps.length) {I : S → Prop}
  (h : Wk P tab asg (putsW T0 ps ys) (hp s0) (onlyN fun T2 W2 => Wk P tab body T2 W2 (onlyN fun _ W3 => ∃ s,I s ∧ Fits T0 W3 T0 (hp s)))) :
  ∃ R' H' s,Round2 P n xs H (.ret (.sc (.bool true))) H' ∧ RelT R' T0 Tc0 ∧ RelH R' (hp s) H' ∧ I s ∧ Unown R' (hp s) n ∧ look H'.objs n = some (.loop Tc0 N ps asg body .ready none) ∧ H.next ≤ H'.next ∧ ∀ k,look H'.objs k ≠ none → look H.objs k ≠ none ∨ H.next ≤ k := by
 obtain ⟨x1,R1,T1,W1,Tc1,H1,hc1,rt1,rh1,kp1,le1,hq1⟩ := W_le tabOk hm asg R _ _ (putsT Tc0 ps xs) H _ hnl.1 hd.1 (putsW_ok rt hxs) rh h
 cases x1 with
 | exit id => exact hq1.elim
 | ret => exact hq1.elim
 | normal =>
 obtain ⟨hn1,hu1⟩ := kp1.2.2 n hnx hu
 have hnx1 : n < H1.next := Nat.lt_of_lt_of_le hnx kp1.1
 obtain ⟨x2,R2,T2,W2,Tc2,H2,hc2,rt2,rh2,kp2,le2,hq2⟩ := W_le tabOk hm body R1 T1 W1 Tc1 ⟨put H1.objs n (.loop Tc0 N ps asg body .busy none),H1.next⟩ _ hnl.2 hd.2 rt1 (relH_other rh1 hu1 (Nat.le_refl _) hnx1) hq1
 cases x2 with
 | exit id => exact hq2.elim
 | ret => exact hq2.elim
 | normal =>
 obtain ⟨s,hI,hfit⟩ := hq2
 obtain ⟨hn2',hu2⟩ := kp2.2.2 n hnx1 hu1
 have hn2 : look H2.objs n = some (.loop Tc0 N ps asg body .busy none) := by rw [hn2']; show look (put _ _ _) n = _; rw [look_put,if_pos rfl]
 have hnx2 : n < H2.next := Nat.lt_of_lt_of_le hnx1 kp2.1
 obtain ⟨R3,rt3,rh3,kp3⟩ := hfit R2 Tc0 ⟨put H2.objs n (.loop Tc0 N ps asg body .ready none),H2.next⟩ (rt.mono (le1.trans le2)) (relH_other rh2 hu2 (Nat.le_refl _) hnx2)
 refine ⟨R3,⟨put H2.objs n (.loop Tc0 N ps asg body .ready none),H2.next⟩,s,?_,rt3,rh3,hI,(kp3.2.2 n hnx2 hu2).2,by show look (put _ _ _) n = _; rw [look_put,if_pos rfl],Nat.le_trans kp1.1 kp2.1,fun k hk => ?_⟩
 ·refine round_of hn (by rw [← hlen]; exact ((prs_all2.1 hxs).length).symm) hps fun l => (hc1 (.rnd l) H.next).mono ?_
  rintro e T H ⟨rfl,rfl,rfl⟩
  refine ⟨rfl,_,_,_,_,_,hn1.trans hn,(hc2 (.rnd l) _).mono ?_⟩
  rintro e T H' ⟨rfl,rfl,rfl⟩
  exact ⟨_,_,_,_,_,hn2,rfl,rfl⟩
 ·have hk2 : look H2.objs k ≠ none := by
   intro e
   apply hk
   show look (put _ _ _) k = none
   rw [look_put,if_neg (fun q => by subst q; rw [hn2] at e; cases e)]
   exact e
  rcases kp2.2.1 k hk2 with q | q
  ·have q1 : look H1.objs k ≠ none := by
    intro e
    apply q
    show look (put _ _ _) k = none
    rw [look_put,if_neg (fun q => by subst q; rw [hn1,hn] at e; cases e)]
    exact e
   exact kp1.2.1 k q1
  ·exact .inr (Nat.le_trans kp1.1 q)
def preH (a b s : Nat) (z : AO) (H : Heap) (e : List AV) : Heap := ⟨put (put H.objs (H.next + a) z) (H.next + a) (.cells [e] s 0),H.next + b⟩
def postH (c : Nat) (H : Heap) : Heap := ⟨H.objs,H.next + c⟩
inductive Fed (P : Program) (n a b c s : Nat) (z : AO) : List (List AV) → Heap → Heap → Prop
 | nil {H : Heap} : Fed P n a b c s z [] H H
 | cons {e : List AV} {l : List (List AV)} {H H1 H' : Heap} (h : Round2 P n [.agg e] (preH a b s z H e) (.ret (.sc (.bool true))) H1) (ho : okEff (preH a b s z H e) (.glob H1) = true) (hs : Fed P n a b c s z l (postH c H1) H') : Fed P n a b c s z (e :: l) H H'
theorem look_mem_ne {α : Type} {l : List (Nat × α)} {p : Nat × α} (h : p ∈ l) : look l p.1 ≠ none := by
 induction l with
 | nil => cases h
 | cons q l ih =>
  simp only [look]
  split
  ·simp
  ·rename_i hne
   rcases List.mem_cons.1 h with rfl | h
   ·simp at hne
   ·exact ih h
theorem okEff_glob {H H' : Heap} (h1 : H.next ≤ H'.next) (h2 : ∀ k,look H'.objs k ≠ none → look H.objs k ≠ none ∨ H.next ≤ k) : okEff H (.glob H') = true := by
 simp only [okEff,Bool.and_eq_true,decide_eq_true_eq,List.all_eq_true,Bool.or_eq_true]
 refine ⟨h1,fun p hp => ?_⟩
 rcases h2 _ (look_mem_ne hp) with q | q
 ·exact .inl (Option.isSome_iff_ne_none.2 q)
 ·exact .inr q
theorem fed_of (tabOk : TabOK P tab) (hm : P.follows .mixedOrders = true) {T0 : WT} {Tc0 : TL} {n a b c s : Nat} {z : AO} (hab : a < b) {ps : List Tmp} {asg body : Code} {S : Type} {hp : S → WH} {I : List (List WV) → S → Prop}
  (hps : ∀ p ∈ ps,p < N) (hl1 : ps.length = 1) (hnl : noLoop asg = true ∧ noLoop body = true) (hd : codeDst N asg = true ∧ codeDst N body = true)
  (h : ∀ y l s,I (y :: l) s → Wk P tab asg (putsW T0 ps [.agg y]) (hp s) (onlyN fun T2 W2 => Wk P tab body T2 W2 (onlyN fun _ W3 => ∃ s,I l s ∧ Fits T0 W3 T0 (hp s)))) :
  ∀ {ys : List (List WV)} {xs : List (List AV)} {R : Rn} {H : Heap} {s0 : S},PRss ys xs → I ys s0 → RelT R T0 Tc0 → RelH R (hp s0) H → look H.objs n = some (.loop Tc0 N ps asg body .ready none) → Unown R (hp s0) n → n < H.next →
   ∃ R' H' s1,Fed P n a b c s z xs H H' ∧ I [] s1 ∧ RelT R' T0 Tc0 ∧ RelH R' (hp s1) H' ∧ Unown R' (hp s1) n ∧ look H'.objs n = some (.loop Tc0 N ps asg body .ready none) ∧ H.next ≤ H'.next ∧ ∀ k,look H'.objs k ≠ none → look H.objs k ≠ none ∨ H.next ≤ k
 | [],_,R,H,s0,.nil,hI,rt,rh,hn,hu,hnx => ⟨R,H,s0,.nil,hI,rt,rh,hu,hn,Nat.le_refl _,fun _ h => .inl h⟩
 | y :: ys,_,R,H,s0,.cons (x := x) (xs := xs) hx hxs,hI,rt,rh,hn,hu,hnx => by
  have hun : ∀ m,H.next ≤ m → Unown R (hp s0) m := fun m hm k o h1 h2 e => by
   obtain ⟨p,hp⟩ := rh.ob_look h1 h2
   rw [e,rh.fresh m hm] at hp
   cases hp
  have rh1 : RelH R (hp s0) (preH a b s z H x) := by
   have r1 := relH_other (n := H.next + a) (nx := H.next + b) (x := z) rh (hun _ (by omega)) (by omega) (by omega)
   exact relH_other (H := ⟨put H.objs (H.next + a) z,H.next + b⟩) (n := H.next + a) (nx := H.next + b) (x := .cells [x] s 0) r1 (hun _ (by omega)) (Nat.le_refl _) (by omega)
  have hn1 : look (preH a b s z H x).objs n = some (.loop Tc0 N ps asg body .ready none) := by
   show look (put (put _ _ _) _ _) n = _
   rw [look_put,if_neg (by omega),look_put,if_neg (by omega)]
   exact hn
  obtain ⟨R1,H1,s1,hr,rt1,rh2,hI1,hu1,hn2,hle,hk⟩ := round_ok tabOk hm (n := n) rt rh1 hn1 hu (show n < H.next + b by omega) hps hnl hd (ys := [.agg y]) (xs := [.agg x]) (.cons (.agg hx) .nil) (by simp [hl1]) (h y ys s0 hI)
  have hle' : H.next + b ≤ H1.next := hle
  obtain ⟨R2,H2,s2,hf,hI2,rt2,rh3,hu2,hn3,hle2,hk2⟩ := fed_of tabOk hm hab hps hl1 hnl hd h (H := postH c H1) hxs hI1 rt1 (relH_next rh2 (Nat.le_add_right _ _)) hn2 hu1 (show n < H1.next + c by omega)
  refine ⟨R2,H2,s2,.cons hr (okEff_glob hle hk) hf,hI2,rt2,rh3,hu2,hn3,Nat.le_trans (Nat.le_trans (Nat.le_add_right _ _) hle') (Nat.le_trans (Nat.le_add_right _ _) hle2),fun k hk' => ?_⟩
  rcases hk2 k hk' with q | q
  ·rcases hk k q with q | q
   ·have q : look (put (put H.objs (H.next + a) z) (H.next + a) (.cells [x] s 0)) k ≠ none := q
    by_cases e : H.next + a = k
    ·exact .inr (by omega)
    ·rw [look_put,if_neg e,look_put,if_neg e] at q
     exact .inl q
   ·exact .inr (Nat.le_trans (Nat.le_add_right _ _) q)
  ·exact .inr (Nat.le_trans (Nat.le_trans (Nat.le_add_right _ _) hle') (Nat.le_trans (Nat.le_add_right _ _) q))
end
end Go.Abs
end
