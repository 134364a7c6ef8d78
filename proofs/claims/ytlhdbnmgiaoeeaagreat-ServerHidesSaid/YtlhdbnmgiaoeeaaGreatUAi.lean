/- Of ServerHides: lemmas. -/
import Derived.Test.YtlhdbnmgiaoeeaaGreatUAh
import Derived.Test.YtlhdbnmgiaoeeaaGreatUAe
import Derived.Test.YtlhdbnmgiaoeeaaGreatProg
import Derived.KernelRfl
import Derived.Lib.Strings
import Derived.Lib.Bytealg
set_option linter.all false
section
namespace Go.Abs
noncomputable section
variable {P:Program} {tab:Tab} {R:Rn} {T:WT} {W:WH} {H:Heap} {Tc:TL} {k:FK} {N n0:Nat}
def axOf:WX->AX
 |.normal=>.normal
 |.exit id=>.exit id
 |.ret=>.ret
 |.pan v=>.pan v
def codeDst (N:Nat):Code->Bool
 |.region _ ops _=>dstOk N ops.toList
 |.seq a b=>codeDst N a&&codeDst N b
 |.cond _ a b=>codeDst N a&&codeDst N b
 |.block _ a=>codeDst N a
 |.loop a=>codeDst N a
 |.scope a=>codeDst N a
 |.rangeFunc _ ps a b=>ps.toList.all (λp=>Nat.blt p N)&&(codeDst N a&&codeDst N b)
 |_=>true
def Comes (P:Program) (Y:YP) (N:Nat) (c:Code) (R:Rn) (W:WH) (Tc:TL) (H:Heap) (Q:WQ):Prop:=
 ∃x R' T' W' Tc' H',(∀k n0,(Y.out=true->k.isOut=true)->CW P k N n0 c Tc H (exactly (axOf x) Tc' H'))/\RelT R' T' Tc'/\RelH R' W' H'/\Kept R W H R' W' H'/\Q x T' W'
inductive LoopW (P:Program) (Y:YP) (x:Code) (T:WT) (W:WH) (Q:WQ):Prop
 |mk (h:∀N R Tc H,codeDst N x=true->RelT R T Tc->RelH R W H->Comes P Y N (.loop x) R W Tc H Q)
inductive RangeW (P:Program) (Y:YP) (g:Operand) (ps:Array Tmp) (asg body:Code) (T:WT) (W:WH) (Q:WQ):Prop
 |mk (h:∀N R Tc H,codeDst N (.rangeFunc g ps asg body)=true->RelT R T Tc->RelH R W H->Comes P Y N (.rangeFunc g ps asg body) R W Tc H Q)
def afterW (Q:WQ) (K:WT->WH->Prop):WQ:=λe T H=>match e with | .normal=>K T H | .exit id=>Q (.exit id) T H | .ret=>Q .ret T H | .pan v=>Q (.pan v) T H
def blockW (id:Nat) (Q:WQ):WQ:=λe T H=>match e with | .normal=>Q .normal T H | .exit id'=>(bif Nat.beq id' id then Q .normal T H else Q (.exit id') T H) | .ret=>Q .ret T H | .pan v=>Q (.pan v) T H
def condW (T:WT) (c:Operand) (X Y:Prop):Prop:=match evW T c with
 |some (.sc (.bool b))=>both b X Y
 |_=>False
def Wk (P:Program) (tab:Tab) (Y:YP) (c:Code):WT->WH->WQ->Prop:=Code.rec (motive:=λ_=>WT->WH->WQ->Prop)
 (λT H Q=>Q .normal T H)
 (λ_ ops draw T H Q=>regionW P tab Y ops draw T H Q)
 (λ_ _ wx wy T H Q=>wx T H (afterW Q λT' H'=>wy T' H' Q))
 (λc _ _ wx wy T H Q=>condW T c (wx T H Q) (wy T H Q))
 (λid _ wx T H Q=>wx T H (blockW id Q))
 (λx _ T H Q=>LoopW P Y x T H Q)
 (λg ps asg body _ _ T H Q=>RangeW P Y g ps asg body T H Q)
 (λid T H Q=>Q (.exit id) T H)
 (λ_ wx T H Q=>wx T H Q)
 (λ_ T H Q=>Q .normal T H)
 (λ_ _ _ _=>False)
 (λT H Q=>Q .ret T H)
 (λ_ _ _ _=>False)
 c
theorem round_or {Y:YP} (hk:Y.out=true->k.isOut=true) {recs:List Rec} (h:∀rc∈recs,∀ob∈rc.ob,ob.holdsY P/\(Y.out=false->ob.isRound=false)):k.isOut=true\/∀rc∈recs,noRound rc=true:=by
 cases ho:Y.out with
 |true=>grind
 |false=>
  refine .inr λrc hrc=>?_
  simp only [noRound,List.all_eq_true,Bool.not_eq_true']
  grind
theorem region_comes (tabOk:TabOK P tab) (hm:P.follows .mixedOrders=true) {id:Nat} {ops:Array Oper} {draw:Bool} {Q:WQ} (hd:dstOk N ops.toList=true) (rt:RelT R T Tc) (rh:RelH R W H) {Y:YP} (h:regionW P tab Y ops draw T W Q):Comes P Y N (.region id ops draw) R W Tc H Q:=by
 unfold regionW at h
 obtain ⟨ow,how⟩:=owns_exists rh
 rcases opsW_sound ops.toList 0 R T W Tc H [] rt rh h with ⟨A,T',W',es,R',Tc',H',recs,q⟩ | ⟨A,v,es,R',W',H',recs,q⟩
 rotate_right
 ·have hf:=q.fin
  rw [List.append_nil] at hf
  have hq:(draw=true->drawOk H ops ops.toList recs=true)/\Q (.pan v) [] ⟨[],0⟩:=by
   cases draw with
   |true=>
    obtain ⟨ow',_,_,ht⟩:=q.told rfl ow how
    obtain ⟨h1,h2⟩:=hf
    rw [List.reverse_cons,List.reverse_reverse] at h1
    have hl:(es++([⟨[],[GL]⟩]:List WE)).length=ops.toList.length:=by
     simp only [drawW,Bool.and_eq_true,beq_iff_eq] at h1
     exact h1.1
    refine ⟨λ_=>draw_ok (ow:=ow') ⟨hl,by rw [q.len.1,<-hl];simp⟩ (λj e rc he hrc=>?_) h1,h2⟩
    rcases Nat.lt_or_ge j es.length with p | p
    ·rw [List.getElem?_append_left p] at he
     exact .inr ⟨q.ret.2 j rc hrc p,ht j e rc he hrc⟩
    grind
   |false=>grind
  refine ⟨.pan v,⟨0,λ_=>False,λ_=>0,λ_=>nilA⟩,[],⟨[],0⟩,[],H',λk n0 hk=>?_,λt v h=>(by cases h),⟨rfl,λn o h=>by (cases h),λn m o p h=>by (cases h),q.rh.fresh⟩,⟨q.kept.1,q.kept.2.1,λk hk hu=>⟨(q.kept.2.2 k hk hu).1,λn o h=>by (cases h)⟩⟩,hq.2⟩
  exact CW.region tabOk hm hd q.run hq.1 (λrc hrc ob hob=>(q.obs rc hrc ob hob).1) (round_or hk q.obs) ⟨rfl,rfl,rfl⟩
 have hf:=q.fin
 rw [List.append_nil] at hf
 have hq:(draw=true->drawOk H ops ops.toList recs=true)/\Q .normal T' W':=by
  cases draw with
  |true=>
   obtain ⟨ow',_,_,ht⟩:=q.told rfl ow how
   obtain ⟨h1,h2⟩:=hf
   rw [List.reverse_reverse] at h1
   exact ⟨λ_=>draw_ok q.len (λj e rc h1 h2=>.inr ⟨q.ret rc (List.mem_of_getElem? h2),ht j e rc h1 h2⟩) h1,h2⟩
  |false=>grind
 refine ⟨.normal,R',T',W',Tc',H',λk n0 hk=>?_,q.rt,q.rh,q.kept,hq.2⟩
 exact CW.region tabOk hm hd q.run hq.1 (λrc hrc ob hob=>(q.obs rc hrc ob hob).1) (round_or hk q.obs) ⟨rfl,rfl,rfl⟩
theorem W_sound (tabOk:TabOK P tab) (hm:P.follows .mixedOrders=true) {Y:YP}:∀(c:Code) (R:Rn) (T:WT) (W0:WH) (Tc:TL) (H:Heap) (Q:WQ),codeDst N c=true->RelT R T Tc->RelH R W0 H->Wk P tab Y c T W0 Q->Comes P Y N c R W0 Tc H Q:=by
 intro c
 induction c with
 |skip=>intro R T W0 Tc H Q _ rt rh h;exact ⟨.normal,R,T,W0,Tc,H,λk n0 hk=>CW.skip ⟨rfl,rfl,rfl⟩,rt,rh,Kept.refl ..,h⟩
 |label l=>intro R T W0 Tc H Q _ rt rh h;exact ⟨.normal,R,T,W0,Tc,H,λk n0 hk=>CW.label ⟨rfl,rfl,rfl⟩,rt,rh,Kept.refl ..,h⟩
 |exit id=>intro R T W0 Tc H Q _ rt rh h;exact ⟨.exit id,R,T,W0,Tc,H,λk n0 hk=>CW.exit ⟨rfl,rfl,rfl⟩,rt,rh,Kept.refl ..,h⟩
 |ret=>intro R T W0 Tc H Q _ rt rh h;exact ⟨.ret,R,T,W0,Tc,H,λk n0 hk=>CW.ret ⟨rfl,rfl,rfl⟩,rt,rh,Kept.refl ..,h⟩
 |goto l=>intro R T W0 Tc H Q _ rt rh h;exact h.elim
 |refuse w=>intro R T W0 Tc H Q _ rt rh h;exact h.elim
 |rangeFunc g ps a b=>intro R T W0 Tc H Q hd rt rh h;cases h with | mk h=>grind
 |region id ops draw=>intro R T W0 Tc H Q hd rt rh h;exact region_comes tabOk hm hd rt rh h
 |loop x=>intro R T W0 Tc H Q hd rt rh h;cases h with | mk h=>exact h N R Tc H hd rt rh
 |seq x y ihx ihy=>
  intro R T W0 Tc H Q hd rt rh h
  simp only [codeDst,Bool.and_eq_true] at hd
  obtain ⟨e,R1,T1,W1,Tc1,H1,h1,rt1,rh1,kp1,hq⟩:=ihx R T W0 Tc H _ hd.1 rt rh h
  cases e with
  |normal=>
   obtain ⟨e2,R2,T2,W2,Tc2,H2,h2,rt2,rh2,kp2,hq2⟩:=ihy R1 T1 W1 Tc1 H1 Q hd.2 rt1 rh1 hq
   refine ⟨e2,R2,T2,W2,Tc2,H2,λk n0 hk=>CW.seq ((h1 k n0 hk).mono ?_),rt2,rh2,kp1.trans kp2,hq2⟩
   rintro e3 T3 H3 ⟨rfl,rfl,rfl⟩
   exact h2 k n0 hk
  |exit id=>
   refine ⟨.exit id,R1,T1,W1,Tc1,H1,λk n0 hk=>CW.seq ((h1 k n0 hk).mono ?_),rt1,rh1,kp1,hq⟩
   rintro e3 T3 H3 ⟨rfl,rfl,rfl⟩
   exact ⟨rfl,rfl,rfl⟩
  |ret=>
   refine ⟨.ret,R1,T1,W1,Tc1,H1,λk n0 hk=>CW.seq ((h1 k n0 hk).mono ?_),rt1,rh1,kp1,hq⟩
   rintro e3 T3 H3 ⟨rfl,rfl,rfl⟩
   exact ⟨rfl,rfl,rfl⟩
  |pan v=>
   refine ⟨.pan v,R1,T1,W1,Tc1,H1,λk n0 hk=>CW.seq ((h1 k n0 hk).mono ?_),rt1,rh1,kp1,hq⟩
   rintro e3 T3 H3 ⟨rfl,rfl,rfl⟩
   exact ⟨rfl,rfl,rfl⟩
 |cond c x y ihx ihy=>
  intro R T W0 Tc H Q hd rt rh h
  simp only [codeDst,Bool.and_eq_true] at hd
  have h:condW T c (Wk P tab Y x T W0 Q) (Wk P tab Y y T W0 Q):=h
  unfold condW at h
  split at h
  ·rename_i b hb
   obtain ⟨z,hz,hr⟩:=ev_ok rt hb
   obtain rfl:=hr.sc_inv
   cases b with
   |true=>
    obtain ⟨e,R1,T1,W1,Tc1,H1,h1,q⟩:=ihx R T W0 Tc H Q hd.1 rt rh h
    exact ⟨e,R1,T1,W1,Tc1,H1,λk n0 hk=>CW.cond hz (h1 k n0 hk),q⟩
   |false=>
    obtain ⟨e,R1,T1,W1,Tc1,H1,h1,q⟩:=ihy R T W0 Tc H Q hd.2 rt rh h
    exact ⟨e,R1,T1,W1,Tc1,H1,λk n0 hk=>CW.cond hz (h1 k n0 hk),q⟩
  grind
 |block id x ihx=>
  intro R T W0 Tc H Q hd rt rh h
  simp only [codeDst] at hd
  obtain ⟨e,R1,T1,W1,Tc1,H1,h1,rt1,rh1,kp1,hq⟩:=ihx R T W0 Tc H _ hd rt rh h
  cases e with
  |normal=>
   refine ⟨.normal,R1,T1,W1,Tc1,H1,λk n0 hk=>CW.block ((h1 k n0 hk).mono ?_),rt1,rh1,kp1,hq⟩
   rintro e3 T3 H3 ⟨rfl,rfl,rfl⟩
   exact ⟨rfl,rfl,rfl⟩
  |ret=>
   refine ⟨.ret,R1,T1,W1,Tc1,H1,λk n0 hk=>CW.block ((h1 k n0 hk).mono ?_),rt1,rh1,kp1,hq⟩
   rintro e3 T3 H3 ⟨rfl,rfl,rfl⟩
   exact ⟨rfl,rfl,rfl⟩
  |pan v=>
   refine ⟨.pan v,R1,T1,W1,Tc1,H1,λk n0 hk=>CW.block ((h1 k n0 hk).mono ?_),rt1,rh1,kp1,hq⟩
   rintro e3 T3 H3 ⟨rfl,rfl,rfl⟩
   exact ⟨rfl,rfl,rfl⟩
  |exit id'=>
   have hq:bif Nat.beq id' id then Q .normal T1 W1 else Q (.exit id') T1 W1:=hq
   cases hb:Nat.beq id' id with
   |true=>
    rw [hb] at hq
    refine ⟨.normal,R1,T1,W1,Tc1,H1,λk n0 hk=>CW.block ((h1 k n0 hk).mono ?_),rt1,rh1,kp1,hq⟩
    rintro e3 T3 H3 ⟨rfl,rfl,rfl⟩
    simp only [axOf,blockP]
    rw [if_pos (Nat.eq_of_beq_eq_true hb)]
    exact ⟨rfl,rfl,rfl⟩
   |false=>
    rw [hb] at hq
    refine ⟨.exit id',R1,T1,W1,Tc1,H1,λk n0 hk=>CW.block ((h1 k n0 hk).mono ?_),rt1,rh1,kp1,hq⟩
    rintro e3 T3 H3 ⟨rfl,rfl,rfl⟩
    simp only [axOf,blockP]
    rw [if_neg (Nat.ne_of_beq_eq_false hb)]
    exact ⟨rfl,rfl,rfl⟩
 |scope x ihx=>
  intro R T W0 Tc H Q hd rt rh h
  simp only [codeDst] at hd
  obtain ⟨e,R1,T1,W1,Tc1,H1,h1,q⟩:=ihx R T W0 Tc H Q hd rt rh h
  refine ⟨e,R1,T1,W1,Tc1,H1,λk n0 hk=>CW.scope ((h1 k n0 hk).mono ?_),q⟩
  rintro e3 T3 H3 ⟨rfl,rfl,rfl⟩
  cases e<;>exact ⟨rfl,rfl,rfl⟩
theorem putAll_upd:∀(ups:List (Nat×AO)) (objs:List (Nat×AO)) (f:Nat->Option AO) (m:Nat),(∀m,look objs m=f m)->look (putAll objs ups) m=updAll f ups m
 |[],objs,f,m,h=>h m
 |(n,o)::r,objs,f,m,h=>by
  simp only [putAll,updAll]
  refine putAll_upd r _ _ m λm=>?_
  rw [look_put]
  unfold upd
  split
  ·rename_i e;rw [if_pos e.symm]
  ·rename_i e;rw [if_neg (λq=>e q.symm)];exact h m
theorem CW.lend {c:Code} {Q:Post} {ms:List Nat} {Tc2:TL} (hm:∀m∈ms,∃o,look H.objs m=some o) (ht:∀t x,look Tc2 t=some x->look Tc t=some x\/∃y j ns,look Tc t=some y/\viewA H j y=some (x,ns)/\∀n∈ns,n∈ms)
 (h:CW P k N n0 c Tc2 ⟨putAll H.objs (marks H ms),H.next⟩ Q):CW P k N n0 c Tc H Q:=by
 intro B σ a ar
 have sp:=ar.ss.toSP
 have hh:∀n∈ms,look H.objs n=σ.h n:=λn _=>by rw [sp.h]
 have le:=le_lend sp.sr ms
 have sr':=sr_lend sp.sr ms
 have hσ:(σ.lend ms).h=look (putAll H.objs (marks H ms)):=by
  rw [lend_h hh hm]
  funext m
  exact (putAll_upd _ _ _ m λm=>by rw [sp.h]).symm
 have used:∀m,Used (σ.lend ms) m->Used σ m:=λm hu=>by
  rcases hu with q | q
  ·refine .inl λe=>q ?_
   show (if m∈ms then (σ.h m).map frozenO else σ.h m)=none
   grind
  ·exact .inr q
 have fr:∀m,H.next<=m->(σ.lend ms).h m=none/\¬(σ.lend ms).dead m:=λm hm'=>by
  obtain ⟨q1,q2⟩:=sp.fresh m hm'
  refine ⟨?_,q2⟩
  show (if m∈ms then (σ.h m).map frozenO else σ.h m)=none
  grind
 have ar':Arr N n0 B (σ.lend ms) a Tc2 ⟨putAll H.objs (marks H ms),H.next⟩:=by
  refine ⟨⟨⟨sr',hσ,fr⟩,λt x hx=>?_,ar.ss.size⟩,ar.n0,ar.mks.mono le sr',ar.hB⟩
  rcases ht t x hx with q | ⟨y,j,ns,q1,q2,q3⟩
  ·exact (ar.ss.tr t x q).mono le
  ·exact .tree (view_vr sp.sr j y x ns _ (ar.ss.tr t y q1) q2 (λn _=>by rw [sp.h]) q3)
 exact wpIn_mono (h B (σ.lend ms) a ar') λ_ _ _ hq=>hq.base ⟨le,λm hm=>.inl (used m hm)⟩ sr'
def Suits (T:WT) (W:WH) (T1:WT) (W1:WH):Prop:=∀R Tc H,RelT R T Tc->RelH R W H->∃R1 Tc1 H1,(∀(P:Program) (k:FK) (N n0:Nat) (c:Code) (Q:Post),CW P k N n0 c Tc1 H1 Q->CW P k N n0 c Tc H Q)/\RelT R1 T1 Tc1/\RelH R1 W1 H1/\Kept R W H R1 W1 H1
theorem loopW (tabOk:TabOK P tab) (hm:P.follows .mixedOrders=true) {Y:YP} {x:Code} {Q:WQ} {S:Type} (sh:S->WT) (hp:S->WH) (I:S->Prop) (m:S->Nat) (s0:S) (h0:I s0) (fit:Suits T W (sh s0) (hp s0))
 (step:∀s,I s->Wk P tab Y x (sh s) (hp s) (λe T' W'=>match e with | .normal=>∃s',I s'/\m s'<m s/\Suits T' W' (sh s') (hp s') | .exit id=>Q (.exit id) T' W' | .ret=>Q .ret T' W' | .pan v=>Q (.pan v) T' W')):LoopW P Y x T W Q:=by
 refine ⟨λN R Tc H hd rt rh=>?_⟩
 have:∀n s R Tc H,m s<n->I s->RelT R (sh s) Tc->RelH R (hp s) H->∃e R' T' W' Tc' H',(∀k n0,(Y.out=true->k.isOut=true)->CW.rounds P k N n0 x (exactly (axOf e) Tc' H') n Tc H)/\RelT R' T' Tc'/\RelH R' W' H'/\Kept R (hp s) H R' W' H'/\Q e T' W':=by
  intro n
  induction n with
  |zero=>omega
  |succ n ih=>
   intro s R Tc H hlt hI rt rh
   obtain ⟨e,R1,T1,W1,Tc1,H1,h1,rt1,rh1,kp1,hq⟩:=W_sound tabOk hm x R (sh s) (hp s) Tc H _ hd rt rh (step s hI)
   cases e with
   |normal=>
    obtain ⟨s',hI',hlt',hfit⟩:=hq
    obtain ⟨R2,Tc2,H2,hgo,rt2,rh2,kp2⟩:=hfit R1 Tc1 H1 rt1 rh1
    obtain ⟨e,R3,T3,W3,Tc3,H3,h3,rt3,rh3,kp3,hq3⟩:=ih s' R2 Tc2 H2 (by omega) hI' rt2 rh2
    refine ⟨e,R3,T3,W3,Tc3,H3,λk n0 hk=>(h1 k n0 hk).mono ?_,rt3,rh3,(kp1.trans kp2).trans kp3,hq3⟩
    rintro e4 T4 H4 ⟨rfl,rfl,rfl⟩
    have:=h3 k n0 hk
    cases n with
    |zero=>omega
    |succ n=>exact hgo P k N n0 x _ this
   |exit id=>
    refine ⟨.exit id,R1,T1,W1,Tc1,H1,λk n0 hk=>(h1 k n0 hk).mono ?_,rt1,rh1,kp1,hq⟩
    rintro e4 T4 H4 ⟨rfl,rfl,rfl⟩
    exact ⟨rfl,rfl,rfl⟩
   |ret=>
    refine ⟨.ret,R1,T1,W1,Tc1,H1,λk n0 hk=>(h1 k n0 hk).mono ?_,rt1,rh1,kp1,hq⟩
    rintro e4 T4 H4 ⟨rfl,rfl,rfl⟩
    exact ⟨rfl,rfl,rfl⟩
   |pan v=>
    refine ⟨.pan v,R1,T1,W1,Tc1,H1,λk n0 hk=>(h1 k n0 hk).mono ?_,rt1,rh1,kp1,hq⟩
    rintro e4 T4 H4 ⟨rfl,rfl,rfl⟩
    exact ⟨rfl,rfl,rfl⟩
 obtain ⟨R1,Tc1,H1,hgo,rt1,rh1,kp0⟩:=fit R Tc H rt rh
 obtain ⟨e,R',T',W',Tc',H',h1,rt',rh',kp',hq'⟩:=this (m s0+1) s0 R1 Tc1 H1 (Nat.lt_succ_self _) h0 rt1 rh1
 exact ⟨e,R',T',W',Tc',H',λk n0 hk=>hgo P k N n0 _ _ (CW.loop _ (h1 k n0 hk)),rt',rh',kp0.trans kp',hq'⟩
abbrev NM:=List (Nat×Option Nat)
def backC (ns:NM) (v:WV):Option WV:=match v with
 |.row n=>(match lk ns n with | some (some m)=>some (.row m) | some none=>some (.sc (.slice none 0 0)) | none=>none)
 |.box n fo=>(match lk ns n with | some (some m)=>some (.box m fo) | _=>none)
 |.elt n i fo=>(match lk ns n with | some (some m)=>some (.elt m i fo) | _=>none)
 |.agg _=>none
 |.tup _=>none
 |.win _ _ _ _=>none
 |.fn _ _ _=>none
 |.mp n=>(match lk ns n with | some (some m)=>some (.mp m) | _=>none)
 |.yld n=>(match lk ns n with | some (some m)=>some (.yld m) | _=>none)
 |.ifc _ _=>none
 |.lsc _=>none
 |v=>some v
def backV (ns:NM) (v:WV):Option WV:=match v with
 |.ifc t (.agg cs)=>bif cs.all leafB then some (.ifc t (.agg cs)) else none
 |.fn f a b=>(match mapO (backC ns) a,mapO (backC ns) b with
  |some a',some b'=>some (.fn f a' b')
  |_,_=>none)
 |.agg cs=>bif cs.all leafB then some (.agg cs) else (mapO (backC ns) cs).map .agg
 |v=>backC ns v
def fitT (ns:NM) (T:WT):WT->Prop
 |[]=>True
 |(t,v)::r=>(lk T t=backV ns v/\(backV ns v).isSome=true)/\fitT ns T r
def fitO (ns:NM) (W:WH) (n:Nat) (o:WO):Prop:=match lk ns n,o with
 |some (some m),.row es s fz _=>∃fz' rt',lk W.objs m=some (.row es s fz' rt')/\leafs es/\(fz=false->fz'=false)
 |some (some m),.box cs fz=>∃cs' fz',mapO (backC ns) cs=some cs'/\lk W.objs m=some (.box cs' fz')/\(fz=false->fz'=false)
 |some none,.row es _ _ _=>es=[]
 |some (some m),.set ks V=>∃V0,lk W.objs m=some (.set ks V0)/\∀v,V0 v->V v
 |some (some m),.bag G fz pe=>∃G0 fz' pe',lk W.objs m=some (.bag G0 fz' pe')/\(∀k x,G0 k x->G k x)/\(∀p∈pe,p∈pe')/\(fz=false->fz'=false)
 |some (some m),.loop D T' st pend=>∃T,lk W.objs m=some (.loop D T st pend)/\fitT ns T T'
 |some (some m),.frm T' Tc=>∃T,lk W.objs m=some (.frm T Tc)/\fitT ns T T'
 |_,_=>False
def fitH (ns:NM) (W:WH):List (Nat×WO)->Prop
 |[]=>True
 |(n,o)::r=>fitO ns W n o/\fitH ns W r
def nmOk (ns:NM) (nx:Nat):Bool:=ns.all (λp=>Nat.blt p.1 nx)&&(ns.filterMap (λp=>p.2)).Nodup
theorem fitT_get {ns:NM} {T:WT}:∀{T1:WT} {t:Nat} {v:WV},fitT ns T T1->lk T1 t=some v->∃w,lk T t=some w/\backV ns v=some w
 |[],_,_,_,h=>by cases h
 |(t',v')::r,t,v,hf,h=>by
  rw [lk_cons] at h
  split at h
  ·rename_i e
   subst e
   cases h
   obtain ⟨⟨h1,h2⟩,_⟩:=hf
   cases hb:backV ns v' with
   |none=>rw [hb] at h2;cases h2
   |some w=>exact ⟨w,h1.trans hb,rfl⟩
  ·exact fitT_get hf.2 h
theorem fitH_get {ns:NM} {W:WH}:∀{l:List (Nat×WO)} {n:Nat} {o:WO},fitH ns W l->lk l n=some o->fitO ns W n o
 |[],_,_,_,h=>by cases h
 |(n',o')::r,n,o,hf,h=>by
  rw [lk_cons] at h
  split at h
  ·rename_i e;subst e;cases h;exact hf.1
  ·exact fitH_get hf.2 h
theorem nm_inj {ns:NM}:∀{a b m:Nat},(ns.filterMap (λp=>p.2)).Nodup->lk ns a=some (some m)->lk ns b=some (some m)->a=b:=by
 have aux:∀(l:NM) (a m:Nat),lk l a=some (some m)->m∈l.filterMap (λp=>p.2):=λl a m h=>by
  have:=lk_mem h
  grind
 induction ns with
 |nil=>grind
 |cons p r ih=>
  grind [lk_cons,List.nodup_cons]
def Rn.turn (R:Rn) (ns:NM) (nx:Nat):Rn where
 nx:=nx
 al:=λn=>∃q,lk ns n=some q/\∀m,q=some m->R.al m
 ob:=λn=>match lk ns n with | some (some m)=>R.ob m | _=>0
 av:=λn=>match lk ns n with | some (some m)=>R.av m | _=>nilA
theorem backC_ok {ns:NM} {nx:Nat} (hns:∀n q,lk ns n=some q->n<nx) {v w:WV} {x:AV} (h:backC ns v=some w) (hr:WR R w x):WR (R.turn ns nx) v x:=by
 unfold backC at h
 split at h
 ·rename_i n
  split at h
  ·rename_i m hm
   cases h
   obtain ⟨a,b,c⟩:=hr.row_inv
   refine .row (hns _ _ hm) b λhal=>?_
   obtain ⟨q,hq,hq2⟩:=hal
   rw [hm] at hq
   cases hq
   have:=c (hq2 m rfl)
   simp only [Rn.turn,hm]
   exact this
  ·rename_i hm
   cases h
   obtain rfl:=hr.sc_inv
   refine .row (hns _ _ hm) rfl λ_=>?_
   simp only [Rn.turn,hm]
   rfl
  ·cases h
 ·rename_i n fo
  split at h
  ·rename_i m hm
   cases h
   obtain ⟨a,b,c⟩:=hr.box_inv
   refine .box (hns _ _ hm) b λhal=>?_
   obtain ⟨q,hq,hq2⟩:=hal
   rw [hm] at hq
   cases hq
   have:=c (hq2 m rfl)
   simp only [Rn.turn,hm]
   exact this
  ·cases h
 ·rename_i n i fo
  split at h
  ·rename_i m hm
   cases h
   obtain ⟨a,b,c⟩:=hr.elt_inv
   refine .elt (hns _ _ hm) b λhal=>?_
   obtain ⟨q,hq,hq2⟩:=hal
   rw [hm] at hq
   cases hq
   have:=c (hq2 m rfl)
   simp only [Rn.turn,hm]
   exact this
  ·cases h
 ·cases h
 ·cases h
 ·cases h
 ·cases h
 ·rename_i n
  split at h
  ·rename_i m hm
   cases h
   obtain ⟨a,b,c⟩:=hr.mp_inv
   refine .mp (hns _ _ hm) b λhal=>?_
   obtain ⟨q,hq,hq2⟩:=hal
   rw [hm] at hq
   cases hq
   have:=c (hq2 m rfl)
   simp only [Rn.turn,hm]
   exact this
  ·cases h
 ·rename_i n
  split at h
  ·rename_i m hm
   cases h
   obtain ⟨a,b⟩:=hr.yld_inv
   refine .yld (hns _ _ hm) λhal=>?_
   obtain ⟨q,hq,hq2⟩:=hal
   rw [hm] at hq
   cases hq
   have:=b (hq2 m rfl)
   simp only [Rn.turn,hm]
   exact this
  ·cases h
 ·cases h
 ·cases h
 ·rename_i n1 n2 n3 n4 n5 n6 n7 n8 n9 n10 n11
  cases h
  cases hr with
  |pure h=>exact .pure h
  |agg=>grind
  |tup=>grind
  |row=>grind
  |box=>grind
  |elt=>grind
  |win=>grind
  |fn=>grind
  |mp=>grind
  |yld=>grind
  |ifc=>grind
theorem backCs_ok {ns:NM} {nx:Nat} (hns:∀n q,lk ns n=some q->n<nx):∀{cs ds:List WV} {xs:List AV},mapO (backC ns) cs=some ds->WRs R ds xs->WRs (R.turn ns nx) cs xs
 |[],_,_,h,hr=>by cases h;cases hr;exact .nil
 |c::cs,ds,xs,h,hr=>by
  simp only [mapO] at h
  split at h
  ·cases h
  ·rename_i a ha
   split at h
   ·cases h
   ·rename_i bs hbs
    cases h
    cases hr with
    |cons h1 h2=>exact .cons (backC_ok hns ha h1) (backCs_ok hns hbs h2)
theorem leafs_turn {R1:Rn} {cs:List WV} {xs:List AV} (hl:cs.all leafB=true) (h:WRs R cs xs):WRs R1 cs xs:=(leaf_prs hl h).wrs
theorem opt_of_bif {α:Type} {b:Bool} {x:Option α} {y:α} (h:(bif b then x else none)=some y):b=true/\x=some y:=by
 grind
theorem backV_ok {ns:NM} {nx:Nat} (hns:∀n q,lk ns n=some q->n<nx) {v w:WV} {x:AV} (h:backV ns v=some w) (hr:WR R w x):WR (R.turn ns nx) v x:=by
 unfold backV at h
 split at h
 ·rename_i t cs
  obtain ⟨hb,h⟩:=opt_of_bif h
  cases h
  obtain ⟨y,rfl,hy⟩:=hr.ifc_inv
  obtain ⟨xs,rfl,hx⟩:=hy.agg_inv
  exact .ifc (.agg (leafs_turn hb hx))
 ·rename_i f a b
  split at h
  ·rename_i a' b' ha hb
   cases h
   obtain ⟨xs,ys,rfl,hx,hy⟩:=hr.fn_inv
   exact .fn (backCs_ok hns ha hx) (backCs_ok hns hb hy)
  ·cases h
 ·rename_i cs
  cases hb:cs.all leafB with
  |true=>
   rw [hb] at h
   cases h
   obtain ⟨xs,rfl,hx⟩:=hr.agg_inv
   exact .agg (leafs_turn hb hx)
  |false=>
   rw [hb] at h
   obtain ⟨ds,hds,rfl⟩:=map_some h
   obtain ⟨xs,rfl,hx⟩:=hr.agg_inv
   exact .agg (backCs_ok hns hds hx)
 grind [backC_ok]
theorem suits_trans {T1 T2:WT} {W1 W2:WH} (h:Suits T W T1 W1) (h':Suits T1 W1 T2 W2):Suits T W T2 W2:=λR Tc H rt rh=>by
 obtain ⟨R1,Tc1,H1,g1,rt1,rh1,kp1⟩:=h R Tc H rt rh
 obtain ⟨R2,Tc2,H2,g2,rt2,rh2,kp2⟩:=h' R1 Tc1 H1 rt1 rh1
 exact ⟨R2,Tc2,H2,λP k N n0 c Q q=>g1 P k N n0 c Q (g2 P k N n0 c Q q),rt2,rh2,kp1.trans kp2⟩
theorem nil_suits (t:Nat) (h:lk T t=some (.sc (.slice none 0 0))):Suits T W ((t,.lst [])::T) W:=λR Tc H rt rh=>by
 obtain ⟨x,hx,hr⟩:=rt t _ h
 obtain rfl:=hr.sc_inv
 exact ⟨R,Tc,H,λ_ _ _ _ _ _ q=>q,relT_cons rt hx (.pure .emp),rh,Kept.refl ..⟩
theorem lend_suits (t:Nat) {m s rt':Nat} {es:List (List WV)} {fz:Bool} (h1:lk T t=some (.row m)) (h2:lk W.objs m=some (.row es s fz rt')) (hl:leafs es):Suits T W ((t,.lst es)::T) ⟨freezeW W.objs [m],W.nx⟩:=λR Tc H rt rh=>by
 obtain ⟨x,hx,hr⟩:=rt t _ h1
 obtain ⟨d,ns,y,ms,⟨rfl,rfl⟩,hv,hp,hlent⟩:=viewC_ok (X:=λd ns=>d=.lst es/\ns=[m]) rh 0 hr (by unfold viewC;grind [deep0])
 have hsome:=hlent.some rh
 refine ⟨R,put Tc t y,⟨putAll H.objs (marks H ms),H.next⟩,λP k N n0 c Q q=>CW.lend hsome (λt' z hz=>?_) q,relT_put rt (.pure hp),relH_freeze rh hlent λc=>.inl (look_marks ms H.objs H.objs H.next c hsome),?_⟩
 case refine_2=>
  have hlk:∀c,look (putAll H.objs (marks H ms)) c=if c∈ms then (look H.objs c).map frozenO else look H.objs c:=λc=>look_marks ms H.objs H.objs H.next c hsome
  refine ⟨Nat.le_refl _,λk hk=>.inl λe=>hk ?_,λk _ hu=>⟨?_,λn o hn hh=>?_⟩⟩
  ·grind
  ·rw [hlk,if_neg]
   intro hm
   obtain ⟨n,_,o',a1,a2,a3,_⟩:=hlent k hm
   exact hu n _ a1 a2 a3
  ·rw [lk_freeze] at hn
   obtain ⟨p,hp',rfl⟩:=map_some hn
   refine hu n p hp' ?_
   cases p with
   |box cs fz=>trivial
   |set ks v=>trivial
   |bag G fz pe=>trivial
   |loop=>trivial
   |frm=>exact hh
   |row es' s' fz' rt2=>
    simp only [freezeO] at hh
    cases hc:[m].contains n<;>rw [hc] at hh<;>exact hh
 grind [look_put]
def Fits (T:WT) (W:WH) (T1:WT) (W1:WH):Prop:=∀R Tc H,RelT R T Tc->RelH R W H->∃R1,RelT R1 T1 Tc/\RelH R1 W1 H/\Kept R W H R1 W1 H
theorem fits_turn (ns:NM) {T1:WT} {W1:WH} (hn:nmOk ns W1.nx=true) (hT:fitT ns T T1) (hH:fitH ns W W1.objs) {R:Rn} {Tc:TL} {H:Heap} (rt:RelT R T Tc) (rh:RelH R W H):RelT (R.turn ns W1.nx) T1 Tc/\RelH (R.turn ns W1.nx) W1 H/\Kept R W H (R.turn ns W1.nx) W1 H:=by
 simp only [nmOk,Bool.and_eq_true,List.all_eq_true,decide_eq_true_eq] at hn
 have hns:∀n q,lk ns n=some q->n<W1.nx:=λn q h=>Nat.blt_eq.mp (hn.1 _ (lk_mem h))
 have frame:∀{T0 T2:WT} {Tc0:TL},fitT ns T0 T2->RelT R T0 Tc0->RelT (R.turn ns W1.nx) T2 Tc0:=λhf rt t v h=>by
  obtain ⟨w,hw,hb⟩:=fitT_get hf h
  obtain ⟨x,hx,hr⟩:=rt t w hw
  grind [backV_ok]
 refine ⟨frame hT rt,⟨rfl,λn o h=>?_,λn m o p h1 h2 h3 h4 e=>?_,rh.fresh⟩,Nat.le_refl _,λ_ h=>.inl h,λk _ hu=>⟨rfl,λn o hn hh e=>?_⟩⟩
 ·have hf:=fitH_get hH h
  unfold fitO at hf
  split at hf
  ·rename_i m es s fz rt1 hm
   obtain ⟨fz',rt',hl,hle,hfz⟩:=hf
   obtain ⟨q1,q2,q3,q4⟩:=rh.obj m _ hl
   refine ⟨hns _ _ hm,⟨_,hm,λk e=>(by grind)⟩,q3,?_⟩
   have a1:(R.turn ns W1.nx).ob n=R.ob m:=by simp only [Rn.turn,hm]
   have a2:(R.turn ns W1.nx).av n=R.av m:=by simp only [Rn.turn,hm]
   rcases q4 with ⟨b1,b2⟩ | ⟨g,cap,xs,fz2,b1,b2,b3,b4,b5,b6,b7⟩
   ·exact .inl ⟨a2.trans b1,b2⟩
   ·exact .inr ⟨g,cap,xs,fz2,by grind,by grind,b3,(leafs_prss hle b4).wrss,b5,b6,λh=>b7 (hfz h)⟩
  ·rename_i m cs fz hm
   obtain ⟨cs',fz1,hc,hl,hfz⟩:=hf
   obtain ⟨q1,q2,xs,fz2,q3,q4,q5,q6⟩:=rh.obj m _ hl
   refine ⟨hns _ _ hm,⟨_,hm,λk e=>(by grind)⟩,xs,fz2,?_,backCs_ok hns hc q4,q5,λh=>q6 (hfz h)⟩
   have a1:(R.turn ns W1.nx).ob n=R.ob m:=by simp only [Rn.turn,hm]
   have hlen:cs.length=cs'.length:=by
    have h1:=(wrs_all2.1 q4).length
    have h2:=(wrs_all2.1 (backCs_ok hns hc q4)).length
    omega
   grind
  ·rename_i es s fz rt1 hm
   subst hf
   refine ⟨hns _ _ hm,⟨_,hm,λk e=>(by cases e)⟩,λ_ h=>(by cases h),.inl ⟨?_,rfl⟩⟩
   simp only [Rn.turn,hm]
  ·rename_i m ks v hm
   obtain ⟨v0,hl,hv⟩:=hf
   obtain ⟨q1,q2,vs,bs,clock,q3,q4,qb,q5⟩:=rh.obj m _ hl
   refine ⟨hns _ _ hm,⟨_,hm,λk e=>(by grind)⟩,vs,bs,clock,?_,q4,qb,λx hx=>?_⟩
   ·have a1:(R.turn ns W1.nx).ob n=R.ob m:=by simp only [Rn.turn,hm]
    grind
   grind
  ·rename_i m G fz pe hm
   obtain ⟨G0,fz1,pe',hl,hG,hpe,hfz⟩:=hf
   obtain ⟨q1,q2,ks,vs,bs,clock,fz2,q3,q4,q5,q6,q7,q8⟩:=rh.obj m _ hl
   have a1:(R.turn ns W1.nx).ob n=R.ob m:=by simp only [Rn.turn,hm]
   exact ⟨hns _ _ hm,⟨_,hm,λk e=>(by grind)⟩,ks,vs,bs,clock,fz2,by grind,q4,⟨q5.1,q5.2.1,λp hp=>q5.2.2 p (hpe p hp)⟩,q6,λh=>q7 (hfz h),λi k x h1 h2=>hG k x (q8 i k x h1 h2)⟩
  ·rename_i m D2 T2 st2 pend2 hm
   obtain ⟨T0,hl,hf⟩:=hf
   obtain ⟨q1,q2,q3,q4,q5⟩:=rh.obj m _ hl
   have a1:(R.turn ns W1.nx).ob n=R.ob m:=by simp only [Rn.turn,hm]
   exact ⟨hns _ _ hm,⟨_,hm,λk e=>(by grind)⟩,frame hf q3,a1.trans q4,q5⟩
  ·rename_i m T2 Tc2 hm
   obtain ⟨T0,hl,hf⟩:=hf
   obtain ⟨q1,q2,q3⟩:=rh.obj m _ hl
   exact ⟨hns _ _ hm,⟨_,hm,λk e=>(by grind)⟩,frame hf q3⟩
  grind
 ·have key:∀{n:Nat} {o:WO},lk W1.objs n=some o->hasO (R.turn ns W1.nx) n o->∃m o',lk ns n=some (some m)/\lk W.objs m=some o'/\hasO R m o':=λ{n o} h hh=>by
   have hf:=fitH_get hH h
   unfold fitO at hf
   split at hf
   ·rename_i m es s fz rt1 hm
    obtain ⟨fz',rt',hl,_⟩:=hf
    refine ⟨m,_,hm,hl,?_⟩
    intro e
    exact hh (by simp only [Rn.turn,hm];exact e)
   ·rename_i m cs fz hm
    obtain ⟨cs',_,_,hl,_⟩:=hf
    exact ⟨m,_,hm,hl,trivial⟩
   ·rename_i es s fz rt1 hm
    exact absurd (show (R.turn ns W1.nx).av n=nilA by simp only [Rn.turn,hm]) hh
   ·rename_i m ks v hm
    obtain ⟨_,hl,_⟩:=hf
    exact ⟨m,_,hm,hl,trivial⟩
   ·rename_i m G fz pe hm
    obtain ⟨_,_,_,hl,_⟩:=hf
    exact ⟨m,_,hm,hl,trivial⟩
   ·rename_i m D2 T2 st2 pend2 hm
    obtain ⟨_,hl,_⟩:=hf
    exact ⟨m,_,hm,hl,trivial⟩
   ·exact hh.elim
   grind
  obtain ⟨a,o',a1,a2,a3⟩:=key h1 h3
  obtain ⟨b,p',b1,b2,b3⟩:=key h2 h4
  have e1:(R.turn ns W1.nx).ob n=R.ob a:=by simp only [Rn.turn,a1]
  have e2:(R.turn ns W1.nx).ob m=R.ob b:=by simp only [Rn.turn,b1]
  rw [e1,e2] at e
  have:=rh.inj a b _ _ a2 b2 a3 b3 e
  grind [nm_inj]
 ·have hf:=fitH_get hH hn
  unfold fitO at hf
  split at hf
  ·rename_i m es s fz rt1 hm
   obtain ⟨fz',rt',hl,_⟩:=hf
   have e1:(R.turn ns W1.nx).ob n=R.ob m:=by simp only [Rn.turn,hm]
   refine hu m _ hl ?_ (by rw [<-e1,e])
   intro e2
   exact hh (by simp only [Rn.turn,hm];exact e2)
  ·rename_i m cs fz hm
   obtain ⟨cs',_,_,hl,_⟩:=hf
   have e1:(R.turn ns W1.nx).ob n=R.ob m:=by simp only [Rn.turn,hm]
   exact hu m _ hl trivial (by rw [<-e1,e])
  ·rename_i es s fz rt1 hm
   exact absurd (show (R.turn ns W1.nx).av n=nilA by simp only [Rn.turn,hm]) hh
  ·rename_i m ks v hm
   obtain ⟨_,hl,_⟩:=hf
   have e1:(R.turn ns W1.nx).ob n=R.ob m:=by simp only [Rn.turn,hm]
   exact hu m _ hl trivial (by rw [<-e1,e])
  ·rename_i m G fz pe hm
   obtain ⟨_,_,_,hl,_⟩:=hf
   have e1:(R.turn ns W1.nx).ob n=R.ob m:=by simp only [Rn.turn,hm]
   exact hu m _ hl trivial (by rw [<-e1,e])
  ·rename_i m D2 T2 st2 pend2 hm
   obtain ⟨_,hl,_⟩:=hf
   have e1:(R.turn ns W1.nx).ob n=R.ob m:=by simp only [Rn.turn,hm]
   exact hu m _ hl trivial (by rw [<-e1,e])
  ·exact hh.elim
  omega
theorem fits_of (ns:NM) {T1:WT} {W1:WH} (hn:nmOk ns W1.nx=true) (hT:fitT ns T T1) (hH:fitH ns W W1.objs):Fits T W T1 W1:=λ_ _ _ rt rh=>⟨_,fits_turn ns hn hT hH rt rh⟩
theorem fit_of (ns:NM) {T1:WT} {W1:WH} (hn:nmOk ns W1.nx=true) (hT:fitT ns T T1) (hH:fitH ns W W1.objs):Suits T W T1 W1:=λR Tc H rt rh=>
 let ⟨R1,a,b,c⟩:=fits_of ns hn hT hH R Tc H rt rh
 ⟨R1,Tc,H,λ_ _ _ _ _ _ q=>q,a,b,c⟩
theorem backs_ok {ns:NM} {nx:Nat} {R:Rn} (hns:∀n q,lk ns n=some q->n<nx):∀{vs ws:List WV} {xs:List AV},mapO (backV ns) vs=some ws->WRs R ws xs->WRs (R.turn ns nx) vs xs
 |[],_,_,h,hr=>by cases h;cases hr;exact .nil
 |c::cs,ds,xs,h,hr=>by
  simp only [mapO] at h
  split at h
  ·cases h
  ·rename_i a ha
   split at h
   ·cases h
   ·rename_i bs hbs
    cases h
    cases hr with
    |cons h1 h2=>exact .cons (backV_ok hns ha h1) (backs_ok hns hbs h2)
theorem far_fit (ns:NM) {P:Program} {f:FuncId} {vs vs1:List WV} {T T1:WT} {W W1:WH} {K:WKF} (hn:nmOk ns W1.nx=true) (hT:fitT ns T T1) (hH:fitH ns W W1.objs) (hv:mapO (backV ns) vs1=some vs) (h:FarS P f vs1 T1 W1 K):FarS P f vs T W K:=by
 cases h with
 |mk h=>
 refine ⟨λR Tc H xs rt rh hx=>?_⟩
 obtain ⟨a,b,c⟩:=fits_turn ns hn hT hH rt rh
 have hn':=hn
 simp only [nmOk,Bool.and_eq_true,List.all_eq_true] at hn'
 have hns:∀n q,lk ns n=some q->n<W1.nx:=λn q h=>Nat.blt_eq.mp (hn'.1 _ (lk_mem h))
 obtain ⟨v,T',W',x,H',R',h1,h2,h3,h4,h5,h6⟩:=h _ Tc H xs a b (backs_ok hns hv hx)
 exact ⟨v,T',W',x,H',R',h1,h2,h3,h4,h5,c.trans h6⟩
def argsT (i:Nat):List WV->WT
 |[]=>[]
 |v::r=>(i,v)::argsT (i+1) r
def resW (tab:Tab) (T:WT) (H:WH):ResultVar->Option WV
 |.tmp t=>lk T t
 |.cell a t=>match lk T a,tab t with
  |some (.box n fo),some d=>(match lk H.objs n with
   |some (.box cs _)=>bif Nat.ble (fo+d.size) cs.length then ofCellsW d (takeW d.size (dropW fo cs)) else none
   |_=>none)
  |some (.elt n i fo),some d=>(match lk H.objs n with
   |some (.row es s _ _)=>bif Nat.beq i 0&&Nat.beq fo 0&&Nat.beq d.size (es.length*s)&&Nat.blt s d.size then ofCellsW d es.flatten else none
   |_=>none)
  |_,_=>none
def oneW:List WV->WV
 |[d]=>d
 |ds=>.tup ds
def endW (tab:Tab) (rs:List ResultVar) (G:WV->Prop) (T:WT) (H:WH):Prop:=match mapO (resW tab T H) rs with
 |some vs=>viewVs H vs λds _=>G (oneW ds)
 |none=>False
def endsW (tab:Tab) (rs:List ResultVar) (G:WV->Prop):WQ:=λe T H=>match e with
 |.exit _=>False
 |.pan _=>False
 |.normal=>endW tab rs G T H
 |.ret=>endW tab rs G T H
theorem res_ok (rt:RelT R T Tc) (rh:RelH R W H) {r:ResultVar} {v:WV} (h:resW tab T W r=some v):∃x,resV tab Tc H r=some x/\WR R v x:=by
 cases r with
 |tmp t=>exact rt t v h
 |cell a t=>
  simp only [resW] at h
  split at h
  ·rename_i n fo d ha hd
   split at h
   ·rename_i cs fz hcs
    cases hb:Nat.ble (fo+d.size) cs.length with
    |false=>grind
    |true=>
     rw [hb] at h
     obtain ⟨y,hy,hr⟩:=rt a _ ha
     obtain ⟨hal,xs,fz',hlook,hx,_⟩:=rh.box_obj hcs
     obtain rfl:=hr.box_inv.2.2 hal
     obtain ⟨x,hx1,hx2⟩:=ofCells_ok (take_drop_ok hx d.size fo) h
     have hle:fo+d.size<=cs.length:=Nat.le_of_ble_eq_true hb
     refine ⟨x,?_,hx2⟩
     simp only [resV,hy,hd,loadA,readAt,hlook,List.length_cons,List.length_nil,Nat.zero_add,if_true,List.getElem?_cons_zero]
     grind
   ·cases h
  ·rename_i n i fo d ha hd
   split at h
   ·rename_i es s fz rt' hes
    cases hb:(Nat.beq i 0&&Nat.beq fo 0&&Nat.beq d.size (es.length*s)&&Nat.blt s d.size) with
    |false=>grind
    |true=>
     rw [hb] at h
     simp only [cond_true] at h
     simp only [Bool.and_eq_true] at hb
     obtain ⟨⟨⟨b1,b2⟩,b3⟩,b4⟩:=hb
     obtain rfl:=Nat.eq_of_beq_eq_true b1
     obtain rfl:=Nat.eq_of_beq_eq_true b2
     have b3:d.size=es.length*s:=Nat.eq_of_beq_eq_true b3
     have b4:s<d.size:=Nat.le_of_ble_eq_true b4
     obtain ⟨y,hy,hr⟩:=rt a _ ha
     obtain ⟨hal,hlen,hrow⟩:=rh.row_obj hes
     obtain ⟨g,cap,hav,rfl⟩:=hr.elt_inv.2.2 hal
     rcases hrow with ⟨h1,_⟩ | ⟨g',cap',xs,fz',h1,hlook,hg,hx,_⟩
     ·grind
     rw [hav] at h1
     cases h1
     have hgl:g=es.length:=by rw [All2.length hx,hg]
     obtain ⟨x,hx1,hx2⟩:=ofCells_ok (flat_ok hx) h
     have hfl:xs.flatten.length=d.size:=by
      unfold ofCells at hx1
      grind
     have hne:0<xs.length:=by
      grind
     refine ⟨x,?_,hx2⟩
     simp only [resV,hy,hd,loadA,readAt,hlook]
     grind
   ·cases h
  ·cases h
theorem ress_ok (rt:RelT R T Tc) (rh:RelH R W H):∀{rs:List ResultVar} {vs:List WV},mapO (resW tab T W) rs=some vs->∃xs,mapOpt (resV tab Tc H) rs=some xs/\WRs R vs xs
 |[],_,h=>by cases h;exact ⟨[],rfl,.nil⟩
 |r::rs,vs,h=>by
  simp only [mapO] at h
  split at h
  ·cases h
  ·rename_i a ha
   split at h
   ·cases h
   ·rename_i bs hbs
    cases h
    obtain ⟨y,hy,hr⟩:=res_ok rt rh ha
    obtain ⟨ys,hys,hrs⟩:=ress_ok rt rh hbs
    exact ⟨y::ys,by simp [mapOpt,hy,hys],.cons hr hrs⟩
theorem endW_ok (rt:RelT R T Tc) (rh:RelH R W H) {rs:List ResultVar} {G:WV->Prop} (h:endW tab rs G T W):∃v k r x ns,resA tab Tc H rs=some v/\viewA H k v=some (x,ns)/\PR r x/\G r:=by
 unfold endW at h
 split at h
 ·rename_i vs hvs
  obtain ⟨xs,hxs,hx⟩:=ress_ok rt rh hvs
  obtain ⟨ds,ns,ys,ms,hG,hv,hp,_⟩:=viewVs_ok rh 2 hx h
  have hlen:=(prs_all2.1 hp).length
  unfold resA
  rw [hxs]
  have tup:(∀d,ds≠[d])->(∀x,xs≠[x])->∃v k r x ns,(match (some xs:Option (List AV)) with | some [v]=>some v | some vs=>some (.tup vs) | none=>none)=some v/\viewA H k v=some (x,ns)/\PR r x/\G r:=λh1 h2=>by
   refine ⟨.tup xs,9,.tup ds,.tup ys,ms,?_,?_,.tup hp,?_⟩
   ·grind
   ·show (match viewList (viewA H 8) xs with | some (ds,ns)=>some (AV.tup ds,ns) | none=>none)=_
    rw [hv]
   ·have:oneW ds=.tup ds:=by
     unfold oneW
     grind
    grind
  cases hx with
  |nil=>
   cases hv
   simp_all
  |@cons c cs x xs h1 h2=>
   cases h2 with
   |nil=>
    simp only [viewList] at hv
    split at hv
    ·rename_i d ns' q1 q2 q3 q4
     cases q4
     cases hv
     cases hp with
     |cons p1 p2=>
      cases p2
      exact ⟨x,8,_,_,_,rfl,q3,p1,hG⟩
    grind
   |cons h3 h4=>
    have hl2:ys.length>=2:=by
     have:=hlen
     have hvl:∀{l l':List AV} {m:List Nat},viewList (viewA H 8) l=some (l',m)->l'.length=l.length:=by
      intro l
      induction l with
      |nil=>intro l' m h;cases h;rfl
      |cons a l ih=>
       intro l' m h
       simp only [viewList] at h
       grind
     grind
    grind
 grind
theorem argsT_rel:∀{args:List WV} {xs:List AV} (i:Nat),PRs args xs->∀t v,lk (argsT i args) t=some v->∃x,look (argT i xs) t=some x/\PR v x
 |_,_,_,.nil,_,_,h=>by cases h
 |v::r,x::xs,i,.cons h hs,t,w,hl=>by
  simp only [argsT,argT] at hl ⊢
  rw [lk_cons] at hl
  simp only [look]
  split at hl
  ·rename_i e;cases hl;rw [if_pos e];exact ⟨x,rfl,h⟩
  ·rename_i e;rw [if_neg e];exact argsT_rel (i+1) hs t w hl
theorem wvalid (tabOk : TabOK P tab) (hm : P.follows .mixedOrders = true) {f : FuncId} {fn : Func} {c : Code} {args : List WV} {G : WV -> Prop} (hf : P.funcs[f]? = some fn) (hb : fn.body = some c) (hn : (fn.name == "runtime.NumGoroutine") = false) (hl : args.length <= fn.ntmps) (hd : codeDst fn.ntmps c = true)
 {Y:YP} (h:Wk P tab Y c (argsT 0 args) ⟨[],0⟩ (endsW tab fn.results.toList G)):WValid P f args G:=by
 intro xs hxs
 let R0:Rn:=⟨0,λ_=>False,λ_=>0,λ_=>nilA⟩
 have rt:RelT R0 (argsT 0 args) (argT 0 xs):=λt v h=>let ⟨x,h1,h2⟩:=argsT_rel 0 hxs t v h;⟨x,h1,.pure h2⟩
 have rh:RelH R0 ⟨[],0⟩ ⟨[],0⟩:=⟨rfl,λn o h=>by (cases h),λn m o p h=>by (cases h),λ_ _=>rfl⟩
 obtain ⟨e,R1,T1,W1,Tc1,H1,hc,rt1,rh1,kp1,hq⟩:=W_sound tabOk hm c R0 _ _ _ _ _ hd rt rh h
 have fin:endW tab fn.results.toList G T1 W1->(e=.normal\/e=.ret)->∃r x,PR r x/\G r/\Valid P f xs (.ret x):=λhq he=>by
  obtain ⟨v,k,r,x,ns,h1,h2,h3,h4⟩:=endW_ok rt1 rh1 hq
  refine ⟨r,x,h3,h4,valid_of tabOk hf hb hn (by rw [<-(prs_all2.1 hxs).length];exact hl) ((hc .out 0 λ_=>rfl).mono ?_)⟩
  rintro e' T' H' ⟨rfl,rfl,rfl⟩
  rcases he with rfl | rfl<;>exact ⟨v,h1,k,x,ns,h2,rfl⟩
 cases e with
 |normal=>exact fin hq (.inl rfl)
 |ret=>exact fin hq (.inr rfl)
 |exit id=>exact hq.elim
 |pan v=>exact hq.elim
def panA:AV->Bool
 |.ifc _ (.agg cs)=>cs.all λc=>match c with | .sc _=>true | _=>false
 |_=>false
theorem panA_view {v:AV} (h:panA v=true) (H:Heap):viewA H 9 v=some (v,[]):=by
 unfold panA at h
 split at h
 ·rename_i t cs
  have key:∀(l:List AV),l.all (λc=>match c with | .sc _=>true | _=>false)=true->viewList (viewA H 7) l=some (l,[]):=by
   intro l
   induction l with
   |nil=>intro _;rfl
   |cons c l ih=>
    intro h
    simp only [List.all_cons,Bool.and_eq_true] at h
    cases c<;>first | (simp only [viewList,ih h.2];rfl) | cases h.1
  have e:viewA H 8 (.agg cs)=some (.agg cs,[]):=by
   show (match viewList (viewA H 7) cs with | some (ds,ns)=>some (AV.agg ds,ns) | none=>none)=_
   rw [key cs h]
  show (match viewA H 8 (.agg cs) with | some (d,ns)=>some (AV.ifc t d,ns) | none=>none)=_
  rw [e]
 ·cases h
def endsPW (tab:Tab) (rs:List ResultVar) (G:WV->Prop) (Gp:AV->Prop):WQ:=λe T H=>match e with
 |.exit _=>False
 |.pan v=>Gp v/\panA v=true
 |.normal=>endW tab rs G T H
 |.ret=>endW tab rs G T H
theorem wvalidP (tabOk : TabOK P tab) (hm : P.follows .mixedOrders = true) {f : FuncId} {fn : Func} {c : Code} {args : List WV} {G : WV -> Prop} {Gp : AV -> Prop} (hf : P.funcs[f]? = some fn) (hb : fn.body = some c) (hn : (fn.name == "runtime.NumGoroutine") = false) (hl : args.length <= fn.ntmps) (hd : codeDst fn.ntmps c = true)
 {Y:YP} (h:Wk P tab Y c (argsT 0 args) ⟨[],0⟩ (endsPW tab fn.results.toList G Gp)):WValidP P f args G Gp:=by
 intro xs hxs
 let R0:Rn:=⟨0,λ_=>False,λ_=>0,λ_=>nilA⟩
 have rt:RelT R0 (argsT 0 args) (argT 0 xs):=λt v h=>let ⟨x,h1,h2⟩:=argsT_rel 0 hxs t v h;⟨x,h1,.pure h2⟩
 have rh:RelH R0 ⟨[],0⟩ ⟨[],0⟩:=⟨rfl,λn o h=>by (cases h),λn m o p h=>by (cases h),λ_ _=>rfl⟩
 obtain ⟨e,R1,T1,W1,Tc1,H1,hc,rt1,rh1,kp1,hq⟩:=W_sound tabOk hm c R0 _ _ _ _ _ hd rt rh h
 have fin:endW tab fn.results.toList G T1 W1->(e=.normal\/e=.ret)->(∃r x,PR r x/\G r/\Valid P f xs (.ret x))\/∃v,Gp v/\Valid P f xs (.pan v):=λhq he=>by
  obtain ⟨v,k,r,x,ns,h1,h2,h3,h4⟩:=endW_ok rt1 rh1 hq
  refine .inl ⟨r,x,h3,h4,valid_of tabOk hf hb hn (by rw [<-(prs_all2.1 hxs).length];exact hl) ((hc .out 0 λ_=>rfl).mono ?_)⟩
  rintro e' T' H' ⟨rfl,rfl,rfl⟩
  rcases he with rfl | rfl<;>exact ⟨v,h1,k,x,ns,h2,rfl⟩
 cases e with
 |normal=>exact fin hq (.inl rfl)
 |ret=>exact fin hq (.inr rfl)
 |exit id=>exact hq.elim
 |pan v=>
  refine .inr ⟨v,hq.1,valid_of tabOk hf hb hn (by rw [<-(prs_all2.1 hxs).length];exact hl) ((hc .out 0 λ_=>rfl).mono ?_)⟩
  rintro e' T' H' ⟨rfl,rfl,rfl⟩
  exact ⟨9,v,[],panA_view hq.2 _,rfl⟩
def ownW (rs:List ResultVar) (s:Nat) (z:Bool) (G:List (List WV)->Prop) (T:WT) (H:WH):Prop:=match rs with
 |[.tmp t]=>(match lk T t with
  |some (.row n)=>(match lk H.objs n with
   |some (.row es s' fz _)=>(bif Nat.beq s' s&&(z || !fz) then leafs es/\G es else False)
   |_=>False)
  |some (.sc (.slice none 0 0))=>G []
  |_=>False)
 |_=>False
def ownsW (rs:List ResultVar) (s:Nat) (z:Bool) (G:List (List WV)->Prop):WQ:=λe T H=>match e with
 |.exit _=>False
 |.pan _=>False
 |.normal=>ownW rs s z G T H
 |.ret=>ownW rs s z G T H
theorem wown (tabOk : TabOK P tab) (hm : P.follows .mixedOrders = true) {f : FuncId} {fn : Func} {c : Code} {args : List WV} {s : Nat} {z : Bool} {G : List (List WV) -> Prop} (hf : P.funcs[f]? = some fn) (hb : fn.body = some c) (hn : (fn.name == "runtime.NumGoroutine") = false) (hl : args.length <= fn.ntmps) (hd : codeDst fn.ntmps c = true)
 {Y:YP} (h:Wk P tab Y c (argsT 0 args) ⟨[],0⟩ (ownsW fn.results.toList s z G)):WOwn P f args s z G:=by
 intro xs hxs
 let R0:Rn:=⟨0,λ_=>False,λ_=>0,λ_=>nilA⟩
 have rt:RelT R0 (argsT 0 args) (argT 0 xs):=λt v h=>let ⟨x,h1,h2⟩:=argsT_rel 0 hxs t v h;⟨x,h1,.pure h2⟩
 have rh:RelH R0 ⟨[],0⟩ ⟨[],0⟩:=⟨rfl,λn o h=>by (cases h),λn m o p h=>by (cases h),λ_ _=>rfl⟩
 obtain ⟨e,R1,T1,W1,Tc1,H1,hc,rt1,rh1,kp1,hq⟩:=W_sound tabOk hm c R0 _ _ _ _ _ hd rt rh h
 have fin:ownW fn.results.toList s z G T1 W1->(e=.normal\/e=.ret)->(∃es ys fz,PRss es ys/\G es/\(∀e∈es,e.length=s)/\fz<=ys.length/\(z=false->fz=0)/\ValidOwn P f xs ys s fz)\/(G []/\Valid P f xs (.ret (.sc (.slice none 0 0)))):=λhq he=>by
  have nil:∀t,fn.results.toList=[.tmp t]->look Tc1 t=some nilA->Valid P f xs (.ret (.sc (.slice none 0 0))):=λt hrs hx=>by
   refine valid_of tabOk hf hb hn (by rw [<-(prs_all2.1 hxs).length];exact hl) ((hc .out 0 λ_=>rfl).mono ?_)
   rintro e' T' H' ⟨rfl,rfl,rfl⟩
   have:resA tab T' H' fn.results.toList=some nilA:=by rw [hrs];simp [resA,mapOpt,resV,hx]
   rcases he with rfl | rfl<;>exact ⟨nilA,this,1,nilA,[],rfl,rfl⟩
  unfold ownW at hq
  split at hq
  ·rename_i t hrs
   split at hq
   ·rename_i n hn1
    split at hq
    ·rename_i es s' fz rt' hes
     obtain ⟨hb',hle,hG⟩:=beq_of_bif hq
     simp only [Bool.and_eq_true] at hb'
     obtain ⟨hb',hbz⟩:=hb'
     obtain rfl:=Nat.eq_of_beq_eq_true hb'
     obtain ⟨x,hx,hr⟩:=rt1 t _ hn1
     obtain ⟨hal,hlen,hrow⟩:=rh1.row_obj hes
     have hq2:=hr.row_inv.2.2 hal
     rcases hrow with ⟨hav0,rfl⟩ | ⟨g,cap,zs,fz',hav,hlook,hg,hzs,_,hfg,hf0⟩
     ·grind
     ·rw [hav] at hq2
      subst hq2
      refine .inl ⟨es,zs,fz',leafs_prss hle hzs,hG,hlen,by omega,(λhz=>hf0 (by grind)),validOwn_of tabOk hf hb hn (by rw [<-(prs_all2.1 hxs).length];exact hl) ((hc .out 0 λ_=>rfl).mono ?_)⟩
      rintro e' T' H' ⟨rfl,rfl,rfl⟩
      have:resA tab T' H' fn.results.toList=some (.sl (R1.ob n) g 0 g cap):=by rw [hrs];simp [resA,mapOpt,resV,hx]
      rcases he with rfl | rfl<;>exact ⟨R1.ob n,g,cap,zs,1,[],g,this,hlook,hg,Nat.le_refl _,by grind [List.take_length,leafs_view],by simp⟩
    grind
   ·rename_i hn1
    obtain ⟨x,hx,hr⟩:=rt1 t _ hn1
    obtain rfl:=hr.sc_inv
    exact .inr ⟨hq,nil t hrs hx⟩
   grind
  grind
 cases e with
 |normal=>exact fin hq (.inl rfl)
 |ret=>exact fin hq (.inr rfl)
 |exit id=>exact hq.elim
 |pan v=>exact hq.elim
def ownS (rs:List ResultVar) (s:Nat) (G:List (List WV)->Prop) (T:WT) (H:WH):Prop:=match rs with
 |[.tmp t]=>(match lk T t with
  |some (.row n)=>(match lk H.objs n with
   |some (.row es s' fz _)=>(bif Nat.beq s' s&&!fz then leafs es/\G es else False)
   |_=>False)
  |some (.win n 0 len _)=>(match lk H.objs n with
   |some (.row es s' fz _)=>(bif Nat.beq s' s&&!fz then leafs es/\∃zs,es.take len=zs/\G zs else False)
   |_=>False)
  |some (.lst es)=>es=[]/\G []
  |some (.sc (.slice none 0 0))=>G []
  |_=>False)
 |_=>False
def ownsS (rs:List ResultVar) (s:Nat) (G:List (List WV)->Prop):WQ:=λe T H=>match e with
 |.exit _=>False
 |.pan _=>False
 |.normal=>ownS rs s G T H
 |.ret=>ownS rs s G T H
theorem wownS (tabOk : TabOK P tab) (hm : P.follows .mixedOrders = true) {f : FuncId} {fn : Func} {c : Code} {args : List WV} {s : Nat} {G : List (List WV) -> Prop} (hf : P.funcs[f]? = some fn) (hb : fn.body = some c) (hn : (fn.name == "runtime.NumGoroutine") = false) (hl : args.length <= fn.ntmps) (hd : codeDst fn.ntmps c = true)
 {Y:YP} (h:Wk P tab Y c (argsT 0 args) ⟨[],0⟩ (ownsS fn.results.toList s G)):WOwnS P f args s G:=by
 intro xs hxs
 let R0:Rn:=⟨0,λ_=>False,λ_=>0,λ_=>nilA⟩
 have rt:RelT R0 (argsT 0 args) (argT 0 xs):=λt v h=>let ⟨x,h1,h2⟩:=argsT_rel 0 hxs t v h;⟨x,h1,.pure h2⟩
 have rh:RelH R0 ⟨[],0⟩ ⟨[],0⟩:=⟨rfl,λn o h=>by (cases h),λn m o p h=>by (cases h),λ_ _=>rfl⟩
 obtain ⟨e,R1,T1,W1,Tc1,H1,hc,rt1,rh1,kp1,hq⟩:=W_sound tabOk hm c R0 _ _ _ _ _ hd rt rh h
 have fin:ownS fn.results.toList s G T1 W1->(e=.normal\/e=.ret)->(∃es ys,PRss es ys/\G es/\(∀e∈es,e.length=s)/\ValidOwn P f xs ys s 0)\/(G []/\∃x,PR (.lst []) x/\Valid P f xs (.ret x)):=λhq he=>by
  have pure_:∀t x y ns,fn.results.toList=[.tmp t]->look Tc1 t=some x->viewA H1 2 x=some (y,ns)->Valid P f xs (.ret y):=λt x y ns hrs hx hv=>by
   refine valid_of tabOk hf hb hn (by rw [<-(prs_all2.1 hxs).length];exact hl) ((hc .out 0 λ_=>rfl).mono ?_)
   rintro e' T' H' ⟨rfl,rfl,rfl⟩
   have:resA tab T' H' fn.results.toList=some x:=by rw [hrs];simp [resA,mapOpt,resV,hx]
   rcases he with rfl | rfl<;>exact ⟨x,this,2,y,ns,hv,rfl⟩
  have nil:∀t,fn.results.toList=[.tmp t]->look Tc1 t=some nilA->∃x,PR (.lst []) x/\Valid P f xs (.ret x):=λt hrs hx=>⟨_,.emp,pure_ t _ _ [] hrs hx rfl⟩
  have isl:∀t b,fn.results.toList=[.tmp t]->look Tc1 t=some (.isl [] b)->∃x,PR (.lst []) x/\Valid P f xs (.ret x):=λt b hrs hx=>⟨_,.lst (c:=b) .nil,pure_ t _ _ [] hrs hx rfl⟩
  have own:∀t n g len cap (zs:List (List AV)) es,fn.results.toList=[.tmp t]->look Tc1 t=some (.sl (R1.ob n) g 0 len cap)->look H1.objs (R1.ob n)=some (.cells zs s 0)->zs.length=g->WRss R1 es zs->leafs es->len<=g->ValidOwn P f xs (zs.take len) s 0:=λt n g len cap zs es hrs hx hlook hg hzs hle hlg=>by
   refine validOwn_of tabOk hf hb hn (by rw [<-(prs_all2.1 hxs).length];exact hl) ((hc .out 0 λ_=>rfl).mono ?_)
   rintro e' T' H' ⟨rfl,rfl,rfl⟩
   have:resA tab T' H' fn.results.toList=some (.sl (R1.ob n) g 0 len cap):=by rw [hrs];simp [resA,mapOpt,resV,hx]
   rcases he with rfl | rfl<;>exact ⟨R1.ob n,g,cap,zs,1,[],len,this,hlook,hg,hlg,leafs_view (k:=0) (λe he=>hle e (List.mem_of_mem_take he)) (hzs.take len),by simp⟩
  unfold ownS at hq
  split at hq
  ·rename_i t hrs
   split at hq
   ·rename_i n hn1
    split at hq
    ·rename_i es s' fz rt' hes
     obtain ⟨hb',hle,hG⟩:=beq_of_bif hq
     simp only [Bool.and_eq_true] at hb'
     obtain ⟨hb',hbz⟩:=hb'
     obtain rfl:=Nat.eq_of_beq_eq_true hb'
     obtain ⟨x,hx,hr⟩:=rt1 t _ hn1
     obtain ⟨hal,hlen,hrow⟩:=rh1.row_obj hes
     have hq2:=hr.row_inv.2.2 hal
     rcases hrow with ⟨hav0,rfl⟩ | ⟨g,cap,zs,fz',hav,hlook,hg,hzs,_,hfg,hf0⟩
     ·grind
     grind [leafs_prss,List.take_length]
    grind
   ·rename_i n len cp hn1
    split at hq
    ·rename_i es s' fz rt' hes
     obtain ⟨hb',hle,zs0,rfl,hG⟩:=beq_of_bif hq
     simp only [Bool.and_eq_true] at hb'
     obtain ⟨hb',hbz⟩:=hb'
     obtain rfl:=Nat.eq_of_beq_eq_true hb'
     obtain ⟨x,hx,hr⟩:=rt1 t _ hn1
     obtain ⟨hal,hlen,hrow⟩:=rh1.row_obj hes
     rcases hr.win_inv hal with ⟨rfl,rfl | ⟨b,rfl,_⟩⟩ | ⟨g,cap,c',lo',hav,rfl,w1,w2,_,w3⟩
     ·exact .inr ⟨hG,nil t hrs hx⟩
     ·grind
     ·rcases hrow with ⟨hav0,_⟩ | ⟨g',cap',zs,fz',hav',hlook,hg,hzs,_,hfg,hf0⟩
      ·rw [hav] at hav0;cases hav0
      ·rw [hav] at hav'
       cases hav'
       obtain rfl:=hf0 (by grind)
       by_cases h0:len=0
       ·subst h0
        refine .inr ⟨by grind,_,.lst (c:=c'==some 0) .nil,pure_ t _ _ [R1.ob n] hrs hx ?_⟩
        simp [viewA,hlook,hg,viewLists]
       ·obtain rfl:=w1 h0
        refine .inl ⟨es.take len,zs.take len,prss_all2.2 ((prss_all2.1 (leafs_prss hle hzs)).take len),hG,λe he=>hlen e (List.mem_of_mem_take he),own t n g len c' zs es hrs hx hlook hg hzs hle (by omega)⟩
    grind
   ·rename_i es hn1
    obtain ⟨rfl,hG⟩:=hq
    obtain ⟨x,hx,hr⟩:=rt1 t _ hn1
    cases hr with
    |pure hp=>cases hp with
     |emp=>exact .inr ⟨hG,nil t hrs hx⟩
     |lst h=>cases h;grind
   ·rename_i hn1
    obtain ⟨x,hx,hr⟩:=rt1 t _ hn1
    obtain rfl:=hr.sc_inv
    exact .inr ⟨hq,nil t hrs hx⟩
   grind
  grind
 cases e with
 |normal=>exact fin hq (.inl rfl)
 |ret=>exact fin hq (.inr rfl)
 |exit id=>exact hq.elim
 |pan v=>exact hq.elim
def updW (rs:List ResultVar) (s:Nat) (G:List (List WV)->Prop) (T:WT) (H:WH):Prop:=match rs with
 |[.tmp t]=>(match lk T t with
  |some (.row n)=>(match lk H.objs n with
   |some (.row es s' false _)=>(bif Nat.beq s' s then leafs es/\G es else False)
   |_=>False)
  |_=>False)
 |_=>False
def updsW (rs:List ResultVar) (s:Nat) (G:List (List WV)->Prop):WQ:=λe T H=>match e with
 |.exit _=>False
 |.pan _=>False
 |.normal=>updW rs s G T H
 |.ret=>updW rs s G T H
theorem wupd (tabOk : TabOK P tab) (hm : P.follows .mixedOrders = true) {f : FuncId} {fn : Func} {c : Code} {post : List WV} {s : Nat} {es : List (List WV)} {G : List (List WV) -> Prop} (hf : P.funcs[f]? = some fn) (hb : fn.body = some c) (hn : (fn.name == "runtime.NumGoroutine") = false) (hl : post.length + 1 <= fn.ntmps) (hd : codeDst fn.ntmps c = true)
 (hes:∀e∈es,e.length=s) {Y:YP} (h:Wk P tab Y c (argsT 0 (.row 0::post)) ⟨[(0,.row es s false 0)],1⟩ (updsW fn.results.toList s G)):WUpd P f post s es G:=by
 intro H x xs hfr hsh hxs
 obtain ⟨b,hb1,hb2⟩:∃b,(∀b' g o l cp,x=.sl b' g o l cp->b'=b)/\refA x=true:=by
  rcases hsh with ⟨rfl,_⟩ | ⟨b,g,cap,zs,rfl,_⟩
  ·exact ⟨0,λ_ _ _ _ _ e=>(by cases e),rfl⟩
  ·exact ⟨b,λ_ _ _ _ _ e=>(by grind),rfl⟩
 let R0:Rn:=⟨1,λn=>n=0,λ_=>b,λ_=>x⟩
 have rt:RelT R0 (argsT 0 (.row 0::post)) (argT 0 (x::xs)):=λt v h=>by
  simp only [argsT,argT] at h ⊢
  rw [lk_cons] at h
  simp only [look]
  split at h
  ·rename_i e
   cases h
   rw [if_pos e]
   exact ⟨x,rfl,.row (Nat.lt_succ_self _) hb2 λ_=>rfl⟩
  ·rename_i e
   rw [if_neg e]
   obtain ⟨y,h1,h2⟩:=argsT_rel 1 hxs t v h
   exact ⟨y,h1,.pure h2⟩
 have rh:RelH R0 ⟨[(0,.row es s false 0)],1⟩ H:=by
  refine ⟨rfl,λn o h=>?_,λn m o p h h' _ _ _=>?_,hfr⟩
  ·rw [lk_cons] at h
   split at h
   ·rename_i e
    cases h
    subst e
    refine ⟨Nat.lt_succ_self _,rfl,hes,?_⟩
    rcases hsh with ⟨e,e2⟩ | ⟨b',g,cap,zs,e,f1,f2,f3,f4⟩
    ·exact .inl ⟨e,e2⟩
    ·have:=hb1 _ _ _ _ _ e
     subst this
     exact .inr ⟨g,cap,zs,0,e,f1,f2,f3.wrss,f4,Nat.zero_le _,λ_=>rfl⟩
   ·cases h
  ·rw [lk_cons] at h h'
   split at h
   ·split at h'
    ·rename_i e1 e2;rw [<-e1,<-e2]
    ·cases h'
   ·cases h
 obtain ⟨e,R1,T1,W1,Tc1,H1,hc,rt1,rh1,kp1,hq⟩:=W_sound tabOk hm c R0 _ _ _ _ _ hd rt rh h
 have fin:updW fn.results.toList s G T1 W1->(e=.normal\/e=.ret)->∃es' y H',G es'/\(∀e∈es',e.length=s)/\leafs es'/\Valid2 P f (x::xs) H (.ret y) H'/\H.next<=H'.next/\(∀m,H'.next<=m->look H'.objs m=none)/\
  (∀k,look H'.objs k≠none->look H.objs k≠none\/H.next<=k)/\(∀k,k<H.next->notRow x k->look H'.objs k=look H.objs k/\notRow y k)/\ShowsR H' y es' s:=λhq he=>by
  unfold updW at hq
  split at hq
  ·rename_i t hrs
   split at hq
   ·rename_i n hn1
    split at hq
    ·rename_i es' s' rt' hes'
     obtain ⟨hb',hle,hG⟩:=beq_of_bif hq
     obtain rfl:=Nat.eq_of_beq_eq_true hb'
     obtain ⟨y,hy,hr⟩:=rt1 t _ hn1
     obtain ⟨hal,hlen,hrow⟩:=rh1.row_obj hes'
     have hya:=hr.row_inv.2.2 hal
     refine ⟨es',y,H1,hG,hlen,hle,valid2_of tabOk hf hb hn (by rw [List.length_cons,<-(prs_all2.1 hxs).length];exact hl) ((hc .out H.next λ_=>rfl).mono ?_),kp1.1,rh1.fresh,kp1.2.1,λk hk hnr=>?_,?_⟩
     ·rintro e' T' H' ⟨rfl,rfl,rfl⟩
      have:resA tab T' H' fn.results.toList=some y:=by rw [hrs];simp [resA,mapOpt,resV,hy]
      rcases he with rfl | rfl<;>exact ⟨rfl,y,this,rfl⟩
     ·obtain ⟨q1,q2⟩:=kp1.2.2 k hk λn o hno hh=>by
       have hx0:x≠nilA:=by
        rw [lk_cons] at hno
        split at hno
        ·cases hno;exact hh
        ·cases hno
       rcases hsh with ⟨e0,_⟩ | ⟨b',g,cap,zs,e0,_⟩
       ·exact absurd e0 hx0
       ·have:=hb1 _ _ _ _ _ e0
        subst this
        exact hnr _ _ _ _ _ e0
      refine ⟨q1,λb' g o l cp e0=>?_⟩
      rw [hya] at e0
      rcases hrow with ⟨e1,_⟩ | ⟨g',cap,zs,fz',hav,_⟩
      ·rw [e1] at e0;cases e0
      ·rw [hav] at e0
       cases e0
       exact q2 n _ hes' (by intro e2;rw [hav] at e2;cases e2)
     ·rcases hrow with ⟨e1,e2⟩ | ⟨g',cap,zs,fz',hav,f1,f2,f3,f4,_,f6⟩
      ·exact .inl ⟨hya.trans e1,e2⟩
      ·have:=f6 rfl
       subst this
       exact .inr ⟨_,g',cap,zs,hya.trans hav,f1,f2,leafs_prss hle f3,f4⟩
    grind
   grind
  grind
 cases e with
 |normal=>exact fin hq (.inl rfl)
 |ret=>exact fin hq (.inr rfl)
 |exit id=>exact hq.elim
 |pan v=>exact hq.elim
end
end Go.Abs
end
section
namespace Go.Abs.RM
open Go.Proofs
noncomputable section
noncomputable abbrev P:Program:=Tryz.prog
theorem mixed:P.follows .mixedOrders=true:=by kernel_rfl
abbrev zi64:Value:=.int .i64 0
abbrev zi32:Value:=.int .i32 0
abbrev zu8:Value:=.int .u8 0
abbrev zu32:Value:=.int .u32 0
abbrev zu64:Value:=.int .u64 0
abbrev zstr:Value:=.string ⟨#[]⟩
abbrev zbool:Value:=.bool false
abbrev znsl:Value:=.slice none 0 0
def tabList:List (Nat×TyD):=[(1,⟨.other,1,8,[.nilFunc],none⟩),
 (3,⟨(.int .i64),1,8,[zi64],none⟩),
 (4,⟨.bool,1,1,[zbool],none⟩),
 (5,⟨(.int .u8),1,1,[zu8],none⟩),
 (9,⟨.str,1,16,[zstr],none⟩),
 (10,⟨.str,1,16,[zstr],none⟩),
 (11,⟨.str,1,16,[zstr],none⟩),
 (12,⟨(.int .u64),1,8,[zu64],none⟩),
 (18,⟨(.strct [(0,17)]),1,8,[.pointer none],none⟩),
 (20,⟨.iface,1,16,[.nilIface],none⟩),
 (21,⟨(.int .i32),1,4,[zi32],none⟩),
 (33,⟨(.slice 62),1,24,[znsl],none⟩),
 (44,⟨(.slice 110),1,24,[znsl],none⟩),
 (34,⟨(.slice 3),1,24,[znsl],none⟩),
 (45,⟨(.slice 168),1,24,[znsl],none⟩),
 (46,⟨(.slice 168),1,24,[znsl],none⟩),
 (47,⟨(.slice 240),1,24,[znsl],none⟩),
 (48,⟨(.slice 242),1,24,[znsl],none⟩),
 (50,⟨(.strct [(0,9),(1,33),(2,44),(3,33),(4,34),(5,46),(6,3),(7,47),(8,48)]),9,192,[zstr,znsl,znsl,znsl,znsl,znsl,zi64,znsl,znsl],none⟩),
 (35,⟨(.int .i64),1,8,[zi64],none⟩),
 (40,⟨.other,1,8,[.nilFunc],none⟩),
 (113,⟨.other,1,8,[.nilFunc],none⟩),
 (24,⟨(.slice 9),1,24,[znsl],none⟩),
 (52,⟨(.int .i64),1,8,[zi64],none⟩),
 (53,⟨(.slice 148),1,24,[znsl],none⟩),
 (54,⟨(.slice 151),1,24,[znsl],none⟩),
 (56,⟨(.strct [(0,53),(1,54),(2,3),(3,3),(4,3),(5,3),(6,3),(7,3),(8,3)]),9,104,[znsl,znsl,zi64,zi64,zi64,zi64,zi64,zi64,zi64],none⟩),
 (58,⟨(.strct [(0,9),(1,3),(2,3),(3,4),(4,9),(5,24),(6,24),(7,56)]),16,208,[zstr,zi64,zi64,zbool,zstr,znsl,znsl,znsl,znsl,zi64,zi64,zi64,zi64,zi64,zi64,zi64],none⟩),
 (60,⟨(.strct [(0,9),(1,3)]),2,24,[zstr,zi64],some [.str,(.int .i64)]⟩),
 (62,⟨(.strct [(0,3),(1,9),(2,9),(3,52),(4,4),(5,9),(6,3),(7,3),(8,34),(9,34),(10,58),(26,3),(27,60)]),29,376,[zi64,zstr,zstr,zi64,zbool,zstr,zi64,zi64,znsl,znsl,zstr,zi64,zi64,zbool,zstr,znsl,znsl,znsl,znsl,zi64,zi64,zi64,zi64,zi64,zi64,zi64,zi64,zstr,zi64],none⟩),
 (168,⟨(.strct [(0,52),(1,9),(2,3)]),3,32,[zi64,zstr,zi64],some [(.int .i64),.str,(.int .i64)]⟩),
 (240,⟨(.strct [(0,9),(1,3),(2,3),(3,3)]),4,40,[zstr,zi64,zi64,zi64],some [.str,(.int .i64),(.int .i64),(.int .i64)]⟩),
 (242,⟨(.strct [(0,9),(1,3)]),2,24,[zstr,zi64],some [.str,(.int .i64)]⟩),
 (339,⟨(.map 3 4),1,8,[.map none],none⟩),
 (500,⟨.other,1,8,[.nilFunc],none⟩),
 (501,⟨.other,1,8,[.nilFunc],none⟩),
 (305,⟨(.slice 4),1,24,[znsl],none⟩),
 (90,⟨.other,1,8,[.nilFunc],none⟩),
 (255,⟨(.slice 258),1,24,[znsl],none⟩),
 (108,⟨(.int .i64),1,8,[zi64],none⟩),
 (110,⟨(.strct [(0,3),(1,3),(2,108),(3,4)]),4,32,[zi64,zi64,zi64,zbool],some [(.int .i64),(.int .i64),(.int .i64),.bool]⟩),
 (258,⟨(.strct [(0,3),(1,46),(2,46),(3,35)]),4,64,[zi64,znsl,znsl,zi64],none⟩),
 (143,⟨.other,1,8,[.nilFunc],none⟩),
 (111,⟨.other,1,8,[.nilFunc],none⟩),
 (283,⟨(.map 9 4),1,8,[.map none],none⟩),
 (398,⟨.ptr,1,8,[.pointer none],none⟩),
 (148,⟨(.strct [(0,9),(1,3)]),2,24,[zstr,zi64],some [.str,(.int .i64)]⟩),
 (299,⟨(.slice 46),1,24,[znsl],none⟩),
 (170,⟨(.slice 40),1,24,[znsl],none⟩),
 (173,⟨(.slice 176),1,24,[znsl],none⟩),
 (176,⟨(.strct [(0,3),(1,3),(2,3)]),3,24,[zi64,zi64,zi64],some [(.int .i64),(.int .i64),(.int .i64)]⟩),
 (177,⟨.other,1,8,[.nilFunc],none⟩),
 (151,⟨(.strct [(0,52),(1,3)]),2,16,[zi64,zi64],some [(.int .i64),(.int .i64)]⟩),
 (165,⟨.other,1,8,[.nilFunc],none⟩),
 (96,⟨.other,1,8,[.nilFunc],none⟩),
 (377,⟨(.strct [(0,46),(1,34),(2,46),(3,34),(4,46)]),5,120,[znsl,znsl,znsl,znsl,znsl],none⟩),
 (156,⟨(.slice 5),1,24,[znsl],none⟩),
 (250,⟨(.int .u64),1,8,[zu64],none⟩),
 (244,⟨.other,1,8,[.nilFunc],none⟩),
 (144,⟨.other,1,8,[.nilFunc],none⟩),
 (288,⟨.other,1,8,[.nilFunc],none⟩),
 (289,⟨.other,1,8,[.nilFunc],none⟩),
 (292,⟨(.arr 7 3),7,56,[zi64,zi64,zi64,zi64,zi64,zi64,zi64],none⟩),
 (228,⟨.ptr,1,8,[.pointer none],none⟩),
 (230,⟨(.strct [(0,156)]),1,24,[znsl],none⟩),
 (232,⟨.other,1,8,[.nilFunc],none⟩),
 (234,⟨.other,1,8,[.nilFunc],none⟩),
 (236,⟨.other,1,8,[.nilFunc],none⟩),
 (293,⟨(.map 3 3),1,8,[.map none],none⟩),
 (196,⟨.ptr,1,8,[.pointer none],none⟩),
 (198,⟨.other,1,8,[.nilFunc],none⟩),
 (199,⟨(.map 3 46),1,8,[.map none],none⟩),
 (200,⟨(.map 3 35),1,8,[.map none],none⟩),
 (202,⟨(.strct [(0,199),(1,199),(2,200)]),3,24,[.map none,.map none,.map none],none⟩),
 (314,⟨(.int .i64),1,8,[zi64],none⟩),
 (318,⟨.other,1,8,[.nilFunc],none⟩),
 (322,⟨(.int .u32),1,4,[zu32],none⟩),
 (304,⟨(.int .u64),1,8,[zu64],none⟩),
 (306,⟨(.slice 34),1,24,[znsl],none⟩),
 (329,⟨(.strct [(0,35)]),1,8,[zi64],some [(.int .i64)]⟩),
 (360,⟨(.strct [(0,46),(1,34),(2,34)]),3,72,[znsl,znsl,znsl],none⟩),
 (369,⟨(.int .u64),1,8,[zu64],none⟩),
 (373,⟨.ptr,1,8,[.pointer none],none⟩),
 (222,⟨(.strct [(0,3),(1,144)]),2,16,[zi64,.nilFunc],none⟩),
 (223,⟨(.slice 222),1,24,[znsl],none⟩),
 (349,⟨(.slice 351),1,24,[znsl],none⟩),
 (351,⟨(.strct [(0,3),(1,3)]),2,16,[zi64,zi64],some [(.int .i64),(.int .i64)]⟩),
 (379,⟨(.arr 5 3),5,40,[zi64,zi64,zi64,zi64,zi64],none⟩),
 (384,⟨(.arr 2 54),2,48,[znsl,znsl],none⟩),
 (385,⟨(.arr 2 53),2,48,[znsl,znsl],none⟩),
 (403,⟨(.strct []),0,0,[],some []⟩),
 (407,⟨(.strct [(0,34)]),1,24,[znsl],none⟩),
 (410,⟨.ptr,1,8,[.pointer none],none⟩),
 (416,⟨.other,1,8,[.nilFunc],none⟩),
 (342,⟨(.strct [(0,52),(1,9)]),2,24,[zi64,zstr],some [(.int .i64),.str]⟩),
 (343,⟨(.slice 342),1,24,[znsl],none⟩),
 (431,⟨.iface,1,16,[.nilIface],none⟩),
 (432,⟨.other,1,8,[.nilFunc],none⟩),
 (426,⟨.other,1,8,[.nilFunc],none⟩),
 (461,⟨(.strct []),0,0,[],some []⟩),
 (529,⟨(.slice 532),1,24,[znsl],none⟩),
 (532,⟨(.strct [(0,3),(1,3),(2,3),(3,34)]),4,48,[zi64,zi64,zi64,znsl],none⟩),
 (533,⟨.other,1,8,[.nilFunc],none⟩),
 (534,⟨(.slice 536),1,24,[znsl],none⟩),
 (536,⟨(.strct [(0,3),(1,3),(2,3)]),3,24,[zi64,zi64,zi64],some [(.int .i64),(.int .i64),(.int .i64)]⟩),
 (538,⟨.other,1,8,[.nilFunc],none⟩),
 (102,⟨.other,1,8,[.nilFunc],none⟩),
 (22,⟨(.slice 50),1,24,[znsl],none⟩),
 (23,⟨(.slice 79),1,24,[znsl],none⟩),
 (25,⟨(.slice 37),1,24,[znsl],none⟩),
 (26,⟨(.slice 484),1,24,[znsl],none⟩),
 (27,⟨(.slice 486),1,24,[znsl],none⟩),
 (28,⟨(.slice 490),1,24,[znsl],none⟩),
 (29,⟨(.slice 492),1,24,[znsl],none⟩),
 (31,⟨(.strct [(0,9),(1,22),(2,23),(3,24),(4,25),(5,26),(6,3),(7,27),(8,28),(9,29),(10,4),(11,3)]),12,232,[zstr,znsl,znsl,znsl,znsl,znsl,zi64,znsl,znsl,znsl,zbool,zi64],none⟩),
 (32,⟨(.int .i64),1,8,[zi64],none⟩),
 (37,⟨(.strct [(0,9),(1,9),(2,32),(3,3),(4,9),(5,33),(6,34),(7,33),(8,9),(9,35)]),10,160,[zstr,zstr,zi64,zi64,zstr,znsl,znsl,znsl,zstr,zi64],none⟩),
 (79,⟨(.strct [(0,9),(1,3),(2,33),(3,33),(4,3),(5,3)]),6,88,[zstr,zi64,znsl,znsl,zi64,zi64],none⟩),
 (88,⟨.iface,1,16,[.nilIface],none⟩),
 (135,⟨(.strct []),0,0,[],some []⟩),
 (136,⟨(.strct []),0,0,[],some []⟩),
 (137,⟨(.strct []),0,0,[],some []⟩),
 (139,⟨(.strct [(0,4)]),1,1,[zbool],some [.bool]⟩),
 (140,⟨(.strct []),0,0,[],some []⟩),
 (141,⟨(.strct []),0,0,[],some []⟩),
 (142,⟨(.strct []),0,0,[],some []⟩),
 (285,⟨(.slice 24),1,24,[znsl],none⟩),
 (482,⟨(.slice 551),1,24,[znsl],none⟩),
 (484,⟨(.strct [(0,9),(1,3),(2,3),(3,482)]),4,56,[zstr,zi64,zi64,znsl],none⟩),
 (486,⟨(.strct [(0,9),(1,9),(2,3),(3,3)]),4,48,[zstr,zstr,zi64,zi64],some [.str,.str,(.int .i64),(.int .i64)]⟩),
 (488,⟨(.strct [(0,3),(1,3),(2,3),(3,3)]),4,32,[zi64,zi64,zi64,zi64],some [(.int .i64),(.int .i64),(.int .i64),(.int .i64)]⟩),
 (490,⟨(.strct [(0,9),(1,488)]),5,48,[zstr,zi64,zi64,zi64,zi64],none⟩),
 (492,⟨(.strct [(0,9),(1,9),(2,3),(3,3),(4,3)]),5,56,[zstr,zstr,zi64,zi64,zi64],some [.str,.str,(.int .i64),(.int .i64),(.int .i64)]⟩),
 (551,⟨(.strct [(0,9),(1,3),(2,4)]),3,32,[zstr,zi64,zbool],some [.str,(.int .i64),.bool]⟩)]
def tabL:Tab:=lk tabList
def TabAll:List (Nat×TyD)->Prop
 |[]=>True
 |(t,d)::l=>tabOf P t=some d/\TabAll l
theorem TabAll.mem {t:Nat} {d:TyD} {l:List (Nat×TyD)} (h:TabAll l) (hm:(t,d)∈l):tabOf P t=some d:=by
 induction l with
 |nil=>cases hm
 |cons p l ih=>
  obtain ⟨t',d'⟩:=p
  obtain ⟨h1,h2⟩:=h
  rcases List.mem_cons.1 hm with e | q
  ·rw [(Prod.mk.inj e).1,(Prod.mk.inj e).2];exact h1
  ·exact ih h2 q
set_option maxRecDepth 100000 in
theorem tabList_ok:TabAll tabList:=by
 repeat' first | exact trivial | refine ⟨(by kernel_rfl:tabOf P _=_),?_⟩
theorem tabOk:TabOK P tabL:=λt d h=>tabOf_ok P t d (TabAll.mem tabList_ok (lk_mem h))
def bodyOf (f:Func):Code:=match f.body with | some c=>c | none=>.skip
def resOf (f:Func):List ResultVar:=f.results.toList
def chk (fn : Func) (n : Nat) : Bool := fn.body.isSome && !(fn.name == "runtime.NumGoroutine") && Nat.ble n fn.ntmps && codeDst fn.ntmps (bodyOf fn)
def Y0:YP:=⟨true,[]⟩
theorem go {f:FuncId} {fn:Func} {args:List WV} {G:WV->Prop} (hf:P.funcs[f]?=some fn) (hc:chk fn args.length=true)
 (h:Wk P tabL Y0 (bodyOf fn) (argsT 0 args) ⟨[],0⟩ (endsW tabL (resOf fn) G)):WValid P f args G:=by
 simp only [chk,Bool.and_eq_true,Bool.not_eq_true'] at hc
 obtain ⟨⟨⟨h1,h2⟩,h3⟩,h4⟩:=hc
 obtain ⟨c,hb⟩:=Option.isSome_iff_exists.1 h1
 have e:bodyOf fn=c:=by unfold bodyOf;rw [hb]
 rw [e] at h h4
 exact wvalid tabOk mixed hf hb h2 (Nat.le_of_ble_eq_true h3) h4 h
theorem goOwn {f:FuncId} {fn:Func} {args:List WV} {s:Nat} {z:Bool} {G:List (List WV)->Prop} (hf:P.funcs[f]?=some fn) (hc:chk fn args.length=true)
 (h:Wk P tabL Y0 (bodyOf fn) (argsT 0 args) ⟨[],0⟩ (ownsW (resOf fn) s z G)):WOwn P f args s z G:=by
 simp only [chk,Bool.and_eq_true,Bool.not_eq_true'] at hc
 obtain ⟨⟨⟨h1,h2⟩,h3⟩,h4⟩:=hc
 obtain ⟨c,hb⟩:=Option.isSome_iff_exists.1 h1
 have e:bodyOf fn=c:=by unfold bodyOf;rw [hb]
 rw [e] at h h4
 exact wown tabOk mixed hf hb h2 (Nat.le_of_ble_eq_true h3) h4 h
def zS:ByteArray:=⟨#[]⟩
def c_i64 (n:Int):List WV:=[.sc (.int .i64 n)]
def c_u8 (n:Int):List WV:=[.sc (.int .u8 n)]
def cBool (b:Bool):List WV:=[.sc (.bool b)]
def cStr (s:ByteArray):List WV:=[.sc (.string s)]
def roomB (b n:Nat):Bool:=decide ((2*n+192)*b<=2 ^ 48)&&decide (n<=2 ^ 60)
def iop (op:BinOp) (t:TypeId) (k:IntKind) (a b:Int):Int:=match pureVal (Go.binOp op t (.int k a) (.int k b)) with | some (.int _ n)=>n | _=>0
def uop (op:UnOp) (k:IntKind) (a:Int):Int:=match pureVal (Op.unary op (.int k a)) with | some (.int _ n)=>n | _=>0
def strL (s:ByteArray):List Int:=s.data.toList.map λb=>(b.toNat:Int)
theorem ckd {α:Type} {b:Bool} {A:Option α} {r:α} (hI:(bif b then A else none)=some r):b=true/\A=some r:=by
 cases b
 ·cases hI
 ·exact ⟨rfl,hI⟩
theorem bnd {α β:Type} {x:Option α} {f:α->Option β} {r:β} (h:x.bind f=some r):∃a,x=some a/\f a=some r:=bind_some h
theorem at_ {α:Type} {l:List α} (f:α->List WV) {i:Nat} {x:α} (h:l[i]?=some x):(l.map f)[i]?=some (f x):=by simp [h]
theorem lens_map {α:Type} {f:α->List WV} {n:Nat} {l:List α} (h:∀a,(f a).length=n):∀x∈l.map f,x.length=n:=λx hx=>by
 obtain ⟨a,_,rfl⟩:=List.mem_map.1 hx;exact h a
theorem room0 {α:Type} {f:α->List WV} {l:List α} {b:Nat} (h:roomB b l.length=true):roomP b (l.map f).length:=by
 simp only [roomB,Bool.and_eq_true,decide_eq_true_eq] at h;rw [List.length_map];exact h
theorem cellP_map {α:Type} {f:α->List WV} {s:Nat} (h:∀a,(f a).length=s/\(f a).all storableW=true) (l:List α):cellP s (l.map f):=λy hy=>by
 obtain ⟨a,_,rfl⟩:=List.mem_map.1 hy;exact h a
theorem cellP_lit {s:Nat} {ys:List (List WV)} (h:(ys.all λy=>Nat.beq y.length s&&y.all storableW)=true):cellP s ys:=λy hy=>by
 have:=(List.all_eq_true.1 h) y hy
 simp only [Bool.and_eq_true] at this
 exact ⟨Nat.eq_of_beq_eq_true this.1,this.2⟩
theorem leafs_map {α:Type} {f:α->List WV} (h:∀a,(f a).all leafB=true) (l:List α):leafs (l.map f):=λy hy=>by
 obtain ⟨a,_,rfl⟩:=List.mem_map.1 hy;exact h a
theorem leafs_lit {ys:List (List WV)} (h:(ys.all λy=>y.all leafB)=true):leafs ys:=λy hy=>(List.all_eq_true.1 h) y hy
theorem fitO_row {ns:NM} {W:WH} {n m s rt rt':Nat} {es:List (List WV)} {fz fz':Bool} (h1:lk ns n=some (some m)) (h2:lk W.objs m=some (.row es s fz' rt')) (h3:leafs es) (h4:fz=false->fz'=false):fitO ns W n (.row es s fz rt):=by
 unfold fitO;rw [h1];exact ⟨fz',rt',h2,h3,h4⟩
theorem fitO_nil {ns:NM} {W:WH} {n s rt:Nat} {es:List (List WV)} {fz:Bool} (h1:lk ns n=some none) (he:es=[]):fitO ns W n (.row es s fz rt):=by
 unfold fitO;rw [h1];exact he
theorem mapO_leaf {ns:NM}:∀{cs:List WV},cs.all leafB=true->mapO (backC ns) cs=some cs
 |[],_=>rfl
 |c::cs,h=>by
  simp only [List.all_cons,Bool.and_eq_true] at h
  have h1:backC ns c=some c:=by
   cases c<;>first | rfl | cases h.1
  simp only [mapO,h1,mapO_leaf h.2]
theorem fitO_box {ns:NM} {W:WH} {n m:Nat} {cs:List WV} {fz fz':Bool} (h1:lk ns n=some (some m)) (h2:cs.all leafB=true) (h3:lk W.objs m=some (.box cs fz')) (h4:fz=false->fz'=false):fitO ns W n (.box cs fz):=by
 unfold fitO;rw [h1];exact ⟨cs,fz',mapO_leaf h2,h3,h4⟩
def capB:WV->Bool
 |.sc (.slice none 0 0)=>false
 |.sc (.tuple _)=>false
 |.sc _=>true
 |.lst _=>true
 |.ipt _=>true
 |.imb _=>true
 |_=>false
theorem view_cap {H:WH} {c:WV} {X:WV->List Nat->Prop} (h:capB c=true) (hk:X c []):viewV H c X:=by
 unfold capB at h
 split at h
 ·cases h
 ·cases h
 ·rename_i x h1 h2
  show viewC H (.sc x) X
  unfold viewC
  split
  ·rename_i e;exact absurd (WV.sc.inj e) h1
  ·rename_i e;cases e;exact hk
  ·rename_i e;cases e
  ·rename_i e;cases e
  ·rename_i e;cases e
  ·rename_i e;cases e
  ·rename_i e;cases e
  ·rename_i e;cases e
  ·rename_i e;cases e
  ·rename_i e;cases e
  ·rename_i e _ _ _ _ _ _ _ _;exact (e _ rfl).elim
 ·exact hk
 ·exact hk
 ·exact hk
 ·cases h
theorem view_caps {H:WH} {g:List WV} {K:List WV->List Nat->Prop} (h:g.all capB=true) (hk:K g []):viewVs H g K:=by
 induction g generalizing K with
 |nil=>exact hk
 |cons c cs ih=>
  simp only [List.all_cons,Bool.and_eq_true] at h
  exact view_cap h.1 (ih (K:=λds ms=>K (c::ds) ([]++ms)) h.2 hk)
theorem strL_eq (s:ByteArray):bytesW s=List.map c_u8 (strL s):=by simp [bytesW,strL,c_u8]
def txt (l:List Int):ByteArray:=⟨(l.map λn=>UInt8.ofNat n.toNat).toArray⟩
theorem outW_map:∀(l:List Int),outW (l.map c_u8)=some (l.map λn=>UInt8.ofNat n.toNat)
 |[]=>rfl
 |n::l=>by
  have:=outW_map l
  simp only [List.map_cons,c_u8,outW] at this ⊢
  rw [this]
theorem winCat {α:Type} {f:α->List WV} (l m:List α) (lo n:Nat):((l.map f).drop lo).take n++m.map f=((l.drop lo).take n++m).map f:=by simp only [List.map_append,List.map_take,List.map_drop]
theorem winLen {α:Type} {f:α->List WV} (l:List α) (a b:Nat):(((l.map f).drop a).take b).length=((l.drop a).take b).length:=by simp
theorem winApp {α:Type} {f:α->List WV} (l m:List α) (a b:Nat):l.map f++((m.map f).drop a).take b=(l++(m.drop a).take b).map f:=by simp only [List.map_append,List.map_take,List.map_drop]
theorem cellP_win {α:Type} {f:α->List WV} {s:Nat} (h:∀a,(f a).length=s/\(f a).all storableW=true) (l:List α) (a b:Nat):cellP s (((l.map f).drop a).take b):=λy hy=>cellP_map h l y (List.mem_of_mem_drop (List.mem_of_mem_take hy))
theorem goUpd {f:FuncId} {fn:Func} {post:List WV} {s:Nat} {es:List (List WV)} {G:List (List WV)->Prop} (hf:P.funcs[f]?=some fn) (hc:chk fn (post.length+1)=true) (hes:∀e∈es,e.length=s)
 (h:Wk P tabL Y0 (bodyOf fn) (argsT 0 (.row 0::post)) ⟨[(0,.row es s false 0)],1⟩ (updsW (resOf fn) s G)):WUpd P f post s es G:=by
 simp only [chk,Bool.and_eq_true,Bool.not_eq_true'] at hc
 obtain ⟨⟨⟨h1,h2⟩,h3⟩,h4⟩:=hc
 obtain ⟨c,hb⟩:=Option.isSome_iff_exists.1 h1
 have e:bodyOf fn=c:=by unfold bodyOf;rw [hb]
 rw [e] at h h4
 exact wupd tabOk mixed hf hb h2 (Nat.le_of_ble_eq_true h3) h4 hes h
def memS (l:List ByteArray) (s:ByteArray):Bool:=l.any λx=>s==x
def insS (l:List ByteArray) (s:ByteArray):List ByteArray:=bif memS l s then l else l++[s]
theorem hasK_str (l:List ByteArray) (s:ByteArray):hasK (.string s) (l.map Value.string)=some (memS l s):=by
 have:∀(l:List ByteArray) (i:Nat),(findK (.string s) (l.map Value.string) i).map Option.isSome=some (memS l s):=by
  intro l
  induction l with
  |nil=>intro i;rfl
  |cons a t ih=>
   intro i
   simp only [List.map_cons,findK,sameKey,memS,List.any_cons]
   cases h:(s==a) with
   |true=>simp
   |false=>simpa [memS] using ih (i+1)
 exact this l 0
theorem insK_str (l:List ByteArray) (s:ByteArray):insK (.string s) (l.map Value.string)=some ((insS l s).map Value.string):=by
 unfold insK
 rw [hasK_str]
 unfold insS
 cases memS l s<;>simp
end
end Go.Abs.RM
end
section
namespace Go.Abs.RM
noncomputable section
structure S179 where
 f0:ByteArray
 f1:Int
 deriving Inhabited
def S179.c (e:S179):List WV:=[.sc (.string e.f0),.sc (.int .i64 e.f1)]
structure S215 where
 f0:Int
 f1:Int
 deriving Inhabited
def S215.c (e:S215):List WV:=[.sc (.int .i64 e.f0),.sc (.int .i64 e.f1)]
structure S59 where
 f0:List S179
 f1:List S215
 f2:Int
 f3:Int
 f4:Int
 f5:Int
 f6:Int
 f7:Int
 f8:Int
 deriving Inhabited
def S59.c (e:S59):List WV:=[.lst (e.f0.map S179.c),.lst (e.f1.map S215.c),.sc (.int .i64 e.f2),.sc (.int .i64 e.f3),.sc (.int .i64 e.f4),.sc (.int .i64 e.f5),.sc (.int .i64 e.f6),.sc (.int .i64 e.f7),.sc (.int .i64 e.f8)]
structure S61 where
 f0:ByteArray
 f1:Int
 f2:Int
 f3:Bool
 f4:ByteArray
 f5:List ByteArray
 f6:List ByteArray
 f7:S59
 deriving Inhabited
def S61.c (e:S61):List WV:=[.sc (.string e.f0),.sc (.int .i64 e.f1),.sc (.int .i64 e.f2),.sc (.bool e.f3),.sc (.string e.f4),.lst (e.f5.map cStr),.lst (e.f6.map cStr),.lst (e.f7.f0.map S179.c),.lst (e.f7.f1.map S215.c),.sc (.int .i64 e.f7.f2),.sc (.int .i64 e.f7.f3),.sc (.int .i64 e.f7.f4),.sc (.int .i64 e.f7.f5),.sc (.int .i64 e.f7.f6),.sc (.int .i64 e.f7.f7),.sc (.int .i64 e.f7.f8)]
structure S63 where
 f0:ByteArray
 f1:Int
 deriving Inhabited
def S63.c (e:S63):List WV:=[.sc (.string e.f0),.sc (.int .i64 e.f1)]
structure S65 where
 f0:Int
 f1:ByteArray
 f2:ByteArray
 f3:Int
 f4:Bool
 f5:ByteArray
 f6:Int
 f7:Int
 f8:List Int
 f9:List Int
 f10:S61
 f11:Int
 f12:S63
 deriving Inhabited
def S65.c (e:S65):List WV:=[.sc (.int .i64 e.f0),.sc (.string e.f1),.sc (.string e.f2),.sc (.int .i64 e.f3),.sc (.bool e.f4),.sc (.string e.f5),.sc (.int .i64 e.f6),.sc (.int .i64 e.f7),.lst (e.f8.map c_i64),.lst (e.f9.map c_i64),.sc (.string e.f10.f0),.sc (.int .i64 e.f10.f1),.sc (.int .i64 e.f10.f2),.sc (.bool e.f10.f3),.sc (.string e.f10.f4),.lst (e.f10.f5.map cStr),.lst (e.f10.f6.map cStr),.lst (e.f10.f7.f0.map S179.c),.lst (e.f10.f7.f1.map S215.c),.sc (.int .i64 e.f10.f7.f2),.sc (.int .i64 e.f10.f7.f3),.sc (.int .i64 e.f10.f7.f4),.sc (.int .i64 e.f10.f7.f5),.sc (.int .i64 e.f10.f7.f6),.sc (.int .i64 e.f10.f7.f7),.sc (.int .i64 e.f10.f7.f8),.sc (.int .i64 e.f11),.sc (.string e.f12.f0),.sc (.int .i64 e.f12.f1)]
structure S135 where
 f0:Int
 f1:Int
 f2:Int
 f3:Bool
 deriving Inhabited
def S135.c (e:S135):List WV:=[.sc (.int .i64 e.f0),.sc (.int .i64 e.f1),.sc (.int .i64 e.f2),.sc (.bool e.f3)]
structure S71 where
 f0:Int
 f1:ByteArray
 f2:Int
 deriving Inhabited
def S71.c (e:S71):List WV:=[.sc (.int .i64 e.f0),.sc (.string e.f1),.sc (.int .i64 e.f2)]
structure S73 where
 f0:ByteArray
 f1:Int
 f2:Int
 f3:Int
 deriving Inhabited
def S73.c (e:S73):List WV:=[.sc (.string e.f0),.sc (.int .i64 e.f1),.sc (.int .i64 e.f2),.sc (.int .i64 e.f3)]
structure S75 where
 f0:ByteArray
 f1:Int
 deriving Inhabited
def S75.c (e:S75):List WV:=[.sc (.string e.f0),.sc (.int .i64 e.f1)]
structure S30 where
 f0:ByteArray
 f1:List S65
 f2:List S135
 f3:List S65
 f4:List Int
 f5:List S71
 f6:Int
 f7:List S73
 f8:List S75
 deriving Inhabited
def S30.c (e:S30):List WV:=[.sc (.string e.f0),.lst (e.f1.map S65.c),.lst (e.f2.map S135.c),.lst (e.f3.map S65.c),.lst (e.f4.map c_i64),.lst (e.f5.map S71.c),.sc (.int .i64 e.f6),.lst (e.f7.map S73.c),.lst (e.f8.map S75.c)]
structure S32 where
 f0:ByteArray
 f1:List Int
 f2:List Int
 f3:Int
 deriving Inhabited
def S32.c (e:S32):List WV:=[.sc (.string e.f0),.lst (e.f1.map c_i64),.lst (e.f2.map c_i64),.sc (.int .i64 e.f3)]
structure S139 where
 f0:Int
 f1:List S71
 f2:List S71
 f3:Int
 deriving Inhabited
def S139.c (e:S139):List WV:=[.sc (.int .i64 e.f0),.lst (e.f1.map S71.c),.lst (e.f2.map S71.c),.sc (.int .i64 e.f3)]
structure S227 where
 f0:List S71
 f1:List Int
 f2:List S71
 f3:List Int
 f4:List S71
 deriving Inhabited
def S227.c (e:S227):List WV:=[.lst (e.f0.map S71.c),.lst (e.f1.map c_i64),.lst (e.f2.map S71.c),.lst (e.f3.map c_i64),.lst (e.f4.map S71.c)]
structure S103 where
 f0:Int
 f1:ByteArray
 f2:ByteArray
 deriving Inhabited
def S103.c (e:S103):List WV:=[.sc (.int .i64 e.f0),.sc (.string e.f1),.sc (.string e.f2)]
structure S112 where
 f0:S30
 deriving Inhabited
def S112.c (e:S112):List WV:=[.sc (.string e.f0.f0),.lst (e.f0.f1.map S65.c),.lst (e.f0.f2.map S135.c),.lst (e.f0.f3.map S65.c),.lst (e.f0.f4.map c_i64),.lst (e.f0.f5.map S71.c),.sc (.int .i64 e.f0.f6),.lst (e.f0.f7.map S73.c),.lst (e.f0.f8.map S75.c)]
def cL24 (l:List Int):List WV:=[.lst (l.map c_i64)]
def cL26 (l:List S71):List WV:=[.lst (l.map S71.c)]
def cL49 (l:List ByteArray):List WV:=[.lst (l.map cStr)]
def ze59:S59:=⟨[],[],(0:Int),(0:Int),(0:Int),(0:Int),(0:Int),(0:Int),(0:Int)⟩
def ze61:S61:=⟨zS,(0:Int),(0:Int),false,zS,[],[],ze59⟩
def ze63:S63:=⟨zS,(0:Int)⟩
def ze65:S65:=⟨(0:Int),zS,zS,(0:Int),false,zS,(0:Int),(0:Int),[],[],ze61,(0:Int),ze63⟩
def ze135:S135:=⟨(0:Int),(0:Int),(0:Int),false⟩
def ze30:S30:=⟨zS,[],[],[],[],[],(0:Int),[],[]⟩
def ze139:S139:=⟨(0:Int),[],[],(0:Int)⟩
end
end Go.Abs.RM
end
section
namespace Go.Abs.RM
section
variable {α β:Type} {r:β}
def nx (i:Int):Int:=IntKind.wrap .i64 (i+1)
def rm {γ:Type} (b:Nat) (l:List α) (m:List γ) (x:Option β):Option β:=bif roomB b (l.length+m.length) then x else none
theorem B {b:Bool} {x y:Option β} {X Y:Prop} (hI:(bif b then x else y)=some r) (h1:x=some r->X) (h2:y=some r->Y):Bool.rec (motive:=λ_=>Prop) Y X b:=by
 cases b
 ·exact h2 hI
 ·exact h1 hI
theorem eL {l:List α} {f:α->List WV} {i:Nat} {k:α->Option β} {X:List WV->Prop} (hI:(l[i]?).bind k=some r) (h:∀a,k a=some r->X (f a)):∃cs,(l.map f)[i]?=some cs/\X cs:=by
 obtain ⟨x,hx,hI⟩:=bnd hI
 exact ⟨f x,at_ _ hx,h x hI⟩
theorem a0 {l:List α} {f:α->List WV} {b s:Nat} {ys:List (List WV)} {x:Option β} {X:Prop} (hI:rm b ([]:List α) l x=some r) (hy:ys=l.map f) (hc:∀a,(f a).length=s/\(f a).all storableW=true) (h:x=some r->X):roomP b ys.length/\cellP s ys/\X:=by
 obtain ⟨hb,hI⟩:=ckd hI
 subst hy
 rw [List.length_nil,Nat.zero_add] at hb
 exact ⟨room0 hb,cellP_map hc _,h hI⟩
theorem fitT_of {ns:NM} {T:WT}:∀{T1:WT} {vs:List WV},mapO (λp:Nat×WV=>backV ns p.2) T1=some vs->T1.map (λp=>lk T p.1)=vs.map some->fitT ns T T1
 |[],_,_,_=>trivial
 |(t,v)::T1,vs,h1,h2=>by
  unfold mapO at h1
  split at h1
  ·cases h1
  ·rename_i b hb
   split at h1
   ·cases h1
   ·rename_i bs hbs
    cases h1
    simp only [List.map_cons,List.cons.injEq] at h2
    exact ⟨⟨h2.1.trans hb.symm,by rw [hb];rfl⟩,fitT_of hbs h2.2⟩
theorem ft {T:WT} {W:WH} (ns:NM) {T1:WT} {W1:WH} {vs:List WV} (hn:nmOk ns W1.nx=true) (h1:mapO (λp:Nat×WV=>backV ns p.2) T1=some vs) (h2:T1.map (λp=>lk T p.1)=vs.map some) (hH:fitH ns W W1.objs):Suits T W T1 W1:=fit_of ns hn (fitT_of h1 h2) hH
theorem fR {ns:NM} {W:WH} {n m s rt rt':Nat} {f:α->List WV} {l:List α} (h1:lk ns n=some (some m)) (h2:lk W.objs m=some (.row (l.map f) s false rt')) (h:∀a,(f a).all leafB=true):fitO ns W n (.row (l.map f) s false rt):=fitO_row h1 h2 (leafs_map h l) λ_=>rfl
theorem fRZ {ns:NM} {W:WH} {n m s rt rt':Nat} {f:α->List WV} {l:List α} {fz:Bool} (h1:lk ns n=some (some m)) (h2:lk W.objs m=some (.row (l.map f) s fz rt')) (h:∀a,(f a).all leafB=true):fitO ns W n (.row (l.map f) s true rt):=fitO_row h1 h2 (leafs_map h l) λh=>by cases h
theorem fB {ns:NM} {W:WH} {n m:Nat} {cs:List WV} (h1:lk ns n=some (some m)) (h2:cs.all leafB=true) (h3:lk W.objs m=some (.box cs false)):fitO ns W n (.box cs false):=fitO_box h1 h2 h3 λ_=>rfl
theorem L1 {A0:Type} {Y:YP} {T:WT} {W:WH} {x:Code} {Q:WQ} {D:Nat->A0->Option β} {n:Nat} {s0:A0} (sh:A0->WT) (hp:A0->WH) (hI:D n s0=some r) (fit:Suits T W (sh s0) (hp s0)) (z:∀s0,D 0 s0=none)
 (step:∀n s0,D (n+1) s0=some r->Wk P tabL Y x (sh s0) (hp s0) (λe T' W'=>match e with | .normal=>∃q:Nat×A0,D q.1 q.2=some r/\q.1<n+1/\Suits T' W' (sh q.2) (hp q.2) | .exit id=>Q (.exit id) T' W' | .ret=>Q .ret T' W' | .pan v=>Q (.pan v) T' W')):LoopW P Y x T W Q:=by
 refine loopW tabOk mixed (S:=Nat×A0) (λq=>sh q.2) (λq=>hp q.2) (λq=>D q.1 q.2=some r) (λq=>q.1) ⟨n,s0⟩ hI fit ?_
 rintro ⟨n,s0⟩ hI
 cases n with
 |zero=>rw [z] at hI;cases hI
 |succ n=>
  exact step n s0 hI
theorem L2 {A0 A1:Type} {Y:YP} {T:WT} {W:WH} {x:Code} {Q:WQ} {D:Nat->A0->A1->Option β} {n:Nat} {s0:A0} {s1:A1} (sh:A0->A1->WT) (hp:A0->A1->WH) (hI:D n s0 s1=some r) (fit:Suits T W (sh s0 s1) (hp s0 s1)) (z:∀s0 s1,D 0 s0 s1=none)
 (step:∀n s0 s1,D (n+1) s0 s1=some r->Wk P tabL Y x (sh s0 s1) (hp s0 s1) (λe T' W'=>match e with | .normal=>∃q:Nat×A0×A1,D q.1 q.2.1 q.2.2=some r/\q.1<n+1/\Suits T' W' (sh q.2.1 q.2.2) (hp q.2.1 q.2.2) | .exit id=>Q (.exit id) T' W' | .ret=>Q .ret T' W' | .pan v=>Q (.pan v) T' W')):LoopW P Y x T W Q:=by
 refine loopW tabOk mixed (S:=Nat×A0×A1) (λq=>sh q.2.1 q.2.2) (λq=>hp q.2.1 q.2.2) (λq=>D q.1 q.2.1 q.2.2=some r) (λq=>q.1) ⟨n,s0,s1⟩ hI fit ?_
 rintro ⟨n,s0,s1⟩ hI
 cases n with
 |zero=>rw [z] at hI;cases hI
 |succ n=>
  exact step n s0 s1 hI
end
end Go.Abs.RM
end
section
namespace Go.Abs.RM
theorem str_inj {a b:ByteArray} (h:a.toList=b.toList):a=b:=by
 have e:a.data=b.data:=by
  grind [ByteArray.toList_eq,Array.toList_inj]
 cases a;simp_all
theorem wrap_i64 {x:Int} (h1:-9223372036854775808<=x) (h2:x<=9223372036854775807):IntKind.wrap .i64 x=x:=by rw [IntKind.wrap_i64];omega
theorem wrap_u64 {x:Int} (h1:0<=x) (h2:x<=18446744073709551615):IntKind.wrap .u64 x=x:=by simp only [IntKind.wrap,IntKind.bits,IntKind.signed];grind
theorem nx_eq {x:Int} (h1:-9223372036854775809<=x) (h2:x<=9223372036854775806):nx x=x+1:=wrap_i64 (by omega) (by omega)
theorem ls:(∀x:Int,-9223372036854775809<=x->x<=9223372036854775806->nx x=x+1)/\(∀x:Int,-9223372036854775808<=x->x<=9223372036854775807->IntKind.wrap .i64 x=x)/\
 (∀{α:Type} (a b:List α),(a++b).length=a.length+b.length)/\(∀{α:Type} (a:α) (l:List α),(a::l).length=l.length+1)/\(∀{α:Type},([]:List α).length=0)/\(∀{α:Type} (n:Nat) (l:List α),(l.take n).length=min n l.length)/\
 (∀{α:Type} (n:Nat) (l:List α),(l.drop n).length=l.length-n)/\(∀{α:Type} (l:List α) (n:Nat) (a:α),(l.set n a).length=l.length)/\(∀{α β:Type} (f:α->β) (l:List α),(l.map f).length=l.length)/\(∀(s:ByteArray) (i j:Nat),(s.extract i j).size=min j s.size-i):=
 ⟨λ_ h1 h2=>nx_eq h1 h2,λ_ h1 h2=>wrap_i64 h1 h2,λ_ _=>List.length_append,λ_ _=>List.length_cons,List.length_nil,λ_ _=>List.length_take,λ_ _=>List.length_drop,λ_ _ _=>List.length_set,λ_ _=>List.length_map ..,λ_ _ _=>ByteArray.size_extract⟩
def CB (c:S61) (T L:Nat):Prop:=
 c.f0.size<=T/\c.f4.size<=T/\c.f5.length<=L/\c.f6.length<=L/\c.f7.f0.length<=L/\c.f7.f1.length<=L/\(∀x∈c.f5,x.size<=T)/\(∀x∈c.f6,x.size<=T)/\(∀x∈c.f7.f0,x.f0.size<=T)
theorem drop_all {α:Type} {l:List α} {i:Int} {x:α} {P:α->Prop} (h0:0<=i) (hi:l[i.toNat]?=some x) (hj:i<9223372036854775807) (hx:P x) (h:∀y∈l.drop (nx i).toNat,P y):∀y∈l.drop i.toNat,P y:=by
 rw [nx_eq (by omega) (by omega),show (i+1).toNat=i.toNat+1 by omega] at h
 grind [List.getElem?_eq_none,List.drop_eq_getElem_cons,List.getElem?_eq_getElem]
theorem drop_none {α:Type} {l:List α} {i:Int} {P:α->Prop} (h:¬i<(l.length:Int)):∀y∈l.drop i.toNat,P y:=by
 grind [List.drop_eq_nil_of_le]
theorem cb_empty {c e:S61} (h:c.f0=e.f0/\c.f4=e.f4/\c.f5.length=e.f5.length/\c.f6.length=e.f6.length/\c.f7.f0.length=e.f7.f0.length/\c.f7.f1.length=e.f7.f1.length) (h0:e.f0.size=0) (h4:e.f4.size=0) (h5:e.f5.length=0) (h6:e.f6.length=0) (h7:e.f7.f0.length=0) (h8:e.f7.f1.length=0):CB c 400 100:=by
 obtain ⟨b0,b4,b5,b6,b7,b8⟩:=h
 rw [h5] at b5;rw [h6] at b6;rw [h7] at b7;rw [h8] at b8
 refine ⟨by grind,by grind,by omega,by omega,by omega,by omega,?_,?_,?_⟩
 ·grind
 ·grind
 grind
theorem strL_len (s:ByteArray):(strL s).length=s.size:=by
 unfold strL;simp
theorem txt_len (l:List Int):(txt l).size=l.length:=by
 unfold txt;simp [ByteArray.size]
theorem iop_quo (a b:Int) (h0:0<=a) (h1:a<=18446744073709551615) (hb:0<b):iop .quo 304 .u64 a b=a / b:=by
 unfold iop
 have e:Op.intDiv BinOp.quo IntKind.u64 a b=pure (.int .u64 (IntKind.wrap .u64 (a.tdiv b))):=by
  unfold Op.intDiv
  rw [if_neg (by omega)]
 simp only [Go.binOp,e]
 show IntKind.wrap .u64 (a.tdiv b)=a / b
 rw [Int.tdiv_eq_ediv_of_nonneg h0]
 exact wrap_u64 (Int.ediv_nonneg h0 (by omega)) (Int.le_trans (Int.ediv_le_self b h0) h1)
theorem u64_range (x:Int):0<=IntKind.wrap .u64 x/\IntKind.wrap .u64 x<=18446744073709551615:=by
 simp only [IntKind.wrap,IntKind.bits,IntKind.signed];grind
theorem shl_range (x:Int):0<=iop .shl 304 .u64 x 1/\iop .shl 304 .u64 x 1<=18446744073709551615:=u64_range _
theorem xor_range (x:Int):0<=uop .xor .u64 x/\uop .xor .u64 x<=18446744073709551615:=u64_range _
theorem cb_nil (n m:Int) (b:Bool) (s t:ByteArray) (l k:List ByteArray) (v:S59) (T L:Nat) (h1:s.size<=T) (h2:t.size<=T) (h3:l.length<=L/\∀x∈l,x.size<=T) (h4:k.length<=L/\∀x∈k,x.size<=T) (h5:v.f0.length<=L/\v.f1.length<=L/\∀x∈v.f0,x.f0.size<=T):CB ⟨s,n,m,b,t,l,k,v⟩ T L:=
 ⟨h1,h2,h3.1,h4.1,h5.1,h5.2.1,h3.2,h4.2,h5.2.2⟩
theorem nl {T L:Nat}:([]:List ByteArray).length<=L/\∀x∈([]:List ByteArray),x.size<=T:=⟨Nat.zero_le _,λx hx=>by cases hx⟩
theorem nv {T L:Nat}:(⟨[],[],(0:Int),(0:Int),(0:Int),(0:Int),(0:Int),(0:Int),(0:Int)⟩:S59).f0.length<=L/\(⟨[],[],(0:Int),(0:Int),(0:Int),(0:Int),(0:Int),(0:Int),(0:Int)⟩:S59).f1.length<=L/\∀x∈(⟨[],[],(0:Int),(0:Int),(0:Int),(0:Int),(0:Int),(0:Int),(0:Int)⟩:S59).f0,x.f0.size<=T:=⟨Nat.zero_le _,Nat.zero_le _,λx hx=>by cases hx⟩
def EB (e:S65):Prop:=e.f1.size<=80/\e.f2.size<=80/\e.f5.size<=80/\e.f8.length<=10/\e.f9.length<=8/\CB e.f10 400 100
def EM (e:S65):Prop:=e.f1.size<=9223372036854775807/\e.f2.size<=9223372036854775807/\e.f5.size<=9223372036854775807/\e.f8.length<=9223372036854775807/\e.f9.length<=9223372036854775807/\CB e.f10 9223372036854775807 9223372036854775807/\e.f12.f0.size<=9223372036854775807
def zC:S61:=⟨zS,(0:Int),(0:Int),false,zS,[],[],(⟨[],[],(0:Int),(0:Int),(0:Int),(0:Int),(0:Int),(0:Int),(0:Int)⟩:S59)⟩
def zEv:S65:=⟨(0:Int),zS,zS,(0:Int),false,zS,(0:Int),(0:Int),[],[],zC,(0:Int),(⟨zS,(0:Int)⟩:S63)⟩
theorem zE_eb:EB zEv:=⟨by decide,by decide,by decide,by decide,by decide,⟨by decide,by decide,by decide,by decide,by decide,by decide,λx hx=>(by cases hx),λx hx=>(by cases hx),λx hx=>(by cases hx)⟩⟩
def Got (l:List S65) (id:Int) (z:S65×Bool):Prop:=(z.2=true/\z.1∈l/\z.1.f0=id)\/(z.2=false/\z.1=zEv/\∀e∈l,e.f0≠id)
theorem Got.eb {l:List S65} {id:Int} {z:S65×Bool} (h:Got l id z) (g:∀e∈l,EB e):EB z.1:=by
 rcases h with h | h
 ·grind
 grind [zE_eb]
theorem Got.mem {l:List S65} {id:Int} {z:S65×Bool} (h:Got l id z) (hz:z.2=true):z.1∈l/\z.1.f0=id:=by
 rcases h with h | h
 ·exact h.2
 grind
theorem Got.ids {l:List S65} {id:Int} {z:S65×Bool} (h:Got l id z) (hz:z.2=true):id∈l.map (·.f0):=by
 have:=h.mem hz
 grind
theorem got_mk {l:List S65} {id:Int} {i:Int} {x:S65} (h:((-1<=i/\i<(l.length:Int))/\(0<=i->∃e,l[i.toNat]?=some e/\e.f0=id))/\(i<0->∀y∈l,y.f0≠id)) (h0:¬i<0) (hx:l[i.toNat]?=some x) (hm:x∈l):Got l id (x,true):=by
 obtain ⟨e,he,hi⟩:=h.1.2 (by omega)
 rw [hx] at he
 cases he
 exact Or.inl ⟨rfl,hm,hi⟩
def zL:S139:=⟨(0:Int),[],[],(0:Int)⟩
theorem drop_cons {α:Type} {l:List α} {i:Int} {x:α} (h0:0<=i) (hi:l[i.toNat]?=some x) (hj:i<9223372036854775807):l.drop i.toNat=x::l.drop (nx i).toNat:=by
 grind [nx_eq,List.getElem?_eq_none,List.drop_eq_getElem_cons,List.getElem?_eq_getElem]
theorem drop_end {α:Type} {l:List α} {i:Int} (h:¬i<(l.length:Int)):l.drop i.toNat=[]:=List.drop_eq_nil_of_le (by omega)
theorem nodup_le {l m:List Int} (h:l.Nodup) (hs:∀x∈l,x∈m):l.length<=m.length:=by
 induction l generalizing m with
 |nil=>simp
 |cons a t ih=>
  have ha:=hs a (List.mem_cons_self)
  have h2:=List.nodup_cons.1 h
  have:=ih h2.2 (m:=m.erase a) (λx hx=>(List.mem_erase_of_ne (show x≠a from λe=>h2.1 (e ▸ hx))).2 (hs x (List.mem_cons_of_mem _ hx)))
  grind
def ids (l:List S65):List Int:=l.map (·.f0)
def IS (l:List S65) (r:List Int):Prop:=r.Nodup/\∀x∈r,x∈ids l
theorem IS.len {l:List S65} {r:List Int} (h:IS l r):r.length<=l.length:=by
 have:=nodup_le h.1 h.2
 simpa [ids] using this
theorem IS.nil {l:List S65}:IS l []:=⟨List.nodup_nil,λx hx=>by cases hx⟩
def PutP (a:List Int) (n:Int) (r:List Int):Prop:=(∀x,x∈r↔x∈a\/x=n)/\(a.Nodup->r.Nodup)/\r.length<=a.length+1
theorem put_mk {a:List Int} {n:Int} {k:Nat} (hn:n∉a):PutP a n ((([]++(a.drop 0).take (k-0))++[n])++(a.drop k).take (a.length-k)):=by
 have e:(([]++(a.drop 0).take (k-0))++[n])++(a.drop k).take (a.length-k)=a.take k++n::a.drop k:=by
  grind [List.take_of_length_le]
 rw [e]
 have hm:∀x,x∈a.take k++n::a.drop k↔x∈a\/x=n:=λx=>by
  rw [List.mem_append,List.mem_cons]
  have:x∈a↔x∈a.take k\/x∈a.drop k:=by
   conv=>lhs;rw [<-List.take_append_drop k a]
   grind
  grind
 refine ⟨hm,λhd=>?_,?_⟩
 ·grind [List.take_append_drop,List.nodup_append,List.nodup_cons,List.mem_of_mem_drop,List.mem_of_mem_take]
 grind
theorem PutP.keep {a:List Int} {n:Int} (h:n∈a):PutP a n a:=⟨λx=>⟨Or.inl,λh'=>h'.elim id λe=>e ▸ h⟩,id,Nat.le_succ _⟩
theorem PutP.is {l:List S65} {a r:List Int} {n:Int} (h:PutP a n r) (ha:IS l a) (hn:n∈ids l):IS l r:=
 ⟨h.2.1 ha.1,λx hx=>((h.1 x).1 hx).elim (ha.2 x) λe=>e ▸ hn⟩
def MinP (a1 z1 o2:List Int) (s3:Int) (r:List Int):Prop:=(∀x,x∈r↔x∈o2\/(x∈z1.drop s3.toNat/\x∉a1))/\r.Nodup/\r.length<=z1.length
theorem nodup_drop {z:List Int} (h:z.Nodup) (k:Nat):(z.drop k).Nodup:=by
 grind
theorem minus_in {z1 o2:List Int} {s3 x:Int} (hd:z1.Nodup) (h0:0<=s3) (hx:z1[s3.toNat]?=some x) (hj:s3<9223372036854775807) (i4:o2.Nodup) (i5:∀y∈o2,y∉z1.drop s3.toNat):(o2++[x]).Nodup/\∀y∈o2++[x],y∉z1.drop (nx s3).toNat:=by
 have e:=drop_cons h0 hx hj
 grind [nodup_drop,List.nodup_append,List.nodup_cons,List.nodup_nil,List.mem_cons_self,List.mem_cons_of_mem]
theorem minus_out {z1 o2:List Int} {s3 x:Int} (h0:0<=s3) (hx:z1[s3.toNat]?=some x) (hj:s3<9223372036854775807) (i5:∀y∈o2,y∉z1.drop s3.toNat):∀y∈o2,y∉z1.drop (nx s3).toNat:=by
 rw [drop_cons h0 hx hj] at i5
 grind
theorem minus_hit {a1 z1 o2 r:List Int} {s3 x:Int} (h0:0<=s3) (hx:z1[s3.toNat]?=some x) (hj:s3<9223372036854775807) (hn:x∉a1) (hr:MinP a1 z1 (o2++[x]) (nx s3) r):MinP a1 z1 o2 s3 r:=by
 refine ⟨λy=>(hr.1 y).trans ?_,hr.2⟩
 rw [drop_cons h0 hx hj,List.mem_append,List.mem_cons,List.mem_cons]
 grind
theorem minus_miss {a1 z1 o2 r:List Int} {s3 x:Int} (h0:0<=s3) (hx:z1[s3.toNat]?=some x) (hj:s3<9223372036854775807) (hn:x∈a1) (hr:MinP a1 z1 o2 (nx s3) r):MinP a1 z1 o2 s3 r:=by
 refine ⟨λy=>(hr.1 y).trans ?_,hr.2⟩
 rw [drop_cons h0 hx hj,List.mem_cons]
 grind
theorem all_snoc {α:Type} {P:α->Prop} {l:List α} {x:α} (h:∀y∈l,P y) (hx:P x):∀y∈l++[x],P y:=λy hy=>(List.mem_append.1 hy).elim (h y) λe=>by
 grind
theorem got_kind {l:List S65} {id:Int} {z:S65×Bool} (h:Got l id z) (hk:z.1.f3≠0):z.2=true:=by
 rcases h with h | h
 ·exact h.1
 ·rw [h.2.1] at hk;exact absurd rfl hk
theorem minus_lt {l:List S65} {s r:List Int} {b:Int} (hs:IS l s) (hb:b∈s) (hr:(∀x,x∈r↔x∈s/\x∉[b])/\r.Nodup/\r.length<=s.length):IS l r/\r.length<s.length:=by
 refine ⟨⟨hr.2.1,λx hx=>hs.2 x ((hr.1 x).1 hx).1⟩,?_⟩
 have:=nodup_le (l:=b::r) (m:=s) (List.nodup_cons.2 ⟨λh=>((hr.1 b).1 h).2 List.mem_cons_self,hr.2.1⟩) (λx hx=>by
  grind)
 grind
theorem put_mk2 {a:List Int} {n:Int} {k:Nat} (hn:n∉a):PutP a n ((((a.drop 0).take k)++[n])++(([]:List Int)++((a.drop k).take (a.length-k)))):=by
 have:=put_mk (k:=k) hn
 grind
theorem find_le {o:List S139} {z:S139×Bool} {K:Nat} (h:z.1∈o\/z.1=zL) (g:∀x∈o,x.f2.length<=K):z.1.f2.length<=K:=by
 rcases h with h | h
 ·grind
 ·rw [h];exact Nat.zero_le _
def RB (r:S30):Prop:=r.f0.size<=80/\(∀e∈r.f1,EB e)/\(∀e∈r.f3,EB e)/\r.f2.length=r.f1.length/\r.f4.length<=12/\r.f5.length<=220024
theorem quo_step {p:Int} {l:List Int} (h0:0<=p) (h1:p<=18446744073709551615) (h2:p<128 ^ (10-l.length)) (h3:p>=128) (hl:l.length<=10):0<=p.tdiv 128 % 2 ^ IntKind.u64.bits/\p.tdiv 128 % 2 ^ IntKind.u64.bits<=18446744073709551615/\p.tdiv 128 % 2 ^ IntKind.u64.bits<p/\l.length+1<=10/\∀x:Int,p.tdiv 128 % 2 ^ IntKind.u64.bits<128 ^ (10-(l++[x]).length):=by
 have e:p.tdiv 128 % 2 ^ IntKind.u64.bits=p / 128:=iop_quo p 128 h0 h1 (by omega)
 rw [e]
 rcases Nat.lt_or_ge l.length 10 with h | h
 ·rw [show 10-l.length=(10-(l.length+1))+1 by omega,Int.pow_succ] at h2
  grind
 grind
end Go.Abs.RM
end
