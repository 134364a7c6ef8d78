/- Of ServerHides: lemmas. -/
import Derived.Test.YtlhdbnmgiaoeeaaGreatUAd
set_option linter.all false
section
namespace Go.Abs
variable {P:Program} {tab:Tab} {N n0:Nat} {σ:Sg}
def Sg.setLoop (σ:Sg) (n:Nat) (rec:Loop) (o:AO):Sg:={ σ with w:=σ.w.putObj (σ.r n) (.loop rec),h:=upd σ.h n (some o) }
theorem write_loop (sr:SR σ) {n:Nat} {T:TL} {N:Nat} {ps:List Tmp} {asg body:Code} {st:LoopState} {pend:Option Code} (hn:σ.h n=some (.loop T N ps asg body st pend)) {rec:Loop} (hrec:σ.w.heap[σ.r n]?=some (.loop rec)) (st':LoopState) (pend':Option Code) :
 Le σ (σ.setLoop n { rec with state:=st',pending:=pend' } (.loop T N ps asg body st' pend'))/\SR (σ.setLoop n { rec with state:=st',pending:=pend' } (.loop T N ps asg body st' pend')):=by
 obtain ⟨rec0,h1,h2,h3,h4,h5,h6,h7,h8,h9⟩:=sr.obj n _ hn
 rw [hrec] at h1
 cases h1
 have hlt:=sr.lt n _ hn
 let σ':=σ.setLoop n { rec with state:=st',pending:=pend' } (.loop T N ps asg body st' pend')
 have hblock:σ'.w.heap[σ.r n]?=some (.loop { rec with state:=st',pending:=pend' }):=World.putObj_heap_same hlt
 have hother:∀c,c≠σ.r n->σ'.w.heap[c]?=σ.w.heap[c]?:=λc hc=>World.putObj_heap_other hc
 have hsize:σ'.w.heap.size=σ.w.heap.size:=World.putObj_size
 have l:Le σ σ':={
  os:=rfl
  tape:=rfl
  output:=rfl
  size:=by omega
  frame:=λb _ h=>hother b (λe=>h n _ hn e.symm)
  old:=λm p h h'=>by
   by_cases e:m=n
   ·grind
   ·simp only [σ',Sg.setLoop,upd_ne _ _ e] at h;grind
  icell:=λb off h=>⟨h,by
   by_cases e:b=σ.r n
   ·subst e
    simp [World.cell?,hblock,hrec]
   grind [cell_same]⟩
  inew:=λ_ _ h _ _=>h
  jnew:=λ_ h _ _=>h
  jmap:=λb h=>⟨h,hother b (λe=>h2 (e ▸ h))⟩
  cells:=λm es0 s0 fz0 h=>by
   right
   by_cases e:m=n
   ·grind
   ·refine ⟨es0,fz0,by simp only [σ',Sg.setLoop,upd_ne _ _ e];exact h,Nat.le_refl _,.inl ⟨rfl,λa t1 r1 ha=>⟨a,t1,r1,?_,rfl⟩⟩⟩
    grind
  maps:=λm ks0 xs0 bs0 c f h=>by
   right
   by_cases e:m=n
   ·grind
   ·exact ⟨rfl,ks0,xs0,bs0,c,f,by simp only [σ',Sg.setLoop,upd_ne _ _ e];exact h⟩
  loops:=λm T0 N0 ps0 asg0 body0 st0 pend0 h=>by
   by_cases e:m=n
   ·subst e
    rw [hn] at h;cases h
    exact ⟨rfl,st',pend',upd_same _ _ _⟩
   ·exact ⟨rfl,st0,pend0,by simp only [σ',Sg.setLoop,upd_ne _ _ e];exact h⟩
  deads:=λ_ h=>h }
 refine ⟨l,sr_upd sr l n _ rfl (λ_ _=>rfl) (λm p e h=>hother _ (λq=>e (sr.inj m n _ _ h hn q))) rfl rfl rfl ?_ ?_ (λm p e h q=>e (sr.inj n m _ _ hn h q).symm) (sr.alive n _ hn)⟩
 ·exact ⟨_,hblock,h2,rfl,rfl,h5,h6,h7,h8,λt v hv=>(h9 t v hv).mono l⟩
 ·rw [hsize];exact hlt
theorem le_alloc (sr:SR σ) (o:Obj):Le σ { σ with w:=σ.w.alloc o }/\SR { σ with w:=σ.w.alloc o }:=by
 have l:Le σ { σ with w:=σ.w.alloc o }:={
  os:=rfl
  tape:=rfl
  output:=rfl
  size:=by simp_all
  frame:=λb hb _=>heap_alloc_lt _ _ hb
  old:=λn p h h'=>by
   grind
  icell:=λb off h=>⟨h,cell_same (heap_alloc_lt _ _ (sr.ilt b off h))⟩
  inew:=λ_ _ h _ _=>h
  jnew:=λ_ h _ _=>h
  jmap:=λb h=>⟨h,heap_alloc_lt _ _ (sr.jlt b h)⟩
  cells:=λn es s fz h=>.inr ⟨es,fz,h,Nat.le_refl _,.inl ⟨rfl,λarr t rg ha=>⟨arr,t,rg,(heap_alloc_lt _ _ (sr.lt n _ h)).trans ha,rfl⟩⟩⟩
  maps:=λn ks vs bs c fz h=>.inr ⟨rfl,ks,vs,bs,c,fz,h⟩
  loops:=λn T N ps asg body st pend h=>⟨rfl,st,pend,h⟩
  deads:=λ_ h=>h }
 have up:∀b,b<σ.w.heap.size->b<(σ.w.alloc o).heap.size:=λb h=>by rw [World.size_alloc];omega
 exact ⟨l,{
  obj:=λn p h=>OR.keep l (sr.obj n p h) rfl (heap_alloc_lt _ _ (sr.lt n p h)) (λ_ h=>h) (λh=>h)
  inj:=sr.inj
  lt:=λn p h=>up _ (sr.lt n p h)
  ilt:=λb off h=>up _ (sr.ilt b off h)
  jlt:=λb h=>up _ (sr.jlt b h)
  alive:=sr.alive }⟩
def putsT (T:TL):List Tmp->List AV->TL
 |p::ps,v::vs=>putsT (put T p v) ps vs
 |_,_=>T
def putsV (tmps:Array Value):List Tmp->List Value->Array Value
 |p::ps,v::vs=>putsV (tmps.setIfInBounds p v) ps vs
 |_,_=>tmps
theorem putsV_size:∀(ps:List Tmp) (vs:List Value) (tmps:Array Value),(putsV tmps ps vs).size=tmps.size
 |[],_,_=>by rfl
 |_::_,[],_=>by rfl
 |p::ps,v::vs,tmps=>by rw [putsV,putsV_size ps vs];simp
theorem putsV_eq (ps:List Tmp) (vs:List Value) (tmps:Array Value):(ps.toArray.zip vs.toArray).foldl (λtmps (t,a)=>tmps.setIfInBounds t a) tmps=putsV tmps ps vs:=by
 rw [<-Array.foldl_toList]
 simp only [Array.toList_zip]
 induction ps generalizing vs tmps with
 |nil=>rfl
 |cons p ps ih=>
  cases vs with
  |nil=>rfl
  |cons v vs=>simp only [List.zip_cons_cons,List.foldl_cons,putsV];grind
theorem puts_vr:∀{ps:List Tmp} {xs:List AV} {vs:List Value} {T:TL} {tmps:Array Value},VRs σ xs vs->(∀p∈ps,p<tmps.size)->(∀t v,look T t=some v->VR σ v (tmps.getD t undef))->
 ∀t v,look (putsT T ps xs) t=some v->VR σ v ((putsV tmps ps vs).getD t undef)
 |[],_,_,T,tmps,h,hp,hT=>by cases h<;>(simp only [putsT,putsV];exact hT)
 |p::ps,_,_,T,tmps,.nil,hp,hT=>by simp only [putsT,putsV];exact hT
 |p::ps,_,_,T,tmps,.cons (c:=x) (v:=u) h hs,hp,hT=>by
  simp only [putsT,putsV]
  refine puts_vr hs (λq hq=>by grind) (λt v ht=>?_)
  rw [look_put] at ht
  have hlt:=hp p (by simp)
  split at ht
  ·simp_all
  simp_all
theorem lg_loop (sr:SR σ) {n0 n:Nat} {T:TL} {N:Nat} {ps:List Tmp} {asg body:Code} {st:LoopState} {pend:Option Code} (hn:σ.h n=some (.loop T N ps asg body st pend)) {rec:Loop} (hrec:σ.w.heap[σ.r n]?=some (.loop rec)) (st':LoopState) (pend':Option Code) :
 Lg n0 σ (σ.setLoop n { rec with state:=st',pending:=pend' } (.loop T N ps asg body st' pend')):=by
 refine ⟨(write_loop sr hn hrec st' pend').1,λm hm=>.inl ?_⟩
 rcases hm with hm | hm
 ·by_cases e:m=n
  ·subst e;exact .inl (by grind)
  ·exact .inl (by simpa [Sg.setLoop,upd_ne _ _ e] using hm)
 ·exact .inr hm
theorem sp_loop {H:Heap} (sp:SP σ H) {n:Nat} {T:TL} {N:Nat} {ps:List Tmp} {asg body:Code} {st:LoopState} {pend:Option Code} (hn:look H.objs n=some (.loop T N ps asg body st pend)) {rec:Loop} (hrec:σ.w.heap[σ.r n]?=some (.loop rec)) (st':LoopState) (pend':Option Code) :
 SP (σ.setLoop n { rec with state:=st',pending:=pend' } (.loop T N ps asg body st' pend')) ⟨put H.objs n (.loop T N ps asg body st' pend'),H.next⟩:=by
 have hn':σ.h n=some (.loop T N ps asg body st pend):=by rw [sp.h];exact hn
 refine ⟨(write_loop sp.sr hn' hrec st' pend').2,?_,λm hm=>?_⟩
 ·funext m
  simp only [Sg.setLoop,look_put,upd]
  by_cases e:m=n
  ·grind
  ·rw [if_neg e,if_neg (λq=>e q.symm),sp.h]
 ·have hne:m≠n:=λe=>by
   have:=(sp.fresh m hm).1
   grind
  obtain ⟨h1,h2⟩:=sp.fresh m hm
  exact ⟨by simp only [Sg.setLoop,upd_ne _ _ hne];exact h1,h2⟩
def roundP (n:Nat) (r:Out) (H':Heap):Post:=λe _ H=>∃T N ps asg body,look H.objs n=some (.loop T N ps asg body .busy none)/\
 match e with
 |.normal=>r=.ret (.sc (.bool true))/\H'=⟨put H.objs n (.loop T N ps asg body .ready none),H.next⟩
 |.ret=>r=.ret (.sc (.bool false))/\H'=⟨put H.objs n (.loop T N ps asg body .done (some .ret)),H.next⟩
 |.exit id=>r=.ret (.sc (.bool false))/\H'=⟨put H.objs n (.loop T N ps asg body .done (some (.exit id))),H.next⟩
 |.goto l=>r=.ret (.sc (.bool false))/\H'=⟨put H.objs n (.loop T N ps asg body .done (some (.goto l))),H.next⟩
 |.pan _=>False
theorem round_of {n:Nat} {T:TL} {N:Nat} {ps:List Tmp} {asg body:Code} {args:List AV} {H:Heap} {r:Out} {H':Heap} (hn:look H.objs n=some (.loop T N ps asg body .ready none)) (hlen:args.length=ps.length) (hps:∀p∈ps,p<N)
 (h:∀l,CW P (.rnd l) N H.next asg (putsT T ps args) H λe T2 H2=>e=.normal/\∃T' N' ps' asg' body',look H2.objs n=some (.loop T' N' ps' asg' body' .ready none)/\
   CW P (.rnd l) N H.next body T2 ⟨put H2.objs n (.loop T' N' ps' asg' body' .busy none),H2.next⟩ (roundP n r H')):Round2 P n args H r H':=by
 intro σ vs sr hh hfr hvs
 have hn':σ.h n=some (.loop T N ps asg body .ready none):=by simp_all
 obtain ⟨rec,h1,h2,h3,h4,h5,h6,h7,h8,h9⟩:=sr.obj n _ hn'
 have hl:=hvs.length
 refine ⟨rec.fn,_,rec.assign,rec.body,run_yield h1 (by grind),roundIn_of_wpIn (F:=Fence.wide) trivial ?_⟩
 rw [h6,h7]
 have e1:(rec.params.zip vs.toArray).foldl (λtmps (t,a)=>tmps.setIfInBounds t a) rec.tmps=putsV rec.tmps ps vs:=by
  rw [<-putsV_eq,<-h5]
 rw [e1]
 have ar:Arr N H.next 0 σ { tmps:=putsV rec.tmps ps vs,defers:=[] } (putsT T ps args) H:=⟨⟨⟨sr,hh,hfr⟩,puts_vr hvs (by grind) h9,(putsV_size ps vs _).trans h8⟩,Nat.le_refl _,trivial,Nat.zero_le _⟩
 refine wpIn_mono (h (σ.r n) 0 σ _ ar) ?_
 rintro e a1 w1 ⟨σ2,rfl,l2,h⟩
 cases e<;>simp only [Exit.then] at h ⊢
 case normal=>
  obtain ⟨T2,H2,ar2,_,T',N',ps',asg',body',hn2,hb⟩:=h
  have hn2':σ2.h n=some (.loop T' N' ps' asg' body' .ready none):=by rw [ar2.ss.h];exact hn2
  obtain ⟨rec2,g1,g2,g3,g4,g5,g6,g7,g8,g9⟩:=ar2.ss.sr.obj n _ hn2'
  have hr2:σ2.r n=σ.r n:=(l2.1.loops _ _ _ _ _ _ _ _ hn').1
  have l3:=lg_loop (n0:=H.next) ar2.ss.sr hn2' g1 .busy none
  have sp3:=sp_loop ar2.ss.toSP hn2 g1 .busy none
  have hrec3:({ rec2 with state:=.busy }:Loop)={ rec2 with state:=.busy,pending:=none }:=by rw [<-g4]
  have g1':σ2.w.heap[σ.r n]?=some (.loop rec2):=by grind
  refine ⟨_,run_beginRound g1' g3,?_⟩
  rw [hrec3]
  have hw:(σ2.setLoop n { rec2 with state:=.busy,pending:=none } (.loop T' N' ps' asg' body' .busy none)).w=σ2.w.putObj (σ.r n) (.loop { rec2 with state:=.busy,pending:=none }):=by
   show σ2.w.putObj (σ2.r n) _=_
   rw [hr2]
  rw [<-hw]
  have ar3:Arr N H.next 0 (σ2.setLoop n { rec2 with state:=.busy,pending:=none } (.loop T' N' ps' asg' body' .busy none)) a1 T2 ⟨put H2.objs n (.loop T' N' ps' asg' body' .busy none),H2.next⟩:=
   ⟨⟨sp3,ar2.ss.tr.mono l3.1,ar2.ss.size⟩,ar2.n0,ar2.mks.mono l3.1 sp3.sr,Nat.zero_le _⟩
  refine wpIn_mono (hb 0 _ a1 ar3) ?_
  rintro e a4 w4 ⟨σ4,rfl,l4,h⟩
  have fin:∀(T4:TL) (H4:Heap) (jump:Option Code) (st':LoopState) (T N_ ps asg body),Arr N H.next 0 σ4 a4 T4 H4->look H4.objs n=some (.loop T N_ ps asg body .busy none)->st'=(if jump.isNone then .ready else .done)->
   ∃v w',(Instr.endRound (σ.r n) jump).run P σ4.w=.ok v w'/\∃σ',σ'.w=w'/\σ'.h=look (⟨put H4.objs n (.loop T N_ ps asg body st' jump),H4.next⟩:Heap).objs/\Le σ σ'/\SR σ'/\H.next<=H4.next/\(∀m,σ'.dead m->Used σ m\/(H.next<=m/\m<H4.next))/\
    (∀m,H4.next<=m->σ'.h m=none/\¬σ'.dead m)/\OutR σ' (.ret (.sc (.bool jump.isNone))) (.returned v):=by
   intro T4 H4 jump st' T N_ ps asg body ar4 hn4 hst
   have hn4':σ4.h n=some (.loop T N_ ps asg body .busy none):=by rw [ar4.ss.h];exact hn4
   obtain ⟨rec4,k1,k2,k3,k4,k5,k6,k7,k8,k9⟩:=ar4.ss.sr.obj n _ hn4'
   have hn3':(σ2.setLoop n { rec2 with state:=.busy,pending:=none } (.loop T' N' ps' asg' body' .busy none)).h n=some (.loop T' N' ps' asg' body' .busy none):=upd_same _ _ _
   have hr4:σ4.r n=σ.r n:=(l4.1.loops _ _ _ _ _ _ _ _ hn3').1.trans hr2
   have l5:=lg_loop (n0:=H.next) ar4.ss.sr hn4' k1 st' jump
   have sp5:=sp_loop ar4.ss.toSP hn4 k1 st' jump
   have L:Lg H.next σ _:=((l2.trans ar2.ss.sr l3 sp3.sr).trans sp3.sr l4 ar4.ss.sr).trans ar4.ss.sr l5 sp5.sr
   rw [<-hr4]
   have hw5:(σ4.setLoop n { rec4 with state:=st',pending:=jump } (.loop T N_ ps asg body st' jump)).w=σ4.w.putObj (σ4.r n) (.loop { rec4 with state:=if jump.isNone then .ready else .done,pending:=jump }):=by
    rw [hst];rfl
   refine ⟨_,_,run_endRound jump k1,σ4.setLoop n { rec4 with state:=st',pending:=jump } (.loop T N_ ps asg body st' jump),hw5,sp5.h,L.1,sp5.sr,ar4.n0,λm hm=>?_,?_,.tree (.sc rfl)⟩
   ·rcases L.2 m (.inr hm) with q | q
    ·grind
    ·refine .inr ⟨q,?_⟩
     rcases Nat.lt_or_ge m H4.next with p | p
     ·exact p
     ·exact absurd hm (sp5.fresh m p).2
   ·exact sp5.fresh
  cases e<;>simp only [roundP] at h<;>simp only [roundPost]
  case normal=>obtain ⟨T4,H4,ar4,_,_,_,_,_,hn4,rfl,rfl⟩:=h;exact fin T4 H4 none _ _ _ _ _ _ ar4 hn4 rfl
  case ret=>obtain ⟨T4,H4,ar4,_,_,_,_,_,hn4,rfl,rfl⟩:=h;exact fin T4 H4 (some .ret) _ _ _ _ _ _ ar4 hn4 rfl
  case exit id=>obtain ⟨T4,H4,ar4,_,_,_,_,_,hn4,rfl,rfl⟩:=h;exact fin T4 H4 (some (.exit id)) _ _ _ _ _ _ ar4 hn4 rfl
  case goto t=>obtain ⟨T4,H4,ar4,_,_,_,_,_,hn4,rfl,rfl⟩:=h;exact fin T4 H4 (some (.goto t)) _ _ _ _ _ _ ar4 hn4 rfl
  grind
 case exit=>grind
 case goto=>grind
 case ret=>grind
 grind
def endP (Q:Post) (K:Code->TL->Heap->Prop) (T:TL):Out->Heap->Nat->Prop
 |.ret _,H2,n=>∃T0 N0 ps asg body st pend,look H2.objs n=some (.loop T0 N0 ps asg body st pend)/\st≠.busy/\
  match pend with
  |none=>Q .normal T ⟨put H2.objs n (.loop T0 N0 ps asg body .exhausted none),H2.next⟩
  |some c=>K c T ⟨put H2.objs n (.loop T0 N0 ps asg body .exhausted (some c)),H2.next⟩
 |.pan v,H2,_=>Q (.pan v) [] H2
theorem CW.rangeFunc {T:TL} {H:Heap} {Q:Post} {g:Operand} {ps:Array Tmp} {asg body:Code} {gf:FuncId} {first caps:List AV} {r:Out} {H2:Heap} (hg:aev (look T) g=some (.fn (.func gf) first caps))
 (hv:Valid2 P gf (first++[.fn (.yield H.next) [] []]++caps) ⟨put H.objs H.next (.loop T N ps.toList asg body .ready none),H.next+1⟩ r H2)
 (hok:okEff ⟨put H.objs H.next (.loop T N ps.toList asg body .ready none),H.next+1⟩ (.glob H2)=true)
 (hq:endP Q (λc T H=>CW P .out N n0 c T H Q) T r H2 H.next):CW P .out N n0 (.rangeFunc g ps asg body) T H Q:=λB σ a ar=>by
 obtain ⟨hen,hc2⟩:=hv
 obtain ⟨fs,cs,hgv,hfs,hcs⟩:=(aev_vr ar.ss.tr hg).fn_inv rfl
 refine wpIn_rangeFunc (F:=Fence.wide) (n:=0) λfn _=>?_
 obtain ⟨rec,hrec⟩:∃rec:Loop,rec={ state:=.ready,pending:=none,fn,tmps:=a.tmps,params:=ps,assign:=asg,body,defers:=σ.w.heap.size }:=⟨_,rfl⟩
 obtain ⟨la,sra⟩:=le_alloc ar.ss.sr (.deferred (some []))
 obtain ⟨σa,hσa⟩:∃σa:Sg,σa={ σ with w:=σ.w.alloc (.deferred (some [])) }:=⟨_,rfl⟩
 rw [<-hσa] at la sra
 have hfr:=ar.ss.fresh H.next (Nat.le_refl _)
 have hha:σa.h=σ.h:=by rw [hσa]
 have hda:σa.dead=σ.dead:=by rw [hσa]
 have hwa:σa.w=σ.w.alloc (.deferred (some [])):=by rw [hσa]
 have hna:σa.h H.next=none:=by grind
 obtain ⟨σ1,hσ1⟩:∃σ1:Sg,σ1=σa.make H.next (.loop rec) (.loop T N ps.toList asg body .ready none):=⟨_,rfl⟩
 have l1:Le σa σ1:=by grind [le_make]
 have hr1:σ1.r H.next=σ.w.heap.size+1:=by rw [hσ1];simp only [Sg.make,upd_same];rw [hwa,World.size_alloc]
 have hw1:σ1.w=(σ.w.alloc (.deferred (some []))).alloc (.loop rec):=by rw [hσ1,Sg.make,hwa]
 have hj1:∀b,σ1.J b->b<σ.w.heap.size:=λb h=>by
  rw [hσ1,hσa] at h
  exact ar.ss.sr.jlt b h
 have sr1:SR σ1:=by
  rw [hσ1]
  refine sr_make sra (by grind) (by grind) ?_
  rw [<-hσ1]
  refine ⟨rec,?_,?_,by rw [hrec],by rw [hrec],by rw [hrec],by rw [hrec],by rw [hrec],by rw [hrec];exact ar.ss.size,λt v ht=>?_⟩
  ·rw [hr1,hw1]
   have:=heap_alloc_at (σ.w.alloc (.deferred (some []))) (.loop rec)
   rwa [World.size_alloc] at this
  ·grind
  ·rw [hrec];exact ((ar.ss.tr t v ht).mono la).mono l1
 have hh1:σ1.h=look (put H.objs H.next (.loop T N ps.toList asg body .ready none)):=by
  funext m
  rw [hσ1]
  simp only [Sg.make,upd,look_put,hha]
  by_cases e:m=H.next
  ·grind
  ·rw [if_neg e,if_neg (λq=>e q.symm),ar.ss.h]
 have hf1:∀m,H.next+1<=m->σ1.h m=none/\¬σ1.dead m:=λm hm=>by
  obtain ⟨q1,q2⟩:=ar.ss.fresh m (by omega)
  rw [hσ1]
  refine ⟨by simp only [Sg.make];grind [upd_ne],by simp only [Sg.make];grind⟩
 have lg1:Lg n0 σ σ1:=by
  refine ⟨la.trans sra l1 sr1,λm hm=>?_⟩
  rcases hm with hm | hm
  ·rw [hh1,look_put] at hm
   split at hm
   ·rename_i e;subst e;exact .inr ar.n0
   ·refine .inl (.inl ?_);rw [ar.ss.h];exact hm
  ·have:σ.dead m:=by rw [hσ1] at hm;simp only [Sg.make] at hm;grind
   exact .inl (.inr this)
 have hD:σ1.w.heap[σ.w.heap.size]?=some (.deferred (some [])):=by
  grind [heap_alloc_lt,World.size_alloc,heap_alloc_at]
 have hs1:σ1.w.heap.size=σ.w.heap.size+2:=by rw [hw1,World.size_alloc,World.size_alloc]
 have marks1:Marks B σ1 ({ target:=.collected σ.w.heap.size,args:=#[] }::a.defers):=by
  refine ⟨⟨σ.w.heap.size,rfl,ar.hB,by omega,hD,λh=>by grind,λn o ho e=>?_,λd' hd' e=>?_⟩,ar.mks.mono lg1.1 sr1⟩
  ·rw [hh1,look_put] at ho
   split at ho
   ·grind
   ·rename_i q
    have:σ.h n=some o:=by rw [ar.ss.h];exact ho
    have h2:=ar.ss.sr.lt n o this
    rw [hσ1] at e
    simp only [Sg.make] at e
    grind [upd_ne]
  ·have:∀(ds:List Deferred),Marks B σ ds->d'∈ds->False:=λds=>by
    induction ds with
    |nil=>grind
    |cons d ds ih=>
     rintro ⟨⟨b,h1,_,h3,_⟩,hr⟩ hmem
     grind
   exact this _ ar.mks hd'
 have vargs:VRs σ1 (first++[.fn (.yield H.next) [] []]++caps) (fs++[.func (.yield (σ.w.heap.size+1)) #[] #[]]++cs):=by
  refine ((hfs.mono lg1.1).append (.cons ?_ .nil)).append (hcs.mono lg1.1)
  rw [<-hr1]
  exact .yld (T:=T) (N:=N) (ps:=ps.toList) (asg:=asg) (body:=body) (st:=.ready) (pend:=none) (by rw [hh1,look_put,if_pos rfl])
 obtain ⟨fnc,hf1',hf2',hf3'⟩:=hen
 have hbn:fnc.body.isNone=false:=by cases hq:fnc.body<;>simp_all
 refine ⟨σ.w.heap.size+1,[{ target:=.collected σ.w.heap.size,args:=#[] }],σ1.w,{ target:=.fn (.func gf) cs.toArray,args:=fs.toArray++#[.func (.yield (σ.w.heap.size+1)) #[] #[]] },σ1.w,gf,(fs++[Value.func (.yield (σ.w.heap.size+1)) #[] #[]]++cs).toArray,σ1.w,?_,?_,λ_ _=>trivial,?_,λh=>by (cases h),callsIn_wide.2 ?_⟩
 ·rw [hw1,hrec];exact run_enterLoop_outer _ _ _ _ _
 ·simp only [resolve,hgv,Deferred.ofValue]
  simp [go_sem]
 ·simp only [invoke,callFunc,Sem.run_bind,run_program,hf1',hf3',hbn,Bool.false_eq_true,if_false,Result.andThen_ok]
  simp [go_sem]
 ·refine (hc2 σ1 _ sr1 hh1 hf1 vargs).mono ?_
  rintro e w' ⟨σ2,rfl,h1,l2,sr2,h2,h3,h4,h5⟩
  have lg2:Lg n0 σ σ2:=lg1.trans sr1 ((lg_of (H:=⟨put H.objs H.next (.loop T N ps.toList asg body .ready none),H.next+1⟩) (e:=.glob H2) l2 hok ⟨hh1,hf1⟩ h1 ⟨h2,h3,h4⟩).weak (Nat.le_succ_of_le ar.n0)) sr2
  have sp2:SP σ2 H2:=⟨sr2,h1,h4⟩
  have marks2:=marks1.mono l2 sr2
  have n2:n0<=H2.next:=Nat.le_trans (Nat.le_succ_of_le ar.n0) h2
  have b2:B<=σ2.w.heap.size:=Nat.le_trans ar.hB lg2.1.size
  cases r with
  |pan v=>
   cases e<;>simp only [OutR] at h5
   obtain ⟨x,rfl,hx⟩:=h5
   exact ⟨σ2,rfl,lg2,v,H2,x,n2,b2,marks2,rfl,sp2,hx,hq⟩
  |ret v=>
   cases e<;>simp only [OutR] at h5
   obtain ⟨T0,N0,ps0,asg0,body0,st,pend,hn,hst,hq⟩:=hq
   have hn':σ2.h H.next=some (.loop T0 N0 ps0 asg0 body0 st pend):=by simp_all
   obtain ⟨rec2,g1,g2,g3,g4,g5,g6,g7,g8,g9⟩:=sr2.obj _ _ hn'
   have hr2:σ2.r H.next=σ.w.heap.size+1:=((l2.loops _ T N ps.toList asg body .ready none (by rw [hh1,look_put,if_pos rfl])).1).trans hr1
   have l3:=lg_loop (n0:=n0) sr2 hn' g1 .exhausted pend
   have sp3:=sp_loop sp2 hn g1 .exhausted pend
   rw [<-hr2]
   have hw3:(σ2.setLoop H.next { rec2 with state:=.exhausted,pending:=pend } (.loop T0 N0 ps0 asg0 body0 .exhausted pend)).w=σ2.w.putObj (σ2.r H.next) (.loop { rec2 with state:=.exhausted }):=by
    have:({ rec2 with state:=.exhausted }:Loop)={ rec2 with state:=.exhausted,pending:=pend }:=by rw [<-g4]
    rw [this];rfl
   have ar3:Arr N n0 B _ { a with defers:=[{ target:=.collected σ.w.heap.size,args:=#[] }]++a.defers } T ⟨put H2.objs H.next (.loop T0 N0 ps0 asg0 body0 .exhausted pend),H2.next⟩:=
    ⟨⟨sp3,λt v ht=>(ar.ss.tr t v ht).mono (lg2.1.trans sr2 l3.1 sp3.sr),ar.ss.size⟩,n2,marks2.mono l3.1 sp3.sr,Nat.le_trans b2 l3.1.size⟩
   refine ⟨pend,σ2.w.putObj (σ2.r H.next) (.loop { rec2 with state:=.exhausted }),?_,?_⟩
   ·rw [run_endLoop g1 (by grind),g4]
   ·rw [<-hw3]
    cases pend with
    |none=>exact ⟨_,rfl,lg2.trans sr2 l3 sp3.sr,T,_,ar3,hq⟩
    |some c=>exact wpIn_mono (hq B _ _ ar3) λ_ _ _ h=>h.base (lg2.trans sr2 l3 sp3.sr) sp3.sr
end Go.Abs
end
section
namespace Go.Abs
structure FnD where
 ntmps:Nat
 results:List ResultVar
 body:Code
structure Env where
 tab:Tab
 fn:FuncId->Option FnD
 isInl:FuncId->Bool
 isOwn:FuncId->Bool
 meth:TypeId->String->Option FuncId
 spec:FuncId->List AV->(FuncId->List AV->Option Out)->Option Out
 spec2:FuncId->List AV->Heap->(FuncId->List AV->Heap->Option (Out×Heap))->Option (Out×Heap)
abbrev CodeRun:=Code->TL->Heap->Option (AX×TL×Heap)
def fitA (H:Heap) (rd draw:Bool) (ops:Array Oper) (recs:List Rec):Bool:=
 (!draw || drawOk H ops ops.toList recs)&&(!rd || recs.all noRound)
def regionA (tab:Tab) (hd:Hd) (N:Nat) (rd:Bool) (ops:Array Oper) (draw:Bool) (T:TL) (H:Heap):Option (AX×TL×Heap):=
 if dstOk N ops.toList then
  match runOps tab hd ops ops.toList 0 T H with
  |some (.done T' H',recs)=>if fitA H rd draw ops recs then some (.normal,T',H') else none
  |some (.pan v H',recs)=>if fitA H rd draw ops recs then some (.pan v,[],H') else none
  |none=>none
 else none
def rangeA (hd:Hd) (N:Nat) (rec:CodeRun) (g:Operand) (ps:Array Tmp) (asg body:Code) (T:TL) (H:Heap):Option (AX×TL×Heap):=
 match aev (look T) g with
 |some (.fn (.func gf) first caps)=>
  match hd.inl 0 gf (first++[.fn (.yield H.next) [] []]++caps) ⟨put H.objs H.next (.loop T N ps.toList asg body .ready none),H.next+1⟩ with
  |some (.ret _,H2)=>if okEff ⟨put H.objs H.next (.loop T N ps.toList asg body .ready none),H.next+1⟩ (.glob H2) then
   match look H2.objs H.next with
   |some (.loop T0 N0 ps0 asg0 body0 .ready none)=>some (.normal,T,⟨put H2.objs H.next (.loop T0 N0 ps0 asg0 body0 .exhausted none),H2.next⟩)
   |some (.loop T0 N0 ps0 asg0 body0 .done (some c))=>rec c T ⟨put H2.objs H.next (.loop T0 N0 ps0 asg0 body0 .exhausted (some c)),H2.next⟩
   |_=>none
   else none
  |some (.pan v,H2)=>if okEff ⟨put H.objs H.next (.loop T N ps.toList asg body .ready none),H.next+1⟩ (.glob H2) then some (.pan v,[],H2) else none
  |none=>none
 |_=>none
def roundA (run:Nat->CodeRun) (n:Nat) (args:List AV) (H:Heap):Option (Out×Heap):=
 match look H.objs n with
 |some (.loop T N ps asg body .ready none)=>
  if args.length=ps.length/\ps.all (λp=>decide (p<N))=true then
   match run N asg (putsT T ps args) H with
   |some (.normal,T2,H2)=>match look H2.objs n with
    |some (.loop T' N' ps' asg' body' .ready none)=>match run N body T2 ⟨put H2.objs n (.loop T' N' ps' asg' body' .busy none),H2.next⟩ with
     |some (e,_,H3)=>match look H3.objs n with
      |some (.loop T4 N4 ps4 asg4 body4 .busy none)=>match e with
       |.normal=>some (.ret (.sc (.bool true)),⟨put H3.objs n (.loop T4 N4 ps4 asg4 body4 .ready none),H3.next⟩)
       |.ret=>some (.ret (.sc (.bool false)),⟨put H3.objs n (.loop T4 N4 ps4 asg4 body4 .done (some .ret)),H3.next⟩)
       |.exit id=>some (.ret (.sc (.bool false)),⟨put H3.objs n (.loop T4 N4 ps4 asg4 body4 .done (some (.exit id))),H3.next⟩)
       |.goto l=>some (.ret (.sc (.bool false)),⟨put H3.objs n (.loop T4 N4 ps4 asg4 body4 .done (some (.goto l))),H3.next⟩)
       |.pan _=>none
      |_=>none
     |none=>none
    |_=>none
   |_=>none
  else none
 |_=>none
def stepCode (tab:Tab) (hd:Hd) (N:Nat) (rd:Bool) (rec:CodeRun):CodeRun:=λc T H=>
 match c with
 |.skip=>some (.normal,T,H)
 |.label _=>some (.normal,T,H)
 |.region _ ops draw=>regionA tab hd N rd ops draw T H
 |.seq x y=>match rec x T H with
  |some (.normal,T',H')=>rec y T' H'
  |r=>r
 |.cond c x y=>match aev (look T) c with
  |some (.sc (.bool true))=>rec x T H
  |some (.sc (.bool false))=>rec y T H
  |_=>none
 |.block id x=>match rec x T H with
  |some (.exit id',T',H')=>if id'=id then some (.normal,T',H') else some (.exit id',T',H')
  |r=>r
 |.loop x=>match rec x T H with
  |some (.normal,T',H')=>rec (.loop x) T' H'
  |r=>r
 |.scope x=>match rec x T H with
  |some (.goto _,_,_)=>none
  |r=>r
 |.exit id=>some (.exit id,T,H)
 |.goto l=>some (.goto l,T,H)
 |.ret=>some (.ret,T,H)
 |.rangeFunc g ps asg body=>if rd then none else rangeA hd N rec g ps asg body T H
 |_=>none
def runCode (tab:Tab) (hd:Hd) (N:Nat) (rd:Bool) (fuel:Nat):CodeRun:=Nat.rec (λ_ _ _=>none) (λ_ r=>stepCode tab hd N rd r) fuel
theorem runCode_succ (tab:Tab) (hd:Hd) (N:Nat) (rd:Bool) (n:Nat):runCode tab hd N rd (n+1)=stepCode tab hd N rd (runCode tab hd N rd n):=rfl
structure HdOk (P:Program) (hd:Hd):Prop where
 call:∀i f args r,hd.call i f args=some r->Valid P f args r
 inl:∀i f args H r H',hd.inl i f args H=some (r,H')->Valid2 P f args H r H'
 own:∀i f args es s fz,hd.own i f args=some (es,s,fz)->ValidOwn P f args es s fz
 round:∀i n args H r H',hd.round i n args H=some (r,H')->Round2 P n args H r H'
 meth:∀t m f,hd.meth t m=some f->MethOK P t m f
variable {P:Program} {tab:Tab} {hd:Hd} {N n0:Nat} {k:FK}
theorem stepA_obs (ho:HdOk P hd) {i:Nat} {T:Tm} {H:Heap} {o:Oper} {rc:Rec} (h:stepA tab hd i T H o=some rc):∀ob∈rc.ob,ob.holdsY P:=by
 unfold stepA at h
 split at h
 ·rename_i f0 args0 obs hcal
  have hobs:∀ob∈obs,ob.holdsY P:=λob hob=>by
   rcases calleeOf_obs hcal with e | ⟨t,m,hm,e⟩
   ·grind
   ·rw [e] at hob
    simp only [List.mem_singleton] at hob
    rw [hob];exact ho.meth _ _ _ hm
  split at h
  ·split at h
   ·rename_i hr
    cases h
    intro ob hob
    rcases List.mem_cons.1 hob with rfl | hob
    ·exact ho.inl _ _ _ _ _ _ hr
    grind
   ·cases h
  ·split at h
   ·rename_i rc' hown
    cases h
    unfold ownA at hown
    split at hown
    ·split at hown
     ·split at hown
      ·rename_i hr
       cases hown
       intro ob hob
       rcases List.mem_cons.1 hob with rfl | hob
       ·exact ho.own _ _ _ _ _ _ hr
       simp_all
      grind
     grind
    grind
   split at h
   ·split at h
    ·rename_i hr
     cases h
     intro ob hob
     rcases List.mem_cons.1 hob with rfl | hob
     ·exact ho.call _ _ _ _ hr
     grind
    ·cases h
   ·cases h
 ·split at h
  ·split at h
   ·rename_i hr
    cases h
    intro ob hob
    simp only [List.mem_singleton] at hob
    subst hob
    exact ho.round _ _ _ _ _ _ hr
   ·cases h
  grind
theorem runOps_obs (ho:HdOk P hd) {ops:Array Oper}:∀(l:List Oper) (i:Nat) (T:TL) (H:Heap) (rr:RR) (recs:List Rec),runOps tab hd ops l i T H=some (rr,recs)->∀rc∈recs,∀ob∈rc.ob,ob.holdsY P
 |[],i,T,H,rr,recs,h=>by cases h;grind
 |o::r,i,T,H,rr,recs,h=>by
  simp only [runOps] at h
  split at h
  ·cases h
  ·split at h
   ·rename_i rr' rs hrun
    cases h
    intro rc hrc
    rcases List.mem_cons.1 hrc with rfl | hrc
    ·intro ob hob;cases hob
    ·exact runOps_obs ho r _ _ _ _ _ hrun rc hrc
   ·cases h
  ·split at h
   ·cases h
   ·rename_i rc0 hst
    split at h
    ·split at h
     ·split at h
      ·rename_i rr' rs hrun
       cases h
       intro rc hrc
       rcases List.mem_cons.1 hrc with rfl | hrc
       ·exact stepA_obs ho hst
       ·exact runOps_obs ho r _ _ _ _ _ hrun rc hrc
      ·cases h
     ·cases h
      intro rc hrc
      simp only [List.mem_singleton] at hrc
      subst hrc
      exact stepA_obs ho hst
    ·cases h
def exactly (e:AX) (T:TL) (H:Heap):Post:=λe' T' H'=>e'=e/\T'=T/\H'=H
theorem regionA_sound (tabOk:TabOK P tab) (hm:P.follows .mixedOrders=true) (ho:HdOk P hd) {rd:Bool} (hk:rd=false->k=.out) {id:Nat} {ops:Array Oper} {draw:Bool} {T T':TL} {H H':Heap} {e:AX} (h:regionA tab hd N rd ops draw T H=some (e,T',H')) :
 CW P k N n0 (.region id ops draw) T H (exactly e T' H'):=by
 have fits:∀{recs:List Rec},fitA H rd draw ops recs=true->(draw=true->drawOk H ops ops.toList recs=true)/\(k.isOut=true\/∀rc∈recs,noRound rc=true):=by
  intro recs hf
  simp only [fitA,Bool.and_eq_true,Bool.or_eq_true,Bool.not_eq_true'] at hf
  refine ⟨λh=>?_,?_⟩
  ·grind
  ·rcases hf.2 with q | q
   ·exact .inl (by rw [hk q];rfl)
   grind
 unfold regionA at h
 split at h
 ·rename_i hdst
  split at h
  ·rename_i hrun
   split at h
   ·rename_i hdr
    cases h
    exact CW.region tabOk hm hdst hrun (fits hdr).1 (runOps_obs ho _ _ _ _ _ _ hrun) (fits hdr).2 ⟨rfl,rfl,rfl⟩
   ·cases h
  ·rename_i hrun
   split at h
   ·rename_i hdr
    cases h
    exact CW.region tabOk hm hdst hrun (fits hdr).1 (runOps_obs ho _ _ _ _ _ _ hrun) (fits hdr).2 ⟨rfl,rfl,rfl⟩
   ·cases h
  ·cases h
 ·cases h
theorem loop_rounds {rd:Bool} {x:Code} {e:AX} {T':TL} {H':Heap} {M:Nat} (ih0:∀(n:Nat) (_:n<M) (T1 T2:TL) (H1 H2:Heap) (e1:AX),runCode tab hd N rd n x T1 H1=some (e1,T2,H2)->CW P k N n0 x T1 H1 (exactly e1 T2 H2)) :
 ∀(n:Nat) (_:n<=M) (T:TL) (H:Heap),runCode tab hd N rd n (.loop x) T H=some (e,T',H')->CW.rounds P k N n0 x (exactly e T' H') n T H:=by
 intro n
 induction n with
 |zero=>intro _ T H h;cases h
 |succ n ih=>
  intro hM T H h
  rw [runCode_succ] at h
  simp only [stepCode] at h
  split at h
  ·rename_i T1 H1 h1
   refine (ih0 n (by omega) _ _ _ _ _ h1).mono ?_
   rintro e2 T2 H2 ⟨rfl,rfl,rfl⟩
   exact ih (by omega) _ _ h
  ·rename_i r hne
   obtain ⟨e1,T1,H1⟩:AX×TL×Heap:=(e,T',H')
   refine (ih0 n (by omega) _ _ _ _ _ h).mono ?_
   rintro e2 T2 H2 ⟨rfl,rfl,rfl⟩
   cases e2<;>first | exact ⟨rfl,rfl,rfl⟩ | grind
theorem range_sound (ho:HdOk P hd) {rec:CodeRun} {g:Operand} {ps:Array Tmp} {asg body:Code} {T T':TL} {H H':Heap} {e:AX} (hrec:∀c T H T' H' e,rec c T H=some (e,T',H')->CW P .out N n0 c T H (exactly e T' H'))
 (h:rangeA hd N rec g ps asg body T H=some (e,T',H')):CW P .out N n0 (.rangeFunc g ps asg body) T H (exactly e T' H'):=by
 unfold rangeA at h
 split at h
 ·rename_i gf first caps hg
  split at h
  ·rename_i v H2 hin
   split at h
   ·rename_i hok
    refine CW.rangeFunc hg (ho.inl _ _ _ _ _ _ hin) hok ?_
    split at h
    ·rename_i T0 N0 ps0 asg0 body0 hn
     cases h
     exact ⟨_,_,_,_,_,_,_,hn,by simp,rfl,rfl,rfl⟩
    ·rename_i T0 N0 ps0 asg0 body0 c hn
     exact ⟨_,_,_,_,_,_,_,hn,by simp,hrec _ _ _ _ _ _ h⟩
    ·cases h
   ·cases h
  ·rename_i v H2 hin
   split at h
   ·rename_i hok
    cases h
    exact CW.rangeFunc hg (ho.inl _ _ _ _ _ _ hin) hok ⟨rfl,rfl,rfl⟩
   ·cases h
  ·cases h
 ·cases h
theorem runCode_sound (tabOk:TabOK P tab) (hm:P.follows .mixedOrders=true) (ho:HdOk P hd) {rd:Bool} (hk:rd=false->k=.out):∀(n:Nat) (c:Code) (T T':TL) (H H':Heap) (e:AX),runCode tab hd N rd n c T H=some (e,T',H')->CW P k N n0 c T H (exactly e T' H'):=by
 intro n
 induction n using Nat.strongRecOn with
 |_ n ihs=>
 cases n with
 |zero=>intro c T T' H H' e h;cases h
 |succ n=>
  have ihn:=ihs n (by omega)
  intro c
  cases c with
  |skip=>intro T T' H H' e h;cases h;exact CW.skip ⟨rfl,rfl,rfl⟩
  |label l=>intro T T' H H' e h;cases h;exact CW.label ⟨rfl,rfl,rfl⟩
  |exit l=>intro T T' H H' e h;cases h;exact CW.exit ⟨rfl,rfl,rfl⟩
  |goto l=>intro T T' H H' e h;cases h;exact CW.goto ⟨rfl,rfl,rfl⟩
  |ret=>intro T T' H H' e h;cases h;exact CW.ret ⟨rfl,rfl,rfl⟩
  |refuse w=>intro T T' H H' e h;cases h
  |rangeFunc g ps x y=>
   intro T T' H H' e h
   rw [runCode_succ] at h
   simp only [stepCode] at h
   grind [range_sound]
  |region id ops draw=>intro T T' H H' e h;exact regionA_sound tabOk hm ho hk h
  |seq x y=>
   intro T T' H H' e h
   rw [runCode_succ] at h
   simp only [stepCode] at h
   split at h
   ·rename_i T1 H1 h1
    refine CW.seq ((ihn x _ _ _ _ _ h1).mono ?_)
    rintro e2 T2 H2 ⟨rfl,rfl,rfl⟩
    exact ihn y _ _ _ _ _ h
   ·rename_i hne
    refine CW.seq ((ihn x _ _ _ _ _ h).mono ?_)
    rintro e2 T2 H2 ⟨rfl,rfl,rfl⟩
    cases e2<;>first | exact ⟨rfl,rfl,rfl⟩ | grind
  |cond c x y=>
   intro T T' H H' e h
   rw [runCode_succ] at h
   simp only [stepCode] at h
   grind [CW.cond]
  |block id x=>
   intro T T' H H' e h
   rw [runCode_succ] at h
   simp only [stepCode] at h
   split at h
   ·rename_i id' T1 H1 h1
    refine CW.block ((ihn x _ _ _ _ _ h1).mono ?_)
    rintro e2 T2 H2 ⟨rfl,rfl,rfl⟩
    simp only [blockP]
    split at h
    ·rename_i hid;cases h;rw [if_pos hid];exact ⟨rfl,rfl,rfl⟩
    ·rename_i hid;cases h;rw [if_neg hid];exact ⟨rfl,rfl,rfl⟩
   ·rename_i hne
    refine CW.block ((ihn x _ _ _ _ _ h).mono ?_)
    rintro e2 T2 H2 ⟨rfl,rfl,rfl⟩
    cases e2<;>first | exact ⟨rfl,rfl,rfl⟩ | grind
  |loop x=>
   intro T T' H H' e h
   exact CW.loop (n+1) (loop_rounds (M:=n+1) (λm hm T1 T2 H1 H2 e1 h=>ihs m hm x T1 T2 H1 H2 e1 h) (n+1) (Nat.le_refl _) T H h)
  |scope x=>
   intro T T' H H' e h
   rw [runCode_succ] at h
   simp only [stepCode] at h
   split at h
   ·cases h
   ·rename_i hne
    refine CW.scope ((ihn x _ _ _ _ _ h).mono ?_)
    rintro e2 T2 H2 ⟨rfl,rfl,rfl⟩
    cases e2<;>first | exact ⟨rfl,rfl,rfl⟩ | grind
structure Evs where
 c1:FuncId->List AV->Option Out
 c2:FuncId->List AV->Heap->Option (Out×Heap)
 c3:FuncId->List AV->Option (List (List AV)×Nat×Nat)
 c4:Nat->List AV->Heap->Option (Out×Heap)
def hdOf (E:Env) (r:Evs):Hd:=⟨λ_=>r.c1,λ_=>r.c2,λ_=>E.isInl,λ_=>r.c3,λ_=>E.isOwn,λ_=>r.c4,E.meth⟩
def out1 (tab:Tab) (d:FnD):AX×TL×Heap->Option Out
 |(.normal,T,H) | (.ret,T,H)=>match resA tab T H d.results with
  |some v=>match viewA H 12 v with
   |some (x,_)=>some (.ret x)
   |none=>none
  |none=>none
 |(.pan v,_,H)=>match viewA H 12 v with
  |some (x,_)=>some (.pan x)
  |none=>none
 |_=>none
def out2 (tab:Tab) (d:FnD):AX×TL×Heap->Option (Out×Heap)
 |(.normal,T,H) | (.ret,T,H)=>match resA tab T H d.results with
  |some v=>some (.ret v,H)
  |none=>none
 |(.pan v,_,H)=>some (.pan v,H)
 |_=>none
def outO (tab:Tab) (d:FnD):AX×TL×Heap->Option (List (List AV)×Nat×Nat)
 |(.normal,T,H) | (.ret,T,H)=>match resA tab T H d.results with
  |some (.sl n g 0 g' _)=>match look H.objs n with
   |some (.cells es0 s fz)=>match viewLists (viewA H 12) es0 with
    |some (es,ns)=>if g=g'/\es0.length=g/\n∉ns then some (es,s,fz) else none
    |none=>none
   |_=>none
  |_=>none
 |_=>none
def stepEv (E:Env) (fuel:Nat) (r:Evs):Evs where
 c1 f args:=match E.spec f args r.c1 with
  |some o=>some o
  |none=>match E.fn f with
   |some d=>if args.length<=d.ntmps then (match runCode E.tab (hdOf E r) d.ntmps false fuel d.body (argT 0 args) ⟨[],0⟩ with | some x=>out1 E.tab d x | none=>none) else none
   |none=>none
 c2 f args H:=match E.spec2 f args H r.c2 with
  |some o=>some o
  |none=>match E.fn f with
   |some d=>if args.length<=d.ntmps then (match runCode E.tab (hdOf E r) d.ntmps false fuel d.body (argT 0 args) H with | some x=>out2 E.tab d x | none=>none) else none
   |none=>none
 c3 f args:=match E.fn f with
  |some d=>if args.length<=d.ntmps then (match runCode E.tab (hdOf E r) d.ntmps false fuel d.body (argT 0 args) ⟨[],0⟩ with | some x=>outO E.tab d x | none=>none) else none
  |none=>none
 c4:=roundA (λN=>runCode E.tab (hdOf E r) N true fuel)
def ev (E:Env) (fuel n:Nat):Evs:=Nat.rec ⟨λ_ _=>none,λ_ _ _=>none,λ_ _=>none,λ_ _ _=>none⟩ (λ_ r=>stepEv E fuel r) n
def FnOK (P : Program) (f : FuncId) (d : FnD) : Prop := ∃ fn, P.funcs[f]? = some fn /\ fn.body = some d.body /\ fn.ntmps = d.ntmps /\ fn.results.toList = d.results /\ (fn.name == "runtime.NumGoroutine") = false
structure EnvOK (P:Program) (E:Env):Prop where
 meth:∀t m f,E.meth t m=some f->MethOK P t m f
 tab:TabOK P E.tab
 mixed:P.follows .mixedOrders=true
 fn:∀f d,E.fn f=some d->FnOK P f d
 spec:∀c1,(∀f args r,c1 f args=some r->Valid P f args r)->∀f args r,E.spec f args c1=some r->Valid P f args r
 spec2:∀c2,(∀f args H r H',c2 f args H=some (r,H')->Valid2 P f args H r H')->∀f args H r H',E.spec2 f args H c2=some (r,H')->Valid2 P f args H r H'
theorem out1_ends {d:FnD} {e:AX} {T:TL} {H:Heap} {r:Out} (h:out1 tab d (e,T,H)=some r):∀e' T' H',exactly e T H e' T' H'->ends1 tab d.results r e' T' H':=by
 rintro e' T' H' ⟨rfl,rfl,rfl⟩
 cases e'<;>simp only [out1] at h<;>simp only [ends1]
 case normal | ret=>
  grind
 case pan v=>
  grind
 all_goals cases h
theorem out2_ends {d:FnD} {e:AX} {T:TL} {H H1:Heap} {r:Out} (h:out2 tab d (e,T,H)=some (r,H1)):∀e' T' H',exactly e T H e' T' H'->ends2 tab d.results r H1 e' T' H':=by
 rintro e' T' H' ⟨rfl,rfl,rfl⟩
 cases e'<;>simp only [out2] at h<;>simp only [ends2]
 case normal | ret=>
  grind
 case pan v=>grind
 all_goals cases h
theorem outO_ends {d:FnD} {e:AX} {T:TL} {H:Heap} {es:List (List AV)} {s fz:Nat} (h:outO tab d (e,T,H)=some (es,s,fz)):∀e' T' H',exactly e T H e' T' H'->endsO tab d.results es s fz e' T' H':=by
 rintro e' T' H' ⟨rfl,rfl,rfl⟩
 cases e'<;>simp only [outO] at h<;>simp only [endsO]
 case normal | ret=>
  grind
 all_goals cases h
theorem round_sound (tabOk:TabOK P tab) (hm:P.follows .mixedOrders=true) (ho:HdOk P hd) {fuel n:Nat} {args:List AV} {H H':Heap} {r:Out} (h:roundA (λN=>runCode tab hd N true fuel) n args H=some (r,H')):Round2 P n args H r H':=by
 unfold roundA at h
 split at h
 ·rename_i T N ps asg body hn
  split at h
  ·rename_i hc
   obtain ⟨hlen,hps⟩:=hc
   split at h
   ·rename_i T2 H2 h1
    split at h
    ·rename_i T' N' ps' asg' body' hn2
     split at h
     ·rename_i e T3 H3 h2
      refine round_of hn hlen (λp hp=>of_decide_eq_true ((List.all_eq_true.1 hps) p hp)) λl=>?_
      refine (runCode_sound (k:=.rnd l) tabOk hm ho (λh=>by (cases h)) fuel _ _ _ _ _ _ h1).mono ?_
      rintro e1 T1 H1 ⟨rfl,rfl,rfl⟩
      refine ⟨rfl,T',N',ps',asg',body',hn2,?_⟩
      refine (runCode_sound (k:=.rnd l) tabOk hm ho (λh=>by (cases h)) fuel _ _ _ _ _ _ h2).mono ?_
      rintro e1 T1 H1 ⟨rfl,rfl,rfl⟩
      split at h
      ·rename_i T4 N4 ps4 asg4 body4 hn3
       refine ⟨T4,N4,ps4,asg4,body4,hn3,?_⟩
       grind
      ·cases h
     ·cases h
    ·cases h
   ·cases h
  ·cases h
 ·cases h
theorem ev_sound {E:Env} (ok:EnvOK P E) (fuel:Nat):∀n,HdOk P (hdOf E (ev E fuel n))
 |0=>⟨λ_ _ _ _ h=>by (cases h),λ_ _ _ _ _ _ h=>by (cases h),λ_ _ _ _ _ _ h=>by (cases h),λ_ _ _ _ _ _ h=>by (cases h),λ_ _ _ h=>ok.meth _ _ _ h⟩
 |n+1=>by
  have ih:=ev_sound ok fuel n
  refine ⟨λi f args r h=>?_,λi f args H r H' h=>?_,λi f args es s fz h=>?_,λ_ n args H r H' h=>round_sound ok.tab ok.mixed ih h,λ_ _ _ h=>ok.meth _ _ _ h⟩
  ·change (stepEv E fuel (ev E fuel n)).c1 f args=some r at h
   simp only [stepEv] at h
   split at h
   ·rename_i hs;cases h;exact ok.spec _ (ih.call 0) _ _ _ hs
   ·split at h
    ·rename_i d hd
     split at h
     ·rename_i hlen
      split at h
      ·rename_i x hx
       obtain ⟨e,T',H'⟩:=x
       obtain ⟨fn,h1,h2,h3,h4,h5⟩:=ok.fn f d hd
       refine valid_of ok.tab h1 h2 h5 (by omega) ?_
       rw [h3,h4]
       exact (runCode_sound ok.tab ok.mixed ih (λ_=>rfl) fuel _ _ _ _ _ _ hx).mono (out1_ends h)
      ·cases h
     ·cases h
    ·cases h
  ·change (stepEv E fuel (ev E fuel n)).c2 f args H=some (r,H') at h
   simp only [stepEv] at h
   split at h
   ·rename_i hs;cases h;exact ok.spec2 _ (ih.inl 0) _ _ _ _ _ hs
   ·split at h
    ·rename_i d hd
     split at h
     ·rename_i hlen
      split at h
      ·rename_i x hx
       obtain ⟨e,T',H'⟩:=x
       obtain ⟨fn,h1,h2,h3,h4,h5⟩:=ok.fn f d hd
       refine valid2_of ok.tab h1 h2 h5 (by omega) ?_
       rw [h3,h4]
       exact (runCode_sound ok.tab ok.mixed ih (λ_=>rfl) fuel _ _ _ _ _ _ hx).mono (out2_ends h)
      ·cases h
     ·cases h
    ·cases h
  ·change (stepEv E fuel (ev E fuel n)).c3 f args=some (es,s,fz) at h
   simp only [stepEv] at h
   split at h
   ·rename_i d hd
    split at h
    ·rename_i hlen
     split at h
     ·rename_i x hx
      obtain ⟨e,T',H'⟩:=x
      obtain ⟨fn,h1,h2,h3,h4,h5⟩:=ok.fn f d hd
      refine validOwn_of ok.tab h1 h2 h5 (by omega) ?_
      rw [h3,h4]
      exact (runCode_sound ok.tab ok.mixed ih (λ_=>rfl) fuel _ _ _ _ _ _ hx).mono (outO_ends h)
     ·cases h
    ·cases h
   ·cases h
theorem ev_valid {E:Env} (ok:EnvOK P E) {fuel n:Nat} {f:FuncId} {args:List AV} {r:Out} (h:(ev E fuel n).c1 f args=some r):Valid P f args r:=(ev_sound ok fuel n).call 0 f args r h
end Go.Abs
end
section
namespace Go.Abs
inductive Tr (α:Type) where
 |nil
 |node (a:α) (l r:Tr α)
def Tr.get {α:Type}:Tr (Option α)->Nat->Option α
 |.nil,_=>none
 |.node a l r,n=>bif Nat.beq n 0 then a else bif Nat.beq (n % 2) 1 then l.get (n / 2) else r.get (n / 2-1)
def mkTr {α:Type} (f:Nat->α):Nat->Nat->Nat->Tr α
 |0,_,_=>.nil
 |k+1,lo,st=>.node (f lo) (mkTr f k (lo+st) (2*st)) (mkTr f k (lo+2*st) (2*st))
theorem mkTr_get {α:Type} (f:Nat->Option α):∀(k lo st n:Nat) (x:α),(mkTr f k lo st).get n=some x->f (lo+n*st)=some x
 |0,_,_,_,_,h=>by cases h
 |k+1,lo,st,n,x,h=>by
  simp only [mkTr,Tr.get] at h
  by_cases e:n=0
  ·subst e;simpa using h
  ·have e':Nat.beq n 0=false:=by
    cases hq:Nat.beq n 0 with
    |false=>rfl
    |true=>exact absurd (Nat.eq_of_beq_eq_true hq) e
   rw [e'] at h
   simp only [cond_false] at h
   cases hq:Nat.beq (n % 2) 1 with
   |true=>
    rw [hq] at h
    simp only [cond_true] at h
    have hm:=Nat.eq_of_beq_eq_true hq
    have:=mkTr_get f k _ _ _ _ h
    rw [<-this]
    congr 1
    have h2:n=2*(n / 2)+1:=by omega
    generalize n / 2=m at h2
    subst h2
    rw [Nat.add_mul,Nat.mul_comm 2 m,Nat.mul_assoc]
    omega
   |false=>
    rw [hq] at h
    simp only [cond_false] at h
    have hm:n % 2≠1:=λq=>by rw [q] at hq;cases hq
    have:=mkTr_get f k _ _ _ _ h
    rw [<-this]
    congr 1
    have h2:n=2*(n / 2-1)+2:=by omega
    generalize n / 2-1=m at h2
    subst h2
    rw [Nat.add_mul,Nat.mul_comm 2 m,Nat.mul_assoc]
    omega
def kindOf (P:Program):TypeDesc->Option TyK
 |.int k=>some (.int k)
 |.string=>some .str
 |.bool=>some .bool
 |.struct fs=>if fs.toList.all (λf=>(P.info? f.type).isSome) then some (.strct (fs.toList.map λf=>(f.offset,f.type))) else none
 |.array n e=>some (.arr n e)
 |.slice e=>some (.slice e)
 |.map k e=>some (.map k e)
 |.pointer _=>some .ptr
 |.interface _=>some .iface
 |u=>if u.isRow then none else some .other
def flatF (P:Program):List Field->Nat->Option (List TyK)
 |[],_=>some []
 | f :: fs, i => if f.offset = i /\ (f.name == "_") = false then
     match P.underlying f.type,flatF P fs (i+1) with
     |some (.int k),some ks=>some (.int k::ks)
     |some .string,some ks=>some (.str::ks)
     |some .bool,some ks=>some (.bool::ks)
     |_,_=>none
  else none
def flatOf (P:Program) (t:TypeId):TypeDesc->Option (List TyK)
 |.struct fs=>if P.stoodInHeld t=false/\P.eqGuardType P.depth t=false then flatF P fs.toList 0 else none
 |_=>none
def isAggV:Value->Bool
 |.agg _=>true
 |_=>false
def tabOf (P:Program) (t:TypeId):Option TyD:=
 match P.info? t,P.underlying t with
 |some i,some u=>match i.zero,kindOf P u with
  |some z,some k=>if z.cells.toList.all scalarB&&(z.cells.toList.length==i.size)&&(isAggV z==TyD.isAgg ⟨k,0,0,[],none⟩) then
   some ⟨k,i.size,i.bytes,z.cells.toList,flatOf P t u⟩ else none
  |_,_=>none
 |_,_=>none
theorem kindOf_ok {P:Program} {t:TypeId} {u:TypeDesc} {k:TyK} (hu:P.underlying t=some u) (h:kindOf P u=some k):KOK P t k:=by
 cases u<;>simp only [kindOf] at h
 case struct fs=>
  split at h
  ·rename_i hall
   cases h
   exact ⟨fs,hu,rfl,λf hf=>(List.all_eq_true.1 hall) f hf⟩
  ·cases h
 all_goals first
  |(cases h;exact hu)
  |(cases h;exact ⟨_,hu⟩)
  |(split at h
    ·cases h
    ·rename_i hr
     cases h
     exact ⟨_,hu,by first | (simp;done) | (simpa using hr)⟩)
def fitU:TypeDesc->TyK->Bool
 |.int a,.int b=>decide (a=b)
 |.string,.str=>true
 |.bool,.bool=>true
 |_,_=>false
theorem run_isAgg_of {P:Program} {t:TypeId} {u:TypeDesc} {k:TyK} (hu:P.underlying t=some u) (h:fitU u k=true) (w:World):(isAgg t).run P w=.ok false w:=by
 unfold isAgg
 cases u<;>simp_all [run_under hu,fitU]
theorem run_equal_cell {P:Program} {t:TypeId} {u:TypeDesc} {k:TyK} (hu:P.underlying t=some u) (hk:fitU u k=true) {x y:Value} {b:Bool} (hf:fitK k x=true) (hs:sameKey x y=some b) (d:Nat) (w:World) :
 (Op.equalIn (d+1) t x y).run P w=.ok b w:=by
 cases k<;>cases u<;>simp only [fitU,Bool.false_eq_true] at hk
 case int.int=>
  cases x<;>simp only [fitK,Bool.false_eq_true] at hf
  cases y<;>simp only [sameKey,reduceCtorEq] at hs
  split at hs
  ·rename_i e
   subst e
   cases hs
   simp only [Op.equalIn,Sem.run_bind,run_under hu,Result.andThen_ok]
   simp
  ·cases hs
 case str.string=>
  cases x<;>simp only [fitK,Bool.false_eq_true] at hf
  cases y<;>simp only [sameKey,reduceCtorEq] at hs
  cases hs
  simp only [Op.equalIn,Sem.run_bind,run_under hu,Result.andThen_ok]
  simp
 case bool.bool=>
  cases x<;>simp only [fitK,Bool.false_eq_true] at hf
  cases y<;>simp only [sameKey,reduceCtorEq] at hs
  cases hs
  simp only [Op.equalIn,Sem.run_bind,run_under hu,Result.andThen_ok]
  simp
theorem flat_loop {P:Program} {xs ys:Array Value} (d:Nat):∀(fs:List Field) (i:Nat) (ks:List TyK) (as bs:List Value) (b:Bool),flatF P fs i=some ks->eqVals ks as bs=some b->(∀j,xs[i+j]?=as[j]?)->(∀j,ys[i+j]?=bs[j]?)->∀w:World,
 (forIn fs ((none, ()) : Option Bool × Unit) λf __s => (if f.name ≠ "_" then do
           let __do_lift <-part f.type xs f.offset
           let __do_lift_1 <-part f.type ys f.offset
           let __do_lift <-Op.equalIn (d+1) f.type __do_lift __do_lift_1
           if (!__do_lift)=true then pure (ForInStep.done (some false,())) else pure (ForInStep.yield (none,()))
   else pure (ForInStep.yield (none,())):Sem (ForInStep (Option Bool×Unit)))).run P w=.ok (if b then none else some false,()) w
 |[],i,ks,as,bs,b,h1,h2,_,_,w=>by
  cases h1
  cases as<;>cases bs<;>simp only [eqVals,reduceCtorEq] at h2
  cases h2
  simp
 |f::fs,i,ks,as,bs,b,h1,h2,hx,hy,w=>by
  simp only [flatF] at h1
  split at h1
  rotate_left
  ·cases h1
  rename_i hc
  obtain ⟨ho,hn⟩:=hc
  have hn' : f.name ≠ "_" := λe => by rw [e] at hn; simp at hn
  have key:∀(u:TypeDesc) (k:TyK) (ks':List TyK),P.underlying f.type=some u->flatF P fs (i+1)=some ks'->fitU u k=true->
   eqVals (k::ks') as bs=some b->
   (forIn (f :: fs) ((none, ()) : Option Bool × Unit) λf __s => (if f.name ≠ "_" then do
     let __do_lift <-part f.type xs f.offset
     let __do_lift_1 <-part f.type ys f.offset
     let __do_lift <-Op.equalIn (d+1) f.type __do_lift __do_lift_1
     if (!__do_lift)=true then pure (ForInStep.done (some false,())) else pure (ForInStep.yield (none,()))
     else pure (ForInStep.yield (none,())):Sem (ForInStep (Option Bool×Unit)))).run P w=.ok (if b then none else some false,()) w:=by
   intro u k ks' hu hfl hk he
   cases as with
   |nil=>simp only [eqVals,reduceCtorEq] at he
   |cons a as=>
   cases bs with
   |nil=>simp only [eqVals,reduceCtorEq] at he
   |cons c bs=>
   simp only [eqVals] at he
   split at he
   ·rename_i hf
    split at he
    ·rename_i x y hs hr
     cases he
     have hpx:(part f.type xs f.offset).run P w=.ok a w:=by
      have:=hx 0
      simp at this
      unfold part
      simp only [Sem.run_bind,run_isAgg_of hu hk,Result.andThen_ok,Bool.false_eq_true,if_false,ho]
      rw [this]
      simp
     have hpy:(part f.type ys f.offset).run P w=.ok c w:=by
      have:=hy 0
      simp at this
      unfold part
      simp only [Sem.run_bind,run_isAgg_of hu hk,Result.andThen_ok,Bool.false_eq_true,if_false,ho]
      rw [this]
      simp
     have ih:=flat_loop d fs (i+1) ks' as bs y hfl hr (λj=>by have:=hx (j+1);rw [show i+1+j=i+(j+1) by omega];simpa using this) (λj=>by have:=hy (j+1);rw [show i+1+j=i+(j+1) by omega];simpa using this) w
     rw [List.forIn_cons]
     simp only [if_pos hn',Sem.run_bind,hpx,hpy,Result.andThen_ok,run_equal_cell hu hk hf hs d w]
     cases x with
     |true=>
      simp only [Bool.not_true,Bool.false_eq_true,if_false,Sem.run_pure,Result.andThen_ok,Bool.true_and]
      exact ih
     |false=>simp
    ·cases he
   ·cases he
  split at h1
  ·rename_i k ks' hu hfl
   cases h1
   exact key _ _ _ hu hfl (by simp [fitU]) h2
  ·rename_i ks' hu hfl
   cases h1
   exact key _ _ _ hu hfl rfl h2
  ·rename_i ks' hu hfl
   cases h1
   exact key _ _ _ hu hfl rfl h2
  ·cases h1
theorem flatOf_ok {P:Program} {t:TypeId} {u:TypeDesc} (hu:P.underlying t=some u) {ks:List TyK} (h:flatOf P t u=some ks):FlatEq P t ks:=by
 cases u<;>simp only [flatOf,reduceCtorEq] at h
 case struct fs=>
  split at h
  ·rename_i hc
   refine ⟨hc.2,λxs ys b he w=>?_⟩
   unfold Op.equal Op.maxDepth
   rw [show (10000:Nat)=9999+1 from rfl,Op.equalIn]
   simp only [Sem.run_bind,run_under hu,Result.andThen_ok,run_program,hc.1,Bool.false_eq_true,if_false,Sem.run_pure]
   have:=flat_loop (P:=P) (xs:=xs.toArray) (ys:=ys.toArray) 9998 fs.toList 0 ks xs ys b h he (λj=>by simp) (λj=>by simp) w
   rw [<-Array.forIn_toList]
   simp only [show (9999:Nat)=9998+1 from rfl]
   rw [this]
   cases b<;>simp
  ·cases h
theorem tabOf_ok (P:Program):TabOK P (tabOf P):=by
 intro t d h
 unfold tabOf at h
 split at h
 ·rename_i i u hi hu
  split at h
  ·rename_i z k hz hk
   split at h
   ·rename_i hc
    cases h
    simp only [Bool.and_eq_true,beq_iff_eq] at hc
    obtain ⟨⟨h1,h2⟩,h3⟩:=hc
    have hag:∀(a b c:Nat) (l:List Value) (f:Option (List TyK)),TyD.isAgg ⟨k,a,b,l,f⟩=isAggV z:=λa b c l f=>by
     rw [h3];cases k<;>rfl
    refine ⟨⟨i,z,hi,rfl,rfl,hz,rfl,λhh=>?_,λhh=>?_⟩,kindOf_ok hu hk,h1,h2,λks hf=>flatOf_ok hu hf⟩
    ·rw [hag _ _ 0] at hh
     cases z<;>simp_all [isAggV,Value.cells]
    ·rw [hag _ _ 0] at hh
     cases z<;>simp_all [isAggV,Value.cells]
   ·cases h
  ·cases h
 ·cases h
def fnOf (P:Program) (f:FuncId):Option FnD:=
 match P.funcs[f]? with
 |some fn=>match fn.body with
  |some b=>some ⟨fn.ntmps,fn.results.toList,b⟩
  |none=>none
 |none=>none
def tabT (P:Program):Tab:=(mkTr (tabOf P) 10 0 1).get
def fnT (P:Program):FuncId->Option FnD:=(mkTr (fnOf P) 10 0 1).get
theorem tabT_ok (P:Program):TabOK P (tabT P):=λt d h=>tabOf_ok P t d (by simpa using mkTr_get _ _ _ _ _ _ h)
theorem fnT_ok {P : Program} (hn : P.funcs.toList.all (λfn => !(fn.name == "runtime.NumGoroutine")) = true) {f : FuncId} {d : FnD} (h : fnT P f = some d) : FnOK P f d := by
 have h:fnOf P f=some d:=by simpa using mkTr_get _ _ _ _ _ _ h
 unfold fnOf at h
 split at h
 ·rename_i fn hf
  split at h
  ·rename_i b hb
   cases h
   refine ⟨fn,hf,hb,rfl,rfl,?_⟩
   have:=(List.all_eq_true.1 hn) fn (by simpa using Array.mem_of_getElem? hf)
   simpa using this
  ·cases h
 ·cases h
end Go.Abs
end
section
namespace Go.Abs
noncomputable section
inductive WV where
 |sc (x:Value)
 |agg (cs:List WV)
 |tup (vs:List WV)
 |lst (es:List (List WV))
 |row (n:Nat)
 |box (n fo:Nat)
 |elt (n i fo:Nat)
 |ipt (cs:List WV)
 |win (n lo len:Nat) (cp:Bool)
 |fn (f:FuncId) (first caps:List WV)
 |fnp (f:FuncId) (first caps:List WV)
 |mp (n:Nat)
 |imb (G:Value->AV->Prop)
 |yld (n:Nat)
 |ifc (t:TypeId) (v:WV)
 |lsc (es:List (List WV))
 |pin (x:AV)
 deriving Inhabited
structure LoopD where
 b:Nat
 Tc:TL
 N:Nat
 ps:List Tmp
 asg:Code
 body:Code
inductive WO where
 |box (cs:List WV) (fz:Bool)
 |row (es:List (List WV)) (s:Nat) (fz:Bool) (rt:Nat)
 |set (ks:List Value) (V:Value->Prop)
 |bag (G:Value->AV->Prop) (fz:Bool) (pe:List (Nat×Value))
 |loop (D:LoopD) (T:List (Nat×WV)) (st:LoopState) (pend:Option Code)
 |frm (T:List (Nat×WV)) (Tc:TL)
 deriving Inhabited
abbrev WT:=List (Nat×WV)
structure WH where
 objs:List (Nat×WO)
 nx:Nat
 deriving Inhabited
def lk {α:Type} (l:List (Nat×α)) (n:Nat):Option α:=List.rec none (λp _ ih=>match p with | (m,a)=>bif Nat.beq m n then some a else ih) l
def rmv {α:Type} (l:List (Nat×α)) (n:Nat):List (Nat×α):=List.rec [] (λp _ ih=>match p with | (m,a)=>bif Nat.beq m n then ih else (m,a)::ih) l
def forceN (n:Nat) (K:Nat->Prop):Prop:=Nat.rec (motive:=λ_=>Prop) (K 0) (λm _=>K m) (Nat.add n 1)
def forceC {α:Type} (cs:List α):(List α->Prop)->Prop:=List.rec (motive:=λ_=>(List α->Prop)->Prop) (λK=>K []) (λx _ ih K=>ih λys=>K (x::ys)) cs
def undefW:WV:=.sc (.tuple #[])
def ofConstW:Value->Option WV
 |.agg cs=>bif cs.all scalarB then some (.agg (cs.toList.map .sc)) else none
 |v=>bif scalarB v then some (.sc v) else none
def evW (T:WT):Operand->Option WV
 |.tmp t=>lk T t
 |.const v=>ofConstW v
 |.func f=>some (.fnp f [] [])
 |_=>none
def cellW:WV->WV
 |.sc (.slice none 0 0)=>.lst []
 |v=>v
def cellsW:WV->Option (List WV)
 |.agg cs=>some cs
 |.tup _=>none
 |.win _ _ _ _=>none
 |.yld _=>none
 |.ifc _ _=>none
 |.lsc _=>none
 |.sc (.tuple _)=>none
 |.sc (.agg _)=>none
 |v=>some [cellW v]
def zeroW (d:TyD):List WV:=d.zero.map λv=>cellW (.sc v)
def zeroN (d:TyD) (k:Nat):List WV:=d.zero.zipIdx.map λp=>bif Nat.beq p.2 k then .sc p.1 else cellW (.sc p.1)
def takeW (n:Nat) (cs:List WV):List WV:=bif Nat.beq n cs.length then cs else cs.take n
def dropW (n:Nat) (cs:List WV):List WV:=match n with
 |0=>cs
 |n+1=>cs.drop (n+1)
def ofCellsW (d:TyD) (cs:List WV):Option WV:=
 bif Nat.beq cs.length d.size then (match d.isAgg with | true=>some (.agg cs) | false=>match cs with | [v]=>some v | _=>none) else none
def spliceW (cs:List WV) (at_:Nat) (new:List WV):List WV:=bif Nat.beq new.length cs.length&&Nat.beq at_ 0 then new else cs.take at_++(new++cs.drop (at_+new.length))
def storableW:WV->Bool
 |.sc (.tuple _) | .agg _ | .tup _ | .win _ _ _ _ | .yld _ | .ifc _ _ | .lsc _=>false
 |_=>true
def fillW (place:Nat->Option (Nat×Nat)):List (Nat×WV)->List WV->Option (List WV)
 |[],cells=>some cells
 |(i,v)::rest,cells=>
  match place i,cellsW v with
  |some (off,size),some cs=>bif Nat.beq cs.length size&&Nat.ble (off+size) cells.length then fillW place rest (spliceW cells off cs) else none
  |_,_=>none
def fillC (place:Nat->Option (Nat×Nat)):List (Nat×WV)->List WV->(List WV->Prop)->Prop
 |[],cells,K=>K cells
 |(i,v)::rest,cells,K=>
  match place i,cellsW v with
  |some (off,size),some cs=>bif Nat.beq cs.length size&&Nat.ble (off+size) cells.length then forceC (spliceW cells off cs) λys=>fillC place rest ys K else False
  |_,_=>False
def setW (s:Nat):List (Nat×WV)->List (List WV)->Option (List (List WV))
 |[],es=>some es
 |(i,v)::rest,es=>
  match cellsW v with
  |some cs=>bif Nat.beq cs.length s&&Nat.blt i es.length then setW s rest (es.set i cs) else none
  |none=>none
structure WE where
 rd:List Nat
 wr:List Nat
abbrev WK:=WV->WH->WE->Prop
def both (b:Bool) (X Y:Prop):Prop:=Bool.rec (motive:=λ_=>Prop) Y X b
theorem bothT {X Y:Prop} (h:both true X Y):X:=h
theorem bothF {X Y:Prop} (h:both false X Y):Y:=h
theorem br {b:Bool} {X Y:Prop} (h1:b=true->X) (h2:b=false->Y):Bool.rec (motive:=λ_=>Prop) Y X b:=by
 cases b
 ·grind
 grind
def leafB:WV->Bool
 |.sc (.tuple _)=>false
 |.sc _ | .lst _ | .ipt _ | .imb _ | .fnp _ [] [] | .pin _=>true
 |_=>false
def leafs (es:List (List WV)):Prop:=∀e∈es,e.all leafB=true
mutual
inductive PR:WV->AV->Prop
 |sc {x:Value}:PR (.sc x) (.sc x)
 |agg {cs:List WV} {xs:List AV} (h:PRs cs xs):PR (.agg cs) (.agg xs)
 |tup {cs:List WV} {xs:List AV} (h:PRs cs xs):PR (.tup cs) (.tup xs)
 |emp:PR (.lst []) (.sc (.slice none 0 0))
 |lst {es:List (List WV)} {xs:List (List AV)} {c:Bool} (h:PRss es xs):PR (.lst es) (.isl xs c)
 |ipt {cs:List WV} {xs:List AV} (h:PRs cs xs):PR (.ipt cs) (.ipt xs)
 |imb {G:Value->AV->Prop} {ks:List Value} {vs:List AV} (hl:vs.length=ks.length) (h:∀(i:Nat) k x,ks[i]?=some k->vs[i]?=some x->G k x):PR (.imb G) (.imp ks vs)
 |fnp {f:FuncId} {a b:List WV} {xs ys:List AV} (ha:PRs a xs) (hb:PRs b ys) (hl:a.all leafB=true) (hm:b.all leafB=true):PR (.fnp f a b) (.fn (.func f) xs ys)
 |ifc {t:TypeId} {v:WV} {x:AV} (h:PR v x):PR (.ifc t v) (.ifc t x)
 |lsc {es:List (List WV)} {xs:List (List AV)} (h:PRss es xs):PR (.lsc es) (.isl xs true)
 |lsc0:PR (.lsc []) (.sc (.slice none 0 0))
 |pin {es:List (List WV)} {x:AV} (h:PR (.lst es) x):PR (.pin x) x
inductive PRs:List WV->List AV->Prop
 |nil:PRs [] []
 |cons {c:WV} {cs:List WV} {x:AV} {xs:List AV} (h:PR c x) (hs:PRs cs xs):PRs (c::cs) (x::xs)
inductive PRss:List (List WV)->List (List AV)->Prop
 |nil:PRss [] []
 |cons {c:List WV} {cs:List (List WV)} {x:List AV} {xs:List (List AV)} (h:PRs c x) (hs:PRss cs xs):PRss (c::cs) (x::xs)
end
def WValidP (P:Program) (f:FuncId) (args:List WV) (G:WV->Prop) (Gp:AV->Prop):Prop:=∀xs,PRs args xs->(∃r x,PR r x/\G r/\Valid P f xs (.ret x))\/∃v,Gp v/\Valid P f xs (.pan v)
def WValid (P:Program) (f:FuncId) (args:List WV) (G:WV->Prop):Prop:=∀xs,PRs args xs->∃r x,PR r x/\G r/\Valid P f xs (.ret x)
def WOwn (P:Program) (f:FuncId) (args:List WV) (s:Nat) (z:Bool) (G:List (List WV)->Prop):Prop:=
 ∀xs,PRs args xs->(∃es ys fz,PRss es ys/\G es/\(∀e∈es,e.length=s)/\fz<=ys.length/\(z=false->fz=0)/\ValidOwn P f xs ys s fz)\/(G []/\Valid P f xs (.ret (.sc (.slice none 0 0))))
def WOwnS (P:Program) (f:FuncId) (args:List WV) (s:Nat) (G:List (List WV)->Prop):Prop:=
 ∀xs,PRs args xs->(∃es ys,PRss es ys/\G es/\(∀e∈es,e.length=s)/\ValidOwn P f xs ys s 0)\/(G []/\∃x,PR (.lst []) x/\Valid P f xs (.ret x))
def ShowsR (H:Heap) (x:AV) (es:List (List WV)) (s:Nat):Prop:=
 (x=.sc (.slice none 0 0)/\es=[])\/∃b g cap zs,x=.sl b g 0 g cap/\look H.objs b=some (.cells zs s 0)/\zs.length=g/\PRss es zs/\(cap=none\/cap=some g)
def notRow (x:AV) (k:Nat):Prop:=∀b g o l c,x=.sl b g o l c->b≠k
def WUpd (P:Program) (f:FuncId) (post:List WV) (s:Nat) (es:List (List WV)) (G:List (List WV)->Prop):Prop:=
 ∀(H:Heap) (x:AV) (xs:List AV),(∀m,H.next<=m->look H.objs m=none)->ShowsR H x es s->PRs post xs->
  ∃es' y H',G es'/\(∀e∈es',e.length=s)/\leafs es'/\Valid2 P f (x::xs) H (.ret y) H'/\H.next<=H'.next/\(∀m,H'.next<=m->look H'.objs m=none)/\
   (∀k,look H'.objs k≠none->look H.objs k≠none\/H.next<=k)/\(∀k,k<H.next->notRow x k->look H'.objs k=look H.objs k/\notRow y k)/\ShowsR H' y es' s
def WSet (P:Program) (f:FuncId) (post:List WV) (s:Nat) (es:List (List WV)) (G:List (List WV)->Prop):Prop:=
 ∀(H:Heap) (x:AV) (xs:List AV),(∀m,H.next<=m->look H.objs m=none)->ShowsR H x es s->PRs post xs->
  ∃es' H',G es'/\(∀e∈es',e.length=s)/\Valid2 P f (x::xs) H (.ret (.sc (.tuple #[]))) H'/\H.next<=H'.next/\(∀m,H'.next<=m->look H'.objs m=none)/\
   (∀k,look H'.objs k≠none->look H.objs k≠none\/H.next<=k)/\(∀k,k<H.next->notRow x k->look H'.objs k=look H.objs k)/\ShowsR H' x es' s
def GL:Nat:=4294967295
section
variable (P:Program) (tab:Tab)
def plainK (v:WV) (H:WH) (K:WK):Prop:=K v H ⟨[],[]⟩
def newBox (H:WH) (cs:List WV) (K:WK):Prop:=match H with | ⟨objs,nx⟩=>forceN nx λn=>forceN (n+1) λm=>K (.box n 0) ⟨(n,.box cs false)::objs,m⟩ ⟨[],[n]⟩
def newRow (H:WH) (es:List (List WV)) (s:Nat) (fz:Bool) (rd:List Nat) (K:WK):Prop:=match H with | ⟨objs,nx⟩=>forceN nx λn=>forceN (n+1) λm=>K (.row n) ⟨(n,.row es s fz n)::objs,m⟩ ⟨rd,[n]⟩
def showW (H:WH) (s:Nat):WV->Option (List (List WV)×List Nat)
 |.sc (.slice none 0 0)=>some ([],[])
 |.lst es=>some (es,[])
 |.row n=>match lk H.objs n with
  |some (.row es s' _ rt)=>bif Nat.beq s' s then some (es,[rt]) else none
  |_=>none
 |.win n lo len _=>match lk H.objs n with
  |some (.row es s' _ rt)=>bif Nat.beq s' s then some ((es.drop lo).take len,[rt]) else none
  |_=>none
 |_=>none
def bytesW (x:ByteArray):List (List WV):=x.data.toList.map λb=>[.sc (.int .u8 b.toNat)]
def roomP (bytes need:Nat):Prop:=(2*need+192)*bytes<=2 ^ 48/\need<=2 ^ 60
def cellP (s:Nat) (ys:List (List WV)):Prop:=∀y∈ys,y.length=s/\y.all storableW=true
def newName (H:WH) (m:Nat) (o:WO) (e:WE) (K:WK):Prop:=match H with | ⟨objs,nx⟩=>forceN nx λn=>forceN (n+1) λm'=>K (.row n) ⟨(n,o)::rmv objs m,m'⟩ e
def appendW (H:WH) (de:TyD) (s:WV) (ys:List (List WV)) (rd:List Nat) (K:WK):Prop:=
 match s with
 |.sc (.slice none 0 0)=>roomP de.bytes ys.length/\cellP de.size ys/\newRow H ys de.size false rd K
 |.row m=>match lk H.objs m with
  |some (.row es sz fz rt)=>bif Nat.beq sz de.size then roomP de.bytes (es.length+ys.length)/\cellP de.size ys/\∃zs,es++ys=zs/\newName H m (.row zs sz fz rt) ⟨rd,[rt]⟩ K else False
  |_=>False
 |.win m lo len true=>match lk H.objs m with
  |some (.row es sz _ rt)=>bif Nat.beq sz de.size then (ys≠[]->roomP de.bytes (len+ys.length)/\cellP de.size ys/\∃zs,(es.drop lo).take len++ys=zs/\newRow H zs de.size false (rt::rd) K)/\(ys=[]->K (.win m lo len true) H ⟨rd,[]⟩) else False
  |_=>False
 |.lsc es=>(∀e∈es,e.length=de.size)/\(ys≠[]->roomP de.bytes (es.length+ys.length)/\cellP de.size ys/\∃zs,es++ys=zs/\newRow H zs de.size false rd K)/\(ys=[]->K (.lst es) H ⟨rd,[]⟩)
 |_=>False
def boundsW (len:Nat) (lo hi:Option WV) (K:Nat->Nat->Prop):Prop:=
 match lo,hi with
 |none,none=>K 0 len
 |some (.sc (.int _ l)),none=>0<=l/\l<=len/\K l.toNat len
 |none,some (.sc (.int _ h))=>0<=h/\h<=len/\K 0 h.toNat
 |some (.sc (.int _ l)),some (.sc (.int _ h))=>0<=l/\l<=h/\h<=len/\K l.toNat h.toNat
 |_,_=>False
def optW (T:WT):Option Operand->Option (Option WV)
 |none=>some none
 |some x=>(evW T x).map some
def isBool (d:TyD):Bool:=match d.k with | .bool=>true | _=>false
def scBin (op:BinOp) (t:TypeId) (x y:WV):Option WV:=
 match x,y with
 |.sc (.int k a),.sc (.int j b)=>(pureVal (Go.binOp op t (.int k a) (.int j b))).map .sc
 |.sc (.bool a),.sc (.bool b)=>match op,(tab t).map isBool with
  |.eql,some true=>some (.sc (.bool (a==b)))
  |.neq,some true=>some (.sc (.bool (!(a==b))))
  |_,_=>none
 |_,_=>none
def mapO {α β:Type} (f:α->Option β):List α->Option (List β)
 |[]=>some []
 |a::r=>match f a with | none=>none | some b=>match mapO f r with | none=>none | some bs=>some (b::bs)
inductive BoxesC (H:WH):List WV->List WV->List Nat->Prop
 |nil:BoxesC H [] [] []
 |box {n:Nat} {c b d:List WV} {fz:Bool} {ns:List Nat} (h:lk H.objs n=some (.box c fz)) (hl:c.all leafB=true) (hs:BoxesC H b d ns):BoxesC H (.box n 0::b) (.ipt c::d) (n::ns)
inductive DeepC (H:WH):List WV->List WV->List Nat->Prop
 |nil:DeepC H [] [] []
 |leaf {v:WV} {cs ds:List WV} {ns:List Nat} (h:leafB v=true) (hs:DeepC H cs ds ns):DeepC H (v::cs) (v::ds) ns
 |fn {f:FuncId} {b d cs ds:List WV} {ns ms:List Nat} (h:BoxesC H b d ns) (hs:DeepC H cs ds ms):DeepC H (.fn f [] b::cs) (.fnp f [] d::ds) (ns++ms)
 |row {m s rt:Nat} {fz:Bool} {es:List (List WV)} {cs ds:List WV} {ns:List Nat} (h:lk H.objs m=some (.row es s fz rt)) (hl:leafs es) (hs:DeepC H cs ds ns):DeepC H (.row m::cs) (.lst es::ds) (m::ns)
inductive Deep (H:WH):List (List WV)->List (List WV)->List Nat->Prop
 |nil:Deep H [] [] []
 |leaf {e:List WV} {r r':List (List WV)} {ns:List Nat} (h:e.all leafB=true) (hs:Deep H r r' ns):Deep H (e::r) (e::r') ns
 |deep {c d:List WV} {r r':List (List WV)} {ns ms:List Nat} (h:DeepC H c d ns) (hs:Deep H r r' ms):Deep H (c::r) (d::r') (ns++ms)
theorem deep0 {H:WH} {es:List (List WV)} (h:leafs es):Deep H es es []:=by
 induction es with
 |nil=>exact .nil
 |cons e r ih=>exact .leaf (h e (by simp)) (ih λx hx=>h x (by simp [hx]))
def viewM (H:WH) (v:WV) (K:WV->List Nat->Prop):Prop:=match v with
 |.mp n=>match lk H.objs n with
  |some (.bag G _ _)=>K (.imb G) [n]
  |_=>False
 |v=>bif leafB v then K v [] else False
def viewMs (H:WH):List WV->(List WV->List Nat->Prop)->Prop
 |[],K=>K [] []
 |c::cs,K=>viewM H c λd ns=>viewMs H cs λds ms=>K (d::ds) (ns++ms)
def viewC (H:WH) (v:WV) (K:WV->List Nat->Prop):Prop:=match v with
 |.sc (.slice none 0 0)=>K (.lst []) []
 |.sc x=>K (.sc x) []
 |.lst es=>K (.lst es) []
 |.ipt cs=>K (.ipt cs) []
 |.imb G=>K (.imb G) []
 |.pin x=>K (.pin x) []
 |.row n=>match lk H.objs n with
  |some (.row es _ _ _)=>∃zs ns,Deep H es zs ns/\K (.lst zs) (n::ns)
  |_=>False
 |.win n lo len _=>match lk H.objs n with
  |some (.row es _ _ _)=>leafs es/\∃zs,(es.drop lo).take len=zs/\K (.lst zs) [n]
  |_=>False
 |.box n 0=>match lk H.objs n with
  |some (.box cs _)=>bif cs.all leafB then K (.ipt cs) [n] else viewMs H cs λds ns=>K (.ipt ds) (n::ns)
  |_=>False
 |.mp n=>match lk H.objs n with
  |some (.bag G _ _)=>K (.imb G) [n]
  |_=>False
 |_=>False
def viewCs (H:WH):List WV->(List WV->List Nat->Prop)->Prop
 |[],K=>K [] []
 |c::cs,K=>viewC H c λd ns=>viewCs H cs λds ms=>K (d::ds) (ns++ms)
def viewI (H:WH) (v:WV) (K:WV->List Nat->Prop):Prop:=match v with
 |.agg cs=>viewCs H cs λds ns=>K (.agg ds) ns
 |v=>viewC H v K
def viewV (H:WH) (v:WV) (K:WV->List Nat->Prop):Prop:=match v with
 |.ifc t v=>viewI H v λd ns=>K (.ifc t d) ns
 |.agg cs=>bif cs.all leafB then K (.agg cs) [] else viewCs H cs λds ns=>K (.agg ds) ns
 |.fnp f a b=>K (.fnp f a b) []
 |.fn f a b=>viewCs H a λas ns=>viewCs H b λbs ms=>bif as.all leafB&&bs.all leafB then K (.fnp f as bs) (ns++ms) else False
 |v=>viewC H v K
def viewVs (H:WH):List WV->(List WV->List Nat->Prop)->Prop
 |[],K=>K [] []
 |c::cs,K=>viewV H c λd ns=>viewVs H cs λds ms=>K (d::ds) (ns++ms)
def freezeO (ns:List Nat) (n:Nat) (o:WO):WO:=match o with
 |.row es s fz rt=>bif ns.contains n then .row es s true rt else .row es s fz rt
 |.box cs fz=>bif ns.contains n then .box cs true else .box cs fz
 |.set ks V=>.set ks V
 |.bag G fz pe=>bif ns.contains n then .bag G true pe else .bag G fz pe
 |.loop D T st pend=>.loop D T st pend
 |.frm T Tc=>.frm T Tc
def freezeW (objs:List (Nat×WO)) (ns:List Nat):List (Nat×WO):=List.rec [] (λp _ ih=>match p with | (n,o)=>(n,freezeO ns n o)::ih) objs
def rootW (n:Nat) (o:Option WO):List Nat:=match o with
 |some (.set _ _)=>[n]
 |some (.bag _ _ _)=>[n]
 |some (.row _ _ _ rt)=>[rt]
 |some (.box _ _)=>[n]
 |some (.loop _ _ _ _)=>[n]
 |some (.frm _ _)=>[n]
 |_=>[]
def rootsW (objs:List (Nat×WO)):List Nat->List Nat
 |[]=>[]
 |n::ns=>rootW n (lk objs n)++rootsW objs ns
def freezeH (H:WH) (ns:List Nat):WH:=match ns with
 |[]=>H
 |ns=>⟨freezeW H.objs ns,H.nx⟩
def mvW (T:WT) (H:WH) (K:WK) (x:Operand):Prop:=match evW T x with | some v=>plainK v H K | none=>False
def pickW (T:WT) (H:WH) (K:WK) (c a b:Operand):Prop:=match evW T c with
 |some (.sc (.bool q))=>both q (mvW T H K a) (mvW T H K b)
 |_=>False
def chunksW (s:Nat):Nat->List WV->List (List WV)
 |0,_=>[]
 |k+1,cs=>cs.take s::chunksW s k (cs.drop s)
def newArr (H:WH) (es:List (List WV)) (s:Nat) (K:WK):Prop:=match H with | ⟨objs,nx⟩=>forceN nx λn=>forceN (n+1) λm=>K (.elt n 0 0) ⟨(n,.row es s false n)::objs,m⟩ ⟨[],[n]⟩
def allocW (H:WH) (K:WK) (t:TypeId):Prop:=match tab t with
 |some d=>match d.k with
  |.arr m e=>(match tab e with
   |some de=>bif Nat.beq (zeroW d).length (m*de.size) then newArr H (chunksW de.size m (zeroW d)) de.size K else False
   |none=>False)
  |.slice _=>newBox H (zeroN d 0) K
  |_=>newBox H (zeroW d) K
 |none=>False
def boxW (T:WT) (H:WH) (K:WK) (t:TypeId) (x:Operand):Prop:=match tab t,(evW T x).bind cellsW with
 |some d,some cs=>match d.k with
  |.arr _ _=>False
  |_=>bif Nat.beq cs.length d.size then newBox H cs K else False
 |_,_=>False
def partsW (T:WT) (parts:Array (Nat×Operand)):Option (List (Nat×WV)):=mapO (λp:Nat×Operand=>(evW T p.2).map λv=>(p.1,v)) parts.toList
def placeW (fs:List (Nat×TypeId)) (i:Nat):Option (Nat×Nat):=(fs[i]?).bind λf=>(tab f.2).map λdf=>(f.1,df.size)
def rawB (t:TypeId):List (Nat×WV)->Bool
 |[(5,_)]=>Nat.beq t 61
 |_=>false
def buildW (T:WT) (H:WH) (K:WK) (t:TypeId) (parts:Array (Nat×Operand)):Prop:=match tab t,partsW T parts with
 |some d,some ps=>match d.k with
  |.strct fs=>match fillW (placeW tab fs) ps (bif rawB t ps then zeroN d 6 else zeroW d) with
   |some cs=>plainK (.agg cs) H K
   |none=>False
  |.arr _ e=>(match tab e with
   |some de=>fillC (λi=>some (i*de.size,de.size)) ps (zeroW d) λcs=>plainK (.agg cs) H K
   |none=>False)
  |_=>False
 |_,_=>False
def arrAll (m:Nat) (iv:Int) (X:Nat->Prop):Prop:=0<=iv/\iv<(m:Int)/\List.rec (motive:=λ_=>Prop) True (λ(k:Nat) _ ih=>(iv=(k:Int)->X k)/\ih) (List.range m)
def elemD (d:TyD):Option TyD:=match d.k with
 |.slice e=>tab e
 |_=>none
def rowsW (T:WT) (H:WH) (K:WK) (t:TypeId) (len:Nat) (parts:Array (Nat×Operand)):Prop:=match (tab t).bind (elemD tab),partsW T parts with
 |some de,some ps=>match setW de.size ps (List.replicate len (zeroW de)) with
  |some es=>bif Nat.beq de.zero.length de.size&&!(Nat.beq de.size 0)&&Nat.ble (len*de.size) 1048576 then newRow H es de.size false [] K else False
  |none=>False
 |_,_=>False
def giveW (H:WH) (K:WK) (e:WE) (v:Option WV):Prop:=match v with | some v=>K v H e | none=>False
def loadBox (H:WH) (K:WK) (d:TyD) (n fo:Nat):Prop:=match lk H.objs n with
 |some (.box cs _)=>bif Nat.ble (fo+d.size) cs.length then giveW H K ⟨[n],[]⟩ (ofCellsW d (takeW d.size (dropW fo cs))) else False
 |_=>False
def loadElt (H:WH) (K:WK) (d:TyD) (n i fo:Nat):Prop:=match lk H.objs n with
 |some (.row es s _ rt)=>∃cs,es[i]?=some cs/\(bif Nat.ble (fo+d.size) s then giveW H K ⟨[rt],[]⟩ (ofCellsW d (takeW d.size (dropW fo cs))) else False)
 |_=>False
def isArr (d:TyD):Bool:=match d.k with | .arr _ _=>true | _=>false
def loadArr (H:WH) (K:WK) (d:TyD) (n i fo:Nat):Prop:=match lk H.objs n with
 |some (.row es s _ rt)=>bif Nat.beq i 0&&Nat.beq fo 0&&Nat.beq d.size (es.length*s)&&Nat.blt s d.size then giveW H K ⟨[rt],[]⟩ (ofCellsW d es.flatten) else False
 |_=>False
def loadW (T:WT) (H:WH) (K:WK) (t:TypeId) (a:Operand):Prop:=match tab t,evW T a with
 |some d,some (.ipt cs)=>giveW H K ⟨[],[]⟩ (ofCellsW d (takeW d.size cs))
 |some d,some (.box n fo)=>loadBox H K d n fo
 |some d,some (.elt n i fo)=>bif isArr d then loadArr H K d n i fo else loadElt H K d n i fo
 |_,_=>False
def setObj (H:WH) (n:Nat) (o:WO) (K:WK):Prop:=match H with | ⟨objs,nx⟩=>K undefW ⟨(n,o)::objs,nx⟩ ⟨[],[n]⟩
def storeBox (H:WH) (K:WK) (d:TyD) (n fo:Nat) (new:List WV):Prop:=match lk H.objs n with
 |some (.box cs false)=>bif Nat.beq new.length d.size&&Nat.ble (fo+d.size) cs.length&&new.all storableW then forceC (spliceW cs fo new) λcs'=>setObj H n (.box cs' false) K else False
 |_=>False
def storeElt (H:WH) (K:WK) (d:TyD) (n i fo:Nat) (new:List WV):Prop:=match lk H.objs n with
 |some (.row es s false rt)=>∃cs,es[i]?=some cs/\(bif Nat.beq new.length d.size&&Nat.ble (fo+d.size) s&&new.all storableW then ∃zs,es.set i (spliceW cs fo new)=zs/\K undefW ⟨(n,.row zs s false rt)::H.objs,H.nx⟩ ⟨[],[rt]⟩ else False)
 |_=>False
def storeArr (H:WH) (K:WK) (d:TyD) (n i fo:Nat) (new:List WV):Prop:=match lk H.objs n with
 |some (.row es s false rt)=>bif Nat.beq i 0&&Nat.beq fo 0&&Nat.beq new.length d.size&&Nat.beq d.size (es.length*s)&&Nat.blt s d.size&&Nat.blt 0 s&&new.all storableW then forceC (chunksW s es.length new) λzs=>K undefW ⟨(n,.row zs s false rt)::H.objs,H.nx⟩ ⟨[],[rt]⟩ else False
 |_=>False
def storeW (T:WT) (H:WH) (K:WK) (t:TypeId) (a x:Operand):Prop:=match tab t,evW T a,(evW T x).bind cellsW with
 |some d,some (.box n fo),some new=>storeBox H K d n fo new
 |some d,some (.elt n i fo),some new=>bif isArr d then storeArr H K d n i fo new else storeElt H K d n i fo new
 |_,_,_=>False
def aliveB (H:WH) (n:Nat):Bool:=match lk H.objs n with | some _=>true | none=>false
def nilW' (T:WT) (H:WH) (K:WK) (x:Operand):Prop:=match evW T x with
 |some (.ipt cs)=>plainK (.ipt cs) H K
 |some (.box n fo)=>bif aliveB H n then plainK (.box n fo) H K else False
 |some (.elt n i fo)=>bif aliveB H n then plainK (.elt n i fo) H K else False
 |_=>False
def catW (H:WH) (K:WK) (op:BinOp) (t:TypeId) (a b:WV):Prop:=match a,b with
 |.sc (.string a),.sc (.string b)=>match op with
  |.add=>a.size+b.size<=2 ^ 60/\plainK (.sc (.string (a++b))) H K
  |op=>giveW H K ⟨[],[]⟩ ((pureVal (Op.stringOp op a b)).map .sc)
 |a,b=>giveW H K ⟨[],[]⟩ (scBin tab op t a b)
def isSlK (d:TyD):Bool:=match d.k with | .slice _=>true | _=>false
def nilB (H:WH) (K:WK) (op:BinOp) (t:TypeId) (es:List (List WV)):Prop:=match op,(tab t).map isSlK with
 |.eql,some true=>∀b:Bool,(b=true->es=[])->plainK (.sc (.bool b)) H K
 |_,_=>False
def ptrB (H:WH) (K:WK) (op:BinOp) (t:TypeId) (b:Bool):Prop:=match op,(tab t).map TyD.k with
 |.eql,some TyK.ptr=>plainK (.sc (.bool b)) H K
 |.neq,some TyK.ptr=>plainK (.sc (.bool (!b))) H K
 |_,_=>False
def fitsW:List TyK->List WV->List WV->Bool
 |[],[],[]=>true
 |k::ks,.sc v::cs,.sc w::ds=>fitK k v&&(sameKey v w).isSome&&fitsW ks cs ds
 |_,_,_=>false
def hdSame:List WV->List WV->Prop
 |.sc v::_,.sc w::_=>sameKey v w=some true
 |_,_=>True
def aggB (H:WH) (K:WK) (op:BinOp) (t:TypeId) (cs ds:List WV):Prop:=match op,(tab t).bind TyD.flat with
 |.eql,some ks=>bif fitsW ks cs ds then ∀b:Bool,(b=true->hdSame cs ds)->plainK (.sc (.bool b)) H K else False
 |.neq,some ks=>bif fitsW ks cs ds then ∀b:Bool,(b=true->cs≠ds)->plainK (.sc (.bool b)) H K else False
 |_,_=>False
def binW (T:WT) (H:WH) (K:WK) (op:BinOp) (t:TypeId) (x y:Operand):Prop:=match evW T x,evW T y with
 |some (.lst es),some (.sc (.slice none 0 0))=>nilB tab H K op t es
 |some (.ipt _),some (.sc (.pointer none))=>ptrB tab H K op t false
 |some (.sc (.pointer none)),some (.sc (.pointer none))=>ptrB tab H K op t true
 |some (.agg cs),some (.agg ds)=>aggB tab H K op t cs ds
 |some a,some b=>catW tab H K op t a b
 |_,_=>False
def unW (T:WT) (H:WH) (K:WK) (op:UnOp) (x:Operand):Prop:=match evW T x with
 |some (.sc v)=>(match v with
  |.int _ _ | .bool _=>giveW H K ⟨[],[]⟩ ((pureVal (Op.unary op v)).map .sc)
  |_=>False)
 |_=>False
def convV (s d:TyK) (v:Value):Option WV:=match s,d,v with
 |.int _,.int k,.int _ n=>some (.sc (.int k (k.wrap n)))
 |.str,.str,.string s=>some (.sc (.string s))
 |_,_,_=>none
def outW:List (List WV)->Option (List UInt8)
 |[]=>some []
 |[.sc (.int .u8 n)]::r=>(match outW r with | some l=>some (UInt8.ofNat n.toNat::l) | none=>none)
 |_=>none
def isU8 (e:TypeId):Bool:=match tab e with
 |some de=>(match de.k with | .int .u8=>true | _=>false)
 |none=>false
def convX (H:WH) (K:WK) (ds dd:TyD) (v:WV):Prop:=match ds.k,dd.k,v with
 |.str,.slice e,.sc (.string s)=>(bif isU8 tab e then ∃l,bytesW s=l/\plainK (.lst l) H K else False)
 |.slice e,.str,v=>(bif isU8 tab e then (match showW H 1 v with
  |some (es,rd)=>∃bs:List UInt8,outW es=some bs/\K (.sc (.string ⟨bs.toArray⟩)) H ⟨rd,[]⟩
  |none=>False) else False)
 |a,b,.sc v=>giveW H K ⟨[],[]⟩ (convV a b v)
 |_,_,_=>False
def convW (T:WT) (H:WH) (K:WK) (s d:TypeId) (x:Operand):Prop:=match tab s,tab d,evW T x with
 |some ds,some dd,some v=>convX tab H K ds dd v
 |_,_,_=>False
def fieldOf (t:TypeId) (f:Nat):Option (Nat×TyD):=match tab t with
 |some d=>(match d.k with
  |.strct fs=>(match fs[f]? with
   |some (off,t')=>(tab t').map λdt=>(off,dt)
   |none=>none)
  |_=>none)
 |none=>none
def faddr (H:WH) (K:WK) (off:Nat) (size:Nat) (a:WV):Prop:=match a with
 |.ipt cs=>bif Nat.ble (off+size) cs.length then plainK (.ipt (dropW off cs)) H K else False
 |.box n fo=>bif aliveB H n then forceN (fo+off) λg=>plainK (.box n g) H K else False
 |.elt n i fo=>bif aliveB H n then forceN (fo+off) λg=>plainK (.elt n i g) H K else False
 |_=>False
def fieldAddrW (T:WT) (H:WH) (K:WK) (t:TypeId) (x:Operand) (f:Nat):Prop:=match fieldOf tab t f,evW T x with
 |some (off,dt),some a=>bif Nat.beq dt.size 0 then False else faddr H K off dt.size a
 |_,_=>False
def fieldW (T:WT) (H:WH) (K:WK) (t:TypeId) (x:Operand) (f:Nat):Prop:=match fieldOf tab t f,evW T x with
 |some (off,dt),some (.agg cs)=>bif Nat.ble (off+dt.size) cs.length then giveW H K ⟨[],[]⟩ (ofCellsW dt (takeW dt.size (dropW off cs))) else False
 |_,_=>False
def idxRow (H:WH) (K:WK) (de:TyD) (n:Nat) (iv:Int):Prop:=match lk H.objs n with
 |some (.row es s _ rt)=>bif Nat.beq s de.size then 0<=iv/\iv.toNat<es.length/\K (.elt n iv.toNat 0) H ⟨[rt],[]⟩ else False
 |_=>False
def arrD (t:TypeId):Option (Nat×TyD):=match tab t with
 |some d=>(match d.k with
  |.arr m e=>(tab e).map λde=>(m,de)
  |_=>none)
 |none=>none
def arrElt (H:WH) (K:WK) (t:TypeId) (n i fo:Nat) (iv:Int):Prop:=match arrD tab t,lk H.objs n with
 |some (m,de),some (.row es s _ rt)=>bif Nat.beq i 0&&Nat.beq fo 0&&Nat.beq s de.size&&Nat.ble m es.length then 0<=iv/\iv<(m:Int)/\K (.elt n iv.toNat 0) H ⟨[rt],[]⟩ else False
 |_,_=>False
def indexAddrW (T:WT) (H:WH) (K:WK) (t:TypeId) (x i:Operand):Prop:=match (tab t).bind (elemD tab),evW T x,evW T i with
 |some de,some (.lst es),some (.sc (.int _ iv))=>0<=iv/\∃cs,es[iv.toNat]?=some cs/\cs.length=de.size/\plainK (.ipt cs) H K
 |some de,some (.row n),some (.sc (.int _ iv))=>idxRow H K de n iv
 |none,some (.elt n i fo),some (.sc (.int _ iv))=>arrElt tab H K t n i fo iv
 |_,_,_=>False
def isStr (d:TyD):Bool:=match d.k with | .str=>true | _=>false
def arrVal (H:WH) (K:WK) (t:TypeId) (cs:List WV) (iv:Int):Prop:=match arrD tab t with
 |some (m,de)=>arrAll m iv λk=>bif Nat.ble (k*de.size+de.size) cs.length then giveW H K ⟨[],[]⟩ (ofCellsW de (takeW de.size (dropW (k*de.size) cs))) else False
 |none=>False
def indexW (T:WT) (H:WH) (K:WK) (t:TypeId) (x i:Operand):Prop:=match tab t,evW T x,evW T i with
 |some d,some (.sc (.string s)),some (.sc (.int _ iv))=>bif isStr d then 0<=iv/\∃b,s[iv.toNat]?=some b/\plainK (.sc (.int .u8 b.toNat)) H K else False
 |some _,some (.agg cs),some (.sc (.int _ iv))=>arrVal tab H K t cs iv
 |_,_,_=>False
def sliceV (H:WH) (K:WK) (d:TyD) (v:WV) (l h:Option WV):Prop:=match d.k,v with
 |.str,.sc (.string s)=>boundsW s.size l h λl h=>plainK (.sc (.string (s.extract l h))) H K
 |.slice e,.lst es=>(match tab e with
  |some de=>(∀x∈es,x.length=de.size)/\boundsW es.length l h λl h=>∃zs,(es.drop l).take (h-l)=zs/\plainK (.lst zs) H K
  |none=>False)
 |.slice e,.row n=>(match tab e,lk H.objs n with
  |some de,some (.row es s _ rt)=>(bif Nat.beq s de.size then boundsW es.length l h λa b=>∃len,b-a=len/\K (.win n a len false) H ⟨[rt],[]⟩ else False)
  |_,_=>False)
 |_,_=>False
def sliceM (H:WH) (K:WK) (d:TyD) (v:WV) (l:Option WV) (hv mv:WV):Prop:=match d.k,v,l,hv,mv with
 |.slice e,.lst es,some (.sc (.int _ lv)),.sc (.int _ h),.sc (.int _ m)=>(match tab e with
  |some de=>(∀x∈es,x.length=de.size)/\0<=lv/\lv<=h/\h<=es.length/\m=h/\∃zs,(es.drop lv.toNat).take (h.toNat-lv.toNat)=zs/\plainK (.lst zs) H K
  |none=>False)
 |.slice e,.lst es,none,.sc (.int _ h),.sc (.int _ m)=>(match tab e with
  |some de=>(∀x∈es,x.length=de.size)/\0<=h/\h<=es.length/\m=h/\∃zs,es.take h.toNat=zs/\plainK (.lsc zs) H K
  |none=>False)
 |.slice e,.win n lo len _,none,.sc (.int _ h),.sc (.int _ m)=>(match tab e,lk H.objs n with
  |some de,some (.row _ s _ rt)=>(bif Nat.beq s de.size then 0<=h/\h<=len/\m=h/\K (.win n lo h.toNat true) H ⟨[rt],[]⟩ else False)
  |_,_=>False)
 |.slice e,.row n,none,.sc (.int _ h),.sc (.int _ m)=>(match tab e,lk H.objs n with
  |some de,some (.row es s _ rt)=>(bif Nat.beq s de.size then 0<=h/\h<=es.length/\m=h/\K (.win n 0 h.toNat true) H ⟨[rt],[]⟩ else False)
  |_,_=>False)
 |_,_,_,_,_=>False
def sliceW (T:WT) (H:WH) (K:WK) (t:TypeId) (x:Operand) (lo hi mx:Option Operand):Prop:=match tab t,evW T x,optW T lo,optW T hi,mx with
 |some d,some v,some l,some h,none=>sliceV tab H K d v l h
 |some d,some v,some l,some (some h),some m=>(match evW T m with
  |some mv=>sliceM tab H K d v l h mv
  |none=>False)
 |_,_,_,_,_=>False
def makeSliceW (T:WT) (H:WH) (K:WK) (t:TypeId) (l c:Operand):Prop:=match (tab t).bind (elemD tab),evW T l,evW T c with
 |some de,some (.sc (.int _ lv)),some (.sc (.int _ cv))=>0<=lv/\lv<=cv/\cv<=2 ^ 40/\de.bytes*cv<=2 ^ 47/\∃zs,List.replicate lv.toNat (zeroW de)=zs/\(bif Nat.beq de.zero.length de.size then newRow H zs de.size false [] K else False)
 |_,_,_=>False
def isMap (d:TyD):Bool:=match d.k with | .map _ _=>true | _=>false
def hasK (kv:Value) (ks:List Value):Option Bool:=(findK kv ks 0).map Option.isSome
def insK (kv:Value) (ks:List Value):Option (List Value):=(hasK kv ks).map λb=>bif b then ks else ks++[kv]
def newSet (H:WH) (K:WK):Prop:=match H with | ⟨objs,nx⟩=>∃V:Value->Prop,forceN nx λn=>forceN (n+1) λm=>K (.mp n) ⟨(n,.set [] V)::objs,m⟩ ⟨[],[n]⟩
def newBag (H:WH) (K:WK):Prop:=match H with | ⟨objs,nx⟩=>∃G:Value->AV->Prop,forceN nx λn=>forceN (n+1) λm=>K (.mp n) ⟨(n,.bag G false [])::objs,m⟩ ⟨[],[n]⟩
def setD (d:TyD):Bool:=match d.k with
 |.map _ e=>(match tab e with | some de=>isBool de | none=>false)
 |_=>false
def makeMapW (T:WT) (H:WH) (K:WK) (t:TypeId) (r:Option Operand):Prop:=match tab t,r with
 |some d,none=>bif isMap d then (bif setD tab d then newSet H K else (newBag H K\/newSet H K)) else False
 |some d,some x=>(match evW T x with
  |some (.sc (.int _ _))=>bif isMap d then (bif setD tab d then newSet H K else (newBag H K\/newSet H K)) else False
  |_=>False)
 |_,_=>False
def mapD (d:TyD) (k:Value):Option Value:=match d.k with
 |.map kt et=>(match tab kt,tab et with
  |some dk,some de=>(match keyOf dk.k (.sc k),de.isAgg,de.zero with
   |some k',false,[z]=>(bif Nat.beq de.size 1 then some z else none)
   |_,_,_=>none)
  |_,_=>none)
 |_=>none
def bagK (G:Value->AV->Prop) (kv z:Value) (ok:Bool) (K:WV->Prop):Prop:=match ok with
 |false=>(∀x,G kv x->∃v,PR v x/\K v)/\K (.sc z)
 |true=>(∀x,G kv x->∃v,PR v x/\K (.tup [v,.sc (.bool true)]))/\K (.tup [.sc z,.sc (.bool false)])
def lookupW (T:WT) (H:WH) (K:WK) (t:TypeId) (x k:Operand) (ok:Bool):Prop:=match tab t,evW T x,evW T k with
 |some d,some (.mp n),some (.sc kv)=>(match mapD tab d kv,lk H.objs n,ok with
  |some z,some (.set ks V),false=>∃b,hasK kv ks=some b/\both b (∀v,V v->K (.sc v) H ⟨[n],[]⟩) (K (.sc z) H ⟨[n],[]⟩)
  |some z,some (.bag G _ _),ok=>(∀k x,G k x->∃b,sameKey kv k=some b/\(b=true->k=kv))/\bagK G kv z ok λv=>K v H ⟨[n],[]⟩
  |_,_,_=>False)
 |some d,some (.sc (.map none)),some (.sc kv)=>(match mapD tab d kv,ok with
  |some z,false=>plainK (.sc z) H K
  |_,_=>False)
 |some d,some (.imb G),some (.sc kv)=>(match mapD tab d kv with
  |some z=>(∀k x,G k x->∃b,sameKey kv k=some b/\(b=true->k=kv))/\bagK G kv z ok λv=>plainK v H K
  |none=>False)
 |_,_,_=>False
def updMapW (T:WT) (H:WH) (K:WK) (t:TypeId) (m k x:Operand):Prop:=match tab t,evW T m,evW T k,evW T x with
 |some d,some (.mp n),some (.sc kv),some xw=>(match mapD tab d kv,lk H.objs n,xw with
  |some _,some (.set ks V),.sc xv=>V xv/\∃ks',insK kv ks=some ks'/\K undefW ⟨(n,.set ks' V)::H.objs,H.nx⟩ ⟨[],[n]⟩
  |some _,some (.bag G false pe),xw=>leafB xw=true/\(∀k x,G k x->∃b,sameKey kv k=some b/\(b=true->k=kv))/\(∀x,PR xw x->G kv x)/\K undefW ⟨(n,.bag G false pe)::H.objs,H.nx⟩ ⟨[],[n]⟩
  |_,_,_=>False)
 |_,_,_,_=>False
def entryW (T:WT) (H:WH) (K:WK) (t:TypeId) (m k:Operand):Prop:=match tab t,evW T m,evW T k with
 |some d,some (.mp n),some (.sc kv)=>(match mapD tab d kv,lk H.objs n with
  |some z,some (.bag G0 false pe)=>∃G:Value->AV->Prop,(∀k x,G0 k x->G k x)/\(∀k x,G k x->∃b,sameKey kv k=some b/\(b=true->k=kv))/\leafB (.sc z)=true/\G kv (.sc z)/\
   ∀b:Nat,∀v,K (.tup [v,.sc (.int .i64 b)]) ⟨(n,.bag G false ((b,kv)::pe))::H.objs,H.nx⟩ ⟨[],[n]⟩
  |_,_=>False)
 |_,_,_=>False
def entryStoreW (T:WT) (H:WH) (K:WK) (m s x:Operand):Prop:=match evW T m,evW T s,evW T x with
 |some (.mp n),some (.sc sv),some xw=>(match lk H.objs n with
  |some (.bag G false pe)=>leafB xw=true/\∃(b:Nat) (kv:Value),sv=.int .i64 b/\(b,kv)∈pe/\(∀x,PR xw x->G kv x)/\K undefW ⟨(n,.bag G false pe)::H.objs,H.nx⟩ ⟨[],[n]⟩
  |_=>False)
 |_,_,_=>False
def extractW (T:WT) (H:WH) (K:WK) (t:Operand) (i:Nat):Prop:=match evW T t with
 |some (.tup vs)=>giveW H K ⟨[],[]⟩ vs[i]?
 |_=>False
def lenRow (H:WH) (K:WK) (n:Nat):Prop:=match lk H.objs n with
 |some (.row es _ _ rt)=>∃n:Nat,es.length=n/\K (.sc (.int .i64 n)) H ⟨[rt],[]⟩
 |_=>False
def lenWin (H:WH) (K:WK) (n len:Nat):Prop:=match lk H.objs n with
 |some (.row _ _ _ rt)=>K (.sc (.int .i64 len)) H ⟨[rt],[]⟩
 |_=>False
def isSl (d:TyD):Bool:=match d.k with | .slice _=>true | _=>false
def lenV (H:WH) (K:WK) (sl st:Bool) (x:WV):Prop:=match x with
 |.lst es=>bif sl then ∃n:Nat,es.length=n/\plainK (.sc (.int .i64 n)) H K else False
 |.sc (.string s)=>bif st then plainK (.sc (.int .i64 s.size)) H K else False
 |.sc (.slice none 0 0)=>bif sl then plainK (.sc (.int .i64 0)) H K else False
 |.row n=>bif sl then lenRow H K n else False
 |.win n _ len _=>bif sl then lenWin H K n len else False
 |_=>False
def lenW (T:WT) (H:WH) (K:WK) (t:TypeId) (x:Operand):Prop:=match evW T x,tab t with
 |some v,some d=>lenV H K (isSl d) (isStr d) v
 |_,_=>False
def appX (H:WH) (K:WK) (de du:TyD) (sv xv:WV):Prop:=match du.k,xv with
 |.str,.sc (.string str)=>bif Nat.beq de.size 1 then appendW H de sv (bytesW str) [] K else False
 |.slice _,xv=>(match showW H de.size xv with
  |some (ys,rd)=>appendW H de sv ys rd K
  |none=>False)
 |_,_=>False
def appW (T:WT) (H:WH) (K:WK) (t u:TypeId) (s x:Operand):Prop:=match (tab t).bind (elemD tab),tab u,evW T s,evW T x with
 |some de,some du,some sv,some xv=>appX H K de du sv xv
 |_,_,_,_=>False
def clearW (T:WT) (H:WH) (K:WK) (t:TypeId) (x:Operand):Prop:=match evW T x,tab t with
 |some (.mp n),some d=>(match lk H.objs n with
  |some (.bag G false _)=>bif isMap d then K undefW ⟨(n,.bag G false [])::H.objs,H.nx⟩ ⟨[],[n]⟩ else False
  |some (.set _ V)=>bif isMap d then K undefW ⟨(n,.set [] V)::H.objs,H.nx⟩ ⟨[],[n]⟩ else False
  |_=>False)
 |_,_=>False
def extW (T:WT) (H:WH) (K:WK) (mx:Bool) (x y:Operand):Prop:=match evW T x,evW T y,mx with
 |some (.sc (.int k a)),some (.sc (.int _ b)),true=>plainK (.sc (.int k (if b>a then b else a))) H K
 |some (.sc (.int k a)),some (.sc (.int _ b)),false=>plainK (.sc (.int k (if b<a then b else a))) H K
 |_,_,_=>False
def copyW (T:WT) (H:WH) (K:WK) (t:TypeId) (dst src:Operand):Prop:=match (tab t).bind (elemD tab),evW T dst,evW T src with
 |some de,some (.row m),some (.lst ys)=>(match lk H.objs m with
  |some (.row es s false rt)=>bif Nat.beq s de.size then cellP de.size ys/\(ys=[]\/es=[]->∀n:Int,plainK (.sc (.int .i64 n)) H K)/\(ys≠[]->es≠[]->∃zs,ys.take es.length++es.drop ys.length=zs/\∀n:Int,K (.sc (.int .i64 n)) ⟨(m,.row zs s false rt)::H.objs,H.nx⟩ ⟨[],[rt]⟩) else False
  |_=>False)
 |_,_,_=>False
def builtinW (T:WT) (H:WH) (K:WK) (b:Builtin) (ts:List TypeId) (xs:List Operand):Prop:=match b,ts,xs with
 |.len,[t],[x]=>lenW tab T H K t x
 |.append,[t,u],[s,x]=>appW tab T H K t u s x
 |.clear,[t],[x]=>clearW tab T H K t x
 |.copy,t::_,[d,s]=>copyW tab T H K t d s
 |.max,_,[x,y]=>extW T H K true x y
 |.min,_,[x,y]=>extW T H K false x y
 |_,_,_=>False
end
end
end Go.Abs
end
