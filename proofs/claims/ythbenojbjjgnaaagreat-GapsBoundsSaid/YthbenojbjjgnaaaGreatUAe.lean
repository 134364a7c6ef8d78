/- Of GapsBounds: lemmas. -/
import Derived.Test.YthbenojbjjgnaaaGreatUAd
set_option linter.all false
section
namespace Go.Abs
variable {P:Program} {tab:Tab} {N n0:Nat} {σ:Sg}
def resV (tab:Tab) (T:TL) (H:Heap):ResultVar→Option AV
 |.tmp t=>look T t
 |.cell a t=>match look T a,tab t with
  |some p,some d=>(loadA H d p).map (·.v)
  |_,_=>none
def resA (tab:Tab) (T:TL) (H:Heap) (rs:List ResultVar):Option AV:=
 match mapOpt (resV tab T H) rs with
 |some [v]=>some v
 |some vs=>some (.tup vs)
 |none=>none
def resRead (tmps:Array Value):ResultVar→Sem Value
 |.tmp t=>pure (tmps.getD t undef)
 |.cell b t=>do loadVar t (←asAddr (tmps.getD b undef))
theorem results_eq (fn:Func) (tmps:Array Value):results fn tmps=(do
 let vs ←fn.results.mapM (resRead tmps)
 pure (if h:vs.size=1 then vs[0] else .tuple vs)):=rfl
theorem res_list (tabOk:TabOK P tab) {a:Act} {T:TL} {H:Heap} (ss:SS σ a N T H):∀{rs:List ResultVar} {vs:List AV},mapOpt (resV tab T H) rs=some vs→
 ∃xs,(rs.mapM (resRead a.tmps):Sem (List Value)).run P σ.w=.ok xs σ.w∧VRs σ vs xs
 |[],vs,h=>by cases h;exact ⟨[],by simp,.nil⟩
 |r::rs,vs,h=>by
  simp only [mapOpt] at h
  split at h
  ·cases h
  rename_i v h1
  split at h
  ·cases h
  ·rename_i vs' h2
   cases h
   obtain ⟨xs,hx,hxs⟩:=res_list tabOk ss h2
   have one:∃x,(resRead a.tmps r).run P σ.w=.ok x σ.w∧VR σ v x:=by
    cases r with
    |tmp t=>exact ⟨_,by simp [resRead],ss.tr t v h1⟩
    |cell b t=>
     simp only [resV] at h1
     split at h1
     ·rename_i p d hp hd
      cases hl:loadA H d p with
      |none=>rw [hl] at h1;cases h1
      |some res=>
       rw [hl] at h1
       cases h1
       have hv:=ss.tr b p hp
       unfold loadA at hl
       split at hl
       ·rename_i cs rd hr
        split at hl
        ·rename_i y hy
         cases hl
         obtain ⟨bb,oo,vs,hpv,hra,hvs⟩:=readAt_vr ss.sr hv hr (fun m _=>by rw [ss.h])
         obtain ⟨x,hx,hxv⟩:=run_loadVar_of (tabOk t d hd) hra hvs hy
         exact ⟨x,by simp [resRead,Sem.run_bind,hpv,asAddr,hx],hxv⟩
        ·cases hl
       ·cases hl
     ·cases h1
   obtain ⟨x,hx1,hx2⟩:=one
   exact ⟨x::xs,by simp only [List.mapM_cons,Sem.run_bind,hx1,Result.andThen_ok,hx,Sem.run_pure],.cons hx2 hxs⟩
theorem results_vr (tabOk:TabOK P tab) {a:Act} {T:TL} {H:Heap} (ss:SS σ a N T H) {fn:Func} {v:AV} (h:resA tab T H fn.results.toList=some v) :
 ∃x,(results fn a.tmps).run P σ.w=.ok x σ.w∧VR σ v x:=by
 have run:∀{vs:List AV},mapOpt (resV tab T H) fn.results.toList=some vs→∃xs,(results fn a.tmps).run P σ.w=.ok (if h:xs.toArray.size=1 then xs.toArray[0] else .tuple xs.toArray) σ.w∧VRs σ vs xs:=fun {vs} hv=>by
  obtain ⟨xs,h1,h2⟩:=res_list tabOk ss hv
  refine ⟨xs,?_,h2⟩
  rw [results_eq,Sem.run_bind,Array.mapM_eq_mapM_toList]
  simp [Sem.run_map,h1]
 unfold resA at h
 split at h
 ·rename_i u hu
  cases h
  obtain ⟨xs,h1,h2⟩:=run hu
  cases h2 with
  |cons hx hn=>cases hn;exact ⟨_,h1,by simpa using hx⟩
 ·rename_i vs hne hu
  cases h
  obtain ⟨xs,h1,h2⟩:=run hu
  refine ⟨_,h1,?_⟩
  rw [dif_neg]
  ·exact .tup h2
  ·intro hl
   have:=h2.length
   simp at hl
   match vs,this with
   |[v],_=>exact hne v rfl
   |[],q=>simp [hl] at q
   |_::_::_,q=>simp [hl] at q
 ·cases h
def argT (i:Nat):List AV→TL
 |[]=>[]
 |v::r=>(i,v)::argT (i+1) r
theorem argT_look:∀{args:List AV} {i t:Nat} {v:AV},look (argT i args) t=some v→i≤t∧args[t-i]?=some v
 |[],_,_,_,h=>by cases h
 |u::r,i,t,v,h=>by
  simp only [argT,look] at h
  split at h
  ·rename_i e;subst e;cases h;simp
  ·rename_i e
   obtain ⟨h1,h2⟩:=argT_look h
   refine ⟨by omega,?_⟩
   rw [show t-i=(t-(i+1))+1 by omega]
   simpa using h2
theorem argT_tr {args:List AV} {vs:List Value} (h:VRs σ args vs) {n:Nat}:TR σ (look (argT 0 args)) { tmps:=vs.toArray++Array.replicate n undef,defers:=[] }:=fun t v hv=>by
 obtain ⟨_,h2⟩:=argT_look hv
 obtain ⟨x,hx,hvx⟩:=h.get h2
 have:(vs.toArray++Array.replicate n undef).getD t undef=x:=by
  rw [Array.getD_eq_getD_getElem?]
  rw [Nat.sub_zero] at hx
  have hlt:t<vs.length:=(List.getElem?_eq_some_iff.1 hx).1
  rw [Array.getElem?_append_left (by simpa using hlt)]
  simp [hx]
 rw [this];exact hvx
def Sg.take (σ:Sg) (b:Nat):Sg:={ σ with w:=σ.w.putObj b (.deferred none) }
theorem take_other {b c:Nat} (h:c≠b):(σ.take b).w.heap[c]?=σ.w.heap[c]?:=World.putObj_heap_other h
theorem lv_take {b:Nat} (hb:σ.w.heap[b]?=some (.deferred (some []))) (hJ:¬σ.J b) (ho:∀n o,σ.h n=some o→σ.r n≠b):Lv σ (σ.take b) where
 icell:=fun c off h=>⟨h,by
  by_cases e:c=b
  ·subst e
   have hlt:=(Array.getElem?_eq_some_iff.1 hb).1
   have:(σ.take c).w.heap[c]?=some (.deferred none):=World.putObj_heap_same hlt
   simp [World.cell?,hb,this]
  ·exact cell_same (take_other e)⟩
 jmap:=fun c h=>⟨h,take_other (fun e=>hJ (e ▸ h))⟩
 cells:=fun n es s fz h=>.inr ⟨es,fz,h,Nat.le_refl _,.inl ⟨rfl,fun arr t rg ha=>⟨arr,t,rg,(take_other (ho n _ h)).trans ha,rfl⟩⟩⟩
 maps:=fun n ks vs bs c fz h=>.inr ⟨rfl,ks,vs,bs,c,fz,h⟩
 loops:=fun n T N ps asg body st pend h=>⟨rfl,st,pend,h⟩
 deads:=fun _ h=>h
theorem sr_take {b:Nat} (hb:σ.w.heap[b]?=some (.deferred (some []))) (hJ:¬σ.J b) (ho:∀n o,σ.h n=some o→σ.r n≠b) (sr:SR σ):SR (σ.take b) where
 obj:=fun n o h=>OR.keepV (lv_take hb hJ ho) (sr.obj n o h) rfl (take_other (ho n o h)) (fun _ h=>h) (fun h=>h)
 inj:=sr.inj
 lt:=fun n o h=>by have:=sr.lt n o h;show σ.r n<(σ.w.putObj b _).heap.size;rw [World.putObj_size];exact this
 ilt:=fun c off h=>by have:=sr.ilt c off h;show c<(σ.w.putObj b _).heap.size;rw [World.putObj_size];exact this
 jlt:=fun c h=>by have:=sr.jlt c h;show c<(σ.w.putObj b _).heap.size;rw [World.putObj_size];exact this
 alive:=sr.alive
theorem le_take {b:Nat} (hb:σ.w.heap[b]?=some (.deferred (some []))) (hJ:¬σ.J b) (ho:∀n o,σ.h n=some o→σ.r n≠b) {σ0:Sg} (l:Le σ0 σ) (h0:σ0.w.heap.size≤b):Le σ0 (σ.take b) where
 os:=l.os
 tape:=l.tape
 output:=l.output
 size:=by show _≤(σ.w.putObj b _).heap.size;rw [World.putObj_size];exact l.size
 frame:=fun c hc hn=>(take_other (by omega)).trans (l.frame c hc hn)
 old:=l.old
 icell:=fun c off h=>let ⟨p,q⟩:=l.icell c off h;let ⟨p',q'⟩:=(lv_take hb hJ ho).icell c off p;⟨p',q'.trans q⟩
 inew:=l.inew
 jnew:=l.jnew
 jmap:=fun c h=>let ⟨p,q⟩:=l.jmap c h;let ⟨p',q'⟩:=(lv_take hb hJ ho).jmap c p;⟨p',q'.trans q⟩
 cells:=fun n es s fz h=>by
  rcases l.cells n es s fz h with d | ⟨es',fz',h',hlen,⟨hr,hs⟩ | ⟨hlt,hge⟩⟩
  ·exact .inl d
  ·refine .inr ⟨es',fz',h',hlen,.inl ⟨hr,fun arr t rg ha=>?_⟩⟩
   obtain ⟨arr',t',rg',q1,q2⟩:=hs arr t rg ha
   exact ⟨arr',t',rg',(take_other (by rw [←hr];exact ho n _ h')).trans q1,q2⟩
  ·exact .inr ⟨es',fz',h',hlen,.inr ⟨hlt,hge⟩⟩
 maps:=l.maps
 loops:=l.loops
 deads:=l.deads
theorem Marks.take {B b:Nat}:∀{ds:List Deferred},Marks B σ ds→(∀d'∈ds,d'.target≠.collected b)→Marks B (σ.take b) ds
 |[],_,_=>trivial
 |d::ds,⟨⟨c,h1,h2,h3,h4,h0,h5,h6⟩,hr⟩,hne=>by
  have hcb:c≠b:=fun e=>hne d (by simp) (by rw [h1,e])
  exact ⟨⟨c,h1,h2,by show c<(σ.w.putObj b _).heap.size;rw [World.putObj_size];exact h3,(take_other hcb).trans h4,h0,h5,h6⟩,hr.take (fun d' hd=>hne d' (by simp [hd]))⟩
theorem leaves_marks {σ0:Sg} {B:Nat} (hB:σ0.w.heap.size≤B) {fn:Func} {tmps:Array Value} {R:Ending→World→Prop} {u:FrameMode} (hu:u≠.run):∀(ds:List Deferred) (σ:Sg),Marks B σ ds→SR σ→Le σ0 σ→
 (∀σ',SR σ'→Le σ0 σ'→σ'.h=σ.h→σ'.dead=σ.dead→σ.w.heap.size=σ'.w.heap.size→(∀x v,VR σ x v→VR σ' x v)→LeavesIn Fence.wide 0 P fn tmps R [] u σ'.w)→LeavesInM Fence.wide 0 P fn tmps R ds u σ.w
 |[],σ,_,sr,l,h=>h σ sr l rfl rfl rfl (fun _ _ h=>h)
 |d::ds,σ,⟨⟨b,h1,h2,h3,h4,h0,h5,h6⟩,hr⟩,sr,l,h=>by
  refine ⟨hu,.inl ⟨b,σ.w.putObj b (.deferred none),by rw [h1],run_takeDeferred h4,?_⟩⟩
  refine leaves_marks hB hu ds (σ.take b) (hr.take h6) (sr_take h4 h0 h5 sr) (le_take h4 h0 h5 l (by omega)) fun σ' sr' l' q1 q2 q3 q4=>?_
  refine h σ' sr' l' q1 q2 ?_ (fun x v hx=>q4 x v (hx.monoV (lv_take h4 h0 h5)))
  rw [←q3]
  show _=(σ.w.putObj b _).heap.size
  rw [World.putObj_size]
def ends2 (tab:Tab) (rs:List ResultVar) (r:Out) (H1:Heap):Post:=fun e T H=>match e with
 |.normal | .ret=>H=H1∧∃v,resA tab T H rs=some v∧r=.ret v
 |.pan v=>H=H1∧r=.pan v
 |_=>False
theorem valid2_of (tabOk : TabOK P tab) {f : FuncId} {fn : Func} {c : Code} {args : List AV} {H H1 : Heap} {r : Out} (hf : P.funcs[f]? = some fn) (hb : fn.body = some c) (hn : (fn.name == "runtime.NumGoroutine") = false) (hl : args.length ≤ fn.ntmps)
 (h:CW P .out fn.ntmps H.next c (argT 0 args) H (ends2 tab fn.results.toList r H1)):Valid2 P f args H r H1:=by
 refine ⟨⟨fn,hf,by rw [hb];rfl,hn⟩,fun σ vs sr hh hfr hv=>(callsIn_wide (n:=0)).1 ?_⟩
 refine callsIn_of_wp_marks hf hb trivial ?_
 have hlen:=hv.length
 refine wpIn_mono (h σ.w.heap.size σ _ ⟨⟨⟨sr,hh,hfr⟩,argT_tr hv,by simp;omega⟩,Nat.le_refl _,trivial,Nat.le_refl _⟩) fun e a w h=>?_
 obtain ⟨σ',rfl,l,h⟩:=h
 have dd:∀{σ':Sg} {n},Lg H.next σ σ'→(∀m,n≤m→σ'.h m=none∧¬σ'.dead m)→∀m,σ'.dead m→Used σ m∨(H.next≤m∧m<n):=fun {σ'} {n} l hfr m hm=>by
  rcases l.2 m (.inr hm) with q | q
  ·exact .inl q
  ·refine .inr ⟨q,?_⟩
   rcases Nat.lt_or_ge m n with p | p
   ·exact p
   ·exact absurd hm (hfr m p).2
 have lg:∀{s:Sg},Le σ s→s.h=σ'.h→s.dead=σ'.dead→Lg H.next σ s:=fun {s} l1 q1 q2=>⟨l1,fun m hm=>l.2 m (by unfold Used at hm ⊢;rwa [q1,q2] at hm)⟩
 have done:∀(u:FrameMode),u=.returning→(∃T H',Arr fn.ntmps H.next σ.w.heap.size σ' a T H'∧H'=H1∧∃v,resA tab T H' fn.results.toList=some v∧r=.ret v)→
  LeavesInM Fence.wide 0 P fn a.tmps (fun e w'=>∃s,s.w=w'∧s.h=look H1.objs∧Le σ s∧SR s∧H.next≤H1.next∧(∀m,s.dead m→Used σ m∨(H.next≤m∧m<H1.next))∧(∀m,H1.next≤m→s.h m=none∧¬s.dead m)∧OutR s r e) a.defers u σ'.w:=by
  rintro u rfl ⟨T,H',ar,rfl,v,hv,rfl⟩
  refine leaves_marks (σ0:=σ) (Nat.le_refl _) (by simp) a.defers σ' ar.mks ar.ss.sr l.1 fun s srs ls q1 q2 _ q4=>?_
  have fr:∀m,H'.next≤m→s.h m=none∧¬s.dead m:=fun m hm=>by rw [q1,q2];exact ar.ss.fresh m hm
  obtain ⟨x,hx,hxv⟩:=results_vr (σ:=s) (N:=fn.ntmps) (T:=T) (H:=H') (a:=a) tabOk ⟨⟨srs,q1.trans ar.ss.h,fr⟩,fun t v hv=>q4 _ _ (ar.ss.tr t v hv),ar.ss.size⟩ hv
  exact ⟨x,hx,s,rfl,q1.trans ar.ss.h,ls,srs,ar.n0,dd (lg ls q1 q2) fr,fr,hxv⟩
 cases e<;>simp only [ends2] at h<;>simp only [bodyPostM]
 case normal=>exact done _ rfl h
 case ret=>exact done _ rfl h
 case panic ch=>
  obtain ⟨v,H',x,h1,_,mks,rfl,sp,hx,rfl,rfl⟩:=h
  refine leaves_marks (σ0:=σ) (Nat.le_refl _) (by simp) a.defers σ' mks sp.sr l.1 fun s srs ls q1 q2 _ q4=>?_
  have fr:∀m,H'.next≤m→s.h m=none∧¬s.dead m:=fun m hm=>by rw [q1,q2];exact sp.fresh m hm
  exact ⟨s,rfl,q1.trans sp.h,ls,srs,h1,dd (lg ls q1 q2) fr,fr,x,rfl,q4 _ _ hx⟩
 case exit=>obtain ⟨_,_,_,h⟩:=h;exact h
 case goto=>obtain ⟨_,_,_,h⟩:=h;exact h
def ends1 (tab:Tab) (rs:List ResultVar) (r:Out):Post:=fun e T H=>match e with
 |.normal | .ret=>∃v,resA tab T H rs=some v∧∃k x ns,viewA H k v=some (x,ns)∧r=.ret x
 |.pan v=>∃k x ns,viewA H k v=some (x,ns)∧r=.pan x
 |_=>False
theorem tvs_vrs:∀{xs:List AV} {vs:List Value},TVs σ.w σ.I σ.J xs vs→VRs σ xs vs
 |[],_,.nil=>.nil
 |_::_,_,.cons h hs=>.cons (.tree h) (tvs_vrs hs)
theorem valid_of (tabOk : TabOK P tab) {f : FuncId} {fn : Func} {c : Code} {args : List AV} {r : Out} (hf : P.funcs[f]? = some fn) (hb : fn.body = some c) (hn : (fn.name == "runtime.NumGoroutine") = false) (hl : args.length ≤ fn.ntmps)
 (h:CW P .out fn.ntmps 0 c (argT 0 args) ⟨[],0⟩ (ends1 tab fn.results.toList r)):Valid P f args r:=by
 refine ⟨⟨fn,hf,by rw [hb];rfl,hn⟩,fun w I J vs hI hJ hv=>(callsIn_wide (n:=0)).1 ?_⟩
 refine callsIn_of_wp_marks hf hb trivial ?_
 let σ:Sg:=⟨w,I,J,fun _=>0,fun _=>none,fun _=>False⟩
 have sr:SR σ:=⟨fun n o h=>by (cases h),fun n m o p h=>by (cases h),fun n o h=>by (cases h),hI,hJ,fun n o h=>by (cases h)⟩
 have hvr:VRs σ args vs:=tvs_vrs hv
 have hlen:=hvr.length
 refine wpIn_mono (h w.heap.size σ _ ⟨⟨⟨sr,rfl,fun m _=>⟨rfl,fun h=>h⟩⟩,argT_tr hvr,by simp;omega⟩,Nat.le_refl _,trivial,Nat.le_refl _⟩) fun e a w' h=>?_
 obtain ⟨σ',rfl,l,h⟩:=h
 have out:∀{s:Sg} {H:Heap} {v x:AV} {xv:Value} {k:Nat} {ns:List Nat},Le σ s→SP s H→VR s v xv→viewA H k v=some (x,ns)→
  RowKit.Below w.heap.size w s.w∧∃(I':Nat→Nat→Prop) (J':Nat→Prop),(∀b off,I b off→I' b off)∧(∀b off,I' b off→I b off∨(w.heap.size≤b∧b<s.w.heap.size))∧
   (∀b,J b→J' b)∧(∀b,J' b→J b∨(w.heap.size≤b∧b<s.w.heap.size))∧TV s.w I' J' x xv:=by
  intro s H v x xv k ns l sp hv hview
  have ll:=le_lend sp.sr ns
  have sl:=sr_lend sp.sr ns
  have tv:=view_vr sp.sr (H:=H) (ns0:=ns) k v x ns xv hv hview (fun n _=>by rw [sp.h]) (fun n hn=>hn)
  have lt:Le σ (s.lend ns):=l.trans sp.sr ll sl
  refine ⟨⟨l.os,l.tape,l.output,l.size,fun k hk=>l.frame k hk (fun n o ho=>by cases ho)⟩,(s.lend ns).I,(s.lend ns).J,fun b off h=>(lt.icell b off h).1,fun b off h=>?_,fun b h=>(lt.jmap b h).1,fun b h=>?_,tv⟩
  ·rcases Nat.lt_or_ge b w.heap.size with q | q
   ·exact .inl (lt.inew b off h q (fun n o ho=>by cases ho))
   ·exact .inr ⟨q,sl.ilt b off h⟩
  ·rcases Nat.lt_or_ge b w.heap.size with q | q
   ·exact .inl (lt.jnew b h q (fun n o ho=>by cases ho))
   ·exact .inr ⟨q,sl.jlt b h⟩
 have done:∀(u:FrameMode),u=.returning→(∃T H',Arr fn.ntmps 0 w.heap.size σ' a T H'∧∃v,resA tab T H' fn.results.toList=some v∧∃k x ns,viewA H' k v=some (x,ns)∧r=.ret x)→
  LeavesInM Fence.wide 0 P fn a.tmps (fun e w'=>RowKit.Below w.heap.size w w'∧∃(I':Nat→Nat→Prop) (J':Nat→Prop),(∀b off,I b off→I' b off)∧(∀b off,I' b off→I b off∨(w.heap.size≤b∧b<w'.heap.size))∧
   (∀b,J b→J' b)∧(∀b,J' b→J b∨(w.heap.size≤b∧b<w'.heap.size))∧OutV w' I' J' r e) a.defers u σ'.w:=by
  rintro u rfl ⟨T,H',ar,v,hv,k,x,ns,hx,rfl⟩
  refine leaves_marks (σ0:=σ) (Nat.le_refl _) (by simp) a.defers σ' ar.mks ar.ss.sr l.1 fun s srs ls q1 q2 _ q4=>?_
  have fr:∀m,H'.next≤m→s.h m=none∧¬s.dead m:=fun m hm=>by rw [q1,q2];exact ar.ss.fresh m hm
  have sps:SP s H':=⟨srs,q1.trans ar.ss.h,fr⟩
  obtain ⟨y,hy,hyv⟩:=results_vr (σ:=s) (N:=fn.ntmps) (T:=T) (H:=H') (a:=a) tabOk ⟨sps,fun t v hv=>q4 _ _ (ar.ss.tr t v hv),ar.ss.size⟩ hv
  exact ⟨y,hy,out ls sps hyv hx⟩
 cases e<;>simp only [ends1] at h<;>simp only [bodyPostM]
 case normal=>exact done _ rfl h
 case ret=>exact done _ rfl h
 case panic ch=>
  obtain ⟨v,H',y,h1,_,mks,rfl,sp,hy,k,x,ns,hx,rfl⟩:=h
  refine leaves_marks (σ0:=σ) (Nat.le_refl _) (by simp) a.defers σ' mks sp.sr l.1 fun s srs ls q1 q2 _ q4=>?_
  have fr:∀m,H'.next≤m→s.h m=none∧¬s.dead m:=fun m hm=>by rw [q1,q2];exact sp.fresh m hm
  obtain ⟨bel,I',J',h1,h2,h3,h4,h5⟩:=out ls ⟨srs,q1.trans sp.h,fr⟩ (q4 _ _ hy) hx
  exact ⟨bel,I',J',h1,h2,h3,h4,y,rfl,h5⟩
 case exit=>obtain ⟨_,_,_,h⟩:=h;exact h
 case goto=>obtain ⟨_,_,_,h⟩:=h;exact h
end Go.Abs
end
section
namespace Go.Abs
variable {P:Program} {tab:Tab} {σ:Sg}
def endsO (tab:Tab) (rs:List ResultVar) (es:List (List AV)) (s fz:Nat):Post:=fun e T H=>match e with
 |.normal | .ret=>∃n g c es0 k ns len,resA tab T H rs=some (.sl n g 0 len c)∧look H.objs n=some (.cells es0 s fz)∧es0.length=g∧len≤g∧viewLists (viewA H k) (es0.take len)=some (es,ns)∧n∉ns
 |_=>False
theorem vrs_split:∀{xs ys:List AV} {vs:List Value},VRs σ (xs++ys) vs→∃f1 f2,vs=f1++f2∧VRs σ xs f1
 |[],_,vs,_=>⟨[],vs,rfl,.nil⟩
 |x::xs,ys,_,.cons h hs=>by
  obtain ⟨f1,f2,rfl,h2⟩:=vrs_split (xs:=xs) hs
  exact ⟨_::f1,f2,rfl,.cons h h2⟩
theorem validOwn_of (tabOk : TabOK P tab) {f : FuncId} {fn : Func} {c : Code} {args : List AV} {es : List (List AV)} {s fz : Nat} (hf : P.funcs[f]? = some fn) (hb : fn.body = some c) (hn : (fn.name == "runtime.NumGoroutine") = false) (hl : args.length ≤ fn.ntmps)
 (h:CW P .out fn.ntmps 0 c (argT 0 args) ⟨[],0⟩ (endsO tab fn.results.toList es s fz)):ValidOwn P f args es s fz:=by
 refine ⟨⟨fn,hf,by rw [hb];rfl,hn⟩,fun w I J vs hI hJ hv=>(callsIn_wide (n:=0)).1 ?_⟩
 refine callsIn_of_wp_marks hf hb trivial ?_
 let σ:Sg:=⟨w,I,J,fun _=>0,fun _=>none,fun _=>False⟩
 have sr:SR σ:=⟨fun n o h=>by (cases h),fun n m o p h=>by (cases h),fun n o h=>by (cases h),hI,hJ,fun n o h=>by (cases h)⟩
 have hvr:VRs σ args vs:=tvs_vrs hv
 have hlen:=hvr.length
 refine wpIn_mono (h w.heap.size σ _ ⟨⟨⟨sr,rfl,fun m _=>⟨rfl,fun h=>h⟩⟩,argT_tr hvr,by simp;omega⟩,Nat.le_refl _,trivial,Nat.le_refl _⟩) fun e a w' h=>?_
 obtain ⟨σ1,rfl,l1,h⟩:=h
 have done:∀(u:FrameMode),u=.returning→(∃T H',Arr fn.ntmps 0 w.heap.size σ1 a T H'∧∃n g c es0 k ns len,resA tab T H' fn.results.toList=some (.sl n g 0 len c)∧look H'.objs n=some (.cells es0 s fz)∧es0.length=g∧len≤g∧viewLists (viewA H' k) (es0.take len)=some (es,ns)∧n∉ns)→
  LeavesInM Fence.wide 0 P fn a.tmps (fun e w'=>RowKit.Below w.heap.size w w'∧∃(I':Nat→Nat→Prop) (J':Nat→Prop),(∀b off,I b off→I' b off)∧(∀b off,I' b off→I b off∨(w.heap.size≤b∧b<w'.heap.size))∧
   (∀b,J b→J' b)∧(∀b,J' b→J b∨(w.heap.size≤b∧b<w'.heap.size))∧∃B cap,Fresh1 w w' I' J' es s fz B cap∧e=.returned (.slice (some ⟨B,0,none⟩) es.length cap)) a.defers u σ1.w:=by
  rintro u rfl ⟨T,H',ar,n,g,c,es0,k,ns,len,hv,ho,hg,hlg,hview,hnn⟩
  refine leaves_marks (σ0:=σ) (Nat.le_refl _) (by simp) a.defers σ1 ar.mks ar.ss.sr l1.1 fun σ' sr' l w1 w2 _ w4=>?_
  have fr:∀m,H'.next≤m→σ'.h m=none∧¬σ'.dead m:=fun m hm=>by rw [w1,w2];exact ar.ss.fresh m hm
  have sps:SP σ' H':=⟨sr',w1.trans ar.ss.h,fr⟩
  obtain ⟨y,hy,hyv⟩:=results_vr (σ:=σ') (N:=fn.ntmps) (T:=T) (H:=H') (a:=a) tabOk ⟨sps,fun t v hv=>w4 _ _ (ar.ss.tr t v hv),ar.ss.size⟩ hv
  have bel:RowKit.Below w.heap.size w σ'.w:=⟨l.os,l.tape,l.output,l.size,fun k hk=>l.frame k hk (fun n o ho=>by cases ho)⟩
  have ll:=le_lend sr' ns
  have sl:=sr_lend sr' ns
  have lt:Le σ (σ'.lend ns):=l.trans sr' ll sl
  have hn:σ'.h n=some (.cells es0 s fz):=by rw [sps.h];exact ho
  obtain ⟨cap',arr,t',rg,rfl,hw,_,hr,hle,_⟩:=hyv.sl_inv sr' hn hg
  obtain ⟨arr0,t0,rg0,full,q1,qj,q2,q3,q4,q5,q6,q7⟩:=sr'.obj n _ hn
  rw [hw] at q1
  cases q1
  obtain ⟨n3,h3,h4,h5⟩:=viewLists_flat hview
  have hel:es.length=len:=by have:=congrArg List.length h5;simp at this;omega
  have hes:∀e∈es,e.length=s:=fun e he=>by
   have:e.length∈es.map List.length:=List.mem_map_of_mem he
   rw [h5] at this
   obtain ⟨e',he',hl⟩:=List.mem_map.1 this
   rw [←hl];exact q4 e' (List.mem_of_mem_take he')
  obtain ⟨f1,f2,hff,q3⟩:∃f1 f2,full=f1++f2∧VRs σ' (es0.take len).flatten f1:=by
   rw [←List.take_append_drop len es0,List.flatten_append] at q3
   exact vrs_split q3
  have htv:LTVs σ' ns es.flatten f1:=viewList_vr (fun x x' m v h1 h2 h3 h4=>view_vr sr' (H:=H') k x x' m v h1 h2 h3 h4) q3 h3 (fun n _=>by rw [sps.h]) (fun m hm=>(h4 m).1 hm)
  have hapart:∀m∈ns,∀o,σ'.h m=some o→σ'.r m≠σ'.r n:=fun m hm o ho e=>hnn (by rw [←sr'.inj m n o _ ho hn e];exact hm)
  refine ⟨_,hy,bel,(σ'.lend ns).I,(σ'.lend ns).J,fun b off h=>(lt.icell b off h).1,fun b off h=>?_,fun b h=>(lt.jmap b h).1,fun b h=>?_,σ'.r n,cap',⟨l.old n _ hn rfl,sr'.lt n _ hn,⟨arr,t',rg,f1,hw,?_,q2,htv,hes,by rw [hff,List.length_append] at q5;omega,fun j v hj=>q6 j v (by rw [hff,List.getElem?_append_left (by exact (List.getElem?_eq_some_iff.1 hj).1)];exact hj),?_,by rw [Nat.zero_add] at hr;exact hr⟩,by rw [hel];exact hle⟩,by rw [hel,Nat.zero_mul]⟩
  ·rcases Nat.lt_or_ge b w.heap.size with q | q
   ·exact .inl (lt.inew b off h q (fun n o ho=>by cases ho))
   ·exact .inr ⟨q,sl.ilt b off h⟩
  ·rcases Nat.lt_or_ge b w.heap.size with q | q
   ·exact .inl (lt.jnew b h q (fun n o ho=>by cases ho))
   ·exact .inr ⟨q,sl.jlt b h⟩
  ·rintro (h | ⟨m,hm,hr',ks,vs,bs,c,fz',hh⟩)
   ·exact qj h
   ·exact hapart m hm _ hh hr'
  ·rintro off ho' (h | ⟨m,hm,hr',es',s',fz',hh,_⟩)
   ·exact q7 off ho' h
   ·exact hapart m hm _ hh hr'
 cases e<;>simp only [endsO] at h<;>simp only [bodyPostM]
 case normal=>exact done _ rfl h
 case ret=>exact done _ rfl h
 case panic ch=>obtain ⟨_,_,_,_,_,_,_,_,_,h⟩:=h;exact h.elim
 case exit=>obtain ⟨_,_,_,h⟩:=h;exact h
 case goto=>obtain ⟨_,_,_,h⟩:=h;exact h
end Go.Abs
end
section
namespace Go.Abs
variable {P:Program} {tab:Tab} {N n0:Nat} {σ:Sg}
def Sg.setLoop (σ:Sg) (n:Nat) (rec:Loop) (o:AO):Sg:={ σ with w:=σ.w.putObj (σ.r n) (.loop rec),h:=upd σ.h n (some o) }
theorem write_loop (sr:SR σ) {n:Nat} {T:TL} {N:Nat} {ps:List Tmp} {asg body:Code} {st:LoopState} {pend:Option Code} (hn:σ.h n=some (.loop T N ps asg body st pend)) {rec:Loop} (hrec:σ.w.heap[σ.r n]?=some (.loop rec)) (st':LoopState) (pend':Option Code) :
 Le σ (σ.setLoop n { rec with state:=st',pending:=pend' } (.loop T N ps asg body st' pend'))∧SR (σ.setLoop n { rec with state:=st',pending:=pend' } (.loop T N ps asg body st' pend')):=by
 obtain ⟨rec0,h1,h2,h3,h4,h5,h6,h7,h8,h9⟩:=sr.obj n _ hn
 rw [hrec] at h1
 cases h1
 have hlt:=sr.lt n _ hn
 let σ':=σ.setLoop n { rec with state:=st',pending:=pend' } (.loop T N ps asg body st' pend')
 have hblock:σ'.w.heap[σ.r n]?=some (.loop { rec with state:=st',pending:=pend' }):=World.putObj_heap_same hlt
 have hother:∀c,c≠σ.r n→σ'.w.heap[c]?=σ.w.heap[c]?:=fun c hc=>World.putObj_heap_other hc
 have hsize:σ'.w.heap.size=σ.w.heap.size:=World.putObj_size
 have l:Le σ σ':={
  os:=rfl
  tape:=rfl
  output:=rfl
  size:=by rw [hsize];exact Nat.le_refl _
  frame:=fun b _ h=>hother b (fun e=>h n _ hn e.symm)
  old:=fun m p h h'=>by
   by_cases e:m=n
   ·subst e;rw [hn] at h';cases h'
   ·simp only [σ',Sg.setLoop,upd_ne _ _ e] at h;rw [h] at h';cases h'
  icell:=fun b off h=>⟨h,by
   by_cases e:b=σ.r n
   ·subst e
    simp [World.cell?,hblock,hrec]
   ·exact cell_same (hother b e)⟩
  inew:=fun _ _ h _ _=>h
  jnew:=fun _ h _ _=>h
  jmap:=fun b h=>⟨h,hother b (fun e=>h2 (e ▸ h))⟩
  cells:=fun m es0 s0 fz0 h=>by
   right
   by_cases e:m=n
   ·subst e;rw [hn] at h;cases h
   ·refine ⟨es0,fz0,by simp only [σ',Sg.setLoop,upd_ne _ _ e];exact h,Nat.le_refl _,.inl ⟨rfl,fun a t1 r1 ha=>⟨a,t1,r1,?_,rfl⟩⟩⟩
    rw [hother _ (fun q=>e (sr.inj m n _ _ h hn q))]
    exact ha
  maps:=fun m ks0 xs0 bs0 c f h=>by
   right
   by_cases e:m=n
   ·subst e;rw [hn] at h;cases h
   ·exact ⟨rfl,ks0,xs0,bs0,c,f,by simp only [σ',Sg.setLoop,upd_ne _ _ e];exact h⟩
  loops:=fun m T0 N0 ps0 asg0 body0 st0 pend0 h=>by
   by_cases e:m=n
   ·subst e
    rw [hn] at h;cases h
    exact ⟨rfl,st',pend',upd_same _ _ _⟩
   ·exact ⟨rfl,st0,pend0,by simp only [σ',Sg.setLoop,upd_ne _ _ e];exact h⟩
  deads:=fun _ h=>h }
 refine ⟨l,sr_upd sr l n _ rfl (fun _ _=>rfl) (fun m p e h=>hother _ (fun q=>e (sr.inj m n _ _ h hn q))) rfl rfl rfl ?_ ?_ (fun m p e h q=>e (sr.inj n m _ _ hn h q).symm) (sr.alive n _ hn)⟩
 ·exact ⟨_,hblock,h2,rfl,rfl,h5,h6,h7,h8,fun t v hv=>(h9 t v hv).mono l⟩
 ·rw [hsize];exact hlt
theorem le_alloc (sr:SR σ) (o:Obj):Le σ { σ with w:=σ.w.alloc o }∧SR { σ with w:=σ.w.alloc o }:=by
 have l:Le σ { σ with w:=σ.w.alloc o }:={
  os:=rfl
  tape:=rfl
  output:=rfl
  size:=by show _≤(σ.w.alloc o).heap.size;rw [World.size_alloc];omega
  frame:=fun b hb _=>heap_alloc_lt _ _ hb
  old:=fun n p h h'=>by
   rw [show ({ σ with w:=σ.w.alloc o }:Sg).h=σ.h from rfl,h'] at h;cases h
  icell:=fun b off h=>⟨h,cell_same (heap_alloc_lt _ _ (sr.ilt b off h))⟩
  inew:=fun _ _ h _ _=>h
  jnew:=fun _ h _ _=>h
  jmap:=fun b h=>⟨h,heap_alloc_lt _ _ (sr.jlt b h)⟩
  cells:=fun n es s fz h=>.inr ⟨es,fz,h,Nat.le_refl _,.inl ⟨rfl,fun arr t rg ha=>⟨arr,t,rg,(heap_alloc_lt _ _ (sr.lt n _ h)).trans ha,rfl⟩⟩⟩
  maps:=fun n ks vs bs c fz h=>.inr ⟨rfl,ks,vs,bs,c,fz,h⟩
  loops:=fun n T N ps asg body st pend h=>⟨rfl,st,pend,h⟩
  deads:=fun _ h=>h }
 have up:∀b,b<σ.w.heap.size→b<(σ.w.alloc o).heap.size:=fun b h=>by rw [World.size_alloc];omega
 exact ⟨l,{
  obj:=fun n p h=>OR.keep l (sr.obj n p h) rfl (heap_alloc_lt _ _ (sr.lt n p h)) (fun _ h=>h) (fun h=>h)
  inj:=sr.inj
  lt:=fun n p h=>up _ (sr.lt n p h)
  ilt:=fun b off h=>up _ (sr.ilt b off h)
  jlt:=fun b h=>up _ (sr.jlt b h)
  alive:=sr.alive }⟩
def putsT (T:TL):List Tmp→List AV→TL
 |p::ps,v::vs=>putsT (put T p v) ps vs
 |_,_=>T
def putsV (tmps:Array Value):List Tmp→List Value→Array Value
 |p::ps,v::vs=>putsV (tmps.setIfInBounds p v) ps vs
 |_,_=>tmps
theorem putsV_size:∀(ps:List Tmp) (vs:List Value) (tmps:Array Value),(putsV tmps ps vs).size=tmps.size
 |[],_,_=>by simp [putsV]
 |_::_,[],_=>by simp [putsV]
 |p::ps,v::vs,tmps=>by rw [putsV,putsV_size ps vs];simp
theorem putsV_eq (ps:List Tmp) (vs:List Value) (tmps:Array Value):(ps.toArray.zip vs.toArray).foldl (fun tmps (t,a)=>tmps.setIfInBounds t a) tmps=putsV tmps ps vs:=by
 rw [←Array.foldl_toList]
 simp only [Array.toList_zip]
 induction ps generalizing vs tmps with
 |nil=>simp [putsV]
 |cons p ps ih=>
  cases vs with
  |nil=>simp [putsV]
  |cons v vs=>simp only [List.zip_cons_cons,List.foldl_cons,putsV];exact ih vs _
theorem puts_vr:∀{ps:List Tmp} {xs:List AV} {vs:List Value} {T:TL} {tmps:Array Value},VRs σ xs vs→(∀p∈ps,p<tmps.size)→(∀t v,look T t=some v→VR σ v (tmps.getD t undef))→
 ∀t v,look (putsT T ps xs) t=some v→VR σ v ((putsV tmps ps vs).getD t undef)
 |[],_,_,T,tmps,h,hp,hT=>by cases h<;>(simp only [putsT,putsV];exact hT)
 |p::ps,_,_,T,tmps,.nil,hp,hT=>by simp only [putsT,putsV];exact hT
 |p::ps,_,_,T,tmps,.cons (c:=x) (v:=u) h hs,hp,hT=>by
  simp only [putsT,putsV]
  refine puts_vr hs (fun q hq=>by simp;exact hp q (by simp [hq])) (fun t v ht=>?_)
  rw [look_put] at ht
  have hlt:=hp p (by simp)
  split at ht
  ·rename_i e
   subst e
   cases ht
   rw [Array.getD_eq_getD_getElem?,Array.getElem?_setIfInBounds_self_of_lt hlt]
   exact h
  ·rename_i e
   rw [Array.getD_eq_getD_getElem?,Array.getElem?_setIfInBounds_ne e,←Array.getD_eq_getD_getElem?]
   exact hT t v ht
theorem lg_loop (sr:SR σ) {n0 n:Nat} {T:TL} {N:Nat} {ps:List Tmp} {asg body:Code} {st:LoopState} {pend:Option Code} (hn:σ.h n=some (.loop T N ps asg body st pend)) {rec:Loop} (hrec:σ.w.heap[σ.r n]?=some (.loop rec)) (st':LoopState) (pend':Option Code) :
 Lg n0 σ (σ.setLoop n { rec with state:=st',pending:=pend' } (.loop T N ps asg body st' pend')):=by
 refine ⟨(write_loop sr hn hrec st' pend').1,fun m hm=>.inl ?_⟩
 rcases hm with hm | hm
 ·by_cases e:m=n
  ·subst e;exact .inl (by rw [hn];simp)
  ·exact .inl (by simpa [Sg.setLoop,upd_ne _ _ e] using hm)
 ·exact .inr hm
theorem sp_loop {H:Heap} (sp:SP σ H) {n:Nat} {T:TL} {N:Nat} {ps:List Tmp} {asg body:Code} {st:LoopState} {pend:Option Code} (hn:look H.objs n=some (.loop T N ps asg body st pend)) {rec:Loop} (hrec:σ.w.heap[σ.r n]?=some (.loop rec)) (st':LoopState) (pend':Option Code) :
 SP (σ.setLoop n { rec with state:=st',pending:=pend' } (.loop T N ps asg body st' pend')) ⟨put H.objs n (.loop T N ps asg body st' pend'),H.next⟩:=by
 have hn':σ.h n=some (.loop T N ps asg body st pend):=by rw [sp.h];exact hn
 refine ⟨(write_loop sp.sr hn' hrec st' pend').2,?_,fun m hm=>?_⟩
 ·funext m
  simp only [Sg.setLoop,look_put,upd]
  by_cases e:m=n
  ·subst e;simp
  ·rw [if_neg e,if_neg (fun q=>e q.symm),sp.h]
 ·have hne:m≠n:=fun e=>by
   have:=(sp.fresh m hm).1
   rw [e,hn'] at this;cases this
  obtain ⟨h1,h2⟩:=sp.fresh m hm
  exact ⟨by simp only [Sg.setLoop,upd_ne _ _ hne];exact h1,h2⟩
def roundP (n:Nat) (r:Out) (H':Heap):Post:=fun e _ H=>∃T N ps asg body,look H.objs n=some (.loop T N ps asg body .busy none)∧
 match e with
 |.normal=>r=.ret (.sc (.bool true))∧H'=⟨put H.objs n (.loop T N ps asg body .ready none),H.next⟩
 |.ret=>r=.ret (.sc (.bool false))∧H'=⟨put H.objs n (.loop T N ps asg body .done (some .ret)),H.next⟩
 |.exit id=>r=.ret (.sc (.bool false))∧H'=⟨put H.objs n (.loop T N ps asg body .done (some (.exit id))),H.next⟩
 |.goto l=>r=.ret (.sc (.bool false))∧H'=⟨put H.objs n (.loop T N ps asg body .done (some (.goto l))),H.next⟩
 |.pan _=>False
theorem round_of {n:Nat} {T:TL} {N:Nat} {ps:List Tmp} {asg body:Code} {args:List AV} {H:Heap} {r:Out} {H':Heap} (hn:look H.objs n=some (.loop T N ps asg body .ready none)) (hlen:args.length=ps.length) (hps:∀p∈ps,p<N)
 (h:∀l,CW P (.rnd l) N H.next asg (putsT T ps args) H fun e T2 H2=>e=.normal∧∃T' N' ps' asg' body',look H2.objs n=some (.loop T' N' ps' asg' body' .ready none)∧
   CW P (.rnd l) N H.next body T2 ⟨put H2.objs n (.loop T' N' ps' asg' body' .busy none),H2.next⟩ (roundP n r H')):Round2 P n args H r H':=by
 intro σ vs sr hh hfr hvs
 have hn':σ.h n=some (.loop T N ps asg body .ready none):=by rw [hh];exact hn
 obtain ⟨rec,h1,h2,h3,h4,h5,h6,h7,h8,h9⟩:=sr.obj n _ hn'
 have hl:=hvs.length
 refine ⟨rec.fn,_,rec.assign,rec.body,run_yield h1 (by have:=congrArg List.length h5;simp at this ⊢;omega),roundIn_of_wpIn (F:=Fence.wide) trivial ?_⟩
 rw [h6,h7]
 have e1:(rec.params.zip vs.toArray).foldl (fun tmps (t,a)=>tmps.setIfInBounds t a) rec.tmps=putsV rec.tmps ps vs:=by
  rw [←putsV_eq,←h5]
 rw [e1]
 have ar:Arr N H.next 0 σ { tmps:=putsV rec.tmps ps vs,defers:=[] } (putsT T ps args) H:=⟨⟨⟨sr,hh,hfr⟩,puts_vr hvs (by rw [h8];exact hps) h9,(putsV_size ps vs _).trans h8⟩,Nat.le_refl _,trivial,Nat.zero_le _⟩
 refine wpIn_mono (h (σ.r n) 0 σ _ ar) ?_
 rintro e a1 w1 ⟨σ2,rfl,l2,h⟩
 cases e<;>simp only [Exit.then] at h ⊢
 case normal=>
  obtain ⟨T2,H2,ar2,_,T',N',ps',asg',body',hn2,hb⟩:=h
  have hn2':σ2.h n=some (.loop T' N' ps' asg' body' .ready none):=by rw [ar2.ss.h];exact hn2
  obtain ⟨rec2,g1,g2,g3,g4,g5,g6,g7,g8,g9⟩:=ar2.ss.sr.obj n _ hn2'
  have hr2:σ2.r n=σ.r n:=(l2.1.loops _ _ _ _ _ _ _ _ hn').1
  have l3:=lg_loop (n0:=H.next) ar2.ss.sr hn2' g1 .busy none
  have sp3:=sp_loop ar2.ss.toSP hn2 g1 .busy none
  have hrec3:({ rec2 with state:=.busy }:Loop)={ rec2 with state:=.busy,pending:=none }:=by rw [←g4]
  have g1':σ2.w.heap[σ.r n]?=some (.loop rec2):=by rw [←hr2];exact g1
  refine ⟨_,run_beginRound g1' g3,?_⟩
  rw [hrec3]
  have hw:(σ2.setLoop n { rec2 with state:=.busy,pending:=none } (.loop T' N' ps' asg' body' .busy none)).w=σ2.w.putObj (σ.r n) (.loop { rec2 with state:=.busy,pending:=none }):=by
   show σ2.w.putObj (σ2.r n) _=_
   rw [hr2]
  rw [←hw]
  have ar3:Arr N H.next 0 (σ2.setLoop n { rec2 with state:=.busy,pending:=none } (.loop T' N' ps' asg' body' .busy none)) a1 T2 ⟨put H2.objs n (.loop T' N' ps' asg' body' .busy none),H2.next⟩:=
   ⟨⟨sp3,ar2.ss.tr.mono l3.1,ar2.ss.size⟩,ar2.n0,ar2.mks.mono l3.1 sp3.sr,Nat.zero_le _⟩
  refine wpIn_mono (hb 0 _ a1 ar3) ?_
  rintro e a4 w4 ⟨σ4,rfl,l4,h⟩
  have fin:∀(T4:TL) (H4:Heap) (jump:Option Code) (st':LoopState) (T N_ ps asg body),Arr N H.next 0 σ4 a4 T4 H4→look H4.objs n=some (.loop T N_ ps asg body .busy none)→st'=(if jump.isNone then .ready else .done)→
   ∃v w',(Instr.endRound (σ.r n) jump).run P σ4.w=.ok v w'∧∃σ',σ'.w=w'∧σ'.h=look (⟨put H4.objs n (.loop T N_ ps asg body st' jump),H4.next⟩:Heap).objs∧Le σ σ'∧SR σ'∧H.next≤H4.next∧(∀m,σ'.dead m→Used σ m∨(H.next≤m∧m<H4.next))∧
    (∀m,H4.next≤m→σ'.h m=none∧¬σ'.dead m)∧OutR σ' (.ret (.sc (.bool jump.isNone))) (.returned v):=by
   intro T4 H4 jump st' T N_ ps asg body ar4 hn4 hst
   have hn4':σ4.h n=some (.loop T N_ ps asg body .busy none):=by rw [ar4.ss.h];exact hn4
   obtain ⟨rec4,k1,k2,k3,k4,k5,k6,k7,k8,k9⟩:=ar4.ss.sr.obj n _ hn4'
   have hn3':(σ2.setLoop n { rec2 with state:=.busy,pending:=none } (.loop T' N' ps' asg' body' .busy none)).h n=some (.loop T' N' ps' asg' body' .busy none):=upd_same _ _ _
   have hr4:σ4.r n=σ.r n:=(l4.1.loops _ _ _ _ _ _ _ _ hn3').1.trans hr2
   have l5:=lg_loop (n0:=H.next) ar4.ss.sr hn4' k1 st' jump
   have sp5:=sp_loop ar4.ss.toSP hn4 k1 st' jump
   have L:Lg H.next σ _:=((l2.trans ar2.ss.sr l3 sp3.sr).trans sp3.sr l4 ar4.ss.sr).trans ar4.ss.sr l5 sp5.sr
   rw [←hr4]
   have hw5:(σ4.setLoop n { rec4 with state:=st',pending:=jump } (.loop T N_ ps asg body st' jump)).w=σ4.w.putObj (σ4.r n) (.loop { rec4 with state:=if jump.isNone then .ready else .done,pending:=jump }):=by
    rw [hst];rfl
   refine ⟨_,_,run_endRound jump k1,σ4.setLoop n { rec4 with state:=st',pending:=jump } (.loop T N_ ps asg body st' jump),hw5,sp5.h,L.1,sp5.sr,ar4.n0,fun m hm=>?_,?_,.tree (.sc rfl)⟩
   ·rcases L.2 m (.inr hm) with q | q
    ·exact .inl q
    ·refine .inr ⟨q,?_⟩
     rcases Nat.lt_or_ge m H4.next with p | p
     ·exact p
     ·exact absurd hm (sp5.fresh m p).2
   ·exact sp5.fresh
  cases e<;>simp only [roundP] at h<;>simp only [roundPost]
  case normal=>obtain ⟨T4,H4,ar4,_,_,_,_,_,hn4,rfl,rfl⟩:=h;exact fin T4 H4 none _ _ _ _ _ _ ar4 hn4 rfl
  case ret=>obtain ⟨T4,H4,ar4,_,_,_,_,_,hn4,rfl,rfl⟩:=h;exact fin T4 H4 (some .ret) _ _ _ _ _ _ ar4 hn4 rfl
  case exit id=>obtain ⟨T4,H4,ar4,_,_,_,_,_,hn4,rfl,rfl⟩:=h;exact fin T4 H4 (some (.exit id)) _ _ _ _ _ _ ar4 hn4 rfl
  case goto t=>obtain ⟨T4,H4,ar4,_,_,_,_,_,hn4,rfl,rfl⟩:=h;exact fin T4 H4 (some (.goto t)) _ _ _ _ _ _ ar4 hn4 rfl
  case panic ch=>obtain ⟨_,_,_,_,_,_,_,_,_,_,_,_,_,_,_,h⟩:=h;exact h.elim
 case exit=>obtain ⟨_,_,_,h,_⟩:=h;cases h
 case goto=>obtain ⟨_,_,_,h,_⟩:=h;cases h
 case ret=>obtain ⟨_,_,_,h,_⟩:=h;cases h
 case panic=>obtain ⟨_,_,_,_,_,_,_,_,_,h,_⟩:=h;cases h
def endP (Q:Post) (K:Code→TL→Heap→Prop) (T:TL):Out→Heap→Nat→Prop
 |.ret _,H2,n=>∃T0 N0 ps asg body st pend,look H2.objs n=some (.loop T0 N0 ps asg body st pend)∧st≠.busy∧
  match pend with
  |none=>Q .normal T ⟨put H2.objs n (.loop T0 N0 ps asg body .exhausted none),H2.next⟩
  |some c=>K c T ⟨put H2.objs n (.loop T0 N0 ps asg body .exhausted (some c)),H2.next⟩
 |.pan v,H2,_=>Q (.pan v) [] H2
theorem CW.rangeFunc {T:TL} {H:Heap} {Q:Post} {g:Operand} {ps:Array Tmp} {asg body:Code} {gf:FuncId} {first caps:List AV} {r:Out} {H2:Heap} (hg:aev (look T) g=some (.fn (.func gf) first caps))
 (hv:Valid2 P gf (first++[.fn (.yield H.next) [] []]++caps) ⟨put H.objs H.next (.loop T N ps.toList asg body .ready none),H.next+1⟩ r H2)
 (hok:okEff ⟨put H.objs H.next (.loop T N ps.toList asg body .ready none),H.next+1⟩ (.glob H2)=true)
 (hq:endP Q (fun c T H=>CW P .out N n0 c T H Q) T r H2 H.next):CW P .out N n0 (.rangeFunc g ps asg body) T H Q:=fun B σ a ar=>by
 obtain ⟨hen,hc2⟩:=hv
 obtain ⟨fs,cs,hgv,hfs,hcs⟩:=(aev_vr ar.ss.tr hg).fn_inv rfl
 refine wpIn_rangeFunc (F:=Fence.wide) (n:=0) fun fn _=>?_
 obtain ⟨rec,hrec⟩:∃rec:Loop,rec={ state:=.ready,pending:=none,fn,tmps:=a.tmps,params:=ps,assign:=asg,body,defers:=σ.w.heap.size }:=⟨_,rfl⟩
 obtain ⟨la,sra⟩:=le_alloc ar.ss.sr (.deferred (some []))
 obtain ⟨σa,hσa⟩:∃σa:Sg,σa={ σ with w:=σ.w.alloc (.deferred (some [])) }:=⟨_,rfl⟩
 rw [←hσa] at la sra
 have hfr:=ar.ss.fresh H.next (Nat.le_refl _)
 have hha:σa.h=σ.h:=by rw [hσa]
 have hda:σa.dead=σ.dead:=by rw [hσa]
 have hwa:σa.w=σ.w.alloc (.deferred (some [])):=by rw [hσa]
 have hna:σa.h H.next=none:=by rw [hha];exact hfr.1
 obtain ⟨σ1,hσ1⟩:∃σ1:Sg,σ1=σa.make H.next (.loop rec) (.loop T N ps.toList asg body .ready none):=⟨_,rfl⟩
 have l1:Le σa σ1:=by rw [hσ1];exact le_make sra (.inl hna)
 have hr1:σ1.r H.next=σ.w.heap.size+1:=by rw [hσ1];simp only [Sg.make,upd_same];rw [hwa,World.size_alloc]
 have hw1:σ1.w=(σ.w.alloc (.deferred (some []))).alloc (.loop rec):=by rw [hσ1,Sg.make,hwa]
 have hj1:∀b,σ1.J b→b<σ.w.heap.size:=fun b h=>by
  rw [hσ1,hσa] at h
  exact ar.ss.sr.jlt b h
 have sr1:SR σ1:=by
  rw [hσ1]
  refine sr_make sra (by rw [←hσ1];exact l1) (by rw [hda];exact hfr.2) ?_
  rw [←hσ1]
  refine ⟨rec,?_,?_,by rw [hrec],by rw [hrec],by rw [hrec],by rw [hrec],by rw [hrec],by rw [hrec];exact ar.ss.size,fun t v ht=>?_⟩
  ·rw [hr1,hw1]
   have:=heap_alloc_at (σ.w.alloc (.deferred (some []))) (.loop rec)
   rwa [World.size_alloc] at this
  ·rw [hr1];intro h;have:=hj1 _ h;omega
  ·rw [hrec];exact ((ar.ss.tr t v ht).mono la).mono l1
 have hh1:σ1.h=look (put H.objs H.next (.loop T N ps.toList asg body .ready none)):=by
  funext m
  rw [hσ1]
  simp only [Sg.make,upd,look_put,hha]
  by_cases e:m=H.next
  ·subst e;simp
  ·rw [if_neg e,if_neg (fun q=>e q.symm),ar.ss.h]
 have hf1:∀m,H.next+1≤m→σ1.h m=none∧¬σ1.dead m:=fun m hm=>by
  obtain ⟨q1,q2⟩:=ar.ss.fresh m (by omega)
  rw [hσ1]
  refine ⟨by simp only [Sg.make];rw [upd_ne _ _ (by omega),hha];exact q1,by simp only [Sg.make];rw [hda];exact q2⟩
 have lg1:Lg n0 σ σ1:=by
  refine ⟨la.trans sra l1 sr1,fun m hm=>?_⟩
  rcases hm with hm | hm
  ·rw [hh1,look_put] at hm
   split at hm
   ·rename_i e;subst e;exact .inr ar.n0
   ·refine .inl (.inl ?_);rw [ar.ss.h];exact hm
  ·have:σ.dead m:=by rw [hσ1] at hm;simp only [Sg.make] at hm;rw [hda] at hm;exact hm
   exact .inl (.inr this)
 have hD:σ1.w.heap[σ.w.heap.size]?=some (.deferred (some [])):=by
  rw [hw1,heap_alloc_lt _ _ (by rw [World.size_alloc];omega)]
  exact heap_alloc_at _ _
 have hs1:σ1.w.heap.size=σ.w.heap.size+2:=by rw [hw1,World.size_alloc,World.size_alloc]
 have marks1:Marks B σ1 ({ target:=.collected σ.w.heap.size,args:=#[] }::a.defers):=by
  refine ⟨⟨σ.w.heap.size,rfl,ar.hB,by omega,hD,fun h=>by have:=hj1 _ h;omega,fun n o ho e=>?_,fun d' hd' e=>?_⟩,ar.mks.mono lg1.1 sr1⟩
  ·rw [hh1,look_put] at ho
   split at ho
   ·rename_i q;subst q;omega
   ·rename_i q
    have:σ.h n=some o:=by rw [ar.ss.h];exact ho
    have h2:=ar.ss.sr.lt n o this
    rw [hσ1] at e
    simp only [Sg.make] at e
    rw [upd_ne _ _ (fun q'=>q q'.symm),show σa.r=σ.r by rw [hσa]] at e
    omega
  ·have:∀(ds:List Deferred),Marks B σ ds→d'∈ds→False:=fun ds=>by
    induction ds with
    |nil=>intro _ h;cases h
    |cons d ds ih=>
     rintro ⟨⟨b,h1,_,h3,_⟩,hr⟩ hmem
     rcases List.mem_cons.1 hmem with rfl | hmem
     ·rw [h1] at e;cases e;omega
     ·exact ih hr hmem
   exact this _ ar.mks hd'
 have vargs:VRs σ1 (first++[.fn (.yield H.next) [] []]++caps) (fs++[.func (.yield (σ.w.heap.size+1)) #[] #[]]++cs):=by
  refine ((hfs.mono lg1.1).append (.cons ?_ .nil)).append (hcs.mono lg1.1)
  rw [←hr1]
  exact .yld (T:=T) (N:=N) (ps:=ps.toList) (asg:=asg) (body:=body) (st:=.ready) (pend:=none) (by rw [hh1,look_put,if_pos rfl])
 obtain ⟨fnc,hf1',hf2',hf3'⟩:=hen
 have hbn:fnc.body.isNone=false:=by cases hq:fnc.body<;>simp_all
 refine ⟨σ.w.heap.size+1,[{ target:=.collected σ.w.heap.size,args:=#[] }],σ1.w,{ target:=.fn (.func gf) cs.toArray,args:=fs.toArray++#[.func (.yield (σ.w.heap.size+1)) #[] #[]] },σ1.w,gf,(fs++[Value.func (.yield (σ.w.heap.size+1)) #[] #[]]++cs).toArray,σ1.w,?_,?_,fun _ _=>trivial,?_,fun h=>by (cases h),callsIn_wide.2 ?_⟩
 ·rw [hw1,hrec];exact run_enterLoop_outer _ _ _ _ _
 ·simp only [resolve,hgv,Deferred.ofValue]
  simp [go_sem]
 ·simp only [invoke,callFunc,Sem.run_bind,run_program,hf1',hf3',hbn,Bool.false_eq_true,if_false,Result.andThen_ok]
  simp [go_sem]
 ·refine (hc2 σ1 _ sr1 hh1 hf1 vargs).mono ?_
  rintro e w' ⟨σ2,rfl,h1,l2,sr2,h2,h3,h4,h5⟩
  have lg2:Lg n0 σ σ2:=lg1.trans sr1 ((lg_of (H:=⟨put H.objs H.next (.loop T N ps.toList asg body .ready none),H.next+1⟩) (e:=.glob H2) l2 hok ⟨hh1,hf1⟩ h1 ⟨h2,h3,h4⟩).weak (Nat.le_succ_of_le ar.n0)) sr2
  have sp2:SP σ2 H2:=⟨sr2,h1,h4⟩
  have marks2:=marks1.mono l2 sr2
  have n2:n0≤H2.next:=Nat.le_trans (Nat.le_succ_of_le ar.n0) h2
  have b2:B≤σ2.w.heap.size:=Nat.le_trans ar.hB lg2.1.size
  cases r with
  |pan v=>
   cases e<;>simp only [OutR] at h5
   obtain ⟨x,rfl,hx⟩:=h5
   exact ⟨σ2,rfl,lg2,v,H2,x,n2,b2,marks2,rfl,sp2,hx,hq⟩
  |ret v=>
   cases e<;>simp only [OutR] at h5
   obtain ⟨T0,N0,ps0,asg0,body0,st,pend,hn,hst,hq⟩:=hq
   have hn':σ2.h H.next=some (.loop T0 N0 ps0 asg0 body0 st pend):=by rw [h1];exact hn
   obtain ⟨rec2,g1,g2,g3,g4,g5,g6,g7,g8,g9⟩:=sr2.obj _ _ hn'
   have hr2:σ2.r H.next=σ.w.heap.size+1:=((l2.loops _ T N ps.toList asg body .ready none (by rw [hh1,look_put,if_pos rfl])).1).trans hr1
   have l3:=lg_loop (n0:=n0) sr2 hn' g1 .exhausted pend
   have sp3:=sp_loop sp2 hn g1 .exhausted pend
   rw [←hr2]
   have hw3:(σ2.setLoop H.next { rec2 with state:=.exhausted,pending:=pend } (.loop T0 N0 ps0 asg0 body0 .exhausted pend)).w=σ2.w.putObj (σ2.r H.next) (.loop { rec2 with state:=.exhausted }):=by
    have:({ rec2 with state:=.exhausted }:Loop)={ rec2 with state:=.exhausted,pending:=pend }:=by rw [←g4]
    rw [this];rfl
   have ar3:Arr N n0 B _ { a with defers:=[{ target:=.collected σ.w.heap.size,args:=#[] }]++a.defers } T ⟨put H2.objs H.next (.loop T0 N0 ps0 asg0 body0 .exhausted pend),H2.next⟩:=
    ⟨⟨sp3,fun t v ht=>(ar.ss.tr t v ht).mono (lg2.1.trans sr2 l3.1 sp3.sr),ar.ss.size⟩,n2,marks2.mono l3.1 sp3.sr,Nat.le_trans b2 l3.1.size⟩
   refine ⟨pend,σ2.w.putObj (σ2.r H.next) (.loop { rec2 with state:=.exhausted }),?_,?_⟩
   ·rw [run_endLoop g1 (by rw [g3];exact hst),g4]
   ·rw [←hw3]
    cases pend with
    |none=>exact ⟨_,rfl,lg2.trans sr2 l3 sp3.sr,T,_,ar3,hq⟩
    |some c=>exact wpIn_mono (hq B _ _ ar3) fun _ _ _ h=>h.base (lg2.trans sr2 l3 sp3.sr) sp3.sr
end Go.Abs
end
section
namespace Go.Abs
structure FnD where
 ntmps:Nat
 results:List ResultVar
 body:Code
structure Env where
 tab:Tab
 fn:FuncId→Option FnD
 isInl:FuncId→Bool
 isOwn:FuncId→Bool
 meth:TypeId→String→Option FuncId
 spec:FuncId→List AV→(FuncId→List AV→Option Out)→Option Out
 spec2:FuncId→List AV→Heap→(FuncId→List AV→Heap→Option (Out×Heap))→Option (Out×Heap)
abbrev CodeRun:=Code→TL→Heap→Option (AX×TL×Heap)
def fitA (H:Heap) (rd draw:Bool) (ops:Array Oper) (recs:List Rec):Bool:=
 (!draw || drawOk H ops ops.toList recs)&&(!rd || recs.all noRound)
def regionA (tab:Tab) (hd:Hd) (N:Nat) (rd:Bool) (ops:Array Oper) (draw:Bool) (T:TL) (H:Heap):Option (AX×TL×Heap):=
 if dstOk N ops.toList then
  match runOps tab hd ops ops.toList 0 T H with
  |some (.done T' H',recs)=>if fitA H rd draw ops recs then some (.normal,T',H') else none
  |some (.pan v H',recs)=>if fitA H rd draw ops recs then some (.pan v,[],H') else none
  |none=>none
 else none
def rangeA (hd:Hd) (N:Nat) (rec:CodeRun) (g:Operand) (ps:Array Tmp) (asg body:Code) (T:TL) (H:Heap):Option (AX×TL×Heap):=
 match aev (look T) g with
 |some (.fn (.func gf) first caps)=>
  match hd.inl 0 gf (first++[.fn (.yield H.next) [] []]++caps) ⟨put H.objs H.next (.loop T N ps.toList asg body .ready none),H.next+1⟩ with
  |some (.ret _,H2)=>if okEff ⟨put H.objs H.next (.loop T N ps.toList asg body .ready none),H.next+1⟩ (.glob H2) then
   match look H2.objs H.next with
   |some (.loop T0 N0 ps0 asg0 body0 .ready none)=>some (.normal,T,⟨put H2.objs H.next (.loop T0 N0 ps0 asg0 body0 .exhausted none),H2.next⟩)
   |some (.loop T0 N0 ps0 asg0 body0 .done (some c))=>rec c T ⟨put H2.objs H.next (.loop T0 N0 ps0 asg0 body0 .exhausted (some c)),H2.next⟩
   |_=>none
   else none
  |some (.pan v,H2)=>if okEff ⟨put H.objs H.next (.loop T N ps.toList asg body .ready none),H.next+1⟩ (.glob H2) then some (.pan v,[],H2) else none
  |none=>none
 |_=>none
def roundA (run:Nat→CodeRun) (n:Nat) (args:List AV) (H:Heap):Option (Out×Heap):=
 match look H.objs n with
 |some (.loop T N ps asg body .ready none)=>
  if args.length=ps.length∧ps.all (fun p=>decide (p<N))=true then
   match run N asg (putsT T ps args) H with
   |some (.normal,T2,H2)=>match look H2.objs n with
    |some (.loop T' N' ps' asg' body' .ready none)=>match run N body T2 ⟨put H2.objs n (.loop T' N' ps' asg' body' .busy none),H2.next⟩ with
     |some (e,_,H3)=>match look H3.objs n with
      |some (.loop T4 N4 ps4 asg4 body4 .busy none)=>match e with
       |.normal=>some (.ret (.sc (.bool true)),⟨put H3.objs n (.loop T4 N4 ps4 asg4 body4 .ready none),H3.next⟩)
       |.ret=>some (.ret (.sc (.bool false)),⟨put H3.objs n (.loop T4 N4 ps4 asg4 body4 .done (some .ret)),H3.next⟩)
       |.exit id=>some (.ret (.sc (.bool false)),⟨put H3.objs n (.loop T4 N4 ps4 asg4 body4 .done (some (.exit id))),H3.next⟩)
       |.goto l=>some (.ret (.sc (.bool false)),⟨put H3.objs n (.loop T4 N4 ps4 asg4 body4 .done (some (.goto l))),H3.next⟩)
       |.pan _=>none
      |_=>none
     |none=>none
    |_=>none
   |_=>none
  else none
 |_=>none
def stepCode (tab:Tab) (hd:Hd) (N:Nat) (rd:Bool) (rec:CodeRun):CodeRun:=fun c T H=>
 match c with
 |.skip=>some (.normal,T,H)
 |.label _=>some (.normal,T,H)
 |.region _ ops draw=>regionA tab hd N rd ops draw T H
 |.seq x y=>match rec x T H with
  |some (.normal,T',H')=>rec y T' H'
  |r=>r
 |.cond c x y=>match aev (look T) c with
  |some (.sc (.bool true))=>rec x T H
  |some (.sc (.bool false))=>rec y T H
  |_=>none
 |.block id x=>match rec x T H with
  |some (.exit id',T',H')=>if id'=id then some (.normal,T',H') else some (.exit id',T',H')
  |r=>r
 |.loop x=>match rec x T H with
  |some (.normal,T',H')=>rec (.loop x) T' H'
  |r=>r
 |.scope x=>match rec x T H with
  |some (.goto _,_,_)=>none
  |r=>r
 |.exit id=>some (.exit id,T,H)
 |.goto l=>some (.goto l,T,H)
 |.ret=>some (.ret,T,H)
 |.rangeFunc g ps asg body=>if rd then none else rangeA hd N rec g ps asg body T H
 |_=>none
def runCode (tab:Tab) (hd:Hd) (N:Nat) (rd:Bool) (fuel:Nat):CodeRun:=Nat.rec (fun _ _ _=>none) (fun _ r=>stepCode tab hd N rd r) fuel
theorem runCode_succ (tab:Tab) (hd:Hd) (N:Nat) (rd:Bool) (n:Nat):runCode tab hd N rd (n+1)=stepCode tab hd N rd (runCode tab hd N rd n):=rfl
structure HdOk (P:Program) (hd:Hd):Prop where
 call:∀i f args r,hd.call i f args=some r→Valid P f args r
 inl:∀i f args H r H',hd.inl i f args H=some (r,H')→Valid2 P f args H r H'
 own:∀i f args es s fz,hd.own i f args=some (es,s,fz)→ValidOwn P f args es s fz
 round:∀i n args H r H',hd.round i n args H=some (r,H')→Round2 P n args H r H'
 meth:∀t m f,hd.meth t m=some f→MethOK P t m f
variable {P:Program} {tab:Tab} {hd:Hd} {N n0:Nat} {k:FK}
theorem stepA_obs (ho:HdOk P hd) {i:Nat} {T:Tm} {H:Heap} {o:Oper} {rc:Rec} (h:stepA tab hd i T H o=some rc):∀ob∈rc.ob,ob.holdsY P:=by
 unfold stepA at h
 split at h
 ·rename_i f0 args0 obs hcal
  have hobs:∀ob∈obs,ob.holdsY P:=fun ob hob=>by
   rcases calleeOf_obs hcal with e | ⟨t,m,hm,e⟩
   ·rw [e] at hob;cases hob
   ·rw [e] at hob
    simp only [List.mem_singleton] at hob
    rw [hob];exact ho.meth _ _ _ hm
  split at h
  ·split at h
   ·rename_i hr
    cases h
    intro ob hob
    rcases List.mem_cons.1 hob with rfl | hob
    ·exact ho.inl _ _ _ _ _ _ hr
    ·exact hobs ob hob
   ·cases h
  ·split at h
   ·rename_i rc' hown
    cases h
    unfold ownA at hown
    split at hown
    ·split at hown
     ·split at hown
      ·rename_i hr
       cases hown
       intro ob hob
       rcases List.mem_cons.1 hob with rfl | hob
       ·exact ho.own _ _ _ _ _ _ hr
       ·exact hobs ob hob
      ·cases hown
     ·cases hown
    ·cases hown
   split at h
   ·split at h
    ·rename_i hr
     cases h
     intro ob hob
     rcases List.mem_cons.1 hob with rfl | hob
     ·exact ho.call _ _ _ _ hr
     ·exact hobs ob hob
    ·cases h
   ·cases h
 ·split at h
  ·split at h
   ·rename_i hr
    cases h
    intro ob hob
    simp only [List.mem_singleton] at hob
    subst hob
    exact ho.round _ _ _ _ _ _ hr
   ·cases h
  split at h
  ·cases h;intro ob hob;cases hob
  ·split at h
   ·cases h;intro ob hob;cases hob
   ·cases h
theorem runOps_obs (ho:HdOk P hd) {ops:Array Oper}:∀(l:List Oper) (i:Nat) (T:TL) (H:Heap) (rr:RR) (recs:List Rec),runOps tab hd ops l i T H=some (rr,recs)→∀rc∈recs,∀ob∈rc.ob,ob.holdsY P
 |[],i,T,H,rr,recs,h=>by cases h;intro rc hrc;cases hrc
 |o::r,i,T,H,rr,recs,h=>by
  simp only [runOps] at h
  split at h
  ·cases h
  ·split at h
   ·rename_i rr' rs hrun
    cases h
    intro rc hrc
    rcases List.mem_cons.1 hrc with rfl | hrc
    ·intro ob hob;cases hob
    ·exact runOps_obs ho r _ _ _ _ _ hrun rc hrc
   ·cases h
  ·split at h
   ·cases h
   ·rename_i rc0 hst
    split at h
    ·split at h
     ·split at h
      ·rename_i rr' rs hrun
       cases h
       intro rc hrc
       rcases List.mem_cons.1 hrc with rfl | hrc
       ·exact stepA_obs ho hst
       ·exact runOps_obs ho r _ _ _ _ _ hrun rc hrc
      ·cases h
     ·cases h
      intro rc hrc
      simp only [List.mem_singleton] at hrc
      subst hrc
      exact stepA_obs ho hst
    ·cases h
def exactly (e:AX) (T:TL) (H:Heap):Post:=fun e' T' H'=>e'=e∧T'=T∧H'=H
theorem regionA_sound (tabOk:TabOK P tab) (hm:P.follows .mixedOrders=true) (ho:HdOk P hd) {rd:Bool} (hk:rd=false→k=.out) {id:Nat} {ops:Array Oper} {draw:Bool} {T T':TL} {H H':Heap} {e:AX} (h:regionA tab hd N rd ops draw T H=some (e,T',H')) :
 CW P k N n0 (.region id ops draw) T H (exactly e T' H'):=by
 have fits:∀{recs:List Rec},fitA H rd draw ops recs=true→(draw=true→drawOk H ops ops.toList recs=true)∧(k.isOut=true∨∀rc∈recs,noRound rc=true):=by
  intro recs hf
  simp only [fitA,Bool.and_eq_true,Bool.or_eq_true,Bool.not_eq_true'] at hf
  refine ⟨fun h=>?_,?_⟩
  ·rcases hf.1 with q | q
   ·rw [h] at q;cases q
   ·exact q
  ·rcases hf.2 with q | q
   ·exact .inl (by rw [hk q];rfl)
   ·exact .inr (List.all_eq_true.1 q)
 unfold regionA at h
 split at h
 ·rename_i hdst
  split at h
  ·rename_i hrun
   split at h
   ·rename_i hdr
    cases h
    exact CW.region tabOk hm hdst hrun (fits hdr).1 (runOps_obs ho _ _ _ _ _ _ hrun) (fits hdr).2 ⟨rfl,rfl,rfl⟩
   ·cases h
  ·rename_i hrun
   split at h
   ·rename_i hdr
    cases h
    exact CW.region tabOk hm hdst hrun (fits hdr).1 (runOps_obs ho _ _ _ _ _ _ hrun) (fits hdr).2 ⟨rfl,rfl,rfl⟩
   ·cases h
  ·cases h
 ·cases h
theorem loop_rounds {rd:Bool} {x:Code} {e:AX} {T':TL} {H':Heap} {M:Nat} (ih0:∀(n:Nat) (_:n<M) (T1 T2:TL) (H1 H2:Heap) (e1:AX),runCode tab hd N rd n x T1 H1=some (e1,T2,H2)→CW P k N n0 x T1 H1 (exactly e1 T2 H2)) :
 ∀(n:Nat) (_:n≤M) (T:TL) (H:Heap),runCode tab hd N rd n (.loop x) T H=some (e,T',H')→CW.rounds P k N n0 x (exactly e T' H') n T H:=by
 intro n
 induction n with
 |zero=>intro _ T H h;cases h
 |succ n ih=>
  intro hM T H h
  rw [runCode_succ] at h
  simp only [stepCode] at h
  split at h
  ·rename_i T1 H1 h1
   refine (ih0 n (by omega) _ _ _ _ _ h1).mono ?_
   rintro e2 T2 H2 ⟨rfl,rfl,rfl⟩
   exact ih (by omega) _ _ h
  ·rename_i r hne
   obtain ⟨e1,T1,H1⟩:AX×TL×Heap:=(e,T',H')
   refine (ih0 n (by omega) _ _ _ _ _ h).mono ?_
   rintro e2 T2 H2 ⟨rfl,rfl,rfl⟩
   cases e2<;>first | exact ⟨rfl,rfl,rfl⟩ | exact absurd h (hne _ _)
theorem range_sound (ho:HdOk P hd) {rec:CodeRun} {g:Operand} {ps:Array Tmp} {asg body:Code} {T T':TL} {H H':Heap} {e:AX} (hrec:∀c T H T' H' e,rec c T H=some (e,T',H')→CW P .out N n0 c T H (exactly e T' H'))
 (h:rangeA hd N rec g ps asg body T H=some (e,T',H')):CW P .out N n0 (.rangeFunc g ps asg body) T H (exactly e T' H'):=by
 unfold rangeA at h
 split at h
 ·rename_i gf first caps hg
  split at h
  ·rename_i v H2 hin
   split at h
   ·rename_i hok
    refine CW.rangeFunc hg (ho.inl _ _ _ _ _ _ hin) hok ?_
    split at h
    ·rename_i T0 N0 ps0 asg0 body0 hn
     cases h
     exact ⟨_,_,_,_,_,_,_,hn,by simp,rfl,rfl,rfl⟩
    ·rename_i T0 N0 ps0 asg0 body0 c hn
     exact ⟨_,_,_,_,_,_,_,hn,by simp,hrec _ _ _ _ _ _ h⟩
    ·cases h
   ·cases h
  ·rename_i v H2 hin
   split at h
   ·rename_i hok
    cases h
    exact CW.rangeFunc hg (ho.inl _ _ _ _ _ _ hin) hok ⟨rfl,rfl,rfl⟩
   ·cases h
  ·cases h
 ·cases h
theorem runCode_sound (tabOk:TabOK P tab) (hm:P.follows .mixedOrders=true) (ho:HdOk P hd) {rd:Bool} (hk:rd=false→k=.out):∀(n:Nat) (c:Code) (T T':TL) (H H':Heap) (e:AX),runCode tab hd N rd n c T H=some (e,T',H')→CW P k N n0 c T H (exactly e T' H'):=by
 intro n
 induction n using Nat.strongRecOn with
 |_ n ihs=>
 cases n with
 |zero=>intro c T T' H H' e h;cases h
 |succ n=>
  have ihn:=ihs n (by omega)
  intro c
  cases c with
  |skip=>intro T T' H H' e h;cases h;exact CW.skip ⟨rfl,rfl,rfl⟩
  |label l=>intro T T' H H' e h;cases h;exact CW.label ⟨rfl,rfl,rfl⟩
  |exit l=>intro T T' H H' e h;cases h;exact CW.exit ⟨rfl,rfl,rfl⟩
  |goto l=>intro T T' H H' e h;cases h;exact CW.goto ⟨rfl,rfl,rfl⟩
  |ret=>intro T T' H H' e h;cases h;exact CW.ret ⟨rfl,rfl,rfl⟩
  |refuse w=>intro T T' H H' e h;cases h
  |rangeFunc g ps x y=>
   intro T T' H H' e h
   rw [runCode_succ] at h
   simp only [stepCode] at h
   cases rd with
   |true=>cases h
   |false=>
    have hko:=hk rfl
    subst hko
    exact range_sound ho (fun c T H T' H' e h=>ihn c T T' H H' e h) h
  |region id ops draw=>intro T T' H H' e h;exact regionA_sound tabOk hm ho hk h
  |seq x y=>
   intro T T' H H' e h
   rw [runCode_succ] at h
   simp only [stepCode] at h
   split at h
   ·rename_i T1 H1 h1
    refine CW.seq ((ihn x _ _ _ _ _ h1).mono ?_)
    rintro e2 T2 H2 ⟨rfl,rfl,rfl⟩
    exact ihn y _ _ _ _ _ h
   ·rename_i hne
    refine CW.seq ((ihn x _ _ _ _ _ h).mono ?_)
    rintro e2 T2 H2 ⟨rfl,rfl,rfl⟩
    cases e2<;>first | exact ⟨rfl,rfl,rfl⟩ | exact absurd h (hne _ _)
  |cond c x y=>
   intro T T' H H' e h
   rw [runCode_succ] at h
   simp only [stepCode] at h
   split at h
   ·rename_i hc;exact CW.cond hc (ihn x _ _ _ _ _ h)
   ·rename_i hc;exact CW.cond hc (ihn y _ _ _ _ _ h)
   ·cases h
  |block id x=>
   intro T T' H H' e h
   rw [runCode_succ] at h
   simp only [stepCode] at h
   split at h
   ·rename_i id' T1 H1 h1
    refine CW.block ((ihn x _ _ _ _ _ h1).mono ?_)
    rintro e2 T2 H2 ⟨rfl,rfl,rfl⟩
    simp only [blockP]
    split at h
    ·rename_i hid;cases h;rw [if_pos hid];exact ⟨rfl,rfl,rfl⟩
    ·rename_i hid;cases h;rw [if_neg hid];exact ⟨rfl,rfl,rfl⟩
   ·rename_i hne
    refine CW.block ((ihn x _ _ _ _ _ h).mono ?_)
    rintro e2 T2 H2 ⟨rfl,rfl,rfl⟩
    cases e2<;>first | exact ⟨rfl,rfl,rfl⟩ | exact absurd h (hne _ _ _)
  |loop x=>
   intro T T' H H' e h
   exact CW.loop (n+1) (loop_rounds (M:=n+1) (fun m hm T1 T2 H1 H2 e1 h=>ihs m hm x T1 T2 H1 H2 e1 h) (n+1) (Nat.le_refl _) T H h)
  |scope x=>
   intro T T' H H' e h
   rw [runCode_succ] at h
   simp only [stepCode] at h
   split at h
   ·cases h
   ·rename_i hne
    refine CW.scope ((ihn x _ _ _ _ _ h).mono ?_)
    rintro e2 T2 H2 ⟨rfl,rfl,rfl⟩
    cases e2<;>first | exact ⟨rfl,rfl,rfl⟩ | exact absurd h (hne _ _ _)
structure Evs where
 c1:FuncId→List AV→Option Out
 c2:FuncId→List AV→Heap→Option (Out×Heap)
 c3:FuncId→List AV→Option (List (List AV)×Nat×Nat)
 c4:Nat→List AV→Heap→Option (Out×Heap)
def hdOf (E:Env) (r:Evs):Hd:=⟨fun _=>r.c1,fun _=>r.c2,fun _=>E.isInl,fun _=>r.c3,fun _=>E.isOwn,fun _=>r.c4,E.meth⟩
def out1 (tab:Tab) (d:FnD):AX×TL×Heap→Option Out
 |(.normal,T,H) | (.ret,T,H)=>match resA tab T H d.results with
  |some v=>match viewA H 12 v with
   |some (x,_)=>some (.ret x)
   |none=>none
  |none=>none
 |(.pan v,_,H)=>match viewA H 12 v with
  |some (x,_)=>some (.pan x)
  |none=>none
 |_=>none
def out2 (tab:Tab) (d:FnD):AX×TL×Heap→Option (Out×Heap)
 |(.normal,T,H) | (.ret,T,H)=>match resA tab T H d.results with
  |some v=>some (.ret v,H)
  |none=>none
 |(.pan v,_,H)=>some (.pan v,H)
 |_=>none
def outO (tab:Tab) (d:FnD):AX×TL×Heap→Option (List (List AV)×Nat×Nat)
 |(.normal,T,H) | (.ret,T,H)=>match resA tab T H d.results with
  |some (.sl n g 0 g' _)=>match look H.objs n with
   |some (.cells es0 s fz)=>match viewLists (viewA H 12) es0 with
    |some (es,ns)=>if g=g'∧es0.length=g∧n∉ns then some (es,s,fz) else none
    |none=>none
   |_=>none
  |_=>none
 |_=>none
def stepEv (E:Env) (fuel:Nat) (r:Evs):Evs where
 c1 f args:=match E.spec f args r.c1 with
  |some o=>some o
  |none=>match E.fn f with
   |some d=>if args.length≤d.ntmps then (match runCode E.tab (hdOf E r) d.ntmps false fuel d.body (argT 0 args) ⟨[],0⟩ with | some x=>out1 E.tab d x | none=>none) else none
   |none=>none
 c2 f args H:=match E.spec2 f args H r.c2 with
  |some o=>some o
  |none=>match E.fn f with
   |some d=>if args.length≤d.ntmps then (match runCode E.tab (hdOf E r) d.ntmps false fuel d.body (argT 0 args) H with | some x=>out2 E.tab d x | none=>none) else none
   |none=>none
 c3 f args:=match E.fn f with
  |some d=>if args.length≤d.ntmps then (match runCode E.tab (hdOf E r) d.ntmps false fuel d.body (argT 0 args) ⟨[],0⟩ with | some x=>outO E.tab d x | none=>none) else none
  |none=>none
 c4:=roundA (fun N=>runCode E.tab (hdOf E r) N true fuel)
def ev (E:Env) (fuel n:Nat):Evs:=Nat.rec ⟨fun _ _=>none,fun _ _ _=>none,fun _ _=>none,fun _ _ _=>none⟩ (fun _ r=>stepEv E fuel r) n
def FnOK (P : Program) (f : FuncId) (d : FnD) : Prop := ∃ fn, P.funcs[f]? = some fn ∧ fn.body = some d.body ∧ fn.ntmps = d.ntmps ∧ fn.results.toList = d.results ∧ (fn.name == "runtime.NumGoroutine") = false
structure EnvOK (P:Program) (E:Env):Prop where
 meth:∀t m f,E.meth t m=some f→MethOK P t m f
 tab:TabOK P E.tab
 mixed:P.follows .mixedOrders=true
 fn:∀f d,E.fn f=some d→FnOK P f d
 spec:∀c1,(∀f args r,c1 f args=some r→Valid P f args r)→∀f args r,E.spec f args c1=some r→Valid P f args r
 spec2:∀c2,(∀f args H r H',c2 f args H=some (r,H')→Valid2 P f args H r H')→∀f args H r H',E.spec2 f args H c2=some (r,H')→Valid2 P f args H r H'
theorem out1_ends {d:FnD} {e:AX} {T:TL} {H:Heap} {r:Out} (h:out1 tab d (e,T,H)=some r):∀e' T' H',exactly e T H e' T' H'→ends1 tab d.results r e' T' H':=by
 rintro e' T' H' ⟨rfl,rfl,rfl⟩
 cases e'<;>simp only [out1] at h<;>simp only [ends1]
 case normal | ret=>
  split at h
  ·rename_i v hv
   split at h
   ·rename_i x ns hx;cases h;exact ⟨v,hv,12,x,ns,hx,rfl⟩
   ·cases h
  ·cases h
 case pan v=>
  split at h
  ·rename_i x ns hx;cases h;exact ⟨12,x,ns,hx,rfl⟩
  ·cases h
 all_goals cases h
theorem out2_ends {d:FnD} {e:AX} {T:TL} {H H1:Heap} {r:Out} (h:out2 tab d (e,T,H)=some (r,H1)):∀e' T' H',exactly e T H e' T' H'→ends2 tab d.results r H1 e' T' H':=by
 rintro e' T' H' ⟨rfl,rfl,rfl⟩
 cases e'<;>simp only [out2] at h<;>simp only [ends2]
 case normal | ret=>
  split at h
  ·rename_i v hv;cases h;exact ⟨rfl,v,hv,rfl⟩
  ·cases h
 case pan v=>cases h;exact ⟨rfl,rfl⟩
 all_goals cases h
theorem outO_ends {d:FnD} {e:AX} {T:TL} {H:Heap} {es:List (List AV)} {s fz:Nat} (h:outO tab d (e,T,H)=some (es,s,fz)):∀e' T' H',exactly e T H e' T' H'→endsO tab d.results es s fz e' T' H':=by
 rintro e' T' H' ⟨rfl,rfl,rfl⟩
 cases e'<;>simp only [outO] at h<;>simp only [endsO]
 case normal | ret=>
  split at h
  ·rename_i n g g' c hv
   split at h
   ·rename_i es0 s' fz' ho
    split at h
    ·rename_i es' ns hx
     split at h
     ·rename_i hc
      cases h
      obtain ⟨rfl,h1,h2⟩:=hc
      exact ⟨n,g,c,es0,12,ns,g,hv,ho,h1,Nat.le_refl _,by rw [←h1,List.take_length];exact hx,h2⟩
     ·cases h
    ·cases h
   ·cases h
  ·cases h
 all_goals cases h
theorem round_sound (tabOk:TabOK P tab) (hm:P.follows .mixedOrders=true) (ho:HdOk P hd) {fuel n:Nat} {args:List AV} {H H':Heap} {r:Out} (h:roundA (fun N=>runCode tab hd N true fuel) n args H=some (r,H')):Round2 P n args H r H':=by
 unfold roundA at h
 split at h
 ·rename_i T N ps asg body hn
  split at h
  ·rename_i hc
   obtain ⟨hlen,hps⟩:=hc
   split at h
   ·rename_i T2 H2 h1
    split at h
    ·rename_i T' N' ps' asg' body' hn2
     split at h
     ·rename_i e T3 H3 h2
      refine round_of hn hlen (fun p hp=>of_decide_eq_true ((List.all_eq_true.1 hps) p hp)) fun l=>?_
      refine (runCode_sound (k:=.rnd l) tabOk hm ho (fun h=>by (cases h)) fuel _ _ _ _ _ _ h1).mono ?_
      rintro e1 T1 H1 ⟨rfl,rfl,rfl⟩
      refine ⟨rfl,T',N',ps',asg',body',hn2,?_⟩
      refine (runCode_sound (k:=.rnd l) tabOk hm ho (fun h=>by (cases h)) fuel _ _ _ _ _ _ h2).mono ?_
      rintro e1 T1 H1 ⟨rfl,rfl,rfl⟩
      split at h
      ·rename_i T4 N4 ps4 asg4 body4 hn3
       refine ⟨T4,N4,ps4,asg4,body4,hn3,?_⟩
       cases e1<;>simp only [] at h ⊢
       case pan=>cases h
       all_goals (cases h;exact ⟨rfl,rfl⟩)
      ·cases h
     ·cases h
    ·cases h
   ·cases h
  ·cases h
 ·cases h
theorem ev_sound {E:Env} (ok:EnvOK P E) (fuel:Nat):∀n,HdOk P (hdOf E (ev E fuel n))
 |0=>⟨fun _ _ _ _ h=>by (cases h),fun _ _ _ _ _ _ h=>by (cases h),fun _ _ _ _ _ _ h=>by (cases h),fun _ _ _ _ _ _ h=>by (cases h),fun _ _ _ h=>ok.meth _ _ _ h⟩
 |n+1=>by
  have ih:=ev_sound ok fuel n
  refine ⟨fun i f args r h=>?_,fun i f args H r H' h=>?_,fun i f args es s fz h=>?_,fun _ n args H r H' h=>round_sound ok.tab ok.mixed ih h,fun _ _ _ h=>ok.meth _ _ _ h⟩
  ·change (stepEv E fuel (ev E fuel n)).c1 f args=some r at h
   simp only [stepEv] at h
   split at h
   ·rename_i hs;cases h;exact ok.spec _ (ih.call 0) _ _ _ hs
   ·split at h
    ·rename_i d hd
     split at h
     ·rename_i hlen
      split at h
      ·rename_i x hx
       obtain ⟨e,T',H'⟩:=x
       obtain ⟨fn,h1,h2,h3,h4,h5⟩:=ok.fn f d hd
       refine valid_of ok.tab h1 h2 h5 (by omega) ?_
       rw [h3,h4]
       exact (runCode_sound ok.tab ok.mixed ih (fun _=>rfl) fuel _ _ _ _ _ _ hx).mono (out1_ends h)
      ·cases h
     ·cases h
    ·cases h
  ·change (stepEv E fuel (ev E fuel n)).c2 f args H=some (r,H') at h
   simp only [stepEv] at h
   split at h
   ·rename_i hs;cases h;exact ok.spec2 _ (ih.inl 0) _ _ _ _ _ hs
   ·split at h
    ·rename_i d hd
     split at h
     ·rename_i hlen
      split at h
      ·rename_i x hx
       obtain ⟨e,T',H'⟩:=x
       obtain ⟨fn,h1,h2,h3,h4,h5⟩:=ok.fn f d hd
       refine valid2_of ok.tab h1 h2 h5 (by omega) ?_
       rw [h3,h4]
       exact (runCode_sound ok.tab ok.mixed ih (fun _=>rfl) fuel _ _ _ _ _ _ hx).mono (out2_ends h)
      ·cases h
     ·cases h
    ·cases h
  ·change (stepEv E fuel (ev E fuel n)).c3 f args=some (es,s,fz) at h
   simp only [stepEv] at h
   split at h
   ·rename_i d hd
    split at h
    ·rename_i hlen
     split at h
     ·rename_i x hx
      obtain ⟨e,T',H'⟩:=x
      obtain ⟨fn,h1,h2,h3,h4,h5⟩:=ok.fn f d hd
      refine validOwn_of ok.tab h1 h2 h5 (by omega) ?_
      rw [h3,h4]
      exact (runCode_sound ok.tab ok.mixed ih (fun _=>rfl) fuel _ _ _ _ _ _ hx).mono (outO_ends h)
     ·cases h
    ·cases h
   ·cases h
theorem ev_valid {E:Env} (ok:EnvOK P E) {fuel n:Nat} {f:FuncId} {args:List AV} {r:Out} (h:(ev E fuel n).c1 f args=some r):Valid P f args r:=(ev_sound ok fuel n).call 0 f args r h
end Go.Abs
end
section
namespace Go.Abs
inductive Tr (α:Type) where
 |nil
 |node (a:α) (l r:Tr α)
def Tr.get {α:Type}:Tr (Option α)→Nat→Option α
 |.nil,_=>none
 |.node a l r,n=>bif Nat.beq n 0 then a else bif Nat.beq (n % 2) 1 then l.get (n / 2) else r.get (n / 2-1)
def mkTr {α:Type} (f:Nat→α):Nat→Nat→Nat→Tr α
 |0,_,_=>.nil
 |k+1,lo,st=>.node (f lo) (mkTr f k (lo+st) (2*st)) (mkTr f k (lo+2*st) (2*st))
theorem mkTr_get {α:Type} (f:Nat→Option α):∀(k lo st n:Nat) (x:α),(mkTr f k lo st).get n=some x→f (lo+n*st)=some x
 |0,_,_,_,_,h=>by cases h
 |k+1,lo,st,n,x,h=>by
  simp only [mkTr,Tr.get] at h
  by_cases e:n=0
  ·subst e;simpa using h
  ·have e':Nat.beq n 0=false:=by
    cases hq:Nat.beq n 0 with
    |false=>rfl
    |true=>exact absurd (Nat.eq_of_beq_eq_true hq) e
   rw [e'] at h
   simp only [cond_false] at h
   cases hq:Nat.beq (n % 2) 1 with
   |true=>
    rw [hq] at h
    simp only [cond_true] at h
    have hm:=Nat.eq_of_beq_eq_true hq
    have:=mkTr_get f k _ _ _ _ h
    rw [←this]
    congr 1
    have h2:n=2*(n / 2)+1:=by omega
    generalize n / 2=m at h2
    subst h2
    rw [Nat.add_mul,Nat.mul_comm 2 m,Nat.mul_assoc]
    omega
   |false=>
    rw [hq] at h
    simp only [cond_false] at h
    have hm:n % 2≠1:=fun q=>by rw [q] at hq;cases hq
    have:=mkTr_get f k _ _ _ _ h
    rw [←this]
    congr 1
    have h2:n=2*(n / 2-1)+2:=by omega
    generalize n / 2-1=m at h2
    subst h2
    rw [Nat.add_mul,Nat.mul_comm 2 m,Nat.mul_assoc]
    omega
def kindOf (P:Program):TypeDesc→Option TyK
 |.int k=>some (.int k)
 |.string=>some .str
 |.bool=>some .bool
 |.struct fs=>if fs.toList.all (fun f=>(P.info? f.type).isSome) then some (.strct (fs.toList.map fun f=>(f.offset,f.type))) else none
 |.array n e=>some (.arr n e)
 |.slice e=>some (.slice e)
 |.map k e=>some (.map k e)
 |.pointer _=>some .ptr
 |.interface _=>some .iface
 |u=>if u.isRow then none else some .other
def flatF (P:Program):List Field→Nat→Option (List TyK)
 |[],_=>some []
 | f :: fs, i => if f.offset = i ∧ (f.name == "_") = false then
     match P.underlying f.type,flatF P fs (i+1) with
     |some (.int k),some ks=>some (.int k::ks)
     |some .string,some ks=>some (.str::ks)
     |some .bool,some ks=>some (.bool::ks)
     |_,_=>none
  else none
def flatOf (P:Program) (t:TypeId):TypeDesc→Option (List TyK)
 |.struct fs=>if P.stoodInHeld t=false∧P.eqGuardType P.depth t=false then flatF P fs.toList 0 else none
 |_=>none
def isAggV:Value→Bool
 |.agg _=>true
 |_=>false
def tabOf (P:Program) (t:TypeId):Option TyD:=
 match P.info? t,P.underlying t with
 |some i,some u=>match i.zero,kindOf P u with
  |some z,some k=>if z.cells.toList.all scalarB&&(z.cells.toList.length==i.size)&&(isAggV z==TyD.isAgg ⟨k,0,0,[],none⟩) then
   some ⟨k,i.size,i.bytes,z.cells.toList,flatOf P t u⟩ else none
  |_,_=>none
 |_,_=>none
theorem kindOf_ok {P:Program} {t:TypeId} {u:TypeDesc} {k:TyK} (hu:P.underlying t=some u) (h:kindOf P u=some k):KOK P t k:=by
 cases u<;>simp only [kindOf] at h
 case struct fs=>
  split at h
  ·rename_i hall
   cases h
   exact ⟨fs,hu,rfl,fun f hf=>(List.all_eq_true.1 hall) f hf⟩
  ·cases h
 all_goals first
  |(cases h;exact hu)
  |(cases h;exact ⟨_,hu⟩)
  |(split at h
    ·cases h
    ·rename_i hr
     cases h
     exact ⟨_,hu,by first | (simp;done) | (simpa using hr)⟩)
def fitU:TypeDesc→TyK→Bool
 |.int a,.int b=>decide (a=b)
 |.string,.str=>true
 |.bool,.bool=>true
 |_,_=>false
theorem run_isAgg_of {P:Program} {t:TypeId} {u:TypeDesc} {k:TyK} (hu:P.underlying t=some u) (h:fitU u k=true) (w:World):(isAgg t).run P w=.ok false w:=by
 unfold isAgg
 cases u<;>simp_all [run_under hu,fitU]
theorem run_equal_cell {P:Program} {t:TypeId} {u:TypeDesc} {k:TyK} (hu:P.underlying t=some u) (hk:fitU u k=true) {x y:Value} {b:Bool} (hf:fitK k x=true) (hs:sameKey x y=some b) (d:Nat) (w:World) :
 (Op.equalIn (d+1) t x y).run P w=.ok b w:=by
 cases k<;>cases u<;>simp only [fitU,Bool.false_eq_true] at hk
 case int.int=>
  cases x<;>simp only [fitK,Bool.false_eq_true] at hf
  cases y<;>simp only [sameKey,reduceCtorEq] at hs
  split at hs
  ·rename_i e
   subst e
   cases hs
   simp only [Op.equalIn,Sem.run_bind,run_under hu,Result.andThen_ok]
   simp
  ·cases hs
 case str.string=>
  cases x<;>simp only [fitK,Bool.false_eq_true] at hf
  cases y<;>simp only [sameKey,reduceCtorEq] at hs
  cases hs
  simp only [Op.equalIn,Sem.run_bind,run_under hu,Result.andThen_ok]
  simp
 case bool.bool=>
  cases x<;>simp only [fitK,Bool.false_eq_true] at hf
  cases y<;>simp only [sameKey,reduceCtorEq] at hs
  cases hs
  simp only [Op.equalIn,Sem.run_bind,run_under hu,Result.andThen_ok]
  simp
theorem flat_loop {P:Program} {xs ys:Array Value} (d:Nat):∀(fs:List Field) (i:Nat) (ks:List TyK) (as bs:List Value) (b:Bool),flatF P fs i=some ks→eqVals ks as bs=some b→(∀j,xs[i+j]?=as[j]?)→(∀j,ys[i+j]?=bs[j]?)→∀w:World,
 (forIn fs ((none, ()) : Option Bool × Unit) fun f __s => (if f.name ≠ "_" then do
           let __do_lift ←part f.type xs f.offset
           let __do_lift_1 ←part f.type ys f.offset
           let __do_lift ←Op.equalIn (d+1) f.type __do_lift __do_lift_1
           if (!__do_lift)=true then pure (ForInStep.done (some false,())) else pure (ForInStep.yield (none,()))
   else pure (ForInStep.yield (none,())):Sem (ForInStep (Option Bool×Unit)))).run P w=.ok (if b then none else some false,()) w
 |[],i,ks,as,bs,b,h1,h2,_,_,w=>by
  cases h1
  cases as<;>cases bs<;>simp only [eqVals,reduceCtorEq] at h2
  cases h2
  simp
 |f::fs,i,ks,as,bs,b,h1,h2,hx,hy,w=>by
  simp only [flatF] at h1
  split at h1
  rotate_left
  ·cases h1
  rename_i hc
  obtain ⟨ho,hn⟩:=hc
  have hn' : f.name ≠ "_" := fun e => by rw [e] at hn; simp at hn
  have key:∀(u:TypeDesc) (k:TyK) (ks':List TyK),P.underlying f.type=some u→flatF P fs (i+1)=some ks'→fitU u k=true→
   eqVals (k::ks') as bs=some b→
   (forIn (f :: fs) ((none, ()) : Option Bool × Unit) fun f __s => (if f.name ≠ "_" then do
     let __do_lift ←part f.type xs f.offset
     let __do_lift_1 ←part f.type ys f.offset
     let __do_lift ←Op.equalIn (d+1) f.type __do_lift __do_lift_1
     if (!__do_lift)=true then pure (ForInStep.done (some false,())) else pure (ForInStep.yield (none,()))
     else pure (ForInStep.yield (none,())):Sem (ForInStep (Option Bool×Unit)))).run P w=.ok (if b then none else some false,()) w:=by
   intro u k ks' hu hfl hk he
   cases as with
   |nil=>simp only [eqVals,reduceCtorEq] at he
   |cons a as=>
   cases bs with
   |nil=>simp only [eqVals,reduceCtorEq] at he
   |cons c bs=>
   simp only [eqVals] at he
   split at he
   ·rename_i hf
    split at he
    ·rename_i x y hs hr
     cases he
     have hpx:(part f.type xs f.offset).run P w=.ok a w:=by
      have:=hx 0
      simp at this
      unfold part
      simp only [Sem.run_bind,run_isAgg_of hu hk,Result.andThen_ok,Bool.false_eq_true,if_false,ho]
      rw [this]
      simp
     have hpy:(part f.type ys f.offset).run P w=.ok c w:=by
      have:=hy 0
      simp at this
      unfold part
      simp only [Sem.run_bind,run_isAgg_of hu hk,Result.andThen_ok,Bool.false_eq_true,if_false,ho]
      rw [this]
      simp
     have ih:=flat_loop d fs (i+1) ks' as bs y hfl hr (fun j=>by have:=hx (j+1);rw [show i+1+j=i+(j+1) by omega];simpa using this) (fun j=>by have:=hy (j+1);rw [show i+1+j=i+(j+1) by omega];simpa using this) w
     rw [List.forIn_cons]
     simp only [if_pos hn',Sem.run_bind,hpx,hpy,Result.andThen_ok,run_equal_cell hu hk hf hs d w]
     cases x with
     |true=>
      simp only [Bool.not_true,Bool.false_eq_true,if_false,Sem.run_pure,Result.andThen_ok,Bool.true_and]
      exact ih
     |false=>simp
    ·cases he
   ·cases he
  split at h1
  ·rename_i k ks' hu hfl
   cases h1
   exact key _ _ _ hu hfl (by simp [fitU]) h2
  ·rename_i ks' hu hfl
   cases h1
   exact key _ _ _ hu hfl rfl h2
  ·rename_i ks' hu hfl
   cases h1
   exact key _ _ _ hu hfl rfl h2
  ·cases h1
theorem flatOf_ok {P:Program} {t:TypeId} {u:TypeDesc} (hu:P.underlying t=some u) {ks:List TyK} (h:flatOf P t u=some ks):FlatEq P t ks:=by
 cases u<;>simp only [flatOf,reduceCtorEq] at h
 case struct fs=>
  split at h
  ·rename_i hc
   refine ⟨hc.2,fun xs ys b he w=>?_⟩
   unfold Op.equal Op.maxDepth
   rw [show (10000:Nat)=9999+1 from rfl,Op.equalIn]
   simp only [Sem.run_bind,run_under hu,Result.andThen_ok,run_program,hc.1,Bool.false_eq_true,if_false,Sem.run_pure]
   have:=flat_loop (P:=P) (xs:=xs.toArray) (ys:=ys.toArray) 9998 fs.toList 0 ks xs ys b h he (fun j=>by simp) (fun j=>by simp) w
   rw [←Array.forIn_toList]
   simp only [show (9999:Nat)=9998+1 from rfl]
   rw [this]
   cases b<;>simp
  ·cases h
theorem tabOf_ok (P:Program):TabOK P (tabOf P):=by
 intro t d h
 unfold tabOf at h
 split at h
 ·rename_i i u hi hu
  split at h
  ·rename_i z k hz hk
   split at h
   ·rename_i hc
    cases h
    simp only [Bool.and_eq_true,beq_iff_eq] at hc
    obtain ⟨⟨h1,h2⟩,h3⟩:=hc
    have hag:∀(a b c:Nat) (l:List Value) (f:Option (List TyK)),TyD.isAgg ⟨k,a,b,l,f⟩=isAggV z:=fun a b c l f=>by
     rw [h3];cases k<;>rfl
    refine ⟨⟨i,z,hi,rfl,rfl,hz,rfl,fun hh=>?_,fun hh=>?_⟩,kindOf_ok hu hk,h1,h2,fun ks hf=>flatOf_ok hu hf⟩
    ·rw [hag _ _ 0] at hh
     cases z<;>simp_all [isAggV,Value.cells]
    ·rw [hag _ _ 0] at hh
     cases z<;>simp_all [isAggV,Value.cells]
   ·cases h
  ·cases h
 ·cases h
def fnOf (P:Program) (f:FuncId):Option FnD:=
 match P.funcs[f]? with
 |some fn=>match fn.body with
  |some b=>some ⟨fn.ntmps,fn.results.toList,b⟩
  |none=>none
 |none=>none
def tabT (P:Program):Tab:=(mkTr (tabOf P) 10 0 1).get
def fnT (P:Program):FuncId→Option FnD:=(mkTr (fnOf P) 10 0 1).get
theorem tabT_ok (P:Program):TabOK P (tabT P):=fun t d h=>tabOf_ok P t d (by simpa using mkTr_get _ _ _ _ _ _ h)
theorem fnT_ok {P : Program} (hn : P.funcs.toList.all (fun fn => !(fn.name == "runtime.NumGoroutine")) = true) {f : FuncId} {d : FnD} (h : fnT P f = some d) : FnOK P f d := by
 have h:fnOf P f=some d:=by simpa using mkTr_get _ _ _ _ _ _ h
 unfold fnOf at h
 split at h
 ·rename_i fn hf
  split at h
  ·rename_i b hb
   cases h
   refine ⟨fn,hf,hb,rfl,rfl,?_⟩
   have:=(List.all_eq_true.1 hn) fn (by simpa using Array.mem_of_getElem? hf)
   simpa using this
  ·cases h
 ·cases h
end Go.Abs
end
