/- Of GapsBounds: lemmas. -/
import Derived.Test.YthbenojbjjgnaaaGreatUAc
import Derived.Test.YthbenojbjjgnaaaGreatUAa
import Derived.RangeFuncCalls
import Derived.RangeFuncIn
import Derived.RangeFuncLeaves
import Derived.OrdersIn
import Derived.Scope
import Derived.LoopNIn
set_option linter.all false
section
namespace Go.Abs
def Used (σ:Sg) (m:Nat):Prop:=σ.h m≠none∨σ.dead m
def Calls2 (P:Program) (f:FuncId) (args:List AV) (H:Heap) (r:Out) (H':Heap):Prop:=
 ∀(σ:Sg) (vs:List Value),SR σ→σ.h=look H.objs→(∀m,H.next≤m→σ.h m=none∧¬σ.dead m)→VRs σ args vs→
  Calls P f vs.toArray σ.w fun e w'=>∃σ',σ'.w=w'∧σ'.h=look H'.objs∧Le σ σ'∧SR σ'∧H.next≤H'.next∧(∀m,σ'.dead m→Used σ m∨(H.next≤m∧m<H'.next))∧
   (∀m,H'.next≤m→σ'.h m=none∧¬σ'.dead m)∧OutR σ' r e
def Valid2 (P:Program) (f:FuncId) (args:List AV) (H:Heap) (r:Out) (H':Heap):Prop:=Enters P f∧Calls2 P f args H r H'
inductive Obl where
 |pure (f:FuncId) (args:List AV) (r:Out)
 |inl (f:FuncId) (args:List AV) (H:Heap) (r:Out) (H':Heap)
 |own (f:FuncId) (args:List AV) (es:List (List AV)) (s fz:Nat)
 |round (n:Nat) (args:List AV) (H:Heap) (r:Out) (H':Heap)
 |meth (t:TypeId) (m:String) (f:FuncId)
def MethOK (P:Program) (t:TypeId) (m:String) (f:FuncId):Prop:=∀v w,(method (P.types.size+Made.depth) t v m).run P w=.ok (f,v) w
def Obl.holds (P:Program):Obl→Prop
 |.pure f args r=>Valid P f args r
 |.inl f args H r H'=>Valid2 P f args H r H'
 |.own f args es s fz=>ValidOwn P f args es s fz
 |.round _ _ _ _ _=>False
 |.meth t m f=>MethOK P t m f
structure Hd where
 call:Nat→FuncId→List AV→Option Out
 inl:Nat→FuncId→List AV→Heap→Option (Out×Heap)
 isInl:Nat→FuncId→Bool
 own:Nat→FuncId→List AV→Option (List (List AV)×Nat×Nat)
 isOwn:Nat→FuncId→Bool
 round:Nat→Nat→List AV→Heap→Option (Out×Heap)
 meth:TypeId→String→Option FuncId
structure Rec where
 out:Out
 e:Eff
 ob:List Obl
def calleeOf (hd:Hd) (T:Tm) (o:Oper):Option (FuncId×List AV×List Obl):=
 match o.op with
 |.call c=>match c.callee with
  |.value f=>match aev T f,mapOpt (aev T) c.args.toList with
   |some (.fn (.func g) first caps),some args=>some (g,first++args++caps,[])
   |_,_=>none
  |.invoke r m=>match aev T r,mapOpt (aev T) c.args.toList with
   |some (.ifc t x),some args=>match hd.meth t m with
    |some f=>some (f,x::args,[.meth t m f])
    |none=>none
   |_,_=>none
  |_=>none
 |_=>none
def yieldOf (T:Tm) (o:Oper):Option (Nat×List AV):=
 match o.op with
 |.call c=>match c.callee with
  |.value f=>match aev T f,mapOpt (aev T) c.args.toList with
   |some (.fn (.yield n) [] []),some args=>some (n,args)
   |_,_=>none
  |_=>none
 |_=>none
def marks (H:Heap):List Nat→List (Nat×AO)
 |[]=>[]
 |n::ns=>match look H.objs n with
  |some o=>(n,frozenO o)::marks H ns
  |none=>marks H ns
def ownA (hd:Hd) (i:Nat) (H:Heap) (f:FuncId) (args:List AV):Option Rec:=
 if hd.isOwn i f then match viewList (viewA H 8) args with
  |some (ys,ns)=>match hd.own i f ys with
   |some (es,s,fz)=>some ⟨.ret (.sl H.next es.length 0 es.length none),.loc ns ((if es.all (·.all plain) then [] else marks H ns)++[(H.next,.cells es s fz)]) 1,[.own f ys es s fz]⟩
   |none=>none
  |none=>none
 else none
def panicOf (T:Tm) (o:Oper):Option AV:=
 match o.op with
 |.panic x=>match aev T x with
  |some (.ifc t v)=>some (.ifc t v)
  |_=>none
 |_=>none
def stepA (tab:Tab) (hd:Hd) (i:Nat) (T:Tm) (H:Heap) (o:Oper):Option Rec:=
 match calleeOf hd T o with
 |some (f,args,obs)=>
  if hd.isInl i f then
   match hd.inl i f args H with
   |some (r,H')=>some ⟨r,.glob H',.inl f args H r H'::obs⟩
   |none=>none
  else match ownA hd i H f args with
  |some rc=>some ⟨rc.out,rc.e,rc.ob++obs⟩
  |none=>match viewList (viewA H 8) args with
   |some (ys,ns)=>match hd.call i f ys with
    |some r=>some ⟨r,.loc ns (if plain r.val then [] else marks H ns) 0,.pure f ys r::obs⟩
    |none=>none
   |none=>none
 |none=>match yieldOf T o with
  |some (n,args)=>match hd.round i n args H with
   |some (r,H')=>some ⟨r,.glob H',[.round n args H r H']⟩
   |none=>none
  |none=>match panicOf T o with
   |some v=>some ⟨.pan v,.loc [] [] 0,[]⟩
   |none=>match aop tab T H H.next o with
    |some ⟨v,.loc rd ups nw⟩=>some ⟨.ret v,.loc rd ups nw,[]⟩
    |_=>none
def updAll (h:Nat→Option AO):List (Nat×AO)→Nat→Option AO
 |[]=>h
 |(n,o)::r=>updAll (upd h n (some o)) r
def effOn (e:Eff) (h:Nat→Option AO):Nat→Option AO:=
 match e with
 |.loc _ ups _=>updAll h ups
 |.glob H'=>look H'.objs
def Agree (H:Heap) (σ:Sg):Eff→Prop
 |.loc rd _ _=>(∀m∈rd,look H.objs m=σ.h m)∧Fresh σ H.next
 |.glob _=>σ.h=look H.objs∧∀m,H.next≤m→σ.h m=none∧¬σ.dead m
def DeadOk (H:Heap) (σ σ':Sg):Eff→Prop
 |.loc _ _ _=>σ'.dead=σ.dead
 |.glob H'=>H.next≤H'.next∧(∀m,σ'.dead m→Used σ m∨(H.next≤m∧m<H'.next))∧∀m,H'.next≤m→σ'.h m=none∧¬σ'.dead m
variable {P:Program} {tab:Tab} {σ:Sg}
theorem updAll_append:∀(a b:List (Nat×AO)) (h:Nat→Option AO),updAll h (a++b)=updAll (updAll h a) b
 |[],_,_=>rfl
 |(n,o)::r,b,h=>by simp only [List.cons_append,updAll];exact updAll_append r b _
theorem updAll_marks {H:Heap}:∀(ns:List Nat) (h:Nat→Option AO),(∀n∈ns,∃o,look H.objs n=some o)→∀m,updAll h (marks H ns) m=if m∈ns then (look H.objs m).map frozenO else h m
 |[],_,_,_=>by simp [marks,updAll]
 |n::ns,h,hh,m=>by
  obtain ⟨o,ho⟩:=hh n (by simp)
  simp only [marks,ho,updAll]
  rw [updAll_marks ns _ (fun x hx=>hh x (by simp [hx])) m]
  by_cases hm:m∈ns
  ·simp [hm]
  ·by_cases hmn:m=n
   ·subst hmn;simp [hm,upd,ho]
   ·simp [hm,hmn,upd]
theorem lend_h {H:Heap} {ns:List Nat} (hf:∀n∈ns,look H.objs n=σ.h n) (hh:∀n∈ns,∃o,look H.objs n=some o):(σ.lend ns).h=updAll σ.h (marks H ns):=by
 funext m
 rw [updAll_marks ns σ.h hh m]
 simp only [Sg.lend]
 split
 ·rename_i hm;rw [hf m hm]
 ·rfl
theorem viewList_some {view:AV→Option (AV×List Nat)} {H:Heap} (hv:∀x y ns,view x=some (y,ns)→∀n∈ns,∃o,look H.objs n=some o) :
 ∀{cs ds:List AV} {ns:List Nat},viewList view cs=some (ds,ns)→∀n∈ns,∃o,look H.objs n=some o
 |[],_,_,h=>by cases h;simp
 |c::cs,_,_,h=>by
  simp only [viewList] at h
  split at h
  ·rename_i d n1 ds' n2 h1 h2
   cases h
   intro n hn
   rcases List.mem_append.1 hn with hn | hn
   ·exact hv _ _ _ h1 n hn
   ·exact viewList_some hv h2 n hn
  ·cases h
theorem view_some {H:Heap}:∀(k:Nat) (x y:AV) (ns:List Nat),viewA H k x=some (y,ns)→∀n∈ns,∃o,look H.objs n=some o
 |0,_,_,_,h=>by cases h
 |k+1,x,y,ns,h=>by
  have ih:=view_some (H:=H) k
  unfold viewA at h
  split at h
  ·cases h;simp
  ·cases h;simp
  ·cases h;simp
  ·cases h;simp
  ·split at h
   ·rename_i h1;cases h;exact viewList_some ih h1
   ·cases h
  ·split at h
   ·rename_i h1;cases h;exact viewList_some ih h1
   ·cases h
  ·split at h
   ·cases h
   split at h
   ·rename_i h1 h2
    cases h
    intro n hn
    rcases List.mem_append.1 hn with hn | hn
    ·exact viewList_some ih h1 n hn
    ·exact viewList_some ih h2 n hn
   ·cases h
  ·split at h
   ·rename_i h1;cases h;exact ih _ _ _ h1
   ·cases h
  ·split at h
   ·rename_i ho
    split at h
    ·split at h
     ·rename_i h1
      cases h
      obtain ⟨n3,h3,h4,_⟩:=viewLists_flat h1
      intro n hn
      rcases List.mem_cons.1 hn with rfl | hn
      ·exact ⟨_,ho⟩
      ·exact viewList_some ih h3 n ((h4 n).2 hn)
     ·cases h
    ·cases h
   ·cases h
  ·split at h
   ·rename_i ho
    split at h
    ·split at h
     ·rename_i h1
      cases h
      intro n hn
      rcases List.mem_cons.1 hn with rfl | hn
      ·exact ⟨_,ho⟩
      ·exact viewList_some ih h1 n hn
     ·cases h
    ·cases h
   ·cases h
  ·split at h
   ·rename_i ho
    split at h
    ·rename_i h1
     split at h
     rotate_left
     ·cases h
     cases h
     intro n hn
     rcases List.mem_cons.1 hn with rfl | hn
     ·exact ⟨_,ho⟩
     ·exact viewList_some ih h1 n hn
    ·cases h
   ·cases h
theorem yield_enter {T:Tm} {a:Act} (tr:TR σ T a) {o:Oper} {n:Nat} {args:List AV} (hc:yieldOf T o=some (n,args)) :
 ∃vs,VRs σ args vs∧(execOp a.eval o).run P σ.w=(Instr.yield (σ.r n) vs.toArray).run P σ.w:=by
 unfold yieldOf at hc
 split at hc
 ·rename_i c hop
  split at hc
  ·rename_i fo hcal
   split at hc
   ·rename_i n' args' hfn hargs
    cases hc
    obtain ⟨hfv,_⟩:=(aev_vr tr hfn).yld_inv
    have hv:=mapOpt_vr tr hargs
    refine ⟨c.args.toList.map a.eval,hv,?_⟩
    unfold execOp
    simp only [hop,resolve,hcal,Sem.run_bind,hfv,Deferred.ofValue,Sem.run_pure,Result.andThen_ok,invoke]
    congr 2
    apply Array.ext'
    simp
   ·cases hc
  ·cases hc
 ·cases hc
theorem calleeOf_obs {hd:Hd} {T:Tm} {o:Oper} {f:FuncId} {args:List AV} {obs:List Obl} (hc:calleeOf hd T o=some (f,args,obs)):obs=[]∨∃t m,hd.meth t m=some f∧obs=[.meth t m f]:=by
 unfold calleeOf at hc
 split at hc
 ·split at hc
  ·split at hc
   ·cases hc;exact .inl rfl
   ·cases hc
  ·split at hc
   ·split at hc
    ·rename_i hm
     cases hc
     exact .inr ⟨_,_,hm,rfl⟩
    ·cases hc
   ·cases hc
  ·cases hc
 ·cases hc
theorem call_enter {hd:Hd} {T:Tm} {a:Act} (tr:TR σ T a) {o:Oper} {f:FuncId} {args:List AV} {obs:List Obl} (hc:calleeOf hd T o=some (f,args,obs)) (hob:∀ob∈obs,ob.holds P) (he:Enters P f) :
 ∃vs,VRs σ args vs∧(execOp a.eval o).run P σ.w=.ok (.enter f vs.toArray) σ.w:=by
 unfold calleeOf at hc
 split at hc
 ·rename_i c hop
  split at hc
  ·rename_i fo hcal
   split at hc
   ·rename_i g first args' caps hfn hargs
    cases hc
    obtain ⟨fs,cs,hfv,hfs,hcs⟩:=(aev_vr tr hfn).fn_inv rfl
    have hv:=mapOpt_vr tr hargs
    refine ⟨fs++c.args.toList.map a.eval++cs,(hfs.append hv).append hcs,?_⟩
    obtain ⟨fn,h1,h2,h3⟩:=he
    have hb:fn.body.isNone=false:=by cases hq:fn.body<;>simp_all
    unfold execOp
    simp only [hop,resolve,hcal,Sem.run_bind,hfv,Deferred.ofValue,Sem.run_pure,Result.andThen_ok,invoke,callFunc,run_program,h1,h3,hb,Bool.false_eq_true,if_false]
    congr 2
    apply Array.ext'
    simp
   ·cases hc
  ·rename_i r m hcal
   split at hc
   ·rename_i t x args' hr hargs
    split at hc
    ·rename_i f' hm
     cases hc
     obtain ⟨u,hu,hx⟩:=(aev_vr tr hr).ifc_inv
     have hv:=mapOpt_vr tr hargs
     have hmo:MethOK P t m f:=hob (.meth t m f) (by simp)
     refine ⟨u::c.args.toList.map a.eval,.cons hx hv,?_⟩
     obtain ⟨fn,h1,h2,h3⟩:=he
     have hb:fn.body.isNone=false:=by cases hq:fn.body<;>simp_all
     have e0:(#[Value.iface t u]++c.args.map a.eval)[0]?=some (.iface t u):=by
      rw [Array.getElem?_append_left (by simp)];rfl
     have e1:#[u]++(#[Value.iface t u]++c.args.map a.eval).extract 1 (#[Value.iface t u]++c.args.map a.eval).size=(u::c.args.toList.map a.eval).toArray:=by
      apply Array.ext'
      simp
      try exact List.take_of_length_le (by simp)
     unfold execOp
     simp only [hop,resolve,hcal,Sem.run_bind,hu,Sem.run_pure,Result.andThen_ok,invoke,e0,callMethod,run_program,hmo u σ.w,e1,callFunc,h1,h3,hb,Bool.false_eq_true,if_false]
    ·cases hc
   ·cases hc
  ·cases hc
 ·cases hc
theorem step_sound (tabOk:TabOK P tab) (sr:SR σ) {hd:Hd} {i:Nat} {T:Tm} {a:Act} (tr:TR σ T a) {H:Heap} {o:Oper} {rc:Rec} (h:stepA tab hd i T H o=some rc) (hag:Agree H σ rc.e) (hob:∀ob∈rc.ob,ob.holds P)
 {next:Act→World→Prop} {Q:Exit→Act→World→Prop}
 (hret:∀v,rc.out=.ret v→∀σ' x,Le σ σ'→SR σ'→σ'.h=effOn rc.e σ.h→DeadOk H σ σ' rc.e→VR σ' v x→next (a.put o.dst x) σ'.w)
 (hpan:∀v,rc.out=.pan v→∀σ' x,Le σ σ'→SR σ'→σ'.h=effOn rc.e σ.h→DeadOk H σ σ' rc.e→VR σ' v x→Q (.panic [{ v:=x,recovered:=false }]) a σ'.w):o.wp P a σ.w next Q:=by
 unfold stepA at h
 split at h
 ·rename_i f args obs hcal
  split at h
  ·-- a call in the same heap
   split at h
   ·rename_i r H' hin
    cases h
    obtain ⟨hen,hc2⟩:Valid2 P f args H r H':=hob (.inl f args H r H') (by simp)
    obtain ⟨vs,hvs,hrun⟩:=call_enter tr hcal (fun ob h=>hob ob (by simp [h])) hen
    obtain ⟨hag1,hag2⟩:=hag
    unfold Oper.wp
    rw [hrun]
    simp only [Oper.upon]
    refine (hc2 σ vs sr hag1 hag2 hvs).mono ?_
    rintro e w' ⟨σ',rfl,h1,l,sr',h2,h3,h4,h5⟩
    cases r<;>cases e<;>simp only [OutR] at h5
    ·exact hret _ rfl σ' _ l sr' h1 ⟨h2,h3,h4⟩ h5
    ·obtain ⟨x,rfl,hx⟩:=h5
     exact hpan _ rfl σ' x l sr' h1 ⟨h2,h3,h4⟩ hx
   ·cases h
  split at h
  ·-- a call whose result is a new row
   rename_i rc' hown
   cases h
   unfold ownA at hown
   split at hown
   rotate_left
   ·cases hown
   split at hown
   ·rename_i ys ns hv
    split at hown
    ·rename_i es s fz hcl
     cases hown
     obtain ⟨hen,hc1⟩:ValidOwn P f ys es s fz:=hob (.own f ys es s fz) (by simp)
     obtain ⟨vs,hvs,hrun⟩:=call_enter tr hcal (fun ob h=>hob ob (by simp [h])) hen
     obtain ⟨hag1,hag2⟩:=hag
     unfold Oper.wp
     rw [hrun]
     simp only [Oper.upon]
     have l0:=le_lend sr ns
     have sr0:=sr_lend sr ns
     have htv:LTVs σ ns ys vs:=viewList_vr (fun x x' m v h1 h2 h3 h4=>view_vr sr (H:=H) 8 x x' m v h1 h2 h3 h4) hvs hv hag1 (fun n hn=>hn)
     have hfr:Fresh (σ.lend ns) H.next:=⟨by simp only [Sg.lend,hag2.1];split<;>rfl,hag2.2⟩
     refine (hc1 σ.w (σ.lend ns).I (σ.lend ns).J vs sr0.ilt sr0.jlt htv).mono ?_
     rintro e w' ⟨hb,I',J',h1,h2,h3,h4,B,cap,hrow,rfl⟩
     by_cases hsc:es.all (·.all plain)=true
     ·have hfr':Fresh σ H.next:=hag2
      obtain ⟨σ',rfl,hh,hdd,l,sr',hx⟩:=adopt sr hfr' hb (fun _ _ h=>h) (fun _ _ h=>.inl h) (fun _ h=>h) (fun _ h=>.inl h) (hrow.plain hsc (fun b off h=>h1 b off ((l0.icell b off h).1)) (fun b h=>h3 b (l0.jmap b h).1))
      refine hret _ rfl σ' _ l sr' ?_ hdd hx
      rw [hh,if_pos hsc]
      rfl
     rw [if_neg hsc] at hret
     obtain ⟨σ',rfl,hh,hdd,l,sr',hx⟩:=adopt sr0 hfr hb h1 h2 h3 h4 hrow
     refine hret _ rfl σ' _ (l0.trans sr0 l sr') sr' ?_ hdd hx
     rw [hh,lend_h hag1 (viewList_some (view_some 8) hv)]
     simp only [effOn]
     rw [updAll_append]
     rfl
    ·cases hown
   ·cases hown
  ·-- a call in an empty heap
   split at h
   ·rename_i ys ns hv
    split at h
    ·rename_i r hcl
     cases h
     obtain ⟨hen,hc1⟩:Valid P f ys r:=hob (.pure f ys r) (by simp)
     obtain ⟨vs,hvs,hrun⟩:=call_enter tr hcal (fun ob h=>hob ob (by simp [h])) hen
     obtain ⟨hag1,hag2⟩:=hag
     unfold Oper.wp
     rw [hrun]
     simp only [Oper.upon]
     refine (call_ok sr hvs hv hag1 hc1).mono ?_
     rintro e w' ⟨σ',rfl,h1,h2,l,sr',h5⟩
     have hh:σ'.h=effOn (.loc ns (if plain r.val then [] else marks H ns) 0) σ.h:=by
      rw [h1]
      simp only [effOn]
      split
      ·rfl
      ·exact lend_h hag1 (viewList_some (view_some 8) hv)
     cases r<;>cases e<;>simp only [OutR] at h5
     ·exact hret _ rfl σ' _ l sr' hh h2 h5
     ·obtain ⟨x,rfl,hx⟩:=h5
      exact hpan _ rfl σ' x l sr' hh h2 hx
    ·cases h
   ·cases h
 ·split at h
  ·split at h
   ·cases h
    exact False.elim (hob _ List.mem_cons_self)
   ·cases h
  split at h
  ·rename_i v hp
   cases h
   unfold panicOf at hp
   split at hp
   ·rename_i x hop
    split at hp
    ·rename_i t u hx
     cases hp
     have hv:=aev_vr tr hx
     obtain ⟨y,hy,_⟩:=hv.ifc_inv
     unfold Oper.wp execOp
     simp only [hop,hy]
     have:=hpan _ rfl σ _ (Le.refl σ) sr rfl rfl hv
     rw [hy] at this
     simpa [Instr.panic,goPanic,Sem.run_bind,Oper.upon] using this
    ·cases hp
   ·cases hp
  split at h
  ·rename_i v rd ups nw hr
   cases h
   obtain ⟨hag1,hag2⟩:=hag
   have hfoot:Foot H σ ⟨v,.loc rd ups nw⟩:=fun rd' ups' nw' he'=>by cases he';exact hag1
   have fin:∀h',OpMd P o a σ v h'→h'=effOn (.loc rd ups nw) σ.h→o.wp P a σ.w next Q:=by
    rintro h' ⟨σ',x,hr',h1,h2,l,sr',hx⟩ he'
    have hk:=hret v rfl σ' x l sr' (h1.trans he') h2 hx
    unfold Oper.wp
    rcases hr' with hr' | ⟨hr',rfl⟩
    ·rw [hr'];exact hk
    ·rw [hr'];exact hk
   obtain ⟨rd',ups',nw',he',⟨m,ob,hu,_,_,hmd⟩ | ⟨hu,_,hmd⟩⟩:=aop_sound (P:=P) tabOk sr tr hag2 hr hfoot
   ·refine fin _ hmd ?_
    cases he'
    rw [hu];rfl
   ·refine fin _ hmd ?_
    cases he'
    rw [hu];rfl
  ·cases h
end Go.Abs
end
section
namespace Go.Abs
abbrev TL:=List (Nat×AV)
def putD (T:TL) (d:Option Tmp) (v:AV):TL:=
 match d with
 |some d=>put T d v
 |none=>T
def putAll:List (Nat×AO)→List (Nat×AO)→List (Nat×AO)
 |objs,[]=>objs
 |objs,(n,o)::r=>putAll (put objs n o) r
def Heap.apply (H:Heap):Eff→Heap
 |.loc _ ups nw=>⟨putAll H.objs ups,H.next+nw+1⟩
 |.glob H'=>H'
def okEff (H:Heap):Eff→Bool
 |.loc rd ups nw=>ups.all fun p=>(decide (H.next≤p.1)&&decide (p.1<H.next+nw)) || (rd.contains p.1&&(look H.objs p.1).isSome)
 |.glob H'=>decide (H.next≤H'.next)&&H'.objs.all fun p=>(look H.objs p.1).isSome || decide (H.next≤p.1)
def wantedA (ops:Array Oper) (T:Tm) (o:Oper):Option Bool:=
 match o.guard with
 |none=>some true
 |some (j,want)=>match (ops[j]?).bind (·.dst) with
  |none=>some false
  |some d=>match T d with
   |some (.sc (.bool b))=>some (b==want)
   |some (.sc (.tuple _))=>some false
   |_=>none
inductive RR where
 |done (T:TL) (H:Heap)
 |pan (v:AV) (H:Heap)
def undone:Rec:=⟨.ret undefA,.loc [] [] 0,[]⟩
def runOps (tab:Tab) (hd:Hd) (ops:Array Oper):List Oper→Nat→TL→Heap→Option (RR×List Rec)
 |[],_,T,H=>some (.done T H,[])
 |o::r,i,T,H=>match wantedA ops (look T) o with
  |none=>none
  |some false=>match runOps tab hd ops r (i+1) (putD T o.dst undefA) (H.apply undone.e) with
   |some (rr,rs)=>some (rr,undone::rs)
   |none=>none
  |some true=>match stepA tab hd i (look T) H o with
   |none=>none
   |some rc=>if okEff H rc.e then
    match rc.out with
    |.ret v=>match runOps tab hd ops r (i+1) (putD T o.dst v) (H.apply rc.e) with
     |some (rr,rs)=>some (rr,rc::rs)
     |none=>none
    |.pan v=>some (.pan v (H.apply rc.e),[rc])
    else none
def dstOk (N:Nat) (l:List Oper):Bool:=l.all fun o=>match o.dst with | some d=>decide (d<N) | none=>true
structure SP (σ:Sg) (H:Heap):Prop where
 sr:SR σ
 h:σ.h=look H.objs
 fresh:∀m,H.next≤m→σ.h m=none∧¬σ.dead m
structure SS (σ:Sg) (a:Act) (N:Nat) (T:TL) (H:Heap):Prop extends SP σ H where
 tr:TR σ (look T) a
 size:a.tmps.size=N
def Lg (n:Nat) (σ σ':Sg):Prop:=Le σ σ'∧∀m,Used σ' m→Used σ m∨n≤m
theorem Lg.refl (n:Nat) (σ:Sg):Lg n σ σ:=⟨Le.refl σ,fun _ h=>.inl h⟩
theorem Lg.weak {n n':Nat} {σ σ':Sg} (hn:n≤n') (h:Lg n' σ σ'):Lg n σ σ':=⟨h.1,fun m hm=>(h.2 m hm).imp id (Nat.le_trans hn)⟩
theorem Lg.trans {n:Nat} {σ σ' σ'':Sg} (l:Lg n σ σ') (sr':SR σ') (l':Lg n σ' σ'') (sr'':SR σ''):Lg n σ σ'':=
 ⟨l.1.trans sr' l'.1 sr'',fun m hm=>(l'.2 m hm).elim (l.2 m) .inr⟩
theorem ups_none:∀(ups:List (Nat×AO)) (h:Nat→Option AO) (m:Nat),(∀p∈ups,p.1≠m)→updAll h ups m=h m
 |[],_,_,_=>rfl
 |(n,o)::r,h,m,hh=>by
  simp only [updAll]
  rw [ups_none r _ m (fun p hp=>hh p (by simp [hp]))]
  have:=hh (n,o) (by simp)
  simp [upd,show ¬m=n from fun e=>this e.symm]
theorem look_in {β:Type}:∀{l:List (Nat×β)} {m:Nat},look l m≠none→∃z,(m,z)∈l
 |[],m,h=>absurd rfl h
 |(n,o)::r,m,h=>by
  by_cases e:n=m
  ·exact ⟨o,by simp [e]⟩
  ·have:look ((n,o)::r) m=look r m:=by simp [look,e]
   rw [this] at h
   obtain ⟨z,hz⟩:=look_in h
   exact ⟨z,by simp [hz]⟩
theorem lg_of {H:Heap} {e:Eff} {σ σ':Sg} (l:Le σ σ') (hok:okEff H e=true) (hag:Agree H σ e) (hh:σ'.h=effOn e σ.h) (hd:DeadOk H σ σ' e):Lg H.next σ σ':=by
 refine ⟨l,fun m hm=>?_⟩
 cases e with
 |loc rd ups nw=>
  rcases hm with hm | hm
  ·rw [hh] at hm
   simp only [effOn] at hm
   by_cases hx:∃p∈ups,p.1=m
   ·obtain ⟨p,hp,rfl⟩:=hx
    have hq:=(List.all_eq_true.1 hok) p hp
    simp only [Bool.or_eq_true,Bool.and_eq_true,decide_eq_true_eq] at hq
    rcases hq with hq | hq
    ·exact .inr hq.1
    ·refine .inl (.inl fun e=>?_)
     rw [hag.1 p.1 (List.contains_iff_mem.1 hq.1),e] at hq
     simp at hq
   ·rw [ups_none ups σ.h m (fun p hp e=>hx ⟨p,hp,e⟩)] at hm
    exact .inl (.inl hm)
  ·rw [show σ'.dead=σ.dead from hd] at hm;exact .inl (.inr hm)
 |glob H'=>
  simp only [okEff,Bool.and_eq_true,decide_eq_true_eq,List.all_eq_true] at hok
  rcases hm with hm | hm
  ·rw [hh] at hm
   simp only [effOn] at hm
   obtain ⟨z,hz⟩:=look_in hm
   have:=hok.2 _ hz
   simp only [Bool.or_eq_true,decide_eq_true_eq] at this
   rcases this with h | h
   ·refine .inl (.inl fun e=>?_)
    rw [hag.1] at e
    rw [e] at h;cases h
   ·exact .inr h
  ·exact (hd.2.1 m hm).imp id (·.1)
theorem apply_next {H:Heap} {e:Eff} (h:okEff H e=true):H.next≤(H.apply e).next:=by
 cases e with
 |loc rd ups nw=>simp only [Heap.apply];omega
 |glob H'=>
  simp only [okEff,Bool.and_eq_true,decide_eq_true_eq] at h
  exact h.1
variable {P:Program} {tab:Tab} {σ:Sg}
theorem look_putAll:∀(ups:List (Nat×AO)) (objs:List (Nat×AO)),look (putAll objs ups)=updAll (look objs) ups
 |[],_=>rfl
 |(n,o)::r,objs=>by
  simp only [putAll,updAll]
  rw [look_putAll r]
  congr 1
  funext m
  rw [look_put]
  simp only [upd]
  by_cases h:n=m
  ·simp [h]
  ·rw [if_neg h,if_neg (fun e=>h e.symm)]
theorem apply_h (H:Heap) (e:Eff):look (H.apply e).objs=effOn e (look H.objs):=by
 cases e with
 |loc rd ups nw=>exact look_putAll ups H.objs
 |glob H'=>rfl
theorem updAll_none:∀(ups:List (Nat×AO)) (h:Nat→Option AO) (m:Nat),(∀p∈ups,p.1≠m)→updAll h ups m=h m
 |[],_,_,_=>rfl
 |(n,o)::r,h,m,hh=>by
  simp only [updAll]
  rw [updAll_none r _ m (fun p hp=>hh p (by simp [hp]))]
  have:=hh (n,o) (by simp)
  simp [upd,show ¬m=n from fun e=>this e.symm]
theorem sp_apply {H:Heap} {e:Eff} (sp:SP σ H) (hok:okEff H e=true) {σ':Sg} (sr':SR σ') (hh:σ'.h=effOn e σ.h) (hd:DeadOk H σ σ' e):SP σ' (H.apply e):=by
 refine ⟨sr',by rw [hh,sp.h,apply_h],fun m hm=>?_⟩
 cases e with
 |loc rd ups nw=>
  simp only [Heap.apply] at hm
  simp only [DeadOk] at hd
  have:=sp.fresh m (by omega)
  rw [hd,hh]
  refine ⟨?_,this.2⟩
  simp only [effOn]
  rw [updAll_none ups σ.h m (fun p hp e=>by
   have hq:=(List.all_eq_true.1 hok) p hp
   simp only [Bool.or_eq_true,Bool.and_eq_true,decide_eq_true_eq] at hq
   rcases hq with hq | hq
   ·omega
   ·rw [e,←sp.h,this.1] at hq
    simp at hq)]
  exact this.1
 |glob H'=>exact hd.2.2 m hm
theorem put_get {a:Act} {d t:Nat} {x:Value} (hd:d<a.tmps.size):(a.put (some d) x).tmps.getD t undef=if d=t then x else a.tmps.getD t undef:=by
 simp only [Act.put,Array.getD_eq_getD_getElem?]
 by_cases h:d=t
 ·subst h;simp [hd]
 ·rw [if_neg h,Array.getElem?_setIfInBounds_ne h]
theorem tr_putD {T:TL} {a:Act} (tr:TR σ (look T) a) {d:Option Tmp} (hd:∀t,d=some t→t<a.tmps.size) {v:AV} {x:Value} (hv:VR σ v x):TR σ (look (putD T d v)) (a.put d x):=by
 intro t y hy
 cases d with
 |none=>exact tr t y hy
 |some d=>
  rw [put_get (hd d rfl)]
  simp only [putD,look_put] at hy
  split at hy
  ·rename_i e
   cases hy
   rw [if_pos e];exact hv
  ·rename_i e
   rw [if_neg e]
   exact tr t y hy
theorem put_size' {a:Act} {d:Option Tmp} {x:Value}:(a.put d x).tmps.size=a.tmps.size:=by cases d<;>simp [Act.put]
theorem TR.mono {σ σ':Sg} (l:Le σ σ') {T:Tm} {a:Act} (h:TR σ T a):TR σ' T a:=fun t x hx=>(h t x hx).mono l
theorem wanted_vr {ops:Array Oper} {T:Tm} {a:Act} (tr:TR σ T a) {o:Oper} {b:Bool} (h:wantedA ops T o=some b):Region.wanted o (yielded ops a.tmps)=b:=by
 unfold wantedA at h
 unfold Region.wanted
 split at h
 ·rename_i hg
  cases h
  simp [hg]
 ·rename_i j want hg
  simp only [hg]
  split at h
  ·rename_i hd
   cases h
   simp [yielded,hd]
  ·rename_i d hd
   split at h
   ·rename_i bb hb
    cases h
    obtain ⟨hv,_⟩:=(tr d _ hb).sc_inv
    have:a.tmps[d]?=some (.bool bb):=by
     rw [Array.getD_eq_getD_getElem?] at hv
     cases hq:a.tmps[d]? with
     |none=>rw [hq] at hv;cases hv
     |some u=>rw [hq] at hv;simp at hv;rw [hv]
    simp only [yielded,hd,Option.bind_some,this]
    cases bb<;>cases want<;>rfl
   ·rename_i vs hb
    cases h
    obtain ⟨hv,_⟩:=(tr d _ hb).sc_inv
    have:yielded ops a.tmps j=none:=by
     simp only [yielded,hd,Option.bind_some]
     rw [Array.getD_eq_getD_getElem?] at hv
     cases hq:a.tmps[d]? with
     |none=>rfl
     |some u=>rw [hq] at hv;simp at hv;rw [hv]
    rw [this]
    rfl
   ·cases h
theorem agree_of {H:Heap} (sp:SP σ H) (e:Eff):Agree H σ e:=by
 cases e with
 |loc rd ups nw=>exact ⟨fun m _=>by rw [sp.h],sp.fresh H.next (Nat.le_refl _)⟩
 |glob H'=>exact ⟨sp.h,sp.fresh⟩
theorem put_defers' {a:Act} {d:Option Tmp} {x:Value}:(a.put d x).defers=a.defers:=by cases d<;>rfl
end Go.Abs
end
section
namespace Go.Abs
def eqBytes:List UInt8→List UInt8→Bool
 |[],[]=>true
 |a::as,b::bs=>Nat.beq a.toNat b.toNat&&eqBytes as bs
 |_,_=>false
theorem eqBytes_eq:∀{a b:List UInt8},eqBytes a b=true→a=b
 |[],[],_=>rfl
 |a::as,b::bs,h=>by
  simp only [eqBytes,Bool.and_eq_true] at h
  have h1:=Nat.eq_of_beq_eq_true h.1
  rw [UInt8.toNat_inj.1 h1,eqBytes_eq h.2]
 |[],_::_,h=>by cases h
 |_::_,[],h=>by cases h
def eqV:Value→Value→Bool
 |.int k a,.int j b=>decide (k=j)&&decide (a=b)
 |.string a,.string b=>eqBytes a.data.toList b.data.toList
 |.bool a,.bool b=>a==b
 |.slice none 0 0,.slice none 0 0=>true
 |.pointer none,.pointer none=>true
 |.map none,.map none=>true
 |.nilFunc,.nilFunc=>true
 |.nilIface,.nilIface=>true
 |_,_=>false
theorem eqV_eq {a b:Value} (h:eqV a b=true):a=b:=by
 unfold eqV at h
 split at h
 ·simp only [Bool.and_eq_true,decide_eq_true_eq] at h;rw [h.1,h.2]
 ·rename_i a b
  have:=eqBytes_eq h
  congr 1
  cases a;cases b
  congr 1
  exact Array.ext' this
 ·rw [eq_of_beq h]
 all_goals first | rfl | cases h
def eqVs:List Value→List Value→Bool
 |[],[]=>true
 |a::as,b::bs=>eqV a b&&eqVs as bs
 |_,_=>false
theorem eqVs_eq:∀{a b:List Value},eqVs a b=true→a=b
 |[],[],_=>rfl
 |a::as,b::bs,h=>by
  simp only [eqVs,Bool.and_eq_true] at h
  rw [eqV_eq h.1,eqVs_eq h.2]
 |[],_::_,h=>by cases h
 |_::_,[],h=>by cases h
mutual
def eqAV:AV→AV→Bool
 |.sc a,.sc b=>eqV a b
 |.agg a,.agg b=>eqAVs a b
 |.tup a,.tup b=>eqAVs a b
 |.isl a c,.isl b d=>(c==d)&&eqAVss a b
 |.ipt a,.ipt b=>eqAVs a b
 |.imp k a,.imp j b=>eqVs k j&&eqAVs a b
 |.fn (.func f) a c,.fn (.func g) b d=>Nat.beq f g&&eqAVs a b&&eqAVs c d
 |.ifc t a,.ifc u b=>Nat.beq t u&&eqAV a b
 |.sl n g o l c,.sl m k p j d=>Nat.beq n m&&Nat.beq g k&&Nat.beq o p&&Nat.beq l j&&decide (c=d)
 |.pt n g i o,.pt m k j p=>Nat.beq n m&&Nat.beq g k&&Nat.beq i j&&Nat.beq o p
 |.mp n,.mp m=>Nat.beq n m
 |_,_=>false
def eqAVs:List AV→List AV→Bool
 |[],[]=>true
 |a::as,b::bs=>eqAV a b&&eqAVs as bs
 |_,_=>false
def eqAVss:List (List AV)→List (List AV)→Bool
 |[],[]=>true
 |a::as,b::bs=>eqAVs a b&&eqAVss as bs
 |_,_=>false
end
mutual
theorem eqAV_eq:∀{a b:AV},eqAV a b=true→a=b:=fun {a b} h=>by
 cases a with
 |sc a=>cases b<;>simp only [eqAV,Bool.false_eq_true] at h;rw [eqV_eq h]
 |agg a=>cases b<;>simp only [eqAV,Bool.false_eq_true] at h;rw [eqAVs_eq h]
 |tup a=>cases b<;>simp only [eqAV,Bool.false_eq_true] at h;rw [eqAVs_eq h]
 |isl a c=>cases b<;>simp only [eqAV,Bool.false_eq_true,Bool.and_eq_true,beq_iff_eq] at h;rw [h.1,eqAVss_eq h.2]
 |ipt a=>cases b<;>simp only [eqAV,Bool.false_eq_true] at h;rw [eqAVs_eq h]
 |imp k a=>cases b<;>simp only [eqAV,Bool.false_eq_true,Bool.and_eq_true] at h;rw [eqVs_eq h.1,eqAVs_eq h.2]
 |fn f a c=>
  cases b<;>(try (cases f<;>simp only [eqAV,Bool.false_eq_true] at h;done))
  case fn g b d=>
   cases f<;>cases g<;>simp only [eqAV,Bool.false_eq_true,Bool.and_eq_true] at h
   rw [Nat.eq_of_beq_eq_true h.1.1,eqAVs_eq h.1.2,eqAVs_eq h.2]
 |ifc t a=>cases b<;>simp only [eqAV,Bool.false_eq_true,Bool.and_eq_true] at h;rw [Nat.eq_of_beq_eq_true h.1,eqAV_eq h.2]
 |sl=>
  cases b<;>simp only [eqAV,Bool.false_eq_true,Bool.and_eq_true,decide_eq_true_eq] at h
  obtain ⟨⟨⟨⟨h1,h2⟩,h3⟩,h4⟩,h5⟩:=h
  rw [Nat.eq_of_beq_eq_true h1,Nat.eq_of_beq_eq_true h2,Nat.eq_of_beq_eq_true h3,Nat.eq_of_beq_eq_true h4,h5]
 |pt=>
  cases b<;>simp only [eqAV,Bool.false_eq_true,Bool.and_eq_true] at h
  obtain ⟨⟨⟨h1,h2⟩,h3⟩,h4⟩:=h
  rw [Nat.eq_of_beq_eq_true h1,Nat.eq_of_beq_eq_true h2,Nat.eq_of_beq_eq_true h3,Nat.eq_of_beq_eq_true h4]
 |mp=>
  cases b<;>simp only [eqAV,Bool.false_eq_true] at h
  rw [Nat.eq_of_beq_eq_true h]
theorem eqAVs_eq:∀{a b:List AV},eqAVs a b=true→a=b:=fun {a b} h=>by
 cases a with
 |nil=>cases b with
  |nil=>rfl
  |cons=>simp only [eqAVs,Bool.false_eq_true] at h
 |cons a as=>cases b with
  |nil=>simp only [eqAVs,Bool.false_eq_true] at h
  |cons b bs=>
   simp only [eqAVs,Bool.and_eq_true] at h
   rw [eqAV_eq h.1,eqAVs_eq h.2]
theorem eqAVss_eq:∀{a b:List (List AV)},eqAVss a b=true→a=b:=fun {a b} h=>by
 cases a with
 |nil=>cases b with
  |nil=>rfl
  |cons=>simp only [eqAVss,Bool.false_eq_true] at h
 |cons a as=>cases b with
  |nil=>simp only [eqAVss,Bool.false_eq_true] at h
  |cons b bs=>
   simp only [eqAVss,Bool.and_eq_true] at h
   rw [eqAVs_eq h.1,eqAVss_eq h.2]
end
def eqNats:List Nat→List Nat→Bool
 |[],[]=>true
 |a::as,b::bs=>Nat.beq a b&&eqNats as bs
 |_,_=>false
theorem eqNats_eq:∀{a b:List Nat},eqNats a b=true→a=b
 |[],[],_=>rfl
 |a::as,b::bs,h=>by
  simp only [eqNats,Bool.and_eq_true] at h
  rw [Nat.eq_of_beq_eq_true h.1,eqNats_eq h.2]
 |[],_::_,h=>by cases h
 |_::_,[],h=>by cases h
def eqAO:AO→AO→Bool
 |.cells a s f,.cells b t g=>Nat.beq s t&&Nat.beq f g&&eqAVss a b
 |.map ks vs bs c f,.map js us ds d g=>eqVs ks js&&eqAVs vs us&&eqNats bs ds&&Nat.beq c d&&(f==g)
 |_,_=>false
theorem eqAO_eq {a b:AO} (h:eqAO a b=true):a=b:=by
 cases a<;>cases b<;>simp only [eqAO,Bool.false_eq_true,Bool.and_eq_true] at h
 ·obtain ⟨⟨h1,h2⟩,h3⟩:=h
  rw [Nat.eq_of_beq_eq_true h1,Nat.eq_of_beq_eq_true h2,eqAVss_eq h3]
 ·obtain ⟨⟨⟨⟨h1,h2⟩,h3⟩,h4⟩,h5⟩:=h
  rw [eqVs_eq h1,eqAVs_eq h2,eqNats_eq h3,Nat.eq_of_beq_eq_true h4,eq_of_beq h5]
def eqOAO:Option AO→Option AO→Bool
 |none,none=>true
 |some a,some b=>eqAO a b
 |_,_=>false
theorem eqOAO_eq {a b:Option AO} (h:eqOAO a b=true):a=b:=by
 cases a<;>cases b<;>simp only [eqOAO,Bool.false_eq_true] at h
 ·rfl
 ·rw [eqAO_eq h]
end Go.Abs
end
section
namespace Go.Abs
section congr
variable {tab:Tab}
theorem mapOpt_congr {α β:Type} {f g:α→Option β}:∀{l:List α},(∀x∈l,f x=g x)→mapOpt f l=mapOpt g l
 |[],_=>rfl
 |x::r,h=>by
  simp only [mapOpt]
  rw [h x (by simp),mapOpt_congr (fun y hy=>h y (by simp [hy]))]
theorem aop_congr {T T':Tm} {H:Heap} {st:Nat} {o:Oper} (h:∀x∈o.op.operands,aev T x=aev T' x):aop tab T H st o=aop tab T' H st o:=by
 unfold aop
 simp only []
 have parts:∀ps:Array (Nat×Operand),(∀x∈(ps.toList.map (·.2)).toArray,aev T x=aev T' x)→
  mapOpt (fun p:Nat×Operand=>(aev T p.2).map fun v=>(p.1,v)) ps.toList=mapOpt (fun p:Nat×Operand=>(aev T' p.2).map fun v=>(p.1,v)) ps.toList:=fun ps hp=>
  mapOpt_congr fun p hm=>by rw [hp p.2 (by simp;exact ⟨p.1,by simpa using hm⟩)]
 cases hop:o.op<;>simp only [hop,Op.operands] at h<;>simp only []
 case move x=>rw [h x (by simp)]
 case assign x=>rw [h x (by simp)]
 case pick c a b=>rw [h c (by simp),h a (by simp),h b (by simp)]
 case box t x=>rw [h x (by simp)]
 case build t ps=>rw [parts ps h]
 case buildSlice t n ps=>rw [parts ps h]
 case insert t m k v=>rw [h m (by simp),h k (by simp),h v (by simp)]
 case load t x=>rw [h x (by simp)]
 case store t x y=>rw [h x (by simp),h y (by simp)]
 case nilCheck x=>rw [h x (by simp)]
 case binOp op t x y yt=>rw [h x (by simp),h y (by simp)]
 case unOp op t x=>rw [h x (by simp)]
 case convert s d x=>rw [h x (by simp)]
 case makeInterface t x=>rw [h x (by simp)]
 case makeFunc f first caps=>
  rw [mapOpt_congr (l:=first.toList) (fun x hx=>h x (by simp at hx ⊢;exact .inl hx)),mapOpt_congr (l:=caps.toList) (fun x hx=>h x (by simp at hx ⊢;exact .inr hx))]
 case makeMap t r=>
  cases r with
  |none=>rfl
  |some x=>simp only [];rw [h x (by simp)]
 case makeSlice t l c=>rw [h l (by simp),h c (by simp)]
 case slice t x lo hi mx=>
  have hopt:∀y:Option Operand,(∀z,y=some z→aev T z=aev T' z)→optA T y=optA T' y:=by
   intro y hy
   cases y with
   |none=>rfl
   |some z=>simp only [optA];rw [hy z rfl]
  have h1:=hopt lo (fun z hz=>h z (by simp [hz]))
  have h2:=hopt hi (fun z hz=>h z (by simp [hz]))
  have h3:=hopt mx (fun z hz=>h z (by simp [hz]))
  rw [h x (by simp),h1,h2,h3]
 case fieldAddr t x f=>rw [h x (by simp)]
 case field t x f=>rw [h x (by simp)]
 case indexAddr t x i=>rw [h x (by simp),h i (by simp)]
 case index t x i=>rw [h x (by simp),h i (by simp)]
 case lookup t x i ok=>rw [h x (by simp),h i (by simp)]
 case mapUpdate t m k v=>rw [h m (by simp),h k (by simp),h v (by simp)]
 case mapEntry t m k=>rw [h m (by simp),h k (by simp)]
 case entryStore t m s v=>rw [h m (by simp),h s (by simp),h v (by simp)]
 case typeAssert x X t ok=>rw [h x (by simp)]
 case extract x i=>rw [h x (by simp)]
 case call c=>
  cases hc:c.callee with
  |value f=>rfl
  |invoke r m=>rfl
  |builtin b=>
   simp only []
   rw [mapOpt_congr (l:=c.args.toList) (fun x hx=>h x (by simp [Call.operands,hc];simpa using hx))]
theorem calleeOf_congr {hd:Hd} {T T':Tm} {o:Oper} (h:∀x∈o.op.operands,aev T x=aev T' x):calleeOf hd T o=calleeOf hd T' o:=by
 unfold calleeOf
 cases hop:o.op<;>simp only [hop,Op.operands] at h<;>simp only []
 case call c=>
  cases hc:c.callee with
  |value f=>
   simp only []
   rw [h f (by simp [Call.operands,hc]),mapOpt_congr (l:=c.args.toList) (fun x hx=>h x (by simp [Call.operands,hc];right;simpa using hx))]
  |invoke r m=>
   simp only []
   rw [h r (by simp [Call.operands,hc]),mapOpt_congr (l:=c.args.toList) (fun x hx=>h x (by simp [Call.operands,hc];right;simpa using hx))]
  |builtin b=>rfl
theorem panicOf_congr {T T':Tm} {o:Oper} (h:∀x∈o.op.operands,aev T x=aev T' x):panicOf T o=panicOf T' o:=by
 unfold panicOf
 cases hop:o.op<;>simp only [hop,Op.operands] at h<;>simp only []
 case panic x=>rw [h x (by simp)]
theorem yieldOf_congr {T T':Tm} {o:Oper} (h:∀x∈o.op.operands,aev T x=aev T' x):yieldOf T o=yieldOf T' o:=by
 unfold yieldOf
 cases hop:o.op<;>simp only [hop,Op.operands] at h<;>simp only []
 case call c=>
  cases hc:c.callee with
  |value f=>
   simp only []
   rw [h f (by simp [Call.operands,hc]),mapOpt_congr (l:=c.args.toList) (fun x hx=>h x (by simp [Call.operands,hc];right;simpa using hx))]
  |invoke r m=>rfl
  |builtin b=>rfl
theorem stepA_congr {hd:Hd} {i:Nat} {T T':Tm} {H:Heap} {o:Oper} (h:∀x∈o.op.operands,aev T x=aev T' x):stepA tab hd i T H o=stepA tab hd i T' H o:=by
 unfold stepA
 rw [calleeOf_congr h,aop_congr h,panicOf_congr h,yieldOf_congr h]
theorem aev_looks {ops:Array Oper} {T T':Tm} {o:Oper} (h:∀t∈o.looksAt ops,T t=T' t):∀x∈o.op.operands,aev T x=aev T' x:=by
 intro x hx
 cases x with
 |tmp t=>exact h t (List.mem_append_left _ (List.mem_filterMap.2 ⟨.tmp t,by simpa using hx,rfl⟩))
 |const c=>rfl
 |global g=>rfl
 |func f=>rfl
theorem wantedA_congr {ops:Array Oper} {T T':Tm} {o:Oper} (h:∀t∈o.looksAt ops,T t=T' t):wantedA ops T o=wantedA ops T' o:=by
 unfold wantedA
 cases hg:o.guard with
 |none=>rfl
 |some p=>
  obtain ⟨j,want⟩:=p
  simp only []
  cases hd:(ops[j]?).bind (·.dst) with
  |none=>rfl
  |some d=>
   simp only []
   rw [h d (List.mem_append_right _ (by simp [hg,hd]))]
end congr
def lastOf {β:Type} (touch:Nat→Option β) (S:Nat→Bool) (init:β):Nat→β
 |0=>init
 |k+1=>if S k then (touch k).getD (lastOf touch S init k) else lastOf touch S init k
theorem lastOf_congr {β:Type} {touch:Nat→Option β} {S T:Nat→Bool} {init:β}:∀n,(∀i,i<n→S i=T i∨touch i=none)→lastOf touch S init n=lastOf touch T init n
 |0,_=>rfl
 |n+1,h=>by
  have ih:=lastOf_congr (touch:=touch) (S:=S) (T:=T) (init:=init) n (fun i hi=>h i (by omega))
  simp only [lastOf,ih]
  rcases h n (by omega) with h | h
  ·rw [h]
  ·rw [h];simp
theorem lastOf_none {β:Type} {touch:Nat→Option β} {S:Nat→Bool} {init:β} (j:Nat):∀k,(∀i,j≤i→i<j+k→S i=false∨touch i=none)→lastOf touch S init (j+k)=lastOf touch S init j
 |0,_=>rfl
 |k+1,h=>by
  have ih:=lastOf_none (touch:=touch) (S:=S) (init:=init) j k (fun i h1 h2=>h i h1 (by omega))
  rw [←Nat.add_assoc,lastOf,ih]
  rcases h (j+k) (by omega) (by omega) with h | h
  ·rw [h];simp
  ·rw [h];simp
theorem lastOf_seen {β:Type} {touch:Nat→Option β} {S:Nat→Bool} {init:β} {n j:Nat} (hj:j≤n) (h1:∀i,i<j→S i=true∨touch i=none) (h2:∀i,j≤i→i<n→S i=false∨touch i=none) :
 lastOf touch S init n=lastOf touch (fun _=>true) init j:=by
 have:=lastOf_none (touch:=touch) (S:=S) (init:=init) j (n-j) (fun i a b=>h2 i a (by omega))
 rw [show j+(n-j)=n by omega] at this
 rw [this]
 exact lastOf_congr j (fun i hi=>h1 i hi)
theorem lastOf_insert {β:Type} {touch:Nat→Option β} {S:Nat→Bool} {init:β} {j:Nat} (hS:S j=false):∀n,j<n→(∀i,j<i→i<n→S i=true→touch i=none∨touch j=none)→
 lastOf touch (fun i=>decide (i=j) || S i) init n=(touch j).getD (lastOf touch S init n)
 |0,h,_=>by omega
 |n+1,hj,h=>by
  by_cases e:j=n
  ·subst e
   simp only [lastOf,decide_true,Bool.true_or,if_true,hS]
   rw [lastOf_congr (S:=fun i=>decide (i=j) || S i) (T:=S) j (fun i hi=>.inl (by simp [show ¬i=j by omega]))]
   simp
  ·have ih:=lastOf_insert (touch:=touch) (init:=init) hS n (by omega) (fun i h1 h2 h3=>h i h1 (by omega) h3)
   simp only [lastOf]
   have hd:decide (n=j)=false:=by simp;omega
   simp only [hd,Bool.false_or,ih]
   cases hSn:S n with
   |false=>simp
   |true=>
    simp only [if_true]
    rcases h n (by omega) (by omega) hSn with h | h
    ·rw [h];simp
    ·rw [h];simp
def upLook:List (Nat×AO)→Nat→Option (Option AO)
 |[],_=>none
 |(n,o)::r,m=>match upLook r m with
  |some x=>some x
  |none=>if m=n then some (some o) else none
theorem updAll_look:∀(ups:List (Nat×AO)) (h:Nat→Option AO) (m:Nat),updAll h ups m=(upLook ups m).getD (h m)
 |[],_,_=>rfl
 |(n,o)::r,h,m=>by
  simp only [updAll,upLook]
  rw [updAll_look r]
  cases upLook r m with
  |some x=>rfl
  |none=>
   simp only [Option.getD_none,upd]
   split<;>rfl
theorem upLook_none:∀(ups:List (Nat×AO)) (m:Nat),(∀p∈ups,p.1≠m)→upLook ups m=none
 |[],_,_=>rfl
 |(n,o)::r,m,h=>by
  simp only [upLook]
  rw [upLook_none r m (fun p hp=>h p (by simp [hp])),if_neg (fun e=>h (n,o) (by simp) e.symm)]
def touchH (e:Eff) (m:Nat):Option (Option AO):=
 match e with
 |.loc _ ups _=>upLook ups m
 |.glob H'=>some (look H'.objs m)
theorem effOn_touch (e:Eff) (h:Nat→Option AO) (m:Nat):effOn e h m=(touchH e m).getD (h m):=by
 cases e with
 |loc rd ups nw=>exact updAll_look ups h m
 |glob H'=>rfl
def touchT (dst:Option Tmp) (v:AV) (t:Nat):Option (Option AV):=
 match dst with
 |some d=>if t=d then some (some v) else none
 |none=>none
theorem putD_touch (T:TL) (dst:Option Tmp) (v:AV) (t:Nat):look (putD T dst v) t=(touchT dst v t).getD (look T t):=by
 cases dst with
 |none=>rfl
 |some d=>
  simp only [putD,look_put,touchT]
  by_cases h:d=t
  ·subst h;simp
  ·rw [if_neg h,if_neg (fun e=>h e.symm)];rfl
def effApart:Eff→Eff→Bool
 |.loc r1 u1 _,.loc r2 u2 _=>u1.all (fun p=>!r2.contains p.1&&u2.all fun q=>q.1 != p.1)&&u2.all (fun q=>!r1.contains q.1)
 |.glob _,.loc r u _ | .loc r u _,.glob _=>r.isEmpty&&u.isEmpty
 |.glob _,.glob _=>false
theorem effApart_touch {e f:Eff} (h:effApart e f=true):∀m,(∀rd ups nw,f=.loc rd ups nw→m∈rd∨upLook ups m≠none→touchH e m=none)∧(∀H',f=.glob H'→touchH e m=none):=by
 intro m
 cases e with
 |loc r1 u1 n1=>
  cases f with
  |loc r2 u2 n2=>
   refine ⟨fun rd ups nw hf hm=>?_,fun H' hf=>by cases hf⟩
   cases hf
   simp only [effApart,Bool.and_eq_true,List.all_eq_true] at h
   refine upLook_none u1 m (fun p hp e=>?_)
   obtain ⟨h1,h2⟩:=h.1 p hp
   rcases hm with hm | hm
   ·rw [e] at h1
    have:=List.contains_iff_mem.2 hm
    simp at h1
    exact h1 hm
   ·refine hm (upLook_none u2 m (fun q hq e'=>?_))
    have:=h2 q hq
    simp at this
    omega
  |glob H'=>
   simp only [effApart,Bool.and_eq_true,List.isEmpty_iff] at h
   obtain ⟨rfl,rfl⟩:=h
   exact ⟨fun rd ups nw hf=>by (cases hf),fun _ _=>rfl⟩
 |glob H'=>
  cases f with
  |loc r2 u2 n2=>
   simp only [effApart,Bool.and_eq_true,List.isEmpty_iff] at h
   obtain ⟨rfl,rfl⟩:=h
   refine ⟨fun rd ups nw hf hm=>?_,fun H' hf=>by (cases hf)⟩
   cases hf
   rcases hm with hm | hm
   ·cases hm
   ·exact absurd rfl hm
  |glob H''=>simp [effApart] at h
def sameAt (h H:Heap) (m:Nat):Bool:=eqOAO (look h.objs m) (look H.objs m)
def effApart2 (Hi:Heap) (ei:Eff) (Hj:Heap) (ej:Eff):Bool:=effApart ei ej || match ei,ej with
 |.loc r [] _,.glob h=>r.all (sameAt h Hj)
 |.glob h,.loc r [] _=>r.all (sameAt h Hi)
 |_,_=>false
theorem effApart_symm {e f:Eff} (h:effApart e f=true):effApart f e=true:=by
 cases e<;>cases f<;>simp only [effApart] at h ⊢
 case loc.loc r1 u1 n1 r2 u2 n2=>
  simp only [Bool.and_eq_true,List.all_eq_true] at h ⊢
  refine ⟨fun q hq=>⟨h.2 q hq,fun p hp=>?_⟩,fun p hp=>(h.1 p hp).1⟩
  have:=(h.1 p hp).2 q hq
  simp at this ⊢
  omega
 all_goals first | exact h | cases h
theorem effApart2_symm {Hi Hj:Heap} {e f:Eff} (h:effApart2 Hi e Hj f=true):effApart2 Hj f Hi e=true:=by
 unfold effApart2 at h ⊢
 rw [Bool.or_eq_true] at h ⊢
 rcases h with h | h
 ·exact .inl (effApart_symm h)
 ·refine .inr ?_
  split at h
  ·exact h
  ·exact h
  ·cases h
end Go.Abs
end
section
namespace Go.Abs
def Hs (H:Heap) (recs:List Rec):Nat→Heap
 |0=>H
 |k+1=>(Hs H recs k).apply (recs.getD k undone).e
def Ts (T:TL) (l:List Oper) (recs:List Rec):Nat→TL
 |0=>T
 |k+1=>putD (Ts T l recs k) ((l[k]?).bind (·.dst)) (recs.getD k undone).out.val
theorem Hs_cons (H:Heap) (rc:Rec) (recs:List Rec):∀k,Hs H (rc::recs) (k+1)=Hs (H.apply rc.e) recs k
 |0=>rfl
 |k+1=>by
  have ih:=Hs_cons H rc recs k
  rw [Hs,ih]
  simp only [Hs,List.getD_cons_succ]
theorem Ts_cons (T:TL) (o:Oper) (l:List Oper) (rc:Rec) (recs:List Rec):∀k,Ts T (o::l) (rc::recs) (k+1)=Ts (putD T o.dst rc.out.val) l recs k
 |0=>rfl
 |k+1=>by
  have ih:=Ts_cons T o l rc recs k
  rw [Ts,ih]
  simp only [Ts,List.getD_cons_succ,List.getElem?_cons_succ]
variable {P:Program} {tab:Tab}
def Good (tab:Tab) (hd:Hd) (ops:Array Oper) (i:Nat) (T:TL) (H:Heap) (o:Oper) (rc:Rec):Prop:=
 (wantedA ops (look T) o=some false∧rc=undone)∨(wantedA ops (look T) o=some true∧stepA tab hd i (look T) H o=some rc∧okEff H rc.e=true)
theorem runOps_trace {hd:Hd} {ops:Array Oper}:∀(l:List Oper) (i:Nat) (T:TL) (H:Heap) (rr:RR) (recs:List Rec),runOps tab hd ops l i T H=some (rr,recs)→
 recs.length≤l.length∧(∀k rc,recs[k]?=some rc→∃o,l[k]?=some o∧Good tab hd ops (i+k) (Ts T l recs k) (Hs H recs k) o rc∧(∀v,rc.out=.pan v→k+1=recs.length∧rr=.pan v ((Hs H recs k).apply rc.e)))∧
 (∀T' H',rr=.done T' H'→recs.length=l.length∧T'=Ts T l recs l.length∧H'=Hs H recs l.length)
 |[],i,T,H,rr,recs,h=>by
  cases h
  exact ⟨Nat.le_refl _,by simp,fun T' H' e=>by cases e;exact ⟨rfl,rfl,rfl⟩⟩
 |o::r,i,T,H,rr,recs,h=>by
  have step:∀(rc:Rec) (rs:List Rec),recs=rc::rs→rc.out=.ret rc.out.val→Good tab hd ops i T H o rc→runOps tab hd ops r (i+1) (putD T o.dst rc.out.val) (H.apply rc.e)=some (rr,rs)→
   recs.length≤(o::r).length∧(∀k rc,recs[k]?=some rc→∃o',(o::r)[k]?=some o'∧Good tab hd ops (i+k) (Ts T (o::r) recs k) (Hs H recs k) o' rc∧(∀v,rc.out=.pan v→k+1=recs.length∧rr=.pan v ((Hs H recs k).apply rc.e)))∧
   (∀T' H',rr=.done T' H'→recs.length=(o::r).length∧T'=Ts T (o::r) recs (o::r).length∧H'=Hs H recs (o::r).length):=by
   rintro rc rs rfl hret hg hrun
   obtain ⟨h1,h2,h3⟩:=runOps_trace r (i+1) _ _ rr rs hrun
   refine ⟨by simp;omega,fun k rc' hk=>?_,fun T' H' e=>?_⟩
   ·cases k with
    |zero=>
     simp only [List.getElem?_cons_zero,Option.some.injEq] at hk
     subst hk
     exact ⟨o,rfl,hg,fun v hv=>by rw [hret] at hv;cases hv⟩
    |succ k=>
     simp only [List.getElem?_cons_succ] at hk
     obtain ⟨o',ho',hg',hp'⟩:=h2 k rc' hk
     refine ⟨o',by simpa using ho',?_,fun v hv=>?_⟩
     ·rw [Hs_cons,Ts_cons,show i+(k+1)=i+1+k by omega]
      exact hg'
     ·obtain ⟨q1,q2⟩:=hp' v hv
      rw [Hs_cons]
      exact ⟨by simp;omega,q2⟩
   ·obtain ⟨q1,q2,q3⟩:=h3 T' H' e
    exact ⟨by simp;omega,by rw [List.length_cons,Ts_cons];exact q2,by rw [List.length_cons,Hs_cons];exact q3⟩
  simp only [runOps] at h
  split at h
  ·cases h
  ·rename_i hw
   split at h
   ·rename_i rr' rs hrun
    cases h
    exact step undone rs rfl rfl (.inl ⟨hw,rfl⟩) hrun
   ·cases h
  ·rename_i hw
   split at h
   ·cases h
   ·rename_i rc hrc
    split at h
    ·rename_i hok
     split at h
     ·rename_i v hv
      split at h
      ·rename_i rr' rs hrun
       cases h
       exact step rc rs rfl (by rw [hv];rfl) (.inr ⟨hw,hrc,hok⟩) (by rw [hv];exact hrun)
      ·cases h
     ·rename_i v hv
      cases h
      refine ⟨by simp,fun k rc' hk=>?_,fun T' H' e=>by cases e⟩
      cases k with
      |zero=>
       simp only [List.getElem?_cons_zero,Option.some.injEq] at hk
       subst hk
       exact ⟨o,rfl,.inr ⟨hw,hrc,hok⟩,fun v' hv'=>by rw [hv] at hv';cases hv';exact ⟨rfl,rfl⟩⟩
      |succ k=>simp at hk
    ·cases h
def maskOf (acc:List Nat) (o:Oper):Nat:=o.after.toList.foldl (fun s e=>if Region.binds .any e then s ||| 2 ^ e.on ||| acc.getD e.on 0 else s) 0
def befs:List Oper→List Nat→List Nat
 |[],acc=>acc
 |o::r,acc=>befs r (acc++[maskOf acc o])
theorem maskOf_bit {acc:List Nat} {o:Oper} {i:Nat} (h:(maskOf acc o).testBit i=true):∃e∈o.after.toList,Region.binds .any e=true∧(e.on=i∨(acc.getD e.on 0).testBit i=true):=by
 unfold maskOf at h
 have:∀(l:List Edge) (s:Nat),(l.foldl (fun s e=>if Region.binds .any e then s ||| 2 ^ e.on ||| acc.getD e.on 0 else s) s).testBit i=true→
  s.testBit i=true∨∃e∈l,Region.binds .any e=true∧(e.on=i∨(acc.getD e.on 0).testBit i=true):=by
  intro l
  induction l with
  |nil=>intro s h;exact .inl h
  |cons e r ih=>
   intro s h
   simp only [List.foldl_cons] at h
   rcases ih _ h with h | ⟨e',he',hb⟩
   ·split at h
    ·rename_i hb
     simp only [Nat.testBit_or,Bool.or_eq_true,Nat.testBit_two_pow,decide_eq_true_eq] at h
     rcases h with (h | h) | h
     ·exact .inl h
     ·exact .inr ⟨e,by simp,hb,.inl h⟩
     ·exact .inr ⟨e,by simp,hb,.inr h⟩
    ·exact .inl h
   ·exact .inr ⟨e',by simp [he'],hb⟩
 rcases this _ _ h with h | h
 ·simp at h
 ·exact h
theorem befs_get:∀(l:List Oper) (acc:List Nat) (j:Nat),(befs l acc).getD j 0=if j<acc.length then acc.getD j 0 else
 match l[j-acc.length]? with | some o=>maskOf ((befs l acc).take j) o | none=>0
 |[],acc,j=>by
  simp only [befs]
  split
  ·rfl
  ·rename_i h
   simp [List.getElem?_eq_none (show acc.length≤j by omega)]
 |o::r,acc,j=>by
  rw [befs,befs_get r]
  simp only [List.length_append,List.length_cons,List.length_nil,Nat.zero_add]
  by_cases h1:j<acc.length
  ·rw [if_pos (by omega),if_pos h1]
   simp only [List.getD_eq_getElem?_getD]
   rw [List.getElem?_append_left h1]
  ·rw [if_neg h1]
   by_cases h2:j=acc.length
   ·subst h2
    rw [if_pos (by omega)]
    have pre:∀(l:List Oper) (a:List Nat),(befs l a).take a.length=a:=by
     intro l
     induction l with
     |nil=>intro a;simp [befs]
     |cons o r ih=>
      intro a
      have:=ih (a++[maskOf a o])
      rw [befs]
      have h3:=congrArg (List.take a.length) this
      rw [List.take_take] at h3
      simpa using h3
    have:=pre r (acc++[maskOf acc o])
    have h3:=congrArg (List.take acc.length) this
    rw [List.take_take] at h3
    simp only [List.length_append,List.length_cons,List.length_nil] at h3
    rw [Nat.min_eq_left (by omega)] at h3
    simp only [Nat.sub_self,List.getElem?_cons_zero]
    rw [h3]
    simp
   ·rw [if_neg (by omega)]
    rw [show j-acc.length=(j-(acc.length+1))+1 by omega,List.getElem?_cons_succ]
theorem befs_bit {l:List Oper} {j i:Nat} (h:((befs l []).getD j 0).testBit i=true):∃o,l[j]?=some o∧∃e∈o.after.toList,Region.binds .any e=true∧(e.on=i∨(e.on<j∧((befs l []).getD e.on 0).testBit i=true)):=by
 rw [befs_get l [] j] at h
 simp only [List.length_nil,Nat.not_lt_zero,if_false,Nat.sub_zero] at h
 cases hl:l[j]? with
 |none=>rw [hl] at h;simp at h
 |some o=>
  rw [hl] at h
  obtain ⟨e,he,hb,hh⟩:=maskOf_bit h
  refine ⟨o,rfl,e,he,hb,hh.imp id fun hh=>?_⟩
  have:e.on<j:=by
   rcases Nat.lt_or_ge e.on j with q | q
   ·exact q
   ·rw [List.getD_eq_getElem?_getD,List.getElem?_take_eq_none q] at hh
    simp at hh
  refine ⟨this,?_⟩
  rw [List.getD_eq_getElem?_getD,List.getElem?_take_of_lt this] at hh
  rw [List.getD_eq_getElem?_getD]
  exact hh
def drawOk (H:Heap) (ops:Array Oper) (l:List Oper) (recs:List Rec):Bool:=
 recs.length==l.length &&
 (List.range l.length).all (fun j=>match l[j]? with
  |some o=>o.after.toList.all (fun e=>!Region.binds .any e || decide (e.on<j)) &&
   (List.range j).all (fun i=>((befs l []).getD j 0).testBit i || (match l[i]? with
    |some p=>p.apart ops o&&effApart2 (Hs H recs i) (recs.getD i undone).e (Hs H recs j) (recs.getD j undone).e&&(match (recs.getD j undone).out with | .ret _=>true | .pan _=>false)
    |none=>false))
  |none=>false)
end Go.Abs
end
section
namespace Go.Abs
variable {P:Program} {tab:Tab}
theorem look_mem {β:Type}:∀{l:List (Nat×β)} {m:Nat},look l m≠none→∃z,(m,z)∈l
 |[],m,h=>absurd rfl h
 |(n,o)::r,m,h=>by
  by_cases e:n=m
  ·exact ⟨o,by simp [e]⟩
  ·have:look ((n,o)::r) m=look r m:=by simp [look,e]
   rw [this] at h
   obtain ⟨z,hz⟩:=look_mem h
   exact ⟨z,by simp [hz]⟩
def eAt (recs:List Rec) (i:Nat):Eff:=(recs.getD i undone).e
def vAt (recs:List Rec) (i:Nat):AV:=(recs.getD i undone).out.val
def dAt (l:List Oper) (i:Nat):Option Tmp:=(l[i]?).bind (·.dst)
def Sl (listed:Array Bool) (i:Nat):Bool:=listed.getD i false
open Classical in
noncomputable def tAt (H0:Heap) (recs:List Rec) (i m:Nat):Option (Option AO):=match eAt recs i with
 |.loc _ ups _=>upLook ups m
 |.glob H'=>if look H'.objs m=look (Hs H0 recs i).objs m then none else some (look H'.objs m)
theorem effOn_t {H0:Heap} {recs:List Rec} {i m:Nat} {h:Nat→Option AO} (hg:∀H',eAt recs i=.glob H'→h m=look (Hs H0 recs i).objs m):effOn (eAt recs i) h m=(tAt H0 recs i m).getD (h m):=by
 unfold tAt
 cases he:eAt recs i with
 |loc rd ups nw=>exact updAll_look ups h m
 |glob H'=>
  simp only
  by_cases q:look H'.objs m=look (Hs H0 recs i).objs m
  ·rw [if_pos q]
   simp only [effOn,Option.getD_none]
   rw [q,hg H' he]
  ·rw [if_neg q];rfl
theorem tAt_loc {H0:Heap} {recs:List Rec} {i m:Nat} {rd:List Nat} {ups:List (Nat×AO)} {nw:Nat} (h:eAt recs i=.loc rd ups nw):tAt H0 recs i m=upLook ups m:=by
 unfold tAt;rw [h]
theorem look_Hs (H:Heap) (recs:List Rec) (m:Nat):∀k,look (Hs H recs k).objs m=lastOf (fun i=>tAt H recs i m) (fun _=>true) (look H.objs m) k
 |0=>rfl
 |k+1=>by
  have h:=effOn_t (H0:=H) (recs:=recs) (i:=k) (m:=m) (h:=look (Hs H recs k).objs) (fun _ _=>rfl)
  rw [Hs,apply_h]
  change effOn (eAt recs k) (look (Hs H recs k).objs) m=_
  rw [h,look_Hs H recs m k]
  simp [lastOf]
theorem apart_t {H0:Heap} {recs:List Rec} {i j:Nat} (h:effApart2 (Hs H0 recs i) (eAt recs i) (Hs H0 recs j) (eAt recs j)=true) (m:Nat) :
 (∀rd ups nw,eAt recs j=.loc rd ups nw→m∈rd∨upLook ups m≠none→tAt H0 recs i m=none)∧(∀H',eAt recs j=.glob H'→tAt H0 recs i m=none):=by
 unfold effApart2 at h
 rw [Bool.or_eq_true] at h
 rcases h with h | h
 ·obtain ⟨q1,q2⟩:=effApart_touch h m
  have conv:touchH (eAt recs i) m=none→tAt H0 recs i m=none:=fun q=>by
   cases he:eAt recs i with
   |loc rd ups nw=>rw [he] at q;rw [tAt_loc he];exact q
   |glob H'=>rw [he] at q;cases q
  exact ⟨fun rd ups nw e hm=>conv (q1 rd ups nw e hm),fun H' e=>conv (q2 H' e)⟩
 ·cases hi:eAt recs i with
  |loc r u n=>
   cases hj:eAt recs j with
   |loc r2 u2 n2=>
    rw [hi,hj] at h
    cases u<;>cases u2<;>simp at h
   |glob H'=>
    rw [hi,hj] at h
    cases u with
    |nil=>exact ⟨fun _ _ _ e=>by (cases e),fun _ _=>by rw [tAt_loc hi];rfl⟩
    |cons=>simp at h
  |glob H'=>
   cases hj:eAt recs j with
   |loc r u n=>
    rw [hi,hj] at h
    cases u with
    |nil=>
     refine ⟨fun rd ups nw e hm=>?_,fun _ e=>by (cases e)⟩
     cases e
     rcases hm with hm | hm
     ·have hs:=eqOAO_eq (List.all_eq_true.1 h m hm)
      unfold tAt
      rw [hi]
      simp only
      rw [if_pos hs]
     ·exact absurd rfl hm
    |cons=>simp at h
   |glob H''=>rw [hi,hj] at h;simp at h
theorem look_Ts (T:TL) (l:List Oper) (recs:List Rec) (t:Nat):∀k,look (Ts T l recs k) t=lastOf (fun i=>touchT (dAt l i) (vAt recs i) t) (fun _=>true) (look T t) k
 |0=>rfl
 |k+1=>by
  rw [Ts,putD_touch,look_Ts T l recs t k]
  simp [lastOf,dAt,vAt]
noncomputable def seenH (H:Heap) (recs:List Rec) (S:Nat→Bool) (n:Nat) (m:Nat):Option AO:=lastOf (fun i=>tAt H recs i m) S (look H.objs m) n
def seenT (T:TL) (l:List Oper) (recs:List Rec) (S:Nat→Bool) (n:Nat) (t:Nat):Option AV:=lastOf (fun i=>touchT (dAt l i) (vAt recs i) t) S (look T t) n
def noisy:Eff→Prop
 |.loc _ [] _=>False
 |_=>True
structure Inv (l:List Oper) (recs:List Rec) (T0:TL) (H0:Heap) (N:Nat) (σ0:Sg) (a0:Act) (listed:Array Bool) (σ:Sg) (a:Act):Prop where
 sr:SR σ
 le:Lg H0.next σ0 σ
 hh:∀m,σ.h m=seenH H0 recs (Sl listed) l.length m
 tr:TR σ (seenT T0 l recs (Sl listed) l.length) a
 size:a.tmps.size=N
 defers:a.defers=a0.defers
 used:∀m,(σ.h m≠none∨σ.dead m)→m<H0.next∨∃i,i<l.length∧Sl listed i=true∧noisy (eAt recs i)∧(Hs H0 recs i).next≤m∧m<(Hs H0 recs (i+1)).next
 closed:∀j o,l[j]?=some o→Sl listed j=true→∀e∈o.after.toList,Region.binds .any e=true→Sl listed e.on=true
 rets:∀j,Sl listed j=true→∃v,(recs.getD j undone).out=.ret v
 lsz:listed.size=l.length
theorem Sl_set {listed:Array Bool} {j:Nat} (h:j<listed.size) (i:Nat):Sl (listed.setIfInBounds j true) i=(decide (i=j) || Sl listed i):=by
 unfold Sl
 by_cases e:i=j
 ·subst e;simp [h]
 ·rw [getD_set_ne false (fun q=>e q.symm)];simp [e]
structure Fit (tab:Tab) (hd:Hd) (ops:Array Oper) (l:List Oper) (recs:List Rec) (T0:TL) (H0:Heap) (rr:RR):Prop where
 len:recs.length=l.length
 good:∀k o,l[k]?=some o→Good tab hd ops k (Ts T0 l recs k) (Hs H0 recs k) o (recs.getD k undone)
 pan:∀k v,k<l.length→(recs.getD k undone).out=.pan v→k+1=l.length∧rr=.pan v ((Hs H0 recs k).apply (eAt recs k))
 done:∀T' H',rr=.done T' H'→T'=Ts T0 l recs l.length∧H'=Hs H0 recs l.length
 back:∀j o,l[j]?=some o→∀e∈o.after.toList,Region.binds .any e=true→e.on<j
 apart:∀i j p o,i<j→l[i]?=some p→l[j]?=some o→((befs l []).getD j 0).testBit i=true∨(p.apart ops o=true∧effApart2 (Hs H0 recs i) (eAt recs i) (Hs H0 recs j) (eAt recs j)=true∧∃v,(recs.getD j undone).out=.ret v)
theorem fit {hd:Hd} {ops:Array Oper} {l:List Oper} {T0:TL} {H0:Heap} {rr:RR} {recs:List Rec} (h:runOps tab hd ops l 0 T0 H0=some (rr,recs)) (hd':drawOk H0 ops l recs=true):Fit tab hd ops l recs T0 H0 rr:=by
 obtain ⟨h1,h2,h3⟩:=runOps_trace l 0 T0 H0 rr recs h
 simp only [drawOk,Bool.and_eq_true,beq_iff_eq,List.all_eq_true,List.mem_range] at hd'
 obtain ⟨hlen,hall⟩:=hd'
 have get:∀k,k<l.length→∃rc,recs[k]?=some rc∧recs.getD k undone=rc:=fun k hk=>by
  have:k<recs.length:=by omega
  exact ⟨recs[k],List.getElem?_eq_getElem this,by simp [this]⟩
 refine ⟨hlen,fun k o ho=>?_,fun k v hk hv=>?_,fun T' H' e=>(h3 T' H' e).2,fun j o ho e he hb=>?_,fun i j p o hij hp ho=>?_⟩
 ·have hk:k<l.length:=(List.getElem?_eq_some_iff.1 ho).1
  obtain ⟨rc,q1,q2⟩:=get k hk
  obtain ⟨o',ho',hg,_⟩:=h2 k rc q1
  rw [ho] at ho'
  cases ho'
  rw [q2]
  simpa using hg
 ·obtain ⟨rc,q1,q2⟩:=get k hk
  obtain ⟨o',ho',_,hp⟩:=h2 k rc q1
  rw [q2] at hv
  have:=hp v hv
  rw [hlen] at this
  rw [eAt,q2]
  exact this
 ·have hj:j<l.length:=(List.getElem?_eq_some_iff.1 ho).1
  have:=hall j hj
  rw [ho] at this
  simp only [Bool.and_eq_true,List.all_eq_true,Bool.or_eq_true,Bool.not_eq_true',decide_eq_true_eq] at this
  rcases this.1 e he with q | q
  ·rw [hb] at q;cases q
  ·exact q
 ·have hj:j<l.length:=(List.getElem?_eq_some_iff.1 ho).1
  have:=hall j hj
  rw [ho] at this
  simp only [Bool.and_eq_true,List.all_eq_true,Bool.or_eq_true,List.mem_range] at this
  have:=this.2 i hij
  rw [hp] at this
  refine this.imp id fun q=>?_
  simp only [Bool.and_eq_true] at q
  refine ⟨q.1.1,q.1.2,?_⟩
  cases hq:(recs.getD j undone).out with
  |ret v=>exact ⟨v,rfl⟩
  |pan v=>rw [hq] at q;simp at q
section
variable {hd:Hd} {ops:Array Oper} {l:List Oper} {recs:List Rec} {T0:TL} {H0:Heap} {rr:RR} {N:Nat} {σ0 σ:Sg} {a0 a:Act} {listed:Array Bool}
theorem ok_at (F:Fit tab hd ops l recs T0 H0 rr) (k:Nat):okEff (Hs H0 recs k) (eAt recs k)=true:=by
 rcases Nat.lt_or_ge k l.length with h | h
 ·rcases F.good k l[k] (List.getElem?_eq_getElem h) with ⟨_,q⟩ | ⟨_,_,q⟩
  ·rw [eAt,q];rfl
  ·exact q
 ·rw [eAt,List.getD_eq_getElem?_getD,List.getElem?_eq_none (by rw [F.len];exact h)];rfl
theorem next_step (F:Fit tab hd ops l recs T0 H0 rr) (k:Nat):(Hs H0 recs k).next≤(Hs H0 recs (k+1)).next:=by
 have:=ok_at F k
 rw [Hs]
 change _≤((Hs H0 recs k).apply (eAt recs k)).next
 cases he:eAt recs k with
 |loc rd ups nw=>simp only [Heap.apply];omega
 |glob H'=>
  rw [he] at this
  simp only [okEff,Bool.and_eq_true,decide_eq_true_eq] at this
  exact this.1
theorem next_mono (F:Fit tab hd ops l recs T0 H0 rr) (i:Nat):∀k,(Hs H0 recs i).next≤(Hs H0 recs (i+k)).next
 |0=>Nat.le_refl _
 |k+1=>Nat.le_trans (next_mono F i k) (next_step F (i+k))
theorem next_le (F:Fit tab hd ops l recs T0 H0 rr) {i j:Nat} (h:i≤j):(Hs H0 recs i).next≤(Hs H0 recs j).next:=by
 have:=next_mono F i (j-i)
 rwa [show i+(j-i)=j by omega] at this
theorem closed_bit (I:Inv l recs T0 H0 N σ0 a0 listed σ a):∀(j i:Nat),Sl listed j=true→((befs l []).getD j 0).testBit i=true→Sl listed i=true:=by
 intro j
 induction j using Nat.strongRecOn with
 |ind j ih=>
  intro i hj hb
  obtain ⟨o,ho,e,he,hbi,hh⟩:=befs_bit hb
  have hl:=I.closed j o ho hj e he hbi
  rcases hh with rfl | ⟨hlt,hb'⟩
  ·exact hl
  ·exact ih e.on hlt i hl hb'
theorem ready_bit (I:Inv l recs T0 H0 N σ0 a0 listed σ a) {j:Nat} {o:Oper} (ho:l[j]?=some o) (hr:∀e∈o.after.toList,Region.binds .any e=true→Sl listed e.on=true) {i:Nat} (hb:((befs l []).getD j 0).testBit i=true):Sl listed i=true:=by
 obtain ⟨o',ho',e,he,hbi,hh⟩:=befs_bit hb
 rw [ho] at ho'
 cases ho'
 have hl:=hr e he hbi
 rcases hh with rfl | ⟨hlt,hb'⟩
 ·exact hl
 ·exact closed_bit I e.on i hl hb'
theorem turn (F:Fit tab hd ops l recs T0 H0 rr) (I:Inv l recs T0 H0 N σ0 a0 listed σ a) {j:Nat} {o:Oper} (ho:l[j]?=some o) (hj:Sl listed j=false) (hr:∀e∈o.after.toList,Region.binds .any e=true→Sl listed e.on=true) :
 (∀i p,i<j→l[i]?=some p→Sl listed i=true∨(p.apart ops o=true∧effApart2 (Hs H0 recs i) (eAt recs i) (Hs H0 recs j) (eAt recs j)=true))∧
 (∀i p,j<i→l[i]?=some p→Sl listed i=true→o.apart ops p=true∧effApart2 (Hs H0 recs j) (eAt recs j) (Hs H0 recs i) (eAt recs i)=true):=by
 refine ⟨fun i p hij hp=>?_,fun i p hji hp hi=>?_⟩
 ·rcases F.apart i j p o hij hp ho with h | ⟨h1,h2,_⟩
  ·exact .inl (ready_bit I ho hr h)
  ·exact .inr ⟨h1,h2⟩
 ·rcases F.apart j i o p hji ho hp with h | ⟨h1,h2,_⟩
  ·rw [closed_bit I i j hi h] at hj;cases hj
  ·exact ⟨h1,h2⟩
theorem seen_h (F:Fit tab hd ops l recs T0 H0 rr) (I:Inv l recs T0 H0 N σ0 a0 listed σ a) {j:Nat} {o:Oper} (ho:l[j]?=some o) (hj:Sl listed j=false) (hr:∀e∈o.after.toList,Region.binds .any e=true→Sl listed e.on=true) {m:Nat}
 (hm:(∃rd ups nw,eAt recs j=.loc rd ups nw∧m∈rd)∨∃H',eAt recs j=.glob H'):σ.h m=look (Hs H0 recs j).objs m:=by
 have hjl:j<l.length:=(List.getElem?_eq_some_iff.1 ho).1
 obtain ⟨t1,t2⟩:=turn F I ho hj hr
 have ap:∀i,effApart2 (Hs H0 recs i) (eAt recs i) (Hs H0 recs j) (eAt recs j)=true→tAt H0 recs i m=none:=fun i h=>by
  obtain ⟨q1,q2⟩:=apart_t h m
  rcases hm with ⟨rd,ups,nw,e,hm⟩ | ⟨H',e⟩
  ·exact q1 rd ups nw e (.inl hm)
  ·exact q2 H' e
 rw [I.hh m,seenH,look_Hs]
 refine lastOf_seen (Nat.le_of_lt hjl) (fun i hi=>?_) (fun i hi hi'=>?_)
 ·exact (t1 i l[i] hi (List.getElem?_eq_getElem (by omega))).imp id fun q=>ap i q.2
 ·by_cases e:i=j
  ·subst e;exact .inl hj
  ·cases hs:Sl listed i with
   |false=>exact .inl rfl
   |true=>exact .inr (ap i (effApart2_symm (t2 i l[i] (by omega) (List.getElem?_eq_getElem hi') hs).2))
theorem touchT_none {d:Option Tmp} {v:AV} {t:Nat} (h:∀x,d=some x→x≠t):touchT d v t=none:=by
 cases d with
 |none=>rfl
 |some x=>simp only [touchT];rw [if_neg (fun e=>h x rfl e.symm)]
theorem dAt_get {i:Nat} {p:Oper} (h:l[i]?=some p):dAt l i=p.dst:=by rw [dAt,h];rfl
theorem seen_t (F:Fit tab hd ops l recs T0 H0 rr) (I:Inv l recs T0 H0 N σ0 a0 listed σ a) {j:Nat} {o:Oper} (ho:l[j]?=some o) (hj:Sl listed j=false) (hr:∀e∈o.after.toList,Region.binds .any e=true→Sl listed e.on=true) {t:Nat}
 (ht:t∈o.looksAt ops):seenT T0 l recs (Sl listed) l.length t=look (Ts T0 l recs j) t:=by
 have hjl:j<l.length:=(List.getElem?_eq_some_iff.1 ho).1
 obtain ⟨t1,t2⟩:=turn F I ho hj hr
 rw [seenT,look_Ts]
 refine lastOf_seen (Nat.le_of_lt hjl) (fun i hi=>?_) (fun i hi hi'=>?_)
 ·have hp:l[i]?=some l[i]:=List.getElem?_eq_getElem (by omega)
  refine (t1 i l[i] hi hp).imp id fun q=>touchT_none fun d hd e=>?_
  rw [dAt_get hp] at hd
  exact (Oper.apart_spec q.1).1 d hd (e ▸ ht)
 ·by_cases e:i=j
  ·subst e;exact .inl hj
  ·cases hs:Sl listed i with
   |false=>exact .inl rfl
   |true=>
    have hp:l[i]?=some l[i]:=List.getElem?_eq_getElem hi'
    refine .inr (touchT_none fun d hd e'=>?_)
    rw [dAt_get hp] at hd
    exact (Oper.apart_spec (t2 i l[i] (by omega) hp hs).1).2.2 d hd (e' ▸ ht)
theorem agree_at (F:Fit tab hd ops l recs T0 H0 rr) (I:Inv l recs T0 H0 N σ0 a0 listed σ a) {j:Nat} {o:Oper} (ho:l[j]?=some o) (hj:Sl listed j=false) (hr:∀e∈o.after.toList,Region.binds .any e=true→Sl listed e.on=true) :
 Agree (Hs H0 recs j) σ (eAt recs j):=by
 have hjl:j<l.length:=(List.getElem?_eq_some_iff.1 ho).1
 have h0:H0.next≤(Hs H0 recs j).next:=by have:=next_le F (Nat.zero_le j);exact this
 have fr:∀m,(Hs H0 recs j).next≤m→(∀i,i<l.length→j<i→Sl listed i=true→noisy (eAt recs i)→m<(Hs H0 recs i).next)→¬(σ.h m≠none∨σ.dead m):=fun m hm hq hu=>by
  rcases I.used m hu with h | ⟨i,hi,hs,hn,h1,h2⟩
  ·omega
  ·rcases Nat.lt_trichotomy i j with q | q | q
   ·have:=next_le F (show i+1≤j from q);omega
   ·subst q;rw [hj] at hs;cases hs
   ·have:=hq i hi q hs hn;omega
 have un:∀m,¬(σ.h m≠none∨σ.dead m)→σ.h m=none∧¬σ.dead m:=fun m hu=>by
  refine ⟨?_,fun hd=>hu (.inr hd)⟩
  cases hq:σ.h m with
  |none=>rfl
  |some x=>exact absurd (.inl (by simp [hq])) hu
 cases he:eAt recs j with
 |loc rd ups nw=>
  refine ⟨fun m hm=>(seen_h F I ho hj hr (.inl ⟨rd,ups,nw,he,hm⟩)).symm,un _ (fr _ (Nat.le_refl _) fun i hi hji _ _=>?_)⟩
  have h1:=next_le F (show j+1≤i from hji)
  have h2:(Hs H0 recs (j+1)).next=(Hs H0 recs j).next+nw+1:=by
   rw [Hs]
   change ((Hs H0 recs j).apply (eAt recs j)).next=_
   rw [he];rfl
  omega
 |glob H'=>
  refine ⟨funext fun m=>seen_h F I ho hj hr (.inr ⟨H',he⟩),fun m hm=>un m (fr m hm fun i hi hji hs hn=>?_)⟩
  have:=((turn F I ho hj hr).2 i l[i] hji (List.getElem?_eq_getElem hi) hs).2
  rw [he] at this
  cases hei:eAt recs i with
  |glob H''=>rw [hei] at this;simp [effApart2,effApart] at this
  |loc r u n=>
   rw [hei] at this hn
   cases u with
   |nil=>exact hn.elim
   |cons=>simp [effApart2,effApart] at this
theorem inv_insert (F:Fit tab hd ops l recs T0 H0 rr) (I:Inv l recs T0 H0 N σ0 a0 listed σ a) {j:Nat} {o:Oper} (ho:l[j]?=some o) (hj:Sl listed j=false) (hr:∀e∈o.after.toList,Region.binds .any e=true→Sl listed e.on=true)
 (hd0:∀t,o.dst=some t→t<N) {v:AV} (hv:(recs.getD j undone).out=.ret v) {σ':Sg} {x:Value} (le:Le σ σ') (sr':SR σ') (hh:σ'.h=effOn (eAt recs j) σ.h) (hdd:DeadOk (Hs H0 recs j) σ σ' (eAt recs j)) (hx:VR σ' v x) :
 Inv l recs T0 H0 N σ0 a0 (listed.setIfInBounds j true) σ' (a.put o.dst x):=by
 have hjl:j<l.length:=(List.getElem?_eq_some_iff.1 ho).1
 have hls:j<listed.size:=by rw [I.lsz];exact hjl
 have hS:Sl (listed.setIfInBounds j true)=fun i=>decide (i=j) || Sl listed i:=funext (Sl_set hls)
 obtain ⟨t1,t2⟩:=turn F I ho hj hr
 have hag:=agree_at F I ho hj hr
 have hva:vAt recs j=v:=by rw [vAt,hv];rfl
 refine ⟨sr',I.le.trans I.sr ((lg_of le (ok_at F j) hag hh hdd).weak (next_le F (Nat.zero_le j))) sr',fun m=>?_,fun t y hy=>?_,put_size'.trans I.size,put_defers'.trans I.defers,fun m hm=>?_,fun k o' hk hs e he hb=>?_,fun k hk=>?_,by simp [I.lsz]⟩
 ·have het:=effOn_t (H0:=H0) (recs:=recs) (i:=j) (m:=m) (h:=σ.h) (fun H' e=>by
   rw [e] at hag
   exact congrFun hag.1 m)
  rw [hh,het,I.hh m,seenH,seenH,hS,lastOf_insert hj l.length hjl (fun i h1 h2 h3=>?_)]
  have hap:=(t2 i l[i] h1 (List.getElem?_eq_getElem h2) h3).2
  obtain ⟨q1,q2⟩:=apart_t hap m
  cases hei:eAt recs i with
  |glob H''=>exact .inr (q2 H'' hei)
  |loc rd ups nw=>
   cases hu:upLook ups m with
   |none=>exact .inl (by rw [tAt_loc hei];exact hu)
   |some z=>exact .inr (q1 rd ups nw hei (.inr (by rw [hu];simp)))
 ·rw [seenT,hS,lastOf_insert hj l.length hjl (fun i h1 h2 h3=>?_)] at hy
  ·rw [dAt_get ho,hva] at hy
   cases hdst:o.dst with
   |none=>
    rw [hdst] at hy
    simp only [touchT,Option.getD_none] at hy
    exact (I.tr t y hy).mono le
   |some d=>
    rw [hdst] at hy
    rw [put_get (by rw [I.size];exact hd0 d hdst)]
    simp only [touchT] at hy
    by_cases e:d=t
    ·rw [if_pos e.symm] at hy
     simp only [Option.getD_some,Option.some.injEq] at hy
     rw [if_pos e,←hy];exact hx
    ·rw [if_neg (fun q=>e q.symm)] at hy
     rw [if_neg e]
     exact (I.tr t y hy).mono le
  ·have hp:l[i]?=some l[i]:=List.getElem?_eq_getElem h2
   have hap:=Oper.apart_spec (t2 i l[i] h1 hp h3).1
   by_cases e:dAt l j=some t
   ·refine .inl (touchT_none fun d hd q=>?_)
    rw [dAt_get hp] at hd
    rw [dAt_get ho] at e
    exact hap.2.1 t e (q ▸ hd)
   ·exact .inr (touchT_none fun d hd q=>e (q ▸ hd))
 ·-- names in use
  have old:(σ.h m≠none∨σ.dead m)→m<H0.next∨∃i,i<l.length∧Sl (listed.setIfInBounds j true) i=true∧noisy (eAt recs i)∧(Hs H0 recs i).next≤m∧m<(Hs H0 recs (i+1)).next:=fun h=>by
   rcases I.used m h with h | ⟨i,h1,h2,h3⟩
   ·exact .inl h
   ·exact .inr ⟨i,h1,by rw [hS];simp [h2],h3⟩
  have hok:=ok_at F j
  have hnx:(Hs H0 recs (j+1)).next=((Hs H0 recs j).apply (eAt recs j)).next:=rfl
  have new:noisy (eAt recs j)→(Hs H0 recs j).next≤m→m<(Hs H0 recs (j+1)).next→m<H0.next∨∃i,i<l.length∧Sl (listed.setIfInBounds j true) i=true∧noisy (eAt recs i)∧(Hs H0 recs i).next≤m∧m<(Hs H0 recs (i+1)).next:=
   fun hn h1 h2=>.inr ⟨j,hjl,by rw [hS];simp,hn,h1,h2⟩
  cases he:eAt recs j with
  |loc rd ups nw=>
   rw [he] at hok hag hdd hnx
   rcases hm with hm | hm
   ·rw [hh,effOn_touch,he] at hm
    cases hu:upLook ups m with
    |none=>
     rw [touchH,hu] at hm
     exact old (.inl hm)
    |some z=>
     have:∃p∈ups,p.1=m:=by
      apply Classical.byContradiction
      intro hc
      rw [upLook_none ups m (fun p hp e=>hc ⟨p,hp,e⟩)] at hu
      cases hu
     obtain ⟨p,hp,rfl⟩:=this
     have hq:=(List.all_eq_true.1 hok) p hp
     simp only [Bool.or_eq_true,Bool.and_eq_true,decide_eq_true_eq] at hq
     rcases hq with hq | hq
     ·refine new ?_ hq.1 ?_
      ·rw [he]
       cases ups with
       |nil=>cases hp
       |cons q r=>trivial
      ·rw [hnx];simp only [Heap.apply];omega
     ·refine old (.inl fun e=>?_)
      rw [hag.1 p.1 (List.contains_iff_mem.1 hq.1),e] at hq
      simp at hq
   ·rw [show σ'.dead=σ.dead from hdd] at hm
    exact old (.inr hm)
  |glob H'=>
   rw [he] at hok hag hdd hnx
   simp only [okEff,Bool.and_eq_true,decide_eq_true_eq,List.all_eq_true] at hok
   obtain ⟨d1,d2,d3⟩:=hdd
   have hn:noisy (eAt recs j):=by rw [he];trivial
   have hlt:m<H'.next:=by
    rcases Nat.lt_or_ge m H'.next with q | q
    ·exact q
    ·obtain ⟨q1,q2⟩:=d3 m q
     rcases hm with hm | hm
     ·exact absurd q1 hm
     ·exact absurd hm q2
   rcases hm with hm | hm
   ·rw [hh,he] at hm
    simp only [effOn] at hm
    by_cases q:(Hs H0 recs j).next≤m
    ·exact new hn q (by rw [hnx];exact hlt)
    ·refine old (.inl ?_)
     rw [hag.1]
     have:=look_mem hm
     obtain ⟨z,hz⟩:=this
     have:=hok.2 _ hz
     simp only [Bool.or_eq_true,decide_eq_true_eq] at this
     rcases this with h | h
     ·intro e;rw [e] at h;cases h
     ·omega
   ·rcases d2 m hm with h | ⟨h1,h2⟩
    ·exact old h
    ·exact new hn h1 (by rw [hnx];exact h2)
 ·rw [hS] at hs ⊢
  simp only [Bool.or_eq_true,decide_eq_true_eq] at hs ⊢
  rcases hs with rfl | hs
  ·rw [ho] at hk
   cases hk
   exact .inr (hr e he hb)
  ·exact .inr (I.closed k o' hk hs e he hb)
 ·rw [hS] at hk
  simp only [Bool.or_eq_true,decide_eq_true_eq] at hk
  rcases hk with rfl | hk
  ·exact ⟨v,hv⟩
  ·exact I.rets k hk
theorem sp_at (F:Fit tab hd ops l recs T0 H0 rr) (I:Inv l recs T0 H0 N σ0 a0 listed σ a) {j:Nat} (hj:j≤l.length) (h1:∀i,i<j→Sl listed i=true) (h2:∀i,j≤i→i<l.length→Sl listed i=false):SP σ (Hs H0 recs j):=by
 refine ⟨I.sr,funext fun m=>?_,fun m hm=>?_⟩
 ·rw [I.hh m,seenH,look_Hs]
  exact lastOf_seen hj (fun i hi=>.inl (h1 i hi)) (fun i a b=>.inl (h2 i a b))
 ·have h0:H0.next≤(Hs H0 recs j).next:=by have:=next_le F (Nat.zero_le j);exact this
  have hu:¬(σ.h m≠none∨σ.dead m):=fun hu=>by
   rcases I.used m hu with h | ⟨i,hi,hs,hn,q1,q2⟩
   ·omega
   ·rcases Nat.lt_or_ge i j with q | q
    ·have:=next_le F (show i+1≤j from q);omega
    ·rw [h2 i q hi] at hs;cases hs
  refine ⟨?_,fun hd=>hu (.inr hd)⟩
  cases hq:σ.h m with
  |none=>rfl
  |some x=>exact absurd (.inl (by simp [hq])) hu
theorem tr_at (I:Inv l recs T0 H0 N σ0 a0 listed σ a) (h1:∀i,i<l.length→Sl listed i=true):TR σ (look (Ts T0 l recs l.length)) a:=by
 have:look (Ts T0 l recs l.length)=seenT T0 l recs (Sl listed) l.length:=funext fun t=>by
  rw [look_Ts,seenT]
  exact lastOf_congr l.length fun i hi=>.inl (h1 i hi).symm
 rw [this]
 exact I.tr
def unl (S:Nat→Bool):Nat→Nat
 |0=>0
 |k+1=>unl S k+if S k then 0 else 1
theorem unl_zero {S:Nat→Bool}:∀n,unl S n=0→∀i,i<n→S i=true
 |0,_,i,hi=>by omega
 |n+1,h,i,hi=>by
  simp only [unl] at h
  have h1:unl S n=0:=by omega
  have h2:S n=true:=by
   cases hq:S n with
   |true=>rfl
   |false=>rw [hq] at h;simp at h
  rcases Nat.lt_or_ge i n with q | q
  ·exact unl_zero n h1 i q
  ·rw [show i=n by omega];exact h2
theorem unl_insert {S:Nat→Bool} {j:Nat} (hS:S j=false):∀n,unl (fun i=>decide (i=j) || S i) n+(if j<n then 1 else 0)=unl S n
 |0=>by simp [unl]
 |n+1=>by
  have ih:=unl_insert hS n
  simp only [unl]
  by_cases e:j=n
  ·subst e
   simp only [decide_true,Bool.true_or,if_true,hS]
   simp at ih ⊢
   omega
  ·have hd:decide (n=j)=false:=by simp;omega
   simp only [hd,Bool.false_or]
   generalize (if S n=true then 0 else 1)=z
   by_cases q:j<n
   ·rw [if_pos q] at ih;rw [if_pos (by omega)];omega
   ·rw [if_neg q] at ih;rw [if_neg (by omega)];omega
theorem unl_le {S:Nat→Bool}:∀n,unl S n≤n
 |0=>Nat.le_refl _
 |n+1=>by have:=unl_le (S:=S) n;simp only [unl];split<;>omega
theorem ready_nil (F:Fit tab hd ops l recs T0 H0 rr) (hl:l=ops.toList) (I:Inv l recs T0 H0 N σ0 a0 listed σ a) (h:Region.ready .any ops listed=[]):∀i,i<l.length→Sl listed i=true:=by
 intro i
 induction i using Nat.strongRecOn with
 |ind i ih=>
  intro hi
  cases hs:Sl listed i with
  |true=>rfl
  |false=>
   exfalso
   have ho:l[i]?=some l[i]:=List.getElem?_eq_getElem hi
   have:i∈Region.ready .any ops listed:=by
    rw [mem_ready]
    refine ⟨?_,l[i],by subst hl;simp,fun e he hb=>?_⟩
    ·have:i<listed.size:=by rw [I.lsz];exact hi
     unfold Sl at hs
     simp [this] at hs ⊢
     exact hs
    ·have hlt:=F.back i l[i] ho e (by simpa using he) hb
     exact ih e.on hlt (by omega)
   rw [h] at this
   cases this
end
theorem runOps_pan {hd:Hd} {ops:Array Oper}:∀(l:List Oper) (i:Nat) (T:TL) (H:Heap) (v:AV) (H':Heap) (recs:List Rec),runOps tab hd ops l i T H=some (.pan v H',recs)→
 ∃k,k<recs.length∧∃v,(recs.getD k undone).out=.pan v
 |[],i,T,H,v,H',recs,h=>by cases h
 |o::r,i,T,H,v,H',recs,h=>by
  simp only [runOps] at h
  split at h
  ·cases h
  ·split at h
   ·rename_i rr' rs hrun
    cases h
    obtain ⟨k,h1,h2⟩:=runOps_pan r _ _ _ v H' rs hrun
    exact ⟨k+1,by simp;omega,by simpa using h2⟩
   ·cases h
  ·split at h
   ·cases h
   ·split at h
    ·split at h
     ·split at h
      ·rename_i rr' rs hrun
       cases h
       obtain ⟨k,h1,h2⟩:=runOps_pan r _ _ _ v H' rs hrun
       exact ⟨k+1,by simp;omega,by simpa using h2⟩
      ·cases h
     ·rename_i hu
      cases h
      exact ⟨0,by simp,_,by simpa using hu⟩
    ·cases h
theorem lastOf_nothing {β:Type} {touch:Nat→Option β} {S:Nat→Bool} {init:β} (h:∀i,S i=false):∀n,lastOf touch S init n=init
 |0=>rfl
 |n+1=>by rw [lastOf,h n];simp [lastOf_nothing h n]
end Go.Abs
end
section
namespace Go.Abs
variable {P:Program}
inductive FK where
 |out
 |rnd (l:Nat)
def FK.F:FK→Fence
 |.out=>Fence.wide
 |.rnd l=>Fence.wide.inRound l
def FK.isOut:FK→Bool
 |.out=>true
 |.rnd _=>false
def noDefer (o:Oper):Bool:=match o.op with | .defer _=>false | _=>true
theorem noDefer_ne {o:Oper} (h:noDefer o=true):∀c,o.op≠.defer c:=fun c e=>by simp [noDefer,e] at h
theorem fk_fn (k:FK) (f:FuncId):k.F.fn f:=by cases k<;>trivial
theorem rowsIn_of_rows (k:FK) {n:Nat} {row:String} {args:Array Value} {w:World} {R:Value→World→Prop} (h:Rows P row args w R):RowsIn k.F n P row args w R:=by
 cases k with
 |out=>exact fun c cs _=>let ⟨v,w',r,s⟩:=h c cs;⟨v,w',r,stepsIn_wide.2 s⟩
 |rnd l=>exact fun c cs _=>let ⟨v,w',r,s⟩:=h c cs;⟨v,w',r,stepsIn_wide.2 s⟩
theorem callsIn_of_calls (k:FK) {n:Nat} {f:FuncId} {args:Array Value} {w:World} {R:Ending→World→Prop} (h:Calls P f args w R):CallsIn k.F n P f args w R:=by
 cases k with
 |out=>exact callsIn_wide.2 h
 |rnd l=>exact CallsIn.inRound l (callsIn_wide.2 h)
theorem fk_depth (k:FK) (n:Nat):k.F.depth.isSome=true→1≤n:=by cases k<;>(intro h;cases h)
theorem wpIn_of_wp (k:FK) {o:Oper} (hd:noDefer o=true) {a:Act} {w:World} {next:Act→World→Prop} {Q:Exit→Act→World→Prop} (n:Nat) (h:o.wp P a w next Q):o.wpIn k.F n P a w next Q:=by
 refine ⟨fun _ _=>fk_fn k _,?_⟩
 rw [Oper.semAt_eq _ _ _ (noDefer_ne hd)]
 unfold Oper.wp at h
 generalize (execOp a.eval o).run P w=r at h
 cases r with
 |ok x w'=>
  cases x<;>simp only [Oper.upon,Oper.uponIn] at h ⊢
  case enter f args=>exact ⟨fk_depth k n,callsIn_of_calls k h⟩
  case row r args=>exact ⟨fk_depth k n,rowsIn_of_rows k h⟩
  all_goals exact h
 |halt x w'=>cases x<;>simp only [Oper.upon,Oper.uponIn] at h ⊢<;>exact h
def Round2 (P:Program) (n:Nat) (args:List AV) (H:Heap) (r:Out) (H':Heap):Prop:=
 ∀(σ:Sg) (vs:List Value),SR σ→σ.h=look H.objs→(∀m,H.next≤m→σ.h m=none∧¬σ.dead m)→VRs σ args vs→
  YieldAt Fence.wide 0 P (σ.r n) vs.toArray σ.w fun e w'=>∃σ',σ'.w=w'∧σ'.h=look H'.objs∧Le σ σ'∧SR σ'∧H.next≤H'.next∧(∀m,σ'.dead m→Used σ m∨(H.next≤m∧m<H'.next))∧
   (∀m,H'.next≤m→σ'.h m=none∧¬σ'.dead m)∧OutR σ' r e
def Obl.isRound:Obl→Bool
 |.round _ _ _ _ _=>true
 |_=>false
def Obl.holdsY (P:Program):Obl→Prop
 |.round n args H r H'=>Round2 P n args H r H'
 |o=>o.holds P
theorem Obl.holds_of {o:Obl} (h:o.holdsY P) (hr:o.isRound=false):o.holds P:=by
 cases o<;>first | exact h | cases hr
def noRound (rc:Rec):Bool:=rc.ob.all fun o=>!o.isRound
theorem holds_rec {rc:Rec} (h:∀ob∈rc.ob,ob.holdsY P) (hr:noRound rc=true):∀ob∈rc.ob,ob.holds P:=fun ob hob=>by
 have:=(List.all_eq_true.1 hr) ob hob
 exact Obl.holds_of (h ob hob) (by simpa using this)
variable {tab:Tab} {σ:Sg}
theorem noDefer_of_step {hd:Hd} {i:Nat} {T:Tm} {H:Heap} {o:Oper} {rc:Rec} (h:stepA tab hd i T H o=some rc):noDefer o=true:=by
 cases hop:o.op<;>try (simp [noDefer,hop];done)
 case defer c=>
  exfalso
  have h1:calleeOf hd T o=none:=by simp [calleeOf,hop]
  have h2:yieldOf T o=none:=by simp [yieldOf,hop]
  have h3:panicOf T o=none:=by simp [panicOf,hop]
  have h4:aop tab T H H.next o=none:=by simp [aop,hop]
  simp [stepA,h1,h2,h3,h4] at h
theorem stepIn_sound (tabOk:TabOK P tab) (sr:SR σ) (k:FK) {hd:Hd} {i:Nat} {T:Tm} {a:Act} (tr:TR σ T a) {H:Heap} {o:Oper} {rc:Rec} (h:stepA tab hd i T H o=some rc) (hag:Agree H σ rc.e) (hob:∀ob∈rc.ob,ob.holdsY P)
 (hk:k.isOut=true∨noRound rc=true) {next:Act→World→Prop} {Q:Exit→Act→World→Prop} (hq:¬LetsOut Q)
 (hret:∀v,rc.out=.ret v→∀σ' x,Le σ σ'→SR σ'→σ'.h=effOn rc.e σ.h→DeadOk H σ σ' rc.e→VR σ' v x→next (a.put o.dst x) σ'.w)
 (hpan:∀v,rc.out=.pan v→∀σ' x,Le σ σ'→SR σ'→σ'.h=effOn rc.e σ.h→DeadOk H σ σ' rc.e→VR σ' v x→Q (.panic [{ v:=x,recovered:=false }]) a σ'.w):o.wpIn k.F 0 P a σ.w next Q:=by
 cases hr:noRound rc with
 |true=>exact wpIn_of_wp k (noDefer_of_step h) 0 (step_sound tabOk sr tr h hag (holds_rec hob hr) hret hpan)
 |false=>
  have hko:k=.out:=by
   rcases hk with hk | hk
   ·cases k with
    |out=>rfl
    |rnd l=>cases hk
   ·rw [hr] at hk;cases hk
  subst hko
  have hnd:=noDefer_of_step h
  unfold stepA at h
  split at h
  ·exfalso
   rename_i f args obs hcal
   have hobs:∀o∈obs,o.isRound=false:=fun o ho=>by
    rcases calleeOf_obs hcal with e | ⟨_,_,_,e⟩
    ·rw [e] at ho;cases ho
    ·rw [e] at ho
     simp only [List.mem_singleton] at ho
     rw [ho];rfl
   have hall:(obs.all fun o=>!o.isRound)=true:=List.all_eq_true.2 fun o ho=>by rw [hobs o ho];rfl
   split at h
   ·split at h
    ·cases h;exact absurd hr (by simp only [noRound,List.all_cons,hall];simp [Obl.isRound])
    ·cases h
   split at h
   ·rename_i rc' hown
    cases h
    unfold ownA at hown
    split at hown
    ·split at hown
     ·split at hown
      ·cases hown;exact absurd hr (by simp only [noRound,List.singleton_append,List.all_cons,hall];simp [Obl.isRound])
      ·cases hown
     ·cases hown
    ·cases hown
   split at h
   ·split at h
    ·cases h;exact absurd hr (by simp only [noRound,List.all_cons,hall];simp [Obl.isRound])
    ·cases h
   ·cases h
  ·split at h
   ·rename_i n args hy
    split at h
    ·rename_i r H' hrd
     cases h
     have hrnd:Round2 P n args H r H':=hob _ List.mem_cons_self
     obtain ⟨vs,hvs,hrun⟩:=yield_enter (P:=P) tr hy
     obtain ⟨hag1,hag2⟩:=hag
     obtain ⟨fn,tmps,assign,body,hyr,hR⟩:=hrnd σ vs sr hag1 hag2 hvs
     refine ⟨fun _ _=>trivial,?_⟩
     rw [Oper.semAt_eq _ _ _ (noDefer_ne hnd),hrun,hyr,Oper.uponIn_round]
     refine ⟨fk_depth .out 0,hR.mono ?_⟩
     rintro e w' ⟨σ',rfl,h1,l,sr',h2,h3,h4,h5⟩
     cases r<;>cases e<;>simp only [OutR] at h5
     ·exact hret _ rfl σ' _ l sr' h1 ⟨h2,h3,h4⟩ h5
     ·obtain ⟨x,rfl,hx⟩:=h5
      exact hpan _ rfl σ' x l sr' h1 ⟨h2,h3,h4⟩ hx
    ·cases h
   split at h
   ·cases h;simp [noRound] at hr
   split at h
   ·cases h;simp [noRound] at hr
   ·cases h
theorem runOpsIn_sound (tabOk:TabOK P tab) (k:FK) {hd:Hd} {ops:Array Oper} {N:Nat} {Q:Exit→Act→World→Prop} (hq:¬LetsOut Q):∀(l:List Oper) (i:Nat) (T:TL) (H:Heap) (σ:Sg) (a:Act) (rr:RR) (recs:List Rec),SS σ a N T H→dstOk N l=true→
 runOps tab hd ops l i T H=some (rr,recs)→(∀k,l[k]?=ops[i+k]?)→(∀rc∈recs,∀ob∈rc.ob,ob.holdsY P)→(k.isOut=true∨∀rc∈recs,noRound rc=true)→
 (∀T' H',rr=.done T' H'→∀σ' a',Lg H.next σ σ'→H.next≤H'.next→SS σ' a' N T' H'→a'.defers=a.defers→Q .normal a' σ'.w)→
 (∀v H',rr=.pan v H'→∀σ' a' x,Lg H.next σ σ'→H.next≤H'.next→SP σ' H'→VR σ' v x→a'.defers=a.defers→Q (.panic [{ v:=x,recovered:=false }]) a' σ'.w)→
 wpOpsIn k.F 0 P ops Q (List.range' i l.length) a σ.w
 |[],i,T,H,σ,a,rr,recs,ss,_,h,_,_,_,hdn,_=>by
  cases h
  exact hdn T H rfl σ a (Lg.refl _ σ) (Nat.le_refl _) ss rfl
 |o::r,i,T,H,σ,a,rr,recs,ss,hdst,h,hl,hob,hk,hdn,hpn=>by
  have ho:ops[i]?=some o:=by have:=hl 0;simpa using this.symm
  have hr:∀k,r[k]?=ops[i+1+k]?:=fun k=>by
   have:=hl (k+1)
   rw [show i+(k+1)=i+1+k by omega] at this
   simpa using this
  simp only [dstOk,List.all_cons,Bool.and_eq_true] at hdst
  have hdo:∀t,o.dst=some t→t<a.tmps.size:=fun t ht=>by
   have:=hdst.1
   rw [ht] at this
   rw [ss.size]
   simpa using this
  rw [List.length_cons,List.range'_succ]
  simp only [wpOpsIn,ho]
  simp only [runOps] at h
  split at h
  ·cases h
  ·rename_i hw
   rw [if_neg (by rw [wanted_vr ss.tr hw];simp)]
   refine ⟨fun _ _=>fk_fn k _,?_⟩
   split at h
   ·rename_i rr' rs hrun
    cases h
    have hn0:H.next≤(H.apply undone.e).next:=apply_next (e:=undone.e) rfl
    refine runOpsIn_sound tabOk k hq r (i+1) _ _ σ _ _ rs ⟨sp_apply (e:=undone.e) ss.toSP (by rfl) ss.sr rfl (show DeadOk H σ σ (.loc [] [] 0) from rfl),tr_putD ss.tr hdo (undef_vr σ),put_size'.trans ss.size⟩ hdst.2 hrun hr (fun rc hrc=>hob rc (by simp [hrc])) (hk.imp id fun h rc hrc=>h rc (by simp [hrc])) (fun T' H' e σ' a' l n s d=>hdn T' H' e σ' a' (l.weak hn0) (Nat.le_trans hn0 n) s (d.trans put_defers')) (fun v H' e σ' a' x l n s hx d=>hpn v H' e σ' a' x (l.weak hn0) (Nat.le_trans hn0 n) s hx (d.trans put_defers'))
   ·cases h
  ·rename_i hw
   rw [if_pos (wanted_vr ss.tr hw)]
   split at h
   ·cases h
   ·rename_i rc hrc
    split at h
    ·rename_i hok
     have hag:=agree_of ss.toSP rc.e
     have hn0:=apply_next hok
     split at h
     ·rename_i v hv
      split at h
      ·rename_i rr' rs hrun
       cases h
       refine stepIn_sound tabOk ss.sr k ss.tr hrc hag (hob rc (by simp)) (hk.imp id fun h=>h rc (by simp)) hq (fun v' hv' σ' x l sr' hh hdd hx=>?_) (fun v' hv'=>by rw [hv] at hv';cases hv')
       rw [hv] at hv'
       cases hv'
       refine runOpsIn_sound tabOk k hq r (i+1) _ _ σ' _ _ rs ⟨sp_apply ss.toSP hok sr' hh hdd,tr_putD (ss.tr.mono l) hdo hx,put_size'.trans ss.size⟩ hdst.2 hrun hr (fun rc hrc=>hob rc (by simp [hrc])) (hk.imp id fun h rc hrc=>h rc (by simp [hrc]))
        (fun T' H' e σ'' a' l' n s d=>hdn T' H' e σ'' a' ((lg_of l hok hag hh hdd).trans sr' (l'.weak hn0) s.sr) (Nat.le_trans hn0 n) s (d.trans put_defers')) (fun v H' e σ'' a' x l' n s hx d=>hpn v H' e σ'' a' x ((lg_of l hok hag hh hdd).trans sr' (l'.weak hn0) s.sr) (Nat.le_trans hn0 n) s hx (d.trans put_defers'))
      ·cases h
     ·rename_i v hv
      cases h
      refine stepIn_sound tabOk ss.sr k ss.tr hrc hag (hob rc (by simp)) (hk.imp id fun h=>h rc (by simp)) hq (fun v' hv'=>by rw [hv] at hv';cases hv') (fun v' hv' σ' x l sr' hh hdd hx=>?_)
      rw [hv] at hv'
      cases hv'
      exact hpn v _ rfl σ' a x (lg_of l hok hag hh hdd) hn0 (sp_apply ss.toSP hok sr' hh hdd) hx rfl
    ·cases h
section
variable {hd:Hd} {ops:Array Oper} {l:List Oper} {recs:List Rec} {T0:TL} {H0:Heap} {rr:RR} {N:Nat} {σ0 σ:Sg} {a0 a:Act} {listed:Array Bool}
theorem wpAnyIn_inv (tabOk:TabOK P tab) (k:FK) (F:Fit tab hd ops l recs T0 H0 rr) (hl:l=ops.toList) (hdst:dstOk N l=true) {Q:Exit→Act→World→Prop} (hq:¬LetsOut Q) (hob:∀rc∈recs,∀ob∈rc.ob,ob.holdsY P) (hkk:k.isOut=true∨∀rc∈recs,noRound rc=true)
 (hrr:∀v H',rr=.pan v H'→∃k,k<l.length∧∃v,(recs.getD k undone).out=.pan v)
 (hdn:∀T' H',rr=.done T' H'→∀σ' a',Lg H0.next σ0 σ'→H0.next≤H'.next→SS σ' a' N T' H'→a'.defers=a0.defers→Q .normal a' σ'.w)
 (hpn:∀v H',rr=.pan v H'→∀σ' a' x,Lg H0.next σ0 σ'→H0.next≤H'.next→SP σ' H'→VR σ' v x→a'.defers=a0.defers→Q (.panic [{ v:=x,recovered:=false }]) a' σ'.w) :
 ∀(fuel:Nat) (listed:Array Bool) (σ:Sg) (a:Act),Inv l recs T0 H0 N σ0 a0 listed σ a→unl (Sl listed) l.length≤fuel→wpAnyIn k.F 0 P .any ops Q fuel listed a σ.w:=by
 have fin:∀(listed:Array Bool) (σ:Sg) (a:Act),Inv l recs T0 H0 N σ0 a0 listed σ a→(∀i,i<l.length→Sl listed i=true)→Q .normal a σ.w:=fun listed σ a I hall=>by
  cases hq:rr with
  |done T' H'=>
   obtain ⟨rfl,rfl⟩:=F.done T' H' hq
   exact hdn _ _ hq σ a I.le (next_le F (Nat.zero_le _)) ⟨sp_at F I (Nat.le_refl _) hall (fun i h1 h2=>by omega),tr_at I hall,I.size⟩ I.defers
  |pan v H'=>
   obtain ⟨k,hk,v',hv'⟩:=hrr v H' hq
   obtain ⟨u,hu⟩:=I.rets k (hall k hk)
   rw [hu] at hv'
   cases hv'
 intro fuel
 induction fuel with
 |zero=>
  intro listed σ a I hf
  have hall:=unl_zero (S:=Sl listed) l.length (by omega)
  refine ⟨?_,fin listed σ a I hall⟩
  cases hq:Region.ready .any ops listed with
  |nil=>rfl
  |cons i r=>
   have:i∈Region.ready .any ops listed:=by rw [hq];simp
   rw [mem_ready] at this
   obtain ⟨h1,o,ho,_⟩:=this
   have hi:i<l.length:=by
    subst hl
    have:=(Array.getElem?_eq_some_iff.1 ho).1
    simpa using this
   have:=hall i hi
   unfold Sl at this
   have hsz:i<listed.size:=by rw [I.lsz];exact hi
   simp [hsz] at this h1
   rw [this] at h1;cases h1
 |succ fuel ih=>
  intro listed σ a I hf
  refine ⟨fun h=>fin listed σ a I (ready_nil F hl I h),fun j hj=>?_⟩
  rw [mem_ready] at hj
  obtain ⟨h1,o,ho,hr⟩:=hj
  have hol:l[j]?=some o:=by subst hl;simpa using ho
  have hjl:j<l.length:=(List.getElem?_eq_some_iff.1 hol).1
  have hjs:Sl listed j=false:=by
   unfold Sl
   have hsz:j<listed.size:=by rw [I.lsz];exact hjl
   simp [hsz] at h1 ⊢
   exact h1
  have hr':∀e∈o.after.toList,Region.binds .any e=true→Sl listed e.on=true:=fun e he hb=>hr e (by simpa using he) hb
  have hd0:∀t,o.dst=some t→t<N:=fun t ht=>by
   have:=(List.all_eq_true.1 hdst) o (List.mem_of_getElem? hol)
   rw [ht] at this
   simpa using this
  have hcount:unl (Sl (listed.setIfInBounds j true)) l.length≤fuel:=by
   have hls:j<listed.size:=by rw [I.lsz];exact hjl
   have hS:Sl (listed.setIfInBounds j true)=fun i=>decide (i=j) || Sl listed i:=funext (Sl_set hls)
   have:=unl_insert (S:=Sl listed) hjs l.length
   rw [if_pos hjl] at this
   rw [hS]
   omega
  have hag:=agree_at F I hol hjs hr'
  have hlook:∀t∈o.looksAt ops,seenT T0 l recs (Sl listed) l.length t=look (Ts T0 l recs j) t:=fun t ht=>seen_t F I hol hjs hr' ht
  simp only [wpOpIn,ho]
  rcases F.good j o hol with ⟨hw,hu⟩ | ⟨hw,hst,hok⟩
  ·rw [←wantedA_congr hlook] at hw
   rw [if_neg (by rw [wanted_vr I.tr hw];simp)]
   refine ⟨fun _ _=>fk_fn k _,?_⟩
   refine ih _ σ _ (inv_insert F I hol hjs hr' hd0 (v:=undefA) (by rw [hu];rfl) (Le.refl σ) I.sr ?_ ?_ (undef_vr σ)) hcount
   ·rw [eAt,hu];rfl
   ·rw [eAt,hu];rfl
  ·rw [←wantedA_congr hlook] at hw
   rw [if_pos (wanted_vr I.tr hw)]
   rw [←stepA_congr (aev_looks hlook)] at hst
   have hmem:recs.getD j undone∈recs:=by
    have:j<recs.length:=by rw [F.len];exact hjl
    simp [this]
   refine stepIn_sound tabOk I.sr k I.tr hst hag (hob _ hmem) (hkk.imp id fun h=>h _ hmem) hq (fun v hv σ' x le sr' hh hdd hx=>?_) (fun v hv σ' x le sr' hh hdd hx=>?_)
   ·exact ih _ σ' _ (inv_insert F I hol hjs hr' hd0 hv le sr' hh hdd hx) hcount
   ·obtain ⟨q1,q2⟩:=F.pan j v hjl hv
    have hbef:∀i,i<j→Sl listed i=true:=fun i hi=>by
     rcases F.apart i j l[i] o hi (List.getElem?_eq_getElem (by omega)) hol with h | ⟨_,_,u,hu⟩
     ·exact ready_bit I hol hr' h
     ·rw [hv] at hu;cases hu
    have sp:=sp_at F I (Nat.le_of_lt hjl) hbef (fun i a b=>by rw [show i=j by omega];exact hjs)
    exact hpn v _ q2 σ' a x (I.le.trans I.sr ((lg_of le (ok_at F j) hag hh hdd).weak (next_le F (Nat.zero_le j))) sr') (next_le F (i:=0) (j:=j+1) (Nat.zero_le _)) (sp_apply sp (ok_at F j) sr' hh hdd) hx I.defers
end
theorem drawnIn_any (tabOk:TabOK P tab) (k:FK) {hd:Hd} {ops:Array Oper} {N:Nat} {Q:Exit→Act→World→Prop} {T:TL} {H:Heap} {σ:Sg} {a:Act} {rr:RR} {recs:List Rec} (ss:SS σ a N T H) (hdst:dstOk N ops.toList=true)
 (h:runOps tab hd ops ops.toList 0 T H=some (rr,recs)) (hdr:drawOk H ops ops.toList recs=true) (hq:¬LetsOut Q) (hob:∀rc∈recs,∀ob∈rc.ob,ob.holdsY P) (hkk:k.isOut=true∨∀rc∈recs,noRound rc=true)
 (hdn:∀T' H',rr=.done T' H'→∀σ' a',Lg H.next σ σ'→H.next≤H'.next→SS σ' a' N T' H'→a'.defers=a.defers→Q .normal a' σ'.w)
 (hpn:∀v H',rr=.pan v H'→∀σ' a' x,Lg H.next σ σ'→H.next≤H'.next→SP σ' H'→VR σ' v x→a'.defers=a.defers→Q (.panic [{ v:=x,recovered:=false }]) a' σ'.w) :
 wpAnyIn k.F 0 P .any ops Q ops.size (Array.replicate ops.size false) a { σ.w with drawn:=σ.w.drawn+1 }:=by
 have F:=fit h hdr
 have no:∀i,Sl (Array.replicate ops.size false) i=false:=fun i=>by
  unfold Sl
  rw [Array.getD_eq_getD_getElem?,Array.getElem?_replicate]
  split<;>rfl
 refine wpAnyIn_inv (σ0:=σ) (a0:=a) (T0:=T) (H0:=H) tabOk k F rfl hdst hq hob hkk (fun v H' e=>?_) hdn hpn ops.size _ σ.drew a ⟨sr_drew ss.sr,⟨le_drew σ,fun _ h=>.inl h⟩,fun m=>?_,?_,ss.size,rfl,fun m hm=>?_,fun j o _ hs=>?_,fun j hs=>?_,by simp⟩ ?_
 ·subst e
  obtain ⟨k,h1,h2⟩:=runOps_pan _ _ _ _ _ _ _ h
  exact ⟨k,by rw [←F.len];exact h1,h2⟩
 ·rw [seenH,lastOf_nothing no]
  exact congrFun ss.h m
 ·rw [show seenT T ops.toList recs (Sl (Array.replicate ops.size false)) ops.toList.length=look T from funext fun t=>lastOf_nothing no _]
  exact ss.tr.mono (le_drew σ)
 ·rcases Nat.lt_or_ge m H.next with q | q
  ·exact .inl q
  ·obtain ⟨h1,h2⟩:=ss.fresh m q
   rcases hm with hm | hm
   ·exact absurd h1 hm
   ·exact absurd hm h2
 ·rw [no] at hs;cases hs
 ·rw [no] at hs;cases hs
 ·exact unl_le _
end Go.Abs
end
section
namespace Go.Abs
inductive AX where
 |normal
 |exit (id:Nat)
 |goto (l:Nat)
 |ret
 |pan (v:AV)
abbrev Post:=AX→TL→Heap→Prop
def Marks (B:Nat) (σ:Sg):List Deferred→Prop
 |[]=>True
 |d::ds=>(∃b,d={ target:=.collected b,args:=#[] }∧B≤b∧b<σ.w.heap.size∧σ.w.heap[b]?=some (.deferred (some []))∧¬σ.J b∧(∀n o,σ.h n=some o→σ.r n≠b)∧(∀d'∈ds,d'.target≠.collected b))∧Marks B σ ds
theorem Marks.mono {B:Nat} {σ σ':Sg} (l:Le σ σ') (sr':SR σ'):∀{ds:List Deferred},Marks B σ ds→Marks B σ' ds
 |[],_=>trivial
 |d::ds,⟨⟨b,h1,h2,h3,h4,h0,h5,h6⟩,hr⟩=>
  ⟨⟨b,h1,h2,Nat.lt_of_lt_of_le h3 l.size,(l.frame b h3 h5).trans h4,fun h=>h0 (l.jnew b h h3 h5),l.notOwn sr' h3 h5,h6⟩,hr.mono l sr'⟩
structure Arr (N n0 B:Nat) (σ:Sg) (a:Act) (T:TL) (H:Heap):Prop where
 ss:SS σ a N T H
 n0:n0≤H.next
 mks:Marks B σ a.defers
 hB:B≤σ.w.heap.size
def CWQ (N n0 B:Nat) (Q:Post) (σ0:Sg):Exit→Act→World→Prop:=fun e a w=>∃σ,σ.w=w∧Lg n0 σ0 σ∧
 match e with
 |.normal=>∃T H,Arr N n0 B σ a T H∧Q .normal T H
 |.exit id=>∃T H,Arr N n0 B σ a T H∧Q (.exit id) T H
 |.goto l=>∃T H,Arr N n0 B σ a T H∧Q (.goto l) T H
 |.ret=>∃T H,Arr N n0 B σ a T H∧Q .ret T H
 |.panic ch=>∃v H x,n0≤H.next∧B≤σ.w.heap.size∧Marks B σ a.defers∧ch=[{ v:=x,recovered:=false }]∧SP σ H∧VR σ v x∧Q (.pan v) [] H
 |.outgrown=>False
theorem CWQ.shut {N n0 B:Nat} {Q:Post} {σ:Sg}:¬LetsOut (CWQ N n0 B Q σ):=fun ⟨_,_,_,_,_,h⟩=>h
def CW (P:Program) (k:FK) (N n0:Nat) (c:Code) (T:TL) (H:Heap) (Q:Post):Prop:=
 ∀B σ a,Arr N n0 B σ a T H→c.wpIn k.F 0 P (CWQ N n0 B Q σ) a σ.w
variable {P:Program} {tab:Tab} {N n0:Nat} {T:TL} {H:Heap} {Q Q':Post} {k:FK}
theorem CWQ.mono {B:Nat} {σ:Sg} {e:Exit} {a:Act} {w:World} (h:CWQ N n0 B Q σ e a w) (hq:∀x T H,Q x T H→Q' x T H):CWQ N n0 B Q' σ e a w:=by
 obtain ⟨σ',hw,l,h⟩:=h
 refine ⟨σ',hw,l,?_⟩
 cases e<;>simp only [] at h ⊢
 case panic ch=>obtain ⟨v,H,x,h1,h2,h3,h4,h5,h6,h7⟩:=h;exact ⟨v,H,x,h1,h2,h3,h4,h5,h6,hq _ _ _ h7⟩
 all_goals (obtain ⟨T,H,h1,h2⟩:=h;exact ⟨T,H,h1,hq _ _ _ h2⟩)
theorem CWQ.base {B:Nat} {σ σ1:Sg} {e:Exit} {a:Act} {w:World} (l0:Lg n0 σ σ1) (sr1:SR σ1) (h:CWQ N n0 B Q σ1 e a w):CWQ N n0 B Q σ e a w:=by
 obtain ⟨σ',hw,l,h⟩:=h
 have fin:SR σ'→CWQ N n0 B Q σ e a w:=fun sr=>⟨σ',hw,l0.trans sr1 l sr,h⟩
 cases e<;>simp only [] at h
 case panic ch=>obtain ⟨v,H,x,h1,h2,h3,h4,h5,h6,h7⟩:=h;exact fin h5.sr
 all_goals (obtain ⟨T,H,h1,h2⟩:=h;exact fin h1.ss.sr)
theorem CW.mono {c:Code} (h:CW P k N n0 c T H Q) (hq:∀x T H,Q x T H→Q' x T H):CW P k N n0 c T H Q':=
 fun B σ a ar=>wpIn_mono (h B σ a ar) fun _ _ _ h=>h.mono hq
def nextP (K:TL→Heap→Prop) (Q:Post):Post:=fun e T H=>match e with
 |.normal=>K T H
 |e=>Q e T H
theorem CWQ.then {B:Nat} {K:TL→Heap→Prop} {R:Act→World→Prop} {σ:Sg} {e:Exit} {a:Act} {w:World} (h:CWQ N n0 B (nextP K Q) σ e a w)
 (hk:∀σ' T H,Lg n0 σ σ'→Arr N n0 B σ' a T H→K T H→σ'.w=w→R a w):Exit.then R (CWQ N n0 B Q σ) e a w:=by
 obtain ⟨σ',hw,l,h⟩:=h
 cases e<;>simp only [nextP] at h<;>simp only [Exit.then]
 case normal=>obtain ⟨T,H,h1,h2⟩:=h;exact hk σ' T H l h1 h2 hw
 all_goals exact ⟨σ',hw,l,h⟩
theorem CW.skip (h:Q .normal T H):CW P k N n0 .skip T H Q:=fun _ σ _ ar=>wpIn_skip ⟨σ,rfl,.refl _ σ,T,H,ar,h⟩
theorem CW.label {l:Nat} (h:Q .normal T H):CW P k N n0 (.label l) T H Q:=fun _ σ _ ar=>wpIn_label ⟨σ,rfl,.refl _ σ,T,H,ar,h⟩
theorem CW.exit {id:Nat} (h:Q (.exit id) T H):CW P k N n0 (.exit id) T H Q:=fun _ σ _ ar=>wpIn_exit ⟨σ,rfl,.refl _ σ,T,H,ar,h⟩
theorem CW.goto {l:Nat} (h:Q (.goto l) T H):CW P k N n0 (.goto l) T H Q:=fun _ σ _ ar=>wpIn_goto ⟨σ,rfl,.refl _ σ,T,H,ar,h⟩
theorem CW.ret (h:Q .ret T H):CW P k N n0 .ret T H Q:=fun _ σ _ ar=>wpIn_ret ⟨σ,rfl,.refl _ σ,T,H,ar,h⟩
theorem CW.seq {x y:Code} (h:CW P k N n0 x T H (nextP (fun T H=>CW P k N n0 y T H Q) Q)):CW P k N n0 (.seq x y) T H Q:=fun B σ a ar=>
 wpIn_seq (wpIn_mono (h B σ a ar) fun _ _ _ h=>h.then fun σ' T H l ar' hk hw=>by subst hw;exact wpIn_mono (hk B σ' _ ar') fun _ _ _ h=>h.base l ar'.ss.sr)
theorem CW.cond {c:Operand} {x y:Code} {b:Bool} (hc:aev (look T) c=some (.sc (.bool b))) (h:CW P k N n0 (if b then x else y) T H Q):CW P k N n0 (.cond c x y) T H Q:=fun B σ a ar=>
 wpIn_cond ((aev_vr ar.ss.tr hc).sc_inv).1 (h B σ a ar)
def blockP (id:Nat) (Q:Post):Post:=fun e T H=>match e with
 |.exit id'=>if id'=id then Q .normal T H else Q (.exit id') T H
 |e=>Q e T H
theorem CW.block {id:Nat} {c:Code} (h:CW P k N n0 c T H (blockP id Q)):CW P k N n0 (.block id c) T H Q:=fun B σ a ar=>
 wpIn_block (wpIn_mono (h B σ a ar) fun e a' w' h=>by
  obtain ⟨σ',hw,l,h⟩:=h
  cases e<;>simp only [blockP] at h<;>simp only [Exit.inBlock]
  case exit id'=>
   obtain ⟨T,H,h1,h2⟩:=h
   split
   ·rename_i e;rw [if_pos e] at h2;exact ⟨σ',hw,l,T,H,h1,h2⟩
   ·rename_i e;rw [if_neg e] at h2;exact ⟨σ',hw,l,T,H,h1,h2⟩
  all_goals exact ⟨σ',hw,l,h⟩)
def stayP (Q:Post):Post:=fun e T H=>match e with
 |.goto _=>False
 |e=>Q e T H
theorem wpIn_scope_straight {F:Fence} {n:Nat} {QQ:Exit→Act→World→Prop} {a:Act} {w:World} {c:Code} (h:c.wpIn F n P (Exit.noGoto QQ) a w):(Code.scope c).wpIn F n P QQ a w:=by
 intro b kk cs hro hb hr
 have s1:step P (lone (b.atR a (.code (.scope c)::kk)) cs w)=.next (lone (b.atR a (.code c::.inScope c::kk)) cs w):=step_lone_go (by simp [stepG,stepG.exec,Frame.atR])
 have s2:∀a w,step P (lone (b.atR a (.inScope c::kk)) cs w)=.next (lone (b.atR a kk) cs w):=fun a w=>step_lone_go (by simp [stepG,stepG.exec,Frame.atR])
 have h0:(lone (b.atR a (.code (.scope c)::kk)) cs w).fenced P F:=fenced_calm hb hr rfl
 obtain ⟨e,a₁,w₁,hq,harr⟩:=h b (.inScope c::kk) cs hro hb hr
 cases e with
 |normal=>exact ⟨.normal,a₁,w₁,hq,.head h0 s1 (StepsIn.trans harr (.one (fenced_calm hb hr rfl) (s2 _ _)))⟩
 |exit id=>
  have hx:exitTo id (.inScope c::kk)=exitTo id kk:=by simp [exitTo]
  exact ⟨.exit id,a₁,w₁,hq,fun k' hk=>.head h0 s1 (harr.1 k' (by rw [hx];exact hk)),
   fun hr' hk=>let ⟨k₁,h1,h2⟩:=harr.2 hr' (by rw [hx];exact hk);⟨k₁,h1,.head h0 s1 h2⟩⟩
 |goto l=>exact hq.elim
 |ret=>exact ⟨_,a₁,w₁,hq,.of_steps (.one h0 s1) harr⟩
 |panic ch=>exact ⟨_,a₁,w₁,hq,.of_steps (.one h0 s1) harr⟩
 |outgrown=>exact ⟨_,a₁,w₁,hq,.of_steps (.one h0 s1) harr⟩
theorem CW.scope {c:Code} (h:CW P k N n0 c T H (stayP Q)):CW P k N n0 (.scope c) T H Q:=fun B σ a ar=>
 wpIn_scope_straight (wpIn_mono (h B σ a ar) fun e a' w' h=>by
  obtain ⟨σ',hw,l,h⟩:=h
  cases e<;>simp only [stayP] at h<;>simp only [Exit.noGoto]
  case goto l=>obtain ⟨_,_,_,h⟩:=h;exact h
  all_goals exact ⟨σ',hw,l,h⟩)
def CW.rounds (P:Program) (k:FK) (N n0:Nat) (c:Code) (Q:Post):Nat→TL→Heap→Prop
 |0,_,_=>False
 |n+1,T,H=>CW P k N n0 c T H (nextP (CW.rounds P k N n0 c Q n) Q)
theorem CW.loop {c:Code} (n:Nat) (h:CW.rounds P k N n0 c Q n T H):CW P k N n0 (.loop c) T H Q:=fun B σ a ar=>by
 refine wpIn_loop_rounds n ?_
 have:∀n T H σ1 a,CW.rounds P k N n0 c Q n T H→Arr N n0 B σ1 a T H→Lg n0 σ σ1→Code.roundsIn k.F 0 P c (CWQ N n0 B Q σ) n a σ1.w:=by
  intro n
  induction n with
  |zero=>intro T H σ1 a h;exact h.elim
  |succ n ih=>
   intro T H σ1 a h ar l
   refine wpIn_mono (h B σ1 a ar) fun e a' w' h=>?_
   have:=h.then (R:=Code.roundsIn k.F 0 P c (CWQ N n0 B Q σ) n) fun σ' T H l' ar' hk hw=>by subst hw;exact ih T H σ' _ hk ar' (l.trans ar.ss.sr l' ar'.ss.sr)
   cases e<;>simp only [Exit.then] at this ⊢
   case normal=>exact this
   all_goals exact this.base l ar.ss.sr
 exact this n T H σ a h ar (.refl _ σ)
def afterP (Q:Post):RR→Prop
 |.done T H=>Q .normal T H
 |.pan v H=>Q (.pan v) [] H
theorem CW.region (tabOk:TabOK P tab) {hd:Hd} {ops:Array Oper} {id:Nat} {draw:Bool} {rr:RR} {recs:List Rec} (hm:P.follows .mixedOrders=true) (hdst:dstOk N ops.toList=true)
 (h:runOps tab hd ops ops.toList 0 T H=some (rr,recs)) (hdr:(draw=true→drawOk H ops ops.toList recs=true)) (hob:∀rc∈recs,∀ob∈rc.ob,ob.holdsY P)
 (hkk:k.isOut=true∨∀rc∈recs,noRound rc=true) (hq:afterP Q rr):CW P k N n0 (.region id ops draw) T H Q:=fun B σ a ar=>by
 have hdn:∀T' H',rr=.done T' H'→∀σ' a',Lg H.next σ σ'→H.next≤H'.next→SS σ' a' N T' H'→a'.defers=a.defers→CWQ N n0 B Q σ .normal a' σ'.w:=fun T' H' e σ' a' l n s d=>by
  subst e;exact ⟨σ',rfl,l.weak ar.n0,T',H',⟨s,Nat.le_trans ar.n0 n,by rw [d];exact ar.mks.mono l.1 s.sr,Nat.le_trans ar.hB l.1.size⟩,hq⟩
 have hpn:∀v H',rr=.pan v H'→∀σ' a' x,Lg H.next σ σ'→H.next≤H'.next→SP σ' H'→VR σ' v x→a'.defers=a.defers→CWQ N n0 B Q σ (.panic [{ v:=x,recovered:=false }]) a' σ'.w:=fun v H' e σ' a' x l n s hx d=>by
  subst e;exact ⟨σ',rfl,l.weak ar.n0,v,H',x,Nat.le_trans ar.n0 n,Nat.le_trans ar.hB l.1.size,by rw [d];exact ar.mks.mono l.1 s.sr,rfl,s,hx,hq⟩
 cases draw with
 |true=>
  exact wpIn_region_any hm (drawnIn_any (Q:=CWQ N n0 B Q σ) tabOk k ar.ss hdst h (hdr rfl) CWQ.shut hob hkk hdn hpn)
 |false=>
  refine wpIn_region ?_
  have:=runOpsIn_sound (Q:=CWQ N n0 B Q σ) tabOk k CWQ.shut ops.toList 0 T H σ a rr recs ar.ss hdst h (fun k=>by simp) hob hkk hdn hpn
  rwa [←List.range_eq_range',Array.length_toList] at this
theorem CW.drop {c:Code} {T':TL} (ht:∀t x,look T' t=some x→look T t=some x) (h:CW P k N n0 c T' H Q):CW P k N n0 c T H Q:=fun B σ a ar=>
 h B σ a ⟨⟨ar.ss.toSP,fun t x hx=>ar.ss.tr t x (ht t x hx),ar.ss.size⟩,ar.n0,ar.mks,ar.hB⟩
end Go.Abs
end
