/- Of ServerHides: lemmas. -/
import Derived.Test.YtlhdbnmgiaoeeaaGreatUAc
import Derived.Test.YtlhdbnmgiaoeeaaGreatUAa
import Derived.RangeFuncCalls
import Derived.RangeFuncIn
import Derived.RangeFuncLeaves
import Derived.OrdersIn
import Derived.Scope
import Derived.LoopNIn
set_option linter.all false
section
namespace Go.Abs
abbrev TL:=List (Nat×AV)
def putD (T:TL) (d:Option Tmp) (v:AV):TL:=
 match d with
 |some d=>put T d v
 |none=>T
def putAll:List (Nat×AO)->List (Nat×AO)->List (Nat×AO)
 |objs,[]=>objs
 |objs,(n,o)::r=>putAll (put objs n o) r
def Heap.apply (H:Heap):Eff->Heap
 |.loc _ ups nw=>⟨putAll H.objs ups,H.next+nw+1⟩
 |.glob H'=>H'
def okEff (H:Heap):Eff->Bool
 |.loc rd ups nw=>ups.all λp=>(decide (H.next<=p.1)&&decide (p.1<H.next+nw)) || (rd.contains p.1&&(look H.objs p.1).isSome)
 |.glob H'=>decide (H.next<=H'.next)&&H'.objs.all λp=>(look H.objs p.1).isSome || decide (H.next<=p.1)
def wantedA (ops:Array Oper) (T:Tm) (o:Oper):Option Bool:=
 match o.guard with
 |none=>some true
 |some (j,want)=>match (ops[j]?).bind (·.dst) with
  |none=>some false
  |some d=>match T d with
   |some (.sc (.bool b))=>some (b==want)
   |some (.sc (.tuple _))=>some false
   |_=>none
inductive RR where
 |done (T:TL) (H:Heap)
 |pan (v:AV) (H:Heap)
def undone:Rec:=⟨.ret undefA,.loc [] [] 0,[]⟩
def runOps (tab:Tab) (hd:Hd) (ops:Array Oper):List Oper->Nat->TL->Heap->Option (RR×List Rec)
 |[],_,T,H=>some (.done T H,[])
 |o::r,i,T,H=>match wantedA ops (look T) o with
  |none=>none
  |some false=>match runOps tab hd ops r (i+1) (putD T o.dst undefA) (H.apply undone.e) with
   |some (rr,rs)=>some (rr,undone::rs)
   |none=>none
  |some true=>match stepA tab hd i (look T) H o with
   |none=>none
   |some rc=>if okEff H rc.e then
    match rc.out with
    |.ret v=>match runOps tab hd ops r (i+1) (putD T o.dst v) (H.apply rc.e) with
     |some (rr,rs)=>some (rr,rc::rs)
     |none=>none
    |.pan v=>some (.pan v (H.apply rc.e),[rc])
    else none
def dstOk (N:Nat) (l:List Oper):Bool:=l.all λo=>match o.dst with | some d=>decide (d<N) | none=>true
structure SP (σ:Sg) (H:Heap):Prop where
 sr:SR σ
 h:σ.h=look H.objs
 fresh:∀m,H.next<=m->σ.h m=none/\¬σ.dead m
structure SS (σ:Sg) (a:Act) (N:Nat) (T:TL) (H:Heap):Prop extends SP σ H where
 tr:TR σ (look T) a
 size:a.tmps.size=N
def Lg (n:Nat) (σ σ':Sg):Prop:=Le σ σ'/\∀m,Used σ' m->Used σ m\/n<=m
theorem Lg.refl (n:Nat) (σ:Sg):Lg n σ σ:=⟨Le.refl σ,λ_ h=>.inl h⟩
theorem Lg.weak {n n':Nat} {σ σ':Sg} (hn:n<=n') (h:Lg n' σ σ'):Lg n σ σ':=⟨h.1,λm hm=>(h.2 m hm).imp id (Nat.le_trans hn)⟩
theorem Lg.trans {n:Nat} {σ σ' σ'':Sg} (l:Lg n σ σ') (sr':SR σ') (l':Lg n σ' σ'') (sr'':SR σ''):Lg n σ σ'':=
 ⟨l.1.trans sr' l'.1 sr'',λm hm=>(l'.2 m hm).elim (l.2 m) .inr⟩
theorem ups_none:∀(ups:List (Nat×AO)) (h:Nat->Option AO) (m:Nat),(∀p∈ups,p.1≠m)->updAll h ups m=h m
 |[],_,_,_=>rfl
 |(n,o)::r,h,m,hh=>by
  simp only [updAll]
  rw [ups_none r _ m (λp hp=>hh p (by simp [hp]))]
  have:=hh (n,o) (by simp)
  simp [upd,show ¬m=n from λe=>this e.symm]
theorem look_in {β:Type}:∀{l:List (Nat×β)} {m:Nat},look l m≠none->∃z,(m,z)∈l
 |[],m,h=>absurd rfl h
 |(n,o)::r,m,h=>by
  by_cases e:n=m
  ·exact ⟨o,by simp [e]⟩
  ·have:look ((n,o)::r) m=look r m:=by simp [look,e]
   rw [this] at h
   obtain ⟨z,hz⟩:=look_in h
   exact ⟨z,by simp [hz]⟩
theorem lg_of {H:Heap} {e:Eff} {σ σ':Sg} (l:Le σ σ') (hok:okEff H e=true) (hag:Agree H σ e) (hh:σ'.h=effOn e σ.h) (hd:DeadOk H σ σ' e):Lg H.next σ σ':=by
 refine ⟨l,λm hm=>?_⟩
 cases e with
 |loc rd ups nw=>
  rcases hm with hm | hm
  ·rw [hh] at hm
   simp only [effOn] at hm
   by_cases hx:∃p∈ups,p.1=m
   ·obtain ⟨p,hp,rfl⟩:=hx
    have hq:=(List.all_eq_true.1 hok) p hp
    simp only [Bool.or_eq_true,Bool.and_eq_true,decide_eq_true_eq] at hq
    rcases hq with hq | hq
    ·exact .inr hq.1
    ·refine .inl (.inl λe=>?_)
     rw [hag.1 p.1 (List.contains_iff_mem.1 hq.1),e] at hq
     simp at hq
   ·rw [ups_none ups σ.h m (λp hp e=>hx ⟨p,hp,e⟩)] at hm
    exact .inl (.inl hm)
  ·rw [show σ'.dead=σ.dead from hd] at hm;exact .inl (.inr hm)
 |glob H'=>
  simp only [okEff,Bool.and_eq_true,decide_eq_true_eq,List.all_eq_true] at hok
  rcases hm with hm | hm
  ·rw [hh] at hm
   simp only [effOn] at hm
   obtain ⟨z,hz⟩:=look_in hm
   have:=hok.2 _ hz
   simp only [Bool.or_eq_true,decide_eq_true_eq] at this
   rcases this with h | h
   ·refine .inl (.inl λe=>?_)
    rw [hag.1] at e
    rw [e] at h;cases h
   ·exact .inr h
  ·exact (hd.2.1 m hm).imp id (·.1)
theorem apply_next {H:Heap} {e:Eff} (h:okEff H e=true):H.next<=(H.apply e).next:=by
 cases e with
 |loc rd ups nw=>simp only [Heap.apply];omega
 |glob H'=>
  simp only [okEff,Bool.and_eq_true,decide_eq_true_eq] at h
  exact h.1
variable {P:Program} {tab:Tab} {σ:Sg}
theorem look_putAll:∀(ups:List (Nat×AO)) (objs:List (Nat×AO)),look (putAll objs ups)=updAll (look objs) ups
 |[],_=>rfl
 |(n,o)::r,objs=>by
  simp only [putAll,updAll]
  rw [look_putAll r]
  congr 1
  funext m
  rw [look_put]
  simp only [upd]
  by_cases h:n=m
  ·simp [h]
  ·rw [if_neg h,if_neg (λe=>h e.symm)]
theorem apply_h (H:Heap) (e:Eff):look (H.apply e).objs=effOn e (look H.objs):=by
 cases e with
 |loc rd ups nw=>exact look_putAll ups H.objs
 |glob H'=>rfl
theorem updAll_none:∀(ups:List (Nat×AO)) (h:Nat->Option AO) (m:Nat),(∀p∈ups,p.1≠m)->updAll h ups m=h m
 |[],_,_,_=>rfl
 |(n,o)::r,h,m,hh=>by
  simp only [updAll]
  rw [updAll_none r _ m (λp hp=>hh p (by simp [hp]))]
  have:=hh (n,o) (by simp)
  simp [upd,show ¬m=n from λe=>this e.symm]
theorem sp_apply {H:Heap} {e:Eff} (sp:SP σ H) (hok:okEff H e=true) {σ':Sg} (sr':SR σ') (hh:σ'.h=effOn e σ.h) (hd:DeadOk H σ σ' e):SP σ' (H.apply e):=by
 refine ⟨sr',by rw [hh,sp.h,apply_h],λm hm=>?_⟩
 cases e with
 |loc rd ups nw=>
  simp only [Heap.apply] at hm
  simp only [DeadOk] at hd
  have:=sp.fresh m (by omega)
  rw [hd,hh]
  refine ⟨?_,this.2⟩
  simp only [effOn]
  rw [updAll_none ups σ.h m (λp hp e=>by
   have hq:=(List.all_eq_true.1 hok) p hp
   simp only [Bool.or_eq_true,Bool.and_eq_true,decide_eq_true_eq] at hq
   rcases hq with hq | hq
   ·omega
   ·rw [e,<-sp.h,this.1] at hq
    simp at hq)]
  exact this.1
 |glob H'=>exact hd.2.2 m hm
theorem put_get {a:Act} {d t:Nat} {x:Value} (hd:d<a.tmps.size):(a.put (some d) x).tmps.getD t undef=if d=t then x else a.tmps.getD t undef:=by
 simp only [Act.put,Array.getD_eq_getD_getElem?]
 by_cases h:d=t
 ·subst h;simp [hd]
 ·rw [if_neg h,Array.getElem?_setIfInBounds_ne h]
theorem tr_putD {T:TL} {a:Act} (tr:TR σ (look T) a) {d:Option Tmp} (hd:∀t,d=some t->t<a.tmps.size) {v:AV} {x:Value} (hv:VR σ v x):TR σ (look (putD T d v)) (a.put d x):=by
 intro t y hy
 cases d with
 |none=>exact tr t y hy
 |some d=>
  rw [put_get (hd d rfl)]
  simp only [putD,look_put] at hy
  split at hy
  ·rename_i e
   cases hy
   rw [if_pos e];exact hv
  ·rename_i e
   rw [if_neg e]
   exact tr t y hy
theorem put_size' {a:Act} {d:Option Tmp} {x:Value}:(a.put d x).tmps.size=a.tmps.size:=by cases d<;>simp [Act.put]
theorem TR.mono {σ σ':Sg} (l:Le σ σ') {T:Tm} {a:Act} (h:TR σ T a):TR σ' T a:=λt x hx=>(h t x hx).mono l
theorem wanted_vr {ops:Array Oper} {T:Tm} {a:Act} (tr:TR σ T a) {o:Oper} {b:Bool} (h:wantedA ops T o=some b):Region.wanted o (yielded ops a.tmps)=b:=by
 unfold wantedA at h
 unfold Region.wanted
 split at h
 ·rename_i hg
  cases h
  simp [hg]
 ·rename_i j want hg
  simp only [hg]
  split at h
  ·rename_i hd
   cases h
   simp [yielded,hd]
  ·rename_i d hd
   split at h
   ·rename_i bb hb
    cases h
    obtain ⟨hv,_⟩:=(tr d _ hb).sc_inv
    have:a.tmps[d]?=some (.bool bb):=by
     rw [Array.getD_eq_getD_getElem?] at hv
     cases hq:a.tmps[d]? with
     |none=>rw [hq] at hv;cases hv
     |some u=>rw [hq] at hv;simp at hv;rw [hv]
    simp only [yielded,hd,Option.bind_some,this]
    cases bb<;>cases want<;>rfl
   ·rename_i vs hb
    cases h
    obtain ⟨hv,_⟩:=(tr d _ hb).sc_inv
    have:yielded ops a.tmps j=none:=by
     simp only [yielded,hd,Option.bind_some]
     rw [Array.getD_eq_getD_getElem?] at hv
     cases hq:a.tmps[d]? with
     |none=>rfl
     |some u=>rw [hq] at hv;simp at hv;rw [hv]
    rw [this]
    rfl
   ·cases h
theorem agree_of {H:Heap} (sp:SP σ H) (e:Eff):Agree H σ e:=by
 cases e with
 |loc rd ups nw=>exact ⟨λm _=>by rw [sp.h],sp.fresh H.next (Nat.le_refl _)⟩
 |glob H'=>exact ⟨sp.h,sp.fresh⟩
theorem put_defers' {a:Act} {d:Option Tmp} {x:Value}:(a.put d x).defers=a.defers:=by cases d<;>rfl
end Go.Abs
end
section
namespace Go.Abs
def eqBytes:List UInt8->List UInt8->Bool
 |[],[]=>true
 |a::as,b::bs=>Nat.beq a.toNat b.toNat&&eqBytes as bs
 |_,_=>false
theorem eqBytes_eq:∀{a b:List UInt8},eqBytes a b=true->a=b
 |[],[],_=>rfl
 |a::as,b::bs,h=>by
  simp only [eqBytes,Bool.and_eq_true] at h
  have h1:=Nat.eq_of_beq_eq_true h.1
  rw [UInt8.toNat_inj.1 h1,eqBytes_eq h.2]
 |[],_::_,h=>by cases h
 |_::_,[],h=>by cases h
def eqV:Value->Value->Bool
 |.int k a,.int j b=>decide (k=j)&&decide (a=b)
 |.string a,.string b=>eqBytes a.data.toList b.data.toList
 |.bool a,.bool b=>a==b
 |.slice none 0 0,.slice none 0 0=>true
 |.pointer none,.pointer none=>true
 |.map none,.map none=>true
 |.nilFunc,.nilFunc=>true
 |.nilIface,.nilIface=>true
 |_,_=>false
theorem eqV_eq {a b:Value} (h:eqV a b=true):a=b:=by
 unfold eqV at h
 split at h
 ·simp only [Bool.and_eq_true,decide_eq_true_eq] at h;rw [h.1,h.2]
 ·rename_i a b
  have:=eqBytes_eq h
  congr 1
  cases a;cases b
  congr 1
  exact Array.ext' this
 ·rw [eq_of_beq h]
 all_goals first | rfl | cases h
def eqVs:List Value->List Value->Bool
 |[],[]=>true
 |a::as,b::bs=>eqV a b&&eqVs as bs
 |_,_=>false
theorem eqVs_eq:∀{a b:List Value},eqVs a b=true->a=b
 |[],[],_=>rfl
 |a::as,b::bs,h=>by
  simp only [eqVs,Bool.and_eq_true] at h
  rw [eqV_eq h.1,eqVs_eq h.2]
 |[],_::_,h=>by cases h
 |_::_,[],h=>by cases h
mutual
def eqAV:AV->AV->Bool
 |.sc a,.sc b=>eqV a b
 |.agg a,.agg b=>eqAVs a b
 |.tup a,.tup b=>eqAVs a b
 |.isl a c,.isl b d=>(c==d)&&eqAVss a b
 |.ipt a,.ipt b=>eqAVs a b
 |.imp k a,.imp j b=>eqVs k j&&eqAVs a b
 |.fn (.func f) a c,.fn (.func g) b d=>Nat.beq f g&&eqAVs a b&&eqAVs c d
 |.ifc t a,.ifc u b=>Nat.beq t u&&eqAV a b
 |.sl n g o l c,.sl m k p j d=>Nat.beq n m&&Nat.beq g k&&Nat.beq o p&&Nat.beq l j&&decide (c=d)
 |.pt n g i o,.pt m k j p=>Nat.beq n m&&Nat.beq g k&&Nat.beq i j&&Nat.beq o p
 |.mp n,.mp m=>Nat.beq n m
 |_,_=>false
def eqAVs:List AV->List AV->Bool
 |[],[]=>true
 |a::as,b::bs=>eqAV a b&&eqAVs as bs
 |_,_=>false
def eqAVss:List (List AV)->List (List AV)->Bool
 |[],[]=>true
 |a::as,b::bs=>eqAVs a b&&eqAVss as bs
 |_,_=>false
end
mutual
theorem eqAV_eq:∀{a b:AV},eqAV a b=true->a=b:=λ{a b} h=>by
 cases a with
 |sc a=>cases b<;>simp only [eqAV,Bool.false_eq_true] at h;rw [eqV_eq h]
 |agg a=>cases b<;>simp only [eqAV,Bool.false_eq_true] at h;rw [eqAVs_eq h]
 |tup a=>cases b<;>simp only [eqAV,Bool.false_eq_true] at h;rw [eqAVs_eq h]
 |isl a c=>cases b<;>simp only [eqAV,Bool.false_eq_true,Bool.and_eq_true,beq_iff_eq] at h;rw [h.1,eqAVss_eq h.2]
 |ipt a=>cases b<;>simp only [eqAV,Bool.false_eq_true] at h;rw [eqAVs_eq h]
 |imp k a=>cases b<;>simp only [eqAV,Bool.false_eq_true,Bool.and_eq_true] at h;rw [eqVs_eq h.1,eqAVs_eq h.2]
 |fn f a c=>
  cases b<;>(try (cases f<;>simp only [eqAV,Bool.false_eq_true] at h;done))
  case fn g b d=>
   cases f<;>cases g<;>simp only [eqAV,Bool.false_eq_true,Bool.and_eq_true] at h
   rw [Nat.eq_of_beq_eq_true h.1.1,eqAVs_eq h.1.2,eqAVs_eq h.2]
 |ifc t a=>cases b<;>simp only [eqAV,Bool.false_eq_true,Bool.and_eq_true] at h;rw [Nat.eq_of_beq_eq_true h.1,eqAV_eq h.2]
 |sl=>
  cases b<;>simp only [eqAV,Bool.false_eq_true,Bool.and_eq_true,decide_eq_true_eq] at h
  obtain ⟨⟨⟨⟨h1,h2⟩,h3⟩,h4⟩,h5⟩:=h
  rw [Nat.eq_of_beq_eq_true h1,Nat.eq_of_beq_eq_true h2,Nat.eq_of_beq_eq_true h3,Nat.eq_of_beq_eq_true h4,h5]
 |pt=>
  cases b<;>simp only [eqAV,Bool.false_eq_true,Bool.and_eq_true] at h
  obtain ⟨⟨⟨h1,h2⟩,h3⟩,h4⟩:=h
  rw [Nat.eq_of_beq_eq_true h1,Nat.eq_of_beq_eq_true h2,Nat.eq_of_beq_eq_true h3,Nat.eq_of_beq_eq_true h4]
 |mp=>
  cases b<;>simp only [eqAV,Bool.false_eq_true] at h
  rw [Nat.eq_of_beq_eq_true h]
theorem eqAVs_eq:∀{a b:List AV},eqAVs a b=true->a=b:=λ{a b} h=>by
 cases a with
 |nil=>cases b with
  |nil=>rfl
  |cons=>simp only [eqAVs,Bool.false_eq_true] at h
 |cons a as=>cases b with
  |nil=>simp only [eqAVs,Bool.false_eq_true] at h
  |cons b bs=>
   simp only [eqAVs,Bool.and_eq_true] at h
   rw [eqAV_eq h.1,eqAVs_eq h.2]
theorem eqAVss_eq:∀{a b:List (List AV)},eqAVss a b=true->a=b:=λ{a b} h=>by
 cases a with
 |nil=>cases b with
  |nil=>rfl
  |cons=>simp only [eqAVss,Bool.false_eq_true] at h
 |cons a as=>cases b with
  |nil=>simp only [eqAVss,Bool.false_eq_true] at h
  |cons b bs=>
   simp only [eqAVss,Bool.and_eq_true] at h
   rw [eqAVs_eq h.1,eqAVss_eq h.2]
end
def eqNats:List Nat->List Nat->Bool
 |[],[]=>true
 |a::as,b::bs=>Nat.beq a b&&eqNats as bs
 |_,_=>false
theorem eqNats_eq:∀{a b:List Nat},eqNats a b=true->a=b
 |[],[],_=>rfl
 |a::as,b::bs,h=>by
  simp only [eqNats,Bool.and_eq_true] at h
  rw [Nat.eq_of_beq_eq_true h.1,eqNats_eq h.2]
 |[],_::_,h=>by cases h
 |_::_,[],h=>by cases h
def eqAO:AO->AO->Bool
 |.cells a s f,.cells b t g=>Nat.beq s t&&Nat.beq f g&&eqAVss a b
 |.map ks vs bs c f,.map js us ds d g=>eqVs ks js&&eqAVs vs us&&eqNats bs ds&&Nat.beq c d&&(f==g)
 |_,_=>false
theorem eqAO_eq {a b:AO} (h:eqAO a b=true):a=b:=by
 cases a<;>cases b<;>simp only [eqAO,Bool.false_eq_true,Bool.and_eq_true] at h
 ·obtain ⟨⟨h1,h2⟩,h3⟩:=h
  rw [Nat.eq_of_beq_eq_true h1,Nat.eq_of_beq_eq_true h2,eqAVss_eq h3]
 ·obtain ⟨⟨⟨⟨h1,h2⟩,h3⟩,h4⟩,h5⟩:=h
  rw [eqVs_eq h1,eqAVs_eq h2,eqNats_eq h3,Nat.eq_of_beq_eq_true h4,eq_of_beq h5]
def eqOAO:Option AO->Option AO->Bool
 |none,none=>true
 |some a,some b=>eqAO a b
 |_,_=>false
theorem eqOAO_eq {a b:Option AO} (h:eqOAO a b=true):a=b:=by
 cases a<;>cases b<;>simp only [eqOAO,Bool.false_eq_true] at h
 ·rfl
 ·rw [eqAO_eq h]
end Go.Abs
end
section
namespace Go.Abs
section congr
variable {tab:Tab}
theorem mapOpt_congr {α β:Type} {f g:α->Option β}:∀{l:List α},(∀x∈l,f x=g x)->mapOpt f l=mapOpt g l
 |[],_=>rfl
 |x::r,h=>by
  simp only [mapOpt]
  rw [h x (by simp),mapOpt_congr (λy hy=>h y (by simp [hy]))]
theorem aop_congr {T T':Tm} {H:Heap} {st:Nat} {o:Oper} (h:∀x∈o.op.operands,aev T x=aev T' x):aop tab T H st o=aop tab T' H st o:=by
 unfold aop
 simp only []
 have parts:∀ps:Array (Nat×Operand),(∀x∈(ps.toList.map (·.2)).toArray,aev T x=aev T' x)->
  mapOpt (λp:Nat×Operand=>(aev T p.2).map λv=>(p.1,v)) ps.toList=mapOpt (λp:Nat×Operand=>(aev T' p.2).map λv=>(p.1,v)) ps.toList:=λps hp=>
  mapOpt_congr λp hm=>by rw [hp p.2 (by grind)]
 cases hop:o.op<;>simp only [hop,Op.operands] at h<;>simp only []
 case move x=>rw [h x (by simp)]
 case assign x=>rw [h x (by simp)]
 case pick c a b=>rw [h c (by simp),h a (by simp),h b (by simp)]
 case box t x=>rw [h x (by simp)]
 case build t ps=>rw [parts ps h]
 case buildSlice t n ps=>rw [parts ps h]
 case insert t m k v=>rw [h m (by simp),h k (by simp),h v (by simp)]
 case load t x=>rw [h x (by simp)]
 case store t x y=>rw [h x (by simp),h y (by simp)]
 case nilCheck x=>rw [h x (by simp)]
 case binOp op t x y yt=>rw [h x (by simp),h y (by simp)]
 case unOp op t x=>rw [h x (by simp)]
 case convert s d x=>rw [h x (by simp)]
 case makeInterface t x=>rw [h x (by simp)]
 case makeFunc f first caps=>
  rw [mapOpt_congr (l:=first.toList) (λx hx=>h x (by grind)),mapOpt_congr (l:=caps.toList) (λx hx=>h x (by grind))]
 case makeMap t r=>
  grind
 case makeSlice t l c=>rw [h l (by simp),h c (by simp)]
 case slice t x lo hi mx=>
  have hopt:∀y:Option Operand,(∀z,y=some z->aev T z=aev T' z)->optA T y=optA T' y:=by
   intro y hy
   cases y with
   |none=>rfl
   |some z=>simp only [optA];rw [hy z rfl]
  have h1:=hopt lo (λz hz=>h z (by simp [hz]))
  have h2:=hopt hi (λz hz=>h z (by simp [hz]))
  have h3:=hopt mx (λz hz=>h z (by simp [hz]))
  rw [h x (by simp),h1,h2,h3]
 case fieldAddr t x f=>rw [h x (by simp)]
 case field t x f=>rw [h x (by simp)]
 case indexAddr t x i=>rw [h x (by simp),h i (by simp)]
 case index t x i=>rw [h x (by simp),h i (by simp)]
 case lookup t x i ok=>rw [h x (by simp),h i (by simp)]
 case mapUpdate t m k v=>rw [h m (by simp),h k (by simp),h v (by simp)]
 case mapEntry t m k=>rw [h m (by simp),h k (by simp)]
 case entryStore t m s v=>rw [h m (by simp),h s (by simp),h v (by simp)]
 case typeAssert x X t ok=>rw [h x (by simp)]
 case extract x i=>rw [h x (by simp)]
 case call c=>
  cases hc:c.callee with
  |value f=>rfl
  |invoke r m=>rfl
  |builtin b=>
   simp only []
   rw [mapOpt_congr (l:=c.args.toList) (λx hx=>h x (by simp [Call.operands,hc];grind))]
theorem calleeOf_congr {hd:Hd} {T T':Tm} {o:Oper} (h:∀x∈o.op.operands,aev T x=aev T' x):calleeOf hd T o=calleeOf hd T' o:=by
 unfold calleeOf
 cases hop:o.op<;>simp only [hop,Op.operands] at h<;>simp only []
 case call c=>
  cases hc:c.callee with
  |value f=>
   simp only []
   rw [h f (by simp [Call.operands,hc]),mapOpt_congr (l:=c.args.toList) (λx hx=>h x (by simp [Call.operands,hc];grind))]
  |invoke r m=>
   simp only []
   rw [h r (by simp [Call.operands,hc]),mapOpt_congr (l:=c.args.toList) (λx hx=>h x (by simp [Call.operands,hc];grind))]
  |builtin b=>rfl
theorem panicOf_congr {T T':Tm} {o:Oper} (h:∀x∈o.op.operands,aev T x=aev T' x):panicOf T o=panicOf T' o:=by
 unfold panicOf
 cases hop:o.op<;>simp only [hop,Op.operands] at h<;>simp only []
 grind
theorem yieldOf_congr {T T':Tm} {o:Oper} (h:∀x∈o.op.operands,aev T x=aev T' x):yieldOf T o=yieldOf T' o:=by
 unfold yieldOf
 cases hop:o.op<;>simp only [hop,Op.operands] at h<;>simp only []
 case call c=>
  cases hc:c.callee with
  |value f=>
   simp only []
   rw [h f (by simp [Call.operands,hc]),mapOpt_congr (l:=c.args.toList) (λx hx=>h x (by simp [Call.operands,hc];grind))]
  |invoke r m=>rfl
  |builtin b=>rfl
theorem stepA_congr {hd:Hd} {i:Nat} {T T':Tm} {H:Heap} {o:Oper} (h:∀x∈o.op.operands,aev T x=aev T' x):stepA tab hd i T H o=stepA tab hd i T' H o:=by
 unfold stepA
 rw [calleeOf_congr h,aop_congr h,panicOf_congr h,yieldOf_congr h]
theorem aev_looks {ops:Array Oper} {T T':Tm} {o:Oper} (h:∀t∈o.looksAt ops,T t=T' t):∀x∈o.op.operands,aev T x=aev T' x:=by
 intro x hx
 cases x with
 |tmp t=>exact h t (List.mem_append_left _ (List.mem_filterMap.2 ⟨.tmp t,by grind,rfl⟩))
 |const c=>rfl
 |global g=>rfl
 |func f=>rfl
theorem wantedA_congr {ops:Array Oper} {T T':Tm} {o:Oper} (h:∀t∈o.looksAt ops,T t=T' t):wantedA ops T o=wantedA ops T' o:=by
 unfold wantedA
 cases hg:o.guard with
 |none=>rfl
 |some p=>
  obtain ⟨j,want⟩:=p
  simp only []
  cases hd:(ops[j]?).bind (·.dst) with
  |none=>rfl
  |some d=>
   simp only []
   rw [h d (List.mem_append_right _ (by grind))]
end congr
def lastOf {β:Type} (touch:Nat->Option β) (S:Nat->Bool) (init:β):Nat->β
 |0=>init
 |k+1=>if S k then (touch k).getD (lastOf touch S init k) else lastOf touch S init k
theorem lastOf_congr {β:Type} {touch:Nat->Option β} {S T:Nat->Bool} {init:β}:∀n,(∀i,i<n->S i=T i\/touch i=none)->lastOf touch S init n=lastOf touch T init n
 |0,_=>rfl
 |n+1,h=>by
  have ih:=lastOf_congr (touch:=touch) (S:=S) (T:=T) (init:=init) n (λi hi=>h i (by omega))
  simp only [lastOf,ih]
  rcases h n (by omega) with h | h
  ·rw [h]
  ·rw [h];simp
theorem lastOf_none {β:Type} {touch:Nat->Option β} {S:Nat->Bool} {init:β} (j:Nat):∀k,(∀i,j<=i->i<j+k->S i=false\/touch i=none)->lastOf touch S init (j+k)=lastOf touch S init j
 |0,_=>rfl
 |k+1,h=>by
  have ih:=lastOf_none (touch:=touch) (S:=S) (init:=init) j k (λi h1 h2=>h i h1 (by omega))
  rw [<-Nat.add_assoc,lastOf,ih]
  rcases h (j+k) (by omega) (by omega) with h | h
  ·rw [h];simp
  ·rw [h];simp
theorem lastOf_seen {β:Type} {touch:Nat->Option β} {S:Nat->Bool} {init:β} {n j:Nat} (hj:j<=n) (h1:∀i,i<j->S i=true\/touch i=none) (h2:∀i,j<=i->i<n->S i=false\/touch i=none) :
 lastOf touch S init n=lastOf touch (λ_=>true) init j:=by
 have:=lastOf_none (touch:=touch) (S:=S) (init:=init) j (n-j) (λi a b=>h2 i a (by omega))
 grind [lastOf_congr]
theorem lastOf_insert {β:Type} {touch:Nat->Option β} {S:Nat->Bool} {init:β} {j:Nat} (hS:S j=false):∀n,j<n->(∀i,j<i->i<n->S i=true->touch i=none\/touch j=none)->
 lastOf touch (λi=>decide (i=j) || S i) init n=(touch j).getD (lastOf touch S init n)
 |0,h,_=>by omega
 |n+1,hj,h=>by
  by_cases e:j=n
  ·subst e
   simp only [lastOf,decide_true,Bool.true_or,if_true,hS]
   rw [lastOf_congr (S:=λi=>decide (i=j) || S i) (T:=S) j (λi hi=>.inl (by simp [show ¬i=j by omega]))]
   simp
  ·have ih:=lastOf_insert (touch:=touch) (init:=init) hS n (by omega) (λi h1 h2 h3=>h i h1 (by omega) h3)
   simp only [lastOf]
   grind
def upLook:List (Nat×AO)->Nat->Option (Option AO)
 |[],_=>none
 |(n,o)::r,m=>match upLook r m with
  |some x=>some x
  |none=>if m=n then some (some o) else none
theorem updAll_look:∀(ups:List (Nat×AO)) (h:Nat->Option AO) (m:Nat),updAll h ups m=(upLook ups m).getD (h m)
 |[],_,_=>rfl
 |(n,o)::r,h,m=>by
  simp only [updAll,upLook]
  rw [updAll_look r]
  cases upLook r m with
  |some x=>rfl
  |none=>
   simp only [Option.getD_none,upd]
   split<;>rfl
theorem upLook_none:∀(ups:List (Nat×AO)) (m:Nat),(∀p∈ups,p.1≠m)->upLook ups m=none
 |[],_,_=>rfl
 |(n,o)::r,m,h=>by
  simp only [upLook]
  rw [upLook_none r m (λp hp=>h p (by simp [hp])),if_neg (λe=>h (n,o) (by simp) e.symm)]
def touchH (e:Eff) (m:Nat):Option (Option AO):=
 match e with
 |.loc _ ups _=>upLook ups m
 |.glob H'=>some (look H'.objs m)
theorem effOn_touch (e:Eff) (h:Nat->Option AO) (m:Nat):effOn e h m=(touchH e m).getD (h m):=by
 cases e with
 |loc rd ups nw=>exact updAll_look ups h m
 |glob H'=>rfl
def touchT (dst:Option Tmp) (v:AV) (t:Nat):Option (Option AV):=
 match dst with
 |some d=>if t=d then some (some v) else none
 |none=>none
theorem putD_touch (T:TL) (dst:Option Tmp) (v:AV) (t:Nat):look (putD T dst v) t=(touchT dst v t).getD (look T t):=by
 cases dst with
 |none=>rfl
 |some d=>
  simp only [putD,look_put,touchT]
  grind
def effApart:Eff->Eff->Bool
 |.loc r1 u1 _,.loc r2 u2 _=>u1.all (λp=>!r2.contains p.1&&u2.all λq=>q.1 != p.1)&&u2.all (λq=>!r1.contains q.1)
 |.glob _,.loc r u _ | .loc r u _,.glob _=>r.isEmpty&&u.isEmpty
 |.glob _,.glob _=>false
theorem effApart_touch {e f:Eff} (h:effApart e f=true):∀m,(∀rd ups nw,f=.loc rd ups nw->m∈rd\/upLook ups m≠none->touchH e m=none)/\(∀H',f=.glob H'->touchH e m=none):=by
 intro m
 cases e with
 |loc r1 u1 n1=>
  cases f with
  |loc r2 u2 n2=>
   refine ⟨λrd ups nw hf hm=>?_,λH' hf=>by cases hf⟩
   cases hf
   simp only [effApart,Bool.and_eq_true,List.all_eq_true] at h
   refine upLook_none u1 m (λp hp e=>?_)
   grind [List.contains_iff_mem,upLook_none]
  |glob H'=>
   simp only [effApart,Bool.and_eq_true,List.isEmpty_iff] at h
   obtain ⟨rfl,rfl⟩:=h
   exact ⟨λrd ups nw hf=>by (cases hf),λ_ _=>rfl⟩
 |glob H'=>
  cases f with
  |loc r2 u2 n2=>
   simp only [effApart,Bool.and_eq_true,List.isEmpty_iff] at h
   obtain ⟨rfl,rfl⟩:=h
   refine ⟨λrd ups nw hf hm=>?_,λH' hf=>by (cases hf)⟩
   cases hf
   rcases hm with hm | hm
   ·cases hm
   ·exact absurd rfl hm
  |glob H''=>simp [effApart] at h
def sameAt (h H:Heap) (m:Nat):Bool:=eqOAO (look h.objs m) (look H.objs m)
def effApart2 (Hi:Heap) (ei:Eff) (Hj:Heap) (ej:Eff):Bool:=effApart ei ej || match ei,ej with
 |.loc r [] _,.glob h=>r.all (sameAt h Hj)
 |.glob h,.loc r [] _=>r.all (sameAt h Hi)
 |_,_=>false
theorem effApart_symm {e f:Eff} (h:effApart e f=true):effApart f e=true:=by
 cases e<;>cases f<;>simp only [effApart] at h ⊢
 case loc.loc r1 u1 n1 r2 u2 n2=>
  grind
 all_goals first | exact h | cases h
theorem effApart2_symm {Hi Hj:Heap} {e f:Eff} (h:effApart2 Hi e Hj f=true):effApart2 Hj f Hi e=true:=by
 unfold effApart2 at h ⊢
 grind [effApart_symm]
end Go.Abs
end
section
namespace Go.Abs
def Hs (H:Heap) (recs:List Rec):Nat->Heap
 |0=>H
 |k+1=>(Hs H recs k).apply (recs.getD k undone).e
def Ts (T:TL) (l:List Oper) (recs:List Rec):Nat->TL
 |0=>T
 |k+1=>putD (Ts T l recs k) ((l[k]?).bind (·.dst)) (recs.getD k undone).out.val
theorem Hs_cons (H:Heap) (rc:Rec) (recs:List Rec):∀k,Hs H (rc::recs) (k+1)=Hs (H.apply rc.e) recs k
 |0=>rfl
 |k+1=>by
  have ih:=Hs_cons H rc recs k
  rw [Hs,ih]
  simp only [Hs,List.getD_cons_succ]
theorem Ts_cons (T:TL) (o:Oper) (l:List Oper) (rc:Rec) (recs:List Rec):∀k,Ts T (o::l) (rc::recs) (k+1)=Ts (putD T o.dst rc.out.val) l recs k
 |0=>rfl
 |k+1=>by
  have ih:=Ts_cons T o l rc recs k
  rw [Ts,ih]
  simp only [Ts,List.getD_cons_succ,List.getElem?_cons_succ]
variable {P:Program} {tab:Tab}
def Good (tab:Tab) (hd:Hd) (ops:Array Oper) (i:Nat) (T:TL) (H:Heap) (o:Oper) (rc:Rec):Prop:=
 (wantedA ops (look T) o=some false/\rc=undone)\/(wantedA ops (look T) o=some true/\stepA tab hd i (look T) H o=some rc/\okEff H rc.e=true)
theorem runOps_trace {hd:Hd} {ops:Array Oper}:∀(l:List Oper) (i:Nat) (T:TL) (H:Heap) (rr:RR) (recs:List Rec),runOps tab hd ops l i T H=some (rr,recs)->
 recs.length<=l.length/\(∀k rc,recs[k]?=some rc->∃o,l[k]?=some o/\Good tab hd ops (i+k) (Ts T l recs k) (Hs H recs k) o rc/\(∀v,rc.out=.pan v->k+1=recs.length/\rr=.pan v ((Hs H recs k).apply rc.e)))/\
 (∀T' H',rr=.done T' H'->recs.length=l.length/\T'=Ts T l recs l.length/\H'=Hs H recs l.length)
 |[],i,T,H,rr,recs,h=>by
  cases h
  exact ⟨Nat.le_refl _,by simp,λT' H' e=>by cases e;exact ⟨rfl,rfl,rfl⟩⟩
 |o::r,i,T,H,rr,recs,h=>by
  have step:∀(rc:Rec) (rs:List Rec),recs=rc::rs->rc.out=.ret rc.out.val->Good tab hd ops i T H o rc->runOps tab hd ops r (i+1) (putD T o.dst rc.out.val) (H.apply rc.e)=some (rr,rs)->
   recs.length<=(o::r).length/\(∀k rc,recs[k]?=some rc->∃o',(o::r)[k]?=some o'/\Good tab hd ops (i+k) (Ts T (o::r) recs k) (Hs H recs k) o' rc/\(∀v,rc.out=.pan v->k+1=recs.length/\rr=.pan v ((Hs H recs k).apply rc.e)))/\
   (∀T' H',rr=.done T' H'->recs.length=(o::r).length/\T'=Ts T (o::r) recs (o::r).length/\H'=Hs H recs (o::r).length):=by
   rintro rc rs rfl hret hg hrun
   obtain ⟨h1,h2,h3⟩:=runOps_trace r (i+1) _ _ rr rs hrun
   refine ⟨by simp;omega,λk rc' hk=>?_,λT' H' e=>?_⟩
   ·cases k with
    |zero=>
     simp only [List.getElem?_cons_zero,Option.some.injEq] at hk
     subst hk
     exact ⟨o,rfl,hg,λv hv=>by rw [hret] at hv;cases hv⟩
    |succ k=>
     simp only [List.getElem?_cons_succ] at hk
     obtain ⟨o',ho',hg',hp'⟩:=h2 k rc' hk
     refine ⟨o',by simpa using ho',?_,λv hv=>?_⟩
     ·rw [Hs_cons,Ts_cons,show i+(k+1)=i+1+k by omega]
      exact hg'
     ·obtain ⟨q1,q2⟩:=hp' v hv
      rw [Hs_cons]
      exact ⟨by simp;omega,q2⟩
   ·obtain ⟨q1,q2,q3⟩:=h3 T' H' e
    exact ⟨by simp;omega,by rw [List.length_cons,Ts_cons];exact q2,by rw [List.length_cons,Hs_cons];exact q3⟩
  simp only [runOps] at h
  split at h
  ·cases h
  ·rename_i hw
   split at h
   ·rename_i rr' rs hrun
    cases h
    exact step undone rs rfl rfl (.inl ⟨hw,rfl⟩) hrun
   ·cases h
  ·rename_i hw
   split at h
   ·cases h
   ·rename_i rc hrc
    split at h
    ·rename_i hok
     split at h
     ·rename_i v hv
      split at h
      ·rename_i rr' rs hrun
       cases h
       exact step rc rs rfl (by rw [hv];rfl) (.inr ⟨hw,hrc,hok⟩) (by rw [hv];exact hrun)
      ·cases h
     ·rename_i v hv
      cases h
      refine ⟨by simp,λk rc' hk=>?_,λT' H' e=>by cases e⟩
      cases k with
      |zero=>
       simp only [List.getElem?_cons_zero,Option.some.injEq] at hk
       subst hk
       exact ⟨o,rfl,.inr ⟨hw,hrc,hok⟩,λv' hv'=>by rw [hv] at hv';cases hv';exact ⟨rfl,rfl⟩⟩
      |succ k=>simp at hk
    ·cases h
def maskOf (acc:List Nat) (o:Oper):Nat:=o.after.toList.foldl (λs e=>if Region.binds .any e then s ||| 2 ^ e.on ||| acc.getD e.on 0 else s) 0
def befs:List Oper->List Nat->List Nat
 |[],acc=>acc
 |o::r,acc=>befs r (acc++[maskOf acc o])
theorem maskOf_bit {acc:List Nat} {o:Oper} {i:Nat} (h:(maskOf acc o).testBit i=true):∃e∈o.after.toList,Region.binds .any e=true/\(e.on=i\/(acc.getD e.on 0).testBit i=true):=by
 unfold maskOf at h
 have:∀(l:List Edge) (s:Nat),(l.foldl (λs e=>if Region.binds .any e then s ||| 2 ^ e.on ||| acc.getD e.on 0 else s) s).testBit i=true->
  s.testBit i=true\/∃e∈l,Region.binds .any e=true/\(e.on=i\/(acc.getD e.on 0).testBit i=true):=by
  intro l
  induction l with
  |nil=>intro s h;exact .inl h
  |cons e r ih=>
   intro s h
   simp only [List.foldl_cons] at h
   rcases ih _ h with h | ⟨e',he',hb⟩
   ·split at h
    ·rename_i hb
     simp only [Nat.testBit_or,Bool.or_eq_true,Nat.testBit_two_pow,decide_eq_true_eq] at h
     rcases h with (h | h) | h
     ·exact .inl h
     ·exact .inr ⟨e,by simp,hb,.inl h⟩
     ·exact .inr ⟨e,by simp,hb,.inr h⟩
    ·exact .inl h
   ·exact .inr ⟨e',by simp [he'],hb⟩
 rcases this _ _ h with h | h
 ·simp at h
 ·exact h
theorem befs_get:∀(l:List Oper) (acc:List Nat) (j:Nat),(befs l acc).getD j 0=if j<acc.length then acc.getD j 0 else
 match l[j-acc.length]? with | some o=>maskOf ((befs l acc).take j) o | none=>0
 |[],acc,j=>by
  simp only [befs]
  split
  ·rfl
  ·rename_i h
   simp [List.getElem?_eq_none (show acc.length<=j by omega)]
 |o::r,acc,j=>by
  rw [befs,befs_get r]
  simp only [List.length_append,List.length_cons,List.length_nil,Nat.zero_add]
  by_cases h1:j<acc.length
  ·rw [if_pos (by omega),if_pos h1]
   simp only [List.getD_eq_getElem?_getD]
   rw [List.getElem?_append_left h1]
  ·rw [if_neg h1]
   by_cases h2:j=acc.length
   ·subst h2
    rw [if_pos (by omega)]
    have pre:∀(l:List Oper) (a:List Nat),(befs l a).take a.length=a:=by
     intro l
     induction l with
     |nil=>intro a;simp [befs]
     |cons o r ih=>
      intro a
      have:=ih (a++[maskOf a o])
      rw [befs]
      have h3:=congrArg (List.take a.length) this
      rw [List.take_take] at h3
      simpa using h3
    have:=pre r (acc++[maskOf acc o])
    have h3:=congrArg (List.take acc.length) this
    rw [List.take_take] at h3
    simp only [List.length_append,List.length_cons,List.length_nil] at h3
    rw [Nat.min_eq_left (by omega)] at h3
    simp only [Nat.sub_self,List.getElem?_cons_zero]
    rw [h3]
    simp
   ·rw [if_neg (by omega)]
    rw [show j-acc.length=(j-(acc.length+1))+1 by omega,List.getElem?_cons_succ]
theorem befs_bit {l:List Oper} {j i:Nat} (h:((befs l []).getD j 0).testBit i=true):∃o,l[j]?=some o/\∃e∈o.after.toList,Region.binds .any e=true/\(e.on=i\/(e.on<j/\((befs l []).getD e.on 0).testBit i=true)):=by
 rw [befs_get l [] j] at h
 simp only [List.length_nil,Nat.not_lt_zero,if_false,Nat.sub_zero] at h
 cases hl:l[j]? with
 |none=>rw [hl] at h;simp at h
 |some o=>
  rw [hl] at h
  obtain ⟨e,he,hb,hh⟩:=maskOf_bit h
  refine ⟨o,rfl,e,he,hb,hh.imp id λhh=>?_⟩
  have:e.on<j:=by
   rcases Nat.lt_or_ge e.on j with q | q
   ·exact q
   ·rw [List.getD_eq_getElem?_getD,List.getElem?_take_eq_none q] at hh
    simp at hh
  refine ⟨this,?_⟩
  rw [List.getD_eq_getElem?_getD,List.getElem?_take_of_lt this] at hh
  rw [List.getD_eq_getElem?_getD]
  exact hh
def drawOk (H:Heap) (ops:Array Oper) (l:List Oper) (recs:List Rec):Bool:=
 recs.length==l.length &&
 (List.range l.length).all (λj=>match l[j]? with
  |some o=>o.after.toList.all (λe=>!Region.binds .any e || decide (e.on<j)) &&
   (List.range j).all (λi=>((befs l []).getD j 0).testBit i || (match l[i]? with
    |some p=>p.apart ops o&&effApart2 (Hs H recs i) (recs.getD i undone).e (Hs H recs j) (recs.getD j undone).e&&(match (recs.getD j undone).out with | .ret _=>true | .pan _=>false)
    |none=>false))
  |none=>false)
end Go.Abs
end
section
namespace Go.Abs
variable {P:Program} {tab:Tab}
theorem look_mem {β:Type}:∀{l:List (Nat×β)} {m:Nat},look l m≠none->∃z,(m,z)∈l
 |[],m,h=>absurd rfl h
 |(n,o)::r,m,h=>by
  by_cases e:n=m
  ·grind
  ·have:look ((n,o)::r) m=look r m:=by simp [look,e]
   rw [this] at h
   obtain ⟨z,hz⟩:=look_mem h
   grind
def eAt (recs:List Rec) (i:Nat):Eff:=(recs.getD i undone).e
def vAt (recs:List Rec) (i:Nat):AV:=(recs.getD i undone).out.val
def dAt (l:List Oper) (i:Nat):Option Tmp:=(l[i]?).bind (·.dst)
def Sl (listed:Array Bool) (i:Nat):Bool:=listed.getD i false
open Classical in
noncomputable def tAt (H0:Heap) (recs:List Rec) (i m:Nat):Option (Option AO):=match eAt recs i with
 |.loc _ ups _=>upLook ups m
 |.glob H'=>if look H'.objs m=look (Hs H0 recs i).objs m then none else some (look H'.objs m)
theorem effOn_t {H0:Heap} {recs:List Rec} {i m:Nat} {h:Nat->Option AO} (hg:∀H',eAt recs i=.glob H'->h m=look (Hs H0 recs i).objs m):effOn (eAt recs i) h m=(tAt H0 recs i m).getD (h m):=by
 unfold tAt
 cases he:eAt recs i with
 |loc rd ups nw=>exact updAll_look ups h m
 |glob H'=>
  simp only
  by_cases q:look H'.objs m=look (Hs H0 recs i).objs m
  ·rw [if_pos q]
   simp only [effOn,Option.getD_none]
   rw [q,hg H' he]
  ·rw [if_neg q];rfl
theorem tAt_loc {H0:Heap} {recs:List Rec} {i m:Nat} {rd:List Nat} {ups:List (Nat×AO)} {nw:Nat} (h:eAt recs i=.loc rd ups nw):tAt H0 recs i m=upLook ups m:=by
 unfold tAt;rw [h]
theorem look_Hs (H:Heap) (recs:List Rec) (m:Nat):∀k,look (Hs H recs k).objs m=lastOf (λi=>tAt H recs i m) (λ_=>true) (look H.objs m) k
 |0=>rfl
 |k+1=>by
  have h:=effOn_t (H0:=H) (recs:=recs) (i:=k) (m:=m) (h:=look (Hs H recs k).objs) (λ_ _=>rfl)
  rw [Hs,apply_h]
  change effOn (eAt recs k) (look (Hs H recs k).objs) m=_
  rw [h,look_Hs H recs m k]
  simp [lastOf]
theorem apart_t {H0:Heap} {recs:List Rec} {i j:Nat} (h:effApart2 (Hs H0 recs i) (eAt recs i) (Hs H0 recs j) (eAt recs j)=true) (m:Nat) :
 (∀rd ups nw,eAt recs j=.loc rd ups nw->m∈rd\/upLook ups m≠none->tAt H0 recs i m=none)/\(∀H',eAt recs j=.glob H'->tAt H0 recs i m=none):=by
 unfold effApart2 at h
 rw [Bool.or_eq_true] at h
 rcases h with h | h
 ·obtain ⟨q1,q2⟩:=effApart_touch h m
  have conv:touchH (eAt recs i) m=none->tAt H0 recs i m=none:=λq=>by
   cases he:eAt recs i with
   |loc rd ups nw=>rw [he] at q;rw [tAt_loc he];exact q
   |glob H'=>rw [he] at q;cases q
  grind
 ·cases hi:eAt recs i with
  |loc r u n=>
   cases hj:eAt recs j with
   |loc r2 u2 n2=>
    rw [hi,hj] at h
    cases u<;>cases u2<;>simp at h
   |glob H'=>
    rw [hi,hj] at h
    cases u with
    |nil=>exact ⟨λ_ _ _ e=>by (cases e),λ_ _=>by rw [tAt_loc hi];rfl⟩
    |cons=>simp at h
  |glob H'=>
   cases hj:eAt recs j with
   |loc r u n=>
    rw [hi,hj] at h
    cases u with
    |nil=>
     refine ⟨λrd ups nw e hm=>?_,λ_ e=>by (cases e)⟩
     cases e
     rcases hm with hm | hm
     ·have hs:=eqOAO_eq (List.all_eq_true.1 h m hm)
      unfold tAt
      rw [hi]
      simp only
      rw [if_pos hs]
     ·exact absurd rfl hm
    |cons=>simp at h
   |glob H''=>grind
theorem look_Ts (T:TL) (l:List Oper) (recs:List Rec) (t:Nat):∀k,look (Ts T l recs k) t=lastOf (λi=>touchT (dAt l i) (vAt recs i) t) (λ_=>true) (look T t) k
 |0=>rfl
 |k+1=>by
  rw [Ts,putD_touch,look_Ts T l recs t k]
  simp [lastOf,dAt,vAt]
noncomputable def seenH (H:Heap) (recs:List Rec) (S:Nat->Bool) (n:Nat) (m:Nat):Option AO:=lastOf (λi=>tAt H recs i m) S (look H.objs m) n
def seenT (T:TL) (l:List Oper) (recs:List Rec) (S:Nat->Bool) (n:Nat) (t:Nat):Option AV:=lastOf (λi=>touchT (dAt l i) (vAt recs i) t) S (look T t) n
def noisy:Eff->Prop
 |.loc _ [] _=>False
 |_=>True
structure Inv (l:List Oper) (recs:List Rec) (T0:TL) (H0:Heap) (N:Nat) (σ0:Sg) (a0:Act) (listed:Array Bool) (σ:Sg) (a:Act):Prop where
 sr:SR σ
 le:Lg H0.next σ0 σ
 hh:∀m,σ.h m=seenH H0 recs (Sl listed) l.length m
 tr:TR σ (seenT T0 l recs (Sl listed) l.length) a
 size:a.tmps.size=N
 defers:a.defers=a0.defers
 used:∀m,(σ.h m≠none\/σ.dead m)->m<H0.next\/∃i,i<l.length/\Sl listed i=true/\noisy (eAt recs i)/\(Hs H0 recs i).next<=m/\m<(Hs H0 recs (i+1)).next
 closed:∀j o,l[j]?=some o->Sl listed j=true->∀e∈o.after.toList,Region.binds .any e=true->Sl listed e.on=true
 rets:∀j,Sl listed j=true->∃v,(recs.getD j undone).out=.ret v
 lsz:listed.size=l.length
theorem Sl_set {listed:Array Bool} {j:Nat} (h:j<listed.size) (i:Nat):Sl (listed.setIfInBounds j true) i=(decide (i=j) || Sl listed i):=by
 unfold Sl
 by_cases e:i=j
 ·simp_all
 ·rw [getD_set_ne false (λq=>e q.symm)];simp [e]
structure Fit (tab:Tab) (hd:Hd) (ops:Array Oper) (l:List Oper) (recs:List Rec) (T0:TL) (H0:Heap) (rr:RR):Prop where
 len:recs.length=l.length
 good:∀k o,l[k]?=some o->Good tab hd ops k (Ts T0 l recs k) (Hs H0 recs k) o (recs.getD k undone)
 pan:∀k v,k<l.length->(recs.getD k undone).out=.pan v->k+1=l.length/\rr=.pan v ((Hs H0 recs k).apply (eAt recs k))
 done:∀T' H',rr=.done T' H'->T'=Ts T0 l recs l.length/\H'=Hs H0 recs l.length
 back:∀j o,l[j]?=some o->∀e∈o.after.toList,Region.binds .any e=true->e.on<j
 apart:∀i j p o,i<j->l[i]?=some p->l[j]?=some o->((befs l []).getD j 0).testBit i=true\/(p.apart ops o=true/\effApart2 (Hs H0 recs i) (eAt recs i) (Hs H0 recs j) (eAt recs j)=true/\∃v,(recs.getD j undone).out=.ret v)
theorem fit {hd:Hd} {ops:Array Oper} {l:List Oper} {T0:TL} {H0:Heap} {rr:RR} {recs:List Rec} (h:runOps tab hd ops l 0 T0 H0=some (rr,recs)) (hd':drawOk H0 ops l recs=true):Fit tab hd ops l recs T0 H0 rr:=by
 obtain ⟨h1,h2,h3⟩:=runOps_trace l 0 T0 H0 rr recs h
 simp only [drawOk,Bool.and_eq_true,beq_iff_eq,List.all_eq_true,List.mem_range] at hd'
 obtain ⟨hlen,hall⟩:=hd'
 have get:∀k,k<l.length->∃rc,recs[k]?=some rc/\recs.getD k undone=rc:=λk hk=>by
  grind
 refine ⟨hlen,λk o ho=>?_,λk v hk hv=>?_,λT' H' e=>(h3 T' H' e).2,λj o ho e he hb=>?_,λi j p o hij hp ho=>?_⟩
 ·grind
 ·obtain ⟨rc,q1,q2⟩:=get k hk
  obtain ⟨o',ho',_,hp⟩:=h2 k rc q1
  rw [q2] at hv
  have:=hp v hv
  rw [hlen] at this
  rw [eAt,q2]
  exact this
 ·grind
 ·have hj:j<l.length:=(List.getElem?_eq_some_iff.1 ho).1
  have:=hall j hj
  rw [ho] at this
  simp only [Bool.and_eq_true,List.all_eq_true,Bool.or_eq_true,List.mem_range] at this
  have:=this.2 i hij
  rw [hp] at this
  refine this.imp id λq=>?_
  simp only [Bool.and_eq_true] at q
  refine ⟨q.1.1,q.1.2,?_⟩
  grind
section
variable {hd:Hd} {ops:Array Oper} {l:List Oper} {recs:List Rec} {T0:TL} {H0:Heap} {rr:RR} {N:Nat} {σ0 σ:Sg} {a0 a:Act} {listed:Array Bool}
theorem ok_at (F:Fit tab hd ops l recs T0 H0 rr) (k:Nat):okEff (Hs H0 recs k) (eAt recs k)=true:=by
 rcases Nat.lt_or_ge k l.length with h | h
 ·rcases F.good k l[k] (List.getElem?_eq_getElem h) with ⟨_,q⟩ | ⟨_,_,q⟩
  ·rw [eAt,q];rfl
  ·exact q
 ·rw [eAt,List.getD_eq_getElem?_getD,List.getElem?_eq_none (by rw [F.len];exact h)];rfl
theorem next_step (F:Fit tab hd ops l recs T0 H0 rr) (k:Nat):(Hs H0 recs k).next<=(Hs H0 recs (k+1)).next:=by
 have:=ok_at F k
 rw [Hs]
 change _<=((Hs H0 recs k).apply (eAt recs k)).next
 cases he:eAt recs k with
 |loc rd ups nw=>simp only [Heap.apply];omega
 |glob H'=>
  rw [he] at this
  simp only [okEff,Bool.and_eq_true,decide_eq_true_eq] at this
  exact this.1
theorem next_mono (F:Fit tab hd ops l recs T0 H0 rr) (i:Nat):∀k,(Hs H0 recs i).next<=(Hs H0 recs (i+k)).next
 |0=>Nat.le_refl _
 |k+1=>Nat.le_trans (next_mono F i k) (next_step F (i+k))
theorem next_le (F:Fit tab hd ops l recs T0 H0 rr) {i j:Nat} (h:i<=j):(Hs H0 recs i).next<=(Hs H0 recs j).next:=by
 have:=next_mono F i (j-i)
 rwa [show i+(j-i)=j by omega] at this
theorem closed_bit (I:Inv l recs T0 H0 N σ0 a0 listed σ a):∀(j i:Nat),Sl listed j=true->((befs l []).getD j 0).testBit i=true->Sl listed i=true:=by
 intro j
 induction j using Nat.strongRecOn with
 |ind j ih=>
  intro i hj hb
  obtain ⟨o,ho,e,he,hbi,hh⟩:=befs_bit hb
  have hl:=I.closed j o ho hj e he hbi
  grind
theorem ready_bit (I:Inv l recs T0 H0 N σ0 a0 listed σ a) {j:Nat} {o:Oper} (ho:l[j]?=some o) (hr:∀e∈o.after.toList,Region.binds .any e=true->Sl listed e.on=true) {i:Nat} (hb:((befs l []).getD j 0).testBit i=true):Sl listed i=true:=by
 grind [befs_bit,closed_bit]
theorem turn (F:Fit tab hd ops l recs T0 H0 rr) (I:Inv l recs T0 H0 N σ0 a0 listed σ a) {j:Nat} {o:Oper} (ho:l[j]?=some o) (hj:Sl listed j=false) (hr:∀e∈o.after.toList,Region.binds .any e=true->Sl listed e.on=true) :
 (∀i p,i<j->l[i]?=some p->Sl listed i=true\/(p.apart ops o=true/\effApart2 (Hs H0 recs i) (eAt recs i) (Hs H0 recs j) (eAt recs j)=true))/\
 (∀i p,j<i->l[i]?=some p->Sl listed i=true->o.apart ops p=true/\effApart2 (Hs H0 recs j) (eAt recs j) (Hs H0 recs i) (eAt recs i)=true):=by
 refine ⟨λi p hij hp=>?_,λi p hji hp hi=>?_⟩
 ·rcases F.apart i j p o hij hp ho with h | ⟨h1,h2,_⟩
  ·grind [ready_bit]
  grind
 ·rcases F.apart j i o p hji ho hp with h | ⟨h1,h2,_⟩
  ·grind [closed_bit]
  grind
theorem seen_h (F:Fit tab hd ops l recs T0 H0 rr) (I:Inv l recs T0 H0 N σ0 a0 listed σ a) {j:Nat} {o:Oper} (ho:l[j]?=some o) (hj:Sl listed j=false) (hr:∀e∈o.after.toList,Region.binds .any e=true->Sl listed e.on=true) {m:Nat}
 (hm:(∃rd ups nw,eAt recs j=.loc rd ups nw/\m∈rd)\/∃H',eAt recs j=.glob H'):σ.h m=look (Hs H0 recs j).objs m:=by
 have hjl:j<l.length:=(List.getElem?_eq_some_iff.1 ho).1
 obtain ⟨t1,t2⟩:=turn F I ho hj hr
 have ap:∀i,effApart2 (Hs H0 recs i) (eAt recs i) (Hs H0 recs j) (eAt recs j)=true->tAt H0 recs i m=none:=λi h=>by
  obtain ⟨q1,q2⟩:=apart_t h m
  grind
 rw [I.hh m,seenH,look_Hs]
 refine lastOf_seen (Nat.le_of_lt hjl) (λi hi=>?_) (λi hi hi'=>?_)
 ·grind
 grind [effApart2_symm,List.getElem?_eq_getElem]
theorem touchT_none {d:Option Tmp} {v:AV} {t:Nat} (h:∀x,d=some x->x≠t):touchT d v t=none:=by
 cases d with
 |none=>rfl
 |some x=>simp only [touchT];rw [if_neg (λe=>h x rfl e.symm)]
theorem dAt_get {i:Nat} {p:Oper} (h:l[i]?=some p):dAt l i=p.dst:=by rw [dAt,h];rfl
theorem seen_t (F:Fit tab hd ops l recs T0 H0 rr) (I:Inv l recs T0 H0 N σ0 a0 listed σ a) {j:Nat} {o:Oper} (ho:l[j]?=some o) (hj:Sl listed j=false) (hr:∀e∈o.after.toList,Region.binds .any e=true->Sl listed e.on=true) {t:Nat}
 (ht:t∈o.looksAt ops):seenT T0 l recs (Sl listed) l.length t=look (Ts T0 l recs j) t:=by
 have hjl:j<l.length:=(List.getElem?_eq_some_iff.1 ho).1
 obtain ⟨t1,t2⟩:=turn F I ho hj hr
 rw [seenT,look_Ts]
 refine lastOf_seen (Nat.le_of_lt hjl) (λi hi=>?_) (λi hi hi'=>?_)
 ·grind [List.getElem?_eq_getElem,touchT_none,dAt_get,Oper.apart_spec]
 grind [List.getElem?_eq_getElem,touchT_none,dAt_get,Oper.apart_spec]
theorem agree_at (F:Fit tab hd ops l recs T0 H0 rr) (I:Inv l recs T0 H0 N σ0 a0 listed σ a) {j:Nat} {o:Oper} (ho:l[j]?=some o) (hj:Sl listed j=false) (hr:∀e∈o.after.toList,Region.binds .any e=true->Sl listed e.on=true) :
 Agree (Hs H0 recs j) σ (eAt recs j):=by
 have hjl:j<l.length:=(List.getElem?_eq_some_iff.1 ho).1
 have h0:H0.next<=(Hs H0 recs j).next:=by have:=next_le F (Nat.zero_le j);exact this
 have fr:∀m,(Hs H0 recs j).next<=m->(∀i,i<l.length->j<i->Sl listed i=true->noisy (eAt recs i)->m<(Hs H0 recs i).next)->¬(σ.h m≠none\/σ.dead m):=λm hm hq hu=>by
  rcases I.used m hu with h | ⟨i,hi,hs,hn,h1,h2⟩
  ·omega
  ·rcases Nat.lt_trichotomy i j with q | q | q
   ·have:=next_le F (show i+1<=j from q);omega
   ·grind
   grind
 have un:∀m,¬(σ.h m≠none\/σ.dead m)->σ.h m=none/\¬σ.dead m:=λm hu=>by
  grind
 cases he:eAt recs j with
 |loc rd ups nw=>
  refine ⟨λm hm=>(seen_h F I ho hj hr (.inl ⟨rd,ups,nw,he,hm⟩)).symm,un _ (fr _ (Nat.le_refl _) λi hi hji _ _=>?_)⟩
  have h1:=next_le F (show j+1<=i from hji)
  have h2:(Hs H0 recs (j+1)).next=(Hs H0 recs j).next+nw+1:=by
   rw [Hs]
   change ((Hs H0 recs j).apply (eAt recs j)).next=_
   rw [he];rfl
  omega
 |glob H'=>
  refine ⟨funext λm=>seen_h F I ho hj hr (.inr ⟨H',he⟩),λm hm=>un m (fr m hm λi hi hji hs hn=>?_)⟩
  have:=((turn F I ho hj hr).2 i l[i] hji (List.getElem?_eq_getElem hi) hs).2
  rw [he] at this
  cases hei:eAt recs i with
  |glob H''=>rw [hei] at this;simp [effApart2,effApart] at this
  |loc r u n=>
   rw [hei] at this hn
   cases u with
   |nil=>exact hn.elim
   |cons=>simp [effApart2,effApart] at this
theorem inv_insert (F:Fit tab hd ops l recs T0 H0 rr) (I:Inv l recs T0 H0 N σ0 a0 listed σ a) {j:Nat} {o:Oper} (ho:l[j]?=some o) (hj:Sl listed j=false) (hr:∀e∈o.after.toList,Region.binds .any e=true->Sl listed e.on=true)
 (hd0:∀t,o.dst=some t->t<N) {v:AV} (hv:(recs.getD j undone).out=.ret v) {σ':Sg} {x:Value} (le:Le σ σ') (sr':SR σ') (hh:σ'.h=effOn (eAt recs j) σ.h) (hdd:DeadOk (Hs H0 recs j) σ σ' (eAt recs j)) (hx:VR σ' v x) :
 Inv l recs T0 H0 N σ0 a0 (listed.setIfInBounds j true) σ' (a.put o.dst x):=by
 have hjl:j<l.length:=(List.getElem?_eq_some_iff.1 ho).1
 have hls:j<listed.size:=by rw [I.lsz];exact hjl
 have hS:Sl (listed.setIfInBounds j true)=λi=>decide (i=j) || Sl listed i:=funext (Sl_set hls)
 obtain ⟨t1,t2⟩:=turn F I ho hj hr
 have hag:=agree_at F I ho hj hr
 have hva:vAt recs j=v:=by rw [vAt,hv];rfl
 refine ⟨sr',I.le.trans I.sr ((lg_of le (ok_at F j) hag hh hdd).weak (next_le F (Nat.zero_le j))) sr',λm=>?_,λt y hy=>?_,put_size'.trans I.size,put_defers'.trans I.defers,λm hm=>?_,λk o' hk hs e he hb=>?_,λk hk=>?_,by simp [I.lsz]⟩
 ·have het:=effOn_t (H0:=H0) (recs:=recs) (i:=j) (m:=m) (h:=σ.h) (λH' e=>by
   rw [e] at hag
   exact congrFun hag.1 m)
  rw [hh,het,I.hh m,seenH,seenH,hS,lastOf_insert hj l.length hjl (λi h1 h2 h3=>?_)]
  have hap:=(t2 i l[i] h1 (List.getElem?_eq_getElem h2) h3).2
  obtain ⟨q1,q2⟩:=apart_t hap m
  cases hei:eAt recs i with
  |glob H''=>grind
  |loc rd ups nw=>
   grind [tAt_loc]
 ·rw [seenT,hS,lastOf_insert hj l.length hjl (λi h1 h2 h3=>?_)] at hy
  ·rw [dAt_get ho,hva] at hy
   cases hdst:o.dst with
   |none=>
    rw [hdst] at hy
    simp only [touchT,Option.getD_none] at hy
    exact (I.tr t y hy).mono le
   |some d=>
    rw [hdst] at hy
    rw [put_get (by rw [I.size];grind)]
    simp only [touchT] at hy
    by_cases e:d=t
    ·grind
    ·rw [if_neg (λq=>e q.symm)] at hy
     rw [if_neg e]
     exact (I.tr t y hy).mono le
  grind [List.getElem?_eq_getElem,Oper.apart_spec,touchT_none,dAt_get]
 ·
  have old:(σ.h m≠none\/σ.dead m)->m<H0.next\/∃i,i<l.length/\Sl (listed.setIfInBounds j true) i=true/\noisy (eAt recs i)/\(Hs H0 recs i).next<=m/\m<(Hs H0 recs (i+1)).next:=λh=>by
   rcases I.used m h with h | ⟨i,h1,h2,h3⟩
   ·omega
   grind
  have hok:=ok_at F j
  have hnx:(Hs H0 recs (j+1)).next=((Hs H0 recs j).apply (eAt recs j)).next:=rfl
  have new:noisy (eAt recs j)->(Hs H0 recs j).next<=m->m<(Hs H0 recs (j+1)).next->m<H0.next\/∃i,i<l.length/\Sl (listed.setIfInBounds j true) i=true/\noisy (eAt recs i)/\(Hs H0 recs i).next<=m/\m<(Hs H0 recs (i+1)).next:=
   λhn h1 h2=>.inr ⟨j,hjl,by grind,hn,h1,h2⟩
  cases he:eAt recs j with
  |loc rd ups nw=>
   rw [he] at hok hag hdd hnx
   rcases hm with hm | hm
   ·rw [hh,effOn_touch,he] at hm
    cases hu:upLook ups m with
    |none=>
     rw [touchH,hu] at hm
     grind
    |some z=>
     have:∃p∈ups,p.1=m:=by
      grind [upLook_none]
     obtain ⟨p,hp,rfl⟩:=this
     have hq:=(List.all_eq_true.1 hok) p hp
     simp only [Bool.or_eq_true,Bool.and_eq_true,decide_eq_true_eq] at hq
     rcases hq with hq | hq
     ·refine new ?_ hq.1 ?_
      ·rw [he]
       cases ups with
       |nil=>cases hp
       |cons q r=>trivial
      ·rw [hnx];simp only [Heap.apply];omega
     ·refine old (.inl λe=>?_)
      rw [hag.1 p.1 (List.contains_iff_mem.1 hq.1),e] at hq
      simp at hq
   ·rw [show σ'.dead=σ.dead from hdd] at hm
    grind
  |glob H'=>
   rw [he] at hok hag hdd hnx
   simp only [okEff,Bool.and_eq_true,decide_eq_true_eq,List.all_eq_true] at hok
   obtain ⟨d1,d2,d3⟩:=hdd
   have hn:noisy (eAt recs j):=by rw [he];trivial
   have hlt:m<H'.next:=by
    grind
   rcases hm with hm | hm
   ·rw [hh,he] at hm
    simp only [effOn] at hm
    by_cases q:(Hs H0 recs j).next<=m
    ·exact new hn q (by rw [hnx];exact hlt)
    ·refine old (.inl ?_)
     rw [hag.1]
     have:=look_mem hm
     grind
   ·rcases d2 m hm with h | ⟨h1,h2⟩
    ·exact old h
    ·exact new hn h1 (by rw [hnx];exact h2)
 ·rw [hS] at hs ⊢
  simp only [Bool.or_eq_true,decide_eq_true_eq] at hs ⊢
  rcases hs with rfl | hs
  ·grind
  ·exact .inr (I.closed k o' hk hs e he hb)
 ·rw [hS] at hk
  simp only [Bool.or_eq_true,decide_eq_true_eq] at hk
  rcases hk with rfl | hk
  ·grind
  ·exact I.rets k hk
theorem sp_at (F:Fit tab hd ops l recs T0 H0 rr) (I:Inv l recs T0 H0 N σ0 a0 listed σ a) {j:Nat} (hj:j<=l.length) (h1:∀i,i<j->Sl listed i=true) (h2:∀i,j<=i->i<l.length->Sl listed i=false):SP σ (Hs H0 recs j):=by
 refine ⟨I.sr,funext λm=>?_,λm hm=>?_⟩
 ·rw [I.hh m,seenH,look_Hs]
  grind [lastOf_seen]
 ·have h0:H0.next<=(Hs H0 recs j).next:=by have:=next_le F (Nat.zero_le j);exact this
  have hu:¬(σ.h m≠none\/σ.dead m):=λhu=>by
   rcases I.used m hu with h | ⟨i,hi,hs,hn,q1,q2⟩
   ·omega
   ·rcases Nat.lt_or_ge i j with q | q
    ·have:=next_le F (show i+1<=j from q);omega
    grind
  grind
theorem tr_at (I:Inv l recs T0 H0 N σ0 a0 listed σ a) (h1:∀i,i<l.length->Sl listed i=true):TR σ (look (Ts T0 l recs l.length)) a:=by
 have:look (Ts T0 l recs l.length)=seenT T0 l recs (Sl listed) l.length:=funext λt=>by
  rw [look_Ts,seenT]
  grind [lastOf_congr]
 rw [this]
 exact I.tr
def unl (S:Nat->Bool):Nat->Nat
 |0=>0
 |k+1=>unl S k+if S k then 0 else 1
theorem unl_zero {S:Nat->Bool}:∀n,unl S n=0->∀i,i<n->S i=true
 |0,_,i,hi=>by omega
 |n+1,h,i,hi=>by
  simp only [unl] at h
  have h1:unl S n=0:=by omega
  have h2:S n=true:=by
   grind
  rcases Nat.lt_or_ge i n with q | q
  ·exact unl_zero n h1 i q
  grind
theorem unl_insert {S:Nat->Bool} {j:Nat} (hS:S j=false):∀n,unl (λi=>decide (i=j) || S i) n+(if j<n then 1 else 0)=unl S n
 |0=>by rfl
 |n+1=>by
  have ih:=unl_insert hS n
  simp only [unl]
  grind
theorem unl_le {S:Nat->Bool}:∀n,unl S n<=n
 |0=>Nat.le_refl _
 |n+1=>by have:=unl_le (S:=S) n;simp only [unl];split<;>omega
theorem ready_nil (F:Fit tab hd ops l recs T0 H0 rr) (hl:l=ops.toList) (I:Inv l recs T0 H0 N σ0 a0 listed σ a) (h:Region.ready .any ops listed=[]):∀i,i<l.length->Sl listed i=true:=by
 intro i
 induction i using Nat.strongRecOn with
 |ind i ih=>
  intro hi
  cases hs:Sl listed i with
  |true=>rfl
  |false=>
   exfalso
   have ho:l[i]?=some l[i]:=List.getElem?_eq_getElem hi
   have:i∈Region.ready .any ops listed:=by
    rw [mem_ready]
    refine ⟨?_,l[i],by grind,λe he hb=>?_⟩
    ·have:i<listed.size:=by rw [I.lsz];exact hi
     unfold Sl at hs
     grind
    ·have hlt:=F.back i l[i] ho e (by grind) hb
     exact ih e.on hlt (by omega)
   grind
end
theorem runOps_pan {hd:Hd} {ops:Array Oper}:∀(l:List Oper) (i:Nat) (T:TL) (H:Heap) (v:AV) (H':Heap) (recs:List Rec),runOps tab hd ops l i T H=some (.pan v H',recs)->
 ∃k,k<recs.length/\∃v,(recs.getD k undone).out=.pan v
 |[],i,T,H,v,H',recs,h=>by cases h
 |o::r,i,T,H,v,H',recs,h=>by
  simp only [runOps] at h
  split at h
  ·cases h
  ·split at h
   ·rename_i rr' rs hrun
    cases h
    obtain ⟨k,h1,h2⟩:=runOps_pan r _ _ _ v H' rs hrun
    exact ⟨k+1,by simp;omega,by simpa using h2⟩
   ·cases h
  ·split at h
   ·cases h
   ·split at h
    ·split at h
     ·split at h
      ·rename_i rr' rs hrun
       cases h
       obtain ⟨k,h1,h2⟩:=runOps_pan r _ _ _ v H' rs hrun
       exact ⟨k+1,by simp;omega,by simpa using h2⟩
      ·cases h
     ·rename_i hu
      cases h
      exact ⟨0,by simp,_,by simpa using hu⟩
    ·cases h
theorem lastOf_nothing {β:Type} {touch:Nat->Option β} {S:Nat->Bool} {init:β} (h:∀i,S i=false):∀n,lastOf touch S init n=init
 |0=>rfl
 |n+1=>by rw [lastOf,h n];simp [lastOf_nothing h n]
end Go.Abs
end
section
namespace Go.Abs
variable {P:Program}
inductive FK where
 |out
 |rnd (l:Nat)
def FK.F:FK->Fence
 |.out=>Fence.wide
 |.rnd l=>Fence.wide.inRound l
def FK.isOut:FK->Bool
 |.out=>true
 |.rnd _=>false
def noDefer (o:Oper):Bool:=match o.op with | .defer _=>false | _=>true
theorem noDefer_ne {o:Oper} (h:noDefer o=true):∀c,o.op≠.defer c:=λc e=>by simp [noDefer,e] at h
theorem fk_fn (k:FK) (f:FuncId):k.F.fn f:=by cases k<;>trivial
theorem rowsIn_of_rows (k:FK) {n:Nat} {row:String} {args:Array Value} {w:World} {R:Value->World->Prop} (h:Rows P row args w R):RowsIn k.F n P row args w R:=by
 cases k with
 |out=>exact λc cs _=>let ⟨v,w',r,s⟩:=h c cs;⟨v,w',r,stepsIn_wide.2 s⟩
 |rnd l=>exact λc cs _=>let ⟨v,w',r,s⟩:=h c cs;⟨v,w',r,stepsIn_wide.2 s⟩
theorem callsIn_of_calls (k:FK) {n:Nat} {f:FuncId} {args:Array Value} {w:World} {R:Ending->World->Prop} (h:Calls P f args w R):CallsIn k.F n P f args w R:=by
 cases k with
 |out=>exact callsIn_wide.2 h
 |rnd l=>exact CallsIn.inRound l (callsIn_wide.2 h)
theorem fk_depth (k:FK) (n:Nat):k.F.depth.isSome=true->1<=n:=by cases k<;>(intro h;cases h)
theorem wpIn_of_wp (k:FK) {o:Oper} (hd:noDefer o=true) {a:Act} {w:World} {next:Act->World->Prop} {Q:Exit->Act->World->Prop} (n:Nat) (h:o.wp P a w next Q):o.wpIn k.F n P a w next Q:=by
 refine ⟨λ_ _=>fk_fn k _,?_⟩
 rw [Oper.semAt_eq _ _ _ (noDefer_ne hd)]
 unfold Oper.wp at h
 generalize (execOp a.eval o).run P w=r at h
 cases r with
 |ok x w'=>
  cases x<;>simp only [Oper.upon,Oper.uponIn] at h ⊢
  case enter f args=>exact ⟨fk_depth k n,callsIn_of_calls k h⟩
  case row r args=>grind [fk_depth,rowsIn_of_rows]
  all_goals exact h
 |halt x w'=>cases x<;>simp only [Oper.upon,Oper.uponIn] at h ⊢<;>exact h
def Round2 (P:Program) (n:Nat) (args:List AV) (H:Heap) (r:Out) (H':Heap):Prop:=
 ∀(σ:Sg) (vs:List Value),SR σ->σ.h=look H.objs->(∀m,H.next<=m->σ.h m=none/\¬σ.dead m)->VRs σ args vs->
  YieldAt Fence.wide 0 P (σ.r n) vs.toArray σ.w λe w'=>∃σ',σ'.w=w'/\σ'.h=look H'.objs/\Le σ σ'/\SR σ'/\H.next<=H'.next/\(∀m,σ'.dead m->Used σ m\/(H.next<=m/\m<H'.next))/\
   (∀m,H'.next<=m->σ'.h m=none/\¬σ'.dead m)/\OutR σ' r e
def Obl.isRound:Obl->Bool
 |.round _ _ _ _ _=>true
 |_=>false
def Obl.holdsY (P:Program):Obl->Prop
 |.round n args H r H'=>Round2 P n args H r H'
 |o=>o.holds P
theorem Obl.holds_of {o:Obl} (h:o.holdsY P) (hr:o.isRound=false):o.holds P:=by
 cases o<;>first | exact h | cases hr
def noRound (rc:Rec):Bool:=rc.ob.all λo=>!o.isRound
theorem holds_rec {rc:Rec} (h:∀ob∈rc.ob,ob.holdsY P) (hr:noRound rc=true):∀ob∈rc.ob,ob.holds P:=λob hob=>by
 have:=(List.all_eq_true.1 hr) ob hob
 grind [Obl.holds_of]
variable {tab:Tab} {σ:Sg}
theorem noDefer_of_step {hd:Hd} {i:Nat} {T:Tm} {H:Heap} {o:Oper} {rc:Rec} (h:stepA tab hd i T H o=some rc):noDefer o=true:=by
 cases hop:o.op<;>try (simp [noDefer,hop];done)
 case defer c=>
  exfalso
  have h1:calleeOf hd T o=none:=by simp [calleeOf,hop]
  have h2:yieldOf T o=none:=by simp [yieldOf,hop]
  have h3:panicOf T o=none:=by simp [panicOf,hop]
  have h4:aop tab T H H.next o=none:=by simp [aop,hop]
  simp [stepA,h1,h2,h3,h4] at h
theorem stepIn_sound (tabOk:TabOK P tab) (sr:SR σ) (k:FK) {hd:Hd} {i:Nat} {T:Tm} {a:Act} (tr:TR σ T a) {H:Heap} {o:Oper} {rc:Rec} (h:stepA tab hd i T H o=some rc) (hag:Agree H σ rc.e) (hob:∀ob∈rc.ob,ob.holdsY P)
 (hk:k.isOut=true\/noRound rc=true) {next:Act->World->Prop} {Q:Exit->Act->World->Prop} (hq:¬LetsOut Q)
 (hret:∀v,rc.out=.ret v->∀σ' x,Le σ σ'->SR σ'->σ'.h=effOn rc.e σ.h->DeadOk H σ σ' rc.e->VR σ' v x->next (a.put o.dst x) σ'.w)
 (hpan:∀v,rc.out=.pan v->∀σ' x,Le σ σ'->SR σ'->σ'.h=effOn rc.e σ.h->DeadOk H σ σ' rc.e->VR σ' v x->Q (.panic [{ v:=x,recovered:=false }]) a σ'.w):o.wpIn k.F 0 P a σ.w next Q:=by
 cases hr:noRound rc with
 |true=>grind [wpIn_of_wp,noDefer_of_step,step_sound,holds_rec]
 |false=>
  have hko:k=.out:=by
   rcases hk with hk | hk
   ·cases k with
    |out=>rfl
    |rnd l=>cases hk
   grind
  subst hko
  have hnd:=noDefer_of_step h
  unfold stepA at h
  split at h
  ·exfalso
   rename_i f args obs hcal
   have hobs:∀o∈obs,o.isRound=false:=λo ho=>by
    rcases calleeOf_obs hcal with e | ⟨_,_,_,e⟩
    ·grind
    ·rw [e] at ho
     simp only [List.mem_singleton] at ho
     rw [ho];rfl
   have hall:(obs.all λo=>!o.isRound)=true:=List.all_eq_true.2 λo ho=>by grind
   split at h
   ·split at h
    ·cases h;exact absurd hr (by simp only [noRound,List.all_cons,hall];simp [Obl.isRound])
    ·cases h
   split at h
   ·rename_i rc' hown
    cases h
    unfold ownA at hown
    split at hown
    ·split at hown
     ·split at hown
      ·cases hown;exact absurd hr (by simp only [noRound,List.singleton_append,List.all_cons,hall];simp [Obl.isRound])
      grind
     grind
    grind
   split at h
   ·split at h
    ·cases h;exact absurd hr (by simp only [noRound,List.all_cons,hall];simp [Obl.isRound])
    ·cases h
   ·cases h
  ·split at h
   ·rename_i n args hy
    split at h
    ·rename_i r H' hrd
     cases h
     have hrnd:Round2 P n args H r H':=hob _ List.mem_cons_self
     obtain ⟨vs,hvs,hrun⟩:=yield_enter (P:=P) tr hy
     obtain ⟨hag1,hag2⟩:=hag
     obtain ⟨fn,tmps,assign,body,hyr,hR⟩:=hrnd σ vs sr hag1 hag2 hvs
     refine ⟨λ_ _=>trivial,?_⟩
     rw [Oper.semAt_eq _ _ _ (noDefer_ne hnd),hrun,hyr,Oper.uponIn_round]
     refine ⟨fk_depth .out 0,hR.mono ?_⟩
     rintro e w' ⟨σ',rfl,h1,l,sr',h2,h3,h4,h5⟩
     cases r<;>cases e<;>simp only [OutR] at h5
     ·exact hret _ rfl σ' _ l sr' h1 ⟨h2,h3,h4⟩ h5
     ·obtain ⟨x,rfl,hx⟩:=h5
      exact hpan _ rfl σ' x l sr' h1 ⟨h2,h3,h4⟩ hx
    ·cases h
   split at h
   ·cases h;simp [noRound] at hr
   split at h
   ·cases h;simp [noRound] at hr
   ·cases h
theorem runOpsIn_sound (tabOk:TabOK P tab) (k:FK) {hd:Hd} {ops:Array Oper} {N:Nat} {Q:Exit->Act->World->Prop} (hq:¬LetsOut Q):∀(l:List Oper) (i:Nat) (T:TL) (H:Heap) (σ:Sg) (a:Act) (rr:RR) (recs:List Rec),SS σ a N T H->dstOk N l=true->
 runOps tab hd ops l i T H=some (rr,recs)->(∀k,l[k]?=ops[i+k]?)->(∀rc∈recs,∀ob∈rc.ob,ob.holdsY P)->(k.isOut=true\/∀rc∈recs,noRound rc=true)->
 (∀T' H',rr=.done T' H'->∀σ' a',Lg H.next σ σ'->H.next<=H'.next->SS σ' a' N T' H'->a'.defers=a.defers->Q .normal a' σ'.w)->
 (∀v H',rr=.pan v H'->∀σ' a' x,Lg H.next σ σ'->H.next<=H'.next->SP σ' H'->VR σ' v x->a'.defers=a.defers->Q (.panic [{ v:=x,recovered:=false }]) a' σ'.w)->
 wpOpsIn k.F 0 P ops Q (List.range' i l.length) a σ.w
 |[],i,T,H,σ,a,rr,recs,ss,_,h,_,_,_,hdn,_=>by
  cases h
  exact hdn T H rfl σ a (Lg.refl _ σ) (Nat.le_refl _) ss rfl
 |o::r,i,T,H,σ,a,rr,recs,ss,hdst,h,hl,hob,hk,hdn,hpn=>by
  have ho:ops[i]?=some o:=by have:=hl 0;grind
  have hr:∀k,r[k]?=ops[i+1+k]?:=λk=>by
   have:=hl (k+1)
   grind
  simp only [dstOk,List.all_cons,Bool.and_eq_true] at hdst
  have hdo:∀t,o.dst=some t->t<a.tmps.size:=λt ht=>by
   have:=hdst.1
   rw [ht] at this
   rw [ss.size]
   grind
  rw [List.length_cons,List.range'_succ]
  simp only [wpOpsIn,ho]
  simp only [runOps] at h
  split at h
  ·cases h
  ·rename_i hw
   rw [if_neg (by rw [wanted_vr ss.tr hw];simp)]
   refine ⟨λ_ _=>fk_fn k _,?_⟩
   split at h
   ·rename_i rr' rs hrun
    cases h
    have hn0:H.next<=(H.apply undone.e).next:=apply_next (e:=undone.e) rfl
    refine runOpsIn_sound tabOk k hq r (i+1) _ _ σ _ _ rs ⟨sp_apply (e:=undone.e) ss.toSP (by rfl) ss.sr rfl (show DeadOk H σ σ (.loc [] [] 0) from rfl),tr_putD ss.tr hdo (undef_vr σ),put_size'.trans ss.size⟩ hdst.2 hrun hr (λrc hrc=>hob rc (by simp [hrc])) (hk.imp id λh rc hrc=>h rc (by simp [hrc])) (λT' H' e σ' a' l n s d=>hdn T' H' e σ' a' (l.weak hn0) (Nat.le_trans hn0 n) s (d.trans put_defers')) (λv H' e σ' a' x l n s hx d=>hpn v H' e σ' a' x (l.weak hn0) (Nat.le_trans hn0 n) s hx (d.trans put_defers'))
   ·cases h
  ·rename_i hw
   rw [if_pos (wanted_vr ss.tr hw)]
   split at h
   ·cases h
   ·rename_i rc hrc
    split at h
    ·rename_i hok
     have hag:=agree_of ss.toSP rc.e
     have hn0:=apply_next hok
     split at h
     ·rename_i v hv
      split at h
      ·rename_i rr' rs hrun
       cases h
       refine stepIn_sound tabOk ss.sr k ss.tr hrc hag (hob rc (by simp)) (hk.imp id λh=>h rc (by simp)) hq (λv' hv' σ' x l sr' hh hdd hx=>?_) (λv' hv'=>by grind)
       rw [hv] at hv'
       cases hv'
       refine runOpsIn_sound tabOk k hq r (i+1) _ _ σ' _ _ rs ⟨sp_apply ss.toSP hok sr' hh hdd,tr_putD (ss.tr.mono l) hdo hx,put_size'.trans ss.size⟩ hdst.2 hrun hr (λrc hrc=>hob rc (by simp [hrc])) (hk.imp id λh rc hrc=>h rc (by simp [hrc]))
        (λT' H' e σ'' a' l' n s d=>hdn T' H' e σ'' a' ((lg_of l hok hag hh hdd).trans sr' (l'.weak hn0) s.sr) (Nat.le_trans hn0 n) s (d.trans put_defers')) (λv H' e σ'' a' x l' n s hx d=>hpn v H' e σ'' a' x ((lg_of l hok hag hh hdd).trans sr' (l'.weak hn0) s.sr) (Nat.le_trans hn0 n) s hx (d.trans put_defers'))
      ·cases h
     ·rename_i v hv
      cases h
      refine stepIn_sound tabOk ss.sr k ss.tr hrc hag (hob rc (by simp)) (hk.imp id λh=>h rc (by simp)) hq (λv' hv'=>by grind) (λv' hv' σ' x l sr' hh hdd hx=>?_)
      rw [hv] at hv'
      cases hv'
      exact hpn v _ rfl σ' a x (lg_of l hok hag hh hdd) hn0 (sp_apply ss.toSP hok sr' hh hdd) hx rfl
    ·cases h
section
variable {hd:Hd} {ops:Array Oper} {l:List Oper} {recs:List Rec} {T0:TL} {H0:Heap} {rr:RR} {N:Nat} {σ0 σ:Sg} {a0 a:Act} {listed:Array Bool}
theorem wpAnyIn_inv (tabOk:TabOK P tab) (k:FK) (F:Fit tab hd ops l recs T0 H0 rr) (hl:l=ops.toList) (hdst:dstOk N l=true) {Q:Exit->Act->World->Prop} (hq:¬LetsOut Q) (hob:∀rc∈recs,∀ob∈rc.ob,ob.holdsY P) (hkk:k.isOut=true\/∀rc∈recs,noRound rc=true)
 (hrr:∀v H',rr=.pan v H'->∃k,k<l.length/\∃v,(recs.getD k undone).out=.pan v)
 (hdn:∀T' H',rr=.done T' H'->∀σ' a',Lg H0.next σ0 σ'->H0.next<=H'.next->SS σ' a' N T' H'->a'.defers=a0.defers->Q .normal a' σ'.w)
 (hpn:∀v H',rr=.pan v H'->∀σ' a' x,Lg H0.next σ0 σ'->H0.next<=H'.next->SP σ' H'->VR σ' v x->a'.defers=a0.defers->Q (.panic [{ v:=x,recovered:=false }]) a' σ'.w) :
 ∀(fuel:Nat) (listed:Array Bool) (σ:Sg) (a:Act),Inv l recs T0 H0 N σ0 a0 listed σ a->unl (Sl listed) l.length<=fuel->wpAnyIn k.F 0 P .any ops Q fuel listed a σ.w:=by
 have fin:∀(listed:Array Bool) (σ:Sg) (a:Act),Inv l recs T0 H0 N σ0 a0 listed σ a->(∀i,i<l.length->Sl listed i=true)->Q .normal a σ.w:=λlisted σ a I hall=>by
  cases hq:rr with
  |done T' H'=>
   obtain ⟨rfl,rfl⟩:=F.done T' H' hq
   exact hdn _ _ hq σ a I.le (next_le F (Nat.zero_le _)) ⟨sp_at F I (Nat.le_refl _) hall (λi h1 h2=>by omega),tr_at I hall,I.size⟩ I.defers
  |pan v H'=>
   obtain ⟨k,hk,v',hv'⟩:=hrr v H' hq
   obtain ⟨u,hu⟩:=I.rets k (hall k hk)
   grind
 intro fuel
 induction fuel with
 |zero=>
  intro listed σ a I hf
  have hall:=unl_zero (S:=Sl listed) l.length (by omega)
  refine ⟨?_,fin listed σ a I hall⟩
  cases hq:Region.ready .any ops listed with
  |nil=>rfl
  |cons i r=>
   have:i∈Region.ready .any ops listed:=by grind
   rw [mem_ready] at this
   obtain ⟨h1,o,ho,_⟩:=this
   have hi:i<l.length:=by
    grind
   have:=hall i hi
   unfold Sl at this
   grind
 |succ fuel ih=>
  intro listed σ a I hf
  refine ⟨λh=>fin listed σ a I (ready_nil F hl I h),λj hj=>?_⟩
  rw [mem_ready] at hj
  obtain ⟨h1,o,ho,hr⟩:=hj
  have hol:l[j]?=some o:=by grind
  have hjl:j<l.length:=(List.getElem?_eq_some_iff.1 hol).1
  have hjs:Sl listed j=false:=by
   unfold Sl
   grind
  have hr':∀e∈o.after.toList,Region.binds .any e=true->Sl listed e.on=true:=λe he hb=>hr e (by grind) hb
  have hd0:∀t,o.dst=some t->t<N:=λt ht=>by
   have:=(List.all_eq_true.1 hdst) o (List.mem_of_getElem? hol)
   grind
  have hcount:unl (Sl (listed.setIfInBounds j true)) l.length<=fuel:=by
   have hls:j<listed.size:=by grind
   have hS:Sl (listed.setIfInBounds j true)=λi=>decide (i=j) || Sl listed i:=funext (Sl_set hls)
   grind [unl_insert]
  have hag:=agree_at F I hol hjs hr'
  have hlook:∀t∈o.looksAt ops,seenT T0 l recs (Sl listed) l.length t=look (Ts T0 l recs j) t:=λt ht=>seen_t F I hol hjs hr' ht
  simp only [wpOpIn,ho]
  rcases F.good j o hol with ⟨hw,hu⟩ | ⟨hw,hst,hok⟩
  ·rw [<-wantedA_congr hlook] at hw
   rw [if_neg (by rw [wanted_vr I.tr hw];simp)]
   refine ⟨λ_ _=>fk_fn k _,?_⟩
   refine ih _ σ _ (inv_insert F I hol hjs hr' hd0 (v:=undefA) (by rw [hu];rfl) (Le.refl σ) I.sr ?_ ?_ (undef_vr σ)) hcount
   ·rw [eAt,hu];rfl
   ·rw [eAt,hu];rfl
  ·rw [<-wantedA_congr hlook] at hw
   rw [if_pos (wanted_vr I.tr hw)]
   rw [<-stepA_congr (aev_looks hlook)] at hst
   have hmem:recs.getD j undone∈recs:=by
    have:j<recs.length:=by rw [F.len];exact hjl
    grind
   refine stepIn_sound tabOk I.sr k I.tr hst hag (hob _ hmem) (hkk.imp id λh=>h _ hmem) hq (λv hv σ' x le sr' hh hdd hx=>?_) (λv hv σ' x le sr' hh hdd hx=>?_)
   ·exact ih _ σ' _ (inv_insert F I hol hjs hr' hd0 hv le sr' hh hdd hx) hcount
   ·obtain ⟨q1,q2⟩:=F.pan j v hjl hv
    have hbef:∀i,i<j->Sl listed i=true:=λi hi=>by
     rcases F.apart i j l[i] o hi (List.getElem?_eq_getElem (by omega)) hol with h | ⟨_,_,u,hu⟩
     ·grind [ready_bit]
     grind
    have sp:=sp_at F I (Nat.le_of_lt hjl) hbef (λi a b=>by grind)
    exact hpn v _ q2 σ' a x (I.le.trans I.sr ((lg_of le (ok_at F j) hag hh hdd).weak (next_le F (Nat.zero_le j))) sr') (next_le F (i:=0) (j:=j+1) (Nat.zero_le _)) (sp_apply sp (ok_at F j) sr' hh hdd) hx I.defers
end
theorem drawnIn_any (tabOk:TabOK P tab) (k:FK) {hd:Hd} {ops:Array Oper} {N:Nat} {Q:Exit->Act->World->Prop} {T:TL} {H:Heap} {σ:Sg} {a:Act} {rr:RR} {recs:List Rec} (ss:SS σ a N T H) (hdst:dstOk N ops.toList=true)
 (h:runOps tab hd ops ops.toList 0 T H=some (rr,recs)) (hdr:drawOk H ops ops.toList recs=true) (hq:¬LetsOut Q) (hob:∀rc∈recs,∀ob∈rc.ob,ob.holdsY P) (hkk:k.isOut=true\/∀rc∈recs,noRound rc=true)
 (hdn:∀T' H',rr=.done T' H'->∀σ' a',Lg H.next σ σ'->H.next<=H'.next->SS σ' a' N T' H'->a'.defers=a.defers->Q .normal a' σ'.w)
 (hpn:∀v H',rr=.pan v H'->∀σ' a' x,Lg H.next σ σ'->H.next<=H'.next->SP σ' H'->VR σ' v x->a'.defers=a.defers->Q (.panic [{ v:=x,recovered:=false }]) a' σ'.w) :
 wpAnyIn k.F 0 P .any ops Q ops.size (Array.replicate ops.size false) a { σ.w with drawn:=σ.w.drawn+1 }:=by
 have F:=fit h hdr
 have no:∀i,Sl (Array.replicate ops.size false) i=false:=λi=>by
  unfold Sl
  rw [Array.getD_eq_getD_getElem?,Array.getElem?_replicate]
  split<;>rfl
 refine wpAnyIn_inv (σ0:=σ) (a0:=a) (T0:=T) (H0:=H) tabOk k F rfl hdst hq hob hkk (λv H' e=>?_) hdn hpn ops.size _ σ.drew a ⟨sr_drew ss.sr,⟨le_drew σ,λ_ h=>.inl h⟩,λm=>?_,?_,ss.size,rfl,λm hm=>?_,λj o _ hs=>?_,λj hs=>?_,by simp⟩ ?_
 ·subst e
  obtain ⟨k,h1,h2⟩:=runOps_pan _ _ _ _ _ _ _ h
  exact ⟨k,by rw [<-F.len];exact h1,h2⟩
 ·rw [seenH,lastOf_nothing no]
  exact congrFun ss.h m
 ·rw [show seenT T ops.toList recs (Sl (Array.replicate ops.size false)) ops.toList.length=look T from funext λt=>lastOf_nothing no _]
  exact ss.tr.mono (le_drew σ)
 ·rcases Nat.lt_or_ge m H.next with q | q
  ·omega
  ·obtain ⟨h1,h2⟩:=ss.fresh m q
   rcases hm with hm | hm
   ·exact absurd h1 hm
   ·exact absurd hm h2
 ·grind
 ·grind
 ·exact unl_le _
end Go.Abs
end
section
namespace Go.Abs
inductive AX where
 |normal
 |exit (id:Nat)
 |goto (l:Nat)
 |ret
 |pan (v:AV)
abbrev Post:=AX->TL->Heap->Prop
def Marks (B:Nat) (σ:Sg):List Deferred->Prop
 |[]=>True
 |d::ds=>(∃b,d={ target:=.collected b,args:=#[] }/\B<=b/\b<σ.w.heap.size/\σ.w.heap[b]?=some (.deferred (some []))/\¬σ.J b/\(∀n o,σ.h n=some o->σ.r n≠b)/\(∀d'∈ds,d'.target≠.collected b))/\Marks B σ ds
theorem Marks.mono {B:Nat} {σ σ':Sg} (l:Le σ σ') (sr':SR σ'):∀{ds:List Deferred},Marks B σ ds->Marks B σ' ds
 |[],_=>trivial
 |d::ds,⟨⟨b,h1,h2,h3,h4,h0,h5,h6⟩,hr⟩=>
  ⟨⟨b,h1,h2,Nat.lt_of_lt_of_le h3 l.size,(l.frame b h3 h5).trans h4,λh=>h0 (l.jnew b h h3 h5),l.notOwn sr' h3 h5,h6⟩,hr.mono l sr'⟩
structure Arr (N n0 B:Nat) (σ:Sg) (a:Act) (T:TL) (H:Heap):Prop where
 ss:SS σ a N T H
 n0:n0<=H.next
 mks:Marks B σ a.defers
 hB:B<=σ.w.heap.size
def CWQ (N n0 B:Nat) (Q:Post) (σ0:Sg):Exit->Act->World->Prop:=λe a w=>∃σ,σ.w=w/\Lg n0 σ0 σ/\
 match e with
 |.normal=>∃T H,Arr N n0 B σ a T H/\Q .normal T H
 |.exit id=>∃T H,Arr N n0 B σ a T H/\Q (.exit id) T H
 |.goto l=>∃T H,Arr N n0 B σ a T H/\Q (.goto l) T H
 |.ret=>∃T H,Arr N n0 B σ a T H/\Q .ret T H
 |.panic ch=>∃v H x,n0<=H.next/\B<=σ.w.heap.size/\Marks B σ a.defers/\ch=[{ v:=x,recovered:=false }]/\SP σ H/\VR σ v x/\Q (.pan v) [] H
 |.outgrown=>False
theorem CWQ.shut {N n0 B:Nat} {Q:Post} {σ:Sg}:¬LetsOut (CWQ N n0 B Q σ):=λ⟨_,_,_,_,_,h⟩=>h
def CW (P:Program) (k:FK) (N n0:Nat) (c:Code) (T:TL) (H:Heap) (Q:Post):Prop:=
 ∀B σ a,Arr N n0 B σ a T H->c.wpIn k.F 0 P (CWQ N n0 B Q σ) a σ.w
variable {P:Program} {tab:Tab} {N n0:Nat} {T:TL} {H:Heap} {Q Q':Post} {k:FK}
theorem CWQ.mono {B:Nat} {σ:Sg} {e:Exit} {a:Act} {w:World} (h:CWQ N n0 B Q σ e a w) (hq:∀x T H,Q x T H->Q' x T H):CWQ N n0 B Q' σ e a w:=by
 obtain ⟨σ',hw,l,h⟩:=h
 refine ⟨σ',hw,l,?_⟩
 cases e<;>simp only [] at h ⊢
 case panic ch=>obtain ⟨v,H,x,h1,h2,h3,h4,h5,h6,h7⟩:=h;exact ⟨v,H,x,h1,h2,h3,h4,h5,h6,hq _ _ _ h7⟩
 all_goals (obtain ⟨T,H,h1,h2⟩:=h;exact ⟨T,H,h1,hq _ _ _ h2⟩)
theorem CWQ.base {B:Nat} {σ σ1:Sg} {e:Exit} {a:Act} {w:World} (l0:Lg n0 σ σ1) (sr1:SR σ1) (h:CWQ N n0 B Q σ1 e a w):CWQ N n0 B Q σ e a w:=by
 obtain ⟨σ',hw,l,h⟩:=h
 have fin:SR σ'->CWQ N n0 B Q σ e a w:=λsr=>⟨σ',hw,l0.trans sr1 l sr,h⟩
 cases e<;>simp only [] at h
 case panic ch=>obtain ⟨v,H,x,h1,h2,h3,h4,h5,h6,h7⟩:=h;exact fin h5.sr
 all_goals (obtain ⟨T,H,h1,h2⟩:=h;exact fin h1.ss.sr)
theorem CW.mono {c:Code} (h:CW P k N n0 c T H Q) (hq:∀x T H,Q x T H->Q' x T H):CW P k N n0 c T H Q':=
 λB σ a ar=>wpIn_mono (h B σ a ar) λ_ _ _ h=>h.mono hq
def nextP (K:TL->Heap->Prop) (Q:Post):Post:=λe T H=>match e with
 |.normal=>K T H
 |e=>Q e T H
theorem CWQ.then {B:Nat} {K:TL->Heap->Prop} {R:Act->World->Prop} {σ:Sg} {e:Exit} {a:Act} {w:World} (h:CWQ N n0 B (nextP K Q) σ e a w)
 (hk:∀σ' T H,Lg n0 σ σ'->Arr N n0 B σ' a T H->K T H->σ'.w=w->R a w):Exit.then R (CWQ N n0 B Q σ) e a w:=by
 obtain ⟨σ',hw,l,h⟩:=h
 cases e<;>simp only [nextP] at h<;>simp only [Exit.then]
 case normal=>obtain ⟨T,H,h1,h2⟩:=h;exact hk σ' T H l h1 h2 hw
 all_goals exact ⟨σ',hw,l,h⟩
theorem CW.skip (h:Q .normal T H):CW P k N n0 .skip T H Q:=λ_ σ _ ar=>wpIn_skip ⟨σ,rfl,.refl _ σ,T,H,ar,h⟩
theorem CW.label {l:Nat} (h:Q .normal T H):CW P k N n0 (.label l) T H Q:=λ_ σ _ ar=>wpIn_label ⟨σ,rfl,.refl _ σ,T,H,ar,h⟩
theorem CW.exit {id:Nat} (h:Q (.exit id) T H):CW P k N n0 (.exit id) T H Q:=λ_ σ _ ar=>wpIn_exit ⟨σ,rfl,.refl _ σ,T,H,ar,h⟩
theorem CW.goto {l:Nat} (h:Q (.goto l) T H):CW P k N n0 (.goto l) T H Q:=λ_ σ _ ar=>wpIn_goto ⟨σ,rfl,.refl _ σ,T,H,ar,h⟩
theorem CW.ret (h:Q .ret T H):CW P k N n0 .ret T H Q:=λ_ σ _ ar=>wpIn_ret ⟨σ,rfl,.refl _ σ,T,H,ar,h⟩
theorem CW.seq {x y:Code} (h:CW P k N n0 x T H (nextP (λT H=>CW P k N n0 y T H Q) Q)):CW P k N n0 (.seq x y) T H Q:=λB σ a ar=>
 wpIn_seq (wpIn_mono (h B σ a ar) λ_ _ _ h=>h.then λσ' T H l ar' hk hw=>by subst hw;exact wpIn_mono (hk B σ' _ ar') λ_ _ _ h=>h.base l ar'.ss.sr)
theorem CW.cond {c:Operand} {x y:Code} {b:Bool} (hc:aev (look T) c=some (.sc (.bool b))) (h:CW P k N n0 (if b then x else y) T H Q):CW P k N n0 (.cond c x y) T H Q:=λB σ a ar=>
 wpIn_cond ((aev_vr ar.ss.tr hc).sc_inv).1 (h B σ a ar)
def blockP (id:Nat) (Q:Post):Post:=λe T H=>match e with
 |.exit id'=>if id'=id then Q .normal T H else Q (.exit id') T H
 |e=>Q e T H
theorem CW.block {id:Nat} {c:Code} (h:CW P k N n0 c T H (blockP id Q)):CW P k N n0 (.block id c) T H Q:=λB σ a ar=>
 wpIn_block (wpIn_mono (h B σ a ar) λe a' w' h=>by
  obtain ⟨σ',hw,l,h⟩:=h
  cases e<;>simp only [blockP] at h<;>simp only [Exit.inBlock]
  case exit id'=>
   obtain ⟨T,H,h1,h2⟩:=h
   split
   ·rename_i e;rw [if_pos e] at h2;exact ⟨σ',hw,l,T,H,h1,h2⟩
   ·rename_i e;rw [if_neg e] at h2;exact ⟨σ',hw,l,T,H,h1,h2⟩
  all_goals exact ⟨σ',hw,l,h⟩)
def stayP (Q:Post):Post:=λe T H=>match e with
 |.goto _=>False
 |e=>Q e T H
theorem wpIn_scope_straight {F:Fence} {n:Nat} {QQ:Exit->Act->World->Prop} {a:Act} {w:World} {c:Code} (h:c.wpIn F n P (Exit.noGoto QQ) a w):(Code.scope c).wpIn F n P QQ a w:=by
 intro b kk cs hro hb hr
 have s1:step P (lone (b.atR a (.code (.scope c)::kk)) cs w)=.next (lone (b.atR a (.code c::.inScope c::kk)) cs w):=step_lone_go (by simp [stepG,stepG.exec,Frame.atR])
 have s2:∀a w,step P (lone (b.atR a (.inScope c::kk)) cs w)=.next (lone (b.atR a kk) cs w):=λa w=>step_lone_go (by simp [stepG,stepG.exec,Frame.atR])
 have h0:(lone (b.atR a (.code (.scope c)::kk)) cs w).fenced P F:=fenced_calm hb hr rfl
 obtain ⟨e,a₁,w₁,hq,harr⟩:=h b (.inScope c::kk) cs hro hb hr
 cases e with
 |normal=>exact ⟨.normal,a₁,w₁,hq,.head h0 s1 (StepsIn.trans harr (.one (fenced_calm hb hr rfl) (s2 _ _)))⟩
 |exit id=>
  have hx:exitTo id (.inScope c::kk)=exitTo id kk:=by simp [exitTo]
  exact ⟨.exit id,a₁,w₁,hq,λk' hk=>.head h0 s1 (harr.1 k' (by rw [hx];exact hk)),
   λhr' hk=>let ⟨k₁,h1,h2⟩:=harr.2 hr' (by rw [hx];exact hk);⟨k₁,h1,.head h0 s1 h2⟩⟩
 |goto l=>exact hq.elim
 |ret=>exact ⟨_,a₁,w₁,hq,.of_steps (.one h0 s1) harr⟩
 |panic ch=>exact ⟨_,a₁,w₁,hq,.of_steps (.one h0 s1) harr⟩
 |outgrown=>exact ⟨_,a₁,w₁,hq,.of_steps (.one h0 s1) harr⟩
theorem CW.scope {c:Code} (h:CW P k N n0 c T H (stayP Q)):CW P k N n0 (.scope c) T H Q:=λB σ a ar=>
 wpIn_scope_straight (wpIn_mono (h B σ a ar) λe a' w' h=>by
  obtain ⟨σ',hw,l,h⟩:=h
  cases e<;>simp only [stayP] at h<;>simp only [Exit.noGoto]
  case goto l=>obtain ⟨_,_,_,h⟩:=h;exact h
  all_goals exact ⟨σ',hw,l,h⟩)
def CW.rounds (P:Program) (k:FK) (N n0:Nat) (c:Code) (Q:Post):Nat->TL->Heap->Prop
 |0,_,_=>False
 |n+1,T,H=>CW P k N n0 c T H (nextP (CW.rounds P k N n0 c Q n) Q)
theorem CW.loop {c:Code} (n:Nat) (h:CW.rounds P k N n0 c Q n T H):CW P k N n0 (.loop c) T H Q:=λB σ a ar=>by
 refine wpIn_loop_rounds n ?_
 have:∀n T H σ1 a,CW.rounds P k N n0 c Q n T H->Arr N n0 B σ1 a T H->Lg n0 σ σ1->Code.roundsIn k.F 0 P c (CWQ N n0 B Q σ) n a σ1.w:=by
  intro n
  induction n with
  |zero=>intro T H σ1 a h;exact h.elim
  |succ n ih=>
   intro T H σ1 a h ar l
   refine wpIn_mono (h B σ1 a ar) λe a' w' h=>?_
   have:=h.then (R:=Code.roundsIn k.F 0 P c (CWQ N n0 B Q σ) n) λσ' T H l' ar' hk hw=>by subst hw;exact ih T H σ' _ hk ar' (l.trans ar.ss.sr l' ar'.ss.sr)
   cases e<;>simp only [Exit.then] at this ⊢
   case normal=>exact this
   all_goals exact this.base l ar.ss.sr
 exact this n T H σ a h ar (.refl _ σ)
def afterP (Q:Post):RR->Prop
 |.done T H=>Q .normal T H
 |.pan v H=>Q (.pan v) [] H
theorem CW.region (tabOk:TabOK P tab) {hd:Hd} {ops:Array Oper} {id:Nat} {draw:Bool} {rr:RR} {recs:List Rec} (hm:P.follows .mixedOrders=true) (hdst:dstOk N ops.toList=true)
 (h:runOps tab hd ops ops.toList 0 T H=some (rr,recs)) (hdr:(draw=true->drawOk H ops ops.toList recs=true)) (hob:∀rc∈recs,∀ob∈rc.ob,ob.holdsY P)
 (hkk:k.isOut=true\/∀rc∈recs,noRound rc=true) (hq:afterP Q rr):CW P k N n0 (.region id ops draw) T H Q:=λB σ a ar=>by
 have hdn:∀T' H',rr=.done T' H'->∀σ' a',Lg H.next σ σ'->H.next<=H'.next->SS σ' a' N T' H'->a'.defers=a.defers->CWQ N n0 B Q σ .normal a' σ'.w:=λT' H' e σ' a' l n s d=>by
  subst e;exact ⟨σ',rfl,l.weak ar.n0,T',H',⟨s,Nat.le_trans ar.n0 n,by rw [d];exact ar.mks.mono l.1 s.sr,Nat.le_trans ar.hB l.1.size⟩,hq⟩
 have hpn:∀v H',rr=.pan v H'->∀σ' a' x,Lg H.next σ σ'->H.next<=H'.next->SP σ' H'->VR σ' v x->a'.defers=a.defers->CWQ N n0 B Q σ (.panic [{ v:=x,recovered:=false }]) a' σ'.w:=λv H' e σ' a' x l n s hx d=>by
  subst e;exact ⟨σ',rfl,l.weak ar.n0,v,H',x,Nat.le_trans ar.n0 n,Nat.le_trans ar.hB l.1.size,by rw [d];exact ar.mks.mono l.1 s.sr,rfl,s,hx,hq⟩
 cases draw with
 |true=>
  exact wpIn_region_any hm (drawnIn_any (Q:=CWQ N n0 B Q σ) tabOk k ar.ss hdst h (hdr rfl) CWQ.shut hob hkk hdn hpn)
 |false=>
  refine wpIn_region ?_
  have:=runOpsIn_sound (Q:=CWQ N n0 B Q σ) tabOk k CWQ.shut ops.toList 0 T H σ a rr recs ar.ss hdst h (λk=>by simp) hob hkk hdn hpn
  rwa [<-List.range_eq_range',Array.length_toList] at this
theorem CW.drop {c:Code} {T':TL} (ht:∀t x,look T' t=some x->look T t=some x) (h:CW P k N n0 c T' H Q):CW P k N n0 c T H Q:=λB σ a ar=>
 h B σ a ⟨⟨ar.ss.toSP,λt x hx=>ar.ss.tr t x (ht t x hx),ar.ss.size⟩,ar.n0,ar.mks,ar.hB⟩
end Go.Abs
end
section
namespace Go.Abs
variable {P:Program} {tab:Tab} {N n0:Nat} {σ:Sg}
def resV (tab:Tab) (T:TL) (H:Heap):ResultVar->Option AV
 |.tmp t=>look T t
 |.cell a t=>match look T a,tab t with
  |some p,some d=>(loadA H d p).map (·.v)
  |_,_=>none
def resA (tab:Tab) (T:TL) (H:Heap) (rs:List ResultVar):Option AV:=
 match mapOpt (resV tab T H) rs with
 |some [v]=>some v
 |some vs=>some (.tup vs)
 |none=>none
def resRead (tmps:Array Value):ResultVar->Sem Value
 |.tmp t=>pure (tmps.getD t undef)
 |.cell b t=>do loadVar t (<-asAddr (tmps.getD b undef))
theorem results_eq (fn:Func) (tmps:Array Value):results fn tmps=(do
 let vs <-fn.results.mapM (resRead tmps)
 pure (if h:vs.size=1 then vs[0] else .tuple vs)):=rfl
theorem res_list (tabOk:TabOK P tab) {a:Act} {T:TL} {H:Heap} (ss:SS σ a N T H):∀{rs:List ResultVar} {vs:List AV},mapOpt (resV tab T H) rs=some vs->
 ∃xs,(rs.mapM (resRead a.tmps):Sem (List Value)).run P σ.w=.ok xs σ.w/\VRs σ vs xs
 |[],vs,h=>by cases h;exact ⟨[],by simp,.nil⟩
 |r::rs,vs,h=>by
  simp only [mapOpt] at h
  split at h
  ·cases h
  rename_i v h1
  split at h
  ·cases h
  ·rename_i vs' h2
   cases h
   obtain ⟨xs,hx,hxs⟩:=res_list tabOk ss h2
   have one:∃x,(resRead a.tmps r).run P σ.w=.ok x σ.w/\VR σ v x:=by
    cases r with
    |tmp t=>exact ⟨_,by simp [resRead],ss.tr t v h1⟩
    |cell b t=>
     simp only [resV] at h1
     split at h1
     ·rename_i p d hp hd
      cases hl:loadA H d p with
      |none=>rw [hl] at h1;cases h1
      |some res=>
       rw [hl] at h1
       cases h1
       have hv:=ss.tr b p hp
       unfold loadA at hl
       split at hl
       ·rename_i cs rd hr
        split at hl
        ·rename_i y hy
         cases hl
         obtain ⟨bb,oo,vs,hpv,hra,hvs⟩:=readAt_vr ss.sr hv hr (λm _=>by rw [ss.h])
         obtain ⟨x,hx,hxv⟩:=run_loadVar_of (tabOk t d hd) hra hvs hy
         exact ⟨x,by simp [resRead,Sem.run_bind,hpv,asAddr,hx],hxv⟩
        ·cases hl
       ·cases hl
     ·cases h1
   obtain ⟨x,hx1,hx2⟩:=one
   exact ⟨x::xs,by simp only [List.mapM_cons,Sem.run_bind,hx1,Result.andThen_ok,hx,Sem.run_pure],.cons hx2 hxs⟩
theorem results_vr (tabOk:TabOK P tab) {a:Act} {T:TL} {H:Heap} (ss:SS σ a N T H) {fn:Func} {v:AV} (h:resA tab T H fn.results.toList=some v) :
 ∃x,(results fn a.tmps).run P σ.w=.ok x σ.w/\VR σ v x:=by
 have run:∀{vs:List AV},mapOpt (resV tab T H) fn.results.toList=some vs->∃xs,(results fn a.tmps).run P σ.w=.ok (if h:xs.toArray.size=1 then xs.toArray[0] else .tuple xs.toArray) σ.w/\VRs σ vs xs:=λ{vs} hv=>by
  obtain ⟨xs,h1,h2⟩:=res_list tabOk ss hv
  refine ⟨xs,?_,h2⟩
  rw [results_eq,Sem.run_bind,Array.mapM_eq_mapM_toList]
  simp [Sem.run_map,h1]
 unfold resA at h
 split at h
 ·rename_i u hu
  cases h
  obtain ⟨xs,h1,h2⟩:=run hu
  cases h2 with
  |cons hx hn=>cases hn;exact ⟨_,h1,by simpa using hx⟩
 ·rename_i vs hne hu
  cases h
  obtain ⟨xs,h1,h2⟩:=run hu
  refine ⟨_,h1,?_⟩
  rw [dif_neg]
  ·exact .tup h2
  ·intro hl
   have:=h2.length
   simp at hl
   match vs,this with
   |[v],_=>exact hne v rfl
   |[],q=>simp [hl] at q
   |_::_::_,q=>simp [hl] at q
 ·cases h
def argT (i:Nat):List AV->TL
 |[]=>[]
 |v::r=>(i,v)::argT (i+1) r
theorem argT_look:∀{args:List AV} {i t:Nat} {v:AV},look (argT i args) t=some v->i<=t/\args[t-i]?=some v
 |[],_,_,_,h=>by cases h
 |u::r,i,t,v,h=>by
  simp only [argT,look] at h
  split at h
  ·rename_i e;subst e;cases h;simp
  ·rename_i e
   obtain ⟨h1,h2⟩:=argT_look h
   refine ⟨by omega,?_⟩
   rw [show t-i=(t-(i+1))+1 by omega]
   simpa using h2
theorem argT_tr {args:List AV} {vs:List Value} (h:VRs σ args vs) {n:Nat}:TR σ (look (argT 0 args)) { tmps:=vs.toArray++Array.replicate n undef,defers:=[] }:=λt v hv=>by
 obtain ⟨_,h2⟩:=argT_look hv
 obtain ⟨x,hx,hvx⟩:=h.get h2
 have:(vs.toArray++Array.replicate n undef).getD t undef=x:=by
  rw [Array.getD_eq_getD_getElem?]
  rw [Nat.sub_zero] at hx
  have hlt:t<vs.length:=(List.getElem?_eq_some_iff.1 hx).1
  rw [Array.getElem?_append_left (by simpa using hlt)]
  simp [hx]
 rw [this];exact hvx
def Sg.take (σ:Sg) (b:Nat):Sg:={ σ with w:=σ.w.putObj b (.deferred none) }
theorem take_other {b c:Nat} (h:c≠b):(σ.take b).w.heap[c]?=σ.w.heap[c]?:=World.putObj_heap_other h
theorem lv_take {b:Nat} (hb:σ.w.heap[b]?=some (.deferred (some []))) (hJ:¬σ.J b) (ho:∀n o,σ.h n=some o->σ.r n≠b):Lv σ (σ.take b) where
 icell:=λc off h=>⟨h,by
  by_cases e:c=b
  ·subst e
   have hlt:=(Array.getElem?_eq_some_iff.1 hb).1
   have:(σ.take c).w.heap[c]?=some (.deferred none):=World.putObj_heap_same hlt
   simp [World.cell?,hb,this]
  ·exact cell_same (take_other e)⟩
 jmap:=λc h=>⟨h,take_other (λe=>hJ (e ▸ h))⟩
 cells:=λn es s fz h=>.inr ⟨es,fz,h,Nat.le_refl _,.inl ⟨rfl,λarr t rg ha=>⟨arr,t,rg,(take_other (ho n _ h)).trans ha,rfl⟩⟩⟩
 maps:=λn ks vs bs c fz h=>.inr ⟨rfl,ks,vs,bs,c,fz,h⟩
 loops:=λn T N ps asg body st pend h=>⟨rfl,st,pend,h⟩
 deads:=λ_ h=>h
theorem sr_take {b:Nat} (hb:σ.w.heap[b]?=some (.deferred (some []))) (hJ:¬σ.J b) (ho:∀n o,σ.h n=some o->σ.r n≠b) (sr:SR σ):SR (σ.take b) where
 obj:=λn o h=>OR.keepV (lv_take hb hJ ho) (sr.obj n o h) rfl (take_other (ho n o h)) (λ_ h=>h) (λh=>h)
 inj:=sr.inj
 lt:=λn o h=>by have:=sr.lt n o h;show σ.r n<(σ.w.putObj b _).heap.size;rw [World.putObj_size];exact this
 ilt:=λc off h=>by have:=sr.ilt c off h;show c<(σ.w.putObj b _).heap.size;rw [World.putObj_size];exact this
 jlt:=λc h=>by have:=sr.jlt c h;show c<(σ.w.putObj b _).heap.size;rw [World.putObj_size];exact this
 alive:=sr.alive
theorem le_take {b:Nat} (hb:σ.w.heap[b]?=some (.deferred (some []))) (hJ:¬σ.J b) (ho:∀n o,σ.h n=some o->σ.r n≠b) {σ0:Sg} (l:Le σ0 σ) (h0:σ0.w.heap.size<=b):Le σ0 (σ.take b) where
 os:=l.os
 tape:=l.tape
 output:=l.output
 size:=by show _<=(σ.w.putObj b _).heap.size;rw [World.putObj_size];exact l.size
 frame:=λc hc hn=>(take_other (by omega)).trans (l.frame c hc hn)
 old:=l.old
 icell:=λc off h=>let ⟨p,q⟩:=l.icell c off h;let ⟨p',q'⟩:=(lv_take hb hJ ho).icell c off p;⟨p',q'.trans q⟩
 inew:=l.inew
 jnew:=l.jnew
 jmap:=λc h=>let ⟨p,q⟩:=l.jmap c h;let ⟨p',q'⟩:=(lv_take hb hJ ho).jmap c p;⟨p',q'.trans q⟩
 cells:=λn es s fz h=>by
  rcases l.cells n es s fz h with d | ⟨es',fz',h',hlen,⟨hr,hs⟩ | ⟨hlt,hge⟩⟩
  ·exact .inl d
  ·refine .inr ⟨es',fz',h',hlen,.inl ⟨hr,λarr t rg ha=>?_⟩⟩
   obtain ⟨arr',t',rg',q1,q2⟩:=hs arr t rg ha
   exact ⟨arr',t',rg',(take_other (by rw [<-hr];exact ho n _ h')).trans q1,q2⟩
  ·exact .inr ⟨es',fz',h',hlen,.inr ⟨hlt,hge⟩⟩
 maps:=l.maps
 loops:=l.loops
 deads:=l.deads
theorem Marks.take {B b:Nat}:∀{ds:List Deferred},Marks B σ ds->(∀d'∈ds,d'.target≠.collected b)->Marks B (σ.take b) ds
 |[],_,_=>trivial
 |d::ds,⟨⟨c,h1,h2,h3,h4,h0,h5,h6⟩,hr⟩,hne=>by
  have hcb:c≠b:=λe=>hne d (by simp) (by rw [h1,e])
  exact ⟨⟨c,h1,h2,by show c<(σ.w.putObj b _).heap.size;rw [World.putObj_size];exact h3,(take_other hcb).trans h4,h0,h5,h6⟩,hr.take (λd' hd=>hne d' (by simp [hd]))⟩
theorem leaves_marks {σ0:Sg} {B:Nat} (hB:σ0.w.heap.size<=B) {fn:Func} {tmps:Array Value} {R:Ending->World->Prop} {u:FrameMode} (hu:u≠.run):∀(ds:List Deferred) (σ:Sg),Marks B σ ds->SR σ->Le σ0 σ->
 (∀σ',SR σ'->Le σ0 σ'->σ'.h=σ.h->σ'.dead=σ.dead->σ.w.heap.size=σ'.w.heap.size->(∀x v,VR σ x v->VR σ' x v)->LeavesIn Fence.wide 0 P fn tmps R [] u σ'.w)->LeavesInM Fence.wide 0 P fn tmps R ds u σ.w
 |[],σ,_,sr,l,h=>h σ sr l rfl rfl rfl (λ_ _ h=>h)
 |d::ds,σ,⟨⟨b,h1,h2,h3,h4,h0,h5,h6⟩,hr⟩,sr,l,h=>by
  refine ⟨hu,.inl ⟨b,σ.w.putObj b (.deferred none),by rw [h1],run_takeDeferred h4,?_⟩⟩
  refine leaves_marks hB hu ds (σ.take b) (hr.take h6) (sr_take h4 h0 h5 sr) (le_take h4 h0 h5 l (by omega)) λσ' sr' l' q1 q2 q3 q4=>?_
  refine h σ' sr' l' q1 q2 ?_ (λx v hx=>q4 x v (hx.monoV (lv_take h4 h0 h5)))
  rw [<-q3]
  show _=(σ.w.putObj b _).heap.size
  rw [World.putObj_size]
def ends2 (tab:Tab) (rs:List ResultVar) (r:Out) (H1:Heap):Post:=λe T H=>match e with
 |.normal | .ret=>H=H1/\∃v,resA tab T H rs=some v/\r=.ret v
 |.pan v=>H=H1/\r=.pan v
 |_=>False
theorem valid2_of (tabOk : TabOK P tab) {f : FuncId} {fn : Func} {c : Code} {args : List AV} {H H1 : Heap} {r : Out} (hf : P.funcs[f]? = some fn) (hb : fn.body = some c) (hn : (fn.name == "runtime.NumGoroutine") = false) (hl : args.length <= fn.ntmps)
 (h:CW P .out fn.ntmps H.next c (argT 0 args) H (ends2 tab fn.results.toList r H1)):Valid2 P f args H r H1:=by
 refine ⟨⟨fn,hf,by rw [hb];rfl,hn⟩,λσ vs sr hh hfr hv=>(callsIn_wide (n:=0)).1 ?_⟩
 refine callsIn_of_wp_marks hf hb trivial ?_
 have hlen:=hv.length
 refine wpIn_mono (h σ.w.heap.size σ _ ⟨⟨⟨sr,hh,hfr⟩,argT_tr hv,by simp;omega⟩,Nat.le_refl _,trivial,Nat.le_refl _⟩) λe a w h=>?_
 obtain ⟨σ',rfl,l,h⟩:=h
 have dd:∀{σ':Sg} {n},Lg H.next σ σ'->(∀m,n<=m->σ'.h m=none/\¬σ'.dead m)->∀m,σ'.dead m->Used σ m\/(H.next<=m/\m<n):=λ{σ'} {n} l hfr m hm=>by
  rcases l.2 m (.inr hm) with q | q
  ·exact .inl q
  ·refine .inr ⟨q,?_⟩
   rcases Nat.lt_or_ge m n with p | p
   ·exact p
   ·exact absurd hm (hfr m p).2
 have lg:∀{s:Sg},Le σ s->s.h=σ'.h->s.dead=σ'.dead->Lg H.next σ s:=λ{s} l1 q1 q2=>⟨l1,λm hm=>l.2 m (by unfold Used at hm ⊢;rwa [q1,q2] at hm)⟩
 have done:∀(u:FrameMode),u=.returning->(∃T H',Arr fn.ntmps H.next σ.w.heap.size σ' a T H'/\H'=H1/\∃v,resA tab T H' fn.results.toList=some v/\r=.ret v)->
  LeavesInM Fence.wide 0 P fn a.tmps (λe w'=>∃s,s.w=w'/\s.h=look H1.objs/\Le σ s/\SR s/\H.next<=H1.next/\(∀m,s.dead m->Used σ m\/(H.next<=m/\m<H1.next))/\(∀m,H1.next<=m->s.h m=none/\¬s.dead m)/\OutR s r e) a.defers u σ'.w:=by
  rintro u rfl ⟨T,H',ar,rfl,v,hv,rfl⟩
  refine leaves_marks (σ0:=σ) (Nat.le_refl _) (by simp) a.defers σ' ar.mks ar.ss.sr l.1 λs srs ls q1 q2 _ q4=>?_
  have fr:∀m,H'.next<=m->s.h m=none/\¬s.dead m:=λm hm=>by rw [q1,q2];exact ar.ss.fresh m hm
  obtain ⟨x,hx,hxv⟩:=results_vr (σ:=s) (N:=fn.ntmps) (T:=T) (H:=H') (a:=a) tabOk ⟨⟨srs,q1.trans ar.ss.h,fr⟩,λt v hv=>q4 _ _ (ar.ss.tr t v hv),ar.ss.size⟩ hv
  exact ⟨x,hx,s,rfl,q1.trans ar.ss.h,ls,srs,ar.n0,dd (lg ls q1 q2) fr,fr,hxv⟩
 cases e<;>simp only [ends2] at h<;>simp only [bodyPostM]
 case normal=>exact done _ rfl h
 case ret=>exact done _ rfl h
 case panic ch=>
  obtain ⟨v,H',x,h1,_,mks,rfl,sp,hx,rfl,rfl⟩:=h
  refine leaves_marks (σ0:=σ) (Nat.le_refl _) (by simp) a.defers σ' mks sp.sr l.1 λs srs ls q1 q2 _ q4=>?_
  have fr:∀m,H'.next<=m->s.h m=none/\¬s.dead m:=λm hm=>by rw [q1,q2];exact sp.fresh m hm
  exact ⟨s,rfl,q1.trans sp.h,ls,srs,h1,dd (lg ls q1 q2) fr,fr,x,rfl,q4 _ _ hx⟩
 case exit=>obtain ⟨_,_,_,h⟩:=h;exact h
 case goto=>obtain ⟨_,_,_,h⟩:=h;exact h
def ends1 (tab:Tab) (rs:List ResultVar) (r:Out):Post:=λe T H=>match e with
 |.normal | .ret=>∃v,resA tab T H rs=some v/\∃k x ns,viewA H k v=some (x,ns)/\r=.ret x
 |.pan v=>∃k x ns,viewA H k v=some (x,ns)/\r=.pan x
 |_=>False
theorem tvs_vrs:∀{xs:List AV} {vs:List Value},TVs σ.w σ.I σ.J xs vs->VRs σ xs vs
 |[],_,.nil=>.nil
 |_::_,_,.cons h hs=>.cons (.tree h) (tvs_vrs hs)
theorem valid_of (tabOk : TabOK P tab) {f : FuncId} {fn : Func} {c : Code} {args : List AV} {r : Out} (hf : P.funcs[f]? = some fn) (hb : fn.body = some c) (hn : (fn.name == "runtime.NumGoroutine") = false) (hl : args.length <= fn.ntmps)
 (h:CW P .out fn.ntmps 0 c (argT 0 args) ⟨[],0⟩ (ends1 tab fn.results.toList r)):Valid P f args r:=by
 refine ⟨⟨fn,hf,by rw [hb];rfl,hn⟩,λw I J vs hI hJ hv=>(callsIn_wide (n:=0)).1 ?_⟩
 refine callsIn_of_wp_marks hf hb trivial ?_
 let σ:Sg:=⟨w,I,J,λ_=>0,λ_=>none,λ_=>False⟩
 have sr:SR σ:=⟨λn o h=>by (cases h),λn m o p h=>by (cases h),λn o h=>by (cases h),hI,hJ,λn o h=>by (cases h)⟩
 have hvr:VRs σ args vs:=tvs_vrs hv
 have hlen:=hvr.length
 refine wpIn_mono (h w.heap.size σ _ ⟨⟨⟨sr,rfl,λm _=>⟨rfl,λh=>h⟩⟩,argT_tr hvr,by simp;omega⟩,Nat.le_refl _,trivial,Nat.le_refl _⟩) λe a w' h=>?_
 obtain ⟨σ',rfl,l,h⟩:=h
 have out:∀{s:Sg} {H:Heap} {v x:AV} {xv:Value} {k:Nat} {ns:List Nat},Le σ s->SP s H->VR s v xv->viewA H k v=some (x,ns)->
  RowKit.Below w.heap.size w s.w/\∃(I':Nat->Nat->Prop) (J':Nat->Prop),(∀b off,I b off->I' b off)/\(∀b off,I' b off->I b off\/(w.heap.size<=b/\b<s.w.heap.size))/\
   (∀b,J b->J' b)/\(∀b,J' b->J b\/(w.heap.size<=b/\b<s.w.heap.size))/\TV s.w I' J' x xv:=by
  intro s H v x xv k ns l sp hv hview
  have ll:=le_lend sp.sr ns
  have sl:=sr_lend sp.sr ns
  have tv:=view_vr sp.sr (H:=H) (ns0:=ns) k v x ns xv hv hview (λn _=>by rw [sp.h]) (λn hn=>hn)
  have lt:Le σ (s.lend ns):=l.trans sp.sr ll sl
  refine ⟨⟨l.os,l.tape,l.output,l.size,λk hk=>l.frame k hk (λn o ho=>by cases ho)⟩,(s.lend ns).I,(s.lend ns).J,λb off h=>(lt.icell b off h).1,λb off h=>?_,λb h=>(lt.jmap b h).1,λb h=>?_,tv⟩
  ·rcases Nat.lt_or_ge b w.heap.size with q | q
   ·exact .inl (lt.inew b off h q (λn o ho=>by cases ho))
   ·exact .inr ⟨q,sl.ilt b off h⟩
  ·rcases Nat.lt_or_ge b w.heap.size with q | q
   ·exact .inl (lt.jnew b h q (λn o ho=>by cases ho))
   ·exact .inr ⟨q,sl.jlt b h⟩
 have done:∀(u:FrameMode),u=.returning->(∃T H',Arr fn.ntmps 0 w.heap.size σ' a T H'/\∃v,resA tab T H' fn.results.toList=some v/\∃k x ns,viewA H' k v=some (x,ns)/\r=.ret x)->
  LeavesInM Fence.wide 0 P fn a.tmps (λe w'=>RowKit.Below w.heap.size w w'/\∃(I':Nat->Nat->Prop) (J':Nat->Prop),(∀b off,I b off->I' b off)/\(∀b off,I' b off->I b off\/(w.heap.size<=b/\b<w'.heap.size))/\
   (∀b,J b->J' b)/\(∀b,J' b->J b\/(w.heap.size<=b/\b<w'.heap.size))/\OutV w' I' J' r e) a.defers u σ'.w:=by
  rintro u rfl ⟨T,H',ar,v,hv,k,x,ns,hx,rfl⟩
  refine leaves_marks (σ0:=σ) (Nat.le_refl _) (by simp) a.defers σ' ar.mks ar.ss.sr l.1 λs srs ls q1 q2 _ q4=>?_
  have fr:∀m,H'.next<=m->s.h m=none/\¬s.dead m:=λm hm=>by rw [q1,q2];exact ar.ss.fresh m hm
  have sps:SP s H':=⟨srs,q1.trans ar.ss.h,fr⟩
  obtain ⟨y,hy,hyv⟩:=results_vr (σ:=s) (N:=fn.ntmps) (T:=T) (H:=H') (a:=a) tabOk ⟨sps,λt v hv=>q4 _ _ (ar.ss.tr t v hv),ar.ss.size⟩ hv
  exact ⟨y,hy,out ls sps hyv hx⟩
 cases e<;>simp only [ends1] at h<;>simp only [bodyPostM]
 case normal=>exact done _ rfl h
 case ret=>exact done _ rfl h
 case panic ch=>
  obtain ⟨v,H',y,h1,_,mks,rfl,sp,hy,k,x,ns,hx,rfl⟩:=h
  refine leaves_marks (σ0:=σ) (Nat.le_refl _) (by simp) a.defers σ' mks sp.sr l.1 λs srs ls q1 q2 _ q4=>?_
  have fr:∀m,H'.next<=m->s.h m=none/\¬s.dead m:=λm hm=>by rw [q1,q2];exact sp.fresh m hm
  obtain ⟨bel,I',J',h1,h2,h3,h4,h5⟩:=out ls ⟨srs,q1.trans sp.h,fr⟩ (q4 _ _ hy) hx
  exact ⟨bel,I',J',h1,h2,h3,h4,y,rfl,h5⟩
 case exit=>obtain ⟨_,_,_,h⟩:=h;exact h
 case goto=>obtain ⟨_,_,_,h⟩:=h;exact h
end Go.Abs
end
section
namespace Go.Abs
variable {P:Program} {tab:Tab} {σ:Sg}
def endsO (tab:Tab) (rs:List ResultVar) (es:List (List AV)) (s fz:Nat):Post:=λe T H=>match e with
 |.normal | .ret=>∃n g c es0 k ns len,resA tab T H rs=some (.sl n g 0 len c)/\look H.objs n=some (.cells es0 s fz)/\es0.length=g/\len<=g/\viewLists (viewA H k) (es0.take len)=some (es,ns)/\n∉ns
 |_=>False
theorem vrs_split:∀{xs ys:List AV} {vs:List Value},VRs σ (xs++ys) vs->∃f1 f2,vs=f1++f2/\VRs σ xs f1
 |[],_,vs,_=>⟨[],vs,rfl,.nil⟩
 |x::xs,ys,_,.cons h hs=>by
  obtain ⟨f1,f2,rfl,h2⟩:=vrs_split (xs:=xs) hs
  exact ⟨_::f1,f2,rfl,.cons h h2⟩
theorem validOwn_of (tabOk : TabOK P tab) {f : FuncId} {fn : Func} {c : Code} {args : List AV} {es : List (List AV)} {s fz : Nat} (hf : P.funcs[f]? = some fn) (hb : fn.body = some c) (hn : (fn.name == "runtime.NumGoroutine") = false) (hl : args.length <= fn.ntmps)
 (h:CW P .out fn.ntmps 0 c (argT 0 args) ⟨[],0⟩ (endsO tab fn.results.toList es s fz)):ValidOwn P f args es s fz:=by
 refine ⟨⟨fn,hf,by rw [hb];rfl,hn⟩,λw I J vs hI hJ hv=>(callsIn_wide (n:=0)).1 ?_⟩
 refine callsIn_of_wp_marks hf hb trivial ?_
 let σ:Sg:=⟨w,I,J,λ_=>0,λ_=>none,λ_=>False⟩
 have sr:SR σ:=⟨λn o h=>by (cases h),λn m o p h=>by (cases h),λn o h=>by (cases h),hI,hJ,λn o h=>by (cases h)⟩
 have hvr:VRs σ args vs:=tvs_vrs hv
 have hlen:=hvr.length
 refine wpIn_mono (h w.heap.size σ _ ⟨⟨⟨sr,rfl,λm _=>⟨rfl,λh=>h⟩⟩,argT_tr hvr,by simp;omega⟩,Nat.le_refl _,trivial,Nat.le_refl _⟩) λe a w' h=>?_
 obtain ⟨σ1,rfl,l1,h⟩:=h
 have done:∀(u:FrameMode),u=.returning->(∃T H',Arr fn.ntmps 0 w.heap.size σ1 a T H'/\∃n g c es0 k ns len,resA tab T H' fn.results.toList=some (.sl n g 0 len c)/\look H'.objs n=some (.cells es0 s fz)/\es0.length=g/\len<=g/\viewLists (viewA H' k) (es0.take len)=some (es,ns)/\n∉ns)->
  LeavesInM Fence.wide 0 P fn a.tmps (λe w'=>RowKit.Below w.heap.size w w'/\∃(I':Nat->Nat->Prop) (J':Nat->Prop),(∀b off,I b off->I' b off)/\(∀b off,I' b off->I b off\/(w.heap.size<=b/\b<w'.heap.size))/\
   (∀b,J b->J' b)/\(∀b,J' b->J b\/(w.heap.size<=b/\b<w'.heap.size))/\∃B cap,Fresh1 w w' I' J' es s fz B cap/\e=.returned (.slice (some ⟨B,0,none⟩) es.length cap)) a.defers u σ1.w:=by
  rintro u rfl ⟨T,H',ar,n,g,c,es0,k,ns,len,hv,ho,hg,hlg,hview,hnn⟩
  refine leaves_marks (σ0:=σ) (Nat.le_refl _) (by simp) a.defers σ1 ar.mks ar.ss.sr l1.1 λσ' sr' l w1 w2 _ w4=>?_
  have fr:∀m,H'.next<=m->σ'.h m=none/\¬σ'.dead m:=λm hm=>by rw [w1,w2];exact ar.ss.fresh m hm
  have sps:SP σ' H':=⟨sr',w1.trans ar.ss.h,fr⟩
  obtain ⟨y,hy,hyv⟩:=results_vr (σ:=σ') (N:=fn.ntmps) (T:=T) (H:=H') (a:=a) tabOk ⟨sps,λt v hv=>w4 _ _ (ar.ss.tr t v hv),ar.ss.size⟩ hv
  have bel:RowKit.Below w.heap.size w σ'.w:=⟨l.os,l.tape,l.output,l.size,λk hk=>l.frame k hk (λn o ho=>by cases ho)⟩
  have ll:=le_lend sr' ns
  have sl:=sr_lend sr' ns
  have lt:Le σ (σ'.lend ns):=l.trans sr' ll sl
  have hn:σ'.h n=some (.cells es0 s fz):=by rw [sps.h];exact ho
  obtain ⟨cap',arr,t',rg,rfl,hw,_,hr,hle,_⟩:=hyv.sl_inv sr' hn hg
  obtain ⟨arr0,t0,rg0,full,q1,qj,q2,q3,q4,q5,q6,q7⟩:=sr'.obj n _ hn
  rw [hw] at q1
  cases q1
  obtain ⟨n3,h3,h4,h5⟩:=viewLists_flat hview
  have hel:es.length=len:=by have:=congrArg List.length h5;simp at this;omega
  have hes:∀e∈es,e.length=s:=λe he=>by
   have:e.length∈es.map List.length:=List.mem_map_of_mem he
   rw [h5] at this
   obtain ⟨e',he',hl⟩:=List.mem_map.1 this
   rw [<-hl];exact q4 e' (List.mem_of_mem_take he')
  obtain ⟨f1,f2,hff,q3⟩:∃f1 f2,full=f1++f2/\VRs σ' (es0.take len).flatten f1:=by
   rw [<-List.take_append_drop len es0,List.flatten_append] at q3
   exact vrs_split q3
  have htv:LTVs σ' ns es.flatten f1:=viewList_vr (λx x' m v h1 h2 h3 h4=>view_vr sr' (H:=H') k x x' m v h1 h2 h3 h4) q3 h3 (λn _=>by rw [sps.h]) (λm hm=>(h4 m).1 hm)
  have hapart:∀m∈ns,∀o,σ'.h m=some o->σ'.r m≠σ'.r n:=λm hm o ho e=>hnn (by rw [<-sr'.inj m n o _ ho hn e];exact hm)
  refine ⟨_,hy,bel,(σ'.lend ns).I,(σ'.lend ns).J,λb off h=>(lt.icell b off h).1,λb off h=>?_,λb h=>(lt.jmap b h).1,λb h=>?_,σ'.r n,cap',⟨l.old n _ hn rfl,sr'.lt n _ hn,⟨arr,t',rg,f1,hw,?_,q2,htv,hes,by rw [hff,List.length_append] at q5;omega,λj v hj=>q6 j v (by rw [hff,List.getElem?_append_left (by exact (List.getElem?_eq_some_iff.1 hj).1)];exact hj),?_,by rw [Nat.zero_add] at hr;exact hr⟩,by rw [hel];exact hle⟩,by rw [hel,Nat.zero_mul]⟩
  ·rcases Nat.lt_or_ge b w.heap.size with q | q
   ·exact .inl (lt.inew b off h q (λn o ho=>by cases ho))
   ·exact .inr ⟨q,sl.ilt b off h⟩
  ·rcases Nat.lt_or_ge b w.heap.size with q | q
   ·exact .inl (lt.jnew b h q (λn o ho=>by cases ho))
   ·exact .inr ⟨q,sl.jlt b h⟩
  ·rintro (h | ⟨m,hm,hr',ks,vs,bs,c,fz',hh⟩)
   ·exact qj h
   ·exact hapart m hm _ hh hr'
  ·rintro off ho' (h | ⟨m,hm,hr',es',s',fz',hh,_⟩)
   ·exact q7 off ho' h
   ·exact hapart m hm _ hh hr'
 cases e<;>simp only [endsO] at h<;>simp only [bodyPostM]
 case normal=>exact done _ rfl h
 case ret=>exact done _ rfl h
 case panic ch=>obtain ⟨_,_,_,_,_,_,_,_,_,h⟩:=h;exact h.elim
 case exit=>obtain ⟨_,_,_,h⟩:=h;exact h
 case goto=>obtain ⟨_,_,_,h⟩:=h;exact h
end Go.Abs
end
