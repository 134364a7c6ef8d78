/- Of ServerHides: lemmas. -/
import Derived.Test.YtlhdbnmgiaoeeaaGreatUAb
import Derived.Laws.BytesString
set_option linter.all false
section
namespace Go.Abs
variable {P:Program} {tab:Tab} {σ:Sg}
theorem growBy_le (n:Nat):∀(k c:Nat),Builtin.growBy n k c<=max c (n+(n+768) / 4)
 |0,c=>Nat.le_max_left _ _
 |k+1,c=>by
  simp only [Builtin.growBy]
  split
  ·exact Nat.le_max_left _ _
  ·rename_i h
   have:=growBy_le n k (c+(c+768) / 4)
   omega
theorem nextcap_le {n c:Nat} (h:c<n):Builtin.nextslicecap n c<=2*n+192:=by
 unfold Builtin.nextslicecap
 grind [growBy_le]
section run
variable {t e xt:TypeId} {de:TyD} {ts:Array TypeId} {ux:TypeDesc} {base:Option Addr} {sLen sCap n:Nat} {xv:Value} {w:World}
def notInt:TypeDesc->Prop
 |.int _=>False
 |_=>True
theorem run_append_fit (De:DescOK P e de) (h0:ts[0]?=some t) (h1:ts[1]?=some xt) (hu:P.underlying t=some (.slice e)) (hx:P.underlying xt=some ux) (hn:notInt ux) (ty:TypeId)
 (hl:(Builtin.lenOf xv).run P w=.ok n w) (hle:sLen+n<=sCap) {arr:Array Value} (hf:(Builtin.firstCells de.size n xv).run P w=.ok arr w) {w':World}
 (hs:(match base with | some a=>storeCells (a.add (sLen*de.size)) arr.toList | none=>pure ():Sem Unit).run P w=.ok () w') :
 (Builtin.append_ ts ty #[.slice base sLen sCap,xv]).run P w=.ok (.slice base (sLen+n) sCap) w':=by
 have e0:(#[.slice base sLen sCap,xv]:Array Value)[0]?=some (.slice base sLen sCap):=rfl
 have e1:(#[.slice base sLen sCap,xv]:Array Value)[1]?=some xv:=rfl
 unfold Builtin.append_
 simp only [h0,e0,e1,Sem.run_bind,run_under hu,Result.andThen_ok,De.run_sizeOf,h1,run_under hx]
 cases ux<;>first | exact hn.elim | skip
 all_goals
  simp only [Sem.run_bind,Sem.run_pure,Result.andThen_ok,hl,Bool.false_eq_true,if_false,if_pos hle,hf,Bool.not_false,if_true]
  cases base with
  |none=>simp only [Sem.run_pure] at hs;cases hs;rfl
  |some a=>simp only [Sem.run_bind,hs,Result.andThen_ok,Sem.run_pure]
theorem imax:(IntKind.i64.max:Int)=9223372036854775807:=rfl
def drawnCap (w:World) (need cap:Nat) (e:TypeId):Nat:=(Question.appendCap need cap e).cut (w.tape w.drawn (.appendCap need cap e))
theorem drawnCap_ge (w:World) (need cap:Nat) (e:TypeId):need<=drawnCap w need cap e:=Nat.le_add_right _ _
theorem run_append_grow (De:DescOK P e de) (h0:ts[0]?=some t) (h1:ts[1]?=some xt) (hu:P.underlying t=some (.slice e)) (hx:P.underlying xt=some ux) (hn:notInt ux) (ty:TypeId)
 (hl:(Builtin.lenOf xv).run P w=.ok n w) (hle:¬sLen+n<=sCap) (hroom:roomOk de.bytes (sLen+n)=true) {old new:Array Value}
 (ho:(Builtin.firstCells de.size sLen (.slice base sLen sCap)).run P w.drew=.ok old w.drew) (hf:(Builtin.firstCells de.size n xv).run P w.drew=.ok new w.drew) :
 ∃tail:Array Value,tail.size=(drawnCap w (sLen+n) sCap e-(sLen+n))*de.zero.length/\
 (Builtin.append_ ts ty #[.slice base sLen sCap,xv]).run P w=.ok (.slice (some ⟨w.heap.size,0,none⟩) (sLen+n) (drawnCap w (sLen+n) sCap e)) (w.drew.alloc (.cells (old++new++tail) e)):=by
 have e0:(#[.slice base sLen sCap,xv]:Array Value)[0]?=some (.slice base sLen sCap):=rfl
 have e1:(#[.slice base sLen sCap,xv]:Array Value)[1]?=some xv:=rfl
 obtain ⟨i,hi,hisz,hib⟩:=De.run_infos
 obtain ⟨z,hz,hzc,_⟩:=De.run_zero w.drew
 simp only [roomOk,Bool.and_eq_true,decide_eq_true_eq] at hroom
 have hmax:¬(((sLen+n:Nat):Int)>IntKind.i64.max):=by rw [imax];omega
 have hcap:¬(Builtin.nextslicecap (sLen+n) sCap*i.bytes>2 ^ 48):=by
  rw [hib]
  have:=Nat.mul_le_mul_right de.bytes (nextcap_le (n:=sLen+n) (c:=sCap) (by omega))
  omega
 have hq:(choose (.appendCap (sLen+n) sCap e)).run P w=.ok (drawnCap w (sLen+n) sCap e) w.drew:=by
  rfl
 refine ⟨Builtin.zeroCells z.cells (drawnCap w (sLen+n) sCap e-(sLen+n)),?_,?_⟩
 ·have:z.cells.size=de.zero.length:=by grind
  simp [Builtin.zeroCells,this]
 ·unfold Builtin.append_
  simp only [h0,e0,e1,Sem.run_bind,run_under hu,Result.andThen_ok,De.run_sizeOf,h1,run_under hx]
  cases ux<;>first | exact hn.elim | skip
  all_goals
   simp only [Sem.run_bind,Sem.run_pure,Result.andThen_ok,hl,Bool.false_eq_true,if_false,if_neg hle,hi,if_neg hcap,false_or,hmax,false_and,hq,run_askRoom,ho,hf,Bool.not_false,if_true,hz,newRow,run_newObj]
   rfl
theorem run_append_zeros (De:DescOK P e de) (h0:ts[0]?=some t) (h1:ts[1]?=some xt) (hu:P.underlying t=some (.slice e)) {k:IntKind} (hx:P.underlying xt=some (.int k)) (ty:TypeId)
 {kk:IntKind} {l:Int} (hl:0<l/\l<=2 ^ 40) (hroom:roomOk de.bytes l.toNat=true) (hzl:de.zero.length=de.size) :
 ∃tail:Array Value,tail.size=(drawnCap w l.toNat 0 e-l.toNat)*de.zero.length/\
 (Builtin.append_ ts ty #[.slice none 0 0,.int kk l]).run P w=.ok (.slice (some ⟨w.heap.size,0,none⟩) l.toNat (drawnCap w l.toNat 0 e)) (w.drew.alloc (.cells ((List.replicate l.toNat de.zero).flatten.toArray++tail) e)):=by
 have e0:(#[.slice none 0 0,.int kk l]:Array Value)[0]?=some (.slice none 0 0):=rfl
 have e1:(#[.slice none 0 0,.int kk l]:Array Value)[1]?=some (.int kk l):=rfl
 obtain ⟨i,hi,hisz,hib⟩:=De.run_infos
 obtain ⟨z,hz,hzc,_⟩:=De.run_zero w.drew
 simp only [roomOk,Bool.and_eq_true,decide_eq_true_eq] at hroom
 have hw:IntKind.i64.wrap l=l:=by
  rw [show IntKind.i64.wrap l=if l % 18446744073709551616>=9223372036854775808 then l % 18446744073709551616-18446744073709551616 else l % 18446744073709551616 by simp [IntKind.wrap,IntKind.bits,IntKind.signed]]
  split<;>omega
 have hmax:¬(((0+l.toNat:Nat):Int)>IntKind.i64.max):=by rw [imax];omega
 have hcap:¬(Builtin.nextslicecap (0+l.toNat) 0*i.bytes>2 ^ 48):=by
  rw [hib]
  have:=Nat.mul_le_mul_right de.bytes (nextcap_le (n:=0+l.toNat) (c:=0) (by omega))
  grind
 have hb:¬(l*(i.bytes:Int)>2 ^ 48):=by
  grind
 have hq:(choose (.appendCap (0+l.toNat) 0 e)).run P w=.ok (drawnCap w l.toNat 0 e) w.drew:=by
  simp only [run_choose,Question.forced,Nat.zero_add]
  rfl
 have hzz:z.cells.size=de.zero.length:=by grind
 have hrep:Builtin.zeroCells z.cells l.toNat=(List.replicate l.toNat de.zero).flatten.toArray:=by
  apply Array.ext'
  rw [Builtin.zeroCells,Array.toList_map,Array.toList_range]
  grind [range_repeat]
 have hle:¬(0+l.toNat<=0):=by omega
 have hl0:¬(l<0):=by omega
 refine ⟨Builtin.zeroCells z.cells (drawnCap w l.toNat 0 e-l.toNat),by simp [Builtin.zeroCells,hzz],?_⟩
 unfold Builtin.append_
 simp only [h0,e0,e1,Sem.run_bind,run_under hu,Result.andThen_ok,De.run_sizeOf,h1,run_under hx,Sem.run_pure,asInt,asIntOf,hw,hl0,if_false,hi,if_neg hb,if_true,if_neg hle,hmax,false_and,if_neg hcap,hq,run_askRoom]
 have hfc:(Builtin.firstCells de.size 0 (.slice none 0 0)).run P w.drew=.ok #[] w.drew:=rfl
 have hap:(if (!true)=true then Builtin.firstCells de.size l.toNat (.int kk l)
  else if l.toNat*de.size=0 then pure #[]
   else do
    let q <-zeroValue e
    pure (Builtin.zeroCells q.cells l.toNat):Sem (Array Value)).run P w.drew=.ok (List.replicate l.toNat de.zero).flatten.toArray w.drew:=by
  grind [List.eq_nil_of_length_eq_zero,List.length_flatten,List.map_replicate,List.sum_replicate_nat,Sem.run_bind,Result.andThen_ok,Sem.run_pure]
 simp only [hfc,Result.andThen_ok,hap,hz,newRow,Sem.run_bind,run_newObj,Sem.run_pure,Nat.zero_add,Array.empty_append]
 rfl
end run
theorem grown_ok (sr:SR σ) {st:Nat} (hd:¬σ.dead st) {s:Nat} {es:List (List AV)} (hn:σ.h st=none\/∃es0 fz0,σ.h st=some (.cells es0 s fz0)/\es0.length<es.length) {fz:Nat} {vs:List Value} {t:TypeId}
 (hv:VRs σ es.flatten vs) (hs:∀e∈es,e.length=s) {tail:Array Value} {cap:Nat} (hcap:es.length<=cap) (htail:tail.size=(cap-es.length)*s) :
 ∃σ',σ'.w=σ.w.drew.alloc (.cells (vs.toArray++tail) t)/\σ'.h=upd σ.h st (some (.cells es s fz))/\σ'.dead=σ.dead/\Le σ σ'/\SR σ'/\
  VR σ' (.sl st es.length 0 es.length none) (.slice (some ⟨σ.w.heap.size,0,none⟩) es.length cap):=by
 have sr0:=sr_drew sr
 have l0:=le_drew σ
 obtain ⟨l,sr'⟩:=new_row (σ:=σ.drew) sr0 (n:=st) es s fz tail.toList t (0,0) hd hn (hv.mono l0) hs (by omega)
 refine ⟨σ.drew.make st (.cells (vs++tail.toList).toArray t (0,0)) (.cells es s fz),?_,rfl,rfl,l0.trans sr0 l sr',sr',?_⟩
 ·show σ.w.drew.alloc _=_
  congr 2
  grind
 ·have hr:(σ.drew.make st (.cells (vs++tail.toList).toArray t (0,0)) (.cells es s fz)).r st=σ.w.heap.size:=upd_same _ _ _
  have hvl:=hv.length
  rw [flatten_length hs] at hvl
  have hblk:(σ.drew.make st (.cells (vs++tail.toList).toArray t (0,0)) (.cells es s fz)).w.heap[(σ.drew.make st (.cells (vs++tail.toList).toArray t (0,0)) (.cells es s fz)).r st]?=some (.cells (vs++tail.toList).toArray t (0,0)):=by
   rw [hr];exact heap_alloc_at σ.w.drew _
  have:=VR.sl (σ:=σ.drew.make st (.cells (vs++tail.toList).toArray t (0,0)) (.cells es s fz)) (n:=st) (off:=0) (len:=es.length) (cap':=cap) (cap:=none) (es:=es) (s:=s) (fz:=fz) (upd_same _ _ _) hblk (by omega) (by
   simp only [List.size_toArray,List.length_append,Array.length_toList,Nat.zero_add]
   rw [hvl,htail,<-Nat.add_mul]
   grind) hcap ⟨λc e=>(by cases e),λ_=>by omega⟩
  grind
theorem append_ok (tabOk:TabOK P tab) (sr:SR σ) {H:Heap} {st:Nat} (hfr:Fresh σ st) {t e xt:TypeId} {de:TyD} (hde:tab e=some de) {ts:Array TypeId} (h0:ts[0]?=some t) (h1:ts[1]?=some xt)
 (hu:P.underlying t=some (.slice e)) {ux:TypeDesc} (hxt:P.underlying xt=some ux) (hni:notInt ux) (ty:TypeId) {s:AV} {sv xv:Value} (hs:VR σ s sv) {xs:List (List AV)} {vs:List Value} (hx:Src P σ de.size xs xv vs)
 {rd:List Nat} {r:Res} (h:appendA H st de s xs rd=some r) (hf:Foot H σ r) (hfd:∀m∈rd,look H.objs m=σ.h m) :
 ∃rd' ups nw,r.e=.loc rd' ups nw/\((∃m o,ups=[(m,o)]/\(m=st\/nw=0)/\nw<=1/\Md P (Builtin.append_ ts ty #[sv,xv]) σ r.v (upd σ.h m (some o)))\/(ups=[]/\nw=0/\Qt P (Builtin.append_ ts ty #[sv,xv]) σ r.v)):=by
 have De:=tabOk e de hde
 have hvl:=hx.vrs.length
 rw [flatten_length hx.all] at hvl
 have hfc0:∀w,w.heap=σ.w.heap->(Builtin.firstCells de.size xs.length xv).run P w=.ok vs.toArray w:=λw hw=>by
  have:=hx.cells xs.length w (Nat.le_refl _) hw
  rwa [List.take_of_length_le (by omega)] at this
 have fresh:∀(old:List (List AV)) (rd':List Nat) (base:Option Addr) (cap':Nat) (ovs:List Value),sv=.slice base old.length cap'->¬old.length+xs.length<=cap'->roomOk de.bytes (old.length+xs.length)=true->
  VRs σ old.flatten ovs->(∀q∈old,q.length=de.size)->(Builtin.firstCells de.size old.length sv).run P σ.w.drew=.ok ovs.toArray σ.w.drew->
  Md P (Builtin.append_ ts ty #[sv,xv]) σ (.sl st (old.length+xs.length) 0 (old.length+xs.length) none) (upd σ.h st (some (.cells (old++xs) de.size 0))):=by
  rintro old rd' base cap' ovs rfl hle hroom hov hoall hof
  obtain ⟨tail,ht,hrun⟩:=run_append_grow (P:=P) (n:=xs.length) De h0 h1 hu hxt hni ty (hx.len σ.w) hle hroom hof (hfc0 _ rfl)
  have hl:(old++xs).length=old.length+xs.length:=by simp
  obtain ⟨σ',w1,w2,w3,l,sr',hvr⟩:=grown_ok (σ:=σ) sr hfr.2 (.inl hfr.1) (es:=old++xs) (s:=de.size) (fz:=0) (t:=e) (vs:=ovs++vs) (by rw [List.flatten_append];exact hov.append hx.vrs) (λq hq=>by
   rcases List.mem_append.1 hq with hq | hq
   ·grind
   ·exact hx.all q hq) (tail:=tail) (cap:=drawnCap σ.w (old.length+xs.length) cap' e) (by grind [drawnCap_ge]) (by rw [hl,<-De.zlen];exact ht)
  rw [hl] at hvr
  exact ⟨σ',.slice (some ⟨σ.w.heap.size,0,none⟩) (old.length+xs.length) (drawnCap σ.w (old.length+xs.length) cap' e),by grind,w2,w3,l,sr',hvr⟩
 unfold appendA at h
 simp only [] at h
 split at h
 ·
  rename_i hxl
  have hxl0:xs=[]:=List.eq_nil_of_length_eq_zero hxl
  subst hxl0
  have hvs:vs=[]:=List.eq_nil_of_length_eq_zero (by grind)
  subst hvs
  have fin:∀base len cap',sv=.slice base len cap'->len<=cap'->(base≠none\/True)->Qt P (Builtin.append_ ts ty #[sv,xv]) σ s:=by
   rintro base len cap' rfl hle _
   refine ⟨.slice base len cap',?_,hs⟩
   have:=run_append_fit (P:=P) (n:=0) (base:=base) (sLen:=len) (sCap:=cap') De h0 h1 hu hxt hni ty (hx.len σ.w) (by omega) (hfc0 _ rfl) (w':=σ.w) (by cases base<;>rfl)
   omega
  split at h
  ·cases h
   obtain ⟨rfl,_⟩:=hs.sc_inv
   grind
  ·cases h
   obtain ⟨a,vs',s',cap,rfl,_,_,_,hc,_⟩:=hs.isl_inv
   grind
  ·cases h
   cases hs with
   |tree h=>cases h
   |sl hn hw hl hr hle hc=>grind
   |stale h=>obtain ⟨_,a,c,rfl,hle⟩:=h;grind
  ·cases h
 ·rename_i hxl
  split at h
  ·
   split at h
   ·rename_i hroom
    cases h
    obtain ⟨rfl,_⟩:=hs.sc_inv
    exact ⟨_,_,_,rfl,.inl ⟨st,_,rfl,.inl rfl,Nat.le_refl _,fresh [] [] none 0 [] rfl (by omega) (by omega) .nil (by simp) rfl⟩⟩
   ·cases h
  ·
   rename_i es
   split at h
   ·rename_i hall
    split at h
    ·rename_i hroom
     cases h
     have hall':∀q∈es,q.length=de.size:=λq hq=>by grind
     obtain ⟨a,ovs,s',cap,rfl,ht,hr,hss,hc,hcd⟩:=hs.isl_inv
     have hcap:=hcd rfl
     have hovl:=ht.length
     rw [flatten_length hall'] at hovl
     refine ⟨_,_,_,rfl,.inl ⟨st,_,rfl,.inl rfl,Nat.le_refl _,fresh es [] _ cap ovs rfl (by omega) hroom ht.vrs hall' ?_⟩⟩
     have:=run_loadsR (P:=P) (w':=σ.w.drew) ht hr rfl (es.length*de.size) (by omega)
     rw [List.take_of_length_le (by omega)] at this
     exact this
    ·cases h
   ·cases h
  ·
   rename_i n g off len cap
   split at h
   ·rename_i es s' fz ho
    split at h
    ·rename_i hcond
     obtain ⟨hg,hss,hol⟩:=hcond
     subst hss
     have getn:∀(v:AV) (o:AO),some r=some ⟨v,.loc (n::rd) [(n,o)] 0⟩ ->σ.h n=some (.cells es de.size fz):=λv o e=>by
      cases e;rw [<-hf _ _ _ rfl n (by simp)];exact ho
     have inplace:∀v,(if fz<=off+len/\xs.all (·.all AV.storable) then some ⟨.sl n g off (len+xs.length) cap,.loc (n::rd) [(n,.cells (es.take (off+len)++xs++es.drop (off+len+xs.length)) de.size fz)] 0⟩ else none)=some v->v=r->
      off+len+xs.length<=g->(∀c,cap=some c->len+xs.length<=c)->
      ∃rd' ups nw,r.e=.loc rd' ups nw/\((∃m o,ups=[(m,o)]/\(m=st\/nw=0)/\nw<=1/\Md P (Builtin.append_ ts ty #[sv,xv]) σ r.v (upd σ.h m (some o)))\/(ups=[]/\nw=0/\Qt P (Builtin.append_ ts ty #[sv,xv]) σ r.v)):=by
      intro v hv hvr hle hcl
      split at hv
      ·rename_i hcc
       obtain ⟨hfz,hst⟩:=hcc
       subst hvr
       cases hv
       have hn:=getn _ _ rfl
       refine ⟨_,_,_,rfl,.inl ⟨n,_,rfl,.inr rfl,by omega,?_⟩⟩
       obtain ⟨cap',arr,t',rg,rfl,hw,hl,hr,hle',hcap⟩:=hs.sl_inv sr hn hg
       obtain ⟨σ',w0,w1,w2,w3,w4,l,sr'⟩:=over_ok (P:=P) sr hs hn hg hx.vrs hx.all (at_:=off+len) hle hfz (λq hq=>(List.all_eq_true.1 hst) q hq)
       refine ⟨σ',.slice (some ⟨σ.r n,off*de.size,none⟩) (len+xs.length) cap',?_,w2,w3,l,sr',?_⟩
       ·have hfit:len+xs.length<=cap':=by
         cases hcc:cap with
         |none=>have:=hcap.2 hcc;omega
         |some c=>have:=(hcap.1 c hcc).1;grind
        refine run_append_fit (P:=P) De h0 h1 hu hxt hni ty (hx.len σ.w) hfit (hfc0 _ rfl) ?_
        grind [Addr.add_mid,Nat.add_mul]
       ·have hl2:(es.take (off+len)++xs++es.drop (off+len+xs.length)).length=es.length:=by grind
        have hmv:=hs.mono l
        obtain ⟨arr0,t0,rg0,full,q1,qj,q2,q3,q4,q5,q6,q7⟩:=sr'.obj n _ (by rw [w2];exact upd_same _ _ _)
        have hasz:arr0.size=arr.size:=by
         rw [w4,w1,heap_setCells _ _ _ _ _ _ _ hw] at q1
         grind [arrSet_size]
        have:=VR.sl (σ:=σ') (n:=n) (off:=off) (len:=len+xs.length) (cap':=cap') (cap:=cap) (by rw [w2];exact upd_same _ _ _) q1 (by omega) (by omega) (by
         cases hcc:cap with
         |none=>have:=hcap.2 hcc;omega
         |some c=>have:=(hcap.1 c hcc).1;grind) (by grind)
        grind
      grind
     split at h
     ·rename_i c
      split at h
      ·rename_i hoc
       split at h
       ·grind
       ·rename_i hlc
        split at h
        ·rename_i hroom
         cases h
         have hn:σ.h n=some (.cells es de.size fz):=by rw [<-hf _ _ _ rfl n (by simp)];exact ho
         obtain ⟨cap',arr,t',rg,rfl,hw,hl,hr,hle',hcap⟩:=hs.sl_inv sr hn hg
         obtain ⟨arr0,t0,rg0,full,q1,qj,q2,q3,q4,q5,q6,q7⟩:=sr.obj n _ hn
         have hsub:∀e∈(es.drop off).take len,e.length=de.size:=λe he=>q4 e (List.mem_of_mem_drop (List.mem_of_mem_take he))
         have hov:VRs σ ((es.drop off).take len).flatten ((full.drop (off*de.size)).take (len*de.size)):=by
          rw [flatten_take len (λe he=>q4 e (List.mem_of_mem_drop he)),flatten_drop off q4]
          exact (q3.drop _).take _
         have hlen:((es.drop off).take len).length=len:=by grind
         have hovl:=hov.length
         rw [flatten_length hsub,hlen] at hovl
         have hcc:=(hcap.1 c rfl).1
         refine ⟨_,_,_,rfl,.inl ⟨st,_,rfl,.inl rfl,Nat.le_refl _,fresh _ [] (some ⟨σ.r n,off*de.size,none⟩) cap' _ (by rw [hlen]) (by omega) hroom hov hsub ?_⟩⟩
         rw [hlen]
         have:=run_loads (P:=P) (w:=σ.w.drew) (b:=σ.r n) (o:=off*de.size) (vs:=(full.drop (off*de.size)).take (len*de.size)) (λj v hv=>by
          grind [World.cell?_drew,cell_of_heap]) (len*de.size) (by omega)
         rw [List.take_of_length_le (by omega)] at this
         exact this
        ·cases h
      ·cases h
     ·split at h
      ·rename_i hle
       exact inplace _ h rfl hle (λc e=>by cases e)
      ·rename_i hgt
       split at h
       ·rename_i hcc
        obtain ⟨hoff,hlg,hfz,hroom,hst⟩:=hcc
        cases h
        subst hoff
        subst hlg
        have hn:σ.h n=some (.cells es de.size fz):=by grind
        obtain ⟨cap',arr,t',rg,rfl,hw,hl,hr,hle',hcap⟩:=hs.sl_inv sr hn hg
        obtain ⟨arr0,t0,rg0,full,q1,qj,q2,q3,q4,q5,q6,q7⟩:=sr.obj n _ hn
        rw [hw] at q1
        cases q1
        have hfull:=q3.length
        have hfl:=flatten_length q4
        have hall2:∀q∈es++xs,q.length=de.size:=λq hq=>by
         rcases List.mem_append.1 hq with hq | hq
         ·grind
         ·exact hx.all q hq
        have hl2:(es++xs).length=len+xs.length:=by grind
        refine ⟨_,_,_,rfl,.inl ⟨n,_,rfl,.inr rfl,by omega,?_⟩⟩
        by_cases hfit:len+xs.length<=cap'
        ·
         have hb:=Nat.mul_le_mul_right de.size hfit
         rw [Nat.add_mul] at hb
         rw [Nat.zero_add] at hr
         obtain ⟨l,sr'⟩:=write_own sr hn hx.vrs (es':=es++xs) (o:=es.flatten.length) (by rw [List.flatten_append,List.take_length,List.drop_of_length_le (Nat.le_add_right _ _),List.append_nil]) (Nat.le_refl _) (by rw [hfl,hg];exact Nat.mul_le_mul_right _ hfz) (by simp) hall2 hw (by grind)
         refine ⟨σ.write n es.flatten.length vs (.cells (es++xs) de.size fz),.slice (some ⟨σ.r n,0*de.size,none⟩) (len+xs.length) cap',?_,rfl,rfl,l,sr',?_⟩
         ·refine run_append_fit (P:=P) De h0 h1 hu hxt hni ty (hx.len σ.w) hfit (hfc0 _ rfl) ?_
          simp only [Addr.add_mid]
          have:=run_storeCells_cells (P:=P) (σ.r n) (0*de.size+len*de.size) vs 0 σ.w (λj hj=>by
           rw [cell_of_heap hw]
           grind) (λj hj=>by
           have:=q2 (0*de.size+len*de.size+0+j) (by omega)
           simp only [World.frozen?,hw]
           grind) (storables_vr hx.vrs (by
           grind))
          show _=Result.ok () (σ.w.setCells (σ.r n) es.flatten.length vs)
          grind
         ·have hblk:(σ.write n es.flatten.length vs (.cells (es++xs) de.size fz)).w.heap[σ.r n]?=some (.cells (arrSet arr es.flatten.length vs) t' rg):=heap_setCells vs _ σ.w (σ.r n) arr t' rg hw
          have:=VR.sl (σ:=σ.write n es.flatten.length vs (.cells (es++xs) de.size fz)) (n:=n) (off:=0) (len:=len+xs.length) (cap':=cap') (cap:=none) (upd_same _ _ _) hblk (by omega)
           (by grind [arrSet_size]) hfit ⟨λc e=>(by cases e),λ_=>by omega⟩
          rw [hl2] at this
          exact this
        ·
         obtain ⟨tail,ht,hrun⟩:=run_append_grow (P:=P) (n:=xs.length) (base:=some ⟨σ.r n,0*de.size,none⟩) De h0 h1 hu hxt hni ty (hx.len σ.w) hfit hroom (old:=full.toArray) (by
          have:=run_loads (P:=P) (w:=σ.w.drew) (b:=σ.r n) (o:=0*de.size) (vs:=full) (λj v hv=>by
           grind [World.cell?_drew,cell_of_heap]) (len*de.size) (by grind)
          rw [List.take_of_length_le (by grind)] at this
          simpa only [Builtin.firstCells] using this) (hfc0 _ rfl)
         obtain ⟨σ',w1,w2,w3,l,sr',hvr⟩:=grown_ok (σ:=σ) sr (st:=n) (sr.alive n _ hn) (.inr ⟨es,fz,hn,by omega⟩) (es:=es++xs) (s:=de.size) (fz:=fz) (t:=e) (vs:=full++vs) (by rw [List.flatten_append];exact q3.append hx.vrs) hall2
          (tail:=tail) (cap:=drawnCap σ.w (len+xs.length) cap' e) (by grind [drawnCap_ge]) (by rw [hl2,<-De.zlen];exact ht)
         rw [hl2] at hvr
         exact ⟨σ',_,by grind,w2,w3,l,sr',hvr⟩
       ·cases h
    ·cases h
   ·cases h
  ·cases h
end Go.Abs
end
section
namespace Go.Abs
variable {P:Program} {tab:Tab} {σ:Sg}
def Ends (P:Program) (s:Sem Value) (σ:Sg) (st:Nat) (r:Res):Prop:=
 ∃rd ups nw,r.e=.loc rd ups nw/\((∃m o,ups=[(m,o)]/\(m=st\/nw=0)/\nw<=1/\Md P s σ r.v (upd σ.h m (some o)))\/(ups=[]/\nw=0/\Qt P s σ r.v))
theorem overwrite_ok (sr:SR σ) {H:Heap} {dst:AV} {dv:Value} (hd:VR σ dst dv) {s:Nat} {new:List (List AV)} {vs:List Value} (hv:VRs σ new.flatten vs) (hall:∀e∈new,e.length=s) {v:AV} {rd:List Nat} {r:Res}
 (h:overwrite H dst s new v rd=some r) (hf:Foot H σ r) {sem:Sem Value} {x:Value} (hx:∀σ',VR σ' v x)
 (hrun:∀w',(∀base len cap,dv=.slice base len cap->(match base with | some a=>storeCells a vs | none=>pure ():Sem Unit).run P σ.w=.ok () w')->sem.run P σ.w=.ok x w')
 (hsl:∃base len cap,dv=.slice base len cap) (st:Nat):Ends P sem σ st r:=by
 unfold overwrite at h
 split at h
 ·rename_i hl
  have:new=[]:=List.eq_nil_of_length_eq_zero hl
  subst this
  cases hv
  cases h
  refine ⟨_,_,_,rfl,.inr ⟨rfl,rfl,x,hrun σ.w (λbase len cap e=>?_),hx σ⟩⟩
  cases base<;>rfl
 ·split at h
  ·rename_i n g off len cap
   split at h
   ·rename_i es s' fz ho
    split at h
    ·rename_i hc
     obtain ⟨hg,hs,hnl,hol,hfz,hst⟩:=hc
     subst hs
     cases h
     have hn:σ.h n=some (.cells es s' fz):=by rw [<-hf _ _ _ rfl n (by simp)];exact ho
     obtain ⟨cap',arr,t',rg,rfl,hw,hl,hr,hle,hcap⟩:=hd.sl_inv sr hn hg
     obtain ⟨σ',w0,w1,w2,w3,w4,l,sr'⟩:=over_ok (P:=P) sr hd hn hg hv hall (at_:=off) (by omega) hfz (λq hq=>(List.all_eq_true.1 hst) q hq)
     refine ⟨_,_,_,rfl,.inl ⟨n,_,rfl,.inr rfl,by omega,σ',x,?_,w2,w3,l,sr',hx σ'⟩⟩
     refine hrun _ (λbase len' cap'' e=>?_)
     cases e
     simp only []
     rw [w0 σ.w rfl,w1]
    ·cases h
   ·cases h
  ·cases h
theorem copy_ok (tabOk:TabOK P tab) (sr:SR σ) {H:Heap} {t:TypeId} {d:TyD} (hd:tab t=some d) {dst src:AV} {dv sv:Value} (hdv:VR σ dst dv) (hsv:VR σ src sv) {r:Res} (ts:Array TypeId) (hts:ts[0]?=some t) (ty:TypeId)
 (h:copyA tab H d dst src=some r) (hf:Foot H σ r) (st:Nat):Ends P (Builtin.copy_ ts ty #[dv,sv]) σ st r:=by
 have D:=tabOk t d hd
 have hu:=D.under
 have e0:(#[dv,sv]:Array Value)[0]?=some dv:=rfl
 have e1:(#[dv,sv]:Array Value)[1]?=some sv:=rfl
 unfold copyA at h
 split at h
 ·rename_i e hk
  simp only [KOK,hk] at hu
  split at h
  ·rename_i de hde
   have De:=tabOk e de hde
   simp only [] at h
   split at h
   ·rename_i es rd dl hsrc hdl
    have hfr:∀m∈rd,look H.objs m=σ.h m:=by
     intro m hm
     unfold overwrite at h
     split at h
     ·cases h;exact hf _ _ _ rfl m hm
     ·split at h
      ·split at h
       ·split at h
        ·cases h;exact hf _ _ _ rfl m (by simp [hm])
        ·cases h
       ·cases h
      ·cases h
    have hS:∃vs,Src P σ de.size es sv vs:=by
     split at hsrc
     ·rename_i x
      split at hsrc
      ·rename_i h1
       cases hsrc
       obtain ⟨rfl,_⟩:=hsv.sc_inv
       rw [h1]
       exact ⟨_,string_src x⟩
      ·cases hsrc
     ·exact (shown_src sr hsv hsrc hfr).1
    obtain ⟨vs,hS⟩:=hS
    have hD:∃base cap,dv=.slice base dl cap/\(base=none->dl=0):=by
     split at hdl
     ·cases hdl
      obtain ⟨rfl,_⟩:=hdv.sc_inv
      exact ⟨none,0,rfl,λ_=>rfl⟩
     ·cases hdl
      cases hdv with
      |tree h=>cases h
      |sl=>exact ⟨_,_,rfl,λe=>by cases e⟩
      |stale h=>obtain ⟨_,a,c,rfl,_⟩:=h;exact ⟨_,_,rfl,λe=>by cases e⟩
     ·cases hdl
    obtain ⟨base,cap,rfl,hbn⟩:=hD
    have hall:∀q∈es.take dl,q.length=de.size:=λq hq=>hS.all q (List.mem_of_mem_take hq)
    have hv:VRs σ (es.take dl).flatten (vs.take (dl*de.size)):=by
     rw [flatten_take dl hS.all];exact hS.vrs.take _
    refine overwrite_ok sr hdv hv hall h hf (x:=goInt (min es.length dl:Nat)) (λσ'=>.tree (.sc rfl)) (λw' hw=>?_) ⟨_,_,_,rfl⟩ st
    have hs:=hw _ _ _ rfl
    have hfc:=hS.cells (min es.length dl) σ.w (Nat.min_le_left _ _) rfl
    have htk:vs.take (min es.length dl*de.size)=vs.take (dl*de.size):=by
     have hvl:=hS.vrs.length
     rw [flatten_length hS.all] at hvl
     by_cases hle:es.length<=dl
     ·rw [Nat.min_eq_left hle,List.take_of_length_le (by omega),List.take_of_length_le (by rw [hvl];exact Nat.mul_le_mul_right _ hle)]
     ·rw [Nat.min_eq_right (by omega)]
    rw [htk] at hfc
    have hmin:Nat.min es.length dl=min es.length dl:=rfl
    unfold Builtin.copy_
    simp only [hts,e0,e1,Sem.run_bind,run_under hu,Result.andThen_ok,hS.len,De.run_sizeOf,hmin,hfc]
    cases base with
    |none=>
     simp only [Sem.run_pure] at hs
     cases hs
     rfl
    |some a=>
     simp only [Sem.run_bind,List.toList_toArray,hs,Result.andThen_ok,Sem.run_pure]
   ·cases h
  ·cases h
 ·cases h
theorem clear_ok (tabOk:TabOK P tab) (sr:SR σ) {H:Heap} {t:TypeId} {d:TyD} (hd:tab t=some d) {x:AV} {xv:Value} (hx:VR σ x xv) {r:Res} (ts:Array TypeId) (hts:ts[0]?=some t) (ty:TypeId)
 (h:clearA tab H d x=some r) (hf:Foot H σ r) (st:Nat):Ends P (Builtin.clear_ ts ty #[xv]) σ st r:=by
 have D:=tabOk t d hd
 have hu:=D.under
 have e0:(#[xv]:Array Value)[0]?=some xv:=rfl
 unfold clearA at h
 split at h
 ·rename_i e hk
  simp only [KOK,hk] at hu
  split at h
  ·rename_i de hde
   have De:=tabOk e de hde
   obtain ⟨z,hz,hzc,_⟩:=De.run_zero σ.w
   split at h
   ·cases h
    obtain ⟨rfl,_⟩:=hx.sc_inv
    refine ⟨_,_,_,rfl,.inr ⟨rfl,rfl,.tuple #[],?_,.tree (.sc rfl)⟩⟩
    unfold Builtin.clear_
    simp only [hts,e0,Sem.run_bind,run_under hu,Result.andThen_ok,Sem.run_pure]
   ·rename_i n g off len cap
    have hD:∃a c,xv=.slice (some a) len c:=by
     cases hx with
     |tree h=>cases h
     |sl=>exact ⟨_,_,rfl⟩
     |stale h=>obtain ⟨_,a,c,rfl,_⟩:=h;exact ⟨_,_,rfl⟩
    obtain ⟨a,c,rfl⟩:=hD
    refine overwrite_ok sr hx (replicate_vr De.zsc len) (s:=de.size) (λq hq=>by rw [List.eq_of_mem_replicate hq];simpa using De.zlen) h hf (x:=.tuple #[]) (λσ'=>.tree (.sc rfl)) (λw' hw=>?_) ⟨_,_,_,rfl⟩ st
    have hs:=hw _ _ _ rfl
    simp only [] at hs
    have hzz:z.cells.size=de.zero.length:=by rw [<-hzc];simp
    have hrep:(Builtin.zeroCells z.cells len).toList=(List.replicate len de.zero).flatten:=by
     rw [Builtin.zeroCells,Array.toList_map,Array.toList_range]
     have:=range_repeat (s:=de.zero.length) z.cells.toList (by rw [hzc]) len
     rw [show z.cells.toList.toArray=z.cells from Array.toArray_toList,hzc] at this
     rw [hzz]
     rw [hzz] at this
     exact this
    unfold Builtin.clear_
    simp only [hts,e0,Sem.run_bind,run_under hu,Result.andThen_ok]
    cases len with
    |zero=>
     simp only [List.replicate_zero,List.flatten_nil] at hs
     cases hs
     rfl
    |succ len=>simp only [Sem.run_bind,hz,Result.andThen_ok,hrep,hs,Sem.run_pure]
   ·cases h
  ·cases h
 ·rename_i kt et hk
  simp only [KOK,hk] at hu
  split at h
  ·rename_i n
   split at h
   ·rename_i ks vs bs clock ho
    cases h
    have hn:σ.h n=some (.map ks vs bs clock false):=by rw [<-hf _ _ _ rfl n (by simp)];exact ho
    obtain ⟨ents,vs0,q1,q2,q3,q4,q5⟩:=sr.obj n _ hn
    obtain ⟨l,sr'⟩:=write_map sr hn (clock':=clock) (es':=#[]) (ks':=[]) (bs':=[]) (vs':=[]) (xs':=[]) .nil ⟨rfl,rfl⟩ rfl
    refine ⟨_,_,_,rfl,.inl ⟨n,_,rfl,.inr rfl,by omega,σ.setMap n #[] clock (.map [] [] [] clock false),.tuple #[],?_,rfl,rfl,l,sr',.tree (.sc rfl)⟩⟩
    have hxv:=hx.mp_inv sr hn
    subst hxv
    unfold Builtin.clear_
    simp only [hts,e0,Sem.run_bind,run_under hu,Result.andThen_ok,run_getObj_map q1,run_setObj q1,Sem.run_pure]
    rfl
   ·cases h
  ·cases h
 ·cases h
theorem append_zeros_ok (tabOk:TabOK P tab) (sr:SR σ) {H:Heap} {st:Nat} (hfr:Fresh σ st) {t e xt:TypeId} {de:TyD} (hde:tab e=some de) {ts:Array TypeId} (h0:ts[0]?=some t) (h1:ts[1]?=some xt)
 (hu:P.underlying t=some (.slice e)) {k kk:IntKind} (hxt:P.underlying xt=some (.int k)) (ty:TypeId) {n:Int} (hn:0<n/\n<=2 ^ 40/\de.zero.length=de.size) {r:Res}
 (h:appendA H st de (.sc (.slice none 0 0)) (List.replicate n.toNat (de.zero.map .sc)) []=some r):Ends P (Builtin.append_ ts ty #[.slice none 0 0,.int kk n]) σ st r:=by
 have De:=tabOk e de hde
 unfold appendA at h
 simp only [List.length_replicate,List.length_nil,Nat.zero_add,List.nil_append] at h
 split at h
 ·omega
 ·split at h
  ·rename_i hroom
   cases h
   obtain ⟨tail,ht,hrun⟩:=run_append_zeros (P:=P) (w:=σ.w) (kk:=kk) De h0 h1 hu hxt ty (l:=n) ⟨hn.1,hn.2.1⟩ hroom hn.2.2
   have hl:(List.replicate n.toNat (de.zero.map AV.sc)).length=n.toNat:=List.length_replicate
   obtain ⟨σ',w1,w2,w3,l,sr',hvr⟩:=grown_ok (σ:=σ) sr hfr.2 (.inl hfr.1) (es:=List.replicate n.toNat (de.zero.map .sc)) (s:=de.size) (fz:=0) (t:=e) (replicate_vr De.zsc n.toNat) (λq hq=>by
    rw [List.eq_of_mem_replicate hq];simpa using hn.2.2) (tail:=tail) (cap:=drawnCap σ.w n.toNat 0 e) (by rw [hl];exact drawnCap_ge _ _ _ _) (by rw [hl,<-hn.2.2];exact ht)
   rw [hl] at hvr
   exact ⟨_,_,_,rfl,.inl ⟨st,_,rfl,.inl rfl,Nat.le_refl _,σ',_,by rw [hrun,w1],w2,w3,l,sr',hvr⟩⟩
  ·cases h
end Go.Abs
end
section
namespace Go.Abs
variable {P:Program} {tab:Tab} {σ:Sg}
def Runs (P:Program) (o:Oper) (a:Act) (w:World) (x:Value) (w':World):Prop:=
 (execOp a.eval o).run P w=.ok (.value x) w'\/((execOp a.eval o).run P w=.ok .skip w'/\x=undef)
def OpMd (P:Program) (o:Oper) (a:Act) (σ:Sg) (v:AV) (h':Nat->Option AO):Prop:=
 ∃σ' x,Runs P o a σ.w x σ'.w/\σ'.h=h'/\σ'.dead=σ.dead/\Le σ σ'/\SR σ'/\VR σ' v x
def OpEnds (P:Program) (o:Oper) (a:Act) (σ:Sg) (st:Nat) (r:Res):Prop:=
 ∃rd ups nw,r.e=.loc rd ups nw/\((∃m ob,ups=[(m,ob)]/\(m=st\/nw=0)/\nw<=1/\OpMd P o a σ r.v (upd σ.h m (some ob)))\/(ups=[]/\nw=0/\OpMd P o a σ r.v σ.h))
theorem runs_v {o:Oper} {a:Act} {s:Sem Value} (e:execOp a.eval o=(do pure (.value (<-s)))) {w w':World} {x:Value} (h:s.run P w=.ok x w'):Runs P o a w x w':=by
 left
 simp_all
theorem runs_u {o:Oper} {a:Act} {s:Sem Unit} (e:execOp a.eval o=(do s;pure .skip)) {w w':World} (h:s.run P w=.ok () w'):Runs P o a w undef w':=by
 right
 simp_all
theorem OpMd.of_qt (sr:SR σ) {o:Oper} {a:Act} {s:Sem Value} {v:AV} (e:execOp a.eval o=(do pure (.value (<-s)))) (h:Qt P s σ v):OpMd P o a σ v σ.h:=by
 obtain ⟨x,h1,h2⟩:=h
 exact ⟨σ,x,runs_v e h1,rfl,rfl,Le.refl σ,sr,h2⟩
theorem OpMd.of_md {o:Oper} {a:Act} {s:Sem Value} {v:AV} {h':Nat->Option AO} (e:execOp a.eval o=(do pure (.value (<-s)))) (h:Md P s σ v h'):OpMd P o a σ v h':=by
 obtain ⟨σ',x,h1,h2⟩:=h
 exact ⟨σ',x,runs_v e h1,h2⟩
theorem undef_vr (σ:Sg):VR σ undefA undef:=.tree (.sc rfl)
theorem OpMd.of_mdu {o:Oper} {a:Act} {s:Sem Unit} {h':Nat->Option AO} (e:execOp a.eval o=(do s;pure .skip)) (h:MdU P s σ h'):OpMd P o a σ undefA h':=by
 obtain ⟨σ',h1,h2,h3,h4,h5⟩:=h
 exact ⟨σ',undef,runs_u e h1,h2,h3,h4,h5,undef_vr σ'⟩
theorem ends_quiet {o:Oper} {a:Act} {st:Nat} {r:Res} (h1:∃rd,r.e=.loc rd [] 0) (h2:OpMd P o a σ r.v σ.h):OpEnds P o a σ st r:=by
 obtain ⟨rd,h1⟩:=h1
 exact ⟨rd,[],0,h1,.inr ⟨rfl,rfl,h2⟩⟩
theorem ends_new {o:Oper} {a:Act} {st:Nat} {r:Res} {ob:AO} (h1:∃rd,r.e=.loc rd [(st,ob)] 1) (h2:OpMd P o a σ r.v (upd σ.h st (some ob))):OpEnds P o a σ st r:=by
 obtain ⟨rd,h1⟩:=h1
 exact ⟨rd,_,1,h1,.inl ⟨st,ob,rfl,.inl rfl,Nat.le_refl _,h2⟩⟩
theorem ends_upd {o:Oper} {a:Act} {st:Nat} {r:Res} (h:∃rd n ob,r.e=.loc rd [(n,ob)] 0/\OpMd P o a σ r.v (upd σ.h n (some ob))):OpEnds P o a σ st r:=by
 obtain ⟨rd,n,ob,h1,h2⟩:=h
 exact ⟨rd,_,0,h1,.inl ⟨n,ob,rfl,.inr rfl,by omega,h2⟩⟩
theorem ends_of {o:Oper} {a:Act} {st:Nat} {r:Res} {s:Sem Value} (sr:SR σ) (e:execOp a.eval o=(do pure (.value (<-s)))) (h:Ends P s σ st r):OpEnds P o a σ st r:=by
 obtain ⟨rd,ups,nw,h1,⟨m,ob,h2,h3,h4,h5⟩ | ⟨h2,h3,h4⟩⟩:=h
 ·exact ⟨rd,ups,nw,h1,.inl ⟨m,ob,h2,h3,h4,OpMd.of_md e h5⟩⟩
 ·exact ⟨rd,ups,nw,h1,.inr ⟨h2,h3,OpMd.of_qt sr e h4⟩⟩
theorem parts_vr {T:Tm} {a:Act} (tr:TR σ T a) {parts:Array (Nat×Operand)} {xs:List (Nat×AV)} (h:mapOpt (λp:Nat×Operand=>(aev T p.2).map λv=>(p.1,v)) parts.toList=some xs) :
 xs.map (·.1)=(parts.map λ(i,x)=>(i,a.eval x)).toList.map (·.1)/\VRs σ (xs.map (·.2)) ((parts.map λ(i,x)=>(i,a.eval x)).toList.map (·.2)):=by
 obtain ⟨h1,h2⟩:=mapOpt_parts tr h
 rw [Array.toList_map,List.map_map,List.map_map]
 exact ⟨by rw [h1];rfl,h2⟩
theorem optInt_vr {T:Tm} {a:Act} (tr:TR σ T a) {y:Option Operand} {z:Option Int}
 (h:optA T y=some z):OptInt z (y.map a.eval):=by
 cases y with
 |none=>cases h;exact .inl ⟨rfl,rfl⟩
 |some q=>
  simp only [optA] at h
  split at h
  ·rename_i v hv
   cases hi:intOf v with
   |none=>grind
   |some n=>
    simp [hi] at h
    subst h
    obtain ⟨k,rfl,he⟩:=(aev_vr tr hv).int_inv hi
    exact .inr ⟨n,k,rfl,by simp [he]⟩
  ·cases h
theorem builtin_sound (tabOk:TabOK P tab) (sr:SR σ) {T:Tm} {a:Act} (tr:TR σ T a) {H:Heap} {st:Nat} (hfr:Fresh σ st) {o:Oper} {c:Call} {b:Builtin} (ho:o.op=.call c) (hb:c.callee=.builtin b)
 {args:List AV} (ha:mapOpt (aev T) c.args.toList=some args) {r:Res} (h:builtinA tab H st b c.argTypes args=some r) (hf:Foot H σ r):OpEnds P o a σ st r:=by
 have hv:=mapOpt_vr tr ha
 have e1:execOp a.eval o=builtin b c.argTypes o.type (c.args.map λ| .const _=>true | _=>false) (c.args.map a.eval):=by
  unfold execOp
  simp only [ho,resolve,hb,invoke]
  rfl
 have hargs:c.args.map a.eval=(c.args.toList.map a.eval).toArray:=by
  grind
 rw [hargs] at e1
 generalize c.args.toList.map a.eval=vals at hv e1
 unfold builtinA at h
 split at h
 ·
  rename_i x d hd
  cases hv with
  |cons hx hn=>
   cases hn
   obtain ⟨t,ht,htab⟩:=Option.bind_eq_some_iff.1 hd
   obtain ⟨h1,h2⟩:=len_ok (P:=P) tabOk sr htab hx c.argTypes ht o.type h hf
   exact ends_quiet h1 (OpMd.of_qt sr e1 h2)
 ·
  rename_i x d hd
  cases hv with
  |cons hx hn=>
   cases hn
   obtain ⟨t,ht,htab⟩:=Option.bind_eq_some_iff.1 hd
   have hu:=(tabOk t d htab).under
   split at h
   ·rename_i e hk
    simp only [KOK,hk] at hu
    obtain ⟨h1,h2⟩:=cap_ok (P:=P) sr hu hx c.argTypes ht o.type h hf
    exact ends_quiet h1 (OpMd.of_qt sr e1 h2)
   ·cases h
 ·
  rename_i s x d hd
  cases hv with
  |cons hs hn=>
   cases hn with
   |cons hx hn=>
    cases hn
    obtain ⟨t,ht,htab⟩:=Option.bind_eq_some_iff.1 hd
    have hu:=(tabOk t d htab).under
    split at h
    ·rename_i e hk
     simp only [KOK,hk] at hu
     split at h
     ·rename_i de dx hde hdx
      obtain ⟨xt,hxt,hxtab⟩:=Option.bind_eq_some_iff.1 hdx
      have hux:=(tabOk xt dx hxtab).under
      split at h
      ·rename_i k hkx
       simp only [KOK,hkx] at hux
       split at h
       ·rename_i n hn
        split at h
        ·split at h
         ·rename_i hc
          obtain ⟨rfl,_⟩:=hs.sc_inv
          obtain ⟨kk,rfl,rfl⟩:=hx.int_inv hn
          exact ends_of sr e1 (append_zeros_ok tabOk sr hfr hde ht hxt hu hux o.type hc h)
         ·cases h
        ·cases h
       ·cases h
      ·rename_i hkx
       simp only [KOK,hkx] at hux
       split at h
       ·rename_i str
        split at h
        ·rename_i h1
         obtain ⟨rfl,_⟩:=hx.sc_inv
         exact ends_of sr e1 (append_ok tabOk sr hfr hde ht hxt hu hux trivial o.type hs (by rw [h1];exact string_src str) h hf (by simp))
        ·cases h
       ·cases h
      ·rename_i ee hkx
       simp only [KOK,hkx] at hux
       split at h
       ·rename_i xs rd hsh
        have hrd:∀m∈rd,look H.objs m=σ.h m:=by
         intro m hm
         have:∃rd' ups nw,r.e=.loc rd' ups nw/\m∈rd':=by
          unfold appendA at h
          grind
         obtain ⟨rd',ups,nw,h1,h2⟩:=this
         exact hf _ _ _ h1 m h2
        obtain ⟨⟨vs,hS⟩,_⟩:=shown_src (P:=P) sr hx hsh hrd
        exact ends_of sr e1 (append_ok tabOk sr hfr hde ht hxt hu hux trivial o.type hs hS h hf hrd)
       ·cases h
      ·cases h
     ·cases h
    ·cases h
 ·
  rename_i dst src d hd
  cases hv with
  |cons hs hn=>
   cases hn with
   |cons hx hn=>
    cases hn
    obtain ⟨t,ht,htab⟩:=Option.bind_eq_some_iff.1 hd
    exact ends_of sr e1 (copy_ok tabOk sr htab hs hx c.argTypes ht o.type h hf st)
 ·
  rename_i x d hd
  cases hv with
  |cons hx hn=>
   cases hn
   obtain ⟨t,ht,htab⟩:=Option.bind_eq_some_iff.1 hd
   exact ends_of sr e1 (clear_ok tabOk sr htab hx c.argTypes ht o.type h hf st)
 ·
  rename_i m k d hd
  cases hv with
  |cons hm hn=>
   cases hn with
   |cons hk hn=>
    cases hn
    obtain ⟨t,ht,htab⟩:=Option.bind_eq_some_iff.1 hd
    obtain ⟨rd,n,ob,h1,h2⟩:=delete_ok (P:=P) tabOk sr htab hm hk c.argTypes ht o.type h hf
    exact ends_upd ⟨rd,n,ob,h1,OpMd.of_md e1 h2⟩
 ·rename_i k x j y _
  cases h
  cases hv with
  |cons hx hn=>
   cases hn with
   |cons hy hn=>
    cases hn
    obtain ⟨rfl,_⟩:=hx.sc_inv
    obtain ⟨rfl,_⟩:=hy.sc_inv
    refine ends_quiet ⟨[],rfl⟩ (OpMd.of_qt sr e1 ⟨_,?_,.tree (.sc rfl)⟩)
    rfl
 ·rename_i k x j y _
  cases h
  cases hv with
  |cons hx hn=>
   cases hn with
   |cons hy hn=>
    cases hn
    obtain ⟨rfl,_⟩:=hx.sc_inv
    obtain ⟨rfl,_⟩:=hy.sc_inv
    refine ends_quiet ⟨[],rfl⟩ (OpMd.of_qt sr e1 ⟨_,?_,.tree (.sc rfl)⟩)
    rfl
 ·cases h
theorem loadA_ok (tabOk:TabOK P tab) (sr:SR σ) {H:Heap} {t:TypeId} {d:TyD} (hd:tab t=some d) {p:AV} {pv:Value} (hp:VR σ p pv) {r:Res} (h:loadA H d p=some r) (hf:Foot H σ r) :
 (∃rd,r.e=.loc rd [] 0)/\Qt P (Instr.loadAt t pv) σ r.v:=by
 unfold loadA at h
 split at h
 ·rename_i cs rd hr
  split at h
  ·rename_i v hv
   cases h
   obtain ⟨b,o,vs,rfl,hra,hvs⟩:=readAt_vr sr hp hr (hf _ _ _ rfl)
   obtain ⟨x,hx,hxv⟩:=run_loadVar_of (tabOk t d hd) hra hvs hv
   exact ⟨⟨rd,rfl⟩,x,by simp only [Instr.loadAt,Instr.sureAddr,Sem.run_bind,Sem.run_pure,Result.andThen_ok,hx],hxv⟩
  ·cases h
 ·cases h
theorem bytesOut_vr:∀{cs:List AV} {l:List UInt8} {vs:List Value},bytesOut cs=some l->VRs σ cs vs->∃ns:List Int,vs=ns.map (Value.int .u8)/\l=ns.map λn=>UInt8.ofNat n.toNat
 |[],l,vs,h,hv=>by cases h;cases hv;simp_all
 |c::r,l,vs,h,hv=>by
  unfold bytesOut at h
  split at h
  ·rename_i e;cases e
  ·rename_i n r' e
   cases e
   cases hv with
   |cons hc hr=>
    obtain ⟨rfl,_⟩:=hc.sc_inv
    split at h
    ·rename_i l' hl
     cases h
     obtain ⟨ns,rfl,rfl⟩:=bytesOut_vr hl hr
     exact ⟨n::ns,rfl,rfl⟩
    ·cases h
  ·cases h
theorem foldl_bytes (f:Int->UInt8):∀(ns:List Int) (s:ByteArray),ns.foldl (λr n=>r.push (f n)) s=⟨s.data++(ns.map f).toArray⟩
 |[],s=>by simp
 |n::ns,s=>by
  rw [List.foldl_cons,foldl_bytes f ns]
  simp [ByteArray.push]
theorem bytes_ok (tabOk:TabOK P tab) (sr:SR σ) {H:Heap} {s d:TypeId} {ds dd:TyD} (hs:tab s=some ds) (hd:tab d=some dd) {x:AV} {xv:Value} (hx:VR σ x xv) {r:Res} (h:bytesA tab H ds dd x=some r) (hf:Foot H σ r) :
 (∃rd,r.e=.loc rd [] 0)/\Qt P (convert s d xv) σ r.v:=by
 have Ds:=(tabOk _ _ hs).under
 have Dd:=(tabOk _ _ hd).under
 unfold bytesA at h
 split at h
 ·rename_i e h1 h2
  split at h
  ·rename_i de hde
   split at h
   ·rename_i h3
    have De:=(tabOk _ _ hde).under
    simp only [KOK,h1] at Ds
    simp only [KOK,h2] at Dd
    simp only [KOK,h3] at De
    split at h
    ·rename_i xs rd hsh
     split at h
     ·rename_i l hl
      cases h
      obtain ⟨⟨vs,src⟩,a,n,c,rfl⟩:=shown_src (P:=P) sr hx hsh (hf _ _ _ rfl)
      refine ⟨⟨rd,rfl⟩,.string ⟨l.toArray⟩,?_,.tree (.sc rfl)⟩
      rw [run_convert_bytes_string σ.w s d e a n c Ds De Dd]
      obtain ⟨ns,rfl,rfl⟩:=bytesOut_vr hl src.vrs
      have hn:n=xs.length:=by
       have:=src.len σ.w
       simp only [Builtin.lenOf,Sem.run_pure,Result.ok.injEq] at this
       omega
      have hlen:=src.vrs.length
      rw [flatten_length src.all] at hlen
      have hc:=src.cells xs.length σ.w (Nat.le_refl _) rfl
      rw [List.take_of_length_le (by omega)] at hc
      cases a with
      |none=>
       simp only [Builtin.firstCells,Sem.run_pure,Result.ok.injEq] at hc
       have h0:ns=[]:=by
        grind
       subst h0
       rfl
      |some a=>
       simp only [Builtin.firstCells,Nat.mul_one] at hc
       rw [hn,run_bytesToString σ.w a xs.length c ns hc,foldl_bytes]
       simp_all
     ·cases h
    ·cases h
   ·cases h
  ·cases h
 ·cases h
theorem le_more (sr:SR σ) {w':World} {I':Nat->Nat->Prop} (os:w'.os=σ.w.os) (tape:w'.tape=σ.w.tape) (output:w'.output=σ.w.output) (size:σ.w.heap.size<=w'.heap.size) (frame:∀b,b<σ.w.heap.size->w'.heap[b]?=σ.w.heap[b]?)
 (hI:∀b off,σ.I b off->I' b off) (hI':∀b off,I' b off->σ.I b off\/(σ.w.heap.size<=b/\b<w'.heap.size)):Le σ { σ with w:=w',I:=I' }/\SR { σ with w:=w',I:=I' }:=by
 have l:Le σ { σ with w:=w',I:=I' }:={
  os:=os
  tape:=tape
  output:=output
  size:=size
  frame:=λb hb _=>frame b hb
  old:=λn p h h'=>by
   grind
  icell:=λb off h=>⟨hI b off h,cell_same (frame b (sr.ilt b off h))⟩
  inew:=λb off h hb _=>(hI' b off h).resolve_right λq=>by omega
  jnew:=λ_ h _ _=>h
  jmap:=λb h=>⟨h,frame b (sr.jlt b h)⟩
  cells:=λn es s fz h=>.inr ⟨es,fz,h,Nat.le_refl _,.inl ⟨rfl,λarr t rg ha=>⟨arr,t,rg,(frame _ (sr.lt n _ h)).trans ha,rfl⟩⟩⟩
  maps:=λn ks vs bs c fz h=>.inr ⟨rfl,ks,vs,bs,c,fz,h⟩
  loops:=λn T N ps asg body st pend h=>⟨rfl,st,pend,h⟩
  deads:=λ_ h=>h }
 have up:∀b,b<σ.w.heap.size->b<w'.heap.size:=λb h=>Nat.lt_of_lt_of_le h size
 refine ⟨l,{
  obj:=λn p h=>OR.keep l (sr.obj n p h) rfl (frame _ (sr.lt n p h)) (λoff hi=>?_) (λh=>h)
  inj:=sr.inj
  lt:=λn p h=>up _ (sr.lt n p h)
  ilt:=λb off h=>(hI' b off h).elim (λq=>up _ (sr.ilt b off q)) (λq=>q.2)
  jlt:=λb h=>up _ (sr.jlt b h)
  alive:=sr.alive }⟩
 exact (hI' _ _ hi).resolve_right λq=>by have:=sr.lt n p h;omega
theorem run_str {P:Program} (w:World) (e:TypeId) (s:ByteArray):∃(w':World) (cap:Nat) (arr:Array Value) (t:TypeId) (rg:Nat×Nat),(Conv.stringToBytes e s).run P w=.ok (.slice (some ⟨w.heap.size,0,none⟩) s.size cap) w'/\s.size<=cap/\w'.os=w.os/\w'.tape=w.tape/\w'.output=w.output/\
 w'.heap.size=w.heap.size+1/\(∀b,b<w.heap.size->w'.heap[b]?=w.heap[b]?)/\w'.heap[w.heap.size]?=some (.cells arr t rg)/\∀j (hj:j<s.size),arr[j]?=some (.int .u8 s.data[j].toNat):=by
 let cap:=(Question.appendCap s.size 0 e).cut (w.tape w.drawn (.appendCap s.size 0 e))
 let arr:Array Value:=(s.data.map λb=>.int .u8 b.toNat)++Array.replicate (cap-s.size) (.int .u8 0)
 let f:Obj->Obj:=fun
  |.cells c elem (lo,hi)=>.cells c elem (if lo==hi then (arr.size,arr.size+1) else (min lo arr.size,max hi (arr.size+1)))
  |o=>o
 have hheap:((w.drew.alloc (.cells arr e)).freeze ⟨w.heap.size,arr.size,none⟩ 1).heap=(w.heap.push (.cells arr e)).modify w.heap.size f:=rfl
 have hsh:(w.drew.alloc (.cells arr e)).shape? w.heap.size=some (e,arr.size):=by
  have:(w.drew.alloc (.cells arr e)).heap[w.heap.size]?=some (.cells arr e):=heap_alloc_at w.drew _
  simp only [World.shape?,this]
 refine ⟨(w.drew.alloc (.cells arr e)).freeze ⟨w.heap.size,arr.size,none⟩ 1,cap,arr,e,(arr.size,arr.size+1),?_,?_,rfl,rfl,rfl,?_,λb hb=>?_,?_,λj hj=>?_⟩
 ·have h1:(Conv.stringToBytes e s).run P w=(do
   markStringish ⟨w.heap.size,0,none⟩
   pure (.slice (some ⟨w.heap.size,0,none⟩) s.size cap):Sem Value).run P (w.drew.alloc (.cells arr e)):=by
   rfl
  rw [h1]
  simp only [markStringish,Sem.run_bind,run_shape,Result.andThen_ok,hsh,run_freeze,Sem.run_pure]
 ·show s.size<=s.size+_ % _
  omega
 ·rw [hheap,Array.size_modify,Array.size_push]
 ·grind
 ·grind
 ·have hj':j<s.data.size:=hj
  grind
theorem strA_ok (tabOk:TabOK P tab) (sr:SR σ) {s d:TypeId} {ds dd:TyD} (hs:tab s=some ds) (hd:tab d=some dd) {x:AV} {xv:Value} (hx:VR σ x xv) {r:Res} (h:strA tab ds dd x=some r) {o:Oper} {a:Act} (ho:execOp a.eval o=(do pure (.value (<-convert s d xv)))) :
 (∃rd,r.e=.loc rd [] 0)/\OpMd P o a σ r.v σ.h:=by
 have Ds:=(tabOk _ _ hs).under
 have Dd:=(tabOk _ _ hd).under
 unfold strA at h
 split at h
 ·rename_i e str h1 h2
  split at h
  ·rename_i de hde
   split at h
   ·rename_i h3
    have De:=(tabOk _ _ hde).under
    simp only [KOK,h1] at Ds
    simp only [KOK,h2] at Dd
    simp only [KOK,h3] at De
    cases h
    obtain rfl:=(hx.sc_inv).1
    refine ⟨⟨[],rfl⟩,?_⟩
    obtain ⟨w',cap,arr,t,rg,hrun,hcap,q1,q2,q3,q4,q5,q6,q7⟩:=run_str (P:=P) σ.w e str
    have hc:(convert s d (.string str)).run P σ.w=.ok (.slice (some ⟨σ.w.heap.size,0,none⟩) str.size cap) w':=by
     rw [<-hrun]
     simp [convert,run_underlying Ds,run_underlying Dd,run_underlying De]
    obtain ⟨l,sr'⟩:=le_more sr (w':=w') (I':=λb off=>σ.I b off\/(b=σ.w.heap.size/\off<str.size)) q1 q2 q3 (by omega) q5 (λb off h=>.inl h) (λb off h=>h.imp id λq=>by omega)
    refine ⟨{ σ with w:=w',I:=λb off=>σ.I b off\/(b=σ.w.heap.size/\off<str.size) },_,runs_v ho hc,rfl,rfl,l,sr',.tree ?_⟩
    have hlen:(bytesOf str).length=str.size:=by simp [bytesOf]
    have hfl:(bytesOf str).flatten=str.data.toList.map λb=>AV.sc (.int .u8 b.toNat):=by
     unfold bytesOf
     induction str.data.toList with
     |nil=>rfl
     |cons b l ih=>grind
    have:=TV.isl (w:=w') (I:=λb off=>σ.I b off\/(b=σ.w.heap.size/\off<str.size)) (J:=σ.J) (es:=bytesOf str) (capd:=false) (a:=⟨σ.w.heap.size,0,none⟩) (vs:=str.data.toList.map λb=>.int .u8 b.toNat) (s:=1) (cap:=cap) ?_ ?_ ?_ (by omega) (λh=>by cases h)
    ·grind
    ·rw [hfl]
     have:∀(l:List UInt8),TVs w' (λb off=>σ.I b off\/(b=σ.w.heap.size/\off<str.size)) σ.J (l.map λb=>AV.sc (.int .u8 b.toNat)) (l.map λb=>Value.int .u8 b.toNat):=by
      intro l
      induction l with
      |nil=>exact .nil
      |cons b l ih=>exact .cons (.sc rfl) ih
     grind
    ·refine λ_=>⟨rfl,λj v hv=>?_⟩
     simp only [List.getElem?_map] at hv
     have hj:j<str.size:=by
      have:=(List.getElem?_eq_some_iff.1 (show (str.data.toList.map λb=>Value.int .u8 b.toNat)[j]?=some v by grind)).1
      simp_all
     grind [cell_of_heap,List.getElem?_eq_getElem]
    ·intro x hx
     obtain ⟨b,_,rfl⟩:=List.mem_map.1 hx
     rfl
   ·cases h
  ·cases h
 ·cases h
theorem aop_sound (tabOk:TabOK P tab) (sr:SR σ) {T:Tm} {a:Act} (tr:TR σ T a) {H:Heap} {st:Nat} (hfr:Fresh σ st) {o:Oper} {r:Res} (h:aop tab T H st o=some r) (hf:Foot H σ r):OpEnds P o a σ st r:=by
 have key:∀{op:Op},o.op=op->∀{s:Sem Value},(∀o':Oper,o'.op=op->execOp a.eval o'=(do pure (.value (<-s))))->execOp a.eval o=(do pure (.value (<-s))):=λe _ h=>h o e
 unfold aop at h
 simp only [] at h
 cases hop:o.op<;>simp only [hop] at h
 case move x=>
  split at h
  ·rename_i v hv
   cases h
   exact ends_quiet ⟨[],rfl⟩ ⟨σ,a.eval x,.inl (by simp [execOp,hop]),rfl,rfl,Le.refl σ,sr,aev_vr tr hv⟩
  ·cases h
 case assign x=>
  split at h
  ·rename_i v hv
   cases h
   exact ends_quiet ⟨[],rfl⟩ ⟨σ,a.eval x,.inl (by simp [execOp,hop]),rfl,rfl,Le.refl σ,sr,aev_vr tr hv⟩
  ·cases h
 case pick c x y=>
  split at h
  ·rename_i hc
   split at h
   ·rename_i v hv
    cases h
    obtain ⟨hcv,_⟩:=(aev_vr tr hc).sc_inv
    exact ends_quiet ⟨[],rfl⟩ ⟨σ,a.eval x,.inl (by simp [execOp,hop,hcv,asBool]),rfl,rfl,Le.refl σ,sr,aev_vr tr hv⟩
   ·cases h
  ·rename_i hc
   split at h
   ·rename_i v hv
    cases h
    obtain ⟨hcv,_⟩:=(aev_vr tr hc).sc_inv
    exact ends_quiet ⟨[],rfl⟩ ⟨σ,a.eval y,.inl (by simp [execOp,hop,hcv,asBool]),rfl,rfl,Le.refl σ,sr,aev_vr tr hv⟩
   ·cases h
  ·cases h
 case alloc t=>
  split at h
  ·rename_i d hd
   obtain ⟨ob,h1,h2⟩:=alloc_ok (P:=P) tabOk sr hfr hd h
   exact ends_new ⟨_,h1⟩ (OpMd.of_md (by simp only [execOp,hop]) h2)
  ·cases h
 case box t x=>
  split at h
  ·rename_i d v hd hv
   split at h
   ·rename_i cs hcs
    split at h
    ·obtain ⟨ob,h1,h2⟩:=box_ok (P:=P) tabOk sr hfr hd (aev_vr tr hv) hcs h
     exact ends_new ⟨_,h1⟩ (OpMd.of_md (by simp only [execOp,hop]) h2)
    ·cases h
   ·cases h
  ·cases h
 case build t parts=>
  split at h
  ·rename_i d ps hd hps
   obtain ⟨q1,q2⟩:=parts_vr tr hps
   have hq:∃v,r=⟨v,.loc [] [] 0⟩:=by
    split at h
    ·split at h
     ·cases h;grind
     ·cases h
    ·split at h
     ·split at h
      ·cases h;grind
      ·cases h
     ·cases h
    ·cases h
   obtain ⟨v,rfl⟩:=hq
   have:=build_ok (P:=P) tabOk hd q1 q2 h
   exact ends_quiet ⟨[],rfl⟩ (OpMd.of_qt sr (by simp only [execOp,hop]) this)
  ·cases h
 case buildSlice t len parts=>
  split at h
  ·rename_i d ps hd hps
   obtain ⟨q1,q2⟩:=parts_vr tr hps
   have hu:=(tabOk t d hd).under
   split at h
   ·rename_i e hk
    simp only [KOK,hk] at hu
    split at h
    ·rename_i de hde
     split at h
     ·rename_i hc
      split at h
      ·rename_i es hes
       cases h
       exact ends_new ⟨_,rfl⟩ (OpMd.of_md (by simp only [execOp,hop]) (buildSlice_ok tabOk sr hfr hu hde hc q1 q2 hes))
      ·cases h
     ·cases h
    ·cases h
   ·cases h
  ·cases h
 case load t x=>
  split at h
  ·rename_i d p hd hp
   obtain ⟨h1,h2⟩:=loadA_ok (P:=P) tabOk sr hd (aev_vr tr hp) h hf
   exact ends_quiet h1 (OpMd.of_qt sr (by simp only [execOp,hop]) h2)
  ·cases h
 case store t x y=>
  split at h
  ·rename_i d p v hd hp hv
   obtain ⟨rd,m,ob,h1,h2,h3⟩:=store_ok (P:=P) tabOk sr hd (aev_vr tr hp) (aev_vr tr hv) h hf
   refine ends_upd ⟨rd,m,ob,h1,?_⟩
   rw [h2]
   exact OpMd.of_mdu (by simp only [execOp,hop]) h3
  ·cases h
 case nilCheck x=>
  split at h
  ·rename_i cs hx
   cases h
   obtain ⟨ad,vs,he,_⟩:=(aev_vr tr hx).ipt_inv
   exact ends_quiet ⟨[],rfl⟩ ⟨σ,a.eval x,.inl (by simp [execOp,hop,he]),rfl,rfl,Le.refl σ,sr,aev_vr tr hx⟩
  ·rename_i n g i fo hx
   cases h
   obtain ⟨b,o',he,_⟩:=pt_shift (aev_vr tr hx) 0
   exact ends_quiet ⟨[],rfl⟩ ⟨σ,a.eval x,.inl (by simp [execOp,hop,he]),rfl,rfl,Le.refl σ,sr,aev_vr tr hx⟩
  ·rename_i f q1 q2 hx
   cases h
   obtain ⟨fs,cs,he,_⟩:=(aev_vr tr hx).fn_inv rfl
   exact ends_quiet ⟨[],rfl⟩ ⟨σ,a.eval x,.inl (by simp [execOp,hop,he]),rfl,rfl,Le.refl σ,sr,aev_vr tr hx⟩
  ·rename_i f q1 q2 hx
   cases h
   obtain ⟨_,he⟩:=(aev_vr tr hx).yld_any
   exact ends_quiet ⟨[],rfl⟩ ⟨σ,a.eval x,.inl (by simp [execOp,hop,he]),rfl,rfl,Le.refl σ,sr,aev_vr tr hx⟩
  ·rename_i t p f q q1 q2 hx
   cases h
   obtain ⟨fs,cs,he,_⟩:=(aev_vr tr hx).fn_inv rfl
   exact ends_quiet ⟨[],rfl⟩ ⟨σ,a.eval x,.inl (by simp [execOp,hop,he]),rfl,rfl,Le.refl σ,sr,aev_vr tr hx⟩
  ·cases h
 case binOp op t x y yt=>
  split at h
  ·rename_i u v hu hv
   obtain ⟨h1,h2⟩:=binOp_ok (P:=P) tabOk (aev_vr tr hu) (aev_vr tr hv) x y h
   exact ends_quiet ⟨[],h1⟩ (OpMd.of_qt sr (by simp only [execOp,hop]) h2)
  ·cases h
 case unOp op t x=>
  split at h
  ·rename_i v hv
   obtain ⟨he,_⟩:=(aev_vr tr hv).sc_inv
   split at h
   ·split at h
    ·rename_i r' hr
     cases h
     have:=unOp_ok (P:=P) (σ:=σ) (op:=op) trivial hr
     rw [<-he] at this
     exact ends_quiet ⟨[],rfl⟩ (OpMd.of_qt sr (by simp only [execOp,hop]) this)
    ·cases h
   ·split at h
    ·rename_i r' hr
     cases h
     have:=unOp_ok (P:=P) (σ:=σ) (op:=op) trivial hr
     rw [<-he] at this
     exact ends_quiet ⟨[],rfl⟩ (OpMd.of_qt sr (by simp only [execOp,hop]) this)
    ·cases h
   ·cases h
  ·cases h
 case convert s d x=>
  split at h
  ·rename_i ds dd v hs hd hv
   split at h
   ·rename_i r' hb
    cases h
    obtain ⟨h1,h2⟩:=bytes_ok (P:=P) tabOk sr hs hd (aev_vr tr hv) hb hf
    exact ends_quiet h1 (OpMd.of_qt sr (by simp only [execOp,hop]) h2)
   ·split at h
    ·rename_i r' hb
     cases h
     obtain ⟨h1,h2⟩:=strA_ok (P:=P) (o:=o) (a:=a) tabOk sr hs hd (aev_vr tr hv) hb (by simp only [execOp,hop])
     exact ends_quiet h1 h2
    obtain ⟨h1,h2⟩:=convert_ok (P:=P) tabOk hs hd (aev_vr tr hv) h
    exact ends_quiet ⟨[],h1⟩ (OpMd.of_qt sr (by simp only [execOp,hop]) h2)
  ·cases h
 case makeInterface t x=>
  split at h
  ·rename_i d v hd hv
   obtain ⟨h1,h2⟩:=makeInterface_ok (P:=P) tabOk hd (aev_vr tr hv) h
   exact ends_quiet ⟨[],h1⟩ (OpMd.of_qt sr (by simp only [execOp,hop]) h2)
  ·cases h
 case makeFunc f first caps=>
  split at h
  ·rename_i p q hp hq
   split at h
   ·cases h
   rename_i hy
   cases h
   refine ends_quiet ⟨[],rfl⟩ (OpMd.of_qt sr (s:=Instr.makeFunc f (first.map a.eval) (caps.map a.eval)) (by simp only [execOp,hop]) ⟨.func f (first.map a.eval) (caps.map a.eval),rfl,?_⟩)
   have h1:=VR.fn (σ:=σ) (f:=f) (by grind) (mapOpt_vr tr hp) (mapOpt_vr tr hq)
   have e1:first.map a.eval=(first.toList.map a.eval).toArray:=by grind
   have e2:caps.map a.eval=(caps.toList.map a.eval).toArray:=by grind
   grind
  ·cases h
 case makeMap t rv=>
  split at h
  ·rename_i d hd
   have hu:=(tabOk t d hd).under
   split at h
   ·rename_i kt et hk
    simp only [KOK,hk] at hu
    split at h
    ·cases h
     exact ends_new ⟨_,rfl⟩ (OpMd.of_md (by simp only [execOp,hop];rfl) (makeMap_ok sr hfr hu (r:=none) (by simp)))
    ·rename_i x
     split at h
     ·rename_i v hv
      split at h
      ·rename_i hi
       cases h
       obtain ⟨n,hn⟩:=Option.isSome_iff_exists.1 hi
       obtain ⟨k,rfl,he⟩:=(aev_vr tr hv).int_inv hn
       exact ends_new ⟨_,rfl⟩ (OpMd.of_md (by simp only [execOp,hop];rfl) (makeMap_ok sr hfr hu (r:=some (a.eval x)) (λv hv=>by grind)))
      ·cases h
     ·cases h
   ·cases h
  ·cases h
 case makeSlice t l c=>
  split at h
  ·rename_i d lv cv hd hl hc
   have hu:=(tabOk t d hd).under
   split at h
   ·rename_i e li ci hk hli hci
    simp only [KOK,hk] at hu
    split at h
    ·rename_i de hde
     split at h
     ·rename_i hcond
      cases h
      obtain ⟨lk,rfl,hle⟩:=(aev_vr tr hl).int_inv hli
      obtain ⟨ck,rfl,hce⟩:=(aev_vr tr hc).int_inv hci
      have:=makeSlice_ok (P:=P) (lk:=lk) (ck:=ck) tabOk sr hfr hu hde hcond
      rw [<-hle,<-hce] at this
      exact ends_new ⟨_,rfl⟩ (OpMd.of_md (by simp only [execOp,hop]) this)
     ·cases h
    ·cases h
   ·cases h
  ·cases h
 case slice t x lo hi mx=>
  split at h
  ·rename_i d v l hh m hd hv hl hhi hm
   obtain ⟨h1,h2⟩:=slice_ok (P:=P) tabOk sr hd (aev_vr tr hv) (optInt_vr tr hl) (optInt_vr tr hhi) (optInt_vr tr hm) h hf
   exact ends_quiet h1 (OpMd.of_qt sr (by simp only [execOp,hop]) h2)
  ·cases h
 case fieldAddr t x f=>
  split at h
  ·rename_i d v hd hv
   obtain ⟨h1,h2⟩:=fieldAt_ok (P:=P) tabOk hd (aev_vr tr hv) h
   exact ends_quiet ⟨[],h1⟩ (OpMd.of_qt sr (by simp only [execOp,hop]) h2)
  ·cases h
 case field t x f=>
  split at h
  ·rename_i d v hd hv
   obtain ⟨h1,h2⟩:=field_ok (P:=P) tabOk hd (aev_vr tr hv) h
   exact ends_quiet ⟨[],h1⟩ (OpMd.of_qt sr (by simp only [execOp,hop]) h2)
  ·cases h
 case indexAddr t x i=>
  split at h
  ·rename_i d v iv hd hv hi
   split at h
   ·rename_i n hn
    obtain ⟨k,rfl,he⟩:=(aev_vr tr hi).int_inv hn
    obtain ⟨h1,h2⟩:=indexAt_ok (P:=P) (k:=k) tabOk sr hd (aev_vr tr hv) h hf
    rw [<-he] at h2
    exact ends_quiet h1 (OpMd.of_qt sr (by simp only [execOp,hop]) h2)
   ·cases h
  ·cases h
 case index t x i=>
  split at h
  ·rename_i d v iv hd hv hi
   split at h
   ·rename_i n hn
    obtain ⟨k,rfl,he⟩:=(aev_vr tr hi).int_inv hn
    obtain ⟨h1,h2⟩:=index_ok (P:=P) (k:=k) tabOk hd (aev_vr tr hv) h
    rw [<-he] at h2
    exact ends_quiet ⟨[],h1⟩ (OpMd.of_qt sr (by simp only [execOp,hop]) h2)
   ·cases h
  ·cases h
 case lookup t x k ok=>
  split at h
  ·rename_i d m kv hd hm hk
   obtain ⟨h1,h2⟩:=lookup_ok (P:=P) tabOk sr hd (aev_vr tr hm) (aev_vr tr hk) h hf
   exact ends_quiet h1 (OpMd.of_qt sr (by simp only [execOp,hop]) h2)
  ·cases h
 case mapUpdate t m k x=>
  split at h
  ·rename_i d mv kv v hd hm hk hv
   obtain ⟨rd,n,ob,h1,h2,h3⟩:=update_ok (P:=P) tabOk sr hd (aev_vr tr hm) (aev_vr tr hk) (aev_vr tr hv) h hf
   refine ends_upd ⟨rd,n,ob,h1,?_⟩
   rw [h2]
   exact OpMd.of_mdu (by simp only [execOp,hop]) h3
  ·cases h
 case insert t m k x=>
  split at h
  ·rename_i d mv kv v hd hm hk hv
   obtain ⟨rd,n,ob,h1,h2,h3⟩:=update_ok (P:=P) tabOk sr hd (aev_vr tr hm) (aev_vr tr hk) (aev_vr tr hv) h hf
   refine ends_upd ⟨rd,n,ob,h1,?_⟩
   rw [h2]
   exact OpMd.of_mdu (by simp only [execOp,hop]) h3
  ·cases h
 case mapEntry t m k=>
  split at h
  ·rename_i d mv kv hd hm hk
   obtain ⟨rd,n,ob,h1,h2⟩:=entry_ok (P:=P) tabOk sr hd (aev_vr tr hm) (aev_vr tr hk) h hf
   exact ends_upd ⟨rd,n,ob,h1,OpMd.of_md (by simp only [execOp,hop]) h2⟩
  ·cases h
 case entryStore t m s x=>
  split at h
  ·rename_i mv sv v hm hs hv
   obtain ⟨rd,n,ob,h1,h2,h3⟩:=entryStore_ok (P:=P) (t:=t) sr (aev_vr tr hm) (aev_vr tr hs) (aev_vr tr hv) h hf
   refine ends_upd ⟨rd,n,ob,h1,?_⟩
   rw [h2]
   exact OpMd.of_mdu (by simp only [execOp,hop]) h3
  ·cases h
 case typeAssert x X t ok=>
  split at h
  ·rename_i u v d hv hd
   obtain ⟨h1,h2⟩:=typeAssert_ok (P:=P) (X:=X) tabOk hd (aev_vr tr hv) h
   exact ends_quiet ⟨[],h1⟩ (OpMd.of_qt sr (by simp only [execOp,hop]) h2)
  ·cases h
 case extract x i=>
  split at h
  ·rename_i vs hv
   split at h
   ·rename_i v hvi
    cases h
    obtain ⟨ds,he,hds⟩:=(aev_vr tr hv).tup_inv
    obtain ⟨y,hy,hyv⟩:=hds.get hvi
    refine ends_quiet ⟨[],rfl⟩ (OpMd.of_qt sr (s:=Instr.extract (a.eval x) i) (by simp only [execOp,hop]) ⟨y,?_,hyv⟩)
    rw [he]
    simp [Instr.extract,hy]
   ·cases h
  ·cases h
 case call c=>
  grind [builtin_sound]
 all_goals cases h
end Go.Abs
end
section
namespace Go.Abs
inductive Out where
 |ret (v:AV)
 |pan (v:AV)
 deriving Inhabited
def Out.val:Out->AV
 |.ret v | .pan v=>v
def OutV (w:World) (I:Nat->Nat->Prop) (J:Nat->Prop):Out->Ending->Prop
 |.ret x,.returned v=>TV w I J x v
 |.pan x,.panicked chain=>∃v,chain=[{ v,recovered:=false }]/\TV w I J x v
 |_,_=>False
def Calls1 (P:Program) (f:FuncId) (args:List AV) (r:Out):Prop:=
 ∀(w:World) (I:Nat->Nat->Prop) (J:Nat->Prop) (vs:List Value),(∀b off,I b off->b<w.heap.size)->(∀b,J b->b<w.heap.size)->TVs w I J args vs->
  Calls P f vs.toArray w λe w'=>RowKit.Below w.heap.size w w'/\∃(I':Nat->Nat->Prop) (J':Nat->Prop),(∀b off,I b off->I' b off)/\(∀b off,I' b off->I b off\/(w.heap.size<=b/\b<w'.heap.size))/\
   (∀b,J b->J' b)/\(∀b,J' b->J b\/(w.heap.size<=b/\b<w'.heap.size))/\OutV w' I' J' r e
def Enters (P : Program) (f : FuncId) : Prop := ∃ fn, P.funcs[f]? = some fn /\ fn.body.isSome = true /\ (fn.name == "runtime.NumGoroutine") = false
def Valid (P:Program) (f:FuncId) (args:List AV) (r:Out):Prop:=Enters P f/\Calls1 P f args r
def viewList (view:AV->Option (AV×List Nat)):List AV->Option (List AV×List Nat)
 |[]=>some ([],[])
 |c::cs=>match view c,viewList view cs with
  |some (d,ns),some (ds,ms)=>some (d::ds,ns++ms)
  |_,_=>none
def viewLists (view:AV->Option (AV×List Nat)):List (List AV)->Option (List (List AV)×List Nat)
 |[]=>some ([],[])
 |c::cs=>match viewList view c,viewLists view cs with
  |some (d,ns),some (ds,ms)=>some (d::ds,ns++ms)
  |_,_=>none
def viewA (H:Heap):Nat->AV->Option (AV×List Nat)
 |0,_=>none
 |k+1,x=>match x with
  |.sc _ | .isl _ _ | .ipt _ | .imp _ _=>some (x,[])
  |.agg cs=>match viewList (viewA H k) cs with | some (ds,ns)=>some (.agg ds,ns) | none=>none
  |.tup cs=>match viewList (viewA H k) cs with | some (ds,ns)=>some (.tup ds,ns) | none=>none
  |.fn f a b=>if isY f then none else match viewList (viewA H k) a,viewList (viewA H k) b with | some (p,ns),some (q,ms)=>some (.fn f p q,ns++ms) | _,_=>none
  |.ifc t y=>match viewA H k y with | some (z,ns)=>some (.ifc t z,ns) | none=>none
  |.sl n g off len cap=>match look H.objs n with
   |some (.cells es _ _)=>if es.length=g then (match viewLists (viewA H k) ((es.drop off).take len) with | some (ds,ns)=>some (.isl ds (cap==some len),n::ns) | none=>none) else none
   |_=>none
  |.pt n g i fo=>match look H.objs n with
   |some (.cells es _ _)=>if es.length=g then (match viewList (viewA H k) (((es.drop i).flatten).drop fo) with | some (ds,ns)=>some (.ipt ds,n::ns) | none=>none) else none
   |_=>none
  |.mp n=>match look H.objs n with
   |some (.map ks vs bs c _)=>match viewList (viewA H k) vs with | some (ds,ns)=>if bornsOk c bs then some (.imp ks ds,n::ns) else none | none=>none
   |_=>none
def frozenO:AO->AO
 |.cells es s fz=>.cells es s (max fz es.length)
 |.map ks vs bs c _=>.map ks vs bs c true
 |.loop T N ps asg body st pend=>.loop T N ps asg body st pend
def Sg.lend (σ:Sg) (ns:List Nat):Sg:=
 { σ with
   I:=λb off=>σ.I b off\/∃n∈ns,σ.r n=b/\∃es s fz,σ.h n=some (.cells es s fz)/\off<es.length*s
   J:=λb=>σ.J b\/∃n∈ns,σ.r n=b/\∃ks vs bs c fz,σ.h n=some (.map ks vs bs c fz)
   h:=λm=>if m∈ns then (σ.h m).map frozenO else σ.h m }
variable {P:Program} {tab:Tab} {σ:Sg}
theorem le_lend (sr:SR σ) (ns:List Nat):Le σ (σ.lend ns) where
 os:=rfl
 tape:=rfl
 output:=rfl
 size:=Nat.le_refl _
 frame:=λ_ _ _=>rfl
 old:=λn o h h'=>by
  simp only [Sg.lend,h'] at h
  split at h<;>cases h
 icell:=λ_ _ h=>⟨.inl h,rfl⟩
 inew:=λb off h _ hn=>by
  rcases h with h | ⟨n,_,hr,es,s,fz,hh,_⟩
  ·exact h
  grind
 jnew:=λb h _ hn=>by
  rcases h with h | ⟨n,_,hr,ks,vs,bs,c,fz,hh⟩
  ·exact h
  grind
 jmap:=λ_ h=>⟨.inl h,rfl⟩
 cells:=λn es s fz h=>by
  right
  by_cases hm:n∈ns
  ·exact ⟨es,max fz es.length,by simp only [Sg.lend,if_pos hm,h];rfl,Nat.le_refl _,.inl ⟨rfl,λarr t rg ha=>⟨arr,t,rg,ha,rfl⟩⟩⟩
  ·exact ⟨es,fz,by simp only [Sg.lend,if_neg hm,h],Nat.le_refl _,.inl ⟨rfl,λarr t rg ha=>⟨arr,t,rg,ha,rfl⟩⟩⟩
 maps:=λn ks vs bs c fz h=>by
  right
  refine ⟨rfl,?_⟩
  by_cases hm:n∈ns
  ·exact ⟨ks,vs,bs,c,true,by simp only [Sg.lend,if_pos hm,h];rfl⟩
  ·exact ⟨ks,vs,bs,c,fz,by simp only [Sg.lend,if_neg hm,h]⟩
 loops:=λn T N ps asg body st pend h=>by
  refine ⟨rfl,?_⟩
  by_cases hm:n∈ns
  ·exact ⟨st,pend,by simp only [Sg.lend,if_pos hm,h];rfl⟩
  ·exact ⟨st,pend,by simp only [Sg.lend,if_neg hm,h]⟩
 deads:=λ_ h=>h
theorem sr_lend (sr:SR σ) (ns:List Nat):SR (σ.lend ns):=by
 have alive:∀m p,(σ.lend ns).h m=some p->∃q,σ.h m=some q:=by
  intro m p h
  simp only [Sg.lend] at h
  split at h
  ·cases hq:σ.h m with
   |none=>grind
   |some q=>grind
  grind
 refine ⟨λn o h=>?_,λn m o p ho hp e=>?_,λn o h=>?_,λb off h=>?_,λb h=>?_,λn o h=>?_⟩
 ·by_cases hm:n∈ns
  ·simp only [Sg.lend,if_pos hm] at h
   cases hq:σ.h n with
   |none=>grind
   |some q=>
    simp only [hq,Option.map_some,Option.some.injEq] at h
    subst h
    cases q with
    |cells es s fz=>
     obtain ⟨arr,t,rg,vs,h1,hj,h2,h3,h4,h5,h6,h7⟩:=sr.obj n _ hq
     refine ⟨arr,t,rg,vs,h1,?_,h2,h3.mono (le_lend sr ns),h4,h5,h6,?_⟩
     ·rintro (h | ⟨m,_,hr,ks,vs,bs,c,fz,hh⟩)
      ·exact hj h
      ·have:=sr.inj m n _ _ hh hq hr
       grind
     ·rintro off ho (h | ⟨m,_,hr,es',s',fz',hh,hlt⟩)
      ·exact h7 off (Nat.le_trans (Nat.mul_le_mul_right s (Nat.le_max_left _ _)) ho) h
      ·have:=sr.inj m n _ _ hh hq hr
       subst this
       rw [hq] at hh;cases hh
       have:=Nat.mul_le_mul_right s (Nat.le_max_right fz es.length)
       omega
    |map ks xs bs clock fz=>
     obtain ⟨ents,vs,h1,h2,h3,h4,h5⟩:=sr.obj n _ hq
     exact ⟨ents,vs,h1,h2.mono (le_lend sr ns),h3,h4,λe=>by cases e⟩
    |loop T N ps asg body st pend=>
     obtain ⟨rec,h1,h2,h3,h4,h5,h6,h7,h8,h9⟩:=sr.obj n _ hq
     refine ⟨rec,h1,?_,h3,h4,h5,h6,h7,h8,λt v hv=>(h9 t v hv).mono (le_lend sr ns)⟩
     rintro (h | ⟨m,_,hr,ks,vs,bs,c,fz,hh⟩)
     ·exact h2 h
     ·have:=sr.inj m n _ _ hh hq hr
      grind
  ·simp only [Sg.lend,if_neg hm] at h
   have hno:∀m∈ns,σ.r m=σ.r n->∀q,σ.h m=some q->False:=λm hmn hr q hq=>by
    have:=sr.inj m n _ _ hq h hr
    grind
   refine OR.keep (le_lend sr ns) (sr.obj n _ h) rfl rfl (λoff hI=>?_) (λhJ=>?_)
   ·rcases hI with hI | ⟨m,hmn,hr,es,s,fz,hh,_⟩
    ·exact hI
    grind
   ·rcases hJ with hJ | ⟨m,hmn,hr,ks,vs,bs,c,fz,hh⟩
    ·exact hJ
    grind
 ·obtain ⟨o',ho'⟩:=alive n o ho
  obtain ⟨p',hp'⟩:=alive m p hp
  exact sr.inj n m _ _ ho' hp' e
 ·obtain ⟨o',ho'⟩:=alive n o h
  exact sr.lt n _ ho'
 ·rcases h with h | ⟨n,_,rfl,es,s,fz,hh,_⟩
  ·exact sr.ilt b off h
  ·exact sr.lt n _ hh
 ·rcases h with h | ⟨n,_,rfl,ks,vs,bs,c,fz,hh⟩
  ·exact sr.jlt b h
  ·exact sr.lt n _ hh
 ·obtain ⟨o',ho'⟩:=alive n o h
  exact sr.alive n _ ho'
abbrev LTV (σ:Sg) (ns:List Nat) (x:AV) (v:Value):Prop:=TV (σ.lend ns).w (σ.lend ns).I (σ.lend ns).J x v
abbrev LTVs (σ:Sg) (ns:List Nat) (x:List AV) (v:List Value):Prop:=TVs (σ.lend ns).w (σ.lend ns).I (σ.lend ns).J x v
theorem viewList_vr {view:AV->Option (AV×List Nat)} {H:Heap} {ns0:List Nat}
 (hv:∀x x' ns v,VR σ x v->view x=some (x',ns)->(∀n∈ns,look H.objs n=σ.h n)->(∀n∈ns,n∈ns0)->LTV σ ns0 x' v) :
 ∀{cs ds:List AV} {ns:List Nat} {vs:List Value},VRs σ cs vs->viewList view cs=some (ds,ns)->(∀n∈ns,look H.objs n=σ.h n)->(∀n∈ns,n∈ns0)->LTVs σ ns0 ds vs
 |[],ds,ns,_,.nil,h,_,_=>by cases h;exact .nil
 |c::cs,ds,ns,_,.cons hc hs,h,hf,h0=>by
  simp only [viewList] at h
  split at h
  ·rename_i d n1 ds' n2 h1 h2
   cases h
   exact .cons (hv _ _ _ _ hc h1 (λn hn=>hf n (by simp [hn])) (λn hn=>h0 n (by simp [hn]))) (viewList_vr hv hs h2 (λn hn=>hf n (by simp [hn])) (λn hn=>h0 n (by simp [hn])))
  ·cases h
theorem viewLists_flat {view:AV->Option (AV×List Nat)}:∀{cs ds:List (List AV)} {ns:List Nat},viewLists view cs=some (ds,ns)->
 ∃ns',viewList view cs.flatten=some (ds.flatten,ns')/\(∀n,n∈ns'↔n∈ns)/\ds.map List.length=cs.map List.length
 |[],ds,ns,h=>by cases h;exact ⟨[],rfl,by simp,rfl⟩
 |c::cs,ds,ns,h=>by
  simp only [viewLists] at h
  split at h
  ·rename_i d n1 ds' n2 h1 h2
   cases h
   obtain ⟨n3,h3,h4,h5⟩:=viewLists_flat h2
   have app:∀{a b p q:List AV} {m1 m2:List Nat},viewList view a=some (p,m1)->viewList view b=some (q,m2)->viewList view (a++b)=some (p++q,m1++m2)/\p.length=a.length:=by
    intro a
    induction a with
    |nil=>intro b p q m1 m2 h1 h2;cases h1;exact ⟨by simpa using h2,rfl⟩
    |cons x r ih=>
     intro b p q m1 m2 h1 h2
     simp only [viewList] at h1
     split at h1
     ·rename_i y k1 ys k2 hy hys
      cases h1
      obtain ⟨e1,e2⟩:=ih hys h2
      refine ⟨?_,by simp [e2]⟩
      simp only [List.cons_append,viewList,hy,e1]
      simp
     ·cases h1
   obtain ⟨e1,e2⟩:=app h1 h3
   refine ⟨n1++n3,by simpa using e1,λn=>by simp [h4],by simp [e2,h5]⟩
  ·cases h
theorem view_vr (sr:SR σ) {H:Heap} {ns0:List Nat}:∀(k:Nat) (x x':AV) (ns:List Nat) (v:Value),VR σ x v->viewA H k x=some (x',ns)->(∀n∈ns,look H.objs n=σ.h n)->(∀n∈ns,n∈ns0)->LTV σ ns0 x' v
 |0,_,_,_,_,_,h,_,_=>by cases h
 |k+1,x,x',ns,v,hx,h,hf,h0=>by
  have ih:=λx x' ns v=>view_vr sr (H:=H) (ns0:=ns0) k x x' ns v
  have l:=le_lend sr ns0
  have tm:∀{y:AV} {u:Value},TV σ.w σ.I σ.J y u->LTV σ ns0 y u:=λh=>h.mono l.icell l.jmap
  unfold viewA at h
  split at h
  ·cases h
   obtain ⟨rfl,hs⟩:=hx.sc_inv
   exact .sc hs
  ·cases h
   cases hx with
   |tree hx=>grind
   |stale hx=>exact hx.elim
  ·cases h
   cases hx with
   |tree hx=>grind
   |stale hx=>exact hx.elim
  ·cases h
   cases hx with
   |tree hx=>grind
   |stale hx=>exact hx.elim
  ·split at h
   ·rename_i ds n1 h1
    cases h
    obtain ⟨us,rfl,hus⟩:=hx.agg_inv
    exact .agg (viewList_vr ih hus h1 hf h0)
   ·cases h
  ·split at h
   ·rename_i ds n1 h1
    cases h
    obtain ⟨us,rfl,hus⟩:=hx.tup_inv
    exact .tup (viewList_vr ih hus h1 hf h0)
   ·cases h
  ·split at h
   ·cases h
   rename_i hy
   replace hy:=(Bool.not_eq_true _).mp hy
   split at h
   ·rename_i p n1 q n2 h1 h2
    cases h
    obtain ⟨fs,cs,rfl,hfs,hcs⟩:=hx.fn_inv hy
    exact .fn hy (viewList_vr ih hfs h1 (λn hn=>hf n (by simp [hn])) (λn hn=>h0 n (by simp [hn]))) (viewList_vr ih hcs h2 (λn hn=>hf n (by simp [hn])) (λn hn=>h0 n (by simp [hn])))
   ·cases h
  ·split at h
   ·rename_i z n1 h1
    cases h
    obtain ⟨u,rfl,hu⟩:=hx.ifc_inv
    exact .ifc (ih _ _ _ _ hu h1 hf h0)
   ·cases h
  ·rename_i n g off len cap
   split at h
   ·rename_i es s fz ho
    split at h
    ·rename_i hg
     split at h
     ·rename_i ds n1 h1
      cases h
      have hn:σ.h n=some (.cells es s fz):=by grind
      obtain ⟨cap',arr,t',rg,rfl,hw,hl,hr,hle,hcap⟩:=hx.sl_inv sr hn hg
      obtain ⟨arr0,t0,rg0,full,q1,qj,q2,q3,q4,q5,q6,q7⟩:=sr.obj n _ hn
      obtain ⟨n3,h3,h4,h5⟩:=viewLists_flat h1
      have hlen:ds.length=len:=by
       have:=congrArg List.length h5
       grind
      have hsub:∀e∈(es.drop off).take len,e.length=s:=λe he=>q4 e (List.mem_of_mem_drop (List.mem_of_mem_take he))
      have hds:∀e∈ds,e.length=s:=by
       grind [List.mem_map_of_mem]
      have hov:VRs σ ((es.drop off).take len).flatten ((full.drop (off*s)).take (len*s)):=by
       rw [flatten_take len (λe he=>q4 e (List.mem_of_mem_drop he)),flatten_drop off q4]
       exact (q3.drop _).take _
      have hfull:=q3.length
      rw [flatten_length q4] at hfull
      have htv:=viewList_vr ih hov h3 (λm hm=>hf m (by grind)) (λm hm=>h0 m (by grind))
      have hb:=Nat.mul_le_mul_right s (show off+len<=es.length by omega)
      rw [Nat.add_mul] at hb
      have hrow:Row (σ.lend ns0).w (σ.lend ns0).I ⟨σ.r n,off*s,none⟩ ((full.drop (off*s)).take (len*s)):=by
       refine ⟨rfl,λj u hu=>?_⟩
       rw [List.getElem?_take] at hu
       split at hu
       ·rename_i hjl
        rw [List.getElem?_drop] at hu
        refine ⟨.inr ⟨n,h0 n (by simp),rfl,es,s,fz,hn,by grind⟩,?_⟩
        rw [show (σ.lend ns0).w=σ.w from rfl,cell_of_heap q1]
        grind
       grind
      have:=TV.isl (capd:=cap==some len) (cap:=cap') htv (λ_=>hrow) hds (by omega) (λe=>by
       have e':cap=some len:=by grind
       rw [hlen]
       exact (hcap.1 len e').1)
      grind
     ·cases h
    ·cases h
   ·cases h
  ·rename_i n g i fo
   split at h
   ·rename_i es s fz ho
    split at h
    ·rename_i hg
     split at h
     ·rename_i ds n1 h1
      cases h
      have hn:σ.h n=some (.cells es s fz):=by grind
      have hp:=hx.pt_inv sr hn hg
      subst hp
      obtain ⟨arr0,t0,rg0,full,q1,qj,q2,q3,q4,q5,q6,q7⟩:=sr.obj n _ hn
      have hfull:=q3.length
      rw [flatten_length q4] at hfull
      have hov:VRs σ (((es.drop i).flatten).drop fo) (full.drop (i*s+fo)):=by
       rw [flatten_drop i q4,List.drop_drop]
       exact q3.drop _
      have htv:=viewList_vr ih hov h1 (λm hm=>hf m (by simp [hm])) (λm hm=>h0 m (by simp [hm]))
      refine .ipt htv ⟨rfl,λj u hu=>?_⟩
      rw [List.getElem?_drop] at hu
      have:=(List.getElem?_eq_some_iff.1 hu).1
      refine ⟨.inr ⟨n,h0 n (by simp),rfl,es,s,fz,hn,by grind⟩,?_⟩
      rw [show (σ.lend ns0).w=σ.w from rfl,cell_of_heap q1]
      grind
     ·cases h
    ·cases h
   ·cases h
  ·rename_i n
   split at h
   ·rename_i ks vs bs c fz ho
    split at h
    ·rename_i ds n1 h1
     split at h
     rotate_left
     ·cases h
     rename_i hbo
     cases h
     have hn:σ.h n=some (.map ks vs bs c fz):=by grind
     have hp:=hx.mp_inv sr hn
     subst hp
     obtain ⟨ents,vs0,q1,q2,q3,q4,q5⟩:=sr.obj n _ hn
     exact .imp (viewList_vr ih q2 h1 (λm hm=>hf m (by simp [hm])) (λm hm=>h0 m (by simp [hm]))) (.inr ⟨n,h0 n (by simp),rfl,ks,vs,bs,c,fz,hn⟩) q1 q3 (by grind)
    ·cases h
   ·cases h
theorem le_below (sr:SR σ) {w':World} {I':Nat->Nat->Prop} {J':Nat->Prop} (hb:RowKit.Below σ.w.heap.size σ.w w') (hI:∀b off,σ.I b off->I' b off) (hI':∀b off,I' b off->σ.I b off\/(σ.w.heap.size<=b/\b<w'.heap.size))
 (hJ:∀b,σ.J b->J' b) (hJ':∀b,J' b->σ.J b\/(σ.w.heap.size<=b/\b<w'.heap.size)):Le σ { σ with w:=w',I:=I',J:=J' }/\SR { σ with w:=w',I:=I',J:=J' }:=by
 have l:Le σ { σ with w:=w',I:=I',J:=J' }:={
  os:=hb.os
  tape:=hb.tape
  output:=hb.output
  size:=hb.size
  frame:=λb h _=>hb.block b h
  old:=λn o h h'=>by grind
  icell:=λb off h=>⟨hI b off h,cell_same (hb.block b (sr.ilt b off h))⟩
  inew:=λb off h hlt _=>by grind
  jnew:=λb h hlt _=>by grind
  jmap:=λb h=>⟨hJ b h,hb.block b (sr.jlt b h)⟩
  cells:=λn es s fz h=>.inr ⟨es,fz,h,Nat.le_refl _,.inl ⟨rfl,λarr t rg ha=>⟨arr,t,rg,(hb.block _ (sr.lt n _ h)).trans ha,rfl⟩⟩⟩
  maps:=λn ks vs bs c fz h=>.inr ⟨rfl,ks,vs,bs,c,fz,h⟩
  loops:=λn T N ps asg body st pend h=>⟨rfl,st,pend,h⟩
  deads:=λ_ h=>h }
 refine ⟨l,⟨λn o h=>?_,sr.inj,λn o h=>Nat.lt_of_lt_of_le (sr.lt n o h) hb.size,λb off h=>?_,λb h=>?_,sr.alive⟩⟩
 ·have hlt:=sr.lt n o h
  refine OR.keep l (sr.obj n o h) rfl (hb.block _ hlt) (λoff h=>?_) (λh=>?_)
  ·grind
  grind
 ·rcases hI' b off h with h | h
  ·exact Nat.lt_of_lt_of_le (sr.ilt b off h) hb.size
  grind
 ·rcases hJ' b h with h | h
  ·exact Nat.lt_of_lt_of_le (sr.jlt b h) hb.size
  grind
def OutR (σ:Sg):Out->Ending->Prop
 |.ret x,.returned v=>VR σ x v
 |.pan x,.panicked chain=>∃v,chain=[{ v,recovered:=false }]/\VR σ x v
 |_,_=>False
def plain:AV->Bool
 |.sc _ | .isl [] _=>true
 |.agg cs | .tup cs=>(scs cs).isSome
 |_=>false
theorem scs_tv {w w':World} {I I':Nat->Nat->Prop} {J J':Nat->Prop}:∀{cs:List AV} {xs ds:List Value},scs cs=some xs->TVs w I J cs ds->TVs w' I' J' cs ds
 |[],_,_,_,.nil=>.nil
 |c::cs,xs,_,h,.cons hv hs=>by
  cases c<;>simp only [scs,reduceCtorEq] at h
  split at h
  ·rename_i l hl
   cases hv with
   |sc hsc=>exact .cons (.sc hsc) (scs_tv hl hs)
  ·cases h
theorem plain_tv {w w':World} {I I':Nat->Nat->Prop} {J J':Nat->Prop} {x:AV} {v:Value} (hp:plain x=true) (h:TV w I J x v):TV w' I' J' x v:=by
 cases h<;>simp only [plain,Bool.false_eq_true] at hp
 case sc h=>exact .sc h
 case isl es capd a vs s cap ht hr hs hc hd=>
  cases es with
  |nil=>cases ht;exact .isl (vs:=[]) (s:=s) .nil (λe=>absurd rfl e) (λe he=>by cases he) hc hd
  |cons e es=>grind
 case agg h=>obtain ⟨xs,hx⟩:=Option.isSome_iff_exists.1 hp;exact .agg (scs_tv hx h)
 case tup h=>obtain ⟨xs,hx⟩:=Option.isSome_iff_exists.1 hp;exact .tup (scs_tv hx h)
theorem OutV.outR {r:Out} {e:Ending} (h:OutV σ.w σ.I σ.J r e):OutR σ r e:=by
 cases r<;>cases e<;>simp only [OutV,OutR] at h ⊢
 ·exact .tree h
 ·obtain ⟨v,h1,h2⟩:=h;exact ⟨v,h1,.tree h2⟩
theorem OutV.plain {w w':World} {I I':Nat->Nat->Prop} {J J':Nat->Prop} {r:Out} {e:Ending} (hp:plain r.val=true) (h:OutV w I J r e):OutV w' I' J' r e:=by
 cases r<;>cases e<;>simp only [OutV,Out.val] at h hp ⊢
 ·exact plain_tv hp h
 grind [plain_tv]
theorem call_ok (sr:SR σ) {H:Heap} {k:Nat} {xs ys:List AV} {vs:List Value} {ns:List Nat} {f:FuncId} {r:Out} (hx:VRs σ xs vs) (hv:viewList (viewA H k) xs=some (ys,ns))
 (hf:∀n∈ns,look H.objs n=σ.h n) (hval:Calls1 P f ys r) :
 Calls P f vs.toArray σ.w λe w'=>∃σ',σ'.w=w'/\σ'.h=(if plain r.val then σ.h else (σ.lend ns).h)/\σ'.dead=σ.dead/\Le σ σ'/\SR σ'/\OutR σ' r e:=by
 have l0:=le_lend sr ns
 have sr0:=sr_lend sr ns
 have htv:LTVs σ ns ys vs:=viewList_vr (λx x' m v h1 h2 h3 h4=>view_vr sr (H:=H) k x x' m v h1 h2 h3 h4) hx hv hf (λn hn=>hn)
 refine (hval σ.w (σ.lend ns).I (σ.lend ns).J vs sr0.ilt sr0.jlt htv).mono ?_
 rintro e w' ⟨hb,I',J',h1,h2,h3,h4,h5⟩
 by_cases hp:plain r.val=true
 ·obtain ⟨l,sr'⟩:=le_below sr (w':=w') (I':=σ.I) (J':=σ.J) hb (λ_ _ h=>h) (λ_ _ h=>.inl h) (λ_ h=>h) (λ_ h=>.inl h)
  exact ⟨{ σ with w:=w',I:=σ.I,J:=σ.J },rfl,by rw [if_pos hp],rfl,l,sr',(h5.plain hp).outR⟩
 ·obtain ⟨l,sr'⟩:=le_below sr0 (w':=w') (I':=I') (J':=J') hb h1 h2 h3 h4
  exact ⟨{ σ.lend ns with w:=w',I:=I',J:=J' },rfl,by rw [if_neg hp],rfl,l0.trans sr0 l sr',sr',OutV.outR (σ:={ σ.lend ns with w:=w',I:=I',J:=J' }) h5⟩
end Go.Abs
end
section
namespace Go.Abs
variable {σ:Sg}
theorem tvs_vrs1:∀{xs:List AV} {vs:List Value},TVs σ.w σ.I σ.J xs vs->VRs σ xs vs
 |[],_,.nil=>.nil
 |_::_,_,.cons h hs=>.cons (.tree h) (tvs_vrs1 hs)
structure Fresh1 (w w':World) (I':Nat->Nat->Prop) (J':Nat->Prop) (es:List (List AV)) (s fz:Nat) (B:Nat) (cap:Nat):Prop where
 lo:w.heap.size<=B
 hi:B<w'.heap.size
 row:∃(arr:Array Value) (t:TypeId) (rg:Nat×Nat) (vs:List Value),w'.heap[B]?=some (.cells arr t rg)/\¬J' B/\(∀off,off<=arr.size->¬(rg.1<=off/\off<rg.2))/\TVs w' I' J' es.flatten vs/\(∀e∈es,e.length=s)/\vs.length<=arr.size/\
    (∀(j:Nat) (v:Value),vs[j]?=some v->arr[j]?=some v)/\(∀off,fz*s<=off->¬I' B off)/\cap*s<=arr.size
 cap:es.length<=cap
theorem tvs_plain {w w':World} {I I':Nat->Nat->Prop} {J J':Nat->Prop}:∀{xs:List AV} {vs:List Value},xs.all plain=true->TVs w I J xs vs->TVs w' I' J' xs vs
 |[],_,_,.nil=>.nil
 |x::xs,_,h,.cons hv hs=>by
  simp only [List.all_cons,Bool.and_eq_true] at h
  exact .cons (plain_tv h.1 hv) (tvs_plain h.2 hs)
theorem Fresh1.plain {w w':World} {I I':Nat->Nat->Prop} {J J':Nat->Prop} {es:List (List AV)} {s fz B cap:Nat} (h:Fresh1 w w' I' J' es s fz B cap) (hp:es.all (·.all plain)=true) (hI:∀b off,I b off->I' b off) (hJ:∀b,J b->J' b):Fresh1 w w' I J es s fz B cap:=by
 obtain ⟨lo,hi,⟨arr,t,rg,vs,q1,q2,q3,q4,q5,q6,q7,q8,q9⟩,hc⟩:=h
 refine ⟨lo,hi,⟨arr,t,rg,vs,q1,λh=>q2 (hJ _ h),q3,tvs_plain ?_ q4,q5,q6,q7,λoff ho h=>q8 off ho (hI _ _ h),q9⟩,hc⟩
 rw [List.all_eq_true]
 intro x hx
 obtain ⟨e,he,hxe⟩:=List.mem_flatten.1 hx
 exact List.all_eq_true.1 (List.all_eq_true.1 hp e he) x hxe
theorem adopt (sr:SR σ) {st:Nat} (hfr:Fresh σ st) {w':World} {I':Nat->Nat->Prop} {J':Nat->Prop} (hb:RowKit.Below σ.w.heap.size σ.w w') (hI:∀b off,σ.I b off->I' b off) (hI':∀b off,I' b off->σ.I b off\/(σ.w.heap.size<=b/\b<w'.heap.size))
 (hJ:∀b,σ.J b->J' b) (hJ':∀b,J' b->σ.J b\/(σ.w.heap.size<=b/\b<w'.heap.size)) {es:List (List AV)} {s fz B cap:Nat} (hrow:Fresh1 σ.w w' I' J' es s fz B cap) :
 ∃σ':Sg,σ'.w=w'/\σ'.h=upd σ.h st (some (.cells es s fz))/\σ'.dead=σ.dead/\Le σ σ'/\SR σ'/\VR σ' (.sl st es.length 0 es.length none) (.slice (some ⟨B,0,none⟩) es.length cap):=by
 let σ':Sg:={ σ with w:=w',I:=I',J:=J',r:=upd σ.r st B,h:=upd σ.h st (some (.cells es s fz)) }
 have hne:∀m p,σ.h m=some p->m≠st:=λm p h e=>by rw [e,hfr.1] at h;cases h
 have l:Le σ σ':={
  os:=hb.os
  tape:=hb.tape
  output:=hb.output
  size:=hb.size
  frame:=λb h _=>hb.block b h
  old:=λn o h h'=>by
   by_cases e:n=st
   ·subst e;simp only [σ',upd_same];exact hrow.lo
   ·simp only [σ',upd_ne _ _ e] at h;rw [h] at h';cases h'
  icell:=λb off h=>⟨hI b off h,cell_same (hb.block b (sr.ilt b off h))⟩
  inew:=λb off h hlt _=>by rcases hI' b off h with h | h;exact h;omega
  jnew:=λb h hlt _=>by rcases hJ' b h with h | h;exact h;omega
  jmap:=λb h=>⟨hJ b h,hb.block b (sr.jlt b h)⟩
  cells:=λn es' s' fz' h=>by
   have e:=hne n _ h
   exact .inr ⟨es',fz',by simp only [σ',upd_ne _ _ e];exact h,Nat.le_refl _,.inl ⟨upd_ne _ _ e,λarr t rg ha=>⟨arr,t,rg,(hb.block _ (sr.lt n _ h)).trans ha,rfl⟩⟩⟩
  maps:=λn ks vs bs c fz' h=>by
   have e:=hne n _ h
   exact .inr ⟨upd_ne _ _ e,ks,vs,bs,c,fz',by simp only [σ',upd_ne _ _ e];exact h⟩
  loops:=λn T N ps asg body st' pend h=>by
   have e:=hne n _ h
   exact ⟨upd_ne _ _ e,st',pend,by simp only [σ',upd_ne _ _ e];exact h⟩
  deads:=λ_ h=>h }
 obtain ⟨arr,t,rg,vs,q1,q2,q3,q4,q5,q6,q7,q8,q9⟩:=hrow.row
 have hst:σ'.h st=some (.cells es s fz):=upd_same _ _ _
 have hrs:σ'.r st=B:=upd_same _ _ _
 have sr':SR σ':=by
  refine ⟨λn o h=>?_,λn m o p h1 h2 e=>?_,λn o h=>?_,λb off h=>?_,λb h=>?_,λn o h=>?_⟩
  ·by_cases e:n=st
   ·subst e
    rw [hst] at h
    cases h
    refine ⟨arr,t,rg,vs,by rw [hrs];exact q1,by rw [hrs];exact q2,q3,?_,q5,q6,q7,by rw [hrs];exact q8⟩
    exact tvs_vrs1 (σ:=σ') q4
   ·simp only [σ',upd_ne _ _ e] at h
    have hlt:=sr.lt n o h
    refine OR.keep l (sr.obj n o h) (upd_ne _ _ e) (hb.block _ hlt) (λoff h=>?_) (λh=>?_)
    ·rcases hI' _ off h with h | h
     ·exact h
     ·omega
    ·rcases hJ' _ h with h | h
     ·exact h
     ·omega
  ·by_cases e1:n=st
   ·by_cases e2:m=st
    ·rw [e1,e2]
    ·exfalso
     simp only [σ',upd_ne _ _ e2] at h2 e
     rw [e1,upd_same] at e
     have:=sr.lt m p h2
     have:=hrow.lo
     omega
   ·by_cases e2:m=st
    ·exfalso
     simp only [σ',upd_ne _ _ e1] at h1 e
     rw [e2,upd_same] at e
     have:=sr.lt n o h1
     have:=hrow.lo
     omega
    ·simp only [σ',upd_ne _ _ e1,upd_ne _ _ e2] at h1 h2 e
     exact sr.inj n m o p h1 h2 e
  ·by_cases e:n=st
   ·rw [e,hrs];exact hrow.hi
   ·simp only [σ',upd_ne _ _ e] at h ⊢
    exact Nat.lt_of_lt_of_le (sr.lt n o h) hb.size
  ·rcases hI' b off h with h | h
   ·exact Nat.lt_of_lt_of_le (sr.ilt b off h) hb.size
   ·exact h.2
  ·rcases hJ' b h with h | h
   ·exact Nat.lt_of_lt_of_le (sr.jlt b h) hb.size
   ·exact h.2
  ·by_cases e:n=st
   ·subst e;exact hfr.2
   ·simp only [σ',upd_ne _ _ e] at h
    exact sr.alive n o h
 refine ⟨σ',rfl,rfl,rfl,l,sr',?_⟩
 have:=VR.sl (σ:=σ') (n:=st) (off:=0) (len:=es.length) (cap':=cap) (cap:=none) (arr:=arr) (t:=t) (rg:=rg) hst (by rw [hrs];exact q1) (by omega) (by rw [Nat.zero_add];exact q9) hrow.cap ⟨λc h=>by (cases h),λ_=>by have:=hrow.cap;omega⟩
 rw [hrs,Nat.zero_mul] at this
 exact this
def ValidOwn (P:Program) (f:FuncId) (args:List AV) (es:List (List AV)) (s fz:Nat):Prop:=Enters P f/\
 ∀(w:World) (I:Nat->Nat->Prop) (J:Nat->Prop) (vs:List Value),(∀b off,I b off->b<w.heap.size)->(∀b,J b->b<w.heap.size)->TVs w I J args vs->
  Calls P f vs.toArray w λe w'=>RowKit.Below w.heap.size w w'/\∃(I':Nat->Nat->Prop) (J':Nat->Prop),(∀b off,I b off->I' b off)/\(∀b off,I' b off->I b off\/(w.heap.size<=b/\b<w'.heap.size))/\
   (∀b,J b->J' b)/\(∀b,J' b->J b\/(w.heap.size<=b/\b<w'.heap.size))/\∃B cap,Fresh1 w w' I' J' es s fz B cap/\e=.returned (.slice (some ⟨B,0,none⟩) es.length cap)
theorem ValidOwn.valid {P:Program} {f:FuncId} {args:List AV} {es:List (List AV)} {s fz:Nat} (h:ValidOwn P f args es s fz):Valid P f args (.ret (.isl es false)):=by
 refine ⟨h.1,λw I J vs hI hJ hv=>(h.2 w I J vs hI hJ hv).mono ?_⟩
 rintro e w' ⟨hb,I',J',h1,h2,h3,h4,B,cap,⟨lo,hi,⟨arr,t,rg,ys,q1,q2,q3,q4,q5,q6,q7,q8,q9⟩,hc⟩,rfl⟩
 refine ⟨hb,λb off=>I' b off\/(b=B/\off<ys.length),J',λb off h=>.inl (h1 b off h),λb off h=>?_,h3,h4,?_⟩
 ·rcases h with h | ⟨rfl,_⟩
  ·exact h2 b off h
  ·exact .inr ⟨lo,hi⟩
 ·refine .isl (vs:=ys) (s:=s) (TVs.mono (λb off h=>⟨.inl h,rfl⟩) (λb h=>⟨h,rfl⟩) q4) (λ_=>⟨rfl,λj v hj=>?_⟩) q5 hc λh=>by cases h
  have hl:=(List.getElem?_eq_some_iff.1 hj).1
  refine ⟨.inr ⟨rfl,by simpa using hl⟩,?_⟩
  simp only [Nat.zero_add]
  rw [cell_of_heap q1]
  exact q7 j v hj
end Go.Abs
end
section
namespace Go.Abs
def Used (σ:Sg) (m:Nat):Prop:=σ.h m≠none\/σ.dead m
def Calls2 (P:Program) (f:FuncId) (args:List AV) (H:Heap) (r:Out) (H':Heap):Prop:=
 ∀(σ:Sg) (vs:List Value),SR σ->σ.h=look H.objs->(∀m,H.next<=m->σ.h m=none/\¬σ.dead m)->VRs σ args vs->
  Calls P f vs.toArray σ.w λe w'=>∃σ',σ'.w=w'/\σ'.h=look H'.objs/\Le σ σ'/\SR σ'/\H.next<=H'.next/\(∀m,σ'.dead m->Used σ m\/(H.next<=m/\m<H'.next))/\
   (∀m,H'.next<=m->σ'.h m=none/\¬σ'.dead m)/\OutR σ' r e
def Valid2 (P:Program) (f:FuncId) (args:List AV) (H:Heap) (r:Out) (H':Heap):Prop:=Enters P f/\Calls2 P f args H r H'
inductive Obl where
 |pure (f:FuncId) (args:List AV) (r:Out)
 |inl (f:FuncId) (args:List AV) (H:Heap) (r:Out) (H':Heap)
 |own (f:FuncId) (args:List AV) (es:List (List AV)) (s fz:Nat)
 |round (n:Nat) (args:List AV) (H:Heap) (r:Out) (H':Heap)
 |meth (t:TypeId) (m:String) (f:FuncId)
def MethOK (P:Program) (t:TypeId) (m:String) (f:FuncId):Prop:=∀v w,(method (P.types.size+Made.depth) t v m).run P w=.ok (f,v) w
def Obl.holds (P:Program):Obl->Prop
 |.pure f args r=>Valid P f args r
 |.inl f args H r H'=>Valid2 P f args H r H'
 |.own f args es s fz=>ValidOwn P f args es s fz
 |.round _ _ _ _ _=>False
 |.meth t m f=>MethOK P t m f
structure Hd where
 call:Nat->FuncId->List AV->Option Out
 inl:Nat->FuncId->List AV->Heap->Option (Out×Heap)
 isInl:Nat->FuncId->Bool
 own:Nat->FuncId->List AV->Option (List (List AV)×Nat×Nat)
 isOwn:Nat->FuncId->Bool
 round:Nat->Nat->List AV->Heap->Option (Out×Heap)
 meth:TypeId->String->Option FuncId
structure Rec where
 out:Out
 e:Eff
 ob:List Obl
def calleeOf (hd:Hd) (T:Tm) (o:Oper):Option (FuncId×List AV×List Obl):=
 match o.op with
 |.call c=>match c.callee with
  |.value f=>match aev T f,mapOpt (aev T) c.args.toList with
   |some (.fn (.func g) first caps),some args=>some (g,first++args++caps,[])
   |_,_=>none
  |.invoke r m=>match aev T r,mapOpt (aev T) c.args.toList with
   |some (.ifc t x),some args=>match hd.meth t m with
    |some f=>some (f,x::args,[.meth t m f])
    |none=>none
   |_,_=>none
  |_=>none
 |_=>none
def yieldOf (T:Tm) (o:Oper):Option (Nat×List AV):=
 match o.op with
 |.call c=>match c.callee with
  |.value f=>match aev T f,mapOpt (aev T) c.args.toList with
   |some (.fn (.yield n) [] []),some args=>some (n,args)
   |_,_=>none
  |_=>none
 |_=>none
def marks (H:Heap):List Nat->List (Nat×AO)
 |[]=>[]
 |n::ns=>match look H.objs n with
  |some o=>(n,frozenO o)::marks H ns
  |none=>marks H ns
def ownA (hd:Hd) (i:Nat) (H:Heap) (f:FuncId) (args:List AV):Option Rec:=
 if hd.isOwn i f then match viewList (viewA H 8) args with
  |some (ys,ns)=>match hd.own i f ys with
   |some (es,s,fz)=>some ⟨.ret (.sl H.next es.length 0 es.length none),.loc ns ((if es.all (·.all plain) then [] else marks H ns)++[(H.next,.cells es s fz)]) 1,[.own f ys es s fz]⟩
   |none=>none
  |none=>none
 else none
def panicOf (T:Tm) (o:Oper):Option AV:=
 match o.op with
 |.panic x=>match aev T x with
  |some (.ifc t v)=>some (.ifc t v)
  |_=>none
 |_=>none
def stepA (tab:Tab) (hd:Hd) (i:Nat) (T:Tm) (H:Heap) (o:Oper):Option Rec:=
 match calleeOf hd T o with
 |some (f,args,obs)=>
  if hd.isInl i f then
   match hd.inl i f args H with
   |some (r,H')=>some ⟨r,.glob H',.inl f args H r H'::obs⟩
   |none=>none
  else match ownA hd i H f args with
  |some rc=>some ⟨rc.out,rc.e,rc.ob++obs⟩
  |none=>match viewList (viewA H 8) args with
   |some (ys,ns)=>match hd.call i f ys with
    |some r=>some ⟨r,.loc ns (if plain r.val then [] else marks H ns) 0,.pure f ys r::obs⟩
    |none=>none
   |none=>none
 |none=>match yieldOf T o with
  |some (n,args)=>match hd.round i n args H with
   |some (r,H')=>some ⟨r,.glob H',[.round n args H r H']⟩
   |none=>none
  |none=>match panicOf T o with
   |some v=>some ⟨.pan v,.loc [] [] 0,[]⟩
   |none=>match aop tab T H H.next o with
    |some ⟨v,.loc rd ups nw⟩=>some ⟨.ret v,.loc rd ups nw,[]⟩
    |_=>none
def updAll (h:Nat->Option AO):List (Nat×AO)->Nat->Option AO
 |[]=>h
 |(n,o)::r=>updAll (upd h n (some o)) r
def effOn (e:Eff) (h:Nat->Option AO):Nat->Option AO:=
 match e with
 |.loc _ ups _=>updAll h ups
 |.glob H'=>look H'.objs
def Agree (H:Heap) (σ:Sg):Eff->Prop
 |.loc rd _ _=>(∀m∈rd,look H.objs m=σ.h m)/\Fresh σ H.next
 |.glob _=>σ.h=look H.objs/\∀m,H.next<=m->σ.h m=none/\¬σ.dead m
def DeadOk (H:Heap) (σ σ':Sg):Eff->Prop
 |.loc _ _ _=>σ'.dead=σ.dead
 |.glob H'=>H.next<=H'.next/\(∀m,σ'.dead m->Used σ m\/(H.next<=m/\m<H'.next))/\∀m,H'.next<=m->σ'.h m=none/\¬σ'.dead m
variable {P:Program} {tab:Tab} {σ:Sg}
theorem updAll_append:∀(a b:List (Nat×AO)) (h:Nat->Option AO),updAll h (a++b)=updAll (updAll h a) b
 |[],_,_=>rfl
 |(n,o)::r,b,h=>by simp only [List.cons_append,updAll];exact updAll_append r b _
theorem updAll_marks {H:Heap}:∀(ns:List Nat) (h:Nat->Option AO),(∀n∈ns,∃o,look H.objs n=some o)->∀m,updAll h (marks H ns) m=if m∈ns then (look H.objs m).map frozenO else h m
 |[],_,_,_=>by rfl
 |n::ns,h,hh,m=>by
  obtain ⟨o,ho⟩:=hh n (by simp)
  simp only [marks,ho,updAll]
  rw [updAll_marks ns _ (λx hx=>hh x (by simp [hx])) m]
  by_cases hm:m∈ns
  ·simp [hm]
  ·by_cases hmn:m=n
   ·subst hmn;simp [hm,upd,ho]
   ·simp [hm,hmn,upd]
theorem lend_h {H:Heap} {ns:List Nat} (hf:∀n∈ns,look H.objs n=σ.h n) (hh:∀n∈ns,∃o,look H.objs n=some o):(σ.lend ns).h=updAll σ.h (marks H ns):=by
 funext m
 rw [updAll_marks ns σ.h hh m]
 simp only [Sg.lend]
 grind
theorem viewList_some {view:AV->Option (AV×List Nat)} {H:Heap} (hv:∀x y ns,view x=some (y,ns)->∀n∈ns,∃o,look H.objs n=some o) :
 ∀{cs ds:List AV} {ns:List Nat},viewList view cs=some (ds,ns)->∀n∈ns,∃o,look H.objs n=some o
 |[],_,_,h=>by cases h;simp
 |c::cs,_,_,h=>by
  simp only [viewList] at h
  split at h
  ·rename_i d n1 ds' n2 h1 h2
   cases h
   intro n hn
   rcases List.mem_append.1 hn with hn | hn
   ·grind
   ·exact viewList_some hv h2 n hn
  ·cases h
theorem view_some {H:Heap}:∀(k:Nat) (x y:AV) (ns:List Nat),viewA H k x=some (y,ns)->∀n∈ns,∃o,look H.objs n=some o
 |0,_,_,_,h=>by cases h
 |k+1,x,y,ns,h=>by
  have ih:=view_some (H:=H) k
  unfold viewA at h
  split at h
  ·cases h;simp
  ·cases h;simp
  ·cases h;simp
  ·cases h;simp
  ·split at h
   ·rename_i h1;cases h;exact viewList_some ih h1
   ·cases h
  ·split at h
   ·rename_i h1;cases h;exact viewList_some ih h1
   ·cases h
  ·split at h
   ·cases h
   split at h
   ·rename_i h1 h2
    cases h
    intro n hn
    rcases List.mem_append.1 hn with hn | hn
    ·exact viewList_some ih h1 n hn
    ·exact viewList_some ih h2 n hn
   ·cases h
  ·split at h
   ·rename_i h1;cases h;exact ih _ _ _ h1
   ·cases h
  ·split at h
   ·rename_i ho
    split at h
    ·split at h
     ·rename_i h1
      cases h
      obtain ⟨n3,h3,h4,_⟩:=viewLists_flat h1
      intro n hn
      rcases List.mem_cons.1 hn with rfl | hn
      ·exact ⟨_,ho⟩
      ·exact viewList_some ih h3 n ((h4 n).2 hn)
     ·cases h
    ·cases h
   ·cases h
  ·split at h
   ·rename_i ho
    split at h
    ·split at h
     ·rename_i h1
      cases h
      intro n hn
      rcases List.mem_cons.1 hn with rfl | hn
      ·exact ⟨_,ho⟩
      ·exact viewList_some ih h1 n hn
     ·cases h
    ·cases h
   ·cases h
  ·split at h
   ·rename_i ho
    split at h
    ·rename_i h1
     split at h
     rotate_left
     ·cases h
     cases h
     intro n hn
     rcases List.mem_cons.1 hn with rfl | hn
     ·exact ⟨_,ho⟩
     ·exact viewList_some ih h1 n hn
    ·cases h
   ·cases h
theorem yield_enter {T:Tm} {a:Act} (tr:TR σ T a) {o:Oper} {n:Nat} {args:List AV} (hc:yieldOf T o=some (n,args)) :
 ∃vs,VRs σ args vs/\(execOp a.eval o).run P σ.w=(Instr.yield (σ.r n) vs.toArray).run P σ.w:=by
 unfold yieldOf at hc
 split at hc
 ·rename_i c hop
  split at hc
  ·rename_i fo hcal
   split at hc
   ·rename_i n' args' hfn hargs
    cases hc
    obtain ⟨hfv,_⟩:=(aev_vr tr hfn).yld_inv
    have hv:=mapOpt_vr tr hargs
    refine ⟨c.args.toList.map a.eval,hv,?_⟩
    unfold execOp
    simp only [hop,resolve,hcal,Sem.run_bind,hfv,Deferred.ofValue,Sem.run_pure,Result.andThen_ok,invoke]
    congr 2
    grind
   grind
  grind
 grind
theorem calleeOf_obs {hd:Hd} {T:Tm} {o:Oper} {f:FuncId} {args:List AV} {obs:List Obl} (hc:calleeOf hd T o=some (f,args,obs)):obs=[]\/∃t m,hd.meth t m=some f/\obs=[.meth t m f]:=by
 unfold calleeOf at hc
 grind
theorem call_enter {hd:Hd} {T:Tm} {a:Act} (tr:TR σ T a) {o:Oper} {f:FuncId} {args:List AV} {obs:List Obl} (hc:calleeOf hd T o=some (f,args,obs)) (hob:∀ob∈obs,ob.holds P) (he:Enters P f) :
 ∃vs,VRs σ args vs/\(execOp a.eval o).run P σ.w=.ok (.enter f vs.toArray) σ.w:=by
 unfold calleeOf at hc
 split at hc
 ·rename_i c hop
  split at hc
  ·rename_i fo hcal
   split at hc
   ·rename_i g first args' caps hfn hargs
    cases hc
    obtain ⟨fs,cs,hfv,hfs,hcs⟩:=(aev_vr tr hfn).fn_inv rfl
    have hv:=mapOpt_vr tr hargs
    refine ⟨fs++c.args.toList.map a.eval++cs,(hfs.append hv).append hcs,?_⟩
    obtain ⟨fn,h1,h2,h3⟩:=he
    have hb:fn.body.isNone=false:=by cases hq:fn.body<;>simp_all
    unfold execOp
    simp only [hop,resolve,hcal,Sem.run_bind,hfv,Deferred.ofValue,Sem.run_pure,Result.andThen_ok,invoke,callFunc,run_program,h1,h3,hb,Bool.false_eq_true,if_false]
    simp_all
   grind
  ·rename_i r m hcal
   split at hc
   ·rename_i t x args' hr hargs
    split at hc
    ·rename_i f' hm
     cases hc
     obtain ⟨u,hu,hx⟩:=(aev_vr tr hr).ifc_inv
     have hv:=mapOpt_vr tr hargs
     have hmo:MethOK P t m f:=hob (.meth t m f) (by simp)
     refine ⟨u::c.args.toList.map a.eval,.cons hx hv,?_⟩
     obtain ⟨fn,h1,h2,h3⟩:=he
     have hb:fn.body.isNone=false:=by cases hq:fn.body<;>simp_all
     have e0:(#[Value.iface t u]++c.args.map a.eval)[0]?=some (.iface t u):=by
      grind
     have e1:#[u]++(#[Value.iface t u]++c.args.map a.eval).extract 1 (#[Value.iface t u]++c.args.map a.eval).size=(u::c.args.toList.map a.eval).toArray:=by
      apply Array.ext'
      simp
      grind [List.take_of_length_le]
     unfold execOp
     simp only [hop,resolve,hcal,Sem.run_bind,hu,Sem.run_pure,Result.andThen_ok,invoke,e0,callMethod,run_program,hmo u σ.w,e1,callFunc,h1,h3,hb,Bool.false_eq_true,if_false]
    grind
   grind
  grind
 grind
theorem step_sound (tabOk:TabOK P tab) (sr:SR σ) {hd:Hd} {i:Nat} {T:Tm} {a:Act} (tr:TR σ T a) {H:Heap} {o:Oper} {rc:Rec} (h:stepA tab hd i T H o=some rc) (hag:Agree H σ rc.e) (hob:∀ob∈rc.ob,ob.holds P)
 {next:Act->World->Prop} {Q:Exit->Act->World->Prop}
 (hret:∀v,rc.out=.ret v->∀σ' x,Le σ σ'->SR σ'->σ'.h=effOn rc.e σ.h->DeadOk H σ σ' rc.e->VR σ' v x->next (a.put o.dst x) σ'.w)
 (hpan:∀v,rc.out=.pan v->∀σ' x,Le σ σ'->SR σ'->σ'.h=effOn rc.e σ.h->DeadOk H σ σ' rc.e->VR σ' v x->Q (.panic [{ v:=x,recovered:=false }]) a σ'.w):o.wp P a σ.w next Q:=by
 unfold stepA at h
 split at h
 ·rename_i f args obs hcal
  split at h
  ·
   split at h
   ·rename_i r H' hin
    cases h
    obtain ⟨hen,hc2⟩:Valid2 P f args H r H':=hob (.inl f args H r H') (by simp)
    obtain ⟨vs,hvs,hrun⟩:=call_enter tr hcal (λob h=>hob ob (by simp [h])) hen
    obtain ⟨hag1,hag2⟩:=hag
    unfold Oper.wp
    rw [hrun]
    simp only [Oper.upon]
    refine (hc2 σ vs sr hag1 hag2 hvs).mono ?_
    rintro e w' ⟨σ',rfl,h1,l,sr',h2,h3,h4,h5⟩
    cases r<;>cases e<;>simp only [OutR] at h5
    ·exact hret _ rfl σ' _ l sr' h1 ⟨h2,h3,h4⟩ h5
    ·obtain ⟨x,rfl,hx⟩:=h5
     exact hpan _ rfl σ' x l sr' h1 ⟨h2,h3,h4⟩ hx
   ·cases h
  split at h
  ·
   rename_i rc' hown
   cases h
   unfold ownA at hown
   split at hown
   rotate_left
   ·cases hown
   split at hown
   ·rename_i ys ns hv
    split at hown
    ·rename_i es s fz hcl
     cases hown
     obtain ⟨hen,hc1⟩:ValidOwn P f ys es s fz:=hob (.own f ys es s fz) (by simp)
     obtain ⟨vs,hvs,hrun⟩:=call_enter tr hcal (λob h=>hob ob (by simp [h])) hen
     obtain ⟨hag1,hag2⟩:=hag
     unfold Oper.wp
     rw [hrun]
     simp only [Oper.upon]
     have l0:=le_lend sr ns
     have sr0:=sr_lend sr ns
     have htv:LTVs σ ns ys vs:=viewList_vr (λx x' m v h1 h2 h3 h4=>view_vr sr (H:=H) 8 x x' m v h1 h2 h3 h4) hvs hv hag1 (λn hn=>hn)
     have hfr:Fresh (σ.lend ns) H.next:=⟨by simp only [Sg.lend,hag2.1];split<;>rfl,hag2.2⟩
     refine (hc1 σ.w (σ.lend ns).I (σ.lend ns).J vs sr0.ilt sr0.jlt htv).mono ?_
     rintro e w' ⟨hb,I',J',h1,h2,h3,h4,B,cap,hrow,rfl⟩
     by_cases hsc:es.all (·.all plain)=true
     ·have hfr':Fresh σ H.next:=hag2
      obtain ⟨σ',rfl,hh,hdd,l,sr',hx⟩:=adopt sr hfr' hb (λ_ _ h=>h) (λ_ _ h=>.inl h) (λ_ h=>h) (λ_ h=>.inl h) (hrow.plain hsc (λb off h=>h1 b off ((l0.icell b off h).1)) (λb h=>h3 b (l0.jmap b h).1))
      refine hret _ rfl σ' _ l sr' ?_ hdd hx
      rw [hh,if_pos hsc]
      rfl
     rw [if_neg hsc] at hret
     obtain ⟨σ',rfl,hh,hdd,l,sr',hx⟩:=adopt sr0 hfr hb h1 h2 h3 h4 hrow
     refine hret _ rfl σ' _ (l0.trans sr0 l sr') sr' ?_ hdd hx
     rw [hh,lend_h hag1 (viewList_some (view_some 8) hv)]
     simp only [effOn]
     rw [updAll_append]
     rfl
    grind
   grind
  ·
   split at h
   ·rename_i ys ns hv
    split at h
    ·rename_i r hcl
     cases h
     obtain ⟨hen,hc1⟩:Valid P f ys r:=hob (.pure f ys r) (by simp)
     obtain ⟨vs,hvs,hrun⟩:=call_enter tr hcal (λob h=>hob ob (by simp [h])) hen
     obtain ⟨hag1,hag2⟩:=hag
     unfold Oper.wp
     rw [hrun]
     simp only [Oper.upon]
     refine (call_ok sr hvs hv hag1 hc1).mono ?_
     rintro e w' ⟨σ',rfl,h1,h2,l,sr',h5⟩
     have hh:σ'.h=effOn (.loc ns (if plain r.val then [] else marks H ns) 0) σ.h:=by
      rw [h1]
      simp only [effOn]
      split
      ·rfl
      ·exact lend_h hag1 (viewList_some (view_some 8) hv)
     cases r<;>cases e<;>simp only [OutR] at h5
     ·exact hret _ rfl σ' _ l sr' hh h2 h5
     ·obtain ⟨x,rfl,hx⟩:=h5
      exact hpan _ rfl σ' x l sr' hh h2 hx
    ·cases h
   ·cases h
 ·split at h
  ·split at h
   ·cases h
    exact False.elim (hob _ List.mem_cons_self)
   ·cases h
  split at h
  ·rename_i v hp
   cases h
   unfold panicOf at hp
   split at hp
   ·rename_i x hop
    split at hp
    ·rename_i t u hx
     cases hp
     have hv:=aev_vr tr hx
     obtain ⟨y,hy,_⟩:=hv.ifc_inv
     unfold Oper.wp execOp
     simp only [hop,hy]
     have:=hpan _ rfl σ _ (Le.refl σ) sr rfl rfl hv
     rw [hy] at this
     simpa [Instr.panic,goPanic,Sem.run_bind,Oper.upon] using this
    grind
   grind
  split at h
  ·rename_i v rd ups nw hr
   cases h
   obtain ⟨hag1,hag2⟩:=hag
   have hfoot:Foot H σ ⟨v,.loc rd ups nw⟩:=λrd' ups' nw' he'=>by grind
   have fin:∀h',OpMd P o a σ v h'->h'=effOn (.loc rd ups nw) σ.h->o.wp P a σ.w next Q:=by
    rintro h' ⟨σ',x,hr',h1,h2,l,sr',hx⟩ he'
    have hk:=hret v rfl σ' x l sr' (h1.trans he') h2 hx
    unfold Oper.wp
    rcases hr' with hr' | ⟨hr',rfl⟩
    ·rw [hr'];exact hk
    ·rw [hr'];exact hk
   obtain ⟨rd',ups',nw',he',⟨m,ob,hu,_,_,hmd⟩ | ⟨hu,_,hmd⟩⟩:=aop_sound (P:=P) tabOk sr tr hag2 hr hfoot
   ·refine fin _ hmd ?_
    cases he'
    rw [hu];rfl
   ·refine fin _ hmd ?_
    cases he'
    rw [hu];rfl
  ·cases h
end Go.Abs
end
