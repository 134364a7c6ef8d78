/- Of ServerHides: walks. -/
import Derived.Test.YtlhdbnmgiaoeeaaGreatUAo
import Derived.Test.YtlhdbnmgiaoeeaaGreatUAv
set_option linter.all false
namespace Go.Abs.RM
open Go.Proofs Go.Proofs.RMH
set_option maxRecDepth 100000
set_option maxHeartbeats 40000000
theorem w133 (a0:ByteArray) (a1:ByteArray) (g0:a0.size<=1000) (g1:a1.size<=1000):WQv 396 [sS a0,sS a1] sB (λr=>True):=by
 refine gO Tryz.func396 ?_
 repeat' first
  |with_reducible assumption
  |exact lens_map (f:=cStr) (λ_=>rfl)
  |(conv=>whnf);first
   |refine slA _ _ ?_
   |refine wG (l:=z192) ?_ ?_ (λ_=>rfl) λx0 hx hm=>(λ(_:asciiB x0=true) (_:x0.size<=a0.size)=>?_) (‹CutP a0 z192›.2.2 _ hm).1 (‹CutP a0 z192›.2.2 _ hm).2
   |apply bJ<;>intro h
   |apply bI<;>intro h
   |apply bD<;>intro h
   |apply bN<;>intro h
   |refine wC (w132 _ ?_) λz132 hz=>?_
   |refine ⟨false,rfl,?_⟩
   |refine wC (w192 _ ?_ ?_) λz192 hz=>?_
   |refine lM ?_
   |refine wC (w193 _ _ ?_ ?_) λz193 hz=>?_
   |refine ⟨by kernel_rfl,?_⟩
   |refine And.intro ?_ (And.intro ?_ ?_)
   |refine V2 (λ(p0:ByteArray) (p1:Int)=>0<=p1/\p1<=(z192.length:Int)/\p0.size<=1000) (λp0 p1=>[(9,sS p0),(74,.lst (List.map cStr ((z192.drop (1:Int).toNat).take ((IntKind.wrap .i64 ((z192.length:Int)-(1:Int))).toNat-(1:Int).toNat)))),(75,.sc (.int .i64 (((z192.drop (1:Int).toNat).take ((IntKind.wrap .i64 ((z192.length:Int)-(1:Int))).toNat-(1:Int).toNat)).length:Int))),(76,sI p1)]) (λ_ _=>⟨[],0⟩) (λ_ p1=>((z192.length:Int)+1-p1).toNat) _ (0:Int) ?_ (fN rfl rfl) λp0 p1 ⟨i0,i1,i2⟩=>?_
   |refine wG ?_ ?_ (λ_=>rfl) λx hx hm=>(λ(_:asciiB x=true) (_:x.size<=a0.size)=>?_) (‹CutP a0 z192›.2.2 _ (mem_mid hm)).1 (‹CutP a0 z192›.2.2 _ (mem_mid hm)).2
   |refine wC (w194 _ _ ?_ ?_ ?_) λz194 hz=>?_
   |refine ⟨⟨_,nx _⟩,?_,?_,(fN rfl rfl)⟩
   |refine ⟨true,rfl,?_⟩
   |refine ⟨_,rfl,?_⟩
  |omega
  |exact (‹z132=0->asciiB a0=true/\a0.size<=64› ‹z132=0›).1
  |(have q:=‹CutP a0 z192›.1;have q2:=‹CutP a0 z192›.2.1;first | omega | (simp (disch:=omega) only [ls]<;>omega))
  |exact Nat.le_trans (ext_le _ _ _) ‹p0.size<=1000›
  |(have q:=‹CutP a0 z192›.1;have q2:=‹CutP a0 z192›.2.1;simp (disch:=omega) only [ls] at *;omega)
  |dsimp only
theorem w2554 (a0:SP) (a1:S2037) (a2:Int):WQv 554 [.agg a0.c,.agg (S2037.c a1),sI a2] (λr:SP×List PP=>.tup [.agg r.1.c,.lst (r.2.map PP.c)]) (λr=>r.1=a0/\∃o,r.2=[o]/\o.es=[]):=by
 refine gO Tryz.func554 ?_
 repeat' first
  |(conv=>whnf);first
   |refine ⟨(by kernel_rfl:drawW _ _ _=true),?_⟩
   |(refine wC (w2547 a0 a1) λz2547 hz=>?_;subst hz)
   |refine ⟨_,_,deep0 (leafs1 rfl),?_⟩
   |refine ⟨(a0,[⟨_,_,_,_,_,[],_,a2⟩]),rfl,?_⟩
  |exact ⟨rfl,_,rfl,rfl⟩
theorem w134 (a0:List ByteArray) (a1:ByteArray) (g0:a0.length<=1000000000):WQv 557 [.lst (a0.map cStr),sS a1] sB (λr=>True):=by
 refine gO Tryz.func557 ?_
 repeat' first
  |with_reducible assumption
  |(conv=>whnf);first
   |refine wC (w195 _ _ ?_) λz195 hz=>?_
   |refine ⟨_,rfl,?_⟩
theorem w72 (a0:List S65) (a1:Int) (g0:a0.length<=1000000) (g1:∀e∈a0,EB e):WQv 321 [lE a0,sI a1] (λr:List ByteArray=>.lst (r.map cStr)) (λr=>r.length<=a0.length/\∀x∈r,x.size<=80):=by
 refine gO Tryz.func321 ?_
 repeat' first
  |with_reducible assumption
  |(conv=>whnf);first
   |apply bD<;>intro h
   |apply bJ<;>intro h
   |refine lM ?_
   |refine V3 (λ(p0:List ByteArray) (p1:List ByteArray) (p2:Int)=>0<=p2/\p2<=(a0.length:Int)/\(p0.length:Int)<=p2/\(p1.length:Int)<=p2/\(∀x∈p1,x.size<=80)) (λ_ _ p2=>[(0,lE a0),(1,sI a1),(5,.mp 0),(6,.row 1),(11,sI (a0.length:Int)),(12,sI p2)]) (λp0 p1 _=>⟨[(0,.set (p0.map Value.string) VT),(1,.row (p1.map cStr) 1 false 1)],2⟩) (λ_ _ p2=>((a0.length:Int)+1-p2).toNat) [] [] (0:Int) ?_ (ft [(0,some 0),(1,none)] rfl rfl rfl ⟨fS rfl rfl λ_ h=>h,fitO_nil rfl rfl,trivial⟩) λp0 p1 p2 ⟨i0,i1,i2,i3,i4⟩=>?_
   |refine wG ?_ ?_ (λ_=>rfl) λx hx hm=>?_
   |refine ⟨⟨_,_,nx _⟩,?_,?_,(ft [(0,some 0),(1,some 1)] rfl rfl rfl ⟨fS rfl rfl λ_ h=>h,fR rfl rfl λ_=>rfl,trivial⟩)⟩
   |refine lkZ (λhk=>?_) λhk=>?_
   |refine ⟨rfl,_,insK_str _ _,?_⟩
   |refine wA (f:=cStr) (m:=[_]) rfl (λ_=>⟨rfl,rfl⟩) ?_ ?_ ?_
   |refine ⟨⟨_,_,nx _⟩,?_,?_,(ft [(0,some 0),(1,some 3)] rfl rfl rfl ⟨fS rfl rfl λ_ h=>h,fR rfl rfl λ_=>rfl,trivial⟩)⟩
   |refine ⟨_,_,deep0 (leafs_map (f:=cStr) (λ_=>rfl) _),?_⟩
   |refine wC (w137 _ ?_) λz137 hz=>?_
   |refine ⟨_,rfl,?_⟩
   |refine ⟨VT,?_⟩
  |omega
  |exact λx hx=>‹∀x∈_,x.size<=80› x (‹_/\∀x∈_,x∈_›.2 x hx)
  |exact λx hx=>(List.mem_append.1 hx).elim (‹∀x∈_,x.size<=80› x) λh=>by rw [List.mem_singleton.1 h];exact (g1 _ ‹_∈a0›).2.2.1
  |exact λx hx=>by cases hx
  |dsimp only
  |with_reducible apply And.intro
  |(simp (disch:=omega) only [ls]<;>omega)
  |grind
theorem w95e (a0:S61) (g0:(a0.f5.length:Int)<=9223372036854775807) (g1:(a0.f6.length:Int)<=9223372036854775807) (g2:(a0.f7.f0.length:Int)<=9223372036854775807) (g3:(a0.f7.f1.length:Int)<=9223372036854775807):WQv 101 [.agg (S61.c a0),.agg (S61.c a0)] sB (λr=>r=true):=by
 refine gO Tryz.func101 ?_
 repeat' first
  |with_reducible assumption
  |(conv=>whnf);first
   |apply bS<;>intro h
   |apply bI<;>intro h
   |apply br<;>intro h
   |refine wC (w161e _ ?_) λz161 hz=>?_
   |refine wC (w162e _ ?_ ?_) λz162 hz=>?_
   |refine ⟨false,rfl,?_⟩
   |refine ⟨_,rfl,?_⟩
  |omega
  |exact absurd rfl ‹_›
  |dsimp only
  |grind
theorem w2019 (a0:S2031) (a1:ByteArray) (g0:a0.f1.length<=9223372036854775807):WQv 19 [.agg (S2031.c a0),sS a1] (λr:S30×Bool=>.tup [.agg (S30.c r.1),sB r.2]) (λr=>r.2=true->r.1∈a0.f1/\r.1.f0=a1):=by
 refine gO Tryz.func19 ?_
 repeat' first
  |with_reducible assumption
  |(conv=>whnf);first
   |apply bD<;>intro h
   |refine wC (w2045 _ (λx0_ r=>r=true->x0_.f0=a1) _ _ rfl (λx0_=>w2046 _ _) ?_) λz2045 hz=>?_
   |refine wG ?_ ?_ (λ_=>rfl) λx hx hm=>?_
   |refine ⟨(ze30,false),rfl,?_⟩
   |refine ⟨(_,true),rfl,?_⟩
  |exact λ_=>⟨hm,by obtain ⟨e,h1,h2⟩:=hz.2 (by omega);rw [hx] at h1;cases h1;exact h2 rfl⟩
  |exact λh=>by (cases h)
  |omega
theorem w2021q {b:RP×Bool} {s:ByteArray} {o:PP} {p:EP} (h:OutP b s o) (hm:p∈o.es) {X:WV->Prop} {Y:Prop} (k:∀e:EP,EB p.d->OutW b.1 e s p->X (.tup [.agg e.c,sB true])):(∃G,WValid P 21 [.agg b.1.c,sI p.d.f0] G/\∀v,G v->X v)\/Y:=by
 rcases h with h | ⟨_,_,_,h⟩
 ·rw [h] at hm;cases hm
 ·obtain ⟨h1,e,h2,h3⟩:=h p hm
  exact wC (w2021 b.1 _ e h2) λz hz=>by subst hz;exact k e h1 h3
theorem w2063 (a0:S2079) (g0:(a0.f0.size:Int)<=9223372036854775807) (g1:a0.f2.length<=8) (g2:a0.f3.length<=8):WQv 63 [.agg (S2079.c a0)] sI (λr=>True):=by
 refine gO Tryz.func63 ?_
 repeat' first
  |with_reducible assumption
  |(conv=>whnf);first
   |apply bJ<;>intro h
   |apply bD<;>intro h
   |apply br<;>intro h
   |refine wC (w142 _ ?_) λz142 hz=>?_
   |refine lM ?_
   |refine wC (w2115 _ ?_ ?_) λz2115 hz=>?_
   |refine wC (w2116 _ ?_ ?_) λz2116 hz=>?_
   |refine V1 (λ(p0:Int)=>0<=p0/\p0<=(z2116.length:Int)) (λp0=>[(1,.box 0 0),(3,lE z2116),(4,sI p0)]) (λ_=>⟨[(0,.box (S2079.c a0) false)],1⟩) (λp0=>((z2116.length:Int)+1-p0).toNat) (0:Int) ?_ (fB1 rfl rfl rfl rfl) λp0 ⟨i0,i1⟩=>?_
   |refine ⟨lens_map (f:=S65.c) (λ_=>rfl),?_,?_,slA _ _ ?_⟩
   |refine wG ?_ ?_ (λ_=>rfl) λx hx hm=>?_
   |refine wC (w2117 _ _ ?_) λz2117 hz=>?_
   |refine ⟨by kernel_rfl,?_⟩
   |refine ⟨nx _,?_,?_,(fB1 rfl rfl rfl rfl)⟩
   |refine ⟨(3:Int),rfl,?_⟩
   |refine ⟨(2:Int),rfl,?_⟩
   |refine ⟨(7:Int),rfl,?_⟩
   |refine ⟨(29:Int),rfl,?_⟩
   |refine ⟨(4:Int),rfl,?_⟩
   |refine ⟨(26:Int),rfl,?_⟩
   |refine ⟨(0:Int),rfl,?_⟩
  |omega
  |dsimp only
  |with_reducible apply And.intro
  |(simp (disch:=omega) only [ls]<;>omega)
theorem w77 (a0:ByteArray) (a1:Int) (g0:(a0.size:Int)<=9223372036854775807) (g1:a1≠58):WQv 38 [sS a0,.sc (.int .u8 a1)] sB (λr=>r=true->a0.size<=80/\∃j:Nat,j<a0.size/\∃b,a0[j]?=some b/\(b.toNat:Int)=58):=by
 refine gO Tryz.func38 ?_
 repeat' first
  |with_reducible assumption
  |(conv=>whnf);first
   |apply bD<;>intro h
   |apply bJ<;>intro h
   |apply br<;>intro h
   |refine ⟨false,rfl,?_⟩
   |refine wS ?_ ?_ λx hb=>?_
   |refine wC (w78 _ ?_) λz78 hz=>?_
   |refine And.intro ?_ (And.intro ?_ (And.intro ?_ ?_))
   |refine wC (w141 _ ?_) λz141 hz=>?_
   |refine And.intro ?_ (And.intro ?_ ?_)
   |refine wC (w142 _ ?_) λz142 hz=>?_
   |refine ⟨_,rfl,?_⟩
  |omega
  |refine ⟨z78.toNat,?_,?_⟩
  |(have h1:=hz (eq_of_beq hr);have h2:=‹z141=true->_› h;simp (disch:=omega) only [ByteArray.size_extract,wrap_i64] at h1 h2;omega)
  |dsimp only
  |with_reducible apply And.intro
  |(simp (disch:=omega) only [ls]<;>omega)
  |contradiction
  |intro hr
  |grind
theorem w351 (a0:Int) (a1:S61) (g0:(a1.f7.f0.length:Int)<=9223372036854775807) (g1:(a1.f7.f1.length:Int)<=9223372036854775807):WQv 454 [sI a0,.agg (S61.c a1)] sB (λr=>r=true->a0=4->a1.f6.length=0/\a1.f7.f0.length=0/\a1.f7.f1.length=0):=by
 refine gO Tryz.func454 ?_
 repeat' first
  |with_reducible assumption
  |(conv=>whnf);first
   |apply bS<;>intro h
   |apply bI<;>intro h
   |apply bN<;>intro h
   |apply br<;>intro h
   |refine lM ?_
   |refine wC (w431 _ ?_ ?_) λz431 hz=>?_
   |refine ⟨true,rfl,?_⟩
   |refine wC (w430 _ _) λz430 hz=>?_
   |refine ⟨false,rfl,?_⟩
   |refine ⟨_,rfl,?_⟩
  |(intro hr;contradiction)
  |(intro hr h4;grind)
theorem w355 (a0:Int) (a1:S61):WQv 458 [sI a0,.agg (S61.c a1)] sI (λr=>True):=by
 refine gO Tryz.func458 ?_
 repeat' first
  |(conv=>whnf);first
   |apply bD<;>intro h
   |apply bJ<;>intro h
   |apply br<;>intro h
   |refine wC (w430 _ _) λz430 hz=>?_
   |refine ⟨(2:Int),rfl,?_⟩
   |refine ⟨(1:Int),rfl,?_⟩
   |refine ⟨(0:Int),rfl,?_⟩
  |omega
  |exact True.intro
theorem w364 (a0:List Int) (a1:ByteArray) (g0:a0.length<=1000000) (g1:a1.size<=1000000):WQv 336 [.lst (a0.map c_u8),sS a1] (λr:List Int=>.lst (r.map c_u8)) (λr=>a0.length<r.length/\r.length<=a0.length+11+a1.size):=by
 refine gO Tryz.func336 ?_
 repeat' first
  |with_reducible assumption
  |(conv=>whnf);first
   |refine wO (o363 _ _ ?_) λz363 hz=>?_
   |refine ⟨_,strL_eq _,?_⟩
   |refine wA (f:=c_u8) (m:=_) rfl (λ_=>⟨rfl,rfl⟩) ?_ ?_ ?_
   |refine ⟨_,_,deep0 (leafs_map (f:=c_u8) (λ_=>rfl) _),?_⟩
   |refine ⟨_,rfl,?_⟩
  |dsimp only
  |(simp only [List.length_append,List.length_cons,List.length_nil,List.length_take,List.length_drop,List.length_set,List.length_map,ByteArray.size_extract,strL_len,txt_len] at *;omega)
theorem w366 (a0:List Int) (a1:List Int) (g0:a0.length<=800000) (g1:a1.length<=100):WQv 463 [.lst (a0.map c_u8),lI a1] (λr:List Int=>.lst (r.map c_u8)) (λr=>r.length<=a0.length+11+11*a1.length):=by
 refine gO Tryz.func463 ?_
 repeat' first
  |with_reducible assumption
  |(conv=>whnf);first
   |apply bD<;>intro h
   |refine lM ?_
   |refine wO (o363 _ _ ?_) λz363 hz=>?_
   |refine V2 (λ(p0:List Int) (p1:Int)=>0<=p1/\p1<=(a1.length:Int)/\(p0.length:Int)+11*((a1.length:Int)-p1)<=900000/\(∀r:List Int,((r.length:Int)<=(p0.length:Int)+11*((a1.length:Int)-p1))->r.length<=a0.length+11+11*a1.length)) (λ_ p1=>[(1,lI a1),(5,.row 0),(6,sI p1)]) (λp0 _=>⟨[(0,.row (p0.map c_u8) 1 false 0)],1⟩) (λ_ p1=>((a1.length:Int)+1-p1).toNat) z363 (0:Int) ?_ (fR1 0 rfl rfl rfl λ_=>rfl) λp0 p1 ⟨i0,i1,i3,hk⟩=>?_
   |refine wG ?_ ?_ (λ_=>rfl) λx hx hm=>?_
   |refine wC (w437 _) λz437 hz=>?_
   |refine wA (f:=c_u8) (m:=_) rfl (λ_=>⟨rfl,rfl⟩) ?_ ?_ ?_
   |refine ⟨⟨_,nx _⟩,?_,?_,(fR1 1 rfl rfl rfl λ_=>rfl)⟩
   |refine ⟨_,_,deep0 (leafs_map (f:=c_u8) (λ_=>rfl) _),?_⟩
   |refine ⟨_,rfl,?_⟩
  |omega
  |dsimp only
  |refine hk _ ?_
  |refine λr hr=>hk r ?_
  |with_reducible apply And.intro
  |(simp (disch:=omega) only [ls]<;>omega)
  |grind
theorem w81 (a0:List S65) (g0:a0.length<=12) (g1:∀e∈a0,EB e):WQv 202 [lE a0] sB (λr=>True):=by
 refine gO Tryz.func202 ?_
 repeat' first
  |with_reducible assumption
  |(conv=>whnf);first
   |refine wC (w111 _ ?_ ?_) λz111 hz=>?_
   |refine wC (w17 _ _ ?_ ?_) λz17 hz=>?_
   |refine lM ?_
   |refine ⟨_,rfl,?_⟩
  |omega
  |exact True.intro
theorem w82 (a0:List S65) (a1:S65) (g0:a0.length<=12) (g1:EB a1):WQv 203 [lE a0,aE a1] sB (λr=>True):=by
 refine gO Tryz.func203 ?_
 repeat' first
  |with_reducible assumption
  |(conv=>whnf);first
   |apply bI<;>intro h
   |apply bJ<;>intro h
   |apply bD<;>intro h
   |apply br<;>intro h
   |refine lM ?_
   |refine ⟨false,rfl,?_⟩
   |refine V1 (λ(p0:Int)=>0<=p0/\p0<=(a1.f9.length:Int)) (λp0=>[(0,lE a0),(3,.box 0 0),(5,sI p0)]) (λ_=>⟨[(0,.box (S65.c a1) false)],1⟩) (λp0=>((a1.f9.length:Int)+1-p0).toNat) (0:Int) ?_ (fB1 rfl rfl rfl rfl) λp0 ⟨i0,i1⟩=>?_
   |refine wG ?_ ?_ (λ_=>rfl) λx hx hm=>?_
   |refine wC (w56 _ _ ?_) λz56 hz=>?_
   |refine ⟨nx _,?_,?_,(fB1 rfl rfl rfl rfl)⟩
   |refine V2 (λ(q0:Bool) (q1:Int)=>0<=q1/\q1<=(a1.f8.length:Int)) (λq0 q1=>[(0,lE a0),(3,.box 0 0),(8,sB q0),(9,sI q1)]) (λ_ _=>⟨[(0,.box (S65.c a1) false)],1⟩) (λ_ q1=>((a1.f8.length:Int)+1-q1).toNat) ((a1.f8.length:Int)==0) (0:Int) ?_ (fB1 rfl rfl rfl rfl) λq0 q1 ⟨i0,i1⟩=>?_
   |refine ⟨⟨_,nx _⟩,?_,?_,(fB1 rfl rfl rfl rfl)⟩
   |refine ⟨_,rfl,?_⟩
  |omega
  |exact True.intro
  |dsimp only
  |(have h8:=g1.2.2.2.1;have h9:=g1.2.2.2.2.1;first | omega | (simp (disch:=omega) only [ls]<;>omega))
theorem w258 (a0:List (List S71)) (K:Nat) (g0:a0.length<=12) (g1:∀s∈a0,s.length<=K) (g2:K<=200000):WQv 416 [.lst (a0.map cL26)] (λr:(List S71)×(List Int)=>.tup [.lst (r.1.map S71.c),lI r.2]) (λr=>r.1.length<=K/\r.2.length<=2400000):=by
 refine gO Tryz.func416 ?_
 have hn1:([]:List S71).length=0:=rfl
 have hn2:([]:List Int).length=0:=rfl
 repeat' first
  |with_reducible assumption
  |(conv=>whnf);first
   |apply bD<;>intro h
   |apply bN<;>intro h
   |refine V3 (λ(p0:List S71) (p1:List Int) (p2:Int)=>0<=p2/\p2<=(a0.length:Int)/\p0.length<=K/\(p1.length:Int)<=200000*p2/\(p2=0->p0.length=0)) (λ_ p1 p2=>[(0,.lst (a0.map cL26)),(4,.row 0),(5,lI p1),(6,sI p2)]) (λp0 _ _=>⟨[(0,.row (p0.map S71.c) 3 false 0)],1⟩) (λ_ _ p2=>((a0.length:Int)+200010+1-p2).toNat) ([]:List S71) ([]:List Int) (0:Int) ?_ (suits_trans (lend_suits 5 rfl rfl (leafs_lit rfl)) (fR1 0 rfl rfl rfl λ_=>rfl)) λp0 p1 p2 ⟨i0,i1,i3,i4,i5⟩=>?_
   |refine lM ?_
   |refine V3 (λ(q0:List S71) (q1:List Int) (q2:Int)=>0<=q2/\q2<=K/\((p2=0/\(q0.length:Int)<=q2)\/(1<=p2/\q0.length<=K))/\(q1.length:Int)<=200000*p2+q2) (λ_ q1 q2=>[(0,.lst (a0.map cL26)),(4,.row 0),(5,lI q1),(6,sI p2),(7,sI q2)]) (λq0 _ _=>⟨[(0,.row (q0.map S71.c) 3 false 0)],1⟩) (λ_ _ q2=>(200002+1-q2).toNat) p0 p1 (0:Int) ?_ (fR1 0 rfl rfl rfl λ_=>rfl) λq0 q1 q2 ⟨i0,i1,i3,i4⟩=>?_
   |refine wE ‹_› ?_ (λ_=>rfl) ?_
   |refine wG ?_ ?_ (λ_=>rfl) λx hx hm=>?_
   |refine wC (w369 _ _ ?_ ?_) λz369 h369=>?_
   |refine wC (w118 _ _ ?_) λz118 hp=>?_
   |refine ⟨⟨_,_,nx _⟩,?_,?_,(fR1 0 rfl rfl rfl λ_=>rfl)⟩
   |refine wA (f:=S71.c) (m:=[_]) rfl (λ_=>⟨rfl,rfl⟩) ?_ ?_ ?_
   |refine ⟨⟨_,_,nx _⟩,?_,?_,(fR1 2 rfl rfl rfl λ_=>rfl)⟩
   |refine ⟨_,_,deep0 (leafs_map (f:=S71.c) (λ_=>rfl) _),?_⟩
   |refine ⟨(_,_),rfl,?_⟩
  |omega
  |dsimp only
  |exact λs hs=>Nat.le_trans (g1 s hs) (by omega)
  |with_reducible apply And.intro
  |(simp (disch:=omega) only [ls]<;>omega)
  |grind
theorem w441 (a0:List S65) (a1:List Int) (a2:Bool) (g0:a0.length<=12) (g1:∀e∈a0,EB e) (g2:a1.length<=1000000000):WQv 510 [lE a0,lI a1,sB a2] lI (λr=>IS a0 r):=by
 refine gO Tryz.func510 ?_
 repeat' first
  |with_reducible assumption
  |(conv=>whnf);first
   |apply bD<;>intro h
   |apply br<;>intro h
   |refine V2 (λ(p0:List Int) (p1:Int)=>0<=p1/\p1<=(a1.length:Int)/\IS a0 p0) (λp0 p1=>[(0,lE a0),(1,lI a1),(2,sB a2),(7,lI p0),(8,sI p1)]) (λ_ _=>⟨[],0⟩) (λ_ p1=>((a1.length:Int)+20+1-p1).toNat) ([]:List Int) (0:Int) ?_ (suits_trans (lend_suits 7 rfl rfl (leafs_lit rfl)) (fN rfl rfl)) λp0 p1 ⟨i0,i1,i3⟩=>?_
   |refine lM ?_
   |refine wE ‹_› ?_ (λ_=>rfl) ?_
   |refine wG ?_ ?_ (λ_=>rfl) λx hx hm=>?_
   |refine wC (w56 a0 x ?_) λz56 hg=>?_
   |refine V2 (λ(q0:List Int) (q1:Int)=>0<=q1/\q1<=(z56.1.f9.length:Int)/\IS a0 q0) (λq0 q1=>[(0,lE a0),(1,lI a1),(2,sB a2),(7,lI q0),(8,sI p1),(11,lI z56.1.f9),(12,sI q1)]) (λ_ _=>⟨[],0⟩) (λ_ q1=>((z56.1.f9.length:Int)+1-q1).toNat) p0 (0:Int) ?_ (fN rfl rfl) λq0 q1 ⟨i0,i1,i3⟩=>?_
   |refine wC (w118 _ _ ?_) λz118 hp=>?_
   |refine ⟨⟨_,nx _⟩,?_,?_,(fN rfl rfl)⟩
   |refine V2 (λ(q0:List Int) (q1:Int)=>0<=q1/\q1<=(z56.1.f8.length:Int)/\IS a0 q0) (λq0 q1=>[(0,lE a0),(1,lI a1),(2,sB a2),(7,lI q0),(8,sI p1),(11,lI z56.1.f8),(12,sI q1)]) (λ_ _=>⟨[],0⟩) (λ_ q1=>((z56.1.f8.length:Int)+1-q1).toNat) p0 (0:Int) ?_ (fN rfl rfl) λq0 q1 ⟨i0,i1,i3⟩=>?_
   |refine ⟨_,rfl,?_⟩
  |omega
  |dsimp only
  |(have:=i3.len;omega)
  |exact IS.nil
  |with_reducible apply And.intro
  |(simp (disch:=omega) only [ls]<;>omega)
  |grind
theorem w110 (a0:List Int) (g0:a0.length<=900000000):WQv 361 [lI a0] lI (λr=>(∀x,x∈r↔x∈a0)/\r.Nodup/\r.length<=a0.length):=by
 refine gO Tryz.func361 ?_
 repeat' first
  |with_reducible assumption
  |(conv=>whnf);first
   |apply bD<;>intro h
   |refine V2 (λ(p0:List Int) (p1:Int)=>0<=p1/\p1<=(a0.length:Int)/\p0.Nodup/\(p0.length:Int)+((a0.length:Int)-p1)<=900000000/\(∀r:List Int,((∀x,x∈r↔x∈p0\/x∈a0.drop p1.toNat)/\r.Nodup)->(∀x,x∈r↔x∈a0)/\r.Nodup/\r.length<=a0.length)) (λp0 p1=>[(0,lI a0),(3,lI p0),(4,sI p1)]) (λ_ _=>⟨[],0⟩) (λ_ p1=>((a0.length:Int)+1-p1).toNat) ([]:List Int) (0:Int) ?_ (suits_trans (lend_suits 3 rfl rfl (leafs_lit rfl)) (fN rfl rfl)) λp0 p1 ⟨i0,i1,i3,i4,hk⟩=>?_
   |refine lM ?_
   |refine wG ?_ ?_ (λ_=>rfl) λx hx hm=>?_
   |refine wC (w118 _ _ ?_) λz118 hz=>?_
   |refine ⟨⟨_,nx _⟩,?_,?_,(fN rfl rfl)⟩
   |refine ⟨_,rfl,?_⟩
  |omega
  |(have:=nodup_le (m:=a0) hr.2 (by grind);grind)
  |dsimp only
  |refine hk _ ?_
  |refine λr hr=>hk r ?_
  |exact hz.2.1 i3
  |(rw [drop_cons (by omega) hx (by omega)];exact ⟨λx=>((hr.1 x).trans (or_congr (hz.1 x) Iff.rfl)).trans ⟨λh=>h.elim (λh=>h.elim Or.inl λe=>Or.inr (List.mem_cons.2 (Or.inl e))) λh=>Or.inr (List.mem_cons_of_mem _ h),λh=>h.elim (λh=>Or.inl (Or.inl h)) λh=>(List.mem_cons.1 h).elim (λe=>Or.inl (Or.inr e)) Or.inr⟩,hr.2⟩)
  |(rw [drop_end h];exact ⟨λx=>⟨Or.inl,λh=>h.elim id λh=>(by cases h)⟩,i3⟩)
  |exact List.nodup_nil
  |have:=hz.2.2;first | omega | assumption | (simp (disch:=omega) only [ls]<;>omega)
  |with_reducible apply And.intro
  |(simp (disch:=omega) only [ls]<;>omega)
  |intro hr
theorem w112 (a0:List S65) (a1:List Int) (g0:a0.length<=12) (g1:a1.length<=1000):WQv 464 [lE a0,lI a1] lE (λr=>r.length<=a1.length/\∀x∈r,x∈a0):=by
 refine gO Tryz.func464 ?_
 have hn1:([]:List S65).length=0:=rfl
 repeat' first
  |with_reducible assumption
  |(conv=>whnf);first
   |apply bD<;>intro h
   |apply br<;>intro h
   |refine V2 (λ(p0:List S65) (p1:Int)=>0<=p1/\p1<=(a1.length:Int)/\(p0.length:Int)<=p1/\(∀x∈p0,x∈a0)) (λ_ p1=>[(0,lE a0),(1,lI a1),(5,.row 0),(6,sI p1)]) (λp0 _=>⟨[(0,.row (p0.map S65.c) 29 false 0)],1⟩) (λ_ p1=>((a1.length:Int)+1-p1).toNat) [] (0:Int) ?_ (ft [(0,none)] rfl rfl rfl ⟨fitO_nil rfl rfl,trivial⟩) λp0 p1 ⟨i0,i1,i3,i4⟩=>?_
   |refine lM ?_
   |refine wG ?_ ?_ (λ_=>rfl) λx hx hm=>?_
   |refine wC (w56 _ _ ?_) λz56 hz=>?_
   |refine wA (f:=S65.c) (m:=[_]) rfl (λ_=>⟨rfl,rfl⟩) ?_ ?_ ?_
   |refine ⟨⟨_,nx _⟩,?_,?_,(fR1 3 rfl rfl rfl λ_=>rfl)⟩
   |refine ⟨⟨_,nx _⟩,?_,?_,(fR1 0 rfl rfl rfl λ_=>rfl)⟩
   |refine ⟨_,_,deep0 (leafs_map (f:=S65.c) (λ_=>rfl) _),?_⟩
   |refine ⟨_,rfl,?_⟩
  |omega
  |dsimp only
  |exact ⟨by omega,i4⟩
  |exact all_snoc i4 (hz.mem h).1
  |exact λx hx=>absurd hx List.not_mem_nil
  |with_reducible apply And.intro
  |(simp (disch:=omega) only [ls]<;>omega)
theorem w418 (a0:S65) (a1:List S65) (a2:Int) (g0:a1.length<=1000000) (g1:∀e∈a1,EB e):WQv 503 [aE a0,lE a1,sI a2] sI (λr=>True):=by
 refine gO Tryz.func503 ?_
 repeat' first
  |with_reducible assumption
  |(conv=>whnf);first
   |apply bJ<;>intro h
   |apply bI<;>intro h
   |apply bD<;>intro h
   |refine wC (w139 _ _ ?_) λz139 hz=>?_
   |refine wC (w321 _ ?_ ?_) λz321 h321=>?_
   |refine wC (w322 _ _ ?_) λz322 hz=>?_
   |refine ⟨by kernel_rfl,?_⟩
   |refine ⟨(18:Int),rfl,?_⟩
   |refine ⟨(20:Int),rfl,?_⟩
   |refine ⟨(0:Int),rfl,?_⟩
  |omega
theorem w420 (a0:S59) (a1:S59) (a2:ByteArray) (g0:a0.f0.length<=100) (g1:a1.f0.length<=100) (g2:a0.f1.length<=100) (g3:a1.f1.length<=100):WQv 507 [.agg (S59.c a0),.agg (S59.c a1),sS a2] sI (λr=>True):=by
 refine gO Tryz.func507 ?_
 repeat' first
  |with_reducible assumption
  |(conv=>whnf);first
   |apply bD<;>intro h
   |apply bN<;>intro h
   |refine wC (w322 _ _ ?_) λz322 hz=>?_
   |refine wC (w484 a0) λz484 hz=>?_
   |refine wC (w484 a1) λz484_1 hz=>?_
   |refine ⟨by kernel_rfl,?_⟩
   |refine V1 (λ(p0:Int)=>0<=p0/\p0<=(z484.length:Int)) (λp0=>[(2,sS a2),(3,.box 0 0),(4,.box 1 0),(7,sI z322),(8,lI z484),(9,lI z484_1),(10,sI p0)]) (λ_=>⟨[(0,.box (S59.c a0) false),(1,.box (S59.c a1) false)],2⟩) (λp0=>((z484.length:Int)+1-p0).toNat) (0:Int) ?_ (ft [(0,some 0),(1,some 1)] rfl rfl rfl ⟨fB rfl rfl rfl,fB rfl rfl rfl,trivial⟩) λp0 ⟨i0,i1⟩=>?_
   |refine lM ?_
   |refine wG ?_ ?_ (λ_=>rfl) λx hx hm=>?_
   |refine wC (w485 _ _ _) λz485 hz=>?_
   |refine ⟨nx _,?_,?_,(ft [(0,some 0),(1,some 1)] rfl rfl rfl ⟨fB rfl rfl rfl,fB rfl rfl rfl,trivial⟩)⟩
   |refine V1 (λ(q0:Int)=>0<=q0/\q0<=(a0.f1.length:Int)+(a1.f1.length:Int)) (λq0=>[(2,sS a2),(3,.box 0 0),(4,.box 1 0),(7,sI z322),(11,sI q0)]) (λ_=>⟨[(0,.box (S59.c a0) false),(1,.box (S59.c a1) false)],2⟩) (λq0=>((a0.f1.length:Int)+(a1.f1.length:Int)+1-q0).toNat) (0:Int) ?_ (ft [(0,some 0),(1,some 1)] rfl rfl rfl ⟨fB rfl rfl rfl,fB rfl rfl rfl,trivial⟩) λq0 ⟨i0,i1⟩=>?_
   |refine wC (w419 _ _ ?_) λz419 hz=>?_
   |refine V1 (λ(v0:Int)=>0<=v0/\v0<=(a0.f0.length:Int)) (λv0=>[(2,sS a2),(3,.box 0 0),(4,.box 1 0),(13,sI v0)]) (λ_=>⟨[(0,.box (S59.c a0) false),(1,.box (S59.c a1) false)],2⟩) (λv0=>((a0.f0.length:Int)+1-v0).toNat) (0:Int) ?_ (ft [(0,some 0),(1,some 1)] rfl rfl rfl ⟨fB rfl rfl rfl,fB rfl rfl rfl,trivial⟩) λv0 ⟨i0,i1⟩=>?_
   |refine wC (w486 _ _ _ _ ?_ ?_) λz486 hz=>?_
   |refine V1 (λ(w0:Int)=>0<=w0/\w0<=(a1.f0.length:Int)) (λw0=>[(2,sS a2),(3,.box 0 0),(4,.box 1 0),(14,sI w0)]) (λ_=>⟨[(0,.box (S59.c a0) false),(1,.box (S59.c a1) false)],2⟩) (λw0=>((a1.f0.length:Int)+1-w0).toNat) (0:Int) ?_ (ft [(0,some 0),(1,some 1)] rfl rfl rfl ⟨fB rfl rfl rfl,fB rfl rfl rfl,trivial⟩) λw0 ⟨i0,i1⟩=>?_
   |refine ⟨(20:Int),rfl,?_⟩
   |refine ⟨(0:Int),rfl,?_⟩
  |omega
  |with_reducible apply And.intro
  |(simp (disch:=omega) only [ls]<;>omega)
  |grind
theorem w377 (a0:List S65) (a1:S65) (g0:a0.length<=12) (g1:a1.f9.length<=8):WQv 480 [lE a0,aE a1] (λr:Int×Bool=>.tup [sI r.1,sB r.2]) (λr=>True):=by
 refine gO Tryz.func480 ?_
 repeat' first
  |with_reducible assumption
  |(conv=>whnf);first
   |apply bD<;>intro h
   |apply br<;>intro h
   |refine V1 (λ(p0:Int)=>0<=p0/\p0<=(a1.f9.length:Int)) (λp0=>[(0,lE a0),(3,.box 0 0),(6,sI p0)]) (λ_=>⟨[(0,.box (S65.c a1) false)],1⟩) (λp0=>((a1.f9.length:Int)+1-p0).toNat) (0:Int) ?_ (fB1 rfl rfl rfl rfl) λp0 ⟨i0,i1⟩=>?_
   |refine lM ?_
   |refine wE ‹_› ?_ (λ_=>rfl) ?_
   |refine wG ?_ ?_ (λ_=>rfl) λx hx hm=>?_
   |refine wC (w56 _ _ ?_) λz56 hz=>?_
   |refine ⟨nx _,?_,?_,(fB1 rfl rfl rfl rfl)⟩
   |refine ⟨(_,true),rfl,?_⟩
   |refine ⟨((0:Int),false),rfl,?_⟩
  |omega
  |exact True.intro
  |with_reducible apply And.intro
  |(simp (disch:=omega) only [ls]<;>omega)
end Go.Abs.RM
