/- Of ServerHides: walks. -/
import Derived.Test.YtlhdbnmgiaoeeaaGreatUAx
set_option linter.all false
namespace Go.Abs.RM
open Go.Proofs Go.Proofs.RMH
set_option maxRecDepth 100000
set_option maxHeartbeats 40000000
theorem w357 (a0:S61) (g0:∀x∈a0.f5,(x.size:Int)<=9223372036854775807):WQv 460 [.agg (S61.c a0)] sI (λr=>r=0->a0.f5.length<=100/\∀x∈a0.f5,x.size<=80):=by
 refine gO Tryz.func460 ?_
 repeat' first
  |with_reducible assumption
  |(conv=>whnf);first
   |apply bD<;>intro h
   |apply bJ<;>intro h
   |apply br<;>intro h
   |refine lM ?_
   |refine V1 (λ(p0:Int)=>0<=p0/\p0<=(a0.f5.length:Int)/\(∀r:Int,(r=0->∀y∈a0.f5.drop p0.toNat,y.size<=80)->r=0->a0.f5.length<=100/\∀x∈a0.f5,x.size<=80)) (λp0=>[(1,.box 0 0),(3,sI p0)]) (λ_=>⟨[(0,.box (S61.c a0) false)],1⟩) (λp0=>((a0.f5.length:Int)+1-p0).toNat) (0:Int) ?_ (fB1 rfl rfl rfl rfl) λp0 ⟨i0,i1,hk⟩=>?_
   |refine wE ‹_› ?_ (λ_=>rfl) ?_
   |refine wG ?_ ?_ (λ_=>rfl) λx hx hm=>?_
   |refine wC (w32 _ ?_) λz32 key=>?_
   |refine ⟨by kernel_rfl,?_⟩
   |refine ⟨nx _,?_,?_,(fB1 rfl rfl rfl rfl)⟩
   |refine ⟨(1:Int),rfl,?_⟩
   |refine ⟨(7:Int),rfl,?_⟩
   |refine ⟨(3:Int),rfl,?_⟩
   |refine ⟨(8:Int),rfl,?_⟩
   |refine ⟨(0:Int),rfl,?_⟩
  |omega
  |refine λr hr=>hk r λhr0=>drop_all i0 ‹a0.f5[p0.toNat]?=some _› ?_ ?_ (hr hr0)
  |dsimp only
  |refine hk _ ?_
  |exact λr hr hr0=>⟨by omega,λx hx=>hr hr0 x hx⟩
  |exact λ_=>drop_none ‹_›
  |exact g0 _ hm
  |with_reducible apply And.intro
  |(simp (disch:=omega) only [ls]<;>omega)
theorem w432 (a0:List S179) (g0:∀x∈a0,(x.f0.size:Int)<=9223372036854775807):WQv 496 [.lst (a0.map S179.c)] sI (λr=>r=0->a0.length<=100/\∀x∈a0,x.f0.size<=80):=by
 refine gO Tryz.func496 ?_
 repeat' first
  |with_reducible assumption
  |(conv=>whnf);first
   |apply bD<;>intro h
   |apply bJ<;>intro h
   |apply br<;>intro h
   |refine lM ?_
   |refine V1 (λ(p0:Int)=>0<=p0/\p0<=(a0.length:Int)/\(∀r:Int,(r=0->∀y∈a0.drop p0.toNat,y.f0.size<=80)->r=0->a0.length<=100/\∀x∈a0,x.f0.size<=80)) (λp0=>[(0,.lst (a0.map S179.c)),(3,sI p0)]) (λ_=>⟨[],0⟩) (λp0=>((a0.length:Int)+1-p0).toNat) (0:Int) ?_ (fN rfl rfl) λp0 ⟨i0,i1,hk⟩=>?_
   |refine wE ‹_› ?_ (λ_=>rfl) ?_
   |refine wG ?_ ?_ (λ_=>rfl) λx hx hm=>?_
   |refine wC (w347 _ ?_) λz347 key=>?_
   |refine ⟨by kernel_rfl,?_⟩
   |refine wC (w434 _) λz434 hz=>?_
   |refine ⟨nx _,?_,?_,(fN rfl rfl)⟩
   |refine ⟨(7:Int),rfl,?_⟩
   |refine ⟨(3:Int),rfl,?_⟩
   |refine ⟨(8:Int),rfl,?_⟩
   |refine ⟨(2:Int),rfl,?_⟩
   |refine ⟨(0:Int),rfl,?_⟩
  |omega
  |refine λr hr=>hk r λhr0=>drop_all i0 ‹a0[p0.toNat]?=some _› ?_ ?_ (hr hr0)
  |dsimp only
  |refine hk _ ?_
  |exact λr hr hr0=>⟨by omega,λx hx=>hr hr0 x hx⟩
  |exact λ_=>drop_none ‹_›
  |exact g0 _ hm
  |with_reducible apply And.intro
  |(simp (disch:=omega) only [ls]<;>omega)
theorem w360 (a0:S61) (g0:CB a0 400 100):WQv 268 [.agg (S61.c a0)] (λr:List Int=>.lst (r.map c_u8)) (λr=>r.length<=200000):=by
 refine gO Tryz.func268 ?_
 obtain ⟨c0,c4,c5,c6,c7,c8,c9,c10,c11⟩:=g0
 have hn:([]:List Int).length=0:=rfl
 repeat' first
  |with_reducible assumption
  |(conv=>whnf);first
   |apply bD<;>intro h
   |refine wC (w364 [] _ ?_ ?_) λz364 hq=>?_
   |refine wC (w363 _ _ ?_) λz363 hz=>?_
   |refine wC (w365 _ _ ?_) λz365 hz=>?_
   |refine wC (w364 _ _ ?_ ?_) λz364 hq=>?_
   |refine wC (w435 _ _ ?_ ?_ ?_) λz435 hz=>?_
   |refine lM ?_
   |refine V2 (λ(p0:List Int) (p1:Int)=>0<=p1/\p1<=(a0.f7.f0.length:Int)/\(p0.length:Int)+422*((a0.f7.f0.length:Int)-p1)<=700000/\(∀r:List Int,((r.length:Int)<=(p0.length:Int)+422*((a0.f7.f0.length:Int)-p1)+2288)->r.length<=200000)) (λp0 p1=>[(3,.lst (p0.map c_u8)),(4,.box 0 0),(5,sI p1)]) (λ_ _=>⟨[(0,.box (S59.c a0.f7) false)],1⟩) (λ_ p1=>((a0.f7.f0.length:Int)+1-p1).toNat) z363 (0:Int) ?_ (ft [(0,some 1)] rfl rfl rfl ⟨fB rfl rfl rfl,trivial⟩) λp0 p1 ⟨i0,i1,i3,hk⟩=>?_
   |refine wE ‹_› ?_ (λ_=>rfl) ?_
   |refine wG ?_ ?_ (λ_=>rfl) λx hx hm=>?_
   |refine ⟨⟨_,nx _⟩,?_,?_,(fB1 rfl rfl rfl rfl)⟩
   |refine V2 (λ(q0:List Int) (q1:Int)=>0<=q1/\q1<=(a0.f7.f1.length:Int)/\(q0.length:Int)+22*((a0.f7.f1.length:Int)-q1)<=800000/\(∀r:List Int,((r.length:Int)<=(q0.length:Int)+22*((a0.f7.f1.length:Int)-q1)+77)->r.length<=200000)) (λq0 q1=>[(3,.lst (q0.map c_u8)),(4,.box 0 0),(6,sI q1)]) (λ_ _=>⟨[(0,.box (S59.c a0.f7) false)],1⟩) (λ_ q1=>((a0.f7.f1.length:Int)+1-q1).toNat) z363 (0:Int) ?_ (fB1 rfl rfl rfl rfl) λq0 q1 ⟨i0,i1,i3,hk⟩=>?_
   |refine wC (w436 _) λz436 hz=>?_
   |refine V2 (λ(v0:List Int) (v1:Int)=>0<=v1/\v1<=(z436.length:Int)/\(v0.length:Int)+11*((z436.length:Int)-v1)<=900000/\(∀r:List Int,((r.length:Int)<=(v0.length:Int)+11*((z436.length:Int)-v1))->r.length<=200000)) (λv0 v1=>[(3,.lst (v0.map c_u8)),(7,lI z436),(8,sI v1)]) (λ_ _=>⟨[],0⟩) (λ_ v1=>((z436.length:Int)+1-v1).toNat) q0 (0:Int) ?_ (fN rfl rfl) λv0 v1 ⟨i0,i1,i3,hk⟩=>?_
   |refine ⟨⟨_,nx _⟩,?_,?_,(fN rfl rfl)⟩
   |refine ⟨_,rfl,?_⟩
  |omega
  |dsimp only
  |refine hk _ ?_
  |refine λr hr=>hk r ?_
  |with_reducible apply And.intro
  |(simp (disch:=omega) only [ls]<;>omega)
  |grind
theorem w440 (a0:List S65) (a1:List Int) (a2:Bool) (g0:a0.length<=12) (g1:∀e∈a0,EB e) (g2:IS a0 a1):WQv 509 [lE a0,lI a1,sB a2] lI (λr=>IS a0 r):=by
 refine gO Tryz.func509 ?_
 repeat' first
  |with_reducible assumption
  |(conv=>whnf);first
   |apply bD<;>intro h
   |refine V2 (λ(p0:List Int) (p1:Int)=>0<=p1/\p1<=(a0.length:Int)/\IS a0 p0) (λp0 p1=>[(0,lE a0),(1,lI p0),(2,sB a2),(7,sI p1)]) (λ_ _=>⟨[],0⟩) (λ_ p1=>((a0.length:Int)+1-p1).toNat) a1 (0:Int) ?_ (fN rfl rfl) λp0 p1 ⟨i0,i1,i3⟩=>?_
   |refine lM ?_
   |refine wC (w441 _ _ _ ?_ ?_ ?_) λz441 hn=>?_
   |refine wC (w58 _ _ ?_) λz58 hu=>?_
   |refine ⟨⟨_,nx _⟩,?_,?_,(fN rfl rfl)⟩
   |refine ⟨_,rfl,?_⟩
  |omega
  |dsimp only
  |(have:=i3.len;omega)
  |(have:=i3.len;have:=hn.len;omega)
  |exact ⟨hu.2.1,λx hx=>((hu.1 x).1 hx).elim (i3.2 x) (hn.2 x)⟩
  |with_reducible apply And.intro
  |(simp (disch:=omega) only [ls]<;>omega)
theorem w442 (a0:List S65) (a1:List Int) (g0:a0.length<=12) (g1:a1.length<=900000000):WQv 511 [lE a0,lI a1] lI (λr=>r.length<=a1.length):=by
 refine gO Tryz.func511 ?_
 repeat' first
  |with_reducible assumption
  |(conv=>whnf);first
   |refine wC (w17 _ _ ?_ ?_) λz17 hz=>?_
   |refine wC (w53 _ _ ?_ ?_) λz53 hz=>?_
   |refine ⟨_,rfl,?_⟩
  |omega
theorem w371 (a0:List S65) (a1:List Int) (g0:a0.length<=12) (g1:a1.length<=900000000):WQv 474 [lE a0,lI a1] lI (λr=>r.Nodup/\r.length<=a1.length/\∀x∈r,x∈a1):=by
 refine gO Tryz.func474 ?_
 repeat' first
  |with_reducible assumption
  |(conv=>whnf);first
   |refine wC (w17 _ _ ?_ ?_) λz17 hz=>?_
   |refine wC (w53 _ _ ?_ ?_) λz53 hz=>?_
   |refine ⟨_,rfl,?_⟩
  |omega
  |dsimp only
  |exact ⟨hz.2.1,hz.2.2,λx hx=>((hz.1 x).1 hx).1⟩
theorem w443 (a0:List S65) (a1:S65) (g0:a0.length<=12) (g1:∀e∈a0,EB e) (g2:EB a1):WQv 512 [lE a0,aE a1] sI (λr=>True):=by
 refine gO Tryz.func512 ?_
 repeat' first
  |with_reducible assumption
  |(conv=>whnf);first
   |refine wC (w256 _ _ ?_ ?_) λz256 h256=>?_
   |refine wC (w321 _ ?_ ?_) λz321 hz=>?_
   |refine wC (w322 _ _ ?_) λz322 hz=>?_
   |refine ⟨_,rfl,?_⟩
  |omega
  |exact g2.2.2.2.2.1
  |exact λe he=>g1 e (h256.2 e he)
theorem w236 (a0:S65) (a1:List S65) (g0:EB a0) (g1:a1.length<=1000000) (g2:∀e∈a1,EB e):WQv 411 [aE a0,lE a1] sI (λr=>True):=by
 refine gO Tryz.func411 ?_
 repeat' first
  |with_reducible assumption
  |(conv=>whnf);first
   |apply bI<;>intro h
   |apply bN<;>intro h
   |apply bS<;>intro h
   |refine wC (w325 _ ?_) λz325 hz=>?_
   |refine wC (w28 _ ?_) λz28 hz=>?_
   |refine ⟨by kernel_rfl,?_⟩
   |refine wC (w326 _ _ ?_ ?_) λz326 hz=>?_
   |refine wC (w139 _ _ ?_) λz139 hz=>?_
   |refine wC (w327 _ _ ?_ ?_ ?_) λz327 hz=>?_
   |refine ⟨(0:Int),rfl,?_⟩
   |refine ⟨(17:Int),rfl,?_⟩
   |refine ⟨_,rfl,?_⟩
  |(have hb:=g0.2.1;omega)
  |(have hb:=g0.1;omega)
theorem w445 (a0:List S65) (a1:List Int) (a2:Int) (g0:a0.length<=12) (g1:∀e∈a0,EB e) (g2:a1.length<=1000000000):WQv 514 [lE a0,lI a1,sI a2] sI (λr=>True):=by
 refine gO Tryz.func514 ?_
 repeat' first
  |with_reducible assumption
  |(conv=>whnf);first
   |apply bD<;>intro h
   |apply br<;>intro h
   |refine wC (w264 _ _ ?_ ?_) λz264 hz=>?_
   |refine V1 (λ(p0:Int)=>0<=p0/\p0<=(z264.length:Int)) (λp0=>[(1,lI a1),(7,lI z264),(8,sI p0)]) (λ_=>⟨[],0⟩) (λp0=>((z264.length:Int)+1-p0).toNat) (0:Int) ?_ (fN rfl rfl) λp0 ⟨i0,i1⟩=>?_
   |refine lM ?_
   |refine wE ‹_› ?_ (λ_=>rfl) ?_
   |refine wG ?_ ?_ (λ_=>rfl) λx hx hm=>?_
   |refine wC (w16 _ _ ?_) λz16 hz=>?_
   |refine wC (w499 _ _ ?_) λz499 hz=>?_
   |refine ⟨nx _,?_,?_,(fN rfl rfl)⟩
   |refine ⟨_,rfl,?_⟩
  |omega
  |exact True.intro
  |with_reducible apply And.intro
  |(simp (disch:=omega) only [ls]<;>omega)
theorem w89 (a0:List S65) (a1:List S139) (g0:a0.length<=12) (g1:∀e∈a0,EB e) (g2:a1.length<=12):WQv 211 [lE a0,.lst (a1.map S139.c)] lI (λr=>r.length<=12):=by
 refine gO Tryz.func211 ?_
 repeat' first
  |with_reducible assumption
  |(conv=>whnf);first
   |refine wC (w147 _ _ ?_ ?_) λz147 hz=>?_
   |refine wC (w146 _ _ ?_ ?_ ?_) λz146 hz=>?_
   |refine ⟨_,rfl,?_⟩
theorem w2188 (a0:ByteArray) (a1:List (List ByteArray)) (g0:a0.size<=1000) (g1:a1.length<=10) (g2:∀l∈a1,l.length<=1000/\∀x∈l,x.size<=1000):WQv 188 [sS a0,.lst (a1.map cL49)] sB (λr=>True):=by
 refine gO Tryz.func188 ?_
 repeat' first
  |with_reducible assumption
  |(conv=>whnf);first
   |apply bD<;>intro h
   |apply br<;>intro h
   |refine lM ?_
   |refine V1 (λ(p0:Int)=>0<=p0/\p0<=(a1.length:Int)) (λp0=>[(0,sS a0),(7,.lst (a1.map cL49)),(8,sI (a1.length:Int)),(9,sI p0)]) (λ_=>⟨[],0⟩) (λp0=>((a1.length:Int)+1-p0).toNat) (0:Int) ?_ (fN rfl rfl) λp0 ⟨i0,i1⟩=>?_
   |refine wG ?_ ?_ (λ_=>rfl) λx hx hm=>?_
   |refine wC (w2269 _ _ ?_ ?_ ?_) λz2269 hz=>?_
   |refine ⟨true,rfl,?_⟩
   |refine ⟨nx _,?_,?_,(fN rfl rfl)⟩
   |refine ⟨false,rfl,?_⟩
  |omega
  |exact (g2 _ ‹_∈a1›).1
  |exact (g2 _ ‹_∈a1›).2
  |dsimp only
  |with_reducible apply And.intro
  |(simp (disch:=omega) only [ls]<;>omega)
theorem w2016 (a0:List S2037) (g0:(a0.length:Int)<=9223372036854775807) (g1:∀p∈a0,PkM p):WQv 16 [.lst (a0.map S2037.c),.lst (a0.map S2037.c)] sB (λr=>r=true):=by
 refine gO Tryz.func16 ?_
 repeat' first
  |with_reducible assumption
  |(conv=>whnf);first
   |refine wE ‹_› ?_ (λ_=>rfl) ?_
   |apply bJ<;>intro h
   |apply bD<;>intro h
   |apply bT'<;>intro h
   |apply bN<;>intro h
   |refine lM ?_
   |refine ⟨false,rfl,?_⟩
   |refine V1 (λ(p0:Int)=>0<=p0/\p0<=(a0.length:Int)) (λp0=>[(0,.lst (a0.map S2037.c)),(1,.lst (a0.map S2037.c)),(5,sI p0)]) (λ_=>⟨[],0⟩) (λp0=>((a0.length:Int)+1-p0).toNat) (0:Int) ?_ (fN rfl rfl) λp0 ⟨i0,i1⟩=>?_
   |refine wG ?_ ?_ (λ_=>rfl) λx hx hm=>?_
   |refine ⟨by kernel_rfl,?_⟩
   |refine wC (w2022 _ ?_ ?_) λz2022 hz=>?_
   |refine wC (w37e _ ?_) λz37 hz=>?_
   |refine ⟨nx _,?_,?_,(fN rfl rfl)⟩
   |refine ⟨true,rfl,?_⟩
  |omega
  |(have q:=g1 _ ‹_∈a0›;unfold PkM at q;omega)
  |exact λe he=>((g1 _ ‹_∈a0›).2.1 e he).k
  |exact λe he=>((g1 _ ‹_∈a0›).2.2.2.1 e he).k
  |exact absurd rfl ‹_›
  |dsimp only
  |with_reducible apply And.intro
  |(simp (disch:=omega) only [ls]<;>omega)
  |grind
theorem w2043 (a0:List S2079) (g0:(a0.length:Int)<=9223372036854775807) (g1:∀q∈a0,QM q):WQv 43 [.lst (a0.map S2079.c),.lst (a0.map S2079.c)] sB (λr=>r=true):=by
 refine gO Tryz.func43 ?_
 repeat' first
  |with_reducible assumption
  |(conv=>whnf);first
   |refine wE ‹_› ?_ (λ_=>rfl) ?_
   |apply bJ<;>intro h
   |apply bD<;>intro h
   |apply bT'<;>intro h
   |apply bN<;>intro h
   |refine lM ?_
   |refine ⟨false,rfl,?_⟩
   |refine V1 (λ(p0:Int)=>0<=p0/\p0<=(a0.length:Int)) (λp0=>[(0,.lst (a0.map S2079.c)),(1,.lst (a0.map S2079.c)),(5,sI p0)]) (λ_=>⟨[],0⟩) (λp0=>((a0.length:Int)+1-p0).toNat) (0:Int) ?_ (fN rfl rfl) λp0 ⟨i0,i1⟩=>?_
   |refine wG ?_ ?_ (λ_=>rfl) λx hx hm=>?_
   |refine ⟨by kernel_rfl,?_⟩
   |refine wC (w2022 _ ?_ ?_) λz2022 hz=>?_
   |refine ⟨nx _,?_,?_,(fN rfl rfl)⟩
   |refine ⟨true,rfl,?_⟩
  |omega
  |(have q:=g1 _ ‹_∈a0›;unfold QM at q;omega)
  |exact λe he=>((g1 _ ‹_∈a0›).2.1 e he).k
  |exact λe he=>((g1 _ ‹_∈a0›).2.2.2.1 e he).k
  |exact absurd rfl ‹_›
  |dsimp only
  |with_reducible apply And.intro
  |(simp (disch:=omega) only [ls]<;>omega)
  |grind
theorem w2044 (a0:S30) (g0:RawG a0):WQv 44 [.agg (S30.c a0),.agg (S30.c a0)] sB (λr=>r=true):=by
 refine gO Tryz.func44 ?_
 repeat' first
  |with_reducible assumption
  |(conv=>whnf);first
   |apply bS<;>intro h
   |apply bI<;>intro h
   |apply br<;>intro h
   |refine wC (w2022 _ ?_ ?_) λz2022 hz=>?_
   |refine wC (w2093 _ ?_) λz2093 hz=>?_
   |refine wC (w37e _ ?_) λz37 hz=>?_
   |refine wC (w39e _ ?_) λz39 hz=>?_
   |refine wC (w2095 _ ?_) λz2095 hz=>?_
   |refine ⟨false,rfl,?_⟩
   |refine ⟨_,rfl,?_⟩
  |omega
  |(unfold RawG at g0;omega)
  |exact λe he=>(g0.2.1 e he).k
  |exact λe he=>(g0.2.2.1 e he).k
  |exact absurd rfl ‹_›
  |dsimp only
  |grind
theorem w249 (a0:S65) (g0:(a0.f1.size:Int)<=9223372036854775807) (g1:(a0.f2.size:Int)<=9223372036854775807) (g2:(a0.f5.size:Int)<=9223372036854775807) (g3:(a0.f8.length:Int)<=9223372036854775807) (g4:(a0.f9.length:Int)<=9223372036854775807):WQv 405 [aE a0] sI (λr=>r=0->a0.f1.size<=80/\a0.f2.size<=80/\a0.f5.size<=80/\a0.f8.length<=10/\a0.f9.length<=8):=by
 refine gO Tryz.func405 ?_
 repeat' first
  |with_reducible assumption
  |(conv=>whnf);first
   |apply bD<;>intro h
   |apply bJ<;>intro h
   |apply bT'<;>intro h
   |apply bN<;>intro h
   |refine ⟨by kernel_rfl,?_⟩
   |refine wC (w116 _) λz116 hz=>?_
   |refine wC (w32 _ ?_) λz32 hz=>?_
   |refine wC (w347 _ ?_) λz347 hz=>?_
   |refine wC (w348 _ _ ?_) λz348 hz=>?_
   |refine lM ?_
   |refine wC (w349 _ ?_) λz349 hz=>?_
   |refine ⟨(1:Int),rfl,?_⟩
   |refine ⟨(3:Int),rfl,?_⟩
   |refine ⟨(2:Int),rfl,?_⟩
   |refine ⟨(7:Int),rfl,?_⟩
   |refine ⟨(8:Int),rfl,?_⟩
   |refine ⟨(9:Int),rfl,?_⟩
   |refine ⟨(6:Int),rfl,?_⟩
   |refine ⟨(0:Int),rfl,?_⟩
  |omega
  |dsimp only
  |(intro hr;have:=‹_=true->(_\/_)->a0.f5.size<=80› (by assumption) (by omega);omega)
  |with_reducible apply And.intro
  |intro hr
  |grind
theorem w359 (a0:S59) (g0:∀x∈a0.f0,(x.f0.size:Int)<=9223372036854775807):WQv 462 [.agg (S59.c a0)] sI (λr=>r=0->a0.f0.length<=100/\a0.f1.length<=100/\∀x∈a0.f0,x.f0.size<=80):=by
 refine gO Tryz.func462 ?_
 repeat' first
  |(conv=>whnf);first
   |apply bJ<;>intro h
   |apply br<;>intro h
   |refine wC (w432 _ g0) λz432 hu=>?_
   |refine wC (w433 _) λz433 hk=>?_
   |refine wC (w434 _) λz434 hz=>?_
   |refine ⟨_,rfl,?_⟩
  |omega
  |dsimp only
  |with_reducible apply And.intro
  |intro hr
  |grind
theorem w251 (a0:S65) (g0:CB a0.f10 400 100):WQv 187 [aE a0] sI (λr=>True):=by
 refine gO Tryz.func187 ?_
 repeat' first
  |with_reducible assumption
  |(conv=>whnf);first
   |refine wC (w360 _ ?_) λz360 hz=>?_
   |refine wC (w252 _ ?_) λz252 hz=>?_
   |refine ⟨_,rfl,?_⟩
  |omega
theorem w253 (a0:S65) (g0:a0.f1.size<=80) (g1:a0.f2.size<=80) (g2:a0.f5.size<=80) (g3:a0.f8.length<=10) (g4:a0.f9.length<=8) (g5:CB a0.f10 400 100) (g6:a0.f12.f0.size<=80):WQv 407 [aE a0] (λr:List Int=>.lst (r.map c_u8)) (λr=>r.length<=300000):=by
 refine gO Tryz.func407 ?_
 have hn:([]:List Int).length=0:=rfl
 repeat' first
  |with_reducible assumption
  |(conv=>whnf);first
   |refine wC (w363 [] _ ?_) λz363 hz=>?_
   |refine wC (w364 _ _ ?_ ?_) λz364 hz=>?_
   |refine wC (w363 _ _ ?_) λz363 hz=>?_
   |refine wC (w365 _ _ ?_) λz365 hz=>?_
   |refine wC (w366 _ _ ?_ ?_) λz366 hz=>?_
   |refine wC (w360 _ ?_) λz360 hz=>?_
   |refine ⟨_,outW_map _,?_⟩
   |refine ⟨_,rfl,?_⟩
  |omega
  |(simp only [ByteArray.size,List.size_toArray,List.length_map] at *;omega)
theorem w373 (a0:List S65) (a1:List Int) (g0:a0.length<=12) (g1:∀e∈a0,EB e) (g2:a1.length<=900000000):WQv 476 [lE a0,lI a1] lI (λr=>IS a0 r):=by
 refine gO Tryz.func476 ?_
 repeat' first
  |with_reducible assumption
  |(conv=>whnf);first
   |refine wC (w442 _ _ ?_ ?_) λz442 hz=>?_
   |refine wC (w441 _ _ true ?_ ?_ ?_) λz441 hz=>?_
   |refine wC (w440 _ _ true ?_ ?_ ?_) λz440 hz=>?_
   |refine ⟨_,rfl,?_⟩
  |omega
theorem w375 (a0:List S65) (a1:S65) (a2:S65) (g0:a0.length<=12) (g1:∀e∈a0,EB e) (g2:EB a1) (g3:EB a2):WQv 478 [lE a0,aE a1,aE a2] sB (λr=>True):=by
 refine gO Tryz.func478 ?_
 repeat' first
  |with_reducible assumption
  |(conv=>whnf);first
   |apply bJ<;>intro h
   |refine wC (w443 _ _ ?_ ?_ ?_) λz443 hz=>?_
   |refine ⟨by kernel_rfl,?_⟩
   |refine ⟨_,rfl,?_⟩
theorem w262 (a0:List S65) (a1:List S71) (a2:List Int) (g0:a0.length<=12) (g1:∀e∈a0,EB e) (g2:a1.length<=800000) (g3:a2.length<=1000):WQv 420 [lE a0,.lst (a1.map S71.c),lI a2] (λr:List S71=>.lst (r.map S71.c)) (λr=>r.length<=a1.length+a2.length):=by
 refine gO Tryz.func420 ?_
 repeat' first
  |with_reducible assumption
  |(conv=>whnf);first
   |apply bD<;>intro h
   |apply br<;>intro h
   |refine wA (l:=[]) (f:=S71.c) (m:=_) rfl (λ_=>⟨rfl,rfl⟩) ?_ ?_ ?_
   |refine V2 (λ(p0:List S71) (p1:Int)=>0<=p1/\p1<=(a2.length:Int)/\(p0.length:Int)+((a2.length:Int)-p1)<=900000/\(∀r:List S71,((r.length:Int)<=(p0.length:Int)+((a2.length:Int)-p1))->r.length<=a1.length+a2.length)) (λp0 p1=>[(0,lE a0),(2,lI a2),(7,.lst (p0.map S71.c)),(8,sI p1)]) (λ_ _=>⟨[],0⟩) (λ_ p1=>((a2.length:Int)+1-p1).toNat) (([]:List S71)++a1) (0:Int) ?_ (suits_trans (lend_suits 7 rfl rfl (leafs_map (f:=S71.c) (λ_=>rfl) _)) (fN rfl rfl)) λp0 p1 ⟨i0,i1,i3,hk⟩=>?_
   |refine lM ?_
   |refine wG ?_ ?_ (λ_=>rfl) λx hx hm=>?_
   |refine wC (w56 _ _ ?_) λz56 hg=>?_
   |refine wC (w116 _) λz116 hz=>?_
   |refine wC (w376 _ _ _ ?_ ?_ ?_) λz376 hb=>?_
   |refine wC (w236 _ _ ?_ ?_ ?_) λz236 h236=>?_
   |refine ⟨by kernel_rfl,?_⟩
   |refine wC (w203 _ _ _ _ ?_) λz203 hz=>?_
   |refine ⟨⟨_,nx _⟩,?_,?_,(fN rfl rfl)⟩
   |refine ⟨_,rfl,?_⟩
  |omega
  |dsimp only
  |refine hk _ ?_
  |refine λr hr=>hk r ?_
  |exact (hg.eb g1).2.2.2.2.1
  |exact hg.eb g1
  |exact λe he=>g1 e (hb.2 e he)
  |with_reducible apply And.intro
  |(simp (disch:=omega) only [ls]<;>omega)
  |grind
theorem w378 (a0:List S65) (a1:List Int) (a2:Int) (a3:Int) (g0:a0.length<=12) (g1:∀e∈a0,EB e) (g2:a1.length<=1000000000):WQv 481 [lE a0,lI a1,sI a2,sI a3] sB (λr=>True):=by
 refine gO Tryz.func481 ?_
 repeat' first
  |with_reducible assumption
  |(conv=>whnf);first
   |apply bJ<;>intro h
   |refine wC (w445 _ _ _ ?_ ?_ ?_) λz445 hz=>?_
   |refine wC (w56 _ _ ?_) λz56 hz=>?_
   |refine ⟨_,rfl,?_⟩
  |omega
theorem w202 (a0:List S65) (a1:List S139) (a2:S65) (a3:List S71) (g0:a0.length<=12) (g1:∀e∈a0,EB e) (g2:a1.length<=12) (g3:EB a2) (g4:a3.length<=1000000):WQv 358 [lE a0,.lst (a1.map S139.c),aE a2,.lst (a3.map S71.c)] sI (λr=>True):=by
 refine gO Tryz.func358 ?_
 repeat' first
  |with_reducible assumption
  |(conv=>whnf);first
   |apply bI<;>intro h
   |apply bD<;>intro h
   |apply bJ<;>intro h
   |refine wC (w255 _ _ ?_ ?_) λz255 hz=>?_
   |refine wC (w256 _ _ ?_ ?_) λz256 h256=>?_
   |refine wC (w236 _ _ ?_ ?_ ?_) λz236 hz=>?_
   |refine ⟨by kernel_rfl,?_⟩
   |refine V2 (λ(p0:Int) (p1:Int)=>0<=p1/\p1<=(a2.f9.length:Int)) (λp0 p1=>[(0,lE a0),(1,.lst (a1.map S139.c)),(3,.lst (a3.map S71.c)),(6,.box 0 0),(9,sI p0),(10,sI p1)]) (λ_ _=>⟨[(0,.box (S65.c a2) false)],1⟩) (λ_ p1=>((a2.f9.length:Int)+1-p1).toNat) z236 (0:Int) ?_ (fB1 rfl rfl rfl rfl) λp0 p1 ⟨i0,i1⟩=>?_
   |refine lM ?_
   |refine wG ?_ ?_ (λ_=>rfl) λx hx hm=>?_
   |refine wC (w86 _ _ ?_) λz86 hz=>?_
   |refine ⟨⟨_,nx _⟩,?_,?_,(fB1 rfl rfl rfl rfl)⟩
   |refine wC (w76 _ _ ?_ ?_) λz76 h76=>?_
   |refine V2 (λ(p0:Int) (p1:Int)=>0<=p1/\p1<=(a2.f9.length:Int)) (λp0 p1=>[(0,lE a0),(1,.lst (a1.map S139.c)),(3,.lst (a3.map S71.c)),(6,.box 0 0),(9,sI p0),(10,sI p1)]) (λ_ _=>⟨[(0,.box (S65.c a2) false)],1⟩) (λ_ p1=>((a2.f9.length:Int)+1-p1).toNat) z255 (0:Int) ?_ (fB1 rfl rfl rfl rfl) λp0 p1 ⟨i0,i1⟩=>?_
   |refine ⟨_,rfl,?_⟩
  |omega
  |dsimp only
  |exact λe he=>g1 e (h76.2 e he)
  |exact g3.2.2.2.2.1
  |exact λe he=>g1 e (h256.2 e he)
  |with_reducible apply And.intro
  |grind
theorem w2097 (a0:S61) (a1:ByteArray) (g0:CB a0 400 100) (g1:a1.size<=1000):WQv 97 [.agg (S61.c a0),sS a1] sB (λr=>True):=by
 refine gO Tryz.func97 ?_
 repeat' first
  |with_reducible assumption
  |(conv=>whnf);first
   |apply bN<;>intro h
   |refine ⟨_,_,deep0 (leafs_lit rfl),?_⟩
   |refine wC (w2188 _ [_] ?_ ?_ ?_) λz2188 hz=>?_
   |refine ⟨false,rfl,?_⟩
   |refine ⟨_,rfl,?_⟩
  |exact all_one ⟨Nat.le_trans g0.2.2.2.1 (by decide),λx hx=>Nat.le_trans (g0.2.2.2.2.2.2.2.1 x hx) (by decide)⟩
  |exact all_one ⟨Nat.le_trans g0.2.2.1 (by decide),λx hx=>Nat.le_trans (g0.2.2.2.2.2.2.1 x hx) (by decide)⟩
  |(simp (disch:=omega) only [ls]<;>omega)
theorem w2018 (a0:S2031) (g0:RawS a0):WQv 18 [.agg (S2031.c a0),.agg (S2031.c a0)] sB (λr=>r=true):=by
 refine gO Tryz.func18 ?_
 obtain ⟨r0,r1,r2,r3,r4,r5,r6⟩:=id g0
 repeat' first
  |with_reducible assumption
  |(conv=>whnf);first
   |refine wE ‹_› ?_ (λ_=>rfl) ?_
   |apply bT'<;>intro h
   |apply bJ<;>intro h
   |apply bN<;>intro h
   |apply bD<;>intro h
   |refine ⟨false,rfl,?_⟩
   |refine lM ?_
   |refine wC (w2043 _ ?_ ?_) λz2043 hz=>?_
   |refine wC (w2016 _ ?_ ?_) λz2016 hz=>?_
   |refine V1 (λ(p0:Int)=>0<=p0/\p0<=(a0.f1.length:Int)) (λp0=>[(2,.box 0 0),(3,.box 1 0),(5,sI p0)]) (λ_=>⟨[(0,.box (S2031.c a0) false),(1,.box (S2031.c a0) false)],2⟩) (λp0=>((a0.f1.length:Int)+1-p0).toNat) (0:Int) ?_ (ft [(0,some 0),(1,some 1)] rfl rfl rfl ⟨fB rfl rfl rfl,fB rfl rfl rfl,trivial⟩) λp0 ⟨i0,i1⟩=>?_
   |refine wG ?_ ?_ (λ_=>rfl) λx hx hm=>?_
   |refine wC (w2044 _ ?_) λz2044 hz=>?_
   |refine ⟨by kernel_rfl,?_⟩
   |refine ⟨nx _,?_,?_,(ft [(0,some 0),(1,some 1)] rfl rfl rfl ⟨fB rfl rfl rfl,fB rfl rfl rfl,trivial⟩)⟩
   |refine ⟨true,rfl,?_⟩
  |omega
  |exact g0.2.2.1 _ ‹_∈a0.f1›
  |exact absurd rfl ‹_›
  |dsimp only
  |with_reducible apply And.intro
  |(simp (disch:=omega) only [ls]<;>omega)
  |grind
theorem w250 (a0:Int) (a1:S61) (g0:CB a1 9223372036854775807 9223372036854775807):WQv 406 [sI a0,.agg (S61.c a1)] sI (λr=>r=0->CB a1 400 100):=by
 refine gO Tryz.func406 ?_
 have cbm:=g0
 repeat' first
  |(conv=>whnf);first
   |apply bN<;>intro h
   |apply bI<;>intro h
   |apply br<;>intro h
   |refine wC (w350 _) λz350 hp=>?_
   |refine wC (w351 _ _ ?_ ?_) λz351 ho=>?_
   |refine wC (w352 _) λz352 hz=>?_
   |refine wC (w95 _ ze61 ?_ ?_ ?_ ?_) λz95 hs=>?_
   |refine wC (w353 _ _) λz353 h3=>?_
   |refine wC (w354 _ _) λz354 h4=>?_
   |refine wC (w355 _ _) λz355 h5=>?_
   |refine wC (w356 _ ?_) λz356 h6=>?_
   |refine wC (w357 _ (λx hx=>by have:=cbm.2.2.2.2.2.2.1 x hx;omega)) λz357 h7=>?_
   |refine wC (w358 _) λz358 h8=>?_
   |refine wC (w359 _ (λx hx=>by have:=cbm.2.2.2.2.2.2.2.2 x hx;omega)) λz359 h10=>?_
   |refine ⟨(1:Int),rfl,?_⟩
   |refine ⟨(0:Int),rfl,?_⟩
   |refine ⟨_,rfl,?_⟩
  |omega
  |dsimp only
  |exact λhr=>cb_empty (hs h) rfl rfl rfl rfl rfl rfl
  |intro hr
  |grind
theorem w199 (a0:S65) (g0:CB a0.f10 400 100):WQv 92 [aE a0] sB (λr=>True):=by
 refine gO Tryz.func92 ?_
 repeat' first
  |with_reducible assumption
  |(conv=>whnf);first
   |refine wC (w251 _ ?_) λz251 hz=>?_
   |refine ⟨by kernel_rfl,?_⟩
   |refine ⟨_,rfl,?_⟩
theorem w200 (a0:S65) (g0:EB a0):WQv 355 [aE a0] sI (λr=>True):=by
 refine gO Tryz.func355 ?_
 obtain ⟨b1,b2,b5,b8,b9,b10⟩:=g0
 repeat' first
  |with_reducible assumption
  |(conv=>whnf);first
   |refine wC (w115 _ ?_) λz115 hz=>?_
   |refine wC (w253 ⟨(0:Int),_,_,_,_,_,_,_,_,_,_,_,ze63⟩ ?_ ?_ ?_ ?_ ?_ ?_ ?_) λz253 hz=>?_
   |refine wC (w252 _ ?_) λz252 hz=>?_
   |refine ⟨_,rfl,?_⟩
  |omega
  |dsimp only
  |exact hz.1
  |exact Nat.zero_le _
  |grind
end Go.Abs.RM
