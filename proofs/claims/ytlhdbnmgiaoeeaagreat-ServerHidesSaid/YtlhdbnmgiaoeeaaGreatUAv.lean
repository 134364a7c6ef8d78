/- Of ServerHides: walks. -/
import Derived.Test.YtlhdbnmgiaoeeaaGreatUAt
import Derived.Test.YtlhdbnmgiaoeeaaGreatUAu
set_option linter.all false
namespace Go.Abs.RM
open Go.Proofs Go.Proofs.RMH
set_option maxRecDepth 100000
set_option maxHeartbeats 40000000
theorem w142 (a0:ByteArray) (g0:(a0.size:Int)<=9223372036854775807):WQv 14 [sS a0] sI (λr=>r=0->1<=a0.size/\a0.size<=32):=by
 refine gO Tryz.func14 ?_
 repeat' first
  |with_reducible assumption
  |(conv=>whnf);first
   |apply bD<;>intro h
   |apply bN<;>intro h
   |refine wS ?_ ?_ λx hb=>?_
   |refine wC (w197 _) λz197 hz=>?_
   |refine V1 (λ(p0:Int)=>0<=p0/\p0<=(a0.size:Int)) (λp0=>[(0,sS a0),(3,sI p0)]) (λ_=>⟨[],0⟩) (λp0=>((a0.size:Int)+1-p0).toNat) (0:Int) ?_ (fN rfl rfl) λp0 ⟨i0,i1⟩=>?_
   |refine ⟨nx _,?_,?_,(fN rfl rfl)⟩
   |refine ⟨(3:Int),rfl,?_⟩
   |refine ⟨(0:Int),rfl,?_⟩
  |omega
  |with_reducible apply And.intro
  |(simp (disch:=omega) only [ls]<;>omega)
theorem w141 (a0:ByteArray) (g0:(a0.size:Int)<=9223372036854775807):WQv 90 [sS a0] sB (λr=>r=true->1<=a0.size/\a0.size<=32):=by
 refine gO Tryz.func90 ?_
 repeat' first
  |with_reducible assumption
  |(conv=>whnf);first
   |apply bD<;>intro h
   |apply bN<;>intro h
   |refine V1 (λ(p0:Int)=>0<=p0/\p0<=(a0.size:Int)) (λp0=>[(0,sS a0),(3,sI p0)]) (λ_=>⟨[],0⟩) (λp0=>((a0.size:Int)+1-p0).toNat) (0:Int) ?_ (fN rfl rfl) λp0 ⟨i0,i1⟩=>?_
   |refine wS ?_ ?_ λx hb=>?_
   |refine wC (w197 _) λz197 hz=>?_
   |refine ⟨false,rfl,?_⟩
   |refine ⟨nx _,?_,?_,(fN rfl rfl)⟩
   |refine ⟨_,rfl,?_⟩
  |omega
  |dsimp only
  |(intro hr;contradiction)
  |with_reducible apply And.intro
  |(simp (disch:=omega) only [ls]<;>omega)
  |(intro hr;first | omega | (simp at hr;omega))
theorem w430 (a0:Int) (a1:ByteArray):WQv 493 [sI a0,sS a1] sB (λr=>r=true->a0=4->a1≠(⟨#[68,101,110,121]⟩:ByteArray)/\a1≠(⟨#[76,101,118,101,108,115]⟩:ByteArray)):=by
 refine gO Tryz.func493 ?_
 repeat' first
  |with_reducible assumption
  |(conv=>whnf);first
   |apply bD<;>intro h
   |apply bS<;>intro h
   |refine wC (w498 _) λz498 hz=>?_
   |refine V1 (λ(p0:Int)=>0<=p0/\p0<=(z498.length:Int)/\(∀r:Bool,(r=true->a1∈z498)->r=true->a0=4->a1≠(⟨#[68,101,110,121]⟩:ByteArray)/\a1≠(⟨#[76,101,118,101,108,115]⟩:ByteArray))) (λp0=>[(1,sS a1),(5,.lst (z498.map cStr)),(6,sI p0)]) (λ_=>⟨[],0⟩) (λp0=>((z498.length:Int)+1-p0).toNat) (0:Int) ?_ (fN rfl rfl) λp0 ⟨i0,i1,hk⟩=>?_
   |refine lM ?_
   |refine wG ?_ ?_ (λ_=>rfl) λx hx hm=>?_
   |refine ⟨true,rfl,?_⟩
   |refine ⟨nx _,?_,?_,(fN rfl rfl)⟩
   |refine ⟨false,rfl,?_⟩
  |omega
  |dsimp only
  |refine hk _ ?_
  |(intro hr;contradiction)
  |(intro hr;subst h;assumption)
  |with_reducible apply And.intro
  |(simp (disch:=omega) only [ls]<;>omega)
  |intro hr
  |grind
theorem w431 (a0:S59) (g0:(a0.f0.length:Int)<=9223372036854775807) (g1:(a0.f1.length:Int)<=9223372036854775807):WQv 494 [.agg (S59.c a0)] sB (λr=>r=true->a0.f0.length=0/\a0.f1.length=0):=by
 refine gO Tryz.func494 ?_
 repeat' first
  |with_reducible assumption
  |(conv=>whnf);first
   |refine wC (w162 _ ze59 ?_ ?_) λz162 hz=>?_
   |refine ⟨_,rfl,?_⟩
  |dsimp only
  |exact hz
theorem w353 (a0:Int) (a1:S61):WQv 456 [sI a0,.agg (S61.c a1)] sI (λr=>r=0->a1.f0.size<=400):=by
 refine gO Tryz.func456 ?_
 repeat' first
  |(conv=>whnf);first
   |apply bI<;>intro h
   |apply bS<;>intro h
   |apply bD<;>intro h
   |refine wC (w71 _) λz71 hz=>?_
   |refine ⟨(0:Int),rfl,?_⟩
   |refine ⟨_,rfl,?_⟩
  |omega
  |dsimp only
  |(rw [h];decide)
theorem w358 (a0:List ByteArray):WQv 461 [.lst (a0.map cStr)] sI (λr=>r=0->a0.length<=100/\∀x∈a0,x.size<=64):=by
 refine gO Tryz.func461 ?_
 repeat' first
  |with_reducible assumption
  |(conv=>whnf);first
   |apply bD<;>intro h
   |apply bJ<;>intro h
   |refine lM ?_
   |refine V1 (λ(p0:Int)=>0<=p0/\p0<=(a0.length:Int)/\(∀r:Int,(r=0->∀y∈a0.drop p0.toNat,y.size<=64)->r=0->a0.length<=100/\∀x∈a0,x.size<=64)) (λp0=>[(0,.lst (a0.map cStr)),(3,sI p0)]) (λ_=>⟨[],0⟩) (λp0=>((a0.length:Int)+1-p0).toNat) (0:Int) ?_ (fN rfl rfl) λp0 ⟨i0,i1,hk⟩=>?_
   |refine wG ?_ ?_ (λ_=>rfl) λx hx hm=>?_
   |refine wC (w71 _) λz71 key=>?_
   |refine ⟨nx _,?_,?_,(fN rfl rfl)⟩
   |refine ⟨(7:Int),rfl,?_⟩
   |refine ⟨_,rfl,?_⟩
  |omega
  |dsimp only
  |refine hk _ ?_
  |refine λr hr=>hk r λhr0=>drop_all ‹_› hx (by omega) ?_ (hr hr0)
  |exact λr hr hr0=>⟨by omega,λx hx=>hr hr0 x hx⟩
  |exact λ_=>drop_none ‹_›
  |with_reducible apply And.intro
  |(simp (disch:=omega) only [ls]<;>omega)
theorem w433 (a0:List S215):WQv 497 [.lst (a0.map S215.c)] sI (λr=>r=0->a0.length<=100):=by
 refine gO Tryz.func497 ?_
 repeat' first
  |with_reducible assumption
  |(conv=>whnf);first
   |apply bD<;>intro h
   |apply bN<;>intro h
   |apply br<;>intro h
   |refine lM ?_
   |refine V1 (λ(p0:Int)=>0<=p0/\p0<=(a0.length:Int)) (λp0=>[(0,.lst (a0.map S215.c)),(3,sI p0)]) (λ_=>⟨[],0⟩) (λp0=>((a0.length:Int)+1-p0).toNat) (0:Int) ?_ (fN rfl rfl) λp0 ⟨i0,i1⟩=>?_
   |refine wE ‹_› ?_ (λ_=>rfl) ?_
   |refine wG ?_ ?_ (λ_=>rfl) λx hx hm=>?_
   |refine wC (w350 _) λz350 hz=>?_
   |refine ⟨by kernel_rfl,?_⟩
   |refine wC (w434 _) λz434 hz=>?_
   |refine ⟨nx _,?_,?_,(fN rfl rfl)⟩
   |refine ⟨(7:Int),rfl,?_⟩
   |refine ⟨(1:Int),rfl,?_⟩
   |refine ⟨(8:Int),rfl,?_⟩
   |refine ⟨(2:Int),rfl,?_⟩
   |refine ⟨(0:Int),rfl,?_⟩
  |omega
  |with_reducible apply And.intro
  |(simp (disch:=omega) only [ls]<;>omega)
theorem w95 (a0:S61) (a1:S61) (g0:(a0.f5.length:Int)<=9223372036854775807) (g1:(a0.f6.length:Int)<=9223372036854775807) (g2:(a0.f7.f0.length:Int)<=9223372036854775807) (g3:(a0.f7.f1.length:Int)<=9223372036854775807):WQv 101 [.agg (S61.c a0),.agg (S61.c a1)] sB (λr=>r=true->a0.f0=a1.f0/\a0.f4=a1.f4/\a0.f5.length=a1.f5.length/\a0.f6.length=a1.f6.length/\a0.f7.f0.length=a1.f7.f0.length/\a0.f7.f1.length=a1.f7.f1.length):=by
 refine gO Tryz.func101 ?_
 repeat' first
  |with_reducible assumption
  |(conv=>whnf);first
   |apply bS<;>intro h
   |apply bI<;>intro h
   |apply br<;>intro h
   |refine wC (w161 _ _ ?_) λz161 hy5=>?_
   |refine wC (w162 _ _ ?_ ?_) λz162 hz=>?_
   |refine ⟨false,rfl,?_⟩
   |refine ⟨_,rfl,?_⟩
  |dsimp only
  |(intro hr;contradiction)
  |with_reducible apply And.intro
  |intro hr
  |grind
theorem w252 (a0:List Int) (g0:a0.length<=9000000):WQv 267 [.lst (a0.map c_u8)] sI (λr=>True):=by
 refine gO Tryz.func267 ?_
 repeat' first
  |with_reducible assumption
  |(conv=>whnf);first
   |refine wC (w362) λz362 hz=>?_
   |refine wC (w361 _ _ ?_) λz361 hz=>?_
   |refine ⟨_,rfl,?_⟩
theorem w363 (a0:List Int) (a1:Int) (g0:a0.length<=1000000):WQv 337 [.lst (a0.map c_u8),sI a1] (λr:List Int=>.lst (r.map c_u8)) (λr=>a0.length<r.length/\r.length<=a0.length+11):=by
 refine gO Tryz.func337 ?_
 repeat' first
  |(conv=>whnf);first
   |refine wA (l:=[]) (f:=c_u8) (m:=_) rfl (λ_=>⟨rfl,rfl⟩) ?_ ?_ ?_
   |refine wC (w437 _) λz437 hz=>?_
   |refine wA (f:=c_u8) (m:=_) rfl (λ_=>⟨rfl,rfl⟩) ?_ ?_ ?_
   |refine ⟨_,_,deep0 (leafs_map (f:=c_u8) (λ_=>rfl) _),?_⟩
   |refine ⟨_,rfl,?_⟩
  |dsimp only
  |(simp only [List.length_append,List.length_cons,List.length_nil,List.length_take,List.length_drop,List.length_set,List.length_map,ByteArray.size_extract];omega)
theorem o363 (a0:List Int) (a1:Int) (g0:a0.length<=1000000):WOQ 337 [.lst (a0.map c_u8),sI a1] 1 false c_u8 (λr=>a0.length<r.length/\r.length<=a0.length+11):=by
 refine goOwn Tryz.func337 (by kernel_rfl) ?_
 repeat' first
  |(conv=>whnf);first
   |refine wA (l:=[]) (f:=c_u8) (m:=_) rfl (λ_=>⟨rfl,rfl⟩) ?_ ?_ ?_
   |refine wC (w437 _) λz437 hz=>?_
   |refine wA (f:=c_u8) (m:=_) rfl (λ_=>⟨rfl,rfl⟩) ?_ ?_ ?_
   |refine ⟨leafs_map (f:=c_u8) (λ_=>rfl) _,_,rfl,?_⟩
  |dsimp only
  |(simp only [List.length_append,List.length_cons,List.length_nil,List.length_take,List.length_drop,List.length_set,List.length_map,ByteArray.size_extract];omega)
theorem w115 (a0:S65) (g0:CB a0.f10 400 100):WQv 91 [aE a0] aE (λr=>CB r.f10 400 100/\r.f1=a0.f1/\r.f2=a0.f2/\r.f5=a0.f5/\r.f8=a0.f8/\r.f9=a0.f9):=by
 refine gO Tryz.func91 ?_
 repeat' first
  |with_reducible assumption
  |(conv=>whnf);first
   |refine wC (w174 _ _ ?_) λz174 hz=>?_
   |refine ⟨⟨a0.f0,a0.f1,a0.f2,a0.f3,a0.f4,a0.f5,a0.f6,a0.f7,a0.f8,a0.f9,z174,a0.f11,a0.f12⟩,rfl,?_⟩
  |dsimp only
  |exact ⟨hz,rfl,rfl,rfl,rfl,rfl⟩
theorem w111 (a0:List S65) (g0:a0.length<=12) (g1:∀e∈a0,EB e):WQv 290 [lE a0] lI (λr=>r.length<=18*12):=by
 refine gO Tryz.func290 ?_
 have hn:([]:List Int).length=0:=rfl
 repeat' first
  |with_reducible assumption
  |(conv=>whnf);first
   |apply bD<;>intro h
   |refine V2 (λ(p0:List Int) (p1:Int)=>0<=p1/\p1<=(a0.length:Int)/\(p0.length:Int)<=18*p1) (λ_ p1=>[(0,lE a0),(3,.row 0),(4,sI p1)]) (λp0 _=>⟨[(0,.row (p0.map c_i64) 1 false 0)],1⟩) (λ_ p1=>((a0.length:Int)+50+1-p1).toNat) [] (0:Int) ?_ (ft [(0,none)] rfl rfl rfl ⟨fitO_nil rfl rfl,trivial⟩) λp0 p1 ⟨i0,i1,i3⟩=>?_
   |refine lM ?_
   |refine V2 (λ(q0:List Int) (q1:Int)=>0<=q1/\q1<=10/\(q0.length:Int)<=18*p1+q1) (λ_ q1=>[(0,lE a0),(3,.row 0),(4,sI p1),(5,sI q1)]) (λq0 _=>⟨[(0,.row (q0.map c_i64) 1 false 0)],1⟩) (λ_ q1=>(30+1-q1).toNat) p0 (0:Int) ?_ (fR1 0 rfl rfl rfl λ_=>rfl) λq0 q1 ⟨i0,i1,i3⟩=>?_
   |refine wE ‹_› ?_ (λ_=>rfl) ?_
   |refine wG ?_ ?_ (λ_=>rfl) λx hx hm=>?_
   |refine ⟨_,_,deep0 (leafs_map (f:=c_i64) (λ_=>rfl) _),?_⟩
   |refine wU (leafs_map (f:=c_i64) (λ_=>rfl) _) (u60 _ _ ?_) (λz60 hz=>?_) rfl rfl rfl
   |refine ⟨⟨_,nx _⟩,?_,?_,(fR1 1 rfl rfl rfl λ_=>rfl)⟩
   |refine V2 (λ(v0:List Int) (v1:Int)=>0<=v1/\v1<=8/\(v0.length:Int)<=18*p1+10+v1) (λ_ v1=>[(0,lE a0),(3,.row 0),(4,sI p1),(6,sI v1)]) (λv0 _=>⟨[(0,.row (v0.map c_i64) 1 false 0)],1⟩) (λ_ v1=>(10+1-v1).toNat) q0 (0:Int) ?_ (fR1 0 rfl rfl rfl λ_=>rfl) λv0 v1 ⟨i0,i1,i3⟩=>?_
   |refine ⟨⟨_,nx _⟩,?_,?_,(fR1 0 rfl rfl rfl λ_=>rfl)⟩
   |refine ⟨_,rfl,?_⟩
  |omega
  |dsimp only
  |with_reducible apply And.intro
  |(simp (disch:=omega) only [ls]<;>omega)
  |grind
theorem w17 (a0:List S65) (a1:List Int) (g0:a0.length<=1000000000) (g1:a1.length<=1000000000):WQv 289 [lE a0,lI a1] lI (λr=>r.length<=a1.length):=by
 refine gO Tryz.func289 ?_
 have hn:([]:List Int).length=0:=rfl
 repeat' first
  |with_reducible assumption
  |(conv=>whnf);first
   |apply bD<;>intro h
   |refine V2 (λ(p0:List Int) (p1:Int)=>0<=p1/\p1<=(a1.length:Int)/\(p0.length:Int)<=p1) (λ_ p1=>[(0,lE a0),(1,lI a1),(5,.row 0),(6,sI p1)]) (λp0 _=>⟨[(0,.row (p0.map c_i64) 1 false 0)],1⟩) (λ_ p1=>((a1.length:Int)+1-p1).toNat) [] (0:Int) ?_ (ft [(0,none)] rfl rfl rfl ⟨fitO_nil rfl rfl,trivial⟩) λp0 p1 ⟨i0,i1,i3⟩=>?_
   |refine lM ?_
   |refine wE ‹_› ?_ (λ_=>rfl) ?_
   |refine wG ?_ ?_ (λ_=>rfl) λx hx hm=>?_
   |refine wC (w59 _ _ ?_) λz59 hz=>?_
   |refine ⟨_,_,deep0 (leafs_map (f:=c_i64) (λ_=>rfl) _),?_⟩
   |refine wU (leafs_map (f:=c_i64) (λ_=>rfl) _) (u60 _ _ ?_) (λz60 hz=>?_) rfl rfl rfl
   |refine ⟨⟨_,nx _⟩,?_,?_,(fR1 1 rfl rfl rfl λ_=>rfl)⟩
   |refine ⟨⟨_,nx _⟩,?_,?_,(fR1 0 rfl rfl rfl λ_=>rfl)⟩
   |refine ⟨_,rfl,?_⟩
  |omega
  |dsimp only
  |with_reducible apply And.intro
  |(simp (disch:=omega) only [ls]<;>omega)
theorem w56 (a0:List S65) (a1:Int) (g0:a0.length<=1000000000):WQv 207 [lE a0,sI a1] (λr:S65×Bool=>.tup [aE r.1,sB r.2]) (λr=>Got a0 a1 r):=by
 refine gO Tryz.func207 ?_
 repeat' first
  |with_reducible assumption
  |(conv=>whnf);first
   |apply bD<;>intro h
   |refine wC (w59 _ _ ?_) λz59 h59=>?_
   |refine wG ?_ ?_ (λ_=>rfl) λx hx hm=>?_
   |refine ⟨(ze65,false),rfl,?_⟩
   |refine ⟨(_,true),rfl,?_⟩
  |omega
  |dsimp only
  |exact Or.inr ⟨rfl,rfl,h59.2 h⟩
  |exact got_mk h59 h hx hm
theorem w203 (a0:List S71) (a1:Int) (a2:ByteArray) (a3:Int) (g0:a0.length<=1000000):WQv 360 [.lst (a0.map S71.c),sI a1,sS a2,sI a3] (λr:List S71=>.lst (r.map S71.c)) (λr=>r.length<=a0.length+1):=by
 refine gO Tryz.func360 ?_
 repeat' first
  |with_reducible assumption
  |(conv=>whnf);first
   |apply bD<;>intro h
   |apply bS<;>intro h
   |apply br<;>intro h
   |refine V1 (λ(p0:Int)=>0<=p0/\p0<=(a0.length:Int)) (λp0=>[(0,.lst (a0.map S71.c)),(1,sI a1),(2,sS a2),(3,sI a3),(9,sI p0)]) (λ_=>⟨[],0⟩) (λp0=>((a0.length:Int)+1-p0).toNat) (0:Int) ?_ (fN rfl rfl) λp0 ⟨i0,i1⟩=>?_
   |refine lM ?_
   |refine wE ‹_› ?_ (λ_=>rfl) ?_
   |refine wG ?_ ?_ (λ_=>rfl) λx hx hm=>?_
   |refine wC (w257 _ _ _ _) λz257 hz=>?_
   |refine ⟨by kernel_rfl,?_⟩
   |refine ⟨nx _,?_,?_,(fN rfl rfl)⟩
   |refine ⟨lens_map (f:=S71.c) (λ_=>rfl),?_,?_,slB _ ?_⟩
   |refine ⟨lens_map (f:=S71.c) (λ_=>rfl),?_,?_,slA _ _ ?_⟩
   |refine wA (l:=[]) (f:=S71.c) (m:=_) rfl (λ_=>⟨rfl,rfl⟩) ?_ ?_ ?_
   |refine wA (f:=S71.c) (m:=[⟨_,_,_⟩]) rfl (λ_=>⟨rfl,rfl⟩) ?_ ?_ ?_
   |refine wA (f:=S71.c) (m:=_) rfl (λ_=>⟨rfl,rfl⟩) ?_ ?_ ?_
   |refine ⟨_,_,deep0 (leafs_map (f:=S71.c) (λ_=>rfl) _),?_⟩
   |refine ⟨_,rfl,?_⟩
  |omega
  |dsimp only
  |with_reducible apply And.intro
  |(simp (disch:=omega) only [ls];omega)
theorem w118 (a0:List Int) (a1:Int) (g0:a0.length<=1000000000):WQv 415 [lI a0,sI a1] lI (λr=>PutP a0 a1 r):=by
 refine gO Tryz.func415 ?_
 repeat' first
  |with_reducible assumption
  |(conv=>whnf);first
   |apply bD<;>intro h
   |apply br<;>intro h
   |refine wC (w16 _ _ ?_) λz16 hz=>?_
   |refine V1 (λ(p0:Int)=>0<=p0/\p0<=(a0.length:Int)) (λp0=>[(0,lI a0),(1,sI a1),(5,sI p0)]) (λ_=>⟨[],0⟩) (λp0=>((a0.length:Int)+1-p0).toNat) (0:Int) ?_ (fN rfl rfl) λp0 ⟨i0,i1⟩=>?_
   |refine lM ?_
   |refine wG ?_ ?_ (λ_=>rfl) λx hx hm=>?_
   |refine ⟨nx _,?_,?_,(fN rfl rfl)⟩
   |refine ⟨lens_map (f:=c_i64) (λ_=>rfl),?_,?_,slB _ ?_⟩
   |refine ⟨lens_map (f:=c_i64) (λ_=>rfl),?_,?_,slA _ _ ?_⟩
   |refine wA (l:=[]) (f:=c_i64) (m:=_) rfl (λ_=>⟨rfl,rfl⟩) ?_ ?_ ?_
   |refine wA (f:=c_i64) (m:=[_]) rfl (λ_=>⟨rfl,rfl⟩) ?_ ?_ ?_
   |refine wA (f:=c_i64) (m:=_) rfl (λ_=>⟨rfl,rfl⟩) ?_ ?_ ?_
   |refine ⟨_,_,deep0 (leafs_map (f:=c_i64) (λ_=>rfl) _),?_⟩
   |refine ⟨_,rfl,?_⟩
  |omega
  |refine put_mk ?_
  |dsimp only
  |exact PutP.keep (hz.1 h)
  |with_reducible apply And.intro
  |(simp (disch:=omega) only [ls]<;>omega)
  |intro hr
  |grind
theorem w369 (a0:List (List S71)) (a1:S71) (g0:a0.length<=12) (g1:∀s∈a0,s.length<=1000000000):WQv 471 [.lst (a0.map cL26),.agg (S71.c a1)] sB (λr=>True):=by
 refine gO Tryz.func471 ?_
 repeat' first
  |with_reducible assumption
  |(conv=>whnf);first
   |apply bD<;>intro h
   |apply bN<;>intro h
   |refine V1 (λ(p0:Int)=>0<=p0/\p0<=(a0.length:Int)) (λp0=>[(0,.lst (a0.map cL26)),(3,.box 0 0),(5,sI p0)]) (λ_=>⟨[(0,.box (S71.c a1) false)],1⟩) (λp0=>((a0.length:Int)+1-p0).toNat) (0:Int) ?_ (fB1 rfl rfl rfl rfl) λp0 ⟨i0,i1⟩=>?_
   |refine lM ?_
   |refine wG ?_ ?_ (λ_=>rfl) λx hx hm=>?_
   |refine wC (w263 _ _ _ ?_) λz263 hz=>?_
   |refine ⟨by kernel_rfl,?_⟩
   |refine ⟨false,rfl,?_⟩
   |refine ⟨nx _,?_,?_,(fB1 rfl rfl rfl rfl)⟩
   |refine ⟨true,rfl,?_⟩
  |omega
  |exact True.intro
  |exact g1 _ hm
  |with_reducible apply And.intro
  |(simp (disch:=omega) only [ls]<;>omega)
theorem w367 (a0:S65):WQv 465 [aE a0] (λr:List S71=>.lst (r.map S71.c)) (λr=>r.length<=5):=by
 refine gO Tryz.func465 ?_
 have hn1:([]:List S71).length=0:=rfl
 repeat' first
  |(conv=>whnf);first
   |apply bI<;>intro h
   |apply bJ<;>intro h
   |refine wC (w438 [] (1:Int) zS ?_) λz438 hz=>?_
   |refine wC (w438 _ (3:Int) zS ?_) λz438 hz=>?_
   |refine wC (w438 _ (2:Int) _ ?_) λz438 hz=>?_
   |refine wC (w438 _ (4:Int) zS ?_) λz438 hz=>?_
   |refine ⟨[],rfl,?_⟩
   |refine ⟨_,rfl,?_⟩
  |omega
theorem w321 (a0:List S65) (g0:a0.length<=1000000) (g1:∀e∈a0,EB e):WQv 504 [lE a0] (λr:S59×ByteArray=>.tup [.agg (S59.c r.1),sS r.2]) (λr=>r.1.f0.length<=100/\r.1.f1.length<=100):=by
 refine gO Tryz.func504 ?_
 repeat' first
  |with_reducible assumption
  |(conv=>whnf);first
   |apply bD<;>intro h
   |apply bN<;>intro h
   |refine V3 (λ(p0:ByteArray) (p1:Bool) (p2:Int)=>0<=p2/\p2<=(a0.length:Int)) (λp0 p1 p2=>[(0,lE a0),(2,.box 0 0),(4,sS p0),(5,sB p1),(6,sI p2)]) (λ_ _ _=>⟨[(0,.box (S59.c (⟨[],[],(0:Int),(0:Int),(0:Int),(0:Int),(0:Int),(0:Int),(0:Int)⟩:S59)) false)],1⟩) (λ_ _ p2=>((a0.length:Int)+1-p2).toNat) zS false (0:Int) ?_ (fB1 rfl rfl rfl rfl) λp0 p1 p2 ⟨i0,i1⟩=>?_
   |refine lM ?_
   |refine wE ‹_› ?_ (λ_=>rfl) ?_
   |refine wG ?_ ?_ (λ_=>rfl) λx hx hm=>?_
   |refine ⟨⟨_,_,nx _⟩,?_,?_,(fB1 rfl rfl rfl rfl)⟩
   |refine V2 (λ(q0:S59) (q1:Int)=>0<=q1/\q1<=(a0.length:Int)) (λ_ q1=>[(0,lE a0),(2,.box 0 0),(4,sS p0),(7,sI q1)]) (λq0 _=>⟨[(0,.box (S59.c q0) false)],1⟩) (λ_ q1=>((a0.length:Int)+1-q1).toNat) ze59 (0:Int) ?_ (fB1 rfl rfl rfl rfl) λq0 q1 ⟨i0,i1⟩=>?_
   |refine ⟨⟨_,nx _⟩,?_,?_,(fB1 rfl rfl rfl rfl)⟩
   |refine wC (w177 _) λz177 hz=>?_
   |refine ⟨(_,_),rfl,?_⟩
  |omega
  |dsimp only
  |(have hb:=(g1 _ hm).2.2.2.2.2;exact ⟨hb.2.2.2.2.1,hb.2.2.2.2.2.1⟩)
  |with_reducible apply And.intro
  |(simp (disch:=omega) only [ls]<;>omega)
theorem w415 (a0:S65) (a1:List S65) (g0:a1.length<=1000000):WQv 500 [aE a0,lE a1] sB (λr=>True):=by
 refine gO Tryz.func500 ?_
 repeat' first
  |with_reducible assumption
  |(conv=>whnf);first
   |apply bI<;>intro h
   |apply bS<;>intro h
   |apply br<;>intro h
   |refine wC (w325 _ ?_) λz325 hz=>?_
   |refine lM ?_
   |refine wG ?_ ?_ (λ_=>rfl) λx hx hm=>?_
   |refine wC (w480 _ _ ?_) λz480 hz=>?_
   |refine ⟨by kernel_rfl,?_⟩
   |refine ⟨false,rfl,?_⟩
   |refine ⟨_,rfl,?_⟩
  |omega
theorem w417 (a0:S65) (a1:List S65) (a2:Int) (g0:a1.length<=1000000) (g1:∀e∈a1,EB e):WQv 502 [aE a0,lE a1,sI a2] sI (λr=>True):=by
 refine gO Tryz.func502 ?_
 repeat' first
  |with_reducible assumption
  |(conv=>whnf);first
   |apply bI<;>intro h
   |refine wC (w481 _ ?_ ?_) λz481 hz=>?_
   |refine wC (w482 _ _) λz482 hz=>?_
   |refine wC (w483 _ _) λz483 hz=>?_
   |refine ⟨_,rfl,?_⟩
theorem w419 (a0:S59) (a1:Int) (g0:a0.f1.length<=100):WQv 506 [.agg (S59.c a0),sI a1] sI (λr=>True):=by
 refine gO Tryz.func506 ?_
 repeat' first
  |with_reducible assumption
  |(conv=>whnf);first
   |apply bD<;>intro h
   |apply br<;>intro h
   |refine V1 (λ(p0:Int)=>0<=p0/\p0<=(a0.f1.length:Int)) (λp0=>[(1,sI a1),(2,.box 0 0),(5,sI p0)]) (λ_=>⟨[(0,.box (S59.c a0) false)],1⟩) (λp0=>((a0.f1.length:Int)+1-p0).toNat) (0:Int) ?_ (fB1 rfl rfl rfl rfl) λp0 ⟨i0,i1⟩=>?_
   |refine lM ?_
   |refine wE ‹_› ?_ (λ_=>rfl) ?_
   |refine wG ?_ ?_ (λ_=>rfl) λx hx hm=>?_
   |refine ⟨nx _,?_,?_,(fB1 rfl rfl rfl rfl)⟩
   |refine wC (w116 _) λz116 hz=>?_
   |refine ⟨_,rfl,?_⟩
  |omega
  |exact True.intro
  |with_reducible apply And.intro
  |(simp (disch:=omega) only [ls]<;>omega)
theorem w486 (a0:S59) (a1:S59) (a2:ByteArray) (a3:ByteArray) (g0:a0.f0.length<=100) (g1:a1.f0.length<=100):WQv 526 [.agg (S59.c a0),.agg (S59.c a1),sS a2,sS a3] sB (λr=>True):=by
 refine gO Tryz.func526 ?_
 repeat' first
  |with_reducible assumption
  |(conv=>whnf);first
   |apply bI<;>intro h
   |apply bS<;>intro h
   |apply br<;>intro h
   |refine wC (w322 _ _ ?_) λz322 hz=>?_
   |refine ⟨by kernel_rfl,?_⟩
   |refine wC (w485 _ _ _) λz485 hz=>?_
   |refine ⟨true,rfl,?_⟩
   |refine ⟨false,rfl,?_⟩
   |refine ⟨_,rfl,?_⟩
theorem w201 (a0:List S65) (g0:a0.length<=12):WQv 357 [lE a0] lI (λr=>r.length=a0.length):=by
 refine gO Tryz.func357 ?_
 repeat' first
  |with_reducible assumption
  |(conv=>whnf);first
   |refine wLE ‹_› ?_
   |refine wG (l:=a0) ?_ ?_ (λ_=>rfl) λx0 hx hm=>?_
   |refine wL (i:=IntKind.wrap .i64 (q1-(1:Int))) ?_ ?_ λy1 hx=>?_
   |refine wL (i:=q1) ?_ ?_ λy2 hx=>?_
   |apply bD<;>intro h
   |apply br<;>intro h
   |refine V2 (λ(p0:List S65) (p1:Int)=>0<=p1/\p1<=(a0.length:Int)/\(p0.length:Int)=p1) (λ_ p1=>[(0,lE a0),(3,.row 0),(4,sI p1)]) (λp0 _=>⟨[(0,.row (p0.map S65.c) 29 false 0)],1⟩) (λ_ p1=>((a0.length:Int)+20+1-p1).toNat) [] (0:Int) ?_ (ft [(0,none)] rfl rfl rfl ⟨fitO_nil rfl rfl,trivial⟩) λp0 p1 ⟨i0,i1,i3⟩=>?_
   |refine lM ?_
   |refine wA (f:=S65.c) (m:=[_]) rfl (λ_=>⟨rfl,rfl⟩) ?_ ?_ ?_
   |refine V2 (λ(q0:List S65) (q1:Int)=>0<=q1/\q1<(q0.length:Int)/\(q0.length:Int)=p1+1) (λ_ q1=>[(0,lE a0),(3,.row 0),(4,sI p1),(5,sI q1)]) (λq0 _=>⟨[(0,.row (q0.map S65.c) 29 false 0)],1⟩) (λ_ q1=>(q1+1).toNat) (p0++[x0]) p1 ?_ (fR1 2 rfl rfl rfl λ_=>rfl) λq0 q1 ⟨i0,i1,i3⟩=>?_
   |refine wR ?_ ?_ ?_
   |refine wC (w254 _ _) λz254 hz=>?_
   |refine ⟨by kernel_rfl,?_⟩
   |refine ⟨_,(List.map_set (f:=S65.c) (a:=y1)).symm,?_⟩
   |refine ⟨_,(List.map_set (f:=S65.c) (a:=y2)).symm,?_⟩
   |refine ⟨⟨_,IntKind.wrap .i64 (q1-(1:Int))⟩,?_,?_,(fR1 0 rfl rfl rfl λ_=>rfl)⟩
   |refine ⟨⟨_,nx _⟩,?_,?_,(fR1 0 rfl rfl rfl λ_=>rfl)⟩
   |refine ⟨_,_,deep0 (leafs_map (f:=S65.c) (λ_=>rfl) _),?_⟩
   |refine wC (w14 _ ?_) λz14 hz=>?_
   |refine ⟨_,rfl,?_⟩
  |omega
  |dsimp only
  |with_reducible apply And.intro
  |(simp (disch:=omega) only [ls]<;>omega)
theorem w87 (a0:S30) (a1:List Int) (a2:Int) (g0:a0.f2.length<=12) (g1:a1.length<=10):WQv 209 [.agg (S30.c a0),lI a1,sI a2] sB (λr=>True):=by
 refine gO Tryz.func209 ?_
 repeat' first
  |with_reducible assumption
  |(conv=>whnf);first
   |apply bD<;>intro h
   |apply bN<;>intro h
   |refine V1 (λ(p0:Int)=>0<=p0/\p0<=(a1.length:Int)) (λp0=>[(1,lI a1),(2,sI a2),(3,.box 0 0),(7,sI p0)]) (λ_=>⟨[(0,.box (S30.c a0) false)],1⟩) (λp0=>((a1.length:Int)+1-p0).toNat) (0:Int) ?_ (fB1 rfl rfl rfl rfl) λp0 ⟨i0,i1⟩=>?_
   |refine lM ?_
   |refine wG ?_ ?_ (λ_=>rfl) λx hx hm=>?_
   |refine wC (w85 _ _ ?_) λz85 hz=>?_
   |refine ⟨by kernel_rfl,?_⟩
   |refine ⟨false,rfl,?_⟩
   |refine ⟨nx _,?_,?_,(fB1 rfl rfl rfl rfl)⟩
   |refine ⟨true,rfl,?_⟩
  |omega
  |exact True.intro
  |with_reducible apply And.intro
  |(simp (disch:=omega) only [ls]<;>omega)
theorem w147 (a0:List S65) (a1:List S139) (g0:a0.length<=12) (g1:a1.length<=12):WQv 295 [lE a0,.lst (a1.map S139.c)] lI (λr=>r.length<=12):=by
 refine gO Tryz.func295 ?_
 have hn:([]:List Int).length=0:=rfl
 repeat' first
  |with_reducible assumption
  |(conv=>whnf);first
   |apply bD<;>intro h
   |apply br<;>intro h
   |refine V2 (λ(p0:List Int) (p1:Int)=>0<=p1/\p1<=(a0.length:Int)/\(p0.length:Int)<=p1) (λ_ p1=>[(0,lE a0),(1,.lst (a1.map S139.c)),(5,.row 0),(6,sI p1)]) (λp0 _=>⟨[(0,.row (p0.map c_i64) 1 false 0)],1⟩) (λ_ p1=>((a0.length:Int)+1-p1).toNat) [] (0:Int) ?_ (ft [(0,none)] rfl rfl rfl ⟨fitO_nil rfl rfl,trivial⟩) λp0 p1 ⟨i0,i1,i3⟩=>?_
   |refine lM ?_
   |refine wE ‹_› ?_ (λ_=>rfl) ?_
   |refine wG ?_ ?_ (λ_=>rfl) λx hx hm=>?_
   |refine wC (w86 _ _ ?_) λz86 hz=>?_
   |refine wA (f:=c_i64) (m:=[_]) rfl (λ_=>⟨rfl,rfl⟩) ?_ ?_ ?_
   |refine ⟨⟨_,nx _⟩,?_,?_,(fR1 3 rfl rfl rfl λ_=>rfl)⟩
   |refine ⟨⟨_,nx _⟩,?_,?_,(fR1 0 rfl rfl rfl λ_=>rfl)⟩
   |refine ⟨_,_,deep0 (leafs_map (f:=c_i64) (λ_=>rfl) _),?_⟩
   |refine ⟨_,rfl,?_⟩
  |omega
  |dsimp only
  |with_reducible apply And.intro
  |(simp (disch:=omega) only [ls]<;>omega)
end Go.Abs.RM
