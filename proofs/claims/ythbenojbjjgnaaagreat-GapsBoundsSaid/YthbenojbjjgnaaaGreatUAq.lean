/- Of GapsBounds: walks. -/
import Derived.Test.YthbenojbjjgnaaaGreatUAp
set_option linter.all false
namespace Go.Abs.RM
open Go.Proofs
set_option maxRecDepth 100000
set_option maxHeartbeats 40000000
theorem w358 (a0:List ByteArray):WQv 358 [.lst (a0.map cStr)] sI (fun r=>r=0→a0.length≤100∧∀x∈a0,x.size≤64):=by
 refine gO Tryz.func358 ?_
 repeat' first
  |with_reducible assumption
  |(conv=>whnf);first
   |apply bD<;>intro h
   |apply bJ<;>intro h
   |refine lM ?_
   |refine V1 (fun (p0:Int)=>0≤p0∧p0≤(a0.length:Int)∧(∀r:Int,(r=0→∀y∈a0.drop p0.toNat,y.size≤64)→r=0→a0.length≤100∧∀x∈a0,x.size≤64)) (fun p0=>[(0,.lst (a0.map cStr)),(3,sI p0)]) (fun _=>⟨[],0⟩) (fun p0=>((a0.length:Int)+1-p0).toNat) (0:Int) ?_ (fN rfl rfl) fun p0 ⟨i0,i1,hk⟩=>?_
   |refine wG ?_ ?_ (fun _=>rfl) fun x hx hm=>?_
   |refine wC (w71 _) fun z71 key=>?_
   |refine ⟨nx _,?_,?_,(fN rfl rfl)⟩
   |refine ⟨(7:Int),rfl,?_⟩
   |refine ⟨_,rfl,?_⟩
  |omega
  |dsimp only
  |refine hk _ ?_
  |refine fun r hr=>hk r fun hr0=>drop_all ‹_› hx (by omega) ?_ (hr hr0)
  |exact fun r hr hr0=>⟨by omega,fun x hx=>hr hr0 x hx⟩
  |exact fun _=>drop_none ‹_›
  |with_reducible apply And.intro
  |(simp (disch:=omega) only [ls]<;>omega)
theorem w433 (a0:List S215):WQv 433 [.lst (a0.map S215.c)] sI (fun r=>r=0→a0.length≤100):=by
 refine gO Tryz.func433 ?_
 repeat' first
  |with_reducible assumption
  |(conv=>whnf);first
   |apply bD<;>intro h
   |apply bN<;>intro h
   |apply br<;>intro h
   |refine lM ?_
   |refine V1 (fun (p0:Int)=>0≤p0∧p0≤(a0.length:Int)) (fun p0=>[(0,.lst (a0.map S215.c)),(3,sI p0)]) (fun _=>⟨[],0⟩) (fun p0=>((a0.length:Int)+1-p0).toNat) (0:Int) ?_ (fN rfl rfl) fun p0 ⟨i0,i1⟩=>?_
   |refine wE ‹_› ?_ (fun _=>rfl) ?_
   |refine wG ?_ ?_ (fun _=>rfl) fun x hx hm=>?_
   |refine wC (w350 _) fun z350 hz=>?_
   |refine ⟨by kernel_rfl,?_⟩
   |refine wC (w434 _) fun z434 hz=>?_
   |refine ⟨nx _,?_,?_,(fN rfl rfl)⟩
   |refine ⟨(7:Int),rfl,?_⟩
   |refine ⟨(1:Int),rfl,?_⟩
   |refine ⟨(8:Int),rfl,?_⟩
   |refine ⟨(2:Int),rfl,?_⟩
   |refine ⟨(0:Int),rfl,?_⟩
  |omega
  |with_reducible apply And.intro
  |(simp (disch:=omega) only [ls]<;>omega)
theorem w95 (a0:S61) (a1:S61) (g0:(a0.f5.length:Int)≤9223372036854775807) (g1:(a0.f6.length:Int)≤9223372036854775807) (g2:(a0.f7.f0.length:Int)≤9223372036854775807) (g3:(a0.f7.f1.length:Int)≤9223372036854775807):WQv 95 [.agg (S61.c a0),.agg (S61.c a1)] sB (fun r=>r=true→a0.f0=a1.f0∧a0.f4=a1.f4∧a0.f5.length=a1.f5.length∧a0.f6.length=a1.f6.length∧a0.f7.f0.length=a1.f7.f0.length∧a0.f7.f1.length=a1.f7.f1.length):=by
 refine gO Tryz.func95 ?_
 repeat' first
  |with_reducible assumption
  |(conv=>whnf);first
   |apply bS<;>intro h
   |apply bI<;>intro h
   |apply br<;>intro h
   |refine wC (w161 _ _ ?_) fun z161 hy5=>?_
   |refine wC (w162 _ _ ?_ ?_) fun z162 hz=>?_
   |refine ⟨false,rfl,?_⟩
   |refine ⟨_,rfl,?_⟩
  |dsimp only
  |(intro hr;contradiction)
  |with_reducible apply And.intro
  |intro hr
  |grind
theorem w252 (a0:List Int) (g0:a0.length≤9000000):WQv 252 [.lst (a0.map c_u8)] sI (fun r=>True):=by
 refine gO Tryz.func252 ?_
 repeat' first
  |with_reducible assumption
  |(conv=>whnf);first
   |refine wC (w362) fun z362 hz=>?_
   |refine wC (w361 _ _ ?_) fun z361 hz=>?_
   |refine ⟨_,rfl,?_⟩
theorem w363 (a0:List Int) (a1:Int) (g0:a0.length≤1000000):WQv 363 [.lst (a0.map c_u8),sI a1] (fun r:List Int=>.lst (r.map c_u8)) (fun r=>a0.length<r.length∧r.length≤a0.length+11):=by
 refine gO Tryz.func363 ?_
 repeat' first
  |(conv=>whnf);first
   |refine wA (l:=[]) (f:=c_u8) (m:=_) rfl (fun _=>⟨rfl,rfl⟩) ?_ ?_ ?_
   |refine wC (w437 _) fun z437 hz=>?_
   |refine wA (f:=c_u8) (m:=_) rfl (fun _=>⟨rfl,rfl⟩) ?_ ?_ ?_
   |refine ⟨_,_,deep0 (leafs_map (f:=c_u8) (fun _=>rfl) _),?_⟩
   |refine ⟨_,rfl,?_⟩
  |dsimp only
  |(simp only [List.length_append,List.length_cons,List.length_nil,List.length_take,List.length_drop,List.length_set,List.length_map,ByteArray.size_extract];omega)
theorem o363 (a0:List Int) (a1:Int) (g0:a0.length≤1000000):WOQ 363 [.lst (a0.map c_u8),sI a1] 1 false c_u8 (fun r=>a0.length<r.length∧r.length≤a0.length+11):=by
 refine goOwn Tryz.func363 (by kernel_rfl) ?_
 repeat' first
  |(conv=>whnf);first
   |refine wA (l:=[]) (f:=c_u8) (m:=_) rfl (fun _=>⟨rfl,rfl⟩) ?_ ?_ ?_
   |refine wC (w437 _) fun z437 hz=>?_
   |refine wA (f:=c_u8) (m:=_) rfl (fun _=>⟨rfl,rfl⟩) ?_ ?_ ?_
   |refine ⟨leafs_map (f:=c_u8) (fun _=>rfl) _,_,rfl,?_⟩
  |dsimp only
  |(simp only [List.length_append,List.length_cons,List.length_nil,List.length_take,List.length_drop,List.length_set,List.length_map,ByteArray.size_extract];omega)
theorem w115 (a0:S65) (g0:CB a0.f10 400 100):WQv 115 [aE a0] aE (fun r=>CB r.f10 400 100∧r.f1=a0.f1∧r.f2=a0.f2∧r.f5=a0.f5∧r.f8=a0.f8∧r.f9=a0.f9):=by
 refine gO Tryz.func115 ?_
 repeat' first
  |with_reducible assumption
  |(conv=>whnf);first
   |refine wC (w174 _ _ ?_) fun z174 hz=>?_
   |refine ⟨⟨a0.f0,a0.f1,a0.f2,a0.f3,a0.f4,a0.f5,a0.f6,a0.f7,a0.f8,a0.f9,z174,a0.f11,a0.f12⟩,rfl,?_⟩
  |dsimp only
  |exact ⟨hz,rfl,rfl,rfl,rfl,rfl⟩
theorem w111 (a0:List S65) (g0:a0.length≤12) (g1:∀e∈a0,EB e):WQv 111 [lE a0] lI (fun r=>r.length≤18*12):=by
 refine gO Tryz.func111 ?_
 have hn:([]:List Int).length=0:=rfl
 repeat' first
  |with_reducible assumption
  |(conv=>whnf);first
   |apply bD<;>intro h
   |refine V2 (fun (p0:List Int) (p1:Int)=>0≤p1∧p1≤(a0.length:Int)∧(p0.length:Int)≤18*p1) (fun _ p1=>[(0,lE a0),(3,.row 0),(4,sI p1)]) (fun p0 _=>⟨[(0,.row (p0.map c_i64) 1 false 0)],1⟩) (fun _ p1=>((a0.length:Int)+50+1-p1).toNat) [] (0:Int) ?_ (ft [(0,none)] rfl rfl rfl ⟨fitO_nil rfl rfl,trivial⟩) fun p0 p1 ⟨i0,i1,i3⟩=>?_
   |refine lM ?_
   |refine V2 (fun (q0:List Int) (q1:Int)=>0≤q1∧q1≤10∧(q0.length:Int)≤18*p1+q1) (fun _ q1=>[(0,lE a0),(3,.row 0),(4,sI p1),(5,sI q1)]) (fun q0 _=>⟨[(0,.row (q0.map c_i64) 1 false 0)],1⟩) (fun _ q1=>(30+1-q1).toNat) p0 (0:Int) ?_ (fR1 0 rfl rfl rfl fun _=>rfl) fun q0 q1 ⟨i0,i1,i3⟩=>?_
   |refine wE ‹_› ?_ (fun _=>rfl) ?_
   |refine wG ?_ ?_ (fun _=>rfl) fun x hx hm=>?_
   |refine ⟨_,_,deep0 (leafs_map (f:=c_i64) (fun _=>rfl) _),?_⟩
   |refine wU (leafs_map (f:=c_i64) (fun _=>rfl) _) (u60 _ _ ?_) (fun z60 hz=>?_) rfl rfl rfl
   |refine ⟨⟨_,nx _⟩,?_,?_,(fR1 1 rfl rfl rfl fun _=>rfl)⟩
   |refine V2 (fun (v0:List Int) (v1:Int)=>0≤v1∧v1≤8∧(v0.length:Int)≤18*p1+10+v1) (fun _ v1=>[(0,lE a0),(3,.row 0),(4,sI p1),(6,sI v1)]) (fun v0 _=>⟨[(0,.row (v0.map c_i64) 1 false 0)],1⟩) (fun _ v1=>(10+1-v1).toNat) q0 (0:Int) ?_ (fR1 0 rfl rfl rfl fun _=>rfl) fun v0 v1 ⟨i0,i1,i3⟩=>?_
   |refine ⟨⟨_,nx _⟩,?_,?_,(fR1 0 rfl rfl rfl fun _=>rfl)⟩
   |refine ⟨_,rfl,?_⟩
  |omega
  |dsimp only
  |with_reducible apply And.intro
  |(simp (disch:=omega) only [ls]<;>omega)
  |grind
theorem w17 (a0:List S65) (a1:List Int) (g0:a0.length≤1000000000) (g1:a1.length≤1000000000):WQv 17 [lE a0,lI a1] lI (fun r=>r.length≤a1.length):=by
 refine gO Tryz.func17 ?_
 have hn:([]:List Int).length=0:=rfl
 repeat' first
  |with_reducible assumption
  |(conv=>whnf);first
   |apply bD<;>intro h
   |refine V2 (fun (p0:List Int) (p1:Int)=>0≤p1∧p1≤(a1.length:Int)∧(p0.length:Int)≤p1) (fun _ p1=>[(0,lE a0),(1,lI a1),(5,.row 0),(6,sI p1)]) (fun p0 _=>⟨[(0,.row (p0.map c_i64) 1 false 0)],1⟩) (fun _ p1=>((a1.length:Int)+1-p1).toNat) [] (0:Int) ?_ (ft [(0,none)] rfl rfl rfl ⟨fitO_nil rfl rfl,trivial⟩) fun p0 p1 ⟨i0,i1,i3⟩=>?_
   |refine lM ?_
   |refine wE ‹_› ?_ (fun _=>rfl) ?_
   |refine wG ?_ ?_ (fun _=>rfl) fun x hx hm=>?_
   |refine wC (w59 _ _ ?_) fun z59 hz=>?_
   |refine ⟨_,_,deep0 (leafs_map (f:=c_i64) (fun _=>rfl) _),?_⟩
   |refine wU (leafs_map (f:=c_i64) (fun _=>rfl) _) (u60 _ _ ?_) (fun z60 hz=>?_) rfl rfl rfl
   |refine ⟨⟨_,nx _⟩,?_,?_,(fR1 1 rfl rfl rfl fun _=>rfl)⟩
   |refine ⟨⟨_,nx _⟩,?_,?_,(fR1 0 rfl rfl rfl fun _=>rfl)⟩
   |refine ⟨_,rfl,?_⟩
  |omega
  |dsimp only
  |with_reducible apply And.intro
  |(simp (disch:=omega) only [ls]<;>omega)
theorem w56 (a0:List S65) (a1:Int) (g0:a0.length≤1000000000):WQv 56 [lE a0,sI a1] (fun r:S65×Bool=>.tup [aE r.1,sB r.2]) (fun r=>Got a0 a1 r):=by
 refine gO Tryz.func56 ?_
 repeat' first
  |with_reducible assumption
  |(conv=>whnf);first
   |apply bD<;>intro h
   |refine wC (w59 _ _ ?_) fun z59 h59=>?_
   |refine wG ?_ ?_ (fun _=>rfl) fun x hx hm=>?_
   |refine ⟨(ze65,false),rfl,?_⟩
   |refine ⟨(_,true),rfl,?_⟩
  |omega
  |dsimp only
  |exact Or.inr ⟨rfl,rfl,h59.2 h⟩
  |exact got_mk h59 h hx hm
theorem w203 (a0:List S71) (a1:Int) (a2:ByteArray) (a3:Int) (g0:a0.length≤1000000):WQv 203 [.lst (a0.map S71.c),sI a1,sS a2,sI a3] (fun r:List S71=>.lst (r.map S71.c)) (fun r=>r.length≤a0.length+1):=by
 refine gO Tryz.func203 ?_
 repeat' first
  |with_reducible assumption
  |(conv=>whnf);first
   |apply bD<;>intro h
   |apply bS<;>intro h
   |apply br<;>intro h
   |refine V1 (fun (p0:Int)=>0≤p0∧p0≤(a0.length:Int)) (fun p0=>[(0,.lst (a0.map S71.c)),(1,sI a1),(2,sS a2),(3,sI a3),(9,sI p0)]) (fun _=>⟨[],0⟩) (fun p0=>((a0.length:Int)+1-p0).toNat) (0:Int) ?_ (fN rfl rfl) fun p0 ⟨i0,i1⟩=>?_
   |refine lM ?_
   |refine wE ‹_› ?_ (fun _=>rfl) ?_
   |refine wG ?_ ?_ (fun _=>rfl) fun x hx hm=>?_
   |refine wC (w257 _ _ _ _) fun z257 hz=>?_
   |refine ⟨by kernel_rfl,?_⟩
   |refine ⟨nx _,?_,?_,(fN rfl rfl)⟩
   |refine ⟨lens_map (f:=S71.c) (fun _=>rfl),?_,?_,slB _ ?_⟩
   |refine ⟨lens_map (f:=S71.c) (fun _=>rfl),?_,?_,slA _ _ ?_⟩
   |refine wA (l:=[]) (f:=S71.c) (m:=_) rfl (fun _=>⟨rfl,rfl⟩) ?_ ?_ ?_
   |refine wA (f:=S71.c) (m:=[⟨_,_,_⟩]) rfl (fun _=>⟨rfl,rfl⟩) ?_ ?_ ?_
   |refine wA (f:=S71.c) (m:=_) rfl (fun _=>⟨rfl,rfl⟩) ?_ ?_ ?_
   |refine ⟨_,_,deep0 (leafs_map (f:=S71.c) (fun _=>rfl) _),?_⟩
   |refine ⟨_,rfl,?_⟩
  |omega
  |dsimp only
  |with_reducible apply And.intro
  |(simp (disch:=omega) only [ls];omega)
theorem w369 (a0:List (List S71)) (a1:S71) (g0:a0.length≤12) (g1:∀s∈a0,s.length≤1000000000):WQv 369 [.lst (a0.map cL26),.agg (S71.c a1)] sB (fun r=>True):=by
 refine gO Tryz.func369 ?_
 repeat' first
  |with_reducible assumption
  |(conv=>whnf);first
   |apply bD<;>intro h
   |apply bN<;>intro h
   |refine V1 (fun (p0:Int)=>0≤p0∧p0≤(a0.length:Int)) (fun p0=>[(0,.lst (a0.map cL26)),(3,.box 0 0),(5,sI p0)]) (fun _=>⟨[(0,.box (S71.c a1) false)],1⟩) (fun p0=>((a0.length:Int)+1-p0).toNat) (0:Int) ?_ (fB1 rfl rfl rfl rfl) fun p0 ⟨i0,i1⟩=>?_
   |refine lM ?_
   |refine wG ?_ ?_ (fun _=>rfl) fun x hx hm=>?_
   |refine wC (w263 _ _ _ ?_) fun z263 hz=>?_
   |refine ⟨by kernel_rfl,?_⟩
   |refine ⟨false,rfl,?_⟩
   |refine ⟨nx _,?_,?_,(fB1 rfl rfl rfl rfl)⟩
   |refine ⟨true,rfl,?_⟩
  |omega
  |exact True.intro
  |exact g1 _ hm
  |with_reducible apply And.intro
  |(simp (disch:=omega) only [ls]<;>omega)
theorem w367 (a0:S65):WQv 367 [aE a0] (fun r:List S71=>.lst (r.map S71.c)) (fun r=>r.length≤5):=by
 refine gO Tryz.func367 ?_
 have hn1:([]:List S71).length=0:=rfl
 repeat' first
  |(conv=>whnf);first
   |apply bI<;>intro h
   |apply bJ<;>intro h
   |refine wC (w438 [] (1:Int) zS ?_) fun z438 hz=>?_
   |refine wC (w438 _ (3:Int) zS ?_) fun z438 hz=>?_
   |refine wC (w438 _ (2:Int) _ ?_) fun z438 hz=>?_
   |refine wC (w438 _ (4:Int) zS ?_) fun z438 hz=>?_
   |refine ⟨[],rfl,?_⟩
   |refine ⟨_,rfl,?_⟩
  |omega
theorem w321 (a0:List S65) (g0:a0.length≤1000000) (g1:∀e∈a0,EB e):WQv 321 [lE a0] (fun r:S59×ByteArray=>.tup [.agg (S59.c r.1),sS r.2]) (fun r=>r.1.f0.length≤100∧r.1.f1.length≤100):=by
 refine gO Tryz.func321 ?_
 repeat' first
  |with_reducible assumption
  |(conv=>whnf);first
   |apply bD<;>intro h
   |apply bN<;>intro h
   |refine V3 (fun (p0:ByteArray) (p1:Bool) (p2:Int)=>0≤p2∧p2≤(a0.length:Int)) (fun p0 p1 p2=>[(0,lE a0),(2,.box 0 0),(4,sS p0),(5,sB p1),(6,sI p2)]) (fun _ _ _=>⟨[(0,.box (S59.c (⟨[],[],(0:Int),(0:Int),(0:Int),(0:Int),(0:Int),(0:Int),(0:Int)⟩:S59)) false)],1⟩) (fun _ _ p2=>((a0.length:Int)+1-p2).toNat) zS false (0:Int) ?_ (fB1 rfl rfl rfl rfl) fun p0 p1 p2 ⟨i0,i1⟩=>?_
   |refine lM ?_
   |refine wE ‹_› ?_ (fun _=>rfl) ?_
   |refine wG ?_ ?_ (fun _=>rfl) fun x hx hm=>?_
   |refine ⟨⟨_,_,nx _⟩,?_,?_,(fB1 rfl rfl rfl rfl)⟩
   |refine V2 (fun (q0:S59) (q1:Int)=>0≤q1∧q1≤(a0.length:Int)) (fun _ q1=>[(0,lE a0),(2,.box 0 0),(4,sS p0),(7,sI q1)]) (fun q0 _=>⟨[(0,.box (S59.c q0) false)],1⟩) (fun _ q1=>((a0.length:Int)+1-q1).toNat) ze59 (0:Int) ?_ (fB1 rfl rfl rfl rfl) fun q0 q1 ⟨i0,i1⟩=>?_
   |refine ⟨⟨_,nx _⟩,?_,?_,(fB1 rfl rfl rfl rfl)⟩
   |refine wC (w177 _) fun z177 hz=>?_
   |refine ⟨(_,_),rfl,?_⟩
  |omega
  |dsimp only
  |(have hb:=(g1 _ hm).2.2.2.2.2;exact ⟨hb.2.2.2.2.1,hb.2.2.2.2.2.1⟩)
  |with_reducible apply And.intro
  |(simp (disch:=omega) only [ls]<;>omega)
theorem w415 (a0:S65) (a1:List S65) (g0:a1.length≤1000000):WQv 415 [aE a0,lE a1] sB (fun r=>True):=by
 refine gO Tryz.func415 ?_
 repeat' first
  |with_reducible assumption
  |(conv=>whnf);first
   |apply bI<;>intro h
   |apply bS<;>intro h
   |apply br<;>intro h
   |refine wC (w325 _ ?_) fun z325 hz=>?_
   |refine lM ?_
   |refine wG ?_ ?_ (fun _=>rfl) fun x hx hm=>?_
   |refine wC (w480 _ _ ?_) fun z480 hz=>?_
   |refine ⟨by kernel_rfl,?_⟩
   |refine ⟨false,rfl,?_⟩
   |refine ⟨_,rfl,?_⟩
  |omega
theorem w417 (a0:S65) (a1:List S65) (a2:Int) (g0:a1.length≤1000000) (g1:∀e∈a1,EB e):WQv 417 [aE a0,lE a1,sI a2] sI (fun r=>True):=by
 refine gO Tryz.func417 ?_
 repeat' first
  |with_reducible assumption
  |(conv=>whnf);first
   |apply bI<;>intro h
   |refine wC (w481 _ ?_ ?_) fun z481 hz=>?_
   |refine wC (w482 _ _) fun z482 hz=>?_
   |refine wC (w483 _ _) fun z483 hz=>?_
   |refine ⟨_,rfl,?_⟩
theorem w419 (a0:S59) (a1:Int) (g0:a0.f1.length≤100):WQv 419 [.agg (S59.c a0),sI a1] sI (fun r=>True):=by
 refine gO Tryz.func419 ?_
 repeat' first
  |with_reducible assumption
  |(conv=>whnf);first
   |apply bD<;>intro h
   |apply br<;>intro h
   |refine V1 (fun (p0:Int)=>0≤p0∧p0≤(a0.f1.length:Int)) (fun p0=>[(1,sI a1),(2,.box 0 0),(5,sI p0)]) (fun _=>⟨[(0,.box (S59.c a0) false)],1⟩) (fun p0=>((a0.f1.length:Int)+1-p0).toNat) (0:Int) ?_ (fB1 rfl rfl rfl rfl) fun p0 ⟨i0,i1⟩=>?_
   |refine lM ?_
   |refine wE ‹_› ?_ (fun _=>rfl) ?_
   |refine wG ?_ ?_ (fun _=>rfl) fun x hx hm=>?_
   |refine ⟨nx _,?_,?_,(fB1 rfl rfl rfl rfl)⟩
   |refine wC (w116 _) fun z116 hz=>?_
   |refine ⟨_,rfl,?_⟩
  |omega
  |exact True.intro
  |with_reducible apply And.intro
  |(simp (disch:=omega) only [ls]<;>omega)
theorem w486 (a0:S59) (a1:S59) (a2:ByteArray) (a3:ByteArray) (g0:a0.f0.length≤100) (g1:a1.f0.length≤100):WQv 486 [.agg (S59.c a0),.agg (S59.c a1),sS a2,sS a3] sB (fun r=>True):=by
 refine gO Tryz.func486 ?_
 repeat' first
  |with_reducible assumption
  |(conv=>whnf);first
   |apply bI<;>intro h
   |apply bS<;>intro h
   |apply br<;>intro h
   |refine wC (w322 _ _ ?_) fun z322 hz=>?_
   |refine ⟨by kernel_rfl,?_⟩
   |refine wC (w485 _ _ _) fun z485 hz=>?_
   |refine ⟨true,rfl,?_⟩
   |refine ⟨false,rfl,?_⟩
   |refine ⟨_,rfl,?_⟩
theorem w201 (a0:List S65) (g0:a0.length≤12):WQv 201 [lE a0] lI (fun r=>r.length=a0.length):=by
 refine gO Tryz.func201 ?_
 repeat' first
  |with_reducible assumption
  |(conv=>whnf);first
   |refine wLE ‹_› ?_
   |refine wG (l:=a0) ?_ ?_ (fun _=>rfl) fun x0 hx hm=>?_
   |refine wL (i:=IntKind.wrap .i64 (q1-(1:Int))) ?_ ?_ fun y1 hx=>?_
   |refine wL (i:=q1) ?_ ?_ fun y2 hx=>?_
   |apply bD<;>intro h
   |apply br<;>intro h
   |refine V2 (fun (p0:List S65) (p1:Int)=>0≤p1∧p1≤(a0.length:Int)∧(p0.length:Int)=p1) (fun _ p1=>[(0,lE a0),(3,.row 0),(4,sI p1)]) (fun p0 _=>⟨[(0,.row (p0.map S65.c) 29 false 0)],1⟩) (fun _ p1=>((a0.length:Int)+20+1-p1).toNat) [] (0:Int) ?_ (ft [(0,none)] rfl rfl rfl ⟨fitO_nil rfl rfl,trivial⟩) fun p0 p1 ⟨i0,i1,i3⟩=>?_
   |refine lM ?_
   |refine wA (f:=S65.c) (m:=[_]) rfl (fun _=>⟨rfl,rfl⟩) ?_ ?_ ?_
   |refine V2 (fun (q0:List S65) (q1:Int)=>0≤q1∧q1<(q0.length:Int)∧(q0.length:Int)=p1+1) (fun _ q1=>[(0,lE a0),(3,.row 0),(4,sI p1),(5,sI q1)]) (fun q0 _=>⟨[(0,.row (q0.map S65.c) 29 false 0)],1⟩) (fun _ q1=>(q1+1).toNat) (p0++[x0]) p1 ?_ (fR1 2 rfl rfl rfl fun _=>rfl) fun q0 q1 ⟨i0,i1,i3⟩=>?_
   |refine wR ?_ ?_ ?_
   |refine wC (w254 _ _) fun z254 hz=>?_
   |refine ⟨by kernel_rfl,?_⟩
   |refine ⟨_,(List.map_set (f:=S65.c) (a:=y1)).symm,?_⟩
   |refine ⟨_,(List.map_set (f:=S65.c) (a:=y2)).symm,?_⟩
   |refine ⟨⟨_,IntKind.wrap .i64 (q1-(1:Int))⟩,?_,?_,(fR1 0 rfl rfl rfl fun _=>rfl)⟩
   |refine ⟨⟨_,nx _⟩,?_,?_,(fR1 0 rfl rfl rfl fun _=>rfl)⟩
   |refine ⟨_,_,deep0 (leafs_map (f:=S65.c) (fun _=>rfl) _),?_⟩
   |refine wC (w14 _ ?_) fun z14 hz=>?_
   |refine ⟨_,rfl,?_⟩
  |omega
  |dsimp only
  |with_reducible apply And.intro
  |(simp (disch:=omega) only [ls]<;>omega)
theorem w87 (a0:S30) (a1:List Int) (a2:Int) (g0:a0.f2.length≤12) (g1:a1.length≤10):WQv 87 [.agg (S30.c a0),lI a1,sI a2] sB (fun r=>True):=by
 refine gO Tryz.func87 ?_
 repeat' first
  |with_reducible assumption
  |(conv=>whnf);first
   |apply bD<;>intro h
   |apply bN<;>intro h
   |refine V1 (fun (p0:Int)=>0≤p0∧p0≤(a1.length:Int)) (fun p0=>[(1,lI a1),(2,sI a2),(3,.box 0 0),(7,sI p0)]) (fun _=>⟨[(0,.box (S30.c a0) false)],1⟩) (fun p0=>((a1.length:Int)+1-p0).toNat) (0:Int) ?_ (fB1 rfl rfl rfl rfl) fun p0 ⟨i0,i1⟩=>?_
   |refine lM ?_
   |refine wG ?_ ?_ (fun _=>rfl) fun x hx hm=>?_
   |refine wC (w85 _ _ ?_) fun z85 hz=>?_
   |refine ⟨by kernel_rfl,?_⟩
   |refine ⟨false,rfl,?_⟩
   |refine ⟨nx _,?_,?_,(fB1 rfl rfl rfl rfl)⟩
   |refine ⟨true,rfl,?_⟩
  |omega
  |exact True.intro
  |with_reducible apply And.intro
  |(simp (disch:=omega) only [ls]<;>omega)
theorem w147 (a0:List S65) (a1:List S139) (g0:a0.length≤12) (g1:a1.length≤12):WQv 147 [lE a0,.lst (a1.map S139.c)] lI (fun r=>r.length≤12):=by
 refine gO Tryz.func147 ?_
 have hn:([]:List Int).length=0:=rfl
 repeat' first
  |with_reducible assumption
  |(conv=>whnf);first
   |apply bD<;>intro h
   |apply br<;>intro h
   |refine V2 (fun (p0:List Int) (p1:Int)=>0≤p1∧p1≤(a0.length:Int)∧(p0.length:Int)≤p1) (fun _ p1=>[(0,lE a0),(1,.lst (a1.map S139.c)),(5,.row 0),(6,sI p1)]) (fun p0 _=>⟨[(0,.row (p0.map c_i64) 1 false 0)],1⟩) (fun _ p1=>((a0.length:Int)+1-p1).toNat) [] (0:Int) ?_ (ft [(0,none)] rfl rfl rfl ⟨fitO_nil rfl rfl,trivial⟩) fun p0 p1 ⟨i0,i1,i3⟩=>?_
   |refine lM ?_
   |refine wE ‹_› ?_ (fun _=>rfl) ?_
   |refine wG ?_ ?_ (fun _=>rfl) fun x hx hm=>?_
   |refine wC (w86 _ _ ?_) fun z86 hz=>?_
   |refine wA (f:=c_i64) (m:=[_]) rfl (fun _=>⟨rfl,rfl⟩) ?_ ?_ ?_
   |refine ⟨⟨_,nx _⟩,?_,?_,(fR1 3 rfl rfl rfl fun _=>rfl)⟩
   |refine ⟨⟨_,nx _⟩,?_,?_,(fR1 0 rfl rfl rfl fun _=>rfl)⟩
   |refine ⟨_,_,deep0 (leafs_map (f:=c_i64) (fun _=>rfl) _),?_⟩
   |refine ⟨_,rfl,?_⟩
  |omega
  |dsimp only
  |with_reducible apply And.intro
  |(simp (disch:=omega) only [ls]<;>omega)
theorem w110 (a0:List Int) (g0:a0.length≤900000000):WQv 110 [lI a0] lI (fun r=>(∀x,x∈r↔x∈a0)∧r.Nodup∧r.length≤a0.length):=by
 refine gO Tryz.func110 ?_
 repeat' first
  |with_reducible assumption
  |(conv=>whnf);first
   |apply bD<;>intro h
   |refine V2 (fun (p0:List Int) (p1:Int)=>0≤p1∧p1≤(a0.length:Int)∧p0.Nodup∧(p0.length:Int)+((a0.length:Int)-p1)≤900000000∧(∀r:List Int,((∀x,x∈r↔x∈p0∨x∈a0.drop p1.toNat)∧r.Nodup)→(∀x,x∈r↔x∈a0)∧r.Nodup∧r.length≤a0.length)) (fun p0 p1=>[(0,lI a0),(3,lI p0),(4,sI p1)]) (fun _ _=>⟨[],0⟩) (fun _ p1=>((a0.length:Int)+1-p1).toNat) ([]:List Int) (0:Int) ?_ (suits_trans (lend_suits 3 rfl rfl (leafs_lit rfl)) (fN rfl rfl)) fun p0 p1 ⟨i0,i1,i3,i4,hk⟩=>?_
   |refine lM ?_
   |refine wG ?_ ?_ (fun _=>rfl) fun x hx hm=>?_
   |refine wC (w118 _ _ ?_) fun z118 hz=>?_
   |refine ⟨⟨_,nx _⟩,?_,?_,(fN rfl rfl)⟩
   |refine ⟨_,rfl,?_⟩
  |omega
  |(have:=nodup_le (m:=a0) hr.2 (by grind);grind)
  |dsimp only
  |refine hk _ ?_
  |refine fun r hr=>hk r ?_
  |exact hz.2.1 i3
  |(rw [drop_cons (by omega) hx (by omega)];exact ⟨fun x=>((hr.1 x).trans (or_congr (hz.1 x) Iff.rfl)).trans ⟨fun h=>h.elim (fun h=>h.elim Or.inl fun e=>Or.inr (List.mem_cons.2 (Or.inl e))) fun h=>Or.inr (List.mem_cons_of_mem _ h),fun h=>h.elim (fun h=>Or.inl (Or.inl h)) fun h=>(List.mem_cons.1 h).elim (fun e=>Or.inl (Or.inr e)) Or.inr⟩,hr.2⟩)
  |(rw [drop_end h];exact ⟨fun x=>⟨Or.inl,fun h=>h.elim id fun h=>(by cases h)⟩,i3⟩)
  |exact List.nodup_nil
  |have:=hz.2.2;first | omega | assumption | (simp (disch:=omega) only [ls]<;>omega)
  |with_reducible apply And.intro
  |(simp (disch:=omega) only [ls]<;>omega)
  |intro hr
theorem w112m (a0:List S65) (a1:List Int) (g0:a0.length≤1000000000) (g1:a1.length≤1000000000):WQv 112 [lE a0,lI a1] lE (fun r=>r.length≤a1.length∧Ofs a0 a1 r):=by
 refine gO Tryz.func112 ?_
 repeat' first
  |with_reducible assumption
  |(conv=>whnf);first
   |apply bD<;>intro h
   |apply br<;>intro h
   |refine V2 (fun (p0:List S65) (p1:Int)=>0≤p1∧p1≤(a1.length:Int)∧(p0.length:Int)≤p1∧Ofs a0 a1 p0) (fun _ p1=>[(0,lE a0),(1,lI a1),(5,.row 0),(6,sI p1)]) (fun p0 _=>⟨[(0,.row (p0.map S65.c) 29 false 0)],1⟩) (fun _ p1=>((a1.length:Int)+1-p1).toNat) [] (0:Int) ?_ (ft [(0,none)] rfl rfl rfl ⟨fitO_nil rfl rfl,trivial⟩) fun p0 p1 ⟨i0,i1,i2,i3⟩=>?_
   |refine lM ?_
   |refine wG ?_ ?_ (fun _=>rfl) fun x hx hm=>?_
   |refine wC (w56m _ _ ?_) fun z56 h56=>?_
   |refine wA (f:=S65.c) (m:=[_]) rfl (fun _=>⟨rfl,rfl⟩) ?_ ?_ ?_
   |refine ⟨_,_,deep0 (leafs_map (f:=S65.c) (fun _=>rfl) _),?_⟩
   |refine ⟨⟨_,nx _⟩,?_,?_,(fR1 3 rfl rfl rfl fun _=>rfl)⟩
   |refine ⟨⟨_,nx _⟩,?_,?_,(fR1 0 rfl rfl rfl fun _=>rfl)⟩
   |refine ⟨_,rfl,?_⟩
  |exact ofs_nil
  |exact ofs_add i3 hm (h56 ‹_›)
  |(simp;done)
  |omega
  |dsimp only
  |with_reducible apply And.intro
  |(simp (disch:=omega) only [ls]<;>omega)
theorem w7 (a0:S30) (a1:Int) (g0:∀e∈a0.f1,EM e) (g1:∀e∈a0.f3,EM e) (g2:a0.f1.length≤9223372036854775807) (g3:a0.f2.length≤9223372036854775807) (g4:a0.f3.length≤9223372036854775807) (g5:a0.f4.length≤9223372036854775807) (g6:a0.f5.length≤9223372036854775807) (g7:a0.f7.length≤9223372036854775807) (g8:a0.f8.length≤9223372036854775807):WQv 7 [.agg (S30.c a0),sI a1] sB (fun r=>r=false→(a0.f1.length:Int)≤a1∧(a0.f3.length:Int)≤a1∧(a0.f2.length:Int)≤a1∧a0.f5.length≤60):=by
 refine gO Tryz.func7 ?_
 repeat' first
  |with_reducible assumption
  |(conv=>whnf);first
   |apply bD<;>intro h
   |apply br<;>intro h
   |refine wC (w31 _ _ ?_ ?_) fun z31 hz=>?_
   |refine ⟨true,rfl,?_⟩
   |refine lM ?_
   |refine V1 (fun (p0:Int)=>0≤p0∧p0≤(a0.f5.length:Int)) (fun p0=>[(2,.box 0 0),(5,sI p0)]) (fun _=>⟨[(0,.box (S30.c a0) false)],1⟩) (fun p0=>((a0.f5.length:Int)+1-p0).toNat) (0:Int) ?_ (fB1 rfl rfl rfl rfl) fun p0 ⟨i0,i1⟩=>?_
   |refine wG ?_ ?_ (fun _=>rfl) fun x hx hm=>?_
   |refine ⟨nx _,?_,?_,(fB1 rfl rfl rfl rfl)⟩
   |refine V1 (fun (q0:Int)=>0≤q0∧q0≤(a0.f7.length:Int)) (fun q0=>[(2,.box 0 0),(6,sI q0)]) (fun _=>⟨[(0,.box (S30.c a0) false)],1⟩) (fun q0=>((a0.f7.length:Int)+1-q0).toNat) (0:Int) ?_ (fB1 rfl rfl rfl rfl) fun q0 ⟨i0,i1⟩=>?_
   |refine V1 (fun (v0:Int)=>0≤v0∧v0≤(a0.f8.length:Int)) (fun v0=>[(2,.box 0 0),(7,sI v0)]) (fun _=>⟨[(0,.box (S30.c a0) false)],1⟩) (fun v0=>((a0.f8.length:Int)+1-v0).toNat) (0:Int) ?_ (fB1 rfl rfl rfl rfl) fun v0 ⟨i0,i1⟩=>?_
   |refine ⟨false,rfl,?_⟩
  |omega
  |dsimp only
  |with_reducible apply And.intro
  |(simp (disch:=omega) only [ls]<;>omega)
  |contradiction
  |intro hr
  |grind
end Go.Abs.RM
