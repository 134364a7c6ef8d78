/- Of GapsBounds: walks. -/
import Derived.Test.YthbenojbjjgnaaaGreatUAq
set_option linter.all false
namespace Go.Abs.RM
open Go.Proofs
set_option maxRecDepth 100000
set_option maxHeartbeats 40000000
theorem w77 (a0:ByteArray) (a1:Int) (g0:(a0.size:Int)≤9223372036854775807) (g1:a1≠58):WQv 77 [sS a0,.sc (.int .u8 a1)] sB (fun r=>r=true→a0.size≤80∧∃j:Nat,j<a0.size∧∃b,a0[j]?=some b∧(b.toNat:Int)=58):=by
 refine gO Tryz.func77 ?_
 repeat' first
  |with_reducible assumption
  |(conv=>whnf);first
   |apply bD<;>intro h
   |apply bJ<;>intro h
   |apply br<;>intro h
   |refine ⟨false,rfl,?_⟩
   |refine wS ?_ ?_ fun x hb=>?_
   |refine wC (w78 _ ?_) fun z78 hz=>?_
   |refine And.intro ?_ (And.intro ?_ (And.intro ?_ ?_))
   |refine wC (w141 _ ?_) fun z141 hz=>?_
   |refine And.intro ?_ (And.intro ?_ ?_)
   |refine wC (w142 _ ?_) fun z142 hz=>?_
   |refine ⟨_,rfl,?_⟩
  |omega
  |refine ⟨z78.toNat,?_,?_⟩
  |(have h1:=hz (eq_of_beq hr);have h2:=‹z141=true→_› h;simp (disch:=omega) only [ByteArray.size_extract,wrap_i64] at h1 h2;omega)
  |dsimp only
  |with_reducible apply And.intro
  |(simp (disch:=omega) only [ls]<;>omega)
  |contradiction
  |intro hr
  |grind
theorem w351 (a0:Int) (a1:S61) (g0:(a1.f7.f0.length:Int)≤9223372036854775807) (g1:(a1.f7.f1.length:Int)≤9223372036854775807):WQv 351 [sI a0,.agg (S61.c a1)] sB (fun r=>r=true→a0=4→a1.f6.length=0∧a1.f7.f0.length=0∧a1.f7.f1.length=0):=by
 refine gO Tryz.func351 ?_
 repeat' first
  |with_reducible assumption
  |(conv=>whnf);first
   |apply bS<;>intro h
   |apply bI<;>intro h
   |apply bN<;>intro h
   |apply br<;>intro h
   |refine lM ?_
   |refine wC (w431 _ ?_ ?_) fun z431 hz=>?_
   |refine ⟨true,rfl,?_⟩
   |refine wC (w430 _ _) fun z430 hz=>?_
   |refine ⟨false,rfl,?_⟩
   |refine ⟨_,rfl,?_⟩
  |(intro hr;contradiction)
  |(intro hr h4;grind)
theorem w355 (a0:Int) (a1:S61):WQv 355 [sI a0,.agg (S61.c a1)] sI (fun r=>True):=by
 refine gO Tryz.func355 ?_
 repeat' first
  |(conv=>whnf);first
   |apply bD<;>intro h
   |apply bJ<;>intro h
   |apply br<;>intro h
   |refine wC (w430 _ _) fun z430 hz=>?_
   |refine ⟨(2:Int),rfl,?_⟩
   |refine ⟨(1:Int),rfl,?_⟩
   |refine ⟨(0:Int),rfl,?_⟩
  |omega
  |exact True.intro
theorem w364 (a0:List Int) (a1:ByteArray) (g0:a0.length≤1000000) (g1:a1.size≤1000000):WQv 364 [.lst (a0.map c_u8),sS a1] (fun r:List Int=>.lst (r.map c_u8)) (fun r=>a0.length<r.length∧r.length≤a0.length+11+a1.size):=by
 refine gO Tryz.func364 ?_
 repeat' first
  |with_reducible assumption
  |(conv=>whnf);first
   |refine wO (o363 _ _ ?_) fun z363 hz=>?_
   |refine ⟨_,strL_eq _,?_⟩
   |refine wA (f:=c_u8) (m:=_) rfl (fun _=>⟨rfl,rfl⟩) ?_ ?_ ?_
   |refine ⟨_,_,deep0 (leafs_map (f:=c_u8) (fun _=>rfl) _),?_⟩
   |refine ⟨_,rfl,?_⟩
  |dsimp only
  |(simp only [List.length_append,List.length_cons,List.length_nil,List.length_take,List.length_drop,List.length_set,List.length_map,ByteArray.size_extract,strL_len,txt_len] at *;omega)
theorem w366 (a0:List Int) (a1:List Int) (g0:a0.length≤800000) (g1:a1.length≤100):WQv 366 [.lst (a0.map c_u8),lI a1] (fun r:List Int=>.lst (r.map c_u8)) (fun r=>r.length≤a0.length+11+11*a1.length):=by
 refine gO Tryz.func366 ?_
 repeat' first
  |with_reducible assumption
  |(conv=>whnf);first
   |apply bD<;>intro h
   |refine lM ?_
   |refine wO (o363 _ _ ?_) fun z363 hz=>?_
   |refine V2 (fun (p0:List Int) (p1:Int)=>0≤p1∧p1≤(a1.length:Int)∧(p0.length:Int)+11*((a1.length:Int)-p1)≤900000∧(∀r:List Int,((r.length:Int)≤(p0.length:Int)+11*((a1.length:Int)-p1))→r.length≤a0.length+11+11*a1.length)) (fun _ p1=>[(1,lI a1),(5,.row 0),(6,sI p1)]) (fun p0 _=>⟨[(0,.row (p0.map c_u8) 1 false 0)],1⟩) (fun _ p1=>((a1.length:Int)+1-p1).toNat) z363 (0:Int) ?_ (fR1 0 rfl rfl rfl fun _=>rfl) fun p0 p1 ⟨i0,i1,i3,hk⟩=>?_
   |refine wG ?_ ?_ (fun _=>rfl) fun x hx hm=>?_
   |refine wC (w437 _) fun z437 hz=>?_
   |refine wA (f:=c_u8) (m:=_) rfl (fun _=>⟨rfl,rfl⟩) ?_ ?_ ?_
   |refine ⟨⟨_,nx _⟩,?_,?_,(fR1 1 rfl rfl rfl fun _=>rfl)⟩
   |refine ⟨_,_,deep0 (leafs_map (f:=c_u8) (fun _=>rfl) _),?_⟩
   |refine ⟨_,rfl,?_⟩
  |omega
  |dsimp only
  |refine hk _ ?_
  |refine fun r hr=>hk r ?_
  |with_reducible apply And.intro
  |(simp (disch:=omega) only [ls]<;>omega)
  |grind
theorem w81 (a0:List S65) (g0:a0.length≤12) (g1:∀e∈a0,EB e):WQv 81 [lE a0] sB (fun r=>True):=by
 refine gO Tryz.func81 ?_
 repeat' first
  |with_reducible assumption
  |(conv=>whnf);first
   |refine wC (w111 _ ?_ ?_) fun z111 hz=>?_
   |refine wC (w17 _ _ ?_ ?_) fun z17 hz=>?_
   |refine lM ?_
   |refine ⟨_,rfl,?_⟩
  |omega
  |exact True.intro
theorem w82 (a0:List S65) (a1:S65) (g0:a0.length≤12) (g1:EB a1):WQv 82 [lE a0,aE a1] sB (fun r=>True):=by
 refine gO Tryz.func82 ?_
 repeat' first
  |with_reducible assumption
  |(conv=>whnf);first
   |apply bI<;>intro h
   |apply bJ<;>intro h
   |apply bD<;>intro h
   |apply br<;>intro h
   |refine lM ?_
   |refine ⟨false,rfl,?_⟩
   |refine V1 (fun (p0:Int)=>0≤p0∧p0≤(a1.f9.length:Int)) (fun p0=>[(0,lE a0),(3,.box 0 0),(5,sI p0)]) (fun _=>⟨[(0,.box (S65.c a1) false)],1⟩) (fun p0=>((a1.f9.length:Int)+1-p0).toNat) (0:Int) ?_ (fB1 rfl rfl rfl rfl) fun p0 ⟨i0,i1⟩=>?_
   |refine wG ?_ ?_ (fun _=>rfl) fun x hx hm=>?_
   |refine wC (w56 _ _ ?_) fun z56 hz=>?_
   |refine ⟨nx _,?_,?_,(fB1 rfl rfl rfl rfl)⟩
   |refine V2 (fun (q0:Bool) (q1:Int)=>0≤q1∧q1≤(a1.f8.length:Int)) (fun q0 q1=>[(0,lE a0),(3,.box 0 0),(8,sB q0),(9,sI q1)]) (fun _ _=>⟨[(0,.box (S65.c a1) false)],1⟩) (fun _ q1=>((a1.f8.length:Int)+1-q1).toNat) ((a1.f8.length:Int)==0) (0:Int) ?_ (fB1 rfl rfl rfl rfl) fun q0 q1 ⟨i0,i1⟩=>?_
   |refine ⟨⟨_,nx _⟩,?_,?_,(fB1 rfl rfl rfl rfl)⟩
   |refine ⟨_,rfl,?_⟩
  |omega
  |exact True.intro
  |dsimp only
  |(have h8:=g1.2.2.2.1;have h9:=g1.2.2.2.2.1;first | omega | (simp (disch:=omega) only [ls]<;>omega))
theorem w258 (a0:List (List S71)) (K:Nat) (g0:a0.length≤12) (g1:∀s∈a0,s.length≤K) (g2:K≤200000):WQv 258 [.lst (a0.map cL26)] (fun r:(List S71)×(List Int)=>.tup [.lst (r.1.map S71.c),lI r.2]) (fun r=>r.1.length≤K∧r.2.length≤2400000):=by
 refine gO Tryz.func258 ?_
 have hn1:([]:List S71).length=0:=rfl
 have hn2:([]:List Int).length=0:=rfl
 repeat' first
  |with_reducible assumption
  |(conv=>whnf);first
   |apply bD<;>intro h
   |apply bN<;>intro h
   |refine V3 (fun (p0:List S71) (p1:List Int) (p2:Int)=>0≤p2∧p2≤(a0.length:Int)∧p0.length≤K∧(p1.length:Int)≤200000*p2∧(p2=0→p0.length=0)) (fun _ p1 p2=>[(0,.lst (a0.map cL26)),(4,.row 0),(5,lI p1),(6,sI p2)]) (fun p0 _ _=>⟨[(0,.row (p0.map S71.c) 3 false 0)],1⟩) (fun _ _ p2=>((a0.length:Int)+200010+1-p2).toNat) ([]:List S71) ([]:List Int) (0:Int) ?_ (suits_trans (lend_suits 5 rfl rfl (leafs_lit rfl)) (fR1 0 rfl rfl rfl fun _=>rfl)) fun p0 p1 p2 ⟨i0,i1,i3,i4,i5⟩=>?_
   |refine lM ?_
   |refine V3 (fun (q0:List S71) (q1:List Int) (q2:Int)=>0≤q2∧q2≤K∧((p2=0∧(q0.length:Int)≤q2)∨(1≤p2∧q0.length≤K))∧(q1.length:Int)≤200000*p2+q2) (fun _ q1 q2=>[(0,.lst (a0.map cL26)),(4,.row 0),(5,lI q1),(6,sI p2),(7,sI q2)]) (fun q0 _ _=>⟨[(0,.row (q0.map S71.c) 3 false 0)],1⟩) (fun _ _ q2=>(200002+1-q2).toNat) p0 p1 (0:Int) ?_ (fR1 0 rfl rfl rfl fun _=>rfl) fun q0 q1 q2 ⟨i0,i1,i3,i4⟩=>?_
   |refine wE ‹_› ?_ (fun _=>rfl) ?_
   |refine wG ?_ ?_ (fun _=>rfl) fun x hx hm=>?_
   |refine wC (w369 _ _ ?_ ?_) fun z369 h369=>?_
   |refine wC (w118 _ _ ?_) fun z118 hp=>?_
   |refine ⟨⟨_,_,nx _⟩,?_,?_,(fR1 0 rfl rfl rfl fun _=>rfl)⟩
   |refine wA (f:=S71.c) (m:=[_]) rfl (fun _=>⟨rfl,rfl⟩) ?_ ?_ ?_
   |refine ⟨⟨_,_,nx _⟩,?_,?_,(fR1 2 rfl rfl rfl fun _=>rfl)⟩
   |refine ⟨_,_,deep0 (leafs_map (f:=S71.c) (fun _=>rfl) _),?_⟩
   |refine ⟨(_,_),rfl,?_⟩
  |omega
  |dsimp only
  |exact fun s hs=>Nat.le_trans (g1 s hs) (by omega)
  |with_reducible apply And.intro
  |(simp (disch:=omega) only [ls]<;>omega)
  |grind
theorem w441 (a0:List S65) (a1:List Int) (a2:Bool) (g0:a0.length≤12) (g1:∀e∈a0,EB e) (g2:a1.length≤1000000000):WQv 441 [lE a0,lI a1,sB a2] lI (fun r=>IS a0 r):=by
 refine gO Tryz.func441 ?_
 repeat' first
  |with_reducible assumption
  |(conv=>whnf);first
   |apply bD<;>intro h
   |apply br<;>intro h
   |refine V2 (fun (p0:List Int) (p1:Int)=>0≤p1∧p1≤(a1.length:Int)∧IS a0 p0) (fun p0 p1=>[(0,lE a0),(1,lI a1),(2,sB a2),(7,lI p0),(8,sI p1)]) (fun _ _=>⟨[],0⟩) (fun _ p1=>((a1.length:Int)+20+1-p1).toNat) ([]:List Int) (0:Int) ?_ (suits_trans (lend_suits 7 rfl rfl (leafs_lit rfl)) (fN rfl rfl)) fun p0 p1 ⟨i0,i1,i3⟩=>?_
   |refine lM ?_
   |refine wE ‹_› ?_ (fun _=>rfl) ?_
   |refine wG ?_ ?_ (fun _=>rfl) fun x hx hm=>?_
   |refine wC (w56 a0 x ?_) fun z56 hg=>?_
   |refine V2 (fun (q0:List Int) (q1:Int)=>0≤q1∧q1≤(z56.1.f9.length:Int)∧IS a0 q0) (fun q0 q1=>[(0,lE a0),(1,lI a1),(2,sB a2),(7,lI q0),(8,sI p1),(11,lI z56.1.f9),(12,sI q1)]) (fun _ _=>⟨[],0⟩) (fun _ q1=>((z56.1.f9.length:Int)+1-q1).toNat) p0 (0:Int) ?_ (fN rfl rfl) fun q0 q1 ⟨i0,i1,i3⟩=>?_
   |refine wC (w118 _ _ ?_) fun z118 hp=>?_
   |refine ⟨⟨_,nx _⟩,?_,?_,(fN rfl rfl)⟩
   |refine V2 (fun (q0:List Int) (q1:Int)=>0≤q1∧q1≤(z56.1.f8.length:Int)∧IS a0 q0) (fun q0 q1=>[(0,lE a0),(1,lI a1),(2,sB a2),(7,lI q0),(8,sI p1),(11,lI z56.1.f8),(12,sI q1)]) (fun _ _=>⟨[],0⟩) (fun _ q1=>((z56.1.f8.length:Int)+1-q1).toNat) p0 (0:Int) ?_ (fN rfl rfl) fun q0 q1 ⟨i0,i1,i3⟩=>?_
   |refine ⟨_,rfl,?_⟩
  |omega
  |dsimp only
  |(have:=i3.len;omega)
  |exact IS.nil
  |with_reducible apply And.intro
  |(simp (disch:=omega) only [ls]<;>omega)
  |grind
theorem w112 (a0:List S65) (a1:List Int) (g0:a0.length≤12) (g1:a1.length≤1000):WQv 112 [lE a0,lI a1] lE (fun r=>r.length≤a1.length∧∀x∈r,x∈a0):=by
 refine gO Tryz.func112 ?_
 have hn1:([]:List S65).length=0:=rfl
 repeat' first
  |with_reducible assumption
  |(conv=>whnf);first
   |apply bD<;>intro h
   |apply br<;>intro h
   |refine V2 (fun (p0:List S65) (p1:Int)=>0≤p1∧p1≤(a1.length:Int)∧(p0.length:Int)≤p1∧(∀x∈p0,x∈a0)) (fun _ p1=>[(0,lE a0),(1,lI a1),(5,.row 0),(6,sI p1)]) (fun p0 _=>⟨[(0,.row (p0.map S65.c) 29 false 0)],1⟩) (fun _ p1=>((a1.length:Int)+1-p1).toNat) [] (0:Int) ?_ (ft [(0,none)] rfl rfl rfl ⟨fitO_nil rfl rfl,trivial⟩) fun p0 p1 ⟨i0,i1,i3,i4⟩=>?_
   |refine lM ?_
   |refine wG ?_ ?_ (fun _=>rfl) fun x hx hm=>?_
   |refine wC (w56 _ _ ?_) fun z56 hz=>?_
   |refine wA (f:=S65.c) (m:=[_]) rfl (fun _=>⟨rfl,rfl⟩) ?_ ?_ ?_
   |refine ⟨⟨_,nx _⟩,?_,?_,(fR1 3 rfl rfl rfl fun _=>rfl)⟩
   |refine ⟨⟨_,nx _⟩,?_,?_,(fR1 0 rfl rfl rfl fun _=>rfl)⟩
   |refine ⟨_,_,deep0 (leafs_map (f:=S65.c) (fun _=>rfl) _),?_⟩
   |refine ⟨_,rfl,?_⟩
  |omega
  |dsimp only
  |exact ⟨by omega,i4⟩
  |exact all_snoc i4 (hz.mem h).1
  |exact fun x hx=>absurd hx List.not_mem_nil
  |with_reducible apply And.intro
  |(simp (disch:=omega) only [ls]<;>omega)
theorem w418 (a0:S65) (a1:List S65) (a2:Int) (g0:a1.length≤1000000) (g1:∀e∈a1,EB e):WQv 418 [aE a0,lE a1,sI a2] sI (fun r=>True):=by
 refine gO Tryz.func418 ?_
 repeat' first
  |with_reducible assumption
  |(conv=>whnf);first
   |apply bJ<;>intro h
   |apply bI<;>intro h
   |apply bD<;>intro h
   |refine wC (w139 _ _ ?_) fun z139 hz=>?_
   |refine wC (w321 _ ?_ ?_) fun z321 h321=>?_
   |refine wC (w322 _ _ ?_) fun z322 hz=>?_
   |refine ⟨by kernel_rfl,?_⟩
   |refine ⟨(18:Int),rfl,?_⟩
   |refine ⟨(20:Int),rfl,?_⟩
   |refine ⟨(0:Int),rfl,?_⟩
  |omega
theorem w420 (a0:S59) (a1:S59) (a2:ByteArray) (g0:a0.f0.length≤100) (g1:a1.f0.length≤100) (g2:a0.f1.length≤100) (g3:a1.f1.length≤100):WQv 420 [.agg (S59.c a0),.agg (S59.c a1),sS a2] sI (fun r=>True):=by
 refine gO Tryz.func420 ?_
 repeat' first
  |with_reducible assumption
  |(conv=>whnf);first
   |apply bD<;>intro h
   |apply bN<;>intro h
   |refine wC (w322 _ _ ?_) fun z322 hz=>?_
   |refine wC (w484 a0) fun z484 hz=>?_
   |refine wC (w484 a1) fun z484_1 hz=>?_
   |refine ⟨by kernel_rfl,?_⟩
   |refine V1 (fun (p0:Int)=>0≤p0∧p0≤(z484.length:Int)) (fun p0=>[(2,sS a2),(3,.box 0 0),(4,.box 1 0),(7,sI z322),(8,lI z484),(9,lI z484_1),(10,sI p0)]) (fun _=>⟨[(0,.box (S59.c a0) false),(1,.box (S59.c a1) false)],2⟩) (fun p0=>((z484.length:Int)+1-p0).toNat) (0:Int) ?_ (ft [(0,some 0),(1,some 1)] rfl rfl rfl ⟨fB rfl rfl rfl,fB rfl rfl rfl,trivial⟩) fun p0 ⟨i0,i1⟩=>?_
   |refine lM ?_
   |refine wG ?_ ?_ (fun _=>rfl) fun x hx hm=>?_
   |refine wC (w485 _ _ _) fun z485 hz=>?_
   |refine ⟨nx _,?_,?_,(ft [(0,some 0),(1,some 1)] rfl rfl rfl ⟨fB rfl rfl rfl,fB rfl rfl rfl,trivial⟩)⟩
   |refine V1 (fun (q0:Int)=>0≤q0∧q0≤(a0.f1.length:Int)+(a1.f1.length:Int)) (fun q0=>[(2,sS a2),(3,.box 0 0),(4,.box 1 0),(7,sI z322),(11,sI q0)]) (fun _=>⟨[(0,.box (S59.c a0) false),(1,.box (S59.c a1) false)],2⟩) (fun q0=>((a0.f1.length:Int)+(a1.f1.length:Int)+1-q0).toNat) (0:Int) ?_ (ft [(0,some 0),(1,some 1)] rfl rfl rfl ⟨fB rfl rfl rfl,fB rfl rfl rfl,trivial⟩) fun q0 ⟨i0,i1⟩=>?_
   |refine wC (w419 _ _ ?_) fun z419 hz=>?_
   |refine V1 (fun (v0:Int)=>0≤v0∧v0≤(a0.f0.length:Int)) (fun v0=>[(2,sS a2),(3,.box 0 0),(4,.box 1 0),(13,sI v0)]) (fun _=>⟨[(0,.box (S59.c a0) false),(1,.box (S59.c a1) false)],2⟩) (fun v0=>((a0.f0.length:Int)+1-v0).toNat) (0:Int) ?_ (ft [(0,some 0),(1,some 1)] rfl rfl rfl ⟨fB rfl rfl rfl,fB rfl rfl rfl,trivial⟩) fun v0 ⟨i0,i1⟩=>?_
   |refine wC (w486 _ _ _ _ ?_ ?_) fun z486 hz=>?_
   |refine V1 (fun (w0:Int)=>0≤w0∧w0≤(a1.f0.length:Int)) (fun w0=>[(2,sS a2),(3,.box 0 0),(4,.box 1 0),(14,sI w0)]) (fun _=>⟨[(0,.box (S59.c a0) false),(1,.box (S59.c a1) false)],2⟩) (fun w0=>((a1.f0.length:Int)+1-w0).toNat) (0:Int) ?_ (ft [(0,some 0),(1,some 1)] rfl rfl rfl ⟨fB rfl rfl rfl,fB rfl rfl rfl,trivial⟩) fun w0 ⟨i0,i1⟩=>?_
   |refine ⟨(20:Int),rfl,?_⟩
   |refine ⟨(0:Int),rfl,?_⟩
  |omega
  |with_reducible apply And.intro
  |(simp (disch:=omega) only [ls]<;>omega)
  |grind
theorem w377 (a0:List S65) (a1:S65) (g0:a0.length≤12) (g1:a1.f9.length≤8):WQv 377 [lE a0,aE a1] (fun r:Int×Bool=>.tup [sI r.1,sB r.2]) (fun r=>True):=by
 refine gO Tryz.func377 ?_
 repeat' first
  |with_reducible assumption
  |(conv=>whnf);first
   |apply bD<;>intro h
   |apply br<;>intro h
   |refine V1 (fun (p0:Int)=>0≤p0∧p0≤(a1.f9.length:Int)) (fun p0=>[(0,lE a0),(3,.box 0 0),(6,sI p0)]) (fun _=>⟨[(0,.box (S65.c a1) false)],1⟩) (fun p0=>((a1.f9.length:Int)+1-p0).toNat) (0:Int) ?_ (fB1 rfl rfl rfl rfl) fun p0 ⟨i0,i1⟩=>?_
   |refine lM ?_
   |refine wE ‹_› ?_ (fun _=>rfl) ?_
   |refine wG ?_ ?_ (fun _=>rfl) fun x hx hm=>?_
   |refine wC (w56 _ _ ?_) fun z56 hz=>?_
   |refine ⟨nx _,?_,?_,(fB1 rfl rfl rfl rfl)⟩
   |refine ⟨(_,true),rfl,?_⟩
   |refine ⟨((0:Int),false),rfl,?_⟩
  |omega
  |exact True.intro
  |with_reducible apply And.intro
  |(simp (disch:=omega) only [ls]<;>omega)
theorem w76 (a0:List S65) (a1:List S71) (g0:a0.length≤12) (g1:a1.length≤1000000):WQv 76 [lE a0,.lst (a1.map S71.c)] lE (fun r=>r.length≤a1.length∧∀x∈r,x∈a0):=by
 refine gO Tryz.func76 ?_
 have hn1:([]:List S65).length=0:=rfl
 repeat' first
  |with_reducible assumption
  |(conv=>whnf);first
   |apply bD<;>intro h
   |apply br<;>intro h
   |refine V2 (fun (p0:List S65) (p1:Int)=>0≤p1∧p1≤(a1.length:Int)∧(p0.length:Int)≤p1∧(∀x∈p0,x∈a0)) (fun _ p1=>[(0,lE a0),(1,.lst (a1.map S71.c)),(5,.row 0),(6,sI p1)]) (fun p0 _=>⟨[(0,.row (p0.map S65.c) 29 false 0)],1⟩) (fun _ p1=>((a1.length:Int)+1-p1).toNat) ([]:List S65) (0:Int) ?_ (fR1 0 rfl rfl rfl fun _=>rfl) fun p0 p1 ⟨i0,i1,i3,i4⟩=>?_
   |refine lM ?_
   |refine wG ?_ ?_ (fun _=>rfl) fun x hx hm=>?_
   |refine wC (w56 _ _ ?_) fun z56 hg=>?_
   |refine wA (f:=S65.c) (m:=[_]) rfl (fun _=>⟨rfl,rfl⟩) ?_ ?_ ?_
   |refine ⟨⟨_,nx _⟩,?_,?_,(fR1 3 rfl rfl rfl fun _=>rfl)⟩
   |refine ⟨⟨_,nx _⟩,?_,?_,(fR1 0 rfl rfl rfl fun _=>rfl)⟩
   |refine ⟨_,_,deep0 (leafs_map (f:=S65.c) (fun _=>rfl) _),?_⟩
   |refine ⟨_,rfl,?_⟩
  |omega
  |dsimp only
  |exact ⟨by omega,i4⟩
  |exact all_snoc i4 (hg.mem h).1
  |exact fun x hx=>absurd hx List.not_mem_nil
  |with_reducible apply And.intro
  |(simp (disch:=omega) only [ls]<;>omega)
theorem w88 (a0:List S65) (a1:S65) (g0:a0.length≤12) (g1:EB a1):WQv 88 [lE a0,aE a1] sB (fun r=>True):=by
 refine gO Tryz.func88 ?_
 repeat' first
  |(conv=>whnf);first
   |apply bI<;>intro h
   |refine wC (w17 _ _ ?_ ?_) fun z17 hz=>?_
   |refine lM ?_
   |refine ⟨false,rfl,?_⟩
   |refine ⟨_,rfl,?_⟩
  |omega
  |exact True.intro
  |(have:=g1.2.2.2.1;omega)
  |(have:=g1.2.2.2.2.1;omega)
theorem w53 (a0:List Int) (a1:List Int) (g0:a0.length≤900000000) (g1:a1.length≤1000000000):WQv 53 [lI a0,lI a1] lI (fun r=>(∀x,x∈r↔x∈a0∧x∉a1)∧r.Nodup∧r.length≤a0.length):=by
 refine gO Tryz.func53 ?_
 repeat' first
  |with_reducible assumption
  |(conv=>whnf);first
   |apply bD<;>intro h
   |apply bN<;>intro h
   |refine wC (w110 _ ?_) fun z110 hz=>?_
   |refine V2 (fun (p0:List Int) (p1:Int)=>0≤p1∧p1≤(z110.length:Int)∧(p0.length:Int)≤p1∧p0.Nodup∧(∀x∈p0,x∉z110.drop p1.toNat)∧(∀r:List Int,((∀x,x∈r↔x∈p0∨(x∈z110.drop p1.toNat∧x∉a1))∧r.Nodup∧r.length≤z110.length)→(∀x,x∈r↔x∈a0∧x∉a1)∧r.Nodup∧r.length≤a0.length)) (fun _ p1=>[(1,lI a1),(5,lI z110),(6,.row 0),(7,sI p1)]) (fun p0 _=>⟨[(0,.row (p0.map c_i64) 1 false 0)],1⟩) (fun _ p1=>((z110.length:Int)+1-p1).toNat) ([]:List Int) (0:Int) ?_ (fR1 0 rfl rfl rfl fun _=>rfl) fun p0 p1 ⟨i0,i1,i3,i4,i5,hk⟩=>?_
   |refine lM ?_
   |refine wE ‹_› ?_ (fun _=>rfl) ?_
   |refine wG ?_ ?_ (fun _=>rfl) fun x hx hm=>?_
   |refine wC (w16 _ _ ?_) fun z16 hz=>?_
   |refine wA (f:=c_i64) (m:=[_]) rfl (fun _=>⟨rfl,rfl⟩) ?_ ?_ ?_
   |refine ⟨⟨_,nx _⟩,?_,?_,(fR1 2 rfl rfl rfl fun _=>rfl)⟩
   |refine ⟨⟨_,nx _⟩,?_,?_,(fR1 0 rfl rfl rfl fun _=>rfl)⟩
   |refine ⟨_,_,deep0 (leafs_map (f:=c_i64) (fun _=>rfl) _),?_⟩
   |refine ⟨_,rfl,?_⟩
  |omega
  |(obtain ⟨_,g2,_⟩:=‹_∧z110.Nodup∧_›;first | exact (minus_in g2 i0 hx (by omega) i4 i5).1 | exact (minus_in g2 i0 hx (by omega) i4 i5).2)
  |dsimp only
  |refine hk _ ?_
  |refine fun r hr=>hk r ?_
  |exact minus_hit i0 hx (by omega) (fun e=>h.symm.trans (hz.2 e) |> fun e=>Bool.noConfusion e) hr
  |exact minus_out i0 hx (by omega) i5
  |exact minus_miss i0 hx (by omega) (hz.1 h) hr
  |(rw [drop_end h];exact ⟨fun x=>⟨Or.inl,fun h=>h.elim id fun h=>(by cases h.1)⟩,i4,by omega⟩)
  |exact List.nodup_nil
  |exact fun x hx=>absurd hx List.not_mem_nil
  |exact ⟨fun x=>(hr.1 x).trans ⟨fun h=>h.elim (fun h=>(by cases h)) fun h=>⟨(hz.1 x).1 h.1,h.2⟩,fun h=>Or.inr ⟨(hz.1 x).2 h.1,h.2⟩⟩,hr.2.1,Nat.le_trans hr.2.2 hz.2.2⟩
  |have:=hz.2.2;first | omega | assumption | (simp (disch:=omega) only [ls]<;>omega)
  |with_reducible apply And.intro
  |(simp (disch:=omega) only [ls]<;>omega)
  |intro hr
theorem w58 (a0:List Int) (a1:List Int) (g0:a0.length+a1.length≤900000000):WQv 58 [lI a0,lI a1] lI (fun r=>(∀x,x∈r↔x∈a0∨x∈a1)∧r.Nodup∧r.length≤a0.length+a1.length):=by
 refine gO Tryz.func58 ?_
 repeat' first
  |with_reducible assumption
  |(conv=>whnf);first
   |apply bD<;>intro h
   |refine wC (w110 _ ?_) fun z110 hz=>?_
   |refine V2 (fun (p0:List Int) (p1:Int)=>0≤p1∧p1≤(a1.length:Int)∧p0.Nodup∧(p0.length:Int)+((a1.length:Int)-p1)≤900000000∧(∀r:List Int,((∀x,x∈r↔x∈p0∨x∈a1.drop p1.toNat)∧r.Nodup)→(∀x,x∈r↔x∈a0∨x∈a1)∧r.Nodup∧r.length≤a0.length+a1.length)) (fun p0 p1=>[(1,lI a1),(5,lI p0),(6,sI p1)]) (fun _ _=>⟨[],0⟩) (fun _ p1=>((a1.length:Int)+1-p1).toNat) z110 (0:Int) ?_ (fN rfl rfl) fun p0 p1 ⟨i0,i1,i3,i4,hk⟩=>?_
   |refine lM ?_
   |refine wG ?_ ?_ (fun _=>rfl) fun x hx hm=>?_
   |refine wC (w118 _ _ ?_) fun z118 hz=>?_
   |refine ⟨⟨_,nx _⟩,?_,?_,(fN rfl rfl)⟩
   |refine ⟨_,rfl,?_⟩
  |omega
  |(have:=nodup_le (m:=a0++a1) hr.2 (by grind);grind)
  |dsimp only
  |refine hk _ ?_
  |refine fun r hr=>hk r ?_
  |exact hz.2.1 i3
  |(rw [drop_cons (by omega) hx (by omega)];exact ⟨fun x=>((hr.1 x).trans (or_congr (hz.1 x) Iff.rfl)).trans ⟨fun h=>h.elim (fun h=>h.elim Or.inl fun e=>Or.inr (List.mem_cons.2 (Or.inl e))) fun h=>Or.inr (List.mem_cons_of_mem _ h),fun h=>h.elim (fun h=>Or.inl (Or.inl h)) fun h=>(List.mem_cons.1 h).elim (fun e=>Or.inl (Or.inr e)) Or.inr⟩,hr.2⟩)
  |(rw [drop_end h];exact ⟨fun x=>⟨Or.inl,fun h=>h.elim id fun h=>(by cases h)⟩,i3⟩)
  |exact hz.2.1
  |have:=hz.2.2;first | omega | assumption | (simp (disch:=omega) only [ls]<;>omega)
  |with_reducible apply And.intro
  |intro hr
theorem w32 (a0:ByteArray) (g0:(a0.size:Int)≤9223372036854775807):WQv 32 [sS a0] sI (fun r=>r=0→a0.size≤80):=by
 refine gO Tryz.func32 ?_
 repeat' first
  |with_reducible assumption
  |(conv=>whnf);first
   |apply bN<;>intro h
   |refine wC (w77 _ (33:Int) ?_ ?_) fun z77 hz=>?_
   |refine ⟨(3:Int),rfl,?_⟩
   |refine ⟨(0:Int),rfl,?_⟩
  |omega
  |dsimp only
  |intro hr
  |grind
theorem w347 (a0:ByteArray) (g0:(a0.size:Int)≤9223372036854775807):WQv 347 [sS a0] sI (fun r=>r=0→a0.size≤80):=by
 refine gO Tryz.func347 ?_
 repeat' first
  |with_reducible assumption
  |(conv=>whnf);first
   |apply bN<;>intro h
   |refine wC (w77 _ (64:Int) ?_ ?_) fun z77 hz=>?_
   |refine ⟨(3:Int),rfl,?_⟩
   |refine ⟨(0:Int),rfl,?_⟩
  |omega
  |dsimp only
  |intro hr
  |grind
theorem w435 (a0:List Int) (a1:List ByteArray) (g0:a0.length≤800000) (g1:a1.length≤100) (g2:∀x∈a1,x.size≤400):WQv 435 [.lst (a0.map c_u8),.lst (a1.map cStr)] (fun r:List Int=>.lst (r.map c_u8)) (fun r=>r.length≤a0.length+11+411*a1.length):=by
 refine gO Tryz.func435 ?_
 repeat' first
  |with_reducible assumption
  |(conv=>whnf);first
   |apply bD<;>intro h
   |refine lM ?_
   |refine wC (w363 _ _ ?_) fun z363 hz=>?_
   |refine V2 (fun (p0:List Int) (p1:Int)=>0≤p1∧p1≤(a1.length:Int)∧(p0.length:Int)+411*((a1.length:Int)-p1)≤900000∧(∀r:List Int,((r.length:Int)≤(p0.length:Int)+411*((a1.length:Int)-p1))→r.length≤a0.length+11+411*a1.length)) (fun p0 p1=>[(1,.lst (a1.map cStr)),(5,.lst (p0.map c_u8)),(6,sI p1)]) (fun _ _=>⟨[],0⟩) (fun _ p1=>((a1.length:Int)+1-p1).toNat) z363 (0:Int) ?_ (fN rfl rfl) fun p0 p1 ⟨i0,i1,i3,hk⟩=>?_
   |refine wG ?_ ?_ (fun _=>rfl) fun x hx hm=>?_
   |refine wC (w364 _ _ ?_ ?_) fun z364 hq=>?_
   |refine ⟨⟨_,nx _⟩,?_,?_,(fN rfl rfl)⟩
   |refine ⟨_,rfl,?_⟩
  |omega
  |dsimp only
  |refine hk _ ?_
  |refine fun r hr=>hk r ?_
  |with_reducible apply And.intro
  |(simp (disch:=omega) only [ls]<;>omega)
  |grind
theorem w28 (a0:ByteArray) (g0:(a0.size:Int)≤9223372036854775807):WQv 28 [sS a0] (fun r:ByteArray=>sS r) (fun r=>True):=by
 refine gO Tryz.func28 ?_
 repeat' first
  |with_reducible assumption
  |(conv=>whnf);first
   |apply bN<;>intro h
   |refine wC (w77 _ (64:Int) ?_ ?_) fun z77 hA=>?_
   |refine wC (w77 _ (33:Int) ?_ ?_) fun z77 hA=>?_
   |refine ⟨zS,rfl,?_⟩
   |refine wC (w78 _ ?_) fun z78 hz=>?_
   |refine And.intro ?_ (And.intro ?_ ?_)
   |refine ⟨_,rfl,?_⟩
  |omega
  |exact True.intro
  |grind
theorem w34 (a0:List S65) (g0:a0.length≤12) (g1:∀e∈a0,EB e):WQv 34 [lE a0] sI (fun r=>True):=by
 refine gO Tryz.func34 ?_
 repeat' first
  |with_reducible assumption
  |(conv=>whnf);first
   |apply bN<;>intro h
   |apply bD<;>intro h
   |refine wC (w81 _ ?_ ?_) fun z81 hz=>?_
   |refine V1 (fun (p0:Int)=>0≤p0∧p0≤(a0.length:Int)) (fun p0=>[(0,lE a0),(3,sI p0)]) (fun _=>⟨[],0⟩) (fun p0=>((a0.length:Int)+1-p0).toNat) (0:Int) ?_ (fN rfl rfl) fun p0 ⟨i0,i1⟩=>?_
   |refine lM ?_
   |refine wG ?_ ?_ (fun _=>rfl) fun x hx hm=>?_
   |refine wC (w82 _ _ ?_ ?_) fun z82 hz=>?_
   |refine ⟨nx _,?_,?_,(fN rfl rfl)⟩
   |refine ⟨(14:Int),rfl,?_⟩
   |refine ⟨(15:Int),rfl,?_⟩
   |refine ⟨(0:Int),rfl,?_⟩
  |omega
  |exact g1 _ hm
  |with_reducible apply And.intro
  |(simp (disch:=omega) only [ls]<;>omega)
end Go.Abs.RM
