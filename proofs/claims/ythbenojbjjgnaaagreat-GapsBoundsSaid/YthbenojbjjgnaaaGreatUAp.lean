/- Of GapsBounds: walks. -/
import Derived.Test.YthbenojbjjgnaaaGreatUAo
set_option linter.all false
namespace Go.Abs.RM
open Go.Proofs
set_option maxRecDepth 100000
set_option maxHeartbeats 40000000
theorem w177 (a0:ByteArray):WQv 177 [sS a0] (fun r:S59=>.agg (S59.c r)) (fun r=>r.f0.length≤100∧r.f1.length≤100):=by
 refine gO Tryz.func177 ?_
 repeat' first
  |(conv=>whnf);first
   |apply bT'<;>intro h
   |refine ⟨_,_,deep0 (leafs_lit rfl),?_⟩
   |refine ⟨⟨[⟨_,(100:Int)⟩],[],(0:Int),(0:Int),(0:Int),(0:Int),(50:Int),(50:Int),(50:Int)⟩,rfl,?_⟩
   |refine ⟨⟨[],[],(0:Int),(0:Int),(0:Int),(0:Int),(50:Int),(50:Int),(50:Int)⟩,rfl,?_⟩
  |dsimp only
  |(simp only [List.length_cons,List.length_nil];omega)
theorem w322 (a0:S59) (a1:ByteArray) (g0:a0.f0.length≤100):WQv 322 [.agg (S59.c a0),sS a1] sI (fun r=>True):=by
 refine gO Tryz.func322 ?_
 repeat' first
  |with_reducible assumption
  |(conv=>whnf);first
   |apply bD<;>intro h
   |apply bS<;>intro h
   |refine V1 (fun (p0:Int)=>0≤p0∧p0≤(a0.f0.length:Int)) (fun p0=>[(1,sS a1),(2,.box 0 0),(5,sI p0)]) (fun _=>⟨[(0,.box (S59.c a0) false)],1⟩) (fun p0=>((a0.f0.length:Int)+1-p0).toNat) (0:Int) ?_ (fB1 rfl rfl rfl rfl) fun p0 ⟨i0,i1⟩=>?_
   |refine lM ?_
   |refine wE ‹_› ?_ (fun _=>rfl) ?_
   |refine wG ?_ ?_ (fun _=>rfl) fun x hx hm=>?_
   |refine ⟨nx _,?_,?_,(fB1 rfl rfl rfl rfl)⟩
   |refine ⟨_,rfl,?_⟩
  |omega
  |exact True.intro
  |with_reducible apply And.intro
  |(simp (disch:=omega) only [ls]<;>omega)
theorem w139 (a0:List S65) (a1:ByteArray) (g0:a0.length≤1000000):WQv 139 [lE a0,sS a1] sI (fun r=>True):=by
 refine gO Tryz.func139 ?_
 repeat' first
  |with_reducible assumption
  |(conv=>whnf);first
   |apply bD<;>intro h
   |apply bS<;>intro h
   |refine V1 (fun (p0:Int)=>0≤p0∧p0≤(a0.length:Int)) (fun p0=>[(0,lE a0),(1,sS a1),(5,sI p0)]) (fun _=>⟨[],0⟩) (fun p0=>((a0.length:Int)+1-p0).toNat) (0:Int) ?_ (fN rfl rfl) fun p0 ⟨i0,i1⟩=>?_
   |refine lM ?_
   |refine wE ‹_› ?_ (fun _=>rfl) ?_
   |refine wG ?_ ?_ (fun _=>rfl) fun x hx hm=>?_
   |refine ⟨nx _,?_,?_,(fN rfl rfl)⟩
   |refine ⟨_,rfl,?_⟩
  |omega
  |exact True.intro
  |with_reducible apply And.intro
  |(simp (disch:=omega) only [ls]<;>omega)
theorem w325 (a0:List S65) (g0:a0.length≤1000000):WQv 325 [lE a0] (fun r:S65×Bool=>.tup [aE r.1,sB r.2]) (fun r=>True):=by
 refine gO Tryz.func325 ?_
 repeat' first
  |with_reducible assumption
  |(conv=>whnf);first
   |apply bD<;>intro h
   |refine V2 (fun (p0:S65) (p1:Int)=>0≤p1∧p1≤(a0.length:Int)) (fun _ p1=>[(0,lE a0),(2,.box 0 0),(4,sI p1)]) (fun p0 _=>⟨[(0,.box (S65.c p0) false)],1⟩) (fun _ p1=>((a0.length:Int)+1-p1).toNat) ze65 (0:Int) ?_ (fB1 rfl rfl rfl rfl) fun p0 p1 ⟨i0,i1⟩=>?_
   |refine lM ?_
   |refine wE ‹_› ?_ (fun _=>rfl) ?_
   |refine wG ?_ ?_ (fun _=>rfl) fun x hx hm=>?_
   |refine ⟨⟨_,nx _⟩,?_,?_,(fB1 rfl rfl rfl rfl)⟩
   |refine ⟨(_,true),rfl,?_⟩
   |refine ⟨(ze65,false),rfl,?_⟩
  |omega
  |exact True.intro
  |dsimp only
  |with_reducible apply And.intro
  |(simp (disch:=omega) only [ls]<;>omega)
theorem w480 (a0:List S65) (a1:ByteArray) (g0:a0.length≤1000000):WQv 480 [lE a0,sS a1] sB (fun r=>True):=by
 refine gO Tryz.func480 ?_
 repeat' first
  |with_reducible assumption
  |(conv=>whnf);first
   |apply bD<;>intro h
   |apply bS<;>intro h
   |refine V1 (fun (p0:Int)=>0≤p0∧p0≤(a0.length:Int)) (fun p0=>[(0,lE a0),(1,sS a1),(5,sI p0)]) (fun _=>⟨[],0⟩) (fun p0=>((a0.length:Int)+1-p0).toNat) (0:Int) ?_ (fN rfl rfl) fun p0 ⟨i0,i1⟩=>?_
   |refine lM ?_
   |refine wE ‹_› ?_ (fun _=>rfl) ?_
   |refine wG ?_ ?_ (fun _=>rfl) fun x hx hm=>?_
   |refine ⟨true,rfl,?_⟩
   |refine ⟨nx _,?_,?_,(fN rfl rfl)⟩
   |refine ⟨false,rfl,?_⟩
  |omega
  |exact True.intro
  |with_reducible apply And.intro
  |(simp (disch:=omega) only [ls]<;>omega)
theorem w416 (a0:Int) (a1:Int) (a2:Bool):WQv 416 [sI a0,sI a1,sB a2] sB (fun r=>True):=by
 refine gO Tryz.func416 ?_
 repeat' first
  |(conv=>whnf);first
   |apply bD<;>intro h
   |apply bN<;>intro h
   |apply br<;>intro h
   |refine ⟨false,rfl,?_⟩
   |refine ⟨true,rfl,?_⟩
   |refine ⟨_,rfl,?_⟩
  |exact True.intro
theorem w481 (a0:List S65) (g0:a0.length≤1000000) (g1:∀e∈a0,EB e):WQv 481 [lE a0] (fun r:Int×(List ByteArray)=>.tup [sI r.1,.lst (r.2.map cStr)]) (fun r=>True):=by
 refine gO Tryz.func481 ?_
 repeat' first
  |with_reducible assumption
  |(conv=>whnf);first
   |apply bD<;>intro h
   |refine V1 (fun (p0:Int)=>0≤p0∧p0≤(a0.length:Int)) (fun p0=>[(0,lE a0),(4,sI p0)]) (fun _=>⟨[],0⟩) (fun p0=>((a0.length:Int)+1-p0).toNat) (0:Int) ?_ (fN rfl rfl) fun p0 ⟨i0,i1⟩=>?_
   |refine lM ?_
   |refine wE ‹_› ?_ (fun _=>rfl) ?_
   |refine wG ?_ ?_ (fun _=>rfl) fun x hx hm=>?_
   |refine wA (l:=[]) (f:=cStr) (m:=_) rfl (fun _=>⟨rfl,rfl⟩) ?_ ?_ ?_
   |refine ⟨by kernel_rfl,?_⟩
   |refine ⟨_,_,deep0 (leafs_map (f:=cStr) (fun _=>rfl) _),?_⟩
   |refine ⟨nx _,?_,?_,(fN rfl rfl)⟩
   |refine ⟨(_,_),rfl,?_⟩
   |refine ⟨((0:Int),[]),rfl,?_⟩
  |omega
  |exact True.intro
  |dsimp only
  |(have hb:=(g1 _ hm).2.2.2.2.2.2.2.1;simp only [List.length_nil];omega)
  |with_reducible apply And.intro
  |(simp (disch:=omega) only [ls]<;>omega)
theorem w482 (a0:Int) (a1:Int):WQv 482 [sI a0,sI a1] sI (fun r=>True):=by
 refine gO Tryz.func482 ?_
 repeat' first
  |(conv=>whnf);first
   |apply bI<;>intro h
   |refine ⟨(0:Int),rfl,?_⟩
   |refine ⟨(21:Int),rfl,?_⟩
  |exact True.intro
theorem w483 (a0:Int) (a1:Int):WQv 483 [sI a0,sI a1] sI (fun r=>True):=by
 refine gO Tryz.func483 ?_
 repeat' first
  |(conv=>whnf);first
   |apply bI<;>intro h
   |refine ⟨(0:Int),rfl,?_⟩
   |refine ⟨(21:Int),rfl,?_⟩
  |exact True.intro
theorem w484 (a0:S59):WQv 484 [.agg (S59.c a0)] lI (fun r=>r.length=7):=by
 refine gO Tryz.func484 ?_
 repeat' first
  |(conv=>whnf);first
   |refine ⟨_,_,deep0 (leafs_lit rfl),?_⟩
   |refine ⟨[_,_,_,_,_,_,_],rfl,?_⟩
  |dsimp only
  |rfl
theorem w485 (a0:Int) (a1:Int) (a2:Int):WQv 485 [sI a0,sI a1,sI a2] sB (fun r=>True):=by
 refine gO Tryz.func485 ?_
 repeat' first
  |(conv=>whnf);first
   |apply bI<;>intro h
   |apply bD<;>intro h
   |refine ⟨true,rfl,?_⟩
   |refine ⟨false,rfl,?_⟩
   |refine ⟨_,rfl,?_⟩
  |exact True.intro
theorem w444 (a0:List S65) (a1:Int) (a2:ByteArray) (g0:a0.length≤100):WQv 444 [lE a0,sI a1,sS a2] (fun r:S65×Bool=>.tup [aE r.1,sB r.2]) (fun r=>r.2=true→r.1∈a0):=by
 refine gO Tryz.func444 ?_
 repeat' first
  |with_reducible assumption
  |(conv=>whnf);first
   |apply bD<;>intro h
   |apply bS<;>intro h
   |refine V2 (fun (p0:S65) (p1:Int)=>0≤p1∧p1≤(a0.length:Int)) (fun _ p1=>[(0,lE a0),(1,sI a1),(2,sS a2),(6,.box 0 0),(8,sI p1)]) (fun p0 _=>⟨[(0,.box (S65.c p0) false)],1⟩) (fun _ p1=>((a0.length:Int)+1-p1).toNat) ze65 (0:Int) ?_ (fB1 rfl rfl rfl rfl) fun p0 p1 ⟨i0,i1⟩=>?_
   |refine lM ?_
   |refine wE ‹_› ?_ (fun _=>rfl) ?_
   |refine wG ?_ ?_ (fun _=>rfl) fun x hx hm=>?_
   |refine ⟨⟨_,nx _⟩,?_,?_,(fB1 rfl rfl rfl rfl)⟩
   |refine ⟨(_,true),rfl,?_⟩
   |refine ⟨(ze65,false),rfl,?_⟩
  |omega
  |dsimp only
  |(intro hr;contradiction)
  |exact fun _=>hm
  |with_reducible apply And.intro
  |(simp (disch:=omega) only [ls]<;>omega)
theorem w499 (a0:List Int) (a1:Int) (g0:a0.length≤1000000000):WQv 499 [lI a0,sI a1] sI (fun r=>True):=by
 refine gO Tryz.func499 ?_
 repeat' first
  |with_reducible assumption
  |(conv=>whnf);first
   |apply bD<;>intro h
   |refine V1 (fun (p0:Int)=>0≤p0∧p0≤(a0.length:Int)) (fun p0=>[(0,lI a0),(1,sI a1),(5,sI p0)]) (fun _=>⟨[],0⟩) (fun p0=>((a0.length:Int)+1-p0).toNat) (0:Int) ?_ (fN rfl rfl) fun p0 ⟨i0,i1⟩=>?_
   |refine lM ?_
   |refine wG ?_ ?_ (fun _=>rfl) fun x hx hm=>?_
   |refine ⟨nx _,?_,?_,(fN rfl rfl)⟩
   |refine ⟨_,rfl,?_⟩
  |omega
  |exact True.intro
  |with_reducible apply And.intro
  |(simp (disch:=omega) only [ls]<;>omega)
theorem w14 (a0:List S65) (g0:a0.length≤12):WQv 14 [lE a0] lI (fun r=>r.length=a0.length):=by
 refine gO Tryz.func14 ?_
 repeat' first
  |with_reducible assumption
  |(conv=>whnf);first
   |apply bD<;>intro h
   |refine V2 (fun (p0:List Int) (p1:Int)=>0≤p1∧p1≤(a0.length:Int)∧(p0.length:Int)=p1) (fun _ p1=>[(0,lE a0),(3,.row 0),(4,sI p1)]) (fun p0 _=>⟨[(0,.row (p0.map c_i64) 1 false 0)],1⟩) (fun _ p1=>((a0.length:Int)+1-p1).toNat) [] (0:Int) ?_ (ft [(0,none)] rfl rfl rfl ⟨fitO_nil rfl rfl,trivial⟩) fun p0 p1 ⟨i0,i1,i3⟩=>?_
   |refine lM ?_
   |refine wG ?_ ?_ (fun _=>rfl) fun x hx hm=>?_
   |refine wA (f:=c_i64) (m:=[_]) rfl (fun _=>⟨rfl,rfl⟩) ?_ ?_ ?_
   |refine ⟨⟨_,nx _⟩,?_,?_,(fR1 2 rfl rfl rfl fun _=>rfl)⟩
   |refine ⟨_,_,deep0 (leafs_map (f:=c_i64) (fun _=>rfl) _),?_⟩
   |refine ⟨_,rfl,?_⟩
  |omega
  |dsimp only
  |with_reducible apply And.intro
  |(simp (disch:=omega) only [ls]<;>omega)
theorem w254 (a0:S65) (a1:S65):WQv 254 [aE a0,aE a1] sB (fun r=>True):=by
 refine gO Tryz.func254 ?_
 repeat' first
  |(conv=>whnf);first
   |apply bD<;>intro h
   |refine ⟨true,rfl,?_⟩
   |refine ⟨false,rfl,?_⟩
   |refine ⟨_,rfl,?_⟩
  |exact True.intro
theorem w368 (a0:List S71) (a1:Int) (a2:ByteArray) (g0:a0.length≤1000):WQv 368 [.lst (a0.map S71.c),sI a1,sS a2] sB (fun r=>True):=by
 refine gO Tryz.func368 ?_
 repeat' first
  |with_reducible assumption
  |(conv=>whnf);first
   |apply bD<;>intro h
   |apply bS<;>intro h
   |refine V1 (fun (p0:Int)=>0≤p0∧p0≤(a0.length:Int)) (fun p0=>[(0,.lst (a0.map S71.c)),(1,sI a1),(2,sS a2),(7,sI p0)]) (fun _=>⟨[],0⟩) (fun p0=>((a0.length:Int)+1-p0).toNat) (0:Int) ?_ (fN rfl rfl) fun p0 ⟨i0,i1⟩=>?_
   |refine lM ?_
   |refine wE ‹_› ?_ (fun _=>rfl) ?_
   |refine wG ?_ ?_ (fun _=>rfl) fun x hx hm=>?_
   |refine ⟨true,rfl,?_⟩
   |refine ⟨nx _,?_,?_,(fN rfl rfl)⟩
   |refine ⟨false,rfl,?_⟩
  |omega
  |exact True.intro
  |with_reducible apply And.intro
  |(simp (disch:=omega) only [ls]<;>omega)
theorem w86 (a0:List S139) (a1:Int) (g0:a0.length≤1000000000):WQv 86 [.lst (a0.map S139.c),sI a1] (fun r:S139×Bool=>.tup [.agg (S139.c r.1),sB r.2]) (fun r=>r.1∈a0∨r.1=zL):=by
 refine gO Tryz.func86 ?_
 repeat' first
  |with_reducible assumption
  |(conv=>whnf);first
   |apply bD<;>intro h
   |refine V2 (fun (p0:S139) (p1:Int)=>0≤p1∧p1≤(a0.length:Int)) (fun _ p1=>[(0,.lst (a0.map S139.c)),(1,sI a1),(4,.box 0 0),(6,sI p1)]) (fun p0 _=>⟨[(0,.box (S139.c p0) false)],1⟩) (fun _ p1=>((a0.length:Int)+1-p1).toNat) ze139 (0:Int) ?_ (fB1 rfl rfl rfl rfl) fun p0 p1 ⟨i0,i1⟩=>?_
   |refine lM ?_
   |refine wE ‹_› ?_ (fun _=>rfl) ?_
   |refine wG ?_ ?_ (fun _=>rfl) fun x hx hm=>?_
   |refine ⟨⟨_,nx _⟩,?_,?_,(fB1 rfl rfl rfl rfl)⟩
   |refine ⟨(_,true),rfl,?_⟩
   |refine ⟨(ze139,false),rfl,?_⟩
  |omega
  |dsimp only
  |exact Or.inr rfl
  |exact Or.inl hm
  |with_reducible apply And.intro
  |(simp (disch:=omega) only [ls]<;>omega)
theorem w85 (a0:S30) (a1:Int) (g0:a0.f2.length≤12):WQv 85 [.agg (S30.c a0),sI a1] (fun r:S135×Bool=>.tup [.agg (S135.c r.1),sB r.2]) (fun r=>True):=by
 refine gO Tryz.func85 ?_
 repeat' first
  |with_reducible assumption
  |(conv=>whnf);first
   |apply bD<;>intro h
   |refine V2 (fun (p0:S135) (p1:Int)=>0≤p1∧p1≤(a0.f2.length:Int)) (fun _ p1=>[(1,sI a1),(2,.box 0 0),(4,.box 1 0),(6,sI p1)]) (fun p0 _=>⟨[(0,.box (S30.c a0) false),(1,.box (S135.c p0) false)],2⟩) (fun _ p1=>((a0.f2.length:Int)+1-p1).toNat) ze135 (0:Int) ?_ (ft [(0,some 0),(1,some 1)] rfl rfl rfl ⟨fB rfl rfl rfl,fB rfl rfl rfl,trivial⟩) fun p0 p1 ⟨i0,i1⟩=>?_
   |refine lM ?_
   |refine wE ‹_› ?_ (fun _=>rfl) ?_
   |refine wG ?_ ?_ (fun _=>rfl) fun x hx hm=>?_
   |refine ⟨⟨_,nx _⟩,?_,?_,(ft [(0,some 0),(1,some 1)] rfl rfl rfl ⟨fB rfl rfl rfl,fB rfl rfl rfl,trivial⟩)⟩
   |refine ⟨(_,true),rfl,?_⟩
   |refine ⟨(ze135,false),rfl,?_⟩
  |omega
  |exact True.intro
  |dsimp only
  |with_reducible apply And.intro
  |(simp (disch:=omega) only [ls]<;>omega)
theorem w37 (a0:List Int) (a1:List Int) (g0:a0.length≤9223372036854775807):WQv 37 [lI a0,lI a1] sB (fun r=>r=true→a0.length=a1.length):=by
 refine gO Tryz.func37 ?_
 repeat' first
  |with_reducible assumption
  |(conv=>whnf);first
   |apply bJ<;>intro h
   |apply bD<;>intro h
   |refine lM ?_
   |refine ⟨false,rfl,?_⟩
   |refine V1 (fun (p0:Int)=>0≤p0∧p0≤(a0.length:Int)) (fun p0=>[(0,lI a0),(1,lI a1),(5,sI p0)]) (fun _=>⟨[],0⟩) (fun p0=>((a0.length:Int)+1-p0).toNat) (0:Int) ?_ (fN rfl rfl) fun p0 ⟨i0,i1⟩=>?_
   |refine wG ?_ ?_ (fun _=>rfl) fun x hx hm=>?_
   |refine ⟨by kernel_rfl,?_⟩
   |refine ⟨nx _,?_,?_,(fN rfl rfl)⟩
   |refine ⟨true,rfl,?_⟩
  |omega
  |dsimp only
  |(intro hr;contradiction)
  |with_reducible apply And.intro
  |(simp (disch:=omega) only [ls]<;>omega)
theorem w39 (a0:List S71) (a1:List S71) (g0:a0.length≤9223372036854775807):WQv 39 [.lst (a0.map S71.c),.lst (a1.map S71.c)] sB (fun r=>r=true→a0.length=a1.length):=by
 refine gO Tryz.func39 ?_
 repeat' first
  |with_reducible assumption
  |(conv=>whnf);first
   |apply bJ<;>intro h
   |apply bD<;>intro h
   |apply bT'<;>intro h
   |refine lM ?_
   |refine ⟨false,rfl,?_⟩
   |refine V1 (fun (p0:Int)=>0≤p0∧p0≤(a0.length:Int)) (fun p0=>[(0,.lst (a0.map S71.c)),(1,.lst (a1.map S71.c)),(5,sI p0)]) (fun _=>⟨[],0⟩) (fun p0=>((a0.length:Int)+1-p0).toNat) (0:Int) ?_ (fN rfl rfl) fun p0 ⟨i0,i1⟩=>?_
   |refine wE ‹_› ?_ (fun _=>rfl) ?_
   |refine wG ?_ ?_ (fun _=>rfl) fun x hx hm=>?_
   |refine ⟨by kernel_rfl,?_⟩
   |refine ⟨nx _,?_,?_,(fN rfl rfl)⟩
   |refine ⟨true,rfl,?_⟩
  |omega
  |dsimp only
  |(intro hr;contradiction)
  |with_reducible apply And.intro
  |(simp (disch:=omega) only [ls]<;>omega)
theorem w17m (a0:List S65) (a1:List Int) (g0:a0.length≤1000000000) (g1:a1.length≤1000000000):WQv 17 [lE a0,lI a1] lI (fun r=>r.length≤a1.length∧∀x,x∈r↔x∈a1∧¬Kn a0 x):=by
 refine gO Tryz.func17 ?_
 repeat' first
  |with_reducible assumption
  |(conv=>whnf);first
   |refine wE ‹_› ?_ (fun _=>rfl) ?_
   |apply bD<;>intro h
   |refine V2 (fun (p0:List Int) (p1:Int)=>0≤p1∧p1≤(a1.length:Int)∧(p0.length:Int)≤p1∧Ms a0 a1 p0 p1) (fun _ p1=>[(0,lE a0),(1,lI a1),(5,.row 0),(6,sI p1)]) (fun p0 _=>⟨[(0,.row (p0.map c_i64) 1 false 0)],1⟩) (fun _ p1=>((a1.length:Int)+1-p1).toNat) [] (0:Int) ?_ (ft [(0,none)] rfl rfl rfl ⟨fitO_nil rfl rfl,trivial⟩) fun p0 p1 ⟨i0,i1,i2,i3⟩=>?_
   |refine lM ?_
   |refine wG ?_ ?_ (fun _=>rfl) fun x hx hm=>?_
   |refine wC (w59 _ _ ?_) fun z59 hz9=>?_
   |refine ⟨_,_,deep0 (leafs_map (f:=c_i64) (fun _=>rfl) _),?_⟩
   |refine wU (leafs_map (f:=c_i64) (fun _=>rfl) _) (u60m _ _ ?_) (fun z60 hz=>?_) rfl rfl rfl
   |refine ⟨⟨_,nx _⟩,?_,?_,(fR1 1 rfl rfl rfl fun _=>rfl)⟩
   |refine ⟨⟨_,nx _⟩,?_,?_,(fR1 0 rfl rfl rfl fun _=>rfl)⟩
   |refine ⟨_,rfl,?_⟩
  |exact ms0
  |exact ms_add i0 (by omega) hx i3 (hz9.2 ‹_›) hz.2.2
  |(obtain ⟨e,q1,q2⟩:=hz9.1.2 (by omega);exact ms_skip i0 (by omega) hx i3 (List.mem_of_getElem? q1) q2)
  |exact ms_end i3 ‹_›
  |(simp;done)
  |omega
  |dsimp only
  |with_reducible apply And.intro
  |(simp (disch:=omega) only [ls]<;>omega)
theorem w118 (a0:List Int) (a1:Int) (g0:a0.length≤1000000000):WQv 118 [lI a0,sI a1] lI (fun r=>PutP a0 a1 r):=by
 refine gO Tryz.func118 ?_
 repeat' first
  |with_reducible assumption
  |(conv=>whnf);first
   |apply bD<;>intro h
   |apply br<;>intro h
   |refine wC (w16 _ _ ?_) fun z16 hz=>?_
   |refine V1 (fun (p0:Int)=>0≤p0∧p0≤(a0.length:Int)) (fun p0=>[(0,lI a0),(1,sI a1),(5,sI p0)]) (fun _=>⟨[],0⟩) (fun p0=>((a0.length:Int)+1-p0).toNat) (0:Int) ?_ (fN rfl rfl) fun p0 ⟨i0,i1⟩=>?_
   |refine lM ?_
   |refine wG ?_ ?_ (fun _=>rfl) fun x hx hm=>?_
   |refine ⟨nx _,?_,?_,(fN rfl rfl)⟩
   |refine ⟨lens_map (f:=c_i64) (fun _=>rfl),?_,?_,slB _ ?_⟩
   |refine ⟨lens_map (f:=c_i64) (fun _=>rfl),?_,?_,slA _ _ ?_⟩
   |refine wA (l:=[]) (f:=c_i64) (m:=_) rfl (fun _=>⟨rfl,rfl⟩) ?_ ?_ ?_
   |refine wA (f:=c_i64) (m:=[_]) rfl (fun _=>⟨rfl,rfl⟩) ?_ ?_ ?_
   |refine wA (f:=c_i64) (m:=_) rfl (fun _=>⟨rfl,rfl⟩) ?_ ?_ ?_
   |refine ⟨_,_,deep0 (leafs_map (f:=c_i64) (fun _=>rfl) _),?_⟩
   |refine ⟨_,rfl,?_⟩
  |omega
  |refine put_mk ?_
  |dsimp only
  |exact PutP.keep (hz.1 h)
  |with_reducible apply And.intro
  |(simp (disch:=omega) only [ls]<;>omega)
  |intro hr
  |grind
theorem w111m (a0:List S65) (g0:a0.length≤1000) (g1:∀e∈a0,EB e):WQv 111 [lE a0] lI (fun r=>r.length≤18*a0.length∧Rfs a0 r):=by
 refine gO Tryz.func111 ?_
 repeat' first
  |with_reducible assumption
  |(conv=>whnf);first
   |refine wE ‹_› ?_ (fun _=>rfl) ?_
   |apply bD<;>intro h
   |refine V2 (fun (p0:List Int) (p1:Int)=>0≤p1∧p1≤(a0.length:Int)∧(p0.length:Int)≤18*p1∧Rfs a0 p0) (fun _ p1=>[(0,lE a0),(3,.row 0),(4,sI p1)]) (fun p0 _=>⟨[(0,.row (p0.map c_i64) 1 false 0)],1⟩) (fun _ p1=>((a0.length:Int)+1-p1).toNat) [] (0:Int) ?_ (ft [(0,none)] rfl rfl rfl ⟨fitO_nil rfl rfl,trivial⟩) fun p0 p1 ⟨i0,i1,i2,i3⟩=>?_
   |refine lM ?_
   |refine V2 (fun (q0:List Int) (q1:Int)=>0≤q1∧q1≤(10:Int)∧(q0.length:Int)≤18*p1+q1∧Rfs a0 q0) (fun _ q1=>[(0,lE a0),(3,.row 0),(4,sI p1),(5,sI q1)]) (fun q0 _=>⟨[(0,.row (q0.map c_i64) 1 false 0)],1⟩) (fun _ q1=>((10:Int)+1-q1).toNat) p0 (0:Int) ?_ (fR1 0 rfl rfl rfl fun _=>rfl) fun q0 q1 ⟨j0,j1,j2,j3⟩=>?_
   |refine wG (l:=a0) ?_ ?_ (fun _=>rfl) fun e he hme=>?_
   |refine wG ?_ ?_ (fun _=>rfl) fun x hx hm=>?_
   |refine ⟨_,_,deep0 (leafs_map (f:=c_i64) (fun _=>rfl) _),?_⟩
   |refine wU (leafs_map (f:=c_i64) (fun _=>rfl) _) (u60m _ _ ?_) (fun z60 hz=>?_) rfl rfl rfl
   |refine V2 (fun (v0:List Int) (v1:Int)=>0≤v1∧v1≤(8:Int)∧(v0.length:Int)≤18*p1+10+v1∧Rfs a0 v0) (fun _ v1=>[(0,lE a0),(3,.row 0),(4,sI p1),(5,sI q1),(6,sI v1)]) (fun v0 _=>⟨[(0,.row (v0.map c_i64) 1 false 0)],1⟩) (fun _ v1=>((8:Int)+1-v1).toNat) q0 (0:Int) ?_ (fR1 0 rfl rfl rfl fun _=>rfl) fun v0 v1 ⟨k0,k1,k2,k3⟩=>?_
   |refine ⟨⟨_,nx _⟩,?_,?_,(fR1 1 rfl rfl rfl fun _=>rfl)⟩
   |refine ⟨⟨_,nx _⟩,?_,?_,(fR1 0 rfl rfl rfl fun _=>rfl)⟩
   |refine ⟨_,rfl,?_⟩
  |exact rfs_nil
  |exact rfs8 j3 hme hm hz.2.2
  |exact rfs9 k3 hme hm hz.2.2
  |(have h8:=(g1 _ hme).2.2.2.1;have h9:=(g1 _ hme).2.2.2.2.1;first | omega | (simp (disch:=omega) only [ls]<;>omega))
  |(simp;done)
  |omega
  |dsimp only
  |with_reducible apply And.intro
theorem w56m (a0:List S65) (a1:Int) (g0:a0.length≤1000000000):WQv 56 [lE a0,sI a1] (fun r:S65×Bool=>.tup [aE r.1,sB r.2]) (fun r=>r.2=true→getI a0 a1=some r.1):=by
 refine gO Tryz.func56 ?_
 repeat' first
  |with_reducible assumption
  |(conv=>whnf);first
   |apply bD<;>intro h
   |refine wC (w59m _ _ ?_) fun z59 hz=>?_
   |refine wG ?_ ?_ (fun _=>rfl) fun x hx hm=>?_
   |refine ⟨(ze65,false),rfl,?_⟩
   |refine ⟨(_,true),rfl,?_⟩
  |(obtain ⟨e,h1,h2⟩:=hz.2.1 (by omega);rw [hx] at h1;cases h1;exact fun _=>h2)
  |exact fun h=>by (cases h)
  |omega
theorem w31 (a0:List S65) (a1:Int) (g0:a0.length≤9223372036854775807) (g1:∀e∈a0,EM e):WQv 31 [lE a0,sI a1] sB (fun r=>r=false→(a0.length:Int)≤a1):=by
 refine gO Tryz.func31 ?_
 repeat' first
  |with_reducible assumption
  |(conv=>whnf);first
   |apply bD<;>intro h
   |apply br<;>intro h
   |refine lM ?_
   |refine ⟨true,rfl,?_⟩
   |refine V1 (fun (p0:Int)=>0≤p0∧p0≤(a0.length:Int)) (fun p0=>[(0,lE a0),(5,sI p0)]) (fun _=>⟨[],0⟩) (fun p0=>((a0.length:Int)+1-p0).toNat) (0:Int) ?_ (fN rfl rfl) fun p0 ⟨i0,i1⟩=>?_
   |refine wG ?_ ?_ (fun _=>rfl) fun x hx hm=>?_
   |refine wC (w79 _ ?_) fun z79 hz=>?_
   |refine ⟨nx _,?_,?_,(fN rfl rfl)⟩
   |refine ⟨false,rfl,?_⟩
  |omega
  |dsimp only
  |exact g1 _ hm
  |with_reducible apply And.intro
  |(simp (disch:=omega) only [ls]<;>omega)
  |contradiction
  |intro hr
theorem w141 (a0:ByteArray) (g0:(a0.size:Int)≤9223372036854775807):WQv 141 [sS a0] sB (fun r=>r=true→1≤a0.size∧a0.size≤32):=by
 refine gO Tryz.func141 ?_
 repeat' first
  |with_reducible assumption
  |(conv=>whnf);first
   |apply bD<;>intro h
   |apply bN<;>intro h
   |refine V1 (fun (p0:Int)=>0≤p0∧p0≤(a0.size:Int)) (fun p0=>[(0,sS a0),(3,sI p0)]) (fun _=>⟨[],0⟩) (fun p0=>((a0.size:Int)+1-p0).toNat) (0:Int) ?_ (fN rfl rfl) fun p0 ⟨i0,i1⟩=>?_
   |refine wS ?_ ?_ fun x hb=>?_
   |refine wC (w197 _) fun z197 hz=>?_
   |refine ⟨false,rfl,?_⟩
   |refine ⟨nx _,?_,?_,(fN rfl rfl)⟩
   |refine ⟨_,rfl,?_⟩
  |omega
  |dsimp only
  |(intro hr;contradiction)
  |with_reducible apply And.intro
  |(simp (disch:=omega) only [ls]<;>omega)
  |(intro hr;first | omega | (simp at hr;omega))
theorem w142 (a0:ByteArray) (g0:(a0.size:Int)≤9223372036854775807):WQv 142 [sS a0] sI (fun r=>r=0→1≤a0.size∧a0.size≤32):=by
 refine gO Tryz.func142 ?_
 repeat' first
  |with_reducible assumption
  |(conv=>whnf);first
   |apply bD<;>intro h
   |apply bN<;>intro h
   |refine wS ?_ ?_ fun x hb=>?_
   |refine wC (w197 _) fun z197 hz=>?_
   |refine V1 (fun (p0:Int)=>0≤p0∧p0≤(a0.size:Int)) (fun p0=>[(0,sS a0),(3,sI p0)]) (fun _=>⟨[],0⟩) (fun p0=>((a0.size:Int)+1-p0).toNat) (0:Int) ?_ (fN rfl rfl) fun p0 ⟨i0,i1⟩=>?_
   |refine ⟨nx _,?_,?_,(fN rfl rfl)⟩
   |refine ⟨(3:Int),rfl,?_⟩
   |refine ⟨(0:Int),rfl,?_⟩
  |omega
  |with_reducible apply And.intro
  |(simp (disch:=omega) only [ls]<;>omega)
theorem w430 (a0:Int) (a1:ByteArray):WQv 430 [sI a0,sS a1] sB (fun r=>r=true→a0=4→a1≠(⟨#[68,101,110,121]⟩:ByteArray)∧a1≠(⟨#[76,101,118,101,108,115]⟩:ByteArray)):=by
 refine gO Tryz.func430 ?_
 repeat' first
  |with_reducible assumption
  |(conv=>whnf);first
   |apply bD<;>intro h
   |apply bS<;>intro h
   |refine wC (w498 _) fun z498 hz=>?_
   |refine V1 (fun (p0:Int)=>0≤p0∧p0≤(z498.length:Int)∧(∀r:Bool,(r=true→a1∈z498)→r=true→a0=4→a1≠(⟨#[68,101,110,121]⟩:ByteArray)∧a1≠(⟨#[76,101,118,101,108,115]⟩:ByteArray))) (fun p0=>[(1,sS a1),(5,.lst (z498.map cStr)),(6,sI p0)]) (fun _=>⟨[],0⟩) (fun p0=>((z498.length:Int)+1-p0).toNat) (0:Int) ?_ (fN rfl rfl) fun p0 ⟨i0,i1,hk⟩=>?_
   |refine lM ?_
   |refine wG ?_ ?_ (fun _=>rfl) fun x hx hm=>?_
   |refine ⟨true,rfl,?_⟩
   |refine ⟨nx _,?_,?_,(fN rfl rfl)⟩
   |refine ⟨false,rfl,?_⟩
  |omega
  |dsimp only
  |refine hk _ ?_
  |(intro hr;contradiction)
  |(intro hr;subst h;assumption)
  |with_reducible apply And.intro
  |(simp (disch:=omega) only [ls]<;>omega)
  |intro hr
  |grind
theorem w431 (a0:S59) (g0:(a0.f0.length:Int)≤9223372036854775807) (g1:(a0.f1.length:Int)≤9223372036854775807):WQv 431 [.agg (S59.c a0)] sB (fun r=>r=true→a0.f0.length=0∧a0.f1.length=0):=by
 refine gO Tryz.func431 ?_
 repeat' first
  |with_reducible assumption
  |(conv=>whnf);first
   |refine wC (w162 _ ze59 ?_ ?_) fun z162 hz=>?_
   |refine ⟨_,rfl,?_⟩
  |dsimp only
  |exact hz
theorem w353 (a0:Int) (a1:S61):WQv 353 [sI a0,.agg (S61.c a1)] sI (fun r=>r=0→a1.f0.size≤400):=by
 refine gO Tryz.func353 ?_
 repeat' first
  |(conv=>whnf);first
   |apply bI<;>intro h
   |apply bS<;>intro h
   |apply bD<;>intro h
   |refine wC (w71 _) fun z71 hz=>?_
   |refine ⟨(0:Int),rfl,?_⟩
   |refine ⟨_,rfl,?_⟩
  |omega
  |dsimp only
  |(rw [h];decide)
end Go.Abs.RM
