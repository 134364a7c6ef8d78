/- Of GapsBounds: walks. -/
import Derived.Test.YthbenojbjjgnaaaGreatUAv
set_option linter.all false
namespace Go.Abs.RM
open Go.Proofs
set_option maxRecDepth 100000
set_option maxHeartbeats 40000000
theorem w448 (a0:ByteArray) (g0:(a0.size:Int)≤1000000):WQv 448 [sS a0] sB (fun r=>True):=by
 refine gO Tryz.func448 ?_
 repeat' first
  |with_reducible assumption
  |(conv=>whnf);first
   |apply bD<;>intro h
   |refine V1 (fun (p0:Int)=>0≤p0∧p0≤(a0.size:Int)) (fun p0=>[(0,sS a0),(5,sI (a0.size:Int)),(6,sI p0)]) (fun _=>⟨[],0⟩) (fun p0=>((a0.size:Int)+1-p0).toNat) (0:Int) ?_ (fN rfl rfl) fun p0 ⟨i0,i1⟩=>?_
   |refine wS ?_ ?_ fun x hb=>?_
   |refine ⟨false,rfl,?_⟩
   |refine ⟨nx _,?_,?_,(fN rfl rfl)⟩
   |refine ⟨_,rfl,?_⟩
  |omega
  |dsimp only
  |with_reducible apply And.intro
  |(simp (disch:=omega) only [ls]<;>omega)
theorem w385 (a0:List Int) (g0:a0.length≤1000000):WQv 385 [lI a0] sB (fun r=>True):=by
 refine gO Tryz.func385 ?_
 repeat' first
  |with_reducible assumption
  |(conv=>whnf);first
   |apply bD<;>intro h
   |refine lM ?_
   |refine V1 (fun (p0:Int)=>0≤p0∧p0≤(a0.length:Int)) (fun p0=>[(0,lI a0),(5,lI a0),(6,sI (a0.length:Int)),(7,sI p0)]) (fun _=>⟨[],0⟩) (fun p0=>((a0.length:Int)+1-p0).toNat) (0:Int) ?_ (fN rfl rfl) fun p0 ⟨i0,i1⟩=>?_
   |refine wG ?_ ?_ (fun _=>rfl) fun x hx hm=>?_
   |refine ⟨false,rfl,?_⟩
   |refine ⟨nx _,?_,?_,(fN rfl rfl)⟩
   |refine ⟨true,rfl,?_⟩
  |omega
  |dsimp only
  |with_reducible apply And.intro
  |(simp (disch:=omega) only [ls]<;>omega)
theorem w132 (a0:ByteArray) (g0:(a0.size:Int)≤1000000000):WQv 132 [sS a0] sI (fun r=>True):=by
 refine gO Tryz.func132 ?_
 repeat' first
  |with_reducible assumption
  |(conv=>whnf);first
   |apply bS<;>intro h
   |apply bD<;>intro h
   |refine V1 (fun (p0:Int)=>0≤p0∧p0≤(a0.size:Int)) (fun p0=>[(0,sS a0),(12,sI (a0.size:Int)),(13,sI p0)]) (fun _=>⟨[],0⟩) (fun p0=>((a0.size:Int)+1-p0).toNat) (0:Int) ?_ (fN rfl rfl) fun p0 ⟨i0,i1⟩=>?_
   |refine wS ?_ ?_ fun x hb=>?_
   |refine ⟨nx _,?_,?_,(fN rfl rfl)⟩
   |refine ⟨(9:Int),rfl,?_⟩
   |refine ⟨(7:Int),rfl,?_⟩
   |refine ⟨(3:Int),rfl,?_⟩
   |refine ⟨(0:Int),rfl,?_⟩
  |omega
  |dsimp only
  |with_reducible apply And.intro
  |(simp (disch:=omega) only [ls]<;>omega)
theorem w452 (a0:Int) (a1:S61) (g0:CB a1 400 100):WQv 452 [sI a0,.agg (S61.c a1)] sI (fun r=>True):=by
 refine gO Tryz.func452 ?_
 repeat' first
  |(conv=>whnf);first
   |apply bI<;>intro h
   |apply bD<;>intro h
   |refine ⟨(2:Int),rfl,?_⟩
   |refine ⟨(0:Int),rfl,?_⟩
  |dsimp only
theorem w453 (a0:Int) (a1:S61) (g0:CB a1 400 100):WQv 453 [sI a0,.agg (S61.c a1)] sI (fun r=>True):=by
 refine gO Tryz.func453 ?_
 repeat' first
  |(conv=>whnf);first
   |apply bD<;>intro h
   |apply bJ<;>intro h
   |refine ⟨(2:Int),rfl,?_⟩
   |refine ⟨(0:Int),rfl,?_⟩
  |dsimp only
theorem w454 (a0:Int) (a1:S61) (g0:CB a1 400 100):WQv 454 [sI a0,.agg (S61.c a1)] sI (fun r=>True):=by
 refine gO Tryz.func454 ?_
 repeat' first
  |(conv=>whnf);first
   |apply bI<;>intro h
   |apply br<;>intro h
   |refine ⟨(1:Int),rfl,?_⟩
   |refine ⟨(0:Int),rfl,?_⟩
  |dsimp only
theorem w449 (a0:Int):WQv 449 [sI a0] sB (fun r=>True):=by
 refine gO Tryz.func449 ?_
 repeat' first
  |(conv=>whnf);first
   |apply bD<;>intro h
   |refine ⟨false,rfl,?_⟩
   |refine ⟨_,rfl,?_⟩
  |dsimp only
theorem w500 (a0:S59) (g0:a0.f0.length≤1000) (g1:a0.f1.length≤1000):WQv 500 [.agg (S59.c a0)] sB (fun r=>True):=by
 refine gO Tryz.func500 ?_
 repeat' first
  |(conv=>whnf);first
   |apply bI<;>intro h
   |refine lM ?_
   |refine ⟨false,rfl,?_⟩
   |refine ⟨_,rfl,?_⟩
  |dsimp only
theorem w503 (a0:Int):WQv 503 [sI a0] sB (fun r=>True):=by
 refine gO Tryz.func503 ?_
 repeat' first
  |(conv=>whnf);first
   |apply bD<;>intro h
   |refine ⟨true,rfl,?_⟩
   |refine ⟨_,rfl,?_⟩
  |dsimp only
theorem w387 (a0:List ByteArray) (a1:List ByteArray) (g0:a0.length≤1000000):WQv 387 [.lst (a0.map cStr),.lst (a1.map cStr)] sB (fun r=>True):=by
 refine gO Tryz.func387 ?_
 repeat' first
  |with_reducible assumption
  |(conv=>whnf);first
   |apply bJ<;>intro h
   |apply bD<;>intro h
   |apply bT'<;>intro h
   |refine lM ?_
   |refine ⟨false,rfl,?_⟩
   |refine V1 (fun (p0:Int)=>0≤p0∧p0≤(a0.length:Int)) (fun p0=>[(0,.lst (a0.map cStr)),(1,.lst (a1.map cStr)),(12,sI (a0.length:Int)),(13,sI p0)]) (fun _=>⟨[],0⟩) (fun p0=>((a0.length:Int)+1-p0).toNat) (0:Int) ?_ (fN rfl rfl) fun p0 ⟨i0,i1⟩=>?_
   |refine wG ?_ ?_ (fun _=>rfl) fun x hx hm=>?_
   |refine ⟨by kernel_rfl,?_⟩
   |refine ⟨nx _,?_,?_,(fN rfl rfl)⟩
   |refine ⟨true,rfl,?_⟩
  |omega
  |dsimp only
  |with_reducible apply And.intro
  |(simp (disch:=omega) only [ls]<;>omega)
theorem w388 (a0:List S179) (a1:List S179) (g0:a0.length≤1000000):WQv 388 [.lst (a0.map S179.c),.lst (a1.map S179.c)] sB (fun r=>True):=by
 refine gO Tryz.func388 ?_
 repeat' first
  |with_reducible assumption
  |(conv=>whnf);first
   |apply bJ<;>intro h
   |apply bD<;>intro h
   |apply br<;>intro h
   |refine lM ?_
   |refine ⟨false,rfl,?_⟩
   |refine V1 (fun (p0:Int)=>0≤p0∧p0≤(a0.length:Int)) (fun p0=>[(0,.lst (a0.map S179.c)),(1,.lst (a1.map S179.c)),(12,sI (a0.length:Int)),(13,sI p0)]) (fun _=>⟨[],0⟩) (fun p0=>((a0.length:Int)+1-p0).toNat) (0:Int) ?_ (fN rfl rfl) fun p0 ⟨i0,i1⟩=>?_
   |refine wG ?_ ?_ (fun _=>rfl) fun x hx hm=>?_
   |refine fun (_:Bool)=>?_
   |refine ⟨by kernel_rfl,?_⟩
   |refine ⟨nx _,?_,?_,(fN rfl rfl)⟩
   |refine ⟨true,rfl,?_⟩
  |omega
  |dsimp only
  |with_reducible apply And.intro
  |(simp (disch:=omega) only [ls]<;>omega)
theorem w389 (a0:List S215) (a1:List S215) (g0:a0.length≤1000000):WQv 389 [.lst (a0.map S215.c),.lst (a1.map S215.c)] sB (fun r=>True):=by
 refine gO Tryz.func389 ?_
 repeat' first
  |with_reducible assumption
  |(conv=>whnf);first
   |apply bJ<;>intro h
   |apply bD<;>intro h
   |apply br<;>intro h
   |refine lM ?_
   |refine ⟨false,rfl,?_⟩
   |refine V1 (fun (p0:Int)=>0≤p0∧p0≤(a0.length:Int)) (fun p0=>[(0,.lst (a0.map S215.c)),(1,.lst (a1.map S215.c)),(12,sI (a0.length:Int)),(13,sI p0)]) (fun _=>⟨[],0⟩) (fun p0=>((a0.length:Int)+1-p0).toNat) (0:Int) ?_ (fN rfl rfl) fun p0 ⟨i0,i1⟩=>?_
   |refine wG ?_ ?_ (fun _=>rfl) fun x hx hm=>?_
   |refine fun (_:Bool)=>?_
   |refine ⟨by kernel_rfl,?_⟩
   |refine ⟨nx _,?_,?_,(fN rfl rfl)⟩
   |refine ⟨true,rfl,?_⟩
  |omega
  |dsimp only
  |with_reducible apply And.intro
  |(simp (disch:=omega) only [ls]<;>omega)
theorem w393 (a0:List S65) (g0:a0.length≤1000000) (g1:∀e∈a0,EB e):WQv 393 [lE a0] lI (fun r=>r.length≤a0.length):=by
 refine gO Tryz.func393 ?_
 repeat' first
  |with_reducible assumption
  |(conv=>whnf);first
   |refine wLE ‹_› ?_
   |refine wE ‹_› ?_ (fun _=>rfl) ?_
   |refine wG (l:=a0) ?_ ?_ (fun _=>rfl) fun x0 hx hm=>?_
   |refine wL (l:=q0) (i:=IntKind.wrap .i64 (q1-(1:Int))) ?_ ?_ fun y1 hx=>?_
   |refine wL (l:=q0) (i:=q1) ?_ ?_ fun y2 hx=>?_
   |apply bD<;>intro h
   |refine lM ?_
   |refine ⟨Int.le_refl 0,?_,?_,?_,[],rfl,?_⟩
   |refine V2 (fun (p0:List S393) (p1:Int)=>0≤p1∧p1≤(a0.length:Int)∧(p0.length:Int)≤p1∧p1≤(p0.length:Int)) (fun _ p1=>[(0,lE a0),(3,.row 0),(15,sI (a0.length:Int)),(16,sI p1)]) (fun p0 _=>⟨[(0,.row (p0.map S393.c) 2 false 0)],1⟩) (fun _ p1=>((a0.length:Int)+1-p1).toNat) ([]:List S393) (0:Int) ?_ (fR1 0 rfl rfl rfl fun _=>rfl) fun p0 p1 ⟨i0,i1,i2,i3⟩=>?_
   |refine wA (f:=S393.c) (m:=[⟨_,_⟩]) rfl (fun _=>⟨rfl,rfl⟩) ?_ ?_ ?_
   |refine ⟨by kernel_rfl,?_⟩
   |refine V2 (fun (q0:List S393) (q1:Int)=>(q0.length:Int)≤p1+1∧p1+1≤(q0.length:Int)∧0≤q1∧q1<(q0.length:Int)) (fun _ q1=>[(0,lE a0),(3,.row 0),(5,sI q1),(15,sI (a0.length:Int)),(16,sI p1)]) (fun q0 _=>⟨[(0,.row (q0.map S393.c) 2 false 0)],1⟩) (fun _ q1=>(q1+1).toNat) (p0++[(⟨x0.f7,x0.f0⟩:S393)]) (IntKind.wrap .i64 (((p0++[(⟨x0.f7,x0.f0⟩:S393)]).length:Int)-(1:Int))) ?_ (fR1 2 rfl rfl rfl fun _=>rfl) fun q0 q1 ⟨i0,i1,i2,i3⟩=>?_
   |refine wR ?_ ?_ ?_
   |refine ⟨⟨_,nx _⟩,?_,?_,(fR1 0 rfl rfl rfl fun _=>rfl)⟩
   |refine wL ?_ ?_ fun x hx=>?_
   |refine ⟨_,(List.map_set (f:=S393.c) (a:=y2)).symm,?_⟩
   |refine ⟨_,(List.map_set (f:=S393.c) (a:=y1)).symm,?_⟩
   |refine ⟨⟨_,IntKind.wrap .i64 (q1-(1:Int))⟩,?_,?_,(fR1 0 rfl rfl rfl fun _=>rfl)⟩
   |refine wK (f:=c_i64) rfl ?_ ?_ ?_ ?_
   |refine V2 (fun (q0:List Int) (q1:Int)=>0≤q1∧q1≤(p0.length:Int)∧(q0.length:Int)≤(p0.length:Int)∧(p0.length:Int)≤(q0.length:Int)) (fun _ q1=>[(8,.row 0),(81,.row 1),(82,sI (p0.length:Int)),(83,sI q1)]) (fun q0 _=>⟨[(0,.row (q0.map c_i64) 1 false 0),(1,.row (p0.map S393.c) 2 false 1)],2⟩) (fun _ q1=>((p0.length:Int)+1-q1).toNat) (List.replicate ((p0.length:Int).toNat) 0) (0:Int) ?_ (ft [(0,some 1),(1,some 0)] rfl rfl rfl ⟨fR rfl rfl fun _=>rfl,fR rfl rfl fun _=>rfl,trivial⟩) fun q0 q1 ⟨i0,i1,i2,i3⟩=>?_
   |refine ⟨_,(List.map_set (f:=c_i64) (a:=x.f1)).symm,?_⟩
   |refine ⟨⟨_,nx _⟩,?_,?_,(ft [(0,some 0),(1,some 1)] rfl rfl rfl ⟨fR rfl rfl fun _=>rfl,fR rfl rfl fun _=>rfl,trivial⟩)⟩
   |refine ⟨_,_,deep0 (leafs_map (f:=c_i64) (fun _=>rfl) _),?_⟩
   |refine ⟨_,rfl,?_⟩
  |omega
  |dsimp only
  |with_reducible apply And.intro
  |(simp (disch:=omega) only [ls]<;>omega)
  |grind
theorem w402 (a0:List S65) (a1:Int→Bool→Prop) (c1:FuncId) (g1:List WV) (hg1:g1.all capB=true) (hf1:∀x0_,WQv c1 ([]++[sI x0_]++g1) sB (fun r=>a1 x0_ r)) (g20:a0.length≤1000000) (g21:∀e∈a0,EB e):WQv 402 [lE a0,.fnp c1 [] g1] lI (fun r=>r.length≤a0.length):=by
 refine gO Tryz.func402 ?_
 repeat' first
  |with_reducible assumption
  |(conv=>whnf);first
   |refine wE ‹_› ?_ (fun _=>rfl) ?_
   |apply bD<;>intro h
   |apply br<;>intro h
   |refine lM ?_
   |refine V2 (fun (p0:List Int) (p1:Int)=>0≤p1∧p1≤(a0.length:Int)∧(p0.length:Int)≤p1) (fun _ p1=>[(0,lE a0),(1,.fnp c1 [] g1),(5,.row 0),(8,sI (a0.length:Int)),(9,sI p1)]) (fun p0 _=>⟨[(0,.row (p0.map c_i64) 1 false 0)],1⟩) (fun _ p1=>((a0.length:Int)+1-p1).toNat) [] (0:Int) ?_ (ft [(0,none)] rfl rfl rfl ⟨fitO_nil rfl rfl,trivial⟩) fun p0 p1 ⟨i0,i1,i2⟩=>?_
   |refine wG ?_ ?_ (fun _=>rfl) fun x hx hm=>?_
   |refine view_caps hg1 ?_
   |refine wC (hf1 _) fun z hz=>?_
   |refine wA (f:=c_i64) (m:=[_]) rfl (fun _=>⟨rfl,rfl⟩) ?_ ?_ ?_
   |refine ⟨⟨_,nx _⟩,?_,?_,(fR1 2 rfl rfl rfl fun _=>rfl)⟩
   |refine ⟨⟨_,nx _⟩,?_,?_,(fR1 0 rfl rfl rfl fun _=>rfl)⟩
   |refine ⟨_,_,deep0 (leafs_map (f:=c_i64) (fun _=>rfl) _),?_⟩
   |refine ⟨_,rfl,?_⟩
  |omega
  |dsimp only
  |with_reducible apply And.intro
  |(simp (disch:=omega) only [ls]<;>omega)
theorem w403 (b:Nat) (a1:Int):WQv 403 [sI a1,.ipt [.ipt [.imb (GS b),.imb (GS b),.imb GE]]] sB (fun _=>True):=by
 refine gO Tryz.func403 ?_
 repeat' first
  |with_reducible assumption
  |(conv=>whnf);first
   |refine lkF (fun s hs=>?_) ?_
   |refine ⟨_,rfl,?_⟩
  |dsimp only
theorem w289n (a1:Int):WQv 289 [.sc (.pointer none),sI a1] sB (fun r=>r=false):=by
 refine gO Tryz.func289 ?_
 repeat' first
  |(conv=>whnf);first
   |refine ⟨_,rfl,?_⟩
  |dsimp only
theorem w289s (b:Nat) (a1:Int):WQv 289 [.ipt [.imb (GS b),.imb (GS b),.imb GE],sI a1] sB (fun _=>True):=by
 refine gO Tryz.func289 ?_
 repeat' first
  |with_reducible assumption
  |(conv=>whnf);first
   |refine lkT (fun s hs=>?_) ?_
   |refine ⟨_,rfl,?_⟩
  |dsimp only
theorem w290 (b:Nat) (a1:Int):WQv 290 [.ipt [.imb (GS b),.imb (GS b),.imb GE],sI a1] sI (fun _=>True):=by
 refine gO Tryz.func290 ?_
 repeat' first
  |with_reducible assumption
  |(conv=>whnf);first
   |apply bJ<;>intro h
   |refine lkF (fun s hs=>?_) ?_
   |refine ⟨_,rfl,?_⟩
  |dsimp only
theorem w303 (a0:List S65) (a1:List S71) (a2:ByteArray) (g0:a0.length≤1000000000) (g1:a1.length≤1000000000):WQv 303 [lE a0,.lst (a1.map S71.c),sS a2] sI (fun r=>True):=by
 refine gO Tryz.func303 ?_
 repeat' first
  |with_reducible assumption
  |(conv=>whnf);first
   |refine wE ‹_› ?_ (fun _=>rfl) ?_
   |refine wG (l:=a1) ?_ ?_ (fun _=>rfl) fun x0 hx hm=>?_
   |apply bD<;>intro h
   |apply bJ<;>intro h
   |apply bS<;>intro h
   |refine lM ?_
   |refine V1 (fun (p0:Int)=>0≤p0∧p0≤(a1.length:Int)) (fun p0=>[(0,lE a0),(2,sS a2),(10,.lst (a1.map S71.c)),(11,sI (a1.length:Int)),(12,sI p0)]) (fun _=>⟨[],0⟩) (fun p0=>((a1.length:Int)+1-p0).toNat) (0:Int) ?_ (fN rfl rfl) fun p0 ⟨i0,i1⟩=>?_
   |refine V1 (fun (q0:Int)=>0≤q0∧q0≤(a0.length:Int)) (fun q0=>[(0,lE a0),(2,sS a2),(8,.box 0 0),(10,.lst (a1.map S71.c)),(11,sI (a1.length:Int)),(12,sI p0),(17,sI (a0.length:Int)),(18,sI q0)]) (fun _=>⟨[(0,.box (S71.c x0) false)],1⟩) (fun q0=>((a0.length:Int)+1-q0).toNat) (0:Int) ?_ (fB1 rfl rfl rfl rfl) fun q0 ⟨i0,i1⟩=>?_
   |refine wG ?_ ?_ (fun _=>rfl) fun x hx hm=>?_
   |refine ⟨by kernel_rfl,?_⟩
   |refine ⟨nx _,?_,?_,(fB1 rfl rfl rfl rfl)⟩
   |refine ⟨nx _,?_,?_,(fN rfl rfl)⟩
   |refine ⟨_,rfl,?_⟩
  |omega
  |dsimp only
  |with_reducible apply And.intro
  |(simp (disch:=omega) only [ls]<;>omega)
theorem w153 (a0:S30) (a1:Int) (g0:a0.f2.length≤1000000000):WQv 153 [.agg (S30.c a0),sI a1] (fun r:S135×Bool=>.tup [.agg (S135.c r.1),sB r.2]) (fun r=>r.2=true→r.1∈a0.f2∧r.1.f1=a1):=by
 refine gO Tryz.func153 ?_
 repeat' first
  |with_reducible assumption
  |(conv=>whnf);first
   |apply bD<;>intro h
   |refine lM ?_
   |refine V2 (fun (p0:S135) (p1:Int)=>0≤p1∧p1≤(a0.f2.length:Int)) (fun _ p1=>[(1,sI a1),(4,.box 0 0),(9,.lst (a0.f2.map S135.c)),(10,sI (a0.f2.length:Int)),(11,sI p1)]) (fun p0 _=>⟨[(0,.box (S135.c p0) false)],1⟩) (fun _ p1=>((a0.f2.length:Int)+1-p1).toNat) ze135 (0:Int) ?_ (ft [(0,some 1)] rfl rfl rfl ⟨fB rfl rfl rfl,trivial⟩) fun p0 p1 ⟨i0,i1⟩=>?_
   |refine wG ?_ ?_ (fun _=>rfl) fun x hx hm=>?_
   |refine ⟨⟨_,nx _⟩,?_,?_,(fB1 rfl rfl rfl rfl)⟩
   |refine ⟨(_,true),rfl,?_⟩
   |refine ⟨(ze135,false),rfl,?_⟩
  |omega
  |dsimp only
  |with_reducible apply And.intro
  |(simp (disch:=omega) only [ls]<;>omega)
  |contradiction
  |intro hr
theorem w316 (a0:Int) (a1:Int):WQv 316 [sI a0,sI a1] sI (fun r=>True):=by
 refine gO Tryz.func316 ?_
 repeat' first
  |with_reducible assumption
  |(conv=>whnf);first
   |apply bD<;>intro h
   |refine V1 (fun (p0:Int)=>0≤p0∧p0≤([(1:Int),(0:Int),(2:Int)].length:Int)) (fun p0=>[(0,sI a0),(1,sI a1),(7,.row 0),(8,sI ([(1:Int),(0:Int),(2:Int)].length:Int)),(9,sI p0)]) (fun _=>⟨[(0,.row (List.map c_i64 [(1:Int),(0:Int),(2:Int)]) 1 false 0)],1⟩) (fun p0=>(([(1:Int),(0:Int),(2:Int)].length:Int)+1-p0).toNat) (0:Int) ?_ (fR1 0 rfl rfl rfl fun _=>rfl) fun p0 ⟨i0,i1⟩=>?_
   |refine wR ?_ ?_ ?_
   |refine wL ?_ ?_ fun x hx=>?_
   |refine ⟨nx _,?_,?_,(fR1 0 rfl rfl rfl fun _=>rfl)⟩
   |refine ⟨_,rfl,?_⟩
  |omega
  |dsimp only
  |with_reducible apply And.intro
  |grind
theorem w479 (a0:S65):WQv 479 [aE a0] lI (fun r=>r=a0.f8):=by
 refine gO Tryz.func479 ?_
 repeat' first
  |(conv=>whnf);first
   |refine ⟨_,rfl,?_⟩
  |dsimp only
theorem w99 (l:List (FuncId×List WV)) (g0:l.length≤1000) (hc:∀p∈l,p.2.all capB=true) (hf:∀p∈l,WQv p.1 ([]++[]++p.2) sB (fun _=>True)):WQv 99 [.lst (l.map cFn)] sB (fun _=>True):=by
 refine gO Tryz.func99 ?_
 repeat' first
  |with_reducible assumption
  |(conv=>whnf);first
   |apply bD<;>intro h
   |apply br<;>intro h
   |refine lM ?_
   |refine wG ?_ ?_ (fun _=>rfl) fun x hx hm=>?_
   |refine view_caps (hc _ (List.mem_of_getElem? hx)) ?_
   |refine wC (hf _ ‹_›) fun z hz=>?_
   |refine V1 (fun (p0:Int)=>0≤p0∧p0≤(l.length:Int)) (fun p0=>[(5,.lst (l.map cFn)),(6,sI (l.length:Int)),(7,sI p0)]) (fun _=>⟨[],0⟩) (fun p0=>((l.length:Int)-p0).toNat) (0:Int) ?_ (fN rfl rfl) fun p0 ⟨i0,i1⟩=>?_
   |refine ⟨nx _,?_,?_,(fN rfl rfl)⟩
   |refine ⟨_,rfl,?_⟩
  |omega
  |dsimp only
  |with_reducible apply And.intro
  |(simp (disch:=omega) only [ls]<;>omega)
theorem w98 (a0:List S65) (a1:Int) (g0:a0.length≤1000000000):WQv 98 [lE a0,sI a1] sI (fun r=>(-1≤r∧r<(a0.length:Int))∧(0≤r→∃e,a0[r.toNat]?=some e∧getI a0 a1=some e)∧(r<0→getI a0 a1=none)):=by
 refine gO Tryz.func98 ?_
 repeat' first
  |with_reducible assumption
  |(conv=>whnf);first
   |refine wC (w164 _ (fun x0_ r=>r=true↔x0_.f0=a1) _ _ rfl (fun x0_=>w165 _ _) ?_) fun z164 hz=>?_
   |refine ⟨_,rfl,?_⟩
  |exact get_of hz
theorem w101 (a0:List S135) (a1:S135→Bool→Prop) (c1:FuncId) (g1:List WV) (hg1:g1.all capB=true) (hf1:∀x0_,WQv c1 ([]++[.agg (S135.c x0_)]++g1) sB (fun r=>a1 x0_ r)) (g20:a0.length≤1000000000):WQv 101 [.lst (a0.map S135.c),.fnp c1 [] g1] sB (fun r=>True):=by
 refine gO Tryz.func101 ?_
 repeat' first
  |with_reducible assumption
  |(conv=>whnf);first
   |refine wC (w166 _ _ _ _ ‹_› ‹_› ?_) fun z166 hz=>?_
   |refine ⟨_,rfl,?_⟩
  |dsimp only
theorem w104 (a0:List Int) (a1:Int) (g0:a0.length≤1000000000):WQv 104 [lI a0,sI a1] sB (fun r=>r=true↔a1∈a0):=by
 refine gO Tryz.func104 ?_
 repeat' first
  |with_reducible assumption
  |(conv=>whnf);first
   |refine wC (w167 _ _ ?_) fun z167 hz=>?_
   |refine ⟨_,rfl,?_⟩
  |(have h3:=hz.2.1;have h4:=hz.2.2;constructor;intro h;exact h3 (by simpa using h);intro h;refine decide_eq_true (Int.not_lt.1 fun q=>h4 q h))
theorem w284 (a0:List S65) (g0:a0.length≤1000000) (g1:∀e∈a0,EB e):WQv 284 [lE a0] sB (fun _=>True):=by
 refine gO Tryz.func284 ?_
 repeat' first
  |with_reducible assumption
  |(conv=>whnf);first
   |refine wE ‹_› ?_ (fun _=>rfl) ?_
   |apply bD<;>intro h
   |apply bN<;>intro h
   |refine wC (w285 a0 ?_) fun z285 hz=>?_
   |refine lM ?_
   |refine wG ?_ ?_ (fun _=>rfl) fun x hx hm=>?_
   |refine wC (w391 a0 x.f8 ?_) fun z391 hz=>?_
   |refine wC (w391 a0 x.f9 ?_) fun z391 hz=>?_
   |refine V1 (fun (p0:Int)=>0≤p0∧p0≤(a0.length:Int)) (fun p0=>[(0,lE a0),(4,.fn 391 [] [.box 0 0]),(9,lE a0),(10,sI (a0.length:Int)),(11,sI p0)]) (fun _=>⟨[(0,.box [.imb (GI a0)] false)],1⟩) (fun p0=>((a0.length:Int)-p0).toNat) (0:Int) ?_ (ft [(0,some 0)] rfl rfl rfl ⟨fX rfl rfl rfl (fun _=>rfl),trivial⟩) fun p0 ⟨i0,i1⟩=>?_
   |refine ⟨nx _,?_,?_,(ft [(0,some 0)] rfl rfl rfl ⟨fX rfl rfl rfl (fun _=>rfl),trivial⟩)⟩
   |refine ⟨_,rfl,?_⟩
  |(have:=g1 _ (List.mem_of_getElem? ‹_›);unfold EB at this;omega)
  |omega
  |with_reducible apply And.intro
  |(simp (disch:=omega) only [ls]<;>omega)
theorem w475 (a0:S71) (a1:S71):WQv 475 [.agg (S71.c a0),.ipt (S71.c a1)] sB (fun r=>True):=by
 refine gO Tryz.func475 ?_
 repeat' first
  |with_reducible assumption
  |(conv=>whnf);first
   |refine wC (w476 _ _) fun z476 hz=>?_
   |refine ⟨_,rfl,?_⟩
theorem w477 (a0:S71) (a1:S71):WQv 477 [.agg (S71.c a0),.ipt (S71.c a1)] sB (fun r=>True):=by
 refine gO Tryz.func477 ?_
 repeat' first
  |with_reducible assumption
  |(conv=>whnf);first
   |refine wC (w476 _ _) fun z476 hz=>?_
   |refine ⟨_,rfl,?_⟩
theorem o163 (a0:List Int) (g0:a0.length≤1000000000):WSQ 163 [lI a0] 1 c_i64 (fun r=>r.length≤a0.length∧(∀x,x∈r↔x∈a0)∧r.Nodup):=by
 refine goS [] Tryz.func163 (by kernel_rfl) ?_
 repeat' first
  |with_reducible assumption
  |(conv=>whnf);first
   |refine wO (o220 a0 ?_) fun zo hz=>?_
   |refine wT (leafs_map (f:=c_i64) (fun _=>rfl) _) (w169 _ ?_) (fun zs hzs=>?_) rfl rfl rfl
   |refine wCp rfl ?_ fun zc dc hc1 hc2 hc3=>?_
   |refine ⟨_,_,deep0 (leafs_map (f:=c_i64) (fun _=>rfl) _),?_⟩
   |refine wnS (f:=c_i64) (fun _=>rfl) ?_
  |(subst hzs hz;rw [sortI_length];omega)
  |(subst hzs hz;rw [sortI_length] at hc1;omega)
  |exact fun x=>by subst hzs hz;rw [hc2 x];exact sortI_mem
  |(subst hzs;exact hc3 (sortI_ord _))
  |with_reducible apply And.intro
  |grind
theorem w1425 (a0:ByteArray) (g0:(a0.size:Int)≤1000000000):WQv 425 [sS a0,.sc (.string (⟨#[58]⟩:ByteArray))] sI (fun r=>(-1≤r∧r<(a0.size:Int))):=by
 refine gO Tryz.func425 ?_
 repeat' first
  |with_reducible assumption
  |(conv=>whnf);first
   |apply bS<;>intro h
   |refine wS ?_ ?_ fun x hb=>?_
   |refine wC (w332 _ _ ?_) fun z332 hz=>?_
   |refine ⟨(0:Int),rfl,?_⟩
   |refine ⟨_,rfl,?_⟩
  |omega
  |(subst h;decide)
  |decide
theorem w242 (a0:ByteArray) (a1:Int) (g0:(a0.size:Int)≤1000000000):WQv 242 [sS a0,.sc (.int .u8 a1)] sI (fun r=>(-1≤r∧r<(a0.size:Int))):=by
 refine gO Tryz.func242 ?_
 repeat' first
  |with_reducible assumption
  |(conv=>whnf);first
   |refine wC (w332 _ _ ?_) fun z332 hz=>?_
   |refine ⟨_,rfl,?_⟩
theorem w334 (a0:ByteArray) (a1:Int→Bool→Prop) (c1:FuncId) (g1:List WV) (hg1:g1.all capB=true) (hf1:∀x0_,WQv c1 ([]++[.sc (.int .u8 x0_)]++g1) sB (fun r=>a1 x0_ r)) (g20:(a0.size:Int)≤1000000000):WQv 334 [sS a0,.fnp c1 [] g1] sB (fun r=>r=true→1≤a0.size∧a0.size≤32):=by
 refine gO Tryz.func334 ?_
 repeat' first
  |with_reducible assumption
  |(conv=>whnf);first
   |apply bD<;>intro h
   |apply bN<;>intro h
   |refine ⟨false,rfl,?_⟩
   |refine V1 (fun (p0:Int)=>0≤p0∧p0≤(a0.size:Int)) (fun p0=>[(0,sS a0),(1,.fnp c1 [] g1),(15,sI (a0.size:Int)),(16,sI p0)]) (fun _=>⟨[],0⟩) (fun p0=>((a0.size:Int)+1-p0).toNat) (0:Int) ?_ (fN rfl rfl) fun p0 ⟨i0,i1⟩=>?_
   |refine wS ?_ ?_ fun x hb=>?_
   |refine wC (w337 _) fun z337 hz=>?_
   |refine view_caps hg1 ?_
   |refine wC (hf1 _) fun z hz=>?_
   |refine ⟨nx _,?_,?_,(fN rfl rfl)⟩
   |refine ⟨true,rfl,?_⟩
  |omega
  |dsimp only
  |with_reducible apply And.intro
  |(simp (disch:=omega) only [ls]<;>omega)
  |contradiction
  |intro hr
theorem w396 (a0:S65) (a1:List S65) (g0:EB a0) (g1:a1.length≤1000000) (g2:∀e∈a1,EB e):WQv 396 [aE a0,lE a1] sB (fun r=>True):=by
 refine gO Tryz.func396 ?_
 repeat' first
  |with_reducible assumption
  |(conv=>whnf);first
   |apply bN<;>intro h
   |apply bD<;>intro h
   |apply bS<;>intro h
   |refine wC (w293 _ ?_) fun z293 hz=>?_
   |refine ⟨by kernel_rfl,?_⟩
   |refine ⟨false,rfl,?_⟩
   |refine lM ?_
   |refine wG ?_ ?_ (fun _=>rfl) fun x hx hm=>?_
   |refine V1 (fun (p0:Int)=>0≤p0∧p0≤(a1.length:Int)) (fun p0=>[(2,.box 0 0),(51,lE a1),(52,sI (a1.length:Int)),(53,sI p0)]) (fun _=>⟨[(0,.box (S65.c a0) false)],1⟩) (fun p0=>((a1.length:Int)+1-p0).toNat) (0:Int) ?_ (fB1 rfl rfl rfl rfl) fun p0 ⟨i0,i1⟩=>?_
   |refine ⟨nx _,?_,?_,(fB1 rfl rfl rfl rfl)⟩
   |refine ⟨true,rfl,?_⟩
  |omega
  |dsimp only
  |with_reducible apply And.intro
  |(simp (disch:=omega) only [ls]<;>omega)
  |grind
theorem w185 (a0:List S65) (a1:Int) (g0:a0.length≤1000000000):WQv 185 [lE a0,sI a1] sI (fun r=>(-1≤r∧r<(a0.length:Int))):=by
 refine gO Tryz.func185 ?_
 repeat' first
  |with_reducible assumption
  |(conv=>whnf);first
   |refine wC (w164 _ (fun x0_ r=>r=true→x0_.f3=a1) _ _ rfl (fun x0_=>w246 _ _) ?_) fun z164 hz=>?_
   |refine ⟨_,rfl,?_⟩
  |omega
theorem w399 (a0:Int) (a1:Int) (a2:List S65) (g0:a2.length≤1000000) (g1:∀e∈a2,EB e):WQv 399 [sI a0,sI a1,lE a2] sI (fun r=>True):=by
 refine gO Tryz.func399 ?_
 repeat' first
  |with_reducible assumption
  |(conv=>whnf);first
   |apply bI<;>intro h
   |refine wC (w462 _ ?_ ?_) fun z462 hz=>?_
   |refine wC (w463 _ _) fun z463 hz=>?_
   |refine wC (w464 _ _) fun z464 hz=>?_
   |refine ⟨_,rfl,?_⟩
theorem w400 (a0:S59) (a1:Int) (g0:a0.f1.length≤1000000):WQv 400 [.agg (S59.c a0),sI a1] sI (fun r=>True):=by
 refine gO Tryz.func400 ?_
 repeat' first
  |with_reducible assumption
  |(conv=>whnf);first
   |apply bD<;>intro h
   |apply br<;>intro h
   |refine lM ?_
   |refine V1 (fun (p0:Int)=>0≤p0∧p0≤(a0.f1.length:Int)) (fun p0=>[(1,sI a1),(2,.box 0 0),(8,.lst (a0.f1.map S215.c)),(9,sI (a0.f1.length:Int)),(10,sI p0)]) (fun _=>⟨[(0,.box (S59.c a0) false)],1⟩) (fun p0=>((a0.f1.length:Int)+1-p0).toNat) (0:Int) ?_ (fB1 rfl rfl rfl rfl) fun p0 ⟨i0,i1⟩=>?_
   |refine wG ?_ ?_ (fun _=>rfl) fun x hx hm=>?_
   |refine ⟨nx _,?_,?_,(fB1 rfl rfl rfl rfl)⟩
   |refine wC (w107 _) fun z107 hz=>?_
   |refine ⟨_,rfl,?_⟩
  |omega
  |dsimp only
  |with_reducible apply And.intro
  |(simp (disch:=omega) only [ls]<;>omega)
end Go.Abs.RM
