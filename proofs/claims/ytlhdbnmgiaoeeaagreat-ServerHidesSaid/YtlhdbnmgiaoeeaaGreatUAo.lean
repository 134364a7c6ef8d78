/- Of ServerHides: walks. -/
import Derived.Test.YtlhdbnmgiaoeeaaGreatUAn
set_option linter.all false
namespace Go.Abs.RM
open Go.Proofs Go.Proofs.RMH
set_option maxRecDepth 100000
set_option maxHeartbeats 40000000
theorem w448 (a0:ByteArray) (g0:(a0.size:Int)<=1000000):WQv 161 [sS a0] sB (λr=>True):=by
 refine gO Tryz.func161 ?_
 repeat' first
  |with_reducible assumption
  |(conv=>whnf);first
   |apply bD<;>intro h
   |refine V1 (λ(p0:Int)=>0<=p0/\p0<=(a0.size:Int)) (λp0=>[(0,sS a0),(5,sI (a0.size:Int)),(6,sI p0)]) (λ_=>⟨[],0⟩) (λp0=>((a0.size:Int)+1-p0).toNat) (0:Int) ?_ (fN rfl rfl) λp0 ⟨i0,i1⟩=>?_
   |refine wS ?_ ?_ λx hb=>?_
   |refine ⟨false,rfl,?_⟩
   |refine ⟨nx _,?_,?_,(fN rfl rfl)⟩
   |refine ⟨_,rfl,?_⟩
  |omega
  |dsimp only
  |with_reducible apply And.intro
  |(simp (disch:=omega) only [ls]<;>omega)
theorem w385 (a0:List Int) (g0:a0.length<=1000000):WQv 79 [lI a0] sB (λr=>True):=by
 refine gO Tryz.func79 ?_
 repeat' first
  |with_reducible assumption
  |(conv=>whnf);first
   |apply bD<;>intro h
   |refine lM ?_
   |refine V1 (λ(p0:Int)=>0<=p0/\p0<=(a0.length:Int)) (λp0=>[(0,lI a0),(5,lI a0),(6,sI (a0.length:Int)),(7,sI p0)]) (λ_=>⟨[],0⟩) (λp0=>((a0.length:Int)+1-p0).toNat) (0:Int) ?_ (fN rfl rfl) λp0 ⟨i0,i1⟩=>?_
   |refine wG ?_ ?_ (λ_=>rfl) λx hx hm=>?_
   |refine ⟨false,rfl,?_⟩
   |refine ⟨nx _,?_,?_,(fN rfl rfl)⟩
   |refine ⟨true,rfl,?_⟩
  |omega
  |dsimp only
  |with_reducible apply And.intro
  |(simp (disch:=omega) only [ls]<;>omega)
theorem w132 (a0:ByteArray) (g0:(a0.size:Int)<=1000000000):WQv 259 [sS a0] sI (λr=>r=0->asciiB a0=true/\a0.size<=64):=by
 refine gO Tryz.func259 ?_
 repeat' first
  |with_reducible assumption
  |(conv=>whnf);first
   |apply bS<;>intro h
   |apply bD<;>intro h
   |refine V1 (λ(p0:Int)=>0<=p0/\p0<=(a0.size:Int)/\AS a0 p0) (λp0=>[(0,sS a0),(12,sI (a0.size:Int)),(13,sI p0)]) (λ_=>⟨[],0⟩) (λp0=>((a0.size:Int)+1-p0).toNat) (0:Int) ?_ (fN rfl rfl) λp0 ⟨i0,i1,i2⟩=>?_
   |refine wS ?_ ?_ λx hb=>?_
   |refine ⟨nx _,?_,?_,(fN rfl rfl)⟩
   |refine ⟨(9:Int),rfl,?_⟩
   |refine ⟨(7:Int),rfl,?_⟩
   |refine ⟨(3:Int),rfl,?_⟩
   |refine ⟨(0:Int),rfl,?_⟩
  |omega
  |exact AS.z
  |exact AS.nx ‹AS a0 _› i0 (by omega) hb (by omega)
  |exact asc_all ‹AS a0 _› ‹_›
  |dsimp only
  |with_reducible apply And.intro
  |(simp (disch:=omega) only [ls]<;>omega)
  |intro hr
theorem w452 (a0:Int) (a1:S61) (g0:CB a1 400 100):WQv 166 [sI a0,.agg (S61.c a1)] sI (λr=>True):=by
 refine gO Tryz.func166 ?_
 repeat' first
  |(conv=>whnf);first
   |apply bI<;>intro h
   |apply bD<;>intro h
   |refine ⟨(2:Int),rfl,?_⟩
   |refine ⟨(0:Int),rfl,?_⟩
  |dsimp only
theorem w453 (a0:Int) (a1:S61) (g0:CB a1 400 100):WQv 167 [sI a0,.agg (S61.c a1)] sI (λr=>True):=by
 refine gO Tryz.func167 ?_
 repeat' first
  |(conv=>whnf);first
   |apply bD<;>intro h
   |apply bJ<;>intro h
   |refine ⟨(2:Int),rfl,?_⟩
   |refine ⟨(0:Int),rfl,?_⟩
  |dsimp only
theorem w454 (a0:Int) (a1:S61) (g0:CB a1 400 100):WQv 168 [sI a0,.agg (S61.c a1)] sI (λr=>True):=by
 refine gO Tryz.func168 ?_
 repeat' first
  |(conv=>whnf);first
   |apply bI<;>intro h
   |apply br<;>intro h
   |refine ⟨(1:Int),rfl,?_⟩
   |refine ⟨(0:Int),rfl,?_⟩
  |dsimp only
theorem w449 (a0:Int):WQv 163 [sI a0] sB (λr=>True):=by
 refine gO Tryz.func163 ?_
 repeat' first
  |(conv=>whnf);first
   |apply bD<;>intro h
   |refine ⟨false,rfl,?_⟩
   |refine ⟨_,rfl,?_⟩
  |dsimp only
theorem w500 (a0:S59) (g0:a0.f0.length<=1000) (g1:a0.f1.length<=1000):WQv 258 [.agg (S59.c a0)] sB (λr=>True):=by
 refine gO Tryz.func258 ?_
 repeat' first
  |(conv=>whnf);first
   |apply bI<;>intro h
   |refine lM ?_
   |refine ⟨false,rfl,?_⟩
   |refine ⟨_,rfl,?_⟩
  |dsimp only
theorem w503 (a0:Int):WQv 262 [sI a0] sB (λr=>True):=by
 refine gO Tryz.func262 ?_
 repeat' first
  |(conv=>whnf);first
   |apply bD<;>intro h
   |refine ⟨true,rfl,?_⟩
   |refine ⟨_,rfl,?_⟩
  |dsimp only
theorem w387 (a0:List ByteArray) (a1:List ByteArray) (g0:a0.length<=1000000):WQv 81 [.lst (a0.map cStr),.lst (a1.map cStr)] sB (λr=>True):=by
 refine gO Tryz.func81 ?_
 repeat' first
  |with_reducible assumption
  |(conv=>whnf);first
   |apply bJ<;>intro h
   |apply bD<;>intro h
   |apply bT'<;>intro h
   |refine lM ?_
   |refine ⟨false,rfl,?_⟩
   |refine V1 (λ(p0:Int)=>0<=p0/\p0<=(a0.length:Int)) (λp0=>[(0,.lst (a0.map cStr)),(1,.lst (a1.map cStr)),(12,sI (a0.length:Int)),(13,sI p0)]) (λ_=>⟨[],0⟩) (λp0=>((a0.length:Int)+1-p0).toNat) (0:Int) ?_ (fN rfl rfl) λp0 ⟨i0,i1⟩=>?_
   |refine wG ?_ ?_ (λ_=>rfl) λx hx hm=>?_
   |refine ⟨by kernel_rfl,?_⟩
   |refine ⟨nx _,?_,?_,(fN rfl rfl)⟩
   |refine ⟨true,rfl,?_⟩
  |omega
  |dsimp only
  |with_reducible apply And.intro
  |(simp (disch:=omega) only [ls]<;>omega)
theorem w388 (a0:List S179) (a1:List S179) (g0:a0.length<=1000000):WQv 82 [.lst (a0.map S179.c),.lst (a1.map S179.c)] sB (λr=>True):=by
 refine gO Tryz.func82 ?_
 repeat' first
  |with_reducible assumption
  |(conv=>whnf);first
   |apply bJ<;>intro h
   |apply bD<;>intro h
   |apply br<;>intro h
   |refine lM ?_
   |refine ⟨false,rfl,?_⟩
   |refine V1 (λ(p0:Int)=>0<=p0/\p0<=(a0.length:Int)) (λp0=>[(0,.lst (a0.map S179.c)),(1,.lst (a1.map S179.c)),(12,sI (a0.length:Int)),(13,sI p0)]) (λ_=>⟨[],0⟩) (λp0=>((a0.length:Int)+1-p0).toNat) (0:Int) ?_ (fN rfl rfl) λp0 ⟨i0,i1⟩=>?_
   |refine wG ?_ ?_ (λ_=>rfl) λx hx hm=>?_
   |refine λ(_:Bool) _=>?_
   |refine ⟨by kernel_rfl,?_⟩
   |refine ⟨nx _,?_,?_,(fN rfl rfl)⟩
   |refine ⟨true,rfl,?_⟩
  |omega
  |dsimp only
  |with_reducible apply And.intro
  |(simp (disch:=omega) only [ls]<;>omega)
theorem w389 (a0:List S215) (a1:List S215) (g0:a0.length<=1000000):WQv 83 [.lst (a0.map S215.c),.lst (a1.map S215.c)] sB (λr=>True):=by
 refine gO Tryz.func83 ?_
 repeat' first
  |with_reducible assumption
  |(conv=>whnf);first
   |apply bJ<;>intro h
   |apply bD<;>intro h
   |apply br<;>intro h
   |refine lM ?_
   |refine ⟨false,rfl,?_⟩
   |refine V1 (λ(p0:Int)=>0<=p0/\p0<=(a0.length:Int)) (λp0=>[(0,.lst (a0.map S215.c)),(1,.lst (a1.map S215.c)),(12,sI (a0.length:Int)),(13,sI p0)]) (λ_=>⟨[],0⟩) (λp0=>((a0.length:Int)+1-p0).toNat) (0:Int) ?_ (fN rfl rfl) λp0 ⟨i0,i1⟩=>?_
   |refine wG ?_ ?_ (λ_=>rfl) λx hx hm=>?_
   |refine λ(_:Bool) _=>?_
   |refine ⟨by kernel_rfl,?_⟩
   |refine ⟨nx _,?_,?_,(fN rfl rfl)⟩
   |refine ⟨true,rfl,?_⟩
  |omega
  |dsimp only
  |with_reducible apply And.intro
  |(simp (disch:=omega) only [ls]<;>omega)
theorem w393 (a0:List S65) (g0:a0.length<=1000000) (g1:∀e∈a0,EB e):WQv 234 [lE a0] lI (λr=>r.length<=a0.length):=by
 refine gO Tryz.func234 ?_
 repeat' first
  |with_reducible assumption
  |(conv=>whnf);first
   |refine wLE ‹_› ?_
   |refine wE ‹_› ?_ (λ_=>rfl) ?_
   |refine wG (l:=a0) ?_ ?_ (λ_=>rfl) λx0 hx hm=>?_
   |refine wL (l:=q0) (i:=IntKind.wrap .i64 (q1-(1:Int))) ?_ ?_ λy1 hx=>?_
   |refine wL (l:=q0) (i:=q1) ?_ ?_ λy2 hx=>?_
   |apply bD<;>intro h
   |refine lM ?_
   |refine ⟨Int.le_refl 0,?_,?_,?_,[],rfl,?_⟩
   |refine V2 (λ(p0:List S393) (p1:Int)=>0<=p1/\p1<=(a0.length:Int)/\(p0.length:Int)<=p1/\p1<=(p0.length:Int)) (λ_ p1=>[(0,lE a0),(3,.row 0),(15,sI (a0.length:Int)),(16,sI p1)]) (λp0 _=>⟨[(0,.row (p0.map S393.c) 2 false 0)],1⟩) (λ_ p1=>((a0.length:Int)+1-p1).toNat) ([]:List S393) (0:Int) ?_ (fR1 0 rfl rfl rfl λ_=>rfl) λp0 p1 ⟨i0,i1,i2,i3⟩=>?_
   |refine wA (f:=S393.c) (m:=[⟨_,_⟩]) rfl (λ_=>⟨rfl,rfl⟩) ?_ ?_ ?_
   |refine ⟨by kernel_rfl,?_⟩
   |refine V2 (λ(q0:List S393) (q1:Int)=>(q0.length:Int)<=p1+1/\p1+1<=(q0.length:Int)/\0<=q1/\q1<(q0.length:Int)) (λ_ q1=>[(0,lE a0),(3,.row 0),(5,sI q1),(15,sI (a0.length:Int)),(16,sI p1)]) (λq0 _=>⟨[(0,.row (q0.map S393.c) 2 false 0)],1⟩) (λ_ q1=>(q1+1).toNat) (p0++[(⟨x0.f7,x0.f0⟩:S393)]) (IntKind.wrap .i64 (((p0++[(⟨x0.f7,x0.f0⟩:S393)]).length:Int)-(1:Int))) ?_ (fR1 2 rfl rfl rfl λ_=>rfl) λq0 q1 ⟨i0,i1,i2,i3⟩=>?_
   |refine wR ?_ ?_ ?_
   |refine ⟨⟨_,nx _⟩,?_,?_,(fR1 0 rfl rfl rfl λ_=>rfl)⟩
   |refine wL ?_ ?_ λx hx=>?_
   |refine ⟨_,(List.map_set (f:=S393.c) (a:=y2)).symm,?_⟩
   |refine ⟨_,(List.map_set (f:=S393.c) (a:=y1)).symm,?_⟩
   |refine ⟨⟨_,IntKind.wrap .i64 (q1-(1:Int))⟩,?_,?_,(fR1 0 rfl rfl rfl λ_=>rfl)⟩
   |refine wK (f:=c_i64) rfl ?_ ?_ ?_ ?_
   |refine V2 (λ(q0:List Int) (q1:Int)=>0<=q1/\q1<=(p0.length:Int)/\(q0.length:Int)<=(p0.length:Int)/\(p0.length:Int)<=(q0.length:Int)) (λ_ q1=>[(8,.row 0),(81,.row 1),(82,sI (p0.length:Int)),(83,sI q1)]) (λq0 _=>⟨[(0,.row (q0.map c_i64) 1 false 0),(1,.row (p0.map S393.c) 2 false 1)],2⟩) (λ_ q1=>((p0.length:Int)+1-q1).toNat) (List.replicate ((p0.length:Int).toNat) 0) (0:Int) ?_ (ft [(0,some 1),(1,some 0)] rfl rfl rfl ⟨fR rfl rfl λ_=>rfl,fR rfl rfl λ_=>rfl,trivial⟩) λq0 q1 ⟨i0,i1,i2,i3⟩=>?_
   |refine ⟨_,(List.map_set (f:=c_i64) (a:=x.f1)).symm,?_⟩
   |refine ⟨⟨_,nx _⟩,?_,?_,(ft [(0,some 0),(1,some 1)] rfl rfl rfl ⟨fR rfl rfl λ_=>rfl,fR rfl rfl λ_=>rfl,trivial⟩)⟩
   |refine ⟨_,_,deep0 (leafs_map (f:=c_i64) (λ_=>rfl) _),?_⟩
   |refine ⟨_,rfl,?_⟩
  |omega
  |dsimp only
  |with_reducible apply And.intro
  |(simp (disch:=omega) only [ls]<;>omega)
  |grind
theorem w402 (a0:List S65) (a1:Int->Bool->Prop) (c1:FuncId) (g1:List WV) (hg1:g1.all capB=true) (hf1:∀x0_,WQv c1 ([]++[sI x0_]++g1) sB (λr=>a1 x0_ r)) (g20:a0.length<=1000000) (g21:∀e∈a0,EB e):WQv 328 [lE a0,.fnp c1 [] g1] lI (λr=>r.length<=a0.length):=by
 refine gO Tryz.func328 ?_
 repeat' first
  |with_reducible assumption
  |(conv=>whnf);first
   |refine wE ‹_› ?_ (λ_=>rfl) ?_
   |apply bD<;>intro h
   |apply br<;>intro h
   |refine lM ?_
   |refine V2 (λ(p0:List Int) (p1:Int)=>0<=p1/\p1<=(a0.length:Int)/\(p0.length:Int)<=p1) (λ_ p1=>[(0,lE a0),(1,.fnp c1 [] g1),(5,.row 0),(8,sI (a0.length:Int)),(9,sI p1)]) (λp0 _=>⟨[(0,.row (p0.map c_i64) 1 false 0)],1⟩) (λ_ p1=>((a0.length:Int)+1-p1).toNat) [] (0:Int) ?_ (ft [(0,none)] rfl rfl rfl ⟨fitO_nil rfl rfl,trivial⟩) λp0 p1 ⟨i0,i1,i2⟩=>?_
   |refine wG ?_ ?_ (λ_=>rfl) λx hx hm=>?_
   |refine view_caps hg1 ?_
   |refine wC (hf1 _) λz hz=>?_
   |refine wA (f:=c_i64) (m:=[_]) rfl (λ_=>⟨rfl,rfl⟩) ?_ ?_ ?_
   |refine ⟨⟨_,nx _⟩,?_,?_,(fR1 2 rfl rfl rfl λ_=>rfl)⟩
   |refine ⟨⟨_,nx _⟩,?_,?_,(fR1 0 rfl rfl rfl λ_=>rfl)⟩
   |refine ⟨_,_,deep0 (leafs_map (f:=c_i64) (λ_=>rfl) _),?_⟩
   |refine ⟨_,rfl,?_⟩
  |omega
  |dsimp only
  |with_reducible apply And.intro
  |(simp (disch:=omega) only [ls]<;>omega)
theorem w403 (b:Nat) (a1:Int):WQv 329 [sI a1,.ipt [.ipt [.imb (GS b),.imb (GS b),.imb GE]]] sB (λ_=>True):=by
 refine gO Tryz.func329 ?_
 repeat' first
  |with_reducible assumption
  |(conv=>whnf);first
   |refine lkF (λs hs=>?_) ?_
   |refine ⟨_,rfl,?_⟩
  |dsimp only
theorem w289n (a1:Int):WQv 130 [.sc (.pointer none),sI a1] sB (λr=>r=false):=by
 refine gO Tryz.func130 ?_
 repeat' first
  |(conv=>whnf);first
   |refine ⟨_,rfl,?_⟩
  |dsimp only
theorem w289s (b:Nat) (a1:Int):WQv 130 [.ipt [.imb (GS b),.imb (GS b),.imb GE],sI a1] sB (λ_=>True):=by
 refine gO Tryz.func130 ?_
 repeat' first
  |with_reducible assumption
  |(conv=>whnf);first
   |refine lkT (λs hs=>?_) ?_
   |refine ⟨_,rfl,?_⟩
  |dsimp only
theorem w290 (b:Nat) (a1:Int):WQv 314 [.ipt [.imb (GS b),.imb (GS b),.imb GE],sI a1] sI (λ_=>True):=by
 refine gO Tryz.func314 ?_
 repeat' first
  |with_reducible assumption
  |(conv=>whnf);first
   |apply bJ<;>intro h
   |refine lkF (λs hs=>?_) ?_
   |refine ⟨_,rfl,?_⟩
  |dsimp only
theorem w303 (a0:List S65) (a1:List S71) (a2:ByteArray) (g0:a0.length<=1000000000) (g1:a1.length<=1000000000):WQv 270 [lE a0,.lst (a1.map S71.c),sS a2] sI (λr=>True):=by
 refine gO Tryz.func270 ?_
 repeat' first
  |with_reducible assumption
  |(conv=>whnf);first
   |refine wE ‹_› ?_ (λ_=>rfl) ?_
   |refine wG (l:=a1) ?_ ?_ (λ_=>rfl) λx0 hx hm=>?_
   |apply bD<;>intro h
   |apply bJ<;>intro h
   |apply bS<;>intro h
   |refine lM ?_
   |refine V1 (λ(p0:Int)=>0<=p0/\p0<=(a1.length:Int)) (λp0=>[(0,lE a0),(2,sS a2),(10,.lst (a1.map S71.c)),(11,sI (a1.length:Int)),(12,sI p0)]) (λ_=>⟨[],0⟩) (λp0=>((a1.length:Int)+1-p0).toNat) (0:Int) ?_ (fN rfl rfl) λp0 ⟨i0,i1⟩=>?_
   |refine V1 (λ(q0:Int)=>0<=q0/\q0<=(a0.length:Int)) (λq0=>[(0,lE a0),(2,sS a2),(8,.box 0 0),(10,.lst (a1.map S71.c)),(11,sI (a1.length:Int)),(12,sI p0),(17,sI (a0.length:Int)),(18,sI q0)]) (λ_=>⟨[(0,.box (S71.c x0) false)],1⟩) (λq0=>((a0.length:Int)+1-q0).toNat) (0:Int) ?_ (fB1 rfl rfl rfl rfl) λq0 ⟨i0,i1⟩=>?_
   |refine wG ?_ ?_ (λ_=>rfl) λx hx hm=>?_
   |refine ⟨by kernel_rfl,?_⟩
   |refine ⟨nx _,?_,?_,(fB1 rfl rfl rfl rfl)⟩
   |refine ⟨nx _,?_,?_,(fN rfl rfl)⟩
   |refine ⟨_,rfl,?_⟩
  |omega
  |dsimp only
  |with_reducible apply And.intro
  |(simp (disch:=omega) only [ls]<;>omega)
theorem w153 (a0:S30) (a1:Int) (g0:a0.f2.length<=1000000000):WQv 125 [.agg (S30.c a0),sI a1] (λr:S135×Bool=>.tup [.agg (S135.c r.1),sB r.2]) (λr=>r.2=true->r.1∈a0.f2/\r.1.f1=a1):=by
 refine gO Tryz.func125 ?_
 repeat' first
  |with_reducible assumption
  |(conv=>whnf);first
   |apply bD<;>intro h
   |refine lM ?_
   |refine V2 (λ(p0:S135) (p1:Int)=>0<=p1/\p1<=(a0.f2.length:Int)) (λ_ p1=>[(1,sI a1),(4,.box 0 0),(9,.lst (a0.f2.map S135.c)),(10,sI (a0.f2.length:Int)),(11,sI p1)]) (λp0 _=>⟨[(0,.box (S135.c p0) false)],1⟩) (λ_ p1=>((a0.f2.length:Int)+1-p1).toNat) ze135 (0:Int) ?_ (ft [(0,some 1)] rfl rfl rfl ⟨fB rfl rfl rfl,trivial⟩) λp0 p1 ⟨i0,i1⟩=>?_
   |refine wG ?_ ?_ (λ_=>rfl) λx hx hm=>?_
   |refine ⟨⟨_,nx _⟩,?_,?_,(fB1 rfl rfl rfl rfl)⟩
   |refine ⟨(_,true),rfl,?_⟩
   |refine ⟨(ze135,false),rfl,?_⟩
  |omega
  |dsimp only
  |with_reducible apply And.intro
  |(simp (disch:=omega) only [ls]<;>omega)
  |contradiction
  |intro hr
theorem w316 (a0:Int) (a1:Int):WQv 285 [sI a0,sI a1] sI (λr=>True):=by
 refine gO Tryz.func285 ?_
 repeat' first
  |with_reducible assumption
  |(conv=>whnf);first
   |apply bD<;>intro h
   |refine V1 (λ(p0:Int)=>0<=p0/\p0<=([(1:Int),(0:Int),(2:Int)].length:Int)) (λp0=>[(0,sI a0),(1,sI a1),(7,.row 0),(8,sI ([(1:Int),(0:Int),(2:Int)].length:Int)),(9,sI p0)]) (λ_=>⟨[(0,.row (List.map c_i64 [(1:Int),(0:Int),(2:Int)]) 1 false 0)],1⟩) (λp0=>(([(1:Int),(0:Int),(2:Int)].length:Int)+1-p0).toNat) (0:Int) ?_ (fR1 0 rfl rfl rfl λ_=>rfl) λp0 ⟨i0,i1⟩=>?_
   |refine wR ?_ ?_ ?_
   |refine wL ?_ ?_ λx hx=>?_
   |refine ⟨nx _,?_,?_,(fR1 0 rfl rfl rfl λ_=>rfl)⟩
   |refine ⟨_,rfl,?_⟩
  |omega
  |dsimp only
  |with_reducible apply And.intro
  |grind
theorem w479 (a0:S65):WQv 404 [aE a0] lI (λr=>r=a0.f8):=by
 refine gO Tryz.func404 ?_
 repeat' first
  |(conv=>whnf);first
   |refine ⟨_,rfl,?_⟩
  |dsimp only
theorem w99 (l:List (FuncId×List WV)) (g0:l.length<=1000) (hc:∀p∈l,p.2.all capB=true) (hf:∀p∈l,WQv p.1 ([]++[]++p.2) sB (λ_=>True)):WQv 51 [.lst (l.map cFn)] sB (λ_=>True):=by
 refine gO Tryz.func51 ?_
 repeat' first
  |with_reducible assumption
  |(conv=>whnf);first
   |apply bD<;>intro h
   |apply br<;>intro h
   |refine lM ?_
   |refine wG ?_ ?_ (λ_=>rfl) λx hx hm=>?_
   |refine view_caps (hc _ (List.mem_of_getElem? hx)) ?_
   |refine wC (hf _ ‹_›) λz hz=>?_
   |refine V1 (λ(p0:Int)=>0<=p0/\p0<=(l.length:Int)) (λp0=>[(5,.lst (l.map cFn)),(6,sI (l.length:Int)),(7,sI p0)]) (λ_=>⟨[],0⟩) (λp0=>((l.length:Int)-p0).toNat) (0:Int) ?_ (fN rfl rfl) λp0 ⟨i0,i1⟩=>?_
   |refine ⟨nx _,?_,?_,(fN rfl rfl)⟩
   |refine ⟨_,rfl,?_⟩
  |omega
  |dsimp only
  |with_reducible apply And.intro
  |(simp (disch:=omega) only [ls]<;>omega)
theorem w334 (a0:ByteArray) (a1:Int->Bool->Prop) (c1:FuncId) (g1:List WV) (hg1:g1.all capB=true) (hf1:∀x0_,WQv c1 ([]++[.sc (.int .u8 x0_)]++g1) sB (λr=>a1 x0_ r)) (g20:(a0.size:Int)<=9223372036854775807):WQv 157 [sS a0,.fnp c1 [] g1] sB (λr=>r=true->1<=a0.size/\a0.size<=32):=by
 refine gO Tryz.func157 ?_
 repeat' first
  |with_reducible assumption
  |(conv=>whnf);first
   |apply bD<;>intro h
   |apply bN<;>intro h
   |refine ⟨false,rfl,?_⟩
   |refine V1 (λ(p0:Int)=>0<=p0/\p0<=(a0.size:Int)) (λp0=>[(0,sS a0),(1,.fnp c1 [] g1),(15,sI (a0.size:Int)),(16,sI p0)]) (λ_=>⟨[],0⟩) (λp0=>((a0.size:Int)+1-p0).toNat) (0:Int) ?_ (fN rfl rfl) λp0 ⟨i0,i1⟩=>?_
   |refine wS ?_ ?_ λx hb=>?_
   |refine wC (w337 _) λz337 hz=>?_
   |refine view_caps hg1 ?_
   |refine wC (hf1 _) λz hz=>?_
   |refine ⟨nx _,?_,?_,(fN rfl rfl)⟩
   |refine ⟨true,rfl,?_⟩
  |omega
  |dsimp only
  |with_reducible apply And.intro
  |(simp (disch:=omega) only [ls]<;>omega)
  |contradiction
  |intro hr
theorem w98 (a0:List S65) (a1:Int) (g0:a0.length<=1000000000):WQv 99 [lE a0,sI a1] sI (λr=>(-1<=r/\r<(a0.length:Int))/\(0<=r->∃e,a0[r.toNat]?=some e/\getI a0 a1=some e)/\(r<0->getI a0 a1=none)):=by
 refine gO Tryz.func99 ?_
 repeat' first
  |with_reducible assumption
  |(conv=>whnf);first
   |refine wC (w164 _ (λx0_ r=>r=true↔x0_.f0=a1) _ _ rfl (λx0_=>w165 _ _) ?_) λz164 hz=>?_
   |refine ⟨_,rfl,?_⟩
  |exact get_of hz
theorem w101 (a0:List S135) (a1:S135->Bool->Prop) (c1:FuncId) (g1:List WV) (hg1:g1.all capB=true) (hf1:∀x0_,WQv c1 ([]++[.agg (S135.c x0_)]++g1) sB (λr=>a1 x0_ r)) (g20:a0.length<=1000000000):WQv 53 [.lst (a0.map S135.c),.fnp c1 [] g1] sB (λr=>True):=by
 refine gO Tryz.func53 ?_
 repeat' first
  |with_reducible assumption
  |(conv=>whnf);first
   |refine wC (w166 _ _ _ _ ‹_› ‹_› ?_) λz166 hz=>?_
   |refine ⟨_,rfl,?_⟩
  |dsimp only
theorem w104 (a0:List Int) (a1:Int) (g0:a0.length<=1000000000):WQv 56 [lI a0,sI a1] sB (λr=>r=true↔a1∈a0):=by
 refine gO Tryz.func56 ?_
 repeat' first
  |with_reducible assumption
  |(conv=>whnf);first
   |refine wC (w167 _ _ ?_) λz167 hz=>?_
   |refine ⟨_,rfl,?_⟩
  |(have h3:=hz.2.1;have h4:=hz.2.2;constructor;intro h;exact h3 (by simpa using h);intro h;refine decide_eq_true (Int.not_lt.1 λq=>h4 q h))
theorem w284 (a0:List S65) (g0:a0.length<=1000000) (g1:∀e∈a0,EB e):WQv 249 [lE a0] sB (λ_=>True):=by
 refine gO Tryz.func249 ?_
 repeat' first
  |with_reducible assumption
  |(conv=>whnf);first
   |refine wE ‹_› ?_ (λ_=>rfl) ?_
   |apply bD<;>intro h
   |apply bN<;>intro h
   |refine wC (w285 a0 ?_) λz285 hz=>?_
   |refine lM ?_
   |refine wG ?_ ?_ (λ_=>rfl) λx hx hm=>?_
   |refine wC (w391 a0 x.f8 ?_) λz391 hz=>?_
   |refine wC (w391 a0 x.f9 ?_) λz391 hz=>?_
   |refine V1 (λ(p0:Int)=>0<=p0/\p0<=(a0.length:Int)) (λp0=>[(0,lE a0),(4,.fn 326 [] [.box 0 0]),(9,lE a0),(10,sI (a0.length:Int)),(11,sI p0)]) (λ_=>⟨[(0,.box [.imb (GI a0)] false)],1⟩) (λp0=>((a0.length:Int)-p0).toNat) (0:Int) ?_ (ft [(0,some 0)] rfl rfl rfl ⟨fX rfl rfl rfl (λ_=>rfl),trivial⟩) λp0 ⟨i0,i1⟩=>?_
   |refine ⟨nx _,?_,?_,(ft [(0,some 0)] rfl rfl rfl ⟨fX rfl rfl rfl (λ_=>rfl),trivial⟩)⟩
   |refine ⟨_,rfl,?_⟩
  |(have:=g1 _ (List.mem_of_getElem? ‹_›);unfold EB at this;omega)
  |omega
  |with_reducible apply And.intro
  |(simp (disch:=omega) only [ls]<;>omega)
theorem w475 (a0:S71) (a1:S71):WQv 400 [.agg (S71.c a0),.ipt (S71.c a1)] sB (λr=>True):=by
 refine gO Tryz.func400 ?_
 repeat' first
  |with_reducible assumption
  |(conv=>whnf);first
   |refine wC (w476 _ _) λz476 hz=>?_
   |refine ⟨_,rfl,?_⟩
theorem w477 (a0:S71) (a1:S71):WQv 402 [.agg (S71.c a0),.ipt (S71.c a1)] sB (λr=>True):=by
 refine gO Tryz.func402 ?_
 repeat' first
  |with_reducible assumption
  |(conv=>whnf);first
   |refine wC (w476 _ _) λz476 hz=>?_
   |refine ⟨_,rfl,?_⟩
theorem o163 (a0:List Int) (g0:a0.length<=1000000000):WSQ 309 [lI a0] 1 c_i64 (λr=>r.length<=a0.length/\(∀x,x∈r↔x∈a0)/\r.Nodup):=by
 refine goS [] Tryz.func309 (by kernel_rfl) ?_
 repeat' first
  |with_reducible assumption
  |(conv=>whnf);first
   |refine wO (o220 a0 ?_) λzo hz=>?_
   |refine wT (leafs_map (f:=c_i64) (λ_=>rfl) _) (w169 _ ?_) (λzs hzs=>?_) rfl rfl rfl
   |refine wCp rfl ?_ λzc dc hc1 hc2 hc3=>?_
   |refine ⟨_,_,deep0 (leafs_map (f:=c_i64) (λ_=>rfl) _),?_⟩
   |refine wnS (f:=c_i64) (λ_=>rfl) ?_
  |(subst hzs hz;rw [sortI_length];omega)
  |(subst hzs hz;rw [sortI_length] at hc1;omega)
  |exact λx=>by subst hzs hz;rw [hc2 x];exact sortI_mem
  |(subst hzs;exact hc3 (sortI_ord _))
  |with_reducible apply And.intro
  |grind
theorem w1425 (a0:ByteArray) (g0:(a0.size:Int)<=1000000000):WQv 333 [sS a0,.sc (.string (⟨#[58]⟩:ByteArray))] sI (λr=>(-1<=r/\r<(a0.size:Int))):=by
 refine gO Tryz.func333 ?_
 repeat' first
  |with_reducible assumption
  |(conv=>whnf);first
   |apply bS<;>intro h
   |refine wS ?_ ?_ λx hb=>?_
   |refine wC (w332 _ _ ?_) λz332 hz=>?_
   |refine ⟨(0:Int),rfl,?_⟩
   |refine ⟨_,rfl,?_⟩
  |omega
  |(subst h;decide)
  |decide
theorem w242 (a0:ByteArray) (a1:Int) (g0:(a0.size:Int)<=1000000000):WQv 183 [sS a0,.sc (.int .u8 a1)] sI (λr=>(-1<=r/\r<(a0.size:Int))):=by
 refine gO Tryz.func183 ?_
 repeat' first
  |with_reducible assumption
  |(conv=>whnf);first
   |refine wC (w332 _ _ ?_) λz332 hz=>?_
   |refine ⟨_,rfl,?_⟩
theorem w396 (a0:S65) (a1:List S65) (g0:EB a0) (g1:a1.length<=1000000) (g2:∀e∈a1,EB e):WQv 298 [aE a0,lE a1] sB (λr=>True):=by
 refine gO Tryz.func298 ?_
 repeat' first
  |with_reducible assumption
  |(conv=>whnf);first
   |apply bN<;>intro h
   |apply bD<;>intro h
   |apply bS<;>intro h
   |refine wC (w293 _ ?_) λz293 hz=>?_
   |refine ⟨by kernel_rfl,?_⟩
   |refine ⟨false,rfl,?_⟩
   |refine lM ?_
   |refine wG ?_ ?_ (λ_=>rfl) λx hx hm=>?_
   |refine V1 (λ(p0:Int)=>0<=p0/\p0<=(a1.length:Int)) (λp0=>[(2,.box 0 0),(51,lE a1),(52,sI (a1.length:Int)),(53,sI p0)]) (λ_=>⟨[(0,.box (S65.c a0) false)],1⟩) (λp0=>((a1.length:Int)+1-p0).toNat) (0:Int) ?_ (fB1 rfl rfl rfl rfl) λp0 ⟨i0,i1⟩=>?_
   |refine ⟨nx _,?_,?_,(fB1 rfl rfl rfl rfl)⟩
   |refine ⟨true,rfl,?_⟩
  |omega
  |dsimp only
  |with_reducible apply And.intro
  |(simp (disch:=omega) only [ls]<;>omega)
  |grind
theorem w185 (a0:List S65) (a1:Int) (g0:a0.length<=1000000000):WQv 342 [lE a0,sI a1] sI (λr=>(-1<=r/\r<(a0.length:Int))):=by
 refine gO Tryz.func342 ?_
 repeat' first
  |with_reducible assumption
  |(conv=>whnf);first
   |refine wC (w164 _ (λx0_ r=>r=true->x0_.f3=a1) _ _ rfl (λx0_=>w246 _ _) ?_) λz164 hz=>?_
   |refine ⟨_,rfl,?_⟩
  |omega
theorem w399 (a0:Int) (a1:Int) (a2:List S65) (g0:a2.length<=1000000) (g1:∀e∈a2,EB e):WQv 301 [sI a0,sI a1,lE a2] sI (λr=>True):=by
 refine gO Tryz.func301 ?_
 repeat' first
  |with_reducible assumption
  |(conv=>whnf);first
   |apply bI<;>intro h
   |refine wC (w462 _ ?_ ?_) λz462 hz=>?_
   |refine wC (w463 _ _) λz463 hz=>?_
   |refine wC (w464 _ _) λz464 hz=>?_
   |refine ⟨_,rfl,?_⟩
end Go.Abs.RM
