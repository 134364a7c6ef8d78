/- Of ServerHides: walks. -/
import Derived.Test.YtlhdbnmgiaoeeaaGreatUAl
set_option linter.all false
namespace Go.Abs.RM
open Go.Proofs Go.Proofs.RMH
set_option maxRecDepth 100000
set_option maxHeartbeats 40000000
theorem w481 (a0:List S65) (g0:a0.length<=1000000) (g1:∀e∈a0,EB e):WQv 520 [lE a0] (λr:Int×(List ByteArray)=>.tup [sI r.1,.lst (r.2.map cStr)]) (λr=>True):=by
 refine gO Tryz.func520 ?_
 repeat' first
  |with_reducible assumption
  |(conv=>whnf);first
   |apply bD<;>intro h
   |refine V1 (λ(p0:Int)=>0<=p0/\p0<=(a0.length:Int)) (λp0=>[(0,lE a0),(4,sI p0)]) (λ_=>⟨[],0⟩) (λp0=>((a0.length:Int)+1-p0).toNat) (0:Int) ?_ (fN rfl rfl) λp0 ⟨i0,i1⟩=>?_
   |refine lM ?_
   |refine wE ‹_› ?_ (λ_=>rfl) ?_
   |refine wG ?_ ?_ (λ_=>rfl) λx hx hm=>?_
   |refine wA (l:=[]) (f:=cStr) (m:=_) rfl (λ_=>⟨rfl,rfl⟩) ?_ ?_ ?_
   |refine ⟨by kernel_rfl,?_⟩
   |refine ⟨_,_,deep0 (leafs_map (f:=cStr) (λ_=>rfl) _),?_⟩
   |refine ⟨nx _,?_,?_,(fN rfl rfl)⟩
   |refine ⟨(_,_),rfl,?_⟩
   |refine ⟨((0:Int),[]),rfl,?_⟩
  |omega
  |exact True.intro
  |dsimp only
  |(have hb:=(g1 _ hm).2.2.2.2.2.2.2.1;simp only [List.length_nil];omega)
  |with_reducible apply And.intro
  |(simp (disch:=omega) only [ls]<;>omega)
theorem w482 (a0:Int) (a1:Int):WQv 521 [sI a0,sI a1] sI (λr=>True):=by
 refine gO Tryz.func521 ?_
 repeat' first
  |(conv=>whnf);first
   |apply bI<;>intro h
   |refine ⟨(0:Int),rfl,?_⟩
   |refine ⟨(21:Int),rfl,?_⟩
  |exact True.intro
theorem w483 (a0:Int) (a1:Int):WQv 522 [sI a0,sI a1] sI (λr=>True):=by
 refine gO Tryz.func522 ?_
 repeat' first
  |(conv=>whnf);first
   |apply bI<;>intro h
   |refine ⟨(0:Int),rfl,?_⟩
   |refine ⟨(21:Int),rfl,?_⟩
  |exact True.intro
theorem w484 (a0:S59):WQv 524 [.agg (S59.c a0)] lI (λr=>r.length=7):=by
 refine gO Tryz.func524 ?_
 repeat' first
  |(conv=>whnf);first
   |refine ⟨_,_,deep0 (leafs_lit rfl),?_⟩
   |refine ⟨[_,_,_,_,_,_,_],rfl,?_⟩
  |dsimp only
  |rfl
theorem w485 (a0:Int) (a1:Int) (a2:Int):WQv 525 [sI a0,sI a1,sI a2] sB (λr=>True):=by
 refine gO Tryz.func525 ?_
 repeat' first
  |(conv=>whnf);first
   |apply bI<;>intro h
   |apply bD<;>intro h
   |refine ⟨true,rfl,?_⟩
   |refine ⟨false,rfl,?_⟩
   |refine ⟨_,rfl,?_⟩
  |exact True.intro
theorem w444 (a0:List S65) (a1:Int) (a2:ByteArray) (g0:a0.length<=100):WQv 513 [lE a0,sI a1,sS a2] (λr:S65×Bool=>.tup [aE r.1,sB r.2]) (λr=>r.2=true->r.1∈a0):=by
 refine gO Tryz.func513 ?_
 repeat' first
  |with_reducible assumption
  |(conv=>whnf);first
   |apply bD<;>intro h
   |apply bS<;>intro h
   |refine V2 (λ(p0:S65) (p1:Int)=>0<=p1/\p1<=(a0.length:Int)) (λ_ p1=>[(0,lE a0),(1,sI a1),(2,sS a2),(6,.box 0 0),(8,sI p1)]) (λp0 _=>⟨[(0,.box (S65.c p0) false)],1⟩) (λ_ p1=>((a0.length:Int)+1-p1).toNat) ze65 (0:Int) ?_ (fB1 rfl rfl rfl rfl) λp0 p1 ⟨i0,i1⟩=>?_
   |refine lM ?_
   |refine wE ‹_› ?_ (λ_=>rfl) ?_
   |refine wG ?_ ?_ (λ_=>rfl) λx hx hm=>?_
   |refine ⟨⟨_,nx _⟩,?_,?_,(fB1 rfl rfl rfl rfl)⟩
   |refine ⟨(_,true),rfl,?_⟩
   |refine ⟨(ze65,false),rfl,?_⟩
  |omega
  |dsimp only
  |(intro hr;contradiction)
  |exact λ_=>hm
  |with_reducible apply And.intro
  |(simp (disch:=omega) only [ls]<;>omega)
theorem w499 (a0:List Int) (a1:Int) (g0:a0.length<=1000000000):WQv 527 [lI a0,sI a1] sI (λr=>True):=by
 refine gO Tryz.func527 ?_
 repeat' first
  |with_reducible assumption
  |(conv=>whnf);first
   |apply bD<;>intro h
   |refine V1 (λ(p0:Int)=>0<=p0/\p0<=(a0.length:Int)) (λp0=>[(0,lI a0),(1,sI a1),(5,sI p0)]) (λ_=>⟨[],0⟩) (λp0=>((a0.length:Int)+1-p0).toNat) (0:Int) ?_ (fN rfl rfl) λp0 ⟨i0,i1⟩=>?_
   |refine lM ?_
   |refine wG ?_ ?_ (λ_=>rfl) λx hx hm=>?_
   |refine ⟨nx _,?_,?_,(fN rfl rfl)⟩
   |refine ⟨_,rfl,?_⟩
  |omega
  |exact True.intro
  |with_reducible apply And.intro
  |(simp (disch:=omega) only [ls]<;>omega)
theorem w14 (a0:List S65) (g0:a0.length<=12):WQv 409 [lE a0] lI (λr=>r.length=a0.length):=by
 refine gO Tryz.func409 ?_
 repeat' first
  |with_reducible assumption
  |(conv=>whnf);first
   |apply bD<;>intro h
   |refine V2 (λ(p0:List Int) (p1:Int)=>0<=p1/\p1<=(a0.length:Int)/\(p0.length:Int)=p1) (λ_ p1=>[(0,lE a0),(3,.row 0),(4,sI p1)]) (λp0 _=>⟨[(0,.row (p0.map c_i64) 1 false 0)],1⟩) (λ_ p1=>((a0.length:Int)+1-p1).toNat) [] (0:Int) ?_ (ft [(0,none)] rfl rfl rfl ⟨fitO_nil rfl rfl,trivial⟩) λp0 p1 ⟨i0,i1,i3⟩=>?_
   |refine lM ?_
   |refine wG ?_ ?_ (λ_=>rfl) λx hx hm=>?_
   |refine wA (f:=c_i64) (m:=[_]) rfl (λ_=>⟨rfl,rfl⟩) ?_ ?_ ?_
   |refine ⟨⟨_,nx _⟩,?_,?_,(fR1 2 rfl rfl rfl λ_=>rfl)⟩
   |refine ⟨_,_,deep0 (leafs_map (f:=c_i64) (λ_=>rfl) _),?_⟩
   |refine ⟨_,rfl,?_⟩
  |omega
  |dsimp only
  |with_reducible apply And.intro
  |(simp (disch:=omega) only [ls]<;>omega)
theorem w254 (a0:S65) (a1:S65):WQv 408 [aE a0,aE a1] sB (λr=>True):=by
 refine gO Tryz.func408 ?_
 repeat' first
  |(conv=>whnf);first
   |apply bD<;>intro h
   |refine ⟨true,rfl,?_⟩
   |refine ⟨false,rfl,?_⟩
   |refine ⟨_,rfl,?_⟩
  |exact True.intro
theorem w368 (a0:List S71) (a1:Int) (a2:ByteArray) (g0:a0.length<=1000):WQv 466 [.lst (a0.map S71.c),sI a1,sS a2] sB (λr=>True):=by
 refine gO Tryz.func466 ?_
 repeat' first
  |with_reducible assumption
  |(conv=>whnf);first
   |apply bD<;>intro h
   |apply bS<;>intro h
   |refine V1 (λ(p0:Int)=>0<=p0/\p0<=(a0.length:Int)) (λp0=>[(0,.lst (a0.map S71.c)),(1,sI a1),(2,sS a2),(7,sI p0)]) (λ_=>⟨[],0⟩) (λp0=>((a0.length:Int)+1-p0).toNat) (0:Int) ?_ (fN rfl rfl) λp0 ⟨i0,i1⟩=>?_
   |refine lM ?_
   |refine wE ‹_› ?_ (λ_=>rfl) ?_
   |refine wG ?_ ?_ (λ_=>rfl) λx hx hm=>?_
   |refine ⟨true,rfl,?_⟩
   |refine ⟨nx _,?_,?_,(fN rfl rfl)⟩
   |refine ⟨false,rfl,?_⟩
  |omega
  |exact True.intro
  |with_reducible apply And.intro
  |(simp (disch:=omega) only [ls]<;>omega)
theorem w86 (a0:List S139) (a1:Int) (g0:a0.length<=1000000000):WQv 208 [.lst (a0.map S139.c),sI a1] (λr:S139×Bool=>.tup [.agg (S139.c r.1),sB r.2]) (λr=>r.1∈a0\/r.1=zL):=by
 refine gO Tryz.func208 ?_
 repeat' first
  |with_reducible assumption
  |(conv=>whnf);first
   |apply bD<;>intro h
   |refine V2 (λ(p0:S139) (p1:Int)=>0<=p1/\p1<=(a0.length:Int)) (λ_ p1=>[(0,.lst (a0.map S139.c)),(1,sI a1),(4,.box 0 0),(6,sI p1)]) (λp0 _=>⟨[(0,.box (S139.c p0) false)],1⟩) (λ_ p1=>((a0.length:Int)+1-p1).toNat) ze139 (0:Int) ?_ (fB1 rfl rfl rfl rfl) λp0 p1 ⟨i0,i1⟩=>?_
   |refine lM ?_
   |refine wE ‹_› ?_ (λ_=>rfl) ?_
   |refine wG ?_ ?_ (λ_=>rfl) λx hx hm=>?_
   |refine ⟨⟨_,nx _⟩,?_,?_,(fB1 rfl rfl rfl rfl)⟩
   |refine ⟨(_,true),rfl,?_⟩
   |refine ⟨(ze139,false),rfl,?_⟩
  |omega
  |dsimp only
  |exact Or.inr rfl
  |exact Or.inl hm
  |with_reducible apply And.intro
  |(simp (disch:=omega) only [ls]<;>omega)
theorem w85 (a0:S30) (a1:Int) (g0:a0.f2.length<=12):WQv 206 [.agg (S30.c a0),sI a1] (λr:S135×Bool=>.tup [.agg (S135.c r.1),sB r.2]) (λr=>True):=by
 refine gO Tryz.func206 ?_
 repeat' first
  |with_reducible assumption
  |(conv=>whnf);first
   |apply bD<;>intro h
   |refine V2 (λ(p0:S135) (p1:Int)=>0<=p1/\p1<=(a0.f2.length:Int)) (λ_ p1=>[(1,sI a1),(2,.box 0 0),(4,.box 1 0),(6,sI p1)]) (λp0 _=>⟨[(0,.box (S30.c a0) false),(1,.box (S135.c p0) false)],2⟩) (λ_ p1=>((a0.f2.length:Int)+1-p1).toNat) ze135 (0:Int) ?_ (ft [(0,some 0),(1,some 1)] rfl rfl rfl ⟨fB rfl rfl rfl,fB rfl rfl rfl,trivial⟩) λp0 p1 ⟨i0,i1⟩=>?_
   |refine lM ?_
   |refine wE ‹_› ?_ (λ_=>rfl) ?_
   |refine wG ?_ ?_ (λ_=>rfl) λx hx hm=>?_
   |refine ⟨⟨_,nx _⟩,?_,?_,(ft [(0,some 0),(1,some 1)] rfl rfl rfl ⟨fB rfl rfl rfl,fB rfl rfl rfl,trivial⟩)⟩
   |refine ⟨(_,true),rfl,?_⟩
   |refine ⟨(ze135,false),rfl,?_⟩
  |omega
  |exact True.intro
  |dsimp only
  |with_reducible apply And.intro
  |(simp (disch:=omega) only [ls]<;>omega)
theorem w37 (a0:List Int) (a1:List Int) (g0:a0.length<=9223372036854775807):WQv 42 [lI a0,lI a1] sB (λr=>r=true->a0.length=a1.length):=by
 refine gO Tryz.func42 ?_
 repeat' first
  |with_reducible assumption
  |(conv=>whnf);first
   |apply bJ<;>intro h
   |apply bD<;>intro h
   |refine lM ?_
   |refine ⟨false,rfl,?_⟩
   |refine V1 (λ(p0:Int)=>0<=p0/\p0<=(a0.length:Int)) (λp0=>[(0,lI a0),(1,lI a1),(5,sI p0)]) (λ_=>⟨[],0⟩) (λp0=>((a0.length:Int)+1-p0).toNat) (0:Int) ?_ (fN rfl rfl) λp0 ⟨i0,i1⟩=>?_
   |refine wG ?_ ?_ (λ_=>rfl) λx hx hm=>?_
   |refine ⟨by kernel_rfl,?_⟩
   |refine ⟨nx _,?_,?_,(fN rfl rfl)⟩
   |refine ⟨true,rfl,?_⟩
  |omega
  |dsimp only
  |(intro hr;contradiction)
  |with_reducible apply And.intro
  |(simp (disch:=omega) only [ls]<;>omega)
theorem w39 (a0:List S71) (a1:List S71) (g0:a0.length<=9223372036854775807):WQv 94 [.lst (a0.map S71.c),.lst (a1.map S71.c)] sB (λr=>r=true->a0.length=a1.length):=by
 refine gO Tryz.func94 ?_
 repeat' first
  |with_reducible assumption
  |(conv=>whnf);first
   |apply bJ<;>intro h
   |apply bD<;>intro h
   |apply bT'<;>intro h
   |refine lM ?_
   |refine ⟨false,rfl,?_⟩
   |refine V1 (λ(p0:Int)=>0<=p0/\p0<=(a0.length:Int)) (λp0=>[(0,.lst (a0.map S71.c)),(1,.lst (a1.map S71.c)),(5,sI p0)]) (λ_=>⟨[],0⟩) (λp0=>((a0.length:Int)+1-p0).toNat) (0:Int) ?_ (fN rfl rfl) λp0 ⟨i0,i1⟩=>?_
   |refine wE ‹_› ?_ (λ_=>rfl) ?_
   |refine wG ?_ ?_ (λ_=>rfl) λx hx hm=>?_
   |refine ⟨by kernel_rfl,?_⟩
   |refine ⟨nx _,?_,?_,(fN rfl rfl)⟩
   |refine ⟨true,rfl,?_⟩
  |omega
  |dsimp only
  |(intro hr;contradiction)
  |with_reducible apply And.intro
  |(simp (disch:=omega) only [ls]<;>omega)
theorem w2007 (a0:S2037) (g0:PkM a0):WQv 7 [.agg (S2037.c a0)] sB (λr=>r=true->a0.f6.length<=20):=by
 refine gO Tryz.func7 ?_
 repeat' first
  |(conv=>whnf);first
   |apply bD<;>intro h
   |refine lM ?_
   |refine ⟨false,rfl,?_⟩
   |refine ⟨_,rfl,?_⟩
  |dsimp only
  |contradiction
  |intro hr
  |grind
theorem w2031 (a0:Int) (g0:a0=2\/a0=3):WQv 31 [sI a0] (λ_:Unit=>.ifc 136 (.agg [])) (λ_=>True):=by
 refine gO Tryz.func31 ?_
 repeat' first
  |(conv=>whnf);first
   |apply bD<;>intro h
   |refine ⟨(),rfl,?_⟩
  |omega
  |dsimp only
theorem w129 (a0:List S65) (g0:a0.length<=1000000) (g1:∀e∈a0,EB e):WQv 96 [lE a0] (λr:S61×Bool=>.tup [.agg (S61.c r.1),sB r.2]) (λr=>CB r.1 400 100):=by
 refine gO Tryz.func96 ?_
 repeat' first
  |with_reducible assumption
  |(conv=>whnf);first
   |apply bD<;>intro h
   |refine lM ?_
   |refine V2 (λ(p0:S61) (p1:Int)=>0<=p1/\p1<=(a0.length:Int)) (λ_ p1=>[(2,.box 0 0),(6,lE a0),(7,sI (a0.length:Int)),(8,sI p1)]) (λp0 _=>⟨[(0,.box (S61.c p0) false)],1⟩) (λ_ p1=>((a0.length:Int)+1-p1).toNat) ze61 (0:Int) ?_ (fB1 rfl rfl rfl rfl) λp0 p1 ⟨i0,i1⟩=>?_
   |refine wG ?_ ?_ (λ_=>rfl) λx hx hm=>?_
   |refine ⟨⟨_,nx _⟩,?_,?_,(fB1 rfl rfl rfl rfl)⟩
   |refine ⟨(_,true),rfl,?_⟩
   |refine ⟨(ze61,false),rfl,?_⟩
  |omega
  |exact (g1 _ ‹_∈a0›).2.2.2.2.2
  |exact ze61_cb
  |dsimp only
  |with_reducible apply And.intro
  |(simp (disch:=omega) only [ls]<;>omega)
theorem w194 (a0:ByteArray) (a1:ByteArray) (g0:a0.size<=1000) (g1:a1.size<=1000) (g2:asciiB a0=true):WQv 449 [sS a0,sS a1] sI (λr=>-1<=r/\(0<=r->r+(a0.size:Int)<=(a1.size:Int))):=by
 refine gO Tryz.func449 ?_
 repeat' first
  |with_reducible assumption
  |(conv=>whnf);first
   |apply bD<;>intro h
   |apply br<;>intro h
   |refine V1 (λ(p0:Int)=>0<=p0/\p0<=(a1.size:Int)+1) (λp0=>[(0,sS a0),(1,sS a1),(5,sI p0)]) (λ_=>⟨[],0⟩) (λp0=>((a1.size:Int)+1+1-p0).toNat) (0:Int) ?_ (fN rfl rfl) λp0 ⟨i0,i1⟩=>?_
   |refine And.intro ?_ (And.intro ?_ (And.intro ?_ ?_))
   |refine wC (w193 _ _ ?_ ?_) λz193 hz=>?_
   |refine ⟨nx _,?_,?_,(fN rfl rfl)⟩
   |refine ⟨_,rfl,?_⟩
  |omega
  |dsimp only
  |with_reducible apply And.intro
  |(simp (disch:=omega) only [ls]<;>omega)
  |intro hr
  |grind
theorem w2547 (a0:SP) (a1:S2037):WQv 547 [.agg a0.c,.agg (S2037.c a1)] (λr:PP=>.agg r.c) (λr=>r=⟨a0.d.f0,a1.f0,8,a1.f3,a1.f4,[],zS,0⟩):=by
 refine gO Tryz.func547 ?_
 repeat' first
  |(conv=>whnf);first
   |refine ⟨⟨a0.d.f0,a1.f0,8,a1.f3,a1.f4,[],zS,0⟩,rfl,?_⟩
  |exact rfl
theorem w195 (a0:List ByteArray) (a1:ByteArray) (g0:a0.length<=1000000000):WQv 560 [.lst (a0.map cStr),sS a1] sI (λr=>True):=by
 refine gO Tryz.func560 ?_
 repeat' first
  |with_reducible assumption
  |(conv=>whnf);first
   |apply bD<;>intro h
   |apply bS<;>intro h
   |refine lM ?_
   |refine V1 (λ(p0:Int)=>0<=p0/\p0<=(a0.length:Int)) (λp0=>[(0,.lst (a0.map cStr)),(1,sS a1),(7,sI (a0.length:Int)),(8,sI p0)]) (λ_=>⟨[],0⟩) (λp0=>((a0.length:Int)+1-p0).toNat) (0:Int) ?_ (fN rfl rfl) λp0 ⟨i0,i1⟩=>?_
   |refine wG ?_ ?_ (λ_=>rfl) λx hx hm=>?_
   |refine ⟨nx _,?_,?_,(fN rfl rfl)⟩
   |refine ⟨_,rfl,?_⟩
  |omega
  |dsimp only
  |with_reducible apply And.intro
  |(simp (disch:=omega) only [ls]<;>omega)
theorem w137 (a0:List ByteArray) (g0:a0.length<=1000000):WQv 138 [.lst (a0.map cStr)] (λr:List ByteArray=>.lst (r.map cStr)) (λr=>r.length<=a0.length/\∀x∈r,x∈a0):=by
 refine gO Tryz.func138 ?_
 repeat' first
  |with_reducible assumption
  |(conv=>whnf);first
   |apply bD<;>intro h
   |refine lM ?_
   |refine ⟨Int.le_refl 0,?_,?_,?_,[],rfl,?_⟩
   |refine V3 (λ(p0:List ByteArray) (p1:List ByteArray) (p2:Int)=>0<=p2/\p2<=(a0.length:Int)/\(p0.length:Int)<=p2/\(p1.length:Int)<=p2/\(∀x∈p1,x∈a0)) (λ_ _ p2=>[(3,.mp 0),(4,.row 1),(13,.lst (a0.map cStr)),(14,sI (a0.length:Int)),(15,sI p2)]) (λp0 p1 _=>⟨[(0,.set (p0.map Value.string) VT),(1,.row (p1.map cStr) 1 false 1)],2⟩) (λ_ _ p2=>((a0.length:Int)+1-p2).toNat) [] ([]:List ByteArray) (0:Int) ?_ (ft [(0,some 0),(1,some 1)] rfl rfl rfl ⟨fS rfl rfl λ_ h=>h,fR rfl rfl λ_=>rfl,trivial⟩) λp0 p1 p2 ⟨i0,i1,i2,i3,i4⟩=>?_
   |refine wG ?_ ?_ (λ_=>rfl) λx hx hm=>?_
   |refine lkZ (λhk=>?_) λhk=>?_
   |refine ⟨⟨_,_,nx _⟩,?_,?_,(ft [(0,some 0),(1,some 1)] rfl rfl rfl ⟨fS rfl rfl λ_ h=>h,fR rfl rfl λ_=>rfl,trivial⟩)⟩
   |refine ⟨rfl,_,insK_str _ _,?_⟩
   |refine wA (f:=cStr) (m:=[_]) rfl (λ_=>⟨rfl,rfl⟩) ?_ ?_ ?_
   |refine ⟨⟨_,_,nx _⟩,?_,?_,(ft [(0,some 0),(1,some 3)] rfl rfl rfl ⟨fS rfl rfl λ_ h=>h,fR rfl rfl λ_=>rfl,trivial⟩)⟩
   |refine ⟨_,_,deep0 (leafs_map (f:=cStr) (λ_=>rfl) _),?_⟩
   |refine wT (leafs_map (f:=cStr) (λ_=>rfl) _) (u191 _ ?_) (λz191 hz=>?_) rfl rfl rfl
   |refine ⟨_,rfl,?_⟩
   |refine ⟨VT,?_⟩
  |omega
  |exact λx hx=>by subst hz;exact ‹∀x∈_,x∈a0› x ((sortS_perm _).mem_iff.1 hx)
  |(subst hz;rw [sortS_length];omega)
  |exact λx hx=>(List.mem_append.1 hx).elim (‹∀x∈_,x∈a0› x) λh=>by rw [List.mem_singleton.1 h];assumption
  |exact λx hx=>by cases hx
  |decide
  |dsimp only
  |with_reducible apply And.intro
  |(simp (disch:=omega) only [ls]<;>omega)
  |grind
theorem w45 (a0:List Int) (g0:(a0.length:Int)<=9223372036854775807):WQv 100 [lI a0,lI a0] sB (λr=>r=true):=by
 refine gO Tryz.func100 ?_
 repeat' first
  |with_reducible assumption
  |(conv=>whnf);first
   |refine wE ‹_› ?_ (λ_=>rfl) ?_
   |apply bJ<;>intro h
   |apply bD<;>intro h
   |refine lM ?_
   |refine ⟨false,rfl,?_⟩
   |refine V1 (λ(p0:Int)=>0<=p0/\p0<=(a0.length:Int)) (λp0=>[(0,lI a0),(1,lI a0),(5,sI p0)]) (λ_=>⟨[],0⟩) (λp0=>((a0.length:Int)+1-p0).toNat) (0:Int) ?_ (fN rfl rfl) λp0 ⟨i0,i1⟩=>?_
   |refine wG ?_ ?_ (λ_=>rfl) λx hx hm=>?_
   |refine ⟨by kernel_rfl,?_⟩
   |refine ⟨nx _,?_,?_,(fN rfl rfl)⟩
   |refine ⟨true,rfl,?_⟩
  |omega
  |dsimp only
  |with_reducible apply And.intro
  |(simp (disch:=omega) only [ls]<;>omega)
theorem w161e (a0:List ByteArray) (g0:(a0.length:Int)<=9223372036854775807):WQv 192 [.lst (a0.map cStr),.lst (a0.map cStr)] sB (λr=>r=true):=by
 refine gO Tryz.func192 ?_
 repeat' first
  |with_reducible assumption
  |(conv=>whnf);first
   |refine wE ‹_› ?_ (λ_=>rfl) ?_
   |apply bJ<;>intro h
   |apply bD<;>intro h
   |apply bT'<;>intro h
   |refine lM ?_
   |refine ⟨false,rfl,?_⟩
   |refine V1 (λ(p0:Int)=>0<=p0/\p0<=(a0.length:Int)) (λp0=>[(0,.lst (a0.map cStr)),(1,.lst (a0.map cStr)),(5,sI p0)]) (λ_=>⟨[],0⟩) (λp0=>((a0.length:Int)+1-p0).toNat) (0:Int) ?_ (fN rfl rfl) λp0 ⟨i0,i1⟩=>?_
   |refine wG ?_ ?_ (λ_=>rfl) λx hx hm=>?_
   |refine ⟨by kernel_rfl,?_⟩
   |refine ⟨nx _,?_,?_,(fN rfl rfl)⟩
   |refine ⟨true,rfl,?_⟩
  |omega
  |exact absurd rfl ‹_›
  |dsimp only
  |with_reducible apply And.intro
  |(simp (disch:=omega) only [ls]<;>omega)
theorem w162e (a0:S59) (g0:(a0.f0.length:Int)<=9223372036854775807) (g1:(a0.f1.length:Int)<=9223372036854775807):WQv 193 [.agg (S59.c a0),.agg (S59.c a0)] sB (λr=>r=true):=by
 refine gO Tryz.func193 ?_
 repeat' first
  |with_reducible assumption
  |(conv=>whnf);first
   |refine wE ‹_› ?_ (λ_=>rfl) ?_
   |apply bJ<;>intro h
   |apply bD<;>intro h
   |apply bT'<;>intro h
   |refine lM ?_
   |refine ⟨false,rfl,?_⟩
   |refine V1 (λ(p0:Int)=>0<=p0/\p0<=(a0.f0.length:Int)) (λp0=>[(2,.box 0 0),(3,.box 1 0),(5,sI p0)]) (λ_=>⟨[(0,.box (S59.c a0) false),(1,.box (S59.c a0) false)],2⟩) (λp0=>((a0.f0.length:Int)+1-p0).toNat) (0:Int) ?_ (ft [(0,some 0),(1,some 1)] rfl rfl rfl ⟨fB rfl rfl rfl,fB rfl rfl rfl,trivial⟩) λp0 ⟨i0,i1⟩=>?_
   |refine wG ?_ ?_ (λ_=>rfl) λx hx hm=>?_
   |refine ⟨by kernel_rfl,?_⟩
   |refine ⟨nx _,?_,?_,(ft [(0,some 0),(1,some 1)] rfl rfl rfl ⟨fB rfl rfl rfl,fB rfl rfl rfl,trivial⟩)⟩
   |refine V1 (λ(q0:Int)=>0<=q0/\q0<=(a0.f1.length:Int)) (λq0=>[(2,.box 0 0),(3,.box 1 0),(6,sI q0)]) (λ_=>⟨[(0,.box (S59.c a0) false),(1,.box (S59.c a0) false)],2⟩) (λq0=>((a0.f1.length:Int)+1-q0).toNat) (0:Int) ?_ (ft [(0,some 0),(1,some 1)] rfl rfl rfl ⟨fB rfl rfl rfl,fB rfl rfl rfl,trivial⟩) λq0 ⟨i0,i1⟩=>?_
   |refine ⟨_,rfl,?_⟩
  |omega
  |exact absurd rfl ‹_›
  |dsimp only
  |with_reducible apply And.intro
  |(simp (disch:=omega) only [ls]<;>omega)
  |grind
theorem w37e (a0:List Int) (g0:(a0.length:Int)<=9223372036854775807):WQv 42 [lI a0,lI a0] sB (λr=>r=true):=by
 refine gO Tryz.func42 ?_
 repeat' first
  |with_reducible assumption
  |(conv=>whnf);first
   |refine wE ‹_› ?_ (λ_=>rfl) ?_
   |apply bJ<;>intro h
   |apply bD<;>intro h
   |refine lM ?_
   |refine ⟨false,rfl,?_⟩
   |refine V1 (λ(p0:Int)=>0<=p0/\p0<=(a0.length:Int)) (λp0=>[(0,lI a0),(1,lI a0),(5,sI p0)]) (λ_=>⟨[],0⟩) (λp0=>((a0.length:Int)+1-p0).toNat) (0:Int) ?_ (fN rfl rfl) λp0 ⟨i0,i1⟩=>?_
   |refine wG ?_ ?_ (λ_=>rfl) λx hx hm=>?_
   |refine ⟨by kernel_rfl,?_⟩
   |refine ⟨nx _,?_,?_,(fN rfl rfl)⟩
   |refine ⟨true,rfl,?_⟩
  |omega
  |dsimp only
  |with_reducible apply And.intro
  |(simp (disch:=omega) only [ls]<;>omega)
theorem w2093 (a0:List S135) (g0:(a0.length:Int)<=9223372036854775807):WQv 93 [.lst (a0.map S135.c),.lst (a0.map S135.c)] sB (λr=>r=true):=by
 refine gO Tryz.func93 ?_
 repeat' first
  |with_reducible assumption
  |(conv=>whnf);first
   |refine wE ‹_› ?_ (λ_=>rfl) ?_
   |apply bJ<;>intro h
   |apply bD<;>intro h
   |apply br<;>intro h
   |refine lM ?_
   |refine ⟨false,rfl,?_⟩
   |refine V1 (λ(p0:Int)=>0<=p0/\p0<=(a0.length:Int)) (λp0=>[(0,.lst (a0.map S135.c)),(1,.lst (a0.map S135.c)),(5,sI p0)]) (λ_=>⟨[],0⟩) (λp0=>((a0.length:Int)+1-p0).toNat) (0:Int) ?_ (fN rfl rfl) λp0 ⟨i0,i1⟩=>?_
   |refine wG ?_ ?_ (λ_=>rfl) λx hx hm=>?_
   |refine λ(_:Bool) _=>?_
   |refine ⟨by kernel_rfl,?_⟩
   |refine ⟨nx _,?_,?_,(fN rfl rfl)⟩
   |refine ⟨true,rfl,?_⟩
  |omega
  |dsimp only
  |with_reducible apply And.intro
  |(simp (disch:=omega) only [ls]<;>omega)
  |grind
theorem w2095 (a0:S30) (g0:RawG a0):WQv 95 [.agg (S30.c a0),.agg (S30.c a0)] sB (λr=>r=true):=by
 refine gO Tryz.func95 ?_
 obtain ⟨r0,r1,r2,r3,r4,r5,r6,r7,r8,r9⟩:=id g0
 repeat' first
  |with_reducible assumption
  |(conv=>whnf);first
   |refine wE ‹_› ?_ (λ_=>rfl) ?_
   |apply bJ<;>intro h
   |apply bD<;>intro h
   |apply br<;>intro h
   |refine lM ?_
   |refine ⟨false,rfl,?_⟩
   |refine V1 (λ(p0:Int)=>0<=p0/\p0<=(a0.f7.length:Int)) (λp0=>[(2,.box 0 0),(3,.box 1 0),(5,sI p0)]) (λ_=>⟨[(0,.box (S30.c a0) false),(1,.box (S30.c a0) false)],2⟩) (λp0=>((a0.f7.length:Int)+1-p0).toNat) (0:Int) ?_ (ft [(0,some 0),(1,some 1)] rfl rfl rfl ⟨fB rfl rfl rfl,fB rfl rfl rfl,trivial⟩) λp0 ⟨i0,i1⟩=>?_
   |refine wG ?_ ?_ (λ_=>rfl) λx hx hm=>?_
   |refine λ(_:Bool) _=>?_
   |refine ⟨by kernel_rfl,?_⟩
   |refine ⟨nx _,?_,?_,(ft [(0,some 0),(1,some 1)] rfl rfl rfl ⟨fB rfl rfl rfl,fB rfl rfl rfl,trivial⟩)⟩
   |refine V1 (λ(q0:Int)=>0<=q0/\q0<=(a0.f8.length:Int)) (λq0=>[(2,.box 0 0),(3,.box 1 0),(6,sI q0)]) (λ_=>⟨[(0,.box (S30.c a0) false),(1,.box (S30.c a0) false)],2⟩) (λq0=>((a0.f8.length:Int)+1-q0).toNat) (0:Int) ?_ (ft [(0,some 0),(1,some 1)] rfl rfl rfl ⟨fB rfl rfl rfl,fB rfl rfl rfl,trivial⟩) λq0 ⟨i0,i1⟩=>?_
   |refine ⟨true,rfl,?_⟩
  |omega
  |dsimp only
  |with_reducible apply And.intro
  |(simp (disch:=omega) only [ls]<;>omega)
  |grind
theorem w39e (a0:List S71) (g0:(a0.length:Int)<=9223372036854775807):WQv 94 [.lst (a0.map S71.c),.lst (a0.map S71.c)] sB (λr=>r=true):=by
 refine gO Tryz.func94 ?_
 repeat' first
  |with_reducible assumption
  |(conv=>whnf);first
   |refine wE ‹_› ?_ (λ_=>rfl) ?_
   |apply bJ<;>intro h
   |apply bD<;>intro h
   |apply bT'<;>intro h
   |refine lM ?_
   |refine ⟨false,rfl,?_⟩
   |refine V1 (λ(p0:Int)=>0<=p0/\p0<=(a0.length:Int)) (λp0=>[(0,.lst (a0.map S71.c)),(1,.lst (a0.map S71.c)),(5,sI p0)]) (λ_=>⟨[],0⟩) (λp0=>((a0.length:Int)+1-p0).toNat) (0:Int) ?_ (fN rfl rfl) λp0 ⟨i0,i1⟩=>?_
   |refine wG ?_ ?_ (λ_=>rfl) λx hx hm=>?_
   |refine ⟨by kernel_rfl,?_⟩
   |refine ⟨nx _,?_,?_,(fN rfl rfl)⟩
   |refine ⟨true,rfl,?_⟩
  |omega
  |exact absurd rfl ‹_›
  |dsimp only
  |with_reducible apply And.intro
  |(simp (disch:=omega) only [ls]<;>omega)
theorem w2045 (a0:List S30) (a1:S30->Bool->Prop) (c1:FuncId) (g1:List WV) (hg1:g1.all capB=true) (hf1:∀x0_,WQv c1 ([]++[.agg (S30.c x0_)]++g1) sB (λr=>a1 x0_ r)) (g20:a0.length<=9223372036854775807):WQv 45 [.lst (a0.map S30.c),.fnp c1 [] g1] sI (λr=>(-1<=r/\r<(a0.length:Int))/\(0<=r->∃e,a0[r.toNat]?=some e/\a1 e true)):=by
 refine gO Tryz.func45 ?_
 repeat' first
  |with_reducible assumption
  |(conv=>whnf);first
   |apply bD<;>intro h
   |apply br<;>intro h
   |refine lM ?_
   |refine V1 (λ(p0:Int)=>0<=p0/\p0<=(a0.length:Int)) (λp0=>[(0,.lst (a0.map S30.c)),(1,.fnp c1 [] g1),(7,sI (a0.length:Int)),(8,sI p0)]) (λ_=>⟨[],0⟩) (λp0=>((a0.length:Int)+1-p0).toNat) (0:Int) ?_ (fN rfl rfl) λp0 ⟨i0,i1⟩=>?_
   |refine wG ?_ ?_ (λ_=>rfl) λx hx hm=>?_
   |refine view_caps hg1 ?_
   |refine wC (hf1 _) λz hz=>?_
   |refine ⟨nx _,?_,?_,(fN rfl rfl)⟩
   |refine ⟨_,rfl,?_⟩
  |exact λ_=>⟨_,hx,by simp_all⟩
  |omega
  |dsimp only
  |with_reducible apply And.intro
  |(simp (disch:=omega) only [ls]<;>omega)
theorem w2046 (a0:S30) (a1:ByteArray):WQv 46 [.agg (S30.c a0),.ipt [sS a1]] sB (λr=>r=true->a0.f0=a1):=by
 refine gO Tryz.func46 ?_
 repeat' first
  |(conv=>whnf);first
   |refine ⟨_,rfl,?_⟩
  |exact λhr=>str_inj (eq_of_beq hr)
theorem w2021 (a0:RP) (a1:Int) (e:EP) (hg:GetW a0 a1 (e,true)):WQv 21 [.agg a0.c,sI a1] (λr:EP×Bool=>.tup [.agg r.1.c,sB r.2]) (λr=>r=(e,true)):=by
 refine gO Tryz.func21 ?_
 repeat' first
  |(conv=>whnf);first
   |(refine wC hg λz50 hz=>?_;subst hz)
   |refine ⟨(_,_),rfl,?_⟩
  |exact rfl
end Go.Abs.RM
