/- Of ServerHides: walks. -/
import Derived.Test.YtlhdbnmgiaoeeaaGreatUAl
set_option linter.all false
namespace Go.Abs.RM
open Go.Proofs Go.Proofs.RMH
set_option maxRecDepth 100000
set_option maxHeartbeats 40000000
theorem w197 (a0:Int):WQv 40 [.sc (.int .u8 a0)] sB (λr=>True):=by
 refine gO Tryz.func40 ?_
 repeat' first
  |(conv=>whnf);first
   |apply bD<;>intro h
   |refine ⟨true,rfl,?_⟩
   |refine ⟨false,rfl,?_⟩
   |refine ⟨_,rfl,?_⟩
  |omega
  |exact True.intro
theorem w2115 (a0:S2079) (g0:a0.f2.length<=8) (g1:a0.f3.length<=8):WQv 115 [.agg (S2079.c a0)] sI (λr=>True):=by
 refine gO Tryz.func115 ?_
 repeat' first
  |(conv=>whnf);first
   |refine lM ?_
   |refine ⟨_,rfl,?_⟩
  |dsimp only
theorem w2116 (a0:S2079) (g0:a0.f2.length<=8) (g1:a0.f3.length<=8):WQv 116 [.agg (S2079.c a0)] lE (λr=>r.length<=16):=by
 refine gO Tryz.func116 ?_
 repeat' first
  |(conv=>whnf);first
   |refine wA (l:=[]) (f:=S65.c) (m:=_) rfl (λ_=>⟨rfl,rfl⟩) ?_ ?_ ?_
   |refine wA (f:=S65.c) (m:=_) rfl (λ_=>⟨rfl,rfl⟩) ?_ ?_ ?_
   |refine ⟨by kernel_rfl,?_⟩
   |refine ⟨_,_,deep0 (leafs_map (f:=S65.c) (λ_=>rfl) _),?_⟩
   |refine ⟨_,rfl,?_⟩
  |dsimp only
  |(simp (disch:=omega) only [ls]<;>omega)
theorem w2117 (a0:List S65) (a1:Int) (g0:a0.length<=1000000):WQv 117 [lE a0,sI a1] sB (λr=>True):=by
 refine gO Tryz.func117 ?_
 repeat' first
  |with_reducible assumption
  |(conv=>whnf);first
   |apply bD<;>intro h
   |refine V1 (λ(p0:Int)=>0<=p0/\p0<=(a0.length:Int)) (λp0=>[(0,lE a0),(1,sI a1),(5,sI p0)]) (λ_=>⟨[],0⟩) (λp0=>((a0.length:Int)+1-p0).toNat) (0:Int) ?_ (fN rfl rfl) λp0 ⟨i0,i1⟩=>?_
   |refine lM ?_
   |refine wG ?_ ?_ (λ_=>rfl) λx hx hm=>?_
   |refine ⟨true,rfl,?_⟩
   |refine ⟨nx _,?_,?_,(fN rfl rfl)⟩
   |refine ⟨false,rfl,?_⟩
  |omega
  |dsimp only
  |with_reducible apply And.intro
  |(simp (disch:=omega) only [ls]<;>omega)
theorem w78 (a0:ByteArray) (g0:(a0.size:Int)<=9223372036854775807):WQv 39 [sS a0] sI (λr=>((0<=r/\r<=(a0.size:Int))/\(r<(a0.size:Int)->∃b,a0[r.toNat]?=some b/\(b.toNat:Int)=58))/\∀(j:Nat) b,j<r.toNat->a0[j]?=some b->(b.toNat:Int)≠58):=by
 refine gO Tryz.func39 ?_
 repeat' first
  |with_reducible assumption
  |(conv=>whnf);first
   |apply bD<;>intro h
   |apply bJ<;>intro h
   |refine V1 (λ(p0:Int)=>0<=p0/\p0<=(a0.size:Int)/\(∀(j:Nat) b,j<p0.toNat->a0[j]?=some b->(b.toNat:Int)≠58)) (λp0=>[(0,sS a0),(3,sI p0)]) (λ_=>⟨[],0⟩) (λp0=>((a0.size:Int)+1-p0).toNat) (0:Int) ?_ (fN rfl rfl) λp0 ⟨i0,i1,i3⟩=>?_
   |refine wS ?_ ?_ λx hb=>?_
   |refine ⟨nx _,?_,?_,(fN rfl rfl)⟩
   |refine ⟨_,rfl,?_⟩
  |omega
  |dsimp only
  |exact ⟨⟨by omega,by omega⟩,λ_=>⟨_,hb,h⟩⟩
  |with_reducible apply And.intro
  |(simp (disch:=omega) only [ls]<;>omega)
  |intro hr
  |grind
theorem w174 (a0:Int) (a1:S61) (g0:CB a1 400 100):WQv 186 [sI a0,.agg (S61.c a1)] (λr:S61=>.agg (S61.c r)) (λr=>CB r 400 100):=by
 refine gO Tryz.func186 ?_
 obtain ⟨c0,c4,c5,c6,c7,c8,c9,c10,c11⟩:=g0
 repeat' first
  |(conv=>whnf);first
   |apply bI<;>intro h
   |refine ⟨_,rfl,?_⟩
   |refine ⟨⟨zS,_,(0:Int),false,_,[],[],ze59⟩,rfl,?_⟩
   |refine ⟨⟨zS,(0:Int),(0:Int),false,zS,[],[],_⟩,rfl,?_⟩
   |refine ⟨⟨zS,_,(0:Int),false,zS,_,[],ze59⟩,rfl,?_⟩
   |refine ⟨⟨zS,(0:Int),(0:Int),false,zS,_,_,ze59⟩,rfl,?_⟩
   |refine ⟨⟨zS,(0:Int),_,false,zS,[],[],ze59⟩,rfl,?_⟩
  |dsimp only
  |exact ⟨c0,c4,c5,c6,c7,c8,c9,c10,c11⟩
  |exact cb_nil _ _ _ _ _ _ _ _ _ _ (by first | assumption | exact Nat.zero_le _) (by first | assumption | exact Nat.zero_le _) (by first | exact nl | exact ⟨c5,c9⟩) (by first | exact nl | exact ⟨c6,c10⟩) (by first | exact nv | exact ⟨c7,c8,c11⟩)
theorem w116 (a0:Int):WQv 359 [sI a0] sB (λr=>True):=by
 refine gO Tryz.func359 ?_
 repeat' first
  |(conv=>whnf);first
   |apply bD<;>intro h
   |refine ⟨false,rfl,?_⟩
   |refine ⟨_,rfl,?_⟩
  |exact True.intro
theorem w349 (a0:List Int) (g0:(a0.length:Int)<=9223372036854775807):WQv 452 [lI a0] sB (λr=>True):=by
 refine gO Tryz.func452 ?_
 repeat' first
  |with_reducible assumption
  |(conv=>whnf);first
   |apply bD<;>intro h
   |refine V1 (λ(p0:Int)=>0<=p0/\p0<=(a0.length:Int)) (λp0=>[(0,lI a0),(3,sI p0)]) (λ_=>⟨[],0⟩) (λp0=>((a0.length:Int)+1-p0).toNat) (0:Int) ?_ (fN rfl rfl) λp0 ⟨i0,i1⟩=>?_
   |refine lM ?_
   |refine wE ‹_› ?_ (λ_=>rfl) ?_
   |refine wG ?_ ?_ (λ_=>rfl) λx hx hm=>?_
   |refine ⟨by kernel_rfl,?_⟩
   |refine ⟨false,rfl,?_⟩
   |refine ⟨nx _,?_,?_,(fN rfl rfl)⟩
   |refine ⟨true,rfl,?_⟩
  |omega
  |exact True.intro
  |with_reducible apply And.intro
  |(simp (disch:=omega) only [ls]<;>omega)
theorem w350 (a0:Int):WQv 453 [sI a0] sB (λr=>True):=by
 refine gO Tryz.func453 ?_
 repeat' first
  |(conv=>whnf);first
   |apply bD<;>intro h
   |refine ⟨false,rfl,?_⟩
   |refine ⟨_,rfl,?_⟩
  |exact True.intro
theorem w498 (a0:Int):WQv 518 [sI a0] (λr:List ByteArray=>.lst (r.map cStr)) (λr=>r.length<=3/\(a0=4->(⟨#[68,101,110,121]⟩:ByteArray)∉r/\(⟨#[76,101,118,101,108,115]⟩:ByteArray)∉r)):=by
 refine gO Tryz.func518 ?_
 repeat' first
  |(conv=>whnf);first
   |apply bI<;>intro h
   |refine ⟨_,_,deep0 (leafs_lit rfl),?_⟩
   |refine ⟨[_,_,_],rfl,?_⟩
   |refine ⟨[_],rfl,?_⟩
   |refine ⟨[_,_],rfl,?_⟩
   |refine ⟨[],rfl,?_⟩
  |omega
  |dsimp only
  |(simp only [List.length_cons,List.length_nil];omega)
  |with_reducible apply And.intro
  |contradiction
  |intro hr
theorem w162 (a0:S59) (a1:S59) (g0:(a0.f0.length:Int)<=9223372036854775807) (g1:(a0.f1.length:Int)<=9223372036854775807):WQv 193 [.agg (S59.c a0),.agg (S59.c a1)] sB (λr=>r=true->a0.f0.length=a1.f0.length/\a0.f1.length=a1.f1.length):=by
 refine gO Tryz.func193 ?_
 repeat' first
  |with_reducible assumption
  |(conv=>whnf);first
   |apply bJ<;>intro h
   |apply bD<;>intro h
   |apply bT'<;>intro h
   |refine lM ?_
   |refine ⟨false,rfl,?_⟩
   |refine V1 (λ(p0:Int)=>0<=p0/\p0<=(a0.f0.length:Int)) (λp0=>[(2,.box 0 0),(3,.box 1 0),(5,sI p0)]) (λ_=>⟨[(0,.box (S59.c a0) false),(1,.box (S59.c a1) false)],2⟩) (λp0=>((a0.f0.length:Int)+1-p0).toNat) (0:Int) ?_ (ft [(0,some 0),(1,some 1)] rfl rfl rfl ⟨fB rfl rfl rfl,fB rfl rfl rfl,trivial⟩) λp0 ⟨i0,i1⟩=>?_
   |refine wE ‹_› ?_ (λ_=>rfl) ?_
   |refine wG ?_ ?_ (λ_=>rfl) λx hx hm=>?_
   |refine ⟨by kernel_rfl,?_⟩
   |refine ⟨nx _,?_,?_,(ft [(0,some 0),(1,some 1)] rfl rfl rfl ⟨fB rfl rfl rfl,fB rfl rfl rfl,trivial⟩)⟩
   |refine V1 (λ(q0:Int)=>0<=q0/\q0<=(a0.f1.length:Int)) (λq0=>[(2,.box 0 0),(3,.box 1 0),(6,sI q0)]) (λ_=>⟨[(0,.box (S59.c a0) false),(1,.box (S59.c a1) false)],2⟩) (λq0=>((a0.f1.length:Int)+1-q0).toNat) (0:Int) ?_ (ft [(0,some 0),(1,some 1)] rfl rfl rfl ⟨fB rfl rfl rfl,fB rfl rfl rfl,trivial⟩) λq0 ⟨i0,i1⟩=>?_
   |refine ⟨_,rfl,?_⟩
  |omega
  |dsimp only
  |(intro hr;contradiction)
  |with_reducible apply And.intro
  |(simp (disch:=omega) only [ls]<;>omega)
theorem w352 (a0:Int):WQv 455 [sI a0] sB (λr=>True):=by
 refine gO Tryz.func455 ?_
 repeat' first
  |(conv=>whnf);first
   |apply bI<;>intro h
   |refine ⟨true,rfl,?_⟩
   |refine ⟨_,rfl,?_⟩
  |exact True.intro
theorem w71 (a0:ByteArray):WQv 495 [sS a0] sI (λr=>r=0->a0.size<=64):=by
 refine gO Tryz.func495 ?_
 repeat' first
  |with_reducible assumption
  |(conv=>whnf);first
   |apply bI<;>intro h
   |apply bD<;>intro h
   |refine V1 (λ(p0:Int)=>0<=p0/\p0<=(a0.size:Int)) (λp0=>[(0,sS a0),(3,sI p0)]) (λ_=>⟨[],0⟩) (λp0=>((a0.size:Int)+1-p0).toNat) (0:Int) ?_ (fN rfl rfl) λp0 ⟨i0,i1⟩=>?_
   |refine wS ?_ ?_ λx hb=>?_
   |refine ⟨nx _,?_,?_,(fN rfl rfl)⟩
   |refine ⟨(9:Int),rfl,?_⟩
   |refine ⟨(7:Int),rfl,?_⟩
   |refine ⟨(3:Int),rfl,?_⟩
   |refine ⟨(0:Int),rfl,?_⟩
  |omega
  |with_reducible apply And.intro
  |(simp (disch:=omega) only [ls]<;>omega)
theorem w354 (a0:Int) (a1:Int):WQv 457 [sI a0,sI a1] sI (λr=>True):=by
 refine gO Tryz.func457 ?_
 repeat' first
  |(conv=>whnf);first
   |apply bI<;>intro h
   |apply bD<;>intro h
   |apply bN<;>intro h
   |refine ⟨(2:Int),rfl,?_⟩
   |refine ⟨(0:Int),rfl,?_⟩
  |omega
  |exact True.intro
theorem w434 (a0:Int):WQv 498 [sI a0] sB (λr=>True):=by
 refine gO Tryz.func498 ?_
 repeat' first
  |(conv=>whnf);first
   |apply bD<;>intro h
   |refine ⟨true,rfl,?_⟩
   |refine ⟨_,rfl,?_⟩
  |exact True.intro
theorem w161 (a0:List ByteArray) (a1:List ByteArray) (g0:(a0.length:Int)<=9223372036854775807):WQv 192 [.lst (a0.map cStr),.lst (a1.map cStr)] sB (λr=>r=true->a0.length=a1.length):=by
 refine gO Tryz.func192 ?_
 repeat' first
  |with_reducible assumption
  |(conv=>whnf);first
   |apply bJ<;>intro h
   |apply bD<;>intro h
   |apply bT'<;>intro h
   |refine lM ?_
   |refine ⟨false,rfl,?_⟩
   |refine V1 (λ(p0:Int)=>0<=p0/\p0<=(a0.length:Int)) (λp0=>[(0,.lst (a0.map cStr)),(1,.lst (a1.map cStr)),(5,sI p0)]) (λ_=>⟨[],0⟩) (λp0=>((a0.length:Int)+1-p0).toNat) (0:Int) ?_ (fN rfl rfl) λp0 ⟨i0,i1⟩=>?_
   |refine wG ?_ ?_ (λ_=>rfl) λx hx hm=>?_
   |refine ⟨by kernel_rfl,?_⟩
   |refine ⟨nx _,?_,?_,(fN rfl rfl)⟩
   |refine ⟨true,rfl,?_⟩
  |omega
  |dsimp only
  |(intro hr;contradiction)
  |with_reducible apply And.intro
  |(simp (disch:=omega) only [ls]<;>omega)
theorem w361 (a0:Int) (a1:List Int) (g0:a1.length<=9000000):WQv 334 [sI a0,.lst (a1.map c_u8)] sI (λr=>True):=by
 refine gO Tryz.func334 ?_
 repeat' first
  |with_reducible assumption
  |(conv=>whnf);first
   |apply bD<;>intro h
   |refine V2 (λ(p0:Int) (p1:Int)=>0<=p1/\p1<=(a1.length:Int)) (λp0 p1=>[(1,.lst (a1.map c_u8)),(5,.sc (.int .u64 p0)),(6,sI p1)]) (λ_ _=>⟨[],0⟩) (λ_ p1=>((a1.length:Int)+1-p1).toNat) (iop .rem 304 .u64 (IntKind.wrap .u64 a0) (4611686018427387904:Int)) (0:Int) ?_ (fN rfl rfl) λp0 p1 ⟨i0,i1⟩=>?_
   |refine lM ?_
   |refine wG ?_ ?_ (λ_=>rfl) λx hx hm=>?_
   |refine ⟨⟨_,nx _⟩,?_,?_,(fN rfl rfl)⟩
   |refine ⟨_,rfl,?_⟩
  |omega
  |exact True.intro
  |dsimp only
  |with_reducible apply And.intro
  |(simp (disch:=omega) only [ls]<;>omega)
theorem w362:WQv 335 [] sI (λr=>True):=by
 refine gO Tryz.func335 ?_
 repeat' first
  |(conv=>whnf);first
   |refine ⟨(860922984064492325:Int),rfl,?_⟩
  |exact True.intro
theorem w437 (a0:Int):WQv 395 [sI a0] (λr:List Int=>.lst (r.map c_u8)) (λr=>1<=r.length/\r.length<=11):=by
 refine gO Tryz.func395 ?_
 have e:(128:Int) ^ 10=1180591620717411303424:=by decide
 repeat' first
  |(conv=>whnf);first
   |apply bD<;>intro h
   |refine V2 (λ(p0:Int) (p1:List Int)=>0<=p0/\p0<=18446744073709551615/\p1.length<=10/\p0<128 ^ (10-p1.length)) (λp0 _=>[(3,.sc (.int .u64 p0)),(4,.row 0)]) (λ_ p1=>⟨[(0,.row (p1.map c_u8) 1 false 0)],1⟩) (λp0 _=>(p0+1).toNat) (uop .xor .u64 (iop .shl 304 .u64 (IntKind.wrap .u64 a0) (1:Int))) [] ?_ (ft [(0,none)] rfl rfl rfl ⟨fitO_nil rfl rfl,trivial⟩) λp0 p1 ⟨i0,i1,i3,i4⟩=>?_
   |refine wA (f:=c_u8) (m:=[_]) rfl (λ_=>⟨rfl,rfl⟩) ?_ ?_ ?_
   |refine ⟨_,_,deep0 (leafs_map (f:=c_u8) (λ_=>rfl) _),?_⟩
   |refine V2 (λ(p0:Int) (p1:List Int)=>0<=p0/\p0<=18446744073709551615/\p1.length<=10/\p0<128 ^ (10-p1.length)) (λp0 _=>[(3,.sc (.int .u64 p0)),(4,.row 0)]) (λ_ p1=>⟨[(0,.row (p1.map c_u8) 1 false 0)],1⟩) (λp0 _=>(p0+1).toNat) (iop .shl 304 .u64 (IntKind.wrap .u64 a0) (1:Int)) [] ?_ (ft [(0,none)] rfl rfl rfl ⟨fitO_nil rfl rfl,trivial⟩) λp0 p1 ⟨i0,i1,i3,i4⟩=>?_
   |refine ⟨⟨_,_⟩,?_,?_,(fR1 2 rfl rfl rfl λ_=>rfl)⟩
   |refine ⟨_,rfl,?_⟩
  |omega
  |(have:=xor_range (iop .shl 304 .u64 (IntKind.wrap .u64 a0) (1:Int));have:=shl_range (IntKind.wrap .u64 a0);simp only [List.length_nil,Nat.sub_zero];omega)
  |exact (quo_step i0 i1 i4 h i3).2.1
  |exact (quo_step i0 i1 i4 h i3).2.2.2.2 _
  |(have hq:=quo_step i0 i1 i4 h i3;rw [List.length_append,List.length_singleton];exact hq.2.2.2.1)
  |(have hq:=(quo_step i0 i1 i4 h i3).2.2.1;omega)
  |dsimp only
  |with_reducible apply And.intro
  |(simp (disch:=omega) only [ls]<;>omega)
theorem w365 (a0:List Int) (a1:Bool) (g0:a0.length<=1000000):WQv 338 [.lst (a0.map c_u8),sB a1] (λr:List Int=>.lst (r.map c_u8)) (λr=>r.length=a0.length+1):=by
 refine gO Tryz.func338 ?_
 repeat' first
  |(conv=>whnf);first
   |apply br<;>intro h
   |refine wA (l:=[]) (f:=c_u8) (m:=_) rfl (λ_=>⟨rfl,rfl⟩) ?_ ?_ ?_
   |refine wA (f:=c_u8) (m:=[_]) rfl (λ_=>⟨rfl,rfl⟩) ?_ ?_ ?_
   |refine ⟨_,_,deep0 (leafs_map (f:=c_u8) (λ_=>rfl) _),?_⟩
   |refine ⟨_,rfl,?_⟩
  |dsimp only
  |(simp only [List.length_append,List.length_cons,List.length_nil,List.length_take,List.length_drop,List.length_set,List.length_map,ByteArray.size_extract,strL_len,txt_len] at *;omega)
theorem w436 (a0:S59):WQv 340 [.agg (S59.c a0)] lI (λr=>r.length=7):=by
 refine gO Tryz.func340 ?_
 repeat' first
  |(conv=>whnf);first
   |refine ⟨_,_,deep0 (leafs_lit rfl),?_⟩
   |refine ⟨[_,_,_,_,_,_,_],rfl,?_⟩
  |dsimp only
  |rfl
theorem u60 (a0:List Int) (a1:Int) (g0:a0.length<=1000000000):WUQ 356 [sI a1] 1 a0 c_i64 (λr=>a0.length<=r.length/\r.length<=a0.length+1):=by
 refine goUpd Tryz.func356 (by kernel_rfl) (lens_map λ_=>rfl) ?_
 repeat' first
  |with_reducible assumption
  |(conv=>whnf);first
   |refine wLE ‹_› ?_
   |refine wL (i:=IntKind.wrap .i64 (q1-(1:Int))) ?_ ?_ λy0 hx=>?_
   |apply bD<;>intro h
   |refine V1 (λ(p0:Int)=>0<=p0/\p0<=(a0.length:Int)) (λp0=>[(0,.row 0),(1,sI a1),(5,sI p0)]) (λ_=>⟨[(0,.row (a0.map c_i64) 1 false 0)],1⟩) (λp0=>((a0.length:Int)+1-p0).toNat) (0:Int) ?_ (fR1 0 rfl rfl rfl λ_=>rfl) λp0 ⟨i0,i1⟩=>?_
   |refine lM ?_
   |refine wR ?_ ?_ ?_
   |refine wL ?_ ?_ λx hx=>?_
   |refine ⟨nx _,?_,?_,(fR1 0 rfl rfl rfl λ_=>rfl)⟩
   |refine ⟨leafs_map (f:=c_i64) (λ_=>rfl) _,_,rfl,?_⟩
   |refine wA (f:=c_i64) (m:=[_]) rfl (λ_=>⟨rfl,rfl⟩) ?_ ?_ ?_
   |refine V2 (λ(q0:List Int) (q1:Int)=>p0<=q1/\q1<(q0.length:Int)/\q0.length<=2000000000/\(∀r:List Int,(r.length=q0.length)->a0.length<=r.length/\r.length<=a0.length+1)) (λ_ q1=>[(0,.row 0),(1,sI a1),(5,sI p0),(6,sI q1)]) (λq0 _=>⟨[(0,.row (q0.map c_i64) 1 false 0)],1⟩) (λ_ q1=>(q1+1).toNat) (a0++[a1]) (IntKind.wrap .i64 (((a0++[a1]).length:Int)-(1:Int))) ?_ (fR1 2 rfl rfl rfl λ_=>rfl) λq0 q1 ⟨i0,i1,i3,hk⟩=>?_
   |refine ⟨_,(List.map_set (f:=c_i64) (a:=y0)).symm,?_⟩
   |refine ⟨⟨_,IntKind.wrap .i64 (q1-(1:Int))⟩,?_,?_,(fR1 0 rfl rfl rfl λ_=>rfl)⟩
   |refine ⟨_,(List.map_set (f:=c_i64) (a:=a1)).symm,?_⟩
  |omega
  |dsimp only
  |refine hk _ ?_
  |refine λr hr=>hk r ?_
  |(simp only [List.length_append,List.length_cons,List.length_nil,List.length_take,List.length_drop,List.length_set,List.length_map,ByteArray.size_extract] at hr;omega)
  |with_reducible apply And.intro
  |(simp (disch:=omega) only [ls]<;>omega)
theorem w59 (a0:List S65) (a1:Int) (g0:a0.length<=1000000000):WQv 293 [lE a0,sI a1] sI (λr=>((-1<=r/\r<(a0.length:Int))/\(0<=r->∃e,a0[r.toNat]?=some e/\e.f0=a1))/\(r<0->∀y∈a0,y.f0≠a1)):=by
 refine gO Tryz.func293 ?_
 repeat' first
  |with_reducible assumption
  |(conv=>whnf);first
   |apply bD<;>intro h
   |refine V1 (λ(p0:Int)=>0<=p0/\p0<=(a0.length:Int)/\(∀r:Int,(((-1<=r/\r<(a0.length:Int))/\(0<=r->∃e,a0[r.toNat]?=some e/\e.f0=a1))/\(r<0->∀y∈a0.drop p0.toNat,y.f0≠a1))->((-1<=r/\r<(a0.length:Int))/\(0<=r->∃e,a0[r.toNat]?=some e/\e.f0=a1))/\(r<0->∀y∈a0,y.f0≠a1))) (λp0=>[(0,lE a0),(1,sI a1),(5,sI p0)]) (λ_=>⟨[],0⟩) (λp0=>((a0.length:Int)+1-p0).toNat) (0:Int) ?_ (fN rfl rfl) λp0 ⟨i0,i1,hk⟩=>?_
   |refine lM ?_
   |refine wG ?_ ?_ (λ_=>rfl) λx hx hm=>?_
   |refine ⟨nx _,?_,?_,(fN rfl rfl)⟩
   |refine ⟨_,rfl,?_⟩
  |omega
  |dsimp only
  |refine hk _ ?_
  |refine λr hr=>hk r ?_
  |exact ⟨hr.1,λh0=>drop_all (by omega) hx (by omega) h (hr.2 h0)⟩
  |exact ⟨⟨⟨by omega,by omega⟩,λ_=>⟨_,hx,h⟩⟩,λhr=>absurd hr (by omega)⟩
  |exact λ_=>drop_none ‹_›
  |with_reducible apply And.intro
  |(simp (disch:=omega) only [ls]<;>omega)
  |intro hr
  |grind
theorem w257 (a0:Int) (a1:ByteArray) (a2:Int) (a3:ByteArray):WQv 414 [sI a0,sS a1,sI a2,sS a3] sB (λr=>True):=by
 refine gO Tryz.func414 ?_
 repeat' first
  |(conv=>whnf);first
   |apply bD<;>intro h
   |refine ⟨true,rfl,?_⟩
   |refine ⟨false,rfl,?_⟩
   |refine ⟨_,rfl,?_⟩
  |exact True.intro
theorem w16 (a0:List Int) (a1:Int) (g0:a0.length<=1000000000):WQv 362 [lI a0,sI a1] sB (λr=>(r=true↔a1∈a0)):=by
 refine gO Tryz.func362 ?_
 repeat' first
  |with_reducible assumption
  |(conv=>whnf);first
   |apply bD<;>intro h
   |refine V1 (λ(p0:Int)=>0<=p0/\p0<=(a0.length:Int)/\(∀r:Bool,((r=true↔a1∈a0.drop p0.toNat))->(r=true↔a1∈a0))) (λp0=>[(0,lI a0),(1,sI a1),(5,sI p0)]) (λ_=>⟨[],0⟩) (λp0=>((a0.length:Int)+1-p0).toNat) (0:Int) ?_ (fN rfl rfl) λp0 ⟨i0,i1,hk⟩=>?_
   |refine lM ?_
   |refine wG ?_ ?_ (λ_=>rfl) λx hx hm=>?_
   |refine ⟨true,rfl,?_⟩
   |refine ⟨nx _,?_,?_,(fN rfl rfl)⟩
   |refine ⟨false,rfl,?_⟩
  |omega
  |dsimp only
  |refine hk _ ?_
  |refine λr hr=>hk r ?_
  |(rw [drop_cons i0 hx (by omega)];exact ⟨λe=>List.mem_cons_of_mem _ (hr.1 e),λe=>hr.2 ((List.mem_cons.1 e).resolve_left λe=>h e.symm)⟩)
  |(rw [drop_cons i0 hx (by omega)];exact ⟨λ_=>List.mem_cons.2 (Or.inl h.symm),λ_=>rfl⟩)
  |(rw [drop_end h];exact ⟨λe=>(by cases e),λe=>(by cases e)⟩)
  |with_reducible apply And.intro
  |(simp (disch:=omega) only [ls]<;>omega)
  |intro hr
  |grind
theorem w263 (a0:List S71) (a1:Int) (a2:ByteArray) (g0:a0.length<=1000000000):WQv 421 [.lst (a0.map S71.c),sI a1,sS a2] (λr:Int×Bool=>.tup [sI r.1,sB r.2]) (λr=>True):=by
 refine gO Tryz.func421 ?_
 repeat' first
  |with_reducible assumption
  |(conv=>whnf);first
   |apply bD<;>intro h
   |apply bS<;>intro h
   |refine V1 (λ(p0:Int)=>0<=p0/\p0<=(a0.length:Int)) (λp0=>[(0,.lst (a0.map S71.c)),(1,sI a1),(2,sS a2),(8,sI p0)]) (λ_=>⟨[],0⟩) (λp0=>((a0.length:Int)+1-p0).toNat) (0:Int) ?_ (fN rfl rfl) λp0 ⟨i0,i1⟩=>?_
   |refine lM ?_
   |refine wE ‹_› ?_ (λ_=>rfl) ?_
   |refine wG ?_ ?_ (λ_=>rfl) λx hx hm=>?_
   |refine ⟨nx _,?_,?_,(fN rfl rfl)⟩
   |refine ⟨(_,true),rfl,?_⟩
   |refine ⟨((0:Int),false),rfl,?_⟩
  |omega
  |exact True.intro
  |with_reducible apply And.intro
  |(simp (disch:=omega) only [ls]<;>omega)
theorem w372 (a0:S65):WQv 475 [aE a0] sB (λr=>r=true->a0.f3≠0):=by
 refine gO Tryz.func475 ?_
 repeat' first
  |(conv=>whnf);first
   |apply bI<;>intro h
   |refine ⟨false,rfl,?_⟩
   |refine ⟨true,rfl,?_⟩
   |refine ⟨_,rfl,?_⟩
  |omega
  |dsimp only
  |(intro hr;first | omega | (simp at hr;omega))
theorem w438 (a0:List S71) (a1:Int) (a2:ByteArray) (g0:a0.length<=100):WQv 499 [.lst (a0.map S71.c),sI a1,sS a2] (λr:List S71=>.lst (r.map S71.c)) (λr=>r.length<=a0.length+1):=by
 refine gO Tryz.func499 ?_
 repeat' first
  |with_reducible assumption
  |(conv=>whnf);first
   |apply bD<;>intro h
   |apply bS<;>intro h
   |apply br<;>intro h
   |refine V1 (λ(p0:Int)=>0<=p0/\p0<=(a0.length:Int)) (λp0=>[(0,.lst (a0.map S71.c)),(1,sI a1),(2,sS a2),(7,sI p0)]) (λ_=>⟨[],0⟩) (λp0=>((a0.length:Int)+1-p0).toNat) (0:Int) ?_ (fN rfl rfl) λp0 ⟨i0,i1⟩=>?_
   |refine lM ?_
   |refine wE ‹_› ?_ (λ_=>rfl) ?_
   |refine wG ?_ ?_ (λ_=>rfl) λx hx hm=>?_
   |refine ⟨nx _,?_,?_,(fN rfl rfl)⟩
   |refine ⟨lens_map (f:=S71.c) (λ_=>rfl),?_,?_,slB _ ?_⟩
   |refine ⟨lens_map (f:=S71.c) (λ_=>rfl),?_,?_,slA _ _ ?_⟩
   |refine wA (l:=[]) (f:=S71.c) (m:=_) rfl (λ_=>⟨rfl,rfl⟩) ?_ ?_ ?_
   |refine wA (f:=S71.c) (m:=[⟨_,_,(0:Int)⟩]) rfl (λ_=>⟨rfl,rfl⟩) ?_ ?_ ?_
   |refine wA (f:=S71.c) (m:=_) rfl (λ_=>⟨rfl,rfl⟩) ?_ ?_ ?_
   |refine ⟨_,_,deep0 (leafs_map (f:=S71.c) (λ_=>rfl) _),?_⟩
   |refine ⟨_,rfl,?_⟩
  |omega
  |dsimp only
  |(simp only [List.length_append,List.length_cons,List.length_nil,List.length_take,List.length_drop,List.length_set,List.length_map,ByteArray.size_extract];omega)
  |with_reducible apply And.intro
  |(simp (disch:=omega) only [ls]<;>omega)
theorem w177 (a0:ByteArray):WQv 523 [sS a0] (λr:S59=>.agg (S59.c r)) (λr=>r.f0.length<=100/\r.f1.length<=100):=by
 refine gO Tryz.func523 ?_
 repeat' first
  |(conv=>whnf);first
   |apply bT'<;>intro h
   |refine ⟨_,_,deep0 (leafs_lit rfl),?_⟩
   |refine ⟨⟨[⟨_,(100:Int)⟩],[],(0:Int),(0:Int),(0:Int),(0:Int),(50:Int),(50:Int),(50:Int)⟩,rfl,?_⟩
   |refine ⟨⟨[],[],(0:Int),(0:Int),(0:Int),(0:Int),(50:Int),(50:Int),(50:Int)⟩,rfl,?_⟩
  |dsimp only
  |(simp only [List.length_cons,List.length_nil];omega)
theorem w322 (a0:S59) (a1:ByteArray) (g0:a0.f0.length<=100):WQv 505 [.agg (S59.c a0),sS a1] sI (λr=>True):=by
 refine gO Tryz.func505 ?_
 repeat' first
  |with_reducible assumption
  |(conv=>whnf);first
   |apply bD<;>intro h
   |apply bS<;>intro h
   |refine V1 (λ(p0:Int)=>0<=p0/\p0<=(a0.f0.length:Int)) (λp0=>[(1,sS a1),(2,.box 0 0),(5,sI p0)]) (λ_=>⟨[(0,.box (S59.c a0) false)],1⟩) (λp0=>((a0.f0.length:Int)+1-p0).toNat) (0:Int) ?_ (fB1 rfl rfl rfl rfl) λp0 ⟨i0,i1⟩=>?_
   |refine lM ?_
   |refine wE ‹_› ?_ (λ_=>rfl) ?_
   |refine wG ?_ ?_ (λ_=>rfl) λx hx hm=>?_
   |refine ⟨nx _,?_,?_,(fB1 rfl rfl rfl rfl)⟩
   |refine ⟨_,rfl,?_⟩
  |omega
  |exact True.intro
  |with_reducible apply And.intro
  |(simp (disch:=omega) only [ls]<;>omega)
theorem w139 (a0:List S65) (a1:ByteArray) (g0:a0.length<=1000000):WQv 469 [lE a0,sS a1] sI (λr=>True):=by
 refine gO Tryz.func469 ?_
 repeat' first
  |with_reducible assumption
  |(conv=>whnf);first
   |apply bD<;>intro h
   |apply bS<;>intro h
   |refine V1 (λ(p0:Int)=>0<=p0/\p0<=(a0.length:Int)) (λp0=>[(0,lE a0),(1,sS a1),(5,sI p0)]) (λ_=>⟨[],0⟩) (λp0=>((a0.length:Int)+1-p0).toNat) (0:Int) ?_ (fN rfl rfl) λp0 ⟨i0,i1⟩=>?_
   |refine lM ?_
   |refine wE ‹_› ?_ (λ_=>rfl) ?_
   |refine wG ?_ ?_ (λ_=>rfl) λx hx hm=>?_
   |refine ⟨nx _,?_,?_,(fN rfl rfl)⟩
   |refine ⟨_,rfl,?_⟩
  |omega
  |exact True.intro
  |with_reducible apply And.intro
  |(simp (disch:=omega) only [ls]<;>omega)
theorem w325 (a0:List S65) (g0:a0.length<=1000000):WQv 467 [lE a0] (λr:S65×Bool=>.tup [aE r.1,sB r.2]) (λr=>True):=by
 refine gO Tryz.func467 ?_
 repeat' first
  |with_reducible assumption
  |(conv=>whnf);first
   |apply bD<;>intro h
   |refine V2 (λ(p0:S65) (p1:Int)=>0<=p1/\p1<=(a0.length:Int)) (λ_ p1=>[(0,lE a0),(2,.box 0 0),(4,sI p1)]) (λp0 _=>⟨[(0,.box (S65.c p0) false)],1⟩) (λ_ p1=>((a0.length:Int)+1-p1).toNat) ze65 (0:Int) ?_ (fB1 rfl rfl rfl rfl) λp0 p1 ⟨i0,i1⟩=>?_
   |refine lM ?_
   |refine wE ‹_› ?_ (λ_=>rfl) ?_
   |refine wG ?_ ?_ (λ_=>rfl) λx hx hm=>?_
   |refine ⟨⟨_,nx _⟩,?_,?_,(fB1 rfl rfl rfl rfl)⟩
   |refine ⟨(_,true),rfl,?_⟩
   |refine ⟨(ze65,false),rfl,?_⟩
  |omega
  |exact True.intro
  |dsimp only
  |with_reducible apply And.intro
  |(simp (disch:=omega) only [ls]<;>omega)
theorem w480 (a0:List S65) (a1:ByteArray) (g0:a0.length<=1000000):WQv 519 [lE a0,sS a1] sB (λr=>True):=by
 refine gO Tryz.func519 ?_
 repeat' first
  |with_reducible assumption
  |(conv=>whnf);first
   |apply bD<;>intro h
   |apply bS<;>intro h
   |refine V1 (λ(p0:Int)=>0<=p0/\p0<=(a0.length:Int)) (λp0=>[(0,lE a0),(1,sS a1),(5,sI p0)]) (λ_=>⟨[],0⟩) (λp0=>((a0.length:Int)+1-p0).toNat) (0:Int) ?_ (fN rfl rfl) λp0 ⟨i0,i1⟩=>?_
   |refine lM ?_
   |refine wE ‹_› ?_ (λ_=>rfl) ?_
   |refine wG ?_ ?_ (λ_=>rfl) λx hx hm=>?_
   |refine ⟨true,rfl,?_⟩
   |refine ⟨nx _,?_,?_,(fN rfl rfl)⟩
   |refine ⟨false,rfl,?_⟩
  |omega
  |exact True.intro
  |with_reducible apply And.intro
  |(simp (disch:=omega) only [ls]<;>omega)
theorem w416 (a0:Int) (a1:Int) (a2:Bool):WQv 501 [sI a0,sI a1,sB a2] sB (λr=>True):=by
 refine gO Tryz.func501 ?_
 repeat' first
  |(conv=>whnf);first
   |apply bD<;>intro h
   |apply bN<;>intro h
   |apply br<;>intro h
   |refine ⟨false,rfl,?_⟩
   |refine ⟨true,rfl,?_⟩
   |refine ⟨_,rfl,?_⟩
  |exact True.intro
end Go.Abs.RM
