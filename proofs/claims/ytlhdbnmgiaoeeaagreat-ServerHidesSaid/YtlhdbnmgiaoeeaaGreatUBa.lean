/- Of ServerHides: walks. -/
import Derived.Test.YtlhdbnmgiaoeeaaGreatUAz
set_option linter.all false
namespace Go.Abs.RM
open Go.Proofs Go.Proofs.RMH
set_option maxRecDepth 100000
set_option maxHeartbeats 40000000
theorem w144 (a0:List S65) (g0:a0.length<=12) (g1:∀e∈a0,EB e):WQv 291 [lE a0] (λr:List S139=>.lst (r.map S139.c)) (λr=>r.length<=12/\∀x∈r,x.f2.length<=110000):=by
 refine gO Tryz.func291 ?_
 have hn1:([]:List S139).length=0:=rfl
 repeat' first
  |with_reducible assumption
  |(conv=>whnf);first
   |apply bD<;>intro h
   |apply br<;>intro h
   |refine wC (w201 _ ?_) λz201 hz=>?_
   |(refine V2 (λ(p0:List S139) (p1:Int)=>0<=p1/\p1<=(z201.length:Int)/\(p0.length:Int)=p1/\(∀x∈p0,x.f2.length+26<=26*2 ^ p1.toNat)) (λ_ p1=>[(0,lE a0),(3,.row 0),(4,lI z201),(5,sI p1)]) (λp0 _=>⟨[(0,.row (p0.map S139.c) 4 true 0)],1⟩) (λ_ p1=>((z201.length:Int)+20+1-p1).toNat) [] (0:Int) ?_ (ft [(0,none)] rfl rfl rfl ⟨fitO_nil rfl rfl,trivial⟩) λp0 p1 ⟨i0,i1,i3,i4⟩=>?_;rotate_left;have hp0:1<=2 ^ p1.toNat:=Nat.one_le_two_pow;have hz2:p1.toNat<=12:=(by omega);have hp1:2 ^ p1.toNat<=2 ^ 12:=Nat.pow_le_pow_right Nat.two_pos hz2;have hp2:(2:Nat) ^ 12=4096:=(by decide);have hp3:2 ^ (p1.toNat+1)=2 ^ p1.toNat*2:=Nat.pow_succ ..;have hn:(nx p1).toNat=p1.toNat+1:=(by rw [nx_eq (by omega) (by omega)];omega);rw [<-hn] at hp3;obtain ⟨K,hK⟩:∃K,K+26=26*2 ^ p1.toNat:=⟨26*2 ^ p1.toNat-26,(by omega)⟩;have g6:K<=110000:=(by omega);have g5:∀x∈p0,x.f2.length<=K:=λx hx=>(by have:=i4 x hx;omega);have h9:∀x∈p0,x.f2.length<=110000:=λx hx=>(by have:=g5 x hx;omega);have g8:26*2 ^ (nx p1).toNat=2*K+52:=(by omega);clear hp0 hp1 hp2 hp3 hz2 i4 hK;rotate_right)
   |refine lM ?_
   |refine wG ?_ ?_ (λ_=>rfl) λx hx hm=>?_
   |refine wC (w56 _ _ ?_) λz56 hg=>?_
   |refine V2 (λ(q0:List (List S71)) (q1:Int)=>0<=q1/\q1<=(z56.1.f8.length:Int)/\(q0.length:Int)<=q1/\(∀x∈q0,x.length<=K)) (λ_ q1=>[(0,lE a0),(3,.row 0),(4,lI z201),(5,sI p1),(6,.box 1 0),(8,.row 2),(9,sI q1)]) (λq0 _=>⟨[(0,.row (p0.map S139.c) 4 true 0),(1,.box (S65.c z56.1) false),(2,.row (q0.map cL26) 1 false 2)],3⟩) (λ_ q1=>((z56.1.f8.length:Int)+1-q1).toNat) [] (0:Int) ?_ (ft [(0,some 0),(1,some 1),(2,none)] rfl rfl rfl ⟨fRZ rfl rfl λ_=>rfl,fB rfl rfl rfl,fitO_nil rfl rfl,trivial⟩) λq0 q1 ⟨i0,i1,i3,i4⟩=>?_
   |refine ⟨_,_,deep0 (leafs_map (f:=S139.c) (λ_=>rfl) _),?_⟩
   |refine wC (w86 _ _ ?_) λz86 h86=>?_
   |refine wA (f:=cL26) (m:=[_]) rfl (λ_=>⟨rfl,rfl⟩) ?_ ?_ ?_
   |refine ⟨⟨_,nx _⟩,?_,?_,(ft [(0,some 0),(1,some 1),(2,some 5)] rfl rfl rfl ⟨fRZ rfl rfl λ_=>rfl,fB rfl rfl rfl,fR rfl rfl λ_=>rfl,trivial⟩)⟩
   |refine ⟨_,_,deep0 (leafs_map (f:=cL26) (λ_=>rfl) _),?_⟩
   |refine wC (w148 _ _ K ?_ ?_ ?_ ?_ ?_) λz148 h148=>?_
   |refine wC (w202 _ _ _ _ ?_ ?_ ?_ ?_ ?_) λz202 h202=>?_
   |refine wC (w116 _) λz116 hz=>?_
   |refine wC (w203 _ _ _ _ ?_) λz203 h203=>?_
   |refine wA (f:=S139.c) (m:=[⟨_,_,_,_⟩]) rfl (λ_=>⟨rfl,rfl⟩) ?_ ?_ ?_
   |refine ⟨⟨_,nx _⟩,?_,?_,(ft [(0,some 5)] rfl rfl rfl ⟨fRZ rfl rfl λ_=>rfl,trivial⟩)⟩
   |refine wC (w202 _ _ _ [] ?_ ?_ ?_ ?_ ?_) λz202 h202=>?_
   |refine wC (w203 [] _ _ _ ?_) λz203 h203=>?_
   |refine wA (f:=S139.c) (m:=[⟨_,[],_,_⟩]) rfl (λ_=>⟨rfl,rfl⟩) ?_ ?_ ?_
   |refine wA (f:=S139.c) (m:=[⟨_,[],[],_⟩]) rfl (λ_=>⟨rfl,rfl⟩) ?_ ?_ ?_
   |refine ⟨_,rfl,?_⟩
  |omega
  |(intro x hx;rcases List.mem_append.1 hx with hx | hx;(have:=g5 x hx;rw [g8];omega);(cases List.mem_singleton.1 hx;rw [g8];dsimp only;omega))
  |dsimp only
  |exact all_snoc i4 (find_le h86 g5)
  |exact λx hx=>absurd hx List.not_mem_nil
  |with_reducible apply And.intro
  |(simp (disch:=omega) only [ls]<;>omega)
  |grind
theorem w36 (a0:S30) (g0:a0.f1.length<=12) (g1:a0.f3.length<=12) (g2:∀e∈a0.f3,EM e):WQv 112 [.agg (S30.c a0)] sI (λr=>r=0->∀e∈a0.f3,EB e):=by
 refine gO Tryz.func112 ?_
 repeat' first
  |with_reducible assumption
  |(conv=>whnf);first
   |apply bJ<;>intro h
   |apply bD<;>intro h
   |apply br<;>intro h
   |refine wC (w33 _ _ ?_) λz33 h33=>?_
   |refine V1 (λ(p0:Int)=>0<=p0/\p0<=(a0.f3.length:Int)) (λp0=>[(1,.box 0 0),(4,sI p0)]) (λ_=>⟨[(0,.box (S30.c a0) false)],1⟩) (λp0=>((a0.f3.length:Int)+1-p0).toNat) (0:Int) ?_ (fB1 rfl rfl rfl rfl) λp0 ⟨i0,i1⟩=>?_
   |refine lM ?_
   |refine wG ?_ ?_ (λ_=>rfl) λx hx hm=>?_
   |refine wC (w56 _ _ ?_) λz56 hz=>?_
   |refine ⟨by kernel_rfl,?_⟩
   |refine ⟨nx _,?_,?_,(fB1 rfl rfl rfl rfl)⟩
   |refine V1 (λ(q0:Int)=>0<=q0/\q0<=(a0.f3.length:Int)) (λq0=>[(1,.box 0 0),(7,sI q0)]) (λ_=>⟨[(0,.box (S30.c a0) false)],1⟩) (λq0=>((a0.f3.length:Int)+1-q0).toNat) (0:Int) ?_ (fB1 rfl rfl rfl rfl) λq0 ⟨i0,i1⟩=>?_
   |refine wC (w88 _ _ ?_ ?_) λz88 hz=>?_
   |refine ⟨_,rfl,?_⟩
  |omega
  |dsimp only
  |with_reducible apply And.intro
  |(simp (disch:=omega) only [ls]<;>omega)
  |intro hr
  |grind
theorem w90 (a0:List S65) (a1:List S139) (g0:a0.length<=12) (g1:∀e∈a0,EB e) (g2:a1.length<=12) (g3:∀x∈a1,x.f2.length<=110000):WQv 212 [lE a0,.lst (a1.map S139.c)] (λr:List S71=>.lst (r.map S71.c)) (λr=>r.length<=220024):=by
 refine gO Tryz.func212 ?_
 have hn:([]:List (List S71)).length=0:=rfl
 repeat' first
  |with_reducible assumption
  |(conv=>whnf);first
   |apply bD<;>intro h
   |refine wC (w89 _ _ ?_ ?_ ?_) λz89 hz=>?_
   |refine V2 (λ(p0:List (List S71)) (p1:Int)=>0<=p1/\p1<=(z89.length:Int)/\(p0.length:Int)<=p1/\(∀x∈p0,x.length<=110000)) (λ_ p1=>[(0,lE a0),(1,.lst (a1.map S139.c)),(5,lI z89),(6,.row 0),(7,sI p1)]) (λp0 _=>⟨[(0,.row (p0.map cL26) 1 false 0)],1⟩) (λ_ p1=>((z89.length:Int)+1-p1).toNat) [] (0:Int) ?_ (ft [(0,none)] rfl rfl rfl ⟨fitO_nil rfl rfl,trivial⟩) λp0 p1 ⟨i0,i1,i3,i4⟩=>?_
   |refine lM ?_
   |refine wG ?_ ?_ (λ_=>rfl) λx hx hm=>?_
   |refine wC (w86 _ _ ?_) λz86 h86=>?_
   |refine wA (f:=cL26) (m:=[_]) rfl (λ_=>⟨rfl,rfl⟩) ?_ ?_ ?_
   |refine ⟨⟨_,nx _⟩,?_,?_,(fR1 3 rfl rfl rfl λ_=>rfl)⟩
   |refine ⟨_,_,deep0 (leafs_map (f:=cL26) (λ_=>rfl) _),?_⟩
   |refine wC (w148 _ _ 110000 ?_ ?_ ?_ ?_ ?_) λz148 h148=>?_
   |refine ⟨[],rfl,?_⟩
   |refine ⟨_,rfl,?_⟩
  |omega
  |dsimp only
  |exact all_snoc i4 (find_le h86 g3)
  |exact λx hx=>absurd hx List.not_mem_nil
  |with_reducible apply And.intro
  |(simp (disch:=omega) only [ls]<;>omega)
theorem w83 (a0:List S65) (g0:a0.length<=12) (g1:∀e∈a0,EB e):WQv 204 [lE a0] sI (λr=>True):=by
 refine gO Tryz.func204 ?_
 repeat' first
  |with_reducible assumption
  |(conv=>whnf);first
   |apply bD<;>intro h
   |apply br<;>intro h
   |refine wC (w144 _ ?_ ?_) λz144 hz=>?_
   |refine V2 (λ(p0:Int) (p1:Int)=>0<=p1/\p1<=(a0.length:Int)) (λp0 p1=>[(0,lE a0),(3,.lst (z144.map S139.c)),(4,sI p0),(5,sI p1)]) (λ_ _=>⟨[],0⟩) (λ_ p1=>((a0.length:Int)+1-p1).toNat) (0:Int) (0:Int) ?_ (fN rfl rfl) λp0 p1 ⟨i0,i1⟩=>?_
   |refine lM ?_
   |refine wE ‹_› ?_ (λ_=>rfl) ?_
   |refine wG ?_ ?_ (λ_=>rfl) λx hx hm=>?_
   |refine wC (w86 _ _ ?_) λz86 hz=>?_
   |refine ⟨⟨nx _,nx _⟩,?_,?_,(fN rfl rfl)⟩
   |refine ⟨⟨_,nx _⟩,?_,?_,(fN rfl rfl)⟩
   |refine ⟨_,rfl,?_⟩
  |omega
  |exact True.intro
  |dsimp only
  |with_reducible apply And.intro
  |(simp (disch:=omega) only [ls]<;>omega)
theorem w84 (a0:List S65) (g0:a0.length<=12) (g1:∀e∈a0,EB e) (g2:∀e∈a0,EM e):WQv 205 [lE a0] (λr:List S139=>.lst (r.map S139.c)) (λr=>r.length<=12/\∀x∈r,x.f2.length<=110000):=by
 refine gO Tryz.func205 ?_
 repeat' first
  |with_reducible assumption
  |(conv=>whnf);first
   |apply bN<;>intro h
   |refine wC (w145 _ ?_ ?_ ?_) λz145 hz=>?_
   |refine wC (w144 _ ?_ ?_) λz144 hz=>?_
   |refine ⟨[],rfl,?_⟩
   |refine ⟨_,rfl,?_⟩
  |dsimp only
  |exact ⟨Nat.zero_le _,λx hx=>(by cases hx)⟩
theorem w35 (a0:S30) (g0:a0.f1.length<=12) (g1:∀e∈a0.f1,EB e) (g2:∀e∈a0.f1,EM e):WQv 111 [.agg (S30.c a0)] sB (λr=>r=true->a0.f2.length=a0.f1.length):=by
 refine gO Tryz.func111 ?_
 repeat' first
  |with_reducible assumption
  |(conv=>whnf);first
   |apply bJ<;>intro h
   |apply bD<;>intro h
   |apply bN<;>intro h
   |refine lM ?_
   |refine ⟨false,rfl,?_⟩
   |refine wC (w83 _ ?_ ?_) λz83 hz=>?_
   |refine wC (w84 _ ?_ ?_ ?_) λz84 hz=>?_
   |refine V1 (λ(p0:Int)=>0<=p0/\p0<=(a0.f2.length:Int)) (λp0=>[(1,.box 0 0),(3,.lst (z84.map S139.c)),(4,sI p0)]) (λ_=>⟨[(0,.box (S30.c a0) false)],1⟩) (λp0=>((a0.f2.length:Int)+1-p0).toNat) (0:Int) ?_ (fB1 rfl rfl rfl rfl) λp0 ⟨i0,i1⟩=>?_
   |refine wG ?_ ?_ (λ_=>rfl) λx hx hm=>?_
   |refine wC (w85 _ _ ?_) λz85 hz=>?_
   |refine wC (w56 _ _ ?_) λz56 hg=>?_
   |refine wC (w86 _ _ ?_) λz86 hz=>?_
   |refine wC (w87 _ _ _ ?_ ?_) λz87 hz=>?_
   |refine ⟨nx _,?_,?_,(fB1 rfl rfl rfl rfl)⟩
   |refine ⟨true,rfl,?_⟩
  |omega
  |dsimp only
  |(intro hr;contradiction)
  |with_reducible apply And.intro
  |(simp (disch:=omega) only [ls]<;>omega)
  |grind
theorem w38 (a0:List S65) (g0:a0.length<=12) (g1:∀e∈a0,EB e) (g2:∀e∈a0,EM e):WQv 113 [lE a0] lI (λr=>r.length<=12):=by
 refine gO Tryz.func113 ?_
 repeat' first
  |with_reducible assumption
  |(conv=>whnf);first
   |refine wC (w84 _ ?_ ?_ ?_) λz84 hz=>?_
   |refine wC (w89 _ _ ?_ ?_ ?_) λz89 hz=>?_
   |refine ⟨_,rfl,?_⟩
  |omega
theorem w40 (a0:List S65) (g0:a0.length<=12) (g1:∀e∈a0,EB e) (g2:∀e∈a0,EM e):WQv 114 [lE a0] (λr:List S71=>.lst (r.map S71.c)) (λr=>r.length<=220024):=by
 refine gO Tryz.func114 ?_
 repeat' first
  |with_reducible assumption
  |(conv=>whnf);first
   |refine wC (w84 _ ?_ ?_ ?_) λz84 hz=>?_
   |refine wC (w90 _ _ ?_ ?_ ?_ ?_) λz90 hz=>?_
   |refine ⟨_,rfl,?_⟩
  |omega
  |exact hz.2
theorem w9 (a0:S30) (g0:(a0.f0.size:Int)<=9223372036854775807) (g1:a0.f1.length<=12) (g2:a0.f3.length<=12) (g3:∀e∈a0.f1,EM e) (g4:∀e∈a0.f3,EM e) (g5:a0.f4.length<=9223372036854775807) (g6:a0.f5.length<=9223372036854775807):WQv 62 [.agg (S30.c a0)] sI (λr=>r=0->RB a0):=by
 refine gO Tryz.func62 ?_
 repeat' first
  |with_reducible assumption
  |(conv=>whnf);first
   |apply bJ<;>intro h
   |apply bI<;>intro h
   |apply bN<;>intro h
   |refine wC (w32 _ ?_) λz32 b32=>?_
   |refine wC (w33 _ _ ?_) λz33 b33=>?_
   |refine wC (w34 _ ?_ ?_) λz34 b34=>?_
   |refine wC (w35 _ ?_ ?_ ?_) λz35 b35=>?_
   |refine wC (w36 _ ?_ ?_ ?_) λz36 b36=>?_
   |refine wC (w38 _ ?_ ?_ ?_) λz38 b38=>?_
   |refine wC (w37 _ _ ?_) λz37 b37=>?_
   |refine ⟨by kernel_rfl,?_⟩
   |refine wC (w40 _ ?_ ?_ ?_) λz40 b40=>?_
   |refine wC (w39 _ _ ?_) λz39 b39=>?_
   |refine ⟨(3:Int),rfl,?_⟩
   |refine ⟨_,rfl,?_⟩
  |omega
  |(unfold RB;grind)
  |intro hr
  |grind
theorem w2024 (a0:S2031) (g0:RawS a0) (g1:a0.f1.length<=3) (g2:a0.f2.length<=4) (g3:a0.f4.length<=4) (g4:∀x∈a0.f1,x.f1.length<=10/\x.f3.length<=4) (g5:∀q∈a0.f2,q.f2.length<=8/\q.f3.length<=8):WQv 24 [.agg (S2031.c a0)] sI (λr=>r=0->∀x∈a0.f1,RB x):=by
 refine gO Tryz.func24 ?_
 repeat' first
  |with_reducible assumption
  |(conv=>whnf);first
   |apply bJ<;>intro h
   |apply bD<;>intro h
   |apply br<;>intro h
   |refine wC (w142 _ ?_) λz142 hz=>?_
   |refine lM ?_
   |refine V1 (λ(p0:Int)=>1<=p0/\p0<=(a0.f1.length:Int)+1) (λp0=>[(1,.box 0 0),(3,sI p0)]) (λ_=>⟨[(0,.box (S2031.c a0) false)],1⟩) (λp0=>((a0.f1.length:Int)+1+1-p0).toNat) (1:Int) ?_ (fB1 rfl rfl rfl rfl) λp0 ⟨i0,i1⟩=>?_
   |refine wG ?_ ?_ (λ_=>rfl) λx hx hm=>?_
   |refine ⟨by kernel_rfl,?_⟩
   |refine ⟨nx _,?_,?_,(fB1 rfl rfl rfl rfl)⟩
   |refine V1 (λ(q0:Int)=>0<=q0/\q0<=(a0.f1.length:Int)/\TK a0.f1 q0 RB) (λq0=>[(1,.box 0 0),(4,sI q0)]) (λ_=>⟨[(0,.box (S2031.c a0) false)],1⟩) (λq0=>((a0.f1.length:Int)+1-q0).toNat) (0:Int) ?_ (fB1 rfl rfl rfl rfl) λq0 ⟨i0,i1,i3⟩=>?_
   |refine wC (w9 _ ?_ ?_ ?_ ?_ ?_ ?_ ?_) λz9 hz=>?_
   |refine V1 (λ(v0:Int)=>1<=v0/\v0<=(a0.f2.length:Int)+1/\(∀x∈a0.f1,RB x)) (λv0=>[(1,.box 0 0),(6,sI v0)]) (λ_=>⟨[(0,.box (S2031.c a0) false)],1⟩) (λv0=>((a0.f2.length:Int)+1+1-v0).toNat) (1:Int) ?_ (fB1 rfl rfl rfl rfl) λv0 ⟨i0,i1,i3⟩=>?_
   |refine V1 (λ(w0:Int)=>0<=w0/\w0<=(a0.f2.length:Int)/\(∀x∈a0.f1,RB x)) (λw0=>[(1,.box 0 0),(7,sI w0)]) (λ_=>⟨[(0,.box (S2031.c a0) false)],1⟩) (λw0=>((a0.f2.length:Int)+1-w0).toNat) (0:Int) ?_ (fB1 rfl rfl rfl rfl) λw0 ⟨i0,i1,i3⟩=>?_
   |refine wC (w2063 _ ?_ ?_ ?_) λz2063 hz=>?_
   |refine ⟨(3:Int),rfl,?_⟩
   |refine ⟨(29:Int),rfl,?_⟩
   |refine ⟨(8:Int),rfl,?_⟩
   |refine ⟨_,rfl,?_⟩
  |omega
  |(have q:=g0.1;omega)
  |exact TK.z
  |exact TK.nx ‹TK a0.f1 _ _› i0 (by omega) hx (hz ‹_›)
  |exact TK.en ‹TK a0.f1 _ RB› (by omega)
  |exact (g0.2.2.1 _ ‹_∈a0.f1›).2.1
  |exact (g0.2.2.1 _ ‹_∈a0.f1›).2.2.1
  |(have q:=g4 _ ‹_∈a0.f1›;omega)
  |(have q:=g0.2.2.1 _ ‹_∈a0.f1›;unfold RawG at q;omega)
  |(have q:=(g0.2.2.2.2.1 _ ‹_∈a0.f2›).2.2.2.2;omega)
  |exact (g5 _ ‹_∈a0.f2›).1
  |exact (g5 _ ‹_∈a0.f2›).2
  |exact λ_=>‹∀x∈a0.f1,RB x›
  |with_reducible apply And.intro
  |(simp (disch:=omega) only [ls]<;>omega)
theorem w2006 (a0:S2031) (g0:RawS a0):WQv 6 [.agg (S2031.c a0)] sB (λr=>r=true->LightS a0):=by
 refine gO Tryz.func6 ?_
 repeat' first
  |with_reducible assumption
  |(conv=>whnf);first
   |refine wE ‹_› ?_ (λ_=>rfl) ?_
   |apply bD<;>intro h
   |refine lM ?_
   |refine ⟨false,rfl,?_⟩
   |refine V1 (λ(p0:Int)=>0<=p0/\p0<=(a0.f1.length:Int)/\(a0.f1.length<=3/\a0.f2.length<=4/\a0.f4.length<=4)/\(TK a0.f1 p0 (λx=>x.f1.length<=10/\x.f3.length<=4))) (λp0=>[(1,.box 0 0),(3,sI p0)]) (λ_=>⟨[(0,.box (S2031.c a0) false)],1⟩) (λp0=>((a0.f1.length:Int)+1-p0).toNat) (0:Int) ?_ (fB1 rfl rfl rfl rfl) λp0 ⟨i0,i1,i3,i4⟩=>?_
   |refine wG ?_ ?_ (λ_=>rfl) λx hx hm=>?_
   |refine ⟨nx _,?_,?_,(fB1 rfl rfl rfl rfl)⟩
   |refine V1 (λ(q0:Int)=>0<=q0/\q0<=(a0.f2.length:Int)/\(a0.f1.length<=3/\a0.f2.length<=4/\a0.f4.length<=4)/\(∀x∈a0.f1,x.f1.length<=10/\x.f3.length<=4)/\(TK a0.f2 q0 (λq=>q.f2.length<=8/\q.f3.length<=8))) (λq0=>[(1,.box 0 0),(4,sI q0)]) (λ_=>⟨[(0,.box (S2031.c a0) false)],1⟩) (λq0=>((a0.f2.length:Int)+1-q0).toNat) (0:Int) ?_ (fB1 rfl rfl rfl rfl) λq0 ⟨i0,i1,i3,i4,i5⟩=>?_
   |refine wC (w2024 _ ?_ ?_ ?_ ?_ ?_ ?_) λz2024 hz=>?_
   |refine ⟨_,rfl,?_⟩
  |omega
  |exact TK.z
  |exact TK.nx ‹TK a0.f1 _ _› i0 (by omega) hx ⟨by omega,by omega⟩
  |exact TK.nx ‹TK a0.f2 _ _› i0 (by omega) hx ⟨by omega,by omega⟩
  |exact TK.en ‹TK a0.f1 _ _› (by omega)
  |exact TK.en ‹TK a0.f2 _ _› (by omega)
  |exact λhr=>⟨i3.1,i3.2.1,i3.2.2,λx hx=>⟨i4 x hx,hz (eq_of_beq hr) x hx⟩⟩
  |dsimp only
  |with_reducible apply And.intro
  |(simp (disch:=omega) only [ls]<;>omega)
  |contradiction
  |intro hr
end Go.Abs.RM
