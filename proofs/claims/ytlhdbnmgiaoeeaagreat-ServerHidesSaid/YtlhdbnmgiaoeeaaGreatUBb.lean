/- Of ServerHides: walks. -/
import Derived.Test.YtlhdbnmgiaoeeaaGreatUAs
set_option linter.all false
namespace Go.Abs.RM
open Go.Proofs Go.Proofs.RMH
set_option maxRecDepth 100000
set_option maxHeartbeats 40000000
theorem w215 (a0:S65) (a1:List S65) (g0:EB a0) (g1:a1.length<=1000000) (g2:∀e∈a1,EB e):WQv 118 [aE a0,lE a1] sI (λ_=>True):=by
 refine gO Tryz.func118 ?_
 repeat' first
  |with_reducible assumption
  |(conv=>whnf);first
   |refine wC (w291 (first:=[]) (w292 a0 a1 g1 g2 g0)) λz hz=>?_
   |refine ⟨_,rfl,?_⟩
theorem w562 (a0:List S65) (a1:S65) (g0:a0.length<=12) (g1:∀e∈a0,EB e) (g2:EB a1):WQv 603 [lE a0,aE a1] sI (λ_=>True):=by
 refine gO Tryz.func603 ?_
 repeat' first
  |with_reducible assumption
  |(conv=>whnf);first
   |refine wC (w505 a0 a1 ?_ ?_ ?_) λz505 h505=>?_
   |refine wC (w124 z505 ?_ ?_) λz124 h124=>?_
   |refine wC (w125 _ _ ?_) λz125 h125=>?_
   |refine ⟨_,rfl,?_⟩
  |exact λe he=>g1 e (h505.2 e he)
  |omega
theorem w384 (a0:S65) (g0:EB a0):WQv 78 [aE a0] sB (λr=>True):=by
 refine gO Tryz.func78 ?_
 repeat' first
  |with_reducible assumption
  |(conv=>whnf);first
   |apply bJ<;>intro h
   |apply bI<;>intro h
   |refine wC (w92 _ ?_) λz92 hz=>?_
   |refine ⟨false,rfl,?_⟩
   |refine wC (w447 _ ?_) λz447 hz=>?_
   |refine wC (w448 _ ?_) λz448 hz=>?_
   |refine ⟨true,rfl,?_⟩
   |refine ⟨_,rfl,?_⟩
  |grind
theorem w455 (a0:Int) (a1:S61) (g0:CB a1 400 100):WQv 169 [sI a0,.agg (S61.c a1)] sI (λr=>True):=by
 refine gO Tryz.func169 ?_
 repeat' first
  |with_reducible assumption
  |(conv=>whnf);first
   |apply bS<;>intro h
   |apply bJ<;>intro h
   |refine wC (w447 _ ?_) λz447 hz=>?_
   |refine ⟨(0:Int),rfl,?_⟩
   |refine ⟨(1:Int),rfl,?_⟩
   |refine ⟨_,rfl,?_⟩
  |dsimp only
  |grind
theorem w456 (a0:Int) (a1:S61) (g0:CB a1 400 100):WQv 170 [sI a0,.agg (S61.c a1)] sI (λr=>True):=by
 refine gO Tryz.func170 ?_
 repeat' first
  |with_reducible assumption
  |(conv=>whnf);first
   |apply bI<;>intro h
   |apply bD<;>intro h
   |apply bJ<;>intro h
   |apply br<;>intro h
   |refine wC (w457 _ ?_ ?_) λz457 hz=>?_
   |refine lM ?_
   |refine V1 (λ(p0:Int)=>0<=p0/\p0<=(a1.f5.length:Int)) (λp0=>[(3,.box 0 0),(29,.lst (a1.f5.map cStr)),(30,sI (a1.f5.length:Int)),(31,sI p0)]) (λ_=>⟨[(0,.box (S61.c a1) false)],1⟩) (λp0=>((a1.f5.length:Int)+1-p0).toNat) (0:Int) ?_ (fB1 rfl rfl rfl rfl) λp0 ⟨i0,i1⟩=>?_
   |refine wG ?_ ?_ (λ_=>rfl) λx hx hm=>?_
   |refine wC (w92 _ ?_) λz92 hz=>?_
   |refine ⟨nx _,?_,?_,(fB1 rfl rfl rfl rfl)⟩
   |refine ⟨_,rfl,?_⟩
  |omega
  |dsimp only
  |with_reducible apply And.intro
  |(simp (disch:=omega) only [ls]<;>omega)
  |intro hr
  |grind
theorem w501 (a0:List S179) (g0:a0.length<=1000) (g1:∀x∈a0,x.f0.size<=1000):WQv 260 [.lst (a0.map S179.c)] sI (λr=>True):=by
 refine gO Tryz.func260 ?_
 repeat' first
  |with_reducible assumption
  |(conv=>whnf);first
   |apply bD<;>intro h
   |apply bJ<;>intro h
   |apply br<;>intro h
   |refine lM ?_
   |refine V1 (λ(p0:Int)=>0<=p0/\p0<=(a0.length:Int)) (λp0=>[(0,.lst (a0.map S179.c)),(8,.lst (a0.map S179.c)),(9,sI (a0.length:Int)),(10,sI p0)]) (λ_=>⟨[],0⟩) (λp0=>((a0.length:Int)+1-p0).toNat) (0:Int) ?_ (fN rfl rfl) λp0 ⟨i0,i1⟩=>?_
   |refine wG ?_ ?_ (λ_=>rfl) λx hx hm=>?_
   |refine wC (w447 _ ?_) λz447 hz=>?_
   |refine ⟨by kernel_rfl,?_⟩
   |refine wC (w503 _) λz503 hz=>?_
   |refine ⟨nx _,?_,?_,(fN rfl rfl)⟩
   |refine ⟨(7:Int),rfl,?_⟩
   |refine ⟨(3:Int),rfl,?_⟩
   |refine ⟨(8:Int),rfl,?_⟩
   |refine ⟨(2:Int),rfl,?_⟩
   |refine ⟨(0:Int),rfl,?_⟩
  |omega
  |dsimp only
  |with_reducible apply And.intro
  |(simp (disch:=omega) only [ls]<;>omega)
  |grind
theorem w468 (a0:List S65) (a1:List (List S71)) (g0:a0.length<=100000) (g1:∀e∈a0,EB e) (g2:a1.length<=100) (g3:∀s∈a1,s.length<=110000):WQv 387 [lE a0,.lst (a1.map cL26)] lI (λr=>r.length<=200000000/\r.Nodup):=wSv (o468 a0 a1 g0 g1 g2 g3)
theorem w534 (a0:List S65) (a1:List S71) (a2:Int) (g0:a0.length<=12) (g1:∀e∈a0,EB e) (g2:a1.length<=300000):WQP 517 [lE a0,.lst (a1.map S71.c),sI a2] (λr:List S71=>.lst (r.map S71.c)) (λr=>r.length<=a1.length+1) stepG:=by
 refine goP Tryz.func517 (by kernel_rfl) ?_
 repeat' first
  |with_reducible assumption
  |(conv=>whnf);first
   |apply bJ<;>intro h
   |apply bN<;>intro h
   |refine wC (w50z a0 _ ?_) λz50 h50=>?_
   |refine wC (w107 _) λz107 h107=>?_
   |refine wC (w538 a0 a1 z50.1 ?_ ?_ ?_ ?_) λz538 h538=>?_
   |refine wC (w215 z50.1 z538 ?_ ?_ ?_) λz215 h215=>?_
   |refine ⟨(by kernel_rfl:drawW _ _ _=true),?_⟩
   |refine wC (w461 a1 _ _ _ ?_) λz461 h461=>?_
   |refine λxs hxs=>?_
   |exact step_pan_ok ‹_›
   |refine ⟨_,rfl,?_⟩
  |exact eb_or g1 h50
  |omega
  |grind
theorem w560 (a0:List S65) (a1:List Int) (g0:a0.length<=12) (g1:∀e∈a0,EB e) (g2:a1.length<=1000000000):WQv 601 [lE a0,lI a1] (λr:List S468=>.lst (r.map S468.c)) (λr=>r.length<=a0.length/\∀x∈r,x.f3.length<=1000000):=by
 refine gO Tryz.func601 ?_
 repeat' first
  |with_reducible assumption
  |(conv=>whnf);first
   |apply bD<;>intro h
   |apply br<;>intro h
   |refine wC (w163 a1 ?_) λz163 h163=>?_
   |refine lM ?_
   |refine wG ?_ ?_ (λ_=>rfl) λx hx hm=>?_
   |refine wC (w50 a0 _ ?_) λz50 h50=>?_
   |refine wC (w562 a0 z50.1 ?_ ?_ ?_) λz562 h562=>?_
   |refine ⟨(by kernel_rfl:drawW _ _ _=true),?_⟩
   |refine V2 (λ(p:Int) (o:List S468)=>0<=p/\p<=(z163.length:Int)/\Fr (Kn a0) z163 (o.map S468.f0) p/\∀x∈o,x.f3.length<=1000000) (λp o=>[(0,lE a0),(5,.row 0),(11,lI z163),(12,sI (z163.length:Int)),(13,sI p)]) (λp o=>⟨[(0,.row (o.map S468.c) 4 false 0)],1⟩) (λp o=>((z163.length:Int)-p).toNat) (0:Int) [] ?_ (ft [(0,none)] rfl rfl rfl ⟨f0 rfl rfl,trivial⟩) λp o ⟨i0,i1,i2,i3⟩=>?_
   |refine wC (w509 a0 [x] ?_ ?_ ?_) λz509 h509=>?_
   |refine wA (f:=S468.c) (m:=[⟨x,z562,z50.1.f6,z509⟩]) rfl (λ_=>⟨rfl,rfl⟩) ?_ ?_ ?_
   |refine ⟨⟨nx _,o⟩,?_,?_,(ft [(0,some 0)] rfl rfl rfl ⟨fR (f:=S468.c) rfl rfl λ_=>rfl,trivial⟩)⟩
   |refine ⟨⟨nx _,_⟩,?_,?_,(ft [(0,some 4)] rfl rfl rfl ⟨fR (f:=S468.c) rfl rfl λ_=>rfl,trivial⟩)⟩
   |refine ⟨_,_,deep0 (leafs_map (f:=S468.c) (λ_=>rfl) _),?_⟩
   |refine ⟨_,_,deep0 (leafs_map (f:=c_i64) (λ_=>rfl) [x]),?_⟩
   |refine ⟨_,rfl,?_⟩
  |exact fr0
  |exact fr_skip i0 (by omega) i2
  |exact fr_map rfl (fr_snoc h163.2.2 i0 (by omega) hx i2 ⟨_,h50.2.1 ‹_›⟩)
  |(have:=fr_lenM i2;omega)
  |(have:=fr_lenM i2;simp only [List.length_singleton];omega)
  |exact g1 _ (h50.1 ‹_›).1
  |exact snoc_all i3 (show z509.length<=1000000 by omega)
  |exact λ_ h=>by cases h
  |omega
  |dsimp only
  |with_reducible apply And.intro
  |(simp (disch:=omega) only [ls]<;>omega)
theorem w386l (k:Int) (c:S61) (g:CB c 400 100):∀x∈l386,WQv x.2 ([]++[sI k,.agg (S61.c c)]++[]) sI (λ_=>True):=by
 intro x hx
 simp only [l386,List.mem_cons,List.not_mem_nil,or_false] at hx
 rcases hx with rfl | rfl | rfl | rfl | rfl | rfl
 exact w451 k c g
 exact w452 k c g
 exact w453 k c g
 exact w454 k c g
 exact w455 k c g
 exact w456 k c g
theorem w458 (a0:S59) (g0:a0.f0.length<=1000) (g1:∀x∈a0.f0,x.f0.size<=1000) (g2:a0.f1.length<=1000):WQv 172 [.agg (S59.c a0)] sI (λ_=>True):=by
 refine gO Tryz.func172 ?_
 repeat' first
  |with_reducible assumption
  |(conv=>whnf);first
   |apply bD<;>intro h
   |apply bJ<;>intro h
   |apply br<;>intro h
   |refine wC (w501 _ ?_ ?_) λz501 hz=>?_
   |refine wC (w502 _ ?_) λz502 hz=>?_
   |refine wC (w503 _) λz503 hz=>?_
   |refine V1 (λ(p0:Int)=>0<=p0/\p0<=7) (λp0=>[(33,.agg (A7.c (⟨a0.f2,a0.f3,a0.f4,a0.f5,a0.f6,a0.f7,a0.f8⟩:A7))),(34,sI p0)]) (λ_=>⟨[],0⟩) (λp0=>(7-p0).toNat) (0:Int) ?_ (fN rfl rfl) λp0 ⟨i0,i1⟩=>?_
   |refine ⟨nx _,?_,?_,(fN rfl rfl)⟩
   |refine arr3 ?_ ?_ ?_
   |refine arrC (λhk=>?_) ?_
   |trivial
   |refine ⟨_,rfl,?_⟩
  |with_reducible apply And.intro
  |(simp (disch:=omega) only [ls]<;>omega)
theorem w460 (b:Nat) (a0:List S65) (a1:S65) (a2:List S71) (g0:a0.length<=12) (g1:∀e∈a0,EB e) (g2:EB a1) (g3:a2.length<=1000000):WQv 316 [.ipt [.imb (GS b),.imb (GS b),.imb GE],lE a0,aE a1,.lst (a2.map S71.c)] sI (λ_=>True):=by
 refine gO Tryz.func316 ?_
 repeat' first
  |with_reducible assumption
  |(conv=>whnf);first
   |apply bD<;>intro h
   |apply bJ<;>intro h
   |refine wC (w504 a0 a1 ?_ ?_ ?_) λz504 h504=>?_
   |refine wC (w505 a0 a1 ?_ ?_ ?_) λz505 h505=>?_
   |refine wC (w215 a1 z505 ?_ ?_ ?_) λz215 h215=>?_
   |refine wC (w138 a0 a2 ?_ ?_) λz138 h138=>?_
   |refine wC (w215 a1 z138 ?_ ?_ ?_) λz215 h215=>?_
   |refine ⟨(by kernel_rfl:drawW _ _ _=true),?_⟩
   |refine lM ?_
   |refine wG ?_ ?_ (λ_=>rfl) λx hx hm=>?_
   |refine lkF (λs hs=>?_) ?_
   |refine V1 (λ(p0:Int)=>0<=p0/\p0<=(a1.f9.length:Int)) (λp0=>[(0,.ipt [.imb (GS b),.imb (GS b),.imb GE]),(1,lE a0),(3,.lst (a2.map S71.c)),(6,.box 0 0),(28,lI a1.f9),(29,sI (a1.f9.length:Int)),(30,sI p0)]) (λ_=>⟨[(0,.box (S65.c a1) false)],1⟩) (λp0=>((a1.f9.length:Int)-p0).toNat) (0:Int) ?_ (fB1 rfl rfl rfl rfl) λp0 ⟨i0,i1⟩=>?_
   |refine ⟨nx _,?_,?_,(fB1 rfl rfl rfl rfl)⟩
   |refine ⟨_,rfl,?_⟩
  |exact λe he=>g1 e (h138.2 e he)
  |exact λe he=>g1 e (h505.2 e he)
  |omega
  |with_reducible apply And.intro
  |grind
theorem w521 (a0:List S65) (a1:List S71) (a2:Int) (g0:a0.length<=12) (g1:∀e∈a0,EB e) (g2:a1.length<=300000):WQv 489 [lE a0,.lst (a1.map S71.c),sI a2] (λr:List S71=>.lst (r.map S71.c)) (λr=>r.length<=a1.length+1):=step_of (w534 a0 a1 a2 g0 g1 g2) (Nat.le_succ _)
theorem w559 (a0:List S65) (a1:List Int) (g0:a0.length<=12) (g1:∀e∈a0,EB e) (g2:a1.length<=1000000000):WQv 600 [lE a0,lI a1] lI (λr=>r.length<=a0.length):=by
 refine gO Tryz.func600 ?_
 repeat' first
  |with_reducible assumption
  |(conv=>whnf);first
   |apply bD<;>intro h
   |apply br<;>intro h
   |refine wC (w560 a0 a1 ?_ ?_ ?_) λz560 h560=>?_
   |refine lM ?_
   |refine V2 (λ(l:List S468) (o:List Int)=>l.length+o.length<=a0.length/\∀x∈l,x.f3.length<=1000000) (λl o=>[(5,.lst (l.map S468.c)),(6,.row 0),(7,.fnp 602 [] [])]) (λl o=>⟨[(0,.row (o.map c_i64) 1 false 0)],1⟩) (λl o=>l.length) z560 [] ?_ (ft [(0,none)] rfl rfl rfl ⟨f0 rfl rfl,trivial⟩) λl o ⟨i0,i1⟩=>?_
   |refine V2 (λ(p b:Int)=>0<=p/\p<=(l.length:Int)/\-1<=b/\b<(l.length:Int)) (λp b=>[(5,.lst (l.map S468.c)),(6,.row 0),(7,.fnp 602 [] []),(8,sI b),(19,.lst (l.map S468.c)),(20,sI (l.length:Int)),(21,sI p)]) (λp b=>⟨[(0,.row (o.map c_i64) 1 false 0)],1⟩) (λp b=>((l.length:Int)-p).toNat) (0:Int) (-1:Int) ?_ (ft [(0,some 0)] rfl rfl rfl ⟨fR (f:=c_i64) rfl rfl λ_=>rfl,trivial⟩) λp b ⟨j0,j1,j2,j3⟩=>?_
   |refine V1 (λ(q:Int)=>0<=q/\q<=(l.length:Int)) (λq=>[(5,.lst (l.map S468.c)),(6,.row 0),(7,.fnp 602 [] []),(8,sI b),(19,.lst (l.map S468.c)),(20,sI (l.length:Int)),(21,sI p),(9,sI p),(10,.box 1 0),(26,.lst (l.map S468.c)),(27,sI (l.length:Int)),(28,sI q)]) (λq=>⟨[(0,.row (o.map c_i64) 1 false 0),(1,.box (S468.c x) false)],2⟩) (λq=>((l.length:Int)-q).toNat) (0:Int) ?_ (ft [(0,some 0),(1,some 1)] rfl rfl rfl ⟨fR (f:=c_i64) rfl rfl λ_=>rfl,fB rfl rfl rfl,trivial⟩) λq ⟨k0,k1⟩=>?_
   |refine ⟨nx _,?_,?_,(ft [(0,some 0),(1,some 1)] rfl rfl rfl ⟨fR (f:=c_i64) rfl rfl λ_=>rfl,fB rfl rfl rfl,trivial⟩)⟩
   |refine ⟨⟨nx _,_⟩,?_,?_,(ft [(0,some 0)] rfl rfl rfl ⟨fR (f:=c_i64) rfl rfl λ_=>rfl,trivial⟩)⟩
   |refine wG ?_ ?_ (λ_=>rfl) λx hx hm=>?_
   |refine wC (w412 _ _ ?_) λz412 h412=>?_
   |refine wC (w561 _ _) λz561 h561=>?_
   |refine ⟨(by kernel_rfl:drawW _ _ _=true),?_⟩
   |refine wA (f:=c_i64) (m:=[_]) rfl (λ_=>⟨rfl,rfl⟩) ?_ ?_ ?_
   |refine ⟨_,_,deep0 (leafs_map (f:=c_i64) (λ_=>rfl) _),?_⟩
   |refine slT (f:=S468.c) (λ_=>rfl) ?_ ?_ rfl ?_
   |refine slD (f:=S468.c) (λ_=>rfl) ?_ ?_ ?_
   |refine wY (f:=S468.c) (m:=l.drop _) rfl (λ_=>⟨rfl,rfl⟩) ?_ ?_ ?_ λhz0=>?_
   |refine ⟨⟨_,_⟩,?_,?_,suits_trans (lend_suits 5 rfl rfl (leafs_map (f:=S468.c) (λ_=>rfl) _)) (ft [(0,some 2)] rfl rfl rfl ⟨fR (f:=c_i64) rfl rfl λ_=>rfl,trivial⟩)⟩
   |refine ⟨⟨_,_⟩,?_,?_,(ft [(0,some 2)] rfl rfl rfl ⟨fR (f:=c_i64) rfl rfl λ_=>rfl,trivial⟩)⟩
   |refine ⟨_,rfl,?_⟩
  |exact λy hy=>i1 y (mem_cut hy)
  |exact λy hy=>i1 y (List.mem_of_mem_take hy)
  |(simp (disch:=omega) only [ls,List.length_take,List.length_drop];omega)
  |omega
  |dsimp only
  |with_reducible apply And.intro
  |grind
theorem w386 (a0:Int) (a1:S61) (g0:CB a1 400 100):WQv 80 [sI a0,.agg (S61.c a1)] sI (λ_=>True):=by
 refine gO Tryz.func80 ?_
 repeat' first
  |with_reducible assumption
  |(conv=>whnf);first
   |apply bD<;>intro h
   |apply bJ<;>intro h
   |apply bN<;>intro h
   |refine wC (w319 _) λz319 h319=>?_
   |refine wC (w449 _) λz449 h449=>?_
   |refine wC (w450 a1 g0) λz450 h450=>?_
   |refine wC (w231 _) λz231 h231=>?_
   |refine wC (w457 a1.f6 ?_ ?_) λz457 h457=>?_
   |refine wC (w458 a1.f7 ?_ ?_ ?_) λz458 h458=>?_
   |refine ⟨6,rfl,?_⟩
   |refine wR (l:=l386) (f:=cPF) ?_ ?_ ?_
   |refine wL (l:=l386) (f:=cPF) ?_ ?_ λx hx=>?_
   |refine V1 (λ(p:Int)=>0<=p/\p<=6) (λp=>[(0,sI a0),(3,.box 0 0),(5,sI z319),(37,.row 1),(38,sI 6),(39,sI p)]) (λp=>⟨[(0,.box (S61.c a1) false),(1,.row (l386.map cPF) 2 false 1)],2⟩) (λp=>(6-p).toNat) (0:Int) ?_ (ft [(0,some 0),(1,some 1)] rfl rfl rfl ⟨fB rfl rfl rfl,fR (f:=cPF) (l:=l386) rfl rfl λ_=>rfl,trivial⟩) λp ⟨i0,i1⟩=>?_
   |refine ⟨nx _,?_,?_,(ft [(0,some 0),(1,some 1)] rfl rfl rfl ⟨fB rfl rfl rfl,fR (f:=cPF) (l:=l386) rfl rfl λ_=>rfl,trivial⟩)⟩
   |refine wC (w386l _ a1 g0 x (List.mem_of_getElem? hx)) λz hz=>?_
   |refine ⟨_,rfl,?_⟩
  |exact Int.lt_of_lt_of_le ‹_› (Int.le_refl _)
  |(obtain ⟨q0,q1,q2,q3,q4,q5,q6,q7,q8⟩:=g0;first | omega | (exact λx hx=>Nat.le_trans (q7 x hx) (by decide)) | (exact λx hx=>Nat.le_trans (q8 x hx) (by decide)))
  |with_reducible apply And.intro
  |(simp (disch:=omega) only [ls]<;>omega)
theorem w510 (a0:List S65) (a1:List S71) (a2:List Int) (g0:a0.length<=12) (g1:∀e∈a0,EB e) (g2:a1.length+a2.length<=300000):WQv 443 [lE a0,.lst (a1.map S71.c),lI a2] (λr:List S71=>.lst (r.map S71.c)) (λr=>r.length<=a1.length+a2.length):=by
 refine gO Tryz.func443 ?_
 repeat' first
  |with_reducible assumption
  |(conv=>whnf);first
   |apply bD<;>intro h
   |refine wC (w520 a1 ?_) λz520 h520=>?_
   |refine lM ?_
   |refine wG ?_ ?_ (λ_=>rfl) λx hx hm=>?_
   |refine wC (w521 a0 s x ?_ ?_ ?_) λz521 h521=>?_
   |refine V2 (λ(p:Int) (s:List S71)=>0<=p/\p<=(a2.length:Int)/\(s.length:Int)<=(a1.length:Int)+p) (λp s=>[(0,lE a0),(7,.lst (s.map S71.c)),(12,lI a2),(13,sI (a2.length:Int)),(14,sI p)]) (λ_ _=>⟨[],0⟩) (λp _=>((a2.length:Int)-p).toNat) (0:Int) z520 ?_ (fN rfl rfl) λp s ⟨i0,i1,i2⟩=>?_
   |refine ⟨⟨nx _,_⟩,?_,?_,(fN rfl rfl)⟩
   |refine ⟨_,rfl,?_⟩
  |(subst h520;omega)
  |omega
  |dsimp only
  |with_reducible apply And.intro
  |(simp (disch:=omega) only [ls]<;>omega)
theorem w558 (a0:List S65) (a1:List Int) (g0:a0.length<=12) (g1:∀e∈a0,EB e) (g2:a1.length<=1000000000):WQv 599 [.agg [],lE a0,lI a1] lI (λr=>r.length<=a0.length):=by
 refine gO Tryz.func599 ?_
 repeat' first
  |with_reducible assumption
  |(conv=>whnf);first
   |refine wC (w559 a0 a1 ?_ ?_ ?_) λz559 h559=>?_
   |refine ⟨_,rfl,?_⟩
theorem w280 (a0:S65) (g0:EB a0):WQv 32 [aE a0] sI (λr=>True):=by
 refine gO Tryz.func32 ?_
 repeat' first
  |with_reducible assumption
  |(conv=>whnf);first
   |apply bI<;>intro h
   |apply bD<;>intro h
   |apply bJ<;>intro h
   |apply bT'<;>intro h
   |apply bN<;>intro h
   |refine ⟨by kernel_rfl,?_⟩
   |refine wC (w107 _) λz107 hz=>?_
   |refine wC (w384 _ ?_) λz384 hz=>?_
   |refine lM ?_
   |refine wC (w385 _ ?_) λz385 hz=>?_
   |refine wC (w386 _ _ ?_) λz386 hz=>?_
   |refine ⟨(1:Int),rfl,?_⟩
   |refine ⟨(3:Int),rfl,?_⟩
   |refine ⟨(2:Int),rfl,?_⟩
   |refine ⟨(7:Int),rfl,?_⟩
   |refine ⟨(8:Int),rfl,?_⟩
   |refine ⟨(9:Int),rfl,?_⟩
   |refine ⟨(6:Int),rfl,?_⟩
   |refine ⟨_,rfl,?_⟩
  |omega
  |dsimp only
  |grind
theorem w470a (a0:List S65) (a1:List S71) (a2:List Int) (g0:a0.length<=12) (g1:∀e∈a0,EB e) (g2:a1.length<=200000) (g3:a2.length<=1000000000):WQv 389 [lE a0,.lst (a1.map S71.c),lI a2,.ifc 403 (.agg [])] (λr:List S71×List Int=>.tup [.lst (r.1.map S71.c),lI r.2]) (λr=>r.1.length<=a1.length+12):=by
 refine gO Tryz.func389 ?_
 repeat' first
  |with_reducible assumption
  |(conv=>whnf);first
   |refine ⟨599,λv w=>by kernel_rfl,?_⟩
   |refine wC (w558 a0 a2 ?_ ?_ ?_) λz558 h558=>?_
   |refine wC (w510 a0 a1 z558 ?_ ?_ ?_) λz510 h510=>?_
   |refine ⟨(_,_),rfl,?_⟩
  |exact Nat.le_trans h510 (by omega)
  |omega
theorem w470b (a0:List S65) (a1:List S71) (a2:List Int) (a3:List Int) (g0:a0.length<=12) (g1:∀e∈a0,EB e) (g2:a1.length<=200000) (g3:a2.length<=1000000000) (g4:a2.Nodup) (g5:a3.length<=1000000):WQv 389 [lE a0,.lst (a1.map S71.c),lI a2,.ifc 407 (.agg [lI a3])] (λr:List S71×List Int=>.tup [.lst (r.1.map S71.c),lI r.2]) (λr=>r.1.length<=a1.length+12):=by
 refine gO Tryz.func389 ?_
 repeat' first
  |with_reducible assumption
  |(conv=>whnf);first
   |refine ⟨604,λv w=>by kernel_rfl,?_⟩
   |refine wC (w563 a0 a3 a2 ?_ ?_ ?_ ?_ ?_) λz563 h563=>?_
   |refine wC (w510 a0 a1 z563 ?_ ?_ ?_) λz510 h510=>?_
   |refine ⟨(_,_),rfl,?_⟩
  |exact Nat.le_trans h510 (by omega)
  |omega
theorem w209 (a0:S65) (g0:EB a0):WQv 11 [aE a0] sI (λr=>True):=by
 refine gO Tryz.func11 ?_
 repeat' first
  |with_reducible assumption
  |(conv=>whnf);first
   |apply bJ<;>intro h
   |apply bN<;>intro h
   |apply br<;>intro h
   |refine wC (w280 _ ?_) λz280 hz=>?_
   |refine wC (w208 _ ?_) λz208 hz=>?_
   |refine wC (w172 _ _ ?_) λz172 hz=>?_
   |refine wC (w281 _ _ ?_) λz281 hz=>?_
   |refine ⟨by kernel_rfl,?_⟩
   |refine wC (w150 _ ?_) λz150 hz=>?_
   |refine wC (w123 _ ?_) λz123 hz=>?_
   |refine λ(_:Bool) _=>?_
   |refine ⟨_,rfl,?_⟩
  |grind
theorem w404 (b:Nat) (a0:List S65) (a1:List (List S71)) (g0:a0.length<=12) (g1:∀e∈a0,EB e) (g2:a1.length<=10) (g3:b<=110000) (g4:∀s∈a1,s.length<=b) (g5:2<=a1.length):WQv 330 [lE a0,.lst (a1.map cL26)] (λr:List S71×List Int×List Int=>.agg [.lst (r.1.map S71.c),lI r.2.1,lI r.2.2]) (λr=>r.1.length<=2*b+24):=by
 refine gO Tryz.func330 ?_
 repeat' first
  |with_reducible assumption
  |(conv=>whnf);first
   |apply bD<;>intro h
   |apply br<;>intro h
   |refine wC (w467 b a1 ?_ ?_ ?_) λz467 h467=>?_
   |refine wC (w468 a0 a1 ?_ ?_ ?_ ?_) λz468 h468=>?_
   |refine wC (w469 a0 z468 ?_ ?_ ?_ ?_) λz469 h469=>?_
   |refine wC (w470a a0 z467.1 z469 ?_ ?_ ?_ ?_) λz470 h470=>?_
   |refine wC (w315 z470.1 _ _ ?_) λz315 h315=>?_
   |refine wC (w471 a0 _ ?_ ?_) λz471 h471=>?_
   |refine wC (w472 z468 z469 ?_ ?_) λz472 h472=>?_
   |refine wC (w470b a0 z470.1 z472 z471 ?_ ?_ ?_ ?_ ?_ ?_) λz470b h470b=>?_
   |refine wC (w470b a0 z470.1 z472 [] ?_ ?_ ?_ ?_ ?_ ?_) λz470b h470b=>?_
   |refine wC (w461 s _ _ _ ?_) λz461 h461=>?_
   |refine lM ?_
   |refine wG ?_ ?_ (λ_=>rfl) λx hx hm=>?_
   |refine V2 (λ(p:Int) (s:List S71)=>0<=p/\p<=(z467.1.length:Int)/\(s.length:Int)<=z470b.1.length+p) (λp s=>[(4,.box 0 0),(9,.box 1 0),(60,.lst (z467.1.map S71.c)),(61,sI (z467.1.length:Int)),(62,sI p)]) (λp s=>⟨[(0,.box [.lst [],.lst [],.lst []] false),(1,.box [.lst (s.map S71.c),lI z470.2,lI z470b.2] false)],2⟩) (λp s=>((z467.1.length:Int)-p).toNat) (0:Int) z470b.1 ?_ (ft [(0,some 0),(1,some 1)] rfl rfl rfl ⟨fB rfl rfl rfl,fB rfl rfl rfl,trivial⟩) λp s ⟨i0,i1,i2⟩=>?_
   |refine ⟨⟨nx _,_⟩,?_,?_,(ft [(0,some 0),(1,some 1)] rfl rfl rfl ⟨fB rfl rfl rfl,fB rfl rfl rfl,trivial⟩)⟩
   |refine ⟨(_,_,_),rfl,?_⟩
  |exact h468.2
  |exact h472.2
  |(have:=h468.1;omega)
  |(have:=h467.1;omega)
  |exact λs hs=>Nat.le_trans (g4 s hs) (by omega)
  |exact Nat.zero_le _
  |omega
  |dsimp only
  |with_reducible apply And.intro
  |(simp (disch:=omega) only [ls]<;>omega)
theorem w392 (a0:List S65) (g0:a0.length<=1000000) (g1:∀e∈a0,EB e):WQv 233 [lE a0] sI (λr=>True):=by
 refine gO Tryz.func233 ?_
 repeat' first
  |with_reducible assumption
  |(conv=>whnf);first
   |apply bD<;>intro h
   |apply bJ<;>intro h
   |apply bT'<;>intro h
   |refine lM ?_
   |refine V1 (λ(p0:Int)=>0<=p0/\p0<=(a0.length:Int)) (λp0=>[(0,lE a0),(12,lE a0),(13,sI (a0.length:Int)),(14,sI p0)]) (λ_=>⟨[],0⟩) (λp0=>((a0.length:Int)+1-p0).toNat) (0:Int) ?_ (fN rfl rfl) λp0 ⟨i0,i1⟩=>?_
   |refine wG ?_ ?_ (λ_=>rfl) λx hx hm=>?_
   |refine wC (w209 _ ?_) λz209 hz=>?_
   |refine ⟨nx _,?_,?_,(fN rfl rfl)⟩
   |refine V1 (λ(q0:Int)=>0<=q0/\q0<=(a0.length:Int)) (λq0=>[(0,lE a0),(24,lE a0),(25,sI (a0.length:Int)),(26,sI q0)]) (λ_=>⟨[],0⟩) (λq0=>((a0.length:Int)+1-q0).toNat) (0:Int) ?_ (fN rfl rfl) λq0 ⟨i0,i1⟩=>?_
   |refine ⟨by kernel_rfl,?_⟩
   |refine V1 (λ(v0:Int)=>1<=v0/\v0<=(a0.length:Int)+1) (λv0=>[(0,lE a0),(8,sI v0)]) (λ_=>⟨[],0⟩) (λv0=>((a0.length:Int)+1+1-v0).toNat) (1:Int) ?_ (fN rfl rfl) λv0 ⟨i0,i1⟩=>?_
   |refine ⟨(7:Int),rfl,?_⟩
   |refine ⟨_,rfl,?_⟩
  |omega
  |dsimp only
  |exact g1 _ hm
  |with_reducible apply And.intro
  |(simp (disch:=omega) only [ls]<;>omega)
theorem w301 (b:Nat) (a0:List S65) (a1:List (List S71)) (g0:a0.length<=12) (g1:∀e∈a0,EB e) (g2:a1.length<=10) (g3:b<=110000) (g4:∀s∈a1,s.length<=b):WQv 256 [lE a0,.lst (a1.map cL26)] (λr:List S71=>.lst (r.map S71.c)) (λr=>r.length<=2*b+25):=by
 refine gO Tryz.func256 ?_
 repeat' first
  |with_reducible assumption
  |(conv=>whnf);first
   |apply bD<;>intro h
   |refine lM ?_
   |refine wG ?_ ?_ (λ_=>rfl) λx hx hm=>?_
   |refine wC (w404 b a0 a1 ?_ ?_ ?_ ?_ ?_ ?_) λz404 h404=>?_
   |refine wA0 (f:=S71.c) (m:=x) rfl (λ_=>⟨rfl,rfl⟩) ?_ ?_ ?_
   |refine ⟨_,_,deep0 (leafs_map (f:=S71.c) (λ_=>rfl) _),?_⟩
   |refine ⟨[],rfl,?_⟩
   |refine ⟨_,rfl,?_⟩
  |(have:=g4 x hm;omega)
  |exact Nat.zero_le _
  |omega
  |dsimp only
end Go.Abs.RM
