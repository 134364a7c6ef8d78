/- Of GapsBounds: walks. -/
import Derived.Test.YthbenojbjjgnaaaGreatUBa
set_option linter.all false
namespace Go.Abs.RM
open Go.Proofs
set_option maxRecDepth 100000
set_option maxHeartbeats 40000000
theorem w456 (a0:Int) (a1:S61) (g0:CB a1 400 100):WQv 456 [sI a0,.agg (S61.c a1)] sI (fun r=>True):=by
 refine gO Tryz.func456 ?_
 repeat' first
  |with_reducible assumption
  |(conv=>whnf);first
   |apply bI<;>intro h
   |apply bD<;>intro h
   |apply bJ<;>intro h
   |apply br<;>intro h
   |refine wC (w457 _ ?_ ?_) fun z457 hz=>?_
   |refine lM ?_
   |refine V1 (fun (p0:Int)=>0≤p0∧p0≤(a1.f5.length:Int)) (fun p0=>[(3,.box 0 0),(29,.lst (a1.f5.map cStr)),(30,sI (a1.f5.length:Int)),(31,sI p0)]) (fun _=>⟨[(0,.box (S61.c a1) false)],1⟩) (fun p0=>((a1.f5.length:Int)+1-p0).toNat) (0:Int) ?_ (fB1 rfl rfl rfl rfl) fun p0 ⟨i0,i1⟩=>?_
   |refine wG ?_ ?_ (fun _=>rfl) fun x hx hm=>?_
   |refine wC (w92 _ ?_) fun z92 hz=>?_
   |refine ⟨nx _,?_,?_,(fB1 rfl rfl rfl rfl)⟩
   |refine ⟨_,rfl,?_⟩
  |omega
  |dsimp only
  |with_reducible apply And.intro
  |(simp (disch:=omega) only [ls]<;>omega)
  |intro hr
  |grind
theorem w501 (a0:List S179) (g0:a0.length≤1000) (g1:∀x∈a0,x.f0.size≤1000):WQv 501 [.lst (a0.map S179.c)] sI (fun r=>True):=by
 refine gO Tryz.func501 ?_
 repeat' first
  |with_reducible assumption
  |(conv=>whnf);first
   |apply bD<;>intro h
   |apply bJ<;>intro h
   |apply br<;>intro h
   |refine lM ?_
   |refine V1 (fun (p0:Int)=>0≤p0∧p0≤(a0.length:Int)) (fun p0=>[(0,.lst (a0.map S179.c)),(8,.lst (a0.map S179.c)),(9,sI (a0.length:Int)),(10,sI p0)]) (fun _=>⟨[],0⟩) (fun p0=>((a0.length:Int)+1-p0).toNat) (0:Int) ?_ (fN rfl rfl) fun p0 ⟨i0,i1⟩=>?_
   |refine wG ?_ ?_ (fun _=>rfl) fun x hx hm=>?_
   |refine wC (w447 _ ?_) fun z447 hz=>?_
   |refine ⟨by kernel_rfl,?_⟩
   |refine wC (w503 _) fun z503 hz=>?_
   |refine ⟨nx _,?_,?_,(fN rfl rfl)⟩
   |refine ⟨(7:Int),rfl,?_⟩
   |refine ⟨(3:Int),rfl,?_⟩
   |refine ⟨(8:Int),rfl,?_⟩
   |refine ⟨(2:Int),rfl,?_⟩
   |refine ⟨(0:Int),rfl,?_⟩
  |omega
  |dsimp only
  |with_reducible apply And.intro
  |(simp (disch:=omega) only [ls]<;>omega)
  |grind
theorem w468 (a0:List S65) (a1:List (List S71)) (g0:a0.length≤100000) (g1:∀e∈a0,EB e) (g2:a1.length≤100) (g3:∀s∈a1,s.length≤110000):WQv 468 [lE a0,.lst (a1.map cL26)] lI (fun r=>r.length≤200000000∧r.Nodup):=wSv (o468 a0 a1 g0 g1 g2 g3)
theorem w534 (a0:List S65) (a1:List S71) (a2:Int) (g0:a0.length≤12) (g1:∀e∈a0,EB e) (g2:a1.length≤300000):WQP 534 [lE a0,.lst (a1.map S71.c),sI a2] (fun r:List S71=>.lst (r.map S71.c)) (fun r=>r.length≤a1.length+1) stepG:=by
 refine goP Tryz.func534 (by kernel_rfl) ?_
 repeat' first
  |with_reducible assumption
  |(conv=>whnf);first
   |apply bJ<;>intro h
   |apply bN<;>intro h
   |refine wC (w50z a0 _ ?_) fun z50 h50=>?_
   |refine wC (w107 _) fun z107 h107=>?_
   |refine wC (w538 a0 a1 z50.1 ?_ ?_ ?_ ?_) fun z538 h538=>?_
   |refine wC (w215 z50.1 z538 ?_ ?_ ?_) fun z215 h215=>?_
   |refine ⟨(by kernel_rfl:drawW _ _ _=true),?_⟩
   |refine wC (w461 a1 _ _ _ ?_) fun z461 h461=>?_
   |refine fun xs hxs=>?_
   |exact step_pan_ok ‹_›
   |refine ⟨_,rfl,?_⟩
  |exact eb_or g1 h50
  |omega
  |grind
theorem w560 (a0:List S65) (a1:List Int) (g0:a0.length≤12) (g1:∀e∈a0,EB e) (g2:a1.length≤1000000000):WQv 560 [lE a0,lI a1] (fun r:List S468=>.lst (r.map S468.c)) (fun r=>r.length≤a0.length∧∀x∈r,x.f3.length≤1000000):=by
 refine gO Tryz.func560 ?_
 repeat' first
  |with_reducible assumption
  |(conv=>whnf);first
   |apply bD<;>intro h
   |apply br<;>intro h
   |refine wC (w163 a1 ?_) fun z163 h163=>?_
   |refine lM ?_
   |refine wG ?_ ?_ (fun _=>rfl) fun x hx hm=>?_
   |refine wC (w50 a0 _ ?_) fun z50 h50=>?_
   |refine wC (w562 a0 z50.1 ?_ ?_ ?_) fun z562 h562=>?_
   |refine ⟨(by kernel_rfl:drawW _ _ _=true),?_⟩
   |refine V2 (fun (p:Int) (o:List S468)=>0≤p∧p≤(z163.length:Int)∧Fr (Kn a0) z163 (o.map S468.f0) p∧∀x∈o,x.f3.length≤1000000) (fun p o=>[(0,lE a0),(5,.row 0),(11,lI z163),(12,sI (z163.length:Int)),(13,sI p)]) (fun p o=>⟨[(0,.row (o.map S468.c) 4 false 0)],1⟩) (fun p o=>((z163.length:Int)-p).toNat) (0:Int) [] ?_ (ft [(0,none)] rfl rfl rfl ⟨f0 rfl rfl,trivial⟩) fun p o ⟨i0,i1,i2,i3⟩=>?_
   |refine wC (w509 a0 [x] ?_ ?_ ?_) fun z509 h509=>?_
   |refine wA (f:=S468.c) (m:=[⟨x,z562,z50.1.f6,z509⟩]) rfl (fun _=>⟨rfl,rfl⟩) ?_ ?_ ?_
   |refine ⟨⟨nx _,o⟩,?_,?_,(ft [(0,some 0)] rfl rfl rfl ⟨fR (f:=S468.c) rfl rfl fun _=>rfl,trivial⟩)⟩
   |refine ⟨⟨nx _,_⟩,?_,?_,(ft [(0,some 4)] rfl rfl rfl ⟨fR (f:=S468.c) rfl rfl fun _=>rfl,trivial⟩)⟩
   |refine ⟨_,_,deep0 (leafs_map (f:=S468.c) (fun _=>rfl) _),?_⟩
   |refine ⟨_,_,deep0 (leafs_map (f:=c_i64) (fun _=>rfl) [x]),?_⟩
   |refine ⟨_,rfl,?_⟩
  |exact fr0
  |exact fr_skip i0 (by omega) i2
  |exact fr_map rfl (fr_snoc h163.2.2 i0 (by omega) hx i2 ⟨_,h50.2.1 ‹_›⟩)
  |(have:=fr_lenM i2;omega)
  |(have:=fr_lenM i2;simp only [List.length_singleton];omega)
  |exact g1 _ (h50.1 ‹_›).1
  |exact snoc_all i3 (show z509.length≤1000000 by omega)
  |exact fun _ h=>by cases h
  |omega
  |dsimp only
  |with_reducible apply And.intro
  |(simp (disch:=omega) only [ls]<;>omega)
theorem w386l (k:Int) (c:S61) (g:CB c 400 100):∀x∈l386,WQv x.2 ([]++[sI k,.agg (S61.c c)]++[]) sI (fun _=>True):=by
 intro x hx
 simp only [l386,List.mem_cons,List.not_mem_nil,or_false] at hx
 rcases hx with rfl | rfl | rfl | rfl | rfl | rfl
 exact w451 k c g
 exact w452 k c g
 exact w453 k c g
 exact w454 k c g
 exact w455 k c g
 exact w456 k c g
theorem w458 (a0:S59) (g0:a0.f0.length≤1000) (g1:∀x∈a0.f0,x.f0.size≤1000) (g2:a0.f1.length≤1000):WQv 458 [.agg (S59.c a0)] sI (fun _=>True):=by
 refine gO Tryz.func458 ?_
 repeat' first
  |with_reducible assumption
  |(conv=>whnf);first
   |apply bD<;>intro h
   |apply bJ<;>intro h
   |apply br<;>intro h
   |refine wC (w501 _ ?_ ?_) fun z501 hz=>?_
   |refine wC (w502 _ ?_) fun z502 hz=>?_
   |refine wC (w503 _) fun z503 hz=>?_
   |refine V1 (fun (p0:Int)=>0≤p0∧p0≤7) (fun p0=>[(33,.agg (A7.c (⟨a0.f2,a0.f3,a0.f4,a0.f5,a0.f6,a0.f7,a0.f8⟩:A7))),(34,sI p0)]) (fun _=>⟨[],0⟩) (fun p0=>(7-p0).toNat) (0:Int) ?_ (fN rfl rfl) fun p0 ⟨i0,i1⟩=>?_
   |refine ⟨nx _,?_,?_,(fN rfl rfl)⟩
   |refine arr3 ?_ ?_ ?_
   |refine arrC (fun hk=>?_) ?_
   |trivial
   |refine ⟨_,rfl,?_⟩
  |with_reducible apply And.intro
  |(simp (disch:=omega) only [ls]<;>omega)
theorem w460 (b:Nat) (a0:List S65) (a1:S65) (a2:List S71) (g0:a0.length≤12) (g1:∀e∈a0,EB e) (g2:EB a1) (g3:a2.length≤1000000):WQv 460 [.ipt [.imb (GS b),.imb (GS b),.imb GE],lE a0,aE a1,.lst (a2.map S71.c)] sI (fun _=>True):=by
 refine gO Tryz.func460 ?_
 repeat' first
  |with_reducible assumption
  |(conv=>whnf);first
   |apply bD<;>intro h
   |apply bJ<;>intro h
   |refine wC (w504 a0 a1 ?_ ?_ ?_) fun z504 h504=>?_
   |refine wC (w505 a0 a1 ?_ ?_ ?_) fun z505 h505=>?_
   |refine wC (w215 a1 z505 ?_ ?_ ?_) fun z215 h215=>?_
   |refine wC (w138 a0 a2 ?_ ?_) fun z138 h138=>?_
   |refine wC (w215 a1 z138 ?_ ?_ ?_) fun z215 h215=>?_
   |refine ⟨(by kernel_rfl:drawW _ _ _=true),?_⟩
   |refine lM ?_
   |refine wG ?_ ?_ (fun _=>rfl) fun x hx hm=>?_
   |refine lkF (fun s hs=>?_) ?_
   |refine V1 (fun (p0:Int)=>0≤p0∧p0≤(a1.f9.length:Int)) (fun p0=>[(0,.ipt [.imb (GS b),.imb (GS b),.imb GE]),(1,lE a0),(3,.lst (a2.map S71.c)),(6,.box 0 0),(28,lI a1.f9),(29,sI (a1.f9.length:Int)),(30,sI p0)]) (fun _=>⟨[(0,.box (S65.c a1) false)],1⟩) (fun p0=>((a1.f9.length:Int)-p0).toNat) (0:Int) ?_ (fB1 rfl rfl rfl rfl) fun p0 ⟨i0,i1⟩=>?_
   |refine ⟨nx _,?_,?_,(fB1 rfl rfl rfl rfl)⟩
   |refine ⟨_,rfl,?_⟩
  |exact fun e he=>g1 e (h138.2 e he)
  |exact fun e he=>g1 e (h505.2 e he)
  |omega
  |with_reducible apply And.intro
  |grind
theorem w521 (a0:List S65) (a1:List S71) (a2:Int) (g0:a0.length≤12) (g1:∀e∈a0,EB e) (g2:a1.length≤300000):WQv 521 [lE a0,.lst (a1.map S71.c),sI a2] (fun r:List S71=>.lst (r.map S71.c)) (fun r=>r.length≤a1.length+1):=step_of (w534 a0 a1 a2 g0 g1 g2) (Nat.le_succ _)
theorem w559 (a0:List S65) (a1:List Int) (g0:a0.length≤12) (g1:∀e∈a0,EB e) (g2:a1.length≤1000000000):WQv 559 [lE a0,lI a1] lI (fun r=>r.length≤a0.length):=by
 refine gO Tryz.func559 ?_
 repeat' first
  |with_reducible assumption
  |(conv=>whnf);first
   |apply bD<;>intro h
   |apply br<;>intro h
   |refine wC (w560 a0 a1 ?_ ?_ ?_) fun z560 h560=>?_
   |refine lM ?_
   |refine V2 (fun (l:List S468) (o:List Int)=>l.length+o.length≤a0.length∧∀x∈l,x.f3.length≤1000000) (fun l o=>[(5,.lst (l.map S468.c)),(6,.row 0),(7,.fnp 561 [] [])]) (fun l o=>⟨[(0,.row (o.map c_i64) 1 false 0)],1⟩) (fun l o=>l.length) z560 [] ?_ (ft [(0,none)] rfl rfl rfl ⟨f0 rfl rfl,trivial⟩) fun l o ⟨i0,i1⟩=>?_
   |refine V2 (fun (p b:Int)=>0≤p∧p≤(l.length:Int)∧-1≤b∧b<(l.length:Int)) (fun p b=>[(5,.lst (l.map S468.c)),(6,.row 0),(7,.fnp 561 [] []),(8,sI b),(19,.lst (l.map S468.c)),(20,sI (l.length:Int)),(21,sI p)]) (fun p b=>⟨[(0,.row (o.map c_i64) 1 false 0)],1⟩) (fun p b=>((l.length:Int)-p).toNat) (0:Int) (-1:Int) ?_ (ft [(0,some 0)] rfl rfl rfl ⟨fR (f:=c_i64) rfl rfl fun _=>rfl,trivial⟩) fun p b ⟨j0,j1,j2,j3⟩=>?_
   |refine V1 (fun (q:Int)=>0≤q∧q≤(l.length:Int)) (fun q=>[(5,.lst (l.map S468.c)),(6,.row 0),(7,.fnp 561 [] []),(8,sI b),(19,.lst (l.map S468.c)),(20,sI (l.length:Int)),(21,sI p),(9,sI p),(10,.box 1 0),(26,.lst (l.map S468.c)),(27,sI (l.length:Int)),(28,sI q)]) (fun q=>⟨[(0,.row (o.map c_i64) 1 false 0),(1,.box (S468.c x) false)],2⟩) (fun q=>((l.length:Int)-q).toNat) (0:Int) ?_ (ft [(0,some 0),(1,some 1)] rfl rfl rfl ⟨fR (f:=c_i64) rfl rfl fun _=>rfl,fB rfl rfl rfl,trivial⟩) fun q ⟨k0,k1⟩=>?_
   |refine ⟨nx _,?_,?_,(ft [(0,some 0),(1,some 1)] rfl rfl rfl ⟨fR (f:=c_i64) rfl rfl fun _=>rfl,fB rfl rfl rfl,trivial⟩)⟩
   |refine ⟨⟨nx _,_⟩,?_,?_,(ft [(0,some 0)] rfl rfl rfl ⟨fR (f:=c_i64) rfl rfl fun _=>rfl,trivial⟩)⟩
   |refine wG ?_ ?_ (fun _=>rfl) fun x hx hm=>?_
   |refine wC (w412 _ _ ?_) fun z412 h412=>?_
   |refine wC (w561 _ _) fun z561 h561=>?_
   |refine ⟨(by kernel_rfl:drawW _ _ _=true),?_⟩
   |refine wA (f:=c_i64) (m:=[_]) rfl (fun _=>⟨rfl,rfl⟩) ?_ ?_ ?_
   |refine ⟨_,_,deep0 (leafs_map (f:=c_i64) (fun _=>rfl) _),?_⟩
   |refine slT (f:=S468.c) (fun _=>rfl) ?_ ?_ rfl ?_
   |refine slD (f:=S468.c) (fun _=>rfl) ?_ ?_ ?_
   |refine wY (f:=S468.c) (m:=l.drop _) rfl (fun _=>⟨rfl,rfl⟩) ?_ ?_ ?_ fun hz0=>?_
   |refine ⟨⟨_,_⟩,?_,?_,suits_trans (lend_suits 5 rfl rfl (leafs_map (f:=S468.c) (fun _=>rfl) _)) (ft [(0,some 2)] rfl rfl rfl ⟨fR (f:=c_i64) rfl rfl fun _=>rfl,trivial⟩)⟩
   |refine ⟨⟨_,_⟩,?_,?_,(ft [(0,some 2)] rfl rfl rfl ⟨fR (f:=c_i64) rfl rfl fun _=>rfl,trivial⟩)⟩
   |refine ⟨_,rfl,?_⟩
  |exact fun y hy=>i1 y (mem_cut hy)
  |exact fun y hy=>i1 y (List.mem_of_mem_take hy)
  |(simp (disch:=omega) only [ls,List.length_take,List.length_drop];omega)
  |omega
  |dsimp only
  |with_reducible apply And.intro
  |grind
theorem w386 (a0:Int) (a1:S61) (g0:CB a1 400 100):WQv 386 [sI a0,.agg (S61.c a1)] sI (fun _=>True):=by
 refine gO Tryz.func386 ?_
 repeat' first
  |with_reducible assumption
  |(conv=>whnf);first
   |apply bD<;>intro h
   |apply bJ<;>intro h
   |apply bN<;>intro h
   |refine wC (w319 _) fun z319 h319=>?_
   |refine wC (w449 _) fun z449 h449=>?_
   |refine wC (w450 a1 g0) fun z450 h450=>?_
   |refine wC (w231 _) fun z231 h231=>?_
   |refine wC (w457 a1.f6 ?_ ?_) fun z457 h457=>?_
   |refine wC (w458 a1.f7 ?_ ?_ ?_) fun z458 h458=>?_
   |refine ⟨6,rfl,?_⟩
   |refine wR (l:=l386) (f:=cPF) ?_ ?_ ?_
   |refine wL (l:=l386) (f:=cPF) ?_ ?_ fun x hx=>?_
   |refine V1 (fun (p:Int)=>0≤p∧p≤6) (fun p=>[(0,sI a0),(3,.box 0 0),(5,sI z319),(37,.row 1),(38,sI 6),(39,sI p)]) (fun p=>⟨[(0,.box (S61.c a1) false),(1,.row (l386.map cPF) 2 false 1)],2⟩) (fun p=>(6-p).toNat) (0:Int) ?_ (ft [(0,some 0),(1,some 1)] rfl rfl rfl ⟨fB rfl rfl rfl,fR (f:=cPF) (l:=l386) rfl rfl fun _=>rfl,trivial⟩) fun p ⟨i0,i1⟩=>?_
   |refine ⟨nx _,?_,?_,(ft [(0,some 0),(1,some 1)] rfl rfl rfl ⟨fB rfl rfl rfl,fR (f:=cPF) (l:=l386) rfl rfl fun _=>rfl,trivial⟩)⟩
   |refine wC (w386l _ a1 g0 x (List.mem_of_getElem? hx)) fun z hz=>?_
   |refine ⟨_,rfl,?_⟩
  |exact Int.lt_of_lt_of_le ‹_› (Int.le_refl _)
  |(obtain ⟨q0,q1,q2,q3,q4,q5,q6,q7,q8⟩:=g0;first | omega | (exact fun x hx=>Nat.le_trans (q7 x hx) (by decide)) | (exact fun x hx=>Nat.le_trans (q8 x hx) (by decide)))
  |with_reducible apply And.intro
  |(simp (disch:=omega) only [ls]<;>omega)
theorem w510 (a0:List S65) (a1:List S71) (a2:List Int) (g0:a0.length≤12) (g1:∀e∈a0,EB e) (g2:a1.length+a2.length≤300000):WQv 510 [lE a0,.lst (a1.map S71.c),lI a2] (fun r:List S71=>.lst (r.map S71.c)) (fun r=>r.length≤a1.length+a2.length):=by
 refine gO Tryz.func510 ?_
 repeat' first
  |with_reducible assumption
  |(conv=>whnf);first
   |apply bD<;>intro h
   |refine wC (w520 a1 ?_) fun z520 h520=>?_
   |refine lM ?_
   |refine wG ?_ ?_ (fun _=>rfl) fun x hx hm=>?_
   |refine wC (w521 a0 s x ?_ ?_ ?_) fun z521 h521=>?_
   |refine V2 (fun (p:Int) (s:List S71)=>0≤p∧p≤(a2.length:Int)∧(s.length:Int)≤(a1.length:Int)+p) (fun p s=>[(0,lE a0),(7,.lst (s.map S71.c)),(12,lI a2),(13,sI (a2.length:Int)),(14,sI p)]) (fun _ _=>⟨[],0⟩) (fun p _=>((a2.length:Int)-p).toNat) (0:Int) z520 ?_ (fN rfl rfl) fun p s ⟨i0,i1,i2⟩=>?_
   |refine ⟨⟨nx _,_⟩,?_,?_,(fN rfl rfl)⟩
   |refine ⟨_,rfl,?_⟩
  |(subst h520;omega)
  |omega
  |dsimp only
  |with_reducible apply And.intro
  |(simp (disch:=omega) only [ls]<;>omega)
theorem w558 (a0:List S65) (a1:List Int) (g0:a0.length≤12) (g1:∀e∈a0,EB e) (g2:a1.length≤1000000000):WQv 558 [.agg [],lE a0,lI a1] lI (fun r=>r.length≤a0.length):=by
 refine gO Tryz.func558 ?_
 repeat' first
  |with_reducible assumption
  |(conv=>whnf);first
   |refine wC (w559 a0 a1 ?_ ?_ ?_) fun z559 h559=>?_
   |refine ⟨_,rfl,?_⟩
theorem w280 (a0:S65) (g0:EB a0):WQv 280 [aE a0] sI (fun r=>True):=by
 refine gO Tryz.func280 ?_
 repeat' first
  |with_reducible assumption
  |(conv=>whnf);first
   |apply bI<;>intro h
   |apply bD<;>intro h
   |apply bJ<;>intro h
   |apply bT'<;>intro h
   |apply bN<;>intro h
   |refine ⟨by kernel_rfl,?_⟩
   |refine wC (w107 _) fun z107 hz=>?_
   |refine wC (w384 _ ?_) fun z384 hz=>?_
   |refine lM ?_
   |refine wC (w385 _ ?_) fun z385 hz=>?_
   |refine wC (w386 _ _ ?_) fun z386 hz=>?_
   |refine ⟨(1:Int),rfl,?_⟩
   |refine ⟨(3:Int),rfl,?_⟩
   |refine ⟨(2:Int),rfl,?_⟩
   |refine ⟨(7:Int),rfl,?_⟩
   |refine ⟨(8:Int),rfl,?_⟩
   |refine ⟨(9:Int),rfl,?_⟩
   |refine ⟨(6:Int),rfl,?_⟩
   |refine ⟨_,rfl,?_⟩
  |omega
  |dsimp only
  |grind
theorem w470a (a0:List S65) (a1:List S71) (a2:List Int) (g0:a0.length≤12) (g1:∀e∈a0,EB e) (g2:a1.length≤200000) (g3:a2.length≤1000000000):WQv 470 [lE a0,.lst (a1.map S71.c),lI a2,.ifc 404 (.agg [])] (fun r:List S71×List Int=>.tup [.lst (r.1.map S71.c),lI r.2]) (fun r=>r.1.length≤a1.length+12):=by
 refine gO Tryz.func470 ?_
 repeat' first
  |with_reducible assumption
  |(conv=>whnf);first
   |refine ⟨558,fun v w=>by kernel_rfl,?_⟩
   |refine wC (w558 a0 a2 ?_ ?_ ?_) fun z558 h558=>?_
   |refine wC (w510 a0 a1 z558 ?_ ?_ ?_) fun z510 h510=>?_
   |refine ⟨(_,_),rfl,?_⟩
  |exact Nat.le_trans h510 (by omega)
  |omega
theorem w470b (a0:List S65) (a1:List S71) (a2:List Int) (a3:List Int) (g0:a0.length≤12) (g1:∀e∈a0,EB e) (g2:a1.length≤200000) (g3:a2.length≤1000000000) (g4:a2.Nodup) (g5:a3.length≤1000000):WQv 470 [lE a0,.lst (a1.map S71.c),lI a2,.ifc 406 (.agg [lI a3])] (fun r:List S71×List Int=>.tup [.lst (r.1.map S71.c),lI r.2]) (fun r=>r.1.length≤a1.length+12):=by
 refine gO Tryz.func470 ?_
 repeat' first
  |with_reducible assumption
  |(conv=>whnf);first
   |refine ⟨563,fun v w=>by kernel_rfl,?_⟩
   |refine wC (w563 a0 a3 a2 ?_ ?_ ?_ ?_ ?_) fun z563 h563=>?_
   |refine wC (w510 a0 a1 z563 ?_ ?_ ?_) fun z510 h510=>?_
   |refine ⟨(_,_),rfl,?_⟩
  |exact Nat.le_trans h510 (by omega)
  |omega
theorem w209 (a0:S65) (g0:EB a0):WQv 209 [aE a0] sI (fun r=>True):=by
 refine gO Tryz.func209 ?_
 repeat' first
  |with_reducible assumption
  |(conv=>whnf);first
   |apply bJ<;>intro h
   |apply bN<;>intro h
   |apply br<;>intro h
   |refine wC (w280 _ ?_) fun z280 hz=>?_
   |refine wC (w208 _ ?_) fun z208 hz=>?_
   |refine wC (w172 _ _ ?_) fun z172 hz=>?_
   |refine wC (w281 _ _ ?_) fun z281 hz=>?_
   |refine ⟨by kernel_rfl,?_⟩
   |refine wC (w150 _ ?_) fun z150 hz=>?_
   |refine wC (w123 _ ?_) fun z123 hz=>?_
   |refine fun (_:Bool)=>?_
   |refine ⟨_,rfl,?_⟩
  |grind
theorem w404 (b:Nat) (a0:List S65) (a1:List (List S71)) (g0:a0.length≤12) (g1:∀e∈a0,EB e) (g2:a1.length≤10) (g3:b≤110000) (g4:∀s∈a1,s.length≤b) (g5:2≤a1.length):WQv 404 [lE a0,.lst (a1.map cL26)] (fun r:List S71×List Int×List Int=>.agg [.lst (r.1.map S71.c),lI r.2.1,lI r.2.2]) (fun r=>r.1.length≤2*b+24):=by
 refine gO Tryz.func404 ?_
 repeat' first
  |with_reducible assumption
  |(conv=>whnf);first
   |apply bD<;>intro h
   |apply br<;>intro h
   |refine wC (w467 b a1 ?_ ?_ ?_) fun z467 h467=>?_
   |refine wC (w468 a0 a1 ?_ ?_ ?_ ?_) fun z468 h468=>?_
   |refine wC (w469 a0 z468 ?_ ?_ ?_ ?_) fun z469 h469=>?_
   |refine wC (w470a a0 z467.1 z469 ?_ ?_ ?_ ?_) fun z470 h470=>?_
   |refine wC (w315 z470.1 _ _ ?_) fun z315 h315=>?_
   |refine wC (w471 a0 _ ?_ ?_) fun z471 h471=>?_
   |refine wC (w472 z468 z469 ?_ ?_) fun z472 h472=>?_
   |refine wC (w470b a0 z470.1 z472 z471 ?_ ?_ ?_ ?_ ?_ ?_) fun z470b h470b=>?_
   |refine wC (w470b a0 z470.1 z472 [] ?_ ?_ ?_ ?_ ?_ ?_) fun z470b h470b=>?_
   |refine wC (w461 s _ _ _ ?_) fun z461 h461=>?_
   |refine lM ?_
   |refine wG ?_ ?_ (fun _=>rfl) fun x hx hm=>?_
   |refine V2 (fun (p:Int) (s:List S71)=>0≤p∧p≤(z467.1.length:Int)∧(s.length:Int)≤z470b.1.length+p) (fun p s=>[(4,.box 0 0),(9,.box 1 0),(60,.lst (z467.1.map S71.c)),(61,sI (z467.1.length:Int)),(62,sI p)]) (fun p s=>⟨[(0,.box [.lst [],.lst [],.lst []] false),(1,.box [.lst (s.map S71.c),lI z470.2,lI z470b.2] false)],2⟩) (fun p s=>((z467.1.length:Int)-p).toNat) (0:Int) z470b.1 ?_ (ft [(0,some 0),(1,some 1)] rfl rfl rfl ⟨fB rfl rfl rfl,fB rfl rfl rfl,trivial⟩) fun p s ⟨i0,i1,i2⟩=>?_
   |refine ⟨⟨nx _,_⟩,?_,?_,(ft [(0,some 0),(1,some 1)] rfl rfl rfl ⟨fB rfl rfl rfl,fB rfl rfl rfl,trivial⟩)⟩
   |refine ⟨(_,_,_),rfl,?_⟩
  |exact h468.2
  |exact h472.2
  |(have:=h468.1;omega)
  |(have:=h467.1;omega)
  |exact fun s hs=>Nat.le_trans (g4 s hs) (by omega)
  |exact Nat.zero_le _
  |omega
  |dsimp only
  |with_reducible apply And.intro
  |(simp (disch:=omega) only [ls]<;>omega)
theorem w392 (a0:List S65) (g0:a0.length≤1000000) (g1:∀e∈a0,EB e):WQv 392 [lE a0] sI (fun r=>True):=by
 refine gO Tryz.func392 ?_
 repeat' first
  |with_reducible assumption
  |(conv=>whnf);first
   |apply bD<;>intro h
   |apply bJ<;>intro h
   |apply bT'<;>intro h
   |refine lM ?_
   |refine V1 (fun (p0:Int)=>0≤p0∧p0≤(a0.length:Int)) (fun p0=>[(0,lE a0),(12,lE a0),(13,sI (a0.length:Int)),(14,sI p0)]) (fun _=>⟨[],0⟩) (fun p0=>((a0.length:Int)+1-p0).toNat) (0:Int) ?_ (fN rfl rfl) fun p0 ⟨i0,i1⟩=>?_
   |refine wG ?_ ?_ (fun _=>rfl) fun x hx hm=>?_
   |refine wC (w209 _ ?_) fun z209 hz=>?_
   |refine ⟨nx _,?_,?_,(fN rfl rfl)⟩
   |refine V1 (fun (q0:Int)=>0≤q0∧q0≤(a0.length:Int)) (fun q0=>[(0,lE a0),(24,lE a0),(25,sI (a0.length:Int)),(26,sI q0)]) (fun _=>⟨[],0⟩) (fun q0=>((a0.length:Int)+1-q0).toNat) (0:Int) ?_ (fN rfl rfl) fun q0 ⟨i0,i1⟩=>?_
   |refine ⟨by kernel_rfl,?_⟩
   |refine V1 (fun (v0:Int)=>1≤v0∧v0≤(a0.length:Int)+1) (fun v0=>[(0,lE a0),(8,sI v0)]) (fun _=>⟨[],0⟩) (fun v0=>((a0.length:Int)+1+1-v0).toNat) (1:Int) ?_ (fN rfl rfl) fun v0 ⟨i0,i1⟩=>?_
   |refine ⟨(7:Int),rfl,?_⟩
   |refine ⟨_,rfl,?_⟩
  |omega
  |dsimp only
  |exact g1 _ hm
  |with_reducible apply And.intro
  |(simp (disch:=omega) only [ls]<;>omega)
theorem w301 (b:Nat) (a0:List S65) (a1:List (List S71)) (g0:a0.length≤12) (g1:∀e∈a0,EB e) (g2:a1.length≤10) (g3:b≤110000) (g4:∀s∈a1,s.length≤b):WQv 301 [lE a0,.lst (a1.map cL26)] (fun r:List S71=>.lst (r.map S71.c)) (fun r=>r.length≤2*b+25):=by
 refine gO Tryz.func301 ?_
 repeat' first
  |with_reducible assumption
  |(conv=>whnf);first
   |apply bD<;>intro h
   |refine lM ?_
   |refine wG ?_ ?_ (fun _=>rfl) fun x hx hm=>?_
   |refine wC (w404 b a0 a1 ?_ ?_ ?_ ?_ ?_ ?_) fun z404 h404=>?_
   |refine wA0 (f:=S71.c) (m:=x) rfl (fun _=>⟨rfl,rfl⟩) ?_ ?_ ?_
   |refine ⟨_,_,deep0 (leafs_map (f:=S71.c) (fun _=>rfl) _),?_⟩
   |refine ⟨[],rfl,?_⟩
   |refine ⟨_,rfl,?_⟩
  |(have:=g4 x hm;omega)
  |exact Nat.zero_le _
  |omega
  |dsimp only
theorem w288 (a0:List S65) (g0:a0.length≤12) (g1:∀e∈a0,EB e):WQv 288 [lE a0] (tabE) (fun r=>∀b,r=some b→b≤110000):=by
 refine goF [394] Tryz.func288 (by kernel_rfl) ?_
 repeat' first
  |with_reducible assumption
  |(conv=>whnf);first
   |apply bD<;>intro h
   |apply bJ<;>intro h
   |refine wC (w392 a0 ?_ ?_) fun z392 h392=>?_
   |refine wC (w212 a0 ?_ ?_) fun z212 h212=>?_
   |refine wC (w393 a0 ?_ ?_) fun z393 h393=>?_
   |(refine .inl ⟨GS (sb 0),?_⟩;(conv=>whnf);refine .inl ⟨GS (sb 0),?_⟩;(conv=>whnf);refine .inl ⟨GE,?_⟩)
   |refine ⟨(by kernel_rfl:drawW _ _ _=true),?_⟩
   |refine lM ?_
   |refine wG ?_ ?_ (fun _=>rfl) fun x hx hm=>?_
   |refine V1 (fun (p:Int)=>0≤p∧p≤(z393.length:Int)) (fun p=>[(0,lE a0),(3,.box 3 0),(22,lI z393),(23,sI (z393.length:Int)),(24,sI p)]) (fun p=>⟨[(0,.bag (GS (sb p.toNat)) false []),(1,.bag (GS (sb p.toNat)) false []),(2,.bag GE false []),(3,.box [.mp 0,.mp 1,.mp 2] false)],4⟩) (fun p=>((z393.length:Int)-p).toNat) (0:Int) ?_ (ft [(0,some 0),(1,some 1),(2,some 2),(3,some 3)] rfl rfl rfl ⟨fGm rfl rfl (gs_mono (Nat.le_refl _)) (fun _=>rfl),fGm rfl rfl (gs_mono (Nat.le_refl _)) (fun _=>rfl),fGm rfl rfl (fun _ _ h=>h) (fun _=>rfl),fX rfl rfl rfl (fun _=>rfl),trivial⟩) fun p ⟨i0,i1⟩=>?_
   |refine ⟨nx _,?_,?_,(ft [(0,some 0),(1,some 1),(2,some 2),(3,some 3)] rfl rfl rfl ⟨fGm rfl rfl (gs_mono (sb_nx_le i0 (by omega))) (fun _=>rfl),fGm rfl rfl (gs_mono (sb_nx_le i0 (by omega))) (fun _=>rfl),fGm rfl rfl (fun _ _ h=>h) (fun _=>rfl),fX rfl rfl rfl (fun _=>rfl),trivial⟩)⟩
   |refine wC (w50z a0 _ ?_) fun z50 h50=>?_
   |refine fI (Y:=Yf []) [(0,lE a0),(3,.box 3 0),(22,lI z393),(23,sI (z393.length:Int)),(24,sI p)] ⟨rfl,rfl,rfl,rfl,rfl,trivial⟩ Tryz.func394 (by kernel_rfl) fun Tc=>?_
   |refine V2 (fun (q:Int) (sts:List (List S71))=>0≤q∧q≤(z50.1.f8.length:Int)∧(sts.length:Int)≤q∧∀s∈sts,s.length≤sb p.toNat) (fun q sts=>[(0,.box 3 0),(1,lE a0),(5,.box 6 0),(6,.row 7),(12,lI z50.1.f8),(13,sI (z50.1.f8.length:Int)),(14,sI q)]) (fun q sts=>⟨[(0,.bag (GS (sb p.toNat)) false []),(1,.bag (GS (sb p.toNat)) false []),(2,.bag GE false []),(3,.box [.mp 0,.mp 1,.mp 2] false),(5,.frm [(0,lE a0),(3,.box 3 0),(22,lI z393),(23,sI (z393.length:Int)),(24,sI p)] Tc),(6,.box (S65.c z50.1) false),(7,.row (sts.map cL26) 1 false 7)],8⟩) (fun q sts=>((z50.1.f8.length:Int)-q).toNat) (0:Int) [] ?_ (ft [(0,some 0),(1,some 1),(2,some 2),(3,some 3),(5,some 5),(6,some 6),(7,none)] rfl rfl rfl ⟨fGm rfl rfl (gs_mono (Nat.le_refl _)) (fun _=>rfl),fGm rfl rfl (gs_mono (Nat.le_refl _)) (fun _=>rfl),fGm rfl rfl (fun _ _ h=>h) (fun _=>rfl),fX rfl rfl rfl (fun _=>rfl),fM rfl rfl rfl rfl,fB rfl rfl rfl,f0 rfl rfl,trivial⟩) fun q sts ⟨j0,j1,j2,j3⟩=>?_
   |refine lkF (fun s hs=>?_) ?_
   |refine wA (f:=cL26) (m:=[s]) rfl (fun _=>⟨rfl,rfl⟩) ?_ ?_ ?_
   |refine wA (f:=cL26) (m:=[[]]) rfl (fun _=>⟨rfl,rfl⟩) ?_ ?_ ?_
   |refine ⟨⟨nx _,_⟩,?_,?_,(ft [(0,some 0),(1,some 1),(2,some 2),(3,some 3),(5,some 5),(6,some 6),(7,some 9)] rfl rfl rfl ⟨fGm rfl rfl (gs_mono (Nat.le_refl _)) (fun _=>rfl),fGm rfl rfl (gs_mono (Nat.le_refl _)) (fun _=>rfl),fGm rfl rfl (fun _ _ h=>h) (fun _=>rfl),fX rfl rfl rfl (fun _=>rfl),fM rfl rfl rfl rfl,fB rfl rfl rfl,fR (f:=cL26) rfl rfl fun _=>rfl,trivial⟩)⟩
   |refine ⟨_,_,deep0 (leafs_map (f:=cL26) (fun _=>rfl) _),?_⟩
   |refine wC (w301 (sb p.toNat) a0 sts ?_ ?_ ?_ ?_ ?_) fun z301 h301=>?_
   |refine wC (w460 (sb p.toNat) a0 z50.1 z301 ?_ ?_ ?_ ?_) fun z460 h460=>?_
   |refine enG [] (fun _ s=>s.length≤2*sb p.toNat+26) (fun _ _ h=>by omega) .emp rfl (Nat.zero_le _) fun _ _=>?_
   |refine enG (0:Int) (fun _ _=>True) (fun _ _ _=>trivial) .sc rfl trivial fun _ _=>?_
   |refine esG z301 rfl rfl ?_ ?_
   |refine esG z460 rfl rfl trivial ?_
   |refine wC (w461 z301 _ _ _ ?_) fun z461 h461=>?_
   |refine upG z461 rfl rfl ?_ ?_
   |refine ⟨rfl,?_⟩
   |refine ⟨none,rfl,?_⟩
   |refine ⟨some _,rfl,?_⟩
  |exact fun b hb=>by cases hb;exact sb_le (by omega)
  |exact fun b hb=>by cases hb
  |exact snoc_all j3 hs
  |exact snoc_all j3 (Nat.zero_le _)
  |exact sb_le (by omega)
  |exact eb_or g1 h50
  |(have:=sb_le (n:=p.toNat) (by omega);omega)
  |(have q:=eb_or g1 h50;unfold EB at q;(simp (disch:=omega) only [ls];omega))
  |(have q:=eb_or g1 h50;unfold EB at q;omega)
  |omega
  |dsimp only
  |with_reducible apply And.intro
theorem w222 (a0:List S65) (g0:a0.length≤12) (g1:∀e∈a0,EB e):WQv 222 [lE a0] lI (fun r=>r.length≤12):=by
 refine gO Tryz.func222 ?_
 repeat' first
  |with_reducible assumption
  |(conv=>whnf);first
   |refine wTo (w288 a0 ?_ ?_) (fun hz=>?_) fun b hz=>?_
   |refine wC (w300 b a0 ?_ ?_) fun z300 h300=>?_
   |refine ⟨[],rfl,?_⟩
   |refine ⟨_,rfl,?_⟩
  |exact Nat.zero_le _
  |exact Nat.le_trans h300 g0
  |omega
end Go.Abs.RM
