/- Of GapsBounds: walks. -/
import Derived.Test.YthbenojbjjgnaaaGreatUAr
set_option linter.all false
namespace Go.Abs.RM
open Go.Proofs
set_option maxRecDepth 100000
set_option maxHeartbeats 40000000
theorem w256 (a0:List S65) (a1:S65) (g0:a0.length≤12) (g1:a1.f9.length≤8):WQv 256 [lE a0,aE a1] lE (fun r=>r.length≤40∧∀x∈r,x∈a0):=by
 refine gO Tryz.func256 ?_
 have hn1:([]:List S65).length=0:=rfl
 repeat' first
  |with_reducible assumption
  |(conv=>whnf);first
   |apply bD<;>intro h
   |apply bN<;>intro h
   |apply bS<;>intro h
   |refine wC (w367 _) fun z367 hz=>?_
   |refine wC (w112 _ _ ?_ ?_) fun z112 h112=>?_
   |refine V2 (fun (p0:List S65) (p1:Int)=>0≤p1∧p1≤(z367.length:Int)∧(p0.length:Int)≤8*p1∧(∀x∈p0,x∈z112)∧(∀r:List S65,(r.length≤40∧∀x∈r,x∈z112)→r.length≤40∧∀x∈r,x∈a0)) (fun _ p1=>[(5,.lst (z367.map S71.c)),(6,lE z112),(7,.row 0),(8,sI p1)]) (fun p0 _=>⟨[(0,.row (p0.map S65.c) 29 false 0)],1⟩) (fun _ p1=>((z367.length:Int)+20+1-p1).toNat) [] (0:Int) ?_ (ft [(0,none)] rfl rfl rfl ⟨fitO_nil rfl rfl,trivial⟩) fun p0 p1 ⟨i0,i1,i3,i4,hk⟩=>?_
   |refine lM ?_
   |refine V3 (fun (q0:List S65) (q1:Bool) (q2:Int)=>0≤q2∧q2≤(z112.length:Int)∧(q0.length:Int)≤8*p1+q2∧(∀x∈q0,x∈z112)) (fun _ q1 q2=>[(5,.lst (z367.map S71.c)),(6,lE z112),(7,.row 0),(8,sI p1),(9,sB q1),(10,sI q2)]) (fun q0 _ _=>⟨[(0,.row (q0.map S65.c) 29 false 0)],1⟩) (fun _ _ q2=>((z112.length:Int)+1-q2).toNat) p0 false (0:Int) ?_ (fR1 0 rfl rfl rfl fun _=>rfl) fun q0 q1 q2 ⟨i0,i1,i3,i4⟩=>?_
   |refine wE ‹_› ?_ (fun _=>rfl) ?_
   |refine wG ?_ ?_ (fun _=>rfl) fun x hx hm=>?_
   |refine ⟨by kernel_rfl,?_⟩
   |refine wA (f:=S65.c) (m:=[_]) rfl (fun _=>⟨rfl,rfl⟩) ?_ ?_ ?_
   |refine ⟨⟨_,_,nx _⟩,?_,?_,(fR1 2 rfl rfl rfl fun _=>rfl)⟩
   |refine ⟨⟨_,_,nx _⟩,?_,?_,(fR1 0 rfl rfl rfl fun _=>rfl)⟩
   |refine ⟨⟨_,nx _⟩,?_,?_,(fR1 0 rfl rfl rfl fun _=>rfl)⟩
   |refine ⟨_,_,deep0 (leafs_map (f:=S65.c) (fun _=>rfl) _),?_⟩
   |refine ⟨_,rfl,?_⟩
  |omega
  |dsimp only
  |refine hk _ ?_
  |exact ⟨by omega,i4⟩
  |exact fun x hx=>absurd hx List.not_mem_nil
  |exact ⟨hr.1,fun x hx=>h112.2 x (hr.2 x hx)⟩
  |with_reducible apply And.intro
  |(simp (disch:=omega) only [ls]<;>omega)
  |intro hr
  |grind
theorem w326 (a0:S65) (a1:List S65) (g0:a1.length≤1000000) (g1:∀e∈a1,EB e):WQv 326 [aE a0,lE a1] sI (fun r=>True):=by
 refine gO Tryz.func326 ?_
 repeat' first
  |with_reducible assumption
  |(conv=>whnf);first
   |apply bS<;>intro h
   |apply bI<;>intro h
   |apply bN<;>intro h
   |apply br<;>intro h
   |refine wC (w415 _ _ ?_) fun z415 hz=>?_
   |refine wC (w139 _ _ ?_) fun z139 hz=>?_
   |refine wC (w416 _ _ _) fun z416 hz=>?_
   |refine wC (w417 _ _ _ ?_ ?_) fun z417 hz=>?_
   |refine wC (w418 _ _ _ ?_ ?_) fun z418 hz=>?_
   |refine ⟨(0:Int),rfl,?_⟩
   |refine ⟨(19:Int),rfl,?_⟩
   |refine ⟨(18:Int),rfl,?_⟩
   |refine ⟨_,rfl,?_⟩
theorem w327 (a0:S65) (a1:List S65) (g0:EB a0) (g1:a1.length≤1000000) (g2:∀e∈a1,EB e):WQv 327 [aE a0,lE a1] sI (fun r=>True):=by
 refine gO Tryz.func327 ?_
 repeat' first
  |with_reducible assumption
  |(conv=>whnf);first
   |apply bD<;>intro h
   |refine wC (w321 _ ?_ ?_) fun z321 h321=>?_
   |refine wC (w322 _ _ ?_) fun z322 hz=>?_
   |refine wC (w419 _ _ ?_) fun z419 hz=>?_
   |refine ⟨by kernel_rfl,?_⟩
   |refine wC (w420 _ _ _ ?_ ?_ ?_ ?_) fun z420 hz=>?_
   |refine ⟨(20:Int),rfl,?_⟩
   |refine ⟨_,rfl,?_⟩
  |omega
  |exact g0.2.2.2.2.2.2.2.2.2.2.1
  |exact g0.2.2.2.2.2.2.2.2.2.1
theorem w376 (a0:List S65) (a1:List S71) (a2:S65) (g0:a0.length≤12) (g1:a1.length≤1000000) (g2:a2.f9.length≤8):WQv 376 [lE a0,.lst (a1.map S71.c),aE a2] lE (fun r=>r.length≤5∧∀x∈r,x∈a0):=by
 refine gO Tryz.func376 ?_
 have hn1:([]:List S65).length=0:=rfl
 repeat' first
  |with_reducible assumption
  |(conv=>whnf);first
   |apply bD<;>intro h
   |apply br<;>intro h
   |refine wC (w367 _) fun z367 hz=>?_
   |refine wC (w112 _ _ ?_ ?_) fun z112 h112=>?_
   |refine V2 (fun (p0:List S65) (p1:Int)=>0≤p1∧p1≤(z367.length:Int)∧(p0.length:Int)≤p1∧(∀x∈p0,x∈a0)) (fun _ p1=>[(0,lE a0),(1,.lst (a1.map S71.c)),(7,.lst (z367.map S71.c)),(8,lE z112),(9,.row 0),(10,sI p1)]) (fun p0 _=>⟨[(0,.row (p0.map S65.c) 29 false 0)],1⟩) (fun _ p1=>((z367.length:Int)+1-p1).toNat) [] (0:Int) ?_ (ft [(0,none)] rfl rfl rfl ⟨fitO_nil rfl rfl,trivial⟩) fun p0 p1 ⟨i0,i1,i3,i4⟩=>?_
   |refine lM ?_
   |refine wE ‹_› ?_ (fun _=>rfl) ?_
   |refine wG ?_ ?_ (fun _=>rfl) fun x hx hm=>?_
   |refine wC (w263 _ _ _ ?_) fun z263 hz=>?_
   |refine ⟨by kernel_rfl,?_⟩
   |refine wC (w444 _ _ _ ?_) fun z444 h444=>?_
   |refine wC (w56 _ _ ?_) fun z56 hg=>?_
   |refine wA (f:=S65.c) (m:=[_]) rfl (fun _=>⟨rfl,rfl⟩) ?_ ?_ ?_
   |refine ⟨⟨_,nx _⟩,?_,?_,(fR1 3 rfl rfl rfl fun _=>rfl)⟩
   |refine ⟨⟨_,nx _⟩,?_,?_,(fR1 0 rfl rfl rfl fun _=>rfl)⟩
   |refine ⟨_,_,deep0 (leafs_map (f:=S65.c) (fun _=>rfl) _),?_⟩
   |refine ⟨_,rfl,?_⟩
  |omega
  |dsimp only
  |exact ⟨by omega,i4⟩
  |exact all_snoc i4 (hg.mem h).1
  |exact fun x hx=>absurd hx List.not_mem_nil
  |with_reducible apply And.intro
  |(simp (disch:=omega) only [ls]<;>omega)
  |intro hr
  |grind
theorem w264 (a0:List S65) (a1:Int) (g0:a0.length≤12) (g1:∀e∈a0,EB e):WQv 264 [lE a0,sI a1] lI (fun r=>r.length≤12):=by
 refine gO Tryz.func264 ?_
 have hn:([]:List Int).length=0:=rfl
 repeat' first
  |with_reducible assumption
  |(conv=>whnf);first
   |apply bD<;>intro h
   |apply bN<;>intro h
   |apply br<;>intro h
   |refine V3 (fun (p0:List Int) (p1:Int) (p2:Int)=>0≤p2∧p2≤(a0.length:Int)∧(p0.length:Int)≤p2) (fun _ p1 p2=>[(0,lE a0),(5,.row 0),(6,sI p1),(7,sI p2)]) (fun p0 _ _=>⟨[(0,.row (p0.map c_i64) 1 false 0)],1⟩) (fun _ _ p2=>((a0.length:Int)+1-p2).toNat) ([]:List Int) a1 (0:Int) ?_ (fR1 0 rfl rfl rfl fun _=>rfl) fun p0 p1 p2 ⟨i0,i1,i3⟩=>?_
   |refine lM ?_
   |refine wC (w56 _ _ ?_) fun z56 hg=>?_
   |refine ⟨_,_,deep0 (leafs_map (f:=c_i64) (fun _=>rfl) _),?_⟩
   |refine wC (w16 _ _ ?_) fun z16 hz=>?_
   |refine wA (f:=c_i64) (m:=[_]) rfl (fun _=>⟨rfl,rfl⟩) ?_ ?_ ?_
   |refine wC (w377 _ _ ?_ ?_) fun z377 hz=>?_
   |refine ⟨⟨_,_,nx _⟩,?_,?_,(fR1 3 rfl rfl rfl fun _=>rfl)⟩
   |refine ⟨_,rfl,?_⟩
  |omega
  |dsimp only
  |exact (hg.eb g1).2.2.2.2.1
  |with_reducible apply And.intro
  |(simp (disch:=omega) only [ls]<;>omega)
theorem w255 (a0:List S65) (a1:S65) (g0:a0.length≤12) (g1:a1.f9.length≤8):WQv 255 [lE a0,aE a1] sI (fun r=>True):=by
 refine gO Tryz.func255 ?_
 repeat' first
  |with_reducible assumption
  |(conv=>whnf);first
   |apply bD<;>intro h
   |apply bN<;>intro h
   |apply br<;>intro h
   |refine V1 (fun (p0:Int)=>0≤p0∧p0≤(a1.f9.length:Int)) (fun p0=>[(0,lE a0),(3,.box 0 0),(5,sI p0)]) (fun _=>⟨[(0,.box (S65.c a1) false)],1⟩) (fun p0=>((a1.f9.length:Int)+1-p0).toNat) (0:Int) ?_ (fB1 rfl rfl rfl rfl) fun p0 ⟨i0,i1⟩=>?_
   |refine lM ?_
   |refine wE ‹_› ?_ (fun _=>rfl) ?_
   |refine wG ?_ ?_ (fun _=>rfl) fun x hx hm=>?_
   |refine wC (w56 _ _ ?_) fun z56 hz=>?_
   |refine ⟨nx _,?_,?_,(fB1 rfl rfl rfl rfl)⟩
   |refine wC (w112 _ _ ?_ ?_) fun z112 h112=>?_
   |refine V1 (fun (q0:Int)=>0≤q0∧q0≤(z112.length:Int)) (fun q0=>[(3,.box 0 0),(8,lE z112),(9,sI q0)]) (fun _=>⟨[(0,.box (S65.c a1) false)],1⟩) (fun q0=>((z112.length:Int)+1-q0).toNat) (0:Int) ?_ (fB1 rfl rfl rfl rfl) fun q0 ⟨i0,i1⟩=>?_
   |refine ⟨by kernel_rfl,?_⟩
   |refine wC (w367 _) fun z367 hz=>?_
   |refine V2 (fun (v0:List S71) (v1:Int)=>0≤v1∧v1≤(z112.length:Int)∧(v0.length:Int)≤v1) (fun _ v1=>[(3,.box 0 0),(8,lE z112),(10,.lst (z367.map S71.c)),(11,.row 1),(12,sI v1)]) (fun v0 _=>⟨[(0,.box (S65.c a1) false),(1,.row (v0.map S71.c) 3 false 1)],2⟩) (fun _ v1=>((z112.length:Int)+1-v1).toNat) [] (0:Int) ?_ (ft [(0,some 0),(1,none)] rfl rfl rfl ⟨fB rfl rfl rfl,fitO_nil rfl rfl,trivial⟩) fun v0 v1 ⟨i0,i1,i3⟩=>?_
   |refine wC (w368 _ _ _ ?_) fun z368 hz=>?_
   |refine ⟨_,_,deep0 (leafs_map (f:=S71.c) (fun _=>rfl) _),?_⟩
   |refine wA (f:=S71.c) (m:=[⟨_,_,(0:Int)⟩]) rfl (fun _=>⟨rfl,rfl⟩) ?_ ?_ ?_
   |refine ⟨⟨_,nx _⟩,?_,?_,(ft [(0,some 0),(1,some 3)] rfl rfl rfl ⟨fB rfl rfl rfl,fR rfl rfl fun _=>rfl,trivial⟩)⟩
   |refine ⟨(14:Int),rfl,?_⟩
   |refine ⟨(13:Int),rfl,?_⟩
   |refine ⟨(16:Int),rfl,?_⟩
   |refine ⟨(0:Int),rfl,?_⟩
  |omega
  |exact True.intro
  |dsimp only
  |with_reducible apply And.intro
  |(simp (disch:=omega) only [ls]<;>omega)
theorem w146 (a0:List S65) (a1:List Int) (g0:a0.length≤12) (g1:∀e∈a0,EB e) (g2:a1.length≤12):WQv 146 [lE a0,lI a1] lI (fun r=>r.length≤12):=by
 refine gO Tryz.func146 ?_
 have hn:([]:List Int).length=0:=rfl
 repeat' first
  |with_reducible assumption
  |(conv=>whnf);first
   |apply bD<;>intro h
   |apply bJ<;>intro h
   |apply br<;>intro h
   |refine wC (w110 _ ?_) fun z110 hz=>?_
   |refine V2 (fun (p0:List Int) (p1:Int)=>0≤p1∧p1≤(z110.length:Int)∧(p0.length:Int)≤p1) (fun _ p1=>[(0,lE a0),(5,lI z110),(6,.row 0),(7,sI p1)]) (fun p0 _=>⟨[(0,.row (p0.map c_i64) 1 false 0)],1⟩) (fun _ p1=>((z110.length:Int)+20+1-p1).toNat) ([]:List Int) (0:Int) ?_ (fR1 0 rfl rfl rfl fun _=>rfl) fun p0 p1 ⟨i0,i1,i3⟩=>?_
   |refine lM ?_
   |refine V2 (fun (q0:Bool) (q1:Int)=>0≤q1∧q1≤(z110.length:Int)) (fun q0 q1=>[(0,lE a0),(5,lI z110),(6,.row 0),(7,sI p1),(8,sB q0),(9,sI q1)]) (fun _ _=>⟨[(0,.row (p0.map c_i64) 1 false 0)],1⟩) (fun _ q1=>((z110.length:Int)+1-q1).toNat) true (0:Int) ?_ (fR1 0 rfl rfl rfl fun _=>rfl) fun q0 q1 ⟨i0,i1⟩=>?_
   |refine wG ?_ ?_ (fun _=>rfl) fun x hx hm=>?_
   |refine wC (w56 _ _ ?_) fun z56 hg=>?_
   |refine wC (w16 _ _ ?_) fun z16 hz=>?_
   |refine ⟨by kernel_rfl,?_⟩
   |refine ⟨⟨_,nx _⟩,?_,?_,(fR1 0 rfl rfl rfl fun _=>rfl)⟩
   |refine wA (f:=c_i64) (m:=[_]) rfl (fun _=>⟨rfl,rfl⟩) ?_ ?_ ?_
   |refine ⟨⟨_,nx _⟩,?_,?_,(fR1 2 rfl rfl rfl fun _=>rfl)⟩
   |refine ⟨_,_,deep0 (leafs_map (f:=c_i64) (fun _=>rfl) _),?_⟩
   |refine ⟨_,rfl,?_⟩
  |omega
  |dsimp only
  |(have:=(hg.eb g1).2.2.2.1;omega)
  |with_reducible apply And.intro
  |(simp (disch:=omega) only [ls]<;>omega)
theorem w54m (a0:List S65) (a1:List Int) (g0:a0.length≤1000000000) (g1:a1.length≤100000000):WQv 54 [lE a0,lI a1] lI (fun r=>r.length≤a1.length∧r.Nodup∧∀x∈r,x∈a1∧Kn a0 x):=by
 refine gO Tryz.func54 ?_
 repeat' first
  |with_reducible assumption
  |(conv=>whnf);first
   |refine wC (w17m _ _ ?_ ?_) fun z17 h17=>?_
   |refine wC (w53 _ _ ?_ ?_) fun z53 h53=>?_
   |refine ⟨_,rfl,?_⟩
  |exact h53.2.2
  |exact h53.2.1
  |exact kn_known h17.2 h53.1
  |omega
  |dsimp only
  |with_reducible apply And.intro
theorem w348 (a0:Int) (a1:ByteArray) (g0:(a1.size:Int)≤9223372036854775807):WQv 348 [sI a0,sS a1] sB (fun r=>r=true→(a0=2∨a0=9)→a1.size≤80):=by
 refine gO Tryz.func348 ?_
 repeat' first
  |with_reducible assumption
  |(conv=>whnf);first
   |apply bI<;>intro h
   |apply bJ<;>intro h
   |apply bD<;>intro h
   |refine wC (w347 _ ?_) fun z347 hz=>?_
   |refine ⟨true,rfl,?_⟩
   |refine ⟨false,rfl,?_⟩
   |refine V1 (fun (p0:Int)=>0≤p0∧p0≤(a1.size:Int)) (fun p0=>[(1,sS a1),(5,sI p0)]) (fun _=>⟨[],0⟩) (fun p0=>((a1.size:Int)+1-p0).toNat) (0:Int) ?_ (fN rfl rfl) fun p0 ⟨i0,i1⟩=>?_
   |refine wS ?_ ?_ fun x hb=>?_
   |refine ⟨nx _,?_,?_,(fN rfl rfl)⟩
   |refine ⟨_,rfl,?_⟩
  |omega
  |dsimp only
  |(intro hr;contradiction)
  |(intro hr;have:=hz (eq_of_beq hr);intros;omega)
  |with_reducible apply And.intro
  |(simp (disch:=omega) only [ls]<;>omega)
theorem w356 (a0:S61) (g0:(a0.f4.size:Int)≤9223372036854775807):WQv 356 [.agg (S61.c a0)] sI (fun r=>r=0→a0.f4.size≤80):=by
 refine gO Tryz.func356 ?_
 repeat' first
  |with_reducible assumption
  |(conv=>whnf);first
   |apply bS<;>intro h
   |apply bJ<;>intro h
   |refine wC (w347 _ ?_) fun z347 hz=>?_
   |refine ⟨(0:Int),rfl,?_⟩
   |refine ⟨(1:Int),rfl,?_⟩
   |refine ⟨_,rfl,?_⟩
  |omega
  |dsimp only
  |(rw [h];decide)
theorem w357 (a0:S61) (g0:∀x∈a0.f5,(x.size:Int)≤9223372036854775807):WQv 357 [.agg (S61.c a0)] sI (fun r=>r=0→a0.f5.length≤100∧∀x∈a0.f5,x.size≤80):=by
 refine gO Tryz.func357 ?_
 repeat' first
  |with_reducible assumption
  |(conv=>whnf);first
   |apply bD<;>intro h
   |apply bJ<;>intro h
   |apply br<;>intro h
   |refine lM ?_
   |refine V1 (fun (p0:Int)=>0≤p0∧p0≤(a0.f5.length:Int)∧(∀r:Int,(r=0→∀y∈a0.f5.drop p0.toNat,y.size≤80)→r=0→a0.f5.length≤100∧∀x∈a0.f5,x.size≤80)) (fun p0=>[(1,.box 0 0),(3,sI p0)]) (fun _=>⟨[(0,.box (S61.c a0) false)],1⟩) (fun p0=>((a0.f5.length:Int)+1-p0).toNat) (0:Int) ?_ (fB1 rfl rfl rfl rfl) fun p0 ⟨i0,i1,hk⟩=>?_
   |refine wE ‹_› ?_ (fun _=>rfl) ?_
   |refine wG ?_ ?_ (fun _=>rfl) fun x hx hm=>?_
   |refine wC (w32 _ ?_) fun z32 key=>?_
   |refine ⟨by kernel_rfl,?_⟩
   |refine ⟨nx _,?_,?_,(fB1 rfl rfl rfl rfl)⟩
   |refine ⟨(1:Int),rfl,?_⟩
   |refine ⟨(7:Int),rfl,?_⟩
   |refine ⟨(3:Int),rfl,?_⟩
   |refine ⟨(8:Int),rfl,?_⟩
   |refine ⟨(0:Int),rfl,?_⟩
  |omega
  |refine fun r hr=>hk r fun hr0=>drop_all i0 ‹a0.f5[p0.toNat]?=some _› ?_ ?_ (hr hr0)
  |dsimp only
  |refine hk _ ?_
  |exact fun r hr hr0=>⟨by omega,fun x hx=>hr hr0 x hx⟩
  |exact fun _=>drop_none ‹_›
  |exact g0 _ hm
  |with_reducible apply And.intro
  |(simp (disch:=omega) only [ls]<;>omega)
theorem w432 (a0:List S179) (g0:∀x∈a0,(x.f0.size:Int)≤9223372036854775807):WQv 432 [.lst (a0.map S179.c)] sI (fun r=>r=0→a0.length≤100∧∀x∈a0,x.f0.size≤80):=by
 refine gO Tryz.func432 ?_
 repeat' first
  |with_reducible assumption
  |(conv=>whnf);first
   |apply bD<;>intro h
   |apply bJ<;>intro h
   |apply br<;>intro h
   |refine lM ?_
   |refine V1 (fun (p0:Int)=>0≤p0∧p0≤(a0.length:Int)∧(∀r:Int,(r=0→∀y∈a0.drop p0.toNat,y.f0.size≤80)→r=0→a0.length≤100∧∀x∈a0,x.f0.size≤80)) (fun p0=>[(0,.lst (a0.map S179.c)),(3,sI p0)]) (fun _=>⟨[],0⟩) (fun p0=>((a0.length:Int)+1-p0).toNat) (0:Int) ?_ (fN rfl rfl) fun p0 ⟨i0,i1,hk⟩=>?_
   |refine wE ‹_› ?_ (fun _=>rfl) ?_
   |refine wG ?_ ?_ (fun _=>rfl) fun x hx hm=>?_
   |refine wC (w347 _ ?_) fun z347 key=>?_
   |refine ⟨by kernel_rfl,?_⟩
   |refine wC (w434 _) fun z434 hz=>?_
   |refine ⟨nx _,?_,?_,(fN rfl rfl)⟩
   |refine ⟨(7:Int),rfl,?_⟩
   |refine ⟨(3:Int),rfl,?_⟩
   |refine ⟨(8:Int),rfl,?_⟩
   |refine ⟨(2:Int),rfl,?_⟩
   |refine ⟨(0:Int),rfl,?_⟩
  |omega
  |refine fun r hr=>hk r fun hr0=>drop_all i0 ‹a0[p0.toNat]?=some _› ?_ ?_ (hr hr0)
  |dsimp only
  |refine hk _ ?_
  |exact fun r hr hr0=>⟨by omega,fun x hx=>hr hr0 x hx⟩
  |exact fun _=>drop_none ‹_›
  |exact g0 _ hm
  |with_reducible apply And.intro
  |(simp (disch:=omega) only [ls]<;>omega)
theorem w360 (a0:S61) (g0:CB a0 400 100):WQv 360 [.agg (S61.c a0)] (fun r:List Int=>.lst (r.map c_u8)) (fun r=>r.length≤200000):=by
 refine gO Tryz.func360 ?_
 obtain ⟨c0,c4,c5,c6,c7,c8,c9,c10,c11⟩:=g0
 have hn:([]:List Int).length=0:=rfl
 repeat' first
  |with_reducible assumption
  |(conv=>whnf);first
   |apply bD<;>intro h
   |refine wC (w364 [] _ ?_ ?_) fun z364 hq=>?_
   |refine wC (w363 _ _ ?_) fun z363 hz=>?_
   |refine wC (w365 _ _ ?_) fun z365 hz=>?_
   |refine wC (w364 _ _ ?_ ?_) fun z364 hq=>?_
   |refine wC (w435 _ _ ?_ ?_ ?_) fun z435 hz=>?_
   |refine lM ?_
   |refine V2 (fun (p0:List Int) (p1:Int)=>0≤p1∧p1≤(a0.f7.f0.length:Int)∧(p0.length:Int)+422*((a0.f7.f0.length:Int)-p1)≤700000∧(∀r:List Int,((r.length:Int)≤(p0.length:Int)+422*((a0.f7.f0.length:Int)-p1)+2288)→r.length≤200000)) (fun p0 p1=>[(3,.lst (p0.map c_u8)),(4,.box 0 0),(5,sI p1)]) (fun _ _=>⟨[(0,.box (S59.c a0.f7) false)],1⟩) (fun _ p1=>((a0.f7.f0.length:Int)+1-p1).toNat) z363 (0:Int) ?_ (ft [(0,some 1)] rfl rfl rfl ⟨fB rfl rfl rfl,trivial⟩) fun p0 p1 ⟨i0,i1,i3,hk⟩=>?_
   |refine wE ‹_› ?_ (fun _=>rfl) ?_
   |refine wG ?_ ?_ (fun _=>rfl) fun x hx hm=>?_
   |refine ⟨⟨_,nx _⟩,?_,?_,(fB1 rfl rfl rfl rfl)⟩
   |refine V2 (fun (q0:List Int) (q1:Int)=>0≤q1∧q1≤(a0.f7.f1.length:Int)∧(q0.length:Int)+22*((a0.f7.f1.length:Int)-q1)≤800000∧(∀r:List Int,((r.length:Int)≤(q0.length:Int)+22*((a0.f7.f1.length:Int)-q1)+77)→r.length≤200000)) (fun q0 q1=>[(3,.lst (q0.map c_u8)),(4,.box 0 0),(6,sI q1)]) (fun _ _=>⟨[(0,.box (S59.c a0.f7) false)],1⟩) (fun _ q1=>((a0.f7.f1.length:Int)+1-q1).toNat) z363 (0:Int) ?_ (fB1 rfl rfl rfl rfl) fun q0 q1 ⟨i0,i1,i3,hk⟩=>?_
   |refine wC (w436 _) fun z436 hz=>?_
   |refine V2 (fun (v0:List Int) (v1:Int)=>0≤v1∧v1≤(z436.length:Int)∧(v0.length:Int)+11*((z436.length:Int)-v1)≤900000∧(∀r:List Int,((r.length:Int)≤(v0.length:Int)+11*((z436.length:Int)-v1))→r.length≤200000)) (fun v0 v1=>[(3,.lst (v0.map c_u8)),(7,lI z436),(8,sI v1)]) (fun _ _=>⟨[],0⟩) (fun _ v1=>((z436.length:Int)+1-v1).toNat) q0 (0:Int) ?_ (fN rfl rfl) fun v0 v1 ⟨i0,i1,i3,hk⟩=>?_
   |refine ⟨⟨_,nx _⟩,?_,?_,(fN rfl rfl)⟩
   |refine ⟨_,rfl,?_⟩
  |omega
  |dsimp only
  |refine hk _ ?_
  |refine fun r hr=>hk r ?_
  |with_reducible apply And.intro
  |(simp (disch:=omega) only [ls]<;>omega)
  |grind
theorem w440 (a0:List S65) (a1:List Int) (a2:Bool) (g0:a0.length≤12) (g1:∀e∈a0,EB e) (g2:IS a0 a1):WQv 440 [lE a0,lI a1,sB a2] lI (fun r=>IS a0 r):=by
 refine gO Tryz.func440 ?_
 repeat' first
  |with_reducible assumption
  |(conv=>whnf);first
   |apply bD<;>intro h
   |refine V2 (fun (p0:List Int) (p1:Int)=>0≤p1∧p1≤(a0.length:Int)∧IS a0 p0) (fun p0 p1=>[(0,lE a0),(1,lI p0),(2,sB a2),(7,sI p1)]) (fun _ _=>⟨[],0⟩) (fun _ p1=>((a0.length:Int)+1-p1).toNat) a1 (0:Int) ?_ (fN rfl rfl) fun p0 p1 ⟨i0,i1,i3⟩=>?_
   |refine lM ?_
   |refine wC (w441 _ _ _ ?_ ?_ ?_) fun z441 hn=>?_
   |refine wC (w58 _ _ ?_) fun z58 hu=>?_
   |refine ⟨⟨_,nx _⟩,?_,?_,(fN rfl rfl)⟩
   |refine ⟨_,rfl,?_⟩
  |omega
  |dsimp only
  |(have:=i3.len;omega)
  |(have:=i3.len;have:=hn.len;omega)
  |exact ⟨hu.2.1,fun x hx=>((hu.1 x).1 hx).elim (i3.2 x) (hn.2 x)⟩
  |with_reducible apply And.intro
  |(simp (disch:=omega) only [ls]<;>omega)
theorem w442 (a0:List S65) (a1:List Int) (g0:a0.length≤12) (g1:a1.length≤900000000):WQv 442 [lE a0,lI a1] lI (fun r=>r.length≤a1.length):=by
 refine gO Tryz.func442 ?_
 repeat' first
  |with_reducible assumption
  |(conv=>whnf);first
   |refine wC (w17 _ _ ?_ ?_) fun z17 hz=>?_
   |refine wC (w53 _ _ ?_ ?_) fun z53 hz=>?_
   |refine ⟨_,rfl,?_⟩
  |omega
theorem w371 (a0:List S65) (a1:List Int) (g0:a0.length≤12) (g1:a1.length≤900000000):WQv 371 [lE a0,lI a1] lI (fun r=>r.Nodup∧r.length≤a1.length∧∀x∈r,x∈a1):=by
 refine gO Tryz.func371 ?_
 repeat' first
  |with_reducible assumption
  |(conv=>whnf);first
   |refine wC (w17 _ _ ?_ ?_) fun z17 hz=>?_
   |refine wC (w53 _ _ ?_ ?_) fun z53 hz=>?_
   |refine ⟨_,rfl,?_⟩
  |omega
  |dsimp only
  |exact ⟨hz.2.1,hz.2.2,fun x hx=>((hz.1 x).1 hx).1⟩
theorem w443 (a0:List S65) (a1:S65) (g0:a0.length≤12) (g1:∀e∈a0,EB e) (g2:EB a1):WQv 443 [lE a0,aE a1] sI (fun r=>True):=by
 refine gO Tryz.func443 ?_
 repeat' first
  |with_reducible assumption
  |(conv=>whnf);first
   |refine wC (w256 _ _ ?_ ?_) fun z256 h256=>?_
   |refine wC (w321 _ ?_ ?_) fun z321 hz=>?_
   |refine wC (w322 _ _ ?_) fun z322 hz=>?_
   |refine ⟨_,rfl,?_⟩
  |omega
  |exact g2.2.2.2.2.1
  |exact fun e he=>g1 e (h256.2 e he)
theorem w236 (a0:S65) (a1:List S65) (g0:EB a0) (g1:a1.length≤1000000) (g2:∀e∈a1,EB e):WQv 236 [aE a0,lE a1] sI (fun r=>True):=by
 refine gO Tryz.func236 ?_
 repeat' first
  |with_reducible assumption
  |(conv=>whnf);first
   |apply bI<;>intro h
   |apply bN<;>intro h
   |apply bS<;>intro h
   |refine wC (w325 _ ?_) fun z325 hz=>?_
   |refine wC (w28 _ ?_) fun z28 hz=>?_
   |refine ⟨by kernel_rfl,?_⟩
   |refine wC (w326 _ _ ?_ ?_) fun z326 hz=>?_
   |refine wC (w139 _ _ ?_) fun z139 hz=>?_
   |refine wC (w327 _ _ ?_ ?_ ?_) fun z327 hz=>?_
   |refine ⟨(0:Int),rfl,?_⟩
   |refine ⟨(17:Int),rfl,?_⟩
   |refine ⟨_,rfl,?_⟩
  |(have hb:=g0.2.1;omega)
  |(have hb:=g0.1;omega)
theorem w445 (a0:List S65) (a1:List Int) (a2:Int) (g0:a0.length≤12) (g1:∀e∈a0,EB e) (g2:a1.length≤1000000000):WQv 445 [lE a0,lI a1,sI a2] sI (fun r=>True):=by
 refine gO Tryz.func445 ?_
 repeat' first
  |with_reducible assumption
  |(conv=>whnf);first
   |apply bD<;>intro h
   |apply br<;>intro h
   |refine wC (w264 _ _ ?_ ?_) fun z264 hz=>?_
   |refine V1 (fun (p0:Int)=>0≤p0∧p0≤(z264.length:Int)) (fun p0=>[(1,lI a1),(7,lI z264),(8,sI p0)]) (fun _=>⟨[],0⟩) (fun p0=>((z264.length:Int)+1-p0).toNat) (0:Int) ?_ (fN rfl rfl) fun p0 ⟨i0,i1⟩=>?_
   |refine lM ?_
   |refine wE ‹_› ?_ (fun _=>rfl) ?_
   |refine wG ?_ ?_ (fun _=>rfl) fun x hx hm=>?_
   |refine wC (w16 _ _ ?_) fun z16 hz=>?_
   |refine wC (w499 _ _ ?_) fun z499 hz=>?_
   |refine ⟨nx _,?_,?_,(fN rfl rfl)⟩
   |refine ⟨_,rfl,?_⟩
  |omega
  |exact True.intro
  |with_reducible apply And.intro
  |(simp (disch:=omega) only [ls]<;>omega)
theorem w89 (a0:List S65) (a1:List S139) (g0:a0.length≤12) (g1:∀e∈a0,EB e) (g2:a1.length≤12):WQv 89 [lE a0,.lst (a1.map S139.c)] lI (fun r=>r.length≤12):=by
 refine gO Tryz.func89 ?_
 repeat' first
  |with_reducible assumption
  |(conv=>whnf);first
   |refine wC (w147 _ _ ?_ ?_) fun z147 hz=>?_
   |refine wC (w146 _ _ ?_ ?_ ?_) fun z146 hz=>?_
   |refine ⟨_,rfl,?_⟩
theorem w55m (a0:List S65) (a1:List Int) (g0:a0.length≤12) (g1:∀e∈a0,EB e) (g2:a1.length≤12):WQv 55 [lE a0,lI a1] lI (fun r=>r.length≤1000∧Rs a0 a1 r):=by
 refine gO Tryz.func55 ?_
 repeat' first
  |(conv=>whnf);first
   |refine wC (w112m _ _ ?_ ?_) fun z112 h112=>?_
   |refine wC (w111m _ ?_ ?_) fun z111 h111=>?_
   |refine wC (w54m _ _ ?_ ?_) fun z54 h54=>?_
   |refine ⟨_,rfl,?_⟩
  |exact rs_of h112.2 h111.2 h54.2.2
  |exact ofs_eb h112.2 g1
  |omega
  |dsimp only
  |with_reducible apply And.intro
theorem w249 (a0:S65) (g0:(a0.f1.size:Int)≤9223372036854775807) (g1:(a0.f2.size:Int)≤9223372036854775807) (g2:(a0.f5.size:Int)≤9223372036854775807) (g3:(a0.f8.length:Int)≤9223372036854775807) (g4:(a0.f9.length:Int)≤9223372036854775807):WQv 249 [aE a0] sI (fun r=>r=0→a0.f1.size≤80∧a0.f2.size≤80∧a0.f5.size≤80∧a0.f8.length≤10∧a0.f9.length≤8):=by
 refine gO Tryz.func249 ?_
 repeat' first
  |with_reducible assumption
  |(conv=>whnf);first
   |apply bD<;>intro h
   |apply bJ<;>intro h
   |apply bT'<;>intro h
   |apply bN<;>intro h
   |refine ⟨by kernel_rfl,?_⟩
   |refine wC (w116 _) fun z116 hz=>?_
   |refine wC (w32 _ ?_) fun z32 hz=>?_
   |refine wC (w347 _ ?_) fun z347 hz=>?_
   |refine wC (w348 _ _ ?_) fun z348 hz=>?_
   |refine lM ?_
   |refine wC (w349 _ ?_) fun z349 hz=>?_
   |refine ⟨(1:Int),rfl,?_⟩
   |refine ⟨(3:Int),rfl,?_⟩
   |refine ⟨(2:Int),rfl,?_⟩
   |refine ⟨(7:Int),rfl,?_⟩
   |refine ⟨(8:Int),rfl,?_⟩
   |refine ⟨(9:Int),rfl,?_⟩
   |refine ⟨(6:Int),rfl,?_⟩
   |refine ⟨(0:Int),rfl,?_⟩
  |omega
  |dsimp only
  |(intro hr;have:=‹_=true→(_∨_)→a0.f5.size≤80› (by assumption) (by omega);omega)
  |with_reducible apply And.intro
  |intro hr
  |grind
theorem w359 (a0:S59) (g0:∀x∈a0.f0,(x.f0.size:Int)≤9223372036854775807):WQv 359 [.agg (S59.c a0)] sI (fun r=>r=0→a0.f0.length≤100∧a0.f1.length≤100∧∀x∈a0.f0,x.f0.size≤80):=by
 refine gO Tryz.func359 ?_
 repeat' first
  |(conv=>whnf);first
   |apply bJ<;>intro h
   |apply br<;>intro h
   |refine wC (w432 _ g0) fun z432 hu=>?_
   |refine wC (w433 _) fun z433 hk=>?_
   |refine wC (w434 _) fun z434 hz=>?_
   |refine ⟨_,rfl,?_⟩
  |omega
  |dsimp only
  |with_reducible apply And.intro
  |intro hr
  |grind
theorem w251 (a0:S65) (g0:CB a0.f10 400 100):WQv 251 [aE a0] sI (fun r=>True):=by
 refine gO Tryz.func251 ?_
 repeat' first
  |with_reducible assumption
  |(conv=>whnf);first
   |refine wC (w360 _ ?_) fun z360 hz=>?_
   |refine wC (w252 _ ?_) fun z252 hz=>?_
   |refine ⟨_,rfl,?_⟩
  |omega
end Go.Abs.RM
