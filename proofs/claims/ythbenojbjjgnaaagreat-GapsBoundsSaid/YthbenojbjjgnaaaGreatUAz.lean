/- Of GapsBounds: walks. -/
import Derived.Test.YthbenojbjjgnaaaGreatUAy
set_option linter.all false
namespace Go.Abs.RM
open Go.Proofs
set_option maxRecDepth 100000
set_option maxHeartbeats 40000000
theorem w97 (a0:S30) (a1:List Int) (g0:a0.f1.length≤1000000) (g1:a1.length≤1000000):WQv 97 [.agg (S30.c a0),lI a1] lI (fun r=>r.length≤a1.length∧∀x,x∈r↔x∈a1∧∃e,getI a0.f1 x=some e):=by
 refine gO Tryz.func97 ?_
 repeat' first
  |with_reducible assumption
  |(conv=>whnf);first
   |apply bD<;>intro h
   |apply br<;>intro h
   |refine wC (w163 _ ?_) fun z163 hz=>?_
   |refine lM ?_
   |refine V2 (fun (p0:List Int) (p1:Int)=>0≤p1∧p1≤(z163.length:Int)∧(p0.length:Int)≤p1∧∀x,x∈p0↔x∈z163.take p1.toNat∧∃e,getI a0.f1 x=some e) (fun _ p1=>[(2,.box 0 0),(5,.row 1),(11,lI z163),(12,sI (z163.length:Int)),(13,sI p1)]) (fun p0 _=>⟨[(0,.box (S30.c a0) false),(1,.row (p0.map c_i64) 1 false 1)],2⟩) (fun _ p1=>((z163.length:Int)+1-p1).toNat) [] (0:Int) ?_ (ft [(0,some 0),(1,none)] rfl rfl rfl ⟨fB rfl rfl rfl,fitO_nil rfl rfl,trivial⟩) fun p0 p1 ⟨i0,i1,i2,i3⟩=>?_
   |refine wG ?_ ?_ (fun _=>rfl) fun x hx hm=>?_
   |refine wC (w50 _ _ ?_) fun z50 hz50=>?_
   |refine wA (f:=c_i64) (m:=[_]) rfl (fun _=>⟨rfl,rfl⟩) ?_ ?_ ?_
   |refine ⟨⟨_,nx _⟩,?_,?_,(ft [(0,some 0),(1,some 4)] rfl rfl rfl ⟨fB rfl rfl rfl,fR rfl rfl fun _=>rfl,trivial⟩)⟩
   |refine ⟨⟨_,nx _⟩,?_,?_,(ft [(0,some 0),(1,some 1)] rfl rfl rfl ⟨fB rfl rfl rfl,fR rfl rfl fun _=>rfl,trivial⟩)⟩
   |refine ⟨_,_,deep0 (leafs_map (f:=c_i64) (fun _=>rfl) _),?_⟩
   |refine ⟨_,rfl,?_⟩
  |exact know_snoc i0 i1 hx i3 (by omega) (.inl ⟨rfl,_,hz50.2.1 ‹_›⟩)
  |exact know_snoc i0 i1 hx i3 (by omega) (.inr ⟨rfl,by intro e;rw [hz50.2.2 ‹_›];intro h;cases h⟩)
  |exact know_end i1 ‹_› i3 hz.2.1
  |(intro x;simp)
  |omega
  |dsimp only
  |with_reducible apply And.intro
  |(simp (disch:=omega) only [ls]<;>omega)
theorem w506 (a0:List (List S71)) (a1:S71) (g0:a0.length≤1000000) (g1:∀s∈a0,s.length≤1000000):WQv 506 [.lst (a0.map cL26),.agg (S71.c a1)] sB (fun r=>True):=by
 refine gO Tryz.func506 ?_
 repeat' first
  |with_reducible assumption
  |(conv=>whnf);first
   |apply bD<;>intro h
   |apply bN<;>intro h
   |refine lM ?_
   |refine V1 (fun (p0:Int)=>0≤p0∧p0≤(a0.length:Int)) (fun p0=>[(3,.box 0 0),(9,.lst (a0.map cL26)),(10,sI (a0.length:Int)),(11,sI p0)]) (fun _=>⟨[(0,.box (S71.c a1) false)],1⟩) (fun p0=>((a0.length:Int)+1-p0).toNat) (0:Int) ?_ (fB1 rfl rfl rfl rfl) fun p0 ⟨i0,i1⟩=>?_
   |refine wG ?_ ?_ (fun _=>rfl) fun x hx hm=>?_
   |refine wC (w315 _ _ _ ?_) fun z315 hz=>?_
   |refine ⟨false,rfl,?_⟩
   |refine ⟨nx _,?_,?_,(fB1 rfl rfl rfl rfl)⟩
   |refine ⟨true,rfl,?_⟩
  |omega
  |dsimp only
  |exact g1 _ hm
  |with_reducible apply And.intro
  |(simp (disch:=omega) only [ls]<;>omega)
theorem w518 (a0:List S65) (a1:List S71) (g0:a0.length≤100000) (g1:∀e∈a0,EB e) (g2:a1.length≤110000):WQv 518 [lE a0,.lst (a1.map S71.c)] lI (fun r=>r.length≤a0.length+a1.length):=by
 refine gO Tryz.func518 ?_
 repeat' first
  |with_reducible assumption
  |(conv=>whnf);first
   |apply bD<;>intro h
   |refine ⟨by kernel_rfl,?_⟩
   |refine lM ?_
   |refine wG ?_ ?_ (fun _=>rfl) fun x hx hm=>?_
   |refine V2 (fun (p:Int) (r:List Int)=>0≤p∧p≤(a1.length:Int)∧(r.length:Int)≤p) (fun p r=>[(0,lE a0),(5,.row 0),(12,.lst (a1.map S71.c)),(13,sI (a1.length:Int)),(14,sI p)]) (fun p r=>⟨[(0,.row (r.map c_i64) 1 false 0)],1⟩) (fun p r=>((a1.length:Int)-p).toNat) (0:Int) [] ?_ (ft [(0,some 0)] rfl rfl rfl ⟨fR (f:=c_i64) (l:=[]) rfl rfl (fun _=>rfl),trivial⟩) fun p r ⟨i0,i1,i2⟩=>?_
   |refine ⟨Int.le_refl 0,?_,?_,?_,_,rfl,?_⟩
   |refine wA (f:=c_i64) (m:=[_]) rfl (fun _=>⟨rfl,rfl⟩) ?_ ?_ ?_
   |refine ⟨⟨nx _,_⟩,?_,?_,(ft [(0,some 3)] rfl rfl rfl ⟨fR (f:=c_i64) rfl rfl fun _=>rfl,trivial⟩)⟩
   |refine slM (l:=r) (f:=c_i64) ?_ ?_ rfl ?_
   |refine wSn (o509 a0 r ?_ ?_ ?_) (fun _=>rfl) (fun z509 hz=>?_) fun hz=>?_
   |refine wX0 (m:=z509) (Int.toNat_natCast _) rfl (fun _=>⟨rfl,rfl⟩) ?_ ?_ ?_ fun hz0=>?_
   |refine wX0 (m:=([]:List Int)) (Int.toNat_natCast _) rfl (fun _=>⟨rfl,rfl⟩) ?_ ?_ ?_ fun hz0=>?_
   |refine wT (leafs_map (f:=c_i64) (fun _=>rfl) _) (w169 _ ?_) (fun zs hzs=>?_) rfl rfl rfl
   |refine wCp rfl ?_ fun zc dc hc1 hc2 hc3=>?_
   |refine wSw0 rfl ?_ ?_ ?_
   |refine wCw0 rfl ?_ ?_ fun zc dc hc1 hc2 hc3=>?_
   |refine wnE (f:=c_i64) (fun _=>rfl) ?_
   |refine ⟨_,_,deep0 (leafs_map (f:=c_i64) (fun _=>rfl) _),?_⟩
   |refine ⟨leafs_map (f:=c_i64) (fun _=>rfl) _,_,rfl,?_⟩
   |refine ⟨_,rfl,?_⟩
  |(subst hzs;rw [sortI_length];simp only [List.length_append];omega)
  |(subst hzs;rw [sortI_length] at hc1;simp only [List.length_append] at hc1;omega)
  |(rw [sortI_length] at hc1;omega)
  |exact (Int.toNat_natCast _).symm
  |(rw [sortI_length];exact (Int.toNat_natCast _).symm)
  |(rw [sortI_length];omega)
  |omega
  |dsimp only
  |with_reducible apply And.intro
  |(simp (disch:=omega) only [ls]<;>omega)
theorem w469 (a0:List S65) (a1:List Int) (g0:a0.length≤12) (g1:∀e∈a0,EB e) (g2:a1.length≤400000000) (g3:a1.Nodup):WQv 469 [lE a0,lI a1] lI (fun r=>r.length≤1000000000∧r.Nodup):=by
 refine gO Tryz.func469 ?_
 repeat' first
  |with_reducible assumption
  |(conv=>whnf);first
   |apply bD<;>intro h
   |apply br<;>intro h
   |refine lM ?_
   |refine wG (l:=a1) ?_ ?_ (fun _=>rfl) fun x hx hm=>?_
   |refine wC (w50 a0 _ ?_) fun z50 h50=>?_
   |refine wC (w508 z50.1) fun z508 h508=>?_
   |refine V2 (fun (p:Int) (o:List Int)=>0≤p∧p≤(a1.length:Int)∧Fr (Kn a0) a1 o p) (fun p o=>[(0,lE a0),(1,lI a1),(5,.row 0),(13,lI a1),(14,sI (a1.length:Int)),(15,sI p)]) (fun p o=>⟨[(0,.row (o.map c_i64) 1 false 0)],1⟩) (fun p o=>((a1.length:Int)-p).toNat) (0:Int) [] ?_ (ft [(0,none)] rfl rfl rfl ⟨f0 rfl rfl,trivial⟩) fun p o ⟨i0,i1,i2⟩=>?_
   |refine wA (f:=c_i64) (m:=[_]) rfl (fun _=>⟨rfl,rfl⟩) ?_ ?_ ?_
   |refine ⟨⟨nx _,o⟩,?_,?_,(ft [(0,some 0)] rfl rfl rfl ⟨fR (f:=c_i64) rfl rfl fun _=>rfl,trivial⟩)⟩
   |refine ⟨⟨nx _,_⟩,?_,?_,(ft [(0,some 3)] rfl rfl rfl ⟨fR (f:=c_i64) rfl rfl fun _=>rfl,trivial⟩)⟩
   |refine ⟨⟨nx _,_⟩,?_,?_,(ft [(0,some 2)] rfl rfl rfl ⟨fR (f:=c_i64) rfl rfl fun _=>rfl,trivial⟩)⟩
   |refine wSn (o509 a0 o ?_ ?_ ?_) (fun _=>rfl) (fun z509 h509=>?_) fun h509=>?_
   |refine wC (w412 _ _ ?_) fun z412 h412=>?_
   |refine wC (w163 _ ?_) fun z163 h163=>?_
   |refine V2 (fun (p:Int) (o:List Int)=>0≤p∧p≤(a1.length:Int)∧(o.length:Int)≤12+p) (fun p o=>[(5,.row 0),(10,.lst (([]:List Int).map c_i64)),(38,lI a1),(39,sI (a1.length:Int)),(40,sI p)]) (fun p o=>⟨[(0,.row (o.map c_i64) 1 false 0)],1⟩) (fun p o=>((a1.length:Int)-p).toNat) (0:Int) o ?_ (ft [(0,some 0)] rfl rfl rfl ⟨fR (f:=c_i64) rfl rfl fun _=>rfl,trivial⟩) fun p o ⟨i0,i1,i3⟩=>?_
   |refine V2 (fun (p:Int) (o:List Int)=>0≤p∧p≤(a1.length:Int)∧(o.length:Int)≤12+p) (fun p o=>[(5,.row 0),(10,lI z509),(38,lI a1),(39,sI (a1.length:Int)),(40,sI p)]) (fun p o=>⟨[(0,.row (o.map c_i64) 1 false 0)],1⟩) (fun p o=>((a1.length:Int)-p).toNat) (0:Int) o ?_ (suits_trans (lend_suits 10 rfl rfl (leafs_map (f:=c_i64) (fun _=>rfl) _)) (ft [(0,some 0)] rfl rfl rfl ⟨fR (f:=c_i64) rfl rfl fun _=>rfl,trivial⟩)) fun p o ⟨i0,i1,i3⟩=>?_
   |refine ⟨_,_,deep0 (leafs_map (f:=c_i64) (fun _=>rfl) _),?_⟩
   |refine ⟨_,rfl,?_⟩
  |exact fr0
  |exact fr_skip i0 (by omega) i2
  |exact fr_snoc g3 i0 (by omega) hx i2 ⟨_,h50.2.1 ‹_›⟩
  |(have:=fr_len i2;omega)
  |(have:=fr_len i2;simp only [List.length_singleton];omega)
  |exact ⟨by have:=h163.1;omega,h163.2.2⟩
  |omega
  |dsimp only
  |with_reducible apply And.intro
  |(simp (disch:=omega) only [ls]<;>omega)
theorem w184 (a0:ByteArray) (a1:ByteArray) (g0:(a0.size:Int)≤1000000000) (g1:(a1.size:Int)≤1000000000):WQv 184 [sS a0,sS a1] (fun r:ByteArray×ByteArray×Bool=>.tup [sS r.1,sS r.2.1,sB r.2.2]) (fun r=>r.1.size≤a0.size∧r.2.1.size≤a0.size):=by
 refine gO Tryz.func184 ?_
 repeat' first
  |with_reducible assumption
  |(conv=>whnf);first
   |apply bS<;>intro h
   |apply bD<;>intro h
   |apply bN<;>intro h
   |refine wS ?_ ?_ fun x hb=>?_
   |refine wC (w242 _ _ ?_) fun z242 hz=>?_
   |refine And.intro ?_ (And.intro ?_ ?_)
   |refine wC (w1243 _ ?_) fun z1243 hz=>?_
   |refine wC (w244 _ ?_) fun z244 hz=>?_
   |refine wC (w245 _ ?_) fun z245 hz=>?_
   |refine ⟨(zS,zS,false),rfl,?_⟩
   |refine ⟨(_,_,true),rfl,?_⟩
  |omega
  |exact Nat.zero_le _
  |exact pos_ne ‹_›
  |exact Nat.le_trans (And.left ‹z1243.1.size≤_∧_›) (ext_le _ _ _)
  |exact Nat.le_trans (And.right ‹z1243.1.size≤_∧_›) (ext_le _ _ _)
  |(have q:=ext_le a0 (Int.toNat 1) a0.size;have q2:=‹z1243.1.size≤_∧_›;omega)
  |exact Int.le_trans (Int.ofNat_le.2 (ext_le _ _ _)) g0
  |dsimp only
  |with_reducible apply And.intro
theorem w296 (a0:S65) (a1:List S65) (g0:EB a0) (g1:a1.length≤1000000) (g2:∀e∈a1,EB e):WQv 296 [aE a0,lE a1] sI (fun _=>True):=by
 refine gO Tryz.func296 ?_
 repeat' first
  |with_reducible assumption
  |(conv=>whnf);first
   |apply br<;>intro h
   |refine wC (w396 _ _ ?_ ?_ ?_) fun z396 hz=>?_
   |refine wC (w291 (first:=[]) (w397 a0 a1 g1 g2 g0)) fun z hz=>?_
   |refine ⟨_,rfl,?_⟩
theorem w514 (a0:S65):WQv 514 [aE a0] (fun r:List S71=>.lst (r.map S71.c)) (fun r=>r.length≤10):=by
 refine gO Tryz.func514 ?_
 repeat' first
  |(conv=>whnf);first
   |apply bI<;>intro h
   |refine wC (w461 [] (1:Int) zS (0:Int) ?_) fun z461 hz=>?_
   |refine wC (w461 _ (3:Int) zS (0:Int) ?_) fun z461 hz=>?_
   |refine wC (w461 _ (2:Int) _ (0:Int) ?_) fun z461 hz=>?_
   |refine wC (w461 _ (4:Int) zS (0:Int) ?_) fun z461 hz=>?_
   |refine ⟨[],rfl,?_⟩
   |refine ⟨_,rfl,?_⟩
  |dsimp only
  |(simp (disch:=omega) only [ls]<;>omega)
  |grind
theorem w509 (a0:List S65) (a1:List Int) (g0:a0.length≤1000000) (g1:∀e∈a0,EB e) (g2:a1.length≤1000000):WQv 509 [lE a0,lI a1] lI (fun r=>r.length≤a0.length):=wSv (o509 a0 a1 g0 g1 g2)
theorem w565 (a0:List S65) (a1:List Int) (a2:Int) (g0:a0.length≤1000000) (g1:∀e∈a0,EB e) (g2:a1.length≤1000000):WQv 565 [lE a0,lI a1,sI a2] sI (fun r=>0≤r∧r≤(a1.length:Int)):=by
 refine goF [511] Tryz.func565 (by kernel_rfl) ?_
 repeat' first
  |with_reducible assumption
  |(conv=>whnf);first
   |apply bD<;>intro h
   |apply bN<;>intro h
   |refine fI (Y:=Yf []) [(4,.box 0 0),(6,.box 1 0)] ⟨rfl,rfl,trivial⟩ Tryz.func511 (by kernel_rfl) fun Tc1=>?_
   |refine rgF [] [(4,.box 0 0),(6,.box 1 0),(11,.fn 522 [] [.box 4 0,.box 3 0])] rfl ⟨rfl,rfl,rfl,trivial⟩ rfl Tryz.func522 (by kernel_rfl) rfl fun D d1 d2 d3 dk=>?_
   |refine V2 (fun (i:Int) (s:List Int)=>s.Nodup∧(∀x∈s,Kn a0 x)) (fun i s=>[(0,.yld 5),(1,.box 4 0),(2,.box 3 0),(4,.row 6)]) (fun i s=>⟨[(0,.box [lI a1] false),(1,.box [sI 0] false),(2,.frm [(4,.box 0 0),(6,.box 1 0)] Tc1),(3,.box [lE a0] false),(4,.box [sI i] false),(5,.loop D [(4,.box 0 0),(6,.box 1 0),(11,.fn 522 [] [.box 4 0,.box 3 0])] .ready none),(6,.row (s.map c_i64) 1 false 6)],7⟩) (fun i s=>a0.length+1-s.length) a2 [] ?_ (ft [(0,some 0),(1,some 1),(2,some 2),(3,some 3),(4,some 4),(5,some 5),(6,none)] rfl rfl rfl ⟨fB rfl rfl rfl,fB rfl rfl rfl,fM rfl rfl rfl rfl,fB rfl rfl rfl,fB rfl rfl rfl,fL rfl rfl rfl rfl,f0 rfl rfl,trivial⟩) fun i s ⟨i0,i1⟩=>?_
   |refine wC (w104 _ _ ?_) fun z104 hz104=>?_
   |refine wC (w50 _ _ ?_) fun z50 hz50=>?_
   |refine wC (w523 a0 _ ?_ ?_) fun z523 hz523=>?_
   |refine wC (w167 _ _ ?_) fun z167 hz167=>?_
   |refine yL [] [(0,.yld 5),(1,.box 4 0),(2,.box 3 0),(4,.row 6),(5,.box 7 0),(20,sB false)] d1 d2 d3 dk ⟨rfl,rfl,rfl,rfl,rfl,rfl,trivial⟩ rfl rfl fun Tc2=>?_
   |refine lM ?_
   |refine wA (f:=c_i64) (m:=[_]) rfl (fun _=>⟨rfl,rfl⟩) ?_ ?_ ?_
   |refine ⟨_,_,deep0 (leafs_map (f:=c_i64) (fun _=>rfl) _),?_⟩
   |refine ⟨⟨_,_⟩,?_,?_,(ft [(0,some 0),(1,some 1),(2,some 2),(3,some 3),(4,some 4),(5,some 5),(6,some 10)] rfl rfl rfl ⟨fB rfl rfl rfl,fB rfl rfl rfl,fM rfl rfl rfl rfl,fB rfl rfl rfl,fB rfl rfl rfl,fL rfl rfl rfl rfl,fR (f:=c_i64) rfl rfl fun _=>rfl,trivial⟩)⟩
   |refine ⟨rfl,rfl,?_⟩
   |refine ⟨rfl,?_⟩
   |refine ⟨_,rfl,?_⟩
  |exact List.nodup_nil
  |(have:=ids_le' i0 i1;omega)
  |(have:=ids_le' i0 i1;simp only [List.length_singleton];omega)
  |exact g1 _ (hz50.1 ‹_›).1
  |exact nodup_snoc i0 (fun hm=>by rw [hz104.2 hm] at *;contradiction)
  |exact snoc_all i1 ⟨_,hz50.2.1 ‹_›⟩
  |exact mea_sn (nodup_snoc i0 (fun hm=>by rw [hz104.2 hm] at *;contradiction)) (snoc_all i1 ⟨_,hz50.2.1 ‹_›⟩)
  |dsimp only
  |with_reducible apply And.intro
  |contradiction
  |intro hr
theorem w471 (a0:List S65) (a1:Int) (g0:a0.length≤1000000) (g1:∀e∈a0,EB e):WQv 471 [lE a0,sI a1] lI (fun r=>r.length≤a0.length):=by
 refine goF [511] Tryz.func471 (by kernel_rfl) ?_
 repeat' first
  |with_reducible assumption
  |(conv=>whnf);first
   |apply bN<;>intro h
   |refine fI (Y:=Yf []) [(5,.box 0 0)] ⟨rfl,trivial⟩ Tryz.func511 (by kernel_rfl) fun Tc1=>?_
   |refine rgF [] [(5,.box 0 0),(9,.fn 522 [] [.box 3 0,.box 2 0])] rfl ⟨rfl,rfl,trivial⟩ rfl Tryz.func522 (by kernel_rfl) rfl fun D d1 d2 d3 dk=>?_
   |refine V3 (fun (i:Int) (s o:List Int)=>s.Nodup∧(∀x∈s,Kn a0 x)∧o.length≤s.length) (fun i s o=>[(0,.yld 4),(1,.box 3 0),(2,.box 2 0),(4,.row 5)]) (fun i s o=>⟨[(0,.box [.row 6] false),(1,.frm [(5,.box 0 0)] Tc1),(2,.box [lE a0] false),(3,.box [sI i] false),(4,.loop D [(5,.box 0 0),(9,.fn 522 [] [.box 3 0,.box 2 0])] .ready none),(5,.row (s.map c_i64) 1 false 5),(6,.row (o.map c_i64) 1 false 6)],7⟩) (fun i s o=>a0.length+1-s.length) a1 [] [] ?_ (ft [(0,some 0),(1,some 1),(2,some 2),(3,some 3),(4,some 4),(5,none),(6,none)] rfl rfl rfl ⟨fX rfl rfl rfl (fun _=>rfl),fM rfl rfl rfl rfl,fB rfl rfl rfl,fB rfl rfl rfl,fL rfl rfl rfl rfl,f0 rfl rfl,f0 rfl rfl,trivial⟩) fun i s o ⟨i0,i1,i2⟩=>?_
   |refine wC (w104 _ _ ?_) fun z104 hz104=>?_
   |refine wC (w50 _ _ ?_) fun z50 hz50=>?_
   |refine wC (w523 a0 _ ?_ ?_) fun z523 hz523=>?_
   |refine yL [] [(0,.yld 4),(1,.box 3 0),(2,.box 2 0),(4,.row 5),(5,.box 7 0),(20,sB false)] d1 d2 d3 dk ⟨rfl,rfl,rfl,rfl,rfl,rfl,trivial⟩ rfl rfl fun Tc2=>?_
   |refine wA (f:=c_i64) (m:=[_]) rfl (fun _=>⟨rfl,rfl⟩) ?_ ?_ ?_
   |refine ⟨_,_,deep0 (leafs_map (f:=c_i64) (fun _=>rfl) _),?_⟩
   |refine ⟨⟨_,_,_⟩,?_,?_,(ft [(0,some 0),(1,some 1),(2,some 2),(3,some 3),(4,some 4),(5,some 12),(6,some 10)] rfl rfl rfl ⟨fX rfl rfl rfl (fun _=>rfl),fM rfl rfl rfl rfl,fB rfl rfl rfl,fB rfl rfl rfl,fL rfl rfl rfl rfl,fR (f:=c_i64) rfl rfl fun _=>rfl,fR (f:=c_i64) rfl rfl fun _=>rfl,trivial⟩)⟩
   |refine ⟨rfl,rfl,?_⟩
   |refine ⟨rfl,?_⟩
   |refine ⟨_,rfl,?_⟩
  |exact List.nodup_nil
  |(have:=ids_le' i0 i1;omega)
  |(have:=ids_le' i0 i1;simp only [List.length_singleton];omega)
  |exact g1 _ (hz50.1 ‹_›).1
  |exact nodup_snoc i0 (fun hm=>by rw [hz104.2 hm] at *;contradiction)
  |exact snoc_all i1 ⟨_,hz50.2.1 ‹_›⟩
  |(simp only [List.length_append,List.length_singleton];omega)
  |exact len_sn i2 (nodup_snoc i0 (fun hm=>by rw [hz104.2 hm] at *;contradiction)) (snoc_all i1 ⟨_,hz50.2.1 ‹_›⟩)
  |exact mea_sn (nodup_snoc i0 (fun hm=>by rw [hz104.2 hm] at *;contradiction)) (snoc_all i1 ⟨_,hz50.2.1 ‹_›⟩)
  |omega
  |dsimp only
  |with_reducible apply And.intro
  |contradiction
  |intro hr
theorem w207 (a0:S65) (g0:EB a0) (g1:a0.f12.f0.size≤900000):WQv 207 [aE a0] (fun r:List Int=>.lst (r.map c_u8)) (fun r=>r.length≤10000000):=by
 refine goF [272,274,276,278] Tryz.func207 (by kernel_rfl) ?_
 repeat' first
  |with_reducible assumption
  |(conv=>whnf);first
   |refine fFit [(0,some 0),(1,some 1),(2,some 2)] (far272 (e:=S65.c a0) (b:=[]) (l:=[_]) rfl ?_ ?_ fun b2 Tc hb=>?_) rfl rfl rfl ⟨fB rfl rfl rfl,fB rfl rfl rfl,fR (f:=c_i64) (l:=[_]) rfl rfl fun _=>rfl,trivial⟩ rfl
   |refine fFit [(0,some 0),(1,some 1),(2,some 4)] (far272 (e:=S65.c a0) (l:=[_]) rfl ?_ ?_ fun b2 Tc hb=>?_) rfl rfl rfl ⟨fB rfl rfl rfl,fB rfl rfl rfl,fR (f:=c_i64) (l:=[_]) rfl rfl fun _=>rfl,trivial⟩ rfl
   |refine fFit [(0,some 0),(1,some 1),(2,some 4)] (far272 (e:=S65.c a0) (l:=[_,_]) rfl ?_ ?_ fun b2 Tc hb=>?_) rfl rfl rfl ⟨fB rfl rfl rfl,fB rfl rfl rfl,fR (f:=c_i64) (l:=[_,_]) rfl rfl fun _=>rfl,trivial⟩ rfl
   |refine fFit [(0,some 0),(1,some 1),(2,some 4)] (far274 (e:=S65.c a0) (l:=[_]) rfl ?_ ?_ ?_ fun b2 Tc hb=>?_) rfl rfl rfl ⟨fB rfl rfl rfl,fB rfl rfl rfl,fR (f:=cStr) (l:=[_]) rfl rfl fun _=>rfl,trivial⟩ rfl
   |refine fFit [(0,some 0),(1,some 1),(2,some 4)] (far274 (e:=S65.c a0) (l:=[_,_]) rfl ?_ ?_ ?_ fun b2 Tc hb=>?_) rfl rfl rfl ⟨fB rfl rfl rfl,fB rfl rfl rfl,fR (f:=cStr) (l:=[_,_]) rfl rfl fun _=>rfl,trivial⟩ rfl
   |refine fFit [(0,some 0),(1,some 1),(2,some 4)] (far276 (e:=S65.c a0) (l:=[_]) rfl ?_ ?_ fun b2 Tc hb=>?_) rfl rfl rfl ⟨fB rfl rfl rfl,fB rfl rfl rfl,fR (f:=cBool) (l:=[_]) rfl rfl fun _=>rfl,trivial⟩ rfl
   |refine fFit [(0,some 0),(1,some 1),(2,some 4)] (far278 (e:=S65.c a0) (l:=[_,_]) rfl ?_ ?_ ?_ fun b2 Tc hb=>?_) rfl rfl rfl ⟨fB rfl rfl rfl,fB rfl rfl rfl,fR (f:=cL24) (l:=[_,_]) rfl rfl fun _=>rfl,trivial⟩ rfl
   |refine wC (w206 a0.f10 ?_) fun z206 h206=>?_
   |refine ⟨_,outW_map _,?_⟩
   |refine ⟨_,rfl,?_⟩
  |with_reducible refine all1 ?_
  |with_reducible refine all2 ?_ ?_
  |exact Nat.le_trans (Nat.le_of_eq (txt_len z206)) h206
  |exact Nat.zero_le _
  |exact Nat.le_refl _
  |exact Nat.le_succ _
  |(obtain ⟨q1,q2,q3,q4,q5,q6⟩:=g0;first | omega | (simp only [List.length_cons,List.length_nil] at *;omega))
theorem w149 (a0:S65) (g0:EB a0):WQv 149 [aE a0] sI (fun r=>True):=by
 refine gO Tryz.func149 ?_
 repeat' first
  |with_reducible assumption
  |(conv=>whnf);first
   |refine wC (w206 _ ?_) fun z206 hz=>?_
   |refine wC (w205 _ ?_) fun z205 hz=>?_
   |refine ⟨_,rfl,?_⟩
  |omega
  |grind
theorem w413 (a0:List S65) (a1:List Int) (g0:a0.length≤1000000) (g1:∀e∈a0,EB e) (g2:a1.length≤100000000):WQv 413 [lE a0,lI a1] lI (fun r=>r.length≤a0.length):=by
 refine gO Tryz.func413 ?_
 repeat' first
  |with_reducible assumption
  |(conv=>whnf);first
   |refine wC (w478 479 (fun x hx=>wq_mono (w479 x) fun r hr=>by subst hr;unfold EB at hx;omega) a0 a1 ?_ ?_ ?_) fun z hz=>?_
   |refine ⟨_,rfl,?_⟩
theorem w467 (b:Nat) (a1:List (List S71)) (g2:a1.length≤100) (g3:b≤110000) (g4:∀s∈a1,s.length≤b):WQv 467 [.lst (a1.map cL26)] (fun r:List S71×List Int=>.tup [.lst (r.1.map S71.c),lI r.2]) (fun r=>r.1.length≤b∧r.2.length≤20000000):=by
 refine goF [] Tryz.func467 (by kernel_rfl) ?_
 repeat' first
  |with_reducible assumption
  |(conv=>whnf);first
   |apply bD<;>intro h
   |apply bN<;>intro h
   |refine ⟨(by kernel_rfl:drawW _ _ _=true),?_⟩
   |refine lM ?_
   |refine wG (l:=x) ?_ ?_ (fun _=>rfl) fun e he hme=>?_
   |refine wG (l:=a1) ?_ ?_ (fun _=>rfl) fun x hx hm=>?_
   |refine V3 (fun (p:Int) (r:List S71) (s:List Int)=>0≤p∧p≤(a1.length:Int)∧(p=0→r.length≤0)∧r.length≤b∧(s.length:Int)≤110000*p) (fun p r s=>[(1,.box 0 0),(4,.box 1 0),(5,.box 2 0),(9,.lst (a1.map cL26)),(10,sI (a1.length:Int)),(11,sI p)]) (fun p r s=>⟨[(0,.box [.lst (a1.map cL26)] false),(1,.box [.row 3] false),(2,.box [.row 4] false),(3,.row (r.map S71.c) 3 false 3),(4,.row (s.map c_i64) 1 false 4)],5⟩) (fun p r s=>((a1.length:Int)-p).toNat) (0:Int) [] [] ?_ (ft [(0,some 0),(1,some 1),(2,some 2),(3,none),(4,none)] rfl rfl rfl ⟨fB rfl rfl rfl,fX rfl rfl rfl (fun _=>rfl),fX rfl rfl rfl (fun _=>rfl),f0 rfl rfl,f0 rfl rfl,trivial⟩) fun p r s ⟨i0,i1,i2,i3,i4⟩=>?_
   |refine wC (w196 x) fun z196 hz=>?_
   |refine rgF [] [(1,.box 0 0),(4,.box 1 0),(5,.box 2 0),(6,.box 5 0),(9,.lst (a1.map cL26)),(10,sI (a1.length:Int)),(11,sI p),(17,.fnp 248 [] [.ipt [.lst (x.map S71.c)]])] rfl ⟨rfl,rfl,rfl,rfl,rfl,rfl,rfl,rfl,trivial⟩ rfl Tryz.func248 (by kernel_rfl) rfl fun D d1 d2 d3 dk=>?_
   |refine V3 (fun (q:Int) (r2:List S71) (s2:List Int)=>0≤q∧q≤(x.length:Int)∧(p=0→(r2.length:Int)≤q)∧r2.length≤b∧(s2.length:Int)≤110000*p+q) (fun q r2 s2=>[(0,.yld 6),(5,.lst (x.map S71.c)),(6,sI (x.length:Int)),(7,sI q)]) (fun q r2 s2=>⟨[(0,.box [.lst (a1.map cL26)] false),(1,.box [.row 3] false),(2,.box [.row 4] false),(3,.row (r2.map S71.c) 3 false 3),(4,.row (s2.map c_i64) 1 false 4),(5,.box [sI p] false),(6,.loop D [(1,.box 0 0),(4,.box 1 0),(5,.box 2 0),(6,.box 5 0),(9,.lst (a1.map cL26)),(10,sI (a1.length:Int)),(11,sI p),(17,.fnp 248 [] [.ipt [.lst (x.map S71.c)]])] .ready none)],7⟩) (fun q r2 s2=>((x.length:Int)-q).toNat) (0:Int) r s ?_ (ft [(0,some 0),(1,some 1),(2,some 2),(3,some 3),(4,some 4),(5,some 5),(6,some 6)] rfl rfl rfl ⟨fB rfl rfl rfl,fX rfl rfl rfl (fun _=>rfl),fX rfl rfl rfl (fun _=>rfl),fR (f:=S71.c) rfl rfl fun _=>rfl,fR (f:=c_i64) rfl rfl fun _=>rfl,fB rfl rfl rfl,fL rfl rfl rfl rfl,trivial⟩) fun q r2 s2 ⟨j0,j1,j2,j3,j4⟩=>?_
   |refine yL [] [(0,.yld 6),(5,.lst (x.map S71.c)),(6,sI (x.length:Int)),(7,sI q)] d1 d2 d3 dk ⟨rfl,rfl,rfl,rfl,trivial⟩ rfl rfl fun Tc2=>?_
   |refine wC (w506 a1 _ ?_ ?_) fun z506 hz=>?_
   |refine wC (w163 s ?_) fun z163 h163=>?_
   |refine wA (f:=S71.c) (m:=[_]) rfl (fun _=>⟨rfl,rfl⟩) ?_ ?_ ?_
   |refine wA (f:=c_i64) (m:=[_]) rfl (fun _=>⟨rfl,rfl⟩) ?_ ?_ ?_
   |refine ⟨⟨nx _,r2,s2⟩,?_,?_,(ft [(0,some 0),(1,some 1),(2,some 2),(3,some 3),(4,some 4),(5,some 5),(6,some 6)] rfl rfl rfl ⟨fB rfl rfl rfl,fX rfl rfl rfl (fun _=>rfl),fX rfl rfl rfl (fun _=>rfl),fR (f:=S71.c) rfl rfl fun _=>rfl,fR (f:=c_i64) rfl rfl fun _=>rfl,fB rfl rfl rfl,fL rfl rfl rfl rfl,trivial⟩)⟩
   |refine ⟨⟨nx _,r2,_⟩,?_,?_,(ft [(0,some 0),(1,some 1),(2,some 2),(3,some 3),(4,some 11),(5,some 5),(6,some 6)] rfl rfl rfl ⟨fB rfl rfl rfl,fX rfl rfl rfl (fun _=>rfl),fX rfl rfl rfl (fun _=>rfl),fR (f:=S71.c) rfl rfl fun _=>rfl,fR (f:=c_i64) rfl rfl fun _=>rfl,fB rfl rfl rfl,fL rfl rfl rfl rfl,trivial⟩)⟩
   |refine ⟨⟨nx _,_,s2⟩,?_,?_,(ft [(0,some 0),(1,some 1),(2,some 2),(3,some 11),(4,some 4),(5,some 5),(6,some 6)] rfl rfl rfl ⟨fB rfl rfl rfl,fX rfl rfl rfl (fun _=>rfl),fX rfl rfl rfl (fun _=>rfl),fR (f:=S71.c) rfl rfl fun _=>rfl,fR (f:=c_i64) rfl rfl fun _=>rfl,fB rfl rfl rfl,fL rfl rfl rfl rfl,trivial⟩)⟩
   |refine ⟨⟨nx _,_,_⟩,?_,?_,(ft [(0,some 0),(1,some 1),(2,some 2),(3,some 3),(4,some 4)] rfl rfl rfl ⟨fB rfl rfl rfl,fX rfl rfl rfl (fun _=>rfl),fX rfl rfl rfl (fun _=>rfl),fR (f:=S71.c) rfl rfl fun _=>rfl,fR (f:=c_i64) rfl rfl fun _=>rfl,trivial⟩)⟩
   |refine ⟨_,_,deep0 (leafs_map (f:=c_i64) (fun _=>rfl) _),?_⟩
   |refine ⟨_,_,deep0 (leafs_map (f:=S71.c) (fun _=>rfl) _),?_⟩
   |refine ⟨rfl,rfl,?_⟩
   |refine ⟨rfl,?_⟩
   |refine ⟨(_,_),rfl,?_⟩
  |exact fun s hs=>Nat.le_trans (g4 s hs) (by omega)
  |(have:=g4 x hm;simp (disch:=omega) only [ls];omega)
  |(have:=g4 x hm;omega)
  |omega
  |dsimp only
  |with_reducible apply And.intro
  |(simp (disch:=omega) only [ls]<;>omega)
theorem w507x (a0:List S65) (a1:List (List S71)) (g0:a0.length≤100000) (g1:∀e∈a0,EB e) (g2:a1.length≤100) (g3:∀s∈a1,s.length≤110000):Wk P tabL (Yf []) (.seq p507 (.seq q507 y507)) (argsT 0 [lE a0,.lst (a1.map cL26)]) ⟨[],0⟩ (fun e T W=>e=.normal∧X507 a1 T W):=by
 repeat' first
  |with_reducible assumption
  |(conv=>whnf);first
   |apply bD<;>intro h
   |refine .inr ⟨VI,?_⟩
   |refine lM ?_
   |refine wG (l:=a1) ?_ ?_ (fun _=>rfl) fun x hx hm=>?_
   |refine wG (l:=z518) ?_ ?_ (fun _=>rfl) fun y hy hmy=>?_
   |refine wC (w518 a0 x ?_ ?_ ?_) fun z518 h518=>?_
   |refine V2 (fun (p:Int) (fs:List Int)=>0≤p∧p≤(a1.length:Int)∧(fs.length:Int)≤210000*p) (fun p fs=>[(0,lE a0),(1,.lst (a1.map cL26)),(5,.mp 0),(14,.lst (a1.map cL26)),(15,sI (a1.length:Int)),(16,sI p)]) (fun p fs=>⟨[(0,.set (fs.map (Value.int .i64)) VI)],1⟩) (fun p fs=>((a1.length:Int)-p).toNat) (0:Int) [] ?_ (ft [(0,some 0)] rfl rfl rfl ⟨fS rfl rfl fun _ h=>h,trivial⟩) fun p fs ⟨i0,i1,i2⟩=>?_
   |refine V2 (fun (q:Int) (fs:List Int)=>0≤q∧q≤(z518.length:Int)∧(fs.length:Int)≤210000*p+q) (fun q fs=>[(0,lE a0),(1,.lst (a1.map cL26)),(5,.mp 0),(14,.lst (a1.map cL26)),(15,sI (a1.length:Int)),(16,sI p),(22,lI z518),(23,sI (z518.length:Int)),(24,sI q)]) (fun q fs=>⟨[(0,.set (fs.map (Value.int .i64)) VI)],1⟩) (fun q fs=>((z518.length:Int)-q).toNat) (0:Int) fs ?_ (ft [(0,some 0)] rfl rfl rfl ⟨fS rfl rfl fun _ h=>h,trivial⟩) fun q fs ⟨j0,j1,j2⟩=>?_
   |refine lkI (fun n hn=>?_) fun hn=>?_
   |refine upS fs ⟨_,rfl⟩ ?_
   |refine ⟨⟨nx _,_⟩,?_,?_,(ft [(0,some 0)] rfl rfl rfl ⟨fS rfl rfl fun _ h=>h,trivial⟩)⟩
   |exact ⟨rfl,_,rfl,rfl,rfl,by omega⟩
  |exact ins_le j2 j0 (by have:=g3 x hm;omega)
  |(have:=g3 x hm;omega)
  |(have:=g3 x hm;simp (disch:=omega) only [ls];omega)
  |omega
  |dsimp only
  |with_reducible apply And.intro
  |(simp (disch:=omega) only [ls]<;>omega)
theorem w123 (a0:ByteArray) (g0:(a0.size:Int)≤1000000000):WQv 123 [sS a0] (fun r:ByteArray=>sS r) (fun r=>r.size≤a0.size):=by
 refine gO Tryz.func123 ?_
 repeat' first
  |with_reducible assumption
  |(conv=>whnf);first
   |refine wC (w184 _ _ ?_ ?_) fun z184 hz=>?_
   |refine ⟨_,rfl,?_⟩
  |omega
  |decide
end Go.Abs.RM
