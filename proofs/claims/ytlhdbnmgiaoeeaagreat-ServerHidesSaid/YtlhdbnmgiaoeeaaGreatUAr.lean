/- Of ServerHides: walks. -/
import Derived.Test.YtlhdbnmgiaoeeaaGreatUAq
set_option linter.all false
namespace Go.Abs.RM
open Go.Proofs Go.Proofs.RMH
set_option maxRecDepth 100000
set_option maxHeartbeats 40000000
theorem w138 (a0:List S65) (a1:List S71) (g0:a0.length<=1000000) (g1:a1.length<=1000000):WQv 48 [lE a0,.lst (a1.map S71.c)] lE (λr=>r.length<=a1.length/\∀x∈r,x∈a0):=by
 refine gO Tryz.func48 ?_
 repeat' first
  |with_reducible assumption
  |(conv=>whnf);first
   |apply bD<;>intro h
   |apply br<;>intro h
   |refine wC (w196 a1) λz196 hz=>?_
   |refine lM ?_
   |refine rgF [] [(2,.box 0 0),(5,.box 1 0),(10,.fnp 189 [] [.ipt [.lst (a1.map S71.c)]])] rfl ⟨rfl,rfl,rfl,trivial⟩ rfl Tryz.func189 (by kernel_rfl) rfl λD d1 d2 d3 dk=>?_
   |refine V2 (λ(q0:Int) (r:List S65)=>0<=q0/\q0<=(a1.length:Int)/\(r.length:Int)<=q0/\∀x∈r,x∈a0) (λq0 r=>[(0,.yld 2),(5,.lst (a1.map S71.c)),(6,sI (a1.length:Int)),(7,sI q0)]) (λq0 r=>⟨[(0,.box [lE a0] false),(1,.box [.row 3] false),(2,.loop D [(2,.box 0 0),(5,.box 1 0),(10,.fnp 189 [] [.ipt [.lst (a1.map S71.c)]])] .ready none),(3,.row (r.map S65.c) 29 false 3)],4⟩) (λq0 r=>((a1.length:Int)-q0).toNat) (0:Int) [] ?_ (ft [(0,some 0),(1,some 1),(2,some 2),(3,none)] rfl rfl rfl ⟨fB rfl rfl rfl,fX rfl rfl rfl (λ_=>rfl),fL rfl rfl rfl rfl,f0 rfl rfl,trivial⟩) λq0 r ⟨i0,i1,i2,i3⟩=>?_
   |refine wG ?_ ?_ (λ_=>rfl) λx hx hm=>?_
   |refine yL [] [(0,.yld 2),(5,.lst (a1.map S71.c)),(6,sI (a1.length:Int)),(7,sI q0)] d1 d2 d3 dk ⟨rfl,rfl,rfl,rfl,trivial⟩ rfl rfl λTc=>?_
   |refine wC (w50 _ _ ?_) λz50 hz=>?_
   |refine wA (f:=S65.c) (m:=[z50.1]) rfl (λ_=>⟨rfl,rfl⟩) ?_ ?_ ?_
   |refine ⟨⟨nx _,_⟩,?_,?_,(ft [(0,some 0),(1,some 1),(2,some 2),(3,some 9)] rfl rfl rfl ⟨fB rfl rfl rfl,fX rfl rfl rfl (λ_=>rfl),fL rfl rfl rfl rfl,fR (f:=S65.c) rfl rfl λ_=>rfl,trivial⟩)⟩
   |refine ⟨⟨nx _,r⟩,?_,?_,(ft [(0,some 0),(1,some 1),(2,some 2),(3,some 3)] rfl rfl rfl ⟨fB rfl rfl rfl,fX rfl rfl rfl (λ_=>rfl),fL rfl rfl rfl rfl,fR (f:=S65.c) rfl rfl λ_=>rfl,trivial⟩)⟩
   |refine ⟨_,_,deep0 (leafs_map (f:=S65.c) (λ_=>rfl) _),?_⟩
   |refine ⟨rfl,rfl,?_⟩
   |refine ⟨rfl,?_⟩
   |refine ⟨_,rfl,?_⟩
  |omega
  |dsimp only
  |with_reducible apply And.intro
  |(simp (disch:=omega) only [ls]<;>omega)
  |contradiction
  |intro hr
  |grind
theorem w478 (f:FuncId) (hf:∀x:S65,EB x->WQv f [aE x] lI (λr=>r.length<=100)) (a0:List S65) (a1:List Int) (g0:a0.length<=1000000) (g1:∀e∈a0,EB e) (g2:a1.length<=100000000):WQv 403 [lE a0,lI a1,.fnp f [] []] lI (λr=>r.length<=a0.length):=wSv (o478 f hf a0 a1 g0 g1 g2)
theorem w97 (a0:S30) (a1:List Int) (g0:a0.f1.length<=1000000) (g1:a1.length<=1000000):WQv 562 [.agg (S30.c a0),lI a1] lI (λr=>r.length<=a1.length/\∀x,x∈r↔x∈a1/\∃e,getI a0.f1 x=some e):=by
 refine gO Tryz.func562 ?_
 repeat' first
  |with_reducible assumption
  |(conv=>whnf);first
   |apply bD<;>intro h
   |apply br<;>intro h
   |refine wC (w163 _ ?_) λz163 hz=>?_
   |refine lM ?_
   |refine V2 (λ(p0:List Int) (p1:Int)=>0<=p1/\p1<=(z163.length:Int)/\(p0.length:Int)<=p1/\∀x,x∈p0↔x∈z163.take p1.toNat/\∃e,getI a0.f1 x=some e) (λ_ p1=>[(2,.box 0 0),(5,.row 1),(11,lI z163),(12,sI (z163.length:Int)),(13,sI p1)]) (λp0 _=>⟨[(0,.box (S30.c a0) false),(1,.row (p0.map c_i64) 1 false 1)],2⟩) (λ_ p1=>((z163.length:Int)+1-p1).toNat) [] (0:Int) ?_ (ft [(0,some 0),(1,none)] rfl rfl rfl ⟨fB rfl rfl rfl,fitO_nil rfl rfl,trivial⟩) λp0 p1 ⟨i0,i1,i2,i3⟩=>?_
   |refine wG ?_ ?_ (λ_=>rfl) λx hx hm=>?_
   |refine wC (w50 _ _ ?_) λz50 hz50=>?_
   |refine wA (f:=c_i64) (m:=[_]) rfl (λ_=>⟨rfl,rfl⟩) ?_ ?_ ?_
   |refine ⟨⟨_,nx _⟩,?_,?_,(ft [(0,some 0),(1,some 4)] rfl rfl rfl ⟨fB rfl rfl rfl,fR rfl rfl λ_=>rfl,trivial⟩)⟩
   |refine ⟨⟨_,nx _⟩,?_,?_,(ft [(0,some 0),(1,some 1)] rfl rfl rfl ⟨fB rfl rfl rfl,fR rfl rfl λ_=>rfl,trivial⟩)⟩
   |refine ⟨_,_,deep0 (leafs_map (f:=c_i64) (λ_=>rfl) _),?_⟩
   |refine ⟨_,rfl,?_⟩
  |exact know_snoc i0 i1 hx i3 (by omega) (.inl ⟨rfl,_,hz50.2.1 ‹_›⟩)
  |exact know_snoc i0 i1 hx i3 (by omega) (.inr ⟨rfl,by intro e;rw [hz50.2.2 ‹_›];intro h;cases h⟩)
  |exact know_end i1 ‹_› i3 hz.2.1
  |(intro x;simp)
  |omega
  |dsimp only
  |with_reducible apply And.intro
  |(simp (disch:=omega) only [ls]<;>omega)
theorem w50k (r:RP) {i:Int} (g0:r.d.f1.length<=12) (g1:∀e∈r.d.f1,EB e) (g2:Kn r.d.f1 i) {X:WV->Prop} {Y:Prop} (h:∀e:EP,e.d∈r.d.f1->e.d.f0=i->GetW r i (e,true)->X (.tup [.agg e.c,sB true])):(∃G,WValid P 49 [.pin (nth r.xs 1),sI i] G/\∀v,G v->X v)\/Y:=by
 refine w50q r i g0 g1 λb h1 h2 hw=>?_
 obtain ⟨e,k⟩:=b
 cases k with
 |true=>exact h e (h1 rfl).1 (h1 rfl).2 hw
 |false=>obtain ⟨e',he⟩:=g2;rw [h2 rfl] at he;cases he
theorem w506 (a0:List (List S71)) (a1:S71) (g0:a0.length<=1000000) (g1:∀s∈a0,s.length<=1000000):WQv 439 [.lst (a0.map cL26),.agg (S71.c a1)] sB (λr=>True):=by
 refine gO Tryz.func439 ?_
 repeat' first
  |with_reducible assumption
  |(conv=>whnf);first
   |apply bD<;>intro h
   |apply bN<;>intro h
   |refine lM ?_
   |refine V1 (λ(p0:Int)=>0<=p0/\p0<=(a0.length:Int)) (λp0=>[(3,.box 0 0),(9,.lst (a0.map cL26)),(10,sI (a0.length:Int)),(11,sI p0)]) (λ_=>⟨[(0,.box (S71.c a1) false)],1⟩) (λp0=>((a0.length:Int)+1-p0).toNat) (0:Int) ?_ (fB1 rfl rfl rfl rfl) λp0 ⟨i0,i1⟩=>?_
   |refine wG ?_ ?_ (λ_=>rfl) λx hx hm=>?_
   |refine wC (w315 _ _ _ ?_) λz315 hz=>?_
   |refine ⟨false,rfl,?_⟩
   |refine ⟨nx _,?_,?_,(fB1 rfl rfl rfl rfl)⟩
   |refine ⟨true,rfl,?_⟩
  |omega
  |dsimp only
  |exact g1 _ hm
  |with_reducible apply And.intro
  |(simp (disch:=omega) only [ls]<;>omega)
theorem w518 (a0:List S65) (a1:List S71) (g0:a0.length<=100000) (g1:∀e∈a0,EB e) (g2:a1.length<=110000):WQv 486 [lE a0,.lst (a1.map S71.c)] lI (λr=>r.length<=a0.length+a1.length):=by
 refine gO Tryz.func486 ?_
 repeat' first
  |with_reducible assumption
  |(conv=>whnf);first
   |apply bD<;>intro h
   |refine ⟨by kernel_rfl,?_⟩
   |refine lM ?_
   |refine wG ?_ ?_ (λ_=>rfl) λx hx hm=>?_
   |refine V2 (λ(p:Int) (r:List Int)=>0<=p/\p<=(a1.length:Int)/\(r.length:Int)<=p) (λp r=>[(0,lE a0),(5,.row 0),(12,.lst (a1.map S71.c)),(13,sI (a1.length:Int)),(14,sI p)]) (λp r=>⟨[(0,.row (r.map c_i64) 1 false 0)],1⟩) (λp r=>((a1.length:Int)-p).toNat) (0:Int) [] ?_ (ft [(0,some 0)] rfl rfl rfl ⟨fR (f:=c_i64) (l:=[]) rfl rfl (λ_=>rfl),trivial⟩) λp r ⟨i0,i1,i2⟩=>?_
   |refine ⟨Int.le_refl 0,?_,?_,?_,_,rfl,?_⟩
   |refine wA (f:=c_i64) (m:=[_]) rfl (λ_=>⟨rfl,rfl⟩) ?_ ?_ ?_
   |refine ⟨⟨nx _,_⟩,?_,?_,(ft [(0,some 3)] rfl rfl rfl ⟨fR (f:=c_i64) rfl rfl λ_=>rfl,trivial⟩)⟩
   |refine slM (l:=r) (f:=c_i64) ?_ ?_ rfl ?_
   |refine wSn (o509 a0 r ?_ ?_ ?_) (λ_=>rfl) (λz509 hz=>?_) λhz=>?_
   |refine wX0 (m:=z509) (Int.toNat_natCast _) rfl (λ_=>⟨rfl,rfl⟩) ?_ ?_ ?_ λhz0=>?_
   |refine wX0 (m:=([]:List Int)) (Int.toNat_natCast _) rfl (λ_=>⟨rfl,rfl⟩) ?_ ?_ ?_ λhz0=>?_
   |refine wT (leafs_map (f:=c_i64) (λ_=>rfl) _) (w169 _ ?_) (λzs hzs=>?_) rfl rfl rfl
   |refine wCp rfl ?_ λzc dc hc1 hc2 hc3=>?_
   |refine wSw0 rfl ?_ ?_ ?_
   |refine wCw0 rfl ?_ ?_ λzc dc hc1 hc2 hc3=>?_
   |refine wnE (f:=c_i64) (λ_=>rfl) ?_
   |refine ⟨_,_,deep0 (leafs_map (f:=c_i64) (λ_=>rfl) _),?_⟩
   |refine ⟨leafs_map (f:=c_i64) (λ_=>rfl) _,_,rfl,?_⟩
   |refine ⟨_,rfl,?_⟩
  |(subst hzs;rw [sortI_length];simp only [List.length_append];omega)
  |(subst hzs;rw [sortI_length] at hc1;simp only [List.length_append] at hc1;omega)
  |(rw [sortI_length] at hc1;omega)
  |exact (Int.toNat_natCast _).symm
  |(rw [sortI_length];exact (Int.toNat_natCast _).symm)
  |(rw [sortI_length];omega)
  |omega
  |dsimp only
  |with_reducible apply And.intro
  |(simp (disch:=omega) only [ls]<;>omega)
theorem w469 (a0:List S65) (a1:List Int) (g0:a0.length<=12) (g1:∀e∈a0,EB e) (g2:a1.length<=400000000) (g3:a1.Nodup):WQv 388 [lE a0,lI a1] lI (λr=>r.length<=1000000000/\r.Nodup):=by
 refine gO Tryz.func388 ?_
 repeat' first
  |with_reducible assumption
  |(conv=>whnf);first
   |apply bD<;>intro h
   |apply br<;>intro h
   |refine lM ?_
   |refine wG (l:=a1) ?_ ?_ (λ_=>rfl) λx hx hm=>?_
   |refine wC (w50 a0 _ ?_) λz50 h50=>?_
   |refine wC (w508 z50.1) λz508 h508=>?_
   |refine V2 (λ(p:Int) (o:List Int)=>0<=p/\p<=(a1.length:Int)/\Fr (Kn a0) a1 o p) (λp o=>[(0,lE a0),(1,lI a1),(5,.row 0),(13,lI a1),(14,sI (a1.length:Int)),(15,sI p)]) (λp o=>⟨[(0,.row (o.map c_i64) 1 false 0)],1⟩) (λp o=>((a1.length:Int)-p).toNat) (0:Int) [] ?_ (ft [(0,none)] rfl rfl rfl ⟨f0 rfl rfl,trivial⟩) λp o ⟨i0,i1,i2⟩=>?_
   |refine wA (f:=c_i64) (m:=[_]) rfl (λ_=>⟨rfl,rfl⟩) ?_ ?_ ?_
   |refine ⟨⟨nx _,o⟩,?_,?_,(ft [(0,some 0)] rfl rfl rfl ⟨fR (f:=c_i64) rfl rfl λ_=>rfl,trivial⟩)⟩
   |refine ⟨⟨nx _,_⟩,?_,?_,(ft [(0,some 3)] rfl rfl rfl ⟨fR (f:=c_i64) rfl rfl λ_=>rfl,trivial⟩)⟩
   |refine ⟨⟨nx _,_⟩,?_,?_,(ft [(0,some 2)] rfl rfl rfl ⟨fR (f:=c_i64) rfl rfl λ_=>rfl,trivial⟩)⟩
   |refine wSn (o509 a0 o ?_ ?_ ?_) (λ_=>rfl) (λz509 h509=>?_) λh509=>?_
   |refine wC (w412 _ _ ?_) λz412 h412=>?_
   |refine wC (w163 _ ?_) λz163 h163=>?_
   |refine V2 (λ(p:Int) (o:List Int)=>0<=p/\p<=(a1.length:Int)/\(o.length:Int)<=12+p) (λp o=>[(5,.row 0),(10,.lst (([]:List Int).map c_i64)),(38,lI a1),(39,sI (a1.length:Int)),(40,sI p)]) (λp o=>⟨[(0,.row (o.map c_i64) 1 false 0)],1⟩) (λp o=>((a1.length:Int)-p).toNat) (0:Int) o ?_ (ft [(0,some 0)] rfl rfl rfl ⟨fR (f:=c_i64) rfl rfl λ_=>rfl,trivial⟩) λp o ⟨i0,i1,i3⟩=>?_
   |refine V2 (λ(p:Int) (o:List Int)=>0<=p/\p<=(a1.length:Int)/\(o.length:Int)<=12+p) (λp o=>[(5,.row 0),(10,lI z509),(38,lI a1),(39,sI (a1.length:Int)),(40,sI p)]) (λp o=>⟨[(0,.row (o.map c_i64) 1 false 0)],1⟩) (λp o=>((a1.length:Int)-p).toNat) (0:Int) o ?_ (suits_trans (lend_suits 10 rfl rfl (leafs_map (f:=c_i64) (λ_=>rfl) _)) (ft [(0,some 0)] rfl rfl rfl ⟨fR (f:=c_i64) rfl rfl λ_=>rfl,trivial⟩)) λp o ⟨i0,i1,i3⟩=>?_
   |refine ⟨_,_,deep0 (leafs_map (f:=c_i64) (λ_=>rfl) _),?_⟩
   |refine ⟨_,rfl,?_⟩
  |exact fr0
  |exact fr_skip i0 (by omega) i2
  |exact fr_snoc g3 i0 (by omega) hx i2 ⟨_,h50.2.1 ‹_›⟩
  |(have:=fr_len i2;omega)
  |(have:=fr_len i2;simp only [List.length_singleton];omega)
  |exact ⟨by have:=h163.1;omega,h163.2.2⟩
  |omega
  |dsimp only
  |with_reducible apply And.intro
  |(simp (disch:=omega) only [ls]<;>omega)
theorem w184 (a0:ByteArray) (a1:ByteArray) (g0:(a0.size:Int)<=1000000000) (g1:(a1.size:Int)<=1000000000):WQv 89 [sS a0,sS a1] (λr:ByteArray×ByteArray×Bool=>.tup [sS r.1,sS r.2.1,sB r.2.2]) (λr=>r.1.size<=a0.size/\r.2.1.size<=a0.size):=by
 refine gO Tryz.func89 ?_
 repeat' first
  |with_reducible assumption
  |(conv=>whnf);first
   |apply bS<;>intro h
   |apply bD<;>intro h
   |apply bN<;>intro h
   |refine wS ?_ ?_ λx hb=>?_
   |refine wC (w242 _ _ ?_) λz242 hz=>?_
   |refine And.intro ?_ (And.intro ?_ ?_)
   |refine wC (w1243 _ ?_) λz1243 hz=>?_
   |refine wC (w244 _ ?_) λz244 hz=>?_
   |refine wC (w245 _ ?_) λz245 hz=>?_
   |refine ⟨(zS,zS,false),rfl,?_⟩
   |refine ⟨(_,_,true),rfl,?_⟩
  |omega
  |exact Nat.zero_le _
  |exact pos_ne ‹_›
  |exact Nat.le_trans (And.left ‹z1243.1.size<=_/\_›) (ext_le _ _ _)
  |exact Nat.le_trans (And.right ‹z1243.1.size<=_/\_›) (ext_le _ _ _)
  |(have q:=ext_le a0 (Int.toNat 1) a0.size;have q2:=‹z1243.1.size<=_/\_›;omega)
  |exact Int.le_trans (Int.ofNat_le.2 (ext_le _ _ _)) g0
  |dsimp only
  |with_reducible apply And.intro
theorem w296 (a0:S65) (a1:List S65) (g0:EB a0) (g1:a1.length<=1000000) (g2:∀e∈a1,EB e):WQv 218 [aE a0,lE a1] sI (λ_=>True):=by
 refine gO Tryz.func218 ?_
 repeat' first
  |with_reducible assumption
  |(conv=>whnf);first
   |apply br<;>intro h
   |refine wC (w396 _ _ ?_ ?_ ?_) λz396 hz=>?_
   |refine wC (w291 (first:=[]) (w397 a0 a1 g1 g2 g0)) λz hz=>?_
   |refine ⟨_,rfl,?_⟩
theorem w514 (a0:S65):WQv 371 [aE a0] (λr:List S71=>.lst (r.map S71.c)) (λr=>r.length<=10):=by
 refine gO Tryz.func371 ?_
 repeat' first
  |(conv=>whnf);first
   |apply bI<;>intro h
   |refine wC (w461 [] (1:Int) zS (0:Int) ?_) λz461 hz=>?_
   |refine wC (w461 _ (3:Int) zS (0:Int) ?_) λz461 hz=>?_
   |refine wC (w461 _ (2:Int) _ (0:Int) ?_) λz461 hz=>?_
   |refine wC (w461 _ (4:Int) zS (0:Int) ?_) λz461 hz=>?_
   |refine ⟨[],rfl,?_⟩
   |refine ⟨_,rfl,?_⟩
  |dsimp only
  |(simp (disch:=omega) only [ls]<;>omega)
  |grind
theorem w509 (a0:List S65) (a1:List Int) (g0:a0.length<=1000000) (g1:∀e∈a0,EB e) (g2:a1.length<=1000000):WQv 442 [lE a0,lI a1] lI (λr=>r.length<=a0.length):=wSv (o509 a0 a1 g0 g1 g2)
theorem w565 (a0:List S65) (a1:List Int) (a2:Int) (g0:a0.length<=1000000) (g1:∀e∈a0,EB e) (g2:a1.length<=1000000):WQv 606 [lE a0,lI a1,sI a2] sI (λr=>0<=r/\r<=(a1.length:Int)):=by
 refine goF [444] Tryz.func606 (by kernel_rfl) ?_
 repeat' first
  |with_reducible assumption
  |(conv=>whnf);first
   |apply bD<;>intro h
   |apply bN<;>intro h
   |refine fI (Y:=Yf []) [(4,.box 0 0),(6,.box 1 0)] ⟨rfl,rfl,trivial⟩ Tryz.func444 (by kernel_rfl) λTc1=>?_
   |refine rgF [] [(4,.box 0 0),(6,.box 1 0),(11,.fn 490 [] [.box 4 0,.box 3 0])] rfl ⟨rfl,rfl,rfl,trivial⟩ rfl Tryz.func490 (by kernel_rfl) rfl λD d1 d2 d3 dk=>?_
   |refine V2 (λ(i:Int) (s:List Int)=>s.Nodup/\(∀x∈s,Kn a0 x)) (λi s=>[(0,.yld 5),(1,.box 4 0),(2,.box 3 0),(4,.row 6)]) (λi s=>⟨[(0,.box [lI a1] false),(1,.box [sI 0] false),(2,.frm [(4,.box 0 0),(6,.box 1 0)] Tc1),(3,.box [lE a0] false),(4,.box [sI i] false),(5,.loop D [(4,.box 0 0),(6,.box 1 0),(11,.fn 490 [] [.box 4 0,.box 3 0])] .ready none),(6,.row (s.map c_i64) 1 false 6)],7⟩) (λi s=>a0.length+1-s.length) a2 [] ?_ (ft [(0,some 0),(1,some 1),(2,some 2),(3,some 3),(4,some 4),(5,some 5),(6,none)] rfl rfl rfl ⟨fB rfl rfl rfl,fB rfl rfl rfl,fM rfl rfl rfl rfl,fB rfl rfl rfl,fB rfl rfl rfl,fL rfl rfl rfl rfl,f0 rfl rfl,trivial⟩) λi s ⟨i0,i1⟩=>?_
   |refine wC (w104 _ _ ?_) λz104 hz104=>?_
   |refine wC (w50 _ _ ?_) λz50 hz50=>?_
   |refine wC (w523 a0 _ ?_ ?_) λz523 hz523=>?_
   |refine wC (w167 _ _ ?_) λz167 hz167=>?_
   |refine yL [] [(0,.yld 5),(1,.box 4 0),(2,.box 3 0),(4,.row 6),(5,.box 7 0),(20,sB false)] d1 d2 d3 dk ⟨rfl,rfl,rfl,rfl,rfl,rfl,trivial⟩ rfl rfl λTc2=>?_
   |refine lM ?_
   |refine wA (f:=c_i64) (m:=[_]) rfl (λ_=>⟨rfl,rfl⟩) ?_ ?_ ?_
   |refine ⟨_,_,deep0 (leafs_map (f:=c_i64) (λ_=>rfl) _),?_⟩
   |refine ⟨⟨_,_⟩,?_,?_,(ft [(0,some 0),(1,some 1),(2,some 2),(3,some 3),(4,some 4),(5,some 5),(6,some 10)] rfl rfl rfl ⟨fB rfl rfl rfl,fB rfl rfl rfl,fM rfl rfl rfl rfl,fB rfl rfl rfl,fB rfl rfl rfl,fL rfl rfl rfl rfl,fR (f:=c_i64) rfl rfl λ_=>rfl,trivial⟩)⟩
   |refine ⟨rfl,rfl,?_⟩
   |refine ⟨rfl,?_⟩
   |refine ⟨_,rfl,?_⟩
  |exact List.nodup_nil
  |(have:=ids_le' i0 i1;omega)
  |(have:=ids_le' i0 i1;simp only [List.length_singleton];omega)
  |exact g1 _ (hz50.1 ‹_›).1
  |exact nodup_snoc i0 (λhm=>by rw [hz104.2 hm] at *;contradiction)
  |exact snoc_all i1 ⟨_,hz50.2.1 ‹_›⟩
  |exact mea_sn (nodup_snoc i0 (λhm=>by rw [hz104.2 hm] at *;contradiction)) (snoc_all i1 ⟨_,hz50.2.1 ‹_›⟩)
  |dsimp only
  |with_reducible apply And.intro
  |contradiction
  |intro hr
theorem w471 (a0:List S65) (a1:Int) (g0:a0.length<=1000000) (g1:∀e∈a0,EB e):WQv 390 [lE a0,sI a1] lI (λr=>r.length<=a0.length):=by
 refine goF [444] Tryz.func390 (by kernel_rfl) ?_
 repeat' first
  |with_reducible assumption
  |(conv=>whnf);first
   |apply bN<;>intro h
   |refine fI (Y:=Yf []) [(5,.box 0 0)] ⟨rfl,trivial⟩ Tryz.func444 (by kernel_rfl) λTc1=>?_
   |refine rgF [] [(5,.box 0 0),(9,.fn 490 [] [.box 3 0,.box 2 0])] rfl ⟨rfl,rfl,trivial⟩ rfl Tryz.func490 (by kernel_rfl) rfl λD d1 d2 d3 dk=>?_
   |refine V3 (λ(i:Int) (s o:List Int)=>s.Nodup/\(∀x∈s,Kn a0 x)/\o.length<=s.length) (λi s o=>[(0,.yld 4),(1,.box 3 0),(2,.box 2 0),(4,.row 5)]) (λi s o=>⟨[(0,.box [.row 6] false),(1,.frm [(5,.box 0 0)] Tc1),(2,.box [lE a0] false),(3,.box [sI i] false),(4,.loop D [(5,.box 0 0),(9,.fn 490 [] [.box 3 0,.box 2 0])] .ready none),(5,.row (s.map c_i64) 1 false 5),(6,.row (o.map c_i64) 1 false 6)],7⟩) (λi s o=>a0.length+1-s.length) a1 [] [] ?_ (ft [(0,some 0),(1,some 1),(2,some 2),(3,some 3),(4,some 4),(5,none),(6,none)] rfl rfl rfl ⟨fX rfl rfl rfl (λ_=>rfl),fM rfl rfl rfl rfl,fB rfl rfl rfl,fB rfl rfl rfl,fL rfl rfl rfl rfl,f0 rfl rfl,f0 rfl rfl,trivial⟩) λi s o ⟨i0,i1,i2⟩=>?_
   |refine wC (w104 _ _ ?_) λz104 hz104=>?_
   |refine wC (w50 _ _ ?_) λz50 hz50=>?_
   |refine wC (w523 a0 _ ?_ ?_) λz523 hz523=>?_
   |refine yL [] [(0,.yld 4),(1,.box 3 0),(2,.box 2 0),(4,.row 5),(5,.box 7 0),(20,sB false)] d1 d2 d3 dk ⟨rfl,rfl,rfl,rfl,rfl,rfl,trivial⟩ rfl rfl λTc2=>?_
   |refine wA (f:=c_i64) (m:=[_]) rfl (λ_=>⟨rfl,rfl⟩) ?_ ?_ ?_
   |refine ⟨_,_,deep0 (leafs_map (f:=c_i64) (λ_=>rfl) _),?_⟩
   |refine ⟨⟨_,_,_⟩,?_,?_,(ft [(0,some 0),(1,some 1),(2,some 2),(3,some 3),(4,some 4),(5,some 12),(6,some 10)] rfl rfl rfl ⟨fX rfl rfl rfl (λ_=>rfl),fM rfl rfl rfl rfl,fB rfl rfl rfl,fB rfl rfl rfl,fL rfl rfl rfl rfl,fR (f:=c_i64) rfl rfl λ_=>rfl,fR (f:=c_i64) rfl rfl λ_=>rfl,trivial⟩)⟩
   |refine ⟨rfl,rfl,?_⟩
   |refine ⟨rfl,?_⟩
   |refine ⟨_,rfl,?_⟩
  |exact List.nodup_nil
  |(have:=ids_le' i0 i1;omega)
  |(have:=ids_le' i0 i1;simp only [List.length_singleton];omega)
  |exact g1 _ (hz50.1 ‹_›).1
  |exact nodup_snoc i0 (λhm=>by rw [hz104.2 hm] at *;contradiction)
  |exact snoc_all i1 ⟨_,hz50.2.1 ‹_›⟩
  |(simp only [List.length_append,List.length_singleton];omega)
  |exact len_sn i2 (nodup_snoc i0 (λhm=>by rw [hz104.2 hm] at *;contradiction)) (snoc_all i1 ⟨_,hz50.2.1 ‹_›⟩)
  |exact mea_sn (nodup_snoc i0 (λhm=>by rw [hz104.2 hm] at *;contradiction)) (snoc_all i1 ⟨_,hz50.2.1 ‹_›⟩)
  |omega
  |dsimp only
  |with_reducible apply And.intro
  |contradiction
  |intro hr
theorem w207 (a0:S65) (g0:EB a0) (g1:a0.f12.f0.size<=900000):WQv 88 [aE a0] (λr:List Int=>.lst (r.map c_u8)) (λr=>r.length<=10000000):=by
 refine goF [175,177,179,181] Tryz.func88 (by kernel_rfl) ?_
 repeat' first
  |with_reducible assumption
  |(conv=>whnf);first
   |refine fFit [(0,some 0),(1,some 1),(2,some 2)] (far272 (e:=S65.c a0) (b:=[]) (l:=[_]) rfl ?_ ?_ λb2 Tc hb=>?_) rfl rfl rfl ⟨fB rfl rfl rfl,fB rfl rfl rfl,fR (f:=c_i64) (l:=[_]) rfl rfl λ_=>rfl,trivial⟩ rfl
   |refine fFit [(0,some 0),(1,some 1),(2,some 4)] (far272 (e:=S65.c a0) (l:=[_]) rfl ?_ ?_ λb2 Tc hb=>?_) rfl rfl rfl ⟨fB rfl rfl rfl,fB rfl rfl rfl,fR (f:=c_i64) (l:=[_]) rfl rfl λ_=>rfl,trivial⟩ rfl
   |refine fFit [(0,some 0),(1,some 1),(2,some 4)] (far272 (e:=S65.c a0) (l:=[_,_]) rfl ?_ ?_ λb2 Tc hb=>?_) rfl rfl rfl ⟨fB rfl rfl rfl,fB rfl rfl rfl,fR (f:=c_i64) (l:=[_,_]) rfl rfl λ_=>rfl,trivial⟩ rfl
   |refine fFit [(0,some 0),(1,some 1),(2,some 4)] (far274 (e:=S65.c a0) (l:=[_]) rfl ?_ ?_ ?_ λb2 Tc hb=>?_) rfl rfl rfl ⟨fB rfl rfl rfl,fB rfl rfl rfl,fR (f:=cStr) (l:=[_]) rfl rfl λ_=>rfl,trivial⟩ rfl
   |refine fFit [(0,some 0),(1,some 1),(2,some 4)] (far274 (e:=S65.c a0) (l:=[_,_]) rfl ?_ ?_ ?_ λb2 Tc hb=>?_) rfl rfl rfl ⟨fB rfl rfl rfl,fB rfl rfl rfl,fR (f:=cStr) (l:=[_,_]) rfl rfl λ_=>rfl,trivial⟩ rfl
   |refine fFit [(0,some 0),(1,some 1),(2,some 4)] (far276 (e:=S65.c a0) (l:=[_]) rfl ?_ ?_ λb2 Tc hb=>?_) rfl rfl rfl ⟨fB rfl rfl rfl,fB rfl rfl rfl,fR (f:=cBool) (l:=[_]) rfl rfl λ_=>rfl,trivial⟩ rfl
   |refine fFit [(0,some 0),(1,some 1),(2,some 4)] (far278 (e:=S65.c a0) (l:=[_,_]) rfl ?_ ?_ ?_ λb2 Tc hb=>?_) rfl rfl rfl ⟨fB rfl rfl rfl,fB rfl rfl rfl,fR (f:=cL24) (l:=[_,_]) rfl rfl λ_=>rfl,trivial⟩ rfl
   |refine wC (w206 a0.f10 ?_) λz206 h206=>?_
   |refine ⟨_,outW_map _,?_⟩
   |refine ⟨_,rfl,?_⟩
  |with_reducible refine all1 ?_
  |with_reducible refine all2 ?_ ?_
  |exact Nat.le_trans (Nat.le_of_eq (txt_len z206)) h206
  |exact Nat.zero_le _
  |exact Nat.le_refl _
  |exact Nat.le_succ _
  |(obtain ⟨q1,q2,q3,q4,q5,q6⟩:=g0;first | omega | (simp only [List.length_cons,List.length_nil] at *;omega))
theorem w149 (a0:S65) (g0:EB a0):WQv 74 [aE a0] sI (λr=>True):=by
 refine gO Tryz.func74 ?_
 repeat' first
  |with_reducible assumption
  |(conv=>whnf);first
   |refine wC (w206 _ ?_) λz206 hz=>?_
   |refine wC (w205 _ ?_) λz205 hz=>?_
   |refine ⟨_,rfl,?_⟩
  |omega
  |grind
theorem w413 (a0:List S65) (a1:List Int) (g0:a0.length<=1000000) (g1:∀e∈a0,EB e) (g2:a1.length<=100000000):WQv 353 [lE a0,lI a1] lI (λr=>r.length<=a0.length):=by
 refine gO Tryz.func353 ?_
 repeat' first
  |with_reducible assumption
  |(conv=>whnf);first
   |refine wC (w478 404 (λx hx=>wq_mono (w479 x) λr hr=>by subst hr;unfold EB at hx;omega) a0 a1 ?_ ?_ ?_) λz hz=>?_
   |refine ⟨_,rfl,?_⟩
theorem w467 (b:Nat) (a1:List (List S71)) (g2:a1.length<=100) (g3:b<=110000) (g4:∀s∈a1,s.length<=b):WQv 386 [.lst (a1.map cL26)] (λr:List S71×List Int=>.tup [.lst (r.1.map S71.c),lI r.2]) (λr=>r.1.length<=b/\r.2.length<=20000000):=by
 refine goF [] Tryz.func386 (by kernel_rfl) ?_
 repeat' first
  |with_reducible assumption
  |(conv=>whnf);first
   |apply bD<;>intro h
   |apply bN<;>intro h
   |refine ⟨(by kernel_rfl:drawW _ _ _=true),?_⟩
   |refine lM ?_
   |refine wG (l:=x) ?_ ?_ (λ_=>rfl) λe he hme=>?_
   |refine wG (l:=a1) ?_ ?_ (λ_=>rfl) λx hx hm=>?_
   |refine V3 (λ(p:Int) (r:List S71) (s:List Int)=>0<=p/\p<=(a1.length:Int)/\(p=0->r.length<=0)/\r.length<=b/\(s.length:Int)<=110000*p) (λp r s=>[(1,.box 0 0),(4,.box 1 0),(5,.box 2 0),(9,.lst (a1.map cL26)),(10,sI (a1.length:Int)),(11,sI p)]) (λp r s=>⟨[(0,.box [.lst (a1.map cL26)] false),(1,.box [.row 3] false),(2,.box [.row 4] false),(3,.row (r.map S71.c) 3 false 3),(4,.row (s.map c_i64) 1 false 4)],5⟩) (λp r s=>((a1.length:Int)-p).toNat) (0:Int) [] [] ?_ (ft [(0,some 0),(1,some 1),(2,some 2),(3,none),(4,none)] rfl rfl rfl ⟨fB rfl rfl rfl,fX rfl rfl rfl (λ_=>rfl),fX rfl rfl rfl (λ_=>rfl),f0 rfl rfl,f0 rfl rfl,trivial⟩) λp r s ⟨i0,i1,i2,i3,i4⟩=>?_
   |refine wC (w196 x) λz196 hz=>?_
   |refine rgF [] [(1,.box 0 0),(4,.box 1 0),(5,.box 2 0),(6,.box 5 0),(9,.lst (a1.map cL26)),(10,sI (a1.length:Int)),(11,sI p),(17,.fnp 189 [] [.ipt [.lst (x.map S71.c)]])] rfl ⟨rfl,rfl,rfl,rfl,rfl,rfl,rfl,rfl,trivial⟩ rfl Tryz.func189 (by kernel_rfl) rfl λD d1 d2 d3 dk=>?_
   |refine V3 (λ(q:Int) (r2:List S71) (s2:List Int)=>0<=q/\q<=(x.length:Int)/\(p=0->(r2.length:Int)<=q)/\r2.length<=b/\(s2.length:Int)<=110000*p+q) (λq r2 s2=>[(0,.yld 6),(5,.lst (x.map S71.c)),(6,sI (x.length:Int)),(7,sI q)]) (λq r2 s2=>⟨[(0,.box [.lst (a1.map cL26)] false),(1,.box [.row 3] false),(2,.box [.row 4] false),(3,.row (r2.map S71.c) 3 false 3),(4,.row (s2.map c_i64) 1 false 4),(5,.box [sI p] false),(6,.loop D [(1,.box 0 0),(4,.box 1 0),(5,.box 2 0),(6,.box 5 0),(9,.lst (a1.map cL26)),(10,sI (a1.length:Int)),(11,sI p),(17,.fnp 189 [] [.ipt [.lst (x.map S71.c)]])] .ready none)],7⟩) (λq r2 s2=>((x.length:Int)-q).toNat) (0:Int) r s ?_ (ft [(0,some 0),(1,some 1),(2,some 2),(3,some 3),(4,some 4),(5,some 5),(6,some 6)] rfl rfl rfl ⟨fB rfl rfl rfl,fX rfl rfl rfl (λ_=>rfl),fX rfl rfl rfl (λ_=>rfl),fR (f:=S71.c) rfl rfl λ_=>rfl,fR (f:=c_i64) rfl rfl λ_=>rfl,fB rfl rfl rfl,fL rfl rfl rfl rfl,trivial⟩) λq r2 s2 ⟨j0,j1,j2,j3,j4⟩=>?_
   |refine yL [] [(0,.yld 6),(5,.lst (x.map S71.c)),(6,sI (x.length:Int)),(7,sI q)] d1 d2 d3 dk ⟨rfl,rfl,rfl,rfl,trivial⟩ rfl rfl λTc2=>?_
   |refine wC (w506 a1 _ ?_ ?_) λz506 hz=>?_
   |refine wC (w163 s ?_) λz163 h163=>?_
   |refine wA (f:=S71.c) (m:=[_]) rfl (λ_=>⟨rfl,rfl⟩) ?_ ?_ ?_
   |refine wA (f:=c_i64) (m:=[_]) rfl (λ_=>⟨rfl,rfl⟩) ?_ ?_ ?_
   |refine ⟨⟨nx _,r2,s2⟩,?_,?_,(ft [(0,some 0),(1,some 1),(2,some 2),(3,some 3),(4,some 4),(5,some 5),(6,some 6)] rfl rfl rfl ⟨fB rfl rfl rfl,fX rfl rfl rfl (λ_=>rfl),fX rfl rfl rfl (λ_=>rfl),fR (f:=S71.c) rfl rfl λ_=>rfl,fR (f:=c_i64) rfl rfl λ_=>rfl,fB rfl rfl rfl,fL rfl rfl rfl rfl,trivial⟩)⟩
   |refine ⟨⟨nx _,r2,_⟩,?_,?_,(ft [(0,some 0),(1,some 1),(2,some 2),(3,some 3),(4,some 11),(5,some 5),(6,some 6)] rfl rfl rfl ⟨fB rfl rfl rfl,fX rfl rfl rfl (λ_=>rfl),fX rfl rfl rfl (λ_=>rfl),fR (f:=S71.c) rfl rfl λ_=>rfl,fR (f:=c_i64) rfl rfl λ_=>rfl,fB rfl rfl rfl,fL rfl rfl rfl rfl,trivial⟩)⟩
   |refine ⟨⟨nx _,_,s2⟩,?_,?_,(ft [(0,some 0),(1,some 1),(2,some 2),(3,some 11),(4,some 4),(5,some 5),(6,some 6)] rfl rfl rfl ⟨fB rfl rfl rfl,fX rfl rfl rfl (λ_=>rfl),fX rfl rfl rfl (λ_=>rfl),fR (f:=S71.c) rfl rfl λ_=>rfl,fR (f:=c_i64) rfl rfl λ_=>rfl,fB rfl rfl rfl,fL rfl rfl rfl rfl,trivial⟩)⟩
   |refine ⟨⟨nx _,_,_⟩,?_,?_,(ft [(0,some 0),(1,some 1),(2,some 2),(3,some 3),(4,some 4)] rfl rfl rfl ⟨fB rfl rfl rfl,fX rfl rfl rfl (λ_=>rfl),fX rfl rfl rfl (λ_=>rfl),fR (f:=S71.c) rfl rfl λ_=>rfl,fR (f:=c_i64) rfl rfl λ_=>rfl,trivial⟩)⟩
   |refine ⟨_,_,deep0 (leafs_map (f:=c_i64) (λ_=>rfl) _),?_⟩
   |refine ⟨_,_,deep0 (leafs_map (f:=S71.c) (λ_=>rfl) _),?_⟩
   |refine ⟨rfl,rfl,?_⟩
   |refine ⟨rfl,?_⟩
   |refine ⟨(_,_),rfl,?_⟩
  |exact λs hs=>Nat.le_trans (g4 s hs) (by omega)
  |(have:=g4 x hm;simp (disch:=omega) only [ls];omega)
  |(have:=g4 x hm;omega)
  |omega
  |dsimp only
  |with_reducible apply And.intro
  |(simp (disch:=omega) only [ls]<;>omega)
end Go.Abs.RM
