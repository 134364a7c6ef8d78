/- Of ServerHides: walks. -/
import Derived.Test.YtlhdbnmgiaoeeaaGreatUAr
set_option linter.all false
namespace Go.Abs.RM
open Go.Proofs Go.Proofs.RMH
set_option maxRecDepth 100000
set_option maxHeartbeats 40000000
theorem w507x (a0:List S65) (a1:List (List S71)) (g0:a0.length<=100000) (g1:∀e∈a0,EB e) (g2:a1.length<=100) (g3:∀s∈a1,s.length<=110000):Wk P tabL (Yf []) (.seq p507 (.seq q507 y507)) (argsT 0 [lE a0,.lst (a1.map cL26)]) ⟨[],0⟩ (λe T W=>e=.normal/\X507 a1 T W):=by
 repeat' first
  |with_reducible assumption
  |(conv=>whnf);first
   |apply bD<;>intro h
   |refine .inr ⟨VI,?_⟩
   |refine lM ?_
   |refine wG (l:=a1) ?_ ?_ (λ_=>rfl) λx hx hm=>?_
   |refine wG (l:=z518) ?_ ?_ (λ_=>rfl) λy hy hmy=>?_
   |refine wC (w518 a0 x ?_ ?_ ?_) λz518 h518=>?_
   |refine V2 (λ(p:Int) (fs:List Int)=>0<=p/\p<=(a1.length:Int)/\(fs.length:Int)<=210000*p) (λp fs=>[(0,lE a0),(1,.lst (a1.map cL26)),(5,.mp 0),(14,.lst (a1.map cL26)),(15,sI (a1.length:Int)),(16,sI p)]) (λp fs=>⟨[(0,.set (fs.map (Value.int .i64)) VI)],1⟩) (λp fs=>((a1.length:Int)-p).toNat) (0:Int) [] ?_ (ft [(0,some 0)] rfl rfl rfl ⟨fS rfl rfl λ_ h=>h,trivial⟩) λp fs ⟨i0,i1,i2⟩=>?_
   |refine V2 (λ(q:Int) (fs:List Int)=>0<=q/\q<=(z518.length:Int)/\(fs.length:Int)<=210000*p+q) (λq fs=>[(0,lE a0),(1,.lst (a1.map cL26)),(5,.mp 0),(14,.lst (a1.map cL26)),(15,sI (a1.length:Int)),(16,sI p),(22,lI z518),(23,sI (z518.length:Int)),(24,sI q)]) (λq fs=>⟨[(0,.set (fs.map (Value.int .i64)) VI)],1⟩) (λq fs=>((z518.length:Int)-q).toNat) (0:Int) fs ?_ (ft [(0,some 0)] rfl rfl rfl ⟨fS rfl rfl λ_ h=>h,trivial⟩) λq fs ⟨j0,j1,j2⟩=>?_
   |refine lkI (λn hn=>?_) λhn=>?_
   |refine upS fs ⟨_,rfl⟩ ?_
   |refine ⟨⟨nx _,_⟩,?_,?_,(ft [(0,some 0)] rfl rfl rfl ⟨fS rfl rfl λ_ h=>h,trivial⟩)⟩
   |exact ⟨rfl,_,rfl,rfl,rfl,by omega⟩
  |exact ins_le j2 j0 (by have:=g3 x hm;omega)
  |(have:=g3 x hm;omega)
  |(have:=g3 x hm;simp (disch:=omega) only [ls];omega)
  |omega
  |dsimp only
  |with_reducible apply And.intro
  |(simp (disch:=omega) only [ls]<;>omega)
theorem w123 (a0:ByteArray) (g0:(a0.size:Int)<=1000000000):WQv 37 [sS a0] (λr:ByteArray=>sS r) (λr=>r.size<=a0.size):=by
 refine gO Tryz.func37 ?_
 repeat' first
  |with_reducible assumption
  |(conv=>whnf);first
   |refine wC (w184 _ _ ?_ ?_) λz184 hz=>?_
   |refine ⟨_,rfl,?_⟩
  |omega
  |decide
theorem w538 (a0:List S65) (a1:List S71) (a2:S65) (g0:a0.length<=1000000) (g1:∀e∈a0,EB e) (g2:a1.length<=1000000) (g3:EB a2):WQv 528 [lE a0,.lst (a1.map S71.c),aE a2] lE (λr=>r.length<=100/\∀x∈r,x∈a0):=by
 refine gO Tryz.func528 ?_
 repeat' first
  |with_reducible assumption
  |(conv=>whnf);first
   |apply bD<;>intro h
   |apply br<;>intro h
   |refine wC (w487 _ _ ?_ ?_) λz487 hz=>?_
   |refine ⟨Int.le_refl 0,?_,?_,?_,[],rfl,?_⟩
   |refine wC (w514 _) λz514 hz=>?_
   |refine lM ?_
   |refine V2 (λ(p0:List S65) (p1:Int)=>0<=p1/\p1<=(z514.length:Int)/\(p0.length:Int)<=p1/\(∀x∈p0,x∈a0)) (λ_ p1=>[(0,lE a0),(1,.lst (a1.map S71.c)),(7,lE z487),(8,.row 0),(21,.lst (z514.map S71.c)),(22,sI (z514.length:Int)),(23,sI p1)]) (λp0 _=>⟨[(0,.row (p0.map S65.c) 29 false 0)],1⟩) (λ_ p1=>((z514.length:Int)+1-p1).toNat) ([]:List S65) (0:Int) ?_ (fR1 1 rfl rfl rfl λ_=>rfl) λp0 p1 ⟨i0,i1,i2,i3⟩=>?_
   |refine wG ?_ ?_ (λ_=>rfl) λx hx hm=>?_
   |refine wC (w540 _ _ ?_) λz540 hz=>?_
   |refine wC (w315 _ _ _ ?_) λz315 hz=>?_
   |refine wC (w50 _ _ ?_) λz50 hz=>?_
   |refine wA (f:=S65.c) (m:=[_]) rfl (λ_=>⟨rfl,rfl⟩) ?_ ?_ ?_
   |refine ⟨⟨_,nx _⟩,?_,?_,(fR1 4 rfl rfl rfl λ_=>rfl)⟩
   |refine ⟨⟨_,nx _⟩,?_,?_,(fR1 0 rfl rfl rfl λ_=>rfl)⟩
   |refine ⟨_,_,deep0 (leafs_map (f:=S65.c) (λ_=>rfl) _),?_⟩
   |refine ⟨_,rfl,?_⟩
  |omega
  |dsimp only
  |with_reducible apply And.intro
  |(simp (disch:=omega) only [ls]<;>omega)
  |contradiction
  |intro hr
  |grind
theorem w493 (a0:S65):WQv 311 [aE a0] (λr:List S422=>.lst (r.map S422.c)) (λr=>r.length<=10):=by
 refine gO Tryz.func311 ?_
 repeat' first
  |with_reducible assumption
  |(conv=>whnf);first
   |apply bD<;>intro h
   |refine wC (w514 _) λz514 hz=>?_
   |refine lM ?_
   |refine V2 (λ(p0:List S422) (p1:Int)=>0<=p1/\p1<=(z514.length:Int)/\(p0.length:Int)<=p1) (λ_ p1=>[(3,.row 0),(7,.lst (z514.map S71.c)),(8,sI (z514.length:Int)),(9,sI p1)]) (λp0 _=>⟨[(0,.row (p0.map S422.c) 2 false 0)],1⟩) (λ_ p1=>((z514.length:Int)+1-p1).toNat) [] (0:Int) ?_ (ft [(0,none)] rfl rfl rfl ⟨fitO_nil rfl rfl,trivial⟩) λp0 p1 ⟨i0,i1,i2⟩=>?_
   |refine wG ?_ ?_ (λ_=>rfl) λx hx hm=>?_
   |refine wA (f:=S422.c) (m:=[⟨_,_⟩]) rfl (λ_=>⟨rfl,rfl⟩) ?_ ?_ ?_
   |refine ⟨⟨_,nx _⟩,?_,?_,(fR1 3 rfl rfl rfl λ_=>rfl)⟩
   |refine ⟨_,_,deep0 (leafs_map (f:=S422.c) (λ_=>rfl) _),?_⟩
   |refine ⟨_,rfl,?_⟩
  |omega
  |dsimp only
  |with_reducible apply And.intro
  |(simp (disch:=omega) only [ls]<;>omega)
theorem w564 (a0:List S65) (a1:List Int) (a2:List Int) (g0:a0.length<=12) (g1:∀e∈a0,EB e) (g2:a1.length<=1000000) (g3:a2.length<=1000000000) (g4:a2.Nodup):WQv 605 [lE a0,lI a1,lI a2] lI (λr=>r.length<=a0.length):=by
 refine goF [607,611,612,610] Tryz.func605 (by kernel_rfl) ?_
 repeat' first
  |with_reducible assumption
  |(conv=>whnf);first
   |exact (no12 ‹¬IntKind.i64.wrap _<=12› (Nat.le_trans (fr_lenM i2) g0)).elim
   |exact absurd (he ‹_=true›) (hd_ne (nd_adj (f:=S472.f0) (nd_perm j2 i2.1) hy4 hy5 (ne_pred l0 (by have:=j2.length_eq;have:=fr_lenM i2;omega))))
   |refine wLE ‹_› ?_
   |apply bD<;>intro h
   |apply br<;>intro h
   |refine ⟨(by kernel_rfl:drawW _ _ _=true),?_⟩
   |refine lM ?_
   |refine wG (l:=a2) ?_ ?_ (λ_=>rfl) λx hx hm=>?_
   |refine wC (w50 a0 _ ?_) λz50 h50=>?_
   |refine wC (w565 a0 a1 _ ?_ ?_ ?_) λz565 h565=>?_
   |refine wC (w567 _ _) λz567 h567=>?_
   |refine wC (w225 _ ?_ ?_) λz225 h225=>?_
   |refine V2 (λ(p:Int) (o:List S472)=>0<=p/\p<=(a2.length:Int)/\Fr (Kn a0) a2 (o.map S472.f0) p) (λp o=>[(0,lE a0),(1,lI a1),(7,.row 0),(15,lI a2),(16,sI (a2.length:Int)),(17,sI p)]) (λp o=>⟨[(0,.row (o.map S472.c) 3 false 0)],1⟩) (λp o=>((a2.length:Int)-p).toNat) (0:Int) [] ?_ (ft [(0,none)] rfl rfl rfl ⟨f0 rfl rfl,trivial⟩) λp o ⟨i0,i1,i2⟩=>?_
   |refine wA (f:=S472.c) (m:=[⟨x,z565,z50.1.f6⟩]) rfl (λ_=>⟨rfl,rfl⟩) ?_ ?_ ?_
   |refine ⟨⟨nx _,o⟩,?_,?_,(ft [(0,some 0)] rfl rfl rfl ⟨fR (f:=S472.c) rfl rfl λ_=>rfl,trivial⟩)⟩
   |refine ⟨⟨nx _,_⟩,?_,?_,(ft [(0,some 3)] rfl rfl rfl ⟨fR (f:=S472.c) rfl rfl λ_=>rfl,trivial⟩)⟩
   |refine fI (Y:=Yf [607,611,612,610]) [(7,.row 0)] ⟨rfl,trivial⟩ Tryz.func607 (by kernel_rfl) λTc1=>?_
   |refine fI (Y:=Yf [607,611,612,610]) [] trivial Tryz.func611 (by kernel_rfl) λTc2=>?_
   |refine fI (Y:=Yf [607,611,612,610]) [] trivial Tryz.func612 (by kernel_rfl) λTc3=>?_
   |refine fI (Y:=Yf [607,611,612,610]) [(12,.sc (.slice none 0 0))] ⟨rfl,trivial⟩ Tryz.func610 (by kernel_rfl) λTc4=>?_
   |refine V0 True [(0,.row 0),(1,sI 0),(2,sI (o.length:Int)),(3,sI z225),(4,.fnp 608 [] [])] ⟨[(0,.row (o.map S472.c) 3 false 0),(1,.frm [(7,.row 0)] Tc1),(2,.frm [] Tc2)],3⟩ 0 trivial (ft [(0,some 0),(1,some 1),(2,some 2)] rfl rfl rfl ⟨fR (f:=S472.c) rfl rfl λ_=>rfl,fM rfl rfl rfl rfl,fM rfl rfl rfl rfl,trivial⟩) λ_=>?_
   |refine V2 (λ(i:Int) (r:List S472)=>0<=i/\i<=13/\r.Perm o) (λi r=>[(0,.row 0),(1,sI 0),(2,sI (o.length:Int)),(3,.fnp 608 [] []),(8,sI i)]) (λi r=>⟨[(0,.row (r.map S472.c) 3 false 0),(1,.frm [(7,.row 0)] Tc1),(2,.frm [] Tc2),(3,.frm [] Tc3)],4⟩) (λi r=>(13-i).toNat) (1:Int) o ?_ (ft [(0,some 0),(1,some 1),(2,some 2),(3,some 3)] rfl rfl rfl ⟨fR (f:=S472.c) rfl rfl λ_=>rfl,fM rfl rfl rfl rfl,fM rfl rfl rfl rfl,fM rfl rfl rfl rfl,trivial⟩) λi r ⟨j0,j1,j2⟩=>?_
   |refine V2 (λ(j:Int) (r:List S472)=>0<=j/\j<=i/\r.Perm o) (λj r=>[(0,.row 0),(1,sI 0),(2,sI (o.length:Int)),(3,.fnp 608 [] []),(8,sI i),(9,sI j)]) (λj r=>⟨[(0,.row (r.map S472.c) 3 false 0),(1,.frm [(7,.row 0)] Tc1),(2,.frm [] Tc2),(3,.frm [] Tc3)],4⟩) (λj r=>j.toNat) i r ?_ (ft [(0,some 0),(1,some 1),(2,some 2),(3,some 3)] rfl rfl rfl ⟨fR (f:=S472.c) rfl rfl λ_=>rfl,fM rfl rfl rfl rfl,fM rfl rfl rfl rfl,fM rfl rfl rfl rfl,trivial⟩) λj r ⟨k0,k1,k2⟩=>?_
   |refine ⟨_,(List.map_set (f:=S472.c) (a:=_)).symm,?_⟩
   |refine ⟨⟨IntKind.wrap .i64 (j-1),_⟩,?_,?_,(ft [(0,some 0),(1,some 1),(2,some 2),(3,some 3)] rfl rfl rfl ⟨fR (f:=S472.c) rfl rfl λ_=>rfl,fM rfl rfl rfl rfl,fM rfl rfl rfl rfl,fM rfl rfl rfl rfl,trivial⟩)⟩
   |refine ⟨⟨nx _,_⟩,?_,?_,(ft [(0,some 0),(1,some 1),(2,some 2),(3,some 3)] rfl rfl rfl ⟨fR (f:=S472.c) rfl rfl λ_=>rfl,fM rfl rfl rfl rfl,fM rfl rfl rfl rfl,fM rfl rfl rfl rfl,trivial⟩)⟩
   |refine V1 (λ(k:Int)=>1<=k/\k<=(r.length:Int)) (λk=>[(0,.row 0),(3,sI k)]) (λk=>⟨[(0,.row (r.map S472.c) 3 false 0),(4,.frm [(12,.sc (.slice none 0 0))] Tc4)],5⟩) (λk=>((r.length:Int)-k).toNat) (1:Int) ?_ (ft [(0,some 0),(4,some 4)] rfl rfl rfl ⟨fR (f:=S472.c) rfl rfl λ_=>rfl,fM rfl rfl rfl rfl,trivial⟩) λk ⟨l0,l1⟩=>?_
   |refine ⟨nx _,?_,?_,(ft [(0,some 0),(4,some 4)] rfl rfl rfl ⟨fR (f:=S472.c) rfl rfl λ_=>rfl,fM rfl rfl rfl rfl,trivial⟩)⟩
   |refine V2 (λ(q:Int) (u:List Int)=>0<=q/\q<=(r.length:Int)/\(u.length:Int)<=q) (λq u=>[(12,.row 1),(43,.row 0),(44,sI (r.length:Int)),(45,sI q)]) (λq u=>⟨[(0,.row (r.map S472.c) 3 false 0),(1,.row (u.map c_i64) 1 false 1)],2⟩) (λq u=>((r.length:Int)-q).toNat) (0:Int) [] ?_ (ft [(0,some 0),(1,none)] rfl rfl rfl ⟨fR (f:=S472.c) rfl rfl λ_=>rfl,f0 rfl rfl,trivial⟩) λq u ⟨m0,m1,m2⟩=>?_
   |refine ⟨⟨nx _,_⟩,?_,?_,(ft [(0,some 0),(1,some 4)] rfl rfl rfl ⟨fR (f:=S472.c) rfl rfl λ_=>rfl,fR (f:=c_i64) rfl rfl λ_=>rfl,trivial⟩)⟩
   |refine wA (f:=c_i64) (m:=[_]) rfl (λ_=>⟨rfl,rfl⟩) ?_ ?_ ?_
   |refine ⟨_,_,deep0 (leafs_map (f:=c_i64) (λ_=>rfl) _),?_⟩
   |refine λ(_:Bool) he=>?_
   |refine wR ?_ ?_ ?_
   |refine wL (l:=r) (i:=k) ?_ ?_ λy4 hy4=>?_
   |refine wL (l:=r) (i:=IntKind.wrap .i64 (k-1)) ?_ ?_ λy5 hy5=>?_
   |refine wL (l:=r) (i:=IntKind.wrap .i64 (j-1)) ?_ ?_ λy1 hy1=>?_
   |refine wL (l:=r) (i:=j) ?_ ?_ λy2 hy2=>?_
   |refine wL ?_ ?_ λy3 hy3=>?_
   |refine ⟨rfl,rfl,?_⟩
   |refine ⟨rfl,?_⟩
   |refine ⟨_,rfl,?_⟩
  |exact List.Perm.refl _
  |exact swap_perm k2 ‹_› ‹_›
  |(have:=k2.length_eq;have:=fr_lenM i2;first | omega | (simp (disch:=omega) only [ls,List.length_set];omega))
  |(have:=j2.length_eq;have:=fr_lenM i2;simp (disch:=omega) only [ls];omega)
  |exact fr0
  |exact fr_skip i0 (by omega) i2
  |exact fr_map rfl (fr_snoc g4 i0 (by omega) hx i2 ⟨_,h50.2.1 ‹_›⟩)
  |(have:=fr_lenM i2;omega)
  |(have:=fr_lenM i2;simp only [List.length_singleton];omega)
  |with_reducible exact u64_lo _
  |with_reducible exact u64_hi _
  |omega
  |dsimp only
  |with_reducible apply And.intro
  |(simp (disch:=omega) only [ls]<;>omega)
theorem w150 (a0:S65) (g0:EB a0):WQv 36 [aE a0] sI (λr=>True):=by
 refine gO Tryz.func36 ?_
 repeat' first
  |with_reducible assumption
  |(conv=>whnf);first
   |refine wC (w109 _ ?_) λz109 hz=>?_
   |refine wC (w207 ⟨(0:Int),_,_,_,_,_,_,_,_,_,_,_,ze63⟩ ?_ ?_) λz207 hz=>?_
   |refine wC (w205 _ ?_) λz205 hz=>?_
   |refine ⟨_,rfl,?_⟩
  |omega
  |exact (Nat.zero_le _:(0:Nat)<=900000)
  |grind
theorem w208 (a0:S65) (g0:EB a0):WQv 33 [aE a0] sB (λr=>True):=by
 refine gO Tryz.func33 ?_
 repeat' first
  |with_reducible assumption
  |(conv=>whnf);first
   |refine wC (w149 _ ?_) λz149 hz=>?_
   |refine ⟨by kernel_rfl,?_⟩
   |refine ⟨_,rfl,?_⟩
theorem w151 (a0:ByteArray) (a1:ByteArray) (g0:(a0.size:Int)<=1000000000) (g1:(a1.size:Int)<=1000000000):WQv 227 [sS a0,sS a1] sI (λr=>True):=by
 refine gO Tryz.func227 ?_
 repeat' first
  |with_reducible assumption
  |(conv=>whnf);first
   |apply bN<;>intro h
   |refine wC (w184 _ _ ?_ ?_) λz184 hz=>?_
   |refine ⟨(3:Int),rfl,?_⟩
   |refine ⟨(0:Int),rfl,?_⟩
  |dsimp only
theorem w317 (a0:List S65) (a1:Int) (a2:Int) (g0:a0.length<=1000000) (g1:∀e∈a0,EB e):WQv 286 [lE a0,sI a1,sI a2] sB (λr=>True):=by
 refine gO Tryz.func286 ?_
 repeat' first
  |with_reducible assumption
  |(conv=>whnf);first
   |apply bJ<;>intro h
   |refine ⟨_,_,deep0 (leafs_lit rfl),?_⟩
   |refine wC (w413 _ [_] ?_ ?_ ?_) λz413 hz=>?_
   |refine wC (w412 _ _ ?_) λz412 hz=>?_
   |refine ⟨false,rfl,?_⟩
   |refine ⟨_,rfl,?_⟩
  |omega
  |dsimp only
  |(simp (disch:=omega) only [ls]<;>omega)
theorem o507 (a0:List S65) (a1:List (List S71)) (g0:a0.length<=100000) (g1:∀e∈a0,EB e) (g2:a1.length<=100) (g3:∀s∈a1,s.length<=110000):WSQ 440 [lE a0,.lst (a1.map cL26)] 1 c_i64 (λr=>r.length<=100000000):=own507 (w507x a0 a1 g0 g1 g2 g3)
theorem w292 (a0:S65) (a1:List S65) (g0:a1.length<=1000000) (g1:∀e∈a1,EB e) (g2:EB a0):WQP 214 [.ipt [lE a1],.ipt (S65.c a0)] (λ_:Unit=>.tup []) (λ_=>False) PV:=by
 refine goP Tryz.func214 (by kernel_rfl) ?_
 repeat' first
  |with_reducible assumption
  |(conv=>whnf);first
   |apply bD<;>intro h
   |apply bN<;>intro h
   |refine wC (w293 a1 ?_) λz293 hz=>?_
   |refine wC (w123 _ ?_) λz123 hz=>?_
   |refine wP (w294 _ _) (λz hz=>?_) λv hv=>?_
   |refine wP (w295 _) (λz hz=>hz.elim) λv hv=>?_
   |refine wC (w296 _ _ ?_ ?_ ?_) λz296 hz=>?_
   |refine wC (w297 _ _ ?_) λz297 hz=>?_
   |refine wC (w298 _ _ ?_ ?_ ?_) λz298 hz=>?_
   |refine ⟨by kernel_rfl,?_⟩
   |exact pan_ok ‹_›
  |omega
  |grind
theorem w505 (a0:List S65) (a1:S65) (g0:a0.length<=1000000) (g1:∀e∈a0,EB e) (g2:EB a1):WQv 374 [lE a0,aE a1] lE (λr=>r.length<=100/\∀x∈r,x∈a0):=by
 refine gO Tryz.func374 ?_
 repeat' first
  |with_reducible assumption
  |(conv=>whnf);first
   |apply bD<;>intro h
   |apply br<;>intro h
   |refine wC (w493 a1) λz493 h493=>?_
   |refine lM ?_
   |refine wG (l:=z493) ?_ ?_ (λ_=>rfl) λx hx hm=>?_
   |refine wG (l:=a1.f9) ?_ ?_ (λ_=>rfl) λy hy hmy=>?_
   |refine wC (w50 a0 _ ?_) λz50 h50=>?_
   |refine wC (w517 _ _) λz517 h517=>?_
   |refine V2 (λ(p:Int) (o:List S65)=>0<=p/\p<=(z493.length:Int)/\(o.length:Int)<=p/\∀x∈o,x∈a0) (λp o=>[(0,lE a0),(3,.box 0 0),(5,.fnp 434 [] []),(6,.row 1),(14,.lst (z493.map S422.c)),(15,sI (z493.length:Int)),(16,sI p)]) (λp o=>⟨[(0,.box (S65.c a1) false),(1,.row (o.map S65.c) 29 false 1)],2⟩) (λp o=>((z493.length:Int)-p).toNat) (0:Int) [] ?_ (ft [(0,some 0),(1,none)] rfl rfl rfl ⟨fB rfl rfl rfl,f0 rfl rfl,trivial⟩) λp o ⟨i0,i1,i2,i3⟩=>?_
   |refine V1 (λ(q:Int)=>0<=q/\q<=(a1.f9.length:Int)) (λq=>[(0,lE a0),(3,.box 0 0),(5,.fnp 434 [] []),(6,.row 1),(14,.lst (z493.map S422.c)),(15,sI (z493.length:Int)),(16,sI p),(8,.box 2 0),(21,lI a1.f9),(22,sI (a1.f9.length:Int)),(23,sI q)]) (λq=>⟨[(0,.box (S65.c a1) false),(1,.row (o.map S65.c) 29 false 1),(2,.box (S422.c x) false)],3⟩) (λq=>((a1.f9.length:Int)-q).toNat) (0:Int) ?_ (ft [(0,some 0),(1,some 1),(2,some 2)] rfl rfl rfl ⟨fB rfl rfl rfl,fR (f:=S65.c) rfl rfl λ_=>rfl,fB rfl rfl rfl,trivial⟩) λq ⟨j0,j1⟩=>?_
   |refine ⟨nx _,?_,?_,(ft [(0,some 0),(1,some 1),(2,some 2)] rfl rfl rfl ⟨fB rfl rfl rfl,fR (f:=S65.c) rfl rfl λ_=>rfl,fB rfl rfl rfl,trivial⟩)⟩
   |refine ⟨⟨nx _,o⟩,?_,?_,(ft [(0,some 0),(1,some 1)] rfl rfl rfl ⟨fB rfl rfl rfl,fR (f:=S65.c) rfl rfl λ_=>rfl,trivial⟩)⟩
   |refine ⟨⟨nx _,_⟩,?_,?_,(ft [(0,some 0),(1,some 5)] rfl rfl rfl ⟨fB rfl rfl rfl,fR (f:=S65.c) rfl rfl λ_=>rfl,trivial⟩)⟩
   |refine wA (f:=S65.c) (m:=[_]) rfl (λ_=>⟨rfl,rfl⟩) ?_ ?_ ?_
   |refine ⟨_,_,deep0 (leafs_map (f:=S65.c) (λ_=>rfl) _),?_⟩
   |refine ⟨_,rfl,?_⟩
  |exact snoc_all i3 (h50.1 ‹_›).1
  |(unfold EB at g2;(simp (disch:=omega) only [ls];omega))
  |(unfold EB at g2;omega)
  |dsimp only
  |with_reducible apply And.intro
  |contradiction
  |intro hr
theorem w563 (a0:List S65) (a1:List Int) (a2:List Int) (g0:a0.length<=12) (g1:∀e∈a0,EB e) (g2:a1.length<=1000000) (g3:a2.length<=1000000000) (g4:a2.Nodup):WQv 604 [.agg [lI a1],lE a0,lI a2] lI (λr=>r.length<=a0.length):=by
 refine gO Tryz.func604 ?_
 repeat' first
  |with_reducible assumption
  |(conv=>whnf);first
   |refine wC (w564 a0 a1 a2 ?_ ?_ ?_ ?_ ?_) λz564 h564=>?_
   |refine ⟨_,rfl,?_⟩
theorem w447 (a0:ByteArray) (g0:(a0.size:Int)<=1000000000):WQv 160 [sS a0] sI (λr=>True):=by
 refine gO Tryz.func160 ?_
 repeat' first
  |with_reducible assumption
  |(conv=>whnf);first
   |refine wC (w151 _ _ ?_ ?_) λz151 hz=>?_
   |refine ⟨_,rfl,?_⟩
  |decide
theorem w92 (a0:ByteArray) (g0:(a0.size:Int)<=1000000000):WQv 123 [sS a0] sI (λr=>True):=by
 refine gO Tryz.func123 ?_
 repeat' first
  |with_reducible assumption
  |(conv=>whnf);first
   |refine wC (w151 _ _ ?_ ?_) λz151 hz=>?_
   |refine ⟨_,rfl,?_⟩
  |decide
theorem w504 (a0:List S65) (a1:S65) (g0:a0.length<=1000000) (g1:∀e∈a0,EB e) (g2:EB a1):WQv 373 [lE a0,aE a1] sI (λ_=>True):=by
 refine gO Tryz.func373 ?_
 repeat' first
  |with_reducible assumption
  |(conv=>whnf);first
   |refine wLE ‹_› ?_
   |apply bD<;>intro h
   |apply bT'<;>intro h
   |apply bN<;>intro h
   |apply br<;>intro h
   |refine ⟨(by kernel_rfl:drawW _ _ _=true),?_⟩
   |refine wC (w493 a1) λz493 h493=>?_
   |refine lM ?_
   |refine wG (l:=a1.f9) ?_ ?_ (λ_=>rfl) λy hy hmy=>?_
   |refine wC (w50 a0 _ ?_) λz50 h50=>?_
   |refine wC (w516 ks _ ?_) λz516 h516=>?_
   |refine V2 (λ(p:Int) (o:List S65)=>0<=p/\p<=(a1.f9.length:Int)/\(o.length:Int)<=p) (λp o=>[(0,lE a0),(3,.box 0 0),(5,.row 1),(16,lI a1.f9),(17,sI (a1.f9.length:Int)),(18,sI p)]) (λp o=>⟨[(0,.box (S65.c a1) false),(1,.row (o.map S65.c) 29 false 1)],2⟩) (λp o=>((a1.f9.length:Int)-p).toNat) (0:Int) [] ?_ (ft [(0,some 0),(1,none)] rfl rfl rfl ⟨fB rfl rfl rfl,f0 rfl rfl,trivial⟩) λp o ⟨i0,i1,i2⟩=>?_
   |refine ⟨⟨nx _,_⟩,?_,?_,(ft [(0,some 0),(1,some 4)] rfl rfl rfl ⟨fB rfl rfl rfl,fR (f:=S65.c) rfl rfl λ_=>rfl,trivial⟩)⟩
   |refine wA (f:=S65.c) (m:=[_]) rfl (λ_=>⟨rfl,rfl⟩) ?_ ?_ ?_
   |refine V1 (λ(q:Int)=>0<=q/\q<=(o.length:Int)) (λq=>[(3,.box 0 0),(5,.row 1),(36,sI (o.length:Int)),(37,sI q)]) (λq=>⟨[(0,.box (S65.c a1) false),(1,.row (o.map S65.c) 29 false 1)],2⟩) (λq=>((o.length:Int)-q).toNat) (0:Int) ?_ (ft [(0,some 0),(1,some 1)] rfl rfl rfl ⟨fB rfl rfl rfl,fR (f:=S65.c) rfl rfl λ_=>rfl,trivial⟩) λq ⟨j0,j1⟩=>?_
   |refine ⟨nx _,?_,?_,(ft [(0,some 0),(1,some 1)] rfl rfl rfl ⟨fB rfl rfl rfl,fR (f:=S65.c) rfl rfl λ_=>rfl,trivial⟩)⟩
   |refine V3 (λ(q:Int) (b:Bool) (ks:List S422)=>0<=q/\q<=(o.length:Int)/\ks.length<=10) (λq b ks=>[(5,.row 1),(11,sB b),(12,.lst (ks.map S422.c)),(55,sI (o.length:Int)),(56,sI q)]) (λq b ks=>⟨[(0,.box (S65.c a1) false),(1,.row (o.map S65.c) 29 false 1)],2⟩) (λq b ks=>((o.length:Int)-q).toNat) (0:Int) _ z493 ?_ (ft [(0,some 0),(1,some 1)] rfl rfl rfl ⟨fB rfl rfl rfl,fR (f:=S65.c) rfl rfl λ_=>rfl,trivial⟩) λq b ks ⟨j0,j1,j2⟩=>?_
   |refine ⟨⟨nx _,_,_⟩,?_,?_,(ft [(0,some 0),(1,some 1)] rfl rfl rfl ⟨fB rfl rfl rfl,fR (f:=S65.c) rfl rfl λ_=>rfl,trivial⟩)⟩
   |refine ⟨⟨nx _,_,_⟩,?_,?_,suits_trans (lend_suits 12 rfl rfl (leafs_map (f:=S422.c) (λ_=>rfl) _)) (ft [(0,some 0),(1,some 1)] rfl rfl rfl ⟨fB rfl rfl rfl,fR (f:=S65.c) rfl rfl λ_=>rfl,trivial⟩)⟩
   |refine wR ?_ ?_ ?_
   |refine wL ?_ ?_ λx hx=>?_
   |refine slT (f:=S422.c) (λ_=>rfl) ?_ ?_ rfl ?_
   |refine slD (f:=S422.c) (λ_=>rfl) ?_ ?_ ?_
   |refine wY (f:=S422.c) (m:=ks.drop _) rfl (λ_=>⟨rfl,rfl⟩) ?_ ?_ ?_ λhz0=>?_
   |refine ⟨_,rfl,?_⟩
  |(unfold EB at g2;(simp (disch:=omega) only [ls];omega))
  |(unfold EB at g2;omega)
  |dsimp only
theorem o468 (a0:List S65) (a1:List (List S71)) (g0:a0.length<=100000) (g1:∀e∈a0,EB e) (g2:a1.length<=100) (g3:∀s∈a1,s.length<=110000):WSQ 387 [lE a0,.lst (a1.map cL26)] 1 c_i64 (λr=>r.length<=200000000/\r.Nodup):=by
 refine goS [386] Tryz.func387 (by kernel_rfl) ?_
 repeat' first
  |with_reducible assumption
  |(conv=>whnf);first
   |apply bD<;>intro h
   |apply bN<;>intro h
   |refine ⟨by kernel_rfl,?_⟩
   |refine fI (Y:=Yf []) [(0,lE a0),(1,.lst (a1.map cL26))] ⟨rfl,rfl,trivial⟩ Tryz.func386 (by kernel_rfl) λTc=>?_
   |refine ⟨0,rfl,?_⟩
   |refine lM ?_
   |refine wG (l:=x) ?_ ?_ (λ_=>rfl) λe he hme=>?_
   |refine wG (l:=a1) ?_ ?_ (λ_=>rfl) λx hx hm=>?_
   |refine V3 (λ(p:Int) (r:List S71) (s:List Int)=>0<=p/\p<=(a1.length:Int)/\(r.length:Int)<=110000*p/\(s.length:Int)<=110000*p) (λp r s=>[(1,.box 1 0),(4,.box 2 0),(5,.box 3 0),(9,.lst (a1.map cL26)),(10,sI (a1.length:Int)),(11,sI p)]) (λp r s=>⟨[(0,.frm [(0,lE a0),(1,.lst (a1.map cL26))] Tc),(1,.box [.lst (a1.map cL26)] false),(2,.box [.row 4] false),(3,.box [.row 5] false),(4,.row (r.map S71.c) 3 false 4),(5,.row (s.map c_i64) 1 false 5)],6⟩) (λp r s=>((a1.length:Int)-p).toNat) (0:Int) [] [] ?_ (ft [(0,some 0),(1,some 1),(2,some 2),(3,some 3),(4,none),(5,none)] rfl rfl rfl ⟨fM rfl rfl rfl rfl,fB rfl rfl rfl,fX rfl rfl rfl (λ_=>rfl),fX rfl rfl rfl (λ_=>rfl),f0 rfl rfl,f0 rfl rfl,trivial⟩) λp r s ⟨i0,i1,i2,i3⟩=>?_
   |refine wC (w196 x) λz196 hz=>?_
   |refine rgF [] [(1,.box 1 0),(4,.box 2 0),(5,.box 3 0),(6,.box 6 0),(9,.lst (a1.map cL26)),(10,sI (a1.length:Int)),(11,sI p),(17,.fnp 189 [] [.ipt [.lst (x.map S71.c)]])] rfl ⟨rfl,rfl,rfl,rfl,rfl,rfl,rfl,rfl,trivial⟩ rfl Tryz.func189 (by kernel_rfl) rfl λD d1 d2 d3 dk=>?_
   |refine V3 (λ(q:Int) (r2:List S71) (s2:List Int)=>0<=q/\q<=(x.length:Int)/\(r2.length:Int)<=110000*p+q/\(s2.length:Int)<=110000*p+q) (λq r2 s2=>[(0,.yld 7),(5,.lst (x.map S71.c)),(6,sI (x.length:Int)),(7,sI q)]) (λq r2 s2=>⟨[(0,.frm [(0,lE a0),(1,.lst (a1.map cL26))] Tc),(1,.box [.lst (a1.map cL26)] false),(2,.box [.row 4] false),(3,.box [.row 5] false),(4,.row (r2.map S71.c) 3 false 4),(5,.row (s2.map c_i64) 1 false 5),(6,.box [sI p] false),(7,.loop D [(1,.box 1 0),(4,.box 2 0),(5,.box 3 0),(6,.box 6 0),(9,.lst (a1.map cL26)),(10,sI (a1.length:Int)),(11,sI p),(17,.fnp 189 [] [.ipt [.lst (x.map S71.c)]])] .ready none)],8⟩) (λq r2 s2=>((x.length:Int)-q).toNat) (0:Int) r s ?_ (ft [(0,some 0),(1,some 1),(2,some 2),(3,some 3),(4,some 4),(5,some 5),(6,some 6),(7,some 7)] rfl rfl rfl ⟨fM rfl rfl rfl rfl,fB rfl rfl rfl,fX rfl rfl rfl (λ_=>rfl),fX rfl rfl rfl (λ_=>rfl),fR (f:=S71.c) rfl rfl λ_=>rfl,fR (f:=c_i64) rfl rfl λ_=>rfl,fB rfl rfl rfl,fL rfl rfl rfl rfl,trivial⟩) λq r2 s2 ⟨j0,j1,j2,j3⟩=>?_
   |refine yL [] [(0,.yld 7),(5,.lst (x.map S71.c)),(6,sI (x.length:Int)),(7,sI q)] d1 d2 d3 dk ⟨rfl,rfl,rfl,rfl,trivial⟩ rfl rfl λTc2=>?_
   |refine wC (w506 a1 _ ?_ ?_) λz506 hz=>?_
   |refine wA (f:=S71.c) (m:=[_]) rfl (λ_=>⟨rfl,rfl⟩) ?_ ?_ ?_
   |refine wA (f:=c_i64) (m:=[_]) rfl (λ_=>⟨rfl,rfl⟩) ?_ ?_ ?_
   |refine ⟨⟨nx _,r2,s2⟩,?_,?_,(ft [(0,some 0),(1,some 1),(2,some 2),(3,some 3),(4,some 4),(5,some 5),(6,some 6),(7,some 7)] rfl rfl rfl ⟨fM rfl rfl rfl rfl,fB rfl rfl rfl,fX rfl rfl rfl (λ_=>rfl),fX rfl rfl rfl (λ_=>rfl),fR (f:=S71.c) rfl rfl λ_=>rfl,fR (f:=c_i64) rfl rfl λ_=>rfl,fB rfl rfl rfl,fL rfl rfl rfl rfl,trivial⟩)⟩
   |refine ⟨⟨nx _,r2,_⟩,?_,?_,(ft [(0,some 0),(1,some 1),(2,some 2),(3,some 3),(4,some 4),(5,some 12),(6,some 6),(7,some 7)] rfl rfl rfl ⟨fM rfl rfl rfl rfl,fB rfl rfl rfl,fX rfl rfl rfl (λ_=>rfl),fX rfl rfl rfl (λ_=>rfl),fR (f:=S71.c) rfl rfl λ_=>rfl,fR (f:=c_i64) rfl rfl λ_=>rfl,fB rfl rfl rfl,fL rfl rfl rfl rfl,trivial⟩)⟩
   |refine ⟨⟨nx _,_,s2⟩,?_,?_,(ft [(0,some 0),(1,some 1),(2,some 2),(3,some 3),(4,some 12),(5,some 5),(6,some 6),(7,some 7)] rfl rfl rfl ⟨fM rfl rfl rfl rfl,fB rfl rfl rfl,fX rfl rfl rfl (λ_=>rfl),fX rfl rfl rfl (λ_=>rfl),fR (f:=S71.c) rfl rfl λ_=>rfl,fR (f:=c_i64) rfl rfl λ_=>rfl,fB rfl rfl rfl,fL rfl rfl rfl rfl,trivial⟩)⟩
   |refine ⟨⟨nx _,_,_⟩,?_,?_,(ft [(0,some 0),(1,some 1),(2,some 2),(3,some 3),(4,some 4),(5,some 5)] rfl rfl rfl ⟨fM rfl rfl rfl rfl,fB rfl rfl rfl,fX rfl rfl rfl (λ_=>rfl),fX rfl rfl rfl (λ_=>rfl),fR (f:=S71.c) rfl rfl λ_=>rfl,fR (f:=c_i64) rfl rfl λ_=>rfl,trivial⟩)⟩
   |refine wSn (o163 _ ?_) (λ_=>rfl) (λz163 hz=>?_) λhz=>?_
   |refine slM (l:=z163) (f:=c_i64) ?_ ?_ rfl ?_
   |refine wSn (o507 a0 a1 ?_ ?_ ?_ ?_) (λ_=>rfl) (λz507 hz=>?_) λhz=>?_
   |refine wX0 (m:=z507) (Int.toNat_natCast _) rfl (λ_=>⟨rfl,rfl⟩) ?_ ?_ ?_ λhz0=>?_
   |refine wX0 (m:=([]:List Int)) (Int.toNat_natCast _) rfl (λ_=>⟨rfl,rfl⟩) ?_ ?_ ?_ λhz0=>?_
   |refine wT (leafs_map (f:=c_i64) (λ_=>rfl) _) (w169 _ ?_) (λzs hzs=>?_) rfl rfl rfl
   |refine wCp rfl ?_ λzc dc hc1 hc2 hc3=>?_
   |refine wSw0 rfl ?_ ?_ ?_
   |refine wCw0 rfl ?_ ?_ λzc dc hc1 hc2 hc3=>?_
   |refine tk0 ?_
   |refine wY0 (m:=z507) rfl (λ_=>⟨rfl,rfl⟩) ?_ ?_ ?_ λhz0=>?_
   |refine wY0 (m:=([]:List Int)) (f:=c_i64) rfl (λ_=>⟨rfl,rfl⟩) ?_ ?_ ?_ λhz0=>?_
   |refine wC w169e λze hze=>?_
   |refine wC w170e λze hze=>?_
   |refine wnS (f:=c_i64) (λ_=>rfl) ?_
   |refine ⟨leafs_map (f:=c_i64) (λ_=>rfl) _,_,rfl,?_⟩
   |refine ⟨_,_,deep0 (leafs_map (f:=c_i64) (λ_=>rfl) _),?_⟩
  |exact λs hs=>Nat.le_trans (g3 s hs) (by omega)
  |(have:=g3 x hm;simp (disch:=omega) only [ls];omega)
  |(have:=g3 x hm;omega)
  |exact ⟨[],rfl,Nat.zero_le _,List.nodup_nil⟩
  |(subst hzs;exact hc3 (sortI_ord _))
  |exact hc3 (sortI_ord _)
  |(subst hzs;rw [sortI_length];simp only [List.length_append];omega)
  |(subst hzs;rw [sortI_length];omega)
  |(subst hzs;rw [sortI_length] at hc1;simp only [List.length_append] at hc1;omega)
  |(subst hzs;rw [sortI_length] at hc1;omega)
  |(rw [sortI_length] at hc1;omega)
  |exact (Int.toNat_natCast _).symm
  |(rw [sortI_length];exact (Int.toNat_natCast _).symm)
  |(rw [sortI_length];omega)
  |omega
  |dsimp only
  |with_reducible apply And.intro
  |(simp (disch:=omega) only [ls]<;>omega)
end Go.Abs.RM
