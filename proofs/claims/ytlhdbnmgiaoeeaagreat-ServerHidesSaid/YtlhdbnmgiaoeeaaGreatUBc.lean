/- Of ServerHides: walks. -/
import Derived.Test.YtlhdbnmgiaoeeaaGreatUBb
set_option linter.all false
namespace Go.Abs.RM
open Go.Proofs Go.Proofs.RMH
set_option maxRecDepth 100000
set_option maxHeartbeats 40000000
theorem w288 (a0:List S65) (g0:a0.length<=12) (g1:∀e∈a0,EB e):WQv 129 [lE a0] (tabE) (λr=>∀b,r=some b->b<=110000):=by
 refine goF [235] Tryz.func129 (by kernel_rfl) ?_
 repeat' first
  |with_reducible assumption
  |(conv=>whnf);first
   |apply bD<;>intro h
   |apply bJ<;>intro h
   |refine wC (w392 a0 ?_ ?_) λz392 h392=>?_
   |refine wC (w212 a0 ?_ ?_) λz212 h212=>?_
   |refine wC (w393 a0 ?_ ?_) λz393 h393=>?_
   |(refine .inl ⟨GS (sb 0),?_⟩;(conv=>whnf);refine .inl ⟨GS (sb 0),?_⟩;(conv=>whnf);refine .inl ⟨GE,?_⟩)
   |refine ⟨(by kernel_rfl:drawW _ _ _=true),?_⟩
   |refine lM ?_
   |refine wG ?_ ?_ (λ_=>rfl) λx hx hm=>?_
   |refine V1 (λ(p:Int)=>0<=p/\p<=(z393.length:Int)) (λp=>[(0,lE a0),(3,.box 3 0),(22,lI z393),(23,sI (z393.length:Int)),(24,sI p)]) (λp=>⟨[(0,.bag (GS (sb p.toNat)) false []),(1,.bag (GS (sb p.toNat)) false []),(2,.bag GE false []),(3,.box [.mp 0,.mp 1,.mp 2] false)],4⟩) (λp=>((z393.length:Int)-p).toNat) (0:Int) ?_ (ft [(0,some 0),(1,some 1),(2,some 2),(3,some 3)] rfl rfl rfl ⟨fGm rfl rfl (gs_mono (Nat.le_refl _)) (λ_=>rfl),fGm rfl rfl (gs_mono (Nat.le_refl _)) (λ_=>rfl),fGm rfl rfl (λ_ _ h=>h) (λ_=>rfl),fX rfl rfl rfl (λ_=>rfl),trivial⟩) λp ⟨i0,i1⟩=>?_
   |refine ⟨nx _,?_,?_,(ft [(0,some 0),(1,some 1),(2,some 2),(3,some 3)] rfl rfl rfl ⟨fGm rfl rfl (gs_mono (sb_nx_le i0 (by omega))) (λ_=>rfl),fGm rfl rfl (gs_mono (sb_nx_le i0 (by omega))) (λ_=>rfl),fGm rfl rfl (λ_ _ h=>h) (λ_=>rfl),fX rfl rfl rfl (λ_=>rfl),trivial⟩)⟩
   |refine wC (w50z a0 _ ?_) λz50 h50=>?_
   |refine fI (Y:=Yf []) [(0,lE a0),(3,.box 3 0),(22,lI z393),(23,sI (z393.length:Int)),(24,sI p)] ⟨rfl,rfl,rfl,rfl,rfl,trivial⟩ Tryz.func235 (by kernel_rfl) λTc=>?_
   |refine V2 (λ(q:Int) (sts:List (List S71))=>0<=q/\q<=(z50.1.f8.length:Int)/\(sts.length:Int)<=q/\∀s∈sts,s.length<=sb p.toNat) (λq sts=>[(0,.box 3 0),(1,lE a0),(5,.box 6 0),(6,.row 7),(12,lI z50.1.f8),(13,sI (z50.1.f8.length:Int)),(14,sI q)]) (λq sts=>⟨[(0,.bag (GS (sb p.toNat)) false []),(1,.bag (GS (sb p.toNat)) false []),(2,.bag GE false []),(3,.box [.mp 0,.mp 1,.mp 2] false),(5,.frm [(0,lE a0),(3,.box 3 0),(22,lI z393),(23,sI (z393.length:Int)),(24,sI p)] Tc),(6,.box (S65.c z50.1) false),(7,.row (sts.map cL26) 1 false 7)],8⟩) (λq sts=>((z50.1.f8.length:Int)-q).toNat) (0:Int) [] ?_ (ft [(0,some 0),(1,some 1),(2,some 2),(3,some 3),(5,some 5),(6,some 6),(7,none)] rfl rfl rfl ⟨fGm rfl rfl (gs_mono (Nat.le_refl _)) (λ_=>rfl),fGm rfl rfl (gs_mono (Nat.le_refl _)) (λ_=>rfl),fGm rfl rfl (λ_ _ h=>h) (λ_=>rfl),fX rfl rfl rfl (λ_=>rfl),fM rfl rfl rfl rfl,fB rfl rfl rfl,f0 rfl rfl,trivial⟩) λq sts ⟨j0,j1,j2,j3⟩=>?_
   |refine lkF (λs hs=>?_) ?_
   |refine wA (f:=cL26) (m:=[s]) rfl (λ_=>⟨rfl,rfl⟩) ?_ ?_ ?_
   |refine wA (f:=cL26) (m:=[[]]) rfl (λ_=>⟨rfl,rfl⟩) ?_ ?_ ?_
   |refine ⟨⟨nx _,_⟩,?_,?_,(ft [(0,some 0),(1,some 1),(2,some 2),(3,some 3),(5,some 5),(6,some 6),(7,some 9)] rfl rfl rfl ⟨fGm rfl rfl (gs_mono (Nat.le_refl _)) (λ_=>rfl),fGm rfl rfl (gs_mono (Nat.le_refl _)) (λ_=>rfl),fGm rfl rfl (λ_ _ h=>h) (λ_=>rfl),fX rfl rfl rfl (λ_=>rfl),fM rfl rfl rfl rfl,fB rfl rfl rfl,fR (f:=cL26) rfl rfl λ_=>rfl,trivial⟩)⟩
   |refine ⟨_,_,deep0 (leafs_map (f:=cL26) (λ_=>rfl) _),?_⟩
   |refine wC (w301 (sb p.toNat) a0 sts ?_ ?_ ?_ ?_ ?_) λz301 h301=>?_
   |refine wC (w460 (sb p.toNat) a0 z50.1 z301 ?_ ?_ ?_ ?_) λz460 h460=>?_
   |refine enG [] (λ_ s=>s.length<=2*sb p.toNat+26) (λ_ _ h=>by omega) .emp rfl (Nat.zero_le _) λ_ _=>?_
   |refine enG (0:Int) (λ_ _=>True) (λ_ _ _=>trivial) .sc rfl trivial λ_ _=>?_
   |refine esG z301 rfl rfl ?_ ?_
   |refine esG z460 rfl rfl trivial ?_
   |refine wC (w461 z301 _ _ _ ?_) λz461 h461=>?_
   |refine upG z461 rfl rfl ?_ ?_
   |refine ⟨rfl,?_⟩
   |refine ⟨none,rfl,?_⟩
   |refine ⟨some _,rfl,?_⟩
  |exact λb hb=>by cases hb;exact sb_le (by omega)
  |exact λb hb=>by cases hb
  |exact snoc_all j3 hs
  |exact snoc_all j3 (Nat.zero_le _)
  |exact sb_le (by omega)
  |exact eb_or g1 h50
  |(have:=sb_le (n:=p.toNat) (by omega);omega)
  |(have q:=eb_or g1 h50;unfold EB at q;(simp (disch:=omega) only [ls];omega))
  |(have q:=eb_or g1 h50;unfold EB at q;omega)
  |omega
  |dsimp only
  |with_reducible apply And.intro
theorem w222 (a0:List S65) (g0:a0.length<=12) (g1:∀e∈a0,EB e):WQv 194 [lE a0] lI (λr=>r.length<=12):=by
 refine gO Tryz.func194 ?_
 repeat' first
  |with_reducible assumption
  |(conv=>whnf);first
   |refine wTo (w288 a0 ?_ ?_) (λhz=>?_) λb hz=>?_
   |refine wC (w300 b a0 ?_ ?_) λz300 h300=>?_
   |refine ⟨[],rfl,?_⟩
   |refine ⟨_,rfl,?_⟩
  |exact Nat.zero_le _
  |exact Nat.le_trans h300 g0
  |omega
theorem w214 (a0:List S65) (a1:Int) (g0:a0.length<=12) (g1:∀e∈a0,EB e):WQv 230 [lE a0,sI a1] (λr:List S71×Int=>.tup [.lst (r.1.map S71.c),sI r.2]) (λr=>r.1.length<=110000):=by
 refine gO Tryz.func230 ?_
 repeat' first
  |with_reducible assumption
  |(conv=>whnf);first
   |apply bN<;>intro h
   |refine wTo (w288 a0 ?_ ?_) (λhz=>?_) λb hz=>?_
   |refine wC (w289n _) λz289 h289=>?_
   |refine wC (w289s b _) λz289 h289=>?_
   |refine wC (w290 b _) λz290 h290=>?_
   |refine ⟨(by kernel_rfl:drawW _ _ _=true),?_⟩
   |refine lkF (λs hs=>?_) ?_
   |refine ⟨([],_),rfl,?_⟩
   |refine ⟨(_,_),rfl,?_⟩
  |exact Nat.le_trans hs (hz _ rfl)
  |exact Nat.zero_le _
  |(simp_all;done)
theorem w318 (a0:List S65) (a1:Int) (g0:a0.length<=12) (g1:∀e∈a0,EB e):WQv 287 [lE a0,sI a1] (λr:List S71=>.lst (r.map S71.c)) (λr=>r.length<=110000):=by
 refine gO Tryz.func287 ?_
 repeat' first
  |with_reducible assumption
  |(conv=>whnf);first
   |apply bN<;>intro h
   |refine wTo (w288 a0 ?_ ?_) (λhz=>?_) λb hz=>?_
   |refine wC (w289n _) λz289 h289=>?_
   |refine wC (w289s b _) λz289 h289=>?_
   |refine lkF (λs hs=>?_) ?_
   |refine ⟨[],rfl,?_⟩
   |refine ⟨_,rfl,?_⟩
  |exact Nat.le_trans hs (hz _ rfl)
  |exact Nat.zero_le _
  |(simp_all;done)
theorem w223 (a0:List S65) (a1:S65) (g0:a0.length<=12) (g1:∀e∈a0,EB e) (g2:EB a1):WQv 195 [lE a0,aE a1] sI (λr=>True):=by
 refine gO Tryz.func195 ?_
 repeat' first
  |with_reducible assumption
  |(conv=>whnf);first
   |apply bJ<;>intro h
   |apply bN<;>intro h
   |apply bD<;>intro h
   |refine wC (w50 _ _ ?_) λz50 hz=>?_
   |refine wC (w214 _ _ ?_ ?_) λz214 hz=>?_
   |refine wC (w303 _ _ _ ?_ ?_) λz303 hz=>?_
   |refine wC (w138 _ _ ?_ ?_) λz138 hz=>?_
   |refine wC (w124 _ ?_ ?_) λz124 hz=>?_
   |refine wC (w125 _ _ ?_) λz125 hz=>?_
   |refine ⟨by kernel_rfl,?_⟩
   |refine ⟨(1:Int),rfl,?_⟩
   |refine ⟨(5:Int),rfl,?_⟩
   |refine ⟨(18:Int),rfl,?_⟩
   |refine ⟨(20:Int),rfl,?_⟩
   |refine ⟨(0:Int),rfl,?_⟩
  |omega
  |dsimp only
  |intro hr
  |grind
theorem w226 (a0:List S65) (a1:Int) (g0:a0.length<=12) (g1:∀e∈a0,EB e):WQv 198 [lE a0,sI a1] (λr:Int×Int=>.tup [sI r.1,sI r.2]) (λr=>True):=by
 refine gO Tryz.func198 ?_
 repeat' first
  |with_reducible assumption
  |(conv=>whnf);first
   |apply bI<;>intro h
   |apply br<;>intro h
   |refine wC (w214 _ _ ?_ ?_) λz214 hz=>?_
   |refine wC (w315 _ (5:Int) zS ?_) λz315 hz=>?_
   |refine wC (w50 _ _ ?_) λz50 hz=>?_
   |refine wC (w316 _ _) λz316 hz=>?_
   |refine ⟨((0:Int),(5:Int)),rfl,?_⟩
   |refine ⟨(_,(0:Int)),rfl,?_⟩
  |omega
  |dsimp only
theorem w227 (a0:List S65) (a1:Int) (a2:ByteArray) (g0:a0.length<=12) (g1:∀e∈a0,EB e):WQv 199 [lE a0,sI a1,sS a2] lI (λr=>r.length<=2):=by
 refine gO Tryz.func199 ?_
 repeat' first
  |with_reducible assumption
  |(conv=>whnf);first
   |apply bI<;>intro h
   |apply bS<;>intro h
   |refine wC (w214 _ _ ?_ ?_) λz214 hz=>?_
   |refine wC (w303 _ _ _ ?_ ?_) λz303 hz=>?_
   |refine wC (w50 _ _ ?_) λz50 hz=>?_
   |refine wA (l:=[_]) (f:=c_i64) (m:=[_]) rfl (λ_=>⟨rfl,rfl⟩) ?_ ?_ ?_
   |refine ⟨_,_,deep0 (leafs_map (f:=c_i64) (λ_=>rfl) _),?_⟩
   |refine ⟨_,_,deep0 (leafs_lit rfl),?_⟩
   |refine ⟨[_],rfl,?_⟩
   |refine ⟨[],rfl,?_⟩
   |refine ⟨_,rfl,?_⟩
  |omega
  |dsimp only
  |(simp (disch:=omega) only [ls]<;>omega)
theorem w228 (a0:S30) (a1:Int) (a2:ByteArray) (g0:a0.f1.length<=12) (g1:∀e∈a0.f1,EB e) (g2:a0.f2.length<=1000000) (g3:a0.f5.length<=1000000):WQv 200 [.agg (S30.c a0),sI a1,sS a2] sB (λr=>True):=by
 refine gO Tryz.func200 ?_
 repeat' first
  |with_reducible assumption
  |(conv=>whnf);first
   |apply bD<;>intro h
   |apply bJ<;>intro h
   |apply bN<;>intro h
   |apply br<;>intro h
   |refine wC (w303 a0.f1 a0.f5 a2 ?_ ?_) λz303 hz=>?_
   |refine lM ?_
   |refine V2 (λ(p0:Bool) (p1:Int)=>0<=p1/\p1<=(a0.f2.length:Int)) (λp0 p1=>[(1,sI a1),(2,sS a2),(3,.box 0 0),(7,sB p0),(18,.lst (a0.f2.map S135.c)),(19,sI (a0.f2.length:Int)),(20,sI p1)]) (λ_ _=>⟨[(0,.box (S30.c a0) false)],1⟩) (λ_ p1=>((a0.f2.length:Int)+1-p1).toNat) (z303==3) (0:Int) ?_ (fB1 rfl rfl rfl rfl) λp0 p1 ⟨i0,i1⟩=>?_
   |refine wG ?_ ?_ (λ_=>rfl) λx hx hm=>?_
   |refine ⟨⟨_,nx _⟩,?_,?_,(fB1 rfl rfl rfl rfl)⟩
   |refine wC (w317 _ _ _ ?_ ?_) λz317 hz=>?_
   |refine wC (w318 _ _ ?_ ?_) λz318 hz=>?_
   |refine wC (w303 a0.f1 z318 a2 ?_ ?_) λz303_1 hz=>?_
   |refine ⟨by kernel_rfl,?_⟩
   |refine ⟨_,rfl,?_⟩
  |omega
  |dsimp only
  |with_reducible apply And.intro
  |(simp (disch:=omega) only [ls]<;>omega)
theorem w168 (a0:List S65) (g0:a0.length<=12) (g1:∀e∈a0,EB e):WQv 104 [lE a0] (λr:List S197=>.lst (r.map S197.c)) (λr=>r.length<=12):=by
 refine gO Tryz.func104 ?_
 repeat' first
  |with_reducible assumption
  |(conv=>whnf);first
   |apply bD<;>intro h
   |apply br<;>intro h
   |refine wC (w222 _ ?_ ?_) λz222 hz=>?_
   |refine lM ?_
   |refine V2 (λ(p0:List S197) (p1:Int)=>0<=p1/\p1<=(z222.length:Int)/\(p0.length:Int)<=p1) (λ_ p1=>[(0,lE a0),(3,.row 0),(9,lI z222),(10,sI (z222.length:Int)),(11,sI p1)]) (λp0 _=>⟨[(0,.row (p0.map S197.c) 3 false 0)],1⟩) (λ_ p1=>((z222.length:Int)+1-p1).toNat) [] (0:Int) ?_ (ft [(0,none)] rfl rfl rfl ⟨fitO_nil rfl rfl,trivial⟩) λp0 p1 ⟨i0,i1,i2⟩=>?_
   |refine wG ?_ ?_ (λ_=>rfl) λx hx hm=>?_
   |refine wC (w50 _ _ ?_) λz50 hz=>?_
   |refine wC (w223 _ _ ?_ ?_ ?_) λz223 hz=>?_
   |refine wA (f:=S197.c) (m:=[⟨_,_,_⟩]) rfl (λ_=>⟨rfl,rfl⟩) ?_ ?_ ?_
   |refine ⟨⟨_,nx _⟩,?_,?_,(fR1 3 rfl rfl rfl λ_=>rfl)⟩
   |refine ⟨⟨_,nx _⟩,?_,?_,(fR1 0 rfl rfl rfl λ_=>rfl)⟩
   |refine ⟨_,_,deep0 (leafs_map (f:=S197.c) (λ_=>rfl) _),?_⟩
   |refine ⟨_,rfl,?_⟩
  |omega
  |dsimp only
  |with_reducible apply And.intro
  |(simp (disch:=omega) only [ls]<;>omega)
  |grind
theorem w171 (a0:S30) (a1:Int) (a2:ByteArray) (g0:a0.f1.length<=12) (g1:∀e∈a0.f1,EB e) (g2:a0.f2.length<=1000000) (g3:a0.f5.length<=1000000):WQv 107 [.agg (S30.c a0),sI a1,sS a2] sI (λr=>True):=by
 refine gO Tryz.func107 ?_
 repeat' first
  |with_reducible assumption
  |(conv=>whnf);first
   |apply bN<;>intro h
   |apply bI<;>intro h
   |apply br<;>intro h
   |refine wC (w153 _ _ ?_) λz153 hz=>?_
   |refine wC (w226 _ _ ?_ ?_) λz226 hz=>?_
   |refine wC (w227 _ _ _ ?_ ?_) λz227 hz=>?_
   |refine wC (w104 _ (3:Int) ?_) λz104 hz=>?_
   |refine wC (w228 _ _ _ ?_ ?_ ?_ ?_) λz228 hz=>?_
   |refine wC (w104 _ (1:Int) ?_) λz104 hz=>?_
   |refine ⟨(5:Int),rfl,?_⟩
   |refine ⟨_,rfl,?_⟩
  |omega
  |dsimp only
theorem w105 (a0:List S65) (g0:a0.length<=12) (g1:∀e∈a0,EB e):WQv 57 [lE a0] lI (λr=>r.length<=1000000):=by
 refine gO Tryz.func57 ?_
 repeat' first
  |with_reducible assumption
  |(conv=>whnf);first
   |apply bD<;>intro h
   |refine wC (w168 a0 ?_ ?_) λz168 hz=>?_
   |refine lM ?_
   |refine wG ?_ ?_ (λ_=>rfl) λx hx hm=>?_
   |refine V2 (λ(p:Int) (r:List Int)=>0<=p/\p<=(z168.length:Int)/\(r.length:Int)<=p) (λp r=>[(3,.row 0),(7,.lst (z168.map S197.c)),(8,sI (z168.length:Int)),(9,sI p)]) (λp r=>⟨[(0,.row (r.map c_i64) 1 false 0)],1⟩) (λp r=>((z168.length:Int)-p).toNat) (0:Int) [] ?_ (ft [(0,none)] rfl rfl rfl ⟨f0 rfl rfl,trivial⟩) λp r ⟨i0,i1,i2⟩=>?_
   |refine wA (f:=c_i64) (m:=[_]) rfl (λ_=>⟨rfl,rfl⟩) ?_ ?_ ?_
   |refine ⟨⟨nx _,_⟩,?_,?_,(ft [(0,some 3)] rfl rfl rfl ⟨fR (f:=c_i64) rfl rfl λ_=>rfl,trivial⟩)⟩
   |refine wT (leafs_map (f:=c_i64) (λ_=>rfl) _) (w169 _ ?_) (λzs hzs=>?_) rfl rfl rfl
   |refine wCp rfl ?_ λzc dc hc1 hc2 hc3=>?_
   |refine wnE (f:=c_i64) (λ_=>rfl) ?_
   |refine ⟨_,_,deep0 (leafs_map (f:=c_i64) (λ_=>rfl) _),?_⟩
   |refine ⟨_,rfl,?_⟩
  |(subst hzs;rw [sortI_length];omega)
  |(subst hzs;rw [sortI_length] at hc1;omega)
  |omega
  |dsimp only
  |with_reducible apply And.intro
  |(simp (disch:=omega) only [ls]<;>omega)
theorem w108 (a0:S30) (a1:Int) (a2:ByteArray) (g0:a0.f1.length<=12) (g1:∀e∈a0.f1,EB e) (g2:a0.f2.length<=1000000) (g3:a0.f5.length<=1000000):WQv 60 [.agg (S30.c a0),sI a1,sS a2] sB (λr=>True):=by
 refine gO Tryz.func60 ?_
 repeat' first
  |with_reducible assumption
  |(conv=>whnf);first
   |apply bD<;>intro h
   |apply bS<;>intro h
   |refine lM ?_
   |refine V1 (λ(p0:Int)=>0<=p0/\p0<=(a0.f1.length:Int)) (λp0=>[(1,sI a1),(2,sS a2),(3,.box 0 0),(10,lE a0.f1),(11,sI (a0.f1.length:Int)),(12,sI p0)]) (λ_=>⟨[(0,.box (S30.c a0) false)],1⟩) (λp0=>((a0.f1.length:Int)+1-p0).toNat) (0:Int) ?_ (fB1 rfl rfl rfl rfl) λp0 ⟨i0,i1⟩=>?_
   |refine wG ?_ ?_ (λ_=>rfl) λx hx hm=>?_
   |refine wC (w123 _ ?_) λz123 hz=>?_
   |refine wC (w171 _ _ _ ?_ ?_ ?_ ?_) λz171 hz=>?_
   |refine ⟨true,rfl,?_⟩
   |refine ⟨nx _,?_,?_,(fB1 rfl rfl rfl rfl)⟩
   |refine ⟨false,rfl,?_⟩
  |omega
  |dsimp only
  |with_reducible apply And.intro
  |(simp (disch:=omega) only [ls]<;>omega)
  |grind
theorem w103 (a0:S30) (a1:S65) (g0:a0.f1.length<=12) (g1:∀e∈a0.f1,EB e) (g2:a0.f2.length<=1000000) (g3:a0.f5.length<=1000000):WQv 55 [.ipt (S30.c a0),.ipt (S65.c a1)] sB (λ_=>True):=by
 refine gO Tryz.func55 ?_
 repeat' first
  |with_reducible assumption
  |(conv=>whnf);first
   |refine ⟨by kernel_rfl,?_⟩
   |refine wC (w105 a0.f1 ?_ ?_) λz105 hz=>?_
   |refine wC (w104 _ _ ?_) λz104 hz=>?_
   |refine ⟨_,rfl,?_⟩
  |omega
  |dsimp only
theorem w106 (a0:S65) (a1:S30) (a2:ByteArray) (g0:a1.f1.length<=12) (g1:∀e∈a1.f1,EB e) (g2:a1.f2.length<=1000000) (g3:a1.f5.length<=1000000):WQv 58 [.ipt (S65.c a0),.ipt (S30.c a1),.ipt [sS a2]] sB (λ_=>True):=by
 refine gO Tryz.func58 ?_
 repeat' first
  |with_reducible assumption
  |(conv=>whnf);first
   |apply bN<;>intro h
   |refine wC (w107 _) λz107 hz=>?_
   |refine wC (w108 a1 _ _ ?_ ?_ ?_ ?_) λz108 hz=>?_
   |refine ⟨_,rfl,?_⟩
theorem w51 (a0:S30) (a1:S65) (a2:ByteArray) (g0:a0.f1.length<=12) (g1:∀e∈a0.f1,EB e) (g2:a0.f2.length<=1000000) (g3:a0.f5.length<=1000000) (g4:EB a1):WQv 23 [.agg (S30.c a0),aE a1,sS a2] aE (λr=>EB r/\r.f0=a1.f0):=by
 refine gO Tryz.func23 ?_
 repeat' first
  |with_reducible assumption
  |(conv=>whnf);first
   |apply br<;>intro h
   |refine ⟨_,_,.deep (.fn (.box rfl rfl (.box rfl rfl .nil)) .nil) (.deep (.fn (.box rfl rfl (.box rfl rfl .nil)) .nil) (.deep (.fn (.box rfl rfl (.box rfl rfl (.box rfl rfl .nil))) .nil) .nil)),?_⟩
   |refine wC (w99 [(52,[.ipt (S30.c a0),.ipt (S65.c a1)]),(55,[.ipt (S30.c a0),.ipt (S65.c a1)]),(58,[.ipt (S65.c a1),.ipt (S30.c a0),.ipt [sS a2]])] (by simp) ?_ ?_) λz99 hz=>?_
   |refine wC (w109 a1 ?_) λz109 hz=>?_
   |refine ⟨_,rfl,?_⟩
  |(intro p hp;simp only [List.mem_cons,List.not_mem_nil,or_false] at hp;rcases hp with rfl | rfl | rfl<;>rfl)
  |(intro p hp;simp only [List.mem_cons,List.not_mem_nil,or_false] at hp;rcases hp with rfl | rfl | rfl;exact w100 a0 a1 g0 g1 g2 g3;exact w103 a0 a1 g0 g1 g2 g3;exact w106 a1 a0 a2 g0 g1 g2 g3)
  |omega
  |dsimp only
  |with_reducible apply And.intro
theorem w51q (r:RP) (e:EP) (s:ByteArray) (g0:r.d.f1.length<=12) (g1:∀e∈r.d.f1,EB e) (g2:r.d.f2.length<=1000000) (g3:r.d.f5.length<=1000000) (g4:EB e.d) {X:WV->Prop} {Y:Prop} (h:∀p:EP,EB p.d->p.d.f0=e.d.f0->OutW r e s p->X (.agg p.c)):(∃G,WValid P 23 [.agg r.c,.agg e.c,sS s] G/\∀v,G v->X v)\/Y:=by
 obtain ⟨p,hq,hw⟩:=pick (π:=EP.d) (w51 r.d e.d s g0 g1 g2 g3 g4) (.cons (.agg r.h) (.cons (.agg e.h) (.cons .sc .nil))) (exC (exA λ_ h=>r.eq h) (exC (exA λ_ h=>e.eq h) (exC exS exN))) pinE
 exact wC hw λz' e=>by subst e;exact h _ hq.1 hq.2 hw
end Go.Abs.RM
