/- Of ServerHides: walks. -/
import Derived.Test.YtlhdbnmgiaoeeaaGreatUAs
import Derived.Test.YtlhdbnmgiaoeeaaGreatUAy
set_option linter.all false
namespace Go.Abs.RM
open Go.Proofs Go.Proofs.RMH
set_option maxRecDepth 100000
set_option maxHeartbeats 40000000
theorem w439 (a0:List S65) (a1:List S71) (g0:a0.length<=12) (g1:∀e∈a0,EB e) (g2:a1.length<=200000):WQv 508 [lE a0,.lst (a1.map S71.c)] lI (λr=>r.length<=a1.length+12):=by
 refine gO Tryz.func508 ?_
 have hn2:([]:List Int).length=0:=rfl
 repeat' first
  |with_reducible assumption
  |(conv=>whnf);first
   |apply bD<;>intro h
   |refine V2 (λ(p0:List Int) (p1:Int)=>0<=p1/\p1<=(a1.length:Int)/\(p0.length:Int)=p1) (λ_ p1=>[(0,lE a0),(1,.lst (a1.map S71.c)),(5,.row 0),(6,sI p1)]) (λp0 _=>⟨[(0,.row (p0.map c_i64) 1 false 0)],1⟩) (λ_ p1=>((a1.length:Int)+1-p1).toNat) [] (0:Int) ?_ (ft [(0,none)] rfl rfl rfl ⟨fitO_nil rfl rfl,trivial⟩) λp0 p1 ⟨i0,i1,i3⟩=>?_
   |refine lM ?_
   |refine wG ?_ ?_ (λ_=>rfl) λx hx hm=>?_
   |refine wA (f:=c_i64) (m:=[_]) rfl (λ_=>⟨rfl,rfl⟩) ?_ ?_ ?_
   |refine ⟨⟨_,nx _⟩,?_,?_,(fR1 2 rfl rfl rfl λ_=>rfl)⟩
   |refine ⟨_,_,deep0 (leafs_map (f:=c_i64) (λ_=>rfl) _),?_⟩
   |refine wC (w373 _ _ ?_ ?_ ?_) λz373 h373=>?_
   |refine wC (w58 _ _ ?_) λz58 hz=>?_
   |refine ⟨_,rfl,?_⟩
  |omega
  |dsimp only
  |(have:=hz.2.2;have:=h373.len;omega)
  |(have:=h373.len;omega)
  |with_reducible apply And.intro
  |(simp (disch:=omega) only [ls]<;>omega)
theorem w260 (a0:List S65) (a1:List Int) (g0:a0.length<=12) (g1:∀e∈a0,EB e) (g2:a1.length<=900000000):WQv 418 [lE a0,lI a1] lI (λr=>IS a0 r):=by
 refine gO Tryz.func418 ?_
 repeat' first
  |with_reducible assumption
  |(conv=>whnf);first
   |apply bD<;>intro h
   |apply br<;>intro h
   |refine wC (w371 _ _ ?_ ?_) λz371 hz=>?_
   |refine V2 (λ(p0:List Int) (p1:Int)=>0<=p1/\p1<=(z371.length:Int)/\IS a0 p0) (λp0 p1=>[(0,lE a0),(5,lI z371),(6,lI p0),(7,sI p1)]) (λ_ _=>⟨[],0⟩) (λ_ p1=>((z371.length:Int)+20+1-p1).toNat) ([]:List Int) (0:Int) ?_ (suits_trans (lend_suits 6 rfl rfl (leafs_lit rfl)) (fN rfl rfl)) λp0 p1 ⟨i0,i1,i3⟩=>?_
   |refine lM ?_
   |refine wE ‹_› ?_ (λ_=>rfl) ?_
   |refine wG ?_ ?_ (λ_=>rfl) λx hx hm=>?_
   |refine wC (w56 _ _ ?_) λz56 hg=>?_
   |refine wC (w372 _) λz372 h372=>?_
   |refine wC (w118 p0 x ?_) λz118 hp=>?_
   |refine ⟨_,_,deep0 (leafs_lit rfl),?_⟩
   |refine wC (w373 _ [_] ?_ ?_ ?_) λz373 hc=>?_
   |refine V2 (λ(q0:List Int) (q1:Int)=>0<=q1/\q1<=(z373.length:Int)/\IS a0 q0) (λq0 q1=>[(0,lE a0),(5,lI z371),(6,lI q0),(7,sI p1),(10,lI z373),(11,sI q1)]) (λ_ _=>⟨[],0⟩) (λ_ q1=>((z373.length:Int)+1-q1).toNat) z118 (0:Int) ?_ (fN rfl rfl) λq0 q1 ⟨i0,i1,i3⟩=>?_
   |refine wC (w16 _ _ ?_) λz16 hz=>?_
   |refine wC (w118 q0 x ?_) λz118_1 hp=>?_
   |refine ⟨⟨_,nx _⟩,?_,?_,(fN rfl rfl)⟩
   |refine ⟨_,rfl,?_⟩
  |omega
  |exact hp.is i3 (hg.ids (got_kind hg (h372 h)))
  |(have:=hc.len;first | omega | (simp (disch:=omega) only [ls]<;>omega))
  |dsimp only
  |(have:=i3.len;omega)
  |exact IS.nil
  |with_reducible apply And.intro
  |(simp (disch:=omega) only [ls]<;>omega)
  |grind
theorem w374 (a0:List S65) (a1:List Int) (a2:Int) (g0:a0.length<=12) (g1:∀e∈a0,EB e) (g2:a1.length<=1000000000):WQv 477 [lE a0,lI a1,sI a2] sB (λr=>True):=by
 refine gO Tryz.func477 ?_
 repeat' first
  |with_reducible assumption
  |(conv=>whnf);first
   |apply bD<;>intro h
   |apply br<;>intro h
   |refine ⟨_,_,deep0 (leafs_lit rfl),?_⟩
   |refine wC (w373 _ [_] ?_ ?_ ?_) λz373 hz=>?_
   |refine V1 (λ(p0:Int)=>0<=p0/\p0<=(z373.length:Int)) (λp0=>[(1,lI a1),(7,lI z373),(8,sI p0)]) (λ_=>⟨[],0⟩) (λp0=>((z373.length:Int)+1-p0).toNat) (0:Int) ?_ (fN rfl rfl) λp0 ⟨i0,i1⟩=>?_
   |refine lM ?_
   |refine wG ?_ ?_ (λ_=>rfl) λx hx hm=>?_
   |refine wC (w16 _ _ ?_) λz16 hz=>?_
   |refine ⟨false,rfl,?_⟩
   |refine ⟨nx _,?_,?_,(fN rfl rfl)⟩
   |refine ⟨true,rfl,?_⟩
  |omega
  |exact True.intro
  |(have h1:=IS.len ‹IS a0 _›;first | omega | (simp (disch:=omega) only [ls]<;>omega))
  |(simp only [List.length_cons,List.length_nil];omega)
theorem w265 (a0:List S65) (a1:List Int) (a2:List Int) (g0:a0.length<=12) (g1:∀e∈a0,EB e) (g2:a1.length<=1000000000) (g3:a2.length<=900000000):WQv 423 [lE a0,lI a1,lI a2] lI (λr=>r.length<=12):=by
 refine gO Tryz.func423 ?_
 repeat' first
  |with_reducible assumption
  |(conv=>whnf);first
   |refine wG (l:=a2) ?_ ?_ (λ_=>rfl) λx0 hx hm=>?_
   |apply bD<;>intro h
   |apply bN<;>intro h
   |apply br<;>intro h
   |refine V2 (λ(p0:List Int) (p1:Int)=>0<=p1/\p1<=(a2.length:Int)/\IS a0 p0) (λ_ p1=>[(0,lE a0),(1,lI a1),(2,lI a2),(7,.row 0),(8,sI p1)]) (λp0 _=>⟨[(0,.row (p0.map c_i64) 1 true 0)],1⟩) (λ_ p1=>((a2.length:Int)+20+1-p1).toNat) ([]:List Int) (0:Int) ?_ (ft [(0,some 0)] rfl rfl rfl ⟨fRZ rfl rfl λ_=>rfl,trivial⟩) λp0 p1 ⟨i0,i1,i3⟩=>?_
   |refine lM ?_
   |refine wC (w56 _ _ ?_) λz56 hg=>?_
   |refine ⟨⟨_,nx _⟩,?_,?_,(ft [(0,some 0)] rfl rfl rfl ⟨fRZ rfl rfl λ_=>rfl,trivial⟩)⟩
   |refine ⟨_,_,deep0 (leafs_map (f:=c_i64) (λ_=>rfl) _),?_⟩
   |refine wC (w16 _ _ ?_) λz16 h16=>?_
   |refine V1 (λ(q0:Int)=>0<=q0/\q0<=(p0.length:Int)) (λq0=>[(0,lE a0),(1,lI a1),(2,lI a2),(7,.row 0),(8,sI p1),(11,sI q0),(32,.row 0),(33,lI a2),(34,sI p1),(36,sI x0),(37,sB z16)]) (λ_=>⟨[(0,.row (p0.map c_i64) 1 true 0)],1⟩) (λq0=>((p0.length:Int)+1-q0).toNat) (0:Int) ?_ (ft [(0,some 0)] rfl rfl rfl ⟨fRZ rfl rfl λ_=>rfl,trivial⟩) λq0 ⟨i0,i1⟩=>?_
   |refine wR ?_ ?_ ?_
   |refine wL ?_ ?_ λx hx=>?_
   |refine wC (w378 _ _ _ _ ?_ ?_ ?_) λz378 hz=>?_
   |refine ⟨by kernel_rfl,?_⟩
   |refine ⟨nx _,?_,?_,(ft [(0,some 0)] rfl rfl rfl ⟨fRZ rfl rfl λ_=>rfl,trivial⟩)⟩
   |refine ⟨?_,?_,wnB _ ?_⟩
   |refine wN (l:=[]) (f:=c_i64) (m:=(p0.drop q0.toNat).take (p0.length-q0.toNat)) (winLen ..) (cellP_win (f:=c_i64) (s:=1) (λ_=>⟨rfl,rfl⟩) _ _ _) (winApp ..) ?_ ?_ ?_
   |refine And.intro ?_ (And.intro ?_ (And.intro rfl ?_))
   |refine wW (f:=c_i64) (l:=[x0]) rfl (cellP_lit rfl) (winCat (f:=c_i64) p0 [x0] _ _) ?_ ?_ ?_ ?_
   |refine wA (f:=c_i64) (m:=_) rfl (λ_=>⟨rfl,rfl⟩) ?_ ?_ ?_
   |refine ⟨⟨_,nx _⟩,?_,?_,(ft [(0,some 5)] rfl rfl rfl ⟨fRZ rfl rfl λ_=>rfl,trivial⟩)⟩
   |refine ⟨_,rfl,?_⟩
  |omega
  |(refine (put_mk2 (a:=p0) ?_).is i3 ?_<;>grind)
  |(have h1:=IS.len i3;first | omega | (simp (disch:=omega) only [ls]<;>omega))
  |dsimp only
  |exact IS.nil
  |with_reducible apply And.intro
theorem w2047 (a0:List S65) (a1:ByteArray) (g0:a0.length<=1000000) (g1:∀e∈a0,EB e) (g2:a1.size<=1000):WQv 47 [lE a0,sS a1] sI (λr=>True):=by
 refine gO Tryz.func47 ?_
 repeat' first
  |with_reducible assumption
  |(conv=>whnf);first
   |apply bN<;>intro h
   |apply br<;>intro h
   |refine wC (w129 _ ?_ ?_) λz129 hz=>?_
   |refine wC (w2097 _ _ ?_ ?_) λz2097 hz=>?_
   |refine ⟨(22:Int),rfl,?_⟩
   |refine ⟨(0:Int),rfl,?_⟩
  |dsimp only
theorem w198 (a0:S65) (g0:EM a0):WQv 354 [aE a0] sI (λr=>r=0->EB a0):=by
 refine gO Tryz.func354 ?_
 obtain ⟨b1,b2,b5,b8,b9,b10,b12⟩:=g0
 repeat' first
  |with_reducible assumption
  |(conv=>whnf);first
   |apply bJ<;>intro h
   |refine wC (w249 _ ?_ ?_ ?_ ?_ ?_) λz249 hf=>?_
   |refine wC (w250 _ _ ?_) λz250 hz=>?_
   |refine ⟨_,rfl,?_⟩
  |omega
  |dsimp only
  |exact λhr=>⟨(hf h).1,(hf h).2.1,(hf h).2.2.1,(hf h).2.2.2.1,(hf h).2.2.2.2,hz hr⟩
theorem w370 (a0:List S65) (a1:List (List S71)) (g0:a0.length<=12) (g1:∀e∈a0,EB e) (g2:a1.length<=12) (g3:∀s∈a1,s.length<=200000):WQv 473 [lE a0,.lst (a1.map cL26)] lI (λr=>r.length<=2400144):=by
 refine gO Tryz.func473 ?_
 have hn2:([]:List Int).length=0:=rfl
 have hn3:([]:List (List Int)).length=0:=rfl
 repeat' first
  |with_reducible assumption
  |(conv=>whnf);first
   |apply bD<;>intro h
   |apply br<;>intro h
   |refine V3 (λ(p0:List (List Int)) (p1:List Int) (p2:Int)=>0<=p2/\p2<=(a1.length:Int)/\(p0.length:Int)=p2/\(∀x∈p0,x.length<=200012)/\(p1.length:Int)<=200012*p2) (λ_ p1 p2=>[(0,lE a0),(1,.lst (a1.map cL26)),(5,.row 0),(6,lI p1),(7,sI p2)]) (λp0 _ _=>⟨[(0,.row (p0.map cL24) 1 false 0)],1⟩) (λ_ _ p2=>((a1.length:Int)+1-p2).toNat) [] [] (0:Int) ?_ (suits_trans (nil_suits 6 rfl) (ft [(0,none)] rfl rfl rfl ⟨fitO_nil rfl rfl,trivial⟩)) λp0 p1 p2 ⟨i0,i1,i3,i4,i5⟩=>?_
   |refine lM ?_
   |refine wG ?_ ?_ (λ_=>rfl) λx hx hm=>?_
   |refine wC (w439 _ _ ?_ ?_ ?_) λz439 h439=>?_
   |refine wA (f:=cL24) (m:=[_]) rfl (λ_=>⟨rfl,rfl⟩) ?_ ?_ ?_
   |refine wC (w58 _ _ ?_) λz58 hu=>?_
   |refine ⟨⟨_,_,nx _⟩,?_,?_,(fR1 2 rfl rfl rfl λ_=>rfl)⟩
   |refine V2 (λ(q0:List Int) (q1:Int)=>0<=q1/\q1<=(p1.length:Int)/\(q0.length:Int)<=q1/\(∀r:List Int,(r.length<=p1.length)->r.length<=2400144)) (λ_ q1=>[(5,.row 0),(6,lI p1),(9,.row 1),(10,sI q1)]) (λq0 _=>⟨[(0,.row (p0.map cL24) 1 false 0),(1,.row (q0.map c_i64) 1 false 1)],2⟩) (λ_ q1=>((p1.length:Int)+30+1-q1).toNat) [] (0:Int) ?_ (ft [(0,some 0),(1,none)] rfl rfl rfl ⟨fR rfl rfl λ_=>rfl,fitO_nil rfl rfl,trivial⟩) λq0 q1 ⟨i0,i1,i3,hk⟩=>?_
   |refine V2 (λ(v0:Int) (v1:Int)=>0<=v1/\v1<=(p0.length:Int)) (λv0 v1=>[(5,.row 0),(6,lI p1),(9,.row 1),(10,sI q1),(11,sI v0),(12,sI v1)]) (λ_ _=>⟨[(0,.row (p0.map cL24) 1 false 0),(1,.row (q0.map c_i64) 1 false 1)],2⟩) (λ_ v1=>((p0.length:Int)+1-v1).toNat) (0:Int) (0:Int) ?_ (ft [(0,some 0),(1,some 1)] rfl rfl rfl ⟨fR rfl rfl λ_=>rfl,fR rfl rfl λ_=>rfl,trivial⟩) λv0 v1 ⟨i0,i1⟩=>?_
   |refine wR ?_ ?_ ?_
   |refine wL ?_ ?_ λx hx=>?_
   |refine wC (w16 _ _ ?_) λz16 hz=>?_
   |refine ⟨by kernel_rfl,?_⟩
   |refine ⟨⟨nx _,nx _⟩,?_,?_,(ft [(0,some 0),(1,some 1)] rfl rfl rfl ⟨fR rfl rfl λ_=>rfl,fR rfl rfl λ_=>rfl,trivial⟩)⟩
   |refine ⟨⟨_,nx _⟩,?_,?_,(ft [(0,some 0),(1,some 1)] rfl rfl rfl ⟨fR rfl rfl λ_=>rfl,fR rfl rfl λ_=>rfl,trivial⟩)⟩
   |refine wA (f:=c_i64) (m:=[_]) rfl (λ_=>⟨rfl,rfl⟩) ?_ ?_ ?_
   |refine ⟨⟨_,nx _⟩,?_,?_,(ft [(0,some 0),(1,some 3)] rfl rfl rfl ⟨fR rfl rfl λ_=>rfl,fR rfl rfl λ_=>rfl,trivial⟩)⟩
   |refine ⟨_,_,deep0 (leafs_map (f:=c_i64) (λ_=>rfl) _),?_⟩
   |refine ⟨_,rfl,?_⟩
  |omega
  |dsimp only
  |exact g3 _ hm
  |(have:=g3 _ hm;omega)
  |(have:=hu.2.2;have:=g3 _ hm;first | omega | (simp (disch:=omega) only [ls]<;>omega))
  |(simp (disch:=omega) only [ls]<;>omega)
  |grind
theorem w261 (a0:List S65) (a1:List Int) (g0:a0.length<=12) (g1:∀e∈a0,EB e) (g2:IS a0 a1):WQv 419 [lE a0,lI a1] lI (λr=>r.length<=12):=by
 refine gO Tryz.func419 ?_
 have hl2:=g2.len
 have hn:([]:List Int).length=0:=rfl
 repeat' first
  |with_reducible assumption
  |(conv=>whnf);first
   |apply bD<;>intro h
   |apply bN<;>intro h
   |apply br<;>intro h
   |refine wC (w371 _ _ ?_ ?_) λz371 hz=>?_
   |refine V2 (λ(p0:List Int) (p1:List Int)=>IS a0 p0/\p1.length+p0.length<=12) (λp0 _=>[(0,lE a0),(5,lI p0),(6,.row 0)]) (λ_ p1=>⟨[(0,.row (p1.map c_i64) 1 false 0)],1⟩) (λp0 _=>(p0.length+20+1)) z371 ([]:List Int) ?_ (fR1 0 rfl rfl rfl λ_=>rfl) λp0 p1 ⟨i1,i2⟩=>?_
   |refine lM ?_
   |refine V3 (λ(q0:S65) (q1:Bool) (q2:Int)=>0<=q2/\q2<=(p0.length:Int)/\(q1=true->q0.f0∈p0)/\EB q0) (λ_ q1 q2=>[(0,lE a0),(5,lI p0),(6,.row 0),(7,.box 1 0),(8,sB q1),(9,sI q2)]) (λq0 _ _=>⟨[(0,.row (p1.map c_i64) 1 false 0),(1,.box (S65.c q0) false)],2⟩) (λ_ _ q2=>((p0.length:Int)+1-q2).toNat) ze65 false (0:Int) ?_ (ft [(0,some 0),(1,some 1)] rfl rfl rfl ⟨fR rfl rfl λ_=>rfl,fB rfl rfl rfl,trivial⟩) λq0 q1 q2 ⟨i0,i1,i3,i4⟩=>?_
   |refine wE ‹_› ?_ (λ_=>rfl) ?_
   |refine wG ?_ ?_ (λ_=>rfl) λx hx hm=>?_
   |refine wC (w56 _ _ ?_) λz56 hz=>?_
   |refine wC (w374 _ _ _ ?_ ?_ ?_) λz374 hz=>?_
   |refine ⟨⟨_,_,nx _⟩,?_,?_,(ft [(0,some 0),(1,some 1)] rfl rfl rfl ⟨fR rfl rfl λ_=>rfl,fB rfl rfl rfl,trivial⟩)⟩
   |refine wC (w375 _ _ _ ?_ ?_ ?_ ?_) λz375 hz=>?_
   |refine ⟨_,_,deep0 (leafs_map (f:=c_i64) (λ_=>rfl) _),?_⟩
   |refine wA (f:=c_i64) (m:=[_]) rfl (λ_=>⟨rfl,rfl⟩) ?_ ?_ ?_
   |refine ⟨_,_,deep0 (leafs_lit rfl),?_⟩
   |refine wC (w53 _ [_] ?_ ?_) λz53 hz=>?_
   |refine ⟨⟨_,_⟩,?_,?_,(fR1 3 rfl rfl rfl λ_=>rfl)⟩
   |refine ⟨_,rfl,?_⟩
  |omega
  |exact zE_eb
  |(have:=minus_lt ‹IS a0 p0› (i3 h) hz;grind)
  |dsimp only
  |exact ⟨hz.1,λx hx=>g2.2 x (hz.2.2 x hx)⟩
  |with_reducible apply And.intro
  |(simp (disch:=omega) only [ls]<;>omega)
  |contradiction
  |intro hr
  |grind
theorem w2020 (a0:S30) (a1:ByteArray) (g0:a0.f1.length<=12) (g1:∀e∈a0.f1,EB e) (g2:a0.f5.length<=1000000) (g3:a1.size<=1000):WQv 20 [.agg (S30.c a0),sS a1] sI (λr=>True):=by
 refine gO Tryz.func20 ?_
 repeat' first
  |with_reducible assumption
  |(conv=>whnf);first
   |refine wC (w138 _ _ ?_ ?_) λz138 hz=>?_
   |refine wC (w2047 _ _ ?_ ?_ ?_) λz2047 hz=>?_
   |refine ⟨_,rfl,?_⟩
  |omega
  |exact λe he=>g1 e (‹_/\∀x∈_,x∈_›.2 e he)
theorem w2244 (a0:List S65) (g0:a0.length<=1000000) (g1:∀e∈a0,EB e):WQv 244 [lE a0] (λr:List ByteArray=>.lst (r.map cStr)) (λr=>r.length<=a0.length):=by
 refine gO Tryz.func244 ?_
 repeat' first
  |with_reducible assumption
  |(conv=>whnf);first
   |apply bD<;>intro h
   |refine wC (w72 _ (3:Int) ?_ ?_) λz72 hz=>?_
   |refine lM ?_
   |refine V2 (λ(p0:List ByteArray) (p1:Int)=>0<=p1/\p1<=(z72.length:Int)/\(p0.length:Int)<=p1) (λ_ p1=>[(3,.row 0),(7,.lst (z72.map cStr)),(8,sI (z72.length:Int)),(9,sI p1)]) (λp0 _=>⟨[(0,.row (p0.map cStr) 1 false 0)],1⟩) (λ_ p1=>((z72.length:Int)+1-p1).toNat) [] (0:Int) ?_ (ft [(0,none)] rfl rfl rfl ⟨fitO_nil rfl rfl,trivial⟩) λp0 p1 ⟨i0,i1,i2⟩=>?_
   |refine wG ?_ ?_ (λ_=>rfl) λx hx hm=>?_
   |refine wC (w447 _ ?_) λz447 hz=>?_
   |refine wC (w123 _ ?_) λz123 hz=>?_
   |refine wA (f:=cStr) (m:=[_]) rfl (λ_=>⟨rfl,rfl⟩) ?_ ?_ ?_
   |refine ⟨⟨_,nx _⟩,?_,?_,(fR1 2 rfl rfl rfl λ_=>rfl)⟩
   |refine ⟨⟨_,nx _⟩,?_,?_,(fR1 0 rfl rfl rfl λ_=>rfl)⟩
   |refine ⟨_,_,deep0 (leafs_map (f:=cStr) (λ_=>rfl) _),?_⟩
   |refine wC (w137 _ ?_) λz137 hz=>?_
   |refine ⟨_,rfl,?_⟩
  |omega
  |dsimp only
  |with_reducible apply And.intro
  |(simp (disch:=omega) only [ls]<;>omega)
  |grind
theorem w143 (a0:S65) (g0:EM a0):WQv 288 [aE a0] sI (λr=>r=0->EB a0):=by
 refine gO Tryz.func288 ?_
 repeat' first
  |with_reducible assumption
  |(conv=>whnf);first
   |apply bJ<;>intro h
   |apply bN<;>intro h
   |refine wC (w198 _ ?_) λz198 hb0=>?_
   |refine wC (w199 _ ?_) λz199 hz=>?_
   |refine wC (w174 _ _ ?_) λz174 hz=>?_
   |refine wC (w95 _ _ ?_ ?_ ?_ ?_) λz95 hz=>?_
   |refine ⟨by kernel_rfl,?_⟩
   |refine wC (w200 _ ?_) λz200 hz=>?_
   |refine wC (w28 _ ?_) λz28 hz=>?_
   |refine ⟨_,rfl,?_⟩
  |omega
  |dsimp only
  |intro hr
  |grind
theorem w259 (a0:List S65) (a1:List (List S71)) (g0:a0.length<=12) (g1:∀e∈a0,EB e) (g2:a1.length<=12) (g3:∀s∈a1,s.length<=200000):WQv 417 [lE a0,.lst (a1.map cL26)] lI (λr=>r.length<=5000000):=by
 refine gO Tryz.func417 ?_
 repeat' first
  |with_reducible assumption
  |(conv=>whnf);first
   |refine wC (w258 _ 200000 ?_ ?_ ?_) λz258 h258=>?_
   |refine wC (w370 _ _ ?_ ?_ ?_ ?_) λz370 hz=>?_
   |refine wC (w58 _ _ ?_) λz58 hz=>?_
   |refine ⟨_,rfl,?_⟩
  |omega
theorem w2020q (r:RP) (s:ByteArray) (g0:r.d.f1.length<=12) (g1:∀e∈r.d.f1,EB e) (g2:r.d.f5.length<=1000000) (g3:s.size<=1000) {X:WV->Prop} {Y:Prop} (h:∀z,MayW r s z->X (sI z)):(∃G,WValid P 20 [.agg r.c,sS s] G/\∀v,G v->X v)\/Y:=by
 obtain ⟨z,_,hw⟩:=pick (π:=id) (en':=λr:Int=>sI r) (w2020 r.d s g0 g1 g2 g3) (.cons (.agg r.h) (.cons .sc .nil)) (exC (exA λ_ h=>r.eq h) (exC exS exN)) (λa x h=>⟨a,rfl,h⟩)
 exact wC hw λz' e=>by subst e;exact h _ hw
theorem w2555 (a0:S30) (a1:ByteArray) (g0:a0.f1.length<=12) (g1:∀e∈a0.f1,EB e) (g2:a0.f5.length<=1000000) (g3:a1.size<=1000):WQv 555 [.agg (S30.c a0),sS a1] sB (λr=>True):=by
 refine gO Tryz.func555 ?_
 repeat' first
  |with_reducible assumption
  |(conv=>whnf);first
   |refine wC (w138 _ _ ?_ ?_) λz138 hz=>?_
   |refine wC (w2244 _ ?_ ?_) λz2244 hz=>?_
   |refine wC (w134 _ _ ?_) λz134 hz=>?_
   |refine ⟨_,rfl,?_⟩
  |omega
  |exact λe he=>g1 e (‹_/\∀x∈_,x∈_›.2 e he)
theorem w80 (a0:List S65) (g0:∀e∈a0,EM e):WQv 201 [lE a0] sI (λr=>r=0->a0.length<=2000/\∀e∈a0,EB e):=by
 refine gO Tryz.func201 ?_
 repeat' first
  |with_reducible assumption
  |(conv=>whnf);first
   |apply bD<;>intro h
   |apply bJ<;>intro h
   |apply bT'<;>intro h
   |refine lM ?_
   |refine V1 (λ(p0:Int)=>0<=p0/\p0<=(a0.length:Int)/\(∀r:Int,(r=0->∀y∈a0.drop p0.toNat,EB y)->r=0->a0.length<=2000/\∀e∈a0,EB e)) (λp0=>[(0,lE a0),(3,sI p0)]) (λ_=>⟨[],0⟩) (λp0=>((a0.length:Int)+1-p0).toNat) (0:Int) ?_ (fN rfl rfl) λp0 ⟨i0,i1,hk⟩=>?_
   |refine wG ?_ ?_ (λ_=>rfl) λx hx hm=>?_
   |refine wC (w143 _ ?_) λz143 key=>?_
   |refine ⟨nx _,?_,?_,(fN rfl rfl)⟩
   |refine V1 (λ(q0:Int)=>1<=q0/\q0<=(a0.length:Int)+1) (λq0=>[(0,lE a0),(5,sI q0)]) (λ_=>⟨[],0⟩) (λq0=>((a0.length:Int)+1+1-q0).toNat) (1:Int) ?_ (fN rfl rfl) λq0 ⟨i0,i1⟩=>?_
   |refine ⟨by kernel_rfl,?_⟩
   |refine V1 (λ(v0:Int)=>1<=v0/\v0<=(a0.length:Int)+1) (λv0=>[(0,lE a0),(6,sI v0)]) (λ_=>⟨[],0⟩) (λv0=>((a0.length:Int)+1+1-v0).toNat) (1:Int) ?_ (fN rfl rfl) λv0 ⟨i0,i1⟩=>?_
   |refine ⟨(7:Int),rfl,?_⟩
   |refine ⟨_,rfl,?_⟩
  |omega
  |dsimp only
  |refine hk _ ?_
  |refine λr hr=>hk r λhr0=>drop_all ‹_› hx (by omega) ?_ (hr hr0)
  |exact λr hr hr0=>⟨by omega,λx hx=>hr hr0 x hx⟩
  |exact λ_=>drop_none ‹_›
  |exact g0 _ hm
  |with_reducible apply And.intro
  |(simp (disch:=omega) only [ls]<;>omega)
  |grind
theorem w204 (a0:List S65) (a1:List (List S71)) (K:Nat) (g0:a0.length<=12) (g1:∀e∈a0,EB e) (g2:a1.length<=12) (g3:∀s∈a1,s.length<=K) (g4:K<=150000):WQv 363 [lE a0,.lst (a1.map cL26)] (λr:S227=>.agg (S227.c r)) (λr=>r.f4.length<=2*K+24):=by
 refine gO Tryz.func363 ?_
 repeat' first
  |with_reducible assumption
  |(conv=>whnf);first
   |apply bD<;>intro h
   |apply br<;>intro h
   |refine wC (w258 _ K ?_ ?_ ?_) λz258 h258=>?_
   |refine wC (w259 _ _ ?_ ?_ ?_ ?_) λz259 h259=>?_
   |refine wC (w260 _ _ ?_ ?_ ?_) λz260 h260=>?_
   |refine wC (w261 _ _ ?_ ?_ ?_) λz261 h261=>?_
   |refine wC (w262 a0 z258.1 z261 ?_ ?_ ?_ ?_) λz262 hA=>?_
   |refine wC (w263 _ (3:Int) zS ?_) λz263 hz=>?_
   |refine wC (w264 _ _ ?_ ?_) λz264 hz=>?_
   |refine wC (w53 _ _ ?_ ?_) λz53 h53=>?_
   |refine wC (w265 a0 z264 z53 ?_ ?_ ?_ ?_) λz265 h265=>?_
   |refine wC (w262 a0 z262 z265 ?_ ?_ ?_ ?_) λz262_1 hA=>?_
   |refine V2 (λ(p0:S227) (p1:Int)=>0<=p1/\p1<=(p0.f0.length:Int)/\p0.f0.length<=200000/\(p0.f4.length:Int)+((p0.f0.length:Int)-p1)<=900000/\(∀r:S227,((r.f4.length:Int)<=(p0.f4.length:Int)+((p0.f0.length:Int)-p1))->r.f4.length<=2*K+24)) (λ_ p1=>[(4,.box 0 0),(5,.box 1 0),(11,sI p1)]) (λp0 _=>⟨[(0,.box (S227.c (⟨[],[],[],[],[]⟩:S227)) false),(1,.box (S227.c p0) false)],2⟩) (λp0 p1=>((p0.f0.length:Int)+1-p1).toNat) (⟨z258.1,z261,z262,z265,z262_1⟩:S227) (0:Int) ?_ (ft [(0,some 0),(1,some 1)] rfl rfl rfl ⟨fB rfl rfl rfl,fB rfl rfl rfl,trivial⟩) λp0 p1 ⟨i0,i1,i3,i4,hk⟩=>?_
   |refine lM ?_
   |refine wE ‹_› ?_ (λ_=>rfl) ?_
   |refine wG ?_ ?_ (λ_=>rfl) λx hx hm=>?_
   |refine wC (w203 _ _ _ _ ?_) λz203 hz=>?_
   |refine ⟨by kernel_rfl,?_⟩
   |refine ⟨⟨⟨_,_,_,_,z203⟩,nx _⟩,?_,?_,(ft [(0,some 0),(1,some 1)] rfl rfl rfl ⟨fB rfl rfl rfl,fB rfl rfl rfl,trivial⟩)⟩
   |refine wC (w265 a0 [] z53 ?_ ?_ ?_ ?_) λz265_1 h265=>?_
   |refine wC (w262 a0 z262 z265_1 ?_ ?_ ?_ ?_) λz262_2 hA=>?_
   |refine V2 (λ(p0:S227) (p1:Int)=>0<=p1/\p1<=(p0.f0.length:Int)/\p0.f0.length<=200000/\(p0.f4.length:Int)+((p0.f0.length:Int)-p1)<=900000/\(∀r:S227,((r.f4.length:Int)<=(p0.f4.length:Int)+((p0.f0.length:Int)-p1))->r.f4.length<=2*K+24)) (λ_ p1=>[(4,.box 0 0),(5,.box 1 0),(11,sI p1)]) (λp0 _=>⟨[(0,.box (S227.c (⟨[],[],[],[],[]⟩:S227)) false),(1,.box (S227.c p0) false)],2⟩) (λp0 p1=>((p0.f0.length:Int)+1-p1).toNat) (⟨z258.1,z261,z262,z265_1,z262_2⟩:S227) (0:Int) ?_ (ft [(0,some 0),(1,some 1)] rfl rfl rfl ⟨fB rfl rfl rfl,fB rfl rfl rfl,trivial⟩) λp0 p1 ⟨i0,i1,i3,i4,hk⟩=>?_
   |refine ⟨_,rfl,?_⟩
  |omega
  |dsimp only
  |refine hk _ ?_
  |refine λr hr=>hk r ?_
  |exact λs hs=>Nat.le_trans (g3 s hs) (by omega)
  |(have:=h260.len;omega)
  |exact Nat.zero_le _
  |with_reducible apply And.intro
  |(simp (disch:=omega) only [ls]<;>omega)
  |grind
theorem w33 (a0:S30) (a1:List S65) (g0:∀e∈a1,EM e):WQv 109 [.agg (S30.c a0),lE a1] sI (λr=>r=0->∀e∈a1,EB e):=by
 refine gO Tryz.func109 ?_
 repeat' first
  |with_reducible assumption
  |(conv=>whnf);first
   |apply bI<;>intro h
   |apply bD<;>intro h
   |apply bT'<;>intro h
   |refine wC (w80 _ ?_) λz80 h80=>?_
   |refine lM ?_
   |refine wG ?_ ?_ (λ_=>rfl) λx hx hm=>?_
   |refine ⟨by kernel_rfl,?_⟩
   |refine ⟨(13:Int),rfl,?_⟩
   |refine ⟨_,rfl,?_⟩
  |omega
  |dsimp only
  |exact λhr=>(h80 hr).2
theorem w148 (a0:List S65) (a1:List (List S71)) (K:Nat) (g0:a0.length<=12) (g1:∀e∈a0,EB e) (g2:a1.length<=12) (g3:∀s∈a1,s.length<=K) (g4:K<=150000):WQv 296 [lE a0,.lst (a1.map cL26)] (λr:List S71=>.lst (r.map S71.c)) (λr=>r.length<=2*K+24):=by
 refine gO Tryz.func296 ?_
 repeat' first
  |with_reducible assumption
  |(conv=>whnf);first
   |apply bI<;>intro h
   |refine lM ?_
   |refine wG ?_ ?_ (λ_=>rfl) λx hx hm=>?_
   |refine wC (w204 _ _ K ?_ ?_ ?_ ?_ ?_) λz204 hz=>?_
   |refine ⟨[],rfl,?_⟩
   |refine ⟨_,rfl,?_⟩
  |omega
  |dsimp only
  |exact Nat.zero_le _
  |(have:=g3 _ hm;omega)
theorem w145 (a0:List S65) (g0:a0.length<=12) (g1:∀e∈a0,EB e) (g2:∀e∈a0,EM e):WQv 292 [lE a0] sB (λr=>True):=by
 refine gO Tryz.func292 ?_
 repeat' first
  |with_reducible assumption
  |(conv=>whnf);first
   |apply bI<;>intro h
   |refine wC (w80 _ ?_) λz80 hz=>?_
   |refine wC (w34 _ ?_ ?_) λz34 hz=>?_
   |refine ⟨false,rfl,?_⟩
   |refine ⟨_,rfl,?_⟩
  |exact True.intro
end Go.Abs.RM
