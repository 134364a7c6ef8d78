/- Of ServerHides: walks. -/
import Derived.Test.YtlhdbnmgiaoeeaaGreatUAp
set_option linter.all false
namespace Go.Abs.RM
open Go.Proofs Go.Proofs.RMH
set_option maxRecDepth 100000
set_option maxHeartbeats 40000000
theorem w512 (a0:List Int) (a1:Int) (g0:a0.length<=1000000000):WQv 445 [lI a0,sI a1] (λr:Int×Bool=>.tup [sI r.1,sB r.2]) (λ_=>True):=by
 refine gO Tryz.func445 ?_
 repeat' first
  |with_reducible assumption
  |(conv=>whnf);first
   |refine wE ‹_› ?_ (λ_=>rfl) ?_
   |apply bD<;>intro h
   |apply br<;>intro h
   |refine lM ?_
   |refine wG ?_ ?_ (λ_=>rfl) λx hx hm=>?_
   |refine wC (w310 _ _) λz310 h310=>?_
   |refine wC (w524 _) λz524 h524=>?_
   |refine V2 (λ(i j:Int)=>0<=i/\i<=j/\j<=(a0.length:Int)) (λi j=>[(0,lI a0),(1,sI a1),(6,sI (a0.length:Int)),(7,sI i),(8,sI j)]) (λ_ _=>⟨[],0⟩) (λi j=>(j-i).toNat) (0:Int) (a0.length:Int) ?_ (fN rfl rfl) λi j ⟨i0,i1,i2⟩=>?_
   |refine ⟨⟨nx _,_⟩,?_,?_,(fN rfl rfl)⟩
   |refine ⟨⟨i,mid i j⟩,?_,?_,(fN rfl rfl)⟩
   |refine ⟨(_,_),rfl,?_⟩
  |(have:=mid_ok i0 ‹_› i2 (by omega);unfold mid at this;first | omega | (rw [nx_eq (by omega) (by omega)];omega))
  |(have:=mid_ok i0 ‹_› i2 (by omega);omega)
  |omega
  |dsimp only
theorem w172 (a0:Int) (a1:S61) (g0:CB a1 400 100):WQv 35 [sI a0,.agg (S61.c a1)] (λr:S61=>.agg (S61.c r)) (λr=>CB r 400 100):=by
 refine gO Tryz.func35 ?_
 repeat' first
  |(conv=>whnf);first
   |apply bI<;>intro h
   |apply bJ<;>intro h
   |refine wC (w229 _ ?_) λz229 hz=>?_
   |refine wC (w230 _ ?_ ?_) λz230 hz=>?_
   |refine ⟨by kernel_rfl,?_⟩
   |refine wC (w231 _) λz231 hz=>?_
   |refine ⟨⟨_,_,_,_,_,_,_,_⟩,rfl,?_⟩
   |refine ⟨⟨_,_,_,_,_,_,_,z230⟩,rfl,?_⟩
   |refine ⟨⟨zS,_,_,false,_,_,_,ze59⟩,rfl,?_⟩
   |refine ⟨⟨zS,_,_,false,_,_,[],_⟩,rfl,?_⟩
   |refine ⟨⟨zS,_,_,false,_,_,[],ze59⟩,rfl,?_⟩
   |refine ⟨⟨zS,_,_,false,_,[],_,_⟩,rfl,?_⟩
   |refine ⟨⟨zS,_,_,false,_,[],_,ze59⟩,rfl,?_⟩
   |refine ⟨⟨zS,_,_,false,_,[],[],_⟩,rfl,?_⟩
   |refine ⟨⟨zS,_,_,false,_,[],[],ze59⟩,rfl,?_⟩
  |refine cb_pick g0 ?_ ?_ ?_ ?_ ?_
  |exact .inl rfl
  |exact .inr rfl
  |exact .inr ‹_›
  |grind
theorem far272 {e:List WV} {b:List Int} {l:List Int} {K:WKF} (he:e.all leafB=true) (g0:b.length<=20000000) (g1:l.length<=2) (hK:∀(b2:List Int) (Tc:TL),b2.length<=b.length+2*11->K (.tup []) [(1,.box 0 0),(3,.box 1 0)] ⟨[(0,.box e false),(1,.box [.lst (b2.map c_u8)] false),(2,.row (l.map c_i64) 1 false 2),(3,.frm [(1,.box 0 0),(3,.box 1 0)] Tc)],4⟩):FarS P 175 [.fn 176 [.box 1 0] [],.row 2] [(1,.box 0 0),(3,.box 1 0)] ⟨[(0,.box e false),(1,.box [.lst (b.map c_u8)] false),(2,.row (l.map c_i64) 1 false 2)],3⟩ K:=by
 refine fI (Y:=Yf [176]) [(1,.box 0 0),(3,.box 1 0)] ⟨rfl,rfl,trivial⟩ Tryz.func175 (by kernel_rfl) λTc=>?_
 repeat' first
  |with_reducible assumption
  |(conv=>whnf);first
   |apply bD<;>intro h
   |refine lM ?_
   |refine wR ?_ ?_ ?_
   |refine wL ?_ ?_ λx hx=>?_
   |refine V2 (λ(p:Int) (c:List Int)=>0<=p/\p<=(l.length:Int)/\(c.length:Int)<=b.length+11*p) (λp c=>[(0,.fn 176 [.box 1 0] []),(6,.row 2),(7,sI (l.length:Int)),(8,sI p)]) (λp c=>⟨[(0,.box e false),(1,.box [.lst (c.map c_u8)] false),(2,.row (l.map c_i64) 1 false 2),(3,.frm [(1,.box 0 0),(3,.box 1 0)] Tc)],4⟩) (λp c=>((l.length:Int)-p).toNat) (0:Int) b ?_ (ft [(0,some 0),(1,some 1),(2,some 2),(3,some 3)] rfl rfl rfl ⟨fB rfl he rfl,fB rfl rfl rfl,fR (f:=c_i64) rfl rfl λ_=>rfl,fM rfl rfl rfl rfl,trivial⟩) λp c ⟨i0,i1,i2⟩=>?_
   |refine fI (Y:=Yf [176]) [(0,.fn 176 [.box 1 0] []),(6,.row 2),(7,sI (l.length:Int)),(8,sI p)] ⟨rfl,rfl,rfl,rfl,trivial⟩ Tryz.func176 (by kernel_rfl) λTc2=>?_
   |refine wC (w269 c x ?_) λz hz=>?_
   |refine ⟨⟨nx _,_⟩,?_,?_,(ft [(0,some 0),(1,some 1),(2,some 2),(3,some 3)] rfl rfl rfl ⟨fB rfl he rfl,fB rfl rfl rfl,fR (f:=c_i64) rfl rfl λ_=>rfl,fM rfl rfl rfl rfl,trivial⟩)⟩
   |refine ⟨rfl,?_⟩
  |exact hK _ _ (by omega)
  |omega
  |dsimp only
  |with_reducible apply And.intro
  |(simp (disch:=omega) only [ls]<;>omega)
theorem w268 (a0:List Int) (a1:ByteArray) (g0:a0.length<=90000000) (g1:a1.size<=1000000):WQv 245 [.lst (a0.map c_u8),sS a1] (λr:List Int=>.lst (r.map c_u8)) (λr=>r.length<=a0.length+11+a1.size):=by
 refine gO Tryz.func245 ?_
 repeat' first
  |with_reducible assumption
  |(conv=>whnf);first
   |refine wO (o380 _ _ ?_ ?_ ?_) λz380 h380=>?_
   |refine wU (leafs_map (f:=c_u8) (λ_=>rfl) _) (u379 _ _ ?_ ?_) (λz379 hz379=>?_) rfl rfl rfl
   |refine ⟨_,_,deep0 (leafs_map (f:=c_u8) (λ_=>rfl) _),?_⟩
   |refine ⟨_,rfl,?_⟩
  |omega
  |(simp (disch:=omega) only [ls]<;>omega)
theorem far276 {e:List WV} {b:List Int} {l:List Bool} {K:WKF} (he:e.all leafB=true) (g0:b.length<=20000000) (g1:l.length<=2) (hK:∀(b2:List Int) (Tc:TL),b2.length<=b.length+2*1->K (.tup []) [(1,.box 0 0),(3,.box 1 0)] ⟨[(0,.box e false),(1,.box [.lst (b2.map c_u8)] false),(2,.row (l.map cBool) 1 false 2),(3,.frm [(1,.box 0 0),(3,.box 1 0)] Tc)],4⟩):FarS P 179 [.fn 180 [.box 1 0] [],.row 2] [(1,.box 0 0),(3,.box 1 0)] ⟨[(0,.box e false),(1,.box [.lst (b.map c_u8)] false),(2,.row (l.map cBool) 1 false 2)],3⟩ K:=by
 refine fI (Y:=Yf [180]) [(1,.box 0 0),(3,.box 1 0)] ⟨rfl,rfl,trivial⟩ Tryz.func179 (by kernel_rfl) λTc=>?_
 repeat' first
  |with_reducible assumption
  |(conv=>whnf);first
   |apply bD<;>intro h
   |refine lM ?_
   |refine wR ?_ ?_ ?_
   |refine wL ?_ ?_ λx hx=>?_
   |refine V2 (λ(p:Int) (c:List Int)=>0<=p/\p<=(l.length:Int)/\(c.length:Int)<=b.length+1*p) (λp c=>[(0,.fn 180 [.box 1 0] []),(6,.row 2),(7,sI (l.length:Int)),(8,sI p)]) (λp c=>⟨[(0,.box e false),(1,.box [.lst (c.map c_u8)] false),(2,.row (l.map cBool) 1 false 2),(3,.frm [(1,.box 0 0),(3,.box 1 0)] Tc)],4⟩) (λp c=>((l.length:Int)-p).toNat) (0:Int) b ?_ (ft [(0,some 0),(1,some 1),(2,some 2),(3,some 3)] rfl rfl rfl ⟨fB rfl he rfl,fB rfl rfl rfl,fR (f:=cBool) rfl rfl λ_=>rfl,fM rfl rfl rfl rfl,trivial⟩) λp c ⟨i0,i1,i2⟩=>?_
   |refine fI (Y:=Yf [180]) [(0,.fn 180 [.box 1 0] []),(6,.row 2),(7,sI (l.length:Int)),(8,sI p)] ⟨rfl,rfl,rfl,rfl,trivial⟩ Tryz.func180 (by kernel_rfl) λTc2=>?_
   |refine wC (w270 c x ?_) λz hz=>?_
   |refine ⟨⟨nx _,_⟩,?_,?_,(ft [(0,some 0),(1,some 1),(2,some 2),(3,some 3)] rfl rfl rfl ⟨fB rfl he rfl,fB rfl rfl rfl,fR (f:=cBool) rfl rfl λ_=>rfl,fM rfl rfl rfl rfl,trivial⟩)⟩
   |refine ⟨rfl,?_⟩
  |exact hK _ _ (by omega)
  |omega
  |dsimp only
  |with_reducible apply And.intro
  |(simp (disch:=omega) only [ls]<;>omega)
theorem far278 {e:List WV} {b:List Int} {l:List (List Int)} {K:WKF} (he:e.all leafB=true) (g0:b.length<=20000000) (g1:l.length<=2) (g2:∀x∈l,x.length<=1000) (hK:∀(b2:List Int) (Tc:TL),b2.length<=b.length+2*11011->K (.tup []) [(1,.box 0 0),(3,.box 1 0)] ⟨[(0,.box e false),(1,.box [.lst (b2.map c_u8)] false),(2,.row (l.map cL24) 1 false 2),(3,.frm [(1,.box 0 0),(3,.box 1 0)] Tc)],4⟩):FarS P 181 [.fn 182 [.box 1 0] [],.row 2] [(1,.box 0 0),(3,.box 1 0)] ⟨[(0,.box e false),(1,.box [.lst (b.map c_u8)] false),(2,.row (l.map cL24) 1 false 2)],3⟩ K:=by
 refine fI (Y:=Yf [182]) [(1,.box 0 0),(3,.box 1 0)] ⟨rfl,rfl,trivial⟩ Tryz.func181 (by kernel_rfl) λTc=>?_
 repeat' first
  |with_reducible assumption
  |(conv=>whnf);first
   |apply bD<;>intro h
   |refine lM ?_
   |refine wR ?_ ?_ ?_
   |refine wL ?_ ?_ λx hx=>?_
   |refine V2 (λ(p:Int) (c:List Int)=>0<=p/\p<=(l.length:Int)/\(c.length:Int)<=b.length+11011*p) (λp c=>[(0,.fn 182 [.box 1 0] []),(6,.row 2),(7,sI (l.length:Int)),(8,sI p)]) (λp c=>⟨[(0,.box e false),(1,.box [.lst (c.map c_u8)] false),(2,.row (l.map cL24) 1 false 2),(3,.frm [(1,.box 0 0),(3,.box 1 0)] Tc)],4⟩) (λp c=>((l.length:Int)-p).toNat) (0:Int) b ?_ (ft [(0,some 0),(1,some 1),(2,some 2),(3,some 3)] rfl rfl rfl ⟨fB rfl he rfl,fB rfl rfl rfl,fR (f:=cL24) rfl rfl λ_=>rfl,fM rfl rfl rfl rfl,trivial⟩) λp c ⟨i0,i1,i2⟩=>?_
   |refine fI (Y:=Yf [182]) [(0,.fn 182 [.box 1 0] []),(6,.row 2),(7,sI (l.length:Int)),(8,sI p)] ⟨rfl,rfl,rfl,rfl,trivial⟩ Tryz.func182 (by kernel_rfl) λTc2=>?_
   |refine wC (w383 c x ?_ ?_) λz hz=>?_
   |refine ⟨⟨nx _,_⟩,?_,?_,(ft [(0,some 0),(1,some 1),(2,some 2),(3,some 3)] rfl rfl rfl ⟨fB rfl he rfl,fB rfl rfl rfl,fR (f:=cL24) rfl rfl λ_=>rfl,fM rfl rfl rfl rfl,trivial⟩)⟩
   |refine ⟨rfl,?_⟩
  |exact hK _ _ (by omega)
  |exact g2 x (List.mem_of_getElem? hx)
  |(have:=g2 x (List.mem_of_getElem? hx);simp (disch:=omega) only [ls];omega)
  |(have:=g2 x (List.mem_of_getElem? hx);omega)
  |omega
theorem w271 (a0:List Int) (a1:List ByteArray) (g0:a0.length<=50000000) (g1:∀x∈a1,x.size<=1000) (g2:a1.length<=1000):WQv 248 [.lst (a0.map c_u8),.lst (a1.map cStr)] (λr:List Int=>.lst (r.map c_u8)) (λr=>r.length<=a0.length+11+1011*a1.length):=by
 refine goF [325] Tryz.func248 (by kernel_rfl) ?_
 repeat' first
  |with_reducible assumption
  |(conv=>whnf);first
   |apply bD<;>intro h
   |refine wO (o380 _ _ ?_ ?_ ?_) λz380 h380=>?_
   |refine fI (Y:=Yf [325]) [] trivial Tryz.func325 (by kernel_rfl) λTc=>?_
   |refine lM ?_
   |refine wG ?_ ?_ (λ_=>rfl) λx hx hm=>?_
   |refine wU (leafs_map (f:=c_u8) (λ_=>rfl) _) (u379 b x ?_ ?_) (λz379 hz379=>?_) rfl rfl rfl
   |refine wU (leafs_map (f:=c_u8) (λ_=>rfl) _) (u381 _ _ ?_) (λz381 hz381=>?_) rfl rfl rfl
   |refine V2 (λ(p:Int) (b:List Int)=>0<=p/\p<=(a1.length:Int)/\(b.length:Int)<=a0.length+11+1011*p) (λp b=>[(0,.row 0),(1,.lst (a1.map cStr)),(2,.fnp 322 [] []),(13,.lst (a1.map cStr)),(14,sI (a1.length:Int)),(15,sI p)]) (λp b=>⟨[(0,.row (b.map c_u8) 1 false 0),(1,.frm [] Tc)],2⟩) (λp b=>((a1.length:Int)-p).toNat) (0:Int) z381 ?_ (ft [(0,some 2),(1,some 1)] rfl rfl rfl ⟨fR (f:=c_u8) rfl rfl λ_=>rfl,fM rfl rfl rfl rfl,trivial⟩) λp b ⟨i0,i1,i2⟩=>?_
   |refine ⟨⟨nx _,_⟩,?_,?_,(ft [(0,some 2),(1,some 1)] rfl rfl rfl ⟨fR (f:=c_u8) rfl rfl λ_=>rfl,fM rfl rfl rfl rfl,trivial⟩)⟩
   |refine ⟨_,_,deep0 (leafs_map (f:=c_u8) (λ_=>rfl) _),?_⟩
   |refine ⟨rfl,?_⟩
   |refine ⟨_,rfl,?_⟩
  |(have:=g1 x hm;omega)
  |(have:=g1 x hm;simp (disch:=omega) only [ls];omega)
  |omega
  |(simp (disch:=omega) only [ls]<;>omega)
theorem w50q (r:RP) (i:Int) (g0:r.d.f1.length<=12) (g1:∀e∈r.d.f1,EB e) {X:WV->Prop} {Y:Prop} (h:∀b:EP×Bool,(b.2=true->b.1.d∈r.d.f1/\b.1.d.f0=i)->(b.2=false->getI r.d.f1 i=none)->GetW r i b->X (.tup [.agg b.1.c,sB b.2])):(∃G,WValid P 49 [.pin (nth r.xs 1),sI i] G/\∀v,G v->X v)\/Y:=by
 obtain ⟨b,hq,hw⟩:=pick (π:=λb:EP×Bool=>(b.1.d,b.2)) (w50 r.d.f1 i (by omega)) (.cons r.p1 (.cons .sc .nil)) (exC exP (exC exS exN)) (pinT (g:=λa=>aE a) (g':=λb:EP=>.agg b.c) (π:=EP.d) pinE)
 exact wC hw λz' e=>by subst e;exact h _ hq.1 hq.2.2 hw
theorem w315 (a0:List S71) (a1:Int) (a2:ByteArray) (g0:a0.length<=1000000):WQv 284 [.lst (a0.map S71.c),sI a1,sS a2] (λr:Int×Bool=>.tup [sI r.1,sB r.2]) (λr=>True):=by
 refine gO Tryz.func284 ?_
 repeat' first
  |with_reducible assumption
  |(conv=>whnf);first
   |apply br<;>intro h
   |refine wC (w411 _ _ _ ?_) λz411 hz=>?_
   |refine wG ?_ ?_ (λ_=>rfl) λx hx hm=>?_
   |refine ⟨(_,true),rfl,?_⟩
   |refine ⟨((0:Int),false),rfl,?_⟩
  |omega
  |dsimp only
  |grind
theorem w461 (a0:List S71) (a1:Int) (a2:ByteArray) (a3:Int) (g0:a0.length<=1000000):WQv 317 [.lst (a0.map S71.c),sI a1,sS a2,sI a3] (λr:List S71=>.lst (r.map S71.c)) (λr=>r.length<=a0.length+1):=by
 refine gO Tryz.func317 ?_
 repeat' first
  |with_reducible assumption
  |(conv=>whnf);first
   |apply br<;>intro h
   |refine wC (w411 _ _ _ ?_) λz411 hz=>?_
   |refine ⟨lens_map (f:=S71.c) (λ_=>rfl),?_,?_,slB _ ?_⟩
   |refine ⟨lens_map (f:=S71.c) (λ_=>rfl),?_,?_,slA _ _ ?_⟩
   |refine wA (l:=[]) (f:=S71.c) (m:=_) rfl (λ_=>⟨rfl,rfl⟩) ?_ ?_ ?_
   |refine wA (f:=S71.c) (m:=[⟨_,_,_⟩]) rfl (λ_=>⟨rfl,rfl⟩) ?_ ?_ ?_
   |refine wA (f:=S71.c) (m:=_) rfl (λ_=>⟨rfl,rfl⟩) ?_ ?_ ?_
   |refine ⟨_,_,deep0 (leafs_map (f:=S71.c) (λ_=>rfl) _),?_⟩
   |refine ⟨_,rfl,?_⟩
  |omega
  |dsimp only
  |(simp (disch:=omega) only [ls]<;>omega)
  |grind
theorem o509 (a0:List S65) (a1:List Int) (g0:a0.length<=1000000) (g1:∀e∈a0,EB e) (g2:a1.length<=1000000):WSQ 442 [lE a0,lI a1] 1 c_i64 (λr=>r.length<=a0.length):=by
 refine goS [] Tryz.func442 (by kernel_rfl) ?_
 repeat' first
  |with_reducible assumption
  |(conv=>whnf);first
   |apply bD<;>intro h
   |refine wC (w285 a0 ?_) λz285 hz=>?_
   |refine wSn (o478 487 (λx hx=>wq_mono (w519 x) λr hr=>by subst hr;unfold EB at hx;omega) a0 _ ?_ ?_ ?_) (λ_=>rfl) (λz hz=>?_) λhz=>?_
   |refine lM ?_
   |refine wG ?_ ?_ (λ_=>rfl) λx hx hm=>?_
   |refine lkT (λi hi=>?_) ?_
   |refine V2 (λ(p:Int) (r:List Int)=>0<=p/\p<=(a1.length:Int)/\(r.length:Int)<=8*p) (λp r=>[(0,lE a0),(5,.imb (GI a0)),(6,.row 0),(13,lI a1),(14,sI (a1.length:Int)),(15,sI p)]) (λp r=>⟨[(0,.row (r.map c_i64) 1 false 0)],1⟩) (λp r=>((a1.length:Int)-p).toNat) (0:Int) [] ?_ (ft [(0,none)] rfl rfl rfl ⟨f0 rfl rfl,trivial⟩) λp r ⟨i0,i1,i2⟩=>?_
   |refine wA (f:=c_i64) (m:=_) rfl (λ_=>⟨rfl,rfl⟩) ?_ ?_ ?_
   |refine ⟨⟨nx _,r⟩,?_,?_,(ft [(0,some 0)] rfl rfl rfl ⟨fR (f:=c_i64) rfl rfl λ_=>rfl,trivial⟩)⟩
   |refine ⟨⟨nx _,_⟩,?_,?_,(ft [(0,some 1)] rfl rfl rfl ⟨fR (f:=c_i64) rfl rfl λ_=>rfl,trivial⟩)⟩
   |refine ⟨_,_,deep0 (leafs_map (f:=c_i64) (λ_=>rfl) _),?_⟩
   |refine ⟨leafs_map (f:=c_i64) (λ_=>rfl) _,_,rfl,?_⟩
   |refine ⟨rfl,[],rfl,?_⟩
  |(have:=g1 _ hm;unfold EB at this;have:=i2;simp (disch:=omega) only [ls];omega)
  |(have:=g1 _ hm;unfold EB at this;omega)
  |omega
  |dsimp only
  |with_reducible apply And.intro
  |(simp (disch:=omega) only [ls]<;>omega)
theorem w1243 (a0:ByteArray) (g0:(a0.size:Int)<=1000000000):WQv 184 [sS a0,.sc (.string (⟨#[58]⟩:ByteArray))] (λr:ByteArray×ByteArray×Bool=>.tup [sS r.1,sS r.2.1,sB r.2.2]) (λr=>r.1.size<=a0.size/\r.2.1.size<=a0.size):=by
 refine gO Tryz.func184 ?_
 repeat' first
  |with_reducible assumption
  |(conv=>whnf);first
   |refine wC (w1333 _ ?_) λz1333 hz=>?_
   |refine ⟨(_,_,_),rfl,?_⟩
theorem w397 (a0:S65) (a1:List S65) (g0:a1.length<=1000000) (g1:∀e∈a1,EB e) (g2:EB a0):WQP 299 [.ipt (S65.c a0),.ipt [lE a1]] (λ_:Unit=>.tup []) (λ_=>True) PV:=by
 refine goP Tryz.func299 (by kernel_rfl) ?_
 repeat' first
  |with_reducible assumption
  |(conv=>whnf);first
   |apply bD<;>intro h
   |apply bJ<;>intro h
   |apply bS<;>intro h
   |apply bT'<;>intro h
   |refine wC (w297 _ _ ?_) λz297 hz=>?_
   |refine wP (w294 _ _) (λz hz=>?_) λv hv=>?_
   |refine wP (w295 _) (λz hz=>hz.elim) λv hv=>?_
   |refine wC (w398 _ _ _) λz398 hz=>?_
   |refine wC (w399 _ _ _ ?_ ?_) λz399 hz=>?_
   |refine wC (w124 _ ?_ ?_) λz124 hz=>?_
   |refine wC (w125 _ _ ?_) λz125 hz=>?_
   |refine ⟨by kernel_rfl,?_⟩
   |refine ⟨(),rfl,?_⟩
   |exact pan_ok ‹_›
  |omega
theorem w298 (a0:S65) (a1:List S65) (g0:EB a0) (g1:a1.length<=1000000) (g2:∀e∈a1,EB e):WQv 220 [aE a0,lE a1] sI (λr=>True):=by
 refine gO Tryz.func220 ?_
 repeat' first
  |with_reducible assumption
  |(conv=>whnf);first
   |apply bD<;>intro h
   |refine wC (w124 _ ?_ ?_) λz124 hz=>?_
   |refine wC (w125 _ _ ?_) λz125 hz=>?_
   |refine wC (w400 _ _ ?_) λz400 hz=>?_
   |refine ⟨by kernel_rfl,?_⟩
   |refine wC (w401 _ _ _ ?_ ?_ ?_ ?_) λz401 hz=>?_
   |refine ⟨(20:Int),rfl,?_⟩
   |refine ⟨_,rfl,?_⟩
  |omega
  |grind
theorem w487 (a0:List S65) (a1:List Int) (g0:a0.length<=1000000) (g1:a1.length<=1000000):WQv 304 [lE a0,lI a1] lE (λr=>r.length<=a1.length/\∀x∈r,x∈a0):=by
 refine gO Tryz.func304 ?_
 repeat' first
  |with_reducible assumption
  |(conv=>whnf);first
   |apply bD<;>intro h
   |apply br<;>intro h
   |refine lM ?_
   |refine ⟨Int.le_refl 0,?_,?_,?_,[],rfl,?_⟩
   |refine V2 (λ(p0:List S65) (p1:Int)=>0<=p1/\p1<=(a1.length:Int)/\(p0.length:Int)<=p1/\(∀x∈p0,x∈a0)) (λ_ p1=>[(0,lE a0),(5,.row 0),(13,lI a1),(14,sI (a1.length:Int)),(15,sI p1)]) (λp0 _=>⟨[(0,.row (p0.map S65.c) 29 false 0)],1⟩) (λ_ p1=>((a1.length:Int)+1-p1).toNat) ([]:List S65) (0:Int) ?_ (fR1 0 rfl rfl rfl λ_=>rfl) λp0 p1 ⟨i0,i1,i2,i3⟩=>?_
   |refine wG ?_ ?_ (λ_=>rfl) λx hx hm=>?_
   |refine wC (w50 _ _ ?_) λz50 hz=>?_
   |refine wA (f:=S65.c) (m:=[_]) rfl (λ_=>⟨rfl,rfl⟩) ?_ ?_ ?_
   |refine ⟨⟨_,nx _⟩,?_,?_,(fR1 3 rfl rfl rfl λ_=>rfl)⟩
   |refine ⟨⟨_,nx _⟩,?_,?_,(fR1 0 rfl rfl rfl λ_=>rfl)⟩
   |refine ⟨_,_,deep0 (leafs_map (f:=S65.c) (λ_=>rfl) _),?_⟩
   |refine ⟨_,rfl,?_⟩
  |omega
  |dsimp only
  |with_reducible apply And.intro
  |(simp (disch:=omega) only [ls]<;>omega)
  |contradiction
  |intro hr
  |grind
theorem w523 (a0:List S65) (a1:S65) (g0:a0.length<=1000000) (g1:EB a1):WQv 491 [lE a0,aE a1] (λr:Int×Bool=>.tup [sI r.1,sB r.2]) (λr=>True):=by
 refine gO Tryz.func491 ?_
 repeat' first
  |with_reducible assumption
  |(conv=>whnf);first
   |apply bD<;>intro h
   |apply br<;>intro h
   |refine lM ?_
   |refine V1 (λ(p0:Int)=>0<=p0/\p0<=(a1.f9.length:Int)) (λp0=>[(0,lE a0),(11,lI a1.f9),(12,sI (a1.f9.length:Int)),(13,sI p0)]) (λ_=>⟨[],0⟩) (λp0=>((a1.f9.length:Int)+1-p0).toNat) (0:Int) ?_ (fN rfl rfl) λp0 ⟨i0,i1⟩=>?_
   |refine wG ?_ ?_ (λ_=>rfl) λx hx hm=>?_
   |refine wC (w50 _ _ ?_) λz50 hz=>?_
   |refine ⟨nx _,?_,?_,(fN rfl rfl)⟩
   |refine ⟨(_,true),rfl,?_⟩
   |refine ⟨((0:Int),false),rfl,?_⟩
  |omega
  |dsimp only
  |with_reducible apply And.intro
  |grind
theorem w472 (a0:List Int) (a1:List Int) (g0:a0.length<=1000000000) (g1:a1.length<=1000000000):WQv 391 [lI a0,lI a1] lI (λr=>r.length<=a0.length/\r.Nodup):=by
 refine gO Tryz.func391 ?_
 repeat' first
  |with_reducible assumption
  |(conv=>whnf);first
   |apply bD<;>intro h
   |apply bN<;>intro h
   |refine wC (w163 a1 ?_) λz163b h163b=>?_
   |refine wC (w163 a0 ?_) λz163 h163=>?_
   |refine lM ?_
   |refine wG (l:=z163) ?_ ?_ (λ_=>rfl) λx hx hm=>?_
   |refine wC (w512 z163b _ ?_) λz512 h512=>?_
   |refine V2 (λ(p:Int) (o:List Int)=>0<=p/\p<=(z163.length:Int)/\Fr (λ_=>True) z163 o p/\(o.length:Int)<=p) (λp o=>[(5,lI z163b),(6,.row 0),(14,lI z163),(15,sI (z163.length:Int)),(16,sI p)]) (λp o=>⟨[(0,.row (o.map c_i64) 1 false 0)],1⟩) (λp o=>((z163.length:Int)-p).toNat) (0:Int) [] ?_ (ft [(0,none)] rfl rfl rfl ⟨f0 rfl rfl,trivial⟩) λp o ⟨i0,i1,i2,i3⟩=>?_
   |refine wA (f:=c_i64) (m:=[_]) rfl (λ_=>⟨rfl,rfl⟩) ?_ ?_ ?_
   |refine ⟨⟨nx _,o⟩,?_,?_,(ft [(0,some 0)] rfl rfl rfl ⟨fR (f:=c_i64) rfl rfl λ_=>rfl,trivial⟩)⟩
   |refine ⟨⟨nx _,_⟩,?_,?_,(ft [(0,some 2)] rfl rfl rfl ⟨fR (f:=c_i64) rfl rfl λ_=>rfl,trivial⟩)⟩
   |refine ⟨_,_,deep0 (leafs_map (f:=c_i64) (λ_=>rfl) _),?_⟩
   |refine ⟨_,rfl,?_⟩
  |exact fr0
  |exact fr_skip i0 (by omega) i2
  |exact fr_snoc h163.2.2 i0 (by omega) hx i2 trivial
  |exact i2.1
  |omega
  |dsimp only
  |with_reducible apply And.intro
  |(simp (disch:=omega) only [ls]<;>omega)
theorem w109 (a0:S65) (g0:EB a0):WQv 61 [aE a0] aE (λr=>EB r/\r.f0=a0.f0):=by
 refine gO Tryz.func61 ?_
 repeat' first
  |(conv=>whnf);first
   |refine wC (w172 _ _ ?_) λz172 hz=>?_
   |refine ⟨⟨_,_,_,_,_,_,_,_,_,_,z172,_,_⟩,rfl,?_⟩
  |dsimp only
  |with_reducible apply And.intro
  |grind
theorem far274 {e:List WV} {b:List Int} {l:List ByteArray} {K:WKF} (he:e.all leafB=true) (g0:b.length<=20000000) (g1:l.length<=2) (g2:∀x∈l,x.size<=900000) (hK:∀(b2:List Int) (Tc:TL),b2.length<=b.length+2*900011->K (.tup []) [(1,.box 0 0),(3,.box 1 0)] ⟨[(0,.box e false),(1,.box [.lst (b2.map c_u8)] false),(2,.row (l.map cStr) 1 false 2),(3,.frm [(1,.box 0 0),(3,.box 1 0)] Tc)],4⟩):FarS P 177 [.fn 178 [.box 1 0] [],.row 2] [(1,.box 0 0),(3,.box 1 0)] ⟨[(0,.box e false),(1,.box [.lst (b.map c_u8)] false),(2,.row (l.map cStr) 1 false 2)],3⟩ K:=by
 refine fI (Y:=Yf [178]) [(1,.box 0 0),(3,.box 1 0)] ⟨rfl,rfl,trivial⟩ Tryz.func177 (by kernel_rfl) λTc=>?_
 repeat' first
  |with_reducible assumption
  |(conv=>whnf);first
   |apply bD<;>intro h
   |refine lM ?_
   |refine wR ?_ ?_ ?_
   |refine wL ?_ ?_ λx hx=>?_
   |refine V2 (λ(p:Int) (c:List Int)=>0<=p/\p<=(l.length:Int)/\(c.length:Int)<=b.length+900011*p) (λp c=>[(0,.fn 178 [.box 1 0] []),(6,.row 2),(7,sI (l.length:Int)),(8,sI p)]) (λp c=>⟨[(0,.box e false),(1,.box [.lst (c.map c_u8)] false),(2,.row (l.map cStr) 1 false 2),(3,.frm [(1,.box 0 0),(3,.box 1 0)] Tc)],4⟩) (λp c=>((l.length:Int)-p).toNat) (0:Int) b ?_ (ft [(0,some 0),(1,some 1),(2,some 2),(3,some 3)] rfl rfl rfl ⟨fB rfl he rfl,fB rfl rfl rfl,fR (f:=cStr) rfl rfl λ_=>rfl,fM rfl rfl rfl rfl,trivial⟩) λp c ⟨i0,i1,i2⟩=>?_
   |refine fI (Y:=Yf [178]) [(0,.fn 178 [.box 1 0] []),(6,.row 2),(7,sI (l.length:Int)),(8,sI p)] ⟨rfl,rfl,rfl,rfl,trivial⟩ Tryz.func178 (by kernel_rfl) λTc2=>?_
   |refine wC (w268 c x ?_ ?_) λz hz=>?_
   |refine ⟨⟨nx _,_⟩,?_,?_,(ft [(0,some 0),(1,some 1),(2,some 2),(3,some 3)] rfl rfl rfl ⟨fB rfl he rfl,fB rfl rfl rfl,fR (f:=cStr) rfl rfl λ_=>rfl,fM rfl rfl rfl rfl,trivial⟩)⟩
   |refine ⟨rfl,?_⟩
  |exact hK _ _ (by omega)
  |exact Nat.le_trans (g2 x (List.mem_of_getElem? hx)) (by decide)
  |(have:=g2 x (List.mem_of_getElem? hx);simp (disch:=omega) only [ls];omega)
  |omega
theorem w206 (a0:S61) (g0:CB a0 400 100):WQv 141 [.agg (S61.c a0)] (λr:List Int=>.lst (r.map c_u8)) (λr=>r.length<=900000):=by
 refine gO Tryz.func141 ?_
 repeat' first
  |with_reducible assumption
  |(conv=>whnf);first
   |apply bD<;>intro h
   |refine ⟨(by kernel_rfl:drawW _ _ _=true),?_⟩
   |refine lM ?_
   |refine wC (w268 [] a0.f0 ?_ ?_) λb1 h1=>?_
   |refine wC (w269 b1 _ ?_) λb2 h2=>?_
   |refine wC (w269 b2 _ ?_) λb3 h3=>?_
   |refine wC (w270 b3 _ ?_) λb4 h4=>?_
   |refine wC (w268 b4 a0.f4 ?_ ?_) λb5 h5=>?_
   |refine wC (w271 b5 a0.f5 ?_ ?_ ?_) λb6 h6=>?_
   |refine wC (w271 b6 a0.f6 ?_ ?_ ?_) λb7 h7=>?_
   |refine wC (w269 b7 _ ?_) λb8 h8=>?_
   |refine V2 (λ(p:Int) (b:List Int)=>0<=p/\p<=(a0.f7.f0.length:Int)/\(b.length:Int)<=300000+1000*p) (λp b=>[(3,.lst (b.map c_u8)),(4,.box 1 0),(46,.lst (a0.f7.f0.map S179.c)),(47,sI (a0.f7.f0.length:Int)),(48,sI p)]) (λp b=>⟨[(1,.box (S59.c a0.f7) false)],2⟩) (λp b=>((a0.f7.f0.length:Int)-p).toNat) (0:Int) _ ?_ (ft [(1,some 1)] rfl rfl rfl ⟨fB rfl rfl rfl,trivial⟩) λp b ⟨i0,i1,i2⟩=>?_
   |refine wC (w268 b x.f0 ?_ ?_) λc1 k1=>?_
   |refine wC (w269 c1 _ ?_) λc2 k2=>?_
   |refine wC (w269 b _ ?_) λc1 k1=>?_
   |refine wG (l:=a0.f7.f0) ?_ ?_ (λ_=>rfl) λx hx hm=>?_
   |refine wG (l:=a0.f7.f1) ?_ ?_ (λ_=>rfl) λx hx hm=>?_
   |refine V2 (λ(p:Int) (b:List Int)=>0<=p/\p<=(a0.f7.f1.length:Int)/\(b.length:Int)<=500000+1000*p) (λp b=>[(3,.lst (b.map c_u8)),(4,.box 1 0),(66,.lst (a0.f7.f1.map S215.c)),(67,sI (a0.f7.f1.length:Int)),(68,sI p)]) (λp b=>⟨[(1,.box (S59.c a0.f7) false)],2⟩) (λp b=>((a0.f7.f1.length:Int)-p).toNat) (0:Int) _ ?_ (ft [(1,some 1)] rfl rfl rfl ⟨fB rfl rfl rfl,trivial⟩) λp b ⟨i0,i1,i2⟩=>?_
   |refine V2 (λ(p:Int) (b:List Int)=>0<=p/\p<=7/\(b.length:Int)<=700000+11*p) (λp b=>[(3,.lst (b.map c_u8)),(94,.agg (A7.c (⟨a0.f7.f2,a0.f7.f3,a0.f7.f4,a0.f7.f5,a0.f7.f6,a0.f7.f7,a0.f7.f8⟩:A7))),(95,sI p)]) (λ_ _=>⟨[],0⟩) (λp b=>(7-p).toNat) (0:Int) _ ?_ (fN rfl rfl) λp b ⟨i0,i1,i2⟩=>?_
   |refine ⟨⟨nx _,_⟩,?_,?_,(fN rfl rfl)⟩
   |refine ⟨⟨nx _,_⟩,?_,?_,(ft [(1,some 1)] rfl rfl rfl ⟨fB rfl rfl rfl,trivial⟩)⟩
   |refine arr3 ?_ ?_ ?_
   |refine arrC (λhk=>?_) ?_
   |trivial
   |refine ⟨_,rfl,?_⟩
  |(obtain ⟨q0,q1,q2,q3,q4,q5,q6,q7,q8⟩:=g0;(try simp only [List.length_nil] at *);first | omega | (simp (disch:=omega) only [ls];omega) | (exact λx hx=>Nat.le_trans (q6 x hx) (by decide)) | (exact λx hx=>Nat.le_trans (q7 x hx) (by decide)) | (have:=q8 _ hm;omega) | (have:=q8 _ hm;simp (disch:=omega) only [ls];omega))
end Go.Abs.RM
