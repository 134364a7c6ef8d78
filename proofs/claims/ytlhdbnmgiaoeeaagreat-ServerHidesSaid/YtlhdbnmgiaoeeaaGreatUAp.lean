/- Of ServerHides: walks. -/
import Derived.Test.YtlhdbnmgiaoeeaaGreatUAo
set_option linter.all false
namespace Go.Abs.RM
open Go.Proofs Go.Proofs.RMH
set_option maxRecDepth 100000
set_option maxHeartbeats 40000000
theorem w400 (a0:S59) (a1:Int) (g0:a0.f1.length<=1000000):WQv 302 [.agg (S59.c a0),sI a1] sI (λr=>True):=by
 refine gO Tryz.func302 ?_
 repeat' first
  |with_reducible assumption
  |(conv=>whnf);first
   |apply bD<;>intro h
   |apply br<;>intro h
   |refine lM ?_
   |refine V1 (λ(p0:Int)=>0<=p0/\p0<=(a0.f1.length:Int)) (λp0=>[(1,sI a1),(2,.box 0 0),(8,.lst (a0.f1.map S215.c)),(9,sI (a0.f1.length:Int)),(10,sI p0)]) (λ_=>⟨[(0,.box (S59.c a0) false)],1⟩) (λp0=>((a0.f1.length:Int)+1-p0).toNat) (0:Int) ?_ (fB1 rfl rfl rfl rfl) λp0 ⟨i0,i1⟩=>?_
   |refine wG ?_ ?_ (λ_=>rfl) λx hx hm=>?_
   |refine ⟨nx _,?_,?_,(fB1 rfl rfl rfl rfl)⟩
   |refine wC (w107 _) λz107 hz=>?_
   |refine ⟨_,rfl,?_⟩
  |omega
  |dsimp only
  |with_reducible apply And.intro
  |(simp (disch:=omega) only [ls]<;>omega)
theorem w540 (a0:List S65) (a1:S71) (g0:a0.length<=1000000):WQv 529 [lE a0,.agg (S71.c a1)] (λr:S65×Bool=>.tup [aE r.1,sB r.2]) (λr=>r.2=true->r.1∈a0):=by
 refine gO Tryz.func529 ?_
 repeat' first
  |with_reducible assumption
  |(conv=>whnf);first
   |apply bD<;>intro h
   |refine wC (w164 _ (λx0_ r=>True) _ _ rfl (λx0_=>w541 _ _) ?_) λz164 hz=>?_
   |refine wG ?_ ?_ (λ_=>rfl) λx hx hm=>?_
   |refine ⟨(ze65,false),rfl,?_⟩
   |refine ⟨(_,true),rfl,?_⟩
  |omega
  |dsimp only
  |contradiction
  |intro hr
theorem w225 (a0:Int) (g0:0<=a0) (g1:a0<18446744073709551616):WQv 197 [.sc (.int .u64 a0)] sI (λr=>True):=by
 refine gO Tryz.func197 ?_
 repeat' first
  |with_reducible assumption
  |(conv=>whnf);first
   |refine wC (w314 _ ?_ ?_) λz314 hz=>?_
   |refine ⟨_,rfl,?_⟩
theorem w567 (a0:S472) (a1:S472):WQv 608 [.agg (S472.c a0),.agg (S472.c a1)] sI (λ_=>True):=by
 refine gO Tryz.func608 ?_
 repeat' first
  |with_reducible assumption
  |(conv=>whnf);first
   |apply bJ<;>intro h
   |refine wC (w568 _ _) λz568 h568=>?_
   |refine ⟨_,rfl,?_⟩
theorem w310 (a0:Int) (a1:Int):WQv 279 [sI a0,sI a1] sB (λr=>True):=by
 refine gO Tryz.func279 ?_
 repeat' first
  |with_reducible assumption
  |(conv=>whnf);first
   |apply bN<;>intro h
   |apply br<;>intro h
   |refine wC (w410 _) λz410 hz=>?_
   |refine ⟨true,rfl,?_⟩
   |refine ⟨_,rfl,?_⟩
theorem w231 (a0:Int):WQv 86 [sI a0] sI (λr=>True):=by
 refine gO Tryz.func86 ?_
 repeat' first
  |with_reducible assumption
  |(conv=>whnf);first
   |apply bI<;>intro h
   |refine wC (w319 _) λz319 hz=>?_
   |refine ⟨(18:Int),rfl,?_⟩
   |refine ⟨_,rfl,?_⟩
  |omega
  |dsimp only
theorem w205 (a0:List Int) (g0:a0.length<=1000000000):WQv 87 [.lst (a0.map c_u8)] sI (λr=>True):=by
 refine gO Tryz.func87 ?_
 repeat' first
  |with_reducible assumption
  |(conv=>whnf);first
   |refine wC (w267) λz267 hz=>?_
   |refine wC (w266 _ _ ?_) λz266 hz=>?_
   |refine ⟨_,rfl,?_⟩
theorem w269 (a0:List Int) (a1:Int) (g0:a0.length<=100000000):WQv 246 [.lst (a0.map c_u8),sI a1] (λr:List Int=>.lst (r.map c_u8)) (λr=>r.length<=a0.length+11):=by
 refine gO Tryz.func246 ?_
 repeat' first
  |(conv=>whnf);first
   |refine wO (o380 _ _ ?_ ?_ ?_) λz380 h380=>?_
   |refine wU (leafs_map (f:=c_u8) (λ_=>rfl) _) (u381 _ _ ?_) (λz381 hz381=>?_) rfl rfl rfl
   |refine ⟨_,_,deep0 (leafs_map (f:=c_u8) (λ_=>rfl) _),?_⟩
   |refine ⟨_,rfl,?_⟩
  |omega
theorem u379 (a0:List Int) (s:ByteArray) (g0:a0.length<=100000000) (g1:s.size<=1000000):WUQ 322 [sS s] 1 a0 c_u8 (λr=>a0.length<=r.length/\r.length<=a0.length+11+s.size):=by
 refine goUpd Tryz.func322 (by kernel_rfl) (lens_map λ_=>rfl) ?_
 repeat' first
  |(conv=>whnf);first
   |refine ⟨_,_,deep0 (leafs_map (f:=c_u8) (λ_=>rfl) _),?_⟩
   |refine wU (leafs_map (f:=c_u8) (λ_=>rfl) _) (u381 _ _ ?_) (λz381 hz381=>?_) rfl rfl rfl
   |refine wA (f:=c_u8) (m:=strL s) (strL_eq _) (λ_=>⟨rfl,rfl⟩) ?_ ?_ ?_
   |refine ⟨leafs_map (f:=c_u8) (λ_=>rfl) _,_,rfl,?_⟩
  |(simp only [List.length_append,strL_len] at *;omega)
  |omega
theorem w270 (a0:List Int) (a1:Bool) (g0:a0.length<=100000000):WQv 247 [.lst (a0.map c_u8),sB a1] (λr:List Int=>.lst (r.map c_u8)) (λr=>r.length<=a0.length+1):=by
 refine gO Tryz.func247 ?_
 repeat' first
  |(conv=>whnf);first
   |apply br<;>intro h
   |refine wO (o380 _ _ ?_ ?_ ?_) λz380 h380=>?_
   |refine wA (f:=c_u8) (m:=[_]) rfl (λ_=>⟨rfl,rfl⟩) ?_ ?_ ?_
   |refine ⟨_,_,deep0 (leafs_map (f:=c_u8) (λ_=>rfl) _),?_⟩
   |refine ⟨_,rfl,?_⟩
  |(simp only [List.length_append,List.length_singleton];omega)
  |omega
theorem w383 (a0:List Int) (a1:List Int) (g0:a0.length<=50000000) (g2:a1.length<=1000):WQv 263 [.lst (a0.map c_u8),lI a1] (λr:List Int=>.lst (r.map c_u8)) (λr=>r.length<=a0.length+11+11*a1.length):=by
 refine goF [331] Tryz.func263 (by kernel_rfl) ?_
 repeat' first
  |with_reducible assumption
  |(conv=>whnf);first
   |apply bD<;>intro h
   |refine wO (o380 _ _ ?_ ?_ ?_) λz380 h380=>?_
   |refine fI (Y:=Yf [331]) [] trivial Tryz.func331 (by kernel_rfl) λTc=>?_
   |refine lM ?_
   |refine wG ?_ ?_ (λ_=>rfl) λx hx hm=>?_
   |refine wU (leafs_map (f:=c_u8) (λ_=>rfl) _) (u381 b x ?_) (λz381b hz381b=>?_) rfl rfl rfl
   |refine wU (leafs_map (f:=c_u8) (λ_=>rfl) _) (u381 _ _ ?_) (λz381 hz381=>?_) rfl rfl rfl
   |refine V2 (λ(p:Int) (b:List Int)=>0<=p/\p<=(a1.length:Int)/\(b.length:Int)<=a0.length+11+11*p) (λp b=>[(0,.row 0),(1,lI a1),(2,.fnp 324 [] []),(13,lI a1),(14,sI (a1.length:Int)),(15,sI p)]) (λp b=>⟨[(0,.row (b.map c_u8) 1 false 0),(1,.frm [] Tc)],2⟩) (λp b=>((a1.length:Int)-p).toNat) (0:Int) z381 ?_ (ft [(0,some 2),(1,some 1)] rfl rfl rfl ⟨fR (f:=c_u8) rfl rfl λ_=>rfl,fM rfl rfl rfl rfl,trivial⟩) λp b ⟨i0,i1,i2⟩=>?_
   |refine ⟨⟨nx _,_⟩,?_,?_,(ft [(0,some 2),(1,some 1)] rfl rfl rfl ⟨fR (f:=c_u8) rfl rfl λ_=>rfl,fM rfl rfl rfl rfl,trivial⟩)⟩
   |refine ⟨_,_,deep0 (leafs_map (f:=c_u8) (λ_=>rfl) _),?_⟩
   |refine ⟨rfl,?_⟩
   |refine ⟨_,rfl,?_⟩
  |omega
  |dsimp only
  |with_reducible apply And.intro
  |(simp (disch:=omega) only [ls]<;>omega)
theorem w451 (a0:Int) (a1:S61) (g0:CB a1 400 100):WQv 165 [sI a0,.agg (S61.c a1)] sI (λr=>True):=by
 refine gO Tryz.func165 ?_
 repeat' first
  |with_reducible assumption
  |(conv=>whnf);first
   |apply bI<;>intro h
   |apply bT'<;>intro h
   |apply bS<;>intro h
   |apply bD<;>intro h
   |refine wC (w132 _ ?_) λz132 hz=>?_
   |refine ⟨_,rfl,?_⟩
  |omega
  |dsimp only
  |grind
theorem w457 (a0:List ByteArray) (g0:a0.length<=1000) (g1:∀x∈a0,x.size<=1000):WQv 171 [.lst (a0.map cStr)] sI (λr=>True):=by
 refine gO Tryz.func171 ?_
 repeat' first
  |with_reducible assumption
  |(conv=>whnf);first
   |apply bD<;>intro h
   |apply bJ<;>intro h
   |refine lM ?_
   |refine V1 (λ(p0:Int)=>0<=p0/\p0<=(a0.length:Int)) (λp0=>[(9,.lst (a0.map cStr)),(10,sI (a0.length:Int)),(11,sI p0)]) (λ_=>⟨[],0⟩) (λp0=>((a0.length:Int)+1-p0).toNat) (0:Int) ?_ (fN rfl rfl) λp0 ⟨i0,i1⟩=>?_
   |refine wG ?_ ?_ (λ_=>rfl) λx hx hm=>?_
   |refine wC (w132 _ ?_) λz132 hz=>?_
   |refine ⟨nx _,?_,?_,(fN rfl rfl)⟩
   |refine ⟨(7:Int),rfl,?_⟩
   |refine ⟨_,rfl,?_⟩
  |omega
  |dsimp only
  |with_reducible apply And.intro
  |(simp (disch:=omega) only [ls]<;>omega)
  |grind
theorem w450 (a0:S61) (g0:CB a0 400 100):WQv 164 [.agg (S61.c a0)] sI (λr=>True):=by
 refine gO Tryz.func164 ?_
 repeat' first
  |with_reducible assumption
  |(conv=>whnf);first
   |apply bT'<;>intro h
   |apply bJ<;>intro h
   |apply bD<;>intro h
   |apply bN<;>intro h
   |apply br<;>intro h
   |refine lM ?_
   |refine wC (w500 _ ?_ ?_) λz500 hz=>?_
   |refine ⟨_,rfl,?_⟩
  |grind
theorem w502 (a0:List S215) (g0:a0.length<=1000):WQv 261 [.lst (a0.map S215.c)] sI (λr=>True):=by
 refine gO Tryz.func261 ?_
 repeat' first
  |with_reducible assumption
  |(conv=>whnf);first
   |apply bD<;>intro h
   |apply bN<;>intro h
   |apply br<;>intro h
   |refine lM ?_
   |refine V1 (λ(p0:Int)=>0<=p0/\p0<=(a0.length:Int)) (λp0=>[(0,.lst (a0.map S215.c)),(8,.lst (a0.map S215.c)),(9,sI (a0.length:Int)),(10,sI p0)]) (λ_=>⟨[],0⟩) (λp0=>((a0.length:Int)+1-p0).toNat) (0:Int) ?_ (fN rfl rfl) λp0 ⟨i0,i1⟩=>?_
   |refine wG ?_ ?_ (λ_=>rfl) λx hx hm=>?_
   |refine wC (w449 _) λz449 hz=>?_
   |refine ⟨by kernel_rfl,?_⟩
   |refine wC (w503 _) λz503 hz=>?_
   |refine ⟨nx _,?_,?_,(fN rfl rfl)⟩
   |refine ⟨(7:Int),rfl,?_⟩
   |refine ⟨(1:Int),rfl,?_⟩
   |refine ⟨(8:Int),rfl,?_⟩
   |refine ⟨(2:Int),rfl,?_⟩
   |refine ⟨(0:Int),rfl,?_⟩
  |omega
  |dsimp only
  |with_reducible apply And.intro
  |(simp (disch:=omega) only [ls]<;>omega)
theorem w281 (a0:S61) (a1:S61) (g0:CB a0 400 100):WQv 34 [.agg (S61.c a0),.agg (S61.c a1)] sB (λr=>True):=by
 refine gO Tryz.func34 ?_
 repeat' first
  |with_reducible assumption
  |(conv=>whnf);first
   |apply bT'<;>intro h
   |apply bJ<;>intro h
   |apply bN<;>intro h
   |apply bI<;>intro h
   |apply br<;>intro h
   |refine ⟨by kernel_rfl,?_⟩
   |refine ⟨false,rfl,?_⟩
   |refine wC (w387 _ _ ?_) λz387 hz=>?_
   |refine wC (w388 _ _ ?_) λz388 hz=>?_
   |refine wC (w389 _ _ ?_) λz389 hz=>?_
   |refine ⟨_,rfl,?_⟩
  |dsimp only
  |grind
theorem w516 (l:List S422) (a1:S65) (g0:l.length<=100):WQv 433 [.lst (l.map S422.c),aE a1] sI (λr=>-1<=r/\r<(l.length:Int)):=by
 refine gO Tryz.func433 ?_
 repeat' first
  |with_reducible assumption
  |(conv=>whnf);first
   |apply bD<;>intro h
   |apply br<;>intro h
   |refine lM ?_
   |refine wG ?_ ?_ (λ_=>rfl) λx hx hm=>?_
   |refine wC (w517 _ _) λz517 h517=>?_
   |refine V1 (λ(p0:Int)=>0<=p0/\p0<=(l.length:Int)) (λp0=>[(3,.box 0 0),(5,.fnp 434 [] []),(8,.lst (l.map S422.c)),(9,sI (l.length:Int)),(10,sI p0)]) (λ_=>⟨[(0,.box (S65.c a1) false)],1⟩) (λp0=>((l.length:Int)-p0).toNat) (0:Int) ?_ (fB1 rfl rfl rfl rfl) λp0 ⟨i0,i1⟩=>?_
   |refine ⟨nx _,?_,?_,(fB1 rfl rfl rfl rfl)⟩
   |refine ⟨_,rfl,?_⟩
  |omega
  |with_reducible apply And.intro
  |(simp (disch:=omega) only [ls]<;>omega)
theorem w300 (b:Nat) (a0:List S65) (g0:a0.length<=1000000) (g1:∀e∈a0,EB e):WQv 255 [.ipt [.imb (GS b),.imb (GS b),.imb GE],lE a0] lI (λr=>r.length<=a0.length):=by
 refine gO Tryz.func255 ?_
 repeat' first
  |with_reducible assumption
  |(conv=>whnf);first
   |refine wC (w402 a0 (λ_ _=>True) 329 [.ipt [.ipt [.imb (GS b),.imb (GS b),.imb GE]]] rfl (λx=>w403 b x) ?_ ?_) λz402 hz=>?_
   |refine ⟨_,rfl,?_⟩
theorem w245 (a0:ByteArray) (g0:(a0.size:Int)<=9223372036854775807):WQv 77 [sS a0] sB (λr=>r=true->a0.size<=1000):=by
 refine gO Tryz.func77 ?_
 repeat' first
  |with_reducible assumption
  |(conv=>whnf);first
   |apply br<;>intro h
   |refine wC (w334 _ (λx0_ r=>True) _ _ rfl (λx0_=>w336 _) ?_) λz334 hz=>?_
   |refine wS ?_ ?_ λx hb=>?_
   |refine wC (w337 _) λz337 hz=>?_
   |refine ⟨false,rfl,?_⟩
   |refine ⟨_,rfl,?_⟩
  |omega
  |dsimp only
  |(simp (disch:=omega) only [ls]<;>omega)
  |contradiction
  |intro hr
  |grind
theorem w50 (a0:List S65) (a1:Int) (g0:a0.length<=1000000000):WQv 49 [lE a0,sI a1] (λr:S65×Bool=>.tup [aE r.1,sB r.2]) (λr=>(r.2=true->r.1∈a0/\r.1.f0=a1)/\(r.2=true->getI a0 a1=some r.1)/\(r.2=false->getI a0 a1=none)):=by
 refine gO Tryz.func49 ?_
 repeat' first
  |with_reducible assumption
  |(conv=>whnf);first
   |apply bD<;>intro h
   |refine wC (w98 _ _ ?_) λz98 hz=>?_
   |refine wG ?_ ?_ (λ_=>rfl) λx hx hm=>?_
   |refine ⟨(ze65,false),rfl,?_⟩
   |refine ⟨(_,true),rfl,?_⟩
  |(obtain ⟨e,h1,h2⟩:=hz.2.1 (by omega);rw [hx] at h1;cases h1;exact ⟨λ_=>getI_mem h2,λ_=>h2,λh=>by cases h⟩)
  |exact ⟨λh=>by (cases h),λh=>by (cases h),λ_=>hz.2.2 (by omega)⟩
  |omega
theorem w100 (a0:S30) (a1:S65) (g0:a0.f1.length<=12) (g1:∀e∈a0.f1,EB e) (g2:a0.f2.length<=1000000) (g3:a0.f5.length<=1000000):WQv 52 [.ipt (S30.c a0),.ipt (S65.c a1)] sB (λ_=>True):=by
 refine gO Tryz.func52 ?_
 repeat' first
  |with_reducible assumption
  |(conv=>whnf);first
   |refine wC (w101 a0.f2 (λ_ _=>True) 54 [.ipt (S65.c a1)] rfl (λx=>w102 x a1) ?_) λz101 hz=>?_
   |refine ⟨_,rfl,?_⟩
  |omega
theorem w212 (a0:List S65) (g0:a0.length<=1000000) (g1:∀e∈a0,EB e):WQv 143 [lE a0] sI (λ_=>True):=by
 refine gO Tryz.func143 ?_
 repeat' first
  |with_reducible assumption
  |(conv=>whnf);first
   |apply bD<;>intro h
   |apply bN<;>intro h
   |refine wC (w284 a0 ?_ ?_) λz284 hz=>?_
   |refine wC (w285 a0 ?_) λz285 hz=>?_
   |refine lM ?_
   |refine wG ?_ ?_ (λ_=>rfl) λx hx hm=>?_
   |refine wC (w286 a0 x ?_ ?_ ?_ ?_) λz286 hz=>?_
   |refine V1 (λ(p0:Int)=>0<=p0/\p0<=(a0.length:Int)) (λp0=>[(0,lE a0),(3,.imb (GI a0)),(10,lE a0),(11,sI (a0.length:Int)),(12,sI p0)]) (λ_=>⟨[],0⟩) (λp0=>((a0.length:Int)-p0).toNat) (0:Int) ?_ (fN rfl rfl) λp0 ⟨i0,i1⟩=>?_
   |refine ⟨nx _,?_,?_,(fN rfl rfl)⟩
   |refine ⟨_,rfl,?_⟩
  |omega
  |with_reducible apply And.intro
  |(simp (disch:=omega) only [ls]<;>omega)
  |grind
theorem w411 (a0:List S71) (a1:Int) (a2:ByteArray) (g0:a0.length<=1000000):WQv 351 [.lst (a0.map S71.c),sI a1,sS a2] (λr:Int×Bool=>.tup [sI r.1,sB r.2]) (λr=>0<=r.1/\r.1<=(a0.length:Int)/\(r.2=true->r.1<(a0.length:Int))):=by
 refine gO Tryz.func351 ?_
 repeat' first
  |with_reducible assumption
  |(conv=>whnf);first
   |refine wC (w474 _ (λx0_ r=>True) _ _ rfl (λx0_=>w475 _ (⟨a1,a2,(0:Int)⟩:S71)) (λx0_ r=>True) _ _ rfl (λx0_=>w477 _ (⟨a1,a2,(0:Int)⟩:S71)) ?_) λz474 hz=>?_
   |refine ⟨(_,_),rfl,?_⟩
theorem w163 (a0:List Int) (g0:a0.length<=1000000000):WQv 309 [lI a0] lI (λr=>r.length<=a0.length/\(∀x,x∈r↔x∈a0)/\r.Nodup):=wSv (o163 a0 g0)
theorem o478 (f:FuncId) (hf:∀x:S65,EB x->WQv f [aE x] lI (λr=>r.length<=100)) (a0:List S65) (a1:List Int) (g0:a0.length<=1000000) (g1:∀e∈a0,EB e) (g2:a1.length<=100000000):WSQ 403 [lE a0,lI a1,.fnp f [] []] 1 c_i64 (λr=>r.length<=a0.length):=by
 refine goS [] Tryz.func403 (by kernel_rfl) ?_
 repeat' first
  |with_reducible assumption
  |(conv=>whnf);first
   |apply bD<;>intro h
   |refine wC (w285 a0 ?_) λz285 hz=>?_
   |refine wC (hf x ?_) λz hz=>?_
   |refine wSn (o163 _ ?_) (λ_=>rfl) (λz163 hz=>?_) λhz=>?_
   |refine ⟨leafs_map (f:=c_i64) (λ_=>rfl) _,_,rfl,?_⟩
   |refine ⟨rfl,[],rfl,?_⟩
   |refine lM ?_
   |refine wG ?_ ?_ (λ_=>rfl) λx hx hm=>?_
   |refine lkT (λi hi=>?_) ?_
   |refine lkS (λhm=>?_) λhm=>?_
   |refine V3 (λ(fs hs nl:List Int)=>fs.Nodup/\(∀x∈fs,∃e∈a0,e.f0=x)/\nl.length<=100000000) (λfs hs nl=>[(0,lE a0),(2,.fnp f [] []),(7,.imb (GI a0)),(8,.mp 0),(9,.mp 1),(10,.row 2),(11,lI nl)]) (λfs hs nl=>⟨[(0,.set (fs.map (Value.int .i64)) VT),(1,.set (hs.map (Value.int .i64)) VT),(2,.row (fs.map c_i64) 1 false 2)],3⟩) (λfs hs nl=>2*(a0.length-fs.length)+(if nl=[] then 0 else 1)) [] [] _ ?_ (ft [(0,some 0),(1,some 1),(2,none)] rfl rfl rfl ⟨fS rfl rfl λ_ h=>h,fS rfl rfl λ_ h=>h,f0 rfl rfl,trivial⟩) λfs hs nl ⟨j0,j1,j2⟩=>?_
   |refine V4 (λ(p:Int) (fs2 gs lt:List Int)=>0<=p/\p<=(nl.length:Int)/\fs2.Nodup/\(∀x∈fs2,∃e∈a0,e.f0=x)/\lt.length<=100*fs2.length/\fs.length<=fs2.length/\(fs2.length=fs.length->lt=[])) (λp fs2 gs lt=>[(0,lE a0),(2,.fnp f [] []),(7,.imb (GI a0)),(8,.mp 0),(9,.mp 1),(10,.row 2),(12,.row 3),(26,lI nl),(27,sI (nl.length:Int)),(28,sI p)]) (λp fs2 gs lt=>⟨[(0,.set (fs2.map (Value.int .i64)) VT),(1,.set (gs.map (Value.int .i64)) VT),(2,.row (fs2.map c_i64) 1 false 2),(3,.row (lt.map c_i64) 1 false 3)],4⟩) (λp fs2 gs lt=>((nl.length:Int)-p).toNat) (0:Int) fs [] [] ?_ (ft [(0,some 0),(1,some 1),(2,some 2),(3,none)] rfl rfl rfl ⟨fS rfl rfl λ_ h=>h,fS rfl rfl λ_ h=>h,fR (f:=c_i64) rfl rfl λ_=>rfl,f0 rfl rfl,trivial⟩) λp fs2 gs lt ⟨k0,k1,k2,k3,k4,k5,k6⟩=>?_
   |refine ⟨VT,?_⟩
   |refine upS gs rfl ?_
   |refine upN fs2 ‹_› rfl ?_
   |refine wA (f:=c_i64) (m:=[_]) rfl (λ_=>⟨rfl,rfl⟩) ?_ ?_ ?_
   |refine wA (f:=c_i64) (m:=_) rfl (λ_=>⟨rfl,rfl⟩) ?_ ?_ ?_
   |refine ⟨_,_,deep0 (leafs_map (f:=c_i64) (λ_=>rfl) _),?_⟩
   |refine ⟨⟨nx _,fs2,gs,lt⟩,?_,?_,(ft [(0,some 0),(1,some 1),(2,some 2),(3,some 3)] rfl rfl rfl ⟨fS rfl rfl λ_ h=>h,fS rfl rfl λ_ h=>h,fR (f:=c_i64) rfl rfl λ_=>rfl,fR (f:=c_i64) rfl rfl λ_=>rfl,trivial⟩)⟩
   |refine ⟨⟨nx _,_,_,_⟩,?_,?_,(ft [(0,some 0),(1,some 1),(2,some 5),(3,some 6)] rfl rfl rfl ⟨fS rfl rfl λ_ h=>h,fS rfl rfl λ_ h=>h,fR (f:=c_i64) rfl rfl λ_=>rfl,fR (f:=c_i64) rfl rfl λ_=>rfl,trivial⟩)⟩
   |refine ⟨⟨fs2,gs,lt⟩,?_,?_,suits_trans (lend_suits 11 rfl rfl (leafs_map (f:=c_i64) (λ_=>rfl) _)) (ft [(0,some 0),(1,some 1),(2,some 2)] rfl rfl rfl ⟨fS rfl rfl λ_ h=>h,fS rfl rfl λ_ h=>h,fR (f:=c_i64) rfl rfl λ_=>rfl,trivial⟩)⟩
  |exact reach_m ‹_› (ids_le k2 k3) k5 k6
  |(have:=ids_le k2 k3;simp only [List.length_singleton];omega)
  |(have:=ids_le k2 k3;omega)
  |(have:=ids_le j0 j1;omega)
  |exact nodup_snoc k2 ‹_›
  |dsimp only
  |with_reducible apply And.intro
  |(simp (disch:=omega) only [ls]<;>omega)
  |contradiction
  |intro hr
  |grind
theorem w412 (a0:List Int) (a1:Int) (g0:a0.length<=1000000000):WQv 352 [lI a0,sI a1] sB (λ_=>True):=by
 refine gO Tryz.func352 ?_
 repeat' first
  |with_reducible assumption
  |(conv=>whnf);first
   |refine wC (w104 _ _ ?_) λz104 h104=>?_
   |refine ⟨_,rfl,?_⟩
  |dsimp only
theorem w1333 (a0:ByteArray) (g0:(a0.size:Int)<=1000000000):WQv 265 [sS a0,.sc (.string (⟨#[58]⟩:ByteArray))] (λr:ByteArray×ByteArray×Bool=>.tup [sS r.1,sS r.2.1,sB r.2.2]) (λr=>r.1.size<=a0.size/\r.2.1.size<=a0.size):=by
 refine gO Tryz.func265 ?_
 repeat' first
  |with_reducible assumption
  |(conv=>whnf);first
   |apply bD<;>intro h
   |refine wC (w1425 _ ?_) λz1425 hz=>?_
   |refine And.intro ?_ (And.intro ?_ ?_)
   |refine ⟨by kernel_rfl,?_⟩
   |refine ⟨(_,_,true),rfl,?_⟩
   |refine ⟨(_,zS,false),rfl,?_⟩
  |omega
  |exact ext_le _ _ _
  |(simp only [sz58] at *;simp (disch:=omega) only [ls];omega)
  |exact Nat.zero_le _
  |dsimp only
  |with_reducible apply And.intro
theorem w244 (a0:ByteArray) (g0:(a0.size:Int)<=1000000000):WQv 185 [sS a0] sB (λr=>True):=by
 refine gO Tryz.func185 ?_
 repeat' first
  |with_reducible assumption
  |(conv=>whnf);first
   |refine wC (w334 _ (λx0_ r=>True) _ _ rfl (λx0_=>w335 _) ?_) λz334 hz=>?_
   |refine ⟨_,rfl,?_⟩
  |dsimp only
  |omega
theorem w124 (a0:List S65) (g0:a0.length<=1000000) (g1:∀e∈a0,EB e):WQv 271 [lE a0] (λr:S59×ByteArray=>.tup [.agg (S59.c r.1),sS r.2]) (λr=>r.1.f0.length<=100/\r.1.f1.length<=100):=by
 refine gO Tryz.func271 ?_
 repeat' first
  |with_reducible assumption
  |(conv=>whnf);first
   |apply bD<;>intro h
   |refine wC (w185 _ (1:Int) ?_) λz185 hz=>?_
   |refine wG ?_ ?_ (λ_=>rfl) λx hx hm=>?_
   |refine wC (w185 _ (3:Int) ?_) λz185 hz=>?_
   |refine wC (w186 _ ?_) λz186 hz=>?_
   |refine wC (w187 _ ?_) λz187 hz=>?_
   |refine ⟨by kernel_rfl,?_⟩
   |refine wC (w188 _) λz188 hz=>?_
   |refine ⟨(⟨_,_,_,_,_,_,_,_,_⟩,_),rfl,?_⟩
  |omega
  |dsimp only
  |with_reducible apply And.intro
  |grind
theorem w401 (a0:S59) (a1:S59) (a2:ByteArray) (g0:a0.f0.length<=1000000) (g1:a0.f1.length<=1000000) (g2:a1.f0.length<=1000) (g3:a1.f1.length<=1000):WQv 303 [.agg (S59.c a0),.agg (S59.c a1),sS a2] sI (λ_=>True):=by
 refine gO Tryz.func303 ?_
 repeat' first
  |with_reducible assumption
  |(conv=>whnf);first
   |apply bD<;>intro h
   |apply bJ<;>intro h
   |apply bT'<;>intro h
   |apply br<;>intro h
   |refine wC (w125 a0 a2 ?_) λz125 hz=>?_
   |refine wC (w125 _ _ ?_) λz hz=>?_
   |refine wC (w400 _ _ ?_) λz hz=>?_
   |refine wC (w466 a0) λz466 hz=>?_
   |refine wC (w466 a1) λz466_1 hz=>?_
   |refine wC (w465 _ _ _) λz465 hz=>?_
   |refine lM ?_
   |refine wG ?_ ?_ (λ_=>rfl) λx hx hm=>?_
   |refine wL ?_ ?_ λx hx=>?_
   |refine V1 (λ(p0:Int)=>0<=p0/\p0<=7) (λp0=>[(2,sS a2),(3,.box 0 0),(4,.box 1 0),(7,.box 2 0),(8,.fn 367 [] [.box 2 0]),(9,.elt 3 0 0),(10,.elt 4 0 0),(31,sI p0)]) (λ_=>⟨[(0,.box (S59.c a0) false),(1,.box (S59.c a1) false),(2,.box [sI z125] false),(3,.row ((A7.l z466).map c_i64) 1 false 3),(4,.row ((A7.l z466_1).map c_i64) 1 false 4)],5⟩) (λp0=>(7-p0).toNat) (0:Int) ?_ (ft [(0,some 0),(1,some 1),(2,some 2),(3,some 3),(4,some 4)] rfl rfl rfl ⟨fB rfl rfl rfl,fB rfl rfl rfl,fB rfl rfl rfl,fR (f:=c_i64) (l:=A7.l z466) rfl rfl λ_=>rfl,fR (f:=c_i64) (l:=A7.l z466_1) rfl rfl λ_=>rfl,trivial⟩) λp0 ⟨i0,i1⟩=>?_
   |refine ⟨nx _,?_,?_,(ft [(0,some 0),(1,some 1),(2,some 2),(3,some 3),(4,some 4)] rfl rfl rfl ⟨fB rfl rfl rfl,fB rfl rfl rfl,fB rfl rfl rfl,fR (f:=c_i64) (l:=A7.l z466) rfl rfl λ_=>rfl,fR (f:=c_i64) (l:=A7.l z466_1) rfl rfl λ_=>rfl,trivial⟩)⟩
   |refine V1 (λ(p0:Int)=>0<=p0/\p0<=2) (λp0=>[(2,sS a2),(3,.box 0 0),(4,.box 1 0),(7,.box 2 0),(8,.fn 367 [] [.box 2 0]),(47,.agg [.lst (a0.f1.map S215.c),.lst (a1.f1.map S215.c)]),(48,sI p0)]) (λ_=>⟨[(0,.box (S59.c a0) false),(1,.box (S59.c a1) false),(2,.box [sI z125] false)],3⟩) (λp0=>(2-p0).toNat) (0:Int) ?_ (ft [(0,some 0),(1,some 1),(2,some 2)] rfl rfl rfl ⟨fB rfl rfl rfl,fB rfl rfl rfl,fB rfl rfl rfl,trivial⟩) λp0 ⟨i0,i1⟩=>?_
   |refine V1 (λ(q0:Int)=>0<=q0/\q0<=(a0.f1.length:Int)) (λq0=>[(2,sS a2),(3,.box 0 0),(4,.box 1 0),(7,.box 2 0),(8,.fn 367 [] [.box 2 0]),(47,.agg [.lst (a0.f1.map S215.c),.lst (a1.f1.map S215.c)]),(48,sI p0),(51,.lst (a0.f1.map S215.c)),(52,sI (a0.f1.length:Int)),(53,sI q0)]) (λ_=>⟨[(0,.box (S59.c a0) false),(1,.box (S59.c a1) false),(2,.box [sI z125] false)],3⟩) (λq0=>((a0.f1.length:Int)-q0).toNat) (0:Int) ?_ (ft [(0,some 0),(1,some 1),(2,some 2)] rfl rfl rfl ⟨fB rfl rfl rfl,fB rfl rfl rfl,fB rfl rfl rfl,trivial⟩) λq0 ⟨i0,i1⟩=>?_
   |refine V1 (λ(q0:Int)=>0<=q0/\q0<=(a1.f1.length:Int)) (λq0=>[(2,sS a2),(3,.box 0 0),(4,.box 1 0),(7,.box 2 0),(8,.fn 367 [] [.box 2 0]),(47,.agg [.lst (a0.f1.map S215.c),.lst (a1.f1.map S215.c)]),(48,sI p0),(51,.lst (a1.f1.map S215.c)),(52,sI (a1.f1.length:Int)),(53,sI q0)]) (λ_=>⟨[(0,.box (S59.c a0) false),(1,.box (S59.c a1) false),(2,.box [sI z125] false)],3⟩) (λq0=>((a1.f1.length:Int)-q0).toNat) (0:Int) ?_ (ft [(0,some 0),(1,some 1),(2,some 2)] rfl rfl rfl ⟨fB rfl rfl rfl,fB rfl rfl rfl,fB rfl rfl rfl,trivial⟩) λq0 ⟨i0,i1⟩=>?_
   |refine V1 (λ(p0:Int)=>0<=p0/\p0<=2) (λp0=>[(2,sS a2),(3,.box 0 0),(4,.box 1 0),(7,.box 2 0),(8,.fn 367 [] [.box 2 0]),(16,sB false),(73,.agg [.lst (a0.f0.map S179.c),.lst (a1.f0.map S179.c)]),(74,sI p0)]) (λ_=>⟨[(0,.box (S59.c a0) false),(1,.box (S59.c a1) false),(2,.box [sI z125] false)],3⟩) (λp0=>(2-p0).toNat) (0:Int) ?_ (ft [(0,some 0),(1,some 1),(2,some 2)] rfl rfl rfl ⟨fB rfl rfl rfl,fB rfl rfl rfl,fB rfl rfl rfl,trivial⟩) λp0 ⟨i0,i1⟩=>?_
   |refine V1 (λ(q0:Int)=>0<=q0/\q0<=(a0.f0.length:Int)) (λq0=>[(2,sS a2),(3,.box 0 0),(4,.box 1 0),(7,.box 2 0),(8,.fn 367 [] [.box 2 0]),(16,sB false),(73,.agg [.lst (a0.f0.map S179.c),.lst (a1.f0.map S179.c)]),(74,sI p0),(77,.lst (a0.f0.map S179.c)),(78,sI (a0.f0.length:Int)),(79,sI q0)]) (λ_=>⟨[(0,.box (S59.c a0) false),(1,.box (S59.c a1) false),(2,.box [sI z125] false)],3⟩) (λq0=>((a0.f0.length:Int)-q0).toNat) (0:Int) ?_ (ft [(0,some 0),(1,some 1),(2,some 2)] rfl rfl rfl ⟨fB rfl rfl rfl,fB rfl rfl rfl,fB rfl rfl rfl,trivial⟩) λq0 ⟨i0,i1⟩=>?_
   |refine V1 (λ(q0:Int)=>0<=q0/\q0<=(a1.f0.length:Int)) (λq0=>[(2,sS a2),(3,.box 0 0),(4,.box 1 0),(7,.box 2 0),(8,.fn 367 [] [.box 2 0]),(16,sB false),(73,.agg [.lst (a0.f0.map S179.c),.lst (a1.f0.map S179.c)]),(74,sI p0),(77,.lst (a1.f0.map S179.c)),(78,sI (a1.f0.length:Int)),(79,sI q0)]) (λ_=>⟨[(0,.box (S59.c a0) false),(1,.box (S59.c a1) false),(2,.box [sI z125] false)],3⟩) (λq0=>((a1.f0.length:Int)-q0).toNat) (0:Int) ?_ (ft [(0,some 0),(1,some 1),(2,some 2)] rfl rfl rfl ⟨fB rfl rfl rfl,fB rfl rfl rfl,fB rfl rfl rfl,trivial⟩) λq0 ⟨i0,i1⟩=>?_
   |refine ⟨nx _,?_,?_,(ft [(0,some 0),(1,some 1),(2,some 2)] rfl rfl rfl ⟨fB rfl rfl rfl,fB rfl rfl rfl,fB rfl rfl rfl,trivial⟩)⟩
   |refine arr3 ?_ ?_ ?_
   |refine arrC (λhk=>?_) ?_
   |trivial
   |refine ⟨by kernel_rfl,?_⟩
   |refine ⟨_,rfl,?_⟩
  |omega
  |with_reducible apply And.intro
  |(simp (disch:=omega) only [ls]<;>omega)
theorem w50z (a0:List S65) (a1:Int) (g0:a0.length<=1000000000):WQv 49 [lE a0,sI a1] (λr:S65×Bool=>.tup [aE r.1,sB r.2]) (λr=>r.1∈a0\/r.1=ze65):=by
 refine gO Tryz.func49 ?_
 repeat' first
  |with_reducible assumption
  |(conv=>whnf);first
   |apply bD<;>intro h
   |refine wC (w98 _ _ ?_) λz98 hz=>?_
   |refine wG ?_ ?_ (λ_=>rfl) λx hx hm=>?_
   |refine ⟨(ze65,false),rfl,?_⟩
   |refine ⟨(_,true),rfl,?_⟩
  |exact .inl ‹_›
  |exact .inr rfl
  |omega
end Go.Abs.RM
