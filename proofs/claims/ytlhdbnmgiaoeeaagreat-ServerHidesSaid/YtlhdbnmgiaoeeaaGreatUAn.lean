/- Of ServerHides: walks. -/
import Derived.Test.YtlhdbnmgiaoeeaaGreatUAl
set_option linter.all false
namespace Go.Abs.RM
open Go.Proofs Go.Proofs.RMH
set_option maxRecDepth 100000
set_option maxHeartbeats 40000000
theorem w337 (a0:Int):WQv 159 [.sc (.int .u8 a0)] sB (λr=>True):=by
 refine gO Tryz.func159 ?_
 repeat' first
  |(conv=>whnf);first
   |apply bD<;>intro h
   |refine ⟨true,rfl,?_⟩
   |refine ⟨false,rfl,?_⟩
   |refine ⟨_,rfl,?_⟩
  |omega
  |dsimp only
theorem w336 (a0:Int):WQv 158 [.sc (.int .u8 a0)] sB (λr=>True):=by
 refine gO Tryz.func158 ?_
 repeat' first
  |(conv=>whnf);first
   |apply bI<;>intro h
   |refine ⟨true,rfl,?_⟩
   |refine ⟨_,rfl,?_⟩
  |dsimp only
theorem w48 (a0:Int) (a1:Int) (a2:Int):WQv 558 [sI a0,sI a1,sI a2] sI (λr=>(a1<=a2->a1<=r/\r<=a2)/\r<=max a1 a0):=by
 refine gO Tryz.func558 ?_
 repeat' first
  |(conv=>whnf);first
   |apply bD<;>intro h
   |refine ⟨_,rfl,?_⟩
  |omega
theorem w164 (a0:List S65) (a1:S65->Bool->Prop) (c1:FuncId) (g1:List WV) (hg1:g1.all capB=true) (hf1:∀x0_,WQv c1 ([]++[aE x0_]++g1) sB (λr=>a1 x0_ r)) (g20:a0.length<=1000000000):WQv 190 [lE a0,.fnp c1 [] g1] sI (λr=>(-1<=r/\r<(a0.length:Int))/\(0<=r->∃e,a0[r.toNat]?=some e/\a1 e true)/\∀(j:Nat) e,a0[j]?=some e->(j:Int)<r\/r<0->a1 e false):=by
 refine gO Tryz.func190 ?_
 repeat' first
  |with_reducible assumption
  |(conv=>whnf);first
   |apply bD<;>intro h
   |apply br<;>intro h
   |refine lM ?_
   |refine V1 (λ(p0:Int)=>0<=p0/\p0<=(a0.length:Int)/\∀(j:Nat) e,a0[j]?=some e->(j:Int)<p0->a1 e false) (λp0=>[(0,lE a0),(1,.fnp c1 [] g1),(7,sI (a0.length:Int)),(8,sI p0)]) (λ_=>⟨[],0⟩) (λp0=>((a0.length:Int)+1-p0).toNat) (0:Int) ?_ (fN rfl rfl) λp0 ⟨i0,i1,i2⟩=>?_
   |refine wG ?_ ?_ (λ_=>rfl) λx hx hm=>?_
   |refine view_caps hg1 ?_
   |refine wC (hf1 _) λz hz=>?_
   |refine ⟨nx _,?_,?_,(fN rfl rfl)⟩
   |refine ⟨_,rfl,?_⟩
  |exact λj e he hj=>by have:=(List.getElem?_eq_some_iff.1 he).1;omega
  |exact λj e he hj=>i2 j e he (by omega)
  |exact λj e he hj=>i2 j e he (by have:=(List.getElem?_eq_some_iff.1 he).1;omega)
  |exact λ_=>⟨_,hx,by simp_all⟩
  |omega
  |dsimp only
  |with_reducible apply And.intro
  |(simp (disch:=omega) only [ls]<;>omega)
  |intro hr
  |grind
theorem w165 (a0:S65) (a1:Int):WQv 191 [aE a0,.ipt [sI a1]] sB (λr=>r=true↔a0.f0=a1):=by
 refine gO Tryz.func191 ?_
 repeat' first
  |(conv=>whnf);first
   |refine ⟨_,rfl,?_⟩
  |dsimp only
  |grind
theorem w166 (a0:List S135) (a1:S135->Bool->Prop) (c1:FuncId) (g1:List WV) (hg1:g1.all capB=true) (hf1:∀x0_,WQv c1 ([]++[.agg (S135.c x0_)]++g1) sB (λr=>a1 x0_ r)) (g20:a0.length<=1000000000):WQv 102 [.lst (a0.map S135.c),.fnp c1 [] g1] sI (λr=>-1<=r/\r<(a0.length:Int)):=by
 refine gO Tryz.func102 ?_
 repeat' first
  |with_reducible assumption
  |(conv=>whnf);first
   |apply bD<;>intro h
   |apply br<;>intro h
   |refine lM ?_
   |refine V1 (λ(p0:Int)=>0<=p0/\p0<=(a0.length:Int)) (λp0=>[(0,.lst (a0.map S135.c)),(1,.fnp c1 [] g1),(7,sI (a0.length:Int)),(8,sI p0)]) (λ_=>⟨[],0⟩) (λp0=>((a0.length:Int)+1-p0).toNat) (0:Int) ?_ (fN rfl rfl) λp0 ⟨i0,i1⟩=>?_
   |refine wG ?_ ?_ (λ_=>rfl) λx hx hm=>?_
   |refine view_caps hg1 ?_
   |refine wC (hf1 _) λz hz=>?_
   |refine ⟨nx _,?_,?_,(fN rfl rfl)⟩
   |refine ⟨_,rfl,?_⟩
  |omega
  |with_reducible apply And.intro
  |(simp (disch:=omega) only [ls]<;>omega)
theorem w102 (a0:S135) (a1:S65):WQv 54 [.agg (S135.c a0),.ipt (S65.c a1)] sB (λr=>True):=by
 refine gO Tryz.func54 ?_
 repeat' first
  |(conv=>whnf);first
   |apply bI<;>intro h
   |refine ⟨false,rfl,?_⟩
   |refine ⟨_,rfl,?_⟩
  |dsimp only
theorem w167 (a0:List Int) (a1:Int) (g0:a0.length<=1000000000):WQv 103 [lI a0,sI a1] sI (λr=>(-1<=r/\r<(a0.length:Int))/\(0<=r->a1∈a0)/\(r<0->a1∉a0)):=by
 refine gO Tryz.func103 ?_
 repeat' first
  |with_reducible assumption
  |(conv=>whnf);first
   |apply bD<;>intro h
   |refine lM ?_
   |refine V1 (λ(p0:Int)=>0<=p0/\p0<=(a0.length:Int)/\∀(j:Nat) e,a0[j]?=some e->(j:Int)<p0->e≠a1) (λp0=>[(0,lI a0),(1,sI a1),(7,sI (a0.length:Int)),(8,sI p0)]) (λ_=>⟨[],0⟩) (λp0=>((a0.length:Int)+1-p0).toNat) (0:Int) ?_ (fN rfl rfl) λp0 ⟨i0,i1,i2⟩=>?_
   |refine wG ?_ ?_ (λ_=>rfl) λx hx hm=>?_
   |refine ⟨nx _,?_,?_,(fN rfl rfl)⟩
   |refine ⟨_,rfl,?_⟩
  |exact λj e he hj=>by omega
  |exact ix_next i0 (by omega) hx i2 (Ne.symm (by assumption))
  |exact λ_ hm=>ix_all i2 ‹_› _ hm rfl
  |exact λ_=>h ▸ hm
  |exact λhq=>absurd i0 (by omega)
  |omega
  |dsimp only
  |with_reducible apply And.intro
  |(simp (disch:=omega) only [ls]<;>omega)
theorem w285 (a0:List S65) (g0:a0.length<=1000000):WQv 250 [lE a0] (λ_:Unit=>.imb (GI a0)) (λ_=>True):=by
 refine gO Tryz.func250 ?_
 repeat' first
  |with_reducible assumption
  |(conv=>whnf);first
   |apply bD<;>intro h
   |refine lM ?_
   |refine .inl ⟨GI a0,?_⟩
   |refine V1 (λ(p:Int)=>-1<=p/\p<(a0.length:Int)) (λp=>[(0,lE a0),(3,.mp 0),(4,sI p)]) (λp=>⟨[(0,.bag (GI a0) false [])],1⟩) (λp=>(p+1).toNat) (IntKind.wrap .i64 ((a0.length:Int)-1)) ?_ (ft [(0,some 0)] rfl rfl rfl ⟨fG rfl rfl (λ_ h=>h) (λ_=>rfl),trivial⟩) λp ⟨i0,i1⟩=>?_
   |refine wG ?_ ?_ (λ_=>rfl) λx hx hm=>?_
   |refine upG p rfl rfl ?_ ?_
   |refine ⟨_,?_,?_,(ft [(0,some 0)] rfl rfl rfl ⟨fG rfl rfl (λ_ h=>h) (λ_=>rfl),trivial⟩)⟩
   |refine ⟨(),rfl,?_⟩
  |dsimp only
  |with_reducible apply And.intro
  |(simp (disch:=omega) only [ls]<;>omega)
  |grind
theorem w391 (l:List S65) (a0:List Int) (g0:a0.length<=1000000):WQv 326 [lI a0,.ipt [.imb (GI l)]] sB (λ_=>True):=by
 refine gO Tryz.func326 ?_
 repeat' first
  |with_reducible assumption
  |(conv=>whnf);first
   |apply bD<;>intro h
   |refine lM ?_
   |refine wG ?_ ?_ (λ_=>rfl) λx hx hm=>?_
   |refine lkT (λi hi=>?_) ?_
   |refine V1 (λ(p0:Int)=>0<=p0/\p0<=(a0.length:Int)) (λp0=>[(1,.ipt [.imb (GI l)]),(8,lI a0),(9,sI (a0.length:Int)),(10,sI p0)]) (λ_=>⟨[],0⟩) (λp0=>((a0.length:Int)-p0).toNat) (0:Int) ?_ (fN rfl rfl) λp0 ⟨i0,i1⟩=>?_
   |refine ⟨nx _,?_,?_,(fN rfl rfl)⟩
   |refine ⟨_,rfl,?_⟩
  |omega
  |dsimp only
  |with_reducible apply And.intro
  |(simp (disch:=omega) only [ls]<;>omega)
theorem w286 (a0:List S65) (a1:S65) (g0:a0.length<=1000000) (g1:0<a0.length) (g2:a1.f8.length<=1000) (g3:a1.f9.length<=1000):WQv 251 [lE a0,.imb (GI a0),aE a1] sB (λ_=>True):=by
 refine gO Tryz.func251 ?_
 repeat' first
  |with_reducible assumption
  |(conv=>whnf);first
   |refine wE ‹_› ?_ (λ_=>rfl) ?_
   |apply bD<;>intro h
   |refine ⟨by kernel_rfl,?_⟩
   |refine lM ?_
   |refine wG ?_ ?_ (λ_=>rfl) λx hx hm=>?_
   |refine lkF (λi hi=>?_) ?_
   |refine V1 (λ(p0:Int)=>0<=p0/\p0<=(a1.f9.length:Int)) (λp0=>[(0,lE a0),(1,.imb (GI a0)),(5,.box 0 0),(13,lI a1.f9),(14,sI (a1.f9.length:Int)),(15,sI p0)]) (λ_=>⟨[(0,.box (S65.c a1) false)],1⟩) (λp0=>((a1.f9.length:Int)-p0).toNat) (0:Int) ?_ (fB1 rfl rfl rfl rfl) λp0 ⟨i0,i1⟩=>?_
   |refine ⟨nx _,?_,?_,(fB1 rfl rfl rfl rfl)⟩
   |refine V2 (λ(p0 q0:Int)=>0<=p0/\p0<=(a1.f8.length:Int)) (λp0 q0=>[(0,lE a0),(1,.imb (GI a0)),(5,.box 0 0),(9,sI q0),(48,lI a1.f8),(49,sI (a1.f8.length:Int)),(50,sI p0)]) (λ_ _=>⟨[(0,.box (S65.c a1) false)],1⟩) (λp0 q0=>((a1.f8.length:Int)-p0).toNat) (0:Int) _ ?_ (fB1 rfl rfl rfl rfl) λp0 q0 ⟨i0,i1⟩=>?_
   |refine ⟨⟨nx _,_⟩,?_,?_,(fB1 rfl rfl rfl rfl)⟩
   |refine ⟨_,rfl,?_⟩
  |exact Int.ofNat_nonneg _
  |omega
  |dsimp only
  |with_reducible apply And.intro
  |(simp (disch:=omega) only [ls]<;>omega)
theorem w474 (a0:List S71) (a1:S71->Bool->Prop) (c1:FuncId) (g1:List WV) (hg1:g1.all capB=true) (hf1:∀x0_,WQv c1 ([]++[.agg (S71.c x0_)]++g1) sB (λr=>a1 x0_ r)) (a2:S71->Bool->Prop) (c2:FuncId) (g2:List WV) (hg2:g2.all capB=true) (hf2:∀x0_,WQv c2 ([]++[.agg (S71.c x0_)]++g2) sB (λr=>a2 x0_ r)) (g20:a0.length<=1000000):WQv 399 [.lst (a0.map S71.c),.fnp c1 [] g1,.fnp c2 [] g2] (λr:Int×Bool=>.tup [sI r.1,sB r.2]) (λr=>0<=r.1/\r.1<=(a0.length:Int)/\(r.2=true->r.1<(a0.length:Int))):=by
 refine gO Tryz.func399 ?_
 repeat' first
  |with_reducible assumption
  |(conv=>whnf);first
   |refine wE ‹_› ?_ (λ_=>rfl) ?_
   |apply bD<;>intro h
   |apply br<;>intro h
   |refine V1 (λ(p0:Int)=>0<=p0/\p0<=(a0.length:Int)) (λp0=>[(0,.lst (a0.map S71.c)),(1,.fnp c1 [] g1),(2,.fnp c2 [] g2),(8,sI p0)]) (λ_=>⟨[],0⟩) (λp0=>((a0.length:Int)+1-p0).toNat) (0:Int) ?_ (fN rfl rfl) λp0 ⟨i0,i1⟩=>?_
   |refine lM ?_
   |refine wG ?_ ?_ (λ_=>rfl) λx hx hm=>?_
   |refine view_caps hg1 ?_
   |refine wC (hf1 _) λz hz=>?_
   |refine ⟨nx _,?_,?_,(fN rfl rfl)⟩
   |refine view_caps hg2 ?_
   |refine wC (hf2 _) λz hz=>?_
   |refine ⟨(_,_),rfl,?_⟩
  |omega
  |dsimp only
  |with_reducible apply And.intro
  |(simp (disch:=omega) only [ls]<;>omega)
  |contradiction
  |intro hr
theorem w476 (a0:S71) (a1:S71):WQv 401 [.agg (S71.c a0),.agg (S71.c a1)] sB (λr=>True):=by
 refine gO Tryz.func401 ?_
 repeat' first
  |(conv=>whnf);first
   |apply bD<;>intro h
   |refine ⟨true,rfl,?_⟩
   |refine ⟨false,rfl,?_⟩
   |refine ⟨_,rfl,?_⟩
  |dsimp only
theorem o220 (a0:List Int) (g0:a0.length<=1000000000):WOQ 370 [lI a0] 1 false c_i64 (λr=>r=a0):=by
 refine goOwn Tryz.func370 (by kernel_rfl) ?_
 repeat' first
  |(conv=>whnf);first
   |apply br<;>intro h
   |refine λ(_:Bool) hb=>?_
   |refine wA (l:=[]) (f:=c_i64) (m:=_) rfl (λ_=>⟨rfl,rfl⟩) ?_ ?_ ?_
   |refine ⟨leafs_map (f:=c_i64) (λ_=>rfl) _,_,rfl,?_⟩
   |refine ⟨[],rfl,?_⟩
  |exact (List.map_eq_nil_iff.1 (hb ‹_›)).symm
  |dsimp only
  |(simp (disch:=omega) only [ls]<;>omega)
  |grind
theorem w196 (a0:List S71):WQv 98 [.lst (a0.map S71.c)] (λ_:Unit=>.fnp 189 [] [.ipt [.lst (a0.map S71.c)]]) (λ_=>True):=by
 refine gO Tryz.func98 ?_
 repeat' first
  |(conv=>whnf);first
   |refine ⟨(),rfl,?_⟩
  |dsimp only
theorem w519 (a0:S65):WQv 487 [aE a0] lI (λr=>r=a0.f9):=by
 refine gO Tryz.func487 ?_
 repeat' first
  |(conv=>whnf);first
   |refine ⟨_,rfl,?_⟩
  |dsimp only
theorem w508 (a0:S65):WQv 441 [aE a0] sB (λr=>True):=by
 refine gO Tryz.func441 ?_
 repeat' first
  |(conv=>whnf);first
   |apply bI<;>intro h
   |refine ⟨true,rfl,?_⟩
   |refine ⟨false,rfl,?_⟩
   |refine ⟨_,rfl,?_⟩
  |omega
  |dsimp only
theorem w520 (a0:List S71) (g0:a0.length<=1000000):WQv 488 [.lst (a0.map S71.c)] (λr:List S71=>.lst (r.map S71.c)) (λr=>r=a0):=by
 refine gO Tryz.func488 ?_
 repeat' first
  |(conv=>whnf);first
   |apply br<;>intro h
   |refine λ(_:Bool) hb=>?_
   |refine wA (l:=[]) (f:=S71.c) (m:=_) rfl (λ_=>⟨rfl,rfl⟩) ?_ ?_ ?_
   |refine ⟨_,_,deep0 (leafs_map (f:=S71.c) (λ_=>rfl) _),?_⟩
   |refine ⟨[],rfl,?_⟩
   |refine ⟨_,rfl,?_⟩
  |exact (List.map_eq_nil_iff.1 (hb ‹_›)).symm
  |dsimp only
  |(simp (disch:=omega) only [ls]<;>omega)
  |grind
theorem w107 (a0:Int):WQv 59 [sI a0] sB (λr=>True):=by
 refine gO Tryz.func59 ?_
 repeat' first
  |(conv=>whnf);first
   |apply bD<;>intro h
   |refine ⟨false,rfl,?_⟩
   |refine ⟨_,rfl,?_⟩
  |dsimp only
theorem w332 (a0:ByteArray) (a1:Int) (g0:(a0.size:Int)<=1000000000):WQv 264 [sS a0,.sc (.int .u8 a1)] sI (λr=>(-1<=r/\r<(a0.size:Int))):=idx332 a0 a1 g0
theorem w335 (a0:Int):WQv 266 [.sc (.int .u8 a0)] sB (λr=>True):=by
 refine gO Tryz.func266 ?_
 repeat' first
  |(conv=>whnf);first
   |apply bI<;>intro h
   |refine ⟨true,rfl,?_⟩
   |refine ⟨_,rfl,?_⟩
  |dsimp only
theorem w293 (a0:List S65) (g0:a0.length<=1000000000):WQv 215 [lE a0] (λr:S65×Bool=>.tup [aE r.1,sB r.2]) (λr=>r.2=true->r.1∈a0):=by
 refine gO Tryz.func215 ?_
 repeat' first
  |with_reducible assumption
  |(conv=>whnf);first
   |apply bD<;>intro h
   |refine lM ?_
   |refine V2 (λ(p0:S65) (p1:Int)=>0<=p1/\p1<=(a0.length:Int)) (λ_ p1=>[(2,.box 0 0),(6,lE a0),(7,sI (a0.length:Int)),(8,sI p1)]) (λp0 _=>⟨[(0,.box (S65.c p0) false)],1⟩) (λ_ p1=>((a0.length:Int)+1-p1).toNat) ze65 (0:Int) ?_ (fB1 rfl rfl rfl rfl) λp0 p1 ⟨i0,i1⟩=>?_
   |refine wG ?_ ?_ (λ_=>rfl) λx hx hm=>?_
   |refine ⟨⟨_,nx _⟩,?_,?_,(fB1 rfl rfl rfl rfl)⟩
   |refine ⟨(_,true),rfl,?_⟩
   |refine ⟨(ze65,false),rfl,?_⟩
  |omega
  |dsimp only
  |with_reducible apply And.intro
  |(simp (disch:=omega) only [ls]<;>omega)
  |contradiction
  |intro hr
theorem w294 (a0:Bool) (a1:Int):WQP 216 [sB a0,sI a1] (λ_:Unit=>.tup []) (λ_=>a0=true) PV:=by
 refine goP Tryz.func216 (by kernel_rfl) ?_
 repeat' first
  |with_reducible assumption
  |(conv=>whnf);first
   |apply bN<;>intro h
   |refine wP (w295 _) (λz hz=>hz.elim) λv hv=>?_
   |refine ⟨(),rfl,?_⟩
   |exact pan_ok ‹_›
theorem w246 (a0:S65) (a1:Int):WQv 397 [aE a0,.ipt [sI a1]] sB (λr=>r=true->a0.f3=a1):=by
 refine gO Tryz.func397 ?_
 repeat' first
  |(conv=>whnf);first
   |refine ⟨_,rfl,?_⟩
  |dsimp only
  |intro hr
  |grind
theorem w186 (a0:List S179) (g0:a0.length<=1000000):WQv 343 [.lst (a0.map S179.c)] (λr:List S179=>.lst (r.map S179.c)) (λr=>r=a0):=by
 refine gO Tryz.func343 ?_
 repeat' first
  |(conv=>whnf);first
   |apply br<;>intro h
   |refine λ(_:Bool) hb=>?_
   |refine wA (l:=[]) (f:=S179.c) (m:=_) rfl (λ_=>⟨rfl,rfl⟩) ?_ ?_ ?_
   |refine ⟨_,_,deep0 (leafs_map (f:=S179.c) (λ_=>rfl) _),?_⟩
   |refine ⟨[],rfl,?_⟩
   |refine ⟨_,rfl,?_⟩
  |exact (List.map_eq_nil_iff.1 (hb ‹_›)).symm
  |dsimp only
  |(simp (disch:=omega) only [ls]<;>omega)
  |grind
theorem w187 (a0:List S215) (g0:a0.length<=1000000):WQv 344 [.lst (a0.map S215.c)] (λr:List S215=>.lst (r.map S215.c)) (λr=>r=a0):=by
 refine gO Tryz.func344 ?_
 repeat' first
  |(conv=>whnf);first
   |apply br<;>intro h
   |refine λ(_:Bool) hb=>?_
   |refine wA (l:=[]) (f:=S215.c) (m:=_) rfl (λ_=>⟨rfl,rfl⟩) ?_ ?_ ?_
   |refine ⟨_,_,deep0 (leafs_map (f:=S215.c) (λ_=>rfl) _),?_⟩
   |refine ⟨[],rfl,?_⟩
   |refine ⟨_,rfl,?_⟩
  |exact (List.map_eq_nil_iff.1 (hb ‹_›)).symm
  |dsimp only
  |(simp (disch:=omega) only [ls]<;>omega)
  |grind
theorem w188 (a0:ByteArray):WQv 65 [sS a0] (λr:S59=>.agg (S59.c r)) (λr=>r.f0.length<=100/\r.f1.length<=100):=by
 refine gO Tryz.func65 ?_
 repeat' first
  |(conv=>whnf);first
   |apply bT'<;>intro h
   |refine ⟨_,_,deep0 (leafs_lit rfl),?_⟩
   |refine ⟨⟨[⟨_,(100:Int)⟩],[],(0:Int),(0:Int),(0:Int),(0:Int),(50:Int),(50:Int),(50:Int)⟩,rfl,?_⟩
   |refine ⟨⟨[],[],(0:Int),(0:Int),(0:Int),(0:Int),(50:Int),(50:Int),(50:Int)⟩,rfl,?_⟩
  |dsimp only
  |with_reducible apply And.intro
  |(simp (disch:=omega) only [ls]<;>omega)
theorem w125 (a0:S59) (a1:ByteArray) (g0:a0.f0.length<=1000000):WQv 272 [.agg (S59.c a0),sS a1] sI (λr=>True):=by
 refine gO Tryz.func272 ?_
 repeat' first
  |with_reducible assumption
  |(conv=>whnf);first
   |apply bD<;>intro h
   |apply bS<;>intro h
   |refine lM ?_
   |refine V1 (λ(p0:Int)=>0<=p0/\p0<=(a0.f0.length:Int)) (λp0=>[(1,sS a1),(2,.box 0 0),(8,.lst (a0.f0.map S179.c)),(9,sI (a0.f0.length:Int)),(10,sI p0)]) (λ_=>⟨[(0,.box (S59.c a0) false)],1⟩) (λp0=>((a0.f0.length:Int)+1-p0).toNat) (0:Int) ?_ (fB1 rfl rfl rfl rfl) λp0 ⟨i0,i1⟩=>?_
   |refine wG ?_ ?_ (λ_=>rfl) λx hx hm=>?_
   |refine ⟨nx _,?_,?_,(fB1 rfl rfl rfl rfl)⟩
   |refine ⟨_,rfl,?_⟩
  |omega
  |dsimp only
  |with_reducible apply And.intro
  |(simp (disch:=omega) only [ls]<;>omega)
theorem w297 (a0:List S65) (a1:ByteArray) (g0:a0.length<=1000000000):WQv 219 [lE a0,sS a1] sI (λr=>True):=by
 refine gO Tryz.func219 ?_
 repeat' first
  |with_reducible assumption
  |(conv=>whnf);first
   |refine wE ‹_› ?_ (λ_=>rfl) ?_
   |apply bD<;>intro h
   |apply bS<;>intro h
   |refine lM ?_
   |refine V1 (λ(p0:Int)=>0<=p0/\p0<=(a0.length:Int)) (λp0=>[(0,lE a0),(1,sS a1),(7,sI (a0.length:Int)),(8,sI p0)]) (λ_=>⟨[],0⟩) (λp0=>((a0.length:Int)+1-p0).toNat) (0:Int) ?_ (fN rfl rfl) λp0 ⟨i0,i1⟩=>?_
   |refine wG ?_ ?_ (λ_=>rfl) λx hx hm=>?_
   |refine ⟨nx _,?_,?_,(fN rfl rfl)⟩
   |refine ⟨_,rfl,?_⟩
  |omega
  |dsimp only
  |with_reducible apply And.intro
  |(simp (disch:=omega) only [ls]<;>omega)
theorem w398 (a0:Int) (a1:Int) (a2:Bool):WQv 300 [sI a0,sI a1,sB a2] sB (λ_=>True):=by
 refine gO Tryz.func300 ?_
 repeat' first
  |(conv=>whnf);first
   |apply bD<;>intro h
   |apply br<;>intro h
   |refine arr3 ?_ ?_ ?_
   |refine arrG (m:=5) (by kernel_rfl) (by kernel_rfl) ?_ ?_ λx=>?_
   |refine shlG ?_ λv=>?_
   |refine ⟨by kernel_rfl,?_⟩
   |refine ⟨_,rfl,?_⟩
  |omega
  |dsimp only
theorem w462 (a0:List S65) (g0:a0.length<=1000000) (g1:∀e∈a0,EB e):WQv 364 [lE a0] (λr:Int×(List ByteArray)=>.tup [sI r.1,.lst (r.2.map cStr)]) (λr=>True):=by
 refine gO Tryz.func364 ?_
 repeat' first
  |with_reducible assumption
  |(conv=>whnf);first
   |apply bD<;>intro h
   |refine lM ?_
   |refine V1 (λ(p0:Int)=>0<=p0/\p0<=(a0.length:Int)) (λp0=>[(6,lE a0),(7,sI (a0.length:Int)),(8,sI p0)]) (λ_=>⟨[],0⟩) (λp0=>((a0.length:Int)+1-p0).toNat) (0:Int) ?_ (fN rfl rfl) λp0 ⟨i0,i1⟩=>?_
   |refine wG ?_ ?_ (λ_=>rfl) λx hx hm=>?_
   |refine wA (l:=[]) (f:=cStr) (m:=_) rfl (λ_=>⟨rfl,rfl⟩) ?_ ?_ ?_
   |refine ⟨by kernel_rfl,?_⟩
   |refine ⟨_,_,deep0 (leafs_map (f:=cStr) (λ_=>rfl) _),?_⟩
   |refine ⟨nx _,?_,?_,(fN rfl rfl)⟩
   |refine ⟨(_,_),rfl,?_⟩
   |refine ⟨((0:Int),[]),rfl,?_⟩
  |omega
  |dsimp only
  |with_reducible apply And.intro
  |(simp (disch:=omega) only [ls]<;>omega)
  |grind
theorem w463 (a0:Int) (a1:Int):WQv 365 [sI a0,sI a1] sI (λr=>True):=by
 refine gO Tryz.func365 ?_
 repeat' first
  |(conv=>whnf);first
   |apply bI<;>intro h
   |refine ⟨(0:Int),rfl,?_⟩
   |refine ⟨(21:Int),rfl,?_⟩
  |dsimp only
theorem w464 (a0:Int) (a1:Int):WQv 366 [sI a0,sI a1] sI (λr=>True):=by
 refine gO Tryz.func366 ?_
 repeat' first
  |(conv=>whnf);first
   |apply bJ<;>intro h
   |apply bI<;>intro h
   |refine ⟨(21:Int),rfl,?_⟩
   |refine ⟨(0:Int),rfl,?_⟩
  |dsimp only
theorem w465 (a0:Int) (a1:Int) (a2:Int):WQv 367 [sI a0,sI a1,.ipt [sI a2]] sB (λr=>True):=by
 refine gO Tryz.func367 ?_
 repeat' first
  |(conv=>whnf);first
   |apply bJ<;>intro h
   |apply bD<;>intro h
   |refine ⟨true,rfl,?_⟩
   |refine ⟨false,rfl,?_⟩
   |refine ⟨_,rfl,?_⟩
  |dsimp only
theorem w466 (a0:S59):WQv 368 [.agg (S59.c a0)] (λr:A7=>.agg (A7.c r)) (λ_=>True):=by
 refine gO Tryz.func368 ?_
 repeat' first
  |(conv=>whnf);first
   |refine ⟨(⟨a0.f2,a0.f3,a0.f4,a0.f5,a0.f6,a0.f7,a0.f8⟩:A7),rfl,?_⟩
  |dsimp only
theorem w541 (a0:S65) (a1:S71):WQv 530 [aE a0,.ipt (S71.c a1)] sB (λr=>True):=by
 refine gO Tryz.func530 ?_
 repeat' first
  |(conv=>whnf);first
   |apply bI<;>intro h
   |refine ⟨false,rfl,?_⟩
   |refine ⟨_,rfl,?_⟩
  |dsimp only
theorem w517 (a0:S422) (a1:S65):WQv 434 [.agg (S422.c a0),aE a1] sB (λr=>True):=by
 refine gO Tryz.func434 ?_
 repeat' first
  |(conv=>whnf);first
   |apply bI<;>intro h
   |refine ⟨false,rfl,?_⟩
   |refine ⟨_,rfl,?_⟩
  |dsimp only
theorem w561 (a0:S468) (a1:S468):WQv 602 [.agg (S468.c a0),.agg (S468.c a1)] sB (λ_=>True):=by
 refine gO Tryz.func602 ?_
 repeat' first
  |(conv=>whnf);first
   |apply bJ<;>intro h
   |refine ⟨_,rfl,?_⟩
  |dsimp only
theorem w314 (a0:Int) (g0:0<=a0) (g1:a0<18446744073709551616):WQv 283 [.sc (.int .u64 a0)] sI (λr=>True):=by
 refine gO Tryz.func283 ?_
 repeat' first
  |(conv=>whnf);first
   |apply bD<;>intro h
   |refine wS ?_ ?_ λx hb=>?_
   |refine ⟨_,rfl,?_⟩
  |exact u8_lo _
  |exact u8_hi (by kernel_rfl) _
  |dsimp only
theorem w568 (a0:Int) (a1:Int):WQv 609 [sI a0,sI a1] sI (λ_=>True):=by
 refine gO Tryz.func609 ?_
 repeat' first
  |(conv=>whnf);first
   |apply bD<;>intro h
   |refine ⟨_,rfl,?_⟩
  |dsimp only
theorem w410 (a0:Int):WQv 350 [sI a0] sB (λr=>True):=by
 refine gO Tryz.func350 ?_
 repeat' first
  |(conv=>whnf);first
   |refine ⟨_,rfl,?_⟩
  |dsimp only
theorem w524 (a0:Int):WQv 492 [sI a0] sB (λ_=>True):=by
 refine gO Tryz.func492 ?_
 repeat' first
  |(conv=>whnf);first
   |refine ⟨_,rfl,?_⟩
  |dsimp only
theorem w229 (a0:List ByteArray) (g0:a0.length<=1000000):WQv 84 [.lst (a0.map cStr)] (λr:List ByteArray=>.lst (r.map cStr)) (λr=>r=a0):=by
 refine gO Tryz.func84 ?_
 repeat' first
  |(conv=>whnf);first
   |refine wA0 (f:=cStr) (m:=_) rfl (λ_=>⟨rfl,rfl⟩) ?_ ?_ ?_
   |refine ⟨_,_,deep0 (leafs_map (f:=cStr) (λ_=>rfl) _),?_⟩
   |refine ⟨_,rfl,?_⟩
  |omega
  |dsimp only
theorem w230 (a0:S59) (g0:a0.f0.length<=1000000) (g1:a0.f1.length<=1000000):WQv 85 [.agg (S59.c a0)] (λr:S59=>.agg (S59.c r)) (λr=>r=a0):=by
 refine gO Tryz.func85 ?_
 repeat' first
  |(conv=>whnf);first
   |refine wA0 (f:=S179.c) (m:=_) rfl (λ_=>⟨rfl,rfl⟩) ?_ ?_ ?_
   |refine wA0 (f:=S215.c) (m:=_) rfl (λ_=>⟨rfl,rfl⟩) ?_ ?_ ?_
   |refine ⟨_,_,deep0 (leafs_map (f:=S179.c) (λ_=>rfl) _),?_⟩
   |refine ⟨_,_,deep0 (leafs_map (f:=S215.c) (λ_=>rfl) _),?_⟩
   |refine ⟨⟨_,_,_,_,_,_,_,_,_⟩,rfl,?_⟩
  |omega
  |dsimp only
theorem w319 (a0:Int):WQv 162 [sI a0] sI (λr=>True):=by
 refine gO Tryz.func162 ?_
 repeat' first
  |(conv=>whnf);first
   |apply bI<;>intro h
   |refine ⟨(19:Int),rfl,?_⟩
   |refine ⟨(128:Int),rfl,?_⟩
   |refine ⟨(34:Int),rfl,?_⟩
   |refine ⟨(2:Int),rfl,?_⟩
   |refine ⟨(96:Int),rfl,?_⟩
   |refine ⟨(1:Int),rfl,?_⟩
   |refine ⟨(3:Int),rfl,?_⟩
   |refine ⟨(13:Int),rfl,?_⟩
   |refine ⟨(5:Int),rfl,?_⟩
   |refine ⟨(0:Int),rfl,?_⟩
  |omega
  |dsimp only
theorem w266 (a0:Int) (a1:List Int) (g0:a1.length<=1000000000):WQv 173 [sI a0,.lst (a1.map c_u8)] sI (λr=>True):=by
 refine gO Tryz.func173 ?_
 repeat' first
  |with_reducible assumption
  |(conv=>whnf);first
   |apply bD<;>intro h
   |refine lM ?_
   |refine V2 (λ(p0:Int) (p1:Int)=>0<=p1/\p1<=(a1.length:Int)) (λp0 p1=>[(5,.sc (.int .u64 p0)),(11,.lst (a1.map c_u8)),(12,sI (a1.length:Int)),(13,sI p1)]) (λ_ _=>⟨[],0⟩) (λ_ p1=>((a1.length:Int)+1-p1).toNat) (iop .and 304 .u64 (IntKind.wrap .u64 a0) (4611686018427387903:Int)) (0:Int) ?_ (fN rfl rfl) λp0 p1 ⟨i0,i1⟩=>?_
   |refine wG ?_ ?_ (λ_=>rfl) λx hx hm=>?_
   |refine ⟨⟨_,nx _⟩,?_,?_,(fN rfl rfl)⟩
   |refine ⟨_,rfl,?_⟩
  |omega
  |dsimp only
  |with_reducible apply And.intro
  |(simp (disch:=omega) only [ls]<;>omega)
theorem w267:WQv 174 [] sI (λr=>True):=by
 refine gO Tryz.func174 ?_
 repeat' first
  |(conv=>whnf);first
   |refine ⟨(860922984064492325:Int),rfl,?_⟩
  |dsimp only
theorem o380 (a0:List Int) (a1:Int) (g0:a0.length<=1000000000) (g1:0<=a1) (g2:a1<=1000000000):WOQ 323 [.lst (a0.map c_u8),sI a1] 1 false c_u8 (λr=>r.length=a0.length):=by
 refine goOwn Tryz.func323 (by kernel_rfl) ?_
 repeat' first
  |(conv=>whnf);first
   |refine lM ?_
   |refine wMk (f:=c_u8) (z:=0) rfl ?_ ?_ ?_ ?_
   |refine wCopy (f:=c_u8) (λ_=>⟨rfl,rfl⟩) ?_ (λha n=>?_) λn=>?_
   |refine ⟨leafs_map (f:=c_u8) (λ_=>rfl) _,_,rfl,?_⟩
  |(simp only [List.length_map,List.length_replicate];done)
  |dsimp only
  |(simp (disch:=omega) only [ls]<;>omega)
theorem u381 (a0:List Int) (n:Int) (g0:a0.length<=1000000000):WUQ 324 [sI n] 1 a0 c_u8 (λr=>a0.length<=r.length/\r.length<=a0.length+11):=by
 refine goUpd Tryz.func324 (by kernel_rfl) (lens_map λ_=>rfl) ?_
 repeat' first
  |(conv=>whnf);first
   |apply bD<;>intro h
   |refine V2 (λ(u:Int) (b:List Int)=>0<=u/\∃k:Nat,k<=10/\u<128 ^ k/\a0.length<=b.length/\b.length+k<=a0.length+10) (λu b=>[(0,.row 0),(5,.sc (.int .u64 u))]) (λu b=>⟨[(0,.row (b.map c_u8) 1 false 0)],1⟩) (λu b=>u.toNat) _ a0 ?_ (ft [(0,some 0)] rfl rfl rfl ⟨fR (f:=c_u8) rfl rfl λ_=>rfl,trivial⟩) λu b ⟨i0,k,i1,i2,i3,i4⟩=>?_
   |refine wA (f:=c_u8) (m:=[_]) rfl (λ_=>⟨rfl,rfl⟩) ?_ ?_ ?_
   |refine ⟨⟨sh7 u,_⟩,?_,?_,(ft [(0,some 2)] rfl rfl rfl ⟨fR (f:=c_u8) rfl rfl λ_=>rfl,trivial⟩)⟩
   |refine ⟨leafs_map (f:=c_u8) (λ_=>rfl) _,_,rfl,?_⟩
  |with_reducible exact u64_lo _
  |exact u_zero _ _
  |exact sh7_lo i0
  |exact sh7_lt ‹_›
  |exact u_next i0 i1 i2 i3 i4 ‹_›
  |dsimp only
  |with_reducible apply And.intro
  |(simp (disch:=omega) only [ls]<;>omega)
end Go.Abs.RM
