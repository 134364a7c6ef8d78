/- Of GapsBounds: walks. -/
import Derived.Test.YthbenojbjjgnaaaGreatUAm
set_option linter.all false
namespace Go.Abs.RM
open Go.Proofs
set_option maxRecDepth 100000
set_option maxHeartbeats 40000000
theorem w48 (a0:Int) (a1:Int) (a2:Int):WQv 48 [sI a0,sI a1,sI a2] sI (fun r=>(a1≤a2→a1≤r∧r≤a2)∧r≤max a1 a0):=by
 refine gO Tryz.func48 ?_
 repeat' first
  |(conv=>whnf);first
   |apply bD<;>intro h
   |refine ⟨_,rfl,?_⟩
  |omega
theorem w164 (a0:List S65) (a1:S65→Bool→Prop) (c1:FuncId) (g1:List WV) (hg1:g1.all capB=true) (hf1:∀x0_,WQv c1 ([]++[aE x0_]++g1) sB (fun r=>a1 x0_ r)) (g20:a0.length≤1000000000):WQv 164 [lE a0,.fnp c1 [] g1] sI (fun r=>(-1≤r∧r<(a0.length:Int))∧(0≤r→∃e,a0[r.toNat]?=some e∧a1 e true)∧∀(j:Nat) e,a0[j]?=some e→(j:Int)<r∨r<0→a1 e false):=by
 refine gO Tryz.func164 ?_
 repeat' first
  |with_reducible assumption
  |(conv=>whnf);first
   |apply bD<;>intro h
   |apply br<;>intro h
   |refine lM ?_
   |refine V1 (fun (p0:Int)=>0≤p0∧p0≤(a0.length:Int)∧∀(j:Nat) e,a0[j]?=some e→(j:Int)<p0→a1 e false) (fun p0=>[(0,lE a0),(1,.fnp c1 [] g1),(7,sI (a0.length:Int)),(8,sI p0)]) (fun _=>⟨[],0⟩) (fun p0=>((a0.length:Int)+1-p0).toNat) (0:Int) ?_ (fN rfl rfl) fun p0 ⟨i0,i1,i2⟩=>?_
   |refine wG ?_ ?_ (fun _=>rfl) fun x hx hm=>?_
   |refine view_caps hg1 ?_
   |refine wC (hf1 _) fun z hz=>?_
   |refine ⟨nx _,?_,?_,(fN rfl rfl)⟩
   |refine ⟨_,rfl,?_⟩
  |exact fun j e he hj=>by have:=(List.getElem?_eq_some_iff.1 he).1;omega
  |exact fun j e he hj=>i2 j e he (by omega)
  |exact fun j e he hj=>i2 j e he (by have:=(List.getElem?_eq_some_iff.1 he).1;omega)
  |exact fun _=>⟨_,hx,by simp_all⟩
  |omega
  |dsimp only
  |with_reducible apply And.intro
  |(simp (disch:=omega) only [ls]<;>omega)
  |intro hr
  |grind
theorem w165 (a0:S65) (a1:Int):WQv 165 [aE a0,.ipt [sI a1]] sB (fun r=>r=true↔a0.f0=a1):=by
 refine gO Tryz.func165 ?_
 repeat' first
  |(conv=>whnf);first
   |refine ⟨_,rfl,?_⟩
  |dsimp only
  |grind
theorem w166 (a0:List S135) (a1:S135→Bool→Prop) (c1:FuncId) (g1:List WV) (hg1:g1.all capB=true) (hf1:∀x0_,WQv c1 ([]++[.agg (S135.c x0_)]++g1) sB (fun r=>a1 x0_ r)) (g20:a0.length≤1000000000):WQv 166 [.lst (a0.map S135.c),.fnp c1 [] g1] sI (fun r=>-1≤r∧r<(a0.length:Int)):=by
 refine gO Tryz.func166 ?_
 repeat' first
  |with_reducible assumption
  |(conv=>whnf);first
   |apply bD<;>intro h
   |apply br<;>intro h
   |refine lM ?_
   |refine V1 (fun (p0:Int)=>0≤p0∧p0≤(a0.length:Int)) (fun p0=>[(0,.lst (a0.map S135.c)),(1,.fnp c1 [] g1),(7,sI (a0.length:Int)),(8,sI p0)]) (fun _=>⟨[],0⟩) (fun p0=>((a0.length:Int)+1-p0).toNat) (0:Int) ?_ (fN rfl rfl) fun p0 ⟨i0,i1⟩=>?_
   |refine wG ?_ ?_ (fun _=>rfl) fun x hx hm=>?_
   |refine view_caps hg1 ?_
   |refine wC (hf1 _) fun z hz=>?_
   |refine ⟨nx _,?_,?_,(fN rfl rfl)⟩
   |refine ⟨_,rfl,?_⟩
  |omega
  |with_reducible apply And.intro
  |(simp (disch:=omega) only [ls]<;>omega)
theorem w102 (a0:S135) (a1:S65):WQv 102 [.agg (S135.c a0),.ipt (S65.c a1)] sB (fun r=>True):=by
 refine gO Tryz.func102 ?_
 repeat' first
  |(conv=>whnf);first
   |apply bI<;>intro h
   |refine ⟨false,rfl,?_⟩
   |refine ⟨_,rfl,?_⟩
  |dsimp only
theorem w167 (a0:List Int) (a1:Int) (g0:a0.length≤1000000000):WQv 167 [lI a0,sI a1] sI (fun r=>(-1≤r∧r<(a0.length:Int))∧(0≤r→a1∈a0)∧(r<0→a1∉a0)):=by
 refine gO Tryz.func167 ?_
 repeat' first
  |with_reducible assumption
  |(conv=>whnf);first
   |apply bD<;>intro h
   |refine lM ?_
   |refine V1 (fun (p0:Int)=>0≤p0∧p0≤(a0.length:Int)∧∀(j:Nat) e,a0[j]?=some e→(j:Int)<p0→e≠a1) (fun p0=>[(0,lI a0),(1,sI a1),(7,sI (a0.length:Int)),(8,sI p0)]) (fun _=>⟨[],0⟩) (fun p0=>((a0.length:Int)+1-p0).toNat) (0:Int) ?_ (fN rfl rfl) fun p0 ⟨i0,i1,i2⟩=>?_
   |refine wG ?_ ?_ (fun _=>rfl) fun x hx hm=>?_
   |refine ⟨nx _,?_,?_,(fN rfl rfl)⟩
   |refine ⟨_,rfl,?_⟩
  |exact fun j e he hj=>by omega
  |exact ix_next i0 (by omega) hx i2 (Ne.symm (by assumption))
  |exact fun _ hm=>ix_all i2 ‹_› _ hm rfl
  |exact fun _=>h ▸ hm
  |exact fun hq=>absurd i0 (by omega)
  |omega
  |dsimp only
  |with_reducible apply And.intro
  |(simp (disch:=omega) only [ls]<;>omega)
theorem w285 (a0:List S65) (g0:a0.length≤1000000):WQv 285 [lE a0] (fun _:Unit=>.imb (GI a0)) (fun _=>True):=by
 refine gO Tryz.func285 ?_
 repeat' first
  |with_reducible assumption
  |(conv=>whnf);first
   |apply bD<;>intro h
   |refine lM ?_
   |refine .inl ⟨GI a0,?_⟩
   |refine V1 (fun (p:Int)=>-1≤p∧p<(a0.length:Int)) (fun p=>[(0,lE a0),(3,.mp 0),(4,sI p)]) (fun p=>⟨[(0,.bag (GI a0) false [])],1⟩) (fun p=>(p+1).toNat) (IntKind.wrap .i64 ((a0.length:Int)-1)) ?_ (ft [(0,some 0)] rfl rfl rfl ⟨fG rfl rfl (fun _ h=>h) (fun _=>rfl),trivial⟩) fun p ⟨i0,i1⟩=>?_
   |refine wG ?_ ?_ (fun _=>rfl) fun x hx hm=>?_
   |refine upG p rfl rfl ?_ ?_
   |refine ⟨_,?_,?_,(ft [(0,some 0)] rfl rfl rfl ⟨fG rfl rfl (fun _ h=>h) (fun _=>rfl),trivial⟩)⟩
   |refine ⟨(),rfl,?_⟩
  |dsimp only
  |with_reducible apply And.intro
  |(simp (disch:=omega) only [ls]<;>omega)
  |grind
theorem w391 (l:List S65) (a0:List Int) (g0:a0.length≤1000000):WQv 391 [lI a0,.ipt [.imb (GI l)]] sB (fun _=>True):=by
 refine gO Tryz.func391 ?_
 repeat' first
  |with_reducible assumption
  |(conv=>whnf);first
   |apply bD<;>intro h
   |refine lM ?_
   |refine wG ?_ ?_ (fun _=>rfl) fun x hx hm=>?_
   |refine lkT (fun i hi=>?_) ?_
   |refine V1 (fun (p0:Int)=>0≤p0∧p0≤(a0.length:Int)) (fun p0=>[(1,.ipt [.imb (GI l)]),(8,lI a0),(9,sI (a0.length:Int)),(10,sI p0)]) (fun _=>⟨[],0⟩) (fun p0=>((a0.length:Int)-p0).toNat) (0:Int) ?_ (fN rfl rfl) fun p0 ⟨i0,i1⟩=>?_
   |refine ⟨nx _,?_,?_,(fN rfl rfl)⟩
   |refine ⟨_,rfl,?_⟩
  |omega
  |dsimp only
  |with_reducible apply And.intro
  |(simp (disch:=omega) only [ls]<;>omega)
theorem w286 (a0:List S65) (a1:S65) (g0:a0.length≤1000000) (g1:0<a0.length) (g2:a1.f8.length≤1000) (g3:a1.f9.length≤1000):WQv 286 [lE a0,.imb (GI a0),aE a1] sB (fun _=>True):=by
 refine gO Tryz.func286 ?_
 repeat' first
  |with_reducible assumption
  |(conv=>whnf);first
   |refine wE ‹_› ?_ (fun _=>rfl) ?_
   |apply bD<;>intro h
   |refine ⟨by kernel_rfl,?_⟩
   |refine lM ?_
   |refine wG ?_ ?_ (fun _=>rfl) fun x hx hm=>?_
   |refine lkF (fun i hi=>?_) ?_
   |refine V1 (fun (p0:Int)=>0≤p0∧p0≤(a1.f9.length:Int)) (fun p0=>[(0,lE a0),(1,.imb (GI a0)),(5,.box 0 0),(13,lI a1.f9),(14,sI (a1.f9.length:Int)),(15,sI p0)]) (fun _=>⟨[(0,.box (S65.c a1) false)],1⟩) (fun p0=>((a1.f9.length:Int)-p0).toNat) (0:Int) ?_ (fB1 rfl rfl rfl rfl) fun p0 ⟨i0,i1⟩=>?_
   |refine ⟨nx _,?_,?_,(fB1 rfl rfl rfl rfl)⟩
   |refine V2 (fun (p0 q0:Int)=>0≤p0∧p0≤(a1.f8.length:Int)) (fun p0 q0=>[(0,lE a0),(1,.imb (GI a0)),(5,.box 0 0),(9,sI q0),(48,lI a1.f8),(49,sI (a1.f8.length:Int)),(50,sI p0)]) (fun _ _=>⟨[(0,.box (S65.c a1) false)],1⟩) (fun p0 q0=>((a1.f8.length:Int)-p0).toNat) (0:Int) _ ?_ (fB1 rfl rfl rfl rfl) fun p0 q0 ⟨i0,i1⟩=>?_
   |refine ⟨⟨nx _,_⟩,?_,?_,(fB1 rfl rfl rfl rfl)⟩
   |refine ⟨_,rfl,?_⟩
  |exact Int.ofNat_nonneg _
  |omega
  |dsimp only
  |with_reducible apply And.intro
  |(simp (disch:=omega) only [ls]<;>omega)
theorem w474 (a0:List S71) (a1:S71→Bool→Prop) (c1:FuncId) (g1:List WV) (hg1:g1.all capB=true) (hf1:∀x0_,WQv c1 ([]++[.agg (S71.c x0_)]++g1) sB (fun r=>a1 x0_ r)) (a2:S71→Bool→Prop) (c2:FuncId) (g2:List WV) (hg2:g2.all capB=true) (hf2:∀x0_,WQv c2 ([]++[.agg (S71.c x0_)]++g2) sB (fun r=>a2 x0_ r)) (g20:a0.length≤1000000):WQv 474 [.lst (a0.map S71.c),.fnp c1 [] g1,.fnp c2 [] g2] (fun r:Int×Bool=>.tup [sI r.1,sB r.2]) (fun r=>0≤r.1∧r.1≤(a0.length:Int)∧(r.2=true→r.1<(a0.length:Int))):=by
 refine gO Tryz.func474 ?_
 repeat' first
  |with_reducible assumption
  |(conv=>whnf);first
   |refine wE ‹_› ?_ (fun _=>rfl) ?_
   |apply bD<;>intro h
   |apply br<;>intro h
   |refine V1 (fun (p0:Int)=>0≤p0∧p0≤(a0.length:Int)) (fun p0=>[(0,.lst (a0.map S71.c)),(1,.fnp c1 [] g1),(2,.fnp c2 [] g2),(8,sI p0)]) (fun _=>⟨[],0⟩) (fun p0=>((a0.length:Int)+1-p0).toNat) (0:Int) ?_ (fN rfl rfl) fun p0 ⟨i0,i1⟩=>?_
   |refine lM ?_
   |refine wG ?_ ?_ (fun _=>rfl) fun x hx hm=>?_
   |refine view_caps hg1 ?_
   |refine wC (hf1 _) fun z hz=>?_
   |refine ⟨nx _,?_,?_,(fN rfl rfl)⟩
   |refine view_caps hg2 ?_
   |refine wC (hf2 _) fun z hz=>?_
   |refine ⟨(_,_),rfl,?_⟩
  |omega
  |dsimp only
  |with_reducible apply And.intro
  |(simp (disch:=omega) only [ls]<;>omega)
  |contradiction
  |intro hr
theorem w476 (a0:S71) (a1:S71):WQv 476 [.agg (S71.c a0),.agg (S71.c a1)] sB (fun r=>True):=by
 refine gO Tryz.func476 ?_
 repeat' first
  |(conv=>whnf);first
   |apply bD<;>intro h
   |refine ⟨true,rfl,?_⟩
   |refine ⟨false,rfl,?_⟩
   |refine ⟨_,rfl,?_⟩
  |dsimp only
theorem o220 (a0:List Int) (g0:a0.length≤1000000000):WOQ 220 [lI a0] 1 false c_i64 (fun r=>r=a0):=by
 refine goOwn Tryz.func220 (by kernel_rfl) ?_
 repeat' first
  |(conv=>whnf);first
   |apply br<;>intro h
   |refine fun (_:Bool) hb=>?_
   |refine wA (l:=[]) (f:=c_i64) (m:=_) rfl (fun _=>⟨rfl,rfl⟩) ?_ ?_ ?_
   |refine ⟨leafs_map (f:=c_i64) (fun _=>rfl) _,_,rfl,?_⟩
   |refine ⟨[],rfl,?_⟩
  |exact (List.map_eq_nil_iff.1 (hb ‹_›)).symm
  |dsimp only
  |(simp (disch:=omega) only [ls]<;>omega)
  |grind
theorem w196 (a0:List S71):WQv 196 [.lst (a0.map S71.c)] (fun _:Unit=>.fnp 248 [] [.ipt [.lst (a0.map S71.c)]]) (fun _=>True):=by
 refine gO Tryz.func196 ?_
 repeat' first
  |(conv=>whnf);first
   |refine ⟨(),rfl,?_⟩
  |dsimp only
theorem w519 (a0:S65):WQv 519 [aE a0] lI (fun r=>r=a0.f9):=by
 refine gO Tryz.func519 ?_
 repeat' first
  |(conv=>whnf);first
   |refine ⟨_,rfl,?_⟩
  |dsimp only
theorem w508 (a0:S65):WQv 508 [aE a0] sB (fun r=>True):=by
 refine gO Tryz.func508 ?_
 repeat' first
  |(conv=>whnf);first
   |apply bI<;>intro h
   |refine ⟨true,rfl,?_⟩
   |refine ⟨false,rfl,?_⟩
   |refine ⟨_,rfl,?_⟩
  |omega
  |dsimp only
theorem w520 (a0:List S71) (g0:a0.length≤1000000):WQv 520 [.lst (a0.map S71.c)] (fun r:List S71=>.lst (r.map S71.c)) (fun r=>r=a0):=by
 refine gO Tryz.func520 ?_
 repeat' first
  |(conv=>whnf);first
   |apply br<;>intro h
   |refine fun (_:Bool) hb=>?_
   |refine wA (l:=[]) (f:=S71.c) (m:=_) rfl (fun _=>⟨rfl,rfl⟩) ?_ ?_ ?_
   |refine ⟨_,_,deep0 (leafs_map (f:=S71.c) (fun _=>rfl) _),?_⟩
   |refine ⟨[],rfl,?_⟩
   |refine ⟨_,rfl,?_⟩
  |exact (List.map_eq_nil_iff.1 (hb ‹_›)).symm
  |dsimp only
  |(simp (disch:=omega) only [ls]<;>omega)
  |grind
theorem w107 (a0:Int):WQv 107 [sI a0] sB (fun r=>True):=by
 refine gO Tryz.func107 ?_
 repeat' first
  |(conv=>whnf);first
   |apply bD<;>intro h
   |refine ⟨false,rfl,?_⟩
   |refine ⟨_,rfl,?_⟩
  |dsimp only
theorem w332 (a0:ByteArray) (a1:Int) (g0:(a0.size:Int)≤1000000000):WQv 332 [sS a0,.sc (.int .u8 a1)] sI (fun r=>(-1≤r∧r<(a0.size:Int))):=idx332 a0 a1 g0
theorem w337 (a0:Int):WQv 337 [.sc (.int .u8 a0)] sB (fun r=>True):=by
 refine gO Tryz.func337 ?_
 repeat' first
  |(conv=>whnf);first
   |apply bD<;>intro h
   |refine ⟨true,rfl,?_⟩
   |refine ⟨false,rfl,?_⟩
   |refine ⟨_,rfl,?_⟩
  |omega
  |dsimp only
theorem w335 (a0:Int):WQv 335 [.sc (.int .u8 a0)] sB (fun r=>True):=by
 refine gO Tryz.func335 ?_
 repeat' first
  |(conv=>whnf);first
   |apply bI<;>intro h
   |refine ⟨true,rfl,?_⟩
   |refine ⟨_,rfl,?_⟩
  |dsimp only
theorem w336 (a0:Int):WQv 336 [.sc (.int .u8 a0)] sB (fun r=>True):=by
 refine gO Tryz.func336 ?_
 repeat' first
  |(conv=>whnf);first
   |apply bI<;>intro h
   |refine ⟨true,rfl,?_⟩
   |refine ⟨_,rfl,?_⟩
  |dsimp only
theorem w293 (a0:List S65) (g0:a0.length≤1000000000):WQv 293 [lE a0] (fun r:S65×Bool=>.tup [aE r.1,sB r.2]) (fun r=>r.2=true→r.1∈a0):=by
 refine gO Tryz.func293 ?_
 repeat' first
  |with_reducible assumption
  |(conv=>whnf);first
   |apply bD<;>intro h
   |refine lM ?_
   |refine V2 (fun (p0:S65) (p1:Int)=>0≤p1∧p1≤(a0.length:Int)) (fun _ p1=>[(2,.box 0 0),(6,lE a0),(7,sI (a0.length:Int)),(8,sI p1)]) (fun p0 _=>⟨[(0,.box (S65.c p0) false)],1⟩) (fun _ p1=>((a0.length:Int)+1-p1).toNat) ze65 (0:Int) ?_ (fB1 rfl rfl rfl rfl) fun p0 p1 ⟨i0,i1⟩=>?_
   |refine wG ?_ ?_ (fun _=>rfl) fun x hx hm=>?_
   |refine ⟨⟨_,nx _⟩,?_,?_,(fB1 rfl rfl rfl rfl)⟩
   |refine ⟨(_,true),rfl,?_⟩
   |refine ⟨(ze65,false),rfl,?_⟩
  |omega
  |dsimp only
  |with_reducible apply And.intro
  |(simp (disch:=omega) only [ls]<;>omega)
  |contradiction
  |intro hr
theorem w294 (a0:Bool) (a1:Int):WQP 294 [sB a0,sI a1] (fun _:Unit=>.tup []) (fun _=>a0=true) PV:=by
 refine goP Tryz.func294 (by kernel_rfl) ?_
 repeat' first
  |with_reducible assumption
  |(conv=>whnf);first
   |apply bN<;>intro h
   |refine wP (w295 _) (fun z hz=>hz.elim) fun v hv=>?_
   |refine ⟨(),rfl,?_⟩
   |exact pan_ok ‹_›
theorem w246 (a0:S65) (a1:Int):WQv 246 [aE a0,.ipt [sI a1]] sB (fun r=>r=true→a0.f3=a1):=by
 refine gO Tryz.func246 ?_
 repeat' first
  |(conv=>whnf);first
   |refine ⟨_,rfl,?_⟩
  |dsimp only
  |intro hr
  |grind
theorem w186 (a0:List S179) (g0:a0.length≤1000000):WQv 186 [.lst (a0.map S179.c)] (fun r:List S179=>.lst (r.map S179.c)) (fun r=>r=a0):=by
 refine gO Tryz.func186 ?_
 repeat' first
  |(conv=>whnf);first
   |apply br<;>intro h
   |refine fun (_:Bool) hb=>?_
   |refine wA (l:=[]) (f:=S179.c) (m:=_) rfl (fun _=>⟨rfl,rfl⟩) ?_ ?_ ?_
   |refine ⟨_,_,deep0 (leafs_map (f:=S179.c) (fun _=>rfl) _),?_⟩
   |refine ⟨[],rfl,?_⟩
   |refine ⟨_,rfl,?_⟩
  |exact (List.map_eq_nil_iff.1 (hb ‹_›)).symm
  |dsimp only
  |(simp (disch:=omega) only [ls]<;>omega)
  |grind
theorem w187 (a0:List S215) (g0:a0.length≤1000000):WQv 187 [.lst (a0.map S215.c)] (fun r:List S215=>.lst (r.map S215.c)) (fun r=>r=a0):=by
 refine gO Tryz.func187 ?_
 repeat' first
  |(conv=>whnf);first
   |apply br<;>intro h
   |refine fun (_:Bool) hb=>?_
   |refine wA (l:=[]) (f:=S215.c) (m:=_) rfl (fun _=>⟨rfl,rfl⟩) ?_ ?_ ?_
   |refine ⟨_,_,deep0 (leafs_map (f:=S215.c) (fun _=>rfl) _),?_⟩
   |refine ⟨[],rfl,?_⟩
   |refine ⟨_,rfl,?_⟩
  |exact (List.map_eq_nil_iff.1 (hb ‹_›)).symm
  |dsimp only
  |(simp (disch:=omega) only [ls]<;>omega)
  |grind
theorem w188 (a0:ByteArray):WQv 188 [sS a0] (fun r:S59=>.agg (S59.c r)) (fun r=>r.f0.length≤100∧r.f1.length≤100):=by
 refine gO Tryz.func188 ?_
 repeat' first
  |(conv=>whnf);first
   |apply bT'<;>intro h
   |refine ⟨_,_,deep0 (leafs_lit rfl),?_⟩
   |refine ⟨⟨[⟨_,(100:Int)⟩],[],(0:Int),(0:Int),(0:Int),(0:Int),(50:Int),(50:Int),(50:Int)⟩,rfl,?_⟩
   |refine ⟨⟨[],[],(0:Int),(0:Int),(0:Int),(0:Int),(50:Int),(50:Int),(50:Int)⟩,rfl,?_⟩
  |dsimp only
  |with_reducible apply And.intro
  |(simp (disch:=omega) only [ls]<;>omega)
theorem w125 (a0:S59) (a1:ByteArray) (g0:a0.f0.length≤1000000):WQv 125 [.agg (S59.c a0),sS a1] sI (fun r=>True):=by
 refine gO Tryz.func125 ?_
 repeat' first
  |with_reducible assumption
  |(conv=>whnf);first
   |apply bD<;>intro h
   |apply bS<;>intro h
   |refine lM ?_
   |refine V1 (fun (p0:Int)=>0≤p0∧p0≤(a0.f0.length:Int)) (fun p0=>[(1,sS a1),(2,.box 0 0),(8,.lst (a0.f0.map S179.c)),(9,sI (a0.f0.length:Int)),(10,sI p0)]) (fun _=>⟨[(0,.box (S59.c a0) false)],1⟩) (fun p0=>((a0.f0.length:Int)+1-p0).toNat) (0:Int) ?_ (fB1 rfl rfl rfl rfl) fun p0 ⟨i0,i1⟩=>?_
   |refine wG ?_ ?_ (fun _=>rfl) fun x hx hm=>?_
   |refine ⟨nx _,?_,?_,(fB1 rfl rfl rfl rfl)⟩
   |refine ⟨_,rfl,?_⟩
  |omega
  |dsimp only
  |with_reducible apply And.intro
  |(simp (disch:=omega) only [ls]<;>omega)
theorem w297 (a0:List S65) (a1:ByteArray) (g0:a0.length≤1000000000):WQv 297 [lE a0,sS a1] sI (fun r=>True):=by
 refine gO Tryz.func297 ?_
 repeat' first
  |with_reducible assumption
  |(conv=>whnf);first
   |refine wE ‹_› ?_ (fun _=>rfl) ?_
   |apply bD<;>intro h
   |apply bS<;>intro h
   |refine lM ?_
   |refine V1 (fun (p0:Int)=>0≤p0∧p0≤(a0.length:Int)) (fun p0=>[(0,lE a0),(1,sS a1),(7,sI (a0.length:Int)),(8,sI p0)]) (fun _=>⟨[],0⟩) (fun p0=>((a0.length:Int)+1-p0).toNat) (0:Int) ?_ (fN rfl rfl) fun p0 ⟨i0,i1⟩=>?_
   |refine wG ?_ ?_ (fun _=>rfl) fun x hx hm=>?_
   |refine ⟨nx _,?_,?_,(fN rfl rfl)⟩
   |refine ⟨_,rfl,?_⟩
  |omega
  |dsimp only
  |with_reducible apply And.intro
  |(simp (disch:=omega) only [ls]<;>omega)
theorem w398 (a0:Int) (a1:Int) (a2:Bool):WQv 398 [sI a0,sI a1,sB a2] sB (fun _=>True):=by
 refine gO Tryz.func398 ?_
 repeat' first
  |(conv=>whnf);first
   |apply bD<;>intro h
   |apply br<;>intro h
   |refine arr3 ?_ ?_ ?_
   |refine arrG (m:=5) (by kernel_rfl) (by kernel_rfl) ?_ ?_ fun x=>?_
   |refine shlG ?_ fun v=>?_
   |refine ⟨by kernel_rfl,?_⟩
   |refine ⟨_,rfl,?_⟩
  |omega
  |dsimp only
theorem w462 (a0:List S65) (g0:a0.length≤1000000) (g1:∀e∈a0,EB e):WQv 462 [lE a0] (fun r:Int×(List ByteArray)=>.tup [sI r.1,.lst (r.2.map cStr)]) (fun r=>True):=by
 refine gO Tryz.func462 ?_
 repeat' first
  |with_reducible assumption
  |(conv=>whnf);first
   |apply bD<;>intro h
   |refine lM ?_
   |refine V1 (fun (p0:Int)=>0≤p0∧p0≤(a0.length:Int)) (fun p0=>[(6,lE a0),(7,sI (a0.length:Int)),(8,sI p0)]) (fun _=>⟨[],0⟩) (fun p0=>((a0.length:Int)+1-p0).toNat) (0:Int) ?_ (fN rfl rfl) fun p0 ⟨i0,i1⟩=>?_
   |refine wG ?_ ?_ (fun _=>rfl) fun x hx hm=>?_
   |refine wA (l:=[]) (f:=cStr) (m:=_) rfl (fun _=>⟨rfl,rfl⟩) ?_ ?_ ?_
   |refine ⟨by kernel_rfl,?_⟩
   |refine ⟨_,_,deep0 (leafs_map (f:=cStr) (fun _=>rfl) _),?_⟩
   |refine ⟨nx _,?_,?_,(fN rfl rfl)⟩
   |refine ⟨(_,_),rfl,?_⟩
   |refine ⟨((0:Int),[]),rfl,?_⟩
  |omega
  |dsimp only
  |with_reducible apply And.intro
  |(simp (disch:=omega) only [ls]<;>omega)
  |grind
theorem w463 (a0:Int) (a1:Int):WQv 463 [sI a0,sI a1] sI (fun r=>True):=by
 refine gO Tryz.func463 ?_
 repeat' first
  |(conv=>whnf);first
   |apply bI<;>intro h
   |refine ⟨(0:Int),rfl,?_⟩
   |refine ⟨(21:Int),rfl,?_⟩
  |dsimp only
theorem w464 (a0:Int) (a1:Int):WQv 464 [sI a0,sI a1] sI (fun r=>True):=by
 refine gO Tryz.func464 ?_
 repeat' first
  |(conv=>whnf);first
   |apply bJ<;>intro h
   |apply bI<;>intro h
   |refine ⟨(21:Int),rfl,?_⟩
   |refine ⟨(0:Int),rfl,?_⟩
  |dsimp only
theorem w465 (a0:Int) (a1:Int) (a2:Int):WQv 465 [sI a0,sI a1,.ipt [sI a2]] sB (fun r=>True):=by
 refine gO Tryz.func465 ?_
 repeat' first
  |(conv=>whnf);first
   |apply bJ<;>intro h
   |apply bD<;>intro h
   |refine ⟨true,rfl,?_⟩
   |refine ⟨false,rfl,?_⟩
   |refine ⟨_,rfl,?_⟩
  |dsimp only
theorem w466 (a0:S59):WQv 466 [.agg (S59.c a0)] (fun r:A7=>.agg (A7.c r)) (fun _=>True):=by
 refine gO Tryz.func466 ?_
 repeat' first
  |(conv=>whnf);first
   |refine ⟨(⟨a0.f2,a0.f3,a0.f4,a0.f5,a0.f6,a0.f7,a0.f8⟩:A7),rfl,?_⟩
  |dsimp only
theorem w541 (a0:S65) (a1:S71):WQv 541 [aE a0,.ipt (S71.c a1)] sB (fun r=>True):=by
 refine gO Tryz.func541 ?_
 repeat' first
  |(conv=>whnf);first
   |apply bI<;>intro h
   |refine ⟨false,rfl,?_⟩
   |refine ⟨_,rfl,?_⟩
  |dsimp only
theorem w517 (a0:S422) (a1:S65):WQv 517 [.agg (S422.c a0),aE a1] sB (fun r=>True):=by
 refine gO Tryz.func517 ?_
 repeat' first
  |(conv=>whnf);first
   |apply bI<;>intro h
   |refine ⟨false,rfl,?_⟩
   |refine ⟨_,rfl,?_⟩
  |dsimp only
theorem w561 (a0:S468) (a1:S468):WQv 561 [.agg (S468.c a0),.agg (S468.c a1)] sB (fun _=>True):=by
 refine gO Tryz.func561 ?_
 repeat' first
  |(conv=>whnf);first
   |apply bJ<;>intro h
   |refine ⟨_,rfl,?_⟩
  |dsimp only
theorem w314 (a0:Int) (g0:0≤a0) (g1:a0<18446744073709551616):WQv 314 [.sc (.int .u64 a0)] sI (fun r=>True):=by
 refine gO Tryz.func314 ?_
 repeat' first
  |(conv=>whnf);first
   |apply bD<;>intro h
   |refine wS ?_ ?_ fun x hb=>?_
   |refine ⟨_,rfl,?_⟩
  |exact u8_lo _
  |exact u8_hi (by kernel_rfl) _
  |dsimp only
theorem w568 (a0:Int) (a1:Int):WQv 568 [sI a0,sI a1] sI (fun _=>True):=by
 refine gO Tryz.func568 ?_
 repeat' first
  |(conv=>whnf);first
   |apply bD<;>intro h
   |refine ⟨_,rfl,?_⟩
  |dsimp only
theorem w410 (a0:Int):WQv 410 [sI a0] sB (fun r=>True):=by
 refine gO Tryz.func410 ?_
 repeat' first
  |(conv=>whnf);first
   |refine ⟨_,rfl,?_⟩
  |dsimp only
theorem w524 (a0:Int):WQv 524 [sI a0] sB (fun _=>True):=by
 refine gO Tryz.func524 ?_
 repeat' first
  |(conv=>whnf);first
   |refine ⟨_,rfl,?_⟩
  |dsimp only
theorem w229 (a0:List ByteArray) (g0:a0.length≤1000000):WQv 229 [.lst (a0.map cStr)] (fun r:List ByteArray=>.lst (r.map cStr)) (fun r=>r=a0):=by
 refine gO Tryz.func229 ?_
 repeat' first
  |(conv=>whnf);first
   |refine wA0 (f:=cStr) (m:=_) rfl (fun _=>⟨rfl,rfl⟩) ?_ ?_ ?_
   |refine ⟨_,_,deep0 (leafs_map (f:=cStr) (fun _=>rfl) _),?_⟩
   |refine ⟨_,rfl,?_⟩
  |omega
  |dsimp only
theorem w230 (a0:S59) (g0:a0.f0.length≤1000000) (g1:a0.f1.length≤1000000):WQv 230 [.agg (S59.c a0)] (fun r:S59=>.agg (S59.c r)) (fun r=>r=a0):=by
 refine gO Tryz.func230 ?_
 repeat' first
  |(conv=>whnf);first
   |refine wA0 (f:=S179.c) (m:=_) rfl (fun _=>⟨rfl,rfl⟩) ?_ ?_ ?_
   |refine wA0 (f:=S215.c) (m:=_) rfl (fun _=>⟨rfl,rfl⟩) ?_ ?_ ?_
   |refine ⟨_,_,deep0 (leafs_map (f:=S179.c) (fun _=>rfl) _),?_⟩
   |refine ⟨_,_,deep0 (leafs_map (f:=S215.c) (fun _=>rfl) _),?_⟩
   |refine ⟨⟨_,_,_,_,_,_,_,_,_⟩,rfl,?_⟩
  |omega
  |dsimp only
theorem w319 (a0:Int):WQv 319 [sI a0] sI (fun r=>True):=by
 refine gO Tryz.func319 ?_
 repeat' first
  |(conv=>whnf);first
   |apply bI<;>intro h
   |refine ⟨(19:Int),rfl,?_⟩
   |refine ⟨(128:Int),rfl,?_⟩
   |refine ⟨(34:Int),rfl,?_⟩
   |refine ⟨(2:Int),rfl,?_⟩
   |refine ⟨(96:Int),rfl,?_⟩
   |refine ⟨(1:Int),rfl,?_⟩
   |refine ⟨(3:Int),rfl,?_⟩
   |refine ⟨(13:Int),rfl,?_⟩
   |refine ⟨(5:Int),rfl,?_⟩
   |refine ⟨(0:Int),rfl,?_⟩
  |omega
  |dsimp only
theorem w266 (a0:Int) (a1:List Int) (g0:a1.length≤1000000000):WQv 266 [sI a0,.lst (a1.map c_u8)] sI (fun r=>True):=by
 refine gO Tryz.func266 ?_
 repeat' first
  |with_reducible assumption
  |(conv=>whnf);first
   |apply bD<;>intro h
   |refine lM ?_
   |refine V2 (fun (p0:Int) (p1:Int)=>0≤p1∧p1≤(a1.length:Int)) (fun p0 p1=>[(5,.sc (.int .u64 p0)),(11,.lst (a1.map c_u8)),(12,sI (a1.length:Int)),(13,sI p1)]) (fun _ _=>⟨[],0⟩) (fun _ p1=>((a1.length:Int)+1-p1).toNat) (iop .and 318 .u64 (IntKind.wrap .u64 a0) (4611686018427387903:Int)) (0:Int) ?_ (fN rfl rfl) fun p0 p1 ⟨i0,i1⟩=>?_
   |refine wG ?_ ?_ (fun _=>rfl) fun x hx hm=>?_
   |refine ⟨⟨_,nx _⟩,?_,?_,(fN rfl rfl)⟩
   |refine ⟨_,rfl,?_⟩
  |omega
  |dsimp only
  |with_reducible apply And.intro
  |(simp (disch:=omega) only [ls]<;>omega)
theorem w267:WQv 267 [] sI (fun r=>True):=by
 refine gO Tryz.func267 ?_
 repeat' first
  |(conv=>whnf);first
   |refine ⟨(860922984064492325:Int),rfl,?_⟩
  |dsimp only
theorem o380 (a0:List Int) (a1:Int) (g0:a0.length≤1000000000) (g1:0≤a1) (g2:a1≤1000000000):WOQ 380 [.lst (a0.map c_u8),sI a1] 1 false c_u8 (fun r=>r.length=a0.length):=by
 refine goOwn Tryz.func380 (by kernel_rfl) ?_
 repeat' first
  |(conv=>whnf);first
   |refine lM ?_
   |refine wMk (f:=c_u8) (z:=0) rfl ?_ ?_ ?_ ?_
   |refine wCopy (f:=c_u8) (fun _=>⟨rfl,rfl⟩) ?_ (fun ha n=>?_) fun n=>?_
   |refine ⟨leafs_map (f:=c_u8) (fun _=>rfl) _,_,rfl,?_⟩
  |(simp only [List.length_map,List.length_replicate];done)
  |dsimp only
  |(simp (disch:=omega) only [ls]<;>omega)
theorem u381 (a0:List Int) (n:Int) (g0:a0.length≤1000000000):WUQ 381 [sI n] 1 a0 c_u8 (fun r=>a0.length≤r.length∧r.length≤a0.length+11):=by
 refine goUpd Tryz.func381 (by kernel_rfl) (lens_map fun _=>rfl) ?_
 repeat' first
  |(conv=>whnf);first
   |apply bD<;>intro h
   |refine V2 (fun (u:Int) (b:List Int)=>0≤u∧∃k:Nat,k≤10∧u<128 ^ k∧a0.length≤b.length∧b.length+k≤a0.length+10) (fun u b=>[(0,.row 0),(5,.sc (.int .u64 u))]) (fun u b=>⟨[(0,.row (b.map c_u8) 1 false 0)],1⟩) (fun u b=>u.toNat) _ a0 ?_ (ft [(0,some 0)] rfl rfl rfl ⟨fR (f:=c_u8) rfl rfl fun _=>rfl,trivial⟩) fun u b ⟨i0,k,i1,i2,i3,i4⟩=>?_
   |refine wA (f:=c_u8) (m:=[_]) rfl (fun _=>⟨rfl,rfl⟩) ?_ ?_ ?_
   |refine ⟨⟨sh7 u,_⟩,?_,?_,(ft [(0,some 2)] rfl rfl rfl ⟨fR (f:=c_u8) rfl rfl fun _=>rfl,trivial⟩)⟩
   |refine ⟨leafs_map (f:=c_u8) (fun _=>rfl) _,_,rfl,?_⟩
  |with_reducible exact u64_lo _
  |exact u_zero _ _
  |exact sh7_lo i0
  |exact sh7_lt ‹_›
  |exact u_next i0 i1 i2 i3 i4 ‹_›
  |dsimp only
  |with_reducible apply And.intro
  |(simp (disch:=omega) only [ls]<;>omega)
end Go.Abs.RM
