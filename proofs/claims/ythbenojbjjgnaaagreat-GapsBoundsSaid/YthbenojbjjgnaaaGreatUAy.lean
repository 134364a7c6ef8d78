/- Of GapsBounds: walks. -/
import Derived.Test.YthbenojbjjgnaaaGreatUAx
set_option linter.all false
namespace Go.Abs.RM
open Go.Proofs
set_option maxRecDepth 100000
set_option maxHeartbeats 40000000
theorem w172 (a0:Int) (a1:S61) (g0:CB a1 400 100):WQv 172 [sI a0,.agg (S61.c a1)] (fun r:S61=>.agg (S61.c r)) (fun r=>CB r 400 100):=by
 refine gO Tryz.func172 ?_
 repeat' first
  |(conv=>whnf);first
   |apply bI<;>intro h
   |apply bJ<;>intro h
   |refine wC (w229 _ ?_) fun z229 hz=>?_
   |refine wC (w230 _ ?_ ?_) fun z230 hz=>?_
   |refine ⟨by kernel_rfl,?_⟩
   |refine wC (w231 _) fun z231 hz=>?_
   |refine ⟨⟨_,_,_,_,_,_,_,_⟩,rfl,?_⟩
   |refine ⟨⟨_,_,_,_,_,_,_,z230⟩,rfl,?_⟩
   |refine ⟨⟨zS,_,_,false,_,_,_,ze59⟩,rfl,?_⟩
   |refine ⟨⟨zS,_,_,false,_,_,[],_⟩,rfl,?_⟩
   |refine ⟨⟨zS,_,_,false,_,_,[],ze59⟩,rfl,?_⟩
   |refine ⟨⟨zS,_,_,false,_,[],_,_⟩,rfl,?_⟩
   |refine ⟨⟨zS,_,_,false,_,[],_,ze59⟩,rfl,?_⟩
   |refine ⟨⟨zS,_,_,false,_,[],[],_⟩,rfl,?_⟩
   |refine ⟨⟨zS,_,_,false,_,[],[],ze59⟩,rfl,?_⟩
  |refine cb_pick g0 ?_ ?_ ?_ ?_ ?_
  |exact .inl rfl
  |exact .inr rfl
  |exact .inr ‹_›
  |grind
theorem far272 {e:List WV} {b:List Int} {l:List Int} {K:WKF} (he:e.all leafB=true) (g0:b.length≤20000000) (g1:l.length≤2) (hK:∀(b2:List Int) (Tc:TL),b2.length≤b.length+2*11→K (.tup []) [(1,.box 0 0),(3,.box 1 0)] ⟨[(0,.box e false),(1,.box [.lst (b2.map c_u8)] false),(2,.row (l.map c_i64) 1 false 2),(3,.frm [(1,.box 0 0),(3,.box 1 0)] Tc)],4⟩):FarS P 272 [.fn 273 [.box 1 0] [],.row 2] [(1,.box 0 0),(3,.box 1 0)] ⟨[(0,.box e false),(1,.box [.lst (b.map c_u8)] false),(2,.row (l.map c_i64) 1 false 2)],3⟩ K:=by
 refine fI (Y:=Yf [273]) [(1,.box 0 0),(3,.box 1 0)] ⟨rfl,rfl,trivial⟩ Tryz.func272 (by kernel_rfl) fun Tc=>?_
 repeat' first
  |with_reducible assumption
  |(conv=>whnf);first
   |apply bD<;>intro h
   |refine lM ?_
   |refine wR ?_ ?_ ?_
   |refine wL ?_ ?_ fun x hx=>?_
   |refine V2 (fun (p:Int) (c:List Int)=>0≤p∧p≤(l.length:Int)∧(c.length:Int)≤b.length+11*p) (fun p c=>[(0,.fn 273 [.box 1 0] []),(6,.row 2),(7,sI (l.length:Int)),(8,sI p)]) (fun p c=>⟨[(0,.box e false),(1,.box [.lst (c.map c_u8)] false),(2,.row (l.map c_i64) 1 false 2),(3,.frm [(1,.box 0 0),(3,.box 1 0)] Tc)],4⟩) (fun p c=>((l.length:Int)-p).toNat) (0:Int) b ?_ (ft [(0,some 0),(1,some 1),(2,some 2),(3,some 3)] rfl rfl rfl ⟨fB rfl he rfl,fB rfl rfl rfl,fR (f:=c_i64) rfl rfl fun _=>rfl,fM rfl rfl rfl rfl,trivial⟩) fun p c ⟨i0,i1,i2⟩=>?_
   |refine fI (Y:=Yf [273]) [(0,.fn 273 [.box 1 0] []),(6,.row 2),(7,sI (l.length:Int)),(8,sI p)] ⟨rfl,rfl,rfl,rfl,trivial⟩ Tryz.func273 (by kernel_rfl) fun Tc2=>?_
   |refine wC (w269 c x ?_) fun z hz=>?_
   |refine ⟨⟨nx _,_⟩,?_,?_,(ft [(0,some 0),(1,some 1),(2,some 2),(3,some 3)] rfl rfl rfl ⟨fB rfl he rfl,fB rfl rfl rfl,fR (f:=c_i64) rfl rfl fun _=>rfl,fM rfl rfl rfl rfl,trivial⟩)⟩
   |refine ⟨rfl,?_⟩
  |exact hK _ _ (by omega)
  |omega
  |dsimp only
  |with_reducible apply And.intro
  |(simp (disch:=omega) only [ls]<;>omega)
theorem w268 (a0:List Int) (a1:ByteArray) (g0:a0.length≤90000000) (g1:a1.size≤1000000):WQv 268 [.lst (a0.map c_u8),sS a1] (fun r:List Int=>.lst (r.map c_u8)) (fun r=>r.length≤a0.length+11+a1.size):=by
 refine gO Tryz.func268 ?_
 repeat' first
  |with_reducible assumption
  |(conv=>whnf);first
   |refine wO (o380 _ _ ?_ ?_ ?_) fun z380 h380=>?_
   |refine wU (leafs_map (f:=c_u8) (fun _=>rfl) _) (u379 _ _ ?_ ?_) (fun z379 hz379=>?_) rfl rfl rfl
   |refine ⟨_,_,deep0 (leafs_map (f:=c_u8) (fun _=>rfl) _),?_⟩
   |refine ⟨_,rfl,?_⟩
  |omega
  |(simp (disch:=omega) only [ls]<;>omega)
theorem far276 {e:List WV} {b:List Int} {l:List Bool} {K:WKF} (he:e.all leafB=true) (g0:b.length≤20000000) (g1:l.length≤2) (hK:∀(b2:List Int) (Tc:TL),b2.length≤b.length+2*1→K (.tup []) [(1,.box 0 0),(3,.box 1 0)] ⟨[(0,.box e false),(1,.box [.lst (b2.map c_u8)] false),(2,.row (l.map cBool) 1 false 2),(3,.frm [(1,.box 0 0),(3,.box 1 0)] Tc)],4⟩):FarS P 276 [.fn 277 [.box 1 0] [],.row 2] [(1,.box 0 0),(3,.box 1 0)] ⟨[(0,.box e false),(1,.box [.lst (b.map c_u8)] false),(2,.row (l.map cBool) 1 false 2)],3⟩ K:=by
 refine fI (Y:=Yf [277]) [(1,.box 0 0),(3,.box 1 0)] ⟨rfl,rfl,trivial⟩ Tryz.func276 (by kernel_rfl) fun Tc=>?_
 repeat' first
  |with_reducible assumption
  |(conv=>whnf);first
   |apply bD<;>intro h
   |refine lM ?_
   |refine wR ?_ ?_ ?_
   |refine wL ?_ ?_ fun x hx=>?_
   |refine V2 (fun (p:Int) (c:List Int)=>0≤p∧p≤(l.length:Int)∧(c.length:Int)≤b.length+1*p) (fun p c=>[(0,.fn 277 [.box 1 0] []),(6,.row 2),(7,sI (l.length:Int)),(8,sI p)]) (fun p c=>⟨[(0,.box e false),(1,.box [.lst (c.map c_u8)] false),(2,.row (l.map cBool) 1 false 2),(3,.frm [(1,.box 0 0),(3,.box 1 0)] Tc)],4⟩) (fun p c=>((l.length:Int)-p).toNat) (0:Int) b ?_ (ft [(0,some 0),(1,some 1),(2,some 2),(3,some 3)] rfl rfl rfl ⟨fB rfl he rfl,fB rfl rfl rfl,fR (f:=cBool) rfl rfl fun _=>rfl,fM rfl rfl rfl rfl,trivial⟩) fun p c ⟨i0,i1,i2⟩=>?_
   |refine fI (Y:=Yf [277]) [(0,.fn 277 [.box 1 0] []),(6,.row 2),(7,sI (l.length:Int)),(8,sI p)] ⟨rfl,rfl,rfl,rfl,trivial⟩ Tryz.func277 (by kernel_rfl) fun Tc2=>?_
   |refine wC (w270 c x ?_) fun z hz=>?_
   |refine ⟨⟨nx _,_⟩,?_,?_,(ft [(0,some 0),(1,some 1),(2,some 2),(3,some 3)] rfl rfl rfl ⟨fB rfl he rfl,fB rfl rfl rfl,fR (f:=cBool) rfl rfl fun _=>rfl,fM rfl rfl rfl rfl,trivial⟩)⟩
   |refine ⟨rfl,?_⟩
  |exact hK _ _ (by omega)
  |omega
  |dsimp only
  |with_reducible apply And.intro
  |(simp (disch:=omega) only [ls]<;>omega)
theorem far278 {e:List WV} {b:List Int} {l:List (List Int)} {K:WKF} (he:e.all leafB=true) (g0:b.length≤20000000) (g1:l.length≤2) (g2:∀x∈l,x.length≤1000) (hK:∀(b2:List Int) (Tc:TL),b2.length≤b.length+2*11011→K (.tup []) [(1,.box 0 0),(3,.box 1 0)] ⟨[(0,.box e false),(1,.box [.lst (b2.map c_u8)] false),(2,.row (l.map cL24) 1 false 2),(3,.frm [(1,.box 0 0),(3,.box 1 0)] Tc)],4⟩):FarS P 278 [.fn 279 [.box 1 0] [],.row 2] [(1,.box 0 0),(3,.box 1 0)] ⟨[(0,.box e false),(1,.box [.lst (b.map c_u8)] false),(2,.row (l.map cL24) 1 false 2)],3⟩ K:=by
 refine fI (Y:=Yf [279]) [(1,.box 0 0),(3,.box 1 0)] ⟨rfl,rfl,trivial⟩ Tryz.func278 (by kernel_rfl) fun Tc=>?_
 repeat' first
  |with_reducible assumption
  |(conv=>whnf);first
   |apply bD<;>intro h
   |refine lM ?_
   |refine wR ?_ ?_ ?_
   |refine wL ?_ ?_ fun x hx=>?_
   |refine V2 (fun (p:Int) (c:List Int)=>0≤p∧p≤(l.length:Int)∧(c.length:Int)≤b.length+11011*p) (fun p c=>[(0,.fn 279 [.box 1 0] []),(6,.row 2),(7,sI (l.length:Int)),(8,sI p)]) (fun p c=>⟨[(0,.box e false),(1,.box [.lst (c.map c_u8)] false),(2,.row (l.map cL24) 1 false 2),(3,.frm [(1,.box 0 0),(3,.box 1 0)] Tc)],4⟩) (fun p c=>((l.length:Int)-p).toNat) (0:Int) b ?_ (ft [(0,some 0),(1,some 1),(2,some 2),(3,some 3)] rfl rfl rfl ⟨fB rfl he rfl,fB rfl rfl rfl,fR (f:=cL24) rfl rfl fun _=>rfl,fM rfl rfl rfl rfl,trivial⟩) fun p c ⟨i0,i1,i2⟩=>?_
   |refine fI (Y:=Yf [279]) [(0,.fn 279 [.box 1 0] []),(6,.row 2),(7,sI (l.length:Int)),(8,sI p)] ⟨rfl,rfl,rfl,rfl,trivial⟩ Tryz.func279 (by kernel_rfl) fun Tc2=>?_
   |refine wC (w383 c x ?_ ?_) fun z hz=>?_
   |refine ⟨⟨nx _,_⟩,?_,?_,(ft [(0,some 0),(1,some 1),(2,some 2),(3,some 3)] rfl rfl rfl ⟨fB rfl he rfl,fB rfl rfl rfl,fR (f:=cL24) rfl rfl fun _=>rfl,fM rfl rfl rfl rfl,trivial⟩)⟩
   |refine ⟨rfl,?_⟩
  |exact hK _ _ (by omega)
  |exact g2 x (List.mem_of_getElem? hx)
  |(have:=g2 x (List.mem_of_getElem? hx);simp (disch:=omega) only [ls];omega)
  |(have:=g2 x (List.mem_of_getElem? hx);omega)
  |omega
theorem w271 (a0:List Int) (a1:List ByteArray) (g0:a0.length≤50000000) (g1:∀x∈a1,x.size≤1000) (g2:a1.length≤1000):WQv 271 [.lst (a0.map c_u8),.lst (a1.map cStr)] (fun r:List Int=>.lst (r.map c_u8)) (fun r=>r.length≤a0.length+11+1011*a1.length):=by
 refine goF [382] Tryz.func271 (by kernel_rfl) ?_
 repeat' first
  |with_reducible assumption
  |(conv=>whnf);first
   |apply bD<;>intro h
   |refine wO (o380 _ _ ?_ ?_ ?_) fun z380 h380=>?_
   |refine fI (Y:=Yf [382]) [] trivial Tryz.func382 (by kernel_rfl) fun Tc=>?_
   |refine lM ?_
   |refine wG ?_ ?_ (fun _=>rfl) fun x hx hm=>?_
   |refine wU (leafs_map (f:=c_u8) (fun _=>rfl) _) (u379 b x ?_ ?_) (fun z379 hz379=>?_) rfl rfl rfl
   |refine wU (leafs_map (f:=c_u8) (fun _=>rfl) _) (u381 _ _ ?_) (fun z381 hz381=>?_) rfl rfl rfl
   |refine V2 (fun (p:Int) (b:List Int)=>0≤p∧p≤(a1.length:Int)∧(b.length:Int)≤a0.length+11+1011*p) (fun p b=>[(0,.row 0),(1,.lst (a1.map cStr)),(2,.fnp 379 [] []),(13,.lst (a1.map cStr)),(14,sI (a1.length:Int)),(15,sI p)]) (fun p b=>⟨[(0,.row (b.map c_u8) 1 false 0),(1,.frm [] Tc)],2⟩) (fun p b=>((a1.length:Int)-p).toNat) (0:Int) z381 ?_ (ft [(0,some 2),(1,some 1)] rfl rfl rfl ⟨fR (f:=c_u8) rfl rfl fun _=>rfl,fM rfl rfl rfl rfl,trivial⟩) fun p b ⟨i0,i1,i2⟩=>?_
   |refine ⟨⟨nx _,_⟩,?_,?_,(ft [(0,some 2),(1,some 1)] rfl rfl rfl ⟨fR (f:=c_u8) rfl rfl fun _=>rfl,fM rfl rfl rfl rfl,trivial⟩)⟩
   |refine ⟨_,_,deep0 (leafs_map (f:=c_u8) (fun _=>rfl) _),?_⟩
   |refine ⟨rfl,?_⟩
   |refine ⟨_,rfl,?_⟩
  |(have:=g1 x hm;omega)
  |(have:=g1 x hm;simp (disch:=omega) only [ls];omega)
  |omega
  |(simp (disch:=omega) only [ls]<;>omega)
theorem w315 (a0:List S71) (a1:Int) (a2:ByteArray) (g0:a0.length≤1000000):WQv 315 [.lst (a0.map S71.c),sI a1,sS a2] (fun r:Int×Bool=>.tup [sI r.1,sB r.2]) (fun r=>True):=by
 refine gO Tryz.func315 ?_
 repeat' first
  |with_reducible assumption
  |(conv=>whnf);first
   |apply br<;>intro h
   |refine wC (w411 _ _ _ ?_) fun z411 hz=>?_
   |refine wG ?_ ?_ (fun _=>rfl) fun x hx hm=>?_
   |refine ⟨(_,true),rfl,?_⟩
   |refine ⟨((0:Int),false),rfl,?_⟩
  |omega
  |dsimp only
  |grind
theorem w461 (a0:List S71) (a1:Int) (a2:ByteArray) (a3:Int) (g0:a0.length≤1000000):WQv 461 [.lst (a0.map S71.c),sI a1,sS a2,sI a3] (fun r:List S71=>.lst (r.map S71.c)) (fun r=>r.length≤a0.length+1):=by
 refine gO Tryz.func461 ?_
 repeat' first
  |with_reducible assumption
  |(conv=>whnf);first
   |apply br<;>intro h
   |refine wC (w411 _ _ _ ?_) fun z411 hz=>?_
   |refine ⟨lens_map (f:=S71.c) (fun _=>rfl),?_,?_,slB _ ?_⟩
   |refine ⟨lens_map (f:=S71.c) (fun _=>rfl),?_,?_,slA _ _ ?_⟩
   |refine wA (l:=[]) (f:=S71.c) (m:=_) rfl (fun _=>⟨rfl,rfl⟩) ?_ ?_ ?_
   |refine wA (f:=S71.c) (m:=[⟨_,_,_⟩]) rfl (fun _=>⟨rfl,rfl⟩) ?_ ?_ ?_
   |refine wA (f:=S71.c) (m:=_) rfl (fun _=>⟨rfl,rfl⟩) ?_ ?_ ?_
   |refine ⟨_,_,deep0 (leafs_map (f:=S71.c) (fun _=>rfl) _),?_⟩
   |refine ⟨_,rfl,?_⟩
  |omega
  |dsimp only
  |(simp (disch:=omega) only [ls]<;>omega)
  |grind
theorem o509 (a0:List S65) (a1:List Int) (g0:a0.length≤1000000) (g1:∀e∈a0,EB e) (g2:a1.length≤1000000):WSQ 509 [lE a0,lI a1] 1 c_i64 (fun r=>r.length≤a0.length):=by
 refine goS [] Tryz.func509 (by kernel_rfl) ?_
 repeat' first
  |with_reducible assumption
  |(conv=>whnf);first
   |apply bD<;>intro h
   |refine wC (w285 a0 ?_) fun z285 hz=>?_
   |refine wSn (o478 519 (fun x hx=>wq_mono (w519 x) fun r hr=>by subst hr;unfold EB at hx;omega) a0 _ ?_ ?_ ?_) (fun _=>rfl) (fun z hz=>?_) fun hz=>?_
   |refine lM ?_
   |refine wG ?_ ?_ (fun _=>rfl) fun x hx hm=>?_
   |refine lkT (fun i hi=>?_) ?_
   |refine V2 (fun (p:Int) (r:List Int)=>0≤p∧p≤(a1.length:Int)∧(r.length:Int)≤8*p) (fun p r=>[(0,lE a0),(5,.imb (GI a0)),(6,.row 0),(13,lI a1),(14,sI (a1.length:Int)),(15,sI p)]) (fun p r=>⟨[(0,.row (r.map c_i64) 1 false 0)],1⟩) (fun p r=>((a1.length:Int)-p).toNat) (0:Int) [] ?_ (ft [(0,none)] rfl rfl rfl ⟨f0 rfl rfl,trivial⟩) fun p r ⟨i0,i1,i2⟩=>?_
   |refine wA (f:=c_i64) (m:=_) rfl (fun _=>⟨rfl,rfl⟩) ?_ ?_ ?_
   |refine ⟨⟨nx _,r⟩,?_,?_,(ft [(0,some 0)] rfl rfl rfl ⟨fR (f:=c_i64) rfl rfl fun _=>rfl,trivial⟩)⟩
   |refine ⟨⟨nx _,_⟩,?_,?_,(ft [(0,some 1)] rfl rfl rfl ⟨fR (f:=c_i64) rfl rfl fun _=>rfl,trivial⟩)⟩
   |refine ⟨_,_,deep0 (leafs_map (f:=c_i64) (fun _=>rfl) _),?_⟩
   |refine ⟨leafs_map (f:=c_i64) (fun _=>rfl) _,_,rfl,?_⟩
   |refine ⟨rfl,[],rfl,?_⟩
  |(have:=g1 _ hm;unfold EB at this;have:=i2;simp (disch:=omega) only [ls];omega)
  |(have:=g1 _ hm;unfold EB at this;omega)
  |omega
  |dsimp only
  |with_reducible apply And.intro
  |(simp (disch:=omega) only [ls]<;>omega)
theorem w1243 (a0:ByteArray) (g0:(a0.size:Int)≤1000000000):WQv 243 [sS a0,.sc (.string (⟨#[58]⟩:ByteArray))] (fun r:ByteArray×ByteArray×Bool=>.tup [sS r.1,sS r.2.1,sB r.2.2]) (fun r=>r.1.size≤a0.size∧r.2.1.size≤a0.size):=by
 refine gO Tryz.func243 ?_
 repeat' first
  |with_reducible assumption
  |(conv=>whnf);first
   |refine wC (w1333 _ ?_) fun z1333 hz=>?_
   |refine ⟨(_,_,_),rfl,?_⟩
theorem w397 (a0:S65) (a1:List S65) (g0:a1.length≤1000000) (g1:∀e∈a1,EB e) (g2:EB a0):WQP 397 [.ipt (S65.c a0),.ipt [lE a1]] (fun _:Unit=>.tup []) (fun _=>True) PV:=by
 refine goP Tryz.func397 (by kernel_rfl) ?_
 repeat' first
  |with_reducible assumption
  |(conv=>whnf);first
   |apply bD<;>intro h
   |apply bJ<;>intro h
   |apply bS<;>intro h
   |apply bT'<;>intro h
   |refine wC (w297 _ _ ?_) fun z297 hz=>?_
   |refine wP (w294 _ _) (fun z hz=>?_) fun v hv=>?_
   |refine wP (w295 _) (fun z hz=>hz.elim) fun v hv=>?_
   |refine wC (w398 _ _ _) fun z398 hz=>?_
   |refine wC (w399 _ _ _ ?_ ?_) fun z399 hz=>?_
   |refine wC (w124 _ ?_ ?_) fun z124 hz=>?_
   |refine wC (w125 _ _ ?_) fun z125 hz=>?_
   |refine ⟨by kernel_rfl,?_⟩
   |refine ⟨(),rfl,?_⟩
   |exact pan_ok ‹_›
  |omega
theorem w298 (a0:S65) (a1:List S65) (g0:EB a0) (g1:a1.length≤1000000) (g2:∀e∈a1,EB e):WQv 298 [aE a0,lE a1] sI (fun r=>True):=by
 refine gO Tryz.func298 ?_
 repeat' first
  |with_reducible assumption
  |(conv=>whnf);first
   |apply bD<;>intro h
   |refine wC (w124 _ ?_ ?_) fun z124 hz=>?_
   |refine wC (w125 _ _ ?_) fun z125 hz=>?_
   |refine wC (w400 _ _ ?_) fun z400 hz=>?_
   |refine ⟨by kernel_rfl,?_⟩
   |refine wC (w401 _ _ _ ?_ ?_ ?_ ?_) fun z401 hz=>?_
   |refine ⟨(20:Int),rfl,?_⟩
   |refine ⟨_,rfl,?_⟩
  |omega
  |grind
theorem w487 (a0:List S65) (a1:List Int) (g0:a0.length≤1000000) (g1:a1.length≤1000000):WQv 487 [lE a0,lI a1] lE (fun r=>r.length≤a1.length∧∀x∈r,x∈a0):=by
 refine gO Tryz.func487 ?_
 repeat' first
  |with_reducible assumption
  |(conv=>whnf);first
   |apply bD<;>intro h
   |apply br<;>intro h
   |refine lM ?_
   |refine ⟨Int.le_refl 0,?_,?_,?_,[],rfl,?_⟩
   |refine V2 (fun (p0:List S65) (p1:Int)=>0≤p1∧p1≤(a1.length:Int)∧(p0.length:Int)≤p1∧(∀x∈p0,x∈a0)) (fun _ p1=>[(0,lE a0),(5,.row 0),(13,lI a1),(14,sI (a1.length:Int)),(15,sI p1)]) (fun p0 _=>⟨[(0,.row (p0.map S65.c) 29 false 0)],1⟩) (fun _ p1=>((a1.length:Int)+1-p1).toNat) ([]:List S65) (0:Int) ?_ (fR1 0 rfl rfl rfl fun _=>rfl) fun p0 p1 ⟨i0,i1,i2,i3⟩=>?_
   |refine wG ?_ ?_ (fun _=>rfl) fun x hx hm=>?_
   |refine wC (w50 _ _ ?_) fun z50 hz=>?_
   |refine wA (f:=S65.c) (m:=[_]) rfl (fun _=>⟨rfl,rfl⟩) ?_ ?_ ?_
   |refine ⟨⟨_,nx _⟩,?_,?_,(fR1 3 rfl rfl rfl fun _=>rfl)⟩
   |refine ⟨⟨_,nx _⟩,?_,?_,(fR1 0 rfl rfl rfl fun _=>rfl)⟩
   |refine ⟨_,_,deep0 (leafs_map (f:=S65.c) (fun _=>rfl) _),?_⟩
   |refine ⟨_,rfl,?_⟩
  |omega
  |dsimp only
  |with_reducible apply And.intro
  |(simp (disch:=omega) only [ls]<;>omega)
  |contradiction
  |intro hr
  |grind
theorem w523 (a0:List S65) (a1:S65) (g0:a0.length≤1000000) (g1:EB a1):WQv 523 [lE a0,aE a1] (fun r:Int×Bool=>.tup [sI r.1,sB r.2]) (fun r=>True):=by
 refine gO Tryz.func523 ?_
 repeat' first
  |with_reducible assumption
  |(conv=>whnf);first
   |apply bD<;>intro h
   |apply br<;>intro h
   |refine lM ?_
   |refine V1 (fun (p0:Int)=>0≤p0∧p0≤(a1.f9.length:Int)) (fun p0=>[(0,lE a0),(11,lI a1.f9),(12,sI (a1.f9.length:Int)),(13,sI p0)]) (fun _=>⟨[],0⟩) (fun p0=>((a1.f9.length:Int)+1-p0).toNat) (0:Int) ?_ (fN rfl rfl) fun p0 ⟨i0,i1⟩=>?_
   |refine wG ?_ ?_ (fun _=>rfl) fun x hx hm=>?_
   |refine wC (w50 _ _ ?_) fun z50 hz=>?_
   |refine ⟨nx _,?_,?_,(fN rfl rfl)⟩
   |refine ⟨(_,true),rfl,?_⟩
   |refine ⟨((0:Int),false),rfl,?_⟩
  |omega
  |dsimp only
  |with_reducible apply And.intro
  |grind
theorem w472 (a0:List Int) (a1:List Int) (g0:a0.length≤1000000000) (g1:a1.length≤1000000000):WQv 472 [lI a0,lI a1] lI (fun r=>r.length≤a0.length∧r.Nodup):=by
 refine gO Tryz.func472 ?_
 repeat' first
  |with_reducible assumption
  |(conv=>whnf);first
   |apply bD<;>intro h
   |apply bN<;>intro h
   |refine wC (w163 a1 ?_) fun z163b h163b=>?_
   |refine wC (w163 a0 ?_) fun z163 h163=>?_
   |refine lM ?_
   |refine wG (l:=z163) ?_ ?_ (fun _=>rfl) fun x hx hm=>?_
   |refine wC (w512 z163b _ ?_) fun z512 h512=>?_
   |refine V2 (fun (p:Int) (o:List Int)=>0≤p∧p≤(z163.length:Int)∧Fr (fun _=>True) z163 o p∧(o.length:Int)≤p) (fun p o=>[(5,lI z163b),(6,.row 0),(14,lI z163),(15,sI (z163.length:Int)),(16,sI p)]) (fun p o=>⟨[(0,.row (o.map c_i64) 1 false 0)],1⟩) (fun p o=>((z163.length:Int)-p).toNat) (0:Int) [] ?_ (ft [(0,none)] rfl rfl rfl ⟨f0 rfl rfl,trivial⟩) fun p o ⟨i0,i1,i2,i3⟩=>?_
   |refine wA (f:=c_i64) (m:=[_]) rfl (fun _=>⟨rfl,rfl⟩) ?_ ?_ ?_
   |refine ⟨⟨nx _,o⟩,?_,?_,(ft [(0,some 0)] rfl rfl rfl ⟨fR (f:=c_i64) rfl rfl fun _=>rfl,trivial⟩)⟩
   |refine ⟨⟨nx _,_⟩,?_,?_,(ft [(0,some 2)] rfl rfl rfl ⟨fR (f:=c_i64) rfl rfl fun _=>rfl,trivial⟩)⟩
   |refine ⟨_,_,deep0 (leafs_map (f:=c_i64) (fun _=>rfl) _),?_⟩
   |refine ⟨_,rfl,?_⟩
  |exact fr0
  |exact fr_skip i0 (by omega) i2
  |exact fr_snoc h163.2.2 i0 (by omega) hx i2 trivial
  |exact i2.1
  |omega
  |dsimp only
  |with_reducible apply And.intro
  |(simp (disch:=omega) only [ls]<;>omega)
theorem w109 (a0:S65) (g0:EB a0):WQv 109 [aE a0] aE (fun r=>EB r∧r.f0=a0.f0):=by
 refine gO Tryz.func109 ?_
 repeat' first
  |(conv=>whnf);first
   |refine wC (w172 _ _ ?_) fun z172 hz=>?_
   |refine ⟨⟨_,_,_,_,_,_,_,_,_,_,z172,_,_⟩,rfl,?_⟩
  |dsimp only
  |with_reducible apply And.intro
  |grind
theorem far274 {e:List WV} {b:List Int} {l:List ByteArray} {K:WKF} (he:e.all leafB=true) (g0:b.length≤20000000) (g1:l.length≤2) (g2:∀x∈l,x.size≤900000) (hK:∀(b2:List Int) (Tc:TL),b2.length≤b.length+2*900011→K (.tup []) [(1,.box 0 0),(3,.box 1 0)] ⟨[(0,.box e false),(1,.box [.lst (b2.map c_u8)] false),(2,.row (l.map cStr) 1 false 2),(3,.frm [(1,.box 0 0),(3,.box 1 0)] Tc)],4⟩):FarS P 274 [.fn 275 [.box 1 0] [],.row 2] [(1,.box 0 0),(3,.box 1 0)] ⟨[(0,.box e false),(1,.box [.lst (b.map c_u8)] false),(2,.row (l.map cStr) 1 false 2)],3⟩ K:=by
 refine fI (Y:=Yf [275]) [(1,.box 0 0),(3,.box 1 0)] ⟨rfl,rfl,trivial⟩ Tryz.func274 (by kernel_rfl) fun Tc=>?_
 repeat' first
  |with_reducible assumption
  |(conv=>whnf);first
   |apply bD<;>intro h
   |refine lM ?_
   |refine wR ?_ ?_ ?_
   |refine wL ?_ ?_ fun x hx=>?_
   |refine V2 (fun (p:Int) (c:List Int)=>0≤p∧p≤(l.length:Int)∧(c.length:Int)≤b.length+900011*p) (fun p c=>[(0,.fn 275 [.box 1 0] []),(6,.row 2),(7,sI (l.length:Int)),(8,sI p)]) (fun p c=>⟨[(0,.box e false),(1,.box [.lst (c.map c_u8)] false),(2,.row (l.map cStr) 1 false 2),(3,.frm [(1,.box 0 0),(3,.box 1 0)] Tc)],4⟩) (fun p c=>((l.length:Int)-p).toNat) (0:Int) b ?_ (ft [(0,some 0),(1,some 1),(2,some 2),(3,some 3)] rfl rfl rfl ⟨fB rfl he rfl,fB rfl rfl rfl,fR (f:=cStr) rfl rfl fun _=>rfl,fM rfl rfl rfl rfl,trivial⟩) fun p c ⟨i0,i1,i2⟩=>?_
   |refine fI (Y:=Yf [275]) [(0,.fn 275 [.box 1 0] []),(6,.row 2),(7,sI (l.length:Int)),(8,sI p)] ⟨rfl,rfl,rfl,rfl,trivial⟩ Tryz.func275 (by kernel_rfl) fun Tc2=>?_
   |refine wC (w268 c x ?_ ?_) fun z hz=>?_
   |refine ⟨⟨nx _,_⟩,?_,?_,(ft [(0,some 0),(1,some 1),(2,some 2),(3,some 3)] rfl rfl rfl ⟨fB rfl he rfl,fB rfl rfl rfl,fR (f:=cStr) rfl rfl fun _=>rfl,fM rfl rfl rfl rfl,trivial⟩)⟩
   |refine ⟨rfl,?_⟩
  |exact hK _ _ (by omega)
  |exact Nat.le_trans (g2 x (List.mem_of_getElem? hx)) (by decide)
  |(have:=g2 x (List.mem_of_getElem? hx);simp (disch:=omega) only [ls];omega)
  |omega
theorem w206 (a0:S61) (g0:CB a0 400 100):WQv 206 [.agg (S61.c a0)] (fun r:List Int=>.lst (r.map c_u8)) (fun r=>r.length≤900000):=by
 refine gO Tryz.func206 ?_
 repeat' first
  |with_reducible assumption
  |(conv=>whnf);first
   |apply bD<;>intro h
   |refine ⟨(by kernel_rfl:drawW _ _ _=true),?_⟩
   |refine lM ?_
   |refine wC (w268 [] a0.f0 ?_ ?_) fun b1 h1=>?_
   |refine wC (w269 b1 _ ?_) fun b2 h2=>?_
   |refine wC (w269 b2 _ ?_) fun b3 h3=>?_
   |refine wC (w270 b3 _ ?_) fun b4 h4=>?_
   |refine wC (w268 b4 a0.f4 ?_ ?_) fun b5 h5=>?_
   |refine wC (w271 b5 a0.f5 ?_ ?_ ?_) fun b6 h6=>?_
   |refine wC (w271 b6 a0.f6 ?_ ?_ ?_) fun b7 h7=>?_
   |refine wC (w269 b7 _ ?_) fun b8 h8=>?_
   |refine V2 (fun (p:Int) (b:List Int)=>0≤p∧p≤(a0.f7.f0.length:Int)∧(b.length:Int)≤300000+1000*p) (fun p b=>[(3,.lst (b.map c_u8)),(4,.box 1 0),(46,.lst (a0.f7.f0.map S179.c)),(47,sI (a0.f7.f0.length:Int)),(48,sI p)]) (fun p b=>⟨[(1,.box (S59.c a0.f7) false)],2⟩) (fun p b=>((a0.f7.f0.length:Int)-p).toNat) (0:Int) _ ?_ (ft [(1,some 1)] rfl rfl rfl ⟨fB rfl rfl rfl,trivial⟩) fun p b ⟨i0,i1,i2⟩=>?_
   |refine wC (w268 b x.f0 ?_ ?_) fun c1 k1=>?_
   |refine wC (w269 c1 _ ?_) fun c2 k2=>?_
   |refine wC (w269 b _ ?_) fun c1 k1=>?_
   |refine wG (l:=a0.f7.f0) ?_ ?_ (fun _=>rfl) fun x hx hm=>?_
   |refine wG (l:=a0.f7.f1) ?_ ?_ (fun _=>rfl) fun x hx hm=>?_
   |refine V2 (fun (p:Int) (b:List Int)=>0≤p∧p≤(a0.f7.f1.length:Int)∧(b.length:Int)≤500000+1000*p) (fun p b=>[(3,.lst (b.map c_u8)),(4,.box 1 0),(66,.lst (a0.f7.f1.map S215.c)),(67,sI (a0.f7.f1.length:Int)),(68,sI p)]) (fun p b=>⟨[(1,.box (S59.c a0.f7) false)],2⟩) (fun p b=>((a0.f7.f1.length:Int)-p).toNat) (0:Int) _ ?_ (ft [(1,some 1)] rfl rfl rfl ⟨fB rfl rfl rfl,trivial⟩) fun p b ⟨i0,i1,i2⟩=>?_
   |refine V2 (fun (p:Int) (b:List Int)=>0≤p∧p≤7∧(b.length:Int)≤700000+11*p) (fun p b=>[(3,.lst (b.map c_u8)),(94,.agg (A7.c (⟨a0.f7.f2,a0.f7.f3,a0.f7.f4,a0.f7.f5,a0.f7.f6,a0.f7.f7,a0.f7.f8⟩:A7))),(95,sI p)]) (fun _ _=>⟨[],0⟩) (fun p b=>(7-p).toNat) (0:Int) _ ?_ (fN rfl rfl) fun p b ⟨i0,i1,i2⟩=>?_
   |refine ⟨⟨nx _,_⟩,?_,?_,(fN rfl rfl)⟩
   |refine ⟨⟨nx _,_⟩,?_,?_,(ft [(1,some 1)] rfl rfl rfl ⟨fB rfl rfl rfl,trivial⟩)⟩
   |refine arr3 ?_ ?_ ?_
   |refine arrC (fun hk=>?_) ?_
   |trivial
   |refine ⟨_,rfl,?_⟩
  |(obtain ⟨q0,q1,q2,q3,q4,q5,q6,q7,q8⟩:=g0;(try simp only [List.length_nil] at *);first | omega | (simp (disch:=omega) only [ls];omega) | (exact fun x hx=>Nat.le_trans (q6 x hx) (by decide)) | (exact fun x hx=>Nat.le_trans (q7 x hx) (by decide)) | (have:=q8 _ hm;omega) | (have:=q8 _ hm;simp (disch:=omega) only [ls];omega))
theorem w138 (a0:List S65) (a1:List S71) (g0:a0.length≤1000000) (g1:a1.length≤1000000):WQv 138 [lE a0,.lst (a1.map S71.c)] lE (fun r=>r.length≤a1.length∧∀x∈r,x∈a0):=by
 refine gO Tryz.func138 ?_
 repeat' first
  |with_reducible assumption
  |(conv=>whnf);first
   |apply bD<;>intro h
   |apply br<;>intro h
   |refine wC (w196 a1) fun z196 hz=>?_
   |refine lM ?_
   |refine rgF [] [(2,.box 0 0),(5,.box 1 0),(10,.fnp 248 [] [.ipt [.lst (a1.map S71.c)]])] rfl ⟨rfl,rfl,rfl,trivial⟩ rfl Tryz.func248 (by kernel_rfl) rfl fun D d1 d2 d3 dk=>?_
   |refine V2 (fun (q0:Int) (r:List S65)=>0≤q0∧q0≤(a1.length:Int)∧(r.length:Int)≤q0∧∀x∈r,x∈a0) (fun q0 r=>[(0,.yld 2),(5,.lst (a1.map S71.c)),(6,sI (a1.length:Int)),(7,sI q0)]) (fun q0 r=>⟨[(0,.box [lE a0] false),(1,.box [.row 3] false),(2,.loop D [(2,.box 0 0),(5,.box 1 0),(10,.fnp 248 [] [.ipt [.lst (a1.map S71.c)]])] .ready none),(3,.row (r.map S65.c) 29 false 3)],4⟩) (fun q0 r=>((a1.length:Int)-q0).toNat) (0:Int) [] ?_ (ft [(0,some 0),(1,some 1),(2,some 2),(3,none)] rfl rfl rfl ⟨fB rfl rfl rfl,fX rfl rfl rfl (fun _=>rfl),fL rfl rfl rfl rfl,f0 rfl rfl,trivial⟩) fun q0 r ⟨i0,i1,i2,i3⟩=>?_
   |refine wG ?_ ?_ (fun _=>rfl) fun x hx hm=>?_
   |refine yL [] [(0,.yld 2),(5,.lst (a1.map S71.c)),(6,sI (a1.length:Int)),(7,sI q0)] d1 d2 d3 dk ⟨rfl,rfl,rfl,rfl,trivial⟩ rfl rfl fun Tc=>?_
   |refine wC (w50 _ _ ?_) fun z50 hz=>?_
   |refine wA (f:=S65.c) (m:=[z50.1]) rfl (fun _=>⟨rfl,rfl⟩) ?_ ?_ ?_
   |refine ⟨⟨nx _,_⟩,?_,?_,(ft [(0,some 0),(1,some 1),(2,some 2),(3,some 9)] rfl rfl rfl ⟨fB rfl rfl rfl,fX rfl rfl rfl (fun _=>rfl),fL rfl rfl rfl rfl,fR (f:=S65.c) rfl rfl fun _=>rfl,trivial⟩)⟩
   |refine ⟨⟨nx _,r⟩,?_,?_,(ft [(0,some 0),(1,some 1),(2,some 2),(3,some 3)] rfl rfl rfl ⟨fB rfl rfl rfl,fX rfl rfl rfl (fun _=>rfl),fL rfl rfl rfl rfl,fR (f:=S65.c) rfl rfl fun _=>rfl,trivial⟩)⟩
   |refine ⟨_,_,deep0 (leafs_map (f:=S65.c) (fun _=>rfl) _),?_⟩
   |refine ⟨rfl,rfl,?_⟩
   |refine ⟨rfl,?_⟩
   |refine ⟨_,rfl,?_⟩
  |omega
  |dsimp only
  |with_reducible apply And.intro
  |(simp (disch:=omega) only [ls]<;>omega)
  |contradiction
  |intro hr
  |grind
theorem w478 (f:FuncId) (hf:∀x:S65,EB x→WQv f [aE x] lI (fun r=>r.length≤100)) (a0:List S65) (a1:List Int) (g0:a0.length≤1000000) (g1:∀e∈a0,EB e) (g2:a1.length≤100000000):WQv 478 [lE a0,lI a1,.fnp f [] []] lI (fun r=>r.length≤a0.length):=wSv (o478 f hf a0 a1 g0 g1 g2)
end Go.Abs.RM
