/- Of GapsBounds: walks. -/
import Derived.Test.YthbenojbjjgnaaaGreatUAw
set_option linter.all false
namespace Go.Abs.RM
open Go.Proofs
set_option maxRecDepth 100000
set_option maxHeartbeats 40000000
theorem w540 (a0:List S65) (a1:S71) (g0:a0.length≤1000000):WQv 540 [lE a0,.agg (S71.c a1)] (fun r:S65×Bool=>.tup [aE r.1,sB r.2]) (fun r=>r.2=true→r.1∈a0):=by
 refine gO Tryz.func540 ?_
 repeat' first
  |with_reducible assumption
  |(conv=>whnf);first
   |apply bD<;>intro h
   |refine wC (w164 _ (fun x0_ r=>True) _ _ rfl (fun x0_=>w541 _ _) ?_) fun z164 hz=>?_
   |refine wG ?_ ?_ (fun _=>rfl) fun x hx hm=>?_
   |refine ⟨(ze65,false),rfl,?_⟩
   |refine ⟨(_,true),rfl,?_⟩
  |omega
  |dsimp only
  |contradiction
  |intro hr
theorem w225 (a0:Int) (g0:0≤a0) (g1:a0<18446744073709551616):WQv 225 [.sc (.int .u64 a0)] sI (fun r=>True):=by
 refine gO Tryz.func225 ?_
 repeat' first
  |with_reducible assumption
  |(conv=>whnf);first
   |refine wC (w314 _ ?_ ?_) fun z314 hz=>?_
   |refine ⟨_,rfl,?_⟩
theorem w567 (a0:S472) (a1:S472):WQv 567 [.agg (S472.c a0),.agg (S472.c a1)] sI (fun _=>True):=by
 refine gO Tryz.func567 ?_
 repeat' first
  |with_reducible assumption
  |(conv=>whnf);first
   |apply bJ<;>intro h
   |refine wC (w568 _ _) fun z568 h568=>?_
   |refine ⟨_,rfl,?_⟩
theorem w310 (a0:Int) (a1:Int):WQv 310 [sI a0,sI a1] sB (fun r=>True):=by
 refine gO Tryz.func310 ?_
 repeat' first
  |with_reducible assumption
  |(conv=>whnf);first
   |apply bN<;>intro h
   |apply br<;>intro h
   |refine wC (w410 _) fun z410 hz=>?_
   |refine ⟨true,rfl,?_⟩
   |refine ⟨_,rfl,?_⟩
theorem w231 (a0:Int):WQv 231 [sI a0] sI (fun r=>True):=by
 refine gO Tryz.func231 ?_
 repeat' first
  |with_reducible assumption
  |(conv=>whnf);first
   |apply bI<;>intro h
   |refine wC (w319 _) fun z319 hz=>?_
   |refine ⟨(18:Int),rfl,?_⟩
   |refine ⟨_,rfl,?_⟩
  |omega
  |dsimp only
theorem w205 (a0:List Int) (g0:a0.length≤1000000000):WQv 205 [.lst (a0.map c_u8)] sI (fun r=>True):=by
 refine gO Tryz.func205 ?_
 repeat' first
  |with_reducible assumption
  |(conv=>whnf);first
   |refine wC (w267) fun z267 hz=>?_
   |refine wC (w266 _ _ ?_) fun z266 hz=>?_
   |refine ⟨_,rfl,?_⟩
theorem w269 (a0:List Int) (a1:Int) (g0:a0.length≤100000000):WQv 269 [.lst (a0.map c_u8),sI a1] (fun r:List Int=>.lst (r.map c_u8)) (fun r=>r.length≤a0.length+11):=by
 refine gO Tryz.func269 ?_
 repeat' first
  |(conv=>whnf);first
   |refine wO (o380 _ _ ?_ ?_ ?_) fun z380 h380=>?_
   |refine wU (leafs_map (f:=c_u8) (fun _=>rfl) _) (u381 _ _ ?_) (fun z381 hz381=>?_) rfl rfl rfl
   |refine ⟨_,_,deep0 (leafs_map (f:=c_u8) (fun _=>rfl) _),?_⟩
   |refine ⟨_,rfl,?_⟩
  |omega
theorem u379 (a0:List Int) (s:ByteArray) (g0:a0.length≤100000000) (g1:s.size≤1000000):WUQ 379 [sS s] 1 a0 c_u8 (fun r=>a0.length≤r.length∧r.length≤a0.length+11+s.size):=by
 refine goUpd Tryz.func379 (by kernel_rfl) (lens_map fun _=>rfl) ?_
 repeat' first
  |(conv=>whnf);first
   |refine ⟨_,_,deep0 (leafs_map (f:=c_u8) (fun _=>rfl) _),?_⟩
   |refine wU (leafs_map (f:=c_u8) (fun _=>rfl) _) (u381 _ _ ?_) (fun z381 hz381=>?_) rfl rfl rfl
   |refine wA (f:=c_u8) (m:=strL s) (strL_eq _) (fun _=>⟨rfl,rfl⟩) ?_ ?_ ?_
   |refine ⟨leafs_map (f:=c_u8) (fun _=>rfl) _,_,rfl,?_⟩
  |(simp only [List.length_append,strL_len] at *;omega)
  |omega
theorem w270 (a0:List Int) (a1:Bool) (g0:a0.length≤100000000):WQv 270 [.lst (a0.map c_u8),sB a1] (fun r:List Int=>.lst (r.map c_u8)) (fun r=>r.length≤a0.length+1):=by
 refine gO Tryz.func270 ?_
 repeat' first
  |(conv=>whnf);first
   |apply br<;>intro h
   |refine wO (o380 _ _ ?_ ?_ ?_) fun z380 h380=>?_
   |refine wA (f:=c_u8) (m:=[_]) rfl (fun _=>⟨rfl,rfl⟩) ?_ ?_ ?_
   |refine ⟨_,_,deep0 (leafs_map (f:=c_u8) (fun _=>rfl) _),?_⟩
   |refine ⟨_,rfl,?_⟩
  |(simp only [List.length_append,List.length_singleton];omega)
  |omega
theorem w383 (a0:List Int) (a1:List Int) (g0:a0.length≤50000000) (g2:a1.length≤1000):WQv 383 [.lst (a0.map c_u8),lI a1] (fun r:List Int=>.lst (r.map c_u8)) (fun r=>r.length≤a0.length+11+11*a1.length):=by
 refine goF [446] Tryz.func383 (by kernel_rfl) ?_
 repeat' first
  |with_reducible assumption
  |(conv=>whnf);first
   |apply bD<;>intro h
   |refine wO (o380 _ _ ?_ ?_ ?_) fun z380 h380=>?_
   |refine fI (Y:=Yf [446]) [] trivial Tryz.func446 (by kernel_rfl) fun Tc=>?_
   |refine lM ?_
   |refine wG ?_ ?_ (fun _=>rfl) fun x hx hm=>?_
   |refine wU (leafs_map (f:=c_u8) (fun _=>rfl) _) (u381 b x ?_) (fun z381b hz381b=>?_) rfl rfl rfl
   |refine wU (leafs_map (f:=c_u8) (fun _=>rfl) _) (u381 _ _ ?_) (fun z381 hz381=>?_) rfl rfl rfl
   |refine V2 (fun (p:Int) (b:List Int)=>0≤p∧p≤(a1.length:Int)∧(b.length:Int)≤a0.length+11+11*p) (fun p b=>[(0,.row 0),(1,lI a1),(2,.fnp 381 [] []),(13,lI a1),(14,sI (a1.length:Int)),(15,sI p)]) (fun p b=>⟨[(0,.row (b.map c_u8) 1 false 0),(1,.frm [] Tc)],2⟩) (fun p b=>((a1.length:Int)-p).toNat) (0:Int) z381 ?_ (ft [(0,some 2),(1,some 1)] rfl rfl rfl ⟨fR (f:=c_u8) rfl rfl fun _=>rfl,fM rfl rfl rfl rfl,trivial⟩) fun p b ⟨i0,i1,i2⟩=>?_
   |refine ⟨⟨nx _,_⟩,?_,?_,(ft [(0,some 2),(1,some 1)] rfl rfl rfl ⟨fR (f:=c_u8) rfl rfl fun _=>rfl,fM rfl rfl rfl rfl,trivial⟩)⟩
   |refine ⟨_,_,deep0 (leafs_map (f:=c_u8) (fun _=>rfl) _),?_⟩
   |refine ⟨rfl,?_⟩
   |refine ⟨_,rfl,?_⟩
  |omega
  |dsimp only
  |with_reducible apply And.intro
  |(simp (disch:=omega) only [ls]<;>omega)
theorem w451 (a0:Int) (a1:S61) (g0:CB a1 400 100):WQv 451 [sI a0,.agg (S61.c a1)] sI (fun r=>True):=by
 refine gO Tryz.func451 ?_
 repeat' first
  |with_reducible assumption
  |(conv=>whnf);first
   |apply bI<;>intro h
   |apply bT'<;>intro h
   |apply bS<;>intro h
   |apply bD<;>intro h
   |refine wC (w132 _ ?_) fun z132 hz=>?_
   |refine ⟨_,rfl,?_⟩
  |omega
  |dsimp only
  |grind
theorem w457 (a0:List ByteArray) (g0:a0.length≤1000) (g1:∀x∈a0,x.size≤1000):WQv 457 [.lst (a0.map cStr)] sI (fun r=>True):=by
 refine gO Tryz.func457 ?_
 repeat' first
  |with_reducible assumption
  |(conv=>whnf);first
   |apply bD<;>intro h
   |apply bJ<;>intro h
   |refine lM ?_
   |refine V1 (fun (p0:Int)=>0≤p0∧p0≤(a0.length:Int)) (fun p0=>[(9,.lst (a0.map cStr)),(10,sI (a0.length:Int)),(11,sI p0)]) (fun _=>⟨[],0⟩) (fun p0=>((a0.length:Int)+1-p0).toNat) (0:Int) ?_ (fN rfl rfl) fun p0 ⟨i0,i1⟩=>?_
   |refine wG ?_ ?_ (fun _=>rfl) fun x hx hm=>?_
   |refine wC (w132 _ ?_) fun z132 hz=>?_
   |refine ⟨nx _,?_,?_,(fN rfl rfl)⟩
   |refine ⟨(7:Int),rfl,?_⟩
   |refine ⟨_,rfl,?_⟩
  |omega
  |dsimp only
  |with_reducible apply And.intro
  |(simp (disch:=omega) only [ls]<;>omega)
  |grind
theorem w450 (a0:S61) (g0:CB a0 400 100):WQv 450 [.agg (S61.c a0)] sI (fun r=>True):=by
 refine gO Tryz.func450 ?_
 repeat' first
  |with_reducible assumption
  |(conv=>whnf);first
   |apply bT'<;>intro h
   |apply bJ<;>intro h
   |apply bD<;>intro h
   |apply bN<;>intro h
   |apply br<;>intro h
   |refine lM ?_
   |refine wC (w500 _ ?_ ?_) fun z500 hz=>?_
   |refine ⟨_,rfl,?_⟩
  |grind
theorem w502 (a0:List S215) (g0:a0.length≤1000):WQv 502 [.lst (a0.map S215.c)] sI (fun r=>True):=by
 refine gO Tryz.func502 ?_
 repeat' first
  |with_reducible assumption
  |(conv=>whnf);first
   |apply bD<;>intro h
   |apply bN<;>intro h
   |apply br<;>intro h
   |refine lM ?_
   |refine V1 (fun (p0:Int)=>0≤p0∧p0≤(a0.length:Int)) (fun p0=>[(0,.lst (a0.map S215.c)),(8,.lst (a0.map S215.c)),(9,sI (a0.length:Int)),(10,sI p0)]) (fun _=>⟨[],0⟩) (fun p0=>((a0.length:Int)+1-p0).toNat) (0:Int) ?_ (fN rfl rfl) fun p0 ⟨i0,i1⟩=>?_
   |refine wG ?_ ?_ (fun _=>rfl) fun x hx hm=>?_
   |refine wC (w449 _) fun z449 hz=>?_
   |refine ⟨by kernel_rfl,?_⟩
   |refine wC (w503 _) fun z503 hz=>?_
   |refine ⟨nx _,?_,?_,(fN rfl rfl)⟩
   |refine ⟨(7:Int),rfl,?_⟩
   |refine ⟨(1:Int),rfl,?_⟩
   |refine ⟨(8:Int),rfl,?_⟩
   |refine ⟨(2:Int),rfl,?_⟩
   |refine ⟨(0:Int),rfl,?_⟩
  |omega
  |dsimp only
  |with_reducible apply And.intro
  |(simp (disch:=omega) only [ls]<;>omega)
theorem w281 (a0:S61) (a1:S61) (g0:CB a0 400 100):WQv 281 [.agg (S61.c a0),.agg (S61.c a1)] sB (fun r=>True):=by
 refine gO Tryz.func281 ?_
 repeat' first
  |with_reducible assumption
  |(conv=>whnf);first
   |apply bT'<;>intro h
   |apply bJ<;>intro h
   |apply bN<;>intro h
   |apply bI<;>intro h
   |apply br<;>intro h
   |refine ⟨by kernel_rfl,?_⟩
   |refine ⟨false,rfl,?_⟩
   |refine wC (w387 _ _ ?_) fun z387 hz=>?_
   |refine wC (w388 _ _ ?_) fun z388 hz=>?_
   |refine wC (w389 _ _ ?_) fun z389 hz=>?_
   |refine ⟨_,rfl,?_⟩
  |dsimp only
  |grind
theorem w516 (l:List S422) (a1:S65) (g0:l.length≤100):WQv 516 [.lst (l.map S422.c),aE a1] sI (fun r=>-1≤r∧r<(l.length:Int)):=by
 refine gO Tryz.func516 ?_
 repeat' first
  |with_reducible assumption
  |(conv=>whnf);first
   |apply bD<;>intro h
   |apply br<;>intro h
   |refine lM ?_
   |refine wG ?_ ?_ (fun _=>rfl) fun x hx hm=>?_
   |refine wC (w517 _ _) fun z517 h517=>?_
   |refine V1 (fun (p0:Int)=>0≤p0∧p0≤(l.length:Int)) (fun p0=>[(3,.box 0 0),(5,.fnp 517 [] []),(8,.lst (l.map S422.c)),(9,sI (l.length:Int)),(10,sI p0)]) (fun _=>⟨[(0,.box (S65.c a1) false)],1⟩) (fun p0=>((l.length:Int)-p0).toNat) (0:Int) ?_ (fB1 rfl rfl rfl rfl) fun p0 ⟨i0,i1⟩=>?_
   |refine ⟨nx _,?_,?_,(fB1 rfl rfl rfl rfl)⟩
   |refine ⟨_,rfl,?_⟩
  |omega
  |with_reducible apply And.intro
  |(simp (disch:=omega) only [ls]<;>omega)
theorem w300 (b:Nat) (a0:List S65) (g0:a0.length≤1000000) (g1:∀e∈a0,EB e):WQv 300 [.ipt [.imb (GS b),.imb (GS b),.imb GE],lE a0] lI (fun r=>r.length≤a0.length):=by
 refine gO Tryz.func300 ?_
 repeat' first
  |with_reducible assumption
  |(conv=>whnf);first
   |refine wC (w402 a0 (fun _ _=>True) 403 [.ipt [.ipt [.imb (GS b),.imb (GS b),.imb GE]]] rfl (fun x=>w403 b x) ?_ ?_) fun z402 hz=>?_
   |refine ⟨_,rfl,?_⟩
theorem w50 (a0:List S65) (a1:Int) (g0:a0.length≤1000000000):WQv 50 [lE a0,sI a1] (fun r:S65×Bool=>.tup [aE r.1,sB r.2]) (fun r=>(r.2=true→r.1∈a0∧r.1.f0=a1)∧(r.2=true→getI a0 a1=some r.1)∧(r.2=false→getI a0 a1=none)):=by
 refine gO Tryz.func50 ?_
 repeat' first
  |with_reducible assumption
  |(conv=>whnf);first
   |apply bD<;>intro h
   |refine wC (w98 _ _ ?_) fun z98 hz=>?_
   |refine wG ?_ ?_ (fun _=>rfl) fun x hx hm=>?_
   |refine ⟨(ze65,false),rfl,?_⟩
   |refine ⟨(_,true),rfl,?_⟩
  |(obtain ⟨e,h1,h2⟩:=hz.2.1 (by omega);rw [hx] at h1;cases h1;exact ⟨fun _=>getI_mem h2,fun _=>h2,fun h=>by cases h⟩)
  |exact ⟨fun h=>by (cases h),fun h=>by (cases h),fun _=>hz.2.2 (by omega)⟩
  |omega
theorem w100 (a0:S30) (a1:S65) (g0:a0.f1.length≤12) (g1:∀e∈a0.f1,EB e) (g2:a0.f2.length≤1000000) (g3:a0.f5.length≤1000000):WQv 100 [.ipt (S30.c a0),.ipt (S65.c a1)] sB (fun _=>True):=by
 refine gO Tryz.func100 ?_
 repeat' first
  |with_reducible assumption
  |(conv=>whnf);first
   |refine wC (w101 a0.f2 (fun _ _=>True) 102 [.ipt (S65.c a1)] rfl (fun x=>w102 x a1) ?_) fun z101 hz=>?_
   |refine ⟨_,rfl,?_⟩
  |omega
theorem w212 (a0:List S65) (g0:a0.length≤1000000) (g1:∀e∈a0,EB e):WQv 212 [lE a0] sI (fun _=>True):=by
 refine gO Tryz.func212 ?_
 repeat' first
  |with_reducible assumption
  |(conv=>whnf);first
   |apply bD<;>intro h
   |apply bN<;>intro h
   |refine wC (w284 a0 ?_ ?_) fun z284 hz=>?_
   |refine wC (w285 a0 ?_) fun z285 hz=>?_
   |refine lM ?_
   |refine wG ?_ ?_ (fun _=>rfl) fun x hx hm=>?_
   |refine wC (w286 a0 x ?_ ?_ ?_ ?_) fun z286 hz=>?_
   |refine V1 (fun (p0:Int)=>0≤p0∧p0≤(a0.length:Int)) (fun p0=>[(0,lE a0),(3,.imb (GI a0)),(10,lE a0),(11,sI (a0.length:Int)),(12,sI p0)]) (fun _=>⟨[],0⟩) (fun p0=>((a0.length:Int)-p0).toNat) (0:Int) ?_ (fN rfl rfl) fun p0 ⟨i0,i1⟩=>?_
   |refine ⟨nx _,?_,?_,(fN rfl rfl)⟩
   |refine ⟨_,rfl,?_⟩
  |omega
  |with_reducible apply And.intro
  |(simp (disch:=omega) only [ls]<;>omega)
  |grind
theorem w411 (a0:List S71) (a1:Int) (a2:ByteArray) (g0:a0.length≤1000000):WQv 411 [.lst (a0.map S71.c),sI a1,sS a2] (fun r:Int×Bool=>.tup [sI r.1,sB r.2]) (fun r=>0≤r.1∧r.1≤(a0.length:Int)∧(r.2=true→r.1<(a0.length:Int))):=by
 refine gO Tryz.func411 ?_
 repeat' first
  |with_reducible assumption
  |(conv=>whnf);first
   |refine wC (w474 _ (fun x0_ r=>True) _ _ rfl (fun x0_=>w475 _ (⟨a1,a2,(0:Int)⟩:S71)) (fun x0_ r=>True) _ _ rfl (fun x0_=>w477 _ (⟨a1,a2,(0:Int)⟩:S71)) ?_) fun z474 hz=>?_
   |refine ⟨(_,_),rfl,?_⟩
theorem w163 (a0:List Int) (g0:a0.length≤1000000000):WQv 163 [lI a0] lI (fun r=>r.length≤a0.length∧(∀x,x∈r↔x∈a0)∧r.Nodup):=wSv (o163 a0 g0)
theorem o478 (f:FuncId) (hf:∀x:S65,EB x→WQv f [aE x] lI (fun r=>r.length≤100)) (a0:List S65) (a1:List Int) (g0:a0.length≤1000000) (g1:∀e∈a0,EB e) (g2:a1.length≤100000000):WSQ 478 [lE a0,lI a1,.fnp f [] []] 1 c_i64 (fun r=>r.length≤a0.length):=by
 refine goS [] Tryz.func478 (by kernel_rfl) ?_
 repeat' first
  |with_reducible assumption
  |(conv=>whnf);first
   |apply bD<;>intro h
   |refine wC (w285 a0 ?_) fun z285 hz=>?_
   |refine wC (hf x ?_) fun z hz=>?_
   |refine wSn (o163 _ ?_) (fun _=>rfl) (fun z163 hz=>?_) fun hz=>?_
   |refine ⟨leafs_map (f:=c_i64) (fun _=>rfl) _,_,rfl,?_⟩
   |refine ⟨rfl,[],rfl,?_⟩
   |refine lM ?_
   |refine wG ?_ ?_ (fun _=>rfl) fun x hx hm=>?_
   |refine lkT (fun i hi=>?_) ?_
   |refine lkS (fun hm=>?_) fun hm=>?_
   |refine V3 (fun (fs hs nl:List Int)=>fs.Nodup∧(∀x∈fs,∃e∈a0,e.f0=x)∧nl.length≤100000000) (fun fs hs nl=>[(0,lE a0),(2,.fnp f [] []),(7,.imb (GI a0)),(8,.mp 0),(9,.mp 1),(10,.row 2),(11,lI nl)]) (fun fs hs nl=>⟨[(0,.set (fs.map (Value.int .i64)) VT),(1,.set (hs.map (Value.int .i64)) VT),(2,.row (fs.map c_i64) 1 false 2)],3⟩) (fun fs hs nl=>2*(a0.length-fs.length)+(if nl=[] then 0 else 1)) [] [] _ ?_ (ft [(0,some 0),(1,some 1),(2,none)] rfl rfl rfl ⟨fS rfl rfl fun _ h=>h,fS rfl rfl fun _ h=>h,f0 rfl rfl,trivial⟩) fun fs hs nl ⟨j0,j1,j2⟩=>?_
   |refine V4 (fun (p:Int) (fs2 gs lt:List Int)=>0≤p∧p≤(nl.length:Int)∧fs2.Nodup∧(∀x∈fs2,∃e∈a0,e.f0=x)∧lt.length≤100*fs2.length∧fs.length≤fs2.length∧(fs2.length=fs.length→lt=[])) (fun p fs2 gs lt=>[(0,lE a0),(2,.fnp f [] []),(7,.imb (GI a0)),(8,.mp 0),(9,.mp 1),(10,.row 2),(12,.row 3),(26,lI nl),(27,sI (nl.length:Int)),(28,sI p)]) (fun p fs2 gs lt=>⟨[(0,.set (fs2.map (Value.int .i64)) VT),(1,.set (gs.map (Value.int .i64)) VT),(2,.row (fs2.map c_i64) 1 false 2),(3,.row (lt.map c_i64) 1 false 3)],4⟩) (fun p fs2 gs lt=>((nl.length:Int)-p).toNat) (0:Int) fs [] [] ?_ (ft [(0,some 0),(1,some 1),(2,some 2),(3,none)] rfl rfl rfl ⟨fS rfl rfl fun _ h=>h,fS rfl rfl fun _ h=>h,fR (f:=c_i64) rfl rfl fun _=>rfl,f0 rfl rfl,trivial⟩) fun p fs2 gs lt ⟨k0,k1,k2,k3,k4,k5,k6⟩=>?_
   |refine ⟨VT,?_⟩
   |refine upS gs rfl ?_
   |refine upN fs2 ‹_› rfl ?_
   |refine wA (f:=c_i64) (m:=[_]) rfl (fun _=>⟨rfl,rfl⟩) ?_ ?_ ?_
   |refine wA (f:=c_i64) (m:=_) rfl (fun _=>⟨rfl,rfl⟩) ?_ ?_ ?_
   |refine ⟨_,_,deep0 (leafs_map (f:=c_i64) (fun _=>rfl) _),?_⟩
   |refine ⟨⟨nx _,fs2,gs,lt⟩,?_,?_,(ft [(0,some 0),(1,some 1),(2,some 2),(3,some 3)] rfl rfl rfl ⟨fS rfl rfl fun _ h=>h,fS rfl rfl fun _ h=>h,fR (f:=c_i64) rfl rfl fun _=>rfl,fR (f:=c_i64) rfl rfl fun _=>rfl,trivial⟩)⟩
   |refine ⟨⟨nx _,_,_,_⟩,?_,?_,(ft [(0,some 0),(1,some 1),(2,some 5),(3,some 6)] rfl rfl rfl ⟨fS rfl rfl fun _ h=>h,fS rfl rfl fun _ h=>h,fR (f:=c_i64) rfl rfl fun _=>rfl,fR (f:=c_i64) rfl rfl fun _=>rfl,trivial⟩)⟩
   |refine ⟨⟨fs2,gs,lt⟩,?_,?_,suits_trans (lend_suits 11 rfl rfl (leafs_map (f:=c_i64) (fun _=>rfl) _)) (ft [(0,some 0),(1,some 1),(2,some 2)] rfl rfl rfl ⟨fS rfl rfl fun _ h=>h,fS rfl rfl fun _ h=>h,fR (f:=c_i64) rfl rfl fun _=>rfl,trivial⟩)⟩
  |exact reach_m ‹_› (ids_le k2 k3) k5 k6
  |(have:=ids_le k2 k3;simp only [List.length_singleton];omega)
  |(have:=ids_le k2 k3;omega)
  |(have:=ids_le j0 j1;omega)
  |exact nodup_snoc k2 ‹_›
  |dsimp only
  |with_reducible apply And.intro
  |(simp (disch:=omega) only [ls]<;>omega)
  |contradiction
  |intro hr
  |grind
theorem w412 (a0:List Int) (a1:Int) (g0:a0.length≤1000000000):WQv 412 [lI a0,sI a1] sB (fun _=>True):=by
 refine gO Tryz.func412 ?_
 repeat' first
  |with_reducible assumption
  |(conv=>whnf);first
   |refine wC (w104 _ _ ?_) fun z104 h104=>?_
   |refine ⟨_,rfl,?_⟩
  |dsimp only
theorem w1333 (a0:ByteArray) (g0:(a0.size:Int)≤1000000000):WQv 333 [sS a0,.sc (.string (⟨#[58]⟩:ByteArray))] (fun r:ByteArray×ByteArray×Bool=>.tup [sS r.1,sS r.2.1,sB r.2.2]) (fun r=>r.1.size≤a0.size∧r.2.1.size≤a0.size):=by
 refine gO Tryz.func333 ?_
 repeat' first
  |with_reducible assumption
  |(conv=>whnf);first
   |apply bD<;>intro h
   |refine wC (w1425 _ ?_) fun z1425 hz=>?_
   |refine And.intro ?_ (And.intro ?_ ?_)
   |refine ⟨by kernel_rfl,?_⟩
   |refine ⟨(_,_,true),rfl,?_⟩
   |refine ⟨(_,zS,false),rfl,?_⟩
  |omega
  |exact ext_le _ _ _
  |(simp only [sz58] at *;simp (disch:=omega) only [ls];omega)
  |exact Nat.zero_le _
  |dsimp only
  |with_reducible apply And.intro
theorem w244 (a0:ByteArray) (g0:(a0.size:Int)≤1000000000):WQv 244 [sS a0] sB (fun r=>True):=by
 refine gO Tryz.func244 ?_
 repeat' first
  |with_reducible assumption
  |(conv=>whnf);first
   |refine wC (w334 _ (fun x0_ r=>True) _ _ rfl (fun x0_=>w335 _) ?_) fun z334 hz=>?_
   |refine ⟨_,rfl,?_⟩
  |dsimp only
theorem w245 (a0:ByteArray) (g0:(a0.size:Int)≤1000000000):WQv 245 [sS a0] sB (fun r=>True):=by
 refine gO Tryz.func245 ?_
 repeat' first
  |with_reducible assumption
  |(conv=>whnf);first
   |apply br<;>intro h
   |refine wC (w334 _ (fun x0_ r=>True) _ _ rfl (fun x0_=>w336 _) ?_) fun z334 hz=>?_
   |refine wS ?_ ?_ fun x hb=>?_
   |refine wC (w337 _) fun z337 hz=>?_
   |refine ⟨false,rfl,?_⟩
   |refine ⟨_,rfl,?_⟩
  |omega
  |dsimp only
  |(simp (disch:=omega) only [ls]<;>omega)
  |grind
theorem w124 (a0:List S65) (g0:a0.length≤1000000) (g1:∀e∈a0,EB e):WQv 124 [lE a0] (fun r:S59×ByteArray=>.tup [.agg (S59.c r.1),sS r.2]) (fun r=>r.1.f0.length≤100∧r.1.f1.length≤100):=by
 refine gO Tryz.func124 ?_
 repeat' first
  |with_reducible assumption
  |(conv=>whnf);first
   |apply bD<;>intro h
   |refine wC (w185 _ (1:Int) ?_) fun z185 hz=>?_
   |refine wG ?_ ?_ (fun _=>rfl) fun x hx hm=>?_
   |refine wC (w185 _ (3:Int) ?_) fun z185 hz=>?_
   |refine wC (w186 _ ?_) fun z186 hz=>?_
   |refine wC (w187 _ ?_) fun z187 hz=>?_
   |refine ⟨by kernel_rfl,?_⟩
   |refine wC (w188 _) fun z188 hz=>?_
   |refine ⟨(⟨_,_,_,_,_,_,_,_,_⟩,_),rfl,?_⟩
  |omega
  |dsimp only
  |with_reducible apply And.intro
  |grind
theorem w401 (a0:S59) (a1:S59) (a2:ByteArray) (g0:a0.f0.length≤1000000) (g1:a0.f1.length≤1000000) (g2:a1.f0.length≤1000) (g3:a1.f1.length≤1000):WQv 401 [.agg (S59.c a0),.agg (S59.c a1),sS a2] sI (fun _=>True):=by
 refine gO Tryz.func401 ?_
 repeat' first
  |with_reducible assumption
  |(conv=>whnf);first
   |apply bD<;>intro h
   |apply bJ<;>intro h
   |apply bT'<;>intro h
   |apply br<;>intro h
   |refine wC (w125 a0 a2 ?_) fun z125 hz=>?_
   |refine wC (w125 _ _ ?_) fun z hz=>?_
   |refine wC (w400 _ _ ?_) fun z hz=>?_
   |refine wC (w466 a0) fun z466 hz=>?_
   |refine wC (w466 a1) fun z466_1 hz=>?_
   |refine wC (w465 _ _ _) fun z465 hz=>?_
   |refine lM ?_
   |refine wG ?_ ?_ (fun _=>rfl) fun x hx hm=>?_
   |refine wL ?_ ?_ fun x hx=>?_
   |refine V1 (fun (p0:Int)=>0≤p0∧p0≤7) (fun p0=>[(2,sS a2),(3,.box 0 0),(4,.box 1 0),(7,.box 2 0),(8,.fn 465 [] [.box 2 0]),(9,.elt 3 0 0),(10,.elt 4 0 0),(31,sI p0)]) (fun _=>⟨[(0,.box (S59.c a0) false),(1,.box (S59.c a1) false),(2,.box [sI z125] false),(3,.row ((A7.l z466).map c_i64) 1 false 3),(4,.row ((A7.l z466_1).map c_i64) 1 false 4)],5⟩) (fun p0=>(7-p0).toNat) (0:Int) ?_ (ft [(0,some 0),(1,some 1),(2,some 2),(3,some 3),(4,some 4)] rfl rfl rfl ⟨fB rfl rfl rfl,fB rfl rfl rfl,fB rfl rfl rfl,fR (f:=c_i64) (l:=A7.l z466) rfl rfl fun _=>rfl,fR (f:=c_i64) (l:=A7.l z466_1) rfl rfl fun _=>rfl,trivial⟩) fun p0 ⟨i0,i1⟩=>?_
   |refine ⟨nx _,?_,?_,(ft [(0,some 0),(1,some 1),(2,some 2),(3,some 3),(4,some 4)] rfl rfl rfl ⟨fB rfl rfl rfl,fB rfl rfl rfl,fB rfl rfl rfl,fR (f:=c_i64) (l:=A7.l z466) rfl rfl fun _=>rfl,fR (f:=c_i64) (l:=A7.l z466_1) rfl rfl fun _=>rfl,trivial⟩)⟩
   |refine V1 (fun (p0:Int)=>0≤p0∧p0≤2) (fun p0=>[(2,sS a2),(3,.box 0 0),(4,.box 1 0),(7,.box 2 0),(8,.fn 465 [] [.box 2 0]),(47,.agg [.lst (a0.f1.map S215.c),.lst (a1.f1.map S215.c)]),(48,sI p0)]) (fun _=>⟨[(0,.box (S59.c a0) false),(1,.box (S59.c a1) false),(2,.box [sI z125] false)],3⟩) (fun p0=>(2-p0).toNat) (0:Int) ?_ (ft [(0,some 0),(1,some 1),(2,some 2)] rfl rfl rfl ⟨fB rfl rfl rfl,fB rfl rfl rfl,fB rfl rfl rfl,trivial⟩) fun p0 ⟨i0,i1⟩=>?_
   |refine V1 (fun (q0:Int)=>0≤q0∧q0≤(a0.f1.length:Int)) (fun q0=>[(2,sS a2),(3,.box 0 0),(4,.box 1 0),(7,.box 2 0),(8,.fn 465 [] [.box 2 0]),(47,.agg [.lst (a0.f1.map S215.c),.lst (a1.f1.map S215.c)]),(48,sI p0),(51,.lst (a0.f1.map S215.c)),(52,sI (a0.f1.length:Int)),(53,sI q0)]) (fun _=>⟨[(0,.box (S59.c a0) false),(1,.box (S59.c a1) false),(2,.box [sI z125] false)],3⟩) (fun q0=>((a0.f1.length:Int)-q0).toNat) (0:Int) ?_ (ft [(0,some 0),(1,some 1),(2,some 2)] rfl rfl rfl ⟨fB rfl rfl rfl,fB rfl rfl rfl,fB rfl rfl rfl,trivial⟩) fun q0 ⟨i0,i1⟩=>?_
   |refine V1 (fun (q0:Int)=>0≤q0∧q0≤(a1.f1.length:Int)) (fun q0=>[(2,sS a2),(3,.box 0 0),(4,.box 1 0),(7,.box 2 0),(8,.fn 465 [] [.box 2 0]),(47,.agg [.lst (a0.f1.map S215.c),.lst (a1.f1.map S215.c)]),(48,sI p0),(51,.lst (a1.f1.map S215.c)),(52,sI (a1.f1.length:Int)),(53,sI q0)]) (fun _=>⟨[(0,.box (S59.c a0) false),(1,.box (S59.c a1) false),(2,.box [sI z125] false)],3⟩) (fun q0=>((a1.f1.length:Int)-q0).toNat) (0:Int) ?_ (ft [(0,some 0),(1,some 1),(2,some 2)] rfl rfl rfl ⟨fB rfl rfl rfl,fB rfl rfl rfl,fB rfl rfl rfl,trivial⟩) fun q0 ⟨i0,i1⟩=>?_
   |refine V1 (fun (p0:Int)=>0≤p0∧p0≤2) (fun p0=>[(2,sS a2),(3,.box 0 0),(4,.box 1 0),(7,.box 2 0),(8,.fn 465 [] [.box 2 0]),(16,sB false),(73,.agg [.lst (a0.f0.map S179.c),.lst (a1.f0.map S179.c)]),(74,sI p0)]) (fun _=>⟨[(0,.box (S59.c a0) false),(1,.box (S59.c a1) false),(2,.box [sI z125] false)],3⟩) (fun p0=>(2-p0).toNat) (0:Int) ?_ (ft [(0,some 0),(1,some 1),(2,some 2)] rfl rfl rfl ⟨fB rfl rfl rfl,fB rfl rfl rfl,fB rfl rfl rfl,trivial⟩) fun p0 ⟨i0,i1⟩=>?_
   |refine V1 (fun (q0:Int)=>0≤q0∧q0≤(a0.f0.length:Int)) (fun q0=>[(2,sS a2),(3,.box 0 0),(4,.box 1 0),(7,.box 2 0),(8,.fn 465 [] [.box 2 0]),(16,sB false),(73,.agg [.lst (a0.f0.map S179.c),.lst (a1.f0.map S179.c)]),(74,sI p0),(77,.lst (a0.f0.map S179.c)),(78,sI (a0.f0.length:Int)),(79,sI q0)]) (fun _=>⟨[(0,.box (S59.c a0) false),(1,.box (S59.c a1) false),(2,.box [sI z125] false)],3⟩) (fun q0=>((a0.f0.length:Int)-q0).toNat) (0:Int) ?_ (ft [(0,some 0),(1,some 1),(2,some 2)] rfl rfl rfl ⟨fB rfl rfl rfl,fB rfl rfl rfl,fB rfl rfl rfl,trivial⟩) fun q0 ⟨i0,i1⟩=>?_
   |refine V1 (fun (q0:Int)=>0≤q0∧q0≤(a1.f0.length:Int)) (fun q0=>[(2,sS a2),(3,.box 0 0),(4,.box 1 0),(7,.box 2 0),(8,.fn 465 [] [.box 2 0]),(16,sB false),(73,.agg [.lst (a0.f0.map S179.c),.lst (a1.f0.map S179.c)]),(74,sI p0),(77,.lst (a1.f0.map S179.c)),(78,sI (a1.f0.length:Int)),(79,sI q0)]) (fun _=>⟨[(0,.box (S59.c a0) false),(1,.box (S59.c a1) false),(2,.box [sI z125] false)],3⟩) (fun q0=>((a1.f0.length:Int)-q0).toNat) (0:Int) ?_ (ft [(0,some 0),(1,some 1),(2,some 2)] rfl rfl rfl ⟨fB rfl rfl rfl,fB rfl rfl rfl,fB rfl rfl rfl,trivial⟩) fun q0 ⟨i0,i1⟩=>?_
   |refine ⟨nx _,?_,?_,(ft [(0,some 0),(1,some 1),(2,some 2)] rfl rfl rfl ⟨fB rfl rfl rfl,fB rfl rfl rfl,fB rfl rfl rfl,trivial⟩)⟩
   |refine arr3 ?_ ?_ ?_
   |refine arrC (fun hk=>?_) ?_
   |trivial
   |refine ⟨by kernel_rfl,?_⟩
   |refine ⟨_,rfl,?_⟩
  |omega
  |with_reducible apply And.intro
  |(simp (disch:=omega) only [ls]<;>omega)
theorem w50z (a0:List S65) (a1:Int) (g0:a0.length≤1000000000):WQv 50 [lE a0,sI a1] (fun r:S65×Bool=>.tup [aE r.1,sB r.2]) (fun r=>r.1∈a0∨r.1=ze65):=by
 refine gO Tryz.func50 ?_
 repeat' first
  |with_reducible assumption
  |(conv=>whnf);first
   |apply bD<;>intro h
   |refine wC (w98 _ _ ?_) fun z98 hz=>?_
   |refine wG ?_ ?_ (fun _=>rfl) fun x hx hm=>?_
   |refine ⟨(ze65,false),rfl,?_⟩
   |refine ⟨(_,true),rfl,?_⟩
  |exact .inl ‹_›
  |exact .inr rfl
  |omega
theorem w512 (a0:List Int) (a1:Int) (g0:a0.length≤1000000000):WQv 512 [lI a0,sI a1] (fun r:Int×Bool=>.tup [sI r.1,sB r.2]) (fun _=>True):=by
 refine gO Tryz.func512 ?_
 repeat' first
  |with_reducible assumption
  |(conv=>whnf);first
   |refine wE ‹_› ?_ (fun _=>rfl) ?_
   |apply bD<;>intro h
   |apply br<;>intro h
   |refine lM ?_
   |refine wG ?_ ?_ (fun _=>rfl) fun x hx hm=>?_
   |refine wC (w310 _ _) fun z310 h310=>?_
   |refine wC (w524 _) fun z524 h524=>?_
   |refine V2 (fun (i j:Int)=>0≤i∧i≤j∧j≤(a0.length:Int)) (fun i j=>[(0,lI a0),(1,sI a1),(6,sI (a0.length:Int)),(7,sI i),(8,sI j)]) (fun _ _=>⟨[],0⟩) (fun i j=>(j-i).toNat) (0:Int) (a0.length:Int) ?_ (fN rfl rfl) fun i j ⟨i0,i1,i2⟩=>?_
   |refine ⟨⟨nx _,_⟩,?_,?_,(fN rfl rfl)⟩
   |refine ⟨⟨i,mid i j⟩,?_,?_,(fN rfl rfl)⟩
   |refine ⟨(_,_),rfl,?_⟩
  |(have:=mid_ok i0 ‹_› i2 (by omega);unfold mid at this;first | omega | (rw [nx_eq (by omega) (by omega)];omega))
  |(have:=mid_ok i0 ‹_› i2 (by omega);omega)
  |omega
  |dsimp only
end Go.Abs.RM
