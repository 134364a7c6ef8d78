/- Of GapsBounds: walks. -/
import Derived.Test.YthbenojbjjgnaaaGreatUAs
set_option linter.all false
namespace Go.Abs.RM
open Go.Proofs
set_option maxRecDepth 100000
set_option maxHeartbeats 40000000
theorem w253 (a0:S65) (g0:a0.f1.size≤80) (g1:a0.f2.size≤80) (g2:a0.f5.size≤80) (g3:a0.f8.length≤10) (g4:a0.f9.length≤8) (g5:CB a0.f10 400 100) (g6:a0.f12.f0.size≤80):WQv 253 [aE a0] (fun r:List Int=>.lst (r.map c_u8)) (fun r=>r.length≤300000):=by
 refine gO Tryz.func253 ?_
 have hn:([]:List Int).length=0:=rfl
 repeat' first
  |with_reducible assumption
  |(conv=>whnf);first
   |refine wC (w363 [] _ ?_) fun z363 hz=>?_
   |refine wC (w364 _ _ ?_ ?_) fun z364 hz=>?_
   |refine wC (w363 _ _ ?_) fun z363 hz=>?_
   |refine wC (w365 _ _ ?_) fun z365 hz=>?_
   |refine wC (w366 _ _ ?_ ?_) fun z366 hz=>?_
   |refine wC (w360 _ ?_) fun z360 hz=>?_
   |refine ⟨_,outW_map _,?_⟩
   |refine ⟨_,rfl,?_⟩
  |omega
  |(simp only [ByteArray.size,List.size_toArray,List.length_map] at *;omega)
theorem w373 (a0:List S65) (a1:List Int) (g0:a0.length≤12) (g1:∀e∈a0,EB e) (g2:a1.length≤900000000):WQv 373 [lE a0,lI a1] lI (fun r=>IS a0 r):=by
 refine gO Tryz.func373 ?_
 repeat' first
  |with_reducible assumption
  |(conv=>whnf);first
   |refine wC (w442 _ _ ?_ ?_) fun z442 hz=>?_
   |refine wC (w441 _ _ true ?_ ?_ ?_) fun z441 hz=>?_
   |refine wC (w440 _ _ true ?_ ?_ ?_) fun z440 hz=>?_
   |refine ⟨_,rfl,?_⟩
  |omega
theorem w375 (a0:List S65) (a1:S65) (a2:S65) (g0:a0.length≤12) (g1:∀e∈a0,EB e) (g2:EB a1) (g3:EB a2):WQv 375 [lE a0,aE a1,aE a2] sB (fun r=>True):=by
 refine gO Tryz.func375 ?_
 repeat' first
  |with_reducible assumption
  |(conv=>whnf);first
   |apply bJ<;>intro h
   |refine wC (w443 _ _ ?_ ?_ ?_) fun z443 hz=>?_
   |refine ⟨by kernel_rfl,?_⟩
   |refine ⟨_,rfl,?_⟩
theorem w262 (a0:List S65) (a1:List S71) (a2:List Int) (g0:a0.length≤12) (g1:∀e∈a0,EB e) (g2:a1.length≤800000) (g3:a2.length≤1000):WQv 262 [lE a0,.lst (a1.map S71.c),lI a2] (fun r:List S71=>.lst (r.map S71.c)) (fun r=>r.length≤a1.length+a2.length):=by
 refine gO Tryz.func262 ?_
 repeat' first
  |with_reducible assumption
  |(conv=>whnf);first
   |apply bD<;>intro h
   |apply br<;>intro h
   |refine wA (l:=[]) (f:=S71.c) (m:=_) rfl (fun _=>⟨rfl,rfl⟩) ?_ ?_ ?_
   |refine V2 (fun (p0:List S71) (p1:Int)=>0≤p1∧p1≤(a2.length:Int)∧(p0.length:Int)+((a2.length:Int)-p1)≤900000∧(∀r:List S71,((r.length:Int)≤(p0.length:Int)+((a2.length:Int)-p1))→r.length≤a1.length+a2.length)) (fun p0 p1=>[(0,lE a0),(2,lI a2),(7,.lst (p0.map S71.c)),(8,sI p1)]) (fun _ _=>⟨[],0⟩) (fun _ p1=>((a2.length:Int)+1-p1).toNat) (([]:List S71)++a1) (0:Int) ?_ (suits_trans (lend_suits 7 rfl rfl (leafs_map (f:=S71.c) (fun _=>rfl) _)) (fN rfl rfl)) fun p0 p1 ⟨i0,i1,i3,hk⟩=>?_
   |refine lM ?_
   |refine wG ?_ ?_ (fun _=>rfl) fun x hx hm=>?_
   |refine wC (w56 _ _ ?_) fun z56 hg=>?_
   |refine wC (w116 _) fun z116 hz=>?_
   |refine wC (w376 _ _ _ ?_ ?_ ?_) fun z376 hb=>?_
   |refine wC (w236 _ _ ?_ ?_ ?_) fun z236 h236=>?_
   |refine ⟨by kernel_rfl,?_⟩
   |refine wC (w203 _ _ _ _ ?_) fun z203 hz=>?_
   |refine ⟨⟨_,nx _⟩,?_,?_,(fN rfl rfl)⟩
   |refine ⟨_,rfl,?_⟩
  |omega
  |dsimp only
  |refine hk _ ?_
  |refine fun r hr=>hk r ?_
  |exact (hg.eb g1).2.2.2.2.1
  |exact hg.eb g1
  |exact fun e he=>g1 e (hb.2 e he)
  |with_reducible apply And.intro
  |(simp (disch:=omega) only [ls]<;>omega)
  |grind
theorem w378 (a0:List S65) (a1:List Int) (a2:Int) (a3:Int) (g0:a0.length≤12) (g1:∀e∈a0,EB e) (g2:a1.length≤1000000000):WQv 378 [lE a0,lI a1,sI a2,sI a3] sB (fun r=>True):=by
 refine gO Tryz.func378 ?_
 repeat' first
  |with_reducible assumption
  |(conv=>whnf);first
   |apply bJ<;>intro h
   |refine wC (w445 _ _ _ ?_ ?_ ?_) fun z445 hz=>?_
   |refine wC (w56 _ _ ?_) fun z56 hz=>?_
   |refine ⟨_,rfl,?_⟩
  |omega
theorem w202 (a0:List S65) (a1:List S139) (a2:S65) (a3:List S71) (g0:a0.length≤12) (g1:∀e∈a0,EB e) (g2:a1.length≤12) (g3:EB a2) (g4:a3.length≤1000000):WQv 202 [lE a0,.lst (a1.map S139.c),aE a2,.lst (a3.map S71.c)] sI (fun r=>True):=by
 refine gO Tryz.func202 ?_
 repeat' first
  |with_reducible assumption
  |(conv=>whnf);first
   |apply bI<;>intro h
   |apply bD<;>intro h
   |apply bJ<;>intro h
   |refine wC (w255 _ _ ?_ ?_) fun z255 hz=>?_
   |refine wC (w256 _ _ ?_ ?_) fun z256 h256=>?_
   |refine wC (w236 _ _ ?_ ?_ ?_) fun z236 hz=>?_
   |refine ⟨by kernel_rfl,?_⟩
   |refine V2 (fun (p0:Int) (p1:Int)=>0≤p1∧p1≤(a2.f9.length:Int)) (fun p0 p1=>[(0,lE a0),(1,.lst (a1.map S139.c)),(3,.lst (a3.map S71.c)),(6,.box 0 0),(9,sI p0),(10,sI p1)]) (fun _ _=>⟨[(0,.box (S65.c a2) false)],1⟩) (fun _ p1=>((a2.f9.length:Int)+1-p1).toNat) z236 (0:Int) ?_ (fB1 rfl rfl rfl rfl) fun p0 p1 ⟨i0,i1⟩=>?_
   |refine lM ?_
   |refine wG ?_ ?_ (fun _=>rfl) fun x hx hm=>?_
   |refine wC (w86 _ _ ?_) fun z86 hz=>?_
   |refine ⟨⟨_,nx _⟩,?_,?_,(fB1 rfl rfl rfl rfl)⟩
   |refine wC (w76 _ _ ?_ ?_) fun z76 h76=>?_
   |refine V2 (fun (p0:Int) (p1:Int)=>0≤p1∧p1≤(a2.f9.length:Int)) (fun p0 p1=>[(0,lE a0),(1,.lst (a1.map S139.c)),(3,.lst (a3.map S71.c)),(6,.box 0 0),(9,sI p0),(10,sI p1)]) (fun _ _=>⟨[(0,.box (S65.c a2) false)],1⟩) (fun _ p1=>((a2.f9.length:Int)+1-p1).toNat) z255 (0:Int) ?_ (fB1 rfl rfl rfl rfl) fun p0 p1 ⟨i0,i1⟩=>?_
   |refine ⟨_,rfl,?_⟩
  |omega
  |dsimp only
  |exact fun e he=>g1 e (h76.2 e he)
  |exact g3.2.2.2.2.1
  |exact fun e he=>g1 e (h256.2 e he)
  |with_reducible apply And.intro
  |grind
theorem w15 (a0:List S65) (a1:List Int) (g0:a0.length≤12) (g1:∀e∈a0,EB e) (g2:a1.length≤1000000):WQv 15 [lE a0,lI a1] lI (fun r=>r.length≤12∧∀x∈r,Reach a0 a1 x):=by
 refine gO Tryz.func15 ?_
 repeat' first
  |with_reducible assumption
  |(conv=>whnf);first
   |apply bD<;>intro h
   |refine wC (w54m _ _ ?_ ?_) fun z54 h54=>?_
   |refine V2 (fun (p0:List Int) (p1:Int)=>0≤p1∧p1≤(a0.length:Int)∧Bh a0 a1 p0) (fun p0 p1=>[(0,lE a0),(5,lI p0),(6,sI p1)]) (fun _ _=>⟨[],0⟩) (fun _ p1=>((a0.length:Int)+1-p1).toNat) z54 (0:Int) ?_ (fN rfl rfl) fun p0 p1 ⟨i0,i1,i2⟩=>?_
   |refine lM ?_
   |refine wC (w55m _ _ ?_ ?_ ?_) fun z55 h55=>?_
   |refine wC (w58 _ _ ?_) fun z58 h58=>?_
   |refine ⟨⟨_,nx _⟩,?_,?_,(fN rfl rfl)⟩
   |refine ⟨_,rfl,?_⟩
  |exact bh0 h54.2.1 h54.2.2
  |exact bh_next i2 h55.2 ⟨h58.1,h58.2.1⟩
  |(have:=bh_len i2;omega)
  |exact i2.2
  |omega
  |dsimp only
  |with_reducible apply And.intro
  |(simp (disch:=omega) only [ls]<;>omega)
theorem w250 (a0:Int) (a1:S61) (g0:CB a1 9223372036854775807 9223372036854775807):WQv 250 [sI a0,.agg (S61.c a1)] sI (fun r=>r=0→CB a1 400 100):=by
 refine gO Tryz.func250 ?_
 have cbm:=g0
 repeat' first
  |(conv=>whnf);first
   |apply bN<;>intro h
   |apply bI<;>intro h
   |apply br<;>intro h
   |refine wC (w350 _) fun z350 hp=>?_
   |refine wC (w351 _ _ ?_ ?_) fun z351 ho=>?_
   |refine wC (w352 _) fun z352 hz=>?_
   |refine wC (w95 _ ze61 ?_ ?_ ?_ ?_) fun z95 hs=>?_
   |refine wC (w353 _ _) fun z353 h3=>?_
   |refine wC (w354 _ _) fun z354 h4=>?_
   |refine wC (w355 _ _) fun z355 h5=>?_
   |refine wC (w356 _ ?_) fun z356 h6=>?_
   |refine wC (w357 _ (fun x hx=>by have:=cbm.2.2.2.2.2.2.1 x hx;omega)) fun z357 h7=>?_
   |refine wC (w358 _) fun z358 h8=>?_
   |refine wC (w359 _ (fun x hx=>by have:=cbm.2.2.2.2.2.2.2.2 x hx;omega)) fun z359 h10=>?_
   |refine ⟨(1:Int),rfl,?_⟩
   |refine ⟨(0:Int),rfl,?_⟩
   |refine ⟨_,rfl,?_⟩
  |omega
  |dsimp only
  |exact fun hr=>cb_empty (hs h) rfl rfl rfl rfl rfl rfl
  |intro hr
  |grind
theorem w199 (a0:S65) (g0:CB a0.f10 400 100):WQv 199 [aE a0] sB (fun r=>True):=by
 refine gO Tryz.func199 ?_
 repeat' first
  |with_reducible assumption
  |(conv=>whnf);first
   |refine wC (w251 _ ?_) fun z251 hz=>?_
   |refine ⟨by kernel_rfl,?_⟩
   |refine ⟨_,rfl,?_⟩
theorem w200 (a0:S65) (g0:EB a0):WQv 200 [aE a0] sI (fun r=>True):=by
 refine gO Tryz.func200 ?_
 obtain ⟨b1,b2,b5,b8,b9,b10⟩:=g0
 repeat' first
  |with_reducible assumption
  |(conv=>whnf);first
   |refine wC (w115 _ ?_) fun z115 hz=>?_
   |refine wC (w253 ⟨(0:Int),_,_,_,_,_,_,_,_,_,_,_,ze63⟩ ?_ ?_ ?_ ?_ ?_ ?_ ?_) fun z253 hz=>?_
   |refine wC (w252 _ ?_) fun z252 hz=>?_
   |refine ⟨_,rfl,?_⟩
  |omega
  |dsimp only
  |exact hz.1
  |exact Nat.zero_le _
  |grind
theorem w439 (a0:List S65) (a1:List S71) (g0:a0.length≤12) (g1:∀e∈a0,EB e) (g2:a1.length≤200000):WQv 439 [lE a0,.lst (a1.map S71.c)] lI (fun r=>r.length≤a1.length+12):=by
 refine gO Tryz.func439 ?_
 have hn2:([]:List Int).length=0:=rfl
 repeat' first
  |with_reducible assumption
  |(conv=>whnf);first
   |apply bD<;>intro h
   |refine V2 (fun (p0:List Int) (p1:Int)=>0≤p1∧p1≤(a1.length:Int)∧(p0.length:Int)=p1) (fun _ p1=>[(0,lE a0),(1,.lst (a1.map S71.c)),(5,.row 0),(6,sI p1)]) (fun p0 _=>⟨[(0,.row (p0.map c_i64) 1 false 0)],1⟩) (fun _ p1=>((a1.length:Int)+1-p1).toNat) [] (0:Int) ?_ (ft [(0,none)] rfl rfl rfl ⟨fitO_nil rfl rfl,trivial⟩) fun p0 p1 ⟨i0,i1,i3⟩=>?_
   |refine lM ?_
   |refine wG ?_ ?_ (fun _=>rfl) fun x hx hm=>?_
   |refine wA (f:=c_i64) (m:=[_]) rfl (fun _=>⟨rfl,rfl⟩) ?_ ?_ ?_
   |refine ⟨⟨_,nx _⟩,?_,?_,(fR1 2 rfl rfl rfl fun _=>rfl)⟩
   |refine ⟨_,_,deep0 (leafs_map (f:=c_i64) (fun _=>rfl) _),?_⟩
   |refine wC (w373 _ _ ?_ ?_ ?_) fun z373 h373=>?_
   |refine wC (w58 _ _ ?_) fun z58 hz=>?_
   |refine ⟨_,rfl,?_⟩
  |omega
  |dsimp only
  |(have:=hz.2.2;have:=h373.len;omega)
  |(have:=h373.len;omega)
  |with_reducible apply And.intro
  |(simp (disch:=omega) only [ls]<;>omega)
theorem w260 (a0:List S65) (a1:List Int) (g0:a0.length≤12) (g1:∀e∈a0,EB e) (g2:a1.length≤900000000):WQv 260 [lE a0,lI a1] lI (fun r=>IS a0 r):=by
 refine gO Tryz.func260 ?_
 repeat' first
  |with_reducible assumption
  |(conv=>whnf);first
   |apply bD<;>intro h
   |apply br<;>intro h
   |refine wC (w371 _ _ ?_ ?_) fun z371 hz=>?_
   |refine V2 (fun (p0:List Int) (p1:Int)=>0≤p1∧p1≤(z371.length:Int)∧IS a0 p0) (fun p0 p1=>[(0,lE a0),(5,lI z371),(6,lI p0),(7,sI p1)]) (fun _ _=>⟨[],0⟩) (fun _ p1=>((z371.length:Int)+20+1-p1).toNat) ([]:List Int) (0:Int) ?_ (suits_trans (lend_suits 6 rfl rfl (leafs_lit rfl)) (fN rfl rfl)) fun p0 p1 ⟨i0,i1,i3⟩=>?_
   |refine lM ?_
   |refine wE ‹_› ?_ (fun _=>rfl) ?_
   |refine wG ?_ ?_ (fun _=>rfl) fun x hx hm=>?_
   |refine wC (w56 _ _ ?_) fun z56 hg=>?_
   |refine wC (w372 _) fun z372 h372=>?_
   |refine wC (w118 p0 x ?_) fun z118 hp=>?_
   |refine ⟨_,_,deep0 (leafs_lit rfl),?_⟩
   |refine wC (w373 _ [_] ?_ ?_ ?_) fun z373 hc=>?_
   |refine V2 (fun (q0:List Int) (q1:Int)=>0≤q1∧q1≤(z373.length:Int)∧IS a0 q0) (fun q0 q1=>[(0,lE a0),(5,lI z371),(6,lI q0),(7,sI p1),(10,lI z373),(11,sI q1)]) (fun _ _=>⟨[],0⟩) (fun _ q1=>((z373.length:Int)+1-q1).toNat) z118 (0:Int) ?_ (fN rfl rfl) fun q0 q1 ⟨i0,i1,i3⟩=>?_
   |refine wC (w16 _ _ ?_) fun z16 hz=>?_
   |refine wC (w118 q0 x ?_) fun z118_1 hp=>?_
   |refine ⟨⟨_,nx _⟩,?_,?_,(fN rfl rfl)⟩
   |refine ⟨_,rfl,?_⟩
  |omega
  |exact hp.is i3 (hg.ids (got_kind hg (h372 h)))
  |(have:=hc.len;first | omega | (simp (disch:=omega) only [ls]<;>omega))
  |dsimp only
  |(have:=i3.len;omega)
  |exact IS.nil
  |with_reducible apply And.intro
  |(simp (disch:=omega) only [ls]<;>omega)
  |grind
theorem w374 (a0:List S65) (a1:List Int) (a2:Int) (g0:a0.length≤12) (g1:∀e∈a0,EB e) (g2:a1.length≤1000000000):WQv 374 [lE a0,lI a1,sI a2] sB (fun r=>True):=by
 refine gO Tryz.func374 ?_
 repeat' first
  |with_reducible assumption
  |(conv=>whnf);first
   |apply bD<;>intro h
   |apply br<;>intro h
   |refine ⟨_,_,deep0 (leafs_lit rfl),?_⟩
   |refine wC (w373 _ [_] ?_ ?_ ?_) fun z373 hz=>?_
   |refine V1 (fun (p0:Int)=>0≤p0∧p0≤(z373.length:Int)) (fun p0=>[(1,lI a1),(7,lI z373),(8,sI p0)]) (fun _=>⟨[],0⟩) (fun p0=>((z373.length:Int)+1-p0).toNat) (0:Int) ?_ (fN rfl rfl) fun p0 ⟨i0,i1⟩=>?_
   |refine lM ?_
   |refine wG ?_ ?_ (fun _=>rfl) fun x hx hm=>?_
   |refine wC (w16 _ _ ?_) fun z16 hz=>?_
   |refine ⟨false,rfl,?_⟩
   |refine ⟨nx _,?_,?_,(fN rfl rfl)⟩
   |refine ⟨true,rfl,?_⟩
  |omega
  |exact True.intro
  |(have h1:=IS.len ‹IS a0 _›;first | omega | (simp (disch:=omega) only [ls]<;>omega))
  |(simp only [List.length_cons,List.length_nil];omega)
theorem w265 (a0:List S65) (a1:List Int) (a2:List Int) (g0:a0.length≤12) (g1:∀e∈a0,EB e) (g2:a1.length≤1000000000) (g3:a2.length≤900000000):WQv 265 [lE a0,lI a1,lI a2] lI (fun r=>r.length≤12):=by
 refine gO Tryz.func265 ?_
 repeat' first
  |with_reducible assumption
  |(conv=>whnf);first
   |refine wG (l:=a2) ?_ ?_ (fun _=>rfl) fun x0 hx hm=>?_
   |apply bD<;>intro h
   |apply bN<;>intro h
   |apply br<;>intro h
   |refine V2 (fun (p0:List Int) (p1:Int)=>0≤p1∧p1≤(a2.length:Int)∧IS a0 p0) (fun _ p1=>[(0,lE a0),(1,lI a1),(2,lI a2),(7,.row 0),(8,sI p1)]) (fun p0 _=>⟨[(0,.row (p0.map c_i64) 1 true 0)],1⟩) (fun _ p1=>((a2.length:Int)+20+1-p1).toNat) ([]:List Int) (0:Int) ?_ (ft [(0,some 0)] rfl rfl rfl ⟨fRZ rfl rfl fun _=>rfl,trivial⟩) fun p0 p1 ⟨i0,i1,i3⟩=>?_
   |refine lM ?_
   |refine wC (w56 _ _ ?_) fun z56 hg=>?_
   |refine ⟨⟨_,nx _⟩,?_,?_,(ft [(0,some 0)] rfl rfl rfl ⟨fRZ rfl rfl fun _=>rfl,trivial⟩)⟩
   |refine ⟨_,_,deep0 (leafs_map (f:=c_i64) (fun _=>rfl) _),?_⟩
   |refine wC (w16 _ _ ?_) fun z16 h16=>?_
   |refine V1 (fun (q0:Int)=>0≤q0∧q0≤(p0.length:Int)) (fun q0=>[(0,lE a0),(1,lI a1),(2,lI a2),(7,.row 0),(8,sI p1),(11,sI q0),(32,.row 0),(33,lI a2),(34,sI p1),(36,sI x0),(37,sB z16)]) (fun _=>⟨[(0,.row (p0.map c_i64) 1 true 0)],1⟩) (fun q0=>((p0.length:Int)+1-q0).toNat) (0:Int) ?_ (ft [(0,some 0)] rfl rfl rfl ⟨fRZ rfl rfl fun _=>rfl,trivial⟩) fun q0 ⟨i0,i1⟩=>?_
   |refine wR ?_ ?_ ?_
   |refine wL ?_ ?_ fun x hx=>?_
   |refine wC (w378 _ _ _ _ ?_ ?_ ?_) fun z378 hz=>?_
   |refine ⟨by kernel_rfl,?_⟩
   |refine ⟨nx _,?_,?_,(ft [(0,some 0)] rfl rfl rfl ⟨fRZ rfl rfl fun _=>rfl,trivial⟩)⟩
   |refine ⟨?_,?_,wnB _ ?_⟩
   |refine wN (l:=[]) (f:=c_i64) (m:=(p0.drop q0.toNat).take (p0.length-q0.toNat)) (winLen ..) (cellP_win (f:=c_i64) (s:=1) (fun _=>⟨rfl,rfl⟩) _ _ _) (winApp ..) ?_ ?_ ?_
   |refine And.intro ?_ (And.intro ?_ (And.intro rfl ?_))
   |refine wW (f:=c_i64) (l:=[x0]) rfl (cellP_lit rfl) (winCat (f:=c_i64) p0 [x0] _ _) ?_ ?_ ?_ ?_
   |refine wA (f:=c_i64) (m:=_) rfl (fun _=>⟨rfl,rfl⟩) ?_ ?_ ?_
   |refine ⟨⟨_,nx _⟩,?_,?_,(ft [(0,some 5)] rfl rfl rfl ⟨fRZ rfl rfl fun _=>rfl,trivial⟩)⟩
   |refine ⟨_,rfl,?_⟩
  |omega
  |(refine (put_mk2 (a:=p0) ?_).is i3 ?_<;>grind)
  |(have h1:=IS.len i3;first | omega | (simp (disch:=omega) only [ls]<;>omega))
  |dsimp only
  |exact IS.nil
  |with_reducible apply And.intro
theorem w198 (a0:S65) (g0:EM a0):WQv 198 [aE a0] sI (fun r=>r=0→EB a0):=by
 refine gO Tryz.func198 ?_
 obtain ⟨b1,b2,b5,b8,b9,b10,b12⟩:=g0
 repeat' first
  |with_reducible assumption
  |(conv=>whnf);first
   |apply bJ<;>intro h
   |refine wC (w249 _ ?_ ?_ ?_ ?_ ?_) fun z249 hf=>?_
   |refine wC (w250 _ _ ?_) fun z250 hz=>?_
   |refine ⟨_,rfl,?_⟩
  |omega
  |dsimp only
  |exact fun hr=>⟨(hf h).1,(hf h).2.1,(hf h).2.2.1,(hf h).2.2.2.1,(hf h).2.2.2.2,hz hr⟩
theorem w370 (a0:List S65) (a1:List (List S71)) (g0:a0.length≤12) (g1:∀e∈a0,EB e) (g2:a1.length≤12) (g3:∀s∈a1,s.length≤200000):WQv 370 [lE a0,.lst (a1.map cL26)] lI (fun r=>r.length≤2400144):=by
 refine gO Tryz.func370 ?_
 have hn2:([]:List Int).length=0:=rfl
 have hn3:([]:List (List Int)).length=0:=rfl
 repeat' first
  |with_reducible assumption
  |(conv=>whnf);first
   |apply bD<;>intro h
   |apply br<;>intro h
   |refine V3 (fun (p0:List (List Int)) (p1:List Int) (p2:Int)=>0≤p2∧p2≤(a1.length:Int)∧(p0.length:Int)=p2∧(∀x∈p0,x.length≤200012)∧(p1.length:Int)≤200012*p2) (fun _ p1 p2=>[(0,lE a0),(1,.lst (a1.map cL26)),(5,.row 0),(6,lI p1),(7,sI p2)]) (fun p0 _ _=>⟨[(0,.row (p0.map cL24) 1 false 0)],1⟩) (fun _ _ p2=>((a1.length:Int)+1-p2).toNat) [] [] (0:Int) ?_ (suits_trans (nil_suits 6 rfl) (ft [(0,none)] rfl rfl rfl ⟨fitO_nil rfl rfl,trivial⟩)) fun p0 p1 p2 ⟨i0,i1,i3,i4,i5⟩=>?_
   |refine lM ?_
   |refine wG ?_ ?_ (fun _=>rfl) fun x hx hm=>?_
   |refine wC (w439 _ _ ?_ ?_ ?_) fun z439 h439=>?_
   |refine wA (f:=cL24) (m:=[_]) rfl (fun _=>⟨rfl,rfl⟩) ?_ ?_ ?_
   |refine wC (w58 _ _ ?_) fun z58 hu=>?_
   |refine ⟨⟨_,_,nx _⟩,?_,?_,(fR1 2 rfl rfl rfl fun _=>rfl)⟩
   |refine V2 (fun (q0:List Int) (q1:Int)=>0≤q1∧q1≤(p1.length:Int)∧(q0.length:Int)≤q1∧(∀r:List Int,(r.length≤p1.length)→r.length≤2400144)) (fun _ q1=>[(5,.row 0),(6,lI p1),(9,.row 1),(10,sI q1)]) (fun q0 _=>⟨[(0,.row (p0.map cL24) 1 false 0),(1,.row (q0.map c_i64) 1 false 1)],2⟩) (fun _ q1=>((p1.length:Int)+30+1-q1).toNat) [] (0:Int) ?_ (ft [(0,some 0),(1,none)] rfl rfl rfl ⟨fR rfl rfl fun _=>rfl,fitO_nil rfl rfl,trivial⟩) fun q0 q1 ⟨i0,i1,i3,hk⟩=>?_
   |refine V2 (fun (v0:Int) (v1:Int)=>0≤v1∧v1≤(p0.length:Int)) (fun v0 v1=>[(5,.row 0),(6,lI p1),(9,.row 1),(10,sI q1),(11,sI v0),(12,sI v1)]) (fun _ _=>⟨[(0,.row (p0.map cL24) 1 false 0),(1,.row (q0.map c_i64) 1 false 1)],2⟩) (fun _ v1=>((p0.length:Int)+1-v1).toNat) (0:Int) (0:Int) ?_ (ft [(0,some 0),(1,some 1)] rfl rfl rfl ⟨fR rfl rfl fun _=>rfl,fR rfl rfl fun _=>rfl,trivial⟩) fun v0 v1 ⟨i0,i1⟩=>?_
   |refine wR ?_ ?_ ?_
   |refine wL ?_ ?_ fun x hx=>?_
   |refine wC (w16 _ _ ?_) fun z16 hz=>?_
   |refine ⟨by kernel_rfl,?_⟩
   |refine ⟨⟨nx _,nx _⟩,?_,?_,(ft [(0,some 0),(1,some 1)] rfl rfl rfl ⟨fR rfl rfl fun _=>rfl,fR rfl rfl fun _=>rfl,trivial⟩)⟩
   |refine ⟨⟨_,nx _⟩,?_,?_,(ft [(0,some 0),(1,some 1)] rfl rfl rfl ⟨fR rfl rfl fun _=>rfl,fR rfl rfl fun _=>rfl,trivial⟩)⟩
   |refine wA (f:=c_i64) (m:=[_]) rfl (fun _=>⟨rfl,rfl⟩) ?_ ?_ ?_
   |refine ⟨⟨_,nx _⟩,?_,?_,(ft [(0,some 0),(1,some 3)] rfl rfl rfl ⟨fR rfl rfl fun _=>rfl,fR rfl rfl fun _=>rfl,trivial⟩)⟩
   |refine ⟨_,_,deep0 (leafs_map (f:=c_i64) (fun _=>rfl) _),?_⟩
   |refine ⟨_,rfl,?_⟩
  |omega
  |dsimp only
  |exact g3 _ hm
  |(have:=g3 _ hm;omega)
  |(have:=hu.2.2;have:=g3 _ hm;first | omega | (simp (disch:=omega) only [ls]<;>omega))
  |(simp (disch:=omega) only [ls]<;>omega)
  |grind
theorem w261 (a0:List S65) (a1:List Int) (g0:a0.length≤12) (g1:∀e∈a0,EB e) (g2:IS a0 a1):WQv 261 [lE a0,lI a1] lI (fun r=>r.length≤12):=by
 refine gO Tryz.func261 ?_
 have hl2:=g2.len
 have hn:([]:List Int).length=0:=rfl
 repeat' first
  |with_reducible assumption
  |(conv=>whnf);first
   |apply bD<;>intro h
   |apply bN<;>intro h
   |apply br<;>intro h
   |refine wC (w371 _ _ ?_ ?_) fun z371 hz=>?_
   |refine V2 (fun (p0:List Int) (p1:List Int)=>IS a0 p0∧p1.length+p0.length≤12) (fun p0 _=>[(0,lE a0),(5,lI p0),(6,.row 0)]) (fun _ p1=>⟨[(0,.row (p1.map c_i64) 1 false 0)],1⟩) (fun p0 _=>(p0.length+20+1)) z371 ([]:List Int) ?_ (fR1 0 rfl rfl rfl fun _=>rfl) fun p0 p1 ⟨i1,i2⟩=>?_
   |refine lM ?_
   |refine V3 (fun (q0:S65) (q1:Bool) (q2:Int)=>0≤q2∧q2≤(p0.length:Int)∧(q1=true→q0.f0∈p0)∧EB q0) (fun _ q1 q2=>[(0,lE a0),(5,lI p0),(6,.row 0),(7,.box 1 0),(8,sB q1),(9,sI q2)]) (fun q0 _ _=>⟨[(0,.row (p1.map c_i64) 1 false 0),(1,.box (S65.c q0) false)],2⟩) (fun _ _ q2=>((p0.length:Int)+1-q2).toNat) ze65 false (0:Int) ?_ (ft [(0,some 0),(1,some 1)] rfl rfl rfl ⟨fR rfl rfl fun _=>rfl,fB rfl rfl rfl,trivial⟩) fun q0 q1 q2 ⟨i0,i1,i3,i4⟩=>?_
   |refine wE ‹_› ?_ (fun _=>rfl) ?_
   |refine wG ?_ ?_ (fun _=>rfl) fun x hx hm=>?_
   |refine wC (w56 _ _ ?_) fun z56 hz=>?_
   |refine wC (w374 _ _ _ ?_ ?_ ?_) fun z374 hz=>?_
   |refine ⟨⟨_,_,nx _⟩,?_,?_,(ft [(0,some 0),(1,some 1)] rfl rfl rfl ⟨fR rfl rfl fun _=>rfl,fB rfl rfl rfl,trivial⟩)⟩
   |refine wC (w375 _ _ _ ?_ ?_ ?_ ?_) fun z375 hz=>?_
   |refine ⟨_,_,deep0 (leafs_map (f:=c_i64) (fun _=>rfl) _),?_⟩
   |refine wA (f:=c_i64) (m:=[_]) rfl (fun _=>⟨rfl,rfl⟩) ?_ ?_ ?_
   |refine ⟨_,_,deep0 (leafs_lit rfl),?_⟩
   |refine wC (w53 _ [_] ?_ ?_) fun z53 hz=>?_
   |refine ⟨⟨_,_⟩,?_,?_,(fR1 3 rfl rfl rfl fun _=>rfl)⟩
   |refine ⟨_,rfl,?_⟩
  |omega
  |exact zE_eb
  |(have:=minus_lt ‹IS a0 p0› (i3 h) hz;grind)
  |dsimp only
  |exact ⟨hz.1,fun x hx=>g2.2 x (hz.2.2 x hx)⟩
  |with_reducible apply And.intro
  |(simp (disch:=omega) only [ls]<;>omega)
  |contradiction
  |intro hr
  |grind
theorem w143 (a0:S65) (g0:EM a0):WQv 143 [aE a0] sI (fun r=>r=0→EB a0):=by
 refine gO Tryz.func143 ?_
 repeat' first
  |with_reducible assumption
  |(conv=>whnf);first
   |apply bJ<;>intro h
   |apply bN<;>intro h
   |refine wC (w198 _ ?_) fun z198 hb0=>?_
   |refine wC (w199 _ ?_) fun z199 hz=>?_
   |refine wC (w174 _ _ ?_) fun z174 hz=>?_
   |refine wC (w95 _ _ ?_ ?_ ?_ ?_) fun z95 hz=>?_
   |refine ⟨by kernel_rfl,?_⟩
   |refine wC (w200 _ ?_) fun z200 hz=>?_
   |refine wC (w28 _ ?_) fun z28 hz=>?_
   |refine ⟨_,rfl,?_⟩
  |omega
  |dsimp only
  |intro hr
  |grind
theorem w259 (a0:List S65) (a1:List (List S71)) (g0:a0.length≤12) (g1:∀e∈a0,EB e) (g2:a1.length≤12) (g3:∀s∈a1,s.length≤200000):WQv 259 [lE a0,.lst (a1.map cL26)] lI (fun r=>r.length≤5000000):=by
 refine gO Tryz.func259 ?_
 repeat' first
  |with_reducible assumption
  |(conv=>whnf);first
   |refine wC (w258 _ 200000 ?_ ?_ ?_) fun z258 h258=>?_
   |refine wC (w370 _ _ ?_ ?_ ?_ ?_) fun z370 hz=>?_
   |refine wC (w58 _ _ ?_) fun z58 hz=>?_
   |refine ⟨_,rfl,?_⟩
  |omega
theorem w80 (a0:List S65) (g0:∀e∈a0,EM e):WQv 80 [lE a0] sI (fun r=>r=0→a0.length≤2000∧∀e∈a0,EB e):=by
 refine gO Tryz.func80 ?_
 repeat' first
  |with_reducible assumption
  |(conv=>whnf);first
   |apply bD<;>intro h
   |apply bJ<;>intro h
   |apply bT'<;>intro h
   |refine lM ?_
   |refine V1 (fun (p0:Int)=>0≤p0∧p0≤(a0.length:Int)∧(∀r:Int,(r=0→∀y∈a0.drop p0.toNat,EB y)→r=0→a0.length≤2000∧∀e∈a0,EB e)) (fun p0=>[(0,lE a0),(3,sI p0)]) (fun _=>⟨[],0⟩) (fun p0=>((a0.length:Int)+1-p0).toNat) (0:Int) ?_ (fN rfl rfl) fun p0 ⟨i0,i1,hk⟩=>?_
   |refine wG ?_ ?_ (fun _=>rfl) fun x hx hm=>?_
   |refine wC (w143 _ ?_) fun z143 key=>?_
   |refine ⟨nx _,?_,?_,(fN rfl rfl)⟩
   |refine V1 (fun (q0:Int)=>1≤q0∧q0≤(a0.length:Int)+1) (fun q0=>[(0,lE a0),(5,sI q0)]) (fun _=>⟨[],0⟩) (fun q0=>((a0.length:Int)+1+1-q0).toNat) (1:Int) ?_ (fN rfl rfl) fun q0 ⟨i0,i1⟩=>?_
   |refine ⟨by kernel_rfl,?_⟩
   |refine V1 (fun (v0:Int)=>1≤v0∧v0≤(a0.length:Int)+1) (fun v0=>[(0,lE a0),(6,sI v0)]) (fun _=>⟨[],0⟩) (fun v0=>((a0.length:Int)+1+1-v0).toNat) (1:Int) ?_ (fN rfl rfl) fun v0 ⟨i0,i1⟩=>?_
   |refine ⟨(7:Int),rfl,?_⟩
   |refine ⟨_,rfl,?_⟩
  |omega
  |dsimp only
  |refine hk _ ?_
  |refine fun r hr=>hk r fun hr0=>drop_all ‹_› hx (by omega) ?_ (hr hr0)
  |exact fun r hr hr0=>⟨by omega,fun x hx=>hr hr0 x hx⟩
  |exact fun _=>drop_none ‹_›
  |exact g0 _ hm
  |with_reducible apply And.intro
  |(simp (disch:=omega) only [ls]<;>omega)
  |grind
end Go.Abs.RM
