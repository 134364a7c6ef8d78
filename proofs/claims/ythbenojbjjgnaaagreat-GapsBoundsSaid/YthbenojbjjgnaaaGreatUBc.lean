/- Of GapsBounds: walks. -/
import Derived.Test.YthbenojbjjgnaaaGreatUBb
set_option linter.all false
namespace Go.Abs.RM
open Go.Proofs
set_option maxRecDepth 100000
set_option maxHeartbeats 40000000
theorem w214 (a0:List S65) (a1:Int) (g0:a0.length≤12) (g1:∀e∈a0,EB e):WQv 214 [lE a0,sI a1] (fun r:List S71×Int=>.tup [.lst (r.1.map S71.c),sI r.2]) (fun r=>r.1.length≤110000):=by
 refine gO Tryz.func214 ?_
 repeat' first
  |with_reducible assumption
  |(conv=>whnf);first
   |apply bN<;>intro h
   |refine wTo (w288 a0 ?_ ?_) (fun hz=>?_) fun b hz=>?_
   |refine wC (w289n _) fun z289 h289=>?_
   |refine wC (w289s b _) fun z289 h289=>?_
   |refine wC (w290 b _) fun z290 h290=>?_
   |refine ⟨(by kernel_rfl:drawW _ _ _=true),?_⟩
   |refine lkF (fun s hs=>?_) ?_
   |refine ⟨([],_),rfl,?_⟩
   |refine ⟨(_,_),rfl,?_⟩
  |exact Nat.le_trans hs (hz _ rfl)
  |exact Nat.zero_le _
  |(simp_all;done)
theorem w318 (a0:List S65) (a1:Int) (g0:a0.length≤12) (g1:∀e∈a0,EB e):WQv 318 [lE a0,sI a1] (fun r:List S71=>.lst (r.map S71.c)) (fun r=>r.length≤110000):=by
 refine gO Tryz.func318 ?_
 repeat' first
  |with_reducible assumption
  |(conv=>whnf);first
   |apply bN<;>intro h
   |refine wTo (w288 a0 ?_ ?_) (fun hz=>?_) fun b hz=>?_
   |refine wC (w289n _) fun z289 h289=>?_
   |refine wC (w289s b _) fun z289 h289=>?_
   |refine lkF (fun s hs=>?_) ?_
   |refine ⟨[],rfl,?_⟩
   |refine ⟨_,rfl,?_⟩
  |exact Nat.le_trans hs (hz _ rfl)
  |exact Nat.zero_le _
  |(simp_all;done)
theorem w223 (a0:List S65) (a1:S65) (g0:a0.length≤12) (g1:∀e∈a0,EB e) (g2:EB a1):WQv 223 [lE a0,aE a1] sI (fun r=>True):=by
 refine gO Tryz.func223 ?_
 repeat' first
  |with_reducible assumption
  |(conv=>whnf);first
   |apply bJ<;>intro h
   |apply bN<;>intro h
   |apply bD<;>intro h
   |refine wC (w50 _ _ ?_) fun z50 hz=>?_
   |refine wC (w214 _ _ ?_ ?_) fun z214 hz=>?_
   |refine wC (w303 _ _ _ ?_ ?_) fun z303 hz=>?_
   |refine wC (w138 _ _ ?_ ?_) fun z138 hz=>?_
   |refine wC (w124 _ ?_ ?_) fun z124 hz=>?_
   |refine wC (w125 _ _ ?_) fun z125 hz=>?_
   |refine ⟨by kernel_rfl,?_⟩
   |refine ⟨(1:Int),rfl,?_⟩
   |refine ⟨(5:Int),rfl,?_⟩
   |refine ⟨(18:Int),rfl,?_⟩
   |refine ⟨(20:Int),rfl,?_⟩
   |refine ⟨(0:Int),rfl,?_⟩
  |omega
  |dsimp only
  |intro hr
  |grind
theorem w226 (a0:List S65) (a1:Int) (g0:a0.length≤12) (g1:∀e∈a0,EB e):WQv 226 [lE a0,sI a1] (fun r:Int×Int=>.tup [sI r.1,sI r.2]) (fun r=>True):=by
 refine gO Tryz.func226 ?_
 repeat' first
  |with_reducible assumption
  |(conv=>whnf);first
   |apply bI<;>intro h
   |apply br<;>intro h
   |refine wC (w214 _ _ ?_ ?_) fun z214 hz=>?_
   |refine wC (w315 _ (5:Int) zS ?_) fun z315 hz=>?_
   |refine wC (w50 _ _ ?_) fun z50 hz=>?_
   |refine wC (w316 _ _) fun z316 hz=>?_
   |refine ⟨((0:Int),(5:Int)),rfl,?_⟩
   |refine ⟨(_,(0:Int)),rfl,?_⟩
  |omega
  |dsimp only
theorem w227 (a0:List S65) (a1:Int) (a2:ByteArray) (g0:a0.length≤12) (g1:∀e∈a0,EB e):WQv 227 [lE a0,sI a1,sS a2] lI (fun r=>r.length≤2):=by
 refine gO Tryz.func227 ?_
 repeat' first
  |with_reducible assumption
  |(conv=>whnf);first
   |apply bI<;>intro h
   |apply bS<;>intro h
   |refine wC (w214 _ _ ?_ ?_) fun z214 hz=>?_
   |refine wC (w303 _ _ _ ?_ ?_) fun z303 hz=>?_
   |refine wC (w50 _ _ ?_) fun z50 hz=>?_
   |refine wA (l:=[_]) (f:=c_i64) (m:=[_]) rfl (fun _=>⟨rfl,rfl⟩) ?_ ?_ ?_
   |refine ⟨_,_,deep0 (leafs_map (f:=c_i64) (fun _=>rfl) _),?_⟩
   |refine ⟨_,_,deep0 (leafs_lit rfl),?_⟩
   |refine ⟨[_],rfl,?_⟩
   |refine ⟨[],rfl,?_⟩
   |refine ⟨_,rfl,?_⟩
  |omega
  |dsimp only
  |(simp (disch:=omega) only [ls]<;>omega)
theorem w228 (a0:S30) (a1:Int) (a2:ByteArray) (g0:a0.f1.length≤12) (g1:∀e∈a0.f1,EB e) (g2:a0.f2.length≤1000000) (g3:a0.f5.length≤1000000):WQv 228 [.agg (S30.c a0),sI a1,sS a2] sB (fun r=>True):=by
 refine gO Tryz.func228 ?_
 repeat' first
  |with_reducible assumption
  |(conv=>whnf);first
   |apply bD<;>intro h
   |apply bJ<;>intro h
   |apply bN<;>intro h
   |apply br<;>intro h
   |refine wC (w303 a0.f1 a0.f5 a2 ?_ ?_) fun z303 hz=>?_
   |refine lM ?_
   |refine V2 (fun (p0:Bool) (p1:Int)=>0≤p1∧p1≤(a0.f2.length:Int)) (fun p0 p1=>[(1,sI a1),(2,sS a2),(3,.box 0 0),(7,sB p0),(18,.lst (a0.f2.map S135.c)),(19,sI (a0.f2.length:Int)),(20,sI p1)]) (fun _ _=>⟨[(0,.box (S30.c a0) false)],1⟩) (fun _ p1=>((a0.f2.length:Int)+1-p1).toNat) (z303==3) (0:Int) ?_ (fB1 rfl rfl rfl rfl) fun p0 p1 ⟨i0,i1⟩=>?_
   |refine wG ?_ ?_ (fun _=>rfl) fun x hx hm=>?_
   |refine ⟨⟨_,nx _⟩,?_,?_,(fB1 rfl rfl rfl rfl)⟩
   |refine wC (w317 _ _ _ ?_ ?_) fun z317 hz=>?_
   |refine wC (w318 _ _ ?_ ?_) fun z318 hz=>?_
   |refine wC (w303 a0.f1 z318 a2 ?_ ?_) fun z303_1 hz=>?_
   |refine ⟨by kernel_rfl,?_⟩
   |refine ⟨_,rfl,?_⟩
  |omega
  |dsimp only
  |with_reducible apply And.intro
  |(simp (disch:=omega) only [ls]<;>omega)
theorem w168 (a0:List S65) (g0:a0.length≤12) (g1:∀e∈a0,EB e):WQv 168 [lE a0] (fun r:List S197=>.lst (r.map S197.c)) (fun r=>r.length≤12):=by
 refine gO Tryz.func168 ?_
 repeat' first
  |with_reducible assumption
  |(conv=>whnf);first
   |apply bD<;>intro h
   |apply br<;>intro h
   |refine wC (w222 _ ?_ ?_) fun z222 hz=>?_
   |refine lM ?_
   |refine V2 (fun (p0:List S197) (p1:Int)=>0≤p1∧p1≤(z222.length:Int)∧(p0.length:Int)≤p1) (fun _ p1=>[(0,lE a0),(3,.row 0),(9,lI z222),(10,sI (z222.length:Int)),(11,sI p1)]) (fun p0 _=>⟨[(0,.row (p0.map S197.c) 3 false 0)],1⟩) (fun _ p1=>((z222.length:Int)+1-p1).toNat) [] (0:Int) ?_ (ft [(0,none)] rfl rfl rfl ⟨fitO_nil rfl rfl,trivial⟩) fun p0 p1 ⟨i0,i1,i2⟩=>?_
   |refine wG ?_ ?_ (fun _=>rfl) fun x hx hm=>?_
   |refine wC (w50 _ _ ?_) fun z50 hz=>?_
   |refine wC (w223 _ _ ?_ ?_ ?_) fun z223 hz=>?_
   |refine wA (f:=S197.c) (m:=[⟨_,_,_⟩]) rfl (fun _=>⟨rfl,rfl⟩) ?_ ?_ ?_
   |refine ⟨⟨_,nx _⟩,?_,?_,(fR1 3 rfl rfl rfl fun _=>rfl)⟩
   |refine ⟨⟨_,nx _⟩,?_,?_,(fR1 0 rfl rfl rfl fun _=>rfl)⟩
   |refine ⟨_,_,deep0 (leafs_map (f:=S197.c) (fun _=>rfl) _),?_⟩
   |refine ⟨_,rfl,?_⟩
  |omega
  |dsimp only
  |with_reducible apply And.intro
  |(simp (disch:=omega) only [ls]<;>omega)
  |grind
theorem w171 (a0:S30) (a1:Int) (a2:ByteArray) (g0:a0.f1.length≤12) (g1:∀e∈a0.f1,EB e) (g2:a0.f2.length≤1000000) (g3:a0.f5.length≤1000000):WQv 171 [.agg (S30.c a0),sI a1,sS a2] sI (fun r=>True):=by
 refine gO Tryz.func171 ?_
 repeat' first
  |with_reducible assumption
  |(conv=>whnf);first
   |apply bN<;>intro h
   |apply bI<;>intro h
   |apply br<;>intro h
   |refine wC (w153 _ _ ?_) fun z153 hz=>?_
   |refine wC (w226 _ _ ?_ ?_) fun z226 hz=>?_
   |refine wC (w227 _ _ _ ?_ ?_) fun z227 hz=>?_
   |refine wC (w104 _ (3:Int) ?_) fun z104 hz=>?_
   |refine wC (w228 _ _ _ ?_ ?_ ?_ ?_) fun z228 hz=>?_
   |refine wC (w104 _ (1:Int) ?_) fun z104 hz=>?_
   |refine ⟨(5:Int),rfl,?_⟩
   |refine ⟨_,rfl,?_⟩
  |omega
  |dsimp only
theorem w105 (a0:List S65) (g0:a0.length≤12) (g1:∀e∈a0,EB e):WQv 105 [lE a0] lI (fun r=>r.length≤1000000):=by
 refine gO Tryz.func105 ?_
 repeat' first
  |with_reducible assumption
  |(conv=>whnf);first
   |apply bD<;>intro h
   |refine wC (w168 a0 ?_ ?_) fun z168 hz=>?_
   |refine lM ?_
   |refine wG ?_ ?_ (fun _=>rfl) fun x hx hm=>?_
   |refine V2 (fun (p:Int) (r:List Int)=>0≤p∧p≤(z168.length:Int)∧(r.length:Int)≤p) (fun p r=>[(3,.row 0),(7,.lst (z168.map S197.c)),(8,sI (z168.length:Int)),(9,sI p)]) (fun p r=>⟨[(0,.row (r.map c_i64) 1 false 0)],1⟩) (fun p r=>((z168.length:Int)-p).toNat) (0:Int) [] ?_ (ft [(0,none)] rfl rfl rfl ⟨f0 rfl rfl,trivial⟩) fun p r ⟨i0,i1,i2⟩=>?_
   |refine wA (f:=c_i64) (m:=[_]) rfl (fun _=>⟨rfl,rfl⟩) ?_ ?_ ?_
   |refine ⟨⟨nx _,_⟩,?_,?_,(ft [(0,some 3)] rfl rfl rfl ⟨fR (f:=c_i64) rfl rfl fun _=>rfl,trivial⟩)⟩
   |refine wT (leafs_map (f:=c_i64) (fun _=>rfl) _) (w169 _ ?_) (fun zs hzs=>?_) rfl rfl rfl
   |refine wCp rfl ?_ fun zc dc hc1 hc2 hc3=>?_
   |refine wnE (f:=c_i64) (fun _=>rfl) ?_
   |refine ⟨_,_,deep0 (leafs_map (f:=c_i64) (fun _=>rfl) _),?_⟩
   |refine ⟨_,rfl,?_⟩
  |(subst hzs;rw [sortI_length];omega)
  |(subst hzs;rw [sortI_length] at hc1;omega)
  |omega
  |dsimp only
  |with_reducible apply And.intro
  |(simp (disch:=omega) only [ls]<;>omega)
theorem w108 (a0:S30) (a1:Int) (a2:ByteArray) (g0:a0.f1.length≤12) (g1:∀e∈a0.f1,EB e) (g2:a0.f2.length≤1000000) (g3:a0.f5.length≤1000000):WQv 108 [.agg (S30.c a0),sI a1,sS a2] sB (fun r=>True):=by
 refine gO Tryz.func108 ?_
 repeat' first
  |with_reducible assumption
  |(conv=>whnf);first
   |apply bD<;>intro h
   |apply bS<;>intro h
   |refine lM ?_
   |refine V1 (fun (p0:Int)=>0≤p0∧p0≤(a0.f1.length:Int)) (fun p0=>[(1,sI a1),(2,sS a2),(3,.box 0 0),(10,lE a0.f1),(11,sI (a0.f1.length:Int)),(12,sI p0)]) (fun _=>⟨[(0,.box (S30.c a0) false)],1⟩) (fun p0=>((a0.f1.length:Int)+1-p0).toNat) (0:Int) ?_ (fB1 rfl rfl rfl rfl) fun p0 ⟨i0,i1⟩=>?_
   |refine wG ?_ ?_ (fun _=>rfl) fun x hx hm=>?_
   |refine wC (w123 _ ?_) fun z123 hz=>?_
   |refine wC (w171 _ _ _ ?_ ?_ ?_ ?_) fun z171 hz=>?_
   |refine ⟨true,rfl,?_⟩
   |refine ⟨nx _,?_,?_,(fB1 rfl rfl rfl rfl)⟩
   |refine ⟨false,rfl,?_⟩
  |omega
  |dsimp only
  |with_reducible apply And.intro
  |(simp (disch:=omega) only [ls]<;>omega)
  |grind
theorem w103 (a0:S30) (a1:S65) (g0:a0.f1.length≤12) (g1:∀e∈a0.f1,EB e) (g2:a0.f2.length≤1000000) (g3:a0.f5.length≤1000000):WQv 103 [.ipt (S30.c a0),.ipt (S65.c a1)] sB (fun _=>True):=by
 refine gO Tryz.func103 ?_
 repeat' first
  |with_reducible assumption
  |(conv=>whnf);first
   |refine ⟨by kernel_rfl,?_⟩
   |refine wC (w105 a0.f1 ?_ ?_) fun z105 hz=>?_
   |refine wC (w104 _ _ ?_) fun z104 hz=>?_
   |refine ⟨_,rfl,?_⟩
  |omega
  |dsimp only
theorem w106 (a0:S65) (a1:S30) (a2:ByteArray) (g0:a1.f1.length≤12) (g1:∀e∈a1.f1,EB e) (g2:a1.f2.length≤1000000) (g3:a1.f5.length≤1000000):WQv 106 [.ipt (S65.c a0),.ipt (S30.c a1),.ipt [sS a2]] sB (fun _=>True):=by
 refine gO Tryz.func106 ?_
 repeat' first
  |with_reducible assumption
  |(conv=>whnf);first
   |apply bN<;>intro h
   |refine wC (w107 _) fun z107 hz=>?_
   |refine wC (w108 a1 _ _ ?_ ?_ ?_ ?_) fun z108 hz=>?_
   |refine ⟨_,rfl,?_⟩
theorem w51 (a0:S30) (a1:S65) (a2:ByteArray) (g0:a0.f1.length≤12) (g1:∀e∈a0.f1,EB e) (g2:a0.f2.length≤1000000) (g3:a0.f5.length≤1000000) (g4:EB a1):WQv 51 [.agg (S30.c a0),aE a1,sS a2] aE (fun r=>EB r∧r.f0=a1.f0):=by
 refine gO Tryz.func51 ?_
 repeat' first
  |with_reducible assumption
  |(conv=>whnf);first
   |apply br<;>intro h
   |refine ⟨_,_,.deep (.fn (.box rfl rfl (.box rfl rfl .nil)) .nil) (.deep (.fn (.box rfl rfl (.box rfl rfl .nil)) .nil) (.deep (.fn (.box rfl rfl (.box rfl rfl (.box rfl rfl .nil))) .nil) .nil)),?_⟩
   |refine wC (w99 [(100,[.ipt (S30.c a0),.ipt (S65.c a1)]),(103,[.ipt (S30.c a0),.ipt (S65.c a1)]),(106,[.ipt (S65.c a1),.ipt (S30.c a0),.ipt [sS a2]])] (by simp) ?_ ?_) fun z99 hz=>?_
   |refine wC (w109 a1 ?_) fun z109 hz=>?_
   |refine ⟨_,rfl,?_⟩
  |(intro p hp;simp only [List.mem_cons,List.not_mem_nil,or_false] at hp;rcases hp with rfl | rfl | rfl<;>rfl)
  |(intro p hp;simp only [List.mem_cons,List.not_mem_nil,or_false] at hp;rcases hp with rfl | rfl | rfl;exact w100 a0 a1 g0 g1 g2 g3;exact w103 a0 a1 g0 g1 g2 g3;exact w106 a1 a0 a2 g0 g1 g2 g3)
  |omega
  |dsimp only
  |with_reducible apply And.intro
end Go.Abs.RM
