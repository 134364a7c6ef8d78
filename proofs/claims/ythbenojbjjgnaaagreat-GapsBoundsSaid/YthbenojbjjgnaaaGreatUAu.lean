/- Of GapsBounds: walks. -/
import Derived.Test.YthbenojbjjgnaaaGreatUAt
set_option linter.all false
namespace Go.Abs.RM
open Go.Proofs
set_option maxRecDepth 100000
set_option maxHeartbeats 40000000
theorem w204 (a0:List S65) (a1:List (List S71)) (K:Nat) (g0:a0.length≤12) (g1:∀e∈a0,EB e) (g2:a1.length≤12) (g3:∀s∈a1,s.length≤K) (g4:K≤150000):WQv 204 [lE a0,.lst (a1.map cL26)] (fun r:S227=>.agg (S227.c r)) (fun r=>r.f4.length≤2*K+24):=by
 refine gO Tryz.func204 ?_
 repeat' first
  |with_reducible assumption
  |(conv=>whnf);first
   |apply bD<;>intro h
   |apply br<;>intro h
   |refine wC (w258 _ K ?_ ?_ ?_) fun z258 h258=>?_
   |refine wC (w259 _ _ ?_ ?_ ?_ ?_) fun z259 h259=>?_
   |refine wC (w260 _ _ ?_ ?_ ?_) fun z260 h260=>?_
   |refine wC (w261 _ _ ?_ ?_ ?_) fun z261 h261=>?_
   |refine wC (w262 a0 z258.1 z261 ?_ ?_ ?_ ?_) fun z262 hA=>?_
   |refine wC (w263 _ (3:Int) zS ?_) fun z263 hz=>?_
   |refine wC (w264 _ _ ?_ ?_) fun z264 hz=>?_
   |refine wC (w53 _ _ ?_ ?_) fun z53 h53=>?_
   |refine wC (w265 a0 z264 z53 ?_ ?_ ?_ ?_) fun z265 h265=>?_
   |refine wC (w262 a0 z262 z265 ?_ ?_ ?_ ?_) fun z262_1 hA=>?_
   |refine V2 (fun (p0:S227) (p1:Int)=>0≤p1∧p1≤(p0.f0.length:Int)∧p0.f0.length≤200000∧(p0.f4.length:Int)+((p0.f0.length:Int)-p1)≤900000∧(∀r:S227,((r.f4.length:Int)≤(p0.f4.length:Int)+((p0.f0.length:Int)-p1))→r.f4.length≤2*K+24)) (fun _ p1=>[(4,.box 0 0),(5,.box 1 0),(11,sI p1)]) (fun p0 _=>⟨[(0,.box (S227.c (⟨[],[],[],[],[]⟩:S227)) false),(1,.box (S227.c p0) false)],2⟩) (fun p0 p1=>((p0.f0.length:Int)+1-p1).toNat) (⟨z258.1,z261,z262,z265,z262_1⟩:S227) (0:Int) ?_ (ft [(0,some 0),(1,some 1)] rfl rfl rfl ⟨fB rfl rfl rfl,fB rfl rfl rfl,trivial⟩) fun p0 p1 ⟨i0,i1,i3,i4,hk⟩=>?_
   |refine lM ?_
   |refine wE ‹_› ?_ (fun _=>rfl) ?_
   |refine wG ?_ ?_ (fun _=>rfl) fun x hx hm=>?_
   |refine wC (w203 _ _ _ _ ?_) fun z203 hz=>?_
   |refine ⟨by kernel_rfl,?_⟩
   |refine ⟨⟨⟨_,_,_,_,z203⟩,nx _⟩,?_,?_,(ft [(0,some 0),(1,some 1)] rfl rfl rfl ⟨fB rfl rfl rfl,fB rfl rfl rfl,trivial⟩)⟩
   |refine wC (w265 a0 [] z53 ?_ ?_ ?_ ?_) fun z265_1 h265=>?_
   |refine wC (w262 a0 z262 z265_1 ?_ ?_ ?_ ?_) fun z262_2 hA=>?_
   |refine V2 (fun (p0:S227) (p1:Int)=>0≤p1∧p1≤(p0.f0.length:Int)∧p0.f0.length≤200000∧(p0.f4.length:Int)+((p0.f0.length:Int)-p1)≤900000∧(∀r:S227,((r.f4.length:Int)≤(p0.f4.length:Int)+((p0.f0.length:Int)-p1))→r.f4.length≤2*K+24)) (fun _ p1=>[(4,.box 0 0),(5,.box 1 0),(11,sI p1)]) (fun p0 _=>⟨[(0,.box (S227.c (⟨[],[],[],[],[]⟩:S227)) false),(1,.box (S227.c p0) false)],2⟩) (fun p0 p1=>((p0.f0.length:Int)+1-p1).toNat) (⟨z258.1,z261,z262,z265_1,z262_2⟩:S227) (0:Int) ?_ (ft [(0,some 0),(1,some 1)] rfl rfl rfl ⟨fB rfl rfl rfl,fB rfl rfl rfl,trivial⟩) fun p0 p1 ⟨i0,i1,i3,i4,hk⟩=>?_
   |refine ⟨_,rfl,?_⟩
  |omega
  |dsimp only
  |refine hk _ ?_
  |refine fun r hr=>hk r ?_
  |exact fun s hs=>Nat.le_trans (g3 s hs) (by omega)
  |(have:=h260.len;omega)
  |exact Nat.zero_le _
  |with_reducible apply And.intro
  |(simp (disch:=omega) only [ls]<;>omega)
  |grind
theorem w33 (a0:S30) (a1:List S65) (g0:∀e∈a1,EM e):WQv 33 [.agg (S30.c a0),lE a1] sI (fun r=>r=0→∀e∈a1,EB e):=by
 refine gO Tryz.func33 ?_
 repeat' first
  |with_reducible assumption
  |(conv=>whnf);first
   |apply bI<;>intro h
   |apply bD<;>intro h
   |apply bT'<;>intro h
   |refine wC (w80 _ ?_) fun z80 h80=>?_
   |refine lM ?_
   |refine wG ?_ ?_ (fun _=>rfl) fun x hx hm=>?_
   |refine ⟨by kernel_rfl,?_⟩
   |refine ⟨(13:Int),rfl,?_⟩
   |refine ⟨_,rfl,?_⟩
  |omega
  |dsimp only
  |exact fun hr=>(h80 hr).2
theorem w148 (a0:List S65) (a1:List (List S71)) (K:Nat) (g0:a0.length≤12) (g1:∀e∈a0,EB e) (g2:a1.length≤12) (g3:∀s∈a1,s.length≤K) (g4:K≤150000):WQv 148 [lE a0,.lst (a1.map cL26)] (fun r:List S71=>.lst (r.map S71.c)) (fun r=>r.length≤2*K+24):=by
 refine gO Tryz.func148 ?_
 repeat' first
  |with_reducible assumption
  |(conv=>whnf);first
   |apply bI<;>intro h
   |refine lM ?_
   |refine wG ?_ ?_ (fun _=>rfl) fun x hx hm=>?_
   |refine wC (w204 _ _ K ?_ ?_ ?_ ?_ ?_) fun z204 hz=>?_
   |refine ⟨[],rfl,?_⟩
   |refine ⟨_,rfl,?_⟩
  |omega
  |dsimp only
  |exact Nat.zero_le _
  |(have:=g3 _ hm;omega)
theorem w145 (a0:List S65) (g0:a0.length≤12) (g1:∀e∈a0,EB e) (g2:∀e∈a0,EM e):WQv 145 [lE a0] sB (fun r=>True):=by
 refine gO Tryz.func145 ?_
 repeat' first
  |with_reducible assumption
  |(conv=>whnf);first
   |apply bI<;>intro h
   |refine wC (w80 _ ?_) fun z80 hz=>?_
   |refine wC (w34 _ ?_ ?_) fun z34 hz=>?_
   |refine ⟨false,rfl,?_⟩
   |refine ⟨_,rfl,?_⟩
  |exact True.intro
theorem w144 (a0:List S65) (g0:a0.length≤12) (g1:∀e∈a0,EB e):WQv 144 [lE a0] (fun r:List S139=>.lst (r.map S139.c)) (fun r=>r.length≤12∧∀x∈r,x.f2.length≤110000):=by
 refine gO Tryz.func144 ?_
 have hn1:([]:List S139).length=0:=rfl
 repeat' first
  |with_reducible assumption
  |(conv=>whnf);first
   |apply bD<;>intro h
   |apply br<;>intro h
   |refine wC (w201 _ ?_) fun z201 hz=>?_
   |(refine V2 (fun (p0:List S139) (p1:Int)=>0≤p1∧p1≤(z201.length:Int)∧(p0.length:Int)=p1∧(∀x∈p0,x.f2.length+26≤26*2 ^ p1.toNat)) (fun _ p1=>[(0,lE a0),(3,.row 0),(4,lI z201),(5,sI p1)]) (fun p0 _=>⟨[(0,.row (p0.map S139.c) 4 true 0)],1⟩) (fun _ p1=>((z201.length:Int)+20+1-p1).toNat) [] (0:Int) ?_ (ft [(0,none)] rfl rfl rfl ⟨fitO_nil rfl rfl,trivial⟩) fun p0 p1 ⟨i0,i1,i3,i4⟩=>?_;rotate_left;have hp0:1≤2 ^ p1.toNat:=Nat.one_le_two_pow;have hz2:p1.toNat≤12:=(by omega);have hp1:2 ^ p1.toNat≤2 ^ 12:=Nat.pow_le_pow_right Nat.two_pos hz2;have hp2:(2:Nat) ^ 12=4096:=(by decide);have hp3:2 ^ (p1.toNat+1)=2 ^ p1.toNat*2:=Nat.pow_succ ..;have hn:(nx p1).toNat=p1.toNat+1:=(by rw [nx_eq (by omega) (by omega)];omega);rw [←hn] at hp3;obtain ⟨K,hK⟩:∃K,K+26=26*2 ^ p1.toNat:=⟨26*2 ^ p1.toNat-26,(by omega)⟩;have g6:K≤110000:=(by omega);have g5:∀x∈p0,x.f2.length≤K:=fun x hx=>(by have:=i4 x hx;omega);have h9:∀x∈p0,x.f2.length≤110000:=fun x hx=>(by have:=g5 x hx;omega);have g8:26*2 ^ (nx p1).toNat=2*K+52:=(by omega);clear hp0 hp1 hp2 hp3 hz2 i4 hK;rotate_right)
   |refine lM ?_
   |refine wG ?_ ?_ (fun _=>rfl) fun x hx hm=>?_
   |refine wC (w56 _ _ ?_) fun z56 hg=>?_
   |refine V2 (fun (q0:List (List S71)) (q1:Int)=>0≤q1∧q1≤(z56.1.f8.length:Int)∧(q0.length:Int)≤q1∧(∀x∈q0,x.length≤K)) (fun _ q1=>[(0,lE a0),(3,.row 0),(4,lI z201),(5,sI p1),(6,.box 1 0),(8,.row 2),(9,sI q1)]) (fun q0 _=>⟨[(0,.row (p0.map S139.c) 4 true 0),(1,.box (S65.c z56.1) false),(2,.row (q0.map cL26) 1 false 2)],3⟩) (fun _ q1=>((z56.1.f8.length:Int)+1-q1).toNat) [] (0:Int) ?_ (ft [(0,some 0),(1,some 1),(2,none)] rfl rfl rfl ⟨fRZ rfl rfl fun _=>rfl,fB rfl rfl rfl,fitO_nil rfl rfl,trivial⟩) fun q0 q1 ⟨i0,i1,i3,i4⟩=>?_
   |refine ⟨_,_,deep0 (leafs_map (f:=S139.c) (fun _=>rfl) _),?_⟩
   |refine wC (w86 _ _ ?_) fun z86 h86=>?_
   |refine wA (f:=cL26) (m:=[_]) rfl (fun _=>⟨rfl,rfl⟩) ?_ ?_ ?_
   |refine ⟨⟨_,nx _⟩,?_,?_,(ft [(0,some 0),(1,some 1),(2,some 5)] rfl rfl rfl ⟨fRZ rfl rfl fun _=>rfl,fB rfl rfl rfl,fR rfl rfl fun _=>rfl,trivial⟩)⟩
   |refine ⟨_,_,deep0 (leafs_map (f:=cL26) (fun _=>rfl) _),?_⟩
   |refine wC (w148 _ _ K ?_ ?_ ?_ ?_ ?_) fun z148 h148=>?_
   |refine wC (w202 _ _ _ _ ?_ ?_ ?_ ?_ ?_) fun z202 h202=>?_
   |refine wC (w116 _) fun z116 hz=>?_
   |refine wC (w203 _ _ _ _ ?_) fun z203 h203=>?_
   |refine wA (f:=S139.c) (m:=[⟨_,_,_,_⟩]) rfl (fun _=>⟨rfl,rfl⟩) ?_ ?_ ?_
   |refine ⟨⟨_,nx _⟩,?_,?_,(ft [(0,some 5)] rfl rfl rfl ⟨fRZ rfl rfl fun _=>rfl,trivial⟩)⟩
   |refine wC (w202 _ _ _ [] ?_ ?_ ?_ ?_ ?_) fun z202 h202=>?_
   |refine wC (w203 [] _ _ _ ?_) fun z203 h203=>?_
   |refine wA (f:=S139.c) (m:=[⟨_,[],_,_⟩]) rfl (fun _=>⟨rfl,rfl⟩) ?_ ?_ ?_
   |refine wA (f:=S139.c) (m:=[⟨_,[],[],_⟩]) rfl (fun _=>⟨rfl,rfl⟩) ?_ ?_ ?_
   |refine ⟨_,rfl,?_⟩
  |omega
  |(intro x hx;rcases List.mem_append.1 hx with hx | hx;(have:=g5 x hx;rw [g8];omega);(cases List.mem_singleton.1 hx;rw [g8];dsimp only;omega))
  |dsimp only
  |exact all_snoc i4 (find_le h86 g5)
  |exact fun x hx=>absurd hx List.not_mem_nil
  |with_reducible apply And.intro
  |(simp (disch:=omega) only [ls]<;>omega)
  |grind
theorem w36 (a0:S30) (g0:a0.f1.length≤12) (g1:a0.f3.length≤12) (g2:∀e∈a0.f3,EM e):WQv 36 [.agg (S30.c a0)] sI (fun r=>r=0→∀e∈a0.f3,EB e):=by
 refine gO Tryz.func36 ?_
 repeat' first
  |with_reducible assumption
  |(conv=>whnf);first
   |apply bJ<;>intro h
   |apply bD<;>intro h
   |apply br<;>intro h
   |refine wC (w33 _ _ ?_) fun z33 h33=>?_
   |refine V1 (fun (p0:Int)=>0≤p0∧p0≤(a0.f3.length:Int)) (fun p0=>[(1,.box 0 0),(4,sI p0)]) (fun _=>⟨[(0,.box (S30.c a0) false)],1⟩) (fun p0=>((a0.f3.length:Int)+1-p0).toNat) (0:Int) ?_ (fB1 rfl rfl rfl rfl) fun p0 ⟨i0,i1⟩=>?_
   |refine lM ?_
   |refine wG ?_ ?_ (fun _=>rfl) fun x hx hm=>?_
   |refine wC (w56 _ _ ?_) fun z56 hz=>?_
   |refine ⟨by kernel_rfl,?_⟩
   |refine ⟨nx _,?_,?_,(fB1 rfl rfl rfl rfl)⟩
   |refine V1 (fun (q0:Int)=>0≤q0∧q0≤(a0.f3.length:Int)) (fun q0=>[(1,.box 0 0),(7,sI q0)]) (fun _=>⟨[(0,.box (S30.c a0) false)],1⟩) (fun q0=>((a0.f3.length:Int)+1-q0).toNat) (0:Int) ?_ (fB1 rfl rfl rfl rfl) fun q0 ⟨i0,i1⟩=>?_
   |refine wC (w88 _ _ ?_ ?_) fun z88 hz=>?_
   |refine ⟨_,rfl,?_⟩
  |omega
  |dsimp only
  |with_reducible apply And.intro
  |(simp (disch:=omega) only [ls]<;>omega)
  |intro hr
  |grind
theorem w90 (a0:List S65) (a1:List S139) (g0:a0.length≤12) (g1:∀e∈a0,EB e) (g2:a1.length≤12) (g3:∀x∈a1,x.f2.length≤110000):WQv 90 [lE a0,.lst (a1.map S139.c)] (fun r:List S71=>.lst (r.map S71.c)) (fun r=>r.length≤220024):=by
 refine gO Tryz.func90 ?_
 have hn:([]:List (List S71)).length=0:=rfl
 repeat' first
  |with_reducible assumption
  |(conv=>whnf);first
   |apply bD<;>intro h
   |refine wC (w89 _ _ ?_ ?_ ?_) fun z89 hz=>?_
   |refine V2 (fun (p0:List (List S71)) (p1:Int)=>0≤p1∧p1≤(z89.length:Int)∧(p0.length:Int)≤p1∧(∀x∈p0,x.length≤110000)) (fun _ p1=>[(0,lE a0),(1,.lst (a1.map S139.c)),(5,lI z89),(6,.row 0),(7,sI p1)]) (fun p0 _=>⟨[(0,.row (p0.map cL26) 1 false 0)],1⟩) (fun _ p1=>((z89.length:Int)+1-p1).toNat) [] (0:Int) ?_ (ft [(0,none)] rfl rfl rfl ⟨fitO_nil rfl rfl,trivial⟩) fun p0 p1 ⟨i0,i1,i3,i4⟩=>?_
   |refine lM ?_
   |refine wG ?_ ?_ (fun _=>rfl) fun x hx hm=>?_
   |refine wC (w86 _ _ ?_) fun z86 h86=>?_
   |refine wA (f:=cL26) (m:=[_]) rfl (fun _=>⟨rfl,rfl⟩) ?_ ?_ ?_
   |refine ⟨⟨_,nx _⟩,?_,?_,(fR1 3 rfl rfl rfl fun _=>rfl)⟩
   |refine ⟨_,_,deep0 (leafs_map (f:=cL26) (fun _=>rfl) _),?_⟩
   |refine wC (w148 _ _ 110000 ?_ ?_ ?_ ?_ ?_) fun z148 h148=>?_
   |refine ⟨[],rfl,?_⟩
   |refine ⟨_,rfl,?_⟩
  |omega
  |dsimp only
  |exact all_snoc i4 (find_le h86 g3)
  |exact fun x hx=>absurd hx List.not_mem_nil
  |with_reducible apply And.intro
  |(simp (disch:=omega) only [ls]<;>omega)
theorem w83 (a0:List S65) (g0:a0.length≤12) (g1:∀e∈a0,EB e):WQv 83 [lE a0] sI (fun r=>True):=by
 refine gO Tryz.func83 ?_
 repeat' first
  |with_reducible assumption
  |(conv=>whnf);first
   |apply bD<;>intro h
   |apply br<;>intro h
   |refine wC (w144 _ ?_ ?_) fun z144 hz=>?_
   |refine V2 (fun (p0:Int) (p1:Int)=>0≤p1∧p1≤(a0.length:Int)) (fun p0 p1=>[(0,lE a0),(3,.lst (z144.map S139.c)),(4,sI p0),(5,sI p1)]) (fun _ _=>⟨[],0⟩) (fun _ p1=>((a0.length:Int)+1-p1).toNat) (0:Int) (0:Int) ?_ (fN rfl rfl) fun p0 p1 ⟨i0,i1⟩=>?_
   |refine lM ?_
   |refine wE ‹_› ?_ (fun _=>rfl) ?_
   |refine wG ?_ ?_ (fun _=>rfl) fun x hx hm=>?_
   |refine wC (w86 _ _ ?_) fun z86 hz=>?_
   |refine ⟨⟨nx _,nx _⟩,?_,?_,(fN rfl rfl)⟩
   |refine ⟨⟨_,nx _⟩,?_,?_,(fN rfl rfl)⟩
   |refine ⟨_,rfl,?_⟩
  |omega
  |exact True.intro
  |dsimp only
  |with_reducible apply And.intro
  |(simp (disch:=omega) only [ls]<;>omega)
theorem w84 (a0:List S65) (g0:a0.length≤12) (g1:∀e∈a0,EB e) (g2:∀e∈a0,EM e):WQv 84 [lE a0] (fun r:List S139=>.lst (r.map S139.c)) (fun r=>r.length≤12∧∀x∈r,x.f2.length≤110000):=by
 refine gO Tryz.func84 ?_
 repeat' first
  |with_reducible assumption
  |(conv=>whnf);first
   |apply bN<;>intro h
   |refine wC (w145 _ ?_ ?_ ?_) fun z145 hz=>?_
   |refine wC (w144 _ ?_ ?_) fun z144 hz=>?_
   |refine ⟨[],rfl,?_⟩
   |refine ⟨_,rfl,?_⟩
  |dsimp only
  |exact ⟨Nat.zero_le _,fun x hx=>(by cases hx)⟩
theorem w35 (a0:S30) (g0:a0.f1.length≤12) (g1:∀e∈a0.f1,EB e) (g2:∀e∈a0.f1,EM e):WQv 35 [.agg (S30.c a0)] sB (fun r=>r=true→a0.f2.length=a0.f1.length):=by
 refine gO Tryz.func35 ?_
 repeat' first
  |with_reducible assumption
  |(conv=>whnf);first
   |apply bJ<;>intro h
   |apply bD<;>intro h
   |apply bN<;>intro h
   |refine lM ?_
   |refine ⟨false,rfl,?_⟩
   |refine wC (w83 _ ?_ ?_) fun z83 hz=>?_
   |refine wC (w84 _ ?_ ?_ ?_) fun z84 hz=>?_
   |refine V1 (fun (p0:Int)=>0≤p0∧p0≤(a0.f2.length:Int)) (fun p0=>[(1,.box 0 0),(3,.lst (z84.map S139.c)),(4,sI p0)]) (fun _=>⟨[(0,.box (S30.c a0) false)],1⟩) (fun p0=>((a0.f2.length:Int)+1-p0).toNat) (0:Int) ?_ (fB1 rfl rfl rfl rfl) fun p0 ⟨i0,i1⟩=>?_
   |refine wG ?_ ?_ (fun _=>rfl) fun x hx hm=>?_
   |refine wC (w85 _ _ ?_) fun z85 hz=>?_
   |refine wC (w56 _ _ ?_) fun z56 hg=>?_
   |refine wC (w86 _ _ ?_) fun z86 hz=>?_
   |refine wC (w87 _ _ _ ?_ ?_) fun z87 hz=>?_
   |refine ⟨nx _,?_,?_,(fB1 rfl rfl rfl rfl)⟩
   |refine ⟨true,rfl,?_⟩
  |omega
  |dsimp only
  |(intro hr;contradiction)
  |with_reducible apply And.intro
  |(simp (disch:=omega) only [ls]<;>omega)
  |grind
theorem w38 (a0:List S65) (g0:a0.length≤12) (g1:∀e∈a0,EB e) (g2:∀e∈a0,EM e):WQv 38 [lE a0] lI (fun r=>r.length≤12):=by
 refine gO Tryz.func38 ?_
 repeat' first
  |with_reducible assumption
  |(conv=>whnf);first
   |refine wC (w84 _ ?_ ?_ ?_) fun z84 hz=>?_
   |refine wC (w89 _ _ ?_ ?_ ?_) fun z89 hz=>?_
   |refine ⟨_,rfl,?_⟩
  |omega
theorem w40 (a0:List S65) (g0:a0.length≤12) (g1:∀e∈a0,EB e) (g2:∀e∈a0,EM e):WQv 40 [lE a0] (fun r:List S71=>.lst (r.map S71.c)) (fun r=>r.length≤220024):=by
 refine gO Tryz.func40 ?_
 repeat' first
  |with_reducible assumption
  |(conv=>whnf);first
   |refine wC (w84 _ ?_ ?_ ?_) fun z84 hz=>?_
   |refine wC (w90 _ _ ?_ ?_ ?_ ?_) fun z90 hz=>?_
   |refine ⟨_,rfl,?_⟩
  |omega
  |exact hz.2
theorem w9 (a0:S30) (g0:(a0.f0.size:Int)≤9223372036854775807) (g1:a0.f1.length≤12) (g2:a0.f3.length≤12) (g3:∀e∈a0.f1,EM e) (g4:∀e∈a0.f3,EM e) (g5:a0.f4.length≤9223372036854775807) (g6:a0.f5.length≤9223372036854775807):WQv 9 [.agg (S30.c a0)] sI (fun r=>r=0→RB a0):=by
 refine gO Tryz.func9 ?_
 repeat' first
  |with_reducible assumption
  |(conv=>whnf);first
   |apply bJ<;>intro h
   |apply bI<;>intro h
   |apply bN<;>intro h
   |refine wC (w32 _ ?_) fun z32 b32=>?_
   |refine wC (w33 _ _ ?_) fun z33 b33=>?_
   |refine wC (w34 _ ?_ ?_) fun z34 b34=>?_
   |refine wC (w35 _ ?_ ?_ ?_) fun z35 b35=>?_
   |refine wC (w36 _ ?_ ?_ ?_) fun z36 b36=>?_
   |refine wC (w38 _ ?_ ?_ ?_) fun z38 b38=>?_
   |refine wC (w37 _ _ ?_) fun z37 b37=>?_
   |refine ⟨by kernel_rfl,?_⟩
   |refine wC (w40 _ ?_ ?_ ?_) fun z40 b40=>?_
   |refine wC (w39 _ _ ?_) fun z39 b39=>?_
   |refine ⟨(3:Int),rfl,?_⟩
   |refine ⟨_,rfl,?_⟩
  |omega
  |(unfold RB;grind)
  |intro hr
  |grind
end Go.Abs.RM
