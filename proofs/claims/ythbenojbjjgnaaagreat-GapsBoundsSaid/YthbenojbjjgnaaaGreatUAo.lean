/- Of GapsBounds: walks. -/
import Derived.Test.YthbenojbjjgnaaaGreatUAm
set_option linter.all false
namespace Go.Abs.RM
open Go.Proofs
set_option maxRecDepth 100000
set_option maxHeartbeats 40000000
theorem w14m (a0:List S65) (g0:a0.length≤1000000000):WQv 14 [lE a0] lI (fun r=>r=a0.map S65.f0):=by
 refine gO Tryz.func14 ?_
 repeat' first
  |with_reducible assumption
  |(conv=>whnf);first
   |apply bD<;>intro h
   |refine V2 (fun (p0:List Int) (p1:Int)=>0≤p1∧p1≤(a0.length:Int)∧p0=(a0.take p1.toNat).map S65.f0) (fun _ p1=>[(0,lE a0),(3,.row 0),(4,sI p1)]) (fun p0 _=>⟨[(0,.row (p0.map c_i64) 1 false 0)],1⟩) (fun _ p1=>((a0.length:Int)+1-p1).toNat) [] (0:Int) ?_ (ft [(0,none)] rfl rfl rfl ⟨fitO_nil rfl rfl,trivial⟩) fun p0 p1 ⟨i0,i1,i2⟩=>?_
   |refine lM ?_
   |refine wG ?_ ?_ (fun _=>rfl) fun x hx hm=>?_
   |refine wA (f:=c_i64) (m:=[_]) rfl (fun _=>⟨rfl,rfl⟩) ?_ ?_ ?_
   |refine ⟨_,_,deep0 (leafs_map (f:=c_i64) (fun _=>rfl) _),?_⟩
   |refine ⟨⟨_,nx _⟩,?_,?_,(fR1 2 rfl rfl rfl fun _=>rfl)⟩
   |refine ⟨_,rfl,?_⟩
  |exact map_snoc i0 (by omega) hx i2
  |(rw [i2,List.take_of_length_le (by omega)])
  |(subst i2;simp;omega)
  |(simp;done)
  |dsimp only
  |with_reducible apply And.intro
  |(simp (disch:=omega) only [ls]<;>omega)
theorem u60m (a0:List Int) (a1:Int) (g0:a0.length≤1000000000):WUQ 60 [sI a1] 1 a0 c_i64 (fun r=>a0.length≤r.length∧r.length≤a0.length+1∧∀x,x∈r↔x∈a0∨x=a1):=by
 refine goUpd Tryz.func60 (by kernel_rfl) (lens_map fun _=>rfl) ?_
 repeat' first
  |with_reducible assumption
  |(conv=>whnf);first
   |refine wLE ‹_› ?_
   |refine wL (i:=IntKind.wrap .i64 (q1-(1:Int))) ?_ ?_ fun y0 hy=>?_
   |apply bD<;>intro h
   |refine V1 (fun (p0:Int)=>0≤p0∧p0≤(a0.length:Int)) (fun p0=>[(0,.row 0),(1,sI a1),(5,sI p0)]) (fun _=>⟨[(0,.row (a0.map c_i64) 1 false 0)],1⟩) (fun p0=>((a0.length:Int)+1-p0).toNat) (0:Int) ?_ (fR1 0 rfl rfl rfl fun _=>rfl) fun p0 ⟨i0,i1⟩=>?_
   |refine lM ?_
   |refine wR ?_ ?_ ?_
   |refine wL ?_ ?_ fun x hx=>?_
   |refine ⟨nx _,?_,?_,(fR1 0 rfl rfl rfl fun _=>rfl)⟩
   |refine ⟨leafs_map (f:=c_i64) (fun _=>rfl) _,_,rfl,?_⟩
   |refine wA (f:=c_i64) (m:=[_]) rfl (fun _=>⟨rfl,rfl⟩) ?_ ?_ ?_
   |refine V2 (fun (q0:List Int) (q1:Int)=>p0≤q1∧q1≤(a0.length:Int)∧q0.length=a0.length+1∧SH a0 a1 q1.toNat q0) (fun _ q1=>[(0,.row 0),(1,sI a1),(5,sI p0),(6,sI q1)]) (fun q0 _=>⟨[(0,.row (q0.map c_i64) 1 false 0)],1⟩) (fun _ q1=>(q1+1).toNat) (a0++[a1]) (IntKind.wrap .i64 (((a0++[a1]).length:Int)-(1:Int))) ?_ (fR1 2 rfl rfl rfl fun _=>rfl) fun q0 q1 ⟨j0,j1,j2,j3⟩=>?_
   |refine ⟨_,(List.map_set (f:=c_i64) (a:=y0)).symm,?_⟩
   |refine ⟨⟨_,IntKind.wrap .i64 (q1-(1:Int))⟩,?_,?_,(fR1 0 rfl rfl rfl fun _=>rfl)⟩
   |refine ⟨_,(List.map_set (f:=c_i64) (a:=a1)).symm,?_⟩
  |omega
  |dsimp only
  |with_reducible apply And.intro
  |exact sh_z g0
  |exact sh_nw j3 (by omega) g0 j1 hy
  |exact sh_fin j3 ‹_› j0 i0 i1
  |(subst h;exact with_mem (List.mem_of_getElem? hx))
  |(simp (disch:=omega) only [ls]<;>omega)
theorem w59 (a0:List S65) (a1:Int) (g0:a0.length≤1000000000):WQv 59 [lE a0,sI a1] sI (fun r=>((-1≤r∧r<(a0.length:Int))∧(0≤r→∃e,a0[r.toNat]?=some e∧e.f0=a1))∧(r<0→∀y∈a0,y.f0≠a1)):=by
 refine gO Tryz.func59 ?_
 repeat' first
  |with_reducible assumption
  |(conv=>whnf);first
   |apply bD<;>intro h
   |refine V1 (fun (p0:Int)=>0≤p0∧p0≤(a0.length:Int)∧(∀r:Int,(((-1≤r∧r<(a0.length:Int))∧(0≤r→∃e,a0[r.toNat]?=some e∧e.f0=a1))∧(r<0→∀y∈a0.drop p0.toNat,y.f0≠a1))→((-1≤r∧r<(a0.length:Int))∧(0≤r→∃e,a0[r.toNat]?=some e∧e.f0=a1))∧(r<0→∀y∈a0,y.f0≠a1))) (fun p0=>[(0,lE a0),(1,sI a1),(5,sI p0)]) (fun _=>⟨[],0⟩) (fun p0=>((a0.length:Int)+1-p0).toNat) (0:Int) ?_ (fN rfl rfl) fun p0 ⟨i0,i1,hk⟩=>?_
   |refine lM ?_
   |refine wG ?_ ?_ (fun _=>rfl) fun x hx hm=>?_
   |refine ⟨nx _,?_,?_,(fN rfl rfl)⟩
   |refine ⟨_,rfl,?_⟩
  |omega
  |dsimp only
  |refine hk _ ?_
  |refine fun r hr=>hk r ?_
  |exact ⟨hr.1,fun h0=>drop_all (by omega) hx (by omega) h (hr.2 h0)⟩
  |exact ⟨⟨⟨by omega,by omega⟩,fun _=>⟨_,hx,h⟩⟩,fun hr=>absurd hr (by omega)⟩
  |exact fun _=>drop_none ‹_›
  |with_reducible apply And.intro
  |(simp (disch:=omega) only [ls]<;>omega)
  |intro hr
  |grind
theorem w16 (a0:List Int) (a1:Int) (g0:a0.length≤1000000000):WQv 16 [lI a0,sI a1] sB (fun r=>(r=true↔a1∈a0)):=by
 refine gO Tryz.func16 ?_
 repeat' first
  |with_reducible assumption
  |(conv=>whnf);first
   |apply bD<;>intro h
   |refine V1 (fun (p0:Int)=>0≤p0∧p0≤(a0.length:Int)∧(∀r:Bool,((r=true↔a1∈a0.drop p0.toNat))→(r=true↔a1∈a0))) (fun p0=>[(0,lI a0),(1,sI a1),(5,sI p0)]) (fun _=>⟨[],0⟩) (fun p0=>((a0.length:Int)+1-p0).toNat) (0:Int) ?_ (fN rfl rfl) fun p0 ⟨i0,i1,hk⟩=>?_
   |refine lM ?_
   |refine wG ?_ ?_ (fun _=>rfl) fun x hx hm=>?_
   |refine ⟨true,rfl,?_⟩
   |refine ⟨nx _,?_,?_,(fN rfl rfl)⟩
   |refine ⟨false,rfl,?_⟩
  |omega
  |dsimp only
  |refine hk _ ?_
  |refine fun r hr=>hk r ?_
  |(rw [drop_cons i0 hx (by omega)];exact ⟨fun e=>List.mem_cons_of_mem _ (hr.1 e),fun e=>hr.2 ((List.mem_cons.1 e).resolve_left fun e=>h e.symm)⟩)
  |(rw [drop_cons i0 hx (by omega)];exact ⟨fun _=>List.mem_cons.2 (Or.inl h.symm),fun _=>rfl⟩)
  |(rw [drop_end h];exact ⟨fun e=>(by cases e),fun e=>(by cases e)⟩)
  |with_reducible apply And.intro
  |(simp (disch:=omega) only [ls]<;>omega)
  |intro hr
  |grind
theorem w59m (a0:List S65) (a1:Int) (g0:a0.length≤1000000000):WQv 59 [lE a0,sI a1] sI (fun r=>(-1≤r∧r<(a0.length:Int))∧(0≤r→∃e,a0[r.toNat]?=some e∧getI a0 a1=some e)∧(r<0→getI a0 a1=none)):=by
 refine gO Tryz.func59 ?_
 repeat' first
  |with_reducible assumption
  |(conv=>whnf);first
   |apply bD<;>intro h
   |refine V1 (fun (p0:Int)=>0≤p0∧p0≤(a0.length:Int)∧∀(j:Nat) e,a0[j]?=some e→(j:Int)<p0→e.f0≠a1) (fun p0=>[(0,lE a0),(1,sI a1),(5,sI p0)]) (fun _=>⟨[],0⟩) (fun p0=>((a0.length:Int)+1-p0).toNat) (0:Int) ?_ (fN rfl rfl) fun p0 ⟨i0,i1,i2⟩=>?_
   |refine lM ?_
   |refine wG ?_ ?_ (fun _=>rfl) fun x hx hm=>?_
   |refine ⟨nx _,?_,?_,(fN rfl rfl)⟩
   |refine ⟨_,rfl,?_⟩
  |exact fun j e he hj=>by have:=(List.getElem?_eq_some_iff.1 he).1;omega
  |exact ix_next i0 (by omega) hx i2 ‹_›
  |exact fun _=>⟨_,hx,getI_first i0 hx i2 ‹_›⟩
  |exact fun _=>getI_nil (ix_all i2 ‹_›)
  |exact fun h=>absurd h (by omega)
  |omega
  |dsimp only
  |with_reducible apply And.intro
  |(simp (disch:=omega) only [ls]<;>omega)
theorem w79 (a0:S65) (g0:EM a0):WQv 79 [aE a0] sB (fun r=>True):=by
 refine gO Tryz.func79 ?_
 repeat' first
  |with_reducible assumption
  |(conv=>whnf);first
   |apply bD<;>intro h
   |refine lM ?_
   |refine ⟨true,rfl,?_⟩
   |refine V1 (fun (p0:Int)=>0≤p0∧p0≤(a0.f10.f5.length:Int)) (fun p0=>[(3,.box 0 0),(4,sI p0)]) (fun _=>⟨[(0,.box (S61.c a0.f10) false)],1⟩) (fun p0=>((a0.f10.f5.length:Int)+1-p0).toNat) (0:Int) ?_ (ft [(0,some 1)] rfl rfl rfl ⟨fB rfl rfl rfl,trivial⟩) fun p0 ⟨i0,i1⟩=>?_
   |refine wG ?_ ?_ (fun _=>rfl) fun x hx hm=>?_
   |refine ⟨nx _,?_,?_,(fB1 rfl rfl rfl rfl)⟩
   |refine V1 (fun (q0:Int)=>0≤q0∧q0≤(a0.f10.f6.length:Int)) (fun q0=>[(3,.box 0 0),(5,sI q0)]) (fun _=>⟨[(0,.box (S61.c a0.f10) false)],1⟩) (fun q0=>((a0.f10.f6.length:Int)+1-q0).toNat) (0:Int) ?_ (fB1 rfl rfl rfl rfl) fun q0 ⟨i0,i1⟩=>?_
   |refine V1 (fun (v0:Int)=>0≤v0∧v0≤(a0.f10.f7.f0.length:Int)) (fun v0=>[(3,.box 0 0),(6,sI v0)]) (fun _=>⟨[(0,.box (S61.c a0.f10) false)],1⟩) (fun v0=>((a0.f10.f7.f0.length:Int)+1-v0).toNat) (0:Int) ?_ (fB1 rfl rfl rfl rfl) fun v0 ⟨i0,i1⟩=>?_
   |refine ⟨false,rfl,?_⟩
  |omega
  |dsimp only
  |with_reducible apply And.intro
  |(simp (disch:=omega) only [ls]<;>omega)
theorem w8 (a0:S32) (g0:a0.f1.length≤9223372036854775807) (g1:a0.f2.length≤9223372036854775807):WQv 8 [.agg (S32.c a0)] sB (fun r=>r=false→a0.f1.length≤40∧a0.f2.length≤40):=by
 refine gO Tryz.func8 ?_
 repeat' first
  |(conv=>whnf);first
   |apply bD<;>intro h
   |refine lM ?_
   |refine ⟨true,rfl,?_⟩
   |refine ⟨_,rfl,?_⟩
  |omega
  |dsimp only
  |with_reducible apply And.intro
  |contradiction
  |intro hr
theorem w197 (a0:Int):WQv 197 [.sc (.int .u8 a0)] sB (fun r=>True):=by
 refine gO Tryz.func197 ?_
 repeat' first
  |(conv=>whnf);first
   |apply bD<;>intro h
   |refine ⟨true,rfl,?_⟩
   |refine ⟨false,rfl,?_⟩
   |refine ⟨_,rfl,?_⟩
  |omega
  |exact True.intro
theorem w78 (a0:ByteArray) (g0:(a0.size:Int)≤9223372036854775807):WQv 78 [sS a0] sI (fun r=>((0≤r∧r≤(a0.size:Int))∧(r<(a0.size:Int)→∃b,a0[r.toNat]?=some b∧(b.toNat:Int)=58))∧∀(j:Nat) b,j<r.toNat→a0[j]?=some b→(b.toNat:Int)≠58):=by
 refine gO Tryz.func78 ?_
 repeat' first
  |with_reducible assumption
  |(conv=>whnf);first
   |apply bD<;>intro h
   |apply bJ<;>intro h
   |refine V1 (fun (p0:Int)=>0≤p0∧p0≤(a0.size:Int)∧(∀(j:Nat) b,j<p0.toNat→a0[j]?=some b→(b.toNat:Int)≠58)) (fun p0=>[(0,sS a0),(3,sI p0)]) (fun _=>⟨[],0⟩) (fun p0=>((a0.size:Int)+1-p0).toNat) (0:Int) ?_ (fN rfl rfl) fun p0 ⟨i0,i1,i3⟩=>?_
   |refine wS ?_ ?_ fun x hb=>?_
   |refine ⟨nx _,?_,?_,(fN rfl rfl)⟩
   |refine ⟨_,rfl,?_⟩
  |omega
  |dsimp only
  |exact ⟨⟨by omega,by omega⟩,fun _=>⟨_,hb,h⟩⟩
  |with_reducible apply And.intro
  |(simp (disch:=omega) only [ls]<;>omega)
  |intro hr
  |grind
theorem w174 (a0:Int) (a1:S61) (g0:CB a1 400 100):WQv 174 [sI a0,.agg (S61.c a1)] (fun r:S61=>.agg (S61.c r)) (fun r=>CB r 400 100):=by
 refine gO Tryz.func174 ?_
 obtain ⟨c0,c4,c5,c6,c7,c8,c9,c10,c11⟩:=g0
 repeat' first
  |(conv=>whnf);first
   |apply bI<;>intro h
   |refine ⟨_,rfl,?_⟩
   |refine ⟨⟨zS,_,(0:Int),false,_,[],[],ze59⟩,rfl,?_⟩
   |refine ⟨⟨zS,(0:Int),(0:Int),false,zS,[],[],_⟩,rfl,?_⟩
   |refine ⟨⟨zS,_,(0:Int),false,zS,_,[],ze59⟩,rfl,?_⟩
   |refine ⟨⟨zS,(0:Int),(0:Int),false,zS,_,_,ze59⟩,rfl,?_⟩
   |refine ⟨⟨zS,(0:Int),_,false,zS,[],[],ze59⟩,rfl,?_⟩
  |dsimp only
  |exact ⟨c0,c4,c5,c6,c7,c8,c9,c10,c11⟩
  |exact cb_nil _ _ _ _ _ _ _ _ _ _ (by first | assumption | exact Nat.zero_le _) (by first | assumption | exact Nat.zero_le _) (by first | exact nl | exact ⟨c5,c9⟩) (by first | exact nl | exact ⟨c6,c10⟩) (by first | exact nv | exact ⟨c7,c8,c11⟩)
theorem w116 (a0:Int):WQv 116 [sI a0] sB (fun r=>True):=by
 refine gO Tryz.func116 ?_
 repeat' first
  |(conv=>whnf);first
   |apply bD<;>intro h
   |refine ⟨false,rfl,?_⟩
   |refine ⟨_,rfl,?_⟩
  |exact True.intro
theorem w349 (a0:List Int) (g0:(a0.length:Int)≤9223372036854775807):WQv 349 [lI a0] sB (fun r=>True):=by
 refine gO Tryz.func349 ?_
 repeat' first
  |with_reducible assumption
  |(conv=>whnf);first
   |apply bD<;>intro h
   |refine V1 (fun (p0:Int)=>0≤p0∧p0≤(a0.length:Int)) (fun p0=>[(0,lI a0),(3,sI p0)]) (fun _=>⟨[],0⟩) (fun p0=>((a0.length:Int)+1-p0).toNat) (0:Int) ?_ (fN rfl rfl) fun p0 ⟨i0,i1⟩=>?_
   |refine lM ?_
   |refine wE ‹_› ?_ (fun _=>rfl) ?_
   |refine wG ?_ ?_ (fun _=>rfl) fun x hx hm=>?_
   |refine ⟨by kernel_rfl,?_⟩
   |refine ⟨false,rfl,?_⟩
   |refine ⟨nx _,?_,?_,(fN rfl rfl)⟩
   |refine ⟨true,rfl,?_⟩
  |omega
  |exact True.intro
  |with_reducible apply And.intro
  |(simp (disch:=omega) only [ls]<;>omega)
theorem w350 (a0:Int):WQv 350 [sI a0] sB (fun r=>True):=by
 refine gO Tryz.func350 ?_
 repeat' first
  |(conv=>whnf);first
   |apply bD<;>intro h
   |refine ⟨false,rfl,?_⟩
   |refine ⟨_,rfl,?_⟩
  |exact True.intro
theorem w498 (a0:Int):WQv 498 [sI a0] (fun r:List ByteArray=>.lst (r.map cStr)) (fun r=>r.length≤3∧(a0=4→(⟨#[68,101,110,121]⟩:ByteArray)∉r∧(⟨#[76,101,118,101,108,115]⟩:ByteArray)∉r)):=by
 refine gO Tryz.func498 ?_
 repeat' first
  |(conv=>whnf);first
   |apply bI<;>intro h
   |refine ⟨_,_,deep0 (leafs_lit rfl),?_⟩
   |refine ⟨[_,_,_],rfl,?_⟩
   |refine ⟨[_],rfl,?_⟩
   |refine ⟨[_,_],rfl,?_⟩
   |refine ⟨[],rfl,?_⟩
  |omega
  |dsimp only
  |(simp only [List.length_cons,List.length_nil];omega)
  |with_reducible apply And.intro
  |contradiction
  |intro hr
theorem w162 (a0:S59) (a1:S59) (g0:(a0.f0.length:Int)≤9223372036854775807) (g1:(a0.f1.length:Int)≤9223372036854775807):WQv 162 [.agg (S59.c a0),.agg (S59.c a1)] sB (fun r=>r=true→a0.f0.length=a1.f0.length∧a0.f1.length=a1.f1.length):=by
 refine gO Tryz.func162 ?_
 repeat' first
  |with_reducible assumption
  |(conv=>whnf);first
   |apply bJ<;>intro h
   |apply bD<;>intro h
   |apply bT'<;>intro h
   |refine lM ?_
   |refine ⟨false,rfl,?_⟩
   |refine V1 (fun (p0:Int)=>0≤p0∧p0≤(a0.f0.length:Int)) (fun p0=>[(2,.box 0 0),(3,.box 1 0),(5,sI p0)]) (fun _=>⟨[(0,.box (S59.c a0) false),(1,.box (S59.c a1) false)],2⟩) (fun p0=>((a0.f0.length:Int)+1-p0).toNat) (0:Int) ?_ (ft [(0,some 0),(1,some 1)] rfl rfl rfl ⟨fB rfl rfl rfl,fB rfl rfl rfl,trivial⟩) fun p0 ⟨i0,i1⟩=>?_
   |refine wE ‹_› ?_ (fun _=>rfl) ?_
   |refine wG ?_ ?_ (fun _=>rfl) fun x hx hm=>?_
   |refine ⟨by kernel_rfl,?_⟩
   |refine ⟨nx _,?_,?_,(ft [(0,some 0),(1,some 1)] rfl rfl rfl ⟨fB rfl rfl rfl,fB rfl rfl rfl,trivial⟩)⟩
   |refine V1 (fun (q0:Int)=>0≤q0∧q0≤(a0.f1.length:Int)) (fun q0=>[(2,.box 0 0),(3,.box 1 0),(6,sI q0)]) (fun _=>⟨[(0,.box (S59.c a0) false),(1,.box (S59.c a1) false)],2⟩) (fun q0=>((a0.f1.length:Int)+1-q0).toNat) (0:Int) ?_ (ft [(0,some 0),(1,some 1)] rfl rfl rfl ⟨fB rfl rfl rfl,fB rfl rfl rfl,trivial⟩) fun q0 ⟨i0,i1⟩=>?_
   |refine ⟨_,rfl,?_⟩
  |omega
  |dsimp only
  |(intro hr;contradiction)
  |with_reducible apply And.intro
  |(simp (disch:=omega) only [ls]<;>omega)
theorem w352 (a0:Int):WQv 352 [sI a0] sB (fun r=>True):=by
 refine gO Tryz.func352 ?_
 repeat' first
  |(conv=>whnf);first
   |apply bI<;>intro h
   |refine ⟨true,rfl,?_⟩
   |refine ⟨_,rfl,?_⟩
  |exact True.intro
theorem w71 (a0:ByteArray):WQv 71 [sS a0] sI (fun r=>r=0→a0.size≤64):=by
 refine gO Tryz.func71 ?_
 repeat' first
  |with_reducible assumption
  |(conv=>whnf);first
   |apply bI<;>intro h
   |apply bD<;>intro h
   |refine V1 (fun (p0:Int)=>0≤p0∧p0≤(a0.size:Int)) (fun p0=>[(0,sS a0),(3,sI p0)]) (fun _=>⟨[],0⟩) (fun p0=>((a0.size:Int)+1-p0).toNat) (0:Int) ?_ (fN rfl rfl) fun p0 ⟨i0,i1⟩=>?_
   |refine wS ?_ ?_ fun x hb=>?_
   |refine ⟨nx _,?_,?_,(fN rfl rfl)⟩
   |refine ⟨(9:Int),rfl,?_⟩
   |refine ⟨(7:Int),rfl,?_⟩
   |refine ⟨(3:Int),rfl,?_⟩
   |refine ⟨(0:Int),rfl,?_⟩
  |omega
  |with_reducible apply And.intro
  |(simp (disch:=omega) only [ls]<;>omega)
theorem w354 (a0:Int) (a1:Int):WQv 354 [sI a0,sI a1] sI (fun r=>True):=by
 refine gO Tryz.func354 ?_
 repeat' first
  |(conv=>whnf);first
   |apply bI<;>intro h
   |apply bD<;>intro h
   |apply bN<;>intro h
   |refine ⟨(2:Int),rfl,?_⟩
   |refine ⟨(0:Int),rfl,?_⟩
  |omega
  |exact True.intro
theorem w434 (a0:Int):WQv 434 [sI a0] sB (fun r=>True):=by
 refine gO Tryz.func434 ?_
 repeat' first
  |(conv=>whnf);first
   |apply bD<;>intro h
   |refine ⟨true,rfl,?_⟩
   |refine ⟨_,rfl,?_⟩
  |exact True.intro
theorem w161 (a0:List ByteArray) (a1:List ByteArray) (g0:(a0.length:Int)≤9223372036854775807):WQv 161 [.lst (a0.map cStr),.lst (a1.map cStr)] sB (fun r=>r=true→a0.length=a1.length):=by
 refine gO Tryz.func161 ?_
 repeat' first
  |with_reducible assumption
  |(conv=>whnf);first
   |apply bJ<;>intro h
   |apply bD<;>intro h
   |apply bT'<;>intro h
   |refine lM ?_
   |refine ⟨false,rfl,?_⟩
   |refine V1 (fun (p0:Int)=>0≤p0∧p0≤(a0.length:Int)) (fun p0=>[(0,.lst (a0.map cStr)),(1,.lst (a1.map cStr)),(5,sI p0)]) (fun _=>⟨[],0⟩) (fun p0=>((a0.length:Int)+1-p0).toNat) (0:Int) ?_ (fN rfl rfl) fun p0 ⟨i0,i1⟩=>?_
   |refine wG ?_ ?_ (fun _=>rfl) fun x hx hm=>?_
   |refine ⟨by kernel_rfl,?_⟩
   |refine ⟨nx _,?_,?_,(fN rfl rfl)⟩
   |refine ⟨true,rfl,?_⟩
  |omega
  |dsimp only
  |(intro hr;contradiction)
  |with_reducible apply And.intro
  |(simp (disch:=omega) only [ls]<;>omega)
theorem w361 (a0:Int) (a1:List Int) (g0:a1.length≤9000000):WQv 361 [sI a0,.lst (a1.map c_u8)] sI (fun r=>True):=by
 refine gO Tryz.func361 ?_
 repeat' first
  |with_reducible assumption
  |(conv=>whnf);first
   |apply bD<;>intro h
   |refine V2 (fun (p0:Int) (p1:Int)=>0≤p1∧p1≤(a1.length:Int)) (fun p0 p1=>[(1,.lst (a1.map c_u8)),(5,.sc (.int .u64 p0)),(6,sI p1)]) (fun _ _=>⟨[],0⟩) (fun _ p1=>((a1.length:Int)+1-p1).toNat) (iop .rem 318 .u64 (IntKind.wrap .u64 a0) (4611686018427387904:Int)) (0:Int) ?_ (fN rfl rfl) fun p0 p1 ⟨i0,i1⟩=>?_
   |refine lM ?_
   |refine wG ?_ ?_ (fun _=>rfl) fun x hx hm=>?_
   |refine ⟨⟨_,nx _⟩,?_,?_,(fN rfl rfl)⟩
   |refine ⟨_,rfl,?_⟩
  |omega
  |exact True.intro
  |dsimp only
  |with_reducible apply And.intro
  |(simp (disch:=omega) only [ls]<;>omega)
theorem w362:WQv 362 [] sI (fun r=>True):=by
 refine gO Tryz.func362 ?_
 repeat' first
  |(conv=>whnf);first
   |refine ⟨(860922984064492325:Int),rfl,?_⟩
  |exact True.intro
theorem w437 (a0:Int):WQv 437 [sI a0] (fun r:List Int=>.lst (r.map c_u8)) (fun r=>1≤r.length∧r.length≤11):=by
 refine gO Tryz.func437 ?_
 have e:(128:Int) ^ 10=1180591620717411303424:=by decide
 repeat' first
  |(conv=>whnf);first
   |apply bD<;>intro h
   |refine V2 (fun (p0:Int) (p1:List Int)=>0≤p0∧p0≤18446744073709551615∧p1.length≤10∧p0<128 ^ (10-p1.length)) (fun p0 _=>[(3,.sc (.int .u64 p0)),(4,.row 0)]) (fun _ p1=>⟨[(0,.row (p1.map c_u8) 1 false 0)],1⟩) (fun p0 _=>(p0+1).toNat) (uop .xor .u64 (iop .shl 318 .u64 (IntKind.wrap .u64 a0) (1:Int))) [] ?_ (ft [(0,none)] rfl rfl rfl ⟨fitO_nil rfl rfl,trivial⟩) fun p0 p1 ⟨i0,i1,i3,i4⟩=>?_
   |refine wA (f:=c_u8) (m:=[_]) rfl (fun _=>⟨rfl,rfl⟩) ?_ ?_ ?_
   |refine ⟨_,_,deep0 (leafs_map (f:=c_u8) (fun _=>rfl) _),?_⟩
   |refine V2 (fun (p0:Int) (p1:List Int)=>0≤p0∧p0≤18446744073709551615∧p1.length≤10∧p0<128 ^ (10-p1.length)) (fun p0 _=>[(3,.sc (.int .u64 p0)),(4,.row 0)]) (fun _ p1=>⟨[(0,.row (p1.map c_u8) 1 false 0)],1⟩) (fun p0 _=>(p0+1).toNat) (iop .shl 318 .u64 (IntKind.wrap .u64 a0) (1:Int)) [] ?_ (ft [(0,none)] rfl rfl rfl ⟨fitO_nil rfl rfl,trivial⟩) fun p0 p1 ⟨i0,i1,i3,i4⟩=>?_
   |refine ⟨⟨_,_⟩,?_,?_,(fR1 2 rfl rfl rfl fun _=>rfl)⟩
   |refine ⟨_,rfl,?_⟩
  |omega
  |(have:=xor_range (iop .shl 318 .u64 (IntKind.wrap .u64 a0) (1:Int));have:=shl_range (IntKind.wrap .u64 a0);simp only [List.length_nil,Nat.sub_zero];omega)
  |exact (quo_step i0 i1 i4 h i3).2.1
  |exact (quo_step i0 i1 i4 h i3).2.2.2.2 _
  |(have hq:=quo_step i0 i1 i4 h i3;rw [List.length_append,List.length_singleton];exact hq.2.2.2.1)
  |(have hq:=(quo_step i0 i1 i4 h i3).2.2.1;omega)
  |dsimp only
  |with_reducible apply And.intro
  |(simp (disch:=omega) only [ls]<;>omega)
theorem w365 (a0:List Int) (a1:Bool) (g0:a0.length≤1000000):WQv 365 [.lst (a0.map c_u8),sB a1] (fun r:List Int=>.lst (r.map c_u8)) (fun r=>r.length=a0.length+1):=by
 refine gO Tryz.func365 ?_
 repeat' first
  |(conv=>whnf);first
   |apply br<;>intro h
   |refine wA (l:=[]) (f:=c_u8) (m:=_) rfl (fun _=>⟨rfl,rfl⟩) ?_ ?_ ?_
   |refine wA (f:=c_u8) (m:=[_]) rfl (fun _=>⟨rfl,rfl⟩) ?_ ?_ ?_
   |refine ⟨_,_,deep0 (leafs_map (f:=c_u8) (fun _=>rfl) _),?_⟩
   |refine ⟨_,rfl,?_⟩
  |dsimp only
  |(simp only [List.length_append,List.length_cons,List.length_nil,List.length_take,List.length_drop,List.length_set,List.length_map,ByteArray.size_extract,strL_len,txt_len] at *;omega)
theorem w436 (a0:S59):WQv 436 [.agg (S59.c a0)] lI (fun r=>r.length=7):=by
 refine gO Tryz.func436 ?_
 repeat' first
  |(conv=>whnf);first
   |refine ⟨_,_,deep0 (leafs_lit rfl),?_⟩
   |refine ⟨[_,_,_,_,_,_,_],rfl,?_⟩
  |dsimp only
  |rfl
theorem u60 (a0:List Int) (a1:Int) (g0:a0.length≤1000000000):WUQ 60 [sI a1] 1 a0 c_i64 (fun r=>a0.length≤r.length∧r.length≤a0.length+1):=by
 refine goUpd Tryz.func60 (by kernel_rfl) (lens_map fun _=>rfl) ?_
 repeat' first
  |with_reducible assumption
  |(conv=>whnf);first
   |refine wLE ‹_› ?_
   |refine wL (i:=IntKind.wrap .i64 (q1-(1:Int))) ?_ ?_ fun y0 hx=>?_
   |apply bD<;>intro h
   |refine V1 (fun (p0:Int)=>0≤p0∧p0≤(a0.length:Int)) (fun p0=>[(0,.row 0),(1,sI a1),(5,sI p0)]) (fun _=>⟨[(0,.row (a0.map c_i64) 1 false 0)],1⟩) (fun p0=>((a0.length:Int)+1-p0).toNat) (0:Int) ?_ (fR1 0 rfl rfl rfl fun _=>rfl) fun p0 ⟨i0,i1⟩=>?_
   |refine lM ?_
   |refine wR ?_ ?_ ?_
   |refine wL ?_ ?_ fun x hx=>?_
   |refine ⟨nx _,?_,?_,(fR1 0 rfl rfl rfl fun _=>rfl)⟩
   |refine ⟨leafs_map (f:=c_i64) (fun _=>rfl) _,_,rfl,?_⟩
   |refine wA (f:=c_i64) (m:=[_]) rfl (fun _=>⟨rfl,rfl⟩) ?_ ?_ ?_
   |refine V2 (fun (q0:List Int) (q1:Int)=>p0≤q1∧q1<(q0.length:Int)∧q0.length≤2000000000∧(∀r:List Int,(r.length=q0.length)→a0.length≤r.length∧r.length≤a0.length+1)) (fun _ q1=>[(0,.row 0),(1,sI a1),(5,sI p0),(6,sI q1)]) (fun q0 _=>⟨[(0,.row (q0.map c_i64) 1 false 0)],1⟩) (fun _ q1=>(q1+1).toNat) (a0++[a1]) (IntKind.wrap .i64 (((a0++[a1]).length:Int)-(1:Int))) ?_ (fR1 2 rfl rfl rfl fun _=>rfl) fun q0 q1 ⟨i0,i1,i3,hk⟩=>?_
   |refine ⟨_,(List.map_set (f:=c_i64) (a:=y0)).symm,?_⟩
   |refine ⟨⟨_,IntKind.wrap .i64 (q1-(1:Int))⟩,?_,?_,(fR1 0 rfl rfl rfl fun _=>rfl)⟩
   |refine ⟨_,(List.map_set (f:=c_i64) (a:=a1)).symm,?_⟩
  |omega
  |dsimp only
  |refine hk _ ?_
  |refine fun r hr=>hk r ?_
  |(simp only [List.length_append,List.length_cons,List.length_nil,List.length_take,List.length_drop,List.length_set,List.length_map,ByteArray.size_extract] at hr;omega)
  |with_reducible apply And.intro
  |(simp (disch:=omega) only [ls]<;>omega)
theorem w257 (a0:Int) (a1:ByteArray) (a2:Int) (a3:ByteArray):WQv 257 [sI a0,sS a1,sI a2,sS a3] sB (fun r=>True):=by
 refine gO Tryz.func257 ?_
 repeat' first
  |(conv=>whnf);first
   |apply bD<;>intro h
   |refine ⟨true,rfl,?_⟩
   |refine ⟨false,rfl,?_⟩
   |refine ⟨_,rfl,?_⟩
  |exact True.intro
theorem w263 (a0:List S71) (a1:Int) (a2:ByteArray) (g0:a0.length≤1000000000):WQv 263 [.lst (a0.map S71.c),sI a1,sS a2] (fun r:Int×Bool=>.tup [sI r.1,sB r.2]) (fun r=>True):=by
 refine gO Tryz.func263 ?_
 repeat' first
  |with_reducible assumption
  |(conv=>whnf);first
   |apply bD<;>intro h
   |apply bS<;>intro h
   |refine V1 (fun (p0:Int)=>0≤p0∧p0≤(a0.length:Int)) (fun p0=>[(0,.lst (a0.map S71.c)),(1,sI a1),(2,sS a2),(8,sI p0)]) (fun _=>⟨[],0⟩) (fun p0=>((a0.length:Int)+1-p0).toNat) (0:Int) ?_ (fN rfl rfl) fun p0 ⟨i0,i1⟩=>?_
   |refine lM ?_
   |refine wE ‹_› ?_ (fun _=>rfl) ?_
   |refine wG ?_ ?_ (fun _=>rfl) fun x hx hm=>?_
   |refine ⟨nx _,?_,?_,(fN rfl rfl)⟩
   |refine ⟨(_,true),rfl,?_⟩
   |refine ⟨((0:Int),false),rfl,?_⟩
  |omega
  |exact True.intro
  |with_reducible apply And.intro
  |(simp (disch:=omega) only [ls]<;>omega)
theorem w372 (a0:S65):WQv 372 [aE a0] sB (fun r=>r=true→a0.f3≠0):=by
 refine gO Tryz.func372 ?_
 repeat' first
  |(conv=>whnf);first
   |apply bI<;>intro h
   |refine ⟨false,rfl,?_⟩
   |refine ⟨true,rfl,?_⟩
   |refine ⟨_,rfl,?_⟩
  |omega
  |dsimp only
  |(intro hr;first | omega | (simp at hr;omega))
theorem w438 (a0:List S71) (a1:Int) (a2:ByteArray) (g0:a0.length≤100):WQv 438 [.lst (a0.map S71.c),sI a1,sS a2] (fun r:List S71=>.lst (r.map S71.c)) (fun r=>r.length≤a0.length+1):=by
 refine gO Tryz.func438 ?_
 repeat' first
  |with_reducible assumption
  |(conv=>whnf);first
   |apply bD<;>intro h
   |apply bS<;>intro h
   |apply br<;>intro h
   |refine V1 (fun (p0:Int)=>0≤p0∧p0≤(a0.length:Int)) (fun p0=>[(0,.lst (a0.map S71.c)),(1,sI a1),(2,sS a2),(7,sI p0)]) (fun _=>⟨[],0⟩) (fun p0=>((a0.length:Int)+1-p0).toNat) (0:Int) ?_ (fN rfl rfl) fun p0 ⟨i0,i1⟩=>?_
   |refine lM ?_
   |refine wE ‹_› ?_ (fun _=>rfl) ?_
   |refine wG ?_ ?_ (fun _=>rfl) fun x hx hm=>?_
   |refine ⟨nx _,?_,?_,(fN rfl rfl)⟩
   |refine ⟨lens_map (f:=S71.c) (fun _=>rfl),?_,?_,slB _ ?_⟩
   |refine ⟨lens_map (f:=S71.c) (fun _=>rfl),?_,?_,slA _ _ ?_⟩
   |refine wA (l:=[]) (f:=S71.c) (m:=_) rfl (fun _=>⟨rfl,rfl⟩) ?_ ?_ ?_
   |refine wA (f:=S71.c) (m:=[⟨_,_,(0:Int)⟩]) rfl (fun _=>⟨rfl,rfl⟩) ?_ ?_ ?_
   |refine wA (f:=S71.c) (m:=_) rfl (fun _=>⟨rfl,rfl⟩) ?_ ?_ ?_
   |refine ⟨_,_,deep0 (leafs_map (f:=S71.c) (fun _=>rfl) _),?_⟩
   |refine ⟨_,rfl,?_⟩
  |omega
  |dsimp only
  |(simp only [List.length_append,List.length_cons,List.length_nil,List.length_take,List.length_drop,List.length_set,List.length_map,ByteArray.size_extract];omega)
  |with_reducible apply And.intro
  |(simp (disch:=omega) only [ls]<;>omega)
end Go.Abs.RM
