/- Of GapsBounds: walks. -/
import Derived.Test.YthbenojbjjgnaaaGreatUAu
import Derived.Test.YthbenojbjjgnaaaGreatUBd
import Derived.Test.YthbenojbjjgnaaaGreatUBi
import Derived.Test.YthbenojbjjgnaaaGreatUAm
set_option linter.all false
namespace Go.Abs.RM
open Go.Proofs
set_option maxRecDepth 100000
set_option maxHeartbeats 40000000
theorem w10:WQv 10 [] sB (fun r=>r=true):=fun xs hx=>by
 cases hx
 exact ⟨sB true,_,.sc,⟨true,rfl,rfl⟩,RL.m22⟩
theorem w4 (a0:S30) (a1:S32) (hr:RawG a0) (hq:a1.f1.length≤9223372036854775807∧a1.f2.length≤9223372036854775807):WQv 4 [.agg (S30.c a0),.agg (S32.c a1)] sB (fun r=>r=true):=by
 refine gO Tryz.func4 ?_
 obtain ⟨r1,r2,r3,r4,r5,r6,r7,r8,r9,r10⟩:=hr
 repeat' first
  |with_reducible assumption
  |(conv=>whnf);first
   |refine wE ‹_› ?_ (fun _=>rfl) ?_
   |apply bD<;>intro h
   |apply bJ<;>intro h
   |apply br<;>intro h
   |refine ⟨(by kernel_rfl:drawW _ _ _=true),?_⟩
   |refine wC (w7 _ _ ?_ ?_ ?_ ?_ ?_ ?_ ?_ ?_ ?_) fun z7 h7=>?_
   |refine wC (w8 _ ?_ ?_) fun z8 h8=>?_
   |refine wC (w9 _ ?_ ?_ ?_ ?_ ?_ ?_ ?_) fun z9 h9=>?_
   |refine wC w10 fun z10 h10=>?_
   |refine wC (w12 _ _ _ _ _ ?_ ?_ ?_ ?_ ?_ ?_) fun z12 h12=>?_
   |refine wC (w14m _ ?_) fun z14 h14=>?_
   |refine wC (w15 _ _ ?_ ?_ ?_) fun z15 h15=>?_
   |refine wC (w17m _ _ ?_ ?_) fun z17 h17=>?_
   |refine wC (w16 _ _ ?_) fun z16 h16=>?_
   |refine lM ?_
   |refine slP (f:=c_i64) (fun _=>rfl) ?_ ?_ ?_
   |refine wG (l:=z14) ?_ ?_ (fun _=>rfl) fun x hx hm=>?_
   |refine V1 (fun (p0:Int)=>0≤p0∧p0≤(z14.length:Int)∧z14.length≤12) (fun p0=>[(2,.box 0 0),(3,.box 1 0),(5,lI z14),(6,lI z15),(7,sI p0)]) (fun _=>⟨[(0,.box (S30.c a0) false),(1,.box (S32.c a1) false)],2⟩) (fun p0=>((z14.length:Int)+1-p0).toNat) (0:Int) ?_ (ft [(0,some 0),(1,some 1)] rfl rfl rfl ⟨fB rfl rfl rfl,fB rfl rfl rfl,trivial⟩) fun p0 ⟨i0,i1,i2⟩=>?_
   |refine ⟨nx _,?_,?_,(ft [(0,some 0),(1,some 1)] rfl rfl rfl ⟨fB rfl rfl rfl,fB rfl rfl rfl,trivial⟩)⟩
   |refine ⟨_,rfl,?_⟩
  |(have q:=h7 ‹z7=false›;omega)
  |(have q:=h8 ‹z8=false›;omega)
  |exact (h9 ‹z9=0›).2.1
  |(have q:=len_o h12.2.1 h12.2.2.1 (h7 ‹z7=false›).1;subst_vars;simp only [List.length_map];omega)
  |(have q:=len_o h12.2.1 h12.2.2.1 (h7 ‹z7=false›).1;subst_vars;simp only [List.length_map,List.length_take];omega)
  |(have q:=len_o h12.2.1 h12.2.2.1 (h7 ‹z7=false›).1;omega)
  |exact absurd (by rw [none_mis h17.2 (fun x hx=>h12.2.2.1 x (h14 ▸ hx))];rfl) h
  |(exfalso;have q:=h12.1;rw [h14,List.length_map] at h;split at h<;>omega)
  |exact absurd (h16.1 ‹z16=true›) (nd_fresh (h14 ▸ h12.2.1) i0 hx)
  |exact absurd (h15.2 _ (h16.1 ‹z16=true›)) (h12.2.2.2 _ (h14 ▸ List.mem_of_getElem? hx))
  |with_reducible apply And.intro
  |(simp (disch:=omega) only [ls]<;>omega)
end Go.Abs.RM
