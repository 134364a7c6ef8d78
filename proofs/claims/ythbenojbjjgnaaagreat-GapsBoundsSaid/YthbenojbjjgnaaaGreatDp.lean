/- The law GapsBounds: for every input the call returns true and leaves its arguments as they were. No condition. -/
import Derived.Test.YthbenojbjjgnaaaGreatDf
import Derived.Test.YthbenojbjjgnaaaGreatUBj
import Derived.Test.YthbenojbjjgnaaaGreatUAm
set_option linter.all false
namespace Go.Proofs.YthbenojbjjgnaaaGreat.gapsBounds
open Go.ChangeShapes Go.WideShapes Go.ChangeAt Go.RowKit Go.Joins Go.Abs Go.Abs.RM
theorem own:ownKnob Tryz.prog.godebug=none:=by kernel_rfl
theorem laidOut:laidOutB Tryz.prog=true:=by kernel_rfl
theorem called {W:World} {x y:Value} {a0:S30} {a1:S32} (hr:RawG a0) (hq:a1.f1.length≤9223372036854775807∧a1.f2.length≤9223372036854775807) {cs ds:List Value} (hx:x=.agg cs.toArray) (hy:y=.agg ds.toArray) (h0:Sh W (S30.c a0) cs) (h1:Sh W (S32.c a1) ds) :
 Calls Tryz.prog 4 #[x,y] W fun e W'=>e=.returned (.bool true)∧Below W.heap.size W W':=by
 subst hx hy
 obtain ⟨xs,p0,q0⟩:=h0
 obtain ⟨ys,p1,q1⟩:=h1
 obtain ⟨r,v,h3,⟨rb,h4,rfl⟩,_,h5⟩:=w4 a0 a1 hr hq _ (.cons (.agg p0) (.cons (.agg p1) .nil))
 subst h4
 cases h3
 refine (h5 W (fun b _=>b<W.heap.size) (fun _=>False) [.agg cs.toArray,.agg ds.toArray] (fun _ _ h=>h) (fun _ h=>h.elim) (.cons (.agg q0) (.cons (.agg q1) .nil))).mono fun e W' ⟨bel,I',J',_,_,_,_,ho⟩=>?_
 cases e with
 |returned v=>cases ho;exact ⟨rfl,bel⟩
 |_=>cases ho
set_option maxRecDepth 100000 in
theorem lifted (os:Os) (started:os.Started) (H:Type) (enc:TypeId×Value→H) :
 ReturnsInHanded {} Tryz.checked os 4 .any (Rows.gapsBoundsSpec.pre6 enc Tryz.prog Tryz.f4 Rows.gapsBoundsRow.domain false) (Rows.gapsBoundsSpec.post enc Tryz.prog Tryz.f4 false true false false):=by
 refine returnsInHanded_of_change (C:=Tryz.checked) own started (by kernel_rfl) Tryz.func4
  (ChangeSpec.witness6 (enc:=enc) (C:=Tryz.checked) false ⟨#[],#[.agg #[.string ⟨#[]⟩,.slice none 0 0,.slice none 0 0,.slice none 0 0,.slice none 0 0,.slice none 0 0,.int .i64 0,.slice none 0 0,.slice none 0 0],.agg #[.string ⟨#[]⟩,.slice none 0 0,.slice none 0 0,.int .i64 0]],[]⟩ 12 (by kernel_rfl) (by kernel_rfl) (by kernel_rfl) (by kernel_rfl)) ?_
 intro W base args ds gs before hval0 hW hcnd _
 have hval:∀(j:Nat) t v,Tryz.f4.params[j]?=some t→args[j]?=some v→Value.okWide Tryz.prog W .any base t v:=hval0
 have hW':=hW
 obtain ⟨p,q,hA0,hV,rfl,hfz,hnd⟩:=hW
 have hA:DataW.TrodAll enc Tryz.prog W 0 (fun _=>true) true Tryz.f4.params.toList args.toList ds p:=hA0
 rw [Tryz.params4] at hA hval
 obtain ⟨v0,vs0,d0,ds0,p0,q0,hargs,rfl,rfl,h0,r0⟩:=trodAll_cons hA
 obtain ⟨v1,vs1,d1,ds1,p1,q1,rfl,rfl,rfl,h1,r1⟩:=trodAll_cons r0
 obtain ⟨rfl,rfl,rfl⟩:=trodAll_nil r1
 obtain rfl:args=#[v0,v1]:=by cases args;simp_all
 obtain ⟨rfl,rfl⟩:=trodVars_none hV
 have k0:=h0
 have k1:=h1
 have lt0:∀x∈p0,x.block<W.heap.size:=by obtain ⟨m,hm⟩:=k0;exact DataW.trod_lt m _ _ _ hm
 have lt1:∀x∈p1,x.block<W.heap.size:=by obtain ⟨m,hm⟩:=k1;exact DataW.trod_lt m _ _ _ hm
 obtain ⟨cs0,rfl,_⟩:=okWide_struct Tryz.underlying30 (hval 0 30 v0 rfl rfl)
 obtain ⟨cs1,rfl,_⟩:=okWide_struct Tryz.underlying32 (hval 1 32 v1 rfl rfl)
 obtain ⟨f0,hf0⟩:=h0
 obtain ⟨f1,hf1⟩:=h1
 obtain ⟨ce,rfl⟩:∃ce:List Value,cs0=ce.toArray:=⟨cs0.toList,by simp⟩
 obtain ⟨cd,rfl⟩:∃cd:List Value,cs1=cd.toArray:=⟨cs1.toList,by simp⟩
 obtain ⟨a0,b0,s0⟩:=rd30 f0 _ _ hf0
 obtain ⟨a1,b1,s1⟩:=rd32 f1 _ _ hf1
 clear hA0 hval0
 refine (called b0 b1 rfl rfl s0 s1).mono fun e W' ⟨he',bel⟩=>?_
 subst he'
 exact ⟨_,rfl,_,_,_,[],_,[],hW',trodAll_mk1 (shut_bool Tryz.underlying4 _),trodAll_cons_mk (Below.trod laidOut (by kernel_rfl) (of_decide_eq_true (by kernel_rfl)) k0 bel lt0) (trodAll_cons_mk (Below.trod laidOut (by kernel_rfl) (of_decide_eq_true (by kernel_rfl)) k1 bel lt1) trodAll_mk0),rfl,bel.frame _,fun h=>by cases h⟩
theorem over:Rows.gapsBoundsRow.holds Tryz.pinned (OpenSpec.ofChange Rows.gapsBoundsSpec):=
 OpenClaim.holds_of_wide 4 Tryz.f4 rfl rfl rfl rfl rfl rfl rfl ⟨rfl,rfl,rfl,rfl,rfl⟩ rfl rfl rfl rfl rfl (by kernel_rfl) Tryz.func4 joined
  (of_decide_eq_true (by kernel_rfl)) (by unfold Func.isWrapper;first | (rw [if_pos (by decide +kernel)];kernel_rfl) | (rw [if_neg (by decide +kernel)];exact ⟨rfl,rfl⟩))
  (fun os started H enc _=>lifted os started H enc)
theorem proved:Rows.GapsBoundsSaid:=over
end Go.Proofs.YthbenojbjjgnaaaGreat.gapsBounds
