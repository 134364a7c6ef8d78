/- The law ServerHides: for every input the call returns true and leaves its arguments as they were. No condition. -/
import Derived.Test.YtlhdbnmgiaoeeaaGreatDf
import Derived.Test.YtlhdbnmgiaoeeaaGreatUBo
import Derived.Test.YtlhdbnmgiaoeeaaGreatUAl
set_option linter.all false
namespace Go.Proofs.YtlhdbnmgiaoeeaaGreat.serverHides
open Go.ChangeShapes Go.WideShapes Go.ChangeAt Go.RowKit Go.Joins Go.Abs Go.Abs.RM
theorem own:ownKnob Tryz.prog.godebug=none:=by kernel_rfl
theorem laidOut:laidOutB Tryz.prog=true:=by kernel_rfl
theorem called {W:World} {x y:Value} {a0:S2031} {a1:S2037} {a2:Bool} (hr:RawS a0) (hq:PkM a1) {cs ds:List Value} (hx:x=.agg cs.toArray) (hy:y=.agg ds.toArray) (h0:Sh W (S2031.c a0) cs) (h1:Sh W (S2037.c a1) ds) :
 Calls Tryz.prog 5 #[x,y,.bool a2] W λe W'=>e=.returned (.bool true)/\Below W.heap.size W W':=by
 subst hx hy
 obtain ⟨xs,p0,q0⟩:=h0
 obtain ⟨ys,p1,q1⟩:=h1
 obtain ⟨r,v,h3,⟨rb,h4,rfl⟩,_,h5⟩:=w2005 ⟨a0,xs,p0⟩ a1 a2 hr hq _ (.cons (.agg (RM.SP.pr ⟨a0,xs,p0⟩)) (.cons (.agg p1) (.cons .sc .nil)))
 subst h4
 cases h3
 refine (h5 W (λb _=>b<W.heap.size) (λ_=>False) [.agg cs.toArray,.agg ds.toArray,.bool a2] (λ_ _ h=>h) (λ_ h=>h.elim) (.cons (.agg q0) (.cons (.agg q1) (.cons (.sc rfl) .nil)))).mono λe W' ⟨bel,I',J',_,_,_,_,ho⟩=>?_
 cases e with
 |returned v=>cases ho;exact ⟨rfl,bel⟩
 |_=>cases ho
set_option maxRecDepth 100000 in
theorem lifted (os:Os) (started:os.Started) (H:Type) (enc:TypeId×Value->H) :
 ReturnsInHanded {} Tryz.checked os 5 .any (Rows.serverHidesSpec.pre6 enc Tryz.prog Tryz.f5 Rows.serverHidesRow.domain false) (Rows.serverHidesSpec.post enc Tryz.prog Tryz.f5 false true false false):=by
 refine returnsInHanded_of_change (C:=Tryz.checked) own started (by kernel_rfl) Tryz.func5
  (ChangeSpec.witness6 (enc:=enc) (C:=Tryz.checked) false ⟨#[],#[.agg #[.string ⟨#[]⟩,.slice none 0 0,.slice none 0 0,.slice none 0 0,.slice none 0 0,.slice none 0 0,.int .i64 0,.slice none 0 0,.slice none 0 0,.slice none 0 0,.bool false,.int .i64 0],.agg #[.string ⟨#[]⟩,.string ⟨#[]⟩,.int .i64 0,.int .i64 0,.string ⟨#[]⟩,.slice none 0 0,.slice none 0 0,.slice none 0 0,.string ⟨#[]⟩,.int .i64 0],.bool false],[]⟩ 12 (by kernel_rfl) (by kernel_rfl) (by kernel_rfl) (by kernel_rfl)) ?_
 intro W base args ds gs before hval0 hW hcnd _
 have hval:∀(j:Nat) t v,Tryz.f5.params[j]?=some t->args[j]?=some v->Value.okWide Tryz.prog W .any base t v:=hval0
 have hW':=hW
 obtain ⟨p,q,hA0,hV,rfl,hfz,hnd⟩:=hW
 have hA:DataW.TrodAll enc Tryz.prog W 0 (λ_=>true) true Tryz.f5.params.toList args.toList ds p:=hA0
 rw [Tryz.params5] at hA hval
 obtain ⟨v0,vs0,d0,ds0,p0,q0,hargs,rfl,rfl,h0,r0⟩:=trodAll_cons hA
 obtain ⟨v1,vs1,d1,ds1,p1,q1,rfl,rfl,rfl,h1,r1⟩:=trodAll_cons r0
 obtain ⟨v2,vs2,d2,ds2,p2,q2,rfl,rfl,rfl,h2,r2⟩:=trodAll_cons r1
 obtain ⟨rfl,rfl,rfl⟩:=trodAll_nil r2
 obtain rfl:args=#[v0,v1,v2]:=by cases args;simp_all
 obtain ⟨rfl,rfl⟩:=trodVars_none hV
 have k0:=h0
 have k1:=h1
 have k2:=h2
 have lt0:∀x∈p0,x.block<W.heap.size:=by obtain ⟨m,hm⟩:=k0;exact DataW.trod_lt m _ _ _ hm
 have lt1:∀x∈p1,x.block<W.heap.size:=by obtain ⟨m,hm⟩:=k1;exact DataW.trod_lt m _ _ _ hm
 have lt2:∀x∈p2,x.block<W.heap.size:=by obtain ⟨m,hm⟩:=k2;exact DataW.trod_lt m _ _ _ hm
 obtain ⟨cs0,rfl,_⟩:=okWide_struct Tryz.underlying31 (hval 0 31 v0 rfl rfl)
 obtain ⟨cs1,rfl,_⟩:=okWide_struct Tryz.underlying37 (hval 1 37 v1 rfl rfl)
 obtain ⟨bv,rfl⟩:=okWide_bool Tryz.underlying4 (hval 2 4 v2 rfl rfl)
 obtain ⟨f0,hf0⟩:=h0
 obtain ⟨f1,hf1⟩:=h1
 obtain ⟨ce,rfl⟩:∃ce:List Value,cs0=ce.toArray:=⟨cs0.toList,by simp⟩
 obtain ⟨cd,rfl⟩:∃cd:List Value,cs1=cd.toArray:=⟨cs1.toList,by simp⟩
 obtain ⟨a0,b0,s0⟩:=rd2031 f0 _ _ hf0
 obtain ⟨a1,b1,s1⟩:=rd2037 f1 _ _ hf1
 clear hA0 hval0
 refine (called b0 b1 rfl rfl s0 s1).mono λe W' ⟨he',bel⟩=>?_
 subst he'
 exact ⟨_,rfl,_,_,_,[],_,[],hW',trodAll_mk1 (shut_bool Tryz.underlying4 _),trodAll_cons_mk (Below.trod laidOut (by kernel_rfl) (of_decide_eq_true (by kernel_rfl)) k0 bel lt0) (trodAll_cons_mk (Below.trod laidOut (by kernel_rfl) (of_decide_eq_true (by kernel_rfl)) k1 bel lt1) (trodAll_cons_mk (Below.trod laidOut (by kernel_rfl) (of_decide_eq_true (by kernel_rfl)) k2 bel lt2) trodAll_mk0)),rfl,bel.frame _,λh=>by cases h⟩
theorem over:Rows.serverHidesRow.holds Tryz.pinned (OpenSpec.ofChange Rows.serverHidesSpec):=
 OpenClaim.holds_of_wide 5 Tryz.f5 rfl rfl rfl rfl rfl rfl rfl ⟨rfl,rfl,rfl,rfl,rfl⟩ rfl rfl rfl rfl rfl (by kernel_rfl) Tryz.func5 joined
  (of_decide_eq_true (by kernel_rfl)) (by unfold Func.isWrapper;first | (rw [if_pos (by decide +kernel)];kernel_rfl) | (rw [if_neg (by decide +kernel)];exact ⟨rfl,rfl⟩))
  (λos started H enc _=>lifted os started H enc)
theorem proved:Rows.ServerHidesSaid:=over
end Go.Proofs.YtlhdbnmgiaoeeaaGreat.serverHides
