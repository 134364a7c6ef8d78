/- The law ModeratePlans: for every input the call returns true and leaves its arguments as they were. No condition. -/
import Derived.Test.YthbenojbjjgnaaaGreatDf
import Derived.Test.YthbenojbjjgnaaaGreatUAt
set_option linter.unusedVariables false
set_option linter.unusedSimpArgs false
set_option linter.unusedSectionVars false
namespace Go.Proofs.YthbenojbjjgnaaaGreat.moderatePlans
open Go.ChangeShapes Go.WideShapes Go.ChangeAt Go.RowKit Go.Joins Go.Abs Go.Abs.RM
theorem own : ownKnob Tryz.prog.godebug = none := by kernel_rfl
theorem laidOut : laidOutB Tryz.prog = true := by kernel_rfl
theorem called {W : World} {x y z : Value} {a0 : S30} {a1 : ByteArray} {a2 : List S103} (hr : RawR a0) {cs : List Value} (hx : x = .agg cs.toArray) (h0 : Sh W (S30.c a0) cs) (h1 : Sh W [.sc (.string a1)] [y]) (h2 : Sh W [.lst (a2.map S103.c)] [z]) :
  Calls Tryz.prog 5 #[x,y,z] W fun e W' => e = .returned (.bool true) ∧ Below W.heap.size W W' := by
 subst hx
 obtain ⟨xs,p0,q0⟩ := h0
 obtain ⟨ys,p1,q1⟩ := h1
 obtain ⟨zs,p2,q2⟩ := h2
 cases p1 with | cons p1 p1' => cases p1' with | nil =>
 cases p2 with | cons p2 p2' => cases p2' with | nil =>
 cases q1 with | cons q1 q1' =>
 cases q2 with | cons q2 q2' =>
 obtain ⟨r,v,h3,⟨rb,h4,rfl⟩,_,h5⟩ := w5 a0 a1 a2 hr _ (.cons (.agg p0) (.cons p1 (.cons p2 .nil)))
 subst h4
 cases h3
 refine (h5 W (fun b _ => b < W.heap.size) (fun _ => False) [.agg cs.toArray,y,z] (fun _ _ h => h) (fun _ h => h.elim) (.cons (.agg q0) (.cons q1 (.cons q2 .nil)))).mono fun e W' ⟨bel,I',J',_,_,_,_,ho⟩ => ?_
 cases e with
 | returned v => cases ho; exact ⟨rfl,bel⟩
 | _ => cases ho
set_option maxRecDepth 100000 in
theorem lifted (os : Os) (started : os.Started) (H : Type) (enc : TypeId × Value → H) :
  ReturnsInHanded {} Tryz.checked os 5 .any (Rows.moderatePlansSpec.pre6 enc Tryz.prog Tryz.f5 Rows.moderatePlansRow.domain false) (Rows.moderatePlansSpec.post enc Tryz.prog Tryz.f5 false true false false) := by
 refine returnsInHanded_of_change (C := Tryz.checked) own started (by kernel_rfl) Tryz.func5
  (ChangeSpec.witness6 (enc := enc) (C := Tryz.checked) false ⟨#[],#[.agg #[.string ⟨#[]⟩,.slice none 0 0,.slice none 0 0,.slice none 0 0,.slice none 0 0,.slice none 0 0,.int .i64 0,.slice none 0 0,.slice none 0 0],.string ⟨#[]⟩,.slice none 0 0],[]⟩ 12 (by kernel_rfl) (by kernel_rfl) (by kernel_rfl) (by kernel_rfl)) ?_
 intro W base args ds gs before hval0 hW hcnd _
 have hval : ∀ (j : Nat) t v,Tryz.f5.params[j]? = some t → args[j]? = some v → Value.okWide Tryz.prog W .any base t v := hval0
 have hW' := hW
 obtain ⟨p,q,hA0,hV,rfl,hfz,hnd⟩ := hW
 have hA : DataW.TrodAll enc Tryz.prog W 0 (fun _ => true) true Tryz.f5.params.toList args.toList ds p := hA0
 rw [Tryz.params5] at hA hval
 obtain ⟨v0,vs0,d0,ds0,p0,q0,hargs,rfl,rfl,h0,r0⟩ := trodAll_cons hA
 obtain ⟨v1,vs1,d1,ds1,p1,q1,rfl,rfl,rfl,h1,r1⟩ := trodAll_cons r0
 obtain ⟨v2,vs2,d2,ds2,p2,q2,rfl,rfl,rfl,h2,r2⟩ := trodAll_cons r1
 obtain ⟨rfl,rfl,rfl⟩ := trodAll_nil r2
 obtain rfl : args = #[v0,v1,v2] := by cases args; simp_all
 obtain ⟨rfl,rfl⟩ := trodVars_none hV
 have k0 := h0
 have k1 := h1
 have k2 := h2
 have lt0 : ∀ x ∈ p0,x.block < W.heap.size := by obtain ⟨m,hm⟩ := k0; exact DataW.trod_lt m _ _ _ hm
 have lt1 : ∀ x ∈ p1,x.block < W.heap.size := by obtain ⟨m,hm⟩ := k1; exact DataW.trod_lt m _ _ _ hm
 have lt2 : ∀ x ∈ p2,x.block < W.heap.size := by obtain ⟨m,hm⟩ := k2; exact DataW.trod_lt m _ _ _ hm
 obtain ⟨cs0,rfl,_⟩ := okWide_struct Tryz.underlying30 (hval 0 30 v0 rfl rfl)
 obtain ⟨s1,rfl⟩ := okWide_string Tryz.underlying9 (hval 1 9 v1 rfl rfl)
 obtain ⟨a,len,cap,rfl⟩ := okWide_slice Tryz.underlying44 (hval 2 44 v2 rfl rfl)
 obtain ⟨f0,hf0⟩ := h0
 obtain ⟨f1,hf1⟩ := h1
 obtain ⟨f2,hf2⟩ := h2
 obtain ⟨ce,rfl⟩ : ∃ ce : List Value,cs0 = ce.toArray := ⟨cs0.toList,by simp⟩
 obtain ⟨a0,b0,s0⟩ := rd30 f0 _ _ hf0
 obtain ⟨a1,b1,s1'⟩ := rd_str Tryz.underlying9 f1 _ _ hf1
 obtain ⟨a2,b2,s2⟩ := rd44 f2 _ _ hf2
 clear hA0 hval0
 refine (called b0 rfl s0 s1' s2).mono fun e W' ⟨he',bel⟩ => ?_
 subst he'
 exact ⟨_,rfl,_,_,_,[],_,[],hW',trodAll_mk1 (shut_bool Tryz.underlying4 _),trodAll_cons_mk (Below.trod laidOut (by kernel_rfl) (of_decide_eq_true (by kernel_rfl)) k0 bel lt0) (trodAll_cons_mk (Below.trod laidOut (by kernel_rfl) (of_decide_eq_true (by kernel_rfl)) k1 bel lt1) (trodAll_cons_mk (Below.trod laidOut (by kernel_rfl) (of_decide_eq_true (by kernel_rfl)) k2 bel lt2) trodAll_mk0)),rfl,bel.frame _,fun h => by cases h⟩
theorem over : Rows.moderatePlansRow.holds Tryz.pinned (OpenSpec.ofChange Rows.moderatePlansSpec) :=
 OpenClaim.holds_of_wide 5 Tryz.f5 rfl rfl rfl rfl rfl rfl rfl ⟨rfl,rfl,rfl,rfl,rfl⟩ rfl rfl rfl rfl rfl (by kernel_rfl) Tryz.func5 joined
  (of_decide_eq_true (by kernel_rfl)) (by unfold Func.isWrapper; first | (rw [if_pos (by decide +kernel)]; kernel_rfl) | (rw [if_neg (by decide +kernel)]; exact ⟨rfl,rfl⟩))
  (fun os started H enc _ => lifted os started H enc)
theorem proved : Rows.ModeratePlansSaid := over
end Go.Proofs.YthbenojbjjgnaaaGreat.moderatePlans
