/- Of GapsBounds: lemmas. -/
import Derived.Test.YthbenojbjjgnaaaGreatUBg
import Derived.KernelRfl
set_option linter.all false
namespace Go.Abs.RL
open Go.Proofs
noncomputable section
def es18:List Ent:=[⟨206,a0,r0⟩,⟨206,a2,r2⟩,⟨209,a7,r7⟩,⟨215,a8,r8⟩,⟨288,a9,r9⟩,⟨209,a10,r10⟩,⟨288,a12,r12⟩,⟨208,a13,r13⟩,⟨209,a14,r14⟩,⟨156,a17,r17⟩]
theorem m18:Valid P 43 a18 r18:=ran (mkE_ok (S:=sp) (inl:=inl) (own:=own) (es:=es18) mixed names specs (ents_cons m0 (ents_cons m2 (ents_cons m7 (ents_cons m8 (ents_cons m9 (ents_cons m10 (ents_cons m12 (ents_cons m13 (ents_cons m14 (ents_cons m17 kk0))))))))))) 3000 60 (by kernel_rfl)
def es19:List Ent:=[⟨123,a6,r6⟩,⟨50,a15,r15⟩,⟨288,a16,r16⟩]
theorem m19:Valid P 51 a19 r19:=ran (mkE_ok (S:=sp) (inl:=inl) (own:=own) (es:=es19) mixed names specs (ents_cons m6 (ents_cons m15 (ents_cons m16 kk0)))) 3000 60 (by kernel_rfl)
def es20:List Ent:=[⟨50,a15,r15⟩,⟨288,a16,r16⟩,⟨51,a19,r19⟩]
theorem m20:Valid P 12 a20 r20:=ran (mkE_ok (S:=sp) (inl:=inl) (own:=own) (es:=es20) mixed names specs (ents_cons m15 (ents_cons m16 (ents_cons m19 kk0)))) 3000 60 (by kernel_rfl)
def es21:List Ent:=[⟨206,a0,r0⟩,⟨206,a2,r2⟩,⟨209,a7,r7⟩,⟨215,a8,r8⟩,⟨288,a9,r9⟩,⟨209,a10,r10⟩,⟨288,a12,r12⟩,⟨208,a13,r13⟩,⟨209,a14,r14⟩,⟨156,a17,r17⟩]
theorem m21:Valid P 43 a21 r21:=ran (mkE_ok (S:=sp) (inl:=inl) (own:=own) (es:=es21) mixed names specs (ents_cons m0 (ents_cons m2 (ents_cons m7 (ents_cons m8 (ents_cons m9 (ents_cons m10 (ents_cons m12 (ents_cons m13 (ents_cons m14 (ents_cons m17 kk0))))))))))) 3000 60 (by kernel_rfl)
end
end Go.Abs.RL
