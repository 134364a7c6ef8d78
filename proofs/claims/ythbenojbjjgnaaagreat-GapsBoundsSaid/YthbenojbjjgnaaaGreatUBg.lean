/- Of GapsBounds: lemmas. -/
import Derived.Test.YthbenojbjjgnaaaGreatUBf
import Derived.KernelRfl
set_option linter.all false
namespace Go.Abs.RL
open Go.Proofs
noncomputable section
def es14:List Ent:=[⟨207,a4,r4⟩,⟨123,a6,r6⟩,⟨208,a13,r13⟩]
theorem m14:Valid P 209 a14 r14:=ran (mkE_ok (S:=sp) (inl:=inl) (own:=own) (es:=es14) mixed names specs (ents_cons m4 (ents_cons m6 (ents_cons m13 kk0)))) 3000 60 (by kernel_rfl)
def es15:List Ent:=[]
theorem m15:Valid P 50 a15 r15:=ran (mkE_ok (S:=sp) (inl:=inl) (own:=own) (es:=es15) mixed names specs kk0) 3000 60 (by kernel_rfl)
def es16:List Ent:=[⟨209,a7,r7⟩,⟨215,a8,r8⟩,⟨209,a10,r10⟩,⟨493,a11,r11⟩,⟨209,a14,r14⟩,⟨50,a15,r15⟩]
theorem m16:Valid P 288 a16 r16:=ran (mkE_ok (S:=sp) (inl:=inl) (own:=own) (es:=es16) mixed names specs (ents_cons m7 (ents_cons m8 (ents_cons m10 (ents_cons m11 (ents_cons m14 (ents_cons m15 kk0))))))) 3000 60 (by kernel_rfl)
def es17:List Ent:=[⟨288,a12,r12⟩,⟨288,a16,r16⟩]
theorem m17:Valid P 156 a17 r17:=ran (mkE_ok (S:=sp) (inl:=inl) (own:=own) (es:=es17) mixed names specs (ents_cons m12 (ents_cons m16 kk0))) 3000 60 (by kernel_rfl)
end
end Go.Abs.RL
