/- Of ServerHides: lemmas. -/
import Derived.Test.YtlhdbnmgiaoeeaaGreatUBg
import Derived.KernelRfl
set_option linter.all false
namespace Go.Abs.RL
open Go.Proofs
noncomputable section
def es12:List Ent:=[]
theorem m12:Valid P 118 a12 r12:=ran (mkE_ok (S:=sp) (inl:=inl) (own:=own) (es:=es12) mixed names specs kk0) 3000 60 (by kernel_rfl)
def es13:List Ent:=[⟨11,a3,r3⟩,⟨118,a4,r4⟩,⟨11,a6,r6⟩,⟨311,a7,r7⟩,⟨11,a11,r11⟩,⟨118,a12,r12⟩]
theorem m13:Valid P 129 a13 r13:=ran (mkE_ok (S:=sp) (inl:=inl) (own:=own) (es:=es13) mixed names specs (ents_cons m3 (ents_cons m4 (ents_cons m6 (ents_cons m7 (ents_cons m11 (ents_cons m12 kk0))))))) 3000 60 (by kernel_rfl)
def es14:List Ent:=[⟨160,a0,r0⟩,⟨37,a1,r1⟩,⟨129,a13,r13⟩]
theorem m14:Valid P 66 a14 r14:=ran (mkE_ok (S:=sp) (inl:=inl) (own:=own) (es:=es14) mixed names specs (ents_cons m0 (ents_cons m1 (ents_cons m13 kk0)))) 3000 60 (by kernel_rfl)
def es15:List Ent:=[⟨160,a0,r0⟩,⟨37,a1,r1⟩]
theorem m15:Valid P 11 a15 r15:=ran (mkE_ok (S:=sp) (inl:=inl) (own:=own) (es:=es15) mixed names specs (ents_cons m0 (ents_cons m1 kk0))) 3000 60 (by kernel_rfl)
end
end Go.Abs.RL
