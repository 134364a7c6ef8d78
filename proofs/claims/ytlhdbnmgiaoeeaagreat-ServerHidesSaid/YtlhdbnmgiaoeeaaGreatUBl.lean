/- Of ServerHides: lemmas. -/
import Derived.Test.YtlhdbnmgiaoeeaaGreatUBk
import Derived.KernelRfl
set_option linter.all false
namespace Go.Abs.RL
open Go.Proofs
noncomputable section
def es30:List Ent:=[]
theorem m30:Valid P 374 a30 r30:=ran (mkE_ok (S:=sp) (inl:=inl) (own:=own) (es:=es30) mixed names specs kk0) 3000 60 (by kernel_rfl)
def es31:List Ent:=[⟨11,a3,r3⟩,⟨118,a4,r4⟩,⟨11,a6,r6⟩,⟨311,a7,r7⟩,⟨11,a11,r11⟩,⟨118,a12,r12⟩,⟨11,a15,r15⟩,⟨11,a24,r24⟩,⟨143,a25,r25⟩,⟨374,a26,r26⟩,⟨373,a27,r27⟩,⟨374,a28,r28⟩,⟨373,a29,r29⟩,⟨374,a30,r30⟩]
theorem m31:Valid P 129 a31 r31:=ran (mkE_ok (S:=sp) (inl:=inl) (own:=own) (es:=es31) mixed names specs (ents_cons m3 (ents_cons m4 (ents_cons m6 (ents_cons m7 (ents_cons m11 (ents_cons m12 (ents_cons m15 (ents_cons m24 (ents_cons m25 (ents_cons m26 (ents_cons m27 (ents_cons m28 (ents_cons m29 (ents_cons m30 kk0))))))))))))))) 3000 60 (by kernel_rfl)
def es32:List Ent:=[⟨160,a0,r0⟩,⟨37,a1,r1⟩,⟨141,a2,r2⟩,⟨129,a17,r17⟩,⟨11,a24,r24⟩,⟨143,a25,r25⟩,⟨129,a31,r31⟩]
theorem m32:Valid P 27 a32 r32:=ran (mkE_ok (S:=sp) (inl:=inl) (own:=own) (es:=es32) mixed names specs (ents_cons m0 (ents_cons m1 (ents_cons m2 (ents_cons m17 (ents_cons m24 (ents_cons m25 (ents_cons m31 kk0)))))))) 3000 60 (by kernel_rfl)
def es33:List Ent:=[⟨141,a2,r2⟩]
theorem m33:Valid P 11 a33 r33:=ran (mkE_ok (S:=sp) (inl:=inl) (own:=own) (es:=es33) mixed names specs (ents_cons m2 kk0)) 3000 60 (by kernel_rfl)
end
end Go.Abs.RL
