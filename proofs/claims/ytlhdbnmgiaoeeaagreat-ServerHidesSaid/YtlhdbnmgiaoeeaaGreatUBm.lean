/- Of ServerHides: lemmas. -/
import Derived.Test.YtlhdbnmgiaoeeaaGreatUBl
import Derived.KernelRfl
set_option linter.all false
namespace Go.Abs.RL
open Go.Proofs
noncomputable section
def es34:List Ent:=[⟨11,a33,r33⟩]
theorem m34:Valid P 10 a34 r34:=ran (mkE_ok (S:=sp) (inl:=inl) (own:=own) (es:=es34) mixed names specs (ents_cons m33 kk0)) 3000 60 (by kernel_rfl)
def es35:List Ent:=[⟨11,a3,r3⟩,⟨11,a6,r6⟩,⟨11,a11,r11⟩,⟨11,a15,r15⟩,⟨11,a24,r24⟩,⟨143,a25,r25⟩,⟨129,a31,r31⟩]
theorem m35:Valid P 29 a35 r35:=ran (mkE_ok (S:=sp) (inl:=inl) (own:=own) (es:=es35) mixed names specs (ents_cons m3 (ents_cons m6 (ents_cons m11 (ents_cons m15 (ents_cons m24 (ents_cons m25 (ents_cons m31 kk0)))))))) 3000 60 (by kernel_rfl)
def es36:List Ent:=[⟨11,a3,r3⟩,⟨11,a6,r6⟩,⟨11,a11,r11⟩,⟨11,a15,r15⟩,⟨11,a24,r24⟩,⟨143,a25,r25⟩,⟨129,a31,r31⟩,⟨11,a33,r33⟩]
theorem m36:Valid P 29 a36 r36:=ran (mkE_ok (S:=sp) (inl:=inl) (own:=own) (es:=es36) mixed names specs (ents_cons m3 (ents_cons m6 (ents_cons m11 (ents_cons m15 (ents_cons m24 (ents_cons m25 (ents_cons m31 (ents_cons m33 kk0))))))))) 3000 60 (by kernel_rfl)
def es37:List Ent:=[⟨160,a0,r0⟩,⟨37,a1,r1⟩,⟨141,a2,r2⟩,⟨25,a19,r19⟩,⟨27,a20,r20⟩,⟨27,a21,r21⟩,⟨27,a22,r22⟩,⟨27,a23,r23⟩,⟨27,a32,r32⟩,⟨10,a34,r34⟩,⟨29,a35,r35⟩,⟨29,a36,r36⟩]
theorem m37:Valid P 8 a37 r37:=ran (mkE_ok (S:=sp) (inl:=inl) (own:=own) (es:=es37) mixed names specs (ents_cons m0 (ents_cons m1 (ents_cons m2 (ents_cons m19 (ents_cons m20 (ents_cons m21 (ents_cons m22 (ents_cons m23 (ents_cons m32 (ents_cons m34 (ents_cons m35 (ents_cons m36 kk0))))))))))))) 3000 60 (by kernel_rfl)
end
end Go.Abs.RL
