/- Of ServerHides: lemmas. -/
import Derived.Test.YtlhdbnmgiaoeeaaGreatUBi
import Derived.KernelRfl
set_option linter.all false
namespace Go.Abs.RL
open Go.Proofs
noncomputable section
def es19:List Ent:=[⟨160,a0,r0⟩,⟨37,a1,r1⟩,⟨141,a2,r2⟩,⟨66,a5,r5⟩,⟨66,a10,r10⟩,⟨66,a14,r14⟩,⟨66,a18,r18⟩]
theorem m19:Valid P 25 a19 r19:=ran (mkE_ok (S:=sp) (inl:=inl) (own:=own) (es:=es19) mixed names specs (ents_cons m0 (ents_cons m1 (ents_cons m2 (ents_cons m5 (ents_cons m10 (ents_cons m14 (ents_cons m18 kk0)))))))) 3000 60 (by kernel_rfl)
def es20:List Ent:=[⟨37,a1,r1⟩,⟨141,a2,r2⟩,⟨11,a3,r3⟩,⟨118,a4,r4⟩]
theorem m20:Valid P 27 a20 r20:=ran (mkE_ok (S:=sp) (inl:=inl) (own:=own) (es:=es20) mixed names specs (ents_cons m1 (ents_cons m2 (ents_cons m3 (ents_cons m4 kk0))))) 3000 60 (by kernel_rfl)
def es21:List Ent:=[⟨160,a0,r0⟩,⟨37,a1,r1⟩,⟨11,a3,r3⟩,⟨118,a4,r4⟩,⟨11,a6,r6⟩,⟨129,a8,r8⟩]
theorem m21:Valid P 27 a21 r21:=ran (mkE_ok (S:=sp) (inl:=inl) (own:=own) (es:=es21) mixed names specs (ents_cons m0 (ents_cons m1 (ents_cons m3 (ents_cons m4 (ents_cons m6 (ents_cons m8 kk0))))))) 3000 60 (by kernel_rfl)
def es22:List Ent:=[⟨160,a0,r0⟩,⟨37,a1,r1⟩,⟨129,a8,r8⟩,⟨11,a11,r11⟩,⟨118,a12,r12⟩,⟨129,a13,r13⟩]
theorem m22:Valid P 27 a22 r22:=ran (mkE_ok (S:=sp) (inl:=inl) (own:=own) (es:=es22) mixed names specs (ents_cons m0 (ents_cons m1 (ents_cons m8 (ents_cons m11 (ents_cons m12 (ents_cons m13 kk0))))))) 3000 60 (by kernel_rfl)
end
end Go.Abs.RL
