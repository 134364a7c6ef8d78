/- Of ServerHides: lemmas. -/
import Derived.Test.YtlhdbnmgiaoeeaaGreatUBh
import Derived.KernelRfl
set_option linter.all false
namespace Go.Abs.RL
open Go.Proofs
noncomputable section
def es16:List Ent:=[]
theorem m16:Valid P 373 a16 r16:=ran (mkE_ok (S:=sp) (inl:=inl) (own:=own) (es:=es16) mixed names specs kk0) 3000 60 (by kernel_rfl)
def es17:List Ent:=[⟨11,a3,r3⟩,⟨118,a4,r4⟩,⟨11,a6,r6⟩,⟨311,a7,r7⟩,⟨11,a11,r11⟩,⟨118,a12,r12⟩,⟨11,a15,r15⟩,⟨373,a16,r16⟩]
theorem m17:Valid P 129 a17 r17:=ran (mkE_ok (S:=sp) (inl:=inl) (own:=own) (es:=es17) mixed names specs (ents_cons m3 (ents_cons m4 (ents_cons m6 (ents_cons m7 (ents_cons m11 (ents_cons m12 (ents_cons m15 (ents_cons m16 kk0))))))))) 3000 60 (by kernel_rfl)
def es18:List Ent:=[⟨160,a0,r0⟩,⟨37,a1,r1⟩,⟨141,a2,r2⟩,⟨129,a17,r17⟩]
theorem m18:Valid P 66 a18 r18:=ran (mkE_ok (S:=sp) (inl:=inl) (own:=own) (es:=es18) mixed names specs (ents_cons m0 (ents_cons m1 (ents_cons m2 (ents_cons m17 kk0))))) 3000 60 (by kernel_rfl)
end
end Go.Abs.RL
