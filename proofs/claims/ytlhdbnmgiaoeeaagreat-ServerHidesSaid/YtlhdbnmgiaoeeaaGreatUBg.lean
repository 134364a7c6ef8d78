/- Of ServerHides: lemmas. -/
import Derived.Test.YtlhdbnmgiaoeeaaGreatUBf
import Derived.KernelRfl
set_option linter.all false
namespace Go.Abs.RL
open Go.Proofs
noncomputable section
def es7:List Ent:=[]
theorem m7:Valid P 311 a7 r7:=ran (mkE_ok (S:=sp) (inl:=inl) (own:=own) (es:=es7) mixed names specs kk0) 3000 60 (by kernel_rfl)
def es8:List Ent:=[⟨11,a3,r3⟩,⟨118,a4,r4⟩,⟨11,a6,r6⟩,⟨311,a7,r7⟩]
theorem m8:Valid P 129 a8 r8:=ran (mkE_ok (S:=sp) (inl:=inl) (own:=own) (es:=es8) mixed names specs (ents_cons m3 (ents_cons m4 (ents_cons m6 (ents_cons m7 kk0))))) 3000 60 (by kernel_rfl)
def es9:List Ent:=[⟨37,a1,r1⟩]
theorem m9:Valid P 119 a9 r9:=ran (mkE_ok (S:=sp) (inl:=inl) (own:=own) (es:=es9) mixed names specs (ents_cons m1 kk0)) 3000 60 (by kernel_rfl)
def es10:List Ent:=[⟨160,a0,r0⟩,⟨129,a8,r8⟩,⟨119,a9,r9⟩]
theorem m10:Valid P 66 a10 r10:=ran (mkE_ok (S:=sp) (inl:=inl) (own:=own) (es:=es10) mixed names specs (ents_cons m0 (ents_cons m8 (ents_cons m9 kk0)))) 3000 60 (by kernel_rfl)
def es11:List Ent:=[⟨160,a0,r0⟩,⟨37,a1,r1⟩]
theorem m11:Valid P 11 a11 r11:=ran (mkE_ok (S:=sp) (inl:=inl) (own:=own) (es:=es11) mixed names specs (ents_cons m0 (ents_cons m1 kk0))) 3000 60 (by kernel_rfl)
end
end Go.Abs.RL
