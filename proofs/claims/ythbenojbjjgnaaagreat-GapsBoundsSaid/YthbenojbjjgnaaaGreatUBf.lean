/- Of GapsBounds: lemmas. -/
import Derived.Test.YthbenojbjjgnaaaGreatUBe
import Derived.KernelRfl
set_option linter.all false
namespace Go.Abs.RL
open Go.Proofs
noncomputable section
def es6:List Ent:=[]
theorem m6:Valid P 123 a6 r6:=ran (mkE_ok (S:=sp) (inl:=inl) (own:=own) (es:=es6) mixed names specs kk0) 3000 60 (by kernel_rfl)
def es7:List Ent:=[⟨206,a0,r0⟩,⟨207,a1,r1⟩,⟨123,a6,r6⟩]
theorem m7:Valid P 209 a7 r7:=ran (mkE_ok (S:=sp) (inl:=inl) (own:=own) (es:=es7) mixed names specs (ents_cons m0 (ents_cons m1 (ents_cons m6 kk0)))) 3000 60 (by kernel_rfl)
def es8:List Ent:=[⟨123,a6,r6⟩]
theorem m8:Valid P 215 a8 r8:=ran (mkE_ok (S:=sp) (inl:=inl) (own:=own) (es:=es8) mixed names specs (ents_cons m6 kk0)) 3000 60 (by kernel_rfl)
def es9:List Ent:=[⟨209,a7,r7⟩,⟨215,a8,r8⟩]
theorem m9:Valid P 288 a9 r9:=ran (mkE_ok (S:=sp) (inl:=inl) (own:=own) (es:=es9) mixed names specs (ents_cons m7 (ents_cons m8 kk0))) 3000 60 (by kernel_rfl)
def es10:List Ent:=[⟨206,a2,r2⟩,⟨207,a3,r3⟩,⟨123,a6,r6⟩]
theorem m10:Valid P 209 a10 r10:=ran (mkE_ok (S:=sp) (inl:=inl) (own:=own) (es:=es10) mixed names specs (ents_cons m2 (ents_cons m3 (ents_cons m6 kk0)))) 3000 60 (by kernel_rfl)
def es11:List Ent:=[]
theorem m11:Valid P 493 a11 r11:=ran (mkE_ok (S:=sp) (inl:=inl) (own:=own) (es:=es11) mixed names specs kk0) 3000 60 (by kernel_rfl)
def es12:List Ent:=[⟨209,a7,r7⟩,⟨215,a8,r8⟩,⟨209,a10,r10⟩,⟨493,a11,r11⟩]
theorem m12:Valid P 288 a12 r12:=ran (mkE_ok (S:=sp) (inl:=inl) (own:=own) (es:=es12) mixed names specs (ents_cons m7 (ents_cons m8 (ents_cons m10 (ents_cons m11 kk0))))) 3000 60 (by kernel_rfl)
def es13:List Ent:=[]
theorem m13:Valid P 208 a13 r13:=ran (mkE_ok (S:=sp) (inl:=inl) (own:=own) (es:=es13) mixed names specs kk0) 3000 60 (by kernel_rfl)
end
end Go.Abs.RL
