/- Of ServerHides: lemmas. -/
import Derived.Test.YtlhdbnmgiaoeeaaGreatUBj
import Derived.KernelRfl
set_option linter.all false
namespace Go.Abs.RL
open Go.Proofs
noncomputable section
def es23:List Ent:=[⟨160,a0,r0⟩,⟨37,a1,r1⟩,⟨129,a13,r13⟩,⟨11,a15,r15⟩,⟨129,a17,r17⟩]
theorem m23:Valid P 27 a23 r23:=ran (mkE_ok (S:=sp) (inl:=inl) (own:=own) (es:=es23) mixed names specs (ents_cons m0 (ents_cons m1 (ents_cons m13 (ents_cons m15 (ents_cons m17 kk0)))))) 3000 60 (by kernel_rfl)
def es24:List Ent:=[⟨160,a0,r0⟩,⟨37,a1,r1⟩,⟨141,a2,r2⟩]
theorem m24:Valid P 11 a24 r24:=ran (mkE_ok (S:=sp) (inl:=inl) (own:=own) (es:=es24) mixed names specs (ents_cons m0 (ents_cons m1 (ents_cons m2 kk0)))) 3000 60 (by kernel_rfl)
def es25:List Ent:=[]
theorem m25:Valid P 143 a25 r25:=ran (mkE_ok (S:=sp) (inl:=inl) (own:=own) (es:=es25) mixed names specs kk0) 3000 60 (by kernel_rfl)
def es26:List Ent:=[]
theorem m26:Valid P 374 a26 r26:=ran (mkE_ok (S:=sp) (inl:=inl) (own:=own) (es:=es26) mixed names specs kk0) 3000 60 (by kernel_rfl)
def es27:List Ent:=[]
theorem m27:Valid P 373 a27 r27:=ran (mkE_ok (S:=sp) (inl:=inl) (own:=own) (es:=es27) mixed names specs kk0) 3000 60 (by kernel_rfl)
def es28:List Ent:=[]
theorem m28:Valid P 374 a28 r28:=ran (mkE_ok (S:=sp) (inl:=inl) (own:=own) (es:=es28) mixed names specs kk0) 3000 60 (by kernel_rfl)
def es29:List Ent:=[]
theorem m29:Valid P 373 a29 r29:=ran (mkE_ok (S:=sp) (inl:=inl) (own:=own) (es:=es29) mixed names specs kk0) 3000 60 (by kernel_rfl)
end
end Go.Abs.RL
