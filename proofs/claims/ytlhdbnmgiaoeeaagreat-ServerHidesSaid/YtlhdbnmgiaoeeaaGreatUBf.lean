/- Of ServerHides: lemmas. -/
import Derived.Test.YtlhdbnmgiaoeeaaGreatUAl
import Derived.KernelRfl
set_option linter.all false
namespace Go.Abs.RL
open Go.Proofs
noncomputable section
theorem kk0:∀e∈([]:List Ent),Valid P e.f e.args e.out:=λe h=>by cases h
def es0:List Ent:=[]
theorem m0:Valid P 160 a0 r0:=ran (mkE_ok (S:=sp) (inl:=inl) (own:=own) (es:=es0) mixed names specs kk0) 3000 60 (by kernel_rfl)
def es1:List Ent:=[]
theorem m1:Valid P 37 a1 r1:=ran (mkE_ok (S:=sp) (inl:=inl) (own:=own) (es:=es1) mixed names specs kk0) 3000 60 (by kernel_rfl)
def es2:List Ent:=[]
theorem m2:Valid P 141 a2 r2:=ran (mkE_ok (S:=sp) (inl:=inl) (own:=own) (es:=es2) mixed names specs kk0) 3000 60 (by kernel_rfl)
def es3:List Ent:=[⟨160,a0,r0⟩,⟨37,a1,r1⟩,⟨141,a2,r2⟩]
theorem m3:Valid P 11 a3 r3:=ran (mkE_ok (S:=sp) (inl:=inl) (own:=own) (es:=es3) mixed names specs (ents_cons m0 (ents_cons m1 (ents_cons m2 kk0)))) 3000 60 (by kernel_rfl)
def es4:List Ent:=[⟨37,a1,r1⟩]
theorem m4:Valid P 118 a4 r4:=ran (mkE_ok (S:=sp) (inl:=inl) (own:=own) (es:=es4) mixed names specs (ents_cons m1 kk0)) 3000 60 (by kernel_rfl)
def es5:List Ent:=[⟨160,a0,r0⟩,⟨37,a1,r1⟩,⟨11,a3,r3⟩,⟨118,a4,r4⟩]
theorem m5:Valid P 66 a5 r5:=ran (mkE_ok (S:=sp) (inl:=inl) (own:=own) (es:=es5) mixed names specs (ents_cons m0 (ents_cons m1 (ents_cons m3 (ents_cons m4 kk0))))) 3000 60 (by kernel_rfl)
def es6:List Ent:=[⟨160,a0,r0⟩,⟨37,a1,r1⟩]
theorem m6:Valid P 11 a6 r6:=ran (mkE_ok (S:=sp) (inl:=inl) (own:=own) (es:=es6) mixed names specs (ents_cons m0 (ents_cons m1 kk0))) 3000 60 (by kernel_rfl)
end
end Go.Abs.RL
