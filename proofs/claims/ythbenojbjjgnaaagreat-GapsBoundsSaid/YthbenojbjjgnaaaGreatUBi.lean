/- Of GapsBounds: lemmas. -/
import Derived.Test.YthbenojbjjgnaaaGreatUBh
import Derived.KernelRfl
set_option linter.all false
namespace Go.Abs.RL
open Go.Proofs
noncomputable section
def es22:List Ent:=[⟨41,a5,r5⟩,⟨208,a13,r13⟩,⟨209,a14,r14⟩,⟨50,a15,r15⟩,⟨288,a16,r16⟩,⟨43,a18,r18⟩,⟨51,a19,r19⟩,⟨12,a20,r20⟩,⟨43,a21,r21⟩]
theorem m22:Valid P 10 a22 r22:=ran (mkE_ok (S:=sp) (inl:=inl) (own:=own) (es:=es22) mixed names specs (ents_cons m5 (ents_cons m13 (ents_cons m14 (ents_cons m15 (ents_cons m16 (ents_cons m18 (ents_cons m19 (ents_cons m20 (ents_cons m21 kk0)))))))))) 3000 60 (by kernel_rfl)
end
end Go.Abs.RL
