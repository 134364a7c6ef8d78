/- The run. -/
import Derived.Test.YthbenojbjjgnaaaGreatUBv
import Derived.KernelRfl
set_option linter.unusedVariables false
set_option linter.unusedSimpArgs false
set_option linter.unusedSectionVars false
namespace Go.Abs.RL
open Go.Proofs
noncomputable section
def es44 : List Ent := [⟨32,a0,r0⟩,⟨360,a3,r3⟩,⟨143,a4,r4⟩,⟨236,a5,r5⟩,⟨236,a6,r6⟩,⟨360,a7,r7⟩,⟨143,a10,r10⟩,⟨236,a12,r12⟩,⟨144,a13,r13⟩,⟨89,a14,r14⟩,⟨360,a16,r16⟩,⟨143,a19,r19⟩,⟨34,a20,r20⟩,⟨236,a21,r21⟩,⟨144,a22,r22⟩,⟨89,a23,r23⟩,⟨119,a36,r36⟩,⟨121,a37,r37⟩,⟨121,a43,r43⟩]
theorem m44 : Valid P 61 a44 r44 := ran (mkE_ok (S := sp) (inl := inl) (own := own) (es := es44) mixed names specs (ents_cons m0 (ents_cons m3 (ents_cons m4 (ents_cons m5 (ents_cons m6 (ents_cons m7 (ents_cons m10 (ents_cons m12 (ents_cons m13 (ents_cons m14 (ents_cons m16 (ents_cons m19 (ents_cons m20 (ents_cons m21 (ents_cons m22 (ents_cons m23 (ents_cons m36 (ents_cons m37 (ents_cons m43 kk0)))))))))))))))))))) 3000 60 (by kernel_rfl)
def es45 : List Ent := []
theorem m45 : Valid P 92 a45 r45 := ran (mkE_ok (S := sp) (inl := inl) (own := own) (es := es45) mixed names specs kk0) 3000 60 (by kernel_rfl)
def es46 : List Ent := []
theorem m46 : Valid P 447 a46 r46 := ran (mkE_ok (S := sp) (inl := inl) (own := own) (es := es46) mixed names specs kk0) 3000 60 (by kernel_rfl)
def es47 : List Ent := []
theorem m47 : Valid P 206 a47 r47 := ran (mkE_ok (S := sp) (inl := inl) (own := own) (es := es47) mixed names specs kk0) 3000 60 (by kernel_rfl)
def es48 : List Ent := []
theorem m48 : Valid P 123 a48 r48 := ran (mkE_ok (S := sp) (inl := inl) (own := own) (es := es48) mixed names specs kk0) 3000 60 (by kernel_rfl)
def es49 : List Ent := [⟨92,a45,r45⟩,⟨447,a46,r46⟩,⟨206,a47,r47⟩,⟨123,a48,r48⟩]
theorem m49 : Valid P 209 a49 r49 := ran (mkE_ok (S := sp) (inl := inl) (own := own) (es := es49) mixed names specs (ents_cons m45 (ents_cons m46 (ents_cons m47 (ents_cons m48 kk0))))) 3000 60 (by kernel_rfl)
def es50 : List Ent := [⟨92,a45,r45⟩,⟨447,a46,r46⟩,⟨123,a48,r48⟩]
theorem m50 : Valid P 209 a50 r50 := ran (mkE_ok (S := sp) (inl := inl) (own := own) (es := es50) mixed names specs (ents_cons m45 (ents_cons m46 (ents_cons m48 kk0)))) 3000 60 (by kernel_rfl)
def es51 : List Ent := [⟨92,a45,r45⟩,⟨447,a46,r46⟩,⟨123,a48,r48⟩]
theorem m51 : Valid P 209 a51 r51 := ran (mkE_ok (S := sp) (inl := inl) (own := own) (es := es51) mixed names specs (ents_cons m45 (ents_cons m46 (ents_cons m48 kk0)))) 3000 60 (by kernel_rfl)
def es52 : List Ent := [⟨92,a45,r45⟩,⟨447,a46,r46⟩,⟨123,a48,r48⟩]
theorem m52 : Valid P 209 a52 r52 := ran (mkE_ok (S := sp) (inl := inl) (own := own) (es := es52) mixed names specs (ents_cons m45 (ents_cons m46 (ents_cons m48 kk0)))) 3000 60 (by kernel_rfl)
def es53 : List Ent := [⟨92,a45,r45⟩,⟨447,a46,r46⟩,⟨206,a47,r47⟩,⟨123,a48,r48⟩]
theorem m53 : Valid P 209 a53 r53 := ran (mkE_ok (S := sp) (inl := inl) (own := own) (es := es53) mixed names specs (ents_cons m45 (ents_cons m46 (ents_cons m47 (ents_cons m48 kk0))))) 3000 60 (by kernel_rfl)
end
end Go.Abs.RL
