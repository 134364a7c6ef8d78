/- The run. -/
import Derived.Test.YthbenojbjjgnaaaGreatUBt
import Derived.KernelRfl
set_option linter.unusedVariables false
set_option linter.unusedSimpArgs false
set_option linter.unusedSectionVars false
namespace Go.Abs.RL
open Go.Proofs
noncomputable section
def es20 : List Ent := []
theorem m20 : Valid P 34 a20 r20 := ran (mkE_ok (S := sp) (inl := inl) (own := own) (es := es20) mixed names specs kk0) 3000 60 (by kernel_rfl)
def es21 : List Ent := []
theorem m21 : Valid P 236 a21 r21 := ran (mkE_ok (S := sp) (inl := inl) (own := own) (es := es21) mixed names specs kk0) 3000 60 (by kernel_rfl)
def es22 : List Ent := [⟨236,a5,r5⟩,⟨236,a6,r6⟩,⟨367,a11,r11⟩,⟨236,a12,r12⟩,⟨236,a21,r21⟩]
theorem m22 : Valid P 144 a22 r22 := ran (mkE_ok (S := sp) (inl := inl) (own := own) (es := es22) mixed names specs (ents_cons m5 (ents_cons m6 (ents_cons m11 (ents_cons m12 (ents_cons m21 kk0)))))) 3000 60 (by kernel_rfl)
def es23 : List Ent := []
theorem m23 : Valid P 89 a23 r23 := ran (mkE_ok (S := sp) (inl := inl) (own := own) (es := es23) mixed names specs kk0) 3000 60 (by kernel_rfl)
def es24 : List Ent := []
theorem m24 : Valid P 360 a24 r24 := ran (mkE_ok (S := sp) (inl := inl) (own := own) (es := es24) mixed names specs kk0) 3000 60 (by kernel_rfl)
def es25 : List Ent := [⟨360,a24,r24⟩]
theorem m25 : Valid P 253 a25 r25 := ran (mkE_ok (S := sp) (inl := inl) (own := own) (es := es25) mixed names specs (ents_cons m24 kk0)) 3000 60 (by kernel_rfl)
def es26 : List Ent := []
theorem m26 : Valid P 252 a26 r26 := ran (mkE_ok (S := sp) (inl := inl) (own := own) (es := es26) mixed names specs kk0) 3000 60 (by kernel_rfl)
def es27 : List Ent := [⟨32,a0,r0⟩,⟨347,a1,r1⟩,⟨28,a2,r2⟩,⟨143,a4,r4⟩,⟨143,a10,r10⟩,⟨143,a19,r19⟩,⟨34,a20,r20⟩,⟨144,a22,r22⟩,⟨89,a23,r23⟩,⟨360,a24,r24⟩,⟨253,a25,r25⟩,⟨252,a26,r26⟩]
theorem m27 : Valid P 178 a27 r27 := ran (mkE_ok (S := sp) (inl := inl) (own := own) (es := es27) mixed names specs (ents_cons m0 (ents_cons m1 (ents_cons m2 (ents_cons m4 (ents_cons m10 (ents_cons m19 (ents_cons m20 (ents_cons m22 (ents_cons m23 (ents_cons m24 (ents_cons m25 (ents_cons m26 kk0))))))))))))) 3000 60 (by kernel_rfl)
def es28 : List Ent := []
theorem m28 : Valid P 56 a28 r28 := ran (mkE_ok (S := sp) (inl := inl) (own := own) (es := es28) mixed names specs kk0) 3000 60 (by kernel_rfl)
def es29 : List Ent := [⟨56,a28,r28⟩]
theorem m29 : Valid P 34 a29 r29 := ran (mkE_ok (S := sp) (inl := inl) (own := own) (es := es29) mixed names specs (ents_cons m28 kk0)) 3000 60 (by kernel_rfl)
def es30 : List Ent := [⟨236,a5,r5⟩,⟨236,a6,r6⟩,⟨367,a11,r11⟩,⟨236,a12,r12⟩,⟨236,a21,r21⟩,⟨56,a28,r28⟩]
theorem m30 : Valid P 144 a30 r30 := ran (mkE_ok (S := sp) (inl := inl) (own := own) (es := es30) mixed names specs (ents_cons m5 (ents_cons m6 (ents_cons m11 (ents_cons m12 (ents_cons m21 (ents_cons m28 kk0))))))) 3000 60 (by kernel_rfl)
def es31 : List Ent := [⟨56,a28,r28⟩]
theorem m31 : Valid P 89 a31 r31 := ran (mkE_ok (S := sp) (inl := inl) (own := own) (es := es31) mixed names specs (ents_cons m28 kk0)) 3000 60 (by kernel_rfl)
def es32 : List Ent := [⟨32,a0,r0⟩,⟨347,a1,r1⟩,⟨28,a2,r2⟩,⟨143,a4,r4⟩,⟨143,a10,r10⟩,⟨143,a19,r19⟩,⟨360,a24,r24⟩,⟨253,a25,r25⟩,⟨252,a26,r26⟩,⟨34,a29,r29⟩,⟨144,a30,r30⟩,⟨89,a31,r31⟩]
theorem m32 : Valid P 238 a32 r32 := ran (mkE_ok (S := sp) (inl := inl) (own := own) (es := es32) mixed names specs (ents_cons m0 (ents_cons m1 (ents_cons m2 (ents_cons m4 (ents_cons m10 (ents_cons m19 (ents_cons m24 (ents_cons m25 (ents_cons m26 (ents_cons m29 (ents_cons m30 (ents_cons m31 kk0))))))))))))) 3000 60 (by kernel_rfl)
end
end Go.Abs.RL
