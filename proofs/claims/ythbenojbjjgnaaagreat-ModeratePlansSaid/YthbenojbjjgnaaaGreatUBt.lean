/- The run. -/
import Derived.Test.YthbenojbjjgnaaaGreatUAo
import Derived.KernelRfl
set_option linter.unusedVariables false
set_option linter.unusedSimpArgs false
set_option linter.unusedSectionVars false
namespace Go.Abs.RL
open Go.Proofs
noncomputable section
theorem kk0 : ∀ e ∈ ([] : List Ent),Valid P e.f e.args e.out := fun e h => by cases h
def es0 : List Ent := []
theorem m0 : Valid P 32 a0 r0 := ran (mkE_ok (S := sp) (inl := inl) (own := own) (es := es0) mixed names specs kk0) 3000 60 (by kernel_rfl)
def es1 : List Ent := []
theorem m1 : Valid P 347 a1 r1 := ran (mkE_ok (S := sp) (inl := inl) (own := own) (es := es1) mixed names specs kk0) 3000 60 (by kernel_rfl)
def es2 : List Ent := []
theorem m2 : Valid P 28 a2 r2 := ran (mkE_ok (S := sp) (inl := inl) (own := own) (es := es2) mixed names specs kk0) 3000 60 (by kernel_rfl)
def es3 : List Ent := []
theorem m3 : Valid P 360 a3 r3 := ran (mkE_ok (S := sp) (inl := inl) (own := own) (es := es3) mixed names specs kk0) 3000 60 (by kernel_rfl)
def es4 : List Ent := [⟨32,a0,r0⟩,⟨347,a1,r1⟩,⟨28,a2,r2⟩,⟨360,a3,r3⟩]
theorem m4 : Valid P 143 a4 r4 := ran (mkE_ok (S := sp) (inl := inl) (own := own) (es := es4) mixed names specs (ents_cons m0 (ents_cons m1 (ents_cons m2 (ents_cons m3 kk0))))) 3000 60 (by kernel_rfl)
def es5 : List Ent := [⟨28,a2,r2⟩]
theorem m5 : Valid P 236 a5 r5 := ran (mkE_ok (S := sp) (inl := inl) (own := own) (es := es5) mixed names specs (ents_cons m2 kk0)) 3000 60 (by kernel_rfl)
def es6 : List Ent := [⟨28,a2,r2⟩]
theorem m6 : Valid P 236 a6 r6 := ran (mkE_ok (S := sp) (inl := inl) (own := own) (es := es6) mixed names specs (ents_cons m2 kk0)) 3000 60 (by kernel_rfl)
def es7 : List Ent := []
theorem m7 : Valid P 360 a7 r7 := ran (mkE_ok (S := sp) (inl := inl) (own := own) (es := es7) mixed names specs kk0) 3000 60 (by kernel_rfl)
def es8 : List Ent := []
theorem m8 : Valid P 252 a8 r8 := ran (mkE_ok (S := sp) (inl := inl) (own := own) (es := es8) mixed names specs kk0) 3000 60 (by kernel_rfl)
def es9 : List Ent := [⟨32,a0,r0⟩,⟨347,a1,r1⟩,⟨28,a2,r2⟩,⟨143,a4,r4⟩,⟨236,a5,r5⟩,⟨236,a6,r6⟩,⟨360,a7,r7⟩,⟨252,a8,r8⟩]
theorem m9 : Valid P 178 a9 r9 := ran (mkE_ok (S := sp) (inl := inl) (own := own) (es := es9) mixed names specs (ents_cons m0 (ents_cons m1 (ents_cons m2 (ents_cons m4 (ents_cons m5 (ents_cons m6 (ents_cons m7 (ents_cons m8 kk0))))))))) 3000 60 (by kernel_rfl)
def es10 : List Ent := [⟨32,a0,r0⟩,⟨347,a1,r1⟩,⟨28,a2,r2⟩,⟨360,a7,r7⟩,⟨252,a8,r8⟩]
theorem m10 : Valid P 143 a10 r10 := ran (mkE_ok (S := sp) (inl := inl) (own := own) (es := es10) mixed names specs (ents_cons m0 (ents_cons m1 (ents_cons m2 (ents_cons m7 (ents_cons m8 kk0)))))) 3000 60 (by kernel_rfl)
def es11 : List Ent := []
theorem m11 : Valid P 367 a11 r11 := ran (mkE_ok (S := sp) (inl := inl) (own := own) (es := es11) mixed names specs kk0) 3000 60 (by kernel_rfl)
def es12 : List Ent := []
theorem m12 : Valid P 236 a12 r12 := ran (mkE_ok (S := sp) (inl := inl) (own := own) (es := es12) mixed names specs kk0) 3000 60 (by kernel_rfl)
def es13 : List Ent := [⟨236,a5,r5⟩,⟨236,a6,r6⟩,⟨367,a11,r11⟩,⟨236,a12,r12⟩]
theorem m13 : Valid P 144 a13 r13 := ran (mkE_ok (S := sp) (inl := inl) (own := own) (es := es13) mixed names specs (ents_cons m5 (ents_cons m6 (ents_cons m11 (ents_cons m12 kk0))))) 3000 60 (by kernel_rfl)
def es14 : List Ent := []
theorem m14 : Valid P 89 a14 r14 := ran (mkE_ok (S := sp) (inl := inl) (own := own) (es := es14) mixed names specs kk0) 3000 60 (by kernel_rfl)
def es15 : List Ent := [⟨32,a0,r0⟩,⟨347,a1,r1⟩,⟨143,a4,r4⟩,⟨143,a10,r10⟩,⟨144,a13,r13⟩,⟨89,a14,r14⟩]
theorem m15 : Valid P 238 a15 r15 := ran (mkE_ok (S := sp) (inl := inl) (own := own) (es := es15) mixed names specs (ents_cons m0 (ents_cons m1 (ents_cons m4 (ents_cons m10 (ents_cons m13 (ents_cons m14 kk0))))))) 3000 60 (by kernel_rfl)
def es16 : List Ent := []
theorem m16 : Valid P 360 a16 r16 := ran (mkE_ok (S := sp) (inl := inl) (own := own) (es := es16) mixed names specs kk0) 3000 60 (by kernel_rfl)
def es17 : List Ent := []
theorem m17 : Valid P 252 a17 r17 := ran (mkE_ok (S := sp) (inl := inl) (own := own) (es := es17) mixed names specs kk0) 3000 60 (by kernel_rfl)
def es18 : List Ent := [⟨28,a2,r2⟩,⟨143,a4,r4⟩,⟨143,a10,r10⟩,⟨144,a13,r13⟩,⟨89,a14,r14⟩,⟨238,a15,r15⟩,⟨360,a16,r16⟩,⟨252,a17,r17⟩]
theorem m18 : Valid P 178 a18 r18 := ran (mkE_ok (S := sp) (inl := inl) (own := own) (es := es18) mixed names specs (ents_cons m2 (ents_cons m4 (ents_cons m10 (ents_cons m13 (ents_cons m14 (ents_cons m15 (ents_cons m16 (ents_cons m17 kk0))))))))) 3000 60 (by kernel_rfl)
def es19 : List Ent := [⟨32,a0,r0⟩,⟨347,a1,r1⟩,⟨28,a2,r2⟩,⟨360,a16,r16⟩,⟨252,a17,r17⟩]
theorem m19 : Valid P 143 a19 r19 := ran (mkE_ok (S := sp) (inl := inl) (own := own) (es := es19) mixed names specs (ents_cons m0 (ents_cons m1 (ents_cons m2 (ents_cons m16 (ents_cons m17 kk0)))))) 3000 60 (by kernel_rfl)
end
end Go.Abs.RL
