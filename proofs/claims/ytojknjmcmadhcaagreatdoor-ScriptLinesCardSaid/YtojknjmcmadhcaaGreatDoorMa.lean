/- The run. -/
import Derived.Test.YtojknjmcmadhcaaGreatDoorBs
import Derived.Test.YtojknjmcmadhcaaGreatDoorBd
import Derived.KernelRfl

section
namespace Go.Abs.R50
open Go.Proofs
noncomputable section
theorem kk0 : ∀ e ∈ ([] : List Ent), Valid P e.f e.args e.out := fun e h => by cases h
-- 173 operations
def es0 : List Ent := []
theorem m0 : Valid P 32 a0 r0 := ran (mkE_ok (S := sp) (inl := inl) (own := own) (es := es0) mixed names specs kk0) 3000 60 (by kernel_rfl)
-- 191 operations
def es1 : List Ent := []
theorem m1 : Valid P 32 a1 r1 := ran (mkE_ok (S := sp) (inl := inl) (own := own) (es := es1) mixed names specs kk0) 3000 60 (by kernel_rfl)
-- 491 operations
def es2 : List Ent := [⟨32, a1, r1⟩]
theorem m2 : Valid P 16 a2 r2 := ran (mkE_ok (S := sp) (inl := inl) (own := own) (es := es2) mixed names specs (ents_cons m1 kk0)) 3000 60 (by kernel_rfl)
-- 1082 operations
def es3 : List Ent := [⟨32, a1, r1⟩]
theorem m3 : Valid P 16 a3 r3 := ran (mkE_ok (S := sp) (inl := inl) (own := own) (es := es3) mixed names specs (ents_cons m1 kk0)) 3000 60 (by kernel_rfl)
-- 191 operations
def es4 : List Ent := []
theorem m4 : Valid P 32 a4 r4 := ran (mkE_ok (S := sp) (inl := inl) (own := own) (es := es4) mixed names specs kk0) 3000 60 (by kernel_rfl)
-- 191 operations
def es5 : List Ent := []
theorem m5 : Valid P 32 a5 r5 := ran (mkE_ok (S := sp) (inl := inl) (own := own) (es := es5) mixed names specs kk0) 3000 60 (by kernel_rfl)
-- 476 operations
def es6 : List Ent := []
theorem m6 : Valid P 16 a6 r6 := ran (mkE_ok (S := sp) (inl := inl) (own := own) (es := es6) mixed names specs kk0) 3000 60 (by kernel_rfl)
-- 1671 operations
def es7 : List Ent := [⟨32, a0, r0⟩, ⟨16, a2, r2⟩, ⟨16, a3, r3⟩, ⟨32, a4, r4⟩, ⟨32, a5, r5⟩, ⟨16, a6, r6⟩]
theorem m7 : Valid P 6 a7 r7 := ran (mkE_ok (S := sp) (inl := inl) (own := own) (es := es7) mixed names specs (ents_cons m0 (ents_cons m2 (ents_cons m3 (ents_cons m4 (ents_cons m5 (ents_cons m6 kk0))))))) 3000 60 (by kernel_rfl)
-- 73 operations
def es8 : List Ent := []
theorem m8 : Valid P 94 a8 r8 := ran (mkE_ok (S := sp) (inl := inl) (own := own) (es := es8) mixed names specs kk0) 3000 60 (by kernel_rfl)
-- 73 operations
def es9 : List Ent := []
theorem m9 : Valid P 94 a9 r9 := ran (mkE_ok (S := sp) (inl := inl) (own := own) (es := es9) mixed names specs kk0) 3000 60 (by kernel_rfl)
-- 18 operations
def es10 : List Ent := []
theorem m10 : Valid P 138 a10 r10 := ran (mkE_ok (S := sp) (inl := inl) (own := own) (es := es10) mixed names specs kk0) 3000 60 (by kernel_rfl)
-- 285 operations
def es11 : List Ent := [⟨94, a8, r8⟩, ⟨94, a9, r9⟩, ⟨138, a10, r10⟩]
theorem m11 : Valid P 55 a11 r11 := ran (mkE_ok (S := sp) (inl := inl) (own := own) (es := es11) mixed names specs (ents_cons m8 (ents_cons m9 (ents_cons m10 kk0)))) 3000 60 (by kernel_rfl)
-- 149 operations
def es12 : List Ent := [⟨94, a8, r8⟩]
theorem m12 : Valid P 57 a12 r12 := ran (mkE_ok (S := sp) (inl := inl) (own := own) (es := es12) mixed names specs (ents_cons m8 kk0)) 3000 60 (by kernel_rfl)
-- 155 operations
def es13 : List Ent := [⟨94, a8, r8⟩]
theorem m13 : Valid P 95 a13 r13 := ran (mkE_ok (S := sp) (inl := inl) (own := own) (es := es13) mixed names specs (ents_cons m8 kk0)) 3000 60 (by kernel_rfl)
-- 108 operations
def es14 : List Ent := []
theorem m14 : Valid P 147 a14 r14 := ran (mkE_ok (S := sp) (inl := inl) (own := own) (es := es14) mixed names specs kk0) 3000 60 (by kernel_rfl)
-- 155 operations
def es15 : List Ent := [⟨94, a8, r8⟩]
theorem m15 : Valid P 178 a15 r15 := ran (mkE_ok (S := sp) (inl := inl) (own := own) (es := es15) mixed names specs (ents_cons m8 kk0)) 3000 60 (by kernel_rfl)
-- 79 operations
def es16 : List Ent := []
theorem m16 : Valid P 543 a16 r16 := ran (mkE_ok (S := sp) (inl := inl) (own := own) (es := es16) mixed names specs kk0) 3000 60 (by kernel_rfl)
-- 149 operations
def es17 : List Ent := [⟨94, a8, r8⟩]
theorem m17 : Valid P 57 a17 r17 := ran (mkE_ok (S := sp) (inl := inl) (own := own) (es := es17) mixed names specs (ents_cons m8 kk0)) 3000 60 (by kernel_rfl)
-- 746 operations
def es18 : List Ent := []
theorem m18 : Valid P 455 a18 r18 := ran (mkE_ok (S := sp) (inl := inl) (own := own) (es := es18) mixed names specs kk0) 3000 60 (by kernel_rfl)
-- 227 operations
def es19 : List Ent := []
theorem m19 : Valid P 453 a19 r19 := ran (mkE_ok (S := sp) (inl := inl) (own := own) (es := es19) mixed names specs kk0) 3000 60 (by kernel_rfl)
-- 1057 operations
def es20 : List Ent := [⟨455, a18, r18⟩]
theorem m20 : Valid P 454 a20 r20 := ran (mkE_ok (S := sp) (inl := inl) (own := own) (es := es20) mixed names specs (ents_cons m18 kk0)) 3000 60 (by kernel_rfl)
-- 617 operations
def es21 : List Ent := []
theorem m21 : Valid P 453 a21 r21 := ran (mkE_ok (S := sp) (inl := inl) (own := own) (es := es21) mixed names specs kk0) 3000 60 (by kernel_rfl)
-- 339 operations
def es22 : List Ent := [⟨57, a12, r12⟩, ⟨95, a13, r13⟩, ⟨178, a15, r15⟩, ⟨543, a16, r16⟩, ⟨455, a18, r18⟩, ⟨453, a19, r19⟩, ⟨454, a20, r20⟩, ⟨453, a21, r21⟩]
theorem m22 : Valid P 503 a22 r22 := ran (mkE_ok (S := sp) (inl := inl) (own := own) (es := es22) mixed names specs (ents_cons m12 (ents_cons m13 (ents_cons m15 (ents_cons m16 (ents_cons m18 (ents_cons m19 (ents_cons m20 (ents_cons m21 kk0))))))))) 3000 60 (by kernel_rfl)
-- 16 operations
def es23 : List Ent := []
theorem m23 : Valid P 457 a23 r23 := ran (mkE_ok (S := sp) (inl := inl) (own := own) (es := es23) mixed names specs kk0) 3000 60 (by kernel_rfl)
-- 45 operations
def es24 : List Ent := [⟨57, a12, r12⟩, ⟨57, a17, r17⟩]
theorem m24 : Valid P 311 a24 r24 := ran (mkE_ok (S := sp) (inl := inl) (own := own) (es := es24) mixed names specs (ents_cons m12 (ents_cons m17 kk0))) 3000 60 (by kernel_rfl)
-- 64 operations
def es25 : List Ent := []
theorem m25 : Valid P 507 a25 r25 := ran (mkE_ok (S := sp) (inl := inl) (own := own) (es := es25) mixed names specs kk0) 3000 60 (by kernel_rfl)
-- 485 operations
def es26 : List Ent := [⟨503, a22, r22⟩, ⟨457, a23, r23⟩, ⟨311, a24, r24⟩, ⟨507, a25, r25⟩]
theorem m26 : Valid P 284 a26 r26 := ran (mkE_ok (S := sp) (inl := inl) (own := own) (es := es26) mixed names specs (ents_cons m22 (ents_cons m23 (ents_cons m24 (ents_cons m25 kk0))))) 3000 60 (by kernel_rfl)
-- 18 operations
def es27 : List Ent := []
theorem m27 : Valid P 138 a27 r27 := ran (mkE_ok (S := sp) (inl := inl) (own := own) (es := es27) mixed names specs kk0) 3000 60 (by kernel_rfl)
-- 64 operations
def es28 : List Ent := []
theorem m28 : Valid P 507 a28 r28 := ran (mkE_ok (S := sp) (inl := inl) (own := own) (es := es28) mixed names specs kk0) 3000 60 (by kernel_rfl)
-- 96 operations
def es29 : List Ent := []
theorem m29 : Valid P 507 a29 r29 := ran (mkE_ok (S := sp) (inl := inl) (own := own) (es := es29) mixed names specs kk0) 3000 60 (by kernel_rfl)
-- 150 operations
def es30 : List Ent := []
theorem m30 : Valid P 507 a30 r30 := ran (mkE_ok (S := sp) (inl := inl) (own := own) (es := es30) mixed names specs kk0) 3000 60 (by kernel_rfl)
-- 170 operations
def es31 : List Ent := []
theorem m31 : Valid P 507 a31 r31 := ran (mkE_ok (S := sp) (inl := inl) (own := own) (es := es31) mixed names specs kk0) 3000 60 (by kernel_rfl)
-- 160 operations
def es32 : List Ent := []
theorem m32 : Valid P 507 a32 r32 := ran (mkE_ok (S := sp) (inl := inl) (own := own) (es := es32) mixed names specs kk0) 3000 60 (by kernel_rfl)
-- 361 operations
def es33 : List Ent := []
theorem m33 : Valid P 441 a33 r33 := ran (mkE_ok (S := sp) (inl := inl) (own := own) (es := es33) mixed names specs kk0) 3000 60 (by kernel_rfl)
-- 746 operations
def es34 : List Ent := []
theorem m34 : Valid P 455 a34 r34 := ran (mkE_ok (S := sp) (inl := inl) (own := own) (es := es34) mixed names specs kk0) 3000 60 (by kernel_rfl)
-- 227 operations
def es35 : List Ent := []
theorem m35 : Valid P 453 a35 r35 := ran (mkE_ok (S := sp) (inl := inl) (own := own) (es := es35) mixed names specs kk0) 3000 60 (by kernel_rfl)
-- 41 operations
def es36 : List Ent := []
theorem m36 : Valid P 298 a36 r36 := ran (mkE_ok (S := sp) (inl := inl) (own := own) (es := es36) mixed names specs kk0) 3000 60 (by kernel_rfl)
-- 1301 operations
def es37 : List Ent := [⟨455, a34, r34⟩]
theorem m37 : Valid P 454 a37 r37 := ran (mkE_ok (S := sp) (inl := inl) (own := own) (es := es37) mixed names specs (ents_cons m34 kk0)) 3000 60 (by kernel_rfl)
end
end Go.Abs.R50
end
