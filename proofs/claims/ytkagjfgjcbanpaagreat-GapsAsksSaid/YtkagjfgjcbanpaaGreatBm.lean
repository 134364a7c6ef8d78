/- The run. -/
import Derived.Test.YtkagjfgjcbanpaaGreatBs
import Derived.Test.YtkagjfgjcbanpaaGreatBd
import Derived.KernelRfl

section
namespace Go.Abs.R29
open Go.Proofs
noncomputable section
def es0 : List Ent := []
theorem k0 : ∀ e ∈ es0, Valid P e.f e.args e.out := fun e h => by cases h
-- 746 operations
theorem m0 : Valid P 173 a0 r0 := ran (mkE_ok (S := sp) (inl := inl) (own := own) mixed names specs k0) 3000 60 (by kernel_rfl)
def es1 : List Ent := ⟨173, a0, r0⟩ :: es0
theorem k1 : ∀ e ∈ es1, Valid P e.f e.args e.out := ents_cons m0 k0
-- 227 operations
theorem m1 : Valid P 172 a1 r1 := ran (mkE_ok (S := sp) (inl := inl) (own := own) mixed names specs k1) 3000 60 (by kernel_rfl)
def es2 : List Ent := ⟨172, a1, r1⟩ :: es1
theorem k2 : ∀ e ∈ es2, Valid P e.f e.args e.out := ents_cons m1 k1
-- 1057 operations
theorem m2 : Valid P 174 a2 r2 := ran (mkE_ok (S := sp) (inl := inl) (own := own) mixed names specs k2) 3000 60 (by kernel_rfl)
def es3 : List Ent := ⟨174, a2, r2⟩ :: es2
theorem k3 : ∀ e ∈ es3, Valid P e.f e.args e.out := ents_cons m2 k2
-- 643 operations
theorem m3 : Valid P 172 a3 r3 := ran (mkE_ok (S := sp) (inl := inl) (own := own) mixed names specs k3) 3000 60 (by kernel_rfl)
def es4 : List Ent := ⟨172, a3, r3⟩ :: es3
theorem k4 : ∀ e ∈ es4, Valid P e.f e.args e.out := ents_cons m3 k3
-- 746 operations
theorem m4 : Valid P 173 a4 r4 := ran (mkE_ok (S := sp) (inl := inl) (own := own) mixed names specs k4) 3000 60 (by kernel_rfl)
def es5 : List Ent := ⟨173, a4, r4⟩ :: es4
theorem k5 : ∀ e ∈ es5, Valid P e.f e.args e.out := ents_cons m4 k4
-- 227 operations
theorem m5 : Valid P 172 a5 r5 := ran (mkE_ok (S := sp) (inl := inl) (own := own) mixed names specs k5) 3000 60 (by kernel_rfl)
def es6 : List Ent := ⟨172, a5, r5⟩ :: es5
theorem k6 : ∀ e ∈ es6, Valid P e.f e.args e.out := ents_cons m5 k5
-- 1301 operations
theorem m6 : Valid P 174 a6 r6 := ran (mkE_ok (S := sp) (inl := inl) (own := own) mixed names specs k6) 3000 60 (by kernel_rfl)
def es7 : List Ent := ⟨174, a6, r6⟩ :: es6
theorem k7 : ∀ e ∈ es7, Valid P e.f e.args e.out := ents_cons m6 k6
-- 955 operations
theorem m7 : Valid P 172 a7 r7 := ran (mkE_ok (S := sp) (inl := inl) (own := own) mixed names specs k7) 3000 60 (by kernel_rfl)
def es8 : List Ent := ⟨172, a7, r7⟩ :: es7
theorem k8 : ∀ e ∈ es8, Valid P e.f e.args e.out := ents_cons m7 k7
-- 746 operations
theorem m8 : Valid P 173 a8 r8 := ran (mkE_ok (S := sp) (inl := inl) (own := own) mixed names specs k8) 3000 60 (by kernel_rfl)
def es9 : List Ent := ⟨173, a8, r8⟩ :: es8
theorem k9 : ∀ e ∈ es9, Valid P e.f e.args e.out := ents_cons m8 k8
-- 253 operations
theorem m9 : Valid P 172 a9 r9 := ran (mkE_ok (S := sp) (inl := inl) (own := own) mixed names specs k9) 3000 60 (by kernel_rfl)
def es10 : List Ent := ⟨172, a9, r9⟩ :: es9
theorem k10 : ∀ e ∈ es10, Valid P e.f e.args e.out := ents_cons m9 k9
-- 1423 operations
theorem m10 : Valid P 174 a10 r10 := ran (mkE_ok (S := sp) (inl := inl) (own := own) mixed names specs k10) 3000 60 (by kernel_rfl)
def es11 : List Ent := ⟨174, a10, r10⟩ :: es10
theorem k11 : ∀ e ∈ es11, Valid P e.f e.args e.out := ents_cons m10 k10
-- 994 operations
theorem m11 : Valid P 172 a11 r11 := ran (mkE_ok (S := sp) (inl := inl) (own := own) mixed names specs k11) 3000 60 (by kernel_rfl)
def es12 : List Ent := ⟨172, a11, r11⟩ :: es11
theorem k12 : ∀ e ∈ es12, Valid P e.f e.args e.out := ents_cons m11 k11
-- 73 operations
theorem m12 : Valid P 222 a12 r12 := ran (mkE_ok (S := sp) (inl := inl) (own := own) mixed names specs k12) 3000 60 (by kernel_rfl)
def es13 : List Ent := ⟨222, a12, r12⟩ :: es12
theorem k13 : ∀ e ∈ es13, Valid P e.f e.args e.out := ents_cons m12 k12
-- 155 operations
theorem m13 : Valid P 63 a13 r13 := ran (mkE_ok (S := sp) (inl := inl) (own := own) mixed names specs k13) 3000 60 (by kernel_rfl)
def es14 : List Ent := ⟨63, a13, r13⟩ :: es13
theorem k14 : ∀ e ∈ es14, Valid P e.f e.args e.out := ents_cons m13 k13
-- 199 operations
theorem m14 : Valid P 364 a14 r14 := ran (mkE_ok (S := sp) (inl := inl) (own := own) mixed names specs k14) 3000 60 (by kernel_rfl)
def es15 : List Ent := ⟨364, a14, r14⟩ :: es14
theorem k15 : ∀ e ∈ es15, Valid P e.f e.args e.out := ents_cons m14 k14
-- 193 operations
theorem m15 : Valid P 137 a15 r15 := ran (mkE_ok (S := sp) (inl := inl) (own := own) mixed names specs k15) 3000 60 (by kernel_rfl)
def es16 : List Ent := ⟨137, a15, r15⟩ :: es15
theorem k16 : ∀ e ∈ es16, Valid P e.f e.args e.out := ents_cons m15 k15
-- 497 operations
theorem m16 : Valid P 146 a16 r16 := ran (mkE_ok (S := sp) (inl := inl) (own := own) mixed names specs k16) 3000 60 (by kernel_rfl)
def es17 : List Ent := ⟨146, a16, r16⟩ :: es16
theorem k17 : ∀ e ∈ es17, Valid P e.f e.args e.out := ents_cons m16 k16
-- 139 operations
theorem m17 : Valid P 149 a17 r17 := ran (mkE_ok (S := sp) (inl := inl) (own := own) mixed names specs k17) 3000 60 (by kernel_rfl)
def es18 : List Ent := ⟨149, a17, r17⟩ :: es17
theorem k18 : ∀ e ∈ es18, Valid P e.f e.args e.out := ents_cons m17 k17
-- 194 operations
theorem m18 : Valid P 152 a18 r18 := ran (mkE_ok (S := sp) (inl := inl) (own := own) mixed names specs k18) 3000 60 (by kernel_rfl)
def es19 : List Ent := ⟨152, a18, r18⟩ :: es18
theorem k19 : ∀ e ∈ es19, Valid P e.f e.args e.out := ents_cons m18 k18
-- 442 operations
theorem m19 : Valid P 199 a19 r19 := ran (mkE_ok (S := sp) (inl := inl) (own := own) mixed names specs k19) 3000 60 (by kernel_rfl)
def es20 : List Ent := ⟨199, a19, r19⟩ :: es19
theorem k20 : ∀ e ∈ es20, Valid P e.f e.args e.out := ents_cons m19 k19
-- 210 operations
theorem m20 : Valid P 155 a20 r20 := ran (mkE_ok (S := sp) (inl := inl) (own := own) mixed names specs k20) 3000 60 (by kernel_rfl)
def es21 : List Ent := ⟨155, a20, r20⟩ :: es20
theorem k21 : ∀ e ∈ es21, Valid P e.f e.args e.out := ents_cons m20 k20
-- 241 operations
theorem m21 : Valid P 156 a21 r21 := ran (mkE_ok (S := sp) (inl := inl) (own := own) mixed names specs k21) 3000 60 (by kernel_rfl)
def es22 : List Ent := ⟨156, a21, r21⟩ :: es21
theorem k22 : ∀ e ∈ es22, Valid P e.f e.args e.out := ents_cons m21 k21
-- 644 operations
theorem m22 : Valid P 146 a22 r22 := ran (mkE_ok (S := sp) (inl := inl) (own := own) mixed names specs k22) 3000 60 (by kernel_rfl)
def es23 : List Ent := ⟨146, a22, r22⟩ :: es22
theorem k23 : ∀ e ∈ es23, Valid P e.f e.args e.out := ents_cons m22 k22
-- 316 operations
theorem m23 : Valid P 149 a23 r23 := ran (mkE_ok (S := sp) (inl := inl) (own := own) mixed names specs k23) 3000 60 (by kernel_rfl)
def es24 : List Ent := ⟨149, a23, r23⟩ :: es23
theorem k24 : ∀ e ∈ es24, Valid P e.f e.args e.out := ents_cons m23 k23
-- 60 operations
theorem m24 : Valid P 43 a24 r24 := ran (mkE_ok (S := sp) (inl := inl) (own := own) mixed names specs k24) 3000 60 (by kernel_rfl)
def es25 : List Ent := ⟨43, a24, r24⟩ :: es24
theorem k25 : ∀ e ∈ es25, Valid P e.f e.args e.out := ents_cons m24 k24
-- 754 operations
theorem m25 : Valid P 441 a25 r25 := ran (mkE_ok (S := sp) (inl := inl) (own := own) mixed names specs k25) 3000 60 (by kernel_rfl)
def es26 : List Ent := ⟨441, a25, r25⟩ :: es25
theorem k26 : ∀ e ∈ es26, Valid P e.f e.args e.out := ents_cons m25 k25
-- 135 operations
theorem m26 : Valid P 152 a26 r26 := ran (mkE_ok (S := sp) (inl := inl) (own := own) mixed names specs k26) 3000 60 (by kernel_rfl)
def es27 : List Ent := ⟨152, a26, r26⟩ :: es26
theorem k27 : ∀ e ∈ es27, Valid P e.f e.args e.out := ents_cons m26 k26
-- 1200 operations
theorem m27 : Valid P 199 a27 r27 := ran (mkE_ok (S := sp) (inl := inl) (own := own) mixed names specs k27) 3000 60 (by kernel_rfl)
def es28 : List Ent := ⟨199, a27, r27⟩ :: es27
theorem k28 : ∀ e ∈ es28, Valid P e.f e.args e.out := ents_cons m27 k27
-- 118 operations
theorem m28 : Valid P 150 a28 r28 := ran (mkE_ok (S := sp) (inl := inl) (own := own) mixed names specs k28) 3000 60 (by kernel_rfl)
def es29 : List Ent := ⟨150, a28, r28⟩ :: es28
theorem k29 : ∀ e ∈ es29, Valid P e.f e.args e.out := ents_cons m28 k28
-- 209 operations
theorem m29 : Valid P 211 a29 r29 := ran (mkE_ok (S := sp) (inl := inl) (own := own) mixed names specs k29) 3000 60 (by kernel_rfl)
def es30 : List Ent := ⟨211, a29, r29⟩ :: es29
theorem k30 : ∀ e ∈ es30, Valid P e.f e.args e.out := ents_cons m29 k29
-- 682 operations
theorem m30 : Valid P 146 a30 r30 := ran (mkE_ok (S := sp) (inl := inl) (own := own) mixed names specs k30) 3000 60 (by kernel_rfl)
def es31 : List Ent := ⟨146, a30, r30⟩ :: es30
theorem k31 : ∀ e ∈ es31, Valid P e.f e.args e.out := ents_cons m30 k30
-- 525 operations
theorem m31 : Valid P 149 a31 r31 := ran (mkE_ok (S := sp) (inl := inl) (own := own) mixed names specs k31) 3000 60 (by kernel_rfl)
def es32 : List Ent := ⟨149, a31, r31⟩ :: es31
theorem k32 : ∀ e ∈ es32, Valid P e.f e.args e.out := ents_cons m31 k31
-- 60 operations
theorem m32 : Valid P 43 a32 r32 := ran (mkE_ok (S := sp) (inl := inl) (own := own) mixed names specs k32) 3000 60 (by kernel_rfl)
def es33 : List Ent := ⟨43, a32, r32⟩ :: es32
theorem k33 : ∀ e ∈ es33, Valid P e.f e.args e.out := ents_cons m32 k32
-- 42 operations
theorem m33 : Valid P 43 a33 r33 := ran (mkE_ok (S := sp) (inl := inl) (own := own) mixed names specs k33) 3000 60 (by kernel_rfl)
def es34 : List Ent := ⟨43, a33, r33⟩ :: es33
theorem k34 : ∀ e ∈ es34, Valid P e.f e.args e.out := ents_cons m33 k33
-- 78 operations
theorem m34 : Valid P 43 a34 r34 := ran (mkE_ok (S := sp) (inl := inl) (own := own) mixed names specs k34) 3000 60 (by kernel_rfl)
def es35 : List Ent := ⟨43, a34, r34⟩ :: es34
theorem k35 : ∀ e ∈ es35, Valid P e.f e.args e.out := ents_cons m34 k34
-- 390 operations
theorem m35 : Valid P 441 a35 r35 := ran (mkE_ok (S := sp) (inl := inl) (own := own) mixed names specs k35) 3000 60 (by kernel_rfl)
def es36 : List Ent := ⟨441, a35, r35⟩ :: es35
theorem k36 : ∀ e ∈ es36, Valid P e.f e.args e.out := ents_cons m35 k35
-- 272 operations
theorem m36 : Valid P 152 a36 r36 := ran (mkE_ok (S := sp) (inl := inl) (own := own) mixed names specs k36) 3000 60 (by kernel_rfl)
def es37 : List Ent := ⟨152, a36, r36⟩ :: es36
theorem k37 : ∀ e ∈ es37, Valid P e.f e.args e.out := ents_cons m36 k36
-- 1980 operations
theorem m37 : Valid P 199 a37 r37 := ran (mkE_ok (S := sp) (inl := inl) (own := own) mixed names specs k37) 3000 60 (by kernel_rfl)
def es38 : List Ent := ⟨199, a37, r37⟩ :: es37
theorem k38 : ∀ e ∈ es38, Valid P e.f e.args e.out := ents_cons m37 k37
-- 268 operations
theorem m38 : Valid P 211 a38 r38 := ran (mkE_ok (S := sp) (inl := inl) (own := own) mixed names specs k38) 3000 60 (by kernel_rfl)
def es39 : List Ent := ⟨211, a38, r38⟩ :: es38
theorem k39 : ∀ e ∈ es39, Valid P e.f e.args e.out := ents_cons m38 k38
-- 835 operations
theorem m39 : Valid P 105 a39 r39 := ran (mkE_ok (S := sp) (inl := inl) (own := own) mixed names specs k39) 3000 60 (by kernel_rfl)
def es40 : List Ent := ⟨105, a39, r39⟩ :: es39
theorem k40 : ∀ e ∈ es40, Valid P e.f e.args e.out := ents_cons m39 k39
-- 1923 operations
theorem m40 : Valid P 18 a40 r40 := ran (mkE_ok (S := sp) (inl := inl) (own := own) mixed names specs k40) 3000 60 (by kernel_rfl)
def es41 : List Ent := ⟨18, a40, r40⟩ :: es40
theorem k41 : ∀ e ∈ es41, Valid P e.f e.args e.out := ents_cons m40 k40
-- 255 operations
theorem m41 : Valid P 87 a41 r41 := ran (mkE_ok (S := sp) (inl := inl) (own := own) mixed names specs k41) 3000 60 (by kernel_rfl)
def es42 : List Ent := ⟨87, a41, r41⟩ :: es41
theorem k42 : ∀ e ∈ es42, Valid P e.f e.args e.out := ents_cons m41 k41
-- 668 operations
theorem m42 : Valid P 44 a42 r42 := ran (mkE_ok (S := sp) (inl := inl) (own := own) mixed names specs k42) 3000 60 (by kernel_rfl)
def es43 : List Ent := ⟨44, a42, r42⟩ :: es42
theorem k43 : ∀ e ∈ es43, Valid P e.f e.args e.out := ents_cons m42 k42
-- 257 operations
theorem m43 : Valid P 79 a43 r43 := ran (mkE_ok (S := sp) (inl := inl) (own := own) mixed names specs k43) 3000 60 (by kernel_rfl)
def es44 : List Ent := ⟨79, a43, r43⟩ :: es43
theorem k44 : ∀ e ∈ es44, Valid P e.f e.args e.out := ents_cons m43 k43
-- 1013 operations
theorem m44 : Valid P 14 a44 r44 := ran (mkE_ok (S := sp) (inl := inl) (own := own) mixed names specs k44) 3000 60 (by kernel_rfl)
def es45 : List Ent := ⟨14, a44, r44⟩ :: es44
theorem k45 : ∀ e ∈ es45, Valid P e.f e.args e.out := ents_cons m44 k44
-- 248 operations
theorem m45 : Valid P 53 a45 r45 := ran (mkE_ok (S := sp) (inl := inl) (own := own) mixed names specs k45) 3000 60 (by kernel_rfl)
def es46 : List Ent := ⟨53, a45, r45⟩ :: es45
theorem k46 : ∀ e ∈ es46, Valid P e.f e.args e.out := ents_cons m45 k45
-- 2136 operations
theorem m46 : Valid P 18 a46 r46 := ran (mkE_ok (S := sp) (inl := inl) (own := own) mixed names specs k46) 3000 60 (by kernel_rfl)
def es47 : List Ent := ⟨18, a46, r46⟩ :: es46
theorem k47 : ∀ e ∈ es47, Valid P e.f e.args e.out := ents_cons m46 k46
-- 975 operations
theorem m47 : Valid P 14 a47 r47 := ran (mkE_ok (S := sp) (inl := inl) (own := own) mixed names specs k47) 3000 60 (by kernel_rfl)
def es48 : List Ent := ⟨14, a47, r47⟩ :: es47
theorem k48 : ∀ e ∈ es48, Valid P e.f e.args e.out := ents_cons m47 k47
-- 1741 operations
theorem m48 : Valid P 12 a48 r48 := ran (mkE_ok (S := sp) (inl := inl) (own := own) mixed names specs k48) 3000 60 (by kernel_rfl)
def es49 : List Ent := ⟨12, a48, r48⟩ :: es48
theorem k49 : ∀ e ∈ es49, Valid P e.f e.args e.out := ents_cons m48 k48
end
end Go.Abs.R29
end
