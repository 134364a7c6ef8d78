/- The run. -/
import Derived.Test.YthbenojbjjgnaaaGreatUBu
import Derived.KernelRfl
set_option linter.unusedVariables false
set_option linter.unusedSimpArgs false
set_option linter.unusedSectionVars false
namespace Go.Abs.RL
open Go.Proofs
noncomputable section
def es33 : List Ent := [⟨360,a3,r3⟩]
theorem m33 : Valid P 253 a33 r33 := ran (mkE_ok (S := sp) (inl := inl) (own := own) (es := es33) mixed names specs (ents_cons m3 kk0)) 3000 60 (by kernel_rfl)
def es34 : List Ent := []
theorem m34 : Valid P 252 a34 r34 := ran (mkE_ok (S := sp) (inl := inl) (own := own) (es := es34) mixed names specs kk0) 3000 60 (by kernel_rfl)
def es35 : List Ent := [⟨32,a0,r0⟩,⟨347,a1,r1⟩,⟨28,a2,r2⟩,⟨360,a3,r3⟩,⟨143,a4,r4⟩,⟨143,a10,r10⟩,⟨143,a19,r19⟩,⟨360,a24,r24⟩,⟨253,a25,r25⟩,⟨252,a26,r26⟩,⟨56,a28,r28⟩,⟨34,a29,r29⟩,⟨144,a30,r30⟩,⟨89,a31,r31⟩,⟨238,a32,r32⟩,⟨253,a33,r33⟩,⟨252,a34,r34⟩]
theorem m35 : Valid P 178 a35 r35 := ran (mkE_ok (S := sp) (inl := inl) (own := own) (es := es35) mixed names specs (ents_cons m0 (ents_cons m1 (ents_cons m2 (ents_cons m3 (ents_cons m4 (ents_cons m10 (ents_cons m19 (ents_cons m24 (ents_cons m25 (ents_cons m26 (ents_cons m28 (ents_cons m29 (ents_cons m30 (ents_cons m31 (ents_cons m32 (ents_cons m33 (ents_cons m34 kk0)))))))))))))))))) 3000 60 (by kernel_rfl)
def es36 : List Ent := [⟨32,a0,r0⟩,⟨347,a1,r1⟩,⟨28,a2,r2⟩,⟨360,a3,r3⟩,⟨178,a9,r9⟩,⟨178,a18,r18⟩,⟨178,a27,r27⟩,⟨178,a35,r35⟩]
theorem m36 : Valid P 119 a36 r36 := ran (mkE_ok (S := sp) (inl := inl) (own := own) (es := es36) mixed names specs (ents_cons m0 (ents_cons m1 (ents_cons m2 (ents_cons m3 (ents_cons m9 (ents_cons m18 (ents_cons m27 (ents_cons m35 kk0))))))))) 3000 60 (by kernel_rfl)
def es37 : List Ent := [⟨32,a0,r0⟩,⟨347,a1,r1⟩,⟨28,a2,r2⟩,⟨360,a24,r24⟩,⟨253,a25,r25⟩,⟨252,a26,r26⟩,⟨56,a28,r28⟩,⟨34,a29,r29⟩,⟨144,a30,r30⟩,⟨89,a31,r31⟩]
theorem m37 : Valid P 121 a37 r37 := ran (mkE_ok (S := sp) (inl := inl) (own := own) (es := es37) mixed names specs (ents_cons m0 (ents_cons m1 (ents_cons m2 (ents_cons m24 (ents_cons m25 (ents_cons m26 (ents_cons m28 (ents_cons m29 (ents_cons m30 (ents_cons m31 kk0))))))))))) 3000 60 (by kernel_rfl)
def es38 : List Ent := []
theorem m38 : Valid P 56 a38 r38 := ran (mkE_ok (S := sp) (inl := inl) (own := own) (es := es38) mixed names specs kk0) 3000 60 (by kernel_rfl)
def es39 : List Ent := [⟨56,a38,r38⟩]
theorem m39 : Valid P 202 a39 r39 := ran (mkE_ok (S := sp) (inl := inl) (own := own) (es := es39) mixed names specs (ents_cons m38 kk0)) 3000 60 (by kernel_rfl)
def es40 : List Ent := [⟨56,a38,r38⟩]
theorem m40 : Valid P 202 a40 r40 := ran (mkE_ok (S := sp) (inl := inl) (own := own) (es := es40) mixed names specs (ents_cons m38 kk0)) 3000 60 (by kernel_rfl)
def es41 : List Ent := [⟨236,a5,r5⟩,⟨236,a6,r6⟩,⟨367,a11,r11⟩,⟨236,a12,r12⟩,⟨236,a21,r21⟩,⟨56,a38,r38⟩,⟨202,a39,r39⟩,⟨202,a40,r40⟩]
theorem m41 : Valid P 144 a41 r41 := ran (mkE_ok (S := sp) (inl := inl) (own := own) (es := es41) mixed names specs (ents_cons m5 (ents_cons m6 (ents_cons m11 (ents_cons m12 (ents_cons m21 (ents_cons m38 (ents_cons m39 (ents_cons m40 kk0))))))))) 3000 60 (by kernel_rfl)
def es42 : List Ent := [⟨56,a38,r38⟩]
theorem m42 : Valid P 89 a42 r42 := ran (mkE_ok (S := sp) (inl := inl) (own := own) (es := es42) mixed names specs (ents_cons m38 kk0)) 3000 60 (by kernel_rfl)
def es43 : List Ent := [⟨32,a0,r0⟩,⟨347,a1,r1⟩,⟨28,a2,r2⟩,⟨360,a3,r3⟩,⟨253,a33,r33⟩,⟨252,a34,r34⟩,⟨56,a38,r38⟩,⟨144,a41,r41⟩,⟨89,a42,r42⟩]
theorem m43 : Valid P 121 a43 r43 := ran (mkE_ok (S := sp) (inl := inl) (own := own) (es := es43) mixed names specs (ents_cons m0 (ents_cons m1 (ents_cons m2 (ents_cons m3 (ents_cons m33 (ents_cons m34 (ents_cons m38 (ents_cons m41 (ents_cons m42 kk0)))))))))) 3000 60 (by kernel_rfl)
end
end Go.Abs.RL
