/- The run. -/
import Derived.Test.YtojknjmcmadhcaaGreatDoorMa
import Derived.KernelRfl

section
namespace Go.Abs.R50
open Go.Proofs
noncomputable section
-- 903 operations
def es38 : List Ent := []
theorem m38 : Valid P 453 a38 r38 := ran (mkE_ok (S := sp) (inl := inl) (own := own) (es := es38) mixed names specs kk0) 3000 60 (by kernel_rfl)
-- 1470 operations
def es39 : List Ent := [⟨57, a12, r12⟩, ⟨95, a13, r13⟩, ⟨178, a15, r15⟩, ⟨284, a26, r26⟩, ⟨138, a27, r27⟩, ⟨507, a28, r28⟩, ⟨507, a29, r29⟩, ⟨507, a30, r30⟩, ⟨507, a31, r31⟩, ⟨507, a32, r32⟩, ⟨441, a33, r33⟩, ⟨455, a34, r34⟩, ⟨453, a35, r35⟩, ⟨298, a36, r36⟩, ⟨454, a37, r37⟩, ⟨453, a38, r38⟩]
theorem m39 : Valid P 206 a39 r39 := ran (mkE_ok (S := sp) (inl := inl) (own := own) (es := es39) mixed names specs (ents_cons m12 (ents_cons m13 (ents_cons m15 (ents_cons m26 (ents_cons m27 (ents_cons m28 (ents_cons m29 (ents_cons m30 (ents_cons m31 (ents_cons m32 (ents_cons m33 (ents_cons m34 (ents_cons m35 (ents_cons m36 (ents_cons m37 (ents_cons m38 kk0))))))))))))))))) 3000 60 (by kernel_rfl)
-- 242 operations
def es40 : List Ent := [⟨57, a12, r12⟩, ⟨95, a13, r13⟩, ⟨178, a15, r15⟩, ⟨441, a33, r33⟩, ⟨455, a34, r34⟩, ⟨453, a35, r35⟩, ⟨298, a36, r36⟩, ⟨454, a37, r37⟩, ⟨453, a38, r38⟩]
theorem m40 : Valid P 503 a40 r40 := ran (mkE_ok (S := sp) (inl := inl) (own := own) (es := es40) mixed names specs (ents_cons m12 (ents_cons m13 (ents_cons m15 (ents_cons m33 (ents_cons m34 (ents_cons m35 (ents_cons m36 (ents_cons m37 (ents_cons m38 kk0)))))))))) 3000 60 (by kernel_rfl)
-- 316 operations
def es41 : List Ent := []
theorem m41 : Valid P 407 a41 r41 := ran (mkE_ok (S := sp) (inl := inl) (own := own) (es := es41) mixed names specs kk0) 3000 60 (by kernel_rfl)
-- 60 operations
def es42 : List Ent := []
theorem m42 : Valid P 161 a42 r42 := ran (mkE_ok (S := sp) (inl := inl) (own := own) (es := es42) mixed names specs kk0) 3000 60 (by kernel_rfl)
-- 42 operations
def es43 : List Ent := []
theorem m43 : Valid P 161 a43 r43 := ran (mkE_ok (S := sp) (inl := inl) (own := own) (es := es43) mixed names specs kk0) 3000 60 (by kernel_rfl)
-- 114 operations
def es44 : List Ent := [⟨507, a28, r28⟩, ⟨507, a29, r29⟩, ⟨507, a30, r30⟩, ⟨507, a31, r31⟩, ⟨507, a32, r32⟩]
theorem m44 : Valid P 457 a44 r44 := ran (mkE_ok (S := sp) (inl := inl) (own := own) (es := es44) mixed names specs (ents_cons m28 (ents_cons m29 (ents_cons m30 (ents_cons m31 (ents_cons m32 kk0)))))) 3000 60 (by kernel_rfl)
-- 16 operations
def es45 : List Ent := []
theorem m45 : Valid P 665 a45 r45 := ran (mkE_ok (S := sp) (inl := inl) (own := own) (es := es45) mixed names specs kk0) 3000 60 (by kernel_rfl)
-- 135 operations
def es46 : List Ent := []
theorem m46 : Valid P 311 a46 r46 := ran (mkE_ok (S := sp) (inl := inl) (own := own) (es := es46) mixed names specs kk0) 3000 60 (by kernel_rfl)
-- 96 operations
def es47 : List Ent := []
theorem m47 : Valid P 507 a47 r47 := ran (mkE_ok (S := sp) (inl := inl) (own := own) (es := es47) mixed names specs kk0) 3000 60 (by kernel_rfl)
-- 934 operations
def es48 : List Ent := [⟨503, a22, r22⟩, ⟨457, a23, r23⟩, ⟨311, a24, r24⟩, ⟨507, a25, r25⟩, ⟨503, a40, r40⟩, ⟨407, a41, r41⟩, ⟨161, a42, r42⟩, ⟨161, a43, r43⟩, ⟨457, a44, r44⟩, ⟨665, a45, r45⟩, ⟨311, a46, r46⟩, ⟨507, a47, r47⟩]
theorem m48 : Valid P 284 a48 r48 := ran (mkE_ok (S := sp) (inl := inl) (own := own) (es := es48) mixed names specs (ents_cons m22 (ents_cons m23 (ents_cons m24 (ents_cons m25 (ents_cons m40 (ents_cons m41 (ents_cons m42 (ents_cons m43 (ents_cons m44 (ents_cons m45 (ents_cons m46 (ents_cons m47 kk0))))))))))))) 3000 60 (by kernel_rfl)
-- 191 operations
def es49 : List Ent := [⟨138, a27, r27⟩]
theorem m49 : Valid P 285 a49 r49 := ran (mkE_ok (S := sp) (inl := inl) (own := own) (es := es49) mixed names specs (ents_cons m27 kk0)) 3000 60 (by kernel_rfl)
-- 121 operations
def es50 : List Ent := [⟨284, a48, r48⟩, ⟨285, a49, r49⟩]
theorem m50 : Valid P 186 a50 r50 := ran (mkE_ok (S := sp) (inl := inl) (own := own) (es := es50) mixed names specs (ents_cons m48 (ents_cons m49 kk0))) 3000 60 (by kernel_rfl)
-- 429 operations
def es51 : List Ent := [⟨95, a13, r13⟩]
theorem m51 : Valid P 441 a51 r51 := ran (mkE_ok (S := sp) (inl := inl) (own := own) (es := es51) mixed names specs (ents_cons m13 kk0)) 3000 60 (by kernel_rfl)
-- 73 operations
def es52 : List Ent := [⟨161, a42, r42⟩, ⟨161, a43, r43⟩]
theorem m52 : Valid P 267 a52 r52 := ran (mkE_ok (S := sp) (inl := inl) (own := own) (es := es52) mixed names specs (ents_cons m42 (ents_cons m43 kk0))) 3000 60 (by kernel_rfl)
-- 113 operations
def es53 : List Ent := []
theorem m53 : Valid P 557 a53 r53 := ran (mkE_ok (S := sp) (inl := inl) (own := own) (es := es53) mixed names specs kk0) 3000 60 (by kernel_rfl)
-- 18 operations
def es54 : List Ent := []
theorem m54 : Valid P 558 a54 r54 := ran (mkE_ok (S := sp) (inl := inl) (own := own) (es := es54) mixed names specs kk0) 3000 60 (by kernel_rfl)
-- 323 operations
def es55 : List Ent := [⟨558, a54, r54⟩]
theorem m55 : Valid P 560 a55 r55 := ran (mkE_ok (S := sp) (inl := inl) (own := own) (es := es55) mixed names specs (ents_cons m54 kk0)) 3000 60 (by kernel_rfl)
-- 854 operations
def es56 : List Ent := []
theorem m56 : Valid P 455 a56 r56 := ran (mkE_ok (S := sp) (inl := inl) (own := own) (es := es56) mixed names specs kk0) 3000 60 (by kernel_rfl)
-- 318 operations
def es57 : List Ent := []
theorem m57 : Valid P 453 a57 r57 := ran (mkE_ok (S := sp) (inl := inl) (own := own) (es := es57) mixed names specs kk0) 3000 60 (by kernel_rfl)
-- 854 operations
def es58 : List Ent := []
theorem m58 : Valid P 455 a58 r58 := ran (mkE_ok (S := sp) (inl := inl) (own := own) (es := es58) mixed names specs kk0) 3000 60 (by kernel_rfl)
-- 1423 operations
def es59 : List Ent := [⟨455, a58, r58⟩]
theorem m59 : Valid P 454 a59 r59 := ran (mkE_ok (S := sp) (inl := inl) (own := own) (es := es59) mixed names specs (ents_cons m58 kk0)) 3000 60 (by kernel_rfl)
-- 1059 operations
def es60 : List Ent := []
theorem m60 : Valid P 453 a60 r60 := ran (mkE_ok (S := sp) (inl := inl) (own := own) (es := es60) mixed names specs kk0) 3000 60 (by kernel_rfl)
-- 1205 operations
def es61 : List Ent := [⟨57, a12, r12⟩, ⟨95, a13, r13⟩, ⟨178, a15, r15⟩, ⟨138, a27, r27⟩, ⟨507, a28, r28⟩, ⟨507, a29, r29⟩, ⟨507, a30, r30⟩, ⟨161, a43, r43⟩, ⟨284, a48, r48⟩, ⟨285, a49, r49⟩, ⟨186, a50, r50⟩, ⟨441, a51, r51⟩, ⟨267, a52, r52⟩, ⟨557, a53, r53⟩, ⟨558, a54, r54⟩, ⟨560, a55, r55⟩, ⟨455, a56, r56⟩, ⟨453, a57, r57⟩, ⟨454, a59, r59⟩, ⟨453, a60, r60⟩]
theorem m61 : Valid P 206 a61 r61 := ran (mkE_ok (S := sp) (inl := inl) (own := own) (es := es61) mixed names specs (ents_cons m12 (ents_cons m13 (ents_cons m15 (ents_cons m27 (ents_cons m28 (ents_cons m29 (ents_cons m30 (ents_cons m43 (ents_cons m48 (ents_cons m49 (ents_cons m50 (ents_cons m51 (ents_cons m52 (ents_cons m53 (ents_cons m54 (ents_cons m55 (ents_cons m56 (ents_cons m57 (ents_cons m59 (ents_cons m60 kk0))))))))))))))))))))) 3000 60 (by kernel_rfl)
-- 142 operations
def es62 : List Ent := []
theorem m62 : Valid P 236 a62 r62 := ran (mkE_ok (S := sp) (inl := inl) (own := own) (es := es62) mixed names specs kk0) 3000 60 (by kernel_rfl)
-- 327 operations
def es63 : List Ent := [⟨57, a12, r12⟩, ⟨95, a13, r13⟩, ⟨178, a15, r15⟩, ⟨441, a51, r51⟩, ⟨455, a56, r56⟩, ⟨453, a57, r57⟩, ⟨454, a59, r59⟩, ⟨453, a60, r60⟩]
theorem m63 : Valid P 503 a63 r63 := ran (mkE_ok (S := sp) (inl := inl) (own := own) (es := es63) mixed names specs (ents_cons m12 (ents_cons m13 (ents_cons m15 (ents_cons m51 (ents_cons m56 (ents_cons m57 (ents_cons m59 (ents_cons m60 kk0))))))))) 3000 60 (by kernel_rfl)
-- 52 operations
def es64 : List Ent := []
theorem m64 : Valid P 410 a64 r64 := ran (mkE_ok (S := sp) (inl := inl) (own := own) (es := es64) mixed names specs kk0) 3000 60 (by kernel_rfl)
end
end Go.Abs.R50
end
