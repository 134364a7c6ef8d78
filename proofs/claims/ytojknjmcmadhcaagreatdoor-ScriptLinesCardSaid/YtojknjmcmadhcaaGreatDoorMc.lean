/- The run. -/
import Derived.Test.YtojknjmcmadhcaaGreatDoorMb
import Derived.KernelRfl

section
namespace Go.Abs.R50
open Go.Proofs
noncomputable section
-- 421 operations
def es65 : List Ent := [⟨410, a64, r64⟩]
theorem m65 : Valid P 407 a65 r65 := ran (mkE_ok (S := sp) (inl := inl) (own := own) (es := es65) mixed names specs (ents_cons m64 kk0)) 3000 60 (by kernel_rfl)
-- 78 operations
def es66 : List Ent := []
theorem m66 : Valid P 161 a66 r66 := ran (mkE_ok (S := sp) (inl := inl) (own := own) (es := es66) mixed names specs kk0) 3000 60 (by kernel_rfl)
-- 42 operations
def es67 : List Ent := []
theorem m67 : Valid P 161 a67 r67 := ran (mkE_ok (S := sp) (inl := inl) (own := own) (es := es67) mixed names specs kk0) 3000 60 (by kernel_rfl)
-- 60 operations
def es68 : List Ent := []
theorem m68 : Valid P 161 a68 r68 := ran (mkE_ok (S := sp) (inl := inl) (own := own) (es := es68) mixed names specs kk0) 3000 60 (by kernel_rfl)
-- 80 operations
def es69 : List Ent := [⟨507, a28, r28⟩, ⟨507, a29, r29⟩, ⟨507, a30, r30⟩]
theorem m69 : Valid P 457 a69 r69 := ran (mkE_ok (S := sp) (inl := inl) (own := own) (es := es69) mixed names specs (ents_cons m28 (ents_cons m29 (ents_cons m30 kk0)))) 3000 60 (by kernel_rfl)
-- 16 operations
def es70 : List Ent := []
theorem m70 : Valid P 665 a70 r70 := ran (mkE_ok (S := sp) (inl := inl) (own := own) (es := es70) mixed names specs kk0) 3000 60 (by kernel_rfl)
-- 43 operations
def es71 : List Ent := [⟨665, a70, r70⟩]
theorem m71 : Valid P 664 a71 r71 := ran (mkE_ok (S := sp) (inl := inl) (own := own) (es := es71) mixed names specs (ents_cons m70 kk0)) 3000 60 (by kernel_rfl)
-- 148 operations
def es72 : List Ent := [⟨557, a53, r53⟩, ⟨558, a54, r54⟩, ⟨560, a55, r55⟩]
theorem m72 : Valid P 311 a72 r72 := ran (mkE_ok (S := sp) (inl := inl) (own := own) (es := es72) mixed names specs (ents_cons m53 (ents_cons m54 (ents_cons m55 kk0)))) 3000 60 (by kernel_rfl)
-- 128 operations
def es73 : List Ent := []
theorem m73 : Valid P 507 a73 r73 := ran (mkE_ok (S := sp) (inl := inl) (own := own) (es := es73) mixed names specs kk0) 3000 60 (by kernel_rfl)
-- 1707 operations
def es74 : List Ent := [⟨503, a22, r22⟩, ⟨457, a23, r23⟩, ⟨311, a24, r24⟩, ⟨507, a25, r25⟩, ⟨503, a40, r40⟩, ⟨457, a44, r44⟩, ⟨665, a45, r45⟩, ⟨311, a46, r46⟩, ⟨507, a47, r47⟩, ⟨503, a63, r63⟩, ⟨407, a65, r65⟩, ⟨161, a66, r66⟩, ⟨161, a67, r67⟩, ⟨161, a68, r68⟩, ⟨457, a69, r69⟩, ⟨665, a70, r70⟩, ⟨664, a71, r71⟩, ⟨311, a72, r72⟩, ⟨507, a73, r73⟩]
theorem m74 : Valid P 284 a74 r74 := ran (mkE_ok (S := sp) (inl := inl) (own := own) (es := es74) mixed names specs (ents_cons m22 (ents_cons m23 (ents_cons m24 (ents_cons m25 (ents_cons m40 (ents_cons m44 (ents_cons m45 (ents_cons m46 (ents_cons m47 (ents_cons m63 (ents_cons m65 (ents_cons m66 (ents_cons m67 (ents_cons m68 (ents_cons m69 (ents_cons m70 (ents_cons m71 (ents_cons m72 (ents_cons m73 kk0)))))))))))))))))))) 3000 60 (by kernel_rfl)
-- 114 operations
def es75 : List Ent := [⟨284, a74, r74⟩]
theorem m75 : Valid P 436 a75 r75 := ran (mkE_ok (S := sp) (inl := inl) (own := own) (es := es75) mixed names specs (ents_cons m74 kk0)) 3000 60 (by kernel_rfl)
-- 198 operations
def es76 : List Ent := [⟨138, a27, r27⟩, ⟨410, a64, r64⟩]
theorem m76 : Valid P 285 a76 r76 := ran (mkE_ok (S := sp) (inl := inl) (own := own) (es := es76) mixed names specs (ents_cons m27 (ents_cons m64 kk0))) 3000 60 (by kernel_rfl)
-- 151 operations
def es77 : List Ent := [⟨284, a74, r74⟩, ⟨285, a76, r76⟩]
theorem m77 : Valid P 186 a77 r77 := ran (mkE_ok (S := sp) (inl := inl) (own := own) (es := es77) mixed names specs (ents_cons m74 (ents_cons m76 kk0))) 3000 60 (by kernel_rfl)
-- 262 operations
def es78 : List Ent := []
theorem m78 : Valid P 411 a78 r78 := ran (mkE_ok (S := sp) (inl := inl) (own := own) (es := es78) mixed names specs kk0) 3000 60 (by kernel_rfl)
-- 68 operations
def es79 : List Ent := []
theorem m79 : Valid P 440 a79 r79 := ran (mkE_ok (S := sp) (inl := inl) (own := own) (es := es79) mixed names specs kk0) 3000 60 (by kernel_rfl)
-- 355 operations
def es80 : List Ent := []
theorem m80 : Valid P 441 a80 r80 := ran (mkE_ok (S := sp) (inl := inl) (own := own) (es := es80) mixed names specs kk0) 3000 60 (by kernel_rfl)
-- 102 operations
def es81 : List Ent := [⟨161, a66, r66⟩, ⟨161, a67, r67⟩, ⟨161, a68, r68⟩]
theorem m81 : Valid P 267 a81 r81 := ran (mkE_ok (S := sp) (inl := inl) (own := own) (es := es81) mixed names specs (ents_cons m66 (ents_cons m67 (ents_cons m68 kk0)))) 3000 60 (by kernel_rfl)
-- 148 operations
def es82 : List Ent := []
theorem m82 : Valid P 557 a82 r82 := ran (mkE_ok (S := sp) (inl := inl) (own := own) (es := es82) mixed names specs kk0) 3000 60 (by kernel_rfl)
-- 746 operations
def es83 : List Ent := []
theorem m83 : Valid P 455 a83 r83 := ran (mkE_ok (S := sp) (inl := inl) (own := own) (es := es83) mixed names specs kk0) 3000 60 (by kernel_rfl)
-- 227 operations
def es84 : List Ent := []
theorem m84 : Valid P 453 a84 r84 := ran (mkE_ok (S := sp) (inl := inl) (own := own) (es := es84) mixed names specs kk0) 3000 60 (by kernel_rfl)
-- 1545 operations
def es85 : List Ent := [⟨455, a83, r83⟩]
theorem m85 : Valid P 454 a85 r85 := ran (mkE_ok (S := sp) (inl := inl) (own := own) (es := es85) mixed names specs (ents_cons m83 kk0)) 3000 60 (by kernel_rfl)
-- 1085 operations
def es86 : List Ent := []
theorem m86 : Valid P 453 a86 r86 := ran (mkE_ok (S := sp) (inl := inl) (own := own) (es := es86) mixed names specs kk0) 3000 60 (by kernel_rfl)
-- 961 operations
def es87 : List Ent := [⟨57, a12, r12⟩, ⟨95, a13, r13⟩, ⟨178, a15, r15⟩, ⟨138, a27, r27⟩, ⟨507, a28, r28⟩, ⟨507, a29, r29⟩, ⟨507, a30, r30⟩, ⟨161, a68, r68⟩, ⟨436, a75, r75⟩, ⟨285, a76, r76⟩, ⟨186, a77, r77⟩, ⟨411, a78, r78⟩, ⟨440, a79, r79⟩, ⟨441, a80, r80⟩, ⟨267, a81, r81⟩, ⟨557, a82, r82⟩, ⟨455, a83, r83⟩, ⟨453, a84, r84⟩, ⟨454, a85, r85⟩, ⟨453, a86, r86⟩]
theorem m87 : Valid P 206 a87 r87 := ran (mkE_ok (S := sp) (inl := inl) (own := own) (es := es87) mixed names specs (ents_cons m12 (ents_cons m13 (ents_cons m15 (ents_cons m27 (ents_cons m28 (ents_cons m29 (ents_cons m30 (ents_cons m68 (ents_cons m75 (ents_cons m76 (ents_cons m77 (ents_cons m78 (ents_cons m79 (ents_cons m80 (ents_cons m81 (ents_cons m82 (ents_cons m83 (ents_cons m84 (ents_cons m85 (ents_cons m86 kk0))))))))))))))))))))) 3000 60 (by kernel_rfl)
-- 172 operations
def es88 : List Ent := []
theorem m88 : Valid P 236 a88 r88 := ran (mkE_ok (S := sp) (inl := inl) (own := own) (es := es88) mixed names specs kk0) 3000 60 (by kernel_rfl)
-- 280 operations
def es89 : List Ent := [⟨57, a12, r12⟩, ⟨95, a13, r13⟩, ⟨178, a15, r15⟩, ⟨440, a79, r79⟩, ⟨441, a80, r80⟩, ⟨455, a83, r83⟩, ⟨453, a84, r84⟩, ⟨454, a85, r85⟩, ⟨453, a86, r86⟩]
theorem m89 : Valid P 503 a89 r89 := ran (mkE_ok (S := sp) (inl := inl) (own := own) (es := es89) mixed names specs (ents_cons m12 (ents_cons m13 (ents_cons m15 (ents_cons m79 (ents_cons m80 (ents_cons m83 (ents_cons m84 (ents_cons m85 (ents_cons m86 kk0)))))))))) 3000 60 (by kernel_rfl)
-- 65 operations
def es90 : List Ent := []
theorem m90 : Valid P 410 a90 r90 := ran (mkE_ok (S := sp) (inl := inl) (own := own) (es := es90) mixed names specs kk0) 3000 60 (by kernel_rfl)
-- 636 operations
def es91 : List Ent := [⟨410, a90, r90⟩]
theorem m91 : Valid P 407 a91 r91 := ran (mkE_ok (S := sp) (inl := inl) (own := own) (es := es91) mixed names specs (ents_cons m90 kk0)) 3000 60 (by kernel_rfl)
-- 395 operations
def es92 : List Ent := []
theorem m92 : Valid P 408 a92 r92 := ran (mkE_ok (S := sp) (inl := inl) (own := own) (es := es92) mixed names specs kk0) 3000 60 (by kernel_rfl)
-- 96 operations
def es93 : List Ent := []
theorem m93 : Valid P 161 a93 r93 := ran (mkE_ok (S := sp) (inl := inl) (own := own) (es := es93) mixed names specs kk0) 3000 60 (by kernel_rfl)
-- 42 operations
def es94 : List Ent := []
theorem m94 : Valid P 161 a94 r94 := ran (mkE_ok (S := sp) (inl := inl) (own := own) (es := es94) mixed names specs kk0) 3000 60 (by kernel_rfl)
-- 78 operations
def es95 : List Ent := []
theorem m95 : Valid P 161 a95 r95 := ran (mkE_ok (S := sp) (inl := inl) (own := own) (es := es95) mixed names specs kk0) 3000 60 (by kernel_rfl)
-- 60 operations
def es96 : List Ent := []
theorem m96 : Valid P 161 a96 r96 := ran (mkE_ok (S := sp) (inl := inl) (own := own) (es := es96) mixed names specs kk0) 3000 60 (by kernel_rfl)
-- 80 operations
def es97 : List Ent := [⟨507, a28, r28⟩, ⟨507, a29, r29⟩, ⟨507, a30, r30⟩]
theorem m97 : Valid P 457 a97 r97 := ran (mkE_ok (S := sp) (inl := inl) (own := own) (es := es97) mixed names specs (ents_cons m28 (ents_cons m29 (ents_cons m30 kk0)))) 3000 60 (by kernel_rfl)
-- 16 operations
def es98 : List Ent := []
theorem m98 : Valid P 665 a98 r98 := ran (mkE_ok (S := sp) (inl := inl) (own := own) (es := es98) mixed names specs kk0) 3000 60 (by kernel_rfl)
-- 43 operations
def es99 : List Ent := [⟨665, a98, r98⟩]
theorem m99 : Valid P 664 a99 r99 := ran (mkE_ok (S := sp) (inl := inl) (own := own) (es := es99) mixed names specs (ents_cons m98 kk0)) 3000 60 (by kernel_rfl)
-- 252 operations
def es100 : List Ent := [⟨665, a45, r45⟩, ⟨664, a71, r71⟩, ⟨161, a93, r93⟩, ⟨161, a94, r94⟩, ⟨161, a95, r95⟩, ⟨457, a97, r97⟩, ⟨664, a99, r99⟩]
theorem m100 : Valid P 608 a100 r100 := ran (mkE_ok (S := sp) (inl := inl) (own := own) (es := es100) mixed names specs (ents_cons m45 (ents_cons m71 (ents_cons m93 (ents_cons m94 (ents_cons m95 (ents_cons m97 (ents_cons m99 kk0)))))))) 3000 60 (by kernel_rfl)
-- 218 operations
def es101 : List Ent := [⟨665, a45, r45⟩, ⟨665, a70, r70⟩, ⟨161, a93, r93⟩, ⟨161, a94, r94⟩, ⟨161, a95, r95⟩, ⟨457, a97, r97⟩, ⟨665, a98, r98⟩]
theorem m101 : Valid P 609 a101 r101 := ran (mkE_ok (S := sp) (inl := inl) (own := own) (es := es101) mixed names specs (ents_cons m45 (ents_cons m70 (ents_cons m93 (ents_cons m94 (ents_cons m95 (ents_cons m97 (ents_cons m98 kk0)))))))) 3000 60 (by kernel_rfl)
-- 159 operations
def es102 : List Ent := [⟨557, a82, r82⟩]
theorem m102 : Valid P 311 a102 r102 := ran (mkE_ok (S := sp) (inl := inl) (own := own) (es := es102) mixed names specs (ents_cons m82 kk0)) 3000 60 (by kernel_rfl)
-- 160 operations
def es103 : List Ent := []
theorem m103 : Valid P 507 a103 r103 := ran (mkE_ok (S := sp) (inl := inl) (own := own) (es := es103) mixed names specs kk0) 3000 60 (by kernel_rfl)
-- 1793 operations
def es104 : List Ent := [⟨503, a22, r22⟩, ⟨457, a23, r23⟩, ⟨311, a24, r24⟩, ⟨507, a25, r25⟩, ⟨503, a40, r40⟩, ⟨457, a44, r44⟩, ⟨665, a45, r45⟩, ⟨311, a46, r46⟩, ⟨507, a47, r47⟩, ⟨503, a63, r63⟩, ⟨457, a69, r69⟩, ⟨665, a70, r70⟩, ⟨664, a71, r71⟩, ⟨311, a72, r72⟩, ⟨507, a73, r73⟩, ⟨503, a89, r89⟩, ⟨407, a91, r91⟩, ⟨408, a92, r92⟩, ⟨161, a93, r93⟩, ⟨161, a94, r94⟩, ⟨161, a95, r95⟩, ⟨161, a96, r96⟩, ⟨608, a100, r100⟩, ⟨609, a101, r101⟩, ⟨311, a102, r102⟩, ⟨507, a103, r103⟩]
theorem m104 : Valid P 284 a104 r104 := ran (mkE_ok (S := sp) (inl := inl) (own := own) (es := es104) mixed names specs (ents_cons m22 (ents_cons m23 (ents_cons m24 (ents_cons m25 (ents_cons m40 (ents_cons m44 (ents_cons m45 (ents_cons m46 (ents_cons m47 (ents_cons m63 (ents_cons m69 (ents_cons m70 (ents_cons m71 (ents_cons m72 (ents_cons m73 (ents_cons m89 (ents_cons m91 (ents_cons m92 (ents_cons m93 (ents_cons m94 (ents_cons m95 (ents_cons m96 (ents_cons m100 (ents_cons m101 (ents_cons m102 (ents_cons m103 kk0))))))))))))))))))))))))))) 3000 60 (by kernel_rfl)
end
end Go.Abs.R50
end
