/- The run. -/
import Derived.Test.YtojknjmcmadhcaaGreatDoorMc
import Derived.KernelRfl

section
namespace Go.Abs.R50
open Go.Proofs
noncomputable section
-- 144 operations
def es105 : List Ent := [⟨284, a104, r104⟩]
theorem m105 : Valid P 436 a105 r105 := ran (mkE_ok (S := sp) (inl := inl) (own := own) (es := es105) mixed names specs (ents_cons m104 kk0)) 3000 60 (by kernel_rfl)
-- 244 operations
def es106 : List Ent := [⟨138, a27, r27⟩, ⟨410, a90, r90⟩]
theorem m106 : Valid P 285 a106 r106 := ran (mkE_ok (S := sp) (inl := inl) (own := own) (es := es106) mixed names specs (ents_cons m27 (ents_cons m90 kk0))) 3000 60 (by kernel_rfl)
-- 181 operations
def es107 : List Ent := [⟨284, a104, r104⟩, ⟨285, a106, r106⟩]
theorem m107 : Valid P 186 a107 r107 := ran (mkE_ok (S := sp) (inl := inl) (own := own) (es := es107) mixed names specs (ents_cons m104 (ents_cons m106 kk0))) 3000 60 (by kernel_rfl)
-- 189 operations
def es108 : List Ent := [⟨543, a16, r16⟩]
theorem m108 : Valid P 441 a108 r108 := ran (mkE_ok (S := sp) (inl := inl) (own := own) (es := es108) mixed names specs (ents_cons m16 kk0)) 3000 60 (by kernel_rfl)
-- 131 operations
def es109 : List Ent := [⟨161, a93, r93⟩, ⟨161, a94, r94⟩, ⟨161, a95, r95⟩, ⟨161, a96, r96⟩]
theorem m109 : Valid P 267 a109 r109 := ran (mkE_ok (S := sp) (inl := inl) (own := own) (es := es109) mixed names specs (ents_cons m93 (ents_cons m94 (ents_cons m95 (ents_cons m96 kk0))))) 3000 60 (by kernel_rfl)
-- 148 operations
def es110 : List Ent := []
theorem m110 : Valid P 557 a110 r110 := ran (mkE_ok (S := sp) (inl := inl) (own := own) (es := es110) mixed names specs kk0) 3000 60 (by kernel_rfl)
-- 1545 operations
def es111 : List Ent := [⟨455, a18, r18⟩]
theorem m111 : Valid P 454 a111 r111 := ran (mkE_ok (S := sp) (inl := inl) (own := own) (es := es111) mixed names specs (ents_cons m18 kk0)) 3000 60 (by kernel_rfl)
-- 1085 operations
def es112 : List Ent := []
theorem m112 : Valid P 453 a112 r112 := ran (mkE_ok (S := sp) (inl := inl) (own := own) (es := es112) mixed names specs kk0) 3000 60 (by kernel_rfl)
-- 245 operations
def es113 : List Ent := []
theorem m113 : Valid P 236 a113 r113 := ran (mkE_ok (S := sp) (inl := inl) (own := own) (es := es113) mixed names specs kk0) 3000 60 (by kernel_rfl)
-- 1972 operations
def es114 : List Ent := [⟨57, a12, r12⟩, ⟨95, a13, r13⟩, ⟨178, a15, r15⟩, ⟨543, a16, r16⟩, ⟨57, a17, r17⟩, ⟨455, a18, r18⟩, ⟨453, a19, r19⟩, ⟨454, a20, r20⟩, ⟨453, a21, r21⟩, ⟨138, a27, r27⟩, ⟨507, a28, r28⟩, ⟨507, a29, r29⟩, ⟨507, a30, r30⟩, ⟨206, a39, r39⟩, ⟨206, a61, r61⟩, ⟨236, a62, r62⟩, ⟨411, a78, r78⟩, ⟨440, a79, r79⟩, ⟨206, a87, r87⟩, ⟨236, a88, r88⟩, ⟨161, a96, r96⟩, ⟨436, a105, r105⟩, ⟨285, a106, r106⟩, ⟨186, a107, r107⟩, ⟨441, a108, r108⟩, ⟨267, a109, r109⟩, ⟨557, a110, r110⟩, ⟨454, a111, r111⟩, ⟨453, a112, r112⟩, ⟨236, a113, r113⟩]
theorem m114 : Valid P 154 a114 r114 := ran (mkE_ok (S := sp) (inl := inl) (own := own) (es := es114) mixed names specs (ents_cons m12 (ents_cons m13 (ents_cons m15 (ents_cons m16 (ents_cons m17 (ents_cons m18 (ents_cons m19 (ents_cons m20 (ents_cons m21 (ents_cons m27 (ents_cons m28 (ents_cons m29 (ents_cons m30 (ents_cons m39 (ents_cons m61 (ents_cons m62 (ents_cons m78 (ents_cons m79 (ents_cons m87 (ents_cons m88 (ents_cons m96 (ents_cons m105 (ents_cons m106 (ents_cons m107 (ents_cons m108 (ents_cons m109 (ents_cons m110 (ents_cons m111 (ents_cons m112 (ents_cons m113 kk0))))))))))))))))))))))))))))))) 3000 60 (by kernel_rfl)
-- 139 operations
def es115 : List Ent := []
theorem m115 : Valid P 407 a115 r115 := ran (mkE_ok (S := sp) (inl := inl) (own := own) (es := es115) mixed names specs kk0) 3000 60 (by kernel_rfl)
-- 346 operations
def es116 : List Ent := [⟨503, a22, r22⟩, ⟨457, a23, r23⟩, ⟨311, a24, r24⟩, ⟨507, a25, r25⟩, ⟨407, a115, r115⟩]
theorem m116 : Valid P 284 a116 r116 := ran (mkE_ok (S := sp) (inl := inl) (own := own) (es := es116) mixed names specs (ents_cons m22 (ents_cons m23 (ents_cons m24 (ents_cons m25 (ents_cons m115 kk0)))))) 3000 60 (by kernel_rfl)
-- 994 operations
def es117 : List Ent := [⟨455, a18, r18⟩, ⟨453, a19, r19⟩, ⟨503, a22, r22⟩, ⟨311, a24, r24⟩, ⟨138, a27, r27⟩, ⟨407, a115, r115⟩, ⟨284, a116, r116⟩]
theorem m117 : Valid P 304 a117 r117 := ran (mkE_ok (S := sp) (inl := inl) (own := own) (es := es117) mixed names specs (ents_cons m18 (ents_cons m19 (ents_cons m22 (ents_cons m24 (ents_cons m27 (ents_cons m115 (ents_cons m116 kk0)))))))) 3000 60 (by kernel_rfl)
-- 227 operations
def es118 : List Ent := [⟨138, a10, r10⟩]
theorem m118 : Valid P 207 a118 r118 := ran (mkE_ok (S := sp) (inl := inl) (own := own) (es := es118) mixed names specs (ents_cons m10 kk0)) 3000 60 (by kernel_rfl)
-- 76 operations
def es119 : List Ent := []
theorem m119 : Valid P 435 a119 r119 := ran (mkE_ok (S := sp) (inl := inl) (own := own) (es := es119) mixed names specs kk0) 3000 60 (by kernel_rfl)
-- 531 operations
def es120 : List Ent := [⟨138, a10, r10⟩, ⟨57, a12, r12⟩, ⟨178, a15, r15⟩, ⟨57, a17, r17⟩, ⟨304, a117, r117⟩, ⟨207, a118, r118⟩, ⟨435, a119, r119⟩]
theorem m120 : Valid P 205 a120 r120 := ran (mkE_ok (S := sp) (inl := inl) (own := own) (es := es120) mixed names specs (ents_cons m10 (ents_cons m12 (ents_cons m15 (ents_cons m17 (ents_cons m117 (ents_cons m118 (ents_cons m119 kk0)))))))) 3000 60 (by kernel_rfl)
-- 118 operations
def es121 : List Ent := [⟨284, a48, r48⟩]
theorem m121 : Valid P 522 a121 r121 := ran (mkE_ok (S := sp) (inl := inl) (own := own) (es := es121) mixed names specs (ents_cons m48 kk0)) 3000 60 (by kernel_rfl)
-- 793 operations
def es122 : List Ent := [⟨455, a34, r34⟩, ⟨453, a35, r35⟩, ⟨503, a40, r40⟩, ⟨407, a41, r41⟩, ⟨311, a46, r46⟩, ⟨284, a48, r48⟩, ⟨285, a49, r49⟩, ⟨186, a50, r50⟩, ⟨284, a116, r116⟩, ⟨522, a121, r121⟩]
theorem m122 : Valid P 304 a122 r122 := ran (mkE_ok (S := sp) (inl := inl) (own := own) (es := es122) mixed names specs (ents_cons m34 (ents_cons m35 (ents_cons m40 (ents_cons m41 (ents_cons m46 (ents_cons m48 (ents_cons m49 (ents_cons m50 (ents_cons m116 (ents_cons m121 kk0))))))))))) 3000 60 (by kernel_rfl)
-- 246 operations
def es123 : List Ent := [⟨57, a12, r12⟩, ⟨95, a13, r13⟩, ⟨138, a27, r27⟩, ⟨267, a52, r52⟩]
theorem m123 : Valid P 207 a123 r123 := ran (mkE_ok (S := sp) (inl := inl) (own := own) (es := es123) mixed names specs (ents_cons m12 (ents_cons m13 (ents_cons m27 (ents_cons m52 kk0))))) 3000 60 (by kernel_rfl)
-- 159 operations
def es124 : List Ent := [⟨284, a74, r74⟩]
theorem m124 : Valid P 522 a124 r124 := ran (mkE_ok (S := sp) (inl := inl) (own := own) (es := es124) mixed names specs (ents_cons m74 kk0)) 3000 60 (by kernel_rfl)
-- 511 operations
def es125 : List Ent := [⟨267, a52, r52⟩, ⟨455, a56, r56⟩, ⟨453, a57, r57⟩, ⟨236, a62, r62⟩, ⟨503, a63, r63⟩, ⟨407, a65, r65⟩, ⟨311, a72, r72⟩, ⟨284, a74, r74⟩, ⟨436, a75, r75⟩, ⟨285, a76, r76⟩, ⟨186, a77, r77⟩, ⟨522, a121, r121⟩, ⟨522, a124, r124⟩]
theorem m125 : Valid P 304 a125 r125 := ran (mkE_ok (S := sp) (inl := inl) (own := own) (es := es125) mixed names specs (ents_cons m52 (ents_cons m56 (ents_cons m57 (ents_cons m62 (ents_cons m63 (ents_cons m65 (ents_cons m72 (ents_cons m74 (ents_cons m75 (ents_cons m76 (ents_cons m77 (ents_cons m121 (ents_cons m124 kk0)))))))))))))) 3000 60 (by kernel_rfl)
-- 262 operations
def es126 : List Ent := [⟨57, a12, r12⟩, ⟨95, a13, r13⟩, ⟨138, a27, r27⟩, ⟨267, a81, r81⟩]
theorem m126 : Valid P 207 a126 r126 := ran (mkE_ok (S := sp) (inl := inl) (own := own) (es := es126) mixed names specs (ents_cons m12 (ents_cons m13 (ents_cons m27 (ents_cons m81 kk0))))) 3000 60 (by kernel_rfl)
-- 200 operations
def es127 : List Ent := [⟨284, a104, r104⟩]
theorem m127 : Valid P 522 a127 r127 := ran (mkE_ok (S := sp) (inl := inl) (own := own) (es := es127) mixed names specs (ents_cons m104 kk0)) 3000 60 (by kernel_rfl)
-- 571 operations
def es128 : List Ent := [⟨267, a81, r81⟩, ⟨455, a83, r83⟩, ⟨453, a84, r84⟩, ⟨236, a88, r88⟩, ⟨503, a89, r89⟩, ⟨407, a91, r91⟩, ⟨311, a102, r102⟩, ⟨284, a104, r104⟩, ⟨436, a105, r105⟩, ⟨285, a106, r106⟩, ⟨186, a107, r107⟩, ⟨522, a124, r124⟩, ⟨522, a127, r127⟩]
theorem m128 : Valid P 304 a128 r128 := ran (mkE_ok (S := sp) (inl := inl) (own := own) (es := es128) mixed names specs (ents_cons m81 (ents_cons m83 (ents_cons m84 (ents_cons m88 (ents_cons m89 (ents_cons m91 (ents_cons m102 (ents_cons m104 (ents_cons m105 (ents_cons m106 (ents_cons m107 (ents_cons m124 (ents_cons m127 kk0)))))))))))))) 3000 60 (by kernel_rfl)
-- 278 operations
def es129 : List Ent := [⟨57, a12, r12⟩, ⟨95, a13, r13⟩, ⟨138, a27, r27⟩, ⟨267, a109, r109⟩]
theorem m129 : Valid P 207 a129 r129 := ran (mkE_ok (S := sp) (inl := inl) (own := own) (es := es129) mixed names specs (ents_cons m12 (ents_cons m13 (ents_cons m27 (ents_cons m109 kk0))))) 3000 60 (by kernel_rfl)
-- 275 operations
def es130 : List Ent := [⟨57, a12, r12⟩, ⟨95, a13, r13⟩, ⟨178, a15, r15⟩, ⟨455, a18, r18⟩, ⟨453, a19, r19⟩, ⟨440, a79, r79⟩, ⟨441, a108, r108⟩, ⟨454, a111, r111⟩, ⟨453, a112, r112⟩]
theorem m130 : Valid P 503 a130 r130 := ran (mkE_ok (S := sp) (inl := inl) (own := own) (es := es130) mixed names specs (ents_cons m12 (ents_cons m13 (ents_cons m15 (ents_cons m18 (ents_cons m19 (ents_cons m79 (ents_cons m108 (ents_cons m111 (ents_cons m112 kk0)))))))))) 3000 60 (by kernel_rfl)
-- 78 operations
def es131 : List Ent := []
theorem m131 : Valid P 410 a131 r131 := ran (mkE_ok (S := sp) (inl := inl) (own := own) (es := es131) mixed names specs kk0) 3000 60 (by kernel_rfl)
-- 851 operations
def es132 : List Ent := [⟨410, a131, r131⟩]
theorem m132 : Valid P 407 a132 r132 := ran (mkE_ok (S := sp) (inl := inl) (own := own) (es := es132) mixed names specs (ents_cons m131 kk0)) 3000 60 (by kernel_rfl)
end
end Go.Abs.R50
end
