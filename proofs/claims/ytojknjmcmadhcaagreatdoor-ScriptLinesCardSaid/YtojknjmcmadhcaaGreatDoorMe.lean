/- The run. -/
import Derived.Test.YtojknjmcmadhcaaGreatDoorMd
import Derived.KernelRfl

section
namespace Go.Abs.R50
open Go.Proofs
noncomputable section
-- 224 operations
def es133 : List Ent := [⟨503, a22, r22⟩, ⟨503, a40, r40⟩, ⟨503, a63, r63⟩, ⟨503, a89, r89⟩, ⟨503, a130, r130⟩]
theorem m133 : Valid P 406 a133 r133 := ran (mkE_ok (S := sp) (inl := inl) (own := own) (es := es133) mixed names specs (ents_cons m22 (ents_cons m40 (ents_cons m63 (ents_cons m89 (ents_cons m130 kk0)))))) 3000 60 (by kernel_rfl)
-- 456 operations
def es134 : List Ent := []
theorem m134 : Valid P 408 a134 r134 := ran (mkE_ok (S := sp) (inl := inl) (own := own) (es := es134) mixed names specs kk0) 3000 60 (by kernel_rfl)
-- 96 operations
def es135 : List Ent := []
theorem m135 : Valid P 161 a135 r135 := ran (mkE_ok (S := sp) (inl := inl) (own := own) (es := es135) mixed names specs kk0) 3000 60 (by kernel_rfl)
-- 42 operations
def es136 : List Ent := []
theorem m136 : Valid P 161 a136 r136 := ran (mkE_ok (S := sp) (inl := inl) (own := own) (es := es136) mixed names specs kk0) 3000 60 (by kernel_rfl)
-- 78 operations
def es137 : List Ent := []
theorem m137 : Valid P 161 a137 r137 := ran (mkE_ok (S := sp) (inl := inl) (own := own) (es := es137) mixed names specs kk0) 3000 60 (by kernel_rfl)
-- 60 operations
def es138 : List Ent := []
theorem m138 : Valid P 161 a138 r138 := ran (mkE_ok (S := sp) (inl := inl) (own := own) (es := es138) mixed names specs kk0) 3000 60 (by kernel_rfl)
-- 252 operations
def es139 : List Ent := [⟨665, a45, r45⟩, ⟨664, a71, r71⟩, ⟨457, a97, r97⟩, ⟨664, a99, r99⟩, ⟨161, a135, r135⟩, ⟨161, a136, r136⟩, ⟨161, a137, r137⟩]
theorem m139 : Valid P 608 a139 r139 := ran (mkE_ok (S := sp) (inl := inl) (own := own) (es := es139) mixed names specs (ents_cons m45 (ents_cons m71 (ents_cons m97 (ents_cons m99 (ents_cons m135 (ents_cons m136 (ents_cons m137 kk0)))))))) 3000 60 (by kernel_rfl)
-- 218 operations
def es140 : List Ent := [⟨665, a45, r45⟩, ⟨665, a70, r70⟩, ⟨457, a97, r97⟩, ⟨665, a98, r98⟩, ⟨161, a135, r135⟩, ⟨161, a136, r136⟩, ⟨161, a137, r137⟩]
theorem m140 : Valid P 609 a140 r140 := ran (mkE_ok (S := sp) (inl := inl) (own := own) (es := es140) mixed names specs (ents_cons m45 (ents_cons m70 (ents_cons m97 (ents_cons m98 (ents_cons m135 (ents_cons m136 (ents_cons m137 kk0)))))))) 3000 60 (by kernel_rfl)
-- 114 operations
def es141 : List Ent := []
theorem m141 : Valid P 161 a141 r141 := ran (mkE_ok (S := sp) (inl := inl) (own := own) (es := es141) mixed names specs kk0) 3000 60 (by kernel_rfl)
-- 80 operations
def es142 : List Ent := [⟨507, a28, r28⟩, ⟨507, a29, r29⟩, ⟨507, a30, r30⟩]
theorem m142 : Valid P 457 a142 r142 := ran (mkE_ok (S := sp) (inl := inl) (own := own) (es := es142) mixed names specs (ents_cons m28 (ents_cons m29 (ents_cons m30 kk0)))) 3000 60 (by kernel_rfl)
-- 252 operations
def es143 : List Ent := [⟨665, a45, r45⟩, ⟨664, a71, r71⟩, ⟨664, a99, r99⟩, ⟨161, a135, r135⟩, ⟨161, a136, r136⟩, ⟨161, a137, r137⟩, ⟨457, a142, r142⟩]
theorem m143 : Valid P 608 a143 r143 := ran (mkE_ok (S := sp) (inl := inl) (own := own) (es := es143) mixed names specs (ents_cons m45 (ents_cons m71 (ents_cons m99 (ents_cons m135 (ents_cons m136 (ents_cons m137 (ents_cons m142 kk0)))))))) 3000 60 (by kernel_rfl)
-- 218 operations
def es144 : List Ent := [⟨665, a45, r45⟩, ⟨665, a70, r70⟩, ⟨665, a98, r98⟩, ⟨161, a135, r135⟩, ⟨161, a136, r136⟩, ⟨161, a137, r137⟩, ⟨457, a142, r142⟩]
theorem m144 : Valid P 609 a144 r144 := ran (mkE_ok (S := sp) (inl := inl) (own := own) (es := es144) mixed names specs (ents_cons m45 (ents_cons m70 (ents_cons m98 (ents_cons m135 (ents_cons m136 (ents_cons m137 (ents_cons m142 kk0)))))))) 3000 60 (by kernel_rfl)
-- 159 operations
def es145 : List Ent := [⟨557, a82, r82⟩]
theorem m145 : Valid P 311 a145 r145 := ran (mkE_ok (S := sp) (inl := inl) (own := own) (es := es145) mixed names specs (ents_cons m82 kk0)) 3000 60 (by kernel_rfl)
-- 159 operations
def es146 : List Ent := [⟨557, a110, r110⟩]
theorem m146 : Valid P 311 a146 r146 := ran (mkE_ok (S := sp) (inl := inl) (own := own) (es := es146) mixed names specs (ents_cons m110 kk0)) 3000 60 (by kernel_rfl)
-- 161 operations
def es147 : List Ent := []
theorem m147 : Valid P 281 a147 r147 := ran (mkE_ok (S := sp) (inl := inl) (own := own) (es := es147) mixed names specs kk0) 3000 60 (by kernel_rfl)
-- 1963 operations
def es148 : List Ent := [⟨457, a23, r23⟩, ⟨311, a24, r24⟩, ⟨507, a25, r25⟩, ⟨457, a44, r44⟩, ⟨665, a45, r45⟩, ⟨311, a46, r46⟩, ⟨507, a47, r47⟩, ⟨457, a69, r69⟩, ⟨665, a70, r70⟩, ⟨664, a71, r71⟩, ⟨311, a72, r72⟩, ⟨507, a73, r73⟩, ⟨311, a102, r102⟩, ⟨507, a103, r103⟩, ⟨407, a132, r132⟩, ⟨406, a133, r133⟩, ⟨408, a134, r134⟩, ⟨161, a135, r135⟩, ⟨161, a136, r136⟩, ⟨161, a137, r137⟩, ⟨161, a138, r138⟩, ⟨608, a139, r139⟩, ⟨609, a140, r140⟩, ⟨161, a141, r141⟩, ⟨608, a143, r143⟩, ⟨609, a144, r144⟩, ⟨311, a145, r145⟩, ⟨311, a146, r146⟩, ⟨281, a147, r147⟩]
theorem m148 : Valid P 284 a148 r148 := ran (mkE_ok (S := sp) (inl := inl) (own := own) (es := es148) mixed names specs (ents_cons m23 (ents_cons m24 (ents_cons m25 (ents_cons m44 (ents_cons m45 (ents_cons m46 (ents_cons m47 (ents_cons m69 (ents_cons m70 (ents_cons m71 (ents_cons m72 (ents_cons m73 (ents_cons m102 (ents_cons m103 (ents_cons m132 (ents_cons m133 (ents_cons m134 (ents_cons m135 (ents_cons m136 (ents_cons m137 (ents_cons m138 (ents_cons m139 (ents_cons m140 (ents_cons m141 (ents_cons m143 (ents_cons m144 (ents_cons m145 (ents_cons m146 (ents_cons m147 kk0)))))))))))))))))))))))))))))) 3000 60 (by kernel_rfl)
-- 241 operations
def es149 : List Ent := [⟨284, a148, r148⟩]
theorem m149 : Valid P 522 a149 r149 := ran (mkE_ok (S := sp) (inl := inl) (own := own) (es := es149) mixed names specs (ents_cons m148 kk0)) 3000 60 (by kernel_rfl)
-- 174 operations
def es150 : List Ent := [⟨284, a148, r148⟩]
theorem m150 : Valid P 436 a150 r150 := ran (mkE_ok (S := sp) (inl := inl) (own := own) (es := es150) mixed names specs (ents_cons m148 kk0)) 3000 60 (by kernel_rfl)
-- 290 operations
def es151 : List Ent := [⟨138, a27, r27⟩, ⟨410, a131, r131⟩]
theorem m151 : Valid P 285 a151 r151 := ran (mkE_ok (S := sp) (inl := inl) (own := own) (es := es151) mixed names specs (ents_cons m27 (ents_cons m131 kk0))) 3000 60 (by kernel_rfl)
-- 211 operations
def es152 : List Ent := [⟨284, a148, r148⟩, ⟨285, a151, r151⟩]
theorem m152 : Valid P 186 a152 r152 := ran (mkE_ok (S := sp) (inl := inl) (own := own) (es := es152) mixed names specs (ents_cons m148 (ents_cons m151 kk0))) 3000 60 (by kernel_rfl)
-- 622 operations
def es153 : List Ent := [⟨455, a18, r18⟩, ⟨453, a19, r19⟩, ⟨267, a109, r109⟩, ⟨236, a113, r113⟩, ⟨522, a127, r127⟩, ⟨503, a130, r130⟩, ⟨407, a132, r132⟩, ⟨311, a146, r146⟩, ⟨284, a148, r148⟩, ⟨522, a149, r149⟩, ⟨436, a150, r150⟩, ⟨285, a151, r151⟩, ⟨186, a152, r152⟩]
theorem m153 : Valid P 304 a153 r153 := ran (mkE_ok (S := sp) (inl := inl) (own := own) (es := es153) mixed names specs (ents_cons m18 (ents_cons m19 (ents_cons m109 (ents_cons m113 (ents_cons m127 (ents_cons m130 (ents_cons m132 (ents_cons m146 (ents_cons m148 (ents_cons m149 (ents_cons m150 (ents_cons m151 (ents_cons m152 kk0)))))))))))))) 3000 60 (by kernel_rfl)
-- 160 operations
def es154 : List Ent := [⟨161, a135, r135⟩, ⟨161, a136, r136⟩, ⟨161, a137, r137⟩, ⟨161, a138, r138⟩, ⟨161, a141, r141⟩]
theorem m154 : Valid P 267 a154 r154 := ran (mkE_ok (S := sp) (inl := inl) (own := own) (es := es154) mixed names specs (ents_cons m135 (ents_cons m136 (ents_cons m137 (ents_cons m138 (ents_cons m141 kk0)))))) 3000 60 (by kernel_rfl)
-- 294 operations
def es155 : List Ent := [⟨57, a12, r12⟩, ⟨95, a13, r13⟩, ⟨138, a27, r27⟩, ⟨267, a154, r154⟩]
theorem m155 : Valid P 207 a155 r155 := ran (mkE_ok (S := sp) (inl := inl) (own := own) (es := es155) mixed names specs (ents_cons m12 (ents_cons m13 (ents_cons m27 (ents_cons m154 kk0))))) 3000 60 (by kernel_rfl)
-- 1974 operations
def es156 : List Ent := [⟨94, a8, r8⟩, ⟨138, a10, r10⟩, ⟨57, a12, r12⟩, ⟨95, a13, r13⟩, ⟨147, a14, r14⟩, ⟨161, a43, r43⟩, ⟨161, a68, r68⟩, ⟨161, a96, r96⟩, ⟨154, a114, r114⟩, ⟨207, a118, r118⟩, ⟨435, a119, r119⟩, ⟨205, a120, r120⟩, ⟨304, a122, r122⟩, ⟨207, a123, r123⟩, ⟨304, a125, r125⟩, ⟨207, a126, r126⟩, ⟨304, a128, r128⟩, ⟨207, a129, r129⟩, ⟨161, a141, r141⟩, ⟨304, a153, r153⟩, ⟨207, a155, r155⟩]
theorem m156 : Valid P 58 a156 r156 := ran (mkE_ok (S := sp) (inl := inl) (own := own) (es := es156) mixed names specs (ents_cons m8 (ents_cons m10 (ents_cons m12 (ents_cons m13 (ents_cons m14 (ents_cons m43 (ents_cons m68 (ents_cons m96 (ents_cons m114 (ents_cons m118 (ents_cons m119 (ents_cons m120 (ents_cons m122 (ents_cons m123 (ents_cons m125 (ents_cons m126 (ents_cons m128 (ents_cons m129 (ents_cons m141 (ents_cons m153 (ents_cons m155 kk0)))))))))))))))))))))) 3000 60 (by kernel_rfl)
-- 149 operations
def es157 : List Ent := [⟨94, a9, r9⟩]
theorem m157 : Valid P 57 a157 r157 := ran (mkE_ok (S := sp) (inl := inl) (own := own) (es := es157) mixed names specs (ents_cons m9 kk0)) 3000 60 (by kernel_rfl)
-- 413 operations
def es158 : List Ent := [⟨57, a157, r157⟩]
theorem m158 : Valid P 61 a158 r158 := ran (mkE_ok (S := sp) (inl := inl) (own := own) (es := es158) mixed names specs (ents_cons m157 kk0)) 3000 60 (by kernel_rfl)
-- 82 operations
def es159 : List Ent := [⟨267, a154, r154⟩]
theorem m159 : Valid P 759 a159 r159 := ran (mkE_ok (S := sp) (inl := inl) (own := own) (es := es159) mixed names specs (ents_cons m154 kk0)) 3000 60 (by kernel_rfl)
-- 150 operations
def es160 : List Ent := []
theorem m160 : Valid P 507 a160 r160 := ran (mkE_ok (S := sp) (inl := inl) (own := own) (es := es160) mixed names specs kk0) 3000 60 (by kernel_rfl)
-- 170 operations
def es161 : List Ent := []
theorem m161 : Valid P 507 a161 r161 := ran (mkE_ok (S := sp) (inl := inl) (own := own) (es := es161) mixed names specs kk0) 3000 60 (by kernel_rfl)
-- 160 operations
def es162 : List Ent := []
theorem m162 : Valid P 507 a162 r162 := ran (mkE_ok (S := sp) (inl := inl) (own := own) (es := es162) mixed names specs kk0) 3000 60 (by kernel_rfl)
-- 155 operations
def es163 : List Ent := [⟨94, a9, r9⟩]
theorem m163 : Valid P 95 a163 r163 := ran (mkE_ok (S := sp) (inl := inl) (own := own) (es := es163) mixed names specs (ents_cons m9 kk0)) 3000 60 (by kernel_rfl)
-- 1609 operations
def es164 : List Ent := [⟨178, a15, r15⟩, ⟨138, a27, r27⟩, ⟨507, a28, r28⟩, ⟨507, a29, r29⟩, ⟨441, a33, r33⟩, ⟨161, a141, r141⟩, ⟨436, a150, r150⟩, ⟨285, a151, r151⟩, ⟨186, a152, r152⟩, ⟨267, a154, r154⟩, ⟨57, a157, r157⟩, ⟨759, a159, r159⟩, ⟨507, a160, r160⟩, ⟨507, a161, r161⟩, ⟨507, a162, r162⟩, ⟨95, a163, r163⟩]
theorem m164 : Valid P 776 a164 r164 := ran (mkE_ok (S := sp) (inl := inl) (own := own) (es := es164) mixed names specs (ents_cons m15 (ents_cons m27 (ents_cons m28 (ents_cons m29 (ents_cons m33 (ents_cons m141 (ents_cons m150 (ents_cons m151 (ents_cons m152 (ents_cons m154 (ents_cons m157 (ents_cons m159 (ents_cons m160 (ents_cons m161 (ents_cons m162 (ents_cons m163 kk0))))))))))))))))) 3000 60 (by kernel_rfl)
-- 839 operations
def es165 : List Ent := [⟨94, a9, r9⟩, ⟨267, a154, r154⟩, ⟨57, a157, r157⟩, ⟨759, a159, r159⟩, ⟨776, a164, r164⟩]
theorem m165 : Valid P 218 a165 r165 := ran (mkE_ok (S := sp) (inl := inl) (own := own) (es := es165) mixed names specs (ents_cons m9 (ents_cons m154 (ents_cons m157 (ents_cons m159 (ents_cons m164 kk0)))))) 3000 60 (by kernel_rfl)
end
end Go.Abs.R50
end
