/- The run. -/
import Derived.Test.YtojknjmcmadhcaaGreatDoorMe
import Derived.KernelRfl

section
namespace Go.Abs.R50
open Go.Proofs
noncomputable section
-- 1545 operations
def es166 : List Ent := [⟨455, a34, r34⟩]
theorem m166 : Valid P 454 a166 r166 := ran (mkE_ok (S := sp) (inl := inl) (own := own) (es := es166) mixed names specs (ents_cons m34 kk0)) 3000 60 (by kernel_rfl)
-- 1137 operations
def es167 : List Ent := []
theorem m167 : Valid P 453 a167 r167 := ran (mkE_ok (S := sp) (inl := inl) (own := own) (es := es167) mixed names specs kk0) 3000 60 (by kernel_rfl)
-- 288 operations
def es168 : List Ent := [⟨178, a15, r15⟩, ⟨441, a33, r33⟩, ⟨455, a34, r34⟩, ⟨453, a35, r35⟩, ⟨298, a36, r36⟩, ⟨57, a157, r157⟩, ⟨95, a163, r163⟩, ⟨454, a166, r166⟩, ⟨453, a167, r167⟩]
theorem m168 : Valid P 503 a168 r168 := ran (mkE_ok (S := sp) (inl := inl) (own := own) (es := es168) mixed names specs (ents_cons m15 (ents_cons m33 (ents_cons m34 (ents_cons m35 (ents_cons m36 (ents_cons m157 (ents_cons m163 (ents_cons m166 (ents_cons m167 kk0)))))))))) 3000 60 (by kernel_rfl)
-- 102 operations
def es169 : List Ent := []
theorem m169 : Valid P 242 a169 r169 := ran (mkE_ok (S := sp) (inl := inl) (own := own) (es := es169) mixed names specs kk0) 3000 60 (by kernel_rfl)
-- 91 operations
def es170 : List Ent := []
theorem m170 : Valid P 410 a170 r170 := ran (mkE_ok (S := sp) (inl := inl) (own := own) (es := es170) mixed names specs kk0) 3000 60 (by kernel_rfl)
-- 1066 operations
def es171 : List Ent := [⟨410, a170, r170⟩]
theorem m171 : Valid P 407 a171 r171 := ran (mkE_ok (S := sp) (inl := inl) (own := own) (es := es171) mixed names specs (ents_cons m170 kk0)) 3000 60 (by kernel_rfl)
-- 269 operations
def es172 : List Ent := [⟨503, a22, r22⟩, ⟨503, a40, r40⟩, ⟨503, a63, r63⟩, ⟨503, a89, r89⟩, ⟨503, a130, r130⟩, ⟨503, a168, r168⟩]
theorem m172 : Valid P 406 a172 r172 := ran (mkE_ok (S := sp) (inl := inl) (own := own) (es := es172) mixed names specs (ents_cons m22 (ents_cons m40 (ents_cons m63 (ents_cons m89 (ents_cons m130 (ents_cons m168 kk0))))))) 3000 60 (by kernel_rfl)
-- 560 operations
def es173 : List Ent := []
theorem m173 : Valid P 408 a173 r173 := ran (mkE_ok (S := sp) (inl := inl) (own := own) (es := es173) mixed names specs kk0) 3000 60 (by kernel_rfl)
-- 96 operations
def es174 : List Ent := []
theorem m174 : Valid P 161 a174 r174 := ran (mkE_ok (S := sp) (inl := inl) (own := own) (es := es174) mixed names specs kk0) 3000 60 (by kernel_rfl)
-- 42 operations
def es175 : List Ent := []
theorem m175 : Valid P 161 a175 r175 := ran (mkE_ok (S := sp) (inl := inl) (own := own) (es := es175) mixed names specs kk0) 3000 60 (by kernel_rfl)
-- 78 operations
def es176 : List Ent := []
theorem m176 : Valid P 161 a176 r176 := ran (mkE_ok (S := sp) (inl := inl) (own := own) (es := es176) mixed names specs kk0) 3000 60 (by kernel_rfl)
-- 183 operations
def es177 : List Ent := [⟨665, a45, r45⟩, ⟨457, a69, r69⟩, ⟨664, a71, r71⟩, ⟨161, a174, r174⟩, ⟨161, a175, r175⟩]
theorem m177 : Valid P 608 a177 r177 := ran (mkE_ok (S := sp) (inl := inl) (own := own) (es := es177) mixed names specs (ents_cons m45 (ents_cons m69 (ents_cons m71 (ents_cons m174 (ents_cons m175 kk0)))))) 3000 60 (by kernel_rfl)
-- 194 operations
def es178 : List Ent := [⟨665, a45, r45⟩, ⟨457, a69, r69⟩, ⟨665, a70, r70⟩, ⟨161, a174, r174⟩, ⟨161, a175, r175⟩]
theorem m178 : Valid P 609 a178 r178 := ran (mkE_ok (S := sp) (inl := inl) (own := own) (es := es178) mixed names specs (ents_cons m45 (ents_cons m69 (ents_cons m70 (ents_cons m174 (ents_cons m175 kk0)))))) 3000 60 (by kernel_rfl)
-- 60 operations
def es179 : List Ent := []
theorem m179 : Valid P 161 a179 r179 := ran (mkE_ok (S := sp) (inl := inl) (own := own) (es := es179) mixed names specs kk0) 3000 60 (by kernel_rfl)
-- 252 operations
def es180 : List Ent := [⟨665, a45, r45⟩, ⟨664, a71, r71⟩, ⟨457, a97, r97⟩, ⟨664, a99, r99⟩, ⟨161, a174, r174⟩, ⟨161, a175, r175⟩, ⟨161, a176, r176⟩]
theorem m180 : Valid P 608 a180 r180 := ran (mkE_ok (S := sp) (inl := inl) (own := own) (es := es180) mixed names specs (ents_cons m45 (ents_cons m71 (ents_cons m97 (ents_cons m99 (ents_cons m174 (ents_cons m175 (ents_cons m176 kk0)))))))) 3000 60 (by kernel_rfl)
-- 218 operations
def es181 : List Ent := [⟨665, a45, r45⟩, ⟨665, a70, r70⟩, ⟨457, a97, r97⟩, ⟨665, a98, r98⟩, ⟨161, a174, r174⟩, ⟨161, a175, r175⟩, ⟨161, a176, r176⟩]
theorem m181 : Valid P 609 a181 r181 := ran (mkE_ok (S := sp) (inl := inl) (own := own) (es := es181) mixed names specs (ents_cons m45 (ents_cons m70 (ents_cons m97 (ents_cons m98 (ents_cons m174 (ents_cons m175 (ents_cons m176 kk0)))))))) 3000 60 (by kernel_rfl)
-- 132 operations
def es182 : List Ent := []
theorem m182 : Valid P 161 a182 r182 := ran (mkE_ok (S := sp) (inl := inl) (own := own) (es := es182) mixed names specs kk0) 3000 60 (by kernel_rfl)
-- 252 operations
def es183 : List Ent := [⟨665, a45, r45⟩, ⟨664, a71, r71⟩, ⟨664, a99, r99⟩, ⟨457, a142, r142⟩, ⟨161, a174, r174⟩, ⟨161, a175, r175⟩, ⟨161, a176, r176⟩]
theorem m183 : Valid P 608 a183 r183 := ran (mkE_ok (S := sp) (inl := inl) (own := own) (es := es183) mixed names specs (ents_cons m45 (ents_cons m71 (ents_cons m99 (ents_cons m142 (ents_cons m174 (ents_cons m175 (ents_cons m176 kk0)))))))) 3000 60 (by kernel_rfl)
-- 218 operations
def es184 : List Ent := [⟨665, a45, r45⟩, ⟨665, a70, r70⟩, ⟨665, a98, r98⟩, ⟨457, a142, r142⟩, ⟨161, a174, r174⟩, ⟨161, a175, r175⟩, ⟨161, a176, r176⟩]
theorem m184 : Valid P 609 a184 r184 := ran (mkE_ok (S := sp) (inl := inl) (own := own) (es := es184) mixed names specs (ents_cons m45 (ents_cons m70 (ents_cons m98 (ents_cons m142 (ents_cons m174 (ents_cons m175 (ents_cons m176 kk0)))))))) 3000 60 (by kernel_rfl)
-- 114 operations
def es185 : List Ent := []
theorem m185 : Valid P 161 a185 r185 := ran (mkE_ok (S := sp) (inl := inl) (own := own) (es := es185) mixed names specs kk0) 3000 60 (by kernel_rfl)
-- 114 operations
def es186 : List Ent := [⟨507, a28, r28⟩, ⟨507, a29, r29⟩, ⟨507, a160, r160⟩, ⟨507, a161, r161⟩, ⟨507, a162, r162⟩]
theorem m186 : Valid P 457 a186 r186 := ran (mkE_ok (S := sp) (inl := inl) (own := own) (es := es186) mixed names specs (ents_cons m28 (ents_cons m29 (ents_cons m160 (ents_cons m161 (ents_cons m162 kk0)))))) 3000 60 (by kernel_rfl)
-- 426 operations
def es187 : List Ent := [⟨665, a45, r45⟩, ⟨665, a98, r98⟩, ⟨161, a174, r174⟩, ⟨161, a176, r176⟩, ⟨161, a179, r179⟩, ⟨457, a186, r186⟩]
theorem m187 : Valid P 608 a187 r187 := ran (mkE_ok (S := sp) (inl := inl) (own := own) (es := es187) mixed names specs (ents_cons m45 (ents_cons m98 (ents_cons m174 (ents_cons m176 (ents_cons m179 (ents_cons m186 kk0))))))) 3000 60 (by kernel_rfl)
-- 345 operations
def es188 : List Ent := [⟨665, a45, r45⟩, ⟨665, a98, r98⟩, ⟨161, a174, r174⟩, ⟨161, a176, r176⟩, ⟨161, a179, r179⟩, ⟨457, a186, r186⟩]
theorem m188 : Valid P 609 a188 r188 := ran (mkE_ok (S := sp) (inl := inl) (own := own) (es := es188) mixed names specs (ents_cons m45 (ents_cons m98 (ents_cons m174 (ents_cons m176 (ents_cons m179 (ents_cons m186 kk0))))))) 3000 60 (by kernel_rfl)
-- 295 operations
def es189 : List Ent := []
theorem m189 : Valid P 311 a189 r189 := ran (mkE_ok (S := sp) (inl := inl) (own := own) (es := es189) mixed names specs kk0) 3000 60 (by kernel_rfl)
-- 338 operations
def es190 : List Ent := []
theorem m190 : Valid P 311 a190 r190 := ran (mkE_ok (S := sp) (inl := inl) (own := own) (es := es190) mixed names specs kk0) 3000 60 (by kernel_rfl)
-- 194 operations
def es191 : List Ent := []
theorem m191 : Valid P 507 a191 r191 := ran (mkE_ok (S := sp) (inl := inl) (own := own) (es := es191) mixed names specs kk0) 3000 60 (by kernel_rfl)
-- 1933 operations
def es192 : List Ent := [⟨457, a23, r23⟩, ⟨311, a24, r24⟩, ⟨507, a25, r25⟩, ⟨457, a44, r44⟩, ⟨665, a45, r45⟩, ⟨311, a46, r46⟩, ⟨507, a47, r47⟩, ⟨311, a72, r72⟩, ⟨507, a73, r73⟩, ⟨311, a102, r102⟩, ⟨507, a103, r103⟩, ⟨311, a145, r145⟩, ⟨311, a146, r146⟩, ⟨281, a147, r147⟩, ⟨407, a171, r171⟩, ⟨406, a172, r172⟩, ⟨408, a173, r173⟩, ⟨161, a174, r174⟩, ⟨161, a175, r175⟩, ⟨161, a176, r176⟩, ⟨608, a177, r177⟩, ⟨609, a178, r178⟩, ⟨161, a179, r179⟩, ⟨608, a180, r180⟩, ⟨609, a181, r181⟩, ⟨161, a182, r182⟩, ⟨608, a183, r183⟩, ⟨609, a184, r184⟩, ⟨161, a185, r185⟩, ⟨608, a187, r187⟩, ⟨609, a188, r188⟩, ⟨311, a189, r189⟩, ⟨311, a190, r190⟩, ⟨507, a191, r191⟩]
theorem m192 : Valid P 284 a192 r192 := ran (mkE_ok (S := sp) (inl := inl) (own := own) (es := es192) mixed names specs (ents_cons m23 (ents_cons m24 (ents_cons m25 (ents_cons m44 (ents_cons m45 (ents_cons m46 (ents_cons m47 (ents_cons m72 (ents_cons m73 (ents_cons m102 (ents_cons m103 (ents_cons m145 (ents_cons m146 (ents_cons m147 (ents_cons m171 (ents_cons m172 (ents_cons m173 (ents_cons m174 (ents_cons m175 (ents_cons m176 (ents_cons m177 (ents_cons m178 (ents_cons m179 (ents_cons m180 (ents_cons m181 (ents_cons m182 (ents_cons m183 (ents_cons m184 (ents_cons m185 (ents_cons m187 (ents_cons m188 (ents_cons m189 (ents_cons m190 (ents_cons m191 kk0))))))))))))))))))))))))))))))))))) 3000 60 (by kernel_rfl)
-- 204 operations
def es193 : List Ent := [⟨284, a192, r192⟩]
theorem m193 : Valid P 436 a193 r193 := ran (mkE_ok (S := sp) (inl := inl) (own := own) (es := es193) mixed names specs (ents_cons m192 kk0)) 3000 60 (by kernel_rfl)
-- 336 operations
def es194 : List Ent := [⟨138, a27, r27⟩, ⟨410, a170, r170⟩]
theorem m194 : Valid P 285 a194 r194 := ran (mkE_ok (S := sp) (inl := inl) (own := own) (es := es194) mixed names specs (ents_cons m27 (ents_cons m170 kk0))) 3000 60 (by kernel_rfl)
-- 74 operations
def es195 : List Ent := []
theorem m195 : Valid P 243 a195 r195 := ran (mkE_ok (S := sp) (inl := inl) (own := own) (es := es195) mixed names specs kk0) 3000 60 (by kernel_rfl)
-- 1201 operations
def es196 : List Ent := [⟨455, a34, r34⟩, ⟨453, a35, r35⟩, ⟨522, a149, r149⟩, ⟨267, a154, r154⟩, ⟨503, a168, r168⟩, ⟨242, a169, r169⟩, ⟨407, a171, r171⟩, ⟨311, a190, r190⟩, ⟨284, a192, r192⟩, ⟨436, a193, r193⟩, ⟨285, a194, r194⟩, ⟨243, a195, r195⟩]
theorem m196 : Valid P 304 a196 r196 := ran (mkE_ok (S := sp) (inl := inl) (own := own) (es := es196) mixed names specs (ents_cons m34 (ents_cons m35 (ents_cons m149 (ents_cons m154 (ents_cons m168 (ents_cons m169 (ents_cons m171 (ents_cons m190 (ents_cons m192 (ents_cons m193 (ents_cons m194 (ents_cons m195 kk0))))))))))))) 3000 60 (by kernel_rfl)
end
end Go.Abs.R50
end
