/- The run. -/
import Derived.Test.YtojknjmcmadhcaaGreatDoorMf
import Derived.KernelRfl

section
namespace Go.Abs.R50
open Go.Proofs
noncomputable section
-- 192 operations
def es197 : List Ent := [⟨138, a10, r10⟩, ⟨161, a174, r174⟩, ⟨161, a175, r175⟩, ⟨161, a176, r176⟩, ⟨161, a179, r179⟩, ⟨161, a182, r182⟩, ⟨161, a185, r185⟩, ⟨436, a193, r193⟩]
theorem m197 : Valid P 290 a197 r197 := ran (mkE_ok (S := sp) (inl := inl) (own := own) (es := es197) mixed names specs (ents_cons m10 (ents_cons m174 (ents_cons m175 (ents_cons m176 (ents_cons m179 (ents_cons m182 (ents_cons m185 (ents_cons m193 kk0))))))))) 3000 60 (by kernel_rfl)
-- 1449 operations
def es198 : List Ent := [⟨290, a197, r197⟩]
theorem m198 : Valid P 790 a198 r198 := ran (mkE_ok (S := sp) (inl := inl) (own := own) (es := es198) mixed names specs (ents_cons m197 kk0)) 3000 60 (by kernel_rfl)
-- 1455 operations
def es199 : List Ent := [⟨57, a157, r157⟩, ⟨759, a159, r159⟩, ⟨161, a174, r174⟩, ⟨161, a175, r175⟩, ⟨161, a176, r176⟩, ⟨161, a179, r179⟩, ⟨161, a182, r182⟩, ⟨161, a185, r185⟩, ⟨304, a196, r196⟩, ⟨790, a198, r198⟩]
theorem m199 : Valid P 786 a199 r199 := ran (mkE_ok (S := sp) (inl := inl) (own := own) (es := es199) mixed names specs (ents_cons m157 (ents_cons m159 (ents_cons m174 (ents_cons m175 (ents_cons m176 (ents_cons m179 (ents_cons m182 (ents_cons m185 (ents_cons m196 (ents_cons m198 kk0))))))))))) 3000 60 (by kernel_rfl)
-- 189 operations
def es200 : List Ent := [⟨161, a174, r174⟩, ⟨161, a175, r175⟩, ⟨161, a176, r176⟩, ⟨161, a179, r179⟩, ⟨161, a182, r182⟩, ⟨161, a185, r185⟩]
theorem m200 : Valid P 267 a200 r200 := ran (mkE_ok (S := sp) (inl := inl) (own := own) (es := es200) mixed names specs (ents_cons m174 (ents_cons m175 (ents_cons m176 (ents_cons m179 (ents_cons m182 (ents_cons m185 kk0))))))) 3000 60 (by kernel_rfl)
-- 1406 operations
def es201 : List Ent := [⟨94, a9, r9⟩, ⟨57, a12, r12⟩, ⟨95, a13, r13⟩, ⟨138, a27, r27⟩, ⟨207, a155, r155⟩, ⟨57, a157, r157⟩, ⟨759, a159, r159⟩, ⟨95, a163, r163⟩, ⟨161, a185, r185⟩, ⟨786, a199, r199⟩, ⟨267, a200, r200⟩]
theorem m201 : Valid P 218 a201 r201 := ran (mkE_ok (S := sp) (inl := inl) (own := own) (es := es201) mixed names specs (ents_cons m9 (ents_cons m12 (ents_cons m13 (ents_cons m27 (ents_cons m155 (ents_cons m157 (ents_cons m159 (ents_cons m163 (ents_cons m185 (ents_cons m199 (ents_cons m200 kk0)))))))))))) 3000 60 (by kernel_rfl)
-- 1442 operations
def es202 : List Ent := [⟨94, a8, r8⟩, ⟨178, a15, r15⟩, ⟨304, a117, r117⟩, ⟨304, a122, r122⟩, ⟨304, a125, r125⟩, ⟨304, a128, r128⟩, ⟨304, a153, r153⟩, ⟨243, a195, r195⟩, ⟨304, a196, r196⟩]
theorem m202 : Valid P 218 a202 r202 := ran (mkE_ok (S := sp) (inl := inl) (own := own) (es := es202) mixed names specs (ents_cons m8 (ents_cons m15 (ents_cons m117 (ents_cons m122 (ents_cons m125 (ents_cons m128 (ents_cons m153 (ents_cons m195 (ents_cons m196 kk0)))))))))) 3000 60 (by kernel_rfl)
-- 999 operations
def es203 : List Ent := [⟨94, a8, r8⟩, ⟨455, a34, r34⟩, ⟨453, a35, r35⟩, ⟨298, a36, r36⟩, ⟨218, a165, r165⟩, ⟨454, a166, r166⟩, ⟨453, a167, r167⟩, ⟨218, a201, r201⟩, ⟨218, a202, r202⟩]
theorem m203 : Valid P 61 a203 r203 := ran (mkE_ok (S := sp) (inl := inl) (own := own) (es := es203) mixed names specs (ents_cons m8 (ents_cons m34 (ents_cons m35 (ents_cons m36 (ents_cons m165 (ents_cons m166 (ents_cons m167 (ents_cons m201 (ents_cons m202 kk0)))))))))) 3000 60 (by kernel_rfl)
-- 201 operations
def es204 : List Ent := []
theorem m204 : Valid P 166 a204 r204 := ran (mkE_ok (S := sp) (inl := inl) (own := own) (es := es204) mixed names specs kk0) 3000 60 (by kernel_rfl)
-- 625 operations
def es205 : List Ent := [⟨161, a179, r179⟩, ⟨284, a192, r192⟩, ⟨166, a204, r204⟩]
theorem m205 : Valid P 162 a205 r205 := ran (mkE_ok (S := sp) (inl := inl) (own := own) (es := es205) mixed names specs (ents_cons m179 (ents_cons m192 (ents_cons m204 kk0)))) 3000 60 (by kernel_rfl)
-- 584 operations
def es206 : List Ent := [⟨281, a147, r147⟩, ⟨161, a182, r182⟩, ⟨284, a192, r192⟩, ⟨166, a204, r204⟩]
theorem m206 : Valid P 162 a206 r206 := ran (mkE_ok (S := sp) (inl := inl) (own := own) (es := es206) mixed names specs (ents_cons m147 (ents_cons m182 (ents_cons m192 (ents_cons m204 kk0))))) 3000 60 (by kernel_rfl)
-- 819 operations
def es207 : List Ent := [⟨161, a182, r182⟩, ⟨161, a185, r185⟩, ⟨284, a192, r192⟩, ⟨243, a195, r195⟩]
theorem m207 : Valid P 162 a207 r207 := ran (mkE_ok (S := sp) (inl := inl) (own := own) (es := es207) mixed names specs (ents_cons m182 (ents_cons m185 (ents_cons m192 (ents_cons m195 kk0))))) 3000 60 (by kernel_rfl)
-- 1440 operations
def es208 : List Ent := [⟨161, a174, r174⟩, ⟨161, a175, r175⟩, ⟨161, a176, r176⟩, ⟨284, a192, r192⟩, ⟨166, a204, r204⟩, ⟨162, a205, r205⟩, ⟨162, a206, r206⟩, ⟨162, a207, r207⟩]
theorem m208 : Valid P 300 a208 r208 := ran (mkE_ok (S := sp) (inl := inl) (own := own) (es := es208) mixed names specs (ents_cons m174 (ents_cons m175 (ents_cons m176 (ents_cons m192 (ents_cons m204 (ents_cons m205 (ents_cons m206 (ents_cons m207 kk0))))))))) 3000 60 (by kernel_rfl)
-- 950 operations
def es209 : List Ent := [⟨300, a208, r208⟩]
theorem m209 : Valid P 295 a209 r209 := ran (mkE_ok (S := sp) (inl := inl) (own := own) (es := es209) mixed names specs (ents_cons m208 kk0)) 3000 60 (by kernel_rfl)
-- 529 operations
def es210 : List Ent := []
theorem m210 : Valid P 296 a210 r210 := ran (mkE_ok (S := sp) (inl := inl) (own := own) (es := es210) mixed names specs kk0) 3000 60 (by kernel_rfl)
end
end Go.Abs.R50
end
