/- The run. -/
import Derived.Test.YtojknjmcmadhcaaGreatDoorMg
import Derived.KernelRfl

section
namespace Go.Abs.R50
open Go.Proofs
noncomputable section
-- 1752 operations
def es211 : List Ent := [⟨138, a10, r10⟩, ⟨455, a18, r18⟩, ⟨453, a19, r19⟩, ⟨455, a34, r34⟩, ⟨453, a35, r35⟩, ⟨455, a56, r56⟩, ⟨453, a57, r57⟩, ⟨455, a83, r83⟩, ⟨453, a84, r84⟩, ⟨161, a174, r174⟩, ⟨161, a175, r175⟩, ⟨161, a176, r176⟩, ⟨161, a179, r179⟩, ⟨161, a182, r182⟩, ⟨161, a185, r185⟩, ⟨290, a197, r197⟩, ⟨267, a200, r200⟩, ⟨166, a204, r204⟩, ⟨300, a208, r208⟩, ⟨295, a209, r209⟩, ⟨296, a210, r210⟩]
theorem m211 : Valid P 112 a211 r211 := ran (mkE_ok (S := sp) (inl := inl) (own := own) (es := es211) mixed names specs (ents_cons m10 (ents_cons m18 (ents_cons m19 (ents_cons m34 (ents_cons m35 (ents_cons m56 (ents_cons m57 (ents_cons m83 (ents_cons m84 (ents_cons m174 (ents_cons m175 (ents_cons m176 (ents_cons m179 (ents_cons m182 (ents_cons m185 (ents_cons m197 (ents_cons m200 (ents_cons m204 (ents_cons m208 (ents_cons m209 (ents_cons m210 kk0)))))))))))))))))))))) 3000 60 (by kernel_rfl)
-- 409 operations
def es212 : List Ent := []
theorem m212 : Valid P 115 a212 r212 := ran (mkE_ok (S := sp) (inl := inl) (own := own) (es := es212) mixed names specs kk0) 3000 60 (by kernel_rfl)
-- 1594 operations
def es213 : List Ent := [⟨115, a212, r212⟩]
theorem m213 : Valid P 79 a213 r213 := ran (mkE_ok (S := sp) (inl := inl) (own := own) (es := es213) mixed names specs (ents_cons m212 kk0)) 3000 60 (by kernel_rfl)
-- 474 operations
def es214 : List Ent := [⟨138, a10, r10⟩, ⟨57, a157, r157⟩, ⟨95, a163, r163⟩, ⟨166, a204, r204⟩, ⟨112, a211, r211⟩, ⟨79, a213, r213⟩]
theorem m214 : Valid P 59 a214 r214 := ran (mkE_ok (S := sp) (inl := inl) (own := own) (es := es214) mixed names specs (ents_cons m10 (ents_cons m157 (ents_cons m163 (ents_cons m204 (ents_cons m211 (ents_cons m213 kk0))))))) 3000 60 (by kernel_rfl)
-- 258 operations
def es215 : List Ent := []
theorem m215 : Valid P 20 a215 r215 := ran (mkE_ok (S := sp) (inl := inl) (own := own) (es := es215) mixed names specs kk0) 3000 60 (by kernel_rfl)
-- 258 operations
def es216 : List Ent := []
theorem m216 : Valid P 20 a216 r216 := ran (mkE_ok (S := sp) (inl := inl) (own := own) (es := es216) mixed names specs kk0) 3000 60 (by kernel_rfl)
-- 258 operations
def es217 : List Ent := []
theorem m217 : Valid P 20 a217 r217 := ran (mkE_ok (S := sp) (inl := inl) (own := own) (es := es217) mixed names specs kk0) 3000 60 (by kernel_rfl)
-- 1867 operations
def es218 : List Ent := [⟨6, a7, r7⟩, ⟨55, a11, r11⟩, ⟨57, a12, r12⟩, ⟨95, a13, r13⟩, ⟨58, a156, r156⟩, ⟨57, a157, r157⟩, ⟨61, a158, r158⟩, ⟨61, a203, r203⟩, ⟨59, a214, r214⟩, ⟨20, a215, r215⟩, ⟨20, a216, r216⟩, ⟨20, a217, r217⟩]
theorem m218 : Valid P 14 a218 r218 := ran (mkE_ok (S := sp) (inl := inl) (own := own) (es := es218) mixed names specs (ents_cons m7 (ents_cons m11 (ents_cons m12 (ents_cons m13 (ents_cons m156 (ents_cons m157 (ents_cons m158 (ents_cons m203 (ents_cons m214 (ents_cons m215 (ents_cons m216 (ents_cons m217 kk0))))))))))))) 3000 60 (by kernel_rfl)
-- 335 operations
def es219 : List Ent := [⟨14, a218, r218⟩]
theorem m219 : Valid P 5 a219 r219 := ran (mkE_ok (S := sp) (inl := inl) (own := own) (es := es219) mixed names specs (ents_cons m218 kk0)) 3000 60 (by kernel_rfl)
end
end Go.Abs.R50
end
