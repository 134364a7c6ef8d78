/- The run. -/
import Derived.Test.YthbenojbjjgnaaaGreatUBw
import Derived.KernelRfl
set_option linter.unusedVariables false
set_option linter.unusedSimpArgs false
set_option linter.unusedSectionVars false
namespace Go.Abs.RL
open Go.Proofs
noncomputable section
def es54 : List Ent := []
theorem m54 : Valid P 212 a54 r54 := ran (mkE_ok (S := sp) (inl := inl) (own := own) (es := es54) mixed names specs kk0) 3000 60 (by kernel_rfl)
def es55 : List Ent := []
theorem m55 : Valid P 393 a55 r55 := ran (mkE_ok (S := sp) (inl := inl) (own := own) (es := es55) mixed names specs kk0) 3000 60 (by kernel_rfl)
def es56 : List Ent := []
theorem m56 : Valid P 50 a56 r56 := ran (mkE_ok (S := sp) (inl := inl) (own := own) (es := es56) mixed names specs kk0) 3000 60 (by kernel_rfl)
def es57 : List Ent := []
theorem m57 : Valid P 50 a57 r57 := ran (mkE_ok (S := sp) (inl := inl) (own := own) (es := es57) mixed names specs kk0) 3000 60 (by kernel_rfl)
def es58 : List Ent := []
theorem m58 : Valid P 493 a58 r58 := ran (mkE_ok (S := sp) (inl := inl) (own := own) (es := es58) mixed names specs kk0) 3000 60 (by kernel_rfl)
def es59 : List Ent := []
theorem m59 : Valid P 493 a59 r59 := ran (mkE_ok (S := sp) (inl := inl) (own := own) (es := es59) mixed names specs kk0) 3000 60 (by kernel_rfl)
def es60 : List Ent := []
theorem m60 : Valid P 215 a60 r60 := ran (mkE_ok (S := sp) (inl := inl) (own := own) (es := es60) mixed names specs kk0) 3000 60 (by kernel_rfl)
def es61 : List Ent := []
theorem m61 : Valid P 493 a61 r61 := ran (mkE_ok (S := sp) (inl := inl) (own := own) (es := es61) mixed names specs kk0) 3000 60 (by kernel_rfl)
def es62 : List Ent := [⟨50,a56,r56⟩,⟨50,a57,r57⟩,⟨493,a61,r61⟩]
theorem m62 : Valid P 504 a62 r62 := ran (mkE_ok (S := sp) (inl := inl) (own := own) (es := es62) mixed names specs (ents_cons m56 (ents_cons m57 (ents_cons m61 kk0)))) 3000 60 (by kernel_rfl)
def es63 : List Ent := [⟨50,a56,r56⟩,⟨50,a57,r57⟩,⟨493,a61,r61⟩]
theorem m63 : Valid P 505 a63 r63 := ran (mkE_ok (S := sp) (inl := inl) (own := own) (es := es63) mixed names specs (ents_cons m56 (ents_cons m57 (ents_cons m61 kk0)))) 3000 60 (by kernel_rfl)
def es64 : List Ent := []
theorem m64 : Valid P 215 a64 r64 := ran (mkE_ok (S := sp) (inl := inl) (own := own) (es := es64) mixed names specs kk0) 3000 60 (by kernel_rfl)
def es65 : List Ent := []
theorem m65 : Valid P 493 a65 r65 := ran (mkE_ok (S := sp) (inl := inl) (own := own) (es := es65) mixed names specs kk0) 3000 60 (by kernel_rfl)
def es66 : List Ent := [⟨50,a56,r56⟩,⟨50,a57,r57⟩,⟨493,a65,r65⟩]
theorem m66 : Valid P 504 a66 r66 := ran (mkE_ok (S := sp) (inl := inl) (own := own) (es := es66) mixed names specs (ents_cons m56 (ents_cons m57 (ents_cons m65 kk0)))) 3000 60 (by kernel_rfl)
def es67 : List Ent := [⟨123,a48,r48⟩,⟨209,a49,r49⟩,⟨209,a50,r50⟩,⟨209,a51,r51⟩,⟨209,a52,r52⟩,⟨209,a53,r53⟩,⟨212,a54,r54⟩,⟨393,a55,r55⟩,⟨50,a56,r56⟩,⟨50,a57,r57⟩,⟨493,a58,r58⟩,⟨493,a59,r59⟩,⟨215,a60,r60⟩,⟨504,a62,r62⟩,⟨505,a63,r63⟩,⟨215,a64,r64⟩,⟨493,a65,r65⟩,⟨504,a66,r66⟩]
theorem m67 : Valid P 288 a67 r67 := ran (mkE_ok (S := sp) (inl := inl) (own := own) (es := es67) mixed names specs (ents_cons m48 (ents_cons m49 (ents_cons m50 (ents_cons m51 (ents_cons m52 (ents_cons m53 (ents_cons m54 (ents_cons m55 (ents_cons m56 (ents_cons m57 (ents_cons m58 (ents_cons m59 (ents_cons m60 (ents_cons m62 (ents_cons m63 (ents_cons m64 (ents_cons m65 (ents_cons m66 kk0))))))))))))))))))) 3000 60 (by kernel_rfl)
def es68 : List Ent := [⟨50,a56,r56⟩,⟨50,a57,r57⟩]
theorem m68 : Valid P 138 a68 r68 := ran (mkE_ok (S := sp) (inl := inl) (own := own) (es := es68) mixed names specs (ents_cons m56 (ents_cons m57 kk0))) 3000 60 (by kernel_rfl)
def es69 : List Ent := []
theorem m69 : Valid P 207 a69 r69 := ran (mkE_ok (S := sp) (inl := inl) (own := own) (es := es69) mixed names specs kk0) 3000 60 (by kernel_rfl)
def es70 : List Ent := []
theorem m70 : Valid P 205 a70 r70 := ran (mkE_ok (S := sp) (inl := inl) (own := own) (es := es70) mixed names specs kk0) 3000 60 (by kernel_rfl)
def es71 : List Ent := [⟨92,a45,r45⟩,⟨447,a46,r46⟩,⟨123,a48,r48⟩,⟨288,a67,r67⟩,⟨138,a68,r68⟩,⟨207,a69,r69⟩,⟨205,a70,r70⟩]
theorem m71 : Valid P 241 a71 r71 := ran (mkE_ok (S := sp) (inl := inl) (own := own) (es := es71) mixed names specs (ents_cons m45 (ents_cons m46 (ents_cons m48 (ents_cons m67 (ents_cons m68 (ents_cons m69 (ents_cons m70 kk0)))))))) 3000 60 (by kernel_rfl)
def es72 : List Ent := []
theorem m72 : Valid P 208 a72 r72 := ran (mkE_ok (S := sp) (inl := inl) (own := own) (es := es72) mixed names specs kk0) 3000 60 (by kernel_rfl)
def es73 : List Ent := []
theorem m73 : Valid P 212 a73 r73 := ran (mkE_ok (S := sp) (inl := inl) (own := own) (es := es73) mixed names specs kk0) 3000 60 (by kernel_rfl)
def es74 : List Ent := [⟨92,a45,r45⟩,⟨447,a46,r46⟩,⟨123,a48,r48⟩,⟨209,a49,r49⟩,⟨209,a50,r50⟩,⟨209,a51,r51⟩,⟨209,a52,r52⟩,⟨209,a53,r53⟩,⟨207,a69,r69⟩,⟨205,a70,r70⟩,⟨208,a72,r72⟩]
theorem m74 : Valid P 392 a74 r74 := ran (mkE_ok (S := sp) (inl := inl) (own := own) (es := es74) mixed names specs (ents_cons m45 (ents_cons m46 (ents_cons m48 (ents_cons m49 (ents_cons m50 (ents_cons m51 (ents_cons m52 (ents_cons m53 (ents_cons m69 (ents_cons m70 (ents_cons m72 kk0)))))))))))) 3000 60 (by kernel_rfl)
def es75 : List Ent := []
theorem m75 : Valid P 393 a75 r75 := ran (mkE_ok (S := sp) (inl := inl) (own := own) (es := es75) mixed names specs kk0) 3000 60 (by kernel_rfl)
def es76 : List Ent := []
theorem m76 : Valid P 50 a76 r76 := ran (mkE_ok (S := sp) (inl := inl) (own := own) (es := es76) mixed names specs kk0) 3000 60 (by kernel_rfl)
def es77 : List Ent := []
theorem m77 : Valid P 50 a77 r77 := ran (mkE_ok (S := sp) (inl := inl) (own := own) (es := es77) mixed names specs kk0) 3000 60 (by kernel_rfl)
def es78 : List Ent := []
theorem m78 : Valid P 50 a78 r78 := ran (mkE_ok (S := sp) (inl := inl) (own := own) (es := es78) mixed names specs kk0) 3000 60 (by kernel_rfl)
def es79 : List Ent := [⟨493,a61,r61⟩,⟨50,a76,r76⟩,⟨50,a77,r77⟩,⟨50,a78,r78⟩]
theorem m79 : Valid P 504 a79 r79 := ran (mkE_ok (S := sp) (inl := inl) (own := own) (es := es79) mixed names specs (ents_cons m61 (ents_cons m76 (ents_cons m77 (ents_cons m78 kk0))))) 3000 60 (by kernel_rfl)
def es80 : List Ent := [⟨493,a65,r65⟩,⟨50,a76,r76⟩,⟨50,a77,r77⟩,⟨50,a78,r78⟩]
theorem m80 : Valid P 504 a80 r80 := ran (mkE_ok (S := sp) (inl := inl) (own := own) (es := es80) mixed names specs (ents_cons m65 (ents_cons m76 (ents_cons m77 (ents_cons m78 kk0))))) 3000 60 (by kernel_rfl)
def es81 : List Ent := [⟨50,a76,r76⟩,⟨50,a77,r77⟩,⟨50,a78,r78⟩]
theorem m81 : Valid P 504 a81 r81 := ran (mkE_ok (S := sp) (inl := inl) (own := own) (es := es81) mixed names specs (ents_cons m76 (ents_cons m77 (ents_cons m78 kk0)))) 3000 60 (by kernel_rfl)
end
end Go.Abs.RL
