/- The run. -/
import Derived.Test.YthbenojbjjgnaaaGreatUBx
import Derived.KernelRfl
set_option linter.unusedVariables false
set_option linter.unusedSimpArgs false
set_option linter.unusedSectionVars false
namespace Go.Abs.RL
open Go.Proofs
noncomputable section
def es82 : List Ent := [⟨50,a76,r76⟩,⟨50,a77,r77⟩,⟨50,a78,r78⟩]
theorem m82 : Valid P 505 a82 r82 := ran (mkE_ok (S := sp) (inl := inl) (own := own) (es := es82) mixed names specs (ents_cons m76 (ents_cons m77 (ents_cons m78 kk0)))) 3000 60 (by kernel_rfl)
def es83 : List Ent := []
theorem m83 : Valid P 215 a83 r83 := ran (mkE_ok (S := sp) (inl := inl) (own := own) (es := es83) mixed names specs kk0) 3000 60 (by kernel_rfl)
def es84 : List Ent := [⟨50,a76,r76⟩,⟨50,a77,r77⟩,⟨50,a78,r78⟩]
theorem m84 : Valid P 138 a84 r84 := ran (mkE_ok (S := sp) (inl := inl) (own := own) (es := es84) mixed names specs (ents_cons m76 (ents_cons m77 (ents_cons m78 kk0)))) 3000 60 (by kernel_rfl)
def es85 : List Ent := []
theorem m85 : Valid P 215 a85 r85 := ran (mkE_ok (S := sp) (inl := inl) (own := own) (es := es85) mixed names specs kk0) 3000 60 (by kernel_rfl)
def es86 : List Ent := [⟨123,a48,r48⟩,⟨493,a58,r58⟩,⟨493,a59,r59⟩,⟨215,a60,r60⟩,⟨493,a61,r61⟩,⟨215,a64,r64⟩,⟨493,a65,r65⟩,⟨212,a73,r73⟩,⟨392,a74,r74⟩,⟨393,a75,r75⟩,⟨50,a76,r76⟩,⟨50,a77,r77⟩,⟨50,a78,r78⟩,⟨504,a79,r79⟩,⟨504,a80,r80⟩,⟨504,a81,r81⟩,⟨505,a82,r82⟩,⟨215,a83,r83⟩,⟨138,a84,r84⟩,⟨215,a85,r85⟩]
theorem m86 : Valid P 288 a86 r86 := ran (mkE_ok (S := sp) (inl := inl) (own := own) (es := es86) mixed names specs (ents_cons m48 (ents_cons m58 (ents_cons m59 (ents_cons m60 (ents_cons m61 (ents_cons m64 (ents_cons m65 (ents_cons m73 (ents_cons m74 (ents_cons m75 (ents_cons m76 (ents_cons m77 (ents_cons m78 (ents_cons m79 (ents_cons m80 (ents_cons m81 (ents_cons m82 (ents_cons m83 (ents_cons m84 (ents_cons m85 kk0))))))))))))))))))))) 3000 60 (by kernel_rfl)
def es87 : List Ent := [⟨92,a45,r45⟩,⟨447,a46,r46⟩,⟨123,a48,r48⟩,⟨288,a67,r67⟩,⟨138,a68,r68⟩,⟨207,a69,r69⟩,⟨205,a70,r70⟩,⟨241,a71,r71⟩,⟨208,a72,r72⟩,⟨212,a73,r73⟩,⟨215,a85,r85⟩,⟨288,a86,r86⟩]
theorem m87 : Valid P 62 a87 r87 := ran (mkE_ok (S := sp) (inl := inl) (own := own) (es := es87) mixed names specs (ents_cons m45 (ents_cons m46 (ents_cons m48 (ents_cons m67 (ents_cons m68 (ents_cons m69 (ents_cons m70 (ents_cons m71 (ents_cons m72 (ents_cons m73 (ents_cons m85 (ents_cons m86 kk0))))))))))))) 3000 60 (by kernel_rfl)
def es88 : List Ent := [⟨92,a45,r45⟩,⟨447,a46,r46⟩,⟨288,a67,r67⟩,⟨138,a68,r68⟩]
theorem m88 : Valid P 62 a88 r88 := ran (mkE_ok (S := sp) (inl := inl) (own := own) (es := es88) mixed names specs (ents_cons m45 (ents_cons m46 (ents_cons m67 (ents_cons m68 kk0))))) 3000 60 (by kernel_rfl)
def es89 : List Ent := [⟨61,a44,r44⟩,⟨123,a48,r48⟩,⟨50,a56,r56⟩,⟨50,a57,r57⟩,⟨288,a67,r67⟩,⟨138,a68,r68⟩,⟨50,a76,r76⟩,⟨50,a77,r77⟩,⟨50,a78,r78⟩,⟨62,a87,r87⟩,⟨62,a88,r88⟩]
theorem m89 : Valid P 20 a89 r89 := ran (mkE_ok (S := sp) (inl := inl) (own := own) (es := es89) mixed names specs (ents_cons m44 (ents_cons m48 (ents_cons m56 (ents_cons m57 (ents_cons m67 (ents_cons m68 (ents_cons m76 (ents_cons m77 (ents_cons m78 (ents_cons m87 (ents_cons m88 kk0)))))))))))) 3000 60 (by kernel_rfl)
end
end Go.Abs.RL
