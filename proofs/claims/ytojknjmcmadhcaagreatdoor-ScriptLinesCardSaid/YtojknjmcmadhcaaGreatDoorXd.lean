/- Names of functions; words that the translation bears. -/
import Derived.Test.YtojknjmcmadhcaaGreatDoorXc
import Derived.LaidByTextLater

section
namespace Go.Proofs.R50.F

set_option maxRecDepth 100000 in
theorem nv0 : (List.range' 0 20).filter (fun i => (Tryz.prog.funcs[i]?).any (·.name == "gosem.cut.vars")) = [] := by kernel_rfl
set_option maxRecDepth 100000 in
theorem nv1 : (List.range' 20 20).filter (fun i => (Tryz.prog.funcs[i]?).any (·.name == "gosem.cut.vars")) = [] := by kernel_rfl
set_option maxRecDepth 100000 in
theorem nv2 : (List.range' 40 20).filter (fun i => (Tryz.prog.funcs[i]?).any (·.name == "gosem.cut.vars")) = [] := by kernel_rfl
set_option maxRecDepth 100000 in
theorem nv3 : (List.range' 60 20).filter (fun i => (Tryz.prog.funcs[i]?).any (·.name == "gosem.cut.vars")) = [] := by kernel_rfl
set_option maxRecDepth 100000 in
theorem nv4 : (List.range' 80 20).filter (fun i => (Tryz.prog.funcs[i]?).any (·.name == "gosem.cut.vars")) = [] := by kernel_rfl
set_option maxRecDepth 100000 in
theorem nv5 : (List.range' 100 20).filter (fun i => (Tryz.prog.funcs[i]?).any (·.name == "gosem.cut.vars")) = [] := by kernel_rfl
set_option maxRecDepth 100000 in
theorem nv6 : (List.range' 120 20).filter (fun i => (Tryz.prog.funcs[i]?).any (·.name == "gosem.cut.vars")) = [] := by kernel_rfl
set_option maxRecDepth 100000 in
theorem nv7 : (List.range' 140 20).filter (fun i => (Tryz.prog.funcs[i]?).any (·.name == "gosem.cut.vars")) = [] := by kernel_rfl
set_option maxRecDepth 100000 in
theorem nv8 : (List.range' 160 20).filter (fun i => (Tryz.prog.funcs[i]?).any (·.name == "gosem.cut.vars")) = [] := by kernel_rfl
set_option maxRecDepth 100000 in
theorem nv9 : (List.range' 180 20).filter (fun i => (Tryz.prog.funcs[i]?).any (·.name == "gosem.cut.vars")) = [] := by kernel_rfl
set_option maxRecDepth 100000 in
theorem nv10 : (List.range' 200 20).filter (fun i => (Tryz.prog.funcs[i]?).any (·.name == "gosem.cut.vars")) = [] := by kernel_rfl
set_option maxRecDepth 100000 in
theorem nv11 : (List.range' 220 20).filter (fun i => (Tryz.prog.funcs[i]?).any (·.name == "gosem.cut.vars")) = [] := by kernel_rfl
set_option maxRecDepth 100000 in
theorem nv12 : (List.range' 240 20).filter (fun i => (Tryz.prog.funcs[i]?).any (·.name == "gosem.cut.vars")) = [] := by kernel_rfl
set_option maxRecDepth 100000 in
theorem nv13 : (List.range' 260 20).filter (fun i => (Tryz.prog.funcs[i]?).any (·.name == "gosem.cut.vars")) = [] := by kernel_rfl
set_option maxRecDepth 100000 in
theorem nv14 : (List.range' 280 20).filter (fun i => (Tryz.prog.funcs[i]?).any (·.name == "gosem.cut.vars")) = [] := by kernel_rfl
set_option maxRecDepth 100000 in
theorem nv15 : (List.range' 300 20).filter (fun i => (Tryz.prog.funcs[i]?).any (·.name == "gosem.cut.vars")) = [] := by kernel_rfl
set_option maxRecDepth 100000 in
theorem nv16 : (List.range' 320 20).filter (fun i => (Tryz.prog.funcs[i]?).any (·.name == "gosem.cut.vars")) = [] := by kernel_rfl
set_option maxRecDepth 100000 in
theorem nv17 : (List.range' 340 20).filter (fun i => (Tryz.prog.funcs[i]?).any (·.name == "gosem.cut.vars")) = [] := by kernel_rfl
set_option maxRecDepth 100000 in
theorem nv18 : (List.range' 360 20).filter (fun i => (Tryz.prog.funcs[i]?).any (·.name == "gosem.cut.vars")) = [] := by kernel_rfl
set_option maxRecDepth 100000 in
theorem nv19 : (List.range' 380 20).filter (fun i => (Tryz.prog.funcs[i]?).any (·.name == "gosem.cut.vars")) = [] := by kernel_rfl
set_option maxRecDepth 100000 in
theorem nv20 : (List.range' 400 20).filter (fun i => (Tryz.prog.funcs[i]?).any (·.name == "gosem.cut.vars")) = [] := by kernel_rfl
set_option maxRecDepth 100000 in
theorem nv21 : (List.range' 420 20).filter (fun i => (Tryz.prog.funcs[i]?).any (·.name == "gosem.cut.vars")) = [] := by kernel_rfl
set_option maxRecDepth 100000 in
theorem nv22 : (List.range' 440 20).filter (fun i => (Tryz.prog.funcs[i]?).any (·.name == "gosem.cut.vars")) = [] := by kernel_rfl
set_option maxRecDepth 100000 in
theorem nv23 : (List.range' 460 20).filter (fun i => (Tryz.prog.funcs[i]?).any (·.name == "gosem.cut.vars")) = [] := by kernel_rfl
set_option maxRecDepth 100000 in
theorem nv24 : (List.range' 480 20).filter (fun i => (Tryz.prog.funcs[i]?).any (·.name == "gosem.cut.vars")) = [] := by kernel_rfl
set_option maxRecDepth 100000 in
theorem nv25 : (List.range' 500 20).filter (fun i => (Tryz.prog.funcs[i]?).any (·.name == "gosem.cut.vars")) = [] := by kernel_rfl
set_option maxRecDepth 100000 in
theorem nv26 : (List.range' 520 20).filter (fun i => (Tryz.prog.funcs[i]?).any (·.name == "gosem.cut.vars")) = [] := by kernel_rfl
set_option maxRecDepth 100000 in
theorem nv27 : (List.range' 540 20).filter (fun i => (Tryz.prog.funcs[i]?).any (·.name == "gosem.cut.vars")) = [] := by kernel_rfl
set_option maxRecDepth 100000 in
theorem nv28 : (List.range' 560 20).filter (fun i => (Tryz.prog.funcs[i]?).any (·.name == "gosem.cut.vars")) = [] := by kernel_rfl
set_option maxRecDepth 100000 in
theorem nv29 : (List.range' 580 20).filter (fun i => (Tryz.prog.funcs[i]?).any (·.name == "gosem.cut.vars")) = [] := by kernel_rfl
set_option maxRecDepth 100000 in
theorem nv30 : (List.range' 600 20).filter (fun i => (Tryz.prog.funcs[i]?).any (·.name == "gosem.cut.vars")) = [] := by kernel_rfl
set_option maxRecDepth 100000 in
theorem nv31 : (List.range' 620 20).filter (fun i => (Tryz.prog.funcs[i]?).any (·.name == "gosem.cut.vars")) = [] := by kernel_rfl
set_option maxRecDepth 100000 in
theorem nv32 : (List.range' 640 20).filter (fun i => (Tryz.prog.funcs[i]?).any (·.name == "gosem.cut.vars")) = [] := by kernel_rfl
set_option maxRecDepth 100000 in
theorem nv33 : (List.range' 660 20).filter (fun i => (Tryz.prog.funcs[i]?).any (·.name == "gosem.cut.vars")) = [] := by kernel_rfl
set_option maxRecDepth 100000 in
theorem nv34 : (List.range' 680 20).filter (fun i => (Tryz.prog.funcs[i]?).any (·.name == "gosem.cut.vars")) = [] := by kernel_rfl
set_option maxRecDepth 100000 in
theorem nv35 : (List.range' 700 20).filter (fun i => (Tryz.prog.funcs[i]?).any (·.name == "gosem.cut.vars")) = [] := by kernel_rfl
set_option maxRecDepth 100000 in
theorem nv36 : (List.range' 720 20).filter (fun i => (Tryz.prog.funcs[i]?).any (·.name == "gosem.cut.vars")) = [] := by kernel_rfl
set_option maxRecDepth 100000 in
theorem nv37 : (List.range' 740 20).filter (fun i => (Tryz.prog.funcs[i]?).any (·.name == "gosem.cut.vars")) = [] := by kernel_rfl
set_option maxRecDepth 100000 in
theorem nv38 : (List.range' 760 20).filter (fun i => (Tryz.prog.funcs[i]?).any (·.name == "gosem.cut.vars")) = [] := by kernel_rfl
set_option maxRecDepth 100000 in
theorem nv39 : (List.range' 780 20).filter (fun i => (Tryz.prog.funcs[i]?).any (·.name == "gosem.cut.vars")) = [] := by kernel_rfl
set_option maxRecDepth 100000 in
theorem nv40 : (List.range' 800 14).filter (fun i => (Tryz.prog.funcs[i]?).any (·.name == "gosem.cut.vars")) = [813] := by kernel_rfl
theorem nv : Tryz.prog.funcNamed "gosem.cut.vars" = some 813 := by
 unfold Program.funcNamed
 rw [nfuncs, List.range_eq_range', ranges]
 simp only [List.filter_append, nv0, nv1, nv2, nv3, nv4, nv5, nv6, nv7, nv8, nv9, nv10, nv11, nv12, nv13, nv14, nv15, nv16, nv17, nv18, nv19, nv20, nv21, nv22, nv23, nv24, nv25, nv26, nv27, nv28, nv29, nv30, nv31, nv32, nv33, nv34, nv35, nv36, nv37, nv38, nv39, nv40]
 rfl
set_option maxRecDepth 100000 in
theorem np0 : (List.range' 0 20).filter (fun i => (Tryz.prog.funcs[i]?).any (·.name == "fedchat/fedchatlaw56.ScriptLines")) = [4] := by kernel_rfl
set_option maxRecDepth 100000 in
theorem np1 : (List.range' 20 20).filter (fun i => (Tryz.prog.funcs[i]?).any (·.name == "fedchat/fedchatlaw56.ScriptLines")) = [] := by kernel_rfl
set_option maxRecDepth 100000 in
theorem np2 : (List.range' 40 20).filter (fun i => (Tryz.prog.funcs[i]?).any (·.name == "fedchat/fedchatlaw56.ScriptLines")) = [] := by kernel_rfl
set_option maxRecDepth 100000 in
theorem np3 : (List.range' 60 20).filter (fun i => (Tryz.prog.funcs[i]?).any (·.name == "fedchat/fedchatlaw56.ScriptLines")) = [] := by kernel_rfl
set_option maxRecDepth 100000 in
theorem np4 : (List.range' 80 20).filter (fun i => (Tryz.prog.funcs[i]?).any (·.name == "fedchat/fedchatlaw56.ScriptLines")) = [] := by kernel_rfl
set_option maxRecDepth 100000 in
theorem np5 : (List.range' 100 20).filter (fun i => (Tryz.prog.funcs[i]?).any (·.name == "fedchat/fedchatlaw56.ScriptLines")) = [] := by kernel_rfl
set_option maxRecDepth 100000 in
theorem np6 : (List.range' 120 20).filter (fun i => (Tryz.prog.funcs[i]?).any (·.name == "fedchat/fedchatlaw56.ScriptLines")) = [] := by kernel_rfl
set_option maxRecDepth 100000 in
theorem np7 : (List.range' 140 20).filter (fun i => (Tryz.prog.funcs[i]?).any (·.name == "fedchat/fedchatlaw56.ScriptLines")) = [] := by kernel_rfl
set_option maxRecDepth 100000 in
theorem np8 : (List.range' 160 20).filter (fun i => (Tryz.prog.funcs[i]?).any (·.name == "fedchat/fedchatlaw56.ScriptLines")) = [] := by kernel_rfl
set_option maxRecDepth 100000 in
theorem np9 : (List.range' 180 20).filter (fun i => (Tryz.prog.funcs[i]?).any (·.name == "fedchat/fedchatlaw56.ScriptLines")) = [] := by kernel_rfl
set_option maxRecDepth 100000 in
theorem np10 : (List.range' 200 20).filter (fun i => (Tryz.prog.funcs[i]?).any (·.name == "fedchat/fedchatlaw56.ScriptLines")) = [] := by kernel_rfl
set_option maxRecDepth 100000 in
theorem np11 : (List.range' 220 20).filter (fun i => (Tryz.prog.funcs[i]?).any (·.name == "fedchat/fedchatlaw56.ScriptLines")) = [] := by kernel_rfl
set_option maxRecDepth 100000 in
theorem np12 : (List.range' 240 20).filter (fun i => (Tryz.prog.funcs[i]?).any (·.name == "fedchat/fedchatlaw56.ScriptLines")) = [] := by kernel_rfl
set_option maxRecDepth 100000 in
theorem np13 : (List.range' 260 20).filter (fun i => (Tryz.prog.funcs[i]?).any (·.name == "fedchat/fedchatlaw56.ScriptLines")) = [] := by kernel_rfl
set_option maxRecDepth 100000 in
theorem np14 : (List.range' 280 20).filter (fun i => (Tryz.prog.funcs[i]?).any (·.name == "fedchat/fedchatlaw56.ScriptLines")) = [] := by kernel_rfl
set_option maxRecDepth 100000 in
theorem np15 : (List.range' 300 20).filter (fun i => (Tryz.prog.funcs[i]?).any (·.name == "fedchat/fedchatlaw56.ScriptLines")) = [] := by kernel_rfl
set_option maxRecDepth 100000 in
theorem np16 : (List.range' 320 20).filter (fun i => (Tryz.prog.funcs[i]?).any (·.name == "fedchat/fedchatlaw56.ScriptLines")) = [] := by kernel_rfl
set_option maxRecDepth 100000 in
theorem np17 : (List.range' 340 20).filter (fun i => (Tryz.prog.funcs[i]?).any (·.name == "fedchat/fedchatlaw56.ScriptLines")) = [] := by kernel_rfl
set_option maxRecDepth 100000 in
theorem np18 : (List.range' 360 20).filter (fun i => (Tryz.prog.funcs[i]?).any (·.name == "fedchat/fedchatlaw56.ScriptLines")) = [] := by kernel_rfl
set_option maxRecDepth 100000 in
theorem np19 : (List.range' 380 20).filter (fun i => (Tryz.prog.funcs[i]?).any (·.name == "fedchat/fedchatlaw56.ScriptLines")) = [] := by kernel_rfl
set_option maxRecDepth 100000 in
theorem np20 : (List.range' 400 20).filter (fun i => (Tryz.prog.funcs[i]?).any (·.name == "fedchat/fedchatlaw56.ScriptLines")) = [] := by kernel_rfl
set_option maxRecDepth 100000 in
theorem np21 : (List.range' 420 20).filter (fun i => (Tryz.prog.funcs[i]?).any (·.name == "fedchat/fedchatlaw56.ScriptLines")) = [] := by kernel_rfl
set_option maxRecDepth 100000 in
theorem np22 : (List.range' 440 20).filter (fun i => (Tryz.prog.funcs[i]?).any (·.name == "fedchat/fedchatlaw56.ScriptLines")) = [] := by kernel_rfl
set_option maxRecDepth 100000 in
theorem np23 : (List.range' 460 20).filter (fun i => (Tryz.prog.funcs[i]?).any (·.name == "fedchat/fedchatlaw56.ScriptLines")) = [] := by kernel_rfl
set_option maxRecDepth 100000 in
theorem np24 : (List.range' 480 20).filter (fun i => (Tryz.prog.funcs[i]?).any (·.name == "fedchat/fedchatlaw56.ScriptLines")) = [] := by kernel_rfl
set_option maxRecDepth 100000 in
theorem np25 : (List.range' 500 20).filter (fun i => (Tryz.prog.funcs[i]?).any (·.name == "fedchat/fedchatlaw56.ScriptLines")) = [] := by kernel_rfl
set_option maxRecDepth 100000 in
theorem np26 : (List.range' 520 20).filter (fun i => (Tryz.prog.funcs[i]?).any (·.name == "fedchat/fedchatlaw56.ScriptLines")) = [] := by kernel_rfl
set_option maxRecDepth 100000 in
theorem np27 : (List.range' 540 20).filter (fun i => (Tryz.prog.funcs[i]?).any (·.name == "fedchat/fedchatlaw56.ScriptLines")) = [] := by kernel_rfl
set_option maxRecDepth 100000 in
theorem np28 : (List.range' 560 20).filter (fun i => (Tryz.prog.funcs[i]?).any (·.name == "fedchat/fedchatlaw56.ScriptLines")) = [] := by kernel_rfl
set_option maxRecDepth 100000 in
theorem np29 : (List.range' 580 20).filter (fun i => (Tryz.prog.funcs[i]?).any (·.name == "fedchat/fedchatlaw56.ScriptLines")) = [] := by kernel_rfl
set_option maxRecDepth 100000 in
theorem np30 : (List.range' 600 20).filter (fun i => (Tryz.prog.funcs[i]?).any (·.name == "fedchat/fedchatlaw56.ScriptLines")) = [] := by kernel_rfl
set_option maxRecDepth 100000 in
theorem np31 : (List.range' 620 20).filter (fun i => (Tryz.prog.funcs[i]?).any (·.name == "fedchat/fedchatlaw56.ScriptLines")) = [] := by kernel_rfl
set_option maxRecDepth 100000 in
theorem np32 : (List.range' 640 20).filter (fun i => (Tryz.prog.funcs[i]?).any (·.name == "fedchat/fedchatlaw56.ScriptLines")) = [] := by kernel_rfl
set_option maxRecDepth 100000 in
theorem np33 : (List.range' 660 20).filter (fun i => (Tryz.prog.funcs[i]?).any (·.name == "fedchat/fedchatlaw56.ScriptLines")) = [] := by kernel_rfl
set_option maxRecDepth 100000 in
theorem np34 : (List.range' 680 20).filter (fun i => (Tryz.prog.funcs[i]?).any (·.name == "fedchat/fedchatlaw56.ScriptLines")) = [] := by kernel_rfl
set_option maxRecDepth 100000 in
theorem np35 : (List.range' 700 20).filter (fun i => (Tryz.prog.funcs[i]?).any (·.name == "fedchat/fedchatlaw56.ScriptLines")) = [] := by kernel_rfl
set_option maxRecDepth 100000 in
theorem np36 : (List.range' 720 20).filter (fun i => (Tryz.prog.funcs[i]?).any (·.name == "fedchat/fedchatlaw56.ScriptLines")) = [] := by kernel_rfl
set_option maxRecDepth 100000 in
theorem np37 : (List.range' 740 20).filter (fun i => (Tryz.prog.funcs[i]?).any (·.name == "fedchat/fedchatlaw56.ScriptLines")) = [] := by kernel_rfl
set_option maxRecDepth 100000 in
theorem np38 : (List.range' 760 20).filter (fun i => (Tryz.prog.funcs[i]?).any (·.name == "fedchat/fedchatlaw56.ScriptLines")) = [] := by kernel_rfl
set_option maxRecDepth 100000 in
theorem np39 : (List.range' 780 20).filter (fun i => (Tryz.prog.funcs[i]?).any (·.name == "fedchat/fedchatlaw56.ScriptLines")) = [] := by kernel_rfl
set_option maxRecDepth 100000 in
theorem np40 : (List.range' 800 14).filter (fun i => (Tryz.prog.funcs[i]?).any (·.name == "fedchat/fedchatlaw56.ScriptLines")) = [] := by kernel_rfl
theorem np : Tryz.prog.funcNamed "fedchat/fedchatlaw56.ScriptLines" = some 4 := by
 unfold Program.funcNamed
 rw [nfuncs, List.range_eq_range', ranges]
 simp only [List.filter_append, np0, np1, np2, np3, np4, np5, np6, np7, np8, np9, np10, np11, np12, np13, np14, np15, np16, np17, np18, np19, np20, np21, np22, np23, np24, np25, np26, np27, np28, np29, np30, np31, np32, np33, np34, np35, np36, np37, np38, np39, np40]
 rfl
theorem vars_id : varsId Tryz.prog = 813 := by
 unfold varsId
 rw [nv]
 rfl
theorem vars_some : (Tryz.prog.funcNamed "gosem.cut.vars").isSome = true := by rw [nv]; rfl
theorem worded_at {w : String} (g : Nat) (h : ((Tryz.prog.funcs[g]?).any fun fn => fn.body.isNone && fn.name == w) = true) : Tryz.prog.worded w = true := by
 unfold Program.worded
 cases e : Tryz.prog.funcs[g]? with
 | none => rw [e] at h; cases h
 | some fn =>
  rw [e] at h
  obtain ⟨hi, he⟩ := Array.getElem?_eq_some_iff.1 e
  exact Array.any_eq_true.2 ⟨g, hi, by rw [he]; exact h⟩
theorem word_yes : Tryz.prog.worded (varsWordLater true) = true := worded_at 806 (by kernel_rfl)
theorem word_root : Tryz.prog.worded rootWordLater = true := worded_at 810 (by kernel_rfl)
set_option maxRecDepth 100000 in
theorem word_none : ((List.range 814).all fun g => (row g).2.1 != some (varsWordLater !true)) = true := by kernel_rfl
theorem word_no : Tryz.prog.worded (varsWordLater !true) = false := by
 cases h : Tryz.prog.worded (varsWordLater !true) with
 | false => rfl
 | true =>
  exfalso
  unfold Program.worded at h
  obtain ⟨i, hi, he⟩ := Array.any_eq_true.1 h
  rw [Bool.and_eq_true] at he
  have h2 := List.all_eq_true.1 word_none i (List.mem_range.2 (by rw [← nfuncs]; exact hi))
  rw [← row_name, Array.getElem?_eq_getElem hi] at h2
  simp only [Option.bind_some] at h2
  rw [if_pos (by rw [he.1]; simp), beq_iff_eq.1 he.2] at h2
  simp at h2
end Go.Proofs.R50.F
end
