/- The law ScriptLines: for every act the call returns true and leaves its argument as it was; the card: the listed tables are those of the program's text. No condition. -/
import Derived.Test.YtojknjmcmadhcaaGreatDoorXq
import Derived.Test.YtojknjmcmadhcaaGreatDoorXe
import Derived.Test.YtojknjmcmadhcaaGreatDoorWf
import Derived.ChangeOld
import Derived.ShutString
import Derived.Lib.SmallJoins
import Derived.ProofKit
import Derived.OpenShut
import Derived.LaidMore
import Derived.Lay
import Derived.LaidByTextLater
import Derived.SevenTiedAt
import Derived.Stop.Joined

section
namespace Go.Proofs.YtojknjmcmadhcaaGreatDoor.scriptLines
open Go.ChangeShapes Go.WideShapes Go.ChangeAt Go.RowKit Go.Joins

theorem own : ownKnob Tryz.prog.godebug = none := by kernel_rfl

set_option maxRecDepth 100000 in
theorem lifted (os : Os) (started : os.Started) (H : Type) (enc : TypeId × Value → H) :
  ReturnsInHanded {} Tryz.checked os 4 .any (fun w args => (Rows.scriptLinesSpec.pre enc Tryz.prog Tryz.f4 Rows.scriptLinesRow.domain false w args ∧ laidMetH Tryz.prog Rows.scriptLinesRow.laid w) ∧ sizedMet enc Tryz.prog Tryz.f4 (OpenSpec.ofChange Rows.scriptLinesSpec) false w args)
   (Rows.scriptLinesSpec.post enc Tryz.prog Tryz.f4 false true false false) := by
 refine returnsInHanded_of_change_and (C := Tryz.checked) (X := fun w _ => laidMetH Tryz.prog Rows.scriptLinesRow.laid w) (fun _ _ _ hh h => h.of_heap hh) own started (by kernel_rfl) Tryz.func4
  (ChangeSpec.witness_shaped (enc := enc) (C := Tryz.checked) (os := os) (X := fun w _ => laidMetH Tryz.prog Rows.scriptLinesRow.laid w) false (World.laidAll Tryz.prog os Rows.scriptLinesRow.laid) #[.agg R50.zeroC] 12 (World.laidAll_os _ _ _)
   (World.shaped_of_ZipB (by kernel_rfl) (by kernel_rfl)) (by kernel_rfl) (by kernel_rfl) (by kernel_rfl)
   (by rw [MakeChecks.laidMetH_plain _ _ _ (by kernel_rfl)]; exact laidMet_laidAll _ (by kernel_rfl) (by kernel_rfl))) ?_
 intro W base args ds gs before hval0 hW _ _ _ _
 have hval : ∀ (j : Nat) t v, Tryz.f4.params[j]? = some t → args[j]? = some v → Value.okWide Tryz.prog W .any base t v := hval0
 have hW' := hW
 obtain ⟨p, q, hA0, hV, rfl, hfz, hnd⟩ := hW
 have hA : DataW.TrodAll enc Tryz.prog W 0 (fun _ => true) true Tryz.f4.params.toList args.toList ds p := hA0
 rw [Tryz.params4] at hA hval
 obtain ⟨v0, vs0, d0, ds0, p0, q0, hargs, rfl, rfl, h0, r0⟩ := trodAll_cons hA
 obtain ⟨rfl, rfl, rfl⟩ := trodAll_nil r0
 obtain rfl : args = #[v0] := by cases args; simp_all
 obtain ⟨rfl, rfl⟩ := trodVars_none hV
 have k0 := h0
 have lt0 : ∀ x ∈ p0, x.block < W.heap.size := by obtain ⟨m, hm⟩ := k0; exact DataW.trod_lt m _ _ _ hm
 obtain ⟨cs0, rfl, _⟩ := okWide_struct Tryz.underlying37 (hval 0 37 v0 rfl rfl)
 obtain ⟨fuel0, hf0⟩ := h0
 obtain ⟨ce, rfl⟩ : ∃ ce : List Value, cs0 = ce.toArray := ⟨cs0.toList, by simp⟩
 obtain ⟨wd, nv, n, tx, cn, tg, th, via, oa, od, ou, ok, la, ca, ld, cd, lu, cu, lk, ck, i1, i2, i3, i4, i5, i6, i7, rfl, ⟨xs, hS⟩, hn, hcn⟩ := R50.Tr.act_of_trod (cs := ce) (by simpa [Value.cells] using hf0)
 clear hA0 hval0
 refine (R50.scriptLines wd nv n tx cn tg th via la ca ld cd lu cu lk ck oa od ou ok i1 i2 i3 i4 i5 i6 i7 xs W hS hn hcn).mono fun e W' ⟨he', bel⟩ => ?_
 subst he'
 exact ⟨_, rfl, _, _, _, [], _, [], hW', trodAll_mk1 (shut_bool Tryz.underlying4 _), trodAll_cons_mk (Below.trod R50.F.laidOut (by kernel_rfl) (of_decide_eq_true (by kernel_rfl)) k0 bel lt0) trodAll_mk0, rfl, bel.frame _, fun h => by cases h⟩

theorem over : Rows.ScriptLinesSaid :=
 OpenClaim.holds_of_wide 4 Tryz.f4 rfl rfl rfl rfl rfl rfl rfl ⟨rfl, rfl, rfl, rfl, rfl⟩ rfl rfl rfl rfl rfl R50.F.np Tryz.func4 joined
  (of_decide_eq_true (by kernel_rfl)) (by unfold Func.isWrapper; first | (rw [if_pos (by decide +kernel)]; kernel_rfl) | (rw [if_neg (by decide +kernel)]; exact ⟨rfl, rfl⟩))
  (fun os started H enc _ => lifted os started H enc)

theorem pin_first : Tryz.prog.pinnedFits "unicode/utf8.first" = true := by kernel_rfl
theorem noOwnUnsafe : Tryz.prog.headLifts.contains "ownunsafe" = false := by kernel_rfl
theorem fits1 : Tryz.prog.listedFits [("unicode/utf8.first", Rows.laid_unicode_utf8_first), ("unicode/utf8.acceptRanges", Rows.laid_unicode_utf8_acceptRanges), ("internal/strconv.uint64pow10", Rows.laid_internal_strconv_uint64pow10), ("math/bits.deBruijn32tab", Rows.laid_math_bits_deBruijn32tab), ("math/bits.deBruijn64tab", Rows.laid_math_bits_deBruijn64tab)] = true := by
 unfold Program.listedFits
 rw [noOwnUnsafe]
 kernel_rfl
theorem tie : Tryz.prog.laidByTextLater [("unicode/utf8.acceptRanges", Rows.laid_unicode_utf8_acceptRanges), ("internal/strconv.uint64pow10", Rows.laid_internal_strconv_uint64pow10), ("math/bits.deBruijn32tab", Rows.laid_math_bits_deBruijn32tab), ("math/bits.deBruijn64tab", Rows.laid_math_bits_deBruijn64tab)] [.data, .data, .data, .data] true :=
 Program.laidByTextLater_by_run 400 8 R50.F.word_yes R50.F.word_no R50.F.word_root (by kernel_rfl) R50.F.vars_some (by rw [R50.F.vars_id]; exact tie_f) (by rw [R50.F.vars_id]; exact tie_g) (by rw [R50.F.vars_id]; exact tie_h) (by rw [R50.F.vars_id]; exact tie_i)
theorem row_tie : Rows.scriptLinesRow.laidByTextAt .later Tryz.pinned [.pinned, .data, .data, .data, .data] true :=
 OpenClaim.laidByTextAt_pinned rfl rfl tie rfl rfl rfl rfl (fun y hy _e => by
  simp only [Rows.scriptLinesRow, List.zip_cons_cons, List.zip_nil_right, List.mem_cons, List.mem_nil_iff, or_false] at hy
  rcases hy with rfl | rfl | rfl | rfl | rfl
  ·exact ⟨pin_first, by kernel_rfl⟩
  ·cases _e
  ·cases _e
  ·cases _e
  ·cases _e) fits1
theorem looks_eq : true = Tryz.prog.looks [] := by kernel_rfl
theorem main_eq : Tryz.prog.mainIs = some (true, "82aefb40fa47adceff250896a52bbfdf5e041fc5463f7c552056c6ba394a7cd6".toList) := by kernel_rfl
theorem proved : Rows.ScriptLinesCardSaid :=
 Claim7.holds_tied_plain_at .later [] [.pinned, .data, .data, .data, .data] true (true, "82aefb40fa47adceff250896a52bbfdf5e041fc5463f7c552056c6ba394a7cd6") true over (fun _ h => by cases h) (by kernel_rfl) (fun _ h => by cases h) row_tie rfl ⟨rfl, rfl⟩ main_eq rfl
  (fun f fn hf hfn => by
   obtain rfl : f = 4 := Option.some.inj (R50.F.np.symm.trans hf) |>.symm
   obtain rfl : fn = Tryz.f4 := (Option.some.inj (Tryz.func4.symm.trans hfn)).symm
   exact ⟨looks_eq, fun j t ht => by
    rw [Tryz.params4] at ht
    have hm : t ∈ [37] := by simpa using Array.mem_of_getElem? ht
    have hall : ([37].all fun u => !Tryz.prog.wantsStandIn u) = true := by kernel_rfl
    exact (show Tryz.prog.wantsStandIn t = false by simpa using List.all_eq_true.1 hall t hm)⟩)
  (R50.F.goesBy_none rfl)
end Go.Proofs.YtojknjmcmadhcaaGreatDoor.scriptLines
end
