/- What the door lays: the closed facts of its run. -/
import Derived.Test.YtojknjmcmadhcaaGreatDoorCards
import Derived.Test.YtojknjmcmadhcaaGreatDoorXd
import Derived.KernelRfl

section
namespace Go.Proofs.YtojknjmcmadhcaaGreatDoor.scriptLines
set_option maxRecDepth 1000000 in
theorem tie_f : varsNamedLaterB Tryz.prog 813 [("unicode/utf8.acceptRanges", Rows.laid_unicode_utf8_acceptRanges), ("internal/strconv.uint64pow10", Rows.laid_internal_strconv_uint64pow10), ("math/bits.deBruijn32tab", Rows.laid_math_bits_deBruijn32tab), ("math/bits.deBruijn64tab", Rows.laid_math_bits_deBruijn64tab)] = true := by kernel_rfl
set_option maxRecDepth 1000000 in
theorem tie_g : ∀ os tape, varsDone Tryz.prog 400 813 os tape = true := fun _ _ => by kernel_rfl
set_option maxRecDepth 1000000 in
theorem tie_h : ∀ os tape, (DataW.laidRun Tryz.prog (varsWorld Tryz.prog 400 813 os tape).memory 8 (([("unicode/utf8.acceptRanges", Rows.laid_unicode_utf8_acceptRanges), ("internal/strconv.uint64pow10", Rows.laid_internal_strconv_uint64pow10), ("math/bits.deBruijn32tab", Rows.laid_math_bits_deBruijn32tab), ("math/bits.deBruijn64tab", Rows.laid_math_bits_deBruijn64tab)] : List (String × DataW Unit)).map (·.1))).map (·.1) = some [("unicode/utf8.acceptRanges", Rows.laid_unicode_utf8_acceptRanges), ("internal/strconv.uint64pow10", Rows.laid_internal_strconv_uint64pow10), ("math/bits.deBruijn32tab", Rows.laid_math_bits_deBruijn32tab), ("math/bits.deBruijn64tab", Rows.laid_math_bits_deBruijn64tab)] := fun _ _ => by kernel_rfl
set_option maxRecDepth 1000000 in
theorem tie_i : ∀ os tape, (DataW.laidRun Tryz.prog (varsWorld Tryz.prog 400 813 os tape).memory 8 (([("unicode/utf8.acceptRanges", Rows.laid_unicode_utf8_acceptRanges), ("internal/strconv.uint64pow10", Rows.laid_internal_strconv_uint64pow10), ("math/bits.deBruijn32tab", Rows.laid_math_bits_deBruijn32tab), ("math/bits.deBruijn64tab", Rows.laid_math_bits_deBruijn64tab)] : List (String × DataW Unit)).map (·.1))).map (fun x => decide x.2.Nodup && laidRowsB Tryz.prog (varsWorld Tryz.prog 400 813 os tape).memory x.2) = some true := fun _ _ => by kernel_rfl
end Go.Proofs.YtojknjmcmadhcaaGreatDoor.scriptLines
end
