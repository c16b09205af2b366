/-
  DERIVED. GIVEN WITH THE SEED: THE PROGRAM's TIES (one call each: nine closed facts by the kernel) AND EACH ROW's TIE, after the 31st guide's Derived/Test/Toyas{Tie, Card}.lean. No idea stands in it: it is a product of the set-up. Laid BY PROGRAM, IN A SANDBOX (cutbox-door.mjs). By AI agents, Wed Nov 11 2026. No macro, syntax, notation, axiom, sorry.
-/
import Derived.Test.YtnhbfdigohiggaaGreatDoorRows
import Derived.LaidByTextLater
import Derived.SevenTiedAt
import Derived.LaidSub
import Derived.LaidOnce
namespace Go.Proofs.YtnhbfdigohiggaaGreatDoor
open Go
set_option maxRecDepth 100000
theorem seatTie1 : Tryz.prog.laidByTextLater [("unicode.White_Space", Rows.laid_unicode_White_Space), ("strings.asciiSpace", Rows.laid_strings_asciiSpace), ("leatwork/parse.levels", Rows.laid_leatwork_parse_levels)] [.listed, .data, .widerDeep] true :=
  Program.laidByTextLater_by_one 56 8 257 (by kernel_rfl) (by kernel_rfl) (by kernel_rfl) (by kernel_rfl) (by kernel_rfl) (by kernel_rfl) (fun _ _ => by kernel_rfl)
theorem seatTie2 : Tryz.prog.laidByTextLater [("math/bits.deBruijn32tab", Rows.laid_math_bits_deBruijn32tab), ("math/bits.deBruijn64tab", Rows.laid_math_bits_deBruijn64tab), ("internal/strconv.uint64pow10", Rows.laid_internal_strconv_uint64pow10), ("unicode.White_Space", Rows.laid_unicode_White_Space), ("strings.asciiSpace", Rows.laid_strings_asciiSpace), ("leatwork/parse.levels", Rows.laid_leatwork_parse_levels)] [.data, .data, .data, .listed, .data, .widerDeep] true :=
  Program.laidByTextLater_by_one 56 8 257 (by kernel_rfl) (by kernel_rfl) (by kernel_rfl) (by kernel_rfl) (by kernel_rfl) (by kernel_rfl) (fun _ _ => by kernel_rfl)
theorem noOwnUnsafe : Tryz.pinned.checked.prog.headLifts.contains "ownunsafe" = false := by kernel_rfl
theorem tie : Tryz.prog.laidByTextLater [("unicode.White_Space", Rows.laid_unicode_White_Space), ("strings.asciiSpace", Rows.laid_strings_asciiSpace), ("leatwork/parse.levels", Rows.laid_leatwork_parse_levels)] [.listed, .data, .widerDeep] true :=
  Program.laidByTextLater.sub seatTie1 ["unicode.White_Space", "strings.asciiSpace", "leatwork/parse.levels"] (by kernel_rfl) (by kernel_rfl)
theorem kernelMakes_row_tie : Rows.kernelMakesRow.laidByTextAt .later Tryz.pinned [.listed, .data, .widerDeep] true :=
  OpenClaim.laidByTextAt_later rfl rfl tie noOwnUnsafe
theorem kernelReads_row_tie : Rows.kernelReadsRow.laidByTextAt .later Tryz.pinned [.listed, .data, .widerDeep] true :=
  OpenClaim.laidByTextAt_later rfl rfl tie noOwnUnsafe
theorem kernelBuiltins_row_tie : Rows.kernelBuiltinsRow.laidByTextAt .later Tryz.pinned [.listed, .data, .widerDeep] true :=
  OpenClaim.laidByTextAt_later rfl rfl tie noOwnUnsafe
theorem kernelKnown_row_tie : Rows.kernelKnownRow.laidByTextAt .later Tryz.pinned [.listed, .data, .widerDeep] true :=
  OpenClaim.laidByTextAt_later rfl rfl tie noOwnUnsafe
theorem kernelNames_row_tie : Rows.kernelNamesRow.laidByTextAt .later Tryz.pinned [.listed, .data, .widerDeep] true :=
  OpenClaim.laidByTextAt_later rfl rfl tie noOwnUnsafe
theorem kernelValid_row_tie : Rows.kernelValidRow.laidByTextAt .later Tryz.pinned [.listed, .data, .widerDeep] true :=
  OpenClaim.laidByTextAt_later rfl rfl tie noOwnUnsafe
theorem kernelRight_row_tie : Rows.kernelRightRow.laidByTextAt .later Tryz.pinned [.listed, .data, .widerDeep] true :=
  OpenClaim.laidByTextAt_later rfl rfl tie noOwnUnsafe
theorem kernelHidden_row_tie : Rows.kernelHiddenRow.laidByTextAt .later Tryz.pinned [.listed, .data, .widerDeep] true :=
  OpenClaim.laidByTextAt_later rfl rfl tie noOwnUnsafe
theorem kernelPlain_row_tie : Rows.kernelPlainRow.laidByTextAt .later Tryz.pinned [.listed, .data, .widerDeep] true :=
  OpenClaim.laidByTextAt_later rfl rfl tie noOwnUnsafe
theorem kernelFree_row_tie : Rows.kernelFreeRow.laidByTextAt .later Tryz.pinned [.listed, .data, .widerDeep] true :=
  OpenClaim.laidByTextAt_later rfl rfl tie noOwnUnsafe
theorem tie2 : Tryz.prog.laidByTextLater [("math/bits.deBruijn32tab", Rows.laid_math_bits_deBruijn32tab), ("math/bits.deBruijn64tab", Rows.laid_math_bits_deBruijn64tab), ("internal/strconv.uint64pow10", Rows.laid_internal_strconv_uint64pow10), ("unicode.White_Space", Rows.laid_unicode_White_Space), ("strings.asciiSpace", Rows.laid_strings_asciiSpace), ("leatwork/parse.levels", Rows.laid_leatwork_parse_levels)] [.data, .data, .data, .listed, .data, .widerDeep] true :=
  Program.laidByTextLater.sub seatTie2 ["math/bits.deBruijn32tab", "math/bits.deBruijn64tab", "internal/strconv.uint64pow10", "unicode.White_Space", "strings.asciiSpace", "leatwork/parse.levels"] (by kernel_rfl) (by kernel_rfl)
theorem kernelTexts_row_tie : Rows.kernelTextsRow.laidByTextAt .later Tryz.pinned [.data, .data, .data, .listed, .data, .widerDeep] true :=
  OpenClaim.laidByTextAt_later rfl rfl tie2 noOwnUnsafe
theorem kernelTexted_row_tie : Rows.kernelTextedRow.laidByTextAt .later Tryz.pinned [.data, .data, .data, .listed, .data, .widerDeep] true :=
  OpenClaim.laidByTextAt_later rfl rfl tie2 noOwnUnsafe
theorem kernelMakesUpto_row_tie : Rows.kernelMakesUptoRow.laidByTextAt .later Tryz.pinned [.listed, .data, .widerDeep] true :=
  OpenClaim.laidByTextAt_later rfl rfl tie noOwnUnsafe
theorem kernelReadsUpto_row_tie : Rows.kernelReadsUptoRow.laidByTextAt .later Tryz.pinned [.listed, .data, .widerDeep] true :=
  OpenClaim.laidByTextAt_later rfl rfl tie noOwnUnsafe
theorem kernelBuiltinsUpto_row_tie : Rows.kernelBuiltinsUptoRow.laidByTextAt .later Tryz.pinned [.listed, .data, .widerDeep] true :=
  OpenClaim.laidByTextAt_later rfl rfl tie noOwnUnsafe
theorem kernelKnownUpto_row_tie : Rows.kernelKnownUptoRow.laidByTextAt .later Tryz.pinned [.listed, .data, .widerDeep] true :=
  OpenClaim.laidByTextAt_later rfl rfl tie noOwnUnsafe
theorem kernelNamesUpto_row_tie : Rows.kernelNamesUptoRow.laidByTextAt .later Tryz.pinned [.listed, .data, .widerDeep] true :=
  OpenClaim.laidByTextAt_later rfl rfl tie noOwnUnsafe
theorem kernelValidUpto_row_tie : Rows.kernelValidUptoRow.laidByTextAt .later Tryz.pinned [.listed, .data, .widerDeep] true :=
  OpenClaim.laidByTextAt_later rfl rfl tie noOwnUnsafe
theorem kernelRightUpto_row_tie : Rows.kernelRightUptoRow.laidByTextAt .later Tryz.pinned [.listed, .data, .widerDeep] true :=
  OpenClaim.laidByTextAt_later rfl rfl tie noOwnUnsafe
theorem kernelHiddenUpto_row_tie : Rows.kernelHiddenUptoRow.laidByTextAt .later Tryz.pinned [.listed, .data, .widerDeep] true :=
  OpenClaim.laidByTextAt_later rfl rfl tie noOwnUnsafe
theorem kernelPlainUpto_row_tie : Rows.kernelPlainUptoRow.laidByTextAt .later Tryz.pinned [.listed, .data, .widerDeep] true :=
  OpenClaim.laidByTextAt_later rfl rfl tie noOwnUnsafe
theorem kernelFreeUpto_row_tie : Rows.kernelFreeUptoRow.laidByTextAt .later Tryz.pinned [.listed, .data, .widerDeep] true :=
  OpenClaim.laidByTextAt_later rfl rfl tie noOwnUnsafe
theorem kernelTextsUpto_row_tie : Rows.kernelTextsUptoRow.laidByTextAt .later Tryz.pinned [.data, .data, .data, .listed, .data, .widerDeep] true :=
  OpenClaim.laidByTextAt_later rfl rfl tie2 noOwnUnsafe
theorem kernelTextedUpto_row_tie : Rows.kernelTextedUptoRow.laidByTextAt .later Tryz.pinned [.data, .data, .data, .listed, .data, .widerDeep] true :=
  OpenClaim.laidByTextAt_later rfl rfl tie2 noOwnUnsafe
end Go.Proofs.YtnhbfdigohiggaaGreatDoor
