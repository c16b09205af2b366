/-
  NARROWER THAN 'FOR EVERY INPUT', by the rows' own cells (each row's printed sentence says how): KernelMakes: loops, laid · KernelReads: laid · KernelBuiltins: laid · KernelKnown: loops, laid · KernelNames: loops, laid · KernelValid: laid · KernelRight: loops, laid · KernelHidden: loops, laid · KernelPlain: loops, laid · KernelFree: laid · KernelTexts: laid · KernelTexted: laid.
  DERIVED. THE GIVEN ROWS OF THIS SEAT. 12 by the template 'for every input the law returns true; each argument reads behind the call as it read before'; 0 by the template 'total and deterministic' (their statements: YtnhbfdigohiggaaGreatDoorTotals.lean).
  GIVEN WITH THE SEED: the statements are not yours to turn. If you find one false, say at which input.
  Laid BY PROGRAM, IN A SANDBOX (cutbox-rows.mjs): the forced cells as the released guide's own fill.sh prints them over the translation 62f45fc76d548c06… (all of the seat's roots in one cut). By AI agents, Wed Nov 11 2026. No macro, syntax, notation, axiom, sorry.
-/
import Derived.Test.YtnhbfdigohiggaaGreatDoorChecked
import GoSem.Claim
import GoSem.ClaimJoined
import GoSem.ClaimMapViews
import Derived.JoinedTies
import Derived.KernelRfl
namespace Go.Proofs.YtnhbfdigohiggaaGreatDoor
/- THE CELL 'sum', in the pinned program and in every row, IS THE sha256 OF THE DUMP (.gsa) THAT YtnhbfdigohiggaaGreatDoorProg.lean LOADS. Nothing in Lean hashes anything: it is a label: what it is worth is what the hold of that sum in a sandbox is worth. -/
noncomputable def Tryz.pinned : Pinned := { name := "ytnhbfdigohiggaagreatdoor", sum := "62f45fc76d548c0675f032af64792ede86b6b0af694d3508e1e8b88b01972870", checked := Tryz.checked }
namespace Rows
def none {H : Type} : Left H := { results := [], args := [] }

/- WHAT THE LISTED PACKAGE-LEVEL VARIABLES READ AS WHEN THE CALL BEGINS. Each datum BY PROGRAM (the guide's laid-datum.mjs) off the statement by which the dump's own 'gosem.cut.vars' lays the variable. In a bare row this is a premise. The card (YtnhbfdigohiggaaGreatDoorCards.lean) ties it to the program's text. -/
def laid_unicode_White_Space {H : Type} : DataW H := .ptr (.agg [.slice [.agg [.lit (.int .u16 9), .lit (.int .u16 13), .lit (.int .u16 1)], .agg [.lit (.int .u16 32), .lit (.int .u16 133), .lit (.int .u16 101)], .agg [.lit (.int .u16 160), .lit (.int .u16 5760), .lit (.int .u16 5600)], .agg [.lit (.int .u16 8192), .lit (.int .u16 8202), .lit (.int .u16 1)], .agg [.lit (.int .u16 8232), .lit (.int .u16 8233), .lit (.int .u16 1)], .agg [.lit (.int .u16 8239), .lit (.int .u16 8287), .lit (.int .u16 48)], .agg [.lit (.int .u16 12288), .lit (.int .u16 12288), .lit (.int .u16 1)]] [], .nil, .lit (.int .i64 2)])
def laid_strings_asciiSpace {H : Type} : DataW H := .agg [.lit (.int .u8 0), .lit (.int .u8 0), .lit (.int .u8 0), .lit (.int .u8 0), .lit (.int .u8 0), .lit (.int .u8 0), .lit (.int .u8 0), .lit (.int .u8 0), .lit (.int .u8 0), .lit (.int .u8 1), .lit (.int .u8 1), .lit (.int .u8 1), .lit (.int .u8 1), .lit (.int .u8 1), .lit (.int .u8 0), .lit (.int .u8 0), .lit (.int .u8 0), .lit (.int .u8 0), .lit (.int .u8 0), .lit (.int .u8 0), .lit (.int .u8 0), .lit (.int .u8 0), .lit (.int .u8 0), .lit (.int .u8 0), .lit (.int .u8 0), .lit (.int .u8 0), .lit (.int .u8 0), .lit (.int .u8 0), .lit (.int .u8 0), .lit (.int .u8 0), .lit (.int .u8 0), .lit (.int .u8 0), .lit (.int .u8 1), .lit (.int .u8 0), .lit (.int .u8 0), .lit (.int .u8 0), .lit (.int .u8 0), .lit (.int .u8 0), .lit (.int .u8 0), .lit (.int .u8 0), .lit (.int .u8 0), .lit (.int .u8 0), .lit (.int .u8 0), .lit (.int .u8 0), .lit (.int .u8 0), .lit (.int .u8 0), .lit (.int .u8 0), .lit (.int .u8 0), .lit (.int .u8 0), .lit (.int .u8 0), .lit (.int .u8 0), .lit (.int .u8 0), .lit (.int .u8 0), .lit (.int .u8 0), .lit (.int .u8 0), .lit (.int .u8 0), .lit (.int .u8 0), .lit (.int .u8 0), .lit (.int .u8 0), .lit (.int .u8 0), .lit (.int .u8 0), .lit (.int .u8 0), .lit (.int .u8 0), .lit (.int .u8 0), .lit (.int .u8 0), .lit (.int .u8 0), .lit (.int .u8 0), .lit (.int .u8 0), .lit (.int .u8 0), .lit (.int .u8 0), .lit (.int .u8 0), .lit (.int .u8 0), .lit (.int .u8 0), .lit (.int .u8 0), .lit (.int .u8 0), .lit (.int .u8 0), .lit (.int .u8 0), .lit (.int .u8 0), .lit (.int .u8 0), .lit (.int .u8 0), .lit (.int .u8 0), .lit (.int .u8 0), .lit (.int .u8 0), .lit (.int .u8 0), .lit (.int .u8 0), .lit (.int .u8 0), .lit (.int .u8 0), .lit (.int .u8 0), .lit (.int .u8 0), .lit (.int .u8 0), .lit (.int .u8 0), .lit (.int .u8 0), .lit (.int .u8 0), .lit (.int .u8 0), .lit (.int .u8 0), .lit (.int .u8 0), .lit (.int .u8 0), .lit (.int .u8 0), .lit (.int .u8 0), .lit (.int .u8 0), .lit (.int .u8 0), .lit (.int .u8 0), .lit (.int .u8 0), .lit (.int .u8 0), .lit (.int .u8 0), .lit (.int .u8 0), .lit (.int .u8 0), .lit (.int .u8 0), .lit (.int .u8 0), .lit (.int .u8 0), .lit (.int .u8 0), .lit (.int .u8 0), .lit (.int .u8 0), .lit (.int .u8 0), .lit (.int .u8 0), .lit (.int .u8 0), .lit (.int .u8 0), .lit (.int .u8 0), .lit (.int .u8 0), .lit (.int .u8 0), .lit (.int .u8 0), .lit (.int .u8 0), .lit (.int .u8 0), .lit (.int .u8 0), .lit (.int .u8 0), .lit (.int .u8 0), .lit (.int .u8 0), .lit (.int .u8 0), .lit (.int .u8 0), .lit (.int .u8 0), .lit (.int .u8 0), .lit (.int .u8 0), .lit (.int .u8 0), .lit (.int .u8 0), .lit (.int .u8 0), .lit (.int .u8 0), .lit (.int .u8 0), .lit (.int .u8 0), .lit (.int .u8 0), .lit (.int .u8 0), .lit (.int .u8 0), .lit (.int .u8 0), .lit (.int .u8 0), .lit (.int .u8 0), .lit (.int .u8 0), .lit (.int .u8 0), .lit (.int .u8 0), .lit (.int .u8 0), .lit (.int .u8 0), .lit (.int .u8 0), .lit (.int .u8 0), .lit (.int .u8 0), .lit (.int .u8 0), .lit (.int .u8 0), .lit (.int .u8 0), .lit (.int .u8 0), .lit (.int .u8 0), .lit (.int .u8 0), .lit (.int .u8 0), .lit (.int .u8 0), .lit (.int .u8 0), .lit (.int .u8 0), .lit (.int .u8 0), .lit (.int .u8 0), .lit (.int .u8 0), .lit (.int .u8 0), .lit (.int .u8 0), .lit (.int .u8 0), .lit (.int .u8 0), .lit (.int .u8 0), .lit (.int .u8 0), .lit (.int .u8 0), .lit (.int .u8 0), .lit (.int .u8 0), .lit (.int .u8 0), .lit (.int .u8 0), .lit (.int .u8 0), .lit (.int .u8 0), .lit (.int .u8 0), .lit (.int .u8 0), .lit (.int .u8 0), .lit (.int .u8 0), .lit (.int .u8 0), .lit (.int .u8 0), .lit (.int .u8 0), .lit (.int .u8 0), .lit (.int .u8 0), .lit (.int .u8 0), .lit (.int .u8 0), .lit (.int .u8 0), .lit (.int .u8 0), .lit (.int .u8 0), .lit (.int .u8 0), .lit (.int .u8 0), .lit (.int .u8 0), .lit (.int .u8 0), .lit (.int .u8 0), .lit (.int .u8 0), .lit (.int .u8 0), .lit (.int .u8 0), .lit (.int .u8 0), .lit (.int .u8 0), .lit (.int .u8 0), .lit (.int .u8 0), .lit (.int .u8 0), .lit (.int .u8 0), .lit (.int .u8 0), .lit (.int .u8 0), .lit (.int .u8 0), .lit (.int .u8 0), .lit (.int .u8 0), .lit (.int .u8 0), .lit (.int .u8 0), .lit (.int .u8 0), .lit (.int .u8 0), .lit (.int .u8 0), .lit (.int .u8 0), .lit (.int .u8 0), .lit (.int .u8 0), .lit (.int .u8 0), .lit (.int .u8 0), .lit (.int .u8 0), .lit (.int .u8 0), .lit (.int .u8 0), .lit (.int .u8 0), .lit (.int .u8 0), .lit (.int .u8 0), .lit (.int .u8 0), .lit (.int .u8 0), .lit (.int .u8 0), .lit (.int .u8 0), .lit (.int .u8 0), .lit (.int .u8 0), .lit (.int .u8 0), .lit (.int .u8 0), .lit (.int .u8 0), .lit (.int .u8 0), .lit (.int .u8 0), .lit (.int .u8 0), .lit (.int .u8 0), .lit (.int .u8 0), .lit (.int .u8 0), .lit (.int .u8 0), .lit (.int .u8 0), .lit (.int .u8 0), .lit (.int .u8 0), .lit (.int .u8 0), .lit (.int .u8 0), .lit (.int .u8 0), .lit (.int .u8 0), .lit (.int .u8 0), .lit (.int .u8 0), .lit (.int .u8 0), .lit (.int .u8 0), .lit (.int .u8 0), .lit (.int .u8 0)]
def laid_leatwork_parse_levels {H : Type} : DataW H := .slice [.agg [.lit (.string [32, 61, 61, 32, 92, 61, 32, 60, 32, 61, 60, 32, 62, 32, 62, 61, 32]), .lit (.bool false)], .agg [.lit (.string [32, 43, 32, 45, 32]), .lit (.bool true)], .agg [.lit (.string [32, 42, 32]), .lit (.bool true)]] []
def laid_math_bits_deBruijn32tab {H : Type} : DataW H := .agg [.lit (.int .u8 0), .lit (.int .u8 1), .lit (.int .u8 28), .lit (.int .u8 2), .lit (.int .u8 29), .lit (.int .u8 14), .lit (.int .u8 24), .lit (.int .u8 3), .lit (.int .u8 30), .lit (.int .u8 22), .lit (.int .u8 20), .lit (.int .u8 15), .lit (.int .u8 25), .lit (.int .u8 17), .lit (.int .u8 4), .lit (.int .u8 8), .lit (.int .u8 31), .lit (.int .u8 27), .lit (.int .u8 13), .lit (.int .u8 23), .lit (.int .u8 21), .lit (.int .u8 19), .lit (.int .u8 16), .lit (.int .u8 7), .lit (.int .u8 26), .lit (.int .u8 12), .lit (.int .u8 18), .lit (.int .u8 6), .lit (.int .u8 11), .lit (.int .u8 5), .lit (.int .u8 10), .lit (.int .u8 9)]
def laid_math_bits_deBruijn64tab {H : Type} : DataW H := .agg [.lit (.int .u8 0), .lit (.int .u8 1), .lit (.int .u8 56), .lit (.int .u8 2), .lit (.int .u8 57), .lit (.int .u8 49), .lit (.int .u8 28), .lit (.int .u8 3), .lit (.int .u8 61), .lit (.int .u8 58), .lit (.int .u8 42), .lit (.int .u8 50), .lit (.int .u8 38), .lit (.int .u8 29), .lit (.int .u8 17), .lit (.int .u8 4), .lit (.int .u8 62), .lit (.int .u8 47), .lit (.int .u8 59), .lit (.int .u8 36), .lit (.int .u8 45), .lit (.int .u8 43), .lit (.int .u8 51), .lit (.int .u8 22), .lit (.int .u8 53), .lit (.int .u8 39), .lit (.int .u8 33), .lit (.int .u8 30), .lit (.int .u8 24), .lit (.int .u8 18), .lit (.int .u8 12), .lit (.int .u8 5), .lit (.int .u8 63), .lit (.int .u8 55), .lit (.int .u8 48), .lit (.int .u8 27), .lit (.int .u8 60), .lit (.int .u8 41), .lit (.int .u8 37), .lit (.int .u8 16), .lit (.int .u8 46), .lit (.int .u8 35), .lit (.int .u8 44), .lit (.int .u8 21), .lit (.int .u8 52), .lit (.int .u8 32), .lit (.int .u8 23), .lit (.int .u8 11), .lit (.int .u8 54), .lit (.int .u8 26), .lit (.int .u8 40), .lit (.int .u8 15), .lit (.int .u8 34), .lit (.int .u8 20), .lit (.int .u8 31), .lit (.int .u8 10), .lit (.int .u8 25), .lit (.int .u8 14), .lit (.int .u8 19), .lit (.int .u8 9), .lit (.int .u8 13), .lit (.int .u8 8), .lit (.int .u8 7), .lit (.int .u8 6)]
def laid_internal_strconv_uint64pow10 {H : Type} : DataW H := .agg [.lit (.int .u64 1), .lit (.int .u64 10), .lit (.int .u64 100), .lit (.int .u64 1000), .lit (.int .u64 10000), .lit (.int .u64 100000), .lit (.int .u64 1000000), .lit (.int .u64 10000000), .lit (.int .u64 100000000), .lit (.int .u64 1000000000), .lit (.int .u64 10000000000), .lit (.int .u64 100000000000), .lit (.int .u64 1000000000000), .lit (.int .u64 10000000000000), .lit (.int .u64 100000000000000), .lit (.int .u64 1000000000000000), .lit (.int .u64 10000000000000000), .lit (.int .u64 100000000000000000), .lit (.int .u64 1000000000000000000), .lit (.int .u64 10000000000000000000)]

/-- 'leatworklaw05.KernelMakes': WHATEVER THE INPUT: true; the input reads as it did. -/
def kernelMakesSpec : ChangeSpec := { name := "kernelMakes", fn := fun _ => fun
  | [d1, d2] => { results := [.lit (.bool true)], args := [d1, d2] }
  | _ => none }
def kernelMakesRow : OpenClaim := { program := "ytnhbfdigohiggaagreatdoor", sum := "62f45fc76d548c0675f032af64792ede86b6b0af694d3508e1e8b88b01972870", func := "leatwork/leatworklaw05.KernelMakes", spec := "kernelMakes", inPlace := ["internal/bytealg.IndexByteString", "internal/bytealg.IndexString"], unfollowed := true, recurses := true, named := ["leatwork/parse.levels", "internal/bytealg.MaxLen", "strings.asciiSpace", "unicode.White_Space"], loops := true, apart := false, laid := [("unicode.White_Space", laid_unicode_White_Space), ("strings.asciiSpace", laid_strings_asciiSpace), ("leatwork/parse.levels", laid_leatwork_parse_levels)] }
def KernelMakesSaid : Prop := kernelMakesRow.holds Tryz.pinned (OpenSpec.ofChange kernelMakesSpec)

/-- ITS FALSE NEIGHBOUR: 'it returns false'. Refute it at one input. -/
def kernelMakesWrong : ChangeSpec := { name := "kernelMakes", fn := fun _ => fun
  | [d1, d2] => { results := [.lit (.bool false)], args := [d1, d2] }
  | _ => none }
def KernelMakesWrongFalsely : Prop := kernelMakesRow.holds Tryz.pinned (OpenSpec.ofChange kernelMakesWrong)

/-- 'leatworklaw05.KernelReads': WHATEVER THE INPUT: true; the input reads as it did. -/
def kernelReadsSpec : ChangeSpec := { name := "kernelReads", fn := fun _ => fun
  | [d1, d2] => { results := [.lit (.bool true)], args := [d1, d2] }
  | _ => none }
def kernelReadsRow : OpenClaim := { program := "ytnhbfdigohiggaagreatdoor", sum := "62f45fc76d548c0675f032af64792ede86b6b0af694d3508e1e8b88b01972870", func := "leatwork/leatworklaw05.KernelReads", spec := "kernelReads", inPlace := ["internal/bytealg.IndexByteString", "internal/bytealg.IndexString"], unfollowed := true, recurses := true, named := ["leatwork/parse.levels", "internal/bytealg.MaxLen", "strings.asciiSpace", "unicode.White_Space"], apart := false, laid := [("unicode.White_Space", laid_unicode_White_Space), ("strings.asciiSpace", laid_strings_asciiSpace), ("leatwork/parse.levels", laid_leatwork_parse_levels)] }
def KernelReadsSaid : Prop := kernelReadsRow.holds Tryz.pinned (OpenSpec.ofChange kernelReadsSpec)

/-- ITS FALSE NEIGHBOUR: 'it returns false'. Refute it at one input. -/
def kernelReadsWrong : ChangeSpec := { name := "kernelReads", fn := fun _ => fun
  | [d1, d2] => { results := [.lit (.bool false)], args := [d1, d2] }
  | _ => none }
def KernelReadsWrongFalsely : Prop := kernelReadsRow.holds Tryz.pinned (OpenSpec.ofChange kernelReadsWrong)

/-- 'leatworklaw05.KernelBuiltins': WHATEVER THE INPUT: true; the input reads as it did. -/
def kernelBuiltinsSpec : ChangeSpec := { name := "kernelBuiltins", fn := fun _ => fun
  | [d] => { results := [.lit (.bool true)], args := [d] }
  | _ => none }
def kernelBuiltinsRow : OpenClaim := { program := "ytnhbfdigohiggaagreatdoor", sum := "62f45fc76d548c0675f032af64792ede86b6b0af694d3508e1e8b88b01972870", func := "leatwork/leatworklaw05.KernelBuiltins", spec := "kernelBuiltins", inPlace := ["internal/bytealg.IndexByteString", "internal/bytealg.IndexString"], unfollowed := true, recurses := true, named := ["strings.asciiSpace", "unicode.White_Space", "leatwork/parse.levels", "internal/bytealg.MaxLen"], apart := false, laid := [("unicode.White_Space", laid_unicode_White_Space), ("strings.asciiSpace", laid_strings_asciiSpace), ("leatwork/parse.levels", laid_leatwork_parse_levels)] }
def KernelBuiltinsSaid : Prop := kernelBuiltinsRow.holds Tryz.pinned (OpenSpec.ofChange kernelBuiltinsSpec)

/-- ITS FALSE NEIGHBOUR: 'it returns false'. Refute it at one input. -/
def kernelBuiltinsWrong : ChangeSpec := { name := "kernelBuiltins", fn := fun _ => fun
  | [d] => { results := [.lit (.bool false)], args := [d] }
  | _ => none }
def KernelBuiltinsWrongFalsely : Prop := kernelBuiltinsRow.holds Tryz.pinned (OpenSpec.ofChange kernelBuiltinsWrong)

/-- 'leatworklaw05.KernelKnown': WHATEVER THE INPUT: true; the input reads as it did. -/
def kernelKnownSpec : ChangeSpec := { name := "kernelKnown", fn := fun _ => fun
  | [d] => { results := [.lit (.bool true)], args := [d] }
  | _ => none }
def kernelKnownRow : OpenClaim := { program := "ytnhbfdigohiggaagreatdoor", sum := "62f45fc76d548c0675f032af64792ede86b6b0af694d3508e1e8b88b01972870", func := "leatwork/leatworklaw05.KernelKnown", spec := "kernelKnown", inPlace := ["internal/bytealg.IndexByteString", "internal/bytealg.IndexString"], unfollowed := true, recurses := true, named := ["leatwork/parse.levels", "internal/bytealg.MaxLen", "strings.asciiSpace", "unicode.White_Space"], loops := true, apart := false, laid := [("unicode.White_Space", laid_unicode_White_Space), ("strings.asciiSpace", laid_strings_asciiSpace), ("leatwork/parse.levels", laid_leatwork_parse_levels)] }
def KernelKnownSaid : Prop := kernelKnownRow.holds Tryz.pinned (OpenSpec.ofChange kernelKnownSpec)

/-- ITS FALSE NEIGHBOUR: 'it returns false'. Refute it at one input. -/
def kernelKnownWrong : ChangeSpec := { name := "kernelKnown", fn := fun _ => fun
  | [d] => { results := [.lit (.bool false)], args := [d] }
  | _ => none }
def KernelKnownWrongFalsely : Prop := kernelKnownRow.holds Tryz.pinned (OpenSpec.ofChange kernelKnownWrong)

/-- 'leatworklaw05.KernelNames': WHATEVER THE INPUT: true; the input reads as it did. -/
def kernelNamesSpec : ChangeSpec := { name := "kernelNames", fn := fun _ => fun
  | [d1, d2, d3] => { results := [.lit (.bool true)], args := [d1, d2, d3] }
  | _ => none }
def kernelNamesRow : OpenClaim := { program := "ytnhbfdigohiggaagreatdoor", sum := "62f45fc76d548c0675f032af64792ede86b6b0af694d3508e1e8b88b01972870", func := "leatwork/leatworklaw05.KernelNames", spec := "kernelNames", inPlace := ["internal/bytealg.IndexByteString", "internal/bytealg.IndexString"], unfollowed := true, recurses := true, named := ["leatwork/parse.levels", "internal/bytealg.MaxLen", "strings.asciiSpace", "unicode.White_Space"], loops := true, apart := false, laid := [("unicode.White_Space", laid_unicode_White_Space), ("strings.asciiSpace", laid_strings_asciiSpace), ("leatwork/parse.levels", laid_leatwork_parse_levels)] }
def KernelNamesSaid : Prop := kernelNamesRow.holds Tryz.pinned (OpenSpec.ofChange kernelNamesSpec)

/-- ITS FALSE NEIGHBOUR: 'it returns false'. Refute it at one input. -/
def kernelNamesWrong : ChangeSpec := { name := "kernelNames", fn := fun _ => fun
  | [d1, d2, d3] => { results := [.lit (.bool false)], args := [d1, d2, d3] }
  | _ => none }
def KernelNamesWrongFalsely : Prop := kernelNamesRow.holds Tryz.pinned (OpenSpec.ofChange kernelNamesWrong)

/-- 'leatworklaw05.KernelValid': WHATEVER THE INPUT: true; the input reads as it did. -/
def kernelValidSpec : ChangeSpec := { name := "kernelValid", fn := fun _ => fun
  | [d] => { results := [.lit (.bool true)], args := [d] }
  | _ => none }
def kernelValidRow : OpenClaim := { program := "ytnhbfdigohiggaagreatdoor", sum := "62f45fc76d548c0675f032af64792ede86b6b0af694d3508e1e8b88b01972870", func := "leatwork/leatworklaw05.KernelValid", spec := "kernelValid", inPlace := ["internal/bytealg.IndexByteString", "internal/bytealg.IndexString"], unfollowed := true, recurses := true, named := ["leatwork/parse.levels", "internal/bytealg.MaxLen", "strings.asciiSpace", "unicode.White_Space"], apart := false, laid := [("unicode.White_Space", laid_unicode_White_Space), ("strings.asciiSpace", laid_strings_asciiSpace), ("leatwork/parse.levels", laid_leatwork_parse_levels)] }
def KernelValidSaid : Prop := kernelValidRow.holds Tryz.pinned (OpenSpec.ofChange kernelValidSpec)

/-- ITS FALSE NEIGHBOUR: 'it returns false'. Refute it at one input. -/
def kernelValidWrong : ChangeSpec := { name := "kernelValid", fn := fun _ => fun
  | [d] => { results := [.lit (.bool false)], args := [d] }
  | _ => none }
def KernelValidWrongFalsely : Prop := kernelValidRow.holds Tryz.pinned (OpenSpec.ofChange kernelValidWrong)

/-- 'leatworklaw05.KernelRight': WHATEVER THE INPUT: true; the input reads as it did. -/
def kernelRightSpec : ChangeSpec := { name := "kernelRight", fn := fun _ => fun
  | [d1, d2] => { results := [.lit (.bool true)], args := [d1, d2] }
  | _ => none }
def kernelRightRow : OpenClaim := { program := "ytnhbfdigohiggaagreatdoor", sum := "62f45fc76d548c0675f032af64792ede86b6b0af694d3508e1e8b88b01972870", func := "leatwork/leatworklaw05.KernelRight", spec := "kernelRight", inPlace := ["internal/bytealg.IndexByteString", "internal/bytealg.IndexString"], unfollowed := true, recurses := true, named := ["leatwork/parse.levels", "internal/bytealg.MaxLen", "strings.asciiSpace", "unicode.White_Space"], loops := true, apart := false, laid := [("unicode.White_Space", laid_unicode_White_Space), ("strings.asciiSpace", laid_strings_asciiSpace), ("leatwork/parse.levels", laid_leatwork_parse_levels)] }
def KernelRightSaid : Prop := kernelRightRow.holds Tryz.pinned (OpenSpec.ofChange kernelRightSpec)

/-- ITS FALSE NEIGHBOUR: 'it returns false'. Refute it at one input. -/
def kernelRightWrong : ChangeSpec := { name := "kernelRight", fn := fun _ => fun
  | [d1, d2] => { results := [.lit (.bool false)], args := [d1, d2] }
  | _ => none }
def KernelRightWrongFalsely : Prop := kernelRightRow.holds Tryz.pinned (OpenSpec.ofChange kernelRightWrong)

/-- 'leatworklaw05.KernelHidden': WHATEVER THE INPUT: true; the input reads as it did. -/
def kernelHiddenSpec : ChangeSpec := { name := "kernelHidden", fn := fun _ => fun
  | [d1, d2, d3] => { results := [.lit (.bool true)], args := [d1, d2, d3] }
  | _ => none }
def kernelHiddenRow : OpenClaim := { program := "ytnhbfdigohiggaagreatdoor", sum := "62f45fc76d548c0675f032af64792ede86b6b0af694d3508e1e8b88b01972870", func := "leatwork/leatworklaw05.KernelHidden", spec := "kernelHidden", inPlace := ["internal/bytealg.IndexByteString", "internal/bytealg.IndexString"], unfollowed := true, recurses := true, named := ["leatwork/parse.levels", "internal/bytealg.MaxLen", "strings.asciiSpace", "unicode.White_Space"], loops := true, apart := false, laid := [("unicode.White_Space", laid_unicode_White_Space), ("strings.asciiSpace", laid_strings_asciiSpace), ("leatwork/parse.levels", laid_leatwork_parse_levels)] }
def KernelHiddenSaid : Prop := kernelHiddenRow.holds Tryz.pinned (OpenSpec.ofChange kernelHiddenSpec)

/-- ITS FALSE NEIGHBOUR: 'it returns false'. Refute it at one input. -/
def kernelHiddenWrong : ChangeSpec := { name := "kernelHidden", fn := fun _ => fun
  | [d1, d2, d3] => { results := [.lit (.bool false)], args := [d1, d2, d3] }
  | _ => none }
def KernelHiddenWrongFalsely : Prop := kernelHiddenRow.holds Tryz.pinned (OpenSpec.ofChange kernelHiddenWrong)

/-- 'leatworklaw05.KernelPlain': WHATEVER THE INPUT: true; the input reads as it did. -/
def kernelPlainSpec : ChangeSpec := { name := "kernelPlain", fn := fun _ => fun
  | [d1, d2] => { results := [.lit (.bool true)], args := [d1, d2] }
  | _ => none }
def kernelPlainRow : OpenClaim := { program := "ytnhbfdigohiggaagreatdoor", sum := "62f45fc76d548c0675f032af64792ede86b6b0af694d3508e1e8b88b01972870", func := "leatwork/leatworklaw05.KernelPlain", spec := "kernelPlain", inPlace := ["internal/bytealg.IndexByteString", "internal/bytealg.IndexString"], unfollowed := true, recurses := true, named := ["leatwork/parse.levels", "internal/bytealg.MaxLen", "strings.asciiSpace", "unicode.White_Space"], loops := true, apart := false, laid := [("unicode.White_Space", laid_unicode_White_Space), ("strings.asciiSpace", laid_strings_asciiSpace), ("leatwork/parse.levels", laid_leatwork_parse_levels)] }
def KernelPlainSaid : Prop := kernelPlainRow.holds Tryz.pinned (OpenSpec.ofChange kernelPlainSpec)

/-- ITS FALSE NEIGHBOUR: 'it returns false'. Refute it at one input. -/
def kernelPlainWrong : ChangeSpec := { name := "kernelPlain", fn := fun _ => fun
  | [d1, d2] => { results := [.lit (.bool false)], args := [d1, d2] }
  | _ => none }
def KernelPlainWrongFalsely : Prop := kernelPlainRow.holds Tryz.pinned (OpenSpec.ofChange kernelPlainWrong)

/-- 'leatworklaw05.KernelFree': WHATEVER THE INPUT: true; the input reads as it did. -/
def kernelFreeSpec : ChangeSpec := { name := "kernelFree", fn := fun _ => fun
  | [d1, d2] => { results := [.lit (.bool true)], args := [d1, d2] }
  | _ => none }
def kernelFreeRow : OpenClaim := { program := "ytnhbfdigohiggaagreatdoor", sum := "62f45fc76d548c0675f032af64792ede86b6b0af694d3508e1e8b88b01972870", func := "leatwork/leatworklaw05.KernelFree", spec := "kernelFree", inPlace := ["internal/bytealg.IndexByteString", "internal/bytealg.IndexString"], unfollowed := true, recurses := true, named := ["leatwork/parse.levels", "internal/bytealg.MaxLen", "strings.asciiSpace", "unicode.White_Space"], apart := false, laid := [("unicode.White_Space", laid_unicode_White_Space), ("strings.asciiSpace", laid_strings_asciiSpace), ("leatwork/parse.levels", laid_leatwork_parse_levels)] }
def KernelFreeSaid : Prop := kernelFreeRow.holds Tryz.pinned (OpenSpec.ofChange kernelFreeSpec)

/-- ITS FALSE NEIGHBOUR: 'it returns false'. Refute it at one input. -/
def kernelFreeWrong : ChangeSpec := { name := "kernelFree", fn := fun _ => fun
  | [d1, d2] => { results := [.lit (.bool false)], args := [d1, d2] }
  | _ => none }
def KernelFreeWrongFalsely : Prop := kernelFreeRow.holds Tryz.pinned (OpenSpec.ofChange kernelFreeWrong)

/-- 'leatworklaw05.KernelTexts': WHATEVER THE INPUT: true; the input reads as it did. -/
def kernelTextsSpec : ChangeSpec := { name := "kernelTexts", fn := fun _ => fun
  | [d] => { results := [.lit (.bool true)], args := [d] }
  | _ => none }
def kernelTextsRow : OpenClaim := { program := "ytnhbfdigohiggaagreatdoor", sum := "62f45fc76d548c0675f032af64792ede86b6b0af694d3508e1e8b88b01972870", func := "leatwork/leatworklaw05.KernelTexts", spec := "kernelTexts", inPlace := ["internal/bytealg.IndexByteString", "internal/bytealg.IndexString", "internal/abi.NoEscape", "internal/bytealg.MakeNoZero"], unfollowed := true, recurses := true, named := ["leatwork/parse.levels", "internal/bytealg.MaxLen", "strings.asciiSpace", "unicode.White_Space", "internal/strconv.uint64pow10", "math/bits.deBruijn32tab", "math/bits.deBruijn64tab"], apart := false, laid := [("math/bits.deBruijn32tab", laid_math_bits_deBruijn32tab), ("math/bits.deBruijn64tab", laid_math_bits_deBruijn64tab), ("internal/strconv.uint64pow10", laid_internal_strconv_uint64pow10), ("unicode.White_Space", laid_unicode_White_Space), ("strings.asciiSpace", laid_strings_asciiSpace), ("leatwork/parse.levels", laid_leatwork_parse_levels)] }
def KernelTextsSaid : Prop := kernelTextsRow.holds Tryz.pinned (OpenSpec.ofChange kernelTextsSpec)

/-- ITS FALSE NEIGHBOUR: 'it returns false'. Refute it at one input. -/
def kernelTextsWrong : ChangeSpec := { name := "kernelTexts", fn := fun _ => fun
  | [d] => { results := [.lit (.bool false)], args := [d] }
  | _ => none }
def KernelTextsWrongFalsely : Prop := kernelTextsRow.holds Tryz.pinned (OpenSpec.ofChange kernelTextsWrong)

/-- 'leatworklaw05.KernelTexted': WHATEVER THE INPUT: true; the input reads as it did. -/
def kernelTextedSpec : ChangeSpec := { name := "kernelTexted", fn := fun _ => fun
  | [d1, d2] => { results := [.lit (.bool true)], args := [d1, d2] }
  | _ => none }
def kernelTextedRow : OpenClaim := { program := "ytnhbfdigohiggaagreatdoor", sum := "62f45fc76d548c0675f032af64792ede86b6b0af694d3508e1e8b88b01972870", func := "leatwork/leatworklaw05.KernelTexted", spec := "kernelTexted", inPlace := ["internal/bytealg.IndexByteString", "internal/bytealg.IndexString", "internal/abi.NoEscape", "internal/bytealg.MakeNoZero"], unfollowed := true, recurses := true, named := ["leatwork/parse.levels", "internal/bytealg.MaxLen", "strings.asciiSpace", "unicode.White_Space", "internal/strconv.uint64pow10", "math/bits.deBruijn32tab", "math/bits.deBruijn64tab"], apart := false, laid := [("math/bits.deBruijn32tab", laid_math_bits_deBruijn32tab), ("math/bits.deBruijn64tab", laid_math_bits_deBruijn64tab), ("internal/strconv.uint64pow10", laid_internal_strconv_uint64pow10), ("unicode.White_Space", laid_unicode_White_Space), ("strings.asciiSpace", laid_strings_asciiSpace), ("leatwork/parse.levels", laid_leatwork_parse_levels)] }
def KernelTextedSaid : Prop := kernelTextedRow.holds Tryz.pinned (OpenSpec.ofChange kernelTextedSpec)

/-- ITS FALSE NEIGHBOUR: 'it returns false'. Refute it at one input. -/
def kernelTextedWrong : ChangeSpec := { name := "kernelTexted", fn := fun _ => fun
  | [d1, d2] => { results := [.lit (.bool false)], args := [d1, d2] }
  | _ => none }
def KernelTextedWrongFalsely : Prop := kernelTextedRow.holds Tryz.pinned (OpenSpec.ofChange kernelTextedWrong)

/- THE SECOND FORM. 'bulk': how many values and letters a reading holds, each counted each time it is reached (what is shared counts as often as it is met; a slice's spare places count too). A statement '..UptoSaid' is the law's where the arguments, and the package variables that the reading takes, are together of bulk at most 1048576: NARROWER than '..Said'. Prove '..Said' where nothing that the law and all that it calls make is longer than what came in: it says more and counts as full. Else prove '..UptoSaid'. A law counts once. -/
mutual
def uptoBulk {H : Type} : DataW H → Nat
  | .lit (.string bytes) => bytes.length + 1
  | .lit _ => 1
  | .nil => 1
  | .ptr d => uptoBulk d + 1
  | .slice elems spare => uptoBulkAll elems + uptoBulkAll spare + 1
  | .agg parts => uptoBulkAll parts + 1
  | .iface _ d => uptoBulk d + 1
  | .map entries => uptoBulkEntries entries + 1
  | .held _ => 1
def uptoBulkAll {H : Type} : List (DataW H) → Nat
  | [] => 0
  | d :: r => uptoBulk d + uptoBulkAll r
def uptoBulkEntries {H : Type} : List (Lit × DataW H) → Nat
  | [] => 0
  | x :: r => uptoBulkEntry x + uptoBulkEntries r
def uptoBulkEntry {H : Type} : Lit × DataW H → Nat
  | (.string bytes, d) => bytes.length + uptoBulk d + 1
  | (_, d) => uptoBulk d + 1
 end
def uptoSmall : (H : Type) → List (DataW H) → Bool := fun _ ds => decide (uptoBulkAll ds ≤ 1048576)
def OpenSpec.upto (s : _root_.Go.ChangeSpec) : _root_.Go.OpenSpec := { _root_.Go.OpenSpec.ofChange s with cond := some uptoSmall }

/-- 'leatworklaw05.KernelMakes', WHERE WHAT IT READS IS OF BULK AT MOST 1048576: true; the input reads as it did. -/
def kernelMakesUptoRow : OpenClaim := { program := "ytnhbfdigohiggaagreatdoor", sum := "62f45fc76d548c0675f032af64792ede86b6b0af694d3508e1e8b88b01972870", func := "leatwork/leatworklaw05.KernelMakes", spec := "kernelMakes", inPlace := ["internal/bytealg.IndexByteString", "internal/bytealg.IndexString"], unfollowed := true, recurses := true, named := ["leatwork/parse.levels", "internal/bytealg.MaxLen", "strings.asciiSpace", "unicode.White_Space"], loops := true, apart := false, laid := [("unicode.White_Space", laid_unicode_White_Space), ("strings.asciiSpace", laid_strings_asciiSpace), ("leatwork/parse.levels", laid_leatwork_parse_levels)], narrowed := true }
def KernelMakesUptoSaid : Prop := kernelMakesUptoRow.holds Tryz.pinned (OpenSpec.upto kernelMakesSpec)

/-- 'leatworklaw05.KernelReads', WHERE WHAT IT READS IS OF BULK AT MOST 1048576: true; the input reads as it did. -/
def kernelReadsUptoRow : OpenClaim := { program := "ytnhbfdigohiggaagreatdoor", sum := "62f45fc76d548c0675f032af64792ede86b6b0af694d3508e1e8b88b01972870", func := "leatwork/leatworklaw05.KernelReads", spec := "kernelReads", inPlace := ["internal/bytealg.IndexByteString", "internal/bytealg.IndexString"], unfollowed := true, recurses := true, named := ["leatwork/parse.levels", "internal/bytealg.MaxLen", "strings.asciiSpace", "unicode.White_Space"], apart := false, laid := [("unicode.White_Space", laid_unicode_White_Space), ("strings.asciiSpace", laid_strings_asciiSpace), ("leatwork/parse.levels", laid_leatwork_parse_levels)], narrowed := true }
def KernelReadsUptoSaid : Prop := kernelReadsUptoRow.holds Tryz.pinned (OpenSpec.upto kernelReadsSpec)

/-- 'leatworklaw05.KernelBuiltins', WHERE WHAT IT READS IS OF BULK AT MOST 1048576: true; the input reads as it did. -/
def kernelBuiltinsUptoRow : OpenClaim := { program := "ytnhbfdigohiggaagreatdoor", sum := "62f45fc76d548c0675f032af64792ede86b6b0af694d3508e1e8b88b01972870", func := "leatwork/leatworklaw05.KernelBuiltins", spec := "kernelBuiltins", inPlace := ["internal/bytealg.IndexByteString", "internal/bytealg.IndexString"], unfollowed := true, recurses := true, named := ["strings.asciiSpace", "unicode.White_Space", "leatwork/parse.levels", "internal/bytealg.MaxLen"], apart := false, laid := [("unicode.White_Space", laid_unicode_White_Space), ("strings.asciiSpace", laid_strings_asciiSpace), ("leatwork/parse.levels", laid_leatwork_parse_levels)], narrowed := true }
def KernelBuiltinsUptoSaid : Prop := kernelBuiltinsUptoRow.holds Tryz.pinned (OpenSpec.upto kernelBuiltinsSpec)

/-- 'leatworklaw05.KernelKnown', WHERE WHAT IT READS IS OF BULK AT MOST 1048576: true; the input reads as it did. -/
def kernelKnownUptoRow : OpenClaim := { program := "ytnhbfdigohiggaagreatdoor", sum := "62f45fc76d548c0675f032af64792ede86b6b0af694d3508e1e8b88b01972870", func := "leatwork/leatworklaw05.KernelKnown", spec := "kernelKnown", inPlace := ["internal/bytealg.IndexByteString", "internal/bytealg.IndexString"], unfollowed := true, recurses := true, named := ["leatwork/parse.levels", "internal/bytealg.MaxLen", "strings.asciiSpace", "unicode.White_Space"], loops := true, apart := false, laid := [("unicode.White_Space", laid_unicode_White_Space), ("strings.asciiSpace", laid_strings_asciiSpace), ("leatwork/parse.levels", laid_leatwork_parse_levels)], narrowed := true }
def KernelKnownUptoSaid : Prop := kernelKnownUptoRow.holds Tryz.pinned (OpenSpec.upto kernelKnownSpec)

/-- 'leatworklaw05.KernelNames', WHERE WHAT IT READS IS OF BULK AT MOST 1048576: true; the input reads as it did. -/
def kernelNamesUptoRow : OpenClaim := { program := "ytnhbfdigohiggaagreatdoor", sum := "62f45fc76d548c0675f032af64792ede86b6b0af694d3508e1e8b88b01972870", func := "leatwork/leatworklaw05.KernelNames", spec := "kernelNames", inPlace := ["internal/bytealg.IndexByteString", "internal/bytealg.IndexString"], unfollowed := true, recurses := true, named := ["leatwork/parse.levels", "internal/bytealg.MaxLen", "strings.asciiSpace", "unicode.White_Space"], loops := true, apart := false, laid := [("unicode.White_Space", laid_unicode_White_Space), ("strings.asciiSpace", laid_strings_asciiSpace), ("leatwork/parse.levels", laid_leatwork_parse_levels)], narrowed := true }
def KernelNamesUptoSaid : Prop := kernelNamesUptoRow.holds Tryz.pinned (OpenSpec.upto kernelNamesSpec)

/-- 'leatworklaw05.KernelValid', WHERE WHAT IT READS IS OF BULK AT MOST 1048576: true; the input reads as it did. -/
def kernelValidUptoRow : OpenClaim := { program := "ytnhbfdigohiggaagreatdoor", sum := "62f45fc76d548c0675f032af64792ede86b6b0af694d3508e1e8b88b01972870", func := "leatwork/leatworklaw05.KernelValid", spec := "kernelValid", inPlace := ["internal/bytealg.IndexByteString", "internal/bytealg.IndexString"], unfollowed := true, recurses := true, named := ["leatwork/parse.levels", "internal/bytealg.MaxLen", "strings.asciiSpace", "unicode.White_Space"], apart := false, laid := [("unicode.White_Space", laid_unicode_White_Space), ("strings.asciiSpace", laid_strings_asciiSpace), ("leatwork/parse.levels", laid_leatwork_parse_levels)], narrowed := true }
def KernelValidUptoSaid : Prop := kernelValidUptoRow.holds Tryz.pinned (OpenSpec.upto kernelValidSpec)

/-- 'leatworklaw05.KernelRight', WHERE WHAT IT READS IS OF BULK AT MOST 1048576: true; the input reads as it did. -/
def kernelRightUptoRow : OpenClaim := { program := "ytnhbfdigohiggaagreatdoor", sum := "62f45fc76d548c0675f032af64792ede86b6b0af694d3508e1e8b88b01972870", func := "leatwork/leatworklaw05.KernelRight", spec := "kernelRight", inPlace := ["internal/bytealg.IndexByteString", "internal/bytealg.IndexString"], unfollowed := true, recurses := true, named := ["leatwork/parse.levels", "internal/bytealg.MaxLen", "strings.asciiSpace", "unicode.White_Space"], loops := true, apart := false, laid := [("unicode.White_Space", laid_unicode_White_Space), ("strings.asciiSpace", laid_strings_asciiSpace), ("leatwork/parse.levels", laid_leatwork_parse_levels)], narrowed := true }
def KernelRightUptoSaid : Prop := kernelRightUptoRow.holds Tryz.pinned (OpenSpec.upto kernelRightSpec)

/-- 'leatworklaw05.KernelHidden', WHERE WHAT IT READS IS OF BULK AT MOST 1048576: true; the input reads as it did. -/
def kernelHiddenUptoRow : OpenClaim := { program := "ytnhbfdigohiggaagreatdoor", sum := "62f45fc76d548c0675f032af64792ede86b6b0af694d3508e1e8b88b01972870", func := "leatwork/leatworklaw05.KernelHidden", spec := "kernelHidden", inPlace := ["internal/bytealg.IndexByteString", "internal/bytealg.IndexString"], unfollowed := true, recurses := true, named := ["leatwork/parse.levels", "internal/bytealg.MaxLen", "strings.asciiSpace", "unicode.White_Space"], loops := true, apart := false, laid := [("unicode.White_Space", laid_unicode_White_Space), ("strings.asciiSpace", laid_strings_asciiSpace), ("leatwork/parse.levels", laid_leatwork_parse_levels)], narrowed := true }
def KernelHiddenUptoSaid : Prop := kernelHiddenUptoRow.holds Tryz.pinned (OpenSpec.upto kernelHiddenSpec)

/-- 'leatworklaw05.KernelPlain', WHERE WHAT IT READS IS OF BULK AT MOST 1048576: true; the input reads as it did. -/
def kernelPlainUptoRow : OpenClaim := { program := "ytnhbfdigohiggaagreatdoor", sum := "62f45fc76d548c0675f032af64792ede86b6b0af694d3508e1e8b88b01972870", func := "leatwork/leatworklaw05.KernelPlain", spec := "kernelPlain", inPlace := ["internal/bytealg.IndexByteString", "internal/bytealg.IndexString"], unfollowed := true, recurses := true, named := ["leatwork/parse.levels", "internal/bytealg.MaxLen", "strings.asciiSpace", "unicode.White_Space"], loops := true, apart := false, laid := [("unicode.White_Space", laid_unicode_White_Space), ("strings.asciiSpace", laid_strings_asciiSpace), ("leatwork/parse.levels", laid_leatwork_parse_levels)], narrowed := true }
def KernelPlainUptoSaid : Prop := kernelPlainUptoRow.holds Tryz.pinned (OpenSpec.upto kernelPlainSpec)

/-- 'leatworklaw05.KernelFree', WHERE WHAT IT READS IS OF BULK AT MOST 1048576: true; the input reads as it did. -/
def kernelFreeUptoRow : OpenClaim := { program := "ytnhbfdigohiggaagreatdoor", sum := "62f45fc76d548c0675f032af64792ede86b6b0af694d3508e1e8b88b01972870", func := "leatwork/leatworklaw05.KernelFree", spec := "kernelFree", inPlace := ["internal/bytealg.IndexByteString", "internal/bytealg.IndexString"], unfollowed := true, recurses := true, named := ["leatwork/parse.levels", "internal/bytealg.MaxLen", "strings.asciiSpace", "unicode.White_Space"], apart := false, laid := [("unicode.White_Space", laid_unicode_White_Space), ("strings.asciiSpace", laid_strings_asciiSpace), ("leatwork/parse.levels", laid_leatwork_parse_levels)], narrowed := true }
def KernelFreeUptoSaid : Prop := kernelFreeUptoRow.holds Tryz.pinned (OpenSpec.upto kernelFreeSpec)

/-- 'leatworklaw05.KernelTexts', WHERE WHAT IT READS IS OF BULK AT MOST 1048576: true; the input reads as it did. -/
def kernelTextsUptoRow : OpenClaim := { program := "ytnhbfdigohiggaagreatdoor", sum := "62f45fc76d548c0675f032af64792ede86b6b0af694d3508e1e8b88b01972870", func := "leatwork/leatworklaw05.KernelTexts", spec := "kernelTexts", inPlace := ["internal/bytealg.IndexByteString", "internal/bytealg.IndexString", "internal/abi.NoEscape", "internal/bytealg.MakeNoZero"], unfollowed := true, recurses := true, named := ["leatwork/parse.levels", "internal/bytealg.MaxLen", "strings.asciiSpace", "unicode.White_Space", "internal/strconv.uint64pow10", "math/bits.deBruijn32tab", "math/bits.deBruijn64tab"], apart := false, laid := [("math/bits.deBruijn32tab", laid_math_bits_deBruijn32tab), ("math/bits.deBruijn64tab", laid_math_bits_deBruijn64tab), ("internal/strconv.uint64pow10", laid_internal_strconv_uint64pow10), ("unicode.White_Space", laid_unicode_White_Space), ("strings.asciiSpace", laid_strings_asciiSpace), ("leatwork/parse.levels", laid_leatwork_parse_levels)], narrowed := true }
def KernelTextsUptoSaid : Prop := kernelTextsUptoRow.holds Tryz.pinned (OpenSpec.upto kernelTextsSpec)

/-- 'leatworklaw05.KernelTexted', WHERE WHAT IT READS IS OF BULK AT MOST 1048576: true; the input reads as it did. -/
def kernelTextedUptoRow : OpenClaim := { program := "ytnhbfdigohiggaagreatdoor", sum := "62f45fc76d548c0675f032af64792ede86b6b0af694d3508e1e8b88b01972870", func := "leatwork/leatworklaw05.KernelTexted", spec := "kernelTexted", inPlace := ["internal/bytealg.IndexByteString", "internal/bytealg.IndexString", "internal/abi.NoEscape", "internal/bytealg.MakeNoZero"], unfollowed := true, recurses := true, named := ["leatwork/parse.levels", "internal/bytealg.MaxLen", "strings.asciiSpace", "unicode.White_Space", "internal/strconv.uint64pow10", "math/bits.deBruijn32tab", "math/bits.deBruijn64tab"], apart := false, laid := [("math/bits.deBruijn32tab", laid_math_bits_deBruijn32tab), ("math/bits.deBruijn64tab", laid_math_bits_deBruijn64tab), ("internal/strconv.uint64pow10", laid_internal_strconv_uint64pow10), ("unicode.White_Space", laid_unicode_White_Space), ("strings.asciiSpace", laid_strings_asciiSpace), ("leatwork/parse.levels", laid_leatwork_parse_levels)], narrowed := true }
def KernelTextedUptoSaid : Prop := kernelTextedUptoRow.holds Tryz.pinned (OpenSpec.upto kernelTextedSpec)

end Rows
end Go.Proofs.YtnhbfdigohiggaaGreatDoor
