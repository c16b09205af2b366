/-
  What the rows' list of package-level variables gives the walks (Glob), and that the heap which the program's own door leaves meets the list.
-/
import Derived.Test.YtakcnogmljbaiaaDoorRows
import Derived.Test.YtakcnogmljbaiaaDoorGlob
import Derived.ProofKit
import Derived.LaidMore
import Derived.Stop.LaidErr
import Derived.MakeChecks
import Derived.Lib.LaidTab
namespace Go.Proofs.YtakcnogmljbaiaaDoor
open Go.RowKit
/-- The list of all rows of this seat. -/
abbrev laidAll : List (String × DataW Unit) := Rows.lexScansRow.laid
theorem tSpace : (Tryd.prog.globals[0]?).map (·.type) = some 69 := by kernel_rfl
theorem tPow : (Tryd.prog.globals[5]?).map (·.type) = some 121 := by kernel_rfl
theorem dSpace : Rows.laid_strings_asciiSpace (H := Unit) = Lib.tabData .u8 Lib.asciiSpaceTab := by kernel_rfl
theorem dPow : Rows.laid_internal_strconv_uint64pow10 (H := Unit) = Lib.tabData .u64 Lib.pow10Tab := by kernel_rfl
theorem cells69 : Tryd.prog.cellsOf 69 = 256 := by kernel_rfl
theorem cells121 : Tryd.prog.cellsOf 121 = 20 := by kernel_rfl
theorem cells5 : Tryd.prog.cellsOf 5 = 1 := by kernel_rfl
theorem cells105 : Tryd.prog.cellsOf 105 = 1 := by kernel_rfl
theorem glob_of_laid {W : World} (h : laidMetH Tryd.prog laidAll W) : Glob W := by
  rw [MakeChecks.laidMetH_plain _ _ _ (by kernel_rfl)] at h
  have h3 := h.tail.tail
  have h7 := h3.tail.tail.tail.tail
  constructor
  · have h7' : laidMet Tryd.prog [("strings.asciiSpace", Lib.tabData .u8 Lib.asciiSpaceTab)] W := by rw [← dSpace]; exact h7
    exact Lib.tabIs_of_head gSpace tSpace Tryd.underlying69 Tryd.underlying5 cells5 cells69 h7'
  · obtain ⟨r, hr⟩ : ∃ r, laidMet Tryd.prog (("internal/strconv.uint64pow10", Lib.tabData .u64 Lib.pow10Tab) :: r) W := ⟨_, by rw [← dPow]; exact h3⟩
    exact Lib.tabIs_of_head gPow tPow Tryd.underlying121 Tryd.underlying105 cells105 cells121 hr
/-- The door's own heap meets the list. -/
theorem door_met (os : Os) (args : Array Value) : laidMetH Tryd.prog laidAll ((World.doorLaid Tryd.prog 400 os).forCall (fun _ _ => 0) ⟨#[], args, []⟩).memory := by
  rw [MakeChecks.laidMetH_plain _ _ _ (by kernel_rfl)]
  exact laidMet_of_run' 8 (by kernel_rfl) (by kernel_rfl)
theorem door_shaped (os : Os) (args : Array Value) : ((World.doorLaid Tryd.prog 400 os).forCall (fun _ _ => 0) ⟨#[], args, []⟩).Shaped Tryd.prog := World.shaped_of_RefB (by kernel_rfl) (by kernel_rfl)
end Go.Proofs.YtakcnogmljbaiaaDoor
