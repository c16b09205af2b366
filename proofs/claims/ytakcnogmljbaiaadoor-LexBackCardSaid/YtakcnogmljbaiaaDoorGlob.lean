/-
  What the walks of this seat ask of the world's package-level tables: strings.asciiSpace and internal/strconv.uint64pow10 hold what they were laid with; new memory changes nothing of it.
-/
import Derived.Test.YtakcnogmljbaiaaDoorProg
import Derived.Lib.SmallJoins
import Derived.Lib.FieldsLaws
import Derived.Lib.ItoaMem
namespace Go.Proofs.YtakcnogmljbaiaaDoor
open Go.RowKit
theorem gSpace : Tryd.prog.globalNamed "strings.asciiSpace" = some 0 := by kernel_rfl
theorem gPow : Tryd.prog.globalNamed "internal/strconv.uint64pow10" = some 5 := by kernel_rfl
/-- The tables hold what they were laid with. -/
structure Glob (w : World) : Prop where
  space : Lib.TabIs Tryd.prog w "strings.asciiSpace" .u8 Lib.asciiSpaceTab
  pow : Lib.TabIs Tryd.prog w "internal/strconv.uint64pow10" .u64 Lib.pow10Tab
theorem Glob.mono {w w' : World} (h : Glob w) (hb : Below w.heap.size w w') : Glob w' :=
  ⟨Joins.tab_stays gSpace h.space hb (Nat.le_refl _), Joins.tab_stays gPow h.pow hb (Nat.le_refl _)⟩
theorem wrap_wrap (a b : Int) : wrap64 (wrap64 a + b) = wrap64 (a + b) := by
  unfold wrap64; omega
/-- A store makes no cell and strikes none. -/
theorem isSome_setCell (w : World) (a b : Addr) (v : Value) : ((w.setCell a v).cell? b).isSome = (w.cell? b).isSome := by
  cases h : w.cell? b with
  | some u => obtain ⟨v', hv⟩ := cell?_setCell_some (p := a) (x := v) h; rw [hv]; rfl
  | none =>
    by_cases e : a = b
    · subst e
      unfold World.cell? at h ⊢
      simp only [World.setCell, Array.getElem?_modify, if_true]
      split at h
      · rename_i c t f hb
        rw [hb]
        by_cases hs : a.spot.isSome = true
        · simp [hs]
        · simp only [hs] at h ⊢
          simp at h ⊢
          omega
      · rename_i hb
        cases hh : w.heap[a.block]? with
        | none => simp
        | some o =>
          cases o with
          | cells c t f => exact absurd hh (hb _ _ _)
          | _ => simp
    · rw [World.cell?_setCell_other _ _ _ _ e, h]
end Go.Proofs.YtakcnogmljbaiaaDoor
