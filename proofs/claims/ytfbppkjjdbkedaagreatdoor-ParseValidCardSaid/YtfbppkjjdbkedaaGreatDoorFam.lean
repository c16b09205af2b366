/-
  The types of this seat's parameters and listed variables; what the rows' list of package-level variables gives; that the heap which the program's own door leaves meets the list.
-/
import Derived.Test.YtfbppkjjdbkedaaGreatDoorRows
import Derived.Test.YtfbppkjjdbkedaaGreatDoorRefD
import Derived.Test.YtfbppkjjdbkedaaGreatDoorHn
import Derived.Test.YtfbppkjjdbkedaaGreatDoorMu
import Derived.LaidMore
import Derived.MakeChecks
import Derived.Stop.LaidErr
namespace Go.Proofs.YtfbppkjjdbkedaaGreatDoor.Ref
noncomputable section
open Go Go.RowKit
set_option linter.unusedVariables false
set_option maxRecDepth 100000
def famL : List Nat := [3, 4, 5, 9, 24, 26, 39, 130, 132, 145, 171, 197]
theorem famG : ∀ t, (fun t => memN t famL) t = true → famB X (fun t => memN t famL) t = true := fam_of (by kernel_rfl)
/-- The list of the rows. -/
abbrev laidAll : List (String × DataW Unit) := Rows.parseValidRow.laid
theorem und_bool : Tryz.prog.underlying 4 = some .bool := by kernel_rfl
theorem und5 : Tryz.prog.underlying 5 = some (.int .u8) := by kernel_rfl
theorem laidOut : laidOutB Tryz.prog = true := by kernel_rfl
theorem asc_is : toD Tryz.prog 145 (Rows.laid_strings_asciiSpace (H := Unit)) = asc := by kernel_rfl
theorem lev_is : toD Tryz.prog 130 (Rows.laid_leatwork_parse_levels (H := Unit)) = lev := by kernel_rfl
theorem p10_is : toD Tryz.prog 197 (Rows.laid_internal_strconv_uint64pow10 (H := Unit)) = p10 := by kernel_rfl
theorem glob_of {W : World} (h : laidMetH Tryz.prog laidAll W) : ∀ i d, X.G i = some d → Gl (fun _ => none) W (fun b => b < W.heap.size) i d := by
  rw [MakeChecks.laidMetH_plain _ _ _ (by kernel_rfl)] at h
  obtain ⟨ps, h, _⟩ := h
  have wts : ∀ (d : DataW Unit) t, (d.weights Tryz.prog t).all (· ≤ reachBytes) = true → ∀ x ∈ d.weights Tryz.prog t, x ≤ reachBytes := fun d t hh x hx => by simpa using List.all_eq_true.1 hh x hx
  intro i d hd
  have hd : glo i = some d := hd
  unfold glo at hd
  split at hd
  · rename_i e
    have e := Nat.eq_of_beq_eq_true e
    subst e
    injection hd with hd
    subst hd
    rw [← asc_is]
    exact laid_glob hX famG h "strings.asciiSpace" Rows.laid_strings_asciiSpace (by simp [laidAll, Rows.parseValidRow]) 1 145 (by kernel_rfl) (by kernel_rfl) rfl (wts _ _ (by kernel_rfl))
  split at hd
  · rename_i e
    have e := Nat.eq_of_beq_eq_true e
    subst e
    injection hd with hd
    subst hd
    rw [← lev_is]
    exact laid_glob hX famG h "leatwork/parse.levels" Rows.laid_leatwork_parse_levels (by simp [laidAll, Rows.parseValidRow]) 0 130 (by kernel_rfl) (by kernel_rfl) rfl (wts _ _ (by kernel_rfl))
  split at hd
  · rename_i e
    have e := Nat.eq_of_beq_eq_true e
    subst e
    injection hd with hd
    subst hd
    rw [← p10_is]
    exact laid_glob hX famG h "internal/strconv.uint64pow10" Rows.laid_internal_strconv_uint64pow10 (by simp [laidAll, Rows.parseValidRow]) 6 197 (by kernel_rfl) (by kernel_rfl) rfl (wts _ _ (by kernel_rfl))
  cases hd
/-- The door's own heap meets the list. -/
theorem door_met (os : Os) (args : Array Value) : laidMetH Tryz.prog laidAll ((World.doorLaid Tryz.prog 400 os).forCall (fun _ _ => 0) ⟨#[], args, []⟩).memory := by
  rw [MakeChecks.laidMetH_plain _ _ _ (by kernel_rfl)]
  exact laidMet_of_run' 8 (by kernel_rfl) (by kernel_rfl)
theorem door_shaped (os : Os) (args : Array Value) : ((World.doorLaid Tryz.prog 400 os).forCall (fun _ _ => 0) ⟨#[], args, []⟩).Shaped Tryz.prog := World.shaped_of_RefB (by kernel_rfl) (by kernel_rfl)
theorem trodAll_len {H : Type} {enc : TypeId × Value → H} {P : Program} {w : World} {base : Nat} {sp : Nat → Bool} {held : Bool} : ∀ {ts : List TypeId} {vs : List Value} {ds : List (DataW H)} {ps : List MemPlace}, DataW.TrodAll enc P w base sp held ts vs ds ps → ds.length = ts.length
  | [], [], [], _, _ => rfl
  | [], _ :: _, _, _, h => by simp [DataW.TrodAll] at h
  | [], [], _ :: _, _, h => by simp [DataW.TrodAll] at h
  | _ :: _, [], _, _, h => by simp [DataW.TrodAll] at h
  | _ :: _, _ :: _, [], _, h => by simp [DataW.TrodAll] at h
  | _ :: _, _ :: _, _ :: _, _, ⟨p, q, _, h2, _⟩ => by simp [trodAll_len h2]
theorem weightsEach_app {H : Type} {P : Program} : ∀ {ts ts' : List TypeId} {ds ds' : List (DataW H)}, ds.length = ts.length → ∀ {x : Nat}, x ∈ DataW.weightsEach P ts ds → x ∈ DataW.weightsEach P (ts ++ ts') (ds ++ ds')
  | [], ts', [], ds', h, x, hx => by simp [DataW.weightsEach] at hx
  | t :: ts, ts', d :: ds, ds', h, x, hx => by
    simp only [DataW.weightsEach, List.mem_append, List.cons_append] at hx ⊢
    exact hx.imp id fun hx => weightsEach_app (by simpa using h) hx
theorem inPs_lt {H : Type} {enc : TypeId × Value → H} {P : Program} {w : World} {base : Nat} {sp : Nat → Bool} {held : Bool} {ts : List TypeId} {vs : List Value} {ds : List (DataW H)} {ps : List MemPlace} (h : DataW.TrodAll enc P w base sp held ts vs ds ps) : ∀ x, inPs ps x → x < w.heap.size := fun x ⟨p, hp, e⟩ => by rw [← e]; exact h.lt p hp
theorem len_is1 {α : Type} {l : List α} {n : Nat} (h : l.length = [n].length) : ∃ a, l = [a] := by
  match l, h with
  | [a], _ => exact ⟨a, rfl⟩
theorem len_is2 {α : Type} {l : List α} {n m : Nat} (h : l.length = [n, m].length) : ∃ a b, l = [a, b] := by
  match l, h with
  | [a, b], _ => exact ⟨a, b, rfl⟩
theorem len_is3 {α : Type} {l : List α} {n m k : Nat} (h : l.length = [n, m, k].length) : ∃ a b c, l = [a, b, c] := by
  match l, h with
  | [a, b, c], _ => exact ⟨a, b, c, rfl⟩
end
end Go.Proofs.YtfbppkjjdbkedaaGreatDoor.Ref
