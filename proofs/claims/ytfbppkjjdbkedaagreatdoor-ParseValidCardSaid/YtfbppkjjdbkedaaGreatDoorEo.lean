/-
  Syntax trees in memory: what the statements' readings are.
-/
import Derived.Test.YtfbppkjjdbkedaaGreatDoorFam
import Derived.Test.YtfbppkjjdbkedaaGreatDoorVq
namespace Go.Proofs.YtfbppkjjdbkedaaGreatDoor.Ref
noncomputable section
open Go
set_option linter.unusedVariables false
set_option maxRecDepth 100000
theorem uSyn : Tryz.prog.underlying 26 = some (.struct #[⟨"Kind", 9, 0, false, "", "", 0⟩, ⟨"Text", 9, 1, false, "", "", 16⟩, ⟨"Int", 3, 2, false, "", "", 32⟩, ⟨"Kids", 24, 3, false, "", "", 40⟩]) := by kernel_rfl
theorem uSyns : Tryz.prog.underlying 24 = some (.slice 26) := by kernel_rfl
theorem uStr : Tryz.prog.underlying 9 = some .string := by kernel_rfl
theorem uInt : Tryz.prog.underlying 3 = some (.int .i64) := by kernel_rfl
theorem cSyn : Tryz.prog.cellsOf 26 = 4 := by kernel_rfl
theorem reach_lt {s : ByteArray} (h : s.size ≤ reachBytes) : s.data.toList.length < 4611686018427387000 := by
  have : s.data.toList.length = s.size := by rw [Array.length_toList]; rfl
  have e : reachBytes < 4611686018427387000 := by decide
  omega
theorem eSyns_all : ∀ {ds : List D}, (∀ d ∈ ds, ∃ x, d = eSyn x ∧ TextsOk x) → ∃ l, ds = eSyns l ∧ TextsOkL l
  | [], _ => ⟨[], rfl, trivial⟩
  | d :: ds, h => by
    obtain ⟨x, rfl, h1⟩ := h d (by simp)
    obtain ⟨l, rfl, h2⟩ := eSyns_all (ds := ds) fun d hd => h d (by simp [hd])
    exact ⟨x :: l, rfl, h1, h2⟩
theorem sh_syn : ∀ (d : D), Sh Tryz.prog 26 d → ∃ x, d = eSyn x ∧ TextsOk x := fun d h => by
  obtain ⟨ds, e, hl, hf⟩ := sh_agg uSyn h
  obtain ⟨a, b, c, k, hds⟩ : ∃ a b c k, ds = [a, b, c, k] := by
    match ds, (show ds.length = 4 from hl) with
    | [a, b, c, k], _ => exact ⟨a, b, c, k, rfl⟩
  subst hds
  obtain ⟨s1, h1, z1⟩ := sh_str uStr (hf 0 _ _ rfl rfl)
  obtain ⟨s2, h2, z2⟩ := sh_str uStr (hf 1 _ _ rfl rfl)
  obtain ⟨n, h3, _⟩ := sh_int uInt (hf 2 _ _ rfl rfl)
  obtain ⟨es, h4, h5, _⟩ := sh_row uSyns (hf 3 _ _ rfl rfl)
  have hsz : ∀ y ∈ es, SizeOf.sizeOf y < SizeOf.sizeOf d := fun y hy => by
    have := List.sizeOf_lt_of_mem hy
    rw [e, h4]
    simp only [D.agg.sizeOf_spec, D.row.sizeOf_spec, List.cons.sizeOf_spec]
    omega
  obtain ⟨l, h6, h7⟩ := eSyns_all fun y hy => have := hsz y hy; sh_syn y (h5 y hy)
  refine ⟨.mk s1 s2 n l, ?_, reach_lt z2, h7⟩
  rw [e, h1, h2, h3, h4, h6, cSyn]
  rfl
termination_by d => SizeOf.sizeOf d
end
end Go.Proofs.YtfbppkjjdbkedaaGreatDoor.Ref
