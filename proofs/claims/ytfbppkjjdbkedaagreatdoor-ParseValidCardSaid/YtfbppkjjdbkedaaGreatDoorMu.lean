/-
  The seat's machine: with what turns slices where they lie.
-/
import Derived.Test.YtfbppkjjdbkedaaGreatDoorFu
import Derived.Test.YtfbppkjjdbkedaaGreatDoorRefD
namespace Go.Proofs.YtfbppkjjdbkedaaGreatDoor.Ref
noncomputable section
open Go
set_option linter.unusedVariables false
set_option maxRecDepth 100000
def tk (k : Int) (s : List UInt8) : D := .agg [.v (.int .i64 k), .v (.string ⟨s.toArray⟩), .v (.int .i64 0)]
/-- The tokens of the example, the last one first. -/
def rv0 : List D := [tk 5 [41], tk 5 [41], tk 1 [51], tk 5 [42], tk 1 [50], tk 5 [40], tk 5 [43], tk 1 [49], tk 5 [40], tk 5 [61], tk 3 [88]]
def Mm : FuncId → D → Option D := fun k d => match Nat.beq k 65 && eqD d (.own false 3 rv0) with
  | true => some (.own false 3 rv0.reverse)
  | false => none
theorem mm_run : mutEnd (arun X0 T0 (drawer X0) ⟨fun _ _ => 0, fun _ => none⟩ 1000 (Tryz.f65.body.getD .skip) ⟨Tryz.f65.ntmps, enterS 0 [.own false 3 rv0], [], 0⟩) = some (.own false 3 rv0.reverse) := by kernel_rfl
theorem mm_rev : MC X0.P X0.G 65 (.own false 3 rv0) (.own false 3 rv0.reverse) :=
  mc_run hX0 T0_ok (drawer_okp hX0) (hF0 65 _ rfl).1 (by rfl) rfl (by kernel_rfl) (by kernel_rfl) mm_run
noncomputable def X : Cx := { X0 with M := Mm }
theorem hX : X.Ok := ⟨hX0.ty, hX0.md, hX0.ext, hX0.emp, hX0.gl, fun k d d' h => by
  have h : Mm k d = some d' := h
  unfold Mm at h
  split at h
  · rename_i hc
    simp only [Bool.and_eq_true] at hc
    have e1 := Nat.eq_of_beq_eq_true hc.1
    have e2 := eqD_of hc.2
    subst e1 e2
    injection h with h
    subst h
    exact ⟨⟨_, (hF0 65 _ rfl).1, (hF0 65 _ rfl).2.1, rfl⟩, mm_rev, rfl, rfl⟩
  · cases h⟩
theorem hF : F.Ok X := hF0
end
end Go.Proofs.YtfbppkjjdbkedaaGreatDoor.Ref
