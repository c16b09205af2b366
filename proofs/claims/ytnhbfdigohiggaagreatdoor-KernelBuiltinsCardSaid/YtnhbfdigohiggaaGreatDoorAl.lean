/-
  The abstract machine: the examples of the chapter hold (leatworklaw05.alive).
-/
import Derived.Test.YtnhbfdigohiggaaGreatDoorHn
namespace Go.Proofs.YtnhbfdigohiggaaGreatDoor.Ref
open Go
set_option linter.unusedVariables false
set_option maxRecDepth 100000
theorem hG0 : ∀ i e, X.G i = some e → e.lo 0 = true := hX.gl
def sBui : D := .v (.string ⟨#[87, 97, 105, 116, 32, 73, 115, 68, 101, 116, 32, 78, 101, 119, 67, 101, 108, 108, 32, 69, 120, 99, 104, 97, 110, 103, 101, 32, 78, 101, 119, 80, 111, 114, 116, 32, 83, 101, 110, 100, 32, 83, 104, 111, 119, 32, 76, 97, 98, 101, 108, 32, 87, 105, 100, 116, 104, 32, 65, 114, 103]⟩)
def rBui : D := .own true 1 [.v (.string ⟨#[87, 97, 105, 116]⟩), .v (.string ⟨#[73, 115, 68, 101, 116]⟩), .v (.string ⟨#[78, 101, 119, 67, 101, 108, 108]⟩), .v (.string ⟨#[69, 120, 99, 104, 97, 110, 103, 101]⟩), .v (.string ⟨#[78, 101, 119, 80, 111, 114, 116]⟩), .v (.string ⟨#[83, 101, 110, 100]⟩), .v (.string ⟨#[83, 104, 111, 119]⟩), .v (.string ⟨#[76, 97, 98, 101, 108]⟩), .v (.string ⟨#[87, 105, 100, 116, 104]⟩), .v (.string ⟨#[65, 114, 103]⟩)]
theorem run_bui : acall2 X F Hs (drawer X) T0 1000 60 53 [sBui] [] = some (.ret rBui, []) := by kernel_rfl
noncomputable def Tf : Tab := tany 53 [sBui] rBui T0
theorem Tf_ok : Tf.Ok X := tany_ok hG0 T0_ok rfl (acall2_ok hX hF (drawer_ok hX) T0_ok 60 _ _ _ _ _ run_bui)
theorem alive_run : acall2 X F Hs (drawer X) Tf 1000 60 16 [] [] = some (.ret (.v (.bool true)), []) := by kernel_rfl
theorem ct_alive : Enters X 16 ∧ CT X 16 [] [] (fun r bs => r = .ret (.v (.bool true)) ∧ bs = []) := acall2_ok hX hF (drawer_ok hX) Tf_ok 60 16 [] [] _ _ alive_run
end Go.Proofs.YtnhbfdigohiggaaGreatDoor.Ref
