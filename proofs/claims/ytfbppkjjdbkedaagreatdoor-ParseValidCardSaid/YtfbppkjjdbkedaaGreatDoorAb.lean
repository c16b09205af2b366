/-
  The abstract machine: known calls of the library; the closed machine of this seat.
-/
import Derived.Test.YtfbppkjjdbkedaaGreatDoorLt
import Derived.Test.YtfbppkjjdbkedaaGreatDoorSt
import Derived.Test.YtfbppkjjdbkedaaGreatDoorHn
namespace Go.Proofs.YtfbppkjjdbkedaaGreatDoor.Ref
noncomputable section
open Go
set_option linter.unusedVariables false
set_option maxRecDepth 100000
theorem hG0 : ∀ i e, X.G i = some e → e.lo 0 = true := hX.gl
def Mf : FuncId → Bool := fun k => Nat.beq k 172 || Nat.beq k 39
def dI (n : Int) : D := .v (.int .i64 n)
def dS (l : List UInt8) : D := .v (.string ⟨l.toArray⟩)
theorem ce_itoa {n : Int} {l : List UInt8} (h0 : -9223372036854775808 ≤ n) (h1 : n ≤ 9223372036854775807) (h : Lib.itoa n = l) : CE X 109 [dI n] [] (.ret (dS l)) [] := by
  have := ce_Itoa n h0 h1
  rw [itoaS, h] at this
  exact this
theorem ce_atoi {n : Int} {l : List UInt8} (hl : l.length ≤ 18) (h : Lib.atoi l = some n) : CE X 141 [dS l] [] (.ret (.tup [dI n, .v .nilIface])) [] := ce_Atoi ⟨l.toArray⟩ n hl h
noncomputable def Tp1 : Tab := tany 109 [dI 1099511627776] (dS [49, 48, 57, 57, 53, 49, 49, 54, 50, 55, 55, 55, 54]) T0
theorem Tp1_ok : Tp1.Ok X := tany_ok hG0 T0_ok rfl (ce_itoa (by decide) (by decide) (by simp [Lib.itoa, Lib.decDigits]))
noncomputable def Tp2 : Tab := tany 109 [dI 1] (dS [49]) (tany 109 [dI 2] (dS [50]) (tany 109 [dI 3] (dS [51]) Tp1))
theorem Tp2_ok : Tp2.Ok X := tany_ok hG0 (tany_ok hG0 (tany_ok hG0 Tp1_ok rfl (ce_itoa (by decide) (by decide) (by simp [Lib.itoa, Lib.decDigits]))) rfl (ce_itoa (by decide) (by decide) (by simp [Lib.itoa, Lib.decDigits]))) rfl (ce_itoa (by decide) (by decide) (by simp [Lib.itoa, Lib.decDigits]))
noncomputable def Tp3 : Tab := tany 141 [dS [48]] (.tup [dI 0, .v .nilIface]) (tany 141 [dS [49]] (.tup [dI 1, .v .nilIface]) (tany 141 [dS [50]] (.tup [dI 2, .v .nilIface]) (tany 141 [dS [51]] (.tup [dI 3, .v .nilIface]) Tp2)))
theorem Tp3_ok : Tp3.Ok X := tany_ok hG0 (tany_ok hG0 (tany_ok hG0 (tany_ok hG0 Tp2_ok rfl (ce_atoi (by decide) (by decide))) rfl (ce_atoi (by decide) (by decide))) rfl (ce_atoi (by decide) (by decide))) rfl (ce_atoi (by decide) (by decide))
def jl : List ByteArray := [⟨#[88]⟩, ⟨#[61]⟩, ⟨#[40]⟩, ⟨#[49]⟩, ⟨#[43]⟩, ⟨#[40]⟩, ⟨#[50]⟩, ⟨#[42]⟩, ⟨#[51]⟩, ⟨#[41]⟩, ⟨#[41]⟩]
def jr : D := dS [88, 32, 61, 32, 40, 32, 49, 32, 43, 32, 40, 32, 50, 32, 42, 32, 51, 32, 41, 32, 41]
theorem ce_join : CE X 63 [.row false 1 (jl.map fun s => D.v (.string s)), .v (.string ⟨#[32]⟩)] [] (.ret jr) [] := ce_Join false jl ⟨#[32]⟩ (by decide)
noncomputable def Tp : Tab := tany 63 [.row false 1 (jl.map fun s => D.v (.string s)), .v (.string ⟨#[32]⟩)] jr Tp3
theorem Tp_ok : Tp.Ok X := tany_ok hG0 Tp3_ok rfl ce_join
end
end Go.Proofs.YtfbppkjjdbkedaaGreatDoor.Ref
