/-
  Walks: what is valid, as the program sees it.
-/
import Derived.Test.YtfbppkjjdbkedaaGreatDoorVq
namespace Go.Proofs.YtfbppkjjdbkedaaGreatDoor.Ref
noncomputable section
open Go
set_option linter.unusedVariables false
set_option maxRecDepth 100000
def shapedM (x : Syn) : Bool := stmtN (sizeS x) x || exprN (sizeS x) x
theorem ce_shaped (x : Syn) (hb : sizeS x ≤ 100000) (ht : TextsOk x) : CE X 43 [eSyn x] [] (.ret (B (shapedM x))) [] := by
  obtain ⟨h1, h2⟩ := ans_valid (sizeS x) x (Nat.le_refl _) hb ht
  obtain ⟨k, t, n, l⟩ := x
  refine ce_code hX hF (H := Hs 43) (fn := Tryz.f43) rfl rfl ?_
  refine ⟨_, _, h2, ?_⟩
  refine bs (fun g1 => ?_) (fun g1 => ?_)
  · exact ⟨_, _, rfl, by simp only [shapedM, g1, Bool.true_or], rfl⟩
  · refine ⟨_, _, h1, ?_⟩
    exact ⟨_, _, rfl, by simp only [shapedM, g1, Bool.false_or], rfl⟩
theorem ce_depth (x : Syn) (hb : sizeS x ≤ 100000) : CE X 42 [eSyn x] [] (.ret (I (belowN 40 x))) [] := by
  have h := ce_below 40 (by omega) x hb
  obtain ⟨k, t, n, l⟩ := x
  refine ce_code hX hF (H := Hs 42) (fn := Tryz.f42) rfl rfl ?_
  refine ⟨_, _, h, ?_⟩
  exact ⟨_, _, rfl, rfl, rfl⟩
def validM (x : Syn) : Bool := decide (belowN 40 x ≤ 40) && shapedM x
theorem ce_Valid (x : Syn) (hb : sizeS x ≤ 100000) (ht : TextsOk x) : CE X 22 [eSyn x] [] (.ret (B (validM x))) [] := by
  have h := ce_depth x hb
  have hs := ce_shaped x hb ht
  obtain ⟨k, t, n, l⟩ := x
  refine ce_code hX hF (H := Hs 22) (fn := Tryz.f22) rfl rfl ?_
  refine ⟨_, _, h, ?_⟩
  refine bs (fun g1 => ?_) (fun g1 => ?_)
  · refine ⟨_, _, hs, ?_⟩
    exact ⟨_, _, rfl, by simp only [validM, g1, Bool.true_and], rfl⟩
  · exact ⟨_, _, rfl, by simp only [validM, g1, Bool.false_and], rfl⟩
end
end Go.Proofs.YtfbppkjjdbkedaaGreatDoor.Ref
