/-
  Walks: statements and expressions, joined.
-/
import Derived.Test.YtfbppkjjdbkedaaGreatDoorVp
namespace Go.Proofs.YtfbppkjjdbkedaaGreatDoor.Ref
noncomputable section
open Go
set_option linter.unusedVariables false
set_option maxRecDepth 100000
mutual
def exprN : Nat → Syn → Bool
  | 0, _ => false
  | n + 1, x => exprB (exprN n) (stmtN n) x
def stmtN : Nat → Syn → Bool
  | 0, _ => false
  | n + 1, x => stmtB (exprN n) (stmtN n) x
end
mutual
/-- No text is longer than memory. -/
def TextsOk : Syn → Prop
  | .mk _ t _ l => t.data.toList.length < 4611686018427387000 ∧ TextsOkL l
def TextsOkL : List Syn → Prop
  | [] => True
  | x :: l => TextsOk x ∧ TextsOkL l
end
theorem textsOk_mem : ∀ {l : List Syn}, TextsOkL l → ∀ x ∈ l, TextsOk x
  | y :: l, h, x, hx => by
    simp only [TextsOkL] at h
    rcases List.mem_cons.1 hx with rfl | hx
    · exact h.1
    · exact textsOk_mem h.2 x hx
theorem size_mem : ∀ {l : List Syn} {x : Syn}, x ∈ l → sizeS x ≤ sizeL l
  | y :: l, x, hx => by
    simp only [sizeL]
    rcases List.mem_cons.1 hx with rfl | hx
    · omega
    · have := size_mem hx; omega
theorem exprN_zero : ∀ n, exprN n zeroS = false
  | 0 => by simp only [exprN]
  | n + 1 => by simp only [exprN]; rfl
theorem stmtN_zero : ∀ n, stmtN n zeroS = false
  | 0 => by simp only [stmtN]
  | n + 1 => by simp only [stmtN]; rfl
theorem ans_valid : ∀ (n : Nat) (x : Syn), sizeS x ≤ n → sizeS x ≤ 100000 → TextsOk x → Ans 76 (exprN n) x ∧ Ans 75 (stmtN n) x
  | 0, x, h, _, _ => absurd h (by have := size_pos x; omega)
  | n + 1, .mk k t m l, h, hb, ht => by
    simp only [sizeS] at h hb
    simp only [TextsOk] at ht
    have ih : ∀ y ∈ l, Ans 76 (exprN n) y ∧ Ans 75 (stmtN n) y := fun y hy => ans_valid n y (by have := size_mem hy; omega) (by have := size_mem hy; omega) (textsOk_mem ht.2 y hy)
    have ih2 : ∀ y ∈ l, ∀ z ∈ y.kids, Ans 76 (exprN n) z ∧ Ans 75 (stmtN n) z := fun y hy z hz => by
      have h1 := size_mem hy
      have h3 := textsOk_mem ht.2 y hy
      obtain ⟨a, b, c, d⟩ := y
      simp only [Syn.kids] at hz
      simp only [sizeS] at h1
      simp only [TextsOk] at h3
      have h2 := size_mem hz
      exact ans_valid n z (by omega) (by omega) (textsOk_mem h3.2 z hz)
    have ih3 : ∀ y ∈ l, ∀ z ∈ y.kids, ∀ w ∈ z.kids, Ans 76 (exprN n) w := fun y hy z hz w hw => by
      have h1 := size_mem hy
      have h3 := textsOk_mem ht.2 y hy
      obtain ⟨a, b, c, d⟩ := y
      simp only [Syn.kids] at hz
      simp only [sizeS] at h1
      simp only [TextsOk] at h3
      have h2 := size_mem hz
      have h4 := textsOk_mem h3.2 z hz
      obtain ⟨a', b', c', d'⟩ := z
      simp only [Syn.kids] at hw
      simp only [sizeS] at h2
      simp only [TextsOk] at h4
      have h5 := size_mem hw
      exact (ans_valid n w (by omega) (by omega) (textsOk_mem h4.2 w hw)).1
    have ha : ∀ y ∈ l, Ans 130 (armF (exprN n) (stmtN n)) y := fun y hy => ce_isArm (by have := size_mem hy; omega) (fun z hz => ⟨(ih2 y hy z hz).1, ih3 y hy z hz⟩) (fun z hz => (ih2 y hy z hz).2)
    refine ⟨?_, ?_⟩
    · have := ce_isExpr (x := .mk k t m l) (by simp only [sizeS]; omega) ht.1 (fun y hy => (ih y hy).1) (fun y hy => (ih y hy).2) (exprN_zero n) (stmtN_zero n)
      simpa only [exprN, Ans] using this
    · have := ce_isStmt (x := .mk k t m l) (by simp only [sizeS]; omega) (fun y hy => (ih y hy).1) (fun y hy => (ih y hy).2) ha (exprN_zero n) (stmtN_zero n)
      simpa only [stmtN, Ans] using this
end
end Go.Proofs.YtfbppkjjdbkedaaGreatDoor.Ref
