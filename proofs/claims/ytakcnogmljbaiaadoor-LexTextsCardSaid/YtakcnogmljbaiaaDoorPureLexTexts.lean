/-
  The pure statement of LexTexts: Text as the reference says.
-/
import Derived.Test.YtakcnogmljbaiaaDoorQr
import Derived.Test.YtakcnogmljbaiaaDoorPLexx20
set_option linter.unusedVariables false
set_option linter.unusedSimpArgs false
namespace Go.Proofs.YtakcnogmljbaiaaDoor.Pure
open Go.RowKit Go.Proofs.YtakcnogmljbaiaaDoorW.PrintWords Go.Proofs.YtakcnogmljbaiaaDoor.PLex Go.Proofs.YtakcnogmljbaiaaDoor.Q

theorem LexTexts (l : List S32) (h1 : l.length ≤ 8796093022208) (h2 : ∀ x ∈ l, x.f1.size ≤ 140737488351232) : ∃ k, leatworklaw03_LexTexts.f k l = some true := by
  have hs : ∀ x ∈ l, (L x.f1).length < 4611686018427387000 := by
    intro x hx
    have := h2 x hx
    rw [size_L] at this
    omega
  have go : Evt (fun k => leatworklaw03_LexTexts.j0 k l false) true := by
    apply Evt.succ
    simp only [leatworklaw03_LexTexts.j0]
    refine Evt.neg (by simp) (Evt.bind (text_e l h1 hs) (Evt.bind (rtext_e l h1 hs) ?_))
    exact Evt.pos rfl (Evt.pos rfl (Evt.bind alive_e (Evt.pure _)))
  apply Evt.ex
  unfold leatworklaw03_LexTexts.f
  by_cases h : l.length > 400
  · refine Evt.pos (by omega) ?_
    by_cases h3 : l.length ≤ 1200
    · rw [decide_eq_true (by omega)]
      apply Evt.succ
      simp only [leatworklaw03_LexTexts.j0]
      exact Evt.pos trivial (Evt.bind alive_e (Evt.pure _))
    · rw [decide_eq_false (by omega)]
      exact go
  · exact Evt.neg (by omega) go
end Go.Proofs.YtakcnogmljbaiaaDoor.Pure
