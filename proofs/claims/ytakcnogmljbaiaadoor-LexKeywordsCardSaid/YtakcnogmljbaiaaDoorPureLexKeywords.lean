/-
  The pure statement of LexKeywords: the program's Keyword answers as the reference's, at every string.
-/
import Derived.Test.YtakcnogmljbaiaaDoorQi
import Derived.Test.YtakcnogmljbaiaaDoorPLexx12
set_option linter.unusedVariables false
set_option linter.unusedSimpArgs false
namespace Go.Proofs.YtakcnogmljbaiaaDoor.Pure
open Go.RowKit Go.Proofs.YtakcnogmljbaiaaDoorW.PrintWords Go.Proofs.YtakcnogmljbaiaaDoor.PLex Go.Proofs.YtakcnogmljbaiaaDoor.Q

theorem LexKeywords : leatworklaw03_LexKeywords.Pure := by
  intro a0 h0
  rw [← B_L a0] at *
  generalize L a0 = l at *
  apply Evt.ex
  unfold leatworklaw03_LexKeywords.f
  exact Evt.bind (keyword_e l) (Evt.bind (rKeyword_e l) (Evt.pos (by simp) (Evt.bind alive_e (Evt.pure _))))
end Go.Proofs.YtakcnogmljbaiaaDoor.Pure
