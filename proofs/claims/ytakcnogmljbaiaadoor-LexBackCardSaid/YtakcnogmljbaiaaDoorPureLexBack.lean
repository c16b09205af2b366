/-
  The pure statement of LexBack: Scan of Text gives the same tokens, but for their places.
-/
import Derived.Test.YtakcnogmljbaiaaDoorQo
import Derived.Test.YtakcnogmljbaiaaDoorPLexx21
set_option linter.unusedVariables false
set_option linter.unusedSimpArgs false
namespace Go.Proofs.YtakcnogmljbaiaaDoor.Pure
open Go.RowKit Go.Proofs.YtakcnogmljbaiaaDoorW.PrintWords Go.Proofs.YtakcnogmljbaiaaDoor.PLex Go.Proofs.YtakcnogmljbaiaaDoor.Q

theorem LexBack (l : List S32) (h1 : l.length ≤ 8796093022208) (h2 : ∀ x ∈ l, x.f1.size ≤ 140737488351232) : ∃ k, leatworklaw03_LexBack.f k l = some true := by
  have hs : ∀ x ∈ l, (L x.f1).length < 4611686018427387000 := by
    intro x hx
    have := h2 x hx
    rw [size_L] at this
    omega
  apply Evt.ex
  unfold leatworklaw03_LexBack.f
  by_cases h : l.length > 400
  · exact Evt.pos (by omega) (Evt.bind alive_e (Evt.pure _))
  · refine Evt.neg (by omega) (Evt.bind (text_e l h1 hs) ?_)
    unfold textF
    by_cases ha : l.all okT = true
    · rw [if_pos ha, if_neg (by omega)]
      by_cases h4 : (jb (l.map putT)).length > 4000
      · rw [if_pos h4]
        exact Evt.neg (show ¬ ((3 : Int) = 0) by decide) (Evt.pos (toList_B []) (Evt.bind alive_e (Evt.pure _)))
      · rw [if_neg h4]
        obtain ⟨ts, hsc, hm⟩ := scan_joined l (List.all_eq_true.1 ha) (by omega) (by omega)
        have he := scan_e (jb (l.map putT)) (by omega)
        rw [hsc] at he
        refine Evt.pos rfl (Evt.bind he (Evt.pos rfl (Evt.pos rfl (Evt.bind (same_tok hm (by omega)) ?_))))
        exact Evt.pos rfl (Evt.bind alive_e (Evt.pure _))
    · rw [if_neg ha]
      exact Evt.neg (show ¬ ((2 : Int) = 0) by decide) (Evt.pos (toList_B []) (Evt.bind alive_e (Evt.pure _)))
end Go.Proofs.YtakcnogmljbaiaaDoor.Pure
