/-
  The pure statement of LexScans: the program's Scan answers as the reference's, at every source.
-/
import Derived.Test.YtakcnogmljbaiaaDoorQi
import Derived.Test.YtakcnogmljbaiaaDoorPLexx10
set_option linter.unusedVariables false
set_option linter.unusedSimpArgs false
namespace Go.Proofs.YtakcnogmljbaiaaDoor.Pure
open Go.RowKit Go.Proofs.YtakcnogmljbaiaaDoorW.PrintWords Go.Proofs.YtakcnogmljbaiaaDoor.PLex Go.Proofs.YtakcnogmljbaiaaDoor.Q

theorem same_scan (l : List UInt8) (hl : l.length < 4611686018427387904) :
    Evt (fun k => (lex_Scan.f k (B l)).bind fun bt233 => ((leatworkref03_Scan.f k (B l)).bind fun bt238 => ((leatworklaw03_tokens.f k bt233.1 bt238.1 true).bind fun t243 => (if t243 = true then (if bt233.2.1 = bt238.2.1 then (if bt233.2.2 = bt238.2.2 then ((leatworklaw03_alive.f k).bind fun t244 => (some t244)) else (some false)) else (some false)) else (some false))))) true := by
  have hf := scanF_few l
  exact Evt.bind (scan_e l hl) (Evt.bind (rscan_e l hl) (Evt.bind (tokens_refl _ true (by omega)) (Evt.pos rfl (Evt.pos rfl (Evt.pos rfl (Evt.bind alive_e (Evt.pure _)))))))
theorem great_e (l : List UInt8) : ∃ b, leatworklaw03_great.f (B l) = some b := by
  unfold leatworklaw03_great.f
  split
  · exact ⟨_, rfl⟩
  · exact ⟨_, rfl⟩
theorem LexScans : leatworklaw03_LexScans.Pure := by
  intro a0 h0
  rw [← B_L a0] at *
  generalize L a0 = l at *
  rw [size_B] at h0
  apply Evt.ex
  unfold leatworklaw03_LexScans.f
  obtain ⟨b, hb⟩ := great_e l
  refine Evt.bind (Evt.const hb) ?_
  cases b with
  | true => exact Evt.pos rfl (Evt.bind alive_e (Evt.pure _))
  | false => exact Evt.neg (by simp) (same_scan l (by omega))
end Go.Proofs.YtakcnogmljbaiaaDoor.Pure
