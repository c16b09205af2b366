/-
  The pure statement of LexAgain: Text of Scan, scanned again, gives the same tokens.
-/
import Derived.Test.YtakcnogmljbaiaaDoorQo
import Derived.Test.YtakcnogmljbaiaaDoorPLexx22
set_option linter.unusedVariables false
set_option linter.unusedSimpArgs false
namespace Go.Proofs.YtakcnogmljbaiaaDoor.Pure
open Go.RowKit Go.Proofs.YtakcnogmljbaiaaDoorW.PrintWords Go.Proofs.YtakcnogmljbaiaaDoor.PLex Go.Proofs.YtakcnogmljbaiaaDoor.Q

theorem LexAgain : leatworklaw03_LexAgain.Pure := by
  intro a0 h0
  rw [← B_L a0] at *
  generalize L a0 = l at *
  rw [size_B] at h0
  apply Evt.ex
  unfold leatworklaw03_LexAgain.f
  by_cases h : l.length > 1000
  · exact Evt.pos (by rw [size_B]; omega) (Evt.bind alive_e (Evt.pure _))
  · refine Evt.neg (by rw [size_B]; omega) ?_
    obtain ⟨ts, e, hc, hf, hs⟩ := scanF_ch l (by omega)
    have hsc := scan_e l (by omega)
    rw [hs] at hsc
    refine Evt.bind hsc ?_
    have hsp := sp_le false l
    cases e with
    | none =>
      refine Evt.pos rfl ?_
      obtain ⟨hok, hsz⟩ := hc.written
      rw [List.length_drop] at hsz
      have hall : (ts.map tS).all okT = true := List.all_eq_true.2 hok
      have hjl : (jb ((ts.map tS).map putT)).length ≤ 4000 := by
        by_cases hn : (ts.map tS).map putT = []
        · rw [hn]; simp [jb]
        · have := jb_len hn; omega
      have htx : textF (ts.map tS) = (B (jb ((ts.map tS).map putT)), 0) := by
        unfold textF
        rw [if_pos hall, if_neg (by rw [List.length_map]; omega), if_neg (by omega)]
      have hte := text_e (ts.map tS) (by rw [List.length_map]; omega) (by
        intro x hx
        obtain ⟨y, hy, rfl⟩ := List.mem_map.1 hx
        have hk := hok _ hx
        have := (putT_le hk).2
        show (L (B y.2.2.1)).length < _
        rw [L_B]
        have h5 : (putS y.2.1 y.2.2.1).length ≤ 40 := this
        have h6 : y.2.2.1.length ≤ (putS y.2.1 y.2.2.1).length := by
          unfold putS
          split
          · rename_i hh
            cases hy2 : y.2.2.1 with
            | nil => simp
            | cons a b => simp
          · split
            · rw [List.length_cons, List.length_append]; omega
            · omega
        omega)
      rw [htx] at hte
      obtain ⟨us, hsc2, hm⟩ := scan_joined (ts.map tS) hok hjl (by rw [List.length_map]; omega)
      have he := scan_e (jb ((ts.map tS).map putT)) (by omega)
      rw [hsc2] at he
      refine Evt.bind hte (Evt.bind he ?_)
      refine Evt.pos rfl (Evt.pos rfl (Evt.pos rfl (Evt.pos rfl (Evt.bind (same_tok hm (by rw [List.length_map]; omega)) ?_))))
      exact Evt.pos rfl (Evt.bind alive_e (Evt.pure _))
    | some j =>
      have hj := hc.bad_le (j := j) rfl
      rw [List.length_drop] at hj
      refine Evt.neg (show ¬ ((2 : Int) = 0) by decide) (Evt.pos rfl (Evt.pos (show ((j : Nat) : Int) ≥ 0 by omega) (Evt.pos (show ((j : Nat) : Int) ≤ ((B l).size : Int) by rw [size_B]; omega) ?_)))
      exact Evt.bind alive_e (Evt.pure _)
end Go.Proofs.YtakcnogmljbaiaaDoor.Pure
