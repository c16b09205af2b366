/-
  The pure statement of LexMany: a source that one piece makes many times over is divided by the program as by the reference.
-/
import Derived.Test.YtakcnogmljbaiaaDoorPureLexScans
import Derived.Test.YtakcnogmljbaiaaDoorPLexx11
set_option linter.unusedVariables false
set_option linter.unusedSimpArgs false
namespace Go.Proofs.YtakcnogmljbaiaaDoor.Pure
open Go.RowKit Go.Proofs.YtakcnogmljbaiaaDoorW.PrintWords Go.Proofs.YtakcnogmljbaiaaDoor.PLex Go.Proofs.YtakcnogmljbaiaaDoor.Q

theorem many_end (t e : List UInt8) (ht : t.length ≤ 4008) (he : e.length ≤ 8) : Evt (fun k => leatworklaw03_LexMany.j2 k (B e) (B t)) true := by
  apply Evt.succ
  simp only [leatworklaw03_LexMany.j2]
  refine Evt.pos (by rw [size_B, size_B]; omega) ?_
  rw [append_B]
  exact same_scan (t ++ e) (by rw [List.length_append]; omega)
theorem many_loop (s e : List UInt8) (m : Int) (hm : m ≤ 65535) (hs : s.length ≤ 8) (he : e.length ≤ 8) (x1 : Int) (hx : wrap64 x1 = m) : ∀ (d : Nat) (i : Nat) (t : List UInt8), (m - (i : Int)).toNat ≤ d → i ≤ 65536 → t.length ≤ 4008 →
    Evt (fun k => leatworklaw03_LexMany.l0 k (B s) x1 (B e) (B t) (i : Int)) true := by
  intro d
  induction d with
  | zero =>
    intro i t hd hi ht
    apply Evt.succ
    simp only [leatworklaw03_LexMany.l0]
    rw [hx]
    exact Evt.neg (by omega) (many_end t e ht he)
  | succ d ih =>
    intro i t hd hi ht
    apply Evt.succ
    simp only [leatworklaw03_LexMany.l0]
    rw [hx]
    by_cases h : (i : Int) < m
    · refine Evt.pos h ?_
      by_cases h4 : t.length ≤ 4000
      · refine Evt.pos (by rw [size_B]; omega) (Evt.pos (by rw [size_B, size_B]; omega) ?_)
        rw [append_B, w64s i (by omega)]
        exact ih (i + 1) (t ++ s) (by omega) (by omega) (by rw [List.length_append]; omega)
      · exact Evt.neg (by rw [size_B]; omega) (many_end t e ht he)
    · exact Evt.neg h (many_end t e ht he)
theorem LexMany : leatworklaw03_LexMany.Pure := by
  intro a0 a1 a2 h0 h1 h2
  rw [← B_L a0, ← B_L a2] at *
  generalize L a0 = s at *
  generalize L a2 = e at *
  have hw : 0 ≤ a1 ∧ a1 ≤ 65535 := by
    simp only [Lit.wf, IntKind.min, IntKind.max, IntKind.signed, IntKind.bits, Bool.and_eq_true, decide_eq_true_eq] at h1
    simp at h1
    omega
  apply Evt.ex
  unfold leatworklaw03_LexMany.f
  have yes : Evt (fun k => leatworklaw03_LexMany.j0 k (B s) a1 (B e) true) true := by
    apply Evt.succ
    simp only [leatworklaw03_LexMany.j0]
    exact Evt.pos trivial (Evt.bind alive_e (Evt.pure _))
  by_cases hs : s.length > 8
  · exact Evt.pos (by rw [size_B]; omega) yes
  · refine Evt.neg (by rw [size_B]; omega) ?_
    by_cases he : e.length > 8
    · rw [decide_eq_true (by rw [size_B]; omega)]
      exact yes
    · rw [decide_eq_false (by rw [size_B]; omega)]
      apply Evt.succ
      simp only [leatworklaw03_LexMany.j0]
      refine Evt.neg (by simp) ?_
      have hx : wrap64 a1 = a1 := w64 (by omega) (by omega)
      exact many_loop s e a1 hw.2 (by omega) (by omega) a1 hx (a1 - 0).toNat 0 [] (by omega) (by omega) (by simp)
end Go.Proofs.YtakcnogmljbaiaaDoor.Pure
