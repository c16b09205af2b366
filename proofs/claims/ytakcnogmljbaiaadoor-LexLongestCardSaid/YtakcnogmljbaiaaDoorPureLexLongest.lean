/-
  The pure statement of LexLongest: no integer, atom, identifier or keyword could go on with the byte behind it.
-/
import Derived.Test.YtakcnogmljbaiaaDoorQj
import Derived.Test.YtakcnogmljbaiaaDoorPLexx14
set_option linter.unusedVariables false
set_option linter.unusedSimpArgs false
namespace Go.Proofs.YtakcnogmljbaiaaDoor.Pure
open Go.RowKit Go.Proofs.YtakcnogmljbaiaaDoorW.PrintWords Go.Proofs.YtakcnogmljbaiaaDoor.PLex Go.Proofs.YtakcnogmljbaiaaDoor.Q

theorem takeWhile_stop (p : UInt8 → Bool) (l : List UInt8) : ∀ c, l[(l.takeWhile p).length]? = some c → p c = false := by
  induction l with
  | nil => intro c h; cases h
  | cons a r ih =>
    intro c h
    by_cases hp : p a = true
    · rw [List.takeWhile_cons_of_pos hp, List.length_cons, List.getElem?_cons_succ] at h
      exact ih c h
    · rw [List.takeWhile_cons_of_neg hp] at h
      simp at h
      subst h
      exact Bool.eq_false_iff.2 hp
theorem tok_long {c : UInt8} {r : List UInt8} {k : Int} {t : List UInt8} {n : Nat} (h : tokS (c :: r) = some (k, t, n)) (h39 : c.toNat ≠ 39) (h5 : k ≠ 5) (e : UInt8) (he : (c :: r)[n]? = some e) :
    (k = 1 → isDig e = false) ∧ (k ≠ 1 → isLet e = false) := by
  rw [tokS_cons] at h
  split at h
  · rename_i hn
    · obtain ⟨_, h1, _, h3⟩ := intS_some h
      refine ⟨fun _ => ?_, fun hk => absurd h1 hk⟩
      by_cases h126 : c.toNat = 126
      · rw [if_pos h126, beq_iff_eq.2 h126] at h3
        simp only [if_true] at h3
        rw [h3, List.getElem?_cons_succ] at he
        exact takeWhile_stop _ _ e he
      · rw [if_neg h126, beq_eq_false_iff_ne.2 h126] at h3
        simp only [Bool.false_eq_true, if_false, Nat.add_zero] at h3
        rw [h3] at he
        exact takeWhile_stop _ _ e he
  · split at h
    · unfold wordS at h
      simp only at h
      split at h
      · cases h
      · injection h with h
        injection h with h1 h
        injection h with h2 h3
        have hk : k ≠ 1 := by
          rw [← h1]
          split
          · decide
          · split <;> decide
        refine ⟨fun hk1 => absurd hk1 hk, fun _ => ?_⟩
        rw [← h3] at he
        exact takeWhile_stop _ _ e he
    · exfalso
      rw [symS_eq] at h
      split at h
      · injection h with h
        injection h with h1 h
        exact h5 h1.symm
      · split at h
        · injection h with h
          injection h with h1 h
          exact h5 h1.symm
        · cases h
theorem dig_out (c : UInt8) (h : isDig c = false) : c.toNat < 48 ∨ 57 < c.toNat := by
  simp only [isDig, Bool.and_eq_false_iff, decide_eq_false_iff_not] at h; omega
theorem let_out (c : UInt8) (h : isLet c = false) : (c.toNat < 48 ∨ 57 < c.toNat) ∧ (c.toNat < 97 ∨ 122 < c.toNat) ∧ (c.toNat < 65 ∨ 90 < c.toNat) ∧ c.toNat ≠ 95 := by
  simp only [isLet, isDig, isLow, isUp, Bool.or_eq_false_iff, Bool.and_eq_false_iff, decide_eq_false_iff_not, beq_eq_false_iff_ne] at h
  omega
theorem longest_loop (l : List UInt8) (hl : l.length ≤ 1000) (suf : List (Nat × Int × List UInt8 × Nat)) : ∀ (pre : List (Nat × Int × List UInt8 × Nat)) (p : Nat), p ≤ l.length → pre.length + suf.length ≤ 1000 →
    Ch p (l.drop p) suf none → Evt (fun k => leatworklaw03_LexLongest.l0 k (B l) ((pre ++ suf).map tS) (pre.length : Int)) true := by
  induction suf with
  | nil =>
    intro pre p hp hn hc
    apply Evt.succ
    simp only [leatworklaw03_LexLongest.l0]
    exact Evt.neg (by simp) (Evt.bind alive_e (Evt.pure _))
  | cons x suf ih =>
    intro pre p hp hn hc
    obtain ⟨q, k, t, n⟩ := x
    have hlen : (((pre ++ (q, k, t, n) :: suf).map tS).length : Int) = (pre.length + suf.length + 1 : Nat) := by simp; omega
    have hget : rd_T32 ((pre ++ (q, k, t, n) :: suf).map tS) (pre.length : Int) = tS (q, k, t, n) := by
      simp [rd_T32, List.getD_eq_getElem?_getD]
    obtain ⟨rfl, ht, hc⟩ := hc.inv_tok
    have hqlt : q < l.length := by
      rcases Nat.lt_or_ge q l.length with h | h
      · exact h
      · rw [List.drop_eq_nil_of_le h] at ht; cases ht
    have hdrop : l.drop q = l[q] :: l.drop (q + 1) := drop_cons hqlt
    have hn1 := tok_len ht
    rw [List.length_drop] at hn1
    have htx := ht
    rw [hdrop] at htx
    have hcase := tok_text htx
    have hlong := tok_long htx
    rw [← hdrop] at hcase hlong
    have hsize : (if (l[q]).toNat = 39 then t.length + 2 else t.length) = n := by
      rcases hcase with h | h | h
      · rw [if_pos h.1]; exact h.2.2.1.symm
      · rw [if_neg (by omega)]; exact h.2.2.1.symm
      · rw [if_neg h.1]; exact h.2.2.1.symm
    have htl : t.length ≤ n := by rcases hcase with h | h | h <;> omega
    have hsz := size_f l q hqlt k t (by omega)
    rw [hsize] at hsz
    have hw : ∀ _ : Unit, wrap64 ((q : Int) + (n : Int)) = ((q + n : Nat) : Int) := fun _ => by rw [w64 (by omega) (by omega)]; omega
    have hw1 : ∀ _ : Unit, wrap64 ((pre.length : Int) + 1) = ((pre.length + 1 : Nat) : Int) := fun _ => w64s _ (by omega)
    have hs := sp_le false ((l.drop q).drop n)
    rw [List.drop_drop, List.length_drop] at hs
    have next : Evt (fun k_ => leatworklaw03_LexLongest.l0 k_ (B l) ((pre ++ (q, k, t, n) :: suf).map tS) (wrap64 ((pre.length : Int) + 1))) true := by
      rw [hw1 ()]
      rw [List.drop_drop] at hc
      have := ih (pre ++ [(q, k, t, n)]) (q + n + sp false (l.drop (q + n))) (by omega) (by simp at hn ⊢; omega) (by rw [List.drop_drop, ← Nat.add_assoc] at hc; exact hc)
      simpa using this
    have yes : ∀ x7 : Int, Evt (fun k_ => leatworklaw03_LexLongest.j1 k_ (B l) ((pre ++ (q, k, t, n) :: suf).map tS) (pre.length : Int) x7 true) true := by
      intro x7
      apply Evt.succ
      simp only [leatworklaw03_LexLongest.j1]
      exact Evt.pos trivial next
    apply Evt.succ
    simp only [leatworklaw03_LexLongest.l0]
    rw [hlen, hget]
    simp only [tS]
    refine Evt.pos (by omega) (Evt.pos (by omega) ?_)
    refine Evt.bind (Evt.const hsz) ?_
    simp only [hw ()]
    by_cases hend : l.length ≤ q + n
    · exact Evt.pos (by rw [size_B]; omega) (yes _)
    · refine Evt.neg (by rw [size_B]; omega) ?_
      by_cases h5 : k = 5
      · exact Evt.pos h5 (yes _)
      · refine Evt.neg h5 (Evt.pos (by omega) (Evt.pos (by rw [size_B]; omega) ?_))
        rw [bt_B l q hqlt]
        by_cases h39 : (l[q]).toNat = 39
        · rw [beq_iff_eq.2 (show ((l[q]).toNat : Int) = 39 by omega)]
          exact yes _
        · rw [beq_eq_false_iff_ne.2 (show ¬ ((l[q]).toNat : Int) = 39 by omega)]
          have hlt : q + n < l.length := by omega
          have he : (l.drop q)[n]? = some l[q + n] := by rw [List.getElem?_drop, List.getElem?_eq_getElem hlt]
          obtain ⟨f1, f2⟩ := hlong h39 h5 l[q + n] he
          have g1 : k = 1 → ((l[q + n]).toNat < 48 ∨ 57 < (l[q + n]).toNat) := fun h => dig_out _ (f1 h)
          have g2 : k ≠ 1 → ((l[q + n]).toNat < 48 ∨ 57 < (l[q + n]).toNat) ∧ ((l[q + n]).toNat < 97 ∨ 122 < (l[q + n]).toNat) ∧ ((l[q + n]).toNat < 65 ∨ 90 < (l[q + n]).toNat) ∧ (l[q + n]).toNat ≠ 95 := fun h => let_out _ (f2 h)
          clear f1 f2 he hlong yes hsz hsize hcase htx ht hc ih
          apply Evt.succ
          simp only [leatworklaw03_LexLongest.j1]
          refine Evt.neg (by simp) (Evt.pos (by omega) (Evt.pos (by rw [size_B]; omega) ?_))
          rw [bt_B l (q + n) hlt, hlen, hget]
          simp only [tS]
          generalize (l[q + n]).toNat = b at *
          by_cases hk : k = 1
          · have g := g1 hk
            clear g1 g2
            repeat' (first | exact next | (refine Evt.ite (fun _ => ?_) (fun _ => ?_)))
            all_goals (exfalso; omega)
          · have g := g2 hk
            clear g1 g2
            repeat' (first | exact next | (refine Evt.ite (fun _ => ?_) (fun _ => ?_)))
            all_goals (exfalso; omega)
theorem LexLongest : leatworklaw03_LexLongest.Pure := by
  intro a0 h0
  rw [← B_L a0] at *
  generalize L a0 = l at *
  rw [size_B] at h0
  apply Evt.ex
  unfold leatworklaw03_LexLongest.f
  by_cases h : l.length > 1000
  · exact Evt.pos (by rw [size_B]; omega) (Evt.bind alive_e (Evt.pure _))
  · refine Evt.neg (by rw [size_B]; omega) ?_
    obtain ⟨ts, e, hc, hf, hs⟩ := scanF_ch l (by omega)
    have hsc := scan_e l (by omega)
    rw [hs] at hsc
    refine Evt.bind hsc ?_
    cases e with
    | none =>
      refine Evt.pos rfl ?_
      have := longest_loop l (by omega) ts [] (sp false l) (sp_le false l) (by simp; omega) hc
      simpa using this
    | some j => exact Evt.neg (show ¬ ((2 : Int) = 0) by decide) (Evt.bind alive_e (Evt.pure _))
end Go.Proofs.YtakcnogmljbaiaaDoor.Pure
