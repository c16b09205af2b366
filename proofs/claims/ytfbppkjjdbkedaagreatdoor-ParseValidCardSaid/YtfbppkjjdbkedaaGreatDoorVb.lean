/-
  Walks: words, identifiers, atoms.
-/
import Derived.Test.YtfbppkjjdbkedaaGreatDoorVa
namespace Go.Proofs.YtfbppkjjdbkedaaGreatDoor.Ref
noncomputable section
open Go
set_option linter.unusedVariables false
set_option maxRecDepth 100000
theorem inc64 (i : Nat) (h : i < 4611686018427387904) : IntKind.i64.wrap ((i : Int) + 1) = ((i + 1 : Nat) : Int) := by
  simp only [IntKind.wrap, IntKind.bits, IntKind.signed]; simp; omega
def wordL (l : List UInt8) (a b : Nat) : Bool := decide (1 ≤ l.length) && decide (l.length ≤ 16) && decide (a ≤ (l.headD 0).toNat) && decide ((l.headD 0).toNat ≤ b) && l.all fun c => letterN c.toNat
theorem ce_Word (s : ByteArray) (a b : Nat) : CE X 122 [T s, U a, U b] [] (.ret (B (wordL s.data.toList a b))) [] := by
  refine ce_code hX hF (H := Hs 122) (fn := Tryz.f122) rfl rfl ?_
  refine bs (fun h1 => ?_) (fun h1 => ?_)
  · refine ⟨_, _, rfl, ?_, rfl⟩
    simp only [decide_eq_true_eq] at h1
    have : wordL s.data.toList a b = false := by simp only [wordL]; rw [decide_eq_false (show ¬ 1 ≤ s.data.toList.length by omega)]; rfl
    rw [this]
  · simp only [decide_eq_false_iff_not] at h1
    refine bs (fun h2 => ?_) (fun h2 => ?_)
    · refine ⟨_, _, rfl, ?_, rfl⟩
      simp only [decide_eq_true_eq] at h2
      have : wordL s.data.toList a b = false := by simp only [wordL]; rw [decide_eq_false (show ¬ s.data.toList.length ≤ 16 by omega)]; simp
      rw [this]
    · simp only [decide_eq_false_iff_not] at h2
      obtain ⟨c, t, hl⟩ : ∃ c t, s.data.toList = c :: t := by
        cases hs : s.data.toList with
        | nil => rw [hs] at h1; simp at h1
        | cons c t => exact ⟨c, t, rfl⟩
      refine Soft.byte (b := c) (by rfl) (by rfl) (by rfl) (by rfl) (by rfl) (by rfl) (by rfl) (by omega) (by rw [hl]; rfl) ?_
      have hd : s.data.toList.headD 0 = c := by rw [hl]; rfl
      refine bs (fun h3 => ?_) (fun h3 => ?_)
      · refine ⟨_, _, rfl, ?_, rfl⟩
        simp only [decide_eq_true_eq] at h3
        have : wordL s.data.toList a b = false := by simp only [wordL, hd]; rw [decide_eq_false (show ¬ a ≤ c.toNat by omega)]; simp
        rw [this]
      · simp only [decide_eq_false_iff_not] at h3
        refine Soft.byte (b := c) (by rfl) (by rfl) (by rfl) (by rfl) (by rfl) (by rfl) (by rfl) (by omega) (by rw [hl]; rfl) ?_
        refine bs (fun h4 => ?_) (fun h4 => ?_)
        · refine ⟨_, _, rfl, ?_, rfl⟩
          simp only [decide_eq_true_eq] at h4
          have : wordL s.data.toList a b = false := by simp only [wordL, hd]; rw [decide_eq_false (show ¬ c.toNat ≤ b by omega)]; simp
          rw [this]
        · simp only [decide_eq_false_iff_not] at h4
          refine w_loop hX (H := Hs 122) [0, 29, 30] (fun m S => ∃ i : Nat, m = s.data.toList.length - i ∧ i ≤ s.data.toList.length ∧ ((s.data.toList.take i).all fun c => letterN c.toNat) = true ∧ S = ⟨39, [(0, .d (T s)), (29, .d (I s.data.toList.length)), (30, .d (I i))], [], 0⟩) s.data.toList.length ⟨0, by simp, by simp, by simp, rfl⟩ ?_
          rintro m S ⟨i, rfl, hi, he, rfl⟩
          refine bs (fun h5 => ?_) (fun h5 => ?_)
          · simp only [decide_eq_true_eq] at h5
            have h5 : i < s.data.toList.length := by omega
            refine Soft.byte (b := s.data.toList[i]) (by rfl) (by rfl) (by rfl) (by rfl) (by rfl) (by rfl) (by rfl) (by omega) (by simp [h5]) ?_
            refine ⟨_, _, ce_letter _ (UInt8.toNat_lt _), ?_⟩
            refine bs (fun h6 => ?_) (fun h6 => ?_)
            · refine ⟨_, _, rfl, ?_, rfl⟩
              have : wordL s.data.toList a b = false := by
                have h7 : (s.data.toList.all fun c => letterN c.toNat) = false := by
                  rw [List.all_eq_false]
                  exact ⟨s.data.toList[i], List.getElem_mem h5, by simpa using h6⟩
                simp only [wordL, h7, Bool.and_false]
              rw [this]
            · refine ⟨s.data.toList.length - (i + 1), by omega, i + 1, rfl, by omega, ?_, ?_⟩
              · rw [List.take_succ_eq_append_getElem h5, List.all_append, he]
                simpa using h6
              · have e := inc64 i (by omega)
                rw [e]
          · refine ⟨_, _, rfl, ?_, rfl⟩
            simp only [decide_eq_false_iff_not] at h5
            have e : i = s.data.toList.length := by omega
            subst e
            rw [List.take_length] at he
            have : wordL s.data.toList a b = true := by
              simp only [wordL, hd, he, Bool.and_true, Bool.and_eq_true, decide_eq_true_eq]
              omega
            rw [this]
/-- The reference's word. -/
def wordR (l : List UInt8) : Bool := decide (1 ≤ l.length) && decide (l.length ≤ 16) && l.all fun c => letterN c.toNat
theorem ce_word (s : ByteArray) : CE X 136 [T s] [] (.ret (B (wordR s.data.toList))) [] := by
  refine ce_code hX hF (H := Hs 136) (fn := Tryz.f136) rfl rfl ?_
  refine bs (fun h1 => ?_) (fun h1 => ?_)
  · refine ⟨_, _, rfl, ?_, rfl⟩
    simp only [decide_eq_true_eq] at h1
    have : wordR s.data.toList = false := by simp only [wordR]; rw [decide_eq_false (show ¬ 1 ≤ s.data.toList.length by omega)]; rfl
    rw [this]
  · simp only [decide_eq_false_iff_not] at h1
    refine bs (fun h2 => ?_) (fun h2 => ?_)
    · refine ⟨_, _, rfl, ?_, rfl⟩
      simp only [decide_eq_true_eq] at h2
      have : wordR s.data.toList = false := by simp only [wordR]; rw [decide_eq_false (show ¬ s.data.toList.length ≤ 16 by omega)]; simp
      rw [this]
    · simp only [decide_eq_false_iff_not] at h2
      refine w_loop hX (H := Hs 136) [0, 3] (fun m S => ∃ i : Nat, m = s.data.toList.length - i ∧ i ≤ s.data.toList.length ∧ ((s.data.toList.take i).all fun c => letterN c.toNat) = true ∧ S = ⟨23, [(0, .d (T s)), (3, .d (I i))], [], 0⟩) s.data.toList.length ⟨0, by simp, by simp, by simp, rfl⟩ ?_
      rintro m S ⟨i, rfl, hi, he, rfl⟩
      refine bs (fun h5 => ?_) (fun h5 => ?_)
      · simp only [decide_eq_true_eq] at h5
        have h5 : i < s.data.toList.length := by omega
        refine Soft.byte (b := s.data.toList[i]) (by rfl) (by rfl) (by rfl) (by rfl) (by rfl) (by rfl) (by rfl) (by omega) (by simp [h5]) ?_
        refine ⟨_, _, ce_Letter _ (UInt8.toNat_lt _), ?_⟩
        refine bs (fun h6 => ?_) (fun h6 => ?_)
        · refine ⟨_, _, rfl, ?_, rfl⟩
          have : wordR s.data.toList = false := by
            have h7 : (s.data.toList.all fun c => letterN c.toNat) = false := by
              rw [List.all_eq_false]
              exact ⟨s.data.toList[i], List.getElem_mem h5, by simpa using h6⟩
            simp only [wordR, h7, Bool.and_false]
          rw [this]
        · refine ⟨s.data.toList.length - (i + 1), by omega, i + 1, rfl, by omega, ?_, ?_⟩
          · rw [List.take_succ_eq_append_getElem h5, List.all_append, he]
            simpa using h6
          · have e := inc64 i (by omega)
            rw [e]
      · refine ⟨_, _, rfl, ?_, rfl⟩
        simp only [decide_eq_false_iff_not] at h5
        have e : i = s.data.toList.length := by omega
        subst e
        rw [List.take_length] at he
        have : wordR s.data.toList = true := by
          simp only [wordR, he, Bool.and_true, Bool.and_eq_true, decide_eq_true_eq]
          omega
        rw [this]
end
end Go.Proofs.YtfbppkjjdbkedaaGreatDoor.Ref
