/-
  Walks: lists of parts, as the reference sees them.
-/
import Derived.Test.YtfbppkjjdbkedaaGreatDoorVh
namespace Go.Proofs.YtfbppkjjdbkedaaGreatDoor.Ref
noncomputable section
open Go
set_option linter.unusedVariables false
set_option linter.unusedSimpArgs false
set_option maxRecDepth 100000
theorem ce_exprs {g : Syn → Bool} {l : List Syn} (hl : sizeL l ≤ 100000) (h : ∀ x ∈ l, Ans 46 g x) : CE X 79 [.row false 4 (eSyns l)] [] (.ret (B (l.all g))) [] := by
  have hll := len_size l
  refine ce_code hX hF (H := Hs 79) (fn := Tryz.f79) rfl rfl ?_
  refine w_loop hX (H := Hs 79) [0, 3] (fun r S => ∃ i : Nat, r = l.length - i ∧ i ≤ l.length ∧ (l.drop i).all g = l.all g ∧ S = ⟨16, [(0, .d (.row false 4 (eSyns l))), (3, .d (I i))], [], 0⟩) l.length ⟨0, by simp, by simp, by simp only [List.drop_zero], rfl⟩ ?_
  rintro r S ⟨i, rfl, hi, he, rfl⟩
  refine bs (fun h1 => ?_) (fun h1 => ?_)
  · have h1 : i < l.length := by rw [eSyns_len] at h1; simp at h1; exact h1
    have hd := List.drop_eq_getElem_cons h1
    rw [hd] at he
    simp only [List.all_cons] at he
    have e1 := inc64 i (by omega)
    have ihx := h l[i] (List.getElem_mem h1)
    refine Soft.idx (by rfl) (by rfl) (by rfl) (by rfl) (by rfl) (by rfl) (by rfl) (by omega) (eSyns_get h1) ?_
    rcases hk : l[i] with ⟨k', t', m', ks'⟩
    rw [hk] at ihx he
    refine ⟨_, _, ihx, ?_⟩
    refine bs (fun h2 => ?_) (fun h2 => ?_)
    · refine ⟨_, _, rfl, ?_, rfl⟩
      simp only [Bool.not_eq_true'] at h2
      rw [h2, Bool.false_and] at he
      rw [← he]
    · simp only [Bool.not_eq_false'] at h2
      rw [h2, Bool.true_and] at he
      refine ⟨l.length - (i + 1), by omega, i + 1, rfl, by omega, he, ?_⟩
      rw [e1]
  · have h1 : i = l.length := by rw [eSyns_len] at h1; simp at h1; omega
    subst h1
    refine ⟨_, _, rfl, ?_, rfl⟩
    simp only [List.drop_length, List.all_nil] at he
    rw [← he]
theorem ce_stmts {g : Syn → Bool} {l : List Syn} (hl : sizeL l ≤ 100000) (h : ∀ x ∈ l, Ans 45 g x) : CE X 77 [.row false 4 (eSyns l)] [] (.ret (B (l.all g))) [] := by
  have hll := len_size l
  refine ce_code hX hF (H := Hs 77) (fn := Tryz.f77) rfl rfl ?_
  refine w_loop hX (H := Hs 77) [0, 3] (fun r S => ∃ i : Nat, r = l.length - i ∧ i ≤ l.length ∧ (l.drop i).all g = l.all g ∧ S = ⟨16, [(0, .d (.row false 4 (eSyns l))), (3, .d (I i))], [], 0⟩) l.length ⟨0, by simp, by simp, by simp only [List.drop_zero], rfl⟩ ?_
  rintro r S ⟨i, rfl, hi, he, rfl⟩
  refine bs (fun h1 => ?_) (fun h1 => ?_)
  · have h1 : i < l.length := by rw [eSyns_len] at h1; simp at h1; exact h1
    have hd := List.drop_eq_getElem_cons h1
    rw [hd] at he
    simp only [List.all_cons] at he
    have e1 := inc64 i (by omega)
    have ihx := h l[i] (List.getElem_mem h1)
    refine Soft.idx (by rfl) (by rfl) (by rfl) (by rfl) (by rfl) (by rfl) (by rfl) (by omega) (eSyns_get h1) ?_
    rcases hk : l[i] with ⟨k', t', m', ks'⟩
    rw [hk] at ihx he
    refine ⟨_, _, ihx, ?_⟩
    refine bs (fun h2 => ?_) (fun h2 => ?_)
    · refine ⟨_, _, rfl, ?_, rfl⟩
      simp only [Bool.not_eq_true'] at h2
      rw [h2, Bool.false_and] at he
      rw [← he]
    · simp only [Bool.not_eq_false'] at h2
      rw [h2, Bool.true_and] at he
      refine ⟨l.length - (i + 1), by omega, i + 1, rfl, by omega, he, ?_⟩
      rw [e1]
  · have h1 : i = l.length := by rw [eSyns_len] at h1; simp at h1; omega
    subst h1
    refine ⟨_, _, rfl, ?_, rfl⟩
    simp only [List.drop_length, List.all_nil] at he
    rw [← he]
/-- May it stand among parameters; `some`: variables alone. -/
def formalX (some : Bool) (x : Syn) : Bool := simpleM x && (eqB x.kind ⟨#[118, 97, 114]⟩ || (!some && eqB x.kind ⟨#[97, 110, 121]⟩))
def formalM (l : List Syn) (some : Bool) : Bool := l.all (formalX some) && differR [] l && (!some || decide (0 < l.length))
theorem ce_formal {l : List Syn} {some : Bool} (hl : sizeL l ≤ 100000) : CE X 78 [.row false 4 (eSyns l), B some] [] (.ret (B (formalM l some))) [] := by
  have hll := len_size l
  refine ce_code hX hF (H := Hs 78) (fn := Tryz.f78) rfl rfl ?_
  refine w_loop hX (H := Hs 78) [0, 1, 5] (fun r S => ∃ i : Nat, r = l.length - i ∧ i ≤ l.length ∧ (l.drop i).all (formalX some) = l.all (formalX some) ∧ S = ⟨48, [(0, .d (.row false 4 (eSyns l))), (1, .d (B some)), (5, .d (I i))], [], 0⟩) l.length ⟨0, by simp, by simp, by simp only [List.drop_zero], rfl⟩ ?_
  rintro r S ⟨i, rfl, hi, he, rfl⟩
  refine bs (fun h1 => ?_) (fun h1 => ?_)
  · have h1 : i < l.length := by rw [eSyns_len] at h1; simp at h1; exact h1
    have hd := List.drop_eq_getElem_cons h1
    rw [hd] at he
    simp only [List.all_cons] at he
    have e1 := inc64 i (by omega)
    refine Soft.idx (by rfl) (by rfl) (by rfl) (by rfl) (by rfl) (by rfl) (by rfl) (by omega) (eSyns_get h1) ?_
    rcases hk : l[i] with ⟨k, t, n, ks⟩
    rw [hk] at he
    have bad : formalX some (.mk k t n ks) = false → formalM l some = false := fun hb => by
      rw [hb, Bool.false_and] at he
      rw [formalM, ← he, Bool.false_and, Bool.false_and]
    have good : formalX some (.mk k t n ks) = true → (l.drop (i + 1)).all (formalX some) = l.all (formalX some) := fun hb => by
      rw [hb, Bool.true_and] at he; exact he
    refine ⟨_, _, ce_Rsimple k t n ks, ?_⟩
    refine bs (fun h2 => ?_) (fun h2 => ?_)
    · refine ⟨_, _, rfl, ?_, rfl⟩
      simp only [Bool.not_eq_true'] at h2
      rw [bad (by simp only [formalX, h2, Bool.false_and])]
    · simp only [Bool.not_eq_false'] at h2
      refine Soft.idx (by rfl) (by rfl) (by rfl) (by rfl) (by rfl) (by rfl) (by rfl) (by omega) ((eSyns_get h1).trans (by rw [hk])) ?_
      refine bs (fun h3 => ?_) (fun h3 => ?_)
      · simp only [Bool.not_eq_true'] at h3
        refine bs (fun h4 => ?_) (fun h4 => ?_)
        · refine ⟨_, _, rfl, ?_, rfl⟩
          rw [bad (by simp only [formalX, Syn.kind, h2, h3, h4, Bool.not_true, Bool.false_and, Bool.or_false, Bool.and_false])]
        · refine Soft.idx (by rfl) (by rfl) (by rfl) (by rfl) (by rfl) (by rfl) (by rfl) (by omega) ((eSyns_get h1).trans (by rw [hk])) ?_
          refine bs (fun h5 => ?_) (fun h5 => ?_)
          · refine ⟨_, _, rfl, ?_, rfl⟩
            simp only [Bool.not_eq_true'] at h5
            rw [bad (by simp only [formalX, Syn.kind, h2, h3, h4, h5, Bool.not_false, Bool.and_false, Bool.or_false])]
          · simp only [Bool.not_eq_false'] at h5
            refine ⟨l.length - (i + 1), by omega, i + 1, rfl, by omega, good (by simp only [formalX, Syn.kind, h2, h3, h4, h5, Bool.not_false, Bool.and_true, Bool.or_true]), ?_⟩
            rw [e1]
      · simp only [Bool.not_eq_false'] at h3
        refine ⟨l.length - (i + 1), by omega, i + 1, rfl, by omega, good (by simp only [formalX, Syn.kind, h2, h3, Bool.true_or, Bool.and_true]), ?_⟩
        rw [e1]
  · have h1 : i = l.length := by rw [eSyns_len] at h1; simp at h1; omega
    subst h1
    simp only [List.drop_length, List.all_nil] at he
    refine ⟨_, _, ce_Rdifferent l (by omega), ?_⟩
    refine bs (fun h6 => ?_) (fun h6 => ?_)
    · refine bs (fun h7 => ?_) (fun h7 => ?_)
      · refine ⟨_, _, rfl, ?_, rfl⟩
        simp only [Bool.not_eq_true'] at h7
        rw [h7] at he ⊢
        simp only [formalM, ← he, h6, Bool.not_false, Bool.true_or, Bool.and_self]
      · refine ⟨_, _, rfl, ?_, rfl⟩
        simp only [Bool.not_eq_false'] at h7
        rw [h7] at he ⊢
        simp only [formalM, ← he, h6, Bool.not_true, Bool.false_or, Bool.true_and]
        refine congrArg (fun b => ARes.ret (B b)) ?_
        rw [Bool.eq_iff_iff]; simp [eSyns_len]
    · refine ⟨_, _, rfl, ?_, rfl⟩
      simp only [formalM, h6, Bool.and_false, Bool.false_and]
end
end Go.Proofs.YtfbppkjjdbkedaaGreatDoor.Ref
