/-
  Walks: patterns and arms, as the reference sees them.
-/
import Derived.Test.YtfbppkjjdbkedaaGreatDoorVj
namespace Go.Proofs.YtfbppkjjdbkedaaGreatDoor.Ref
noncomputable section
open Go
set_option linter.unusedVariables false
set_option linter.unusedSimpArgs false
set_option maxRecDepth 100000
def patternM (x : Syn) : Bool := if eqB x.kind ⟨#[116, 117, 112, 108, 101]⟩ = true then x.kids.all simpleM && (differR [] x.kids && atomB x.text && (x.int == 0) && decide (x.kids.length ≥ 1) && decide (x.kids.length ≤ 8)) else simpleM x
theorem ce_pattern (x : Syn) (hl : sizeS x ≤ 100000) : CE X 137 [eSyn x] [] (.ret (B (patternM x))) [] := by
  obtain ⟨k, t, m, l⟩ := x
  have hll := len_size l
  simp only [sizeS] at hl
  refine ce_code hX hF (H := Hs 137) (fn := Tryz.f137) rfl rfl ?_
  refine bs (fun h0 => ?_) (fun h0 => ?_)
  · refine ⟨_, _, ce_Rsimple k t m l, ?_⟩
    refine ⟨_, _, rfl, ?_, rfl⟩
    simp only [Bool.not_eq_true'] at h0
    simp only [patternM, Syn.kind, h0, Bool.false_eq_true, if_false]
  · simp only [Bool.not_eq_false'] at h0
    have hp : patternM (.mk k t m l) = (l.all simpleM && (differR [] l && atomB t && (m == 0) && decide (l.length ≥ 1) && decide (l.length ≤ 8))) := by
      simp only [patternM, Syn.kind, Syn.kids, Syn.text, Syn.int, h0, if_true]
      rfl
    refine w_loop hX (H := Hs 137) [1, 3] (fun r S => ∃ i : Nat, r = l.length - i ∧ i ≤ l.length ∧ (l.drop i).all simpleM = l.all simpleM ∧ S = ⟨48, [(1, .d (.fz (eSyn (.mk k t m l)))), (3, .d (I i))], [], 0⟩) l.length ⟨0, by simp, by simp, by simp only [List.drop_zero], rfl⟩ ?_
    rintro r S ⟨i, rfl, hi, he, rfl⟩
    refine bs (fun h1 => ?_) (fun h1 => ?_)
    · have h1 : i < l.length := by rw [eSyns_len] at h1; simp at h1; exact h1
      have hd := List.drop_eq_getElem_cons h1
      rw [hd] at he
      simp only [List.all_cons] at he
      have e1 := inc64 i (by omega)
      refine Soft.idx (by rfl) (by rfl) (by rfl) (by rfl) (by rfl) (by rfl) (by rfl) (by omega) (eSyns_get h1) ?_
      rcases hk : l[i] with ⟨k', t', m', ks'⟩
      rw [hk] at he
      refine ⟨_, _, ce_Rsimple k' t' m' ks', ?_⟩
      refine bs (fun h2 => ?_) (fun h2 => ?_)
      · refine ⟨_, _, rfl, ?_, rfl⟩
        simp only [Bool.not_eq_true'] at h2
        rw [h2, Bool.false_and] at he
        rw [hp, ← he, Bool.false_and]
      · simp only [Bool.not_eq_false'] at h2
        rw [h2, Bool.true_and] at he
        refine ⟨l.length - (i + 1), by omega, i + 1, rfl, by omega, he, ?_⟩
        rw [e1]
    · have h1 : i = l.length := by rw [eSyns_len] at h1; simp at h1; omega
      subst h1
      simp only [List.drop_length, List.all_nil] at he
      rw [← he, Bool.true_and] at hp
      clear he
      refine ⟨_, _, ce_Rdifferent l (by omega), ?_⟩
      refine bs (fun h2 => ?_) (fun h2 => ?_)
      · refine ⟨_, _, ce_IsAtom t, ?_⟩
        refine bs (fun h3 => ?_) (fun h3 => ?_)
        · refine bs (fun h4 => ?_) (fun h4 => ?_)
          · refine bs (fun h5 => ?_) (fun h5 => ?_)
            · refine ⟨_, _, rfl, ?_, rfl⟩
              rw [eSyns_len] at h5
              simp only [decide_eq_true_eq] at h5
              rw [hp, h2, h3, h4, decide_eq_true (show l.length ≥ 1 by omega), eSyns_len]
              refine congrArg (fun b => ARes.ret (B b)) ?_
              rw [Bool.eq_iff_iff]; simp; omega
            · refine ⟨_, _, rfl, ?_, rfl⟩
              rw [eSyns_len] at h5
              simp only [decide_eq_false_iff_not] at h5
              rw [hp, h2, h3, h4, decide_eq_false (show ¬ l.length ≥ 1 by omega)]
              rfl
          · refine ⟨_, _, rfl, ?_, rfl⟩
            rw [hp, h2, h3, h4]; rfl
        · refine ⟨_, _, rfl, ?_, rfl⟩
          rw [hp, h2, h3]; rfl
      · refine ⟨_, _, rfl, ?_, rfl⟩
        rw [hp, h2]; rfl
/-- An arm, g telling what a statement is. -/
def armR (g : Syn → Bool) (x : Syn) : Bool := eqB x.kind ⟨#[97, 114, 109]⟩ && bareR x false false true && (match x.kids with
  | [p, s] => patternM p && g s
  | _ => false)
theorem ce_arms {g : Syn → Bool} {l : List Syn} (hl : sizeL l ≤ 100000) (h : ∀ x ∈ l, ∀ y ∈ x.kids, Ans 45 g y) : CE X 81 [.row false 4 (eSyns l)] [] (.ret (B (l.all (armR g)))) [] := by
  have hll := len_size l
  refine ce_code hX hF (H := Hs 81) (fn := Tryz.f81) rfl rfl ?_
  refine w_loop hX (H := Hs 81) [0, 3] (fun r S => ∃ i : Nat, r = l.length - i ∧ i ≤ l.length ∧ (l.drop i).all (armR g) = l.all (armR g) ∧ S = ⟨45, [(0, .d (.row false 4 (eSyns l))), (3, .d (I i))], [], 0⟩) l.length ⟨0, by simp, by simp, by simp only [List.drop_zero], rfl⟩ ?_
  rintro r S ⟨i, rfl, hi, he, rfl⟩
  refine bs (fun h1 => ?_) (fun h1 => ?_)
  · have h1 : i < l.length := by rw [eSyns_len] at h1; simp at h1; exact h1
    have hd := List.drop_eq_getElem_cons h1
    rw [hd] at he
    simp only [List.all_cons] at he
    have e1 := inc64 i (by omega)
    have hsz := size_get h1
    have hans := h l[i] (List.getElem_mem h1)
    refine Soft.idx (by rfl) (by rfl) (by rfl) (by rfl) (by rfl) (by rfl) (by rfl) (by omega) (eSyns_get h1) ?_
    rcases hk : l[i] with ⟨k, t, m, ks⟩
    rw [hk] at he hsz hans
    simp only [sizeS] at hsz
    simp only [Syn.kids] at hans
    have bad : armR g (.mk k t m ks) = false → l.all (armR g) = false := fun hb => by rw [hb, Bool.false_and] at he; exact he.symm
    refine bs (fun h2 => ?_) (fun h2 => ?_)
    · refine ⟨_, _, rfl, ?_, rfl⟩
      simp only [Bool.not_eq_true'] at h2
      rw [bad (by simp only [armR, Syn.kind, h2, Bool.false_and])]
    · simp only [Bool.not_eq_false'] at h2
      refine ⟨_, _, ce_Rbare k t m ks false false true, ?_⟩
      refine bs (fun h3 => ?_) (fun h3 => ?_)
      · refine ⟨_, _, rfl, ?_, rfl⟩
        simp only [Bool.not_eq_true'] at h3
        rw [bad (by simp only [armR, h3, Bool.and_false, Bool.false_and])]
      · simp only [Bool.not_eq_false'] at h3
        refine bs (fun h4 => ?_) (fun h4 => ?_)
        · refine ⟨_, _, rfl, ?_, rfl⟩
          rw [eSyns_len] at h4
          have h4 : ks.length ≠ 2 := by simp at h4; omega
          rw [bad (by
            simp only [armR, Syn.kids]
            split
            · simp at h4
            · simp)]
        · rw [eSyns_len] at h4
          have h4 : ks.length = 2 := by simp at h4; omega
          obtain ⟨p, s, rfl⟩ : ∃ p s, ks = [p, s] := by
            match ks, h4 with
            | [p, s], _ => exact ⟨p, s, rfl⟩
          simp only [sizeL] at hsz
          have hs2 := hans s (by simp)
          have har : armR g (.mk k t m [p, s]) = (patternM p && g s) := by simp only [armR, Syn.kind, Syn.kids, h2, h3, Bool.true_and]
          refine Soft.idx (d := eSyn p) (by rfl) (by rfl) (by rfl) (by rfl) (by rfl) (by rfl) (by rfl) (by omega) (by rfl) ?_
          obtain ⟨pk, pt, pm, pl⟩ := p
          refine ⟨_, _, ce_pattern (.mk pk pt pm pl) (by omega), ?_⟩
          refine bs (fun h5 => ?_) (fun h5 => ?_)
          · refine ⟨_, _, rfl, ?_, rfl⟩
            simp only [Bool.not_eq_true'] at h5
            rw [bad (by rw [har, h5, Bool.false_and])]
          · simp only [Bool.not_eq_false'] at h5
            refine Soft.idx (d := eSyn s) (by rfl) (by rfl) (by rfl) (by rfl) (by rfl) (by rfl) (by rfl) (by omega) (by rfl) ?_
            obtain ⟨sk, st, sm, sl⟩ := s
            refine ⟨_, _, hs2, ?_⟩
            refine bs (fun h6 => ?_) (fun h6 => ?_)
            · refine ⟨_, _, rfl, ?_, rfl⟩
              simp only [Bool.not_eq_true'] at h6
              rw [bad (by rw [har, h6, Bool.and_false])]
            · simp only [Bool.not_eq_false'] at h6
              rw [har, h5, h6, Bool.true_and, Bool.true_and] at he
              refine ⟨l.length - (i + 1), by omega, i + 1, rfl, by omega, he, ?_⟩
              rw [e1]
  · have h1 : i = l.length := by rw [eSyns_len] at h1; simp at h1; omega
    subst h1
    refine ⟨_, _, rfl, ?_, rfl⟩
    simp only [List.drop_length, List.all_nil] at he
    rw [← he]
end
end Go.Proofs.YtfbppkjjdbkedaaGreatDoor.Ref
