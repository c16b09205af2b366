/-
  The reference's lexer comes to the same plain meaning.
-/
import Derived.Test.YtakcnogmljbaiaaDoorQe
set_option linter.unusedVariables false
set_option linter.unusedSimpArgs false
namespace Go.Proofs.YtakcnogmljbaiaaDoor.Q
open Go.RowKit Go.Proofs.YtakcnogmljbaiaaDoorW.PrintWords Go.Proofs.YtakcnogmljbaiaaDoor.PLex

theorem between_loop (l : List UInt8) (hl : l.length < 4611686018427387904) : ∀ (d i : Nat), i + d = l.length →
    Evt (fun k => leatworkref03_between.l0 k (B l) (i : Int)) ((i + sp false (l.drop i) : Nat) : Int) ∧ Evt (fun k => leatworkref03_between.l1 k (B l) (i : Int)) ((i + sp true (l.drop i) : Nat) : Int) := by
  intro d
  induction d with
  | zero =>
    intro i hi
    have h0 : Evt (fun k => leatworkref03_between.l0 k (B l) (i : Int)) ((i + sp false (l.drop i) : Nat) : Int) := by
      apply Evt.succ
      simp only [leatworkref03_between.l0]
      refine Evt.neg (by rw [size_B]; omega) ?_
      rw [List.drop_eq_nil_of_le (by omega)]
      exact Evt.pure _
    refine ⟨h0, ?_⟩
    apply Evt.succ
    simp only [leatworkref03_between.l1]
    refine Evt.neg (by rw [size_B]; omega) ?_
    rw [List.drop_eq_nil_of_le (by omega)] at h0 ⊢
    exact h0
  | succ d ih =>
    intro i hi
    have hlt : i < l.length := by omega
    obtain ⟨ih0, ih1⟩ := ih (i + 1) (by omega)
    have hw : wrap64 ((i : Int) + 1) = ((i + 1 : Nat) : Int) := w64s i (by omega)
    have hbt : bt (B l) (i : Int) = ((l[i]).toNat : Int) := bt_B l i hlt
    have h37 : (l[i]).toNat = 37 → Evt (fun k => leatworkref03_between.l1 k (B l) (i : Int)) ((i + sp true (l.drop i) : Nat) : Int) := by
      intro c
      apply Evt.succ
      simp only [leatworkref03_between.l1]
      refine Evt.pos (by rw [size_B]; omega) (Evt.pos (by omega) ?_)
      rw [hbt, hw]
      refine Evt.neg (by omega) ?_
      have h10 : ¬ (l[i]).toNat = 10 := by omega
      rw [drop_cons hlt]
      simp only [sp, h10, if_false]
      have e : i + (sp true (l.drop (i + 1)) + 1) = i + 1 + sp true (l.drop (i + 1)) := by omega
      rw [e]; exact ih1
    have h0 : Evt (fun k => leatworkref03_between.l0 k (B l) (i : Int)) ((i + sp false (l.drop i) : Nat) : Int) := by
      apply Evt.succ
      simp only [leatworkref03_between.l0]
      refine Evt.pos (by rw [size_B]; omega) (Evt.pos (by omega) ?_)
      rw [hbt, hw]
      by_cases c37 : (l[i]).toNat = 37
      · refine Evt.pos (by omega) ?_
        have g := h37 c37
        rw [drop_cons hlt] at g ⊢
        have h10 : ¬ (l[i]).toNat = 10 := by omega
        have hb : isBl l[i] = false := by simp [isBl, c37]
        simp only [sp, h10, if_false] at g
        simp only [sp, hb, Bool.false_eq_true, if_false, c37, if_true]
        exact g
      · refine Evt.neg (by omega) ?_
        have e : i + (sp false (l.drop (i + 1)) + 1) = i + 1 + sp false (l.drop (i + 1)) := by omega
        have bl : isBl l[i] = true → Evt (fun k => leatworkref03_between.l0 k (B l) ((i + 1 : Nat) : Int)) ((i + sp false (l.drop i) : Nat) : Int) := by
          intro hb
          rw [drop_cons hlt]
          simp only [sp, hb, if_true]
          rw [e]; exact ih0
        by_cases h32 : (l[i]).toNat = 32
        · exact Evt.pos (by omega) (bl (by simp [isBl, h32]))
        · refine Evt.neg (by omega) ?_
          by_cases h10 : (l[i]).toNat = 10
          · exact Evt.pos (by omega) (bl (by simp [isBl, h10]))
          · refine Evt.neg (by omega) ?_
            by_cases h9 : (l[i]).toNat = 9
            · exact Evt.pos (by omega) (bl (by simp [isBl, h9]))
            · refine Evt.neg (by omega) ?_
              rw [drop_cons hlt]
              have hb : isBl l[i] = false := by simp [isBl, h32, h10, h9]
              simp only [sp, hb, Bool.false_eq_true, if_false, c37]
              exact Evt.pure _
    refine ⟨h0, ?_⟩
    apply Evt.succ
    simp only [leatworkref03_between.l1]
    refine Evt.pos (by rw [size_B]; omega) (Evt.pos (by omega) ?_)
    rw [hbt, hw]
    rw [drop_cons hlt] at h0 ⊢
    by_cases h10 : (l[i]).toNat = 10
    · refine Evt.pos (by omega) ?_
      have : isBl l[i] = true := by simp [isBl, h10]
      simp only [sp, h10, if_true, this] at h0 ⊢
      exact h0
    · refine Evt.neg (by omega) ?_
      simp only [sp, h10, if_false]
      have e : i + (sp true (l.drop (i + 1)) + 1) = i + 1 + sp true (l.drop (i + 1)) := by omega
      rw [e]; exact ih1
theorem between_e (l : List UInt8) (hl : l.length < 4611686018427387904) (i : Nat) (hi : i ≤ l.length) : Evt (fun k => leatworkref03_between.f k (B l) (i : Int)) ((i + sp false (l.drop i) : Nat) : Int) :=
  (between_loop l hl (l.length - i) i (by omega)).1

/-! Membership, keywords, classes. -/
theorem in_loop (xs : List ByteArray) (x : ByteArray) (hl : xs.length < 4611686018427387904) : ∀ (d i : Nat), i + d = xs.length → ∀ b : Bool, (x ∈ xs.drop i ↔ b = true) →
    Evt (fun k => leatworkref03_in.l0 k xs x (i : Int)) b := by
  intro d
  induction d with
  | zero =>
    intro i hi b hb
    rw [List.drop_eq_nil_of_le (by omega)] at hb
    have : b = false := by cases b <;> simp_all
    subst this
    apply Evt.succ
    simp only [leatworkref03_in.l0]
    exact Evt.neg (by omega) (Evt.pure _)
  | succ d ih =>
    intro i hi b hb
    have hlt : i < xs.length := by omega
    have hrd : rdOf ByteArray.empty xs (i : Int) = xs[i] := by simp [rdOf, List.getD_eq_getElem?_getD, hlt]
    apply Evt.succ
    simp only [leatworkref03_in.l0]
    refine Evt.pos (by omega) (Evt.pos (by omega) ?_)
    rw [List.drop_eq_getElem_cons hlt, List.mem_cons] at hb
    by_cases he : x = xs[i]
    · have : b = true := hb.1 (.inl he)
      subst this
      exact Evt.pos (by rw [hrd, he]) (Evt.pure _)
    · refine Evt.neg (by rw [hrd, toList_L, toList_L]; exact fun h => he (ext_L h.symm)) ?_
      rw [w64s i (by omega)]
      exact ih (i + 1) (by omega) b ⟨fun h => hb.1 (.inr h), fun h => (hb.2 h).resolve_left he⟩
theorem in_e (xs : List (List UInt8)) (x : List UInt8) (hl : xs.length < 4611686018427387904) : Evt (fun k => leatworkref03_in.f k (xs.map B) (B x)) (decide (x ∈ xs)) := by
  have := in_loop (xs.map B) (B x) (by simpa using hl) xs.length 0 (by simp) (decide (x ∈ xs)) (by rw [List.drop_zero, decide_eq_true_iff]; exact mem_B)
  simpa [leatworkref03_in.f] using this
theorem rkeywords_f : leatworkref03_keywords.f = some (kwL.map B) := rfl
theorem rKeyword_e (l : List UInt8) : Evt (fun k => leatworkref03_Keyword.f k (B l)) (decide (l ∈ kwL)) := by
  unfold leatworkref03_Keyword.f
  exact Evt.bind (Evt.const rkeywords_f) (Evt.bind (in_e kwL l (by simp [kwL])) (Evt.pure _))
theorem rletter_f (c : UInt8) : leatworkref01_Letter.f (c.toNat : Int) = some (isLet c) := by
  have h := all_bytes (p := fun n => decide (leatworkref01_Letter.f (n : Int) = some (isLet (UInt8.ofNat n)))) (by decide +kernel) c
  have := of_decide_eq_true h
  rwa [ofNat_toNat] at this
theorem rletters_loop (l : List UInt8) (hl : l.length < 4611686018427387904) : ∀ (d i : Nat), i + d = l.length →
    Evt (fun k => leatworkref01_word.l0 k (B l) (i : Int)) ((l.drop i).all isLet) := by
  intro d
  induction d with
  | zero =>
    intro i hi
    apply Evt.succ
    simp only [leatworkref01_word.l0]
    rw [List.drop_eq_nil_of_le (by omega)]
    exact Evt.neg (by rw [size_B]; omega) (Evt.pure _)
  | succ d ih =>
    intro i hi
    have hlt : i < l.length := by omega
    apply Evt.succ
    simp only [leatworkref01_word.l0]
    refine Evt.pos (by rw [size_B]; omega) (Evt.pos (by omega) ?_)
    rw [bt_B l i hlt, w64s i (by omega)]
    refine Evt.bind (Evt.const (rletter_f _)) ?_
    rw [drop_cons hlt, List.all_cons]
    cases hpc : isLet l[i] with
    | true => exact Evt.pos rfl (by simpa using ih (i + 1) (by omega))
    | false => exact Evt.neg (by simp) (Evt.pure _)
theorem rword_e (l : List UInt8) : Evt (fun k => leatworkref01_word.f k (B l)) (isWord l) := by
  unfold leatworkref01_word.f
  have no : ∀ r : Bool, r = false → Evt (fun k => leatworkref01_word.j0 k (B l) true) r := by
    intro r hr
    subst hr
    apply Evt.succ
    simp only [leatworkref01_word.j0]
    exact Evt.pos trivial (Evt.pure _)
  by_cases h1 : l.length < 1
  · refine Evt.pos (by rw [size_B]; omega) (no _ ?_)
    have : l = [] := List.length_eq_zero_iff.1 (by omega)
    subst this
    rfl
  · refine Evt.neg (by rw [size_B]; omega) ?_
    by_cases h2 : l.length > 16
    · rw [decide_eq_true (by rw [size_B]; omega)]
      refine no _ ?_
      have : ¬ l.length ≤ 16 := by omega
      simp [isWord, this]
    · rw [decide_eq_false (by rw [size_B]; omega)]
      apply Evt.succ
      simp only [leatworkref01_word.j0]
      refine Evt.neg (by simp) ?_
      have a1 : 1 ≤ l.length := by omega
      have a2 : l.length ≤ 16 := by omega
      have e : isWord l = l.all isLet := by
        unfold isWord
        rw [decide_eq_true a1, decide_eq_true a2, Bool.true_and, Bool.true_and]
      rw [e]
      have := rletters_loop l (by omega) l.length 0 (by omega)
      simpa using this
theorem rAtom_e (l : List UInt8) : Evt (fun k => leatworkref01_IsAtom.f k (B l)) (isAtomL l) := by
  unfold leatworkref01_IsAtom.f
  rw [toList_B]
  by_cases h1 : l = [124]
  · exact Evt.pos h1 (by subst h1; exact Evt.pure _)
  · refine Evt.neg h1 ?_
    by_cases h2 : l = [35]
    · exact Evt.pos h2 (by subst h2; exact Evt.pure _)
    · refine Evt.neg h2 (Evt.bind (rword_e l) ?_)
      have b1 : (l == [124]) = false := by simpa using h1
      have b2 : (l == [35]) = false := by simpa using h2
      have e : isAtomL l = (isWord l && headIs isLow l) := by
        simp only [isAtomL, b1, b2, Bool.false_or]
      rw [e]
      cases hw : isWord l with
      | false => exact Evt.neg (by simp) (Evt.pure _)
      | true =>
        refine Evt.pos rfl ?_
        cases l with
        | nil => simp [isWord] at hw
        | cons c r =>
          refine Evt.pos (by rw [size_B]; simp only [List.length_cons]; omega) ?_
          rw [bt_cons]
          have hh : headIs isLow (c :: r) = isLow c := rfl
          rw [hh, Bool.true_and]
          by_cases h97 : (c.toNat : Int) ≥ 97
          · refine Evt.pos h97 ?_
            have : decide ((c.toNat : Int) ≤ 122) = isLow c := by
              have a : 97 ≤ c.toNat := by omega
              unfold isLow
              rw [decide_eq_true a, Bool.true_and]
              exact decide_eq_decide.2 (by omega)
            rw [this]; exact Evt.pure _
          · refine Evt.neg h97 ?_
            have : isLow c = false := by
              have a : ¬ 97 ≤ c.toNat := by omega
              unfold isLow
              rw [decide_eq_false a, Bool.false_and]
            rw [this]; exact Evt.pure _
theorem rIdent_e (l : List UInt8) : Evt (fun k => leatworkref01_IsIdent.f k (B l)) (isIdL l) := by
  unfold leatworkref01_IsIdent.f
  refine Evt.bind (rword_e l) ?_
  unfold isIdL
  cases hw : isWord l with
  | false => exact Evt.neg (by simp) (Evt.pure _)
  | true =>
    refine Evt.pos rfl ?_
    cases l with
    | nil => simp [isWord] at hw
    | cons c r =>
      refine Evt.pos (by rw [size_B]; simp only [List.length_cons]; omega) ?_
      rw [bt_cons]
      have hh : headIs isUp (c :: r) = isUp c := rfl
      rw [hh, Bool.true_and]
      by_cases h97 : (c.toNat : Int) ≥ 65
      · refine Evt.pos h97 ?_
        have : decide ((c.toNat : Int) ≤ 90) = isUp c := by
          have a : 65 ≤ c.toNat := by omega
          unfold isUp
          rw [decide_eq_true a, Bool.true_and]
          exact decide_eq_decide.2 (by omega)
        rw [this]; exact Evt.pure _
      · refine Evt.neg h97 ?_
        have : isUp c = false := by
          have a : ¬ 65 ≤ c.toNat := by omega
          unfold isUp
          rw [decide_eq_false a, Bool.false_and]
        rw [this]; exact Evt.pure _
end Go.Proofs.YtakcnogmljbaiaaDoor.Q
