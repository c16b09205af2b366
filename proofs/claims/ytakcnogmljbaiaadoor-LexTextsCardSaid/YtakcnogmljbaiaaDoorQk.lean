/-
  What stands behind a token changes it only by its first byte; gaps; two sources with a newline between them.
-/
import Derived.Test.YtakcnogmljbaiaaDoorQj
set_option linter.unusedVariables false
set_option linter.unusedSimpArgs false
namespace Go.Proofs.YtakcnogmljbaiaaDoor.Q
open Go.RowKit Go.Proofs.YtakcnogmljbaiaaDoorW.PrintWords Go.Proofs.YtakcnogmljbaiaaDoor.PLex

/-- rest' may stand in the place of rest behind a token. -/
def Good (rest rest' : List UInt8) : Prop := rest' = [] ∨ (∃ b r, rest' = b :: r ∧ (isBl b = true ∨ b.toNat = 37)) ∨ (∃ c r r', rest = c :: r ∧ rest' = c :: r')
theorem gap_byte (b : UInt8) (h : isBl b = true ∨ b.toNat = 37) : isDig b = false ∧ isLet b = false := by
  have := all_bytes (p := fun n => decide ((isBl (UInt8.ofNat n) = true ∨ (UInt8.ofNat n).toNat = 37) → isDig (UInt8.ofNat n) = false ∧ isLet (UInt8.ofNat n) = false)) (by decide +kernel) b
  have := of_decide_eq_true this
  rw [ofNat_toNat] at this
  exact this h
theorem tw_ext (p : UInt8 → Bool) (hp : ∀ b, (isBl b = true ∨ b.toNat = 37) → p b = false) {rest rest' : List UInt8} (hg : Good rest rest') (w : List UInt8) (h : (w ++ rest).takeWhile p = w) : (w ++ rest').takeWhile p = w := by
  induction w with
  | nil =>
    rw [List.nil_append] at h ⊢
    rcases hg with rfl | ⟨b, r, rfl, hb⟩ | ⟨c, r, r', rfl, rfl⟩
    · rfl
    · exact List.takeWhile_cons_of_neg (by rw [hp b hb]; simp)
    · by_cases hc : p c = true
      · rw [List.takeWhile_cons_of_pos hc] at h; cases h
      · exact List.takeWhile_cons_of_neg hc
  | cons a w ih =>
    rw [List.cons_append] at h ⊢
    by_cases ha : p a = true
    · rw [List.takeWhile_cons_of_pos ha] at h ⊢
      rw [ih (List.cons.inj h).2]
    · rw [List.takeWhile_cons_of_neg ha] at h; cases h
theorem tw_of_len {p : UInt8 → Bool} {w rest : List UInt8} (h : ((w ++ rest).takeWhile p).length = w.length) : (w ++ rest).takeWhile p = w := by
  have := takeWhile_take (p := p) (w ++ rest)
  rw [h, List.take_left] at this
  exact this.symm
theorem rsym_nogap : ∀ x ∈ rsymL, ∀ b ∈ x, ¬ (isBl b = true ∨ b.toNat = 37) := by decide +kernel
theorem tok_ext {w rest rest' : List UInt8} {k : Int} {t : List UInt8} (h : tokS (w ++ rest) = some (k, t, w.length)) (hg : Good rest rest') : tokS (w ++ rest') = some (k, t, w.length) := by
  have hlen := (tok_len h).1
  cases w with
  | nil => simp at hlen
  | cons c w =>
    rw [List.cons_append, tokS_cons] at h
    rw [List.cons_append, tokS_cons]
    by_cases hn : isDig c = true ∨ c.toNat = 126
    · rw [if_pos hn] at h ⊢
      obtain ⟨hb, h1, h2, h3⟩ := intS_some h
      have same : (if c.toNat = 126 then w ++ rest' else c :: (w ++ rest')).takeWhile isDig = (if c.toNat = 126 then w ++ rest else c :: (w ++ rest)).takeWhile isDig := by
        by_cases h126 : c.toNat = 126
        · rw [if_pos h126, beq_iff_eq.2 h126] at h3
          simp only [if_true, List.length_cons] at h3
          rw [if_pos h126, if_pos h126]
          have e := tw_of_len (p := isDig) (w := w) (rest := rest) (by omega)
          rw [e, tw_ext isDig (fun b hb => (gap_byte b hb).1) hg w e]
        · rw [if_neg h126, beq_eq_false_iff_ne.2 h126] at h3
          simp only [Bool.false_eq_true, if_false, Nat.add_zero] at h3
          rw [if_neg h126, if_neg h126]
          have e := tw_of_len (p := isDig) (w := c :: w) (rest := rest) h3.symm
          have e' := tw_ext isDig (fun b hb => (gap_byte b hb).1) hg (c :: w) e
          rw [List.cons_append] at e e'
          rw [e, e']
      rw [intS_of (by rw [same]; exact hb), same, ← h1, ← h2, ← h3]
    · rw [if_neg hn] at h ⊢
      by_cases hw : isLow c = true ∨ isUp c = true
      · rw [if_pos hw] at h ⊢
        have hW : ∀ l, wordS l = (if (l.takeWhile isLet).length > 16 then none else some (if (l.head?.map isUp).getD false then 3 else if l.takeWhile isLet ∈ kwL then 4 else 2, l.takeWhile isLet, (l.takeWhile isLet).length)) := fun _ => rfl
        rw [hW] at h ⊢
        split at h
        · cases h
        · rename_i hb
          have h' := h
          injection h with h
          injection h with h1 h
          injection h with h2 h3
          have e := tw_of_len (p := isLet) (w := c :: w) (rest := rest) h3
          have e' := tw_ext isLet (fun b hb => (gap_byte b hb).2) hg (c :: w) e
          rw [List.cons_append] at e e'
          rw [e'] at ⊢
          rw [e] at h' hb
          rw [if_neg hb]
          exact h'
      · rw [if_neg hw] at h ⊢
        by_cases h39 : c.toNat = 39
        · rw [if_pos h39] at h ⊢
          have hQ : ∀ r, quotedS r = (if (r.takeWhile (fun c => c != 39)).length < r.length ∧ isAtomL (r.takeWhile (fun c => c != 39)) = true then some (2, r.takeWhile (fun c => c != 39), (r.takeWhile (fun c => c != 39)).length + 2) else none) := fun _ => rfl
          rw [hQ] at h ⊢
          split at h
          · rename_i hb
            have h' := h
            injection h with h
            injection h with h1 h
            injection h with h2 h3
            simp only [List.length_cons] at h3
            have q := quoted_take (w ++ rest) hb.1
            rw [show ((w ++ rest).takeWhile (fun c => c != 39)).length + 1 = w.length by omega, List.take_left] at q
            have hall := all_takeWhile (fun c => c != 39) (w ++ rest)
            generalize (w ++ rest).takeWhile (fun c => c != 39) = T at *
            have e' : (w ++ rest').takeWhile (fun c => c != 39) = T := by
              rw [q, List.append_assoc]
              have : ∀ T : List UInt8, T.all (fun c => c != 39) = true → (T ++ ([39] ++ rest')).takeWhile (fun c => c != 39) = T := by
                intro T
                induction T with
                | nil => intro _; exact List.takeWhile_cons_of_neg (p := fun c => c != 39) (by simp)
                | cons a T ih =>
                  intro hT
                  have ha := (all_cons_of hT).1
                  rw [List.cons_append, List.takeWhile_cons_of_pos (p := fun c => c != 39) ha, ih (all_cons_of hT).2]
              exact this T hall
            rw [e', if_pos ⟨by rw [List.length_append]; omega, hb.2⟩]
            exact h'
          · cases h
        · rw [if_neg h39] at h ⊢
          rw [symS_eq] at h ⊢
          by_cases h2 : 2 ≤ (c :: (w ++ rest)).length ∧ (c :: (w ++ rest)).take 2 ∈ rsymL
          · rw [if_pos h2] at h
            injection h with h
            injection h with g1 h
            injection h with g2 g3
            simp only [List.length_cons] at g3
            obtain ⟨a, rfl⟩ : ∃ a, w = [a] := by
              cases w with
              | nil => simp at g3
              | cons a w =>
                cases w with
                | nil => exact ⟨a, rfl⟩
                | cons b w => simp at g3
            have e1 : (c :: ([a] ++ rest)).take 2 = [c, a] := rfl
            have e2 : (c :: ([a] ++ rest')).take 2 = [c, a] := rfl
            rw [e1] at h2 g2
            rw [e2, if_pos ⟨by simp, h2.2⟩, ← g1, ← g2]
            rfl
          · rw [if_neg h2] at h
            by_cases h1 : 1 ≤ (c :: (w ++ rest)).length ∧ (c :: (w ++ rest)).take 1 ∈ rsymL
            · rw [if_pos h1] at h
              injection h with h
              injection h with g1 h
              injection h with g2 g3
              simp only [List.length_cons] at g3
              obtain rfl : w = [] := List.length_eq_zero_iff.1 (by omega)
              rw [List.nil_append] at *
              have e1 : ∀ x : List UInt8, (c :: x).take 1 = [c] := fun _ => rfl
              rw [e1] at h1 g2
              rw [if_neg (by
                rintro ⟨hl, hm⟩
                rcases hg with rfl | ⟨b, r, rfl, hb⟩ | ⟨a, r, r', rfl, rfl⟩
                · simp at hl
                · exact rsym_nogap _ hm b (by simp) hb
                · exact h2 ⟨by simp, hm⟩), e1, if_pos ⟨by simp, h1.2⟩, ← g1, ← g2]
              rfl
            · rw [if_neg h1] at h; cases h

/-! Gaps. -/
/-- Whether one is within a remark behind some bytes. -/
def stt : Bool → List UInt8 → Bool
  | b, [] => b
  | false, c :: r => if isBl c then stt false r else stt true r
  | true, c :: r => if c.toNat = 10 then stt false r else stt true r
theorem sp_app (b : Bool) (g y : List UInt8) (h : sp b g = g.length) : sp b (g ++ y) = g.length + sp (stt b g) y := by
  induction g generalizing b with
  | nil => cases b <;> simp [stt]
  | cons c r ih =>
    rw [List.cons_append, List.length_cons]
    cases b with
    | false =>
      by_cases hb : isBl c = true
      · simp only [sp, hb, if_true, List.length_cons] at h ⊢
        simp only [stt, hb, if_true]
        rw [ih false (by omega)]; omega
      · by_cases h37 : c.toNat = 37
        · simp only [sp, hb, h37, if_true, if_false, Bool.false_eq_true, List.length_cons] at h ⊢
          simp only [stt, hb, if_false, Bool.false_eq_true]
          rw [ih true (by omega)]; omega
        · simp only [sp, hb, h37, if_false, Bool.false_eq_true, List.length_cons] at h
          omega
    | true =>
      by_cases h10 : c.toNat = 10
      · simp only [sp, h10, if_true, List.length_cons] at h ⊢
        simp only [stt, h10, if_true]
        rw [ih false (by omega)]; omega
      · simp only [sp, h10, if_false, List.length_cons] at h ⊢
        simp only [stt, h10, if_false]
        rw [ih true (by omega)]; omega
theorem sp_take (b : Bool) (l : List UInt8) : sp b (l.take (sp b l)) = sp b l := by
  induction l generalizing b with
  | nil => cases b <;> rfl
  | cons c r ih =>
    cases b with
    | false =>
      by_cases hb : isBl c = true
      · have e : sp false (c :: r) = sp false r + 1 := by simp [sp, hb]
        rw [e, List.take_succ_cons]
        simp only [sp, hb, if_true, ih]
      · by_cases h37 : c.toNat = 37
        · have e : sp false (c :: r) = sp true r + 1 := by simp [sp, hb, h37]
          rw [e, List.take_succ_cons]
          simp only [sp, hb, h37, if_true, if_false, Bool.false_eq_true, ih]
        · have e : sp false (c :: r) = 0 := by simp [sp, hb, h37]
          rw [e]; rfl
    | true =>
      by_cases h10 : c.toNat = 10
      · have e : sp true (c :: r) = sp false r + 1 := by simp [sp, h10]
        rw [e, List.take_succ_cons]
        simp only [sp, h10, if_true, ih]
      · have e : sp true (c :: r) = sp true r + 1 := by simp [sp, h10]
        rw [e, List.take_succ_cons]
        simp only [sp, h10, if_false, ih]
theorem stt_take (b : Bool) (l : List UInt8) (h : sp b l < l.length) : stt b (l.take (sp b l)) = false := by
  induction l generalizing b with
  | nil => simp at h
  | cons c r ih =>
    simp only [List.length_cons] at h
    cases b with
    | false =>
      by_cases hb : isBl c = true
      · have e : sp false (c :: r) = sp false r + 1 := by simp [sp, hb]
        rw [e] at h ⊢
        rw [List.take_succ_cons]
        simp only [stt, hb, if_true]
        exact ih false (by omega)
      · by_cases h37 : c.toNat = 37
        · have e : sp false (c :: r) = sp true r + 1 := by simp [sp, hb, h37]
          rw [e] at h ⊢
          rw [List.take_succ_cons]
          simp only [stt, hb, if_false, Bool.false_eq_true]
          exact ih true (by omega)
        · have e : sp false (c :: r) = 0 := by simp [sp, hb, h37]
          rw [e]; rfl
    | true =>
      by_cases h10 : c.toNat = 10
      · have e : sp true (c :: r) = sp false r + 1 := by simp [sp, h10]
        rw [e] at h ⊢
        rw [List.take_succ_cons]
        simp only [stt, h10, if_true]
        exact ih false (by omega)
      · have e : sp true (c :: r) = sp true r + 1 := by simp [sp, h10]
        rw [e] at h ⊢
        rw [List.take_succ_cons]
        simp only [stt, h10, if_false]
        exact ih true (by omega)
theorem sp_zero (l : List UInt8) : sp false (l.drop (sp false l)) = 0 := by
  rcases Nat.lt_or_ge (sp false l) l.length with h | h
  · have e : l.take (sp false l) ++ l.drop (sp false l) = l := List.take_append_drop _ _
    have hs := sp_le false l
    have hl : (l.take (sp false l)).length = sp false l := by rw [List.length_take]; omega
    have := sp_app false (l.take (sp false l)) (l.drop (sp false l)) (by rw [sp_take, hl])
    rw [e, stt_take false l h, hl] at this
    omega
  · rw [List.drop_eq_nil_of_le h]; rfl
/-- A gap with something behind it ends where it ended. -/
theorem sp_gap (l y : List UInt8) (h : sp false l < l.length) : sp false (l.take (sp false l) ++ y) = sp false l + sp false y := by
  have hl : (l.take (sp false l)).length = sp false l := by rw [List.length_take]; omega
  have := sp_app false (l.take (sp false l)) y (by rw [sp_take, hl])
  rw [stt_take false l h, hl] at this
  exact this
theorem sp_nl (l y : List UInt8) (h : sp false l = l.length) : sp false (l ++ 10 :: y) = l.length + 1 + sp false y := by
  have := sp_app false l (10 :: y) h
  rw [this]
  cases stt false l with
  | false => simp [sp, isBl]; omega
  | true => simp [sp]; omega
end Go.Proofs.YtakcnogmljbaiaaDoor.Q
