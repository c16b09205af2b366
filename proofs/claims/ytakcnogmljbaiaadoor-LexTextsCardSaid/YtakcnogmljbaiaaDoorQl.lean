/-
  How a token is written: the program tries its own reading, the reference says the forms outright; both are the same.
-/
import Derived.Test.YtakcnogmljbaiaaDoorQk
set_option linter.unusedVariables false
set_option linter.unusedSimpArgs false
namespace Go.Proofs.YtakcnogmljbaiaaDoor.Q
open Go.RowKit Go.Proofs.YtakcnogmljbaiaaDoorW.PrintWords Go.Proofs.YtakcnogmljbaiaaDoor.PLex

theorem tw_full {p : UInt8 → Bool} {l : List UInt8} (h : (l.takeWhile p).length = l.length) : l.takeWhile p = l := by
  have := tw_of_len (p := p) (w := l) (rest := []) (by rw [List.append_nil]; exact h)
  rwa [List.append_nil] at this
theorem tw_all {p : UInt8 → Bool} {l : List UInt8} (h : l.all p = true) : l.takeWhile p = l := by
  induction l with
  | nil => rfl
  | cons c r ih =>
    obtain ⟨h1, h2⟩ := all_cons_of h
    rw [List.takeWhile_cons_of_pos (by simpa using h1), ih h2]
theorem all_tw {p : UInt8 → Bool} {l : List UInt8} (h : l.takeWhile p = l) : l.all p = true := by
  rw [← h]; exact all_takeWhile p l
theorem low_dig (c : UInt8) (h : isDig c = true ∨ c.toNat = 126) : isLow c = false ∧ isUp c = false := by
  simp only [isDig, Bool.and_eq_true, decide_eq_true_eq] at h
  constructor
  · simp only [isLow, Bool.and_eq_false_iff, decide_eq_false_iff_not]; omega
  · simp only [isUp, Bool.and_eq_false_iff, decide_eq_false_iff_not]; omega
theorem atom_low {c : UInt8} {r : List UInt8} (h : isAtomL (c :: r) = true) (h1 : c :: r ≠ [124]) (h2 : c :: r ≠ [35]) : isWord (c :: r) = true ∧ isLow c = true := by
  simp only [isAtomL, Bool.or_eq_true, beq_iff_eq, Bool.and_eq_true] at h
  rcases h with (h | h) | h
  · exact absurd h h1
  · exact absurd h h2
  · exact ⟨h.1, h.2⟩
theorem word_of {l : List UInt8} (h : isWord l = true) : 1 ≤ l.length ∧ l.length ≤ 16 ∧ l.takeWhile isLet = l := by
  simp only [isWord, Bool.and_eq_true, decide_eq_true_eq] at h
  exact ⟨h.1.1, h.1.2, tw_all h.2⟩
theorem word_is {l : List UInt8} (h1 : 1 ≤ l.length) (h2 : l.length ≤ 16) (h3 : l.takeWhile isLet = l) : isWord l = true := by
  simp only [isWord, Bool.and_eq_true, decide_eq_true_eq]
  exact ⟨⟨h1, h2⟩, all_tw h3⟩
theorem wordS_cons (c : UInt8) (r : List UInt8) : wordS (c :: r) = if ((c :: r).takeWhile isLet).length > 16 then none else some (if isUp c = true then 3 else if (c :: r).takeWhile isLet ∈ kwL then 4 else 2, (c :: r).takeWhile isLet, ((c :: r).takeWhile isLet).length) := rfl
theorem quotedS_def (r : List UInt8) : quotedS r = if (r.takeWhile (fun c => c != 39)).length < r.length ∧ isAtomL (r.takeWhile (fun c => c != 39)) = true then some (2, r.takeWhile (fun c => c != 39), (r.takeWhile (fun c => c != 39)).length + 2) else none := rfl
/-- A text that is a token as it stands. -/
theorem tok_self {k : Int} {t : List UInt8} (h : tokS t = some (k, t, t.length)) :
    (k = 1 ∧ t.all isDig = true ∧ ¬ badInt false t) ∨ (k = 2 ∧ isAtomL t = true ∧ t ∉ kwL) ∨ (k = 3 ∧ isIdL t = true) ∨ (k = 4 ∧ t ∈ kwL) ∨ (k = 5 ∧ t ∈ rsymL) := by
  cases t with
  | nil => cases h
  | cons c r =>
    have hx := tok_text h
    rw [tokS_cons] at h
    by_cases hn : isDig c = true ∨ c.toNat = 126
    · rw [if_pos hn] at h
      obtain ⟨hb, h1, h2, h3⟩ := intS_some h
      by_cases h126 : c.toNat = 126
      · exfalso
        rw [beq_iff_eq.2 h126] at h2
        injection h2 with h2 _
        rw [h2] at h126
        exact absurd h126 (by decide)
      · left
        rw [beq_eq_false_iff_ne.2 h126, if_neg h126] at h2 hb
        simp only [Bool.false_eq_true, if_false, List.nil_append] at h2
        rw [← h2] at hb
        exact ⟨h1, all_tw h2.symm, hb⟩
    · rw [if_neg hn] at h
      by_cases hw : isLow c = true ∨ isUp c = true
      · rw [if_pos hw, wordS_cons] at h
        by_cases h16 : ((c :: r).takeWhile isLet).length > 16
        · rw [if_pos h16] at h; cases h
        · rw [if_neg h16] at h
          injection h with h
          injection h with h1 h
          injection h with h2 h3
          rw [h2] at h1 h16
          have hW : isWord (c :: r) = true := word_is (by simp) (by omega) h2
          by_cases hu : isUp c = true
          · rw [if_pos hu] at h1
            right; right; left
            refine ⟨h1.symm, ?_⟩
            simp only [isIdL, Bool.and_eq_true]
            exact ⟨hW, hu⟩
          · rw [if_neg hu] at h1
            by_cases hk : c :: r ∈ kwL
            · rw [if_pos hk] at h1
              right; right; right; left
              exact ⟨h1.symm, hk⟩
            · rw [if_neg hk] at h1
              right; left
              refine ⟨h1.symm, ?_, hk⟩
              simp only [isAtomL, Bool.or_eq_true, Bool.and_eq_true]
              exact .inr ⟨hW, hw.resolve_right hu⟩
      · rw [if_neg hw] at h
        by_cases h39 : c.toNat = 39
        · exfalso
          rcases hx with h | h | h
          · have := h.2.2.1; omega
          · exact absurd h.1 (by omega)
          · exact h.1 h39
        · rw [if_neg h39, symS_eq] at h
          right; right; right; right
          split at h
          · rename_i hb
            injection h with h
            injection h with h1 h
            injection h with h2 h3
            refine ⟨h1.symm, ?_⟩
            rw [← h2]; exact hb.2
          · split at h
            · rename_i hb
              injection h with h
              injection h with h1 h
              injection h with h2 h3
              refine ⟨h1.symm, ?_⟩
              rw [← h2]; exact hb.2
            · cases h
theorem self1 {t : List UInt8} (h : t.all isDig = true) (hb : ¬ badInt false t) : tokS t = some (1, t, t.length) := by
  cases t with
  | nil => exact absurd (.inl rfl) hb
  | cons c r =>
    have hc := (all_cons_of h).1
    have h126 : c.toNat ≠ 126 := by have := dig_of c hc; omega
    have hb2 : ¬ badInt false ((c :: r).takeWhile isDig) := by rw [tw_all h]; exact hb
    rw [tokS_cons, if_pos (.inl hc), if_neg h126, beq_eq_false_iff_ne.2 h126, intS_of hb2, tw_all h]
    rfl
theorem selfm {d : List UInt8} (h : d.all isDig = true) (hb : ¬ badInt true d) : tokS (126 :: d) = some (1, 45 :: d, d.length + 1) := by
  have hb2 : ¬ badInt true (d.takeWhile isDig) := by rw [tw_all h]; exact hb
  rw [tokS_cons, if_pos (.inr rfl)]
  show intS true d = _
  rw [intS_of hb2, tw_all h]
  rfl
theorem selfm_of {d : List UInt8} (h : tokS (126 :: d) = some (1, 45 :: d, d.length + 1)) : d.all isDig = true ∧ ¬ badInt true d := by
  rw [tokS_cons, if_pos (.inr rfl)] at h
  have h : intS true d = some (1, 45 :: d, d.length + 1) := h
  obtain ⟨hb, h1, h2, h3⟩ := intS_some h
  simp only [if_true, List.singleton_append] at h2
  injection h2 with _ h2
  rw [← h2] at hb
  exact ⟨all_tw h2.symm, hb⟩
theorem self_word {c : UInt8} {r : List UInt8} (hw : isLow c = true ∨ isUp c = true) (h : isWord (c :: r) = true) :
    tokS (c :: r) = some (if isUp c = true then 3 else if c :: r ∈ kwL then 4 else 2, c :: r, (c :: r).length) := by
  obtain ⟨h1, h2, h3⟩ := word_of h
  have hn : ¬ (isDig c = true ∨ c.toNat = 126) := by
    intro hn
    have := low_dig c hn
    rw [this.1, this.2] at hw
    rcases hw with h | h <;> cases h
  rw [tokS_cons, if_neg hn, if_pos hw, wordS_cons, h3, if_neg (by omega)]
theorem self2 {t : List UInt8} (h : isAtomL t = true) (hk : t ∉ kwL) (h1 : t ≠ [124]) (h2 : t ≠ [35]) : tokS t = some (2, t, t.length) := by
  cases t with
  | nil => exact absurd h (by decide)
  | cons c r =>
    obtain ⟨hw, hl⟩ := atom_low h h1 h2
    rw [self_word (.inl hl) hw, low_not_up c hl, if_neg hk]
    rfl
theorem self3 {t : List UInt8} (h : isIdL t = true) : tokS t = some (3, t, t.length) := by
  cases t with
  | nil => exact absurd h (by decide)
  | cons c r =>
    simp only [isIdL, Bool.and_eq_true] at h
    have hu : isUp c = true := h.2
    rw [self_word (.inr hu) h.1, if_pos hu]
theorem self4 : ∀ t ∈ kwL, tokS t = some (4, t, t.length) := by decide +kernel
theorem self5 : ∀ t ∈ rsymL, tokS t = some (5, t, t.length) := by decide +kernel
theorem selfq : ∀ t ∈ [124] :: [35] :: kwL, tokS (39 :: (t ++ [39])) = some (2, t, (39 :: (t ++ [39])).length) ∧ t.length ≤ 16 := by decide +kernel
theorem sym_few : ∀ t ∈ rsymL, t.length ≤ 2 ∧ 1 ≤ t.length := by decide +kernel

/-- How a token is written. -/
def putS (k : Int) (t : List UInt8) : List UInt8 :=
  if k = 1 ∧ t.head? = some 45 then 126 :: t.tail
  else if k = 2 ∧ (t ∈ kwL ∨ t = [124] ∨ t = [35]) then 39 :: (t ++ [39])
  else t
/-- Is it a token? -/
def wrB (k : Int) (t : List UInt8) : Bool := decide (putS k t ≠ [] ∧ (putS k t).length ≤ 40 ∧ tokS (putS k t) = some (k, t, (putS k t).length))
theorem putS_neg (d : List UInt8) : putS 1 (45 :: d) = 126 :: d := if_pos ⟨rfl, rfl⟩
theorem putS_quote {t : List UInt8} (h : t ∈ kwL ∨ t = [124] ∨ t = [35]) : putS 2 t = 39 :: (t ++ [39]) := by
  unfold putS
  rw [if_neg (fun e => absurd e.1 (by decide)), if_pos ⟨rfl, h⟩]
theorem putS_self {k : Int} {t : List UInt8} (h1 : ¬ (k = 1 ∧ t.head? = some 45)) (h2 : ¬ (k = 2 ∧ (t ∈ kwL ∨ t = [124] ∨ t = [35]))) : putS k t = t := by
  unfold putS
  rw [if_neg h1, if_neg h2]
theorem putS_le (k : Int) (t : List UInt8) : (putS k t).length ≤ t.length + 2 := by
  unfold putS
  split
  · rw [List.length_cons, List.length_tail]; omega
  · split
    · rw [List.length_cons, List.length_append]; simp
    · omega
theorem wr_self {k : Int} {t : List UInt8} (hp : putS k t = t) : wrB k t = true ↔ (t ≠ [] ∧ t.length ≤ 40 ∧ tokS t = some (k, t, t.length)) := by
  rw [wrB, hp, decide_eq_true_iff]
theorem wr_neg (d : List UInt8) : wrB 1 (45 :: d) = true ↔ (d.all isDig = true ∧ ¬ badInt true d) := by
  rw [wrB, putS_neg, decide_eq_true_iff]
  constructor
  · intro h; exact selfm_of h.2.2
  · intro h
    have hd : ¬ d.length > 13 := fun e => h.2 (.inr (.inr (.inl e)))
    exact ⟨by simp, by rw [List.length_cons]; omega, selfm h.1 h.2⟩
theorem wr_int {t : List UInt8} (hn : t.head? ≠ some 45) : wrB 1 t = true ↔ (t.all isDig = true ∧ ¬ badInt false t) := by
  rw [wr_self (putS_self (fun h => hn h.2) (fun h => absurd h.1 (by decide)))]
  constructor
  · rintro ⟨_, _, h⟩
    rcases tok_self h with h | h | h | h | h
    · exact h.2
    all_goals exact absurd h.1 (by decide)
  · intro h
    have hd : ¬ t.length > 13 := fun e => h.2 (.inr (.inr (.inl e)))
    exact ⟨fun e => h.2 (.inl e), by omega, self1 h.1 h.2⟩
theorem wr_quote {t : List UInt8} (h : t ∈ kwL ∨ t = [124] ∨ t = [35]) : wrB 2 t = true := by
  have hm : t ∈ [124] :: [35] :: kwL := by
    rcases h with h | h | h
    · exact List.mem_cons_of_mem _ (List.mem_cons_of_mem _ h)
    · rw [h]; exact List.mem_cons_self ..
    · rw [h]; exact List.mem_cons_of_mem _ (List.mem_cons_self ..)
  obtain ⟨h1, h2⟩ := selfq t hm
  rw [wrB, putS_quote h, decide_eq_true_iff]
  exact ⟨by simp, by rw [List.length_cons, List.length_append, List.length_singleton]; omega, h1⟩
theorem atom_few {t : List UInt8} (h : isAtomL t = true) : 1 ≤ t.length ∧ t.length ≤ 16 := by
  simp only [isAtomL, Bool.or_eq_true, beq_iff_eq, Bool.and_eq_true] at h
  rcases h with (h | h) | h
  · rw [h]; decide
  · rw [h]; decide
  · have := word_of h.1; omega
theorem wr_atom {t : List UInt8} (h : ¬ (t ∈ kwL ∨ t = [124] ∨ t = [35])) : wrB 2 t = isAtomL t := by
  apply Bool.eq_iff_iff.2
  rw [wr_self (putS_self (fun h => absurd h.1 (by decide)) (fun e => h e.2))]
  constructor
  · rintro ⟨_, _, h⟩
    rcases tok_self h with h | h | h | h | h
    · exact absurd h.1 (by decide)
    · exact h.2.1
    all_goals exact absurd h.1 (by decide)
  · intro ha
    have := atom_few ha
    exact ⟨by intro e; rw [e] at this; simp at this, by omega, self2 ha (fun e => h (.inl e)) (fun e => h (.inr (.inl e))) (fun e => h (.inr (.inr e)))⟩
theorem wr_var {t : List UInt8} : wrB 3 t = isIdL t := by
  apply Bool.eq_iff_iff.2
  rw [wr_self (putS_self (fun h => absurd h.1 (by decide)) (fun h => absurd h.1 (by decide)))]
  constructor
  · rintro ⟨_, _, h⟩
    rcases tok_self h with h | h | h | h | h
    · exact absurd h.1 (by decide)
    · exact absurd h.1 (by decide)
    · exact h.2
    all_goals exact absurd h.1 (by decide)
  · intro ha
    have h2 := ha
    simp only [isIdL, Bool.and_eq_true] at h2
    have := word_of h2.1
    exact ⟨by intro e; rw [e] at this; simp at this, by omega, self3 ha⟩
theorem wr_kw {t : List UInt8} : wrB 4 t = decide (t ∈ kwL) := by
  apply Bool.eq_iff_iff.2
  rw [wr_self (putS_self (fun h => absurd h.1 (by decide)) (fun h => absurd h.1 (by decide))), decide_eq_true_iff]
  constructor
  · rintro ⟨_, _, h⟩
    rcases tok_self h with h | h | h | h | h
    · exact absurd h.1 (by decide)
    · exact absurd h.1 (by decide)
    · exact absurd h.1 (by decide)
    · exact h.2
    · exact absurd h.1 (by decide)
  · intro ha
    have := (kw_facts t ha).1
    exact ⟨by intro e; subst e; exact absurd ha (by decide), by omega, self4 t ha⟩
theorem wr_sym {t : List UInt8} : wrB 5 t = decide (t ∈ rsymL) := by
  apply Bool.eq_iff_iff.2
  rw [wr_self (putS_self (fun h => absurd h.1 (by decide)) (fun h => absurd h.1 (by decide))), decide_eq_true_iff]
  constructor
  · rintro ⟨_, _, h⟩
    rcases tok_self h with h | h | h | h | h
    · exact absurd h.1 (by decide)
    · exact absurd h.1 (by decide)
    · exact absurd h.1 (by decide)
    · exact absurd h.1 (by decide)
    · exact h.2
  · intro ha
    have := sym_few t ha
    exact ⟨by intro e; subst e; exact absurd ha (by decide), by omega, self5 t ha⟩
theorem wr_other {k : Int} {t : List UInt8} (h1 : k ≠ 1) (h2 : k ≠ 2) (h3 : k ≠ 3) (h4 : k ≠ 4) (h5 : k ≠ 5) : wrB k t = false := by
  apply Bool.eq_false_iff.2
  intro hw
  rw [wr_self (putS_self (fun h => h1 h.1) (fun h => h2 h.1))] at hw
  rcases tok_self hw.2.2 with h | h | h | h | h
  · exact h1 h.1
  · exact h2 h.1
  · exact h3 h.1
  · exact h4 h.1
  · exact h5 h.1
end Go.Proofs.YtakcnogmljbaiaaDoor.Q
