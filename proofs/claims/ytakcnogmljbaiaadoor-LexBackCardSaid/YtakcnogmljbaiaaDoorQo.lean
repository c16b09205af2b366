/-
  Words joined by blanks, read again: the same tokens; a token that was read is written again.
-/
import Derived.Test.YtakcnogmljbaiaaDoorQn
set_option linter.unusedVariables false
set_option linter.unusedSimpArgs false
namespace Go.Proofs.YtakcnogmljbaiaaDoor.Q
open Go.RowKit Go.Proofs.YtakcnogmljbaiaaDoorW.PrintWords Go.Proofs.YtakcnogmljbaiaaDoor.PLex

theorem tok_nogap {c : UInt8} {r : List UInt8} {v : Int × List UInt8 × Nat} (h : tokS (c :: r) = some v) : ¬ (isBl c = true ∨ c.toNat = 37) := by
  intro hg
  have hb := gap_byte c hg
  have hc : c.toNat = 32 ∨ c.toNat = 10 ∨ c.toNat = 9 ∨ c.toNat = 37 := by
    rcases hg with hg | hg
    · simp only [isBl, Bool.or_eq_true, beq_iff_eq] at hg; omega
    · omega
  have hl : isLow c = false ∧ isUp c = false := by
    have := hb.2
    simp only [isLet, Bool.or_eq_false_iff] at this
    exact ⟨this.1.1.2, this.1.2⟩
  rw [tokS_cons, if_neg (by rw [hb.1]; intro h; rcases h with h | h; · cases h
                            · omega), if_neg (by rw [hl.1, hl.2]; intro h; rcases h with h | h <;> cases h), if_neg (by omega), symS_eq] at h
  split at h
  · rename_i h2
    exact rsym_nogap _ h2.2 c (by rw [List.take_succ_cons]; exact List.mem_cons_self ..) hg
  · split at h
    · rename_i h2
      exact rsym_nogap _ h2.2 c (by rw [List.take_succ_cons]; exact List.mem_cons_self ..) hg
    · cases h
theorem sp_nogap {c : UInt8} {r : List UInt8} (h : ¬ (isBl c = true ∨ c.toNat = 37)) : sp false (c :: r) = 0 := by
  have h1 : ¬ isBl c = true := fun e => h (.inl e)
  have h2 : ¬ c.toNat = 37 := fun e => h (.inr e)
  simp [sp, h1, h2]
theorem jb_two (x y : List UInt8) (r : List (List UInt8)) : jb (x :: y :: r) = x ++ 32 :: jb (y :: r) := by
  rw [jb, List.flatMap_cons, jb]; simp
theorem okT_tok {x : S32} (h : okT x = true) : tokS (putT x) = some (x.f0, L x.f1, (putT x).length) := by
  have h : wrB x.f0 (L x.f1) = true := h
  unfold wrB at h
  rw [decide_eq_true_iff] at h
  exact h.2.2
theorem jb_head (x : S32) (r : List S32) (h : okT x = true) : sp false (jb ((x :: r).map putT)) = 0 := by
  have ht := okT_tok h
  have hp := (putT_le h).1
  rw [List.map_cons, jb]
  cases hw : putT x with
  | nil => rw [hw] at hp; simp at hp
  | cons c w =>
    rw [hw] at ht
    rw [List.cons_append]
    exact sp_nogap (tok_nogap ht)
theorem jb_chain (r : List S32) : ∀ (x : S32) (i : Nat), (∀ y ∈ x :: r, okT y = true) → ∃ ts, Ch i (jb ((x :: r).map putT)) ts none ∧ ts.map (fun y => (y.2.1, y.2.2.1)) = (x :: r).map (fun x => (x.f0, L x.f1)) := by
  induction r with
  | nil =>
    intro x i h
    have ht := okT_tok (h x (List.mem_cons_self ..))
    have e : jb ([x].map putT) = putT x := by simp [jb]
    rw [e]
    refine ⟨[(i, x.f0, L x.f1, (putT x).length)], .tok i _ _ _ _ _ _ ht ?_, rfl⟩
    rw [List.drop_eq_nil_of_le (Nat.le_refl _), List.drop_eq_nil_of_le (by omega)]
    exact .nil _
  | cons y r ih =>
    intro x i h
    have hx := h x (List.mem_cons_self ..)
    have hr : ∀ z ∈ y :: r, okT z = true := fun z hz => h z (List.mem_cons_of_mem _ hz)
    have ht := okT_tok hx
    have e : jb ((x :: y :: r).map putT) = putT x ++ 32 :: jb ((y :: r).map putT) := by
      rw [List.map_cons, List.map_cons, jb_two]
    rw [e]
    have hs : sp false ((32 : UInt8) :: jb ((y :: r).map putT)) = 1 := by
      have h0 := jb_head y r (hr y (List.mem_cons_self ..))
      have : sp false ((32 : UInt8) :: jb ((y :: r).map putT)) = sp false (jb ((y :: r).map putT)) + 1 := by
        simp [sp, isBl]
      rw [this, h0]
    obtain ⟨ts, hc, hm⟩ := ih y (i + (putT x).length + 1) hr
    have ht2 : tokS (putT x ++ 32 :: jb ((y :: r).map putT)) = some (x.f0, L x.f1, (putT x).length) := by
      refine tok_ext (rest := []) (by rw [List.append_nil]; exact ht) (.inr (.inl ⟨32, _, rfl, .inl (by decide)⟩))
    refine ⟨(i, x.f0, L x.f1, (putT x).length) :: ts, .tok i _ _ _ _ _ _ ht2 ?_, ?_⟩
    · rw [List.drop_left' rfl, hs]
      have : (putT x ++ 32 :: jb ((y :: r).map putT)).drop ((putT x).length + 1) = jb ((y :: r).map putT) := by
        rw [List.drop_append, List.drop_eq_nil_of_le (by omega), Nat.add_sub_cancel_left]
        rfl
      rw [this]
      exact hc
    · rw [List.map_cons, hm]
      rfl
theorem same_tok {l : List S32} {ts : List (Nat × Int × List UInt8 × Nat)} (h : ts.map (fun y => (y.2.1, y.2.2.1)) = l.map (fun x => (x.f0, L x.f1))) (hl : l.length < 4611686018427387904) :
    Evt (fun k => leatworklaw03_tokens.f k l (ts.map tS) false) true := by
  have hlen : ts.length = l.length := by
    have := congrArg List.length h
    rwa [List.length_map, List.length_map] at this
  refine tokens_e _ _ false (by rw [List.length_map]; omega) hl (fun j hj => ?_)
  have hj2 : j < ts.length := by omega
  have e := congrArg (fun z => z[j]?) h
  simp only [List.getElem?_map, List.getElem?_eq_getElem hj, List.getElem?_eq_getElem hj2, Option.map_some] at e
  injection e with e
  injection e with e1 e2
  simp only [List.getD_eq_getElem?_getD, List.getElem?_map, List.getElem?_eq_getElem hj, List.getElem?_eq_getElem hj2, Option.map_some, Option.getD_some]
  refine ⟨e1.symm, ?_, fun h => by cases h⟩
  show l[j].f1 = B _
  rw [e2, B_L]
/-- Joined words, read: their tokens. -/
theorem scan_joined (l : List S32) (h : ∀ x ∈ l, okT x = true) (h4 : (jb (l.map putT)).length ≤ 4000) (h12 : l.length ≤ 1200) :
    ∃ ts : List (Nat × Int × List UInt8 × Nat), scanF (jb (l.map putT)) = (ts.map tS, 0, 0) ∧ ts.map (fun y => (y.2.1, y.2.2.1)) = l.map (fun x => (x.f0, L x.f1)) := by
  unfold scanF
  rw [if_neg (by omega)]
  cases l with
  | nil => exact ⟨[], by rw [show jb (([] : List S32).map putT) = [] from rfl, scanL_end (by simp)]; rfl, rfl⟩
  | cons x r =>
    obtain ⟨ts, hc, hm⟩ := jb_chain r x 0 h
    rw [jb_head x r (h x (List.mem_cons_self ..))]
    have hlen : ts.length = (x :: r).length := by
      have := congrArg List.length hm
      rwa [List.length_map, List.length_map] at this
    have := hc.scan (jb ((x :: r).map putT)) [] (by simp) (by omega) (by simp at h12 hlen ⊢; omega)
    exact ⟨ts, by simpa using this, hm⟩

/-- A token that was read is written, and no longer. -/
theorem tok_wr {l : List UInt8} {k : Int} {t : List UInt8} {n : Nat} (h : tokS l = some (k, t, n)) : wrB k t = true ∧ (putS k t).length ≤ n := by
  cases l with
  | nil => cases h
  | cons c r =>
    have hn := tok_len h
    have hlen : ((c :: r).take n).length = n := by rw [List.length_take]; omega
    have hw : tokS ((c :: r).take n) = some (k, t, n) := by
      have h2 : tokS ((c :: r).take n ++ (c :: r).drop n) = some (k, t, ((c :: r).take n).length) := by rw [List.take_append_drop, hlen]; exact h
      have := tok_ext (rest' := []) h2 (.inl rfl)
      rwa [List.append_nil, hlen] at this
    rcases tok_text h with ⟨_, hk, hnt, htake, hat⟩ | ⟨_, hk, hnt, d, hd, htd, htake⟩ | ⟨_, _, hnt, htake⟩
    · subst hk
      refine ⟨?_, by have := putS_le 2 t; omega⟩
      by_cases hq : t ∈ kwL ∨ t = [124] ∨ t = [35]
      · exact wr_quote hq
      · rw [wr_atom hq]; exact hat
    · subst hk htd
      rw [htake] at hw
      rw [List.length_cons] at hnt
      rw [hnt] at hw
      exact ⟨(wr_neg d).2 (selfm_of hw), by rw [putS_neg, List.length_cons]; omega⟩
    · rw [htake, hnt] at hw
      rcases tok_self hw with ⟨hk, h1, h2⟩ | ⟨hk, h1, h2⟩ | ⟨hk, h1⟩ | ⟨hk, h1⟩ | ⟨hk, h1⟩
      · subst hk
        have hh : t.head? ≠ some 45 := by
          intro e
          cases t with
          | nil => cases e
          | cons a b =>
            injection e with e
            have := (all_cons_of h1).1
            rw [e] at this
            exact absurd this (by decide)
        exact ⟨(wr_int hh).2 ⟨h1, h2⟩, by rw [putS_self (fun h => hh h.2) (fun h => absurd h.1 (by decide))]; omega⟩
      · subst hk
        have hq : ¬ (t ∈ kwL ∨ t = [124] ∨ t = [35]) := by
          rintro (e | e | e)
          · exact h2 e
          · rw [e] at hw; exact absurd hw (by decide +kernel)
          · rw [e] at hw; exact absurd hw (by decide +kernel)
        exact ⟨by rw [wr_atom hq]; exact h1, by rw [putS_self (fun h => absurd h.1 (by decide)) (fun h => hq h.2)]; omega⟩
      · subst hk
        exact ⟨by rw [wr_var]; exact h1, by rw [putS_self (fun h => absurd h.1 (by decide)) (fun h => absurd h.1 (by decide))]; omega⟩
      · subst hk
        exact ⟨by rw [wr_kw]; exact decide_eq_true h1, by rw [putS_self (fun h => absurd h.1 (by decide)) (fun h => absurd h.1 (by decide))]; omega⟩
      · subst hk
        exact ⟨by rw [wr_sym]; exact decide_eq_true h1, by rw [putS_self (fun h => absurd h.1 (by decide)) (fun h => absurd h.1 (by decide))]; omega⟩
theorem Ch.written {i : Nat} {l : List UInt8} {ts : List (Nat × Int × List UInt8 × Nat)} {e : Option Nat} (h : Ch i l ts e) : (∀ x ∈ ts.map tS, okT x = true) ∧ szS ((ts.map tS).map putT) ≤ 2 * l.length := by
  induction h with
  | nil => exact ⟨by simp, by simp [szS]⟩
  | bad => exact ⟨by simp, by simp [szS]⟩
  | tok i l k t n ts e ht hc ih =>
    have hn := tok_len ht
    have hw := tok_wr ht
    rw [List.length_drop] at ih
    constructor
    · intro x hx
      rw [List.map_cons, List.mem_cons] at hx
      rcases hx with rfl | hx
      · exact hw.1
      · exact ih.1 x hx
    · rw [List.map_cons, List.map_cons, szS_cons]
      have : (putT (tS (i, k, t, n))).length ≤ n := hw.2
      omega
theorem Ch.bad_le {i j : Nat} {l : List UInt8} {ts : List (Nat × Int × List UInt8 × Nat)} {e : Option Nat} (h : Ch i l ts e) : e = some j → j ≤ i + l.length := by
  induction h with
  | nil => intro h; cases h
  | bad i l h1 h2 => intro h; injection h with h; omega
  | tok i l k t n ts e ht hc ih =>
    intro h
    have hn := tok_len ht
    have := ih h
    have hs := sp_le false (l.drop n)
    rw [List.length_drop] at this hs
    omega
end Go.Proofs.YtakcnogmljbaiaaDoor.Q
