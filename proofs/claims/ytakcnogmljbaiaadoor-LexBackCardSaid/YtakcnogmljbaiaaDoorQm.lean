/-
  lex_written: as putS and wrB say.
-/
import Derived.Test.YtakcnogmljbaiaaDoorQl
import Derived.Test.YtakcnogmljbaiaaDoorPLexx17
set_option linter.unusedVariables false
set_option linter.unusedSimpArgs false
namespace Go.Proofs.YtakcnogmljbaiaaDoor.Q
open Go.RowKit Go.Proofs.YtakcnogmljbaiaaDoorW.PrintWords Go.Proofs.YtakcnogmljbaiaaDoor.PLex

/-- What the program hands back for a text that it tries. -/
def tryS (kd : Int) (t s : List UInt8) : ByteArray × Bool :=
  (B (if s = [] ∨ 40 < s.length then [] else s), decide (s ≠ [] ∧ s.length ≤ 40 ∧ tokS s = some (kd, t, s.length)))
theorem wr_j2 (s t : List UInt8) (kd a : Int) (hs : s.length < 4611686018427387904) : Evt (fun k => lex_written.j2 k (B s) kd (B t) a) (tryS kd t s) := by
  apply Evt.succ
  simp only [lex_written.j2]
  rw [toList_B]
  cases s with
  | nil => exact Evt.pos rfl (Evt.pure _)
  | cons c r =>
    refine Evt.neg (by simp) ?_
    unfold tryS
    by_cases h40 : 40 < (c :: r).length
    · refine Evt.pos (by rw [size_B]; omega) ?_
      rw [if_pos (.inr h40), decide_eq_false (fun h => absurd h.2.1 (by omega))]
      exact Evt.pure _
    · refine Evt.neg (by rw [size_B]; omega) ?_
      rw [if_neg (fun h => h.elim (by simp) h40)]
      refine Evt.bind (token_e c r hs) ?_
      have hlen : 1 ≤ (c :: r).length := by simp
      cases ht : tokS (c :: r) with
      | none =>
        rw [decide_eq_false (fun h => by cases h.2.2)]
        refine Evt.neg ?_ (Evt.pure _)
        rw [size_B]
        show ¬ ((0 : Int) = _)
        omega
      | some x =>
        obtain ⟨k', t', n⟩ := x
        by_cases hn : n = (c :: r).length
        · refine Evt.pos (by rw [size_B]; show ((n : Nat) : Int) = _; omega) ?_
          by_cases hk : k' = kd
          · refine Evt.pos hk ?_
            have : ((tk (some (k', t', n))).2.1.toList == (B t).toList) = decide (c :: r ≠ [] ∧ (c :: r).length ≤ 40 ∧ some (k', t', n) = some (kd, t, (c :: r).length)) := by
              show ((B t').toList == (B t).toList) = _
              rw [toList_B, toList_B]
              apply Bool.eq_iff_iff.2
              rw [decide_eq_true_iff, beq_iff_eq]
              constructor
              · intro e; exact ⟨by simp, by omega, by rw [hk, e, hn]⟩
              · intro e
                have e := e.2.2
                injection e with e
                injection e with _ e
                injection e
            rw [this]
            exact Evt.pure _
          · refine Evt.neg hk ?_
            rw [decide_eq_false (fun h => by have e := h.2.2; injection e with e; injection e with e _; exact hk e)]
            exact Evt.pure _
        · refine Evt.neg (by rw [size_B]; show ¬ (((n : Nat) : Int) = _); omega) ?_
          rw [decide_eq_false (fun h => by have e := h.2.2; injection e with e; injection e with _ e; injection e with _ e; exact hn e)]
          exact Evt.pure _
theorem wr_j1 (t : List UInt8) (b : Bool) (kd a : Int) (hs : t.length < 4611686018427387000) : Evt (fun k => lex_written.j1 k (B t) b kd (B t) a) (tryS kd t (if b then 39 :: (t ++ [39]) else t)) := by
  apply Evt.succ
  simp only [lex_written.j1]
  cases b with
  | false => exact Evt.neg (by simp) (wr_j2 t t kd a (by omega))
  | true =>
    have e : (⟨#[39]⟩ : ByteArray) ++ B t = B (39 :: t) := append_B [39] t
    have e2 : B (39 :: t) ++ (⟨#[39]⟩ : ByteArray) = B (39 :: (t ++ [39])) := append_B (39 :: t) [39]
    rw [e, e2]
    refine Evt.pos rfl (Evt.pos (by rw [size_B]; omega) (Evt.pos (by rw [size_B, List.length_cons]; omega) ?_))
    exact wr_j2 _ t kd a (by rw [List.length_cons, List.length_append, List.length_singleton]; omega)
theorem written_e (t : List UInt8) (kd a : Int) (hs : t.length < 4611686018427387000) : Evt (fun k => lex_written.f k kd (B t) a) (tryS kd t (putS kd t)) := by
  unfold lex_written.f
  have no : ∀ kd, (kd = 1 → t.head? ≠ some 45) → Evt (fun k => lex_written.j0 k (B t) false kd (B t) a) (tryS kd t (putS kd t)) := by
    intro kd hkd
    apply Evt.succ
    simp only [lex_written.j0]
    refine Evt.neg (by simp) ?_
    have hp : putS kd t = if decide (kd = 2 ∧ (t ∈ kwL ∨ t = [124] ∨ t = [35])) then 39 :: (t ++ [39]) else t := by
      unfold putS
      rw [if_neg (fun h => hkd h.1 h.2)]
      by_cases h : kd = 2 ∧ (t ∈ kwL ∨ t = [124] ∨ t = [35])
      · rw [if_pos h, decide_eq_true h]; rfl
      · rw [if_neg h, decide_eq_false h]; rfl
    rw [hp]
    by_cases h2 : kd = 2
    · refine Evt.pos h2 (Evt.bind (keyword_e t) ?_)
      by_cases hk : t ∈ kwL
      · rw [decide_eq_true (show kd = 2 ∧ (t ∈ kwL ∨ t = [124] ∨ t = [35]) from ⟨h2, .inl hk⟩)]
        exact Evt.pos (decide_eq_true hk) (wr_j1 t true kd a hs)
      · refine Evt.neg (by simpa using hk) ?_
        rw [toList_B]
        by_cases hb : t = [124]
        · rw [decide_eq_true (show kd = 2 ∧ (t ∈ kwL ∨ t = [124] ∨ t = [35]) from ⟨h2, .inr (.inl hb)⟩)]
          exact Evt.pos hb (wr_j1 t true kd a hs)
        · refine Evt.neg hb ?_
          have : (t == [35]) = decide (kd = 2 ∧ (t ∈ kwL ∨ t = [124] ∨ t = [35])) := by
            apply Bool.eq_iff_iff.2
            rw [decide_eq_true_iff, beq_iff_eq]
            constructor
            · intro h; exact ⟨h2, .inr (.inr h)⟩
            · rintro ⟨_, h | h | h⟩
              · exact absurd h hk
              · exact absurd h hb
              · exact h
          rw [this]
          exact wr_j1 t _ kd a hs
    · refine Evt.neg h2 ?_
      rw [decide_eq_false (fun h => h2 h.1)]
      exact wr_j1 t false kd a hs
  by_cases h1 : kd = 1
  · refine Evt.pos h1 (Evt.bind (Evt.const (prefix_f t [45])) ?_)
    cases t with
    | nil => exact no kd (fun _ => by decide)
    | cons c r =>
      by_cases hc : c = 45
      · subst hc
        have e : ([45] : List UInt8).isPrefixOf (45 :: r) = true := by simp
        rw [e]
        apply Evt.succ
        simp only [lex_written.j0]
        have hx : (B (45 :: r)).extract 1 (B (45 :: r)).size = B r := by rw [extract_B, size_B]; simp
        rw [hx]
        have e2 : (⟨#[126]⟩ : ByteArray) ++ B r = B (126 :: r) := append_B [126] r
        rw [e2]
        rw [List.length_cons] at hs
        refine Evt.pos trivial (Evt.pos (by rw [size_B]; simp only [List.length_cons]; omega) (Evt.pos (by rw [size_B]; omega) ?_))
        rw [h1, putS_neg]
        exact wr_j2 (126 :: r) (45 :: r) 1 a (by rw [List.length_cons]; omega)
      · have e : ([45] : List UInt8).isPrefixOf (c :: r) = false := by
          rw [Bool.eq_false_iff]
          intro h
          rw [List.isPrefixOf_cons_cons, Bool.and_eq_true, beq_iff_eq] at h
          exact hc h.1.symm
        rw [e]
        exact no kd (fun _ h => hc (by injection h))
  · exact Evt.neg h1 (no kd (fun h => absurd h h1))
/-- The program's pair, by wrB. -/
theorem written_o (t : List UInt8) (kd a : Int) (hs : t.length < 4611686018427387000) : ∃ w, Evt (fun k => lex_written.f k kd (B t) a) (w, wrB kd t) ∧ (wrB kd t = true → w = B (putS kd t)) := by
  refine ⟨_, written_e t kd a hs, fun h => ?_⟩
  unfold wrB at h
  rw [decide_eq_true_iff] at h
  rw [if_neg (fun e => e.elim h.1 (fun e => absurd h.2.1 (by omega)))]

end Go.Proofs.YtakcnogmljbaiaaDoor.Q
