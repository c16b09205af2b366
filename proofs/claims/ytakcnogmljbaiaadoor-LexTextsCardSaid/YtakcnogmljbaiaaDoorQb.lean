/-
  The lexer's plain meaning: classes of bytes, blanks and remarks, runs, words, integers, quoted atoms, symbols; and that the program's functions come to it.
-/
import Derived.Test.YtakcnogmljbaiaaDoorQa
set_option linter.unusedVariables false
set_option linter.unusedSimpArgs false
namespace Go.Proofs.YtakcnogmljbaiaaDoor.Q
open Go.RowKit Go.Proofs.YtakcnogmljbaiaaDoorW.PrintWords Go.Proofs.YtakcnogmljbaiaaDoor.PLex

def isBl (c : UInt8) : Bool := c.toNat == 32 || c.toNat == 10 || c.toNat == 9
def isDig (c : UInt8) : Bool := decide (48 ≤ c.toNat) && decide (c.toNat ≤ 57)
def isLow (c : UInt8) : Bool := decide (97 ≤ c.toNat) && decide (c.toNat ≤ 122)
def isUp (c : UInt8) : Bool := decide (65 ≤ c.toNat) && decide (c.toNat ≤ 90)
def isLet (c : UInt8) : Bool := isDig c || isLow c || isUp c || c.toNat == 95
def kindS (c : UInt8) : Int := if isBl c then 1 else if isDig c then 2 else if isLow c then 3 else if isUp c then 4 else if c.toNat = 95 then 5 else 0

theorem all_bytes {p : Nat → Bool} (h : (List.range 256).all p = true) (c : UInt8) : p c.toNat = true := by
  have := List.all_eq_true.1 h c.toNat (by simp; exact c.toNat_lt)
  exact this
theorem ofNat_toNat (c : UInt8) : UInt8.ofNat c.toNat = c := by simp

theorem kind_f (c : UInt8) : lex_kind.f 6 (c.toNat : Int) = some (kindS c) := by
  have h := all_bytes (p := fun n => decide (lex_kind.f 6 (n : Int) = some (kindS (UInt8.ofNat n)))) (by decide +kernel) c
  have := of_decide_eq_true h
  rwa [ofNat_toNat] at this
theorem kind_e (c : UInt8) : Evt (fun k => lex_kind.f k (c.toNat : Int)) (kindS c) := Evt.of_mono (fun k => lex_kind.mono _ k) (kind_f c)
theorem kind_eq1 (c : UInt8) : (kindS c = 1) ↔ isBl c = true := by
  unfold kindS; split
  · simp_all
  · simp_all; repeat' split
    all_goals decide

/-! Blanks and remarks. -/
/-- How many bytes of blanks and remarks; true: within a remark. -/
def sp : Bool → List UInt8 → Nat
  | _, [] => 0
  | false, c :: r => if isBl c then sp false r + 1 else if c.toNat = 37 then sp true r + 1 else 0
  | true, c :: r => if c.toNat = 10 then sp false r + 1 else sp true r + 1
theorem sp_le (b : Bool) (l : List UInt8) : sp b l ≤ l.length := by
  induction l generalizing b with
  | nil => simp [sp]
  | cons c r ih =>
    have h0 := ih false
    have h1 := ih true
    cases b <;> simp only [sp, List.length_cons]
    · split
      · omega
      · split <;> omega
    · split <;> omega

theorem drop_cons {l : List UInt8} {i : Nat} (h : i < l.length) : l.drop i = l[i] :: l.drop (i + 1) := List.drop_eq_getElem_cons h

theorem space_loop (l : List UInt8) (hl : l.length < 4611686018427387904) : ∀ (d i : Nat), i + d = l.length →
    Evt (fun k => lex_space.l0 k (B l) (i : Int)) ((i + sp false (l.drop i) : Nat) : Int) ∧ Evt (fun k => lex_space.l1 k (B l) (i : Int)) ((i + sp true (l.drop i) : Nat) : Int) := by
  intro d
  induction d with
  | zero =>
    intro i hi
    have h0 : Evt (fun k => lex_space.l0 k (B l) (i : Int)) ((i + sp false (l.drop i) : Nat) : Int) := by
      apply Evt.succ
      simp only [lex_space.l0]
      refine Evt.neg (by rw [size_B]; omega) ?_
      rw [List.drop_eq_nil_of_le (by omega)]
      exact Evt.pure _
    refine ⟨h0, ?_⟩
    apply Evt.succ
    simp only [lex_space.l1]
    refine Evt.neg (by rw [size_B]; omega) ?_
    rw [List.drop_eq_nil_of_le (by omega)] at h0 ⊢
    exact h0
  | succ d ih =>
    intro i hi
    have hlt : i < l.length := by omega
    obtain ⟨ih0, ih1⟩ := ih (i + 1) (by omega)
    have hw : wrap64 ((i : Int) + 1) = ((i + 1 : Nat) : Int) := w64s i (by omega)
    have hbt : bt (B l) (i : Int) = ((l[i]).toNat : Int) := bt_B l i hlt
    have h1 : ∀ g : Evt (fun k => lex_space.l0 k (B l) (i : Int)) ((i + sp false (l.drop i) : Nat) : Int), Evt (fun k => lex_space.l1 k (B l) (i : Int)) ((i + sp true (l.drop i) : Nat) : Int) := by
      intro g
      apply Evt.succ
      simp only [lex_space.l1]
      refine Evt.pos (by rw [size_B]; omega) (Evt.pos (by omega) ?_)
      rw [hbt, hw]
      rw [drop_cons hlt] at g ⊢
      by_cases h10 : (l[i]).toNat = 10
      · refine Evt.pos (by omega) ?_
        have : isBl l[i] = true := by simp [isBl, h10]
        simp only [sp, h10, if_true, this] at g ⊢
        exact g
      · refine Evt.neg (by omega) ?_
        simp only [sp, h10, if_false]
        have e : i + (sp true (l.drop (i + 1)) + 1) = i + 1 + sp true (l.drop (i + 1)) := by omega
        rw [e]; exact ih1
    have h0 : (c37 : (l[i]).toNat = 37 → Evt (fun k => lex_space.l1 k (B l) (i : Int)) ((i + sp true (l.drop i) : Nat) : Int)) → Evt (fun k => lex_space.l0 k (B l) (i : Int)) ((i + sp false (l.drop i) : Nat) : Int) := by
      intro c37
      apply Evt.succ
      simp only [lex_space.l0]
      refine Evt.pos (by rw [size_B]; omega) (Evt.pos (by omega) ?_)
      rw [hbt, hw]
      refine Evt.bind (kind_e _) ?_
      rw [drop_cons hlt] at c37 ⊢
      by_cases hb : isBl l[i] = true
      · refine Evt.pos ((kind_eq1 _).2 hb) ?_
        simp only [sp, hb, if_true]
        have e : i + (sp false (l.drop (i + 1)) + 1) = i + 1 + sp false (l.drop (i + 1)) := by omega
        rw [e]; exact ih0
      · refine Evt.neg (fun h => hb ((kind_eq1 _).1 h)) ?_
        by_cases h37 : (l[i]).toNat = 37
        · refine Evt.pos (by omega) ?_
          have g := c37 h37
          have h10 : ¬ (l[i]).toNat = 10 := by omega
          simp only [sp, h10, if_false] at g
          simp only [sp, hb, if_false, h37, if_true]
          exact g
        · refine Evt.neg (by omega) ?_
          simp only [sp, hb, if_false, h37]
          exact Evt.pure _
    -- a percent sign is not a newline: the inner loop at it goes on by itself
    have h37 : (l[i]).toNat = 37 → Evt (fun k => lex_space.l1 k (B l) (i : Int)) ((i + sp true (l.drop i) : Nat) : Int) := by
      intro c
      apply Evt.succ
      simp only [lex_space.l1]
      refine Evt.pos (by rw [size_B]; omega) (Evt.pos (by omega) ?_)
      rw [hbt, hw]
      refine Evt.neg (by omega) ?_
      have h10 : ¬ (l[i]).toNat = 10 := by omega
      rw [drop_cons hlt]
      simp only [sp, h10, if_false]
      have e : i + (sp true (l.drop (i + 1)) + 1) = i + 1 + sp true (l.drop (i + 1)) := by omega
      rw [e]; exact ih1
    exact ⟨h0 h37, h1 (h0 h37)⟩
theorem space_e (l : List UInt8) (hl : l.length < 4611686018427387904) : Evt (fun k => lex_space.f k (B l)) ((sp false l : Nat) : Int) := by
  have := (space_loop l hl l.length 0 (by omega)).1
  simpa [lex_space.f] using this
end Go.Proofs.YtakcnogmljbaiaaDoor.Q
