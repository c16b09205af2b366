/-
  Symbols and the token that a text begins with; the reference's classes of bytes, words and numbers.
-/
import Derived.Test.YtakcnogmljbaiaaDoorQd
import Derived.Test.YtakcnogmljbaiaaDoorPLexx8
import Derived.Test.YtakcnogmljbaiaaDoorPLexx5
set_option linter.unusedVariables false
set_option linter.unusedSimpArgs false
namespace Go.Proofs.YtakcnogmljbaiaaDoor.Q
open Go.RowKit Go.Proofs.YtakcnogmljbaiaaDoorW.PrintWords Go.Proofs.YtakcnogmljbaiaaDoor.PLex

def symL : List (List UInt8) := [[91, 93], [61, 61], [92, 61], [61, 60], [62, 61], [123], [125], [40], [41], [91], [93], [124], [36], [61], [60], [62], [43], [45], [42], [95]]
theorem symbols_f : lex_symbols.f = some (symL.map B) := rfl
/-- The symbol that a text begins with. -/
def symS (l : List UInt8) : Option (Int × List UInt8 × Nat) := (symL.find? (fun x => x.isPrefixOf l)).map fun x => (5, x, x.length)
theorem prefix_f (l x : List UInt8) : strings_HasPrefix.f (B l) (B x) = some (x.isPrefixOf l) := by
  unfold strings_HasPrefix.f stringslite_HasPrefix.f
  by_cases h : x.length ≤ l.length
  · rw [if_pos (by rw [size_B, size_B]; omega), if_pos (by omega), if_pos (by rw [size_B, size_B]; omega)]
    simp only [Option.bind_some, Option.some.injEq]
    rw [size_B, Int.toNat_natCast, extract_B, toList_B, toList_B, List.drop_zero, Nat.sub_zero]
    rw [Bool.eq_iff_iff, beq_iff_eq, List.isPrefixOf_iff_prefix]
    constructor
    · intro e; rw [← e]; exact List.take_prefix _ _
    · intro e; exact (List.prefix_iff_eq_take.1 e).symm
  · rw [if_neg (by rw [size_B, size_B]; omega)]
    simp only [Option.bind_some, Option.some.injEq]
    rw [eq_comm, Bool.eq_false_iff, Ne, List.isPrefixOf_iff_prefix]
    exact fun e => h e.length_le
theorem sym_loop (l : List UInt8) (xs : List (List UInt8)) (hx : xs.length < 4611686018427387904) : ∀ (d i : Nat), i + d = xs.length →
    Evt (fun k => lex_token.l0 k (B l) (xs.map B) (xs.length : Int) (i : Int)) (tk (((xs.drop i).find? (fun x => x.isPrefixOf l)).map fun x => (5, x, x.length))) := by
  intro d
  induction d with
  | zero =>
    intro i hi
    apply Evt.succ
    simp only [lex_token.l0]
    rw [List.drop_eq_nil_of_le (by omega)]
    exact Evt.neg (by omega) (Evt.pure _)
  | succ d ih =>
    intro i hi
    have hlt : i < xs.length := by omega
    apply Evt.succ
    simp only [lex_token.l0]
    have hrd : rdOf ByteArray.empty (xs.map B) (i : Int) = B xs[i] := by simp [rdOf, List.getD_eq_getElem?_getD, hlt]
    refine Evt.pos (by omega) (Evt.pos (by omega) (Evt.pos (by rw [List.length_map]; omega) ?_))
    rw [hrd, w64s i (by omega)]
    refine Evt.bind (Evt.const (prefix_f l xs[i])) ?_
    rw [List.drop_eq_getElem_cons hlt]
    cases hp : xs[i].isPrefixOf l with
    | true =>
      have hf : List.find? (fun x : List UInt8 => x.isPrefixOf l) (xs[i] :: List.drop (i + 1) xs) = some xs[i] := List.find?_cons_of_pos hp
      rw [hf]
      refine Evt.pos rfl ?_
      rw [size_B]
      exact Evt.pure _
    | false =>
      have hf : List.find? (fun x : List UInt8 => x.isPrefixOf l) (xs[i] :: List.drop (i + 1) xs) = List.find? (fun x : List UInt8 => x.isPrefixOf l) (List.drop (i + 1) xs) := List.find?_cons_of_neg (by simp [hp])
      rw [hf]
      exact Evt.neg (by simp) (ih (i + 1) (by omega))
/-- The token that a text (not empty) begins with: kind, bytes, length. -/
def tokS : List UInt8 → Option (Int × List UInt8 × Nat)
  | [] => none
  | c :: r => if isDig c = true ∨ c.toNat = 126 then intS (c.toNat == 126) (if c.toNat = 126 then r else c :: r)
    else if isLow c = true ∨ isUp c = true then wordS (c :: r)
    else if c.toNat = 39 then quotedS r
    else symS (c :: r)
theorem tokS_cons (c : UInt8) (r : List UInt8) : tokS (c :: r) = if isDig c = true ∨ c.toNat = 126 then intS (c.toNat == 126) (if c.toNat = 126 then r else c :: r)
    else if isLow c = true ∨ isUp c = true then wordS (c :: r)
    else if c.toNat = 39 then quotedS r
    else symS (c :: r) := rfl
theorem tk_eta (o : Option (Int × List UInt8 × Nat)) : ((tk o).1, (tk o).2.1, (tk o).2.2.1, (tk o).2.2.2) = tk o := rfl
theorem class_of (c : UInt8) : (kindS c = 2 ↔ isDig c = true) ∧ (kindS c = 3 ↔ isLow c = true) ∧ (kindS c = 4 ↔ isUp c = true) := by
  have := all_bytes (p := fun n => decide ((kindS (UInt8.ofNat n) = 2 ↔ isDig (UInt8.ofNat n) = true) ∧ (kindS (UInt8.ofNat n) = 3 ↔ isLow (UInt8.ofNat n) = true) ∧ (kindS (UInt8.ofNat n) = 4 ↔ isUp (UInt8.ofNat n) = true))) (by decide +kernel) c
  have := of_decide_eq_true this
  rwa [ofNat_toNat] at this
theorem token_e (c : UInt8) (r : List UInt8) (hl : (c :: r).length < 4611686018427387904) : Evt (fun k => lex_token.f k (B (c :: r))) (tk (tokS (c :: r))) := by
  unfold lex_token.f
  refine Evt.pos (by rw [size_B]; simp only [List.length_cons]; omega) ?_
  rw [bt_cons]
  refine Evt.bind (kind_e c) ?_
  obtain ⟨c2, c3, c4⟩ := class_of c
  have yes : (isDig c = true ∨ c.toNat = 126) → Evt (fun k => lex_token.j0 k (B (c :: r)) (kindS c) true) (tk (tokS (c :: r))) := by
    intro h
    apply Evt.succ
    simp only [lex_token.j0]
    refine Evt.pos trivial (Evt.bind (integer_e c r hl) ?_)
    rw [tk_eta]
    simp only [tokS, h, if_true]
    exact Evt.pure _
  by_cases hd : kindS c = 2
  · exact Evt.pos hd (yes (.inl (c2.1 hd)))
  · refine Evt.neg hd ?_
    by_cases h126 : c.toNat = 126
    · rw [beq_iff_eq.2 (show (c.toNat : Int) = 126 by omega)]
      exact yes (.inr h126)
    · rw [beq_eq_false_iff_ne.2 (show ¬ (c.toNat : Int) = 126 by omega)]
      have hno : ¬ (isDig c = true ∨ c.toNat = 126) := by
        rintro (h | h)
        · exact hd (c2.2 h)
        · exact h126 h
      apply Evt.succ
      simp only [lex_token.j0]
      refine Evt.neg (by simp) ?_
      have word : (isLow c = true ∨ isUp c = true) → Evt (fun k => lex_token.j1 k (B (c :: r)) true) (tk (tokS (c :: r))) := by
        intro h
        apply Evt.succ
        simp only [lex_token.j1]
        refine Evt.pos trivial (Evt.bind (word_e c r hl) ?_)
        rw [tk_eta]
        simp only [tokS, hno, h, if_true, if_false]
        exact Evt.pure _
      by_cases h3 : kindS c = 3
      · exact Evt.pos h3 (word (.inl (c3.1 h3)))
      · refine Evt.neg h3 ?_
        by_cases h4 : kindS c = 4
        · rw [beq_iff_eq.2 h4]
          exact word (.inr (c4.1 h4))
        · rw [beq_eq_false_iff_ne.2 h4]
          have hnw : ¬ (isLow c = true ∨ isUp c = true) := by
            rintro (h | h)
            · exact h3 (c3.2 h)
            · exact h4 (c4.2 h)
          apply Evt.succ
          simp only [lex_token.j1]
          refine Evt.neg (by simp) (Evt.pos (by rw [size_B]; simp only [List.length_cons]; omega) ?_)
          rw [bt_cons]
          by_cases h39 : c.toNat = 39
          · refine Evt.pos (by omega) (Evt.bind (quoted_e r c hl) ?_)
            rw [tk_eta]
            have ht : tokS (c :: r) = quotedS r := by
              rw [tokS_cons, if_neg hno, if_neg hnw, if_pos h39]
            rw [ht]
            exact Evt.pure _
          · refine Evt.neg (by omega) (Evt.bind (Evt.const symbols_f) ?_)
            simp only [tokS, hno, hnw, h39, if_false]
            have := sym_loop (c :: r) symL (by simp [symL]) symL.length 0 (by omega)
            rw [List.length_map]
            simpa [symS] using this
end Go.Proofs.YtakcnogmljbaiaaDoor.Q
