/-
  Integers, symbols, the token that a text begins with: the program's functions come to their plain meaning.
-/
import Derived.Test.YtakcnogmljbaiaaDoorQc
set_option linter.unusedVariables false
set_option linter.unusedSimpArgs false
namespace Go.Proofs.YtakcnogmljbaiaaDoor.Q
open Go.RowKit Go.Proofs.YtakcnogmljbaiaaDoorW.PrintWords Go.Proofs.YtakcnogmljbaiaaDoor.PLex

/-- The number that digits are, behind others. -/
def decV (acc : Nat) (l : List UInt8) : Nat := l.foldl (fun a c => a * 10 + (c.toNat - 48)) acc
theorem decV_nil (acc : Nat) : decV acc [] = acc := rfl
theorem decV_cons (acc : Nat) (c : UInt8) (r : List UInt8) : decV acc (c :: r) = decV (acc * 10 + (c.toNat - 48)) r := by
  unfold decV; rw [List.foldl_cons]
theorem dig_of (c : UInt8) (h : isDig c = true) : 48 ≤ c.toNat ∧ c.toNat ≤ 57 := by
  simpa only [isDig, Bool.and_eq_true, decide_eq_true_eq] using h
theorem digitVal_of (c : UInt8) (h : isDig c = true) : Lib.digitVal c = some (c.toNat - 48) := by
  unfold Lib.digitVal
  exact if_pos (dig_of c h)
theorem all_cons_of {p : UInt8 → Bool} {c : UInt8} {r : List UInt8} (h : (c :: r).all p = true) : p c = true ∧ r.all p = true := by
  rw [List.all_cons, Bool.and_eq_true] at h
  exact h
theorem decFrom_cons (acc : Nat) (c : UInt8) (r : List UInt8) (h : isDig c = true) : Lib.decFrom acc (c :: r) = Lib.decFrom (acc * 10 + (c.toNat - 48)) r := by
  conv => lhs; unfold Lib.decFrom
  rw [digitVal_of c h]
theorem decFrom_all (l : List UInt8) (h : l.all isDig = true) : ∀ acc, Lib.decFrom acc l = some (decV acc l) := by
  induction l with
  | nil => intro acc; rfl
  | cons c r ih =>
    intro acc
    rw [decV_cons, decFrom_cons _ _ _ (all_cons_of h).1]
    exact ih (all_cons_of h).2 _
theorem decV_lt (l : List UInt8) (h : l.all isDig = true) : ∀ acc m, acc < 10 ^ m → decV acc l < 10 ^ (m + l.length) := by
  induction l with
  | nil => intro acc m hm; exact hm
  | cons c r ih =>
    intro acc m hm
    have hc := dig_of c (all_cons_of h).1
    rw [decV_cons, List.length_cons]
    have := ih (all_cons_of h).2 (acc * 10 + (c.toNat - 48)) (m + 1) (by rw [Nat.pow_succ]; omega)
    rwa [show m + (r.length + 1) = m + 1 + r.length by omega]
theorem all_takeWhile (p : UInt8 → Bool) (l : List UInt8) : (l.takeWhile p).all p = true := by
  induction l with
  | nil => rfl
  | cons c r ih =>
    by_cases h : p c = true
    · rw [List.takeWhile_cons_of_pos h, List.all_cons, h, ih]; rfl
    · rw [List.takeWhile_cons_of_neg h]; rfl
theorem atoi_digits (c : UInt8) (r : List UInt8) (h : (c :: r).all isDig = true) : Lib.atoi (c :: r) = some ((decV 0 (c :: r) : Nat) : Int) := by
  have hc : 48 ≤ c.toNat ∧ c.toNat ≤ 57 := by
    rw [List.all_cons, Bool.and_eq_true] at h
    have := h.1
    simp only [isDig, Bool.and_eq_true, decide_eq_true_eq] at this
    exact this
  have h45 : (c == 45) = false := by
    rw [beq_eq_false_iff_ne]; intro e; subst e; exact absurd hc.1 (by decide)
  have h43 : (c == 43) = false := by
    rw [beq_eq_false_iff_ne]; intro e; subst e; exact absurd hc.1 (by decide)
  simp only [Lib.atoi, h45, h43, Bool.false_eq_true, if_false, Lib.decNat, List.isEmpty_cons]
  rw [decFrom_all _ h]
  rfl

/-- Digits that are no integer. -/
def badInt (neg : Bool) (t : List UInt8) : Prop := t = [] ∨ (t.head? = some 48 ∧ (t.length > 1 ∨ neg = true)) ∨ t.length > 13 ∨ decV 0 t > 1099511627776
instance (neg : Bool) (t : List UInt8) : Decidable (badInt neg t) := by unfold badInt; infer_instance
/-- The integer that digits are, a sign ahead of them or not. -/
def intS (neg : Bool) (d : List UInt8) : Option (Int × List UInt8 × Nat) :=
  let t := d.takeWhile isDig
  if badInt neg t then none
  else some (1, (if neg then [45] else []) ++ t, t.length + (if neg then 1 else 0))
theorem int_no (x0 x4 x5 : ByteArray) (x6 : Int) (x7 : ByteArray) : Evt (fun k => lex_integer.j1 k x0 x4 x5 x6 x7 true) (tk none) := by
  apply Evt.succ
  simp only [lex_integer.j1]
  exact Evt.pos trivial (Evt.pure _)
theorem itoa_f : strconv_Itoa.f 1099511627776 = some (B [49, 48, 57, 57, 53, 49, 49, 54, 50, 55, 55, 55, 54]) := by decide +kernel
theorem int_yes (s sg d : List UInt8) (c : UInt8) (r : List UInt8) (h : (c :: r).all isDig = true) (hn : (c :: r).length ≤ 13) (hg : sg.length ≤ 1) (hs : s.length < 4611686018427387904) (hd : d.length ≤ s.length) :
    Evt (fun k => lex_integer.j1 k (B s) (B sg) (B d) (((c :: r).length : Nat) : Int) (B (c :: r)) false)
      (if decV 0 (c :: r) > 1099511627776 then tk none else (1, B (sg ++ (c :: r)), 0, (((c :: r).length + s.length - d.length : Nat) : Int))) := by
  apply Evt.succ
  simp only [lex_integer.j1]
  refine Evt.neg (by simp) ?_
  have ha : strconv_Atoi.f (B (c :: r)) = some (((decV 0 (c :: r) : Nat) : Int), none) := by
    unfold strconv_Atoi.f
    rw [if_pos (by rw [size_B]; omega)]
    have : (B (c :: r)).data.toList = c :: r := rfl
    rw [this, atoi_digits c r h]
    rfl
  refine Evt.bind (Evt.const ha) ?_
  by_cases hv : decV 0 (c :: r) > 1099511627776
  · rw [if_pos hv]
    exact Evt.pos (by show (((decV 0 (c :: r) : Nat) : Int)) > _; omega) (Evt.pure _)
  · rw [if_neg hv]
    refine Evt.neg (by show ¬ (((decV 0 (c :: r) : Nat) : Int)) > _; omega) (Evt.pos (by rw [size_B, size_B]; omega) ?_)
    rw [append_B, size_B, size_B]
    have e1 : wrap64 ((((c :: r).length : Nat) : Int) + ((s.length : Nat) : Int)) = (((c :: r).length + s.length : Nat) : Int) := by rw [w64 (by omega) (by omega)]; omega
    have e2 : wrap64 ((((c :: r).length + s.length : Nat) : Int) - ((d.length : Nat) : Int)) = (((c :: r).length + s.length - d.length : Nat) : Int) := by rw [w64 (by omega) (by omega)]; omega
    rw [e1, e2]
    exact Evt.pure _
theorem int_j0 (s d : List UInt8) (neg : Bool) (hs : s.length < 4611686018427387904) (hd : s.length = d.length + (if neg then 1 else 0)) :
    Evt (fun k => lex_integer.j0 k (B s) (B (if neg then [45] else [])) (B d)) (tk (intS neg d)) := by
  apply Evt.succ
  simp only [lex_integer.j0]
  have hle := takeWhile_le (p := isDig) d
  have hdl : d.length < 4611686018427387904 := by split at hd <;> omega
  refine Evt.bind (run_e _ isDig dig_in d hdl) (Evt.pos (by omega) (Evt.pos (by rw [size_B]; omega) ?_))
  have ht : (B d).extract 0 (((d.takeWhile isDig).length : Nat) : Int).toNat = B (d.takeWhile isDig) := by
    rw [extract_B, Int.toNat_natCast, List.drop_zero, Nat.sub_zero, takeWhile_take]
  rw [ht]
  have hall := all_takeWhile isDig d
  have hI : intS neg d = (if badInt neg (d.takeWhile isDig) then none
      else some (1, (if neg then [45] else []) ++ (d.takeWhile isDig), (d.takeWhile isDig).length + (if neg then 1 else 0))) := rfl
  rw [hI]
  clear hI
  generalize hT : d.takeWhile isDig = t at *
  cases t with
  | nil =>
    refine Evt.pos (by simp) ?_
    rw [if_pos (show badInt neg [] from .inl rfl)]
    exact int_no _ _ _ _ _
  | cons c r =>
    refine Evt.neg (by simp only [List.length_cons]; omega) (Evt.pos (by rw [size_B]; simp only [List.length_cons]; omega) ?_)
    rw [bt_cons]
    have h48 : (c.toNat : Int) = 48 ↔ (c :: r).head? = some 48 := by
      simp only [List.head?_cons, Option.some.injEq]
      constructor
      · intro h; exact UInt8.toNat_inj.1 (by have : c.toNat = 48 := by omega
                                             rw [this]; rfl)
      · intro h; subst h; rfl
    have long : ∀ b : Bool, b = decide ((c :: r).length > 13) → ((c :: r).head? = some 48 → ¬ ((c :: r).length > 1 ∨ neg = true)) →
        Evt (fun k => lex_integer.j1 k (B s) (B (if neg then [45] else [])) (B d) (((c :: r).length : Nat) : Int) (B (c :: r)) b)
          (tk (if badInt neg (c :: r) then none
            else some (1, (if neg then [45] else []) ++ (c :: r), (c :: r).length + (if neg then 1 else 0)))) := by
      intro b hb h0
      by_cases h13 : (c :: r).length > 13
      · rw [decide_eq_true h13] at hb
        subst hb
        rw [if_pos (show badInt neg (c :: r) from .inr (.inr (.inl h13)))]
        exact int_no _ _ _ _ _
      · rw [decide_eq_false h13] at hb
        subst hb
        have := int_yes s (if neg then [45] else []) d c r hall (by omega) (by cases neg <;> simp) hs (by omega)
        by_cases hv : decV 0 (c :: r) > 1099511627776
        · rw [if_pos hv] at this
          rw [if_pos (show badInt neg (c :: r) from .inr (.inr (.inr hv)))]
          exact this
        · rw [if_neg hv] at this
          rw [if_neg (show ¬ badInt neg (c :: r) by
            rintro (h | h | h | h)
            · cases h
            · exact h0 h.1 h.2
            · exact h13 h
            · exact hv h)]
          have e : (c :: r).length + s.length - d.length = (c :: r).length + (if neg then 1 else 0) := by omega
          rw [e] at this
          exact this
    by_cases hz : (c.toNat : Int) = 48
    · refine Evt.pos hz ?_
      by_cases h1 : (c :: r).length > 1
      · refine Evt.pos (by omega) ?_
        rw [if_pos (show badInt neg (c :: r) from .inr (.inl ⟨h48.1 hz, .inl h1⟩))]
        exact int_no _ _ _ _ _
      · refine Evt.neg (by omega) ?_
        cases neg with
        | true =>
          refine Evt.neg (by rw [toList_B]; simp) ?_
          rw [if_pos (show badInt true (c :: r) from .inr (.inl ⟨h48.1 hz, .inr rfl⟩))]
          exact int_no _ _ _ _ _
        | false =>
          refine Evt.pos (by rw [toList_B]; rfl) (Evt.bind (Evt.const itoa_f) ?_)
          refine long _ (by rw [size_B]; apply decide_eq_decide.2; simp only [List.length_cons, List.length_nil]; omega) ?_
          intro _ h
          rcases h with h | h
          · exact h1 h
          · cases h
    · refine Evt.neg hz (Evt.bind (Evt.const itoa_f) ?_)
      exact long _ (by rw [size_B]; apply decide_eq_decide.2; simp only [List.length_cons, List.length_nil]; omega) (fun h => absurd (h48.2 h) hz)
theorem integer_e (c : UInt8) (r : List UInt8) (hl : (c :: r).length < 4611686018427387904) : Evt (fun k => lex_integer.f k (B (c :: r))) (tk (intS (c.toNat == 126) (if c.toNat = 126 then r else c :: r))) := by
  unfold lex_integer.f
  refine Evt.pos (by rw [size_B]; simp only [List.length_cons]; omega) ?_
  rw [bt_cons]
  by_cases h : c.toNat = 126
  · refine Evt.pos (by omega) (Evt.pos (by rw [size_B]; simp only [List.length_cons]; omega) ?_)
    have h1 : (B (c :: r)).extract 1 (B (c :: r)).size = B r := by
      rw [extract_B, size_B]
      simp
    rw [h1, if_pos h, beq_iff_eq.2 h]
    exact int_j0 (c :: r) r true hl (by simp)
  · refine Evt.neg (by omega) ?_
    rw [if_neg h, beq_eq_false_iff_ne.2 h]
    exact int_j0 (c :: r) (c :: r) false hl (by simp)
end Go.Proofs.YtakcnogmljbaiaaDoor.Q
