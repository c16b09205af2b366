/-
  A source's tokens, as the program and as the reference find them: the same; and that the chapter's examples hold.
-/
import Derived.Test.YtakcnogmljbaiaaDoorQh
import Derived.Test.YtakcnogmljbaiaaDoorPLexx9
set_option linter.unusedVariables false
set_option linter.unusedSimpArgs false
namespace Go.Proofs.YtakcnogmljbaiaaDoor.Q
open Go.RowKit Go.Proofs.YtakcnogmljbaiaaDoorW.PrintWords Go.Proofs.YtakcnogmljbaiaaDoor.PLex

theorem intS_len {neg : Bool} {d : List UInt8} {k : Int} {t : List UInt8} {n : Nat} (h : intS neg d = some (k, t, n)) : 1 ≤ n ∧ n ≤ d.length + (if neg then 1 else 0) := by
  have hI : intS neg d = (if badInt neg (d.takeWhile isDig) then none
      else some (1, (if neg then [45] else []) ++ (d.takeWhile isDig), (d.takeWhile isDig).length + (if neg then 1 else 0))) := rfl
  rw [hI] at h
  have hle := takeWhile_le (p := isDig) d
  split at h
  · cases h
  · rename_i hb
    have hne : d.takeWhile isDig ≠ [] := fun e => hb (.inl e)
    have hpos := List.length_pos_iff.2 hne
    injection h with h
    injection h with _ h
    injection h with _ h
    omega
theorem wordS_len {l : List UInt8} {k : Int} {t : List UInt8} {n : Nat} (hc : headIs isLet l = true) (h : wordS l = some (k, t, n)) : 1 ≤ n ∧ n ≤ l.length := by
  have hle := takeWhile_le (p := isLet) l
  have hpos : 1 ≤ (l.takeWhile isLet).length := by
    cases l with
    | nil => cases hc
    | cons c r => rw [List.takeWhile_cons_of_pos (show isLet c = true from hc)]; simp
  unfold wordS at h
  simp only at h
  split at h
  · cases h
  · injection h with h
    injection h with _ h
    injection h with _ h
    omega
theorem quotedS_len {r : List UInt8} {k : Int} {t : List UInt8} {n : Nat} (h : quotedS r = some (k, t, n)) : 1 ≤ n ∧ n ≤ r.length + 1 := by
  unfold quotedS at h
  simp only at h
  split at h
  · rename_i hb
    injection h with h
    injection h with _ h
    injection h with _ h
    omega
  · cases h
theorem symS_len {l : List UInt8} {k : Int} {t : List UInt8} {n : Nat} (h : symS l = some (k, t, n)) : 1 ≤ n ∧ n ≤ l.length := by
  rw [symS_eq] at h
  split at h
  · rename_i hb
    injection h with h
    injection h with _ h
    injection h with _ h
    omega
  · split at h
    · rename_i hb
      injection h with h
      injection h with _ h
      injection h with _ h
      omega
    · cases h
theorem tok_len {l : List UInt8} {k : Int} {t : List UInt8} {n : Nat} (h : tokS l = some (k, t, n)) : 1 ≤ n ∧ n ≤ l.length := by
  cases l with
  | nil => cases h
  | cons c r =>
    rw [tokS_cons] at h
    split at h
    · have := intS_len h
      by_cases h126 : c.toNat = 126
      · rw [if_pos h126, beq_iff_eq.2 h126] at this
        simp at this ⊢
        omega
      · rw [if_neg h126, beq_eq_false_iff_ne.2 h126] at this
        simp at this ⊢
        omega
    · split at h
      · rename_i hw
        exact wordS_len (show isLet c = true from hw.elim (let_of_low c) (let_of_up c)) h
      · split at h
        · have := quotedS_len h
          simp only [List.length_cons]
          omega
        · exact symS_len h

/-- The tokens from a place on, behind others; what is handed back. -/
def scanL (l : List UInt8) (i : Nat) (out : List S32) : List S32 × Int × Int :=
  if h : i < l.length then
    match ht : tokS (l.drop i) with
    | none => ([], (i : Int), 2)
    | some (k, t, n) => if out.length = 1200 then ([], 0, 3) else scanL l (i + n + sp false (l.drop (i + n))) (out ++ [⟨k, B t, (i : Int)⟩])
  else (out, 0, 0)
termination_by l.length - i
decreasing_by
  have := tok_len ht
  omega
theorem scanL_end {l : List UInt8} {i : Nat} {out : List S32} (h : ¬ i < l.length) : scanL l i out = (out, 0, 0) := by
  rw [scanL.eq_def, dif_neg h]
theorem scanL_none {l : List UInt8} {i : Nat} {out : List S32} (h : i < l.length) (ht : tokS (l.drop i) = none) : scanL l i out = ([], (i : Int), 2) := by
  rw [scanL.eq_def, dif_pos h]
  split
  · rfl
  · rename_i hs; rw [ht] at hs; cases hs
theorem scanL_some {l : List UInt8} {i : Nat} {out : List S32} {k : Int} {t : List UInt8} {n : Nat} (h : i < l.length) (ht : tokS (l.drop i) = some (k, t, n)) :
    scanL l i out = if out.length = 1200 then ([], 0, 3) else scanL l (i + n + sp false (l.drop (i + n))) (out ++ [⟨k, B t, (i : Int)⟩]) := by
  rw [scanL.eq_def, dif_pos h]
  split
  · rename_i hs; rw [ht] at hs; cases hs
  · rename_i k' t' n' hs
    rw [ht] at hs
    injection hs with hs
    injection hs with h1 h2
    injection h2 with h2 h3
    subst h1; subst h2; subst h3
    rfl
/-- A source's tokens. -/
def scanF (l : List UInt8) : List S32 × Int × Int := if l.length > 4000 then ([], 0, 3) else scanL l (sp false l) []

theorem scan_loop (l : List UInt8) (hl : l.length ≤ 4000) : ∀ (d i : Nat) (out : List S32), l.length - i ≤ d → i ≤ l.length → out.length ≤ 1200 →
    Evt (fun k => lex_Scan.l0 k (B l) out (i : Int)) (scanL l i out) := by
  intro d
  induction d with
  | zero =>
    intro i out hd hi ho
    rw [scanL_end (by omega)]
    apply Evt.succ
    simp only [lex_Scan.l0]
    exact Evt.neg (by rw [size_B]; omega) (Evt.pure _)
  | succ d ih =>
    intro i out hd hi ho
    by_cases h : i < l.length
    · apply Evt.succ
      simp only [lex_Scan.l0]
      refine Evt.pos (by rw [size_B]; omega) (Evt.pos (by omega) (Evt.pos (by rw [size_B]; omega) ?_))
      have hx : (B l).extract ((i : Nat) : Int).toNat (B l).size = B (l[i] :: l.drop (i + 1)) := by
        rw [extract_B, Int.toNat_natCast, size_B, ← drop_cons h, List.take_of_length_le (by rw [List.length_drop]; omega)]
      rw [hx]
      refine Evt.bind (token_e _ _ (by rw [← drop_cons h, List.length_drop]; omega)) ?_
      rw [← drop_cons h]
      cases ht : tokS (l.drop i) with
      | none =>
        rw [scanL_none h ht]
        exact Evt.pos rfl (Evt.pure _)
      | some x =>
        obtain ⟨k, t, n⟩ := x
        have hn := tok_len ht
        rw [List.length_drop] at hn
        rw [scanL_some h ht]
        simp only [tk]
        refine Evt.neg (by omega) ?_
        by_cases h12 : out.length = 1200
        · rw [if_pos h12]
          exact Evt.pos (by omega) (Evt.pure _)
        · rw [if_neg h12]
          have e1 : wrap64 ((i : Int) + (n : Int)) = ((i + n : Nat) : Int) := by rw [w64 (by omega) (by omega)]; omega
          simp only [e1]
          refine Evt.neg (by omega) (Evt.pos (by omega) (Evt.pos (by omega) (Evt.pos (by rw [size_B]; omega) ?_)))
          have hx2 : (B l).extract ((i + n : Nat) : Int).toNat (B l).size = B (l.drop (i + n)) := by
            rw [extract_B, Int.toNat_natCast, size_B, List.take_of_length_le (by rw [List.length_drop]; omega)]
          rw [hx2]
          have hs := sp_le false (l.drop (i + n))
          rw [List.length_drop] at hs
          refine Evt.bind (space_e _ (by rw [List.length_drop]; omega)) ?_
          have e2 : wrap64 (((i + n : Nat) : Int) + ((sp false (l.drop (i + n)) : Nat) : Int)) = ((i + n + sp false (l.drop (i + n)) : Nat) : Int) := by rw [w64 (by omega) (by omega)]; omega
          rw [e2]
          exact ih _ _ (by omega) (by omega) (by simp; omega)
    · rw [scanL_end h]
      apply Evt.succ
      simp only [lex_Scan.l0]
      exact Evt.neg (by rw [size_B]; omega) (Evt.pure _)
theorem scan_e (l : List UInt8) (hl : l.length < 4611686018427387904) : Evt (fun k => lex_Scan.f k (B l)) (scanF l) := by
  unfold lex_Scan.f scanF
  by_cases h : l.length > 4000
  · rw [if_pos h]
    exact Evt.pos (by rw [size_B]; omega) (Evt.pure _)
  · rw [if_neg h]
    refine Evt.neg (by rw [size_B]; omega) (Evt.bind (space_e l hl) ?_)
    exact scan_loop l (by omega) l.length _ [] (by omega) (sp_le false l) (by simp)
theorem rscan_loop (l : List UInt8) (hl : l.length ≤ 4000) : ∀ (d i : Nat) (out : List S32), l.length - i ≤ d → i ≤ l.length → out.length ≤ 1200 →
    Evt (fun k => leatworkref03_Scan.l0 k (B l) out (i : Int)) (scanL l i out) := by
  intro d
  induction d with
  | zero =>
    intro i out hd hi ho
    rw [scanL_end (by omega)]
    apply Evt.succ
    simp only [leatworkref03_Scan.l0]
    exact Evt.neg (by rw [size_B]; omega) (Evt.pure _)
  | succ d ih =>
    intro i out hd hi ho
    by_cases h : i < l.length
    · apply Evt.succ
      simp only [leatworkref03_Scan.l0]
      refine Evt.pos (by rw [size_B]; omega) ?_
      obtain ⟨v, hv, hr⟩ := rtoken_e l (by omega) i h
      refine Evt.bind hv ?_
      cases ht : tokS (l.drop i) with
      | none =>
        rw [scanL_none h ht]
        rw [ht] at hr
        have hr' : v.2.2.2.2 = false := hr
        rw [hr']
        exact Evt.neg (by simp) (Evt.pure _)
      | some x =>
        obtain ⟨k, t, n⟩ := x
        have hn := tok_len ht
        rw [List.length_drop] at hn
        rw [scanL_some h ht]
        rw [ht] at hr
        have hr' : v = (k, B t, (i : Int), ((i + n : Nat) : Int), true) := hr
        subst hr'
        refine Evt.pos rfl ?_
        by_cases h12 : out.length = 1200
        · rw [if_pos h12]
          exact Evt.pos (by omega) (Evt.pure _)
        · rw [if_neg h12]
          refine Evt.neg (by omega) (Evt.pos (by omega) (Evt.bind (between_e l (by omega) (i + n) (by omega)) ?_))
          have hs := sp_le false (l.drop (i + n))
          rw [List.length_drop] at hs
          exact ih _ _ (by omega) (by omega) (by simp; omega)
    · rw [scanL_end h]
      apply Evt.succ
      simp only [leatworkref03_Scan.l0]
      exact Evt.neg (by rw [size_B]; omega) (Evt.pure _)
theorem rscan_e (l : List UInt8) (hl : l.length < 4611686018427387904) : Evt (fun k => leatworkref03_Scan.f k (B l)) (scanF l) := by
  unfold leatworkref03_Scan.f scanF
  by_cases h : l.length > 4000
  · rw [if_pos h]
    exact Evt.pos (by rw [size_B]; omega) (Evt.pure _)
  · rw [if_neg h]
    refine Evt.neg (by rw [size_B]; omega) (Evt.bind (between_e l hl 0 (by omega)) ?_)
    have := rscan_loop l (by omega) l.length (sp false l) [] (by omega) (sp_le false l) (by simp)
    simpa using this
theorem scanL_few (l : List UInt8) : ∀ (d i : Nat) (out : List S32), l.length - i ≤ d → out.length ≤ 1200 → (scanL l i out).1.length ≤ 1200 := by
  intro d
  induction d with
  | zero => intro i out hd ho; rw [scanL_end (by omega)]; exact ho
  | succ d ih =>
    intro i out hd ho
    by_cases h : i < l.length
    · cases ht : tokS (l.drop i) with
      | none => rw [scanL_none h ht]; simp
      | some x =>
        obtain ⟨k, t, n⟩ := x
        have hn := tok_len ht
        rw [scanL_some h ht]
        split
        · simp
        · exact ih _ _ (by omega) (by simp; omega)
    · rw [scanL_end h]; exact ho
theorem scanF_few (l : List UInt8) : (scanF l).1.length ≤ 1200 := by
  unfold scanF
  split
  · simp
  · exact scanL_few l l.length _ [] (by omega) (by simp)

/-! Equal lists of tokens. -/
theorem tokens_loop (xs ys : List S32) (b : Bool) (hlen : xs.length = ys.length) (hb : xs.length < 4611686018427387904) : ∀ (d i : Nat), i + d = xs.length →
    (∀ j, i ≤ j → j < xs.length → (xs.getD j z32).f0 = (ys.getD j z32).f0 ∧ (xs.getD j z32).f1 = (ys.getD j z32).f1 ∧ (b = true → (xs.getD j z32).f2 = (ys.getD j z32).f2)) →
    Evt (fun k => leatworklaw03_tokens.l0 k xs ys b (i : Int)) true := by
  intro d
  induction d with
  | zero =>
    intro i hi h
    apply Evt.succ
    simp only [leatworklaw03_tokens.l0]
    exact Evt.neg (by omega) (Evt.pure _)
  | succ d ih =>
    intro i hi h
    obtain ⟨h0, h1, h2⟩ := h i (Nat.le_refl _) (by omega)
    have nx := ih (i + 1) (by omega) (fun j hj hl => h j (by omega) hl)
    apply Evt.succ
    simp only [leatworklaw03_tokens.l0, rd_T32, Int.toNat_natCast]
    rw [w64s i (by omega)]
    refine Evt.pos (by omega) (Evt.pos (by omega) (Evt.pos (by omega) (Evt.pos h0 (Evt.pos (by rw [h1]) ?_))))
    cases b with
    | true => exact Evt.pos rfl (Evt.pos (h2 rfl) nx)
    | false => exact Evt.neg (by simp) nx
theorem tokens_e (xs ys : List S32) (b : Bool) (hlen : xs.length = ys.length) (hb : xs.length < 4611686018427387904)
    (h : ∀ j, j < xs.length → (xs.getD j z32).f0 = (ys.getD j z32).f0 ∧ (xs.getD j z32).f1 = (ys.getD j z32).f1 ∧ (b = true → (xs.getD j z32).f2 = (ys.getD j z32).f2)) :
    Evt (fun k => leatworklaw03_tokens.f k xs ys b) true := by
  unfold leatworklaw03_tokens.f
  exact Evt.pos (by omega) (tokens_loop xs ys b hlen hb xs.length 0 (by omega) (fun j _ hl => h j hl))
theorem tokens_refl (xs : List S32) (b : Bool) (hb : xs.length < 4611686018427387904) : Evt (fun k => leatworklaw03_tokens.f k xs xs b) true :=
  tokens_e xs xs b rfl hb (fun _ _ => ⟨rfl, rfl, fun _ => rfl⟩)
set_option maxRecDepth 100000 in
theorem alive_f : leatworklaw03_alive.f 80 = some true := by decide +kernel
theorem alive_e : Evt (fun k => leatworklaw03_alive.f k) true := Evt.of_mono (fun k => leatworklaw03_alive.mono k) alive_f
end Go.Proofs.YtakcnogmljbaiaaDoor.Q
