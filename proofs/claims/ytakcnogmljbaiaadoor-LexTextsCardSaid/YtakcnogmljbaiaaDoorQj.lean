/-
  How a source is divided, as a chain of tokens; what a token's bytes are.
-/
import Derived.Test.YtakcnogmljbaiaaDoorQi
set_option linter.unusedVariables false
set_option linter.unusedSimpArgs false
namespace Go.Proofs.YtakcnogmljbaiaaDoor.Q
open Go.RowKit Go.Proofs.YtakcnogmljbaiaaDoorW.PrintWords Go.Proofs.YtakcnogmljbaiaaDoor.PLex

/-- A chain of tokens from a place on (place, kind, text, length), and where it breaks. -/
inductive Ch : Nat → List UInt8 → List (Nat × Int × List UInt8 × Nat) → Option Nat → Prop
  | nil (i : Nat) : Ch i [] [] none
  | bad (i : Nat) (l : List UInt8) : l ≠ [] → tokS l = none → Ch i l [] (some i)
  | tok (i : Nat) (l : List UInt8) (k : Int) (t : List UInt8) (n : Nat) (ts : List (Nat × Int × List UInt8 × Nat)) (e : Option Nat) : tokS l = some (k, t, n) →
      Ch (i + n + sp false (l.drop n)) (l.drop (n + sp false (l.drop n))) ts e → Ch i l ((i, k, t, n) :: ts) e
theorem Ch.ex : ∀ (m : Nat) (l : List UInt8) (i : Nat), l.length ≤ m → ∃ ts e, Ch i l ts e := by
  intro m
  induction m with
  | zero =>
    intro l i h
    obtain rfl : l = [] := List.length_eq_zero_iff.1 (by omega)
    exact ⟨[], none, .nil i⟩
  | succ m ih =>
    intro l i h
    by_cases hl : l = []
    · subst hl; exact ⟨[], none, .nil i⟩
    · cases ht : tokS l with
      | none => exact ⟨[], some i, .bad i l hl ht⟩
      | some x =>
        obtain ⟨k, t, n⟩ := x
        have hn := tok_len ht
        obtain ⟨ts, e, hc⟩ := ih (l.drop (n + sp false (l.drop n))) (i + n + sp false (l.drop n)) (by rw [List.length_drop]; omega)
        exact ⟨_, e, .tok i l k t n ts e ht hc⟩
theorem Ch.few {i : Nat} {l : List UInt8} {ts : List (Nat × Int × List UInt8 × Nat)} {e : Option Nat} (h : Ch i l ts e) : ts.length ≤ l.length := by
  induction h with
  | nil => simp
  | bad => simp
  | tok i l k t n ts e ht hc ih =>
    have hn := tok_len ht
    rw [List.length_drop] at ih
    simp only [List.length_cons]
    omega
theorem Ch.inv_nil {i : Nat} {l : List UInt8} (h : Ch i l [] none) : l = [] := by
  cases h; rfl
theorem Ch.inv_bad {i j : Nat} {l : List UInt8} (h : Ch i l [] (some j)) : l ≠ [] ∧ tokS l = none ∧ j = i := by
  cases h with
  | bad _ _ h1 h2 => exact ⟨h1, h2, rfl⟩
theorem Ch.inv_tok {i q : Nat} {l : List UInt8} {k : Int} {t : List UInt8} {n : Nat} {ts : List (Nat × Int × List UInt8 × Nat)} {e : Option Nat} (h : Ch i l ((q, k, t, n) :: ts) e) :
    q = i ∧ tokS l = some (k, t, n) ∧ Ch (i + n + sp false (l.drop n)) (l.drop (n + sp false (l.drop n))) ts e := by
  cases h with
  | tok _ _ _ _ _ _ _ ht hc => exact ⟨rfl, ht, hc⟩
/-- A token as it stands in memory. -/
def tS (x : Nat × Int × List UInt8 × Nat) : S32 := ⟨x.2.1, B x.2.2.1, (x.1 : Int)⟩
theorem Ch.scan {i : Nat} {l : List UInt8} {ts : List (Nat × Int × List UInt8 × Nat)} {e : Option Nat} (h : Ch i l ts e) : ∀ (l0 : List UInt8) (out : List S32), l = l0.drop i → i ≤ l0.length → out.length + ts.length ≤ 1200 →
    scanL l0 i out = match e with | none => (out ++ ts.map tS, 0, 0) | some j => ([], (j : Int), 2) := by
  induction h with
  | nil i =>
    intro l0 out hl hi ho
    have : l0.length ≤ i := by
      have := congrArg List.length hl
      simp at this
      omega
    rw [scanL_end (by omega)]
    simp
  | bad i l hne ht =>
    intro l0 out hl hi ho
    have hlt : i < l0.length := by
      have := List.length_pos_iff.2 hne
      rw [hl, List.length_drop] at this
      omega
    rw [hl] at ht
    rw [scanL_none hlt ht]
  | tok i l k t n ts e ht hc ih =>
    intro l0 out hl hi ho
    have hn := tok_len ht
    have hll : l.length = l0.length - i := by rw [hl, List.length_drop]
    have hs := sp_le false (l.drop n)
    rw [List.length_drop] at hs
    rw [hl] at ht
    rw [scanL_some (by omega) ht]
    simp only [List.length_cons] at ho
    rw [if_neg (by omega)]
    have e1 : l0.drop (i + n) = l.drop n := by rw [hl, List.drop_drop]
    rw [e1, ih l0 _ (by rw [hl, List.drop_drop, Nat.add_assoc]) (by omega) (by simp; omega)]
    cases e with
    | none => simp [tS]
    | some j => rfl
/-- A source of at most 1200 bytes: its chain, and what Scan hands back. -/
theorem scanF_ch (l : List UInt8) (hl : l.length ≤ 1200) : ∃ ts e, Ch (sp false l) (l.drop (sp false l)) ts e ∧ ts.length ≤ l.length ∧ scanF l = match e with | none => (ts.map tS, 0, 0) | some j => ([], (j : Int), 2) := by
  obtain ⟨ts, e, hc⟩ := Ch.ex l.length (l.drop (sp false l)) (sp false l) (by simp)
  have hf := hc.few
  rw [List.length_drop] at hf
  refine ⟨ts, e, hc, by omega, ?_⟩
  unfold scanF
  rw [if_neg (by omega), hc.scan l [] rfl (sp_le false l) (by simp; omega)]
  cases e <;> simp

/-! A token's bytes. -/
theorem take_app (l : List UInt8) (T : List UInt8) (h : l.take T.length = T) (c : UInt8) : (c :: l).take (T.length + 1) = c :: T := by
  rw [List.take_succ_cons, h]
theorem quoted_take (r : List UInt8) (h : (r.takeWhile (fun c => c != 39)).length < r.length) : r.take ((r.takeWhile (fun c => c != 39)).length + 1) = r.takeWhile (fun c => c != 39) ++ [39] := by
  induction r with
  | nil => simp at h
  | cons c r ih =>
    by_cases h39 : c = 39
    · subst h39
      rw [List.takeWhile_cons_of_neg (by simp)]
      rfl
    · have h2 : (c != 39) = true := by simpa using h39
      rw [List.takeWhile_cons_of_pos (p := fun c => c != 39) h2] at h ⊢
      simp only [List.length_cons] at h ⊢
      rw [List.take_succ_cons, ih (by omega)]
      rfl
theorem intS_some {neg : Bool} {d : List UInt8} {k : Int} {t : List UInt8} {n : Nat} (h : intS neg d = some (k, t, n)) :
    ¬ badInt neg (d.takeWhile isDig) ∧ k = 1 ∧ t = (if neg then [45] else []) ++ d.takeWhile isDig ∧ n = (d.takeWhile isDig).length + (if neg then 1 else 0) := by
  have hI : intS neg d = (if badInt neg (d.takeWhile isDig) then none
      else some (1, (if neg then [45] else []) ++ (d.takeWhile isDig), (d.takeWhile isDig).length + (if neg then 1 else 0))) := rfl
  rw [hI] at h
  by_cases hb : badInt neg (d.takeWhile isDig)
  · rw [if_pos hb] at h; cases h
  · rw [if_neg hb] at h
    injection h with h
    injection h with h1 h
    injection h with h2 h3
    exact ⟨hb, h1.symm, h2.symm, h3.symm⟩
theorem intS_of {neg : Bool} {d : List UInt8} (h : ¬ badInt neg (d.takeWhile isDig)) : intS neg d = some (1, (if neg then [45] else []) ++ d.takeWhile isDig, (d.takeWhile isDig).length + (if neg then 1 else 0)) := if_neg h
/-- The bytes of a token, by its first byte. -/
theorem tok_text {c : UInt8} {r : List UInt8} {k : Int} {t : List UInt8} {n : Nat} (h : tokS (c :: r) = some (k, t, n)) :
    (c.toNat = 39 ∧ k = 2 ∧ n = t.length + 2 ∧ (c :: r).take n = 39 :: (t ++ [39]) ∧ isAtomL t = true) ∨
    (c.toNat = 126 ∧ k = 1 ∧ n = t.length ∧ ∃ d, d ≠ [] ∧ t = 45 :: d ∧ (c :: r).take n = 126 :: d) ∨
    (c.toNat ≠ 39 ∧ c.toNat ≠ 126 ∧ n = t.length ∧ (c :: r).take n = t) := by
  rw [tokS_cons] at h
  split at h
  · rename_i hn
    · obtain ⟨hb, h1, h2, h3⟩ := intS_some h
      by_cases h126 : c.toNat = 126
      · right; left
        rw [if_pos h126] at hb h2 h3
        rw [beq_iff_eq.2 h126] at hb h2 h3
        have hne : r.takeWhile isDig ≠ [] := fun e => hb (.inl e)
        simp only [if_true] at h2 h3
        subst h2
        refine ⟨h126, h1, by rw [h3]; simp, r.takeWhile isDig, hne, rfl, ?_⟩
        have hc : c = 126 := by apply UInt8.toNat_inj.1; rw [h126]; rfl
        rw [h3, take_app _ _ (takeWhile_take r), hc]
      · right; right
        have hd : isDig c = true := hn.resolve_right h126
        have h39 : c.toNat ≠ 39 := by
          have := dig_of c hd
          omega
        rw [if_neg h126] at hb h2 h3
        rw [beq_eq_false_iff_ne.2 h126] at hb h2 h3
        simp only [Bool.false_eq_true, if_false, List.nil_append, Nat.add_zero] at h2 h3
        subst h2
        exact ⟨h39, h126, h3, by rw [h3]; exact takeWhile_take _⟩
  · rename_i hn
    have h126 : c.toNat ≠ 126 := fun e => hn (.inr e)
    split at h
    · rename_i hw
      right; right
      have h39 : c.toNat ≠ 39 := by
        rcases hw with h | h
        · simp only [isLow, Bool.and_eq_true, decide_eq_true_eq] at h; omega
        · simp only [isUp, Bool.and_eq_true, decide_eq_true_eq] at h; omega
      unfold wordS at h
      simp only at h
      split at h
      · cases h
      · injection h with h
        injection h with h1 h
        injection h with h2 h3
        subst h2
        exact ⟨h39, h126, h3.symm, by rw [← h3]; exact takeWhile_take _⟩
    · split at h
      · rename_i h39
        left
        unfold quotedS at h
        simp only at h
        split at h
        · rename_i hb
          injection h with h
          injection h with h1 h
          injection h with h2 h3
          subst h2
          have hc : c = 39 := by apply UInt8.toNat_inj.1; rw [h39]; rfl
          refine ⟨h39, h1.symm, h3.symm, ?_, hb.2⟩
          rw [← h3, show (r.takeWhile (fun c => c != 39)).length + 2 = (r.takeWhile (fun c => c != 39)).length + 1 + 1 from rfl, List.take_succ_cons, quoted_take r hb.1, hc]
        · cases h
      · rename_i h39
        right; right
        rw [symS_eq] at h
        split at h
        · rename_i hb
          injection h with h
          injection h with h1 h
          injection h with h2 h3
          refine ⟨h39, h126, ?_, by rw [← h3, h2]⟩
          rw [← h2, ← h3, List.length_take]; omega
        · split at h
          · rename_i hb
            injection h with h
            injection h with h1 h
            injection h with h2 h3
            refine ⟨h39, h126, ?_, by rw [← h3, h2]⟩
            rw [← h2, ← h3, List.length_take]; omega
          · cases h
theorem Evt.ite {α : Type} {g h : Nat → Option α} {r : α} {c : Prop} [Decidable c] (h1 : c → Evt g r) (h2 : ¬ c → Evt h r) : Evt (fun k => if c then g k else h k) r := by
  by_cases hc : c
  · exact Evt.pos hc (h1 hc)
  · exact Evt.neg hc (h2 hc)

/-! Only blanks and remarks. -/
def bl : Bool → List UInt8 → Bool
  | _, [] => true
  | b, c :: r => if c.toNat = 10 then bl false r else if c.toNat = 37 then bl true r else if b then bl true r else if c.toNat = 32 ∨ c.toNat = 9 then bl false r else false
theorem bl_sp (b : Bool) (l : List UInt8) : bl b (l.take (sp b l)) = true := by
  induction l generalizing b with
  | nil => cases b <;> rfl
  | cons c r ih =>
    cases b with
    | false =>
      by_cases hb : isBl c = true
      · have e : sp false (c :: r) = sp false r + 1 := by simp [sp, hb]
        rw [e, List.take_succ_cons]
        have hc : c.toNat = 32 ∨ c.toNat = 10 ∨ c.toNat = 9 := by
          simp only [isBl, Bool.or_eq_true, beq_iff_eq] at hb; omega
        simp only [bl]
        rcases hc with h | h | h
        · rw [if_neg (by omega), if_neg (by omega), if_neg (by simp), if_pos (.inl h)]; exact ih false
        · rw [if_pos h]; exact ih false
        · rw [if_neg (by omega), if_neg (by omega), if_neg (by simp), if_pos (.inr h)]; exact ih false
      · by_cases h37 : c.toNat = 37
        · have e : sp false (c :: r) = sp true r + 1 := by simp [sp, hb, h37]
          rw [e, List.take_succ_cons]
          simp only [bl]
          rw [if_neg (by omega), if_pos h37]; exact ih true
        · have e : sp false (c :: r) = 0 := by simp [sp, hb, h37]
          rw [e]; rfl
    | true =>
      by_cases h10 : c.toNat = 10
      · have e : sp true (c :: r) = sp false r + 1 := by simp [sp, h10]
        rw [e, List.take_succ_cons]
        simp only [bl]
        rw [if_pos h10]; exact ih false
      · have e : sp true (c :: r) = sp true r + 1 := by simp [sp, h10]
        rw [e, List.take_succ_cons]
        simp only [bl]
        rw [if_neg h10]
        by_cases h37 : c.toNat = 37
        · rw [if_pos h37]; exact ih true
        · rw [if_neg h37, if_pos trivial]; exact ih true
end Go.Proofs.YtakcnogmljbaiaaDoor.Q
