/-
  Walks: what is valid, as the reference sees it; that both see the same; the size of a syntax tree.
-/
import Derived.Test.YtfbppkjjdbkedaaGreatDoorVu
namespace Go.Proofs.YtfbppkjjdbkedaaGreatDoor.Ref
noncomputable section
open Go
set_option linter.unusedVariables false
set_option linter.unusedSimpArgs false
set_option maxRecDepth 100000
theorem leaf_N : ∀ n, (∀ x, leafF (exprN n) x = simpleM x) ∨ (∀ x, stmtN n x = false)
  | 0 => .inr fun x => by simp only [stmtN]
  | n + 1 => .inl (leaf_eq (fun t m l => by simp only [exprN]; rfl) (fun t m l => by simp only [exprN]; rfl))
theorem ans_validR : ∀ (n : Nat) (x : Syn), sizeS x ≤ n → sizeS x ≤ 100000 → TextsOk x → Ans 46 (exprN n) x ∧ Ans 45 (stmtN n) x
  | 0, x, h, _, _ => absurd h (by have := size_pos x; omega)
  | n + 1, .mk k t m l, h, hb, ht => by
    simp only [sizeS] at h hb
    simp only [TextsOk] at ht
    have ih : ∀ y ∈ l, Ans 46 (exprN n) y ∧ Ans 45 (stmtN n) y := fun y hy => ans_validR n y (by have := size_mem hy; omega) (by have := size_mem hy; omega) (textsOk_mem ht.2 y hy)
    have ih2 : ∀ y ∈ l, ∀ z ∈ y.kids, Ans 45 (stmtN n) z := fun y hy z hz => by
      have h1 := size_mem hy
      have h3 := textsOk_mem ht.2 y hy
      obtain ⟨a, b, c, d⟩ := y
      simp only [Syn.kids] at hz
      simp only [sizeS] at h1
      simp only [TextsOk] at h3
      have h2 := size_mem hz
      exact (ans_validR n z (by omega) (by omega) (textsOk_mem h3.2 z hz)).2
    refine ⟨?_, ?_⟩
    · have := ce_IsExpr (x := .mk k t m l) (by simp only [sizeS]; omega) ht.1 (fun y hy => (ih y hy).1) (fun y hy => (ih y hy).2)
      rw [show exprR (exprN n) (stmtN n) = exprB (exprN n) (stmtN n) from funext fun y => expr_eq (exprN_zero n) (stmtN_zero n) y] at this
      simpa only [exprN, Ans] using this
    · have := ce_IsStmt (x := .mk k t m l) (by simp only [sizeS]; omega) (fun y hy => (ih y hy).1) (fun y hy => (ih y hy).2) ih2
      rw [show stmtR (exprN n) (stmtN n) = stmtB (exprN n) (stmtN n) from funext fun y => stmt_eq (exprN_zero n) (stmtN_zero n) (leaf_N n) y] at this
      simpa only [stmtN, Ans] using this
theorem belowL_gt {f : Syn → Int} {b : Int} : ∀ (l : List Syn) (m : Int), (b < belowL f l m ↔ b < m ∨ ∃ x ∈ l, b < f x)
  | [], m => by simp [belowL]
  | x :: l, m => by
    simp only [belowL]
    rw [belowL_gt l]
    simp only [List.mem_cons, exists_eq_or_imp]
    have : b < mx m (f x) ↔ b < m ∨ b < f x := by unfold mx; split <;> omega
    rw [this, or_assoc]
theorem deep_eq : ∀ (n : Nat) (x : Syn), deepN n x = decide ((n : Int) < belowN n x)
  | 0, x => rfl
  | n + 1, x => by
    rw [Bool.eq_iff_iff, decide_eq_true_iff]
    simp only [deepN, belowN, List.any_eq_true]
    have h1 : ((n + 1 : Nat) : Int) < belowL (belowN n) x.kids 0 + 1 ↔ (n : Int) < belowL (belowN n) x.kids 0 := by omega
    rw [h1, belowL_gt]
    constructor
    · rintro ⟨y, h2, h3⟩
      rw [deep_eq n y, decide_eq_true_iff] at h3
      exact .inr ⟨y, h2, h3⟩
    · rintro (h2 | ⟨y, h2, h3⟩)
      · omega
      · exact ⟨y, h2, by rw [deep_eq n y, decide_eq_true_iff]; exact h3⟩
theorem ce_RValid (x : Syn) (hb : sizeS x ≤ 100000) (ht : TextsOk x) : CE X 23 [eSyn x] [] (.ret (B (validM x))) [] := by
  have h1 := ce_Deep 40 (by omega) x hb
  obtain ⟨h2, h3⟩ := ans_validR (sizeS x) x (Nat.le_refl _) hb ht
  have hv : validM x = (!deepN 40 x && (stmtN (sizeS x) x || exprN (sizeS x) x)) := by
    rw [validM, shapedM, deep_eq]
    refine congrArg (fun b => b && _) ?_
    rw [Bool.eq_iff_iff]; simp
  rw [hv]
  obtain ⟨k, t, n, l⟩ := x
  refine ce_code hX hF (H := Hs 23) (fn := Tryz.f23) rfl rfl ?_
  refine ⟨_, _, h1, ?_⟩
  refine bs (fun z2 => ?_) (fun z2 => ?_)
  · refine ⟨_, _, h3, ?_⟩
    refine bs (fun z4 => ?_) (fun z4 => ?_)
    · exact ⟨_, _, rfl, by (try simp only [Bool.not_eq_true', Bool.not_eq_false'] at z2 z4); simp only [z2, z4, Bool.not_true, Bool.not_false, Bool.true_and, Bool.false_and, Bool.or_true, Bool.true_or, Bool.false_or], rfl⟩
    · refine ⟨_, _, h2, ?_⟩
      exact ⟨_, _, rfl, by (try simp only [Bool.not_eq_true', Bool.not_eq_false'] at z2 z4); simp only [z2, z4, Bool.not_true, Bool.not_false, Bool.true_and, Bool.false_and, Bool.or_true, Bool.true_or, Bool.false_or], rfl⟩
  · exact ⟨_, _, rfl, by (try simp only [Bool.not_eq_true', Bool.not_eq_false'] at z2); simp only [z2, Bool.not_true, Bool.not_false, Bool.true_and, Bool.false_and, Bool.or_true, Bool.true_or, Bool.false_or], rfl⟩
theorem ce_Count : ∀ (k : Nat) (x : Syn), sizeS x ≤ k → ∀ m : Nat, 1 ≤ m → m ≤ 100000 → CE X 36 [eSyn x, I m] [] (.ret (I ((min (sizeS x) m : Nat) : Int))) []
  | 0, x, h, m, _, _ => absurd h (by have := size_pos x; omega)
  | k + 1, .mk kk t n l, h, m, hm, hb => by
    have ih := fun y (hy : y ∈ l) => ce_Count k y (by have := size_mem hy; simp only [sizeS] at h; omega)
    have hstep : ∀ i : Nat, ∀ hi : i < l.length, sizeL (l.take (i + 1)) = sizeL (l.take i) + sizeS l[i] := fun i hi => by
      rw [List.take_add_one]
      have : ∀ a b : List Syn, sizeL (a ++ b) = sizeL a + sizeL b := fun a b => by
        induction a with
        | nil => simp [sizeL]
        | cons c a ih => simp only [List.cons_append, sizeL, ih]; omega
      rw [this, List.getElem?_eq_getElem hi]
      simp [sizeL]
    refine ce_code hX hF (H := Hs 36) (fn := Tryz.f36) rfl rfl ?_
    refine w_loop hX (H := Hs 36) [1, 2, 5, 6] (fun r S => ∃ i : Nat, r = l.length - i ∧ i ≤ l.length ∧ i < 200000 ∧ S = ⟨31, [(1, .d (I m)), (2, .d (.fz (eSyn (.mk kk t n l)))), (5, .d (I ((min (1 + sizeL (l.take i)) m : Nat) : Int))), (6, .d (I i))], [], 0⟩) l.length ⟨0, by simp, by simp, by omega, by rw [show min (1 + sizeL (l.take 0)) m = 1 by simp only [List.take_zero, sizeL]; omega]; rfl⟩ ?_
    rintro r S ⟨i, rfl, hi, hi2, rfl⟩
    have hlen : i ≤ sizeL (l.take i) := by
      have h1 := len_size (l.take i)
      rw [List.length_take, Nat.min_eq_left hi] at h1
      exact h1
    have hfin : sizeS (.mk kk t n l) = sizeL l + 1 := by simp only [sizeS]
    refine bs (fun h1 => ?_) (fun h1 => ?_)
    · have h1 : i < l.length := by have h1 := of_decide_eq_true h1; rw [eSyns_len] at h1; omega
      refine bs (fun h2 => ?_) (fun h2 => ?_)
      · have h2 : 1 + sizeL (l.take i) < m := by have h2 := of_decide_eq_true h2; omega
        refine Soft.idx (by rfl) (by rfl) (by rfl) (by rfl) (by rfl) (by rfl) (by rfl) (by omega) (eSyns_get h1) ?_
        have e1 : min (1 + sizeL (l.take i)) m = 1 + sizeL (l.take i) := by omega
        have ihx := ih l[i] (List.getElem_mem h1) (m - (1 + sizeL (l.take i))) (by omega) (by omega)
        have e3 : IntKind.i64.wrap ((m : Int) - ((min (1 + sizeL (l.take i)) m : Nat) : Int)) = ((m - (1 + sizeL (l.take i)) : Nat) : Int) := by
          rw [e1, wrap64 (by omega) (by omega)]; omega
        rw [← e3] at ihx
        have hs := hstep i h1
        rcases hk : l[i] with ⟨k', t', m', ks'⟩
        rw [hk] at ihx hs
        refine ⟨_, _, ihx, ?_⟩
        refine ⟨l.length - (i + 1), by omega, i + 1, rfl, by omega, by omega, ?_⟩
        have e4 := inc64 i (by omega)
        have e5 : IntKind.i64.wrap (((min (1 + sizeL (l.take i)) m : Nat) : Int) + ((min (sizeS (.mk k' t' m' ks')) (m - (1 + sizeL (l.take i))) : Nat) : Int)) = ((min (1 + sizeL (l.take (i + 1))) m : Nat) : Int) := by
          rw [wrap64 (by omega) (by omega)]; omega
        rw [e4, e5]
      · have h2 : ¬ 1 + sizeL (l.take i) < m := by have h2 := of_decide_eq_false h2; omega
        refine ⟨_, _, rfl, ?_, rfl⟩
        have : sizeL (l.take i) ≤ sizeL l := size_take l i
        rw [show min (1 + sizeL (l.take i)) m = min (sizeS (.mk kk t n l)) m by omega]
    · have h1 : i = l.length := by have h1 := of_decide_eq_false h1; rw [eSyns_len] at h1; omega
      subst h1
      refine ⟨_, _, rfl, ?_, rfl⟩
      rw [List.take_length, show min (1 + sizeL l) m = min (sizeS (.mk kk t n l)) m by omega]
theorem ce_large (x : Syn) : CE X 19 [eSyn x] [] (.ret (B (decide (3000 < sizeS x)))) [] := by
  have h := ce_Count (sizeS x) x (Nat.le_refl _) 3001 (by omega) (by omega)
  obtain ⟨k, t, n, l⟩ := x
  refine ce_code hX hF (H := Hs 19) (fn := Tryz.f19) rfl rfl ?_
  refine ⟨_, _, h, ?_⟩
  refine ⟨_, _, rfl, ?_, rfl⟩
  refine congrArg (fun b => ARes.ret (B b)) ?_
  rw [Bool.eq_iff_iff, decide_eq_true_iff, decide_eq_true_iff]
  omega
/-- A hint more. -/
def withH (H : Hint) (r i h : Nat) : Hint := ⟨fun r' i' => match Nat.beq r r' && Nat.beq i i' with
  | true => h
  | false => H.op r' i', H.keep⟩
/-- The law's function, if the examples hold. -/
theorem ce_ParseValid (x : Syn) (ht : TextsOk x) (ha : CE X 15 [] [] (.ret (B true)) []) : CE X 5 [eSyn x] [] (.ret (B true)) [] := by
  have h := ce_large x
  have h1 : sizeS x ≤ 3000 → CE X 22 [eSyn x] [] (.ret (B (validM x))) [] := fun hs => ce_Valid x (by omega) ht
  have h2 : sizeS x ≤ 3000 → CE X 23 [eSyn x] [] (.ret (B (validM x))) [] := fun hs => ce_RValid x (by omega) ht
  generalize validM x = v at h1 h2
  obtain ⟨k, t, n, l⟩ := x
  cases v with
  | false =>
    refine ce_code hX hF (H := withH (Hs 5) 3 4 11) (fn := Tryz.f5) rfl rfl ?_
    refine ⟨_, _, h, ?_⟩
    refine bs (fun g => ?_) (fun g => ?_)
    · refine ⟨_, _, ha, ?_⟩
      exact ⟨_, _, rfl, rfl, rfl⟩
    · have g : sizeS (.mk k t n l) ≤ 3000 := by have := of_decide_eq_false g; omega
      refine .ord [0, 2, 1, 3, 4, 5, 6, 7, 8] (by kernel_rfl) ?_
      refine ⟨_, _, h1 (by first | assumption | omega), ?_⟩
      refine ⟨_, _, h2 (by first | assumption | omega), ?_⟩
      refine ⟨_, _, ha, ?_⟩
      exact ⟨_, _, rfl, rfl, rfl⟩
  | true =>
    refine ce_code hX hF (H := withH (Hs 5) 3 4 11) (fn := Tryz.f5) rfl rfl ?_
    refine ⟨_, _, h, ?_⟩
    refine bs (fun g => ?_) (fun g => ?_)
    · refine ⟨_, _, ha, ?_⟩
      exact ⟨_, _, rfl, rfl, rfl⟩
    · have g : sizeS (.mk k t n l) ≤ 3000 := by have := of_decide_eq_false g; omega
      refine .ord [0, 2, 1, 3, 4, 5, 6, 7, 8] (by kernel_rfl) ?_
      refine ⟨_, _, h1 (by first | assumption | omega), ?_⟩
      refine ⟨_, _, h2 (by first | assumption | omega), ?_⟩
      refine ⟨_, _, ha, ?_⟩
      exact ⟨_, _, rfl, rfl, rfl⟩
end
end Go.Proofs.YtfbppkjjdbkedaaGreatDoor.Ref
