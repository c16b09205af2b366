/-
  The reference's token at a place, whole: words, quoted atoms, symbols.
-/
import Derived.Test.YtakcnogmljbaiaaDoorQg
set_option linter.unusedVariables false
set_option linter.unusedSimpArgs false
namespace Go.Proofs.YtakcnogmljbaiaaDoor.Q
open Go.RowKit Go.Proofs.YtakcnogmljbaiaaDoorW.PrintWords Go.Proofs.YtakcnogmljbaiaaDoor.PLex

theorem kw_facts (t : List UInt8) (h : t ∈ kwL) : t.length ≤ 16 ∧ headIs isUp t = false := by
  have : ∀ t ∈ kwL, t.length ≤ 16 ∧ headIs isUp t = false := by decide +kernel
  exact this t h
theorem let_of_up (c : UInt8) (h : isUp c = true) : isLet c = true := by simp [isLet, h]
theorem let_of_low (c : UInt8) (h : isLow c = true) : isLet c = true := by simp [isLet, h]
theorem low_not_up (c : UInt8) (h : isLow c = true) : isUp c = false := by
  have := all_bytes (p := fun n => decide (isLow (UInt8.ofNat n) = true → isUp (UInt8.ofNat n) = false)) (by decide +kernel) c
  have := of_decide_eq_true this
  rw [ofNat_toNat] at this
  exact this h
theorem rword_loop (l : List UInt8) (hl : l.length < 4611686018427387904) (x1 : Int) (v : Int × ByteArray × Int × Int × Bool) : ∀ (d i : Nat), i + d = l.length →
    Evt (fun k => leatworkref03_token.j3 k (B l) x1 ((i + ((l.drop i).takeWhile isLet).length : Nat) : Int)) v → Evt (fun k => leatworkref03_token.l1 k (B l) x1 (i : Int)) v := by
  intro d
  induction d with
  | zero =>
    intro i hi h
    apply Evt.succ
    simp only [leatworkref03_token.l1]
    rw [List.drop_eq_nil_of_le (by omega)] at h
    exact Evt.neg (by rw [size_B]; omega) h
  | succ d ih =>
    intro i hi h
    have hlt : i < l.length := by omega
    apply Evt.succ
    simp only [leatworkref03_token.l1]
    refine Evt.pos (by rw [size_B]; omega) (Evt.pos (by omega) ?_)
    rw [bt_B l i hlt, w64s i (by omega)]
    refine Evt.bind (Evt.const (rletter_f _)) ?_
    rw [drop_cons hlt] at h
    by_cases hp : isLet l[i] = true
    · refine Evt.pos hp (ih (i + 1) (by omega) ?_)
      rw [List.takeWhile_cons_of_pos hp, List.length_cons] at h
      have e : i + (((l.drop (i + 1)).takeWhile isLet).length + 1) = i + 1 + ((l.drop (i + 1)).takeWhile isLet).length := by omega
      rwa [e] at h
    · refine Evt.neg hp ?_
      rw [List.takeWhile_cons_of_neg hp] at h
      exact h
theorem rword_at (l : List UInt8) (hl : l.length < 4611686018427387904) (i : Nat) (hi : i < l.length) (hc : isLow l[i] = true ∨ isUp l[i] = true) :
    ∃ v, Evt (fun k => leatworkref03_token.l1 k (B l) (i : Int) (i : Int)) v ∧ Rt i (wordS (l.drop i)) v := by
  have hdrop : l.drop i = l[i] :: l.drop (i + 1) := drop_cons hi
  have hlet : isLet l[i] = true := hc.elim (let_of_low _) (let_of_up _)
  have hle := takeWhile_le (p := isLet) (l.drop i)
  have hld : (l.drop i).length = l.length - i := List.length_drop
  have hall := all_takeWhile isLet (l.drop i)
  have htake := takeWhile_take (p := isLet) (l.drop i)
  have hpos : 0 < ((l.drop i).takeWhile isLet).length := by rw [hdrop, List.takeWhile_cons_of_pos hlet]; simp
  have hhead : ∀ p, headIs p ((l.drop i).takeWhile isLet) = p l[i] := by intro p; rw [hdrop, List.takeWhile_cons_of_pos hlet]; rfl
  have hW : wordS (l.drop i) = (if ((l.drop i).takeWhile isLet).length > 16 then none else some (if ((l.drop i).head?.map isUp).getD false then 3 else if ((l.drop i).takeWhile isLet) ∈ kwL then 4 else 2, ((l.drop i).takeWhile isLet), ((l.drop i).takeWhile isLet).length)) := rfl
  have hup : ((l.drop i).head?.map isUp).getD false = isUp l[i] := by rw [hdrop]; rfl
  rw [hW, hup]
  clear hW hup
  have loop := fun v => rword_loop l hl (i : Int) v (l.length - i) i (by omega)
  generalize (l.drop i).takeWhile isLet = t at *
  have hex : (B l).extract ((i : Nat) : Int).toNat ((i + t.length : Nat) : Int).toNat = B t := by
    rw [extract_mid, Nat.add_sub_cancel_left, htake]
  have atom124 : t ≠ [124] ∧ t ≠ [35] := by
    constructor
    · rintro rfl; exact absurd hall (by decide +kernel)
    · rintro rfl; exact absurd hall (by decide +kernel)
  have b1 : (t == [124]) = false := by simpa using atom124.1
  have b2 : (t == [35]) = false := by simpa using atom124.2
  have hword : isWord t = decide (t.length ≤ 16) := by
    unfold isWord
    rw [decide_eq_true (show 1 ≤ t.length by omega), hall, Bool.true_and, Bool.and_true]
  have start : ∀ v, Evt (fun k => (leatworkref03_Keyword.f k (B t)).bind fun t213 => (if t213 = true then (some (4, B t, (i : Int), ((i + t.length : Nat) : Int), true)) else ((leatworkref01_IsIdent.f k (B t)).bind fun t214 => (if t214 = true then (some (3, B t, (i : Int), ((i + t.length : Nat) : Int), true)) else ((leatworkref01_IsAtom.f k (B t)).bind fun t215 => (some (2, B t, (i : Int), ((i + t.length : Nat) : Int), t215))))))) v →
      Evt (fun k => leatworkref03_token.l1 k (B l) (i : Int) (i : Int)) v := by
    intro v h
    apply loop
    apply Evt.succ
    simp only [leatworkref03_token.j3]
    refine Evt.pos (by omega) (Evt.pos (by omega) (Evt.pos (by omega) (Evt.pos (by rw [size_B]; omega) ?_)))
    rw [hex]
    exact h
  have hid : isIdL t = (decide (t.length ≤ 16) && isUp l[i]) := by unfold isIdL; rw [hword, hhead]
  have hat : isAtomL t = (decide (t.length ≤ 16) && isLow l[i]) := by unfold isAtomL; rw [b1, b2, hword, hhead]; rfl
  by_cases h16 : t.length > 16
  · have hk : ¬ t ∈ kwL := fun h => by have := (kw_facts t h).1; omega
    refine ⟨_, start (2, B t, (i : Int), ((i + t.length : Nat) : Int), false) ?_, ?_⟩
    · refine Evt.bind (rKeyword_e t) (Evt.neg (by simpa using hk) (Evt.bind (rIdent_e t) ?_))
      rw [hid, decide_eq_false (by omega), Bool.false_and]
      refine Evt.neg (by simp) (Evt.bind (rAtom_e t) ?_)
      rw [hat, decide_eq_false (by omega), Bool.false_and]
      exact Evt.pure _
    · rw [if_pos h16]
      rfl
  · rw [if_neg h16]
    rw [decide_eq_true (show t.length ≤ 16 by omega), Bool.true_and] at hid hat
    cases hu : isUp l[i] with
    | true =>
      have hk : ¬ t ∈ kwL := fun h => by have := (kw_facts t h).2; rw [hhead, hu] at this; cases this
      refine ⟨_, start (3, B t, (i : Int), ((i + t.length : Nat) : Int), true) ?_, rfl⟩
      refine Evt.bind (rKeyword_e t) (Evt.neg (by simpa using hk) (Evt.bind (rIdent_e t) ?_))
      rw [hid, hu]
      exact Evt.pos rfl (Evt.pure _)
    | false =>
      have hlow : isLow l[i] = true := hc.resolve_right (by rw [hu]; simp)
      by_cases hk : t ∈ kwL
      · refine ⟨_, start (4, B t, (i : Int), ((i + t.length : Nat) : Int), true) ?_, ?_⟩
        · exact Evt.bind (rKeyword_e t) (Evt.pos (by simpa using hk) (Evt.pure _))
        · simp only [hk, if_true, Bool.false_eq_true, if_false]
          rfl
      · refine ⟨_, start (2, B t, (i : Int), ((i + t.length : Nat) : Int), true) ?_, ?_⟩
        · refine Evt.bind (rKeyword_e t) (Evt.neg (by simpa using hk) (Evt.bind (rIdent_e t) ?_))
          rw [hid, hu]
          refine Evt.neg (by simp) (Evt.bind (rAtom_e t) ?_)
          rw [hat, hlow]
          exact Evt.pure _
        · simp only [hk, Bool.false_eq_true, if_false]
          rfl

theorem rquote_loop (l : List UInt8) (hl : l.length < 4611686018427387904) (i : Nat) (hi : i < l.length) : ∀ (d j : Nat), j + d = l.length → i + 1 ≤ j →
    Evt (fun k => leatworkref03_token.l0 k (B l) (i : Int) (j : Int))
      (if ((l.drop j).takeWhile (fun c => c != 39)).length < (l.drop j).length then (2, B ((l.drop (i + 1)).take (j + ((l.drop j).takeWhile (fun c => c != 39)).length - (i + 1))), (i : Int), ((j + ((l.drop j).takeWhile (fun c => c != 39)).length + 1 : Nat) : Int), isAtomL ((l.drop (i + 1)).take (j + ((l.drop j).takeWhile (fun c => c != 39)).length - (i + 1))))
       else (0, (⟨#[]⟩ : ByteArray), 0, 0, false)) := by
  intro d
  induction d with
  | zero =>
    intro j hj h1
    apply Evt.succ
    simp only [leatworkref03_token.l0]
    rw [List.drop_eq_nil_of_le (by omega : l.length ≤ j)]
    refine Evt.neg (by rw [size_B]; omega) ?_
    rw [if_neg (by simp)]
    exact Evt.pure _
  | succ d ih =>
    intro j hj h1
    have hlt : j < l.length := by omega
    apply Evt.succ
    simp only [leatworkref03_token.l0]
    refine Evt.pos (by rw [size_B]; omega) (Evt.pos (by omega) ?_)
    rw [bt_B l j hlt, w64s i (by omega), w64s j (by omega), drop_cons hlt]
    by_cases h39 : l[j] = 39
    · refine Evt.pos (by rw [h39]; rfl) (Evt.pos (by omega) (Evt.pos (by omega) (Evt.pos (by rw [size_B]; omega) ?_)))
      have hb : (l[j] != 39) = false := by simp [h39]
      have e0 : List.takeWhile (fun c => c != 39) (l[j] :: l.drop (j + 1)) = [] := List.takeWhile_cons_of_neg (p := fun c => c != 39) (by rw [hb]; simp)
      rw [e0, extract_mid]
      rw [if_pos (by simp; omega)]
      exact Evt.bind (rAtom_e _) (Evt.pure _)
    · have hb : (l[j] != 39) = true := by simpa using h39
      have e0 : List.takeWhile (fun c => c != 39) (l[j] :: l.drop (j + 1)) = l[j] :: (l.drop (j + 1)).takeWhile (fun c => c != 39) := List.takeWhile_cons_of_pos (p := fun c => c != 39) hb
      refine Evt.neg ?_ ?_
      · intro h
        apply h39
        apply UInt8.toNat_inj.1
        have : (l[j]).toNat = 39 := by omega
        rw [this]; rfl
      · rw [e0]
        have := ih (j + 1) (by omega) (by omega)
        simp only [List.length_cons]
        have ea : j + (((l.drop (j + 1)).takeWhile (fun c => c != 39)).length + 1) = j + 1 + ((l.drop (j + 1)).takeWhile (fun c => c != 39)).length := by omega
        rw [ea]
        by_cases hh : ((l.drop (j + 1)).takeWhile (fun c => c != 39)).length < (l.drop (j + 1)).length
        · rw [if_pos hh] at this
          rw [if_pos (by omega)]
          exact this
        · rw [if_neg hh] at this
          rw [if_neg (by omega)]
          exact this
theorem rquote_at (l : List UInt8) (hl : l.length < 4611686018427387904) (i : Nat) (hi : i < l.length) :
    ∃ v, Evt (fun k => leatworkref03_token.l0 k (B l) (i : Int) ((i + 1 : Nat) : Int)) v ∧ Rt i (quotedS (l.drop (i + 1))) v := by
  refine ⟨_, rquote_loop l hl i hi (l.length - (i + 1)) (i + 1) (by omega) (Nat.le_refl _), ?_⟩
  have hq : quotedS (l.drop (i + 1)) = if ((l.drop (i + 1)).takeWhile (fun c => c != 39)).length < (l.drop (i + 1)).length ∧ isAtomL ((l.drop (i + 1)).takeWhile (fun c => c != 39)) = true then some (2, (l.drop (i + 1)).takeWhile (fun c => c != 39), ((l.drop (i + 1)).takeWhile (fun c => c != 39)).length + 2) else none := rfl
  have et : (l.drop (i + 1)).take (i + 1 + ((l.drop (i + 1)).takeWhile (fun c => c != 39)).length - (i + 1)) = (l.drop (i + 1)).takeWhile (fun c => c != 39) := by
    rw [Nat.add_sub_cancel_left, takeWhile_take]
  rw [hq, et]
  by_cases h1 : ((l.drop (i + 1)).takeWhile (fun c => c != 39)).length < (l.drop (i + 1)).length
  · rw [if_pos h1]
    by_cases h2 : isAtomL ((l.drop (i + 1)).takeWhile (fun c => c != 39)) = true
    · rw [if_pos ⟨h1, h2⟩, h2]
      show _ = _
      have e : i + 1 + ((l.drop (i + 1)).takeWhile (fun c => c != 39)).length + 1 = i + (((l.drop (i + 1)).takeWhile (fun c => c != 39)).length + 2) := by omega
      rw [e]
    · rw [if_neg (fun h => h2 h.2)]
      show isAtomL _ = false
      exact Bool.eq_false_iff.2 h2
  · rw [if_neg h1, if_neg (fun h => h1 h.1)]
    rfl

/-! Symbols. -/
def sym2 : List (List UInt8) := [[91, 93], [61, 61], [92, 61], [61, 60], [62, 61]]
def sym1 : List (List UInt8) := [[123], [125], [40], [41], [91], [93], [124], [36], [61], [60], [62], [43], [45], [42], [95]]
def rsymL : List (List UInt8) := [[123], [125], [40], [41], [91], [93], [91, 93], [124], [36], [61], [61, 61], [92, 61], [60], [61, 60], [62], [62, 61], [43], [45], [42], [95]]
theorem rsymbols_f : leatworkref03_symbols.f = some (rsymL.map B) := rfl
theorem find_prefix (m : Nat) (l : List UInt8) (xs : List (List UInt8)) (h : ∀ x ∈ xs, x.length = m) :
    xs.find? (fun x => x.isPrefixOf l) = if m ≤ l.length ∧ l.take m ∈ xs then some (l.take m) else none := by
  induction xs with
  | nil => simp
  | cons x xs ih =>
    have hx := h x List.mem_cons_self
    have ih' := ih (fun y hy => h y (List.mem_cons_of_mem _ hy))
    by_cases hp : x.isPrefixOf l = true
    · have e : x = l.take m := by
        have := List.prefix_iff_eq_take.1 (List.isPrefixOf_iff_prefix.1 hp)
        rwa [hx] at this
      have hm : m ≤ l.length := by rw [← hx]; exact (List.isPrefixOf_iff_prefix.1 hp).length_le
      have hf : List.find? (fun x : List UInt8 => x.isPrefixOf l) (x :: xs) = some x := List.find?_cons_of_pos hp
      rw [hf, if_pos ⟨hm, by rw [← e]; exact List.mem_cons_self⟩, ← e]
    · have hf : List.find? (fun x : List UInt8 => x.isPrefixOf l) (x :: xs) = List.find? (fun x : List UInt8 => x.isPrefixOf l) xs := List.find?_cons_of_neg hp
      rw [hf, ih']
      have hne : m ≤ l.length → l.take m ≠ x := by
        intro hm e
        apply hp
        rw [List.isPrefixOf_iff_prefix, ← e]
        exact List.take_prefix _ _
      by_cases hc : m ≤ l.length ∧ l.take m ∈ xs
      · rw [if_pos hc, if_pos ⟨hc.1, List.mem_cons_of_mem _ hc.2⟩]
      · rw [if_neg hc, if_neg (fun h => by
          rcases List.mem_cons.1 h.2 with h2 | h2
          · exact hne h.1 h2
          · exact hc ⟨h.1, h2⟩)]
theorem rsym_mem (m : Nat) (x : List UInt8) (hx : x.length = m) : (m = 2 → (x ∈ rsymL ↔ x ∈ sym2)) ∧ (m = 1 → (x ∈ rsymL ↔ x ∈ sym1)) := by
  have a2 : ∀ x ∈ rsymL, x.length = 2 → x ∈ sym2 := by decide
  have b2 : ∀ x ∈ sym2, x ∈ rsymL := by decide
  have a1 : ∀ x ∈ rsymL, x.length = 1 → x ∈ sym1 := by decide
  have b1 : ∀ x ∈ sym1, x ∈ rsymL := by decide
  exact ⟨fun e => ⟨fun h => a2 x h (by omega), b2 x⟩, fun e => ⟨fun h => a1 x h (by omega), b1 x⟩⟩
theorem symS_eq (l : List UInt8) : symS l = if 2 ≤ l.length ∧ l.take 2 ∈ rsymL then some (5, l.take 2, 2) else if 1 ≤ l.length ∧ l.take 1 ∈ rsymL then some (5, l.take 1, 1) else none := by
  have e : symL = sym2 ++ sym1 := rfl
  unfold symS
  rw [e, List.find?_append, find_prefix 2 l sym2 (by decide), find_prefix 1 l sym1 (by decide)]
  by_cases h2 : 2 ≤ l.length ∧ l.take 2 ∈ sym2
  · have hl2 : (l.take 2).length = 2 := by rw [List.length_take]; omega
    have g : 2 ≤ l.length ∧ l.take 2 ∈ rsymL := ⟨h2.1, ((rsym_mem 2 _ hl2).1 rfl).2 h2.2⟩
    rw [if_pos h2, if_pos g]
    simp only [Option.some_or, Option.map_some, hl2]
  · have n2 : ¬ (2 ≤ l.length ∧ l.take 2 ∈ rsymL) := fun h => by
      have hl2 : (l.take 2).length = 2 := by rw [List.length_take]; omega
      exact h2 ⟨h.1, ((rsym_mem 2 _ hl2).1 rfl).1 h.2⟩
    rw [if_neg h2, if_neg n2, Option.none_or]
    by_cases h1 : 1 ≤ l.length ∧ l.take 1 ∈ sym1
    · have hl1 : (l.take 1).length = 1 := by rw [List.length_take]; omega
      have g : 1 ≤ l.length ∧ l.take 1 ∈ rsymL := ⟨h1.1, ((rsym_mem 1 _ hl1).2 rfl).2 h1.2⟩
      rw [if_pos h1, if_pos g]
      simp only [Option.map_some, hl1]
    · have n1 : ¬ (1 ≤ l.length ∧ l.take 1 ∈ rsymL) := fun h => by
        have hl1 : (l.take 1).length = 1 := by rw [List.length_take]; omega
        exact h1 ⟨h.1, ((rsym_mem 1 _ hl1).2 rfl).1 h.2⟩
      rw [if_neg h1, if_neg n1]
      rfl
theorem rsym_at (l : List UInt8) (hl : l.length < 4611686018427387904) (i : Nat) (hi : i < l.length) :
    ∃ v, Evt (fun k => leatworkref03_token.l2 k (B l) (i : Int) 2) v ∧ Rt i (symS (l.drop i)) v := by
  have hld : (l.drop i).length = l.length - i := List.length_drop
  rw [symS_eq]
  have e2 : wrap64 ((i : Int) + 2) = ((i + 2 : Nat) : Int) := by rw [w64 (by omega) (by omega)]; omega
  have e1 : wrap64 ((i : Int) + 1) = ((i + 1 : Nat) : Int) := w64s i (by omega)
  have d2 : wrap64 ((2 : Int) - 1) = 1 := by rw [w64 (by omega) (by omega)]; rfl
  have d1 : wrap64 ((1 : Int) - 1) = 0 := by rw [w64 (by omega) (by omega)]; rfl
  -- the second and the third round
  have r0 : Evt (fun k => leatworkref03_token.l2 k (B l) (i : Int) 0) (0, (⟨#[]⟩ : ByteArray), 0, 0, false) := by
    apply Evt.succ
    simp only [leatworkref03_token.l2]
    exact Evt.neg (by omega) (Evt.pure _)
  have r1 : ∃ v, Evt (fun k => leatworkref03_token.l2 k (B l) (i : Int) 1) v ∧ Rt i (if 1 ≤ (l.drop i).length ∧ (l.drop i).take 1 ∈ rsymL then some (5, (l.drop i).take 1, 1) else none) v := by
    have hx : (B l).extract ((i : Nat) : Int).toNat ((i + 1 : Nat) : Int).toNat = B ((l.drop i).take 1) := by
      rw [extract_mid, Nat.add_sub_cancel_left]
    by_cases hm : (l.drop i).take 1 ∈ rsymL
    · refine ⟨(5, B ((l.drop i).take 1), (i : Int), ((i + 1 : Nat) : Int), true), ?_, ?_⟩
      · apply Evt.succ
        simp only [leatworkref03_token.l2]
        rw [e1, hx]
        exact Evt.pos (by omega) (Evt.pos (by rw [size_B]; omega) (Evt.bind (Evt.const rsymbols_f) (Evt.pos (by omega) (Evt.pos (by omega) (Evt.bind (in_e rsymL _ (by simp [rsymL])) (Evt.pos (by simpa using hm) (Evt.pure _)))))))
      · rw [if_pos ⟨by omega, hm⟩]
        rfl
    · refine ⟨(0, (⟨#[]⟩ : ByteArray), 0, 0, false), ?_, ?_⟩
      · apply Evt.succ
        simp only [leatworkref03_token.l2]
        rw [e1, hx, d1]
        exact Evt.pos (by omega) (Evt.pos (by rw [size_B]; omega) (Evt.bind (Evt.const rsymbols_f) (Evt.pos (by omega) (Evt.pos (by omega) (Evt.bind (in_e rsymL _ (by simp [rsymL])) (Evt.neg (by simpa using hm) r0))))))
      · rw [if_neg (fun h => hm h.2)]
        rfl
  obtain ⟨v1, hv1, hr1⟩ := r1
  have hx : (B l).extract ((i : Nat) : Int).toNat ((i + 2 : Nat) : Int).toNat = B ((l.drop i).take 2) := by
    rw [extract_mid, Nat.add_sub_cancel_left]
  by_cases h2 : 2 ≤ (l.drop i).length
  · by_cases hm : (l.drop i).take 2 ∈ rsymL
    · refine ⟨(5, B ((l.drop i).take 2), (i : Int), ((i + 2 : Nat) : Int), true), ?_, ?_⟩
      · apply Evt.succ
        simp only [leatworkref03_token.l2]
        rw [e2, hx]
        exact Evt.pos (by omega) (Evt.pos (by rw [size_B]; omega) (Evt.bind (Evt.const rsymbols_f) (Evt.pos (by omega) (Evt.pos (by omega) (Evt.bind (in_e rsymL _ (by simp [rsymL])) (Evt.pos (by simpa using hm) (Evt.pure _)))))))
      · rw [if_pos ⟨h2, hm⟩]
        rfl
    · refine ⟨v1, ?_, ?_⟩
      · apply Evt.succ
        simp only [leatworkref03_token.l2]
        rw [e2, hx, d2]
        exact Evt.pos (by omega) (Evt.pos (by rw [size_B]; omega) (Evt.bind (Evt.const rsymbols_f) (Evt.pos (by omega) (Evt.pos (by omega) (Evt.bind (in_e rsymL _ (by simp [rsymL])) (Evt.neg (by simpa using hm) hv1))))))
      · rw [if_neg (fun h => hm h.2)]
        exact hr1
  · refine ⟨v1, ?_, ?_⟩
    · apply Evt.succ
      simp only [leatworkref03_token.l2]
      rw [e2, d2]
      exact Evt.pos (by omega) (Evt.neg (by rw [size_B]; omega) hv1)
    · rw [if_neg (fun h => h2 h.1)]
      exact hr1
theorem rtoken_e (l : List UInt8) (hl : l.length < 4611686018427387904) (i : Nat) (hi : i < l.length) :
    ∃ v, Evt (fun k => leatworkref03_token.f k (B l) (i : Int)) v ∧ Rt i (tokS (l.drop i)) v := by
  have hdrop : l.drop i = l[i] :: l.drop (i + 1) := drop_cons hi
  have hbti : bt (B l) (i : Int) = ((l[i]).toNat : Int) := bt_B l i hi
  have eta : ∀ v : Int × ByteArray × Int × Int × Bool, (v.1, v.2.1, v.2.2.1, v.2.2.2.1, v.2.2.2.2) = v := fun _ => rfl
  have hdig : leatworkref03_digit.f (B l) (i : Int) = some (isDig l[i]) := by
    rw [digit_f, List.getElem?_eq_getElem hi]; rfl
  rw [hdrop, tokS_cons]
  unfold leatworkref03_token.f
  by_cases hn : isDig l[i] = true ∨ (l[i]).toNat = 126
  · obtain ⟨v, hv, hr⟩ := rnumber_e l hl i hi
    rw [if_pos hn]
    rw [hdrop] at hr
    refine ⟨v, ?_, hr⟩
    have yes : Evt (fun k => leatworkref03_token.j0 k (B l) (i : Int) true) v := by
      apply Evt.succ
      simp only [leatworkref03_token.j0]
      refine Evt.pos trivial (Evt.bind hv ?_)
      rw [eta]
      exact Evt.pure _
    refine Evt.bind (Evt.const hdig) ?_
    by_cases hd : isDig l[i] = true
    · exact Evt.pos hd yes
    · refine Evt.neg hd (Evt.pos (by omega) (Evt.pos (by rw [size_B]; omega) ?_))
      rw [hbti, beq_iff_eq.2 (show ((l[i]).toNat : Int) = 126 by have := hn.resolve_left hd; omega)]
      exact yes
  · rw [if_neg hn]
    have hd : ¬ isDig l[i] = true := fun h => hn (.inl h)
    have h126 : ¬ (l[i]).toNat = 126 := fun h => hn (.inr h)
    have start : ∀ v, Evt (fun k => if (bt (B l) (i : Int)) = 39 then (leatworkref03_token.l0 k (B l) (i : Int) (wrap64 ((i : Int) + 1))) else (if (bt (B l) (i : Int)) = 95 then (leatworkref03_token.j3 k (B l) (i : Int) (i : Int)) else (leatworkref03_token.l1 k (B l) (i : Int) (i : Int)))) v →
        Evt (fun k => (leatworkref03_digit.f (B l) (i : Int)).bind fun t205 => (if t205 = true then (leatworkref03_token.j0 k (B l) (i : Int) true) else (if 0 ≤ (i : Int) then (if (i : Int) < ((B l).size : Int) then (leatworkref03_token.j0 k (B l) (i : Int) ((bt (B l) (i : Int)) == 126)) else (none)) else (none)))) v := by
      intro v h
      refine Evt.bind (Evt.const hdig) (Evt.neg hd (Evt.pos (by omega) (Evt.pos (by rw [size_B]; omega) ?_)))
      rw [hbti, beq_eq_false_iff_ne.2 (show ¬ ((l[i]).toNat : Int) = 126 by omega)]
      apply Evt.succ
      simp only [leatworkref03_token.j0]
      exact Evt.neg (by simp) (Evt.pos (by omega) (Evt.pos (by rw [size_B]; omega) h))
    have syms : ∀ v, Evt (fun k => leatworkref03_token.l2 k (B l) (i : Int) 2) v → Evt (fun k => leatworkref03_token.j3 k (B l) (i : Int) (i : Int)) v := by
      intro v h
      apply Evt.succ
      simp only [leatworkref03_token.j3]
      exact Evt.neg (by omega) h
    by_cases hw : isLow l[i] = true ∨ isUp l[i] = true
    · rw [if_pos hw]
      have h39 : ¬ (l[i]).toNat = 39 ∧ ¬ (l[i]).toNat = 95 := by
        rcases hw with h | h
        · simp only [isLow, Bool.and_eq_true, decide_eq_true_eq] at h; omega
        · simp only [isUp, Bool.and_eq_true, decide_eq_true_eq] at h; omega
      obtain ⟨v, hv, hr⟩ := rword_at l hl i hi hw
      rw [hdrop] at hr
      refine ⟨v, start v ?_, hr⟩
      rw [hbti]
      exact Evt.neg (by omega) (Evt.neg (by omega) hv)
    · rw [if_neg hw]
      by_cases h39 : (l[i]).toNat = 39
      · rw [if_pos h39]
        obtain ⟨v, hv, hr⟩ := rquote_at l hl i hi
        refine ⟨v, start v ?_, hr⟩
        rw [hbti, w64s i (by omega)]
        exact Evt.pos (by omega) hv
      · rw [if_neg h39]
        obtain ⟨v, hv, hr⟩ := rsym_at l hl i hi
        rw [hdrop] at hr
        refine ⟨v, start v ?_, hr⟩
        rw [hbti]
        refine Evt.neg (by omega) ?_
        by_cases h95 : (l[i]).toNat = 95
        · exact Evt.pos (by omega) (syms v hv)
        · refine Evt.neg (by omega) (rword_loop l hl (i : Int) v (l.length - i) i (by omega) ?_)
          have hnl : ¬ isLet l[i] = true := by
            intro h
            simp only [isLet, Bool.or_eq_true, beq_iff_eq] at h
            rcases h with ((h | h) | h) | h
            · exact hd h
            · exact hw (.inl h)
            · exact hw (.inr h)
            · exact h95 h
          rw [hdrop, List.takeWhile_cons_of_neg hnl]
          exact syms v hv
end Go.Proofs.YtakcnogmljbaiaaDoor.Q
