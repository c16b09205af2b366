/-
  The reference's token at a place: it is the token that the rest of the text begins with.
-/
import Derived.Test.YtakcnogmljbaiaaDoorQf
set_option linter.unusedVariables false
set_option linter.unusedSimpArgs false
namespace Go.Proofs.YtakcnogmljbaiaaDoor.Q
open Go.RowKit Go.Proofs.YtakcnogmljbaiaaDoorW.PrintWords Go.Proofs.YtakcnogmljbaiaaDoor.PLex

/-- What the reference's token may be, where a token o begins at place i. -/
def Rt (i : Nat) (o : Option (Int × List UInt8 × Nat)) (v : Int × ByteArray × Int × Int × Bool) : Prop :=
  match o with
  | some (k, t, n) => v = (k, B t, (i : Int), ((i + n : Nat) : Int), true)
  | none => v.2.2.2.2 = false

theorem decimal_loop (t : List UInt8) (ht : t.all isDig = true) (hl : t.length ≤ 13) : ∀ (d i acc : Nat), i + d = t.length → acc < 10 ^ i →
    Evt (fun k => leatworkref03_Decimal.l0 k (B t) (acc : Int) (i : Int)) ((decV acc (t.drop i) : Nat) : Int) := by
  intro d
  induction d with
  | zero =>
    intro i acc hi ha
    apply Evt.succ
    simp only [leatworkref03_Decimal.l0]
    rw [List.drop_eq_nil_of_le (by omega), decV_nil]
    exact Evt.neg (by rw [size_B]; omega) (Evt.pure _)
  | succ d ih =>
    intro i acc hi ha
    have hlt : i < t.length := by omega
    have hc := dig_of t[i] (List.all_eq_true.1 ht _ (List.getElem_mem hlt))
    have hp : 10 ^ i ≤ 10 ^ 13 := Nat.pow_le_pow_right (by omega) (by omega)
    have hb : acc < 10000000000000 := Nat.lt_of_lt_of_le ha hp
    apply Evt.succ
    simp only [leatworkref03_Decimal.l0]
    refine Evt.pos (by rw [size_B]; omega) (Evt.pos (by omega) ?_)
    rw [bt_B t i hlt, w64s i (by omega)]
    have e1 : wrap64 (10 * (acc : Int)) = 10 * (acc : Int) := w64 (by omega) (by omega)
    have e2 : (((t[i]).toNat : Int) - 48) % 256 = (((t[i]).toNat - 48 : Nat) : Int) := by omega
    have e3 : wrap64 (10 * (acc : Int) + (((t[i]).toNat - 48 : Nat) : Int)) = ((acc * 10 + ((t[i]).toNat - 48) : Nat) : Int) := by rw [w64 (by omega) (by omega)]; omega
    rw [e1, e2, e3, drop_cons hlt, decV_cons]
    exact ih (i + 1) _ (by omega) (by rw [Nat.pow_succ]; omega)
theorem Decimal_e (t : List UInt8) (ht : t.all isDig = true) (hl : t.length ≤ 13) : Evt (fun k => leatworkref03_Decimal.f k (B t)) ((decV 0 t : Nat) : Int) := by
  have := decimal_loop t ht hl t.length 0 0 (by omega) (by decide)
  simpa [leatworkref03_Decimal.f] using this
theorem digit_f (l : List UInt8) (i : Nat) : leatworkref03_digit.f (B l) (i : Int) = some ((l[i]?.map isDig).getD false) := by
  unfold leatworkref03_digit.f
  by_cases h : i < l.length
  · rw [if_pos (by rw [size_B]; omega), if_pos (by omega), bt_B l i h]
    have : l[i]? = some l[i] := List.getElem?_eq_getElem h
    rw [this]
    simp only [Option.map_some, Option.getD_some]
    by_cases h48 : ((l[i]).toNat : Int) ≥ 48
    · rw [if_pos h48]
      have a : 48 ≤ (l[i]).toNat := by omega
      unfold isDig
      rw [decide_eq_true a, Bool.true_and]
      exact congrArg some (decide_eq_decide.2 (by omega))
    · rw [if_neg h48]
      have a : ¬ 48 ≤ (l[i]).toNat := by omega
      unfold isDig
      rw [decide_eq_false a, Bool.false_and]
  · rw [if_neg (by rw [size_B]; omega)]
    rw [List.getElem?_eq_none (by omega)]
    rfl
theorem rnum_no (x0 : ByteArray) (x1 x7 x8 : Int) : Evt (fun k => leatworkref03_number.j2 k x0 x1 x7 x8 true) (0, (⟨#[]⟩ : ByteArray), 0, 0, false) := by
  apply Evt.succ
  simp only [leatworkref03_number.j2]
  exact Evt.pos trivial (Evt.pure _)
/-- The loop over the digits comes to where they end. -/
theorem rnum_loop (l : List UInt8) (hl : l.length < 4611686018427387904) (x1 : Int) (F : Nat) (v : Int × ByteArray × Int × Int × Bool) : ∀ (d i : Nat), i + d = l.length → F ≤ i →
    (∀ j, j = i + ((l.drop i).takeWhile isDig).length → Evt (fun k => if (j : Int) = (F : Int) then (leatworkref03_number.j2 k (B l) x1 (j : Int) (F : Int) true) else (if (wrap64 ((j : Int) - (F : Int))) > 13 then (leatworkref03_number.j2 k (B l) x1 (j : Int) (F : Int) true) else (if 0 ≤ (F : Int) then (if (F : Int) < ((B l).size : Int) then (if (bt (B l) (F : Int)) = 48 then (if (wrap64 ((j : Int) - (F : Int))) > 1 then (leatworkref03_number.j2 k (B l) x1 (j : Int) (F : Int) true) else (if 0 ≤ x1 then (if x1 < ((B l).size : Int) then (leatworkref03_number.j2 k (B l) x1 (j : Int) (F : Int) ((bt (B l) x1) == 126)) else (none)) else (none))) else (leatworkref03_number.j2 k (B l) x1 (j : Int) (F : Int) false)) else (none)) else (none)))) v) →
    Evt (fun k => leatworkref03_number.l0 k (B l) x1 (i : Int) (F : Int)) v := by
  intro d
  induction d with
  | zero =>
    intro i hi hF h
    apply Evt.succ
    simp only [leatworkref03_number.l0]
    refine Evt.bind (Evt.const (digit_f l i)) ?_
    rw [List.getElem?_eq_none (by omega)]
    refine Evt.neg (by simp) ?_
    refine h i ?_
    rw [List.drop_eq_nil_of_le (by omega)]
    rfl
  | succ d ih =>
    intro i hi hF h
    have hlt : i < l.length := by omega
    apply Evt.succ
    simp only [leatworkref03_number.l0]
    refine Evt.bind (Evt.const (digit_f l i)) ?_
    rw [List.getElem?_eq_getElem hlt]
    simp only [Option.map_some, Option.getD_some]
    by_cases hp : isDig l[i] = true
    · refine Evt.pos hp ?_
      rw [w64s i (by omega)]
      refine ih (i + 1) (by omega) (by omega) ?_
      intro j hj
      refine h j ?_
      rw [drop_cons hlt, List.takeWhile_cons_of_pos hp, List.length_cons]
      omega
    · refine Evt.neg hp (h i ?_)
      rw [drop_cons hlt, List.takeWhile_cons_of_neg hp]
      rfl
theorem extract_mid (l : List UInt8) (F j : Nat) : (B l).extract ((F : Nat) : Int).toNat ((j : Nat) : Int).toNat = B ((l.drop F).take (j - F)) := by
  rw [extract_B, Int.toNat_natCast, Int.toNat_natCast]
theorem rnumber_from (l : List UInt8) (hl : l.length < 4611686018427387904) (i F : Nat) (hi : i < l.length) (neg : Bool) (hneg : neg = ((l[i]).toNat == 126)) (hF : F = i + (if neg then 1 else 0)) :
    ∃ v, Evt (fun k => leatworkref03_number.l0 k (B l) (i : Int) (F : Int) (F : Int)) v ∧ Rt i (intS neg (l.drop F)) v := by
  have hFl : F ≤ l.length := by split at hF <;> omega
  have hle := takeWhile_le (p := isDig) (l.drop F)
  have hld : (l.drop F).length = l.length - F := List.length_drop
  have hall := all_takeWhile isDig (l.drop F)
  have htake := takeWhile_take (p := isDig) (l.drop F)
  have hI : intS neg (l.drop F) = (if badInt neg ((l.drop F).takeWhile isDig) then none
      else some (1, (if neg then [45] else []) ++ ((l.drop F).takeWhile isDig), ((l.drop F).takeWhile isDig).length + (if neg then 1 else 0))) := rfl
  rw [hI]
  clear hI
  generalize hT : (l.drop F).takeWhile isDig = t at *
  have hw : wrap64 (((F + t.length : Nat) : Int) - (F : Int)) = (t.length : Int) := by rw [w64 (by omega) (by omega)]; omega
  have hbti : bt (B l) (i : Int) = ((l[i]).toNat : Int) := bt_B l i hi
  have loop := fun v => rnum_loop l hl (i : Int) F v (l.length - F) F (by omega) (Nat.le_refl _)
  rw [hT] at loop
  by_cases h0 : t = []
  · refine ⟨_, loop (0, (⟨#[]⟩ : ByteArray), 0, 0, false) ?_, ?_⟩
    · intro j hj
      subst h0
      exact Evt.pos (by simp only [List.length_nil] at hj; omega) (rnum_no _ _ _ _)
    · rw [if_pos (show badInt neg t from .inl h0)]
      rfl
  · have hpos : 0 < t.length := List.length_pos_iff.2 h0
    by_cases h13 : t.length > 13
    · refine ⟨_, loop (0, (⟨#[]⟩ : ByteArray), 0, 0, false) ?_, ?_⟩
      · intro j hj
        subst hj
        refine Evt.neg (by omega) ?_
        rw [hw]
        exact Evt.pos (by omega) (rnum_no _ _ _ _)
      · rw [if_pos (show badInt neg t from .inr (.inr (.inl h13)))]
        rfl
    · obtain ⟨c, r, rfl⟩ : ∃ c r, t = c :: r := by
        cases t with
        | nil => exact absurd rfl h0
        | cons c r => exact ⟨c, r, rfl⟩
      have hFlt : F < l.length := by omega
      have hdrop : l.drop F = l[F] :: l.drop (F + 1) := drop_cons hFlt
      have hc : l[F] = c := by
        have e := htake
        rw [hdrop, List.length_cons, List.take_succ_cons] at e
        exact (List.cons.inj e).1
      have hbt : bt (B l) (F : Int) = (c.toNat : Int) := by rw [bt_B l F hFlt, hc]
      have h48 : (c.toNat : Int) = 48 ↔ (c :: r).head? = some 48 := by
        simp only [List.head?_cons, Option.some.injEq]
        constructor
        · intro h
          apply UInt8.toNat_inj.1
          have : c.toNat = 48 := by omega
          rw [this]; rfl
        · intro h; subst h; rfl
      -- the digits are read
      have fin : ((c :: r).head? = some 48 → ¬ ((c :: r).length > 1 ∨ neg = true)) →
          ∃ v, Evt (fun k => leatworkref03_number.j2 k (B l) (i : Int) ((F + (c :: r).length : Nat) : Int) (F : Int) false) v ∧ Rt i (if badInt neg (c :: r) then none
            else some (1, (if neg then [45] else []) ++ (c :: r), (c :: r).length + (if neg then 1 else 0))) v := by
        intro hz
        have hex : (B l).extract ((F : Nat) : Int).toNat ((F + (c :: r).length : Nat) : Int).toNat = B (c :: r) := by
          rw [extract_mid, Nat.add_sub_cancel_left, htake]
        have hend : ((i + ((c :: r).length + (if neg then 1 else 0)) : Nat) : Int) = ((F + (c :: r).length : Nat) : Int) := by omega
        have go : Evt (fun k => leatworkref03_number.j2 k (B l) (i : Int) ((F + (c :: r).length : Nat) : Int) (F : Int) false)
            (1, B ((if neg then [45] else []) ++ (c :: r)), (i : Int), ((F + (c :: r).length : Nat) : Int), decide (((decV 0 (c :: r) : Nat) : Int) ≤ 1099511627776)) := by
          apply Evt.succ
          simp only [leatworkref03_number.j2]
          refine Evt.neg (by simp) (Evt.pos (by omega) (Evt.pos (by omega) (Evt.pos (by rw [size_B]; omega) ?_)))
          rw [hex]
          refine Evt.bind (Decimal_e _ hall (by omega)) (Evt.pos (by omega) (Evt.pos (by rw [size_B]; omega) ?_))
          rw [hbti]
          cases neg with
          | true =>
            have : (l[i]).toNat = 126 := by simpa using hneg.symm
            refine Evt.pos (by omega) (Evt.pos (by rw [size_B]; omega) ?_)
            have e : (⟨#[45]⟩ : ByteArray) ++ B (c :: r) = B ([45] ++ (c :: r)) := append_B [45] (c :: r)
            rw [e]
            exact Evt.pure _
          | false =>
            have : ¬ (l[i]).toNat = 126 := by simpa using hneg.symm
            exact Evt.neg (by omega) (Evt.pure _)
        refine ⟨_, go, ?_⟩
        by_cases hv : decV 0 (c :: r) > 1099511627776
        · rw [if_pos (show badInt neg (c :: r) from .inr (.inr (.inr hv)))]
          show decide _ = false
          exact decide_eq_false (by omega)
        · rw [if_neg (show ¬ badInt neg (c :: r) by
            rintro (h | h | h | h)
            · cases h
            · exact hz h.1 h.2
            · exact h13 h
            · exact hv h)]
          show _ = _
          rw [hend, decide_eq_true (show ((decV 0 (c :: r) : Nat) : Int) ≤ 1099511627776 by omega)]
      by_cases hz : (c.toNat : Int) = 48
      · by_cases h1 : (c :: r).length > 1 ∨ neg = true
        · refine ⟨_, loop (0, (⟨#[]⟩ : ByteArray), 0, 0, false) ?_, ?_⟩
          · intro j hj
            subst hj
            refine Evt.neg (by omega) ?_
            rw [hw, hbt, hbti]
            refine Evt.neg (by omega) (Evt.pos (by omega) (Evt.pos (by rw [size_B]; omega) (Evt.pos hz ?_)))
            by_cases h2 : (c :: r).length > 1
            · exact Evt.pos (by omega) (rnum_no _ _ _ _)
            · have hn : neg = true := h1.resolve_left h2
              refine Evt.neg (by omega) (Evt.pos (by omega) (Evt.pos (by rw [size_B]; omega) ?_))
              have : (l[i]).toNat = 126 := by rw [hn] at hneg; simpa using hneg.symm
              rw [beq_iff_eq.2 (show ((l[i]).toNat : Int) = 126 by omega)]
              exact rnum_no _ _ _ _
          · rw [if_pos (show badInt neg (c :: r) from .inr (.inl ⟨h48.1 hz, h1⟩))]
            rfl
        · obtain ⟨v, hv, hr⟩ := fin (fun _ => h1)
          refine ⟨v, loop v ?_, hr⟩
          intro j hj
          subst hj
          refine Evt.neg (by omega) ?_
          rw [hw, hbt, hbti]
          refine Evt.neg (by omega) (Evt.pos (by omega) (Evt.pos (by rw [size_B]; omega) (Evt.pos hz ?_)))
          have hn : neg = false := by cases neg with
            | true => exact absurd (.inr rfl) h1
            | false => rfl
          refine Evt.neg (fun h => h1 (.inl (by omega))) (Evt.pos (by omega) (Evt.pos (by rw [size_B]; omega) ?_))
          have : ¬ (l[i]).toNat = 126 := by rw [hn] at hneg; simpa using hneg.symm
          rw [beq_eq_false_iff_ne.2 (show ¬ ((l[i]).toNat : Int) = 126 by omega)]
          exact hv
      · obtain ⟨v, hv, hr⟩ := fin (fun h => absurd (h48.2 h) hz)
        refine ⟨v, loop v ?_, hr⟩
        intro j hj
        subst hj
        refine Evt.neg (by omega) ?_
        rw [hw, hbt]
        exact Evt.neg (by omega) (Evt.pos (by omega) (Evt.pos (by rw [size_B]; omega) (Evt.neg hz hv)))
theorem rnumber_e (l : List UInt8) (hl : l.length < 4611686018427387904) (i : Nat) (hi : i < l.length) :
    ∃ v, Evt (fun k => leatworkref03_number.f k (B l) (i : Int)) v ∧ Rt i (intS ((l[i]).toNat == 126) (if (l[i]).toNat = 126 then l.drop (i + 1) else l.drop i)) v := by
  have hbti : bt (B l) (i : Int) = ((l[i]).toNat : Int) := bt_B l i hi
  unfold leatworkref03_number.f
  by_cases h : (l[i]).toNat = 126
  · obtain ⟨v, hv, hr⟩ := rnumber_from l hl i (i + 1) hi true (beq_iff_eq.2 h).symm rfl
    refine ⟨v, Evt.pos (by omega) (Evt.pos (by rw [size_B]; omega) ?_), ?_⟩
    · rw [hbti, w64s i (by omega)]
      refine Evt.pos (by omega) (Evt.succ ?_)
      simp only [leatworkref03_number.j0]
      exact hv
    · rw [if_pos h, beq_iff_eq.2 h]
      exact hr
  · obtain ⟨v, hv, hr⟩ := rnumber_from l hl i i hi false (beq_eq_false_iff_ne.2 h).symm rfl
    refine ⟨v, Evt.pos (by omega) (Evt.pos (by rw [size_B]; omega) ?_), ?_⟩
    · rw [hbti]
      refine Evt.neg (by omega) (Evt.succ ?_)
      simp only [leatworkref03_number.j0]
      exact hv
    · rw [if_neg h, beq_eq_false_iff_ne.2 h]
      exact hr
end Go.Proofs.YtakcnogmljbaiaaDoor.Q
