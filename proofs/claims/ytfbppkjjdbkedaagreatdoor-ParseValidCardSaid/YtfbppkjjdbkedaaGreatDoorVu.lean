/-
  Plain law: what is valid, both ways.
-/
import Derived.Test.YtfbppkjjdbkedaaGreatDoorVt
namespace Go.Proofs.YtfbppkjjdbkedaaGreatDoor.Ref
noncomputable section
open Go
set_option linter.unusedVariables false
set_option linter.unusedSimpArgs false
set_option maxRecDepth 100000
theorem eqB_self (a : ByteArray) : eqB a a = true := eqB_iff.2 rfl
theorem eqB_ne {a b : ByteArray} (h : a ≠ b) : eqB a b = false := Bool.eq_false_iff.2 fun e => h (eqB_iff.1 e)
theorem eqB_comm (a b : ByteArray) : eqB a b = eqB b a := by
  rw [Bool.eq_iff_iff, eqB_iff, eqB_iff]; exact eq_comm
-- ---------------------------------------------------------------- variables that differ
def varTexts : List Syn → List ByteArray
  | [] => []
  | x :: l => if eqB x.kind ⟨#[118, 97, 114]⟩ = true then x.text :: varTexts l else varTexts l
theorem varTexts_app : ∀ (l m : List Syn), varTexts (l ++ m) = varTexts l ++ varTexts m
  | [], m => rfl
  | x :: l, m => by
    simp only [List.cons_append, varTexts]
    split <;> simp [varTexts_app l m]
theorem hasS_no (l : List ByteArray) (x : ByteArray) : (!hasS l x) = true ↔ ¬ x ∈ l := by
  rw [← hasS_iff]; cases hasS l x <;> simp
theorem mem_varTexts {t : ByteArray} : ∀ {l : List Syn}, t ∈ varTexts l ↔ ∃ y ∈ l, eqB y.kind ⟨#[118, 97, 114]⟩ = true ∧ y.text = t
  | [] => by simp [varTexts]
  | x :: l => by
    simp only [varTexts]
    split
    · rename_i h
      simp only [List.mem_cons, mem_varTexts (l := l)]
      constructor
      · rintro (rfl | ⟨y, h1, h2⟩)
        · exact ⟨x, .inl rfl, h, rfl⟩
        · exact ⟨y, .inr h1, h2⟩
      · rintro ⟨y, rfl | h1, h2, h3⟩
        · exact .inl h3.symm
        · exact .inr ⟨y, h1, h2, h3⟩
    · rename_i h
      rw [mem_varTexts (l := l)]
      constructor
      · rintro ⟨y, h1, h2⟩
        exact ⟨y, List.mem_cons_of_mem _ h1, h2⟩
      · rintro ⟨y, h1, h2, h3⟩
        rcases List.mem_cons.1 h1 with rfl | h1
        · exact absurd h2 h
        · exact ⟨y, h1, h2, h3⟩
theorem clash_any (x : Syn) (pre : List Syn) (h : eqB x.kind ⟨#[118, 97, 114]⟩ = true) : pre.all (fun y => !clash x y) = !hasS (varTexts pre) x.text := by
  rw [Bool.eq_iff_iff, hasS_no]
  simp only [List.all_eq_true, Bool.not_eq_true', mem_varTexts, clash, h, Bool.true_and, Bool.and_eq_false_iff]
  constructor
  · rintro h1 ⟨y, h2, h3, h4⟩
    rcases h1 y h2 with h5 | h5
    · rw [h3] at h5; cases h5
    · rw [h4, eqB_self] at h5; cases h5
  · intro h1 y h2
    cases h3 : eqB y.kind ⟨#[118, 97, 114]⟩
    · exact .inl rfl
    · refine .inr (eqB_ne fun e => h1 ⟨y, h2, h3, e.symm⟩)
theorem differ_eq : ∀ (l pre : List Syn), differR pre l = differM l (varTexts pre)
  | [], pre => rfl
  | x :: l, pre => by
    simp only [differR, differM, differ_eq l (pre ++ [x]), varTexts_app]
    cases h : eqB x.kind ⟨#[118, 97, 114]⟩
    · have : varTexts [x] = [] := by simp [varTexts, h]
      rw [this, List.append_nil]
      have h2 : pre.all (fun y => !clash x y) = true := by
        rw [List.all_eq_true]; intro y hy; simp [clash, h]
      rw [h2]; simp
    · have : varTexts [x] = [x.text] := by simp [varTexts, h]
      rw [this, clash_any x pre h]
      cases hasS (varTexts pre) x.text <;> simp
-- ---------------------------------------------------------------- operators
def opTry (o : ByteArray) (i L : Nat) : Bool := match atB o (subB o (i + 1) (i + 1 + L)) i && !blankB (subB o (i + 1) (i + 1 + L)) && !Nat.beq L 0 with
  | true => opR (subB o (i + 1) (i + 1 + L))
  | false => true
def opTry2 (o : ByteArray) : Bool := allN (fun i => allN (fun L => opTry o i L) 0 18) 0 18
theorem op_all : lvs.all (fun p => opTry2 p.1) = true := by kernel_rfl
theorem op_nine : opsR.all (fun s => lvs.any (fun p => !eqB s ⟨#[]⟩ && opM p.1 s)) = true := by kernel_rfl
theorem op_len : lvs.all (fun p => Nat.ble p.1.data.toList.length 18) = true := by kernel_rfl
theorem opGo_true (o s : ByteArray) : ∀ (n i : Nat), opGo o s i n = true → ∃ j, i ≤ j ∧ j < i + n ∧ (atB o s j && !blankB s) = true
  | 0, i, h => by simp [opGo] at h
  | n + 1, i, h => by
    simp only [opGo, Bool.or_eq_true] at h
    rcases h with h | h
    · exact ⟨i, Nat.le_refl _, by omega, h⟩
    · obtain ⟨j, h1, h2, h3⟩ := opGo_true o s n (i + 1) h
      exact ⟨j, by omega, by omega, h3⟩
theorem atB_sub {o s : ByteArray} {i : Nat} (h : atB o s i = true) : s = subB o (i + 1) (i + 1 + s.data.toList.length) := by
  have h := eqB_iff.1 h
  have h2 := congrArg (fun b : ByteArray => (b.data.toList.drop 1).take s.data.toList.length) h
  simp only [subB, catB] at h2
  have h3 : s.data.toList = (subB o (i + 1) (i + 1 + s.data.toList.length)).data.toList := by
    simp only [subB]
    rw [show i + 1 + s.data.toList.length - (i + 1) = s.data.toList.length by omega]
    rw [show i + s.data.toList.length + 2 - i = s.data.toList.length + 2 by omega] at h2
    rw [List.drop_take, List.drop_drop, List.take_take] at h2
    rw [show min s.data.toList.length (s.data.toList.length + 2 - 1) = s.data.toList.length by omega] at h2
    rw [h2]; simp
  cases hs : s with
  | mk a =>
    cases a with
    | mk b =>
      rw [hs] at h3
      simp only [subB] at h3 ⊢
      exact congrArg (fun l => (⟨⟨l⟩⟩ : ByteArray)) h3
theorem opR_of (s : ByteArray) (p : ByteArray × Bool) (hp : p ∈ lvs) (h0 : eqB s ⟨#[]⟩ = false) (h : opM p.1 s = true) : opR s = true := by
  obtain ⟨j, _, h1, h2⟩ := opGo_true _ _ _ _ h
  have hl := List.all_eq_true.1 op_len p hp
  have hl := Nat.le_of_ble_eq_true hl
  have ha := List.all_eq_true.1 op_all p hp
  have hj := allN_of 18 0 ha j (by omega) (by omega)
  have hL := allN_of 18 0 hj s.data.toList.length (by omega) (by omega)
  simp only [Bool.and_eq_true] at h2
  have e := atB_sub h2.1
  simp only [opTry, ← e] at hL
  have hne : s.data.toList.length ≠ 0 := fun hz => by
    have h4 : s = ⟨#[]⟩ := by
      cases s with
      | mk a => cases a with
        | mk b => simp at hz; subst hz; rfl
    rw [h4, eqB_self] at h0; cases h0
  have hb : Nat.beq s.data.toList.length 0 = false := by
    cases hq : Nat.beq s.data.toList.length 0
    · rfl
    · exact absurd (Nat.eq_of_beq_eq_true hq) hne
  rw [h2.1, h2.2, hb] at hL
  exact hL
theorem op_eq (x : Syn) : lvs.any (opX x) = opR x.text := by
  rw [Bool.eq_iff_iff]
  constructor
  · intro h
    obtain ⟨p, h1, h2⟩ := List.any_eq_true.1 h
    simp only [opX, Bool.and_eq_true, Bool.not_eq_true'] at h2
    exact opR_of _ p h1 h2.1 h2.2
  · intro h
    obtain ⟨s, h1, h2⟩ := List.any_eq_true.1 h
    have e := eqB_iff.1 h2
    have h3 := List.all_eq_true.1 op_nine s h1
    rw [e] at h3
    exact h3
-- ---------------------------------------------------------------- leaves
theorem bareR_true (x : Syn) (a b : Bool) : bareR x a b true = bareM x a b := by simp [bareR, bareM]
theorem bareR_false (x : Syn) (a b : Bool) : bareR x a b false = (bareM x a b && noKids x.kids) := by simp [bareR, bareM]
theorem formalX_true (x : Syn) : formalX true x = isVarM x := by
  obtain ⟨k, t, n, l⟩ := x
  by_cases h : k = ⟨#[118, 97, 114]⟩
  · subst h
    have h1 : simpleM (.mk ⟨#[118, 97, 114]⟩ t n l) = (bareR (.mk ⟨#[118, 97, 114]⟩ t n l) true false false && wordL t.data.toList 65 90) := rfl
    have h2 : isVarM (.mk ⟨#[118, 97, 114]⟩ t n l) = (wordL t.data.toList 65 90 && (n == 0) && noKids l) := rfl
    have h3 : formalX true (.mk ⟨#[118, 97, 114]⟩ t n l) = (simpleM (.mk ⟨#[118, 97, 114]⟩ t n l) && true) := rfl
    rw [h3, h1, h2, bareR_false]
    show ((((true || _) && (false || (n == 0))) && noKids l) && _ && true) = _
    cases wordL t.data.toList 65 90 <;> simp
  · have h1 : eqB k ⟨#[118, 97, 114]⟩ = false := eqB_ne h
    simp only [formalX, isVarM, Syn.kind, h1, Bool.false_and, Bool.or_false, Bool.not_true, Bool.and_false]
theorem formalX_false (x : Syn) : formalX false x = isParamM x := by
  obtain ⟨k, t, n, l⟩ := x
  by_cases h : k = ⟨#[118, 97, 114]⟩
  · subst h
    have h0 := formalX_true (.mk ⟨#[118, 97, 114]⟩ t n l)
    have h3 : formalX true (.mk ⟨#[118, 97, 114]⟩ t n l) = (simpleM (.mk ⟨#[118, 97, 114]⟩ t n l) && true) := rfl
    have h4 : formalX false (.mk ⟨#[118, 97, 114]⟩ t n l) = (simpleM (.mk ⟨#[118, 97, 114]⟩ t n l) && true) := rfl
    have h5 : isParamM (.mk ⟨#[118, 97, 114]⟩ t n l) = (isVarM (.mk ⟨#[118, 97, 114]⟩ t n l) || false) := rfl
    rw [h4, h5, ← h3, h0, Bool.or_false]
  · by_cases h' : k = ⟨#[97, 110, 121]⟩
    · subst h'
      have h1 : formalX false (.mk ⟨#[97, 110, 121]⟩ t n l) = (bareR (.mk ⟨#[97, 110, 121]⟩ t n l) false false false && true) := rfl
      have h2 : isParamM (.mk ⟨#[97, 110, 121]⟩ t n l) = (bareM (.mk ⟨#[97, 110, 121]⟩ t n l) false false && noKids l) := rfl
      rw [h1, h2, bareR_false, Bool.and_true]; rfl
    · have h1 : eqB k ⟨#[118, 97, 114]⟩ = false := eqB_ne h
      have h2 : eqB k ⟨#[97, 110, 121]⟩ = false := eqB_ne h'
      simp only [formalX, isParamM, isVarM, Syn.kind, h1, h2, Bool.false_and, Bool.or_false, Bool.not_false, Bool.and_false, Bool.true_and]
theorem all_congr {α : Type} {f g : α → Bool} : ∀ (l : List α), (∀ x ∈ l, f x = g x) → l.all f = l.all g
  | [], _ => rfl
  | x :: l, h => by simp only [List.all_cons, h x (List.mem_cons_self ..), all_congr l fun y hy => h y (List.mem_cons_of_mem _ hy)]
theorem formalM_false (l : List Syn) : formalM l false = (l.all isParamM && differM l []) := by
  have : formalX false = isParamM := funext formalX_false
  simp only [formalM, this, differ_eq, varTexts, Bool.not_false, Bool.true_or, Bool.and_true]
theorem formalM_true (l : List Syn) : formalM l true = varsM l := by
  have : formalX true = isVarM := funext formalX_true
  simp only [formalM, this, differ_eq, varTexts, Bool.not_true, Bool.false_or, varsM]
  rw [show decide (l.length ≥ 1) = decide (0 < l.length) from rfl, Bool.and_comm, Bool.and_assoc]
/-- What a leaf is, if expressions are told by g. -/
theorem leaf_eq {g : Syn → Bool} (hi : ∀ t n l, g (.mk ⟨#[105, 110, 116]⟩ t n l) = (bareM (.mk ⟨#[105, 110, 116]⟩ t n l) false true && decide (n ≥ -1099511627776) && decide (n ≤ 1099511627776) && (lenI l == 0))) (ha : ∀ t n l, g (.mk ⟨#[97, 116, 111, 109]⟩ t n l) = (bareM (.mk ⟨#[97, 116, 111, 109]⟩ t n l) true false && atomB t && (lenI l == 0))) (x : Syn) : leafF g x = simpleM x := by
  obtain ⟨k, t, n, l⟩ := x
  by_cases h : k = ⟨#[118, 97, 114]⟩
  · subst h
    have h1 : leafF g (.mk ⟨#[118, 97, 114]⟩ t n l) = (isParamM (.mk ⟨#[118, 97, 114]⟩ t n l) || false) := rfl
    have h4 : formalX false (.mk ⟨#[118, 97, 114]⟩ t n l) = (simpleM (.mk ⟨#[118, 97, 114]⟩ t n l) && true) := rfl
    rw [h1, ← formalX_false, h4]; simp
  by_cases h' : k = ⟨#[97, 110, 121]⟩
  · subst h'
    have h1 : leafF g (.mk ⟨#[97, 110, 121]⟩ t n l) = (isParamM (.mk ⟨#[97, 110, 121]⟩ t n l) || false) := rfl
    have h4 : formalX false (.mk ⟨#[97, 110, 121]⟩ t n l) = (simpleM (.mk ⟨#[97, 110, 121]⟩ t n l) && true) := rfl
    rw [h1, ← formalX_false, h4]; simp
  by_cases h2 : k = ⟨#[105, 110, 116]⟩
  · subst h2
    have h1 : leafF g (.mk ⟨#[105, 110, 116]⟩ t n l) = (false || (true && g (.mk ⟨#[105, 110, 116]⟩ t n l))) := rfl
    have h4 : simpleM (.mk ⟨#[105, 110, 116]⟩ t n l) = (bareR (.mk ⟨#[105, 110, 116]⟩ t n l) false true false && decide (n ≥ -1099511627776) && decide (n ≤ 1099511627776)) := rfl
    rw [h1, h4, hi, bareR_false, Bool.false_or, Bool.true_and]
    show _ = (_ && (lenI l == 0) && _ && _)
    cases (lenI l == 0) <;> simp
  by_cases h3 : k = ⟨#[97, 116, 111, 109]⟩
  · subst h3
    have h1 : leafF g (.mk ⟨#[97, 116, 111, 109]⟩ t n l) = (false || (true && g (.mk ⟨#[97, 116, 111, 109]⟩ t n l))) := rfl
    have h4 : simpleM (.mk ⟨#[97, 116, 111, 109]⟩ t n l) = (bareR (.mk ⟨#[97, 116, 111, 109]⟩ t n l) true false false && atomB t) := rfl
    rw [h1, h4, ha, bareR_false, Bool.false_or, Bool.true_and]
    show _ = (_ && (lenI l == 0) && _)
    cases (lenI l == 0) <;> simp
  · simp only [leafF, simpleM, isParamM, isVarM, Syn.kind, eqB_ne h, eqB_ne h', eqB_ne h2, eqB_ne h3, Bool.false_and, Bool.or_false, Bool.false_eq_true, if_false]
theorem pat_eq {g : Syn → Bool} (h : ∀ x, leafF g x = simpleM x) (x : Syn) : patF g x = patternM x := by
  have : leafF g = simpleM := funext h
  simp only [patF, patternM, this, differ_eq, varTexts]
  split
  · cases atomB x.text <;> cases (x.int == 0) <;> cases decide (x.kids.length ≥ 1) <;> cases decide (x.kids.length ≤ 8) <;> cases x.kids.all simpleM <;> simp
  · rfl
theorem arm_eq {ge gs : Syn → Bool} (h : (∀ x, leafF ge x = simpleM x) ∨ (∀ x, gs x = false)) (x : Syn) : armF ge gs x = armR gs x := by
  simp only [armF, armR, bareR_true]
  refine congrArg (fun b => eqB x.kind ⟨#[97, 114, 109]⟩ && bareM x false false && b) ?_
  rcases h with h | h
  · have : patF ge = patternM := funext fun y => pat_eq h y
    rw [this]
    generalize x.kids = l
    rcases l with _ | ⟨a, _ | ⟨b, _ | ⟨c, r⟩⟩⟩ <;> rfl
  · simp only [h, Bool.and_false]
    generalize x.kids = l
    rcases l with _ | ⟨a, _ | ⟨b, _ | ⟨c, r⟩⟩⟩ <;> rfl
theorem all_notSeq {g : Syn → Bool} : ∀ l : List Syn, l.all (notSeq g) = (l.all (fun y => !eqB y.kind ⟨#[115, 101, 113]⟩) && l.all g)
  | [] => rfl
  | a :: l => by
    simp only [List.all_cons, all_notSeq l, notSeq]
    cases eqB a.kind ⟨#[115, 101, 113]⟩ <;> cases g a <;> simp
theorem last_zero {l : List Syn} (h : ¬ 1 ≤ l.length) : l.getLastD zeroS = zeroS := by
  have : l = [] := List.eq_nil_of_length_eq_zero (by omega)
  subst this; rfl
theorem expr_eq {ge gs : Syn → Bool} (hz : ge zeroS = false) (hz' : gs zeroS = false) (x : Syn) : exprR ge gs x = exprB ge gs x := by
  obtain ⟨k, t, n, l⟩ := x
  by_cases q0 : k = ⟨#[116, 117, 112, 108, 101]⟩
  · subst q0
    have h1 : exprR ge gs (.mk ⟨#[116, 117, 112, 108, 101]⟩ t n l) = (bareR (.mk ⟨#[116, 117, 112, 108, 101]⟩ t n l) true false true && atomB t && decide (((eSyns l).length : Int) ≥ 1) && decide (((eSyns l).length : Int) ≤ 8) && l.all ge) := rfl
    have h2 : exprB ge gs (.mk ⟨#[116, 117, 112, 108, 101]⟩ t n l) = (bareM (.mk ⟨#[116, 117, 112, 108, 101]⟩ t n l) true false && atomB t && decide (lenI l ≥ 1) && decide (lenI l ≤ 8) && l.all ge) := rfl
    rw [h1, h2]
    rw [bareR_true]; rfl
  by_cases q1 : k = ⟨#[111, 112]⟩
  · subst q1
    have h1 : exprR ge gs (.mk ⟨#[111, 112]⟩ t n l) = (opR t && bareR (.mk ⟨#[111, 112]⟩ t n l) true false true && (((eSyns l).length : Int) == 2) && l.all ge) := rfl
    have h2 : exprB ge gs (.mk ⟨#[111, 112]⟩ t n l) = (lvs.any (opX (.mk ⟨#[111, 112]⟩ t n l)) && (n == 0) && (lenI l == 2) && l.all ge) := rfl
    rw [h1, h2]
    rw [bareR_true, op_eq]
    show (opR t && ((true || _) && (false || (n == 0))) && _ && _) = _
    rw [Bool.true_or, Bool.false_or, Bool.true_and]; rfl
  by_cases q2 : k = ⟨#[99, 97, 108, 108]⟩
  · subst q2
    have h1 : exprR ge gs (.mk ⟨#[99, 97, 108, 108]⟩ t n l) = (bareR (.mk ⟨#[99, 97, 108, 108]⟩ t n l) false false true && decide (((eSyns l).length : Int) ≥ 1) && l.all ge) := rfl
    have h2 : exprB ge gs (.mk ⟨#[99, 97, 108, 108]⟩ t n l) = ((if bareM (.mk ⟨#[99, 97, 108, 108]⟩ t n l) false false = false then false else (decide (lenI l ≥ 1) && l.all ge))) := rfl
    rw [h1, h2]
    rw [bareR_true]
    cases bareM (.mk ⟨#[99, 97, 108, 108]⟩ t n l) false false <;> simp [lenI]
  by_cases q3 : k = ⟨#[102, 110]⟩
  · subst q3
    have h1 : exprR ge gs (.mk ⟨#[102, 110]⟩ t n l) = (bareR (.mk ⟨#[102, 110]⟩ t n l) false false true && decide (((eSyns l).length : Int) ≥ 1) && formalM l.dropLast false && ge (l.getLastD zeroS)) := rfl
    have h2 : exprB ge gs (.mk ⟨#[102, 110]⟩ t n l) = ((if bareM (.mk ⟨#[102, 110]⟩ t n l) false false = false then false else (l.dropLast.all isParamM && differM l.dropLast [] && ge (l.getLastD zeroS)))) := rfl
    rw [h1, h2]
    rw [bareR_true, formalM_false]
    by_cases hl : 1 ≤ l.length
    · rw [show decide (((eSyns l).length : Int) ≥ 1) = true from decide_eq_true (by rw [eSyns_len]; omega)]
      cases bareM (.mk ⟨#[102, 110]⟩ t n l) false false <;> simp
    · rw [last_zero hl]
      cases bareM (.mk ⟨#[102, 110]⟩ t n l) false false <;> simp [hz, hz']
  by_cases q4 : k = ⟨#[112, 114]⟩
  · subst q4
    have h1 : exprR ge gs (.mk ⟨#[112, 114]⟩ t n l) = (bareR (.mk ⟨#[112, 114]⟩ t n l) false false true && decide (((eSyns l).length : Int) ≥ 1) && formalM l.dropLast false && gs (l.getLastD zeroS)) := rfl
    have h2 : exprB ge gs (.mk ⟨#[112, 114]⟩ t n l) = ((if bareM (.mk ⟨#[112, 114]⟩ t n l) false false = false then false else (l.dropLast.all isParamM && differM l.dropLast [] && gs (l.getLastD zeroS)))) := rfl
    rw [h1, h2]
    rw [bareR_true, formalM_false]
    by_cases hl : 1 ≤ l.length
    · rw [show decide (((eSyns l).length : Int) ≥ 1) = true from decide_eq_true (by rw [eSyns_len]; omega)]
      cases bareM (.mk ⟨#[112, 114]⟩ t n l) false false <;> simp
    · rw [last_zero hl]
      cases bareM (.mk ⟨#[112, 114]⟩ t n l) false false <;> simp [hz, hz']
  by_cases q5 : k = ⟨#[102, 117, 116, 117, 114, 101]⟩
  · subst q5
    have h1 : exprR ge gs (.mk ⟨#[102, 117, 116, 117, 114, 101]⟩ t n l) = (bareR (.mk ⟨#[102, 117, 116, 117, 114, 101]⟩ t n l) false false true && (((eSyns l).length : Int) == 1) && l.all ge) := rfl
    have h2 : exprB ge gs (.mk ⟨#[102, 117, 116, 117, 114, 101]⟩ t n l) = ((if bareM (.mk ⟨#[102, 117, 116, 117, 114, 101]⟩ t n l) false false = false then false else ((lenI l == 1) && l.all ge))) := rfl
    rw [h1, h2]
    rw [bareR_true]
    cases bareM (.mk ⟨#[102, 117, 116, 117, 114, 101]⟩ t n l) false false <;> simp [lenI]
  by_cases q6 : k = ⟨#[108, 101, 116]⟩
  · subst q6
    have h1 : exprR ge gs (.mk ⟨#[108, 101, 116]⟩ t n l) = (bareR (.mk ⟨#[108, 101, 116]⟩ t n l) false false true && decide (((eSyns l).length : Int) ≥ 3) && formalM (l.take (l.length - 2)) true && gs (l.getD (l.length - 2) zeroS) && ge (l.getLastD zeroS)) := rfl
    have h2 : exprB ge gs (.mk ⟨#[108, 101, 116]⟩ t n l) = ((if bareM (.mk ⟨#[108, 101, 116]⟩ t n l) false false = false then false else (decide (lenI l ≥ 3) && varsM (l.take (l.length - 2)) && gs (l.getD (l.length - 2) zeroS) && ge (l.getLastD zeroS)))) := rfl
    rw [h1, h2]
    rw [bareR_true, formalM_true]
    cases bareM (.mk ⟨#[108, 101, 116]⟩ t n l) false false <;> simp [lenI]
  by_cases q7 : k = ⟨#[99, 111, 110, 100]⟩
  · subst q7
    have h1 : exprR ge gs (.mk ⟨#[99, 111, 110, 100]⟩ t n l) = (bareR (.mk ⟨#[99, 111, 110, 100]⟩ t n l) false false true && (((eSyns l).length : Int) == 3) && l.all ge) := rfl
    have h2 : exprB ge gs (.mk ⟨#[99, 111, 110, 100]⟩ t n l) = ((if bareM (.mk ⟨#[99, 111, 110, 100]⟩ t n l) false false = false then false else ((lenI l == 3) && l.all ge))) := rfl
    rw [h1, h2]
    rw [bareR_true]
    cases bareM (.mk ⟨#[99, 111, 110, 100]⟩ t n l) false false <;> simp [lenI]
  by_cases q8 : k = ⟨#[118, 97, 114]⟩
  · subst q8
    have h1 : exprR ge gs (.mk ⟨#[118, 97, 114]⟩ t n l) = (simpleM (.mk ⟨#[118, 97, 114]⟩ t n l)) := rfl
    have h2 : exprB ge gs (.mk ⟨#[118, 97, 114]⟩ t n l) = (isParamM (.mk ⟨#[118, 97, 114]⟩ t n l)) := rfl
    rw [h1, h2]
    have h4 : formalX false (.mk ⟨#[118, 97, 114]⟩ t n l) = (simpleM (.mk ⟨#[118, 97, 114]⟩ t n l) && true) := rfl
    rw [← formalX_false, h4, Bool.and_true]
  by_cases q9 : k = ⟨#[97, 110, 121]⟩
  · subst q9
    have h1 : exprR ge gs (.mk ⟨#[97, 110, 121]⟩ t n l) = (simpleM (.mk ⟨#[97, 110, 121]⟩ t n l)) := rfl
    have h2 : exprB ge gs (.mk ⟨#[97, 110, 121]⟩ t n l) = (isParamM (.mk ⟨#[97, 110, 121]⟩ t n l)) := rfl
    rw [h1, h2]
    have h4 : formalX false (.mk ⟨#[97, 110, 121]⟩ t n l) = (simpleM (.mk ⟨#[97, 110, 121]⟩ t n l) && true) := rfl
    rw [← formalX_false, h4, Bool.and_true]
  by_cases q10 : k = ⟨#[105, 110, 116]⟩
  · subst q10
    have h1 : exprR ge gs (.mk ⟨#[105, 110, 116]⟩ t n l) = (simpleM (.mk ⟨#[105, 110, 116]⟩ t n l)) := rfl
    have h2 : exprB ge gs (.mk ⟨#[105, 110, 116]⟩ t n l) = (bareM (.mk ⟨#[105, 110, 116]⟩ t n l) false true && decide (n ≥ -1099511627776) && decide (n ≤ 1099511627776) && (lenI l == 0)) := rfl
    rw [h1, h2]
    have h4 : simpleM (.mk ⟨#[105, 110, 116]⟩ t n l) = (bareR (.mk ⟨#[105, 110, 116]⟩ t n l) false true false && decide (n ≥ -1099511627776) && decide (n ≤ 1099511627776)) := rfl
    rw [h4, bareR_false]
    show (_ && (lenI l == 0) && _ && _) = _
    cases (lenI l == 0) <;> simp
  by_cases q11 : k = ⟨#[97, 116, 111, 109]⟩
  · subst q11
    have h1 : exprR ge gs (.mk ⟨#[97, 116, 111, 109]⟩ t n l) = (simpleM (.mk ⟨#[97, 116, 111, 109]⟩ t n l)) := rfl
    have h2 : exprB ge gs (.mk ⟨#[97, 116, 111, 109]⟩ t n l) = (bareM (.mk ⟨#[97, 116, 111, 109]⟩ t n l) true false && atomB t && (lenI l == 0)) := rfl
    rw [h1, h2]
    have h4 : simpleM (.mk ⟨#[97, 116, 111, 109]⟩ t n l) = (bareR (.mk ⟨#[97, 116, 111, 109]⟩ t n l) true false false && atomB t) := rfl
    rw [h4, bareR_false]
    show (_ && (lenI l == 0) && _) = _
    cases (lenI l == 0) <;> simp
  simp only [exprR, exprB, simpleM, Syn.kind, eqB_ne q0, eqB_ne q1, eqB_ne q2, eqB_ne q3, eqB_ne q4, eqB_ne q5, eqB_ne q6, eqB_ne q7, eqB_ne q8, eqB_ne q9, eqB_ne q10, eqB_ne q11, Bool.false_eq_true, if_false, ite_self]
theorem bare_split (k t : ByteArray) (n : Int) (l : List Syn) : bareM (.mk k t n l) false false = (eqB t ⟨#[]⟩ && (n == 0)) := by simp [bareM, Syn.text, Syn.int]
theorem head_skel {n : Int} {t : ByteArray} {A B : Bool} (h : A = B) : (if (n != 0) = true then false else if (!eqB t ⟨#[]⟩) = true then false else A) = (if (eqB t ⟨#[]⟩ && (n == 0)) = false then false else B) := by
  subst h
  by_cases hn : n = 0
  · subst hn; cases eqB t ⟨#[]⟩ <;> simp
  · have h1 : (n != 0) = true := by simp [bne, hn]
    have h2 : (n == 0) = false := by simp [hn]
    rw [h1, h2]; simp
theorem head_skel2 {n : Int} {W A B C : Bool} (h : A = (B && C)) : (if (n != 0) = true then false else if false = true then false else (W && A)) = (W && (n == 0) && B && C) := by
  subst h
  by_cases hn : n = 0
  · subst hn; simp [Bool.and_assoc]
  · have h1 : (n != 0) = true := by simp [bne, hn]
    have h2 : (n == 0) = false := by simp [hn]
    rw [h1, h2]; simp
theorem stmt_eq {ge gs : Syn → Bool} (hz : ge zeroS = false) (hz' : gs zeroS = false) (ha : (∀ x, leafF ge x = simpleM x) ∨ (∀ x, gs x = false)) (x : Syn) : stmtR ge gs x = stmtB ge gs x := by
  obtain ⟨k, t, n, l⟩ := x
  by_cases q0 : k = ⟨#[115, 107, 105, 112]⟩
  · subst q0
    have h1 : stmtR ge gs (.mk ⟨#[115, 107, 105, 112]⟩ t n l) = (if (n != 0) = true then false else if (!eqB t ⟨#[]⟩) = true then false else ((((eSyns l).length : Int) == 0))) := rfl
    have h2 : stmtB ge gs (.mk ⟨#[115, 107, 105, 112]⟩ t n l) = ((if bareM (.mk ⟨#[115, 107, 105, 112]⟩ t n l) false false = false then false else ((lenI l == 0)))) := rfl
    rw [h1, h2, bare_split]
    exact head_skel rfl
  by_cases q1 : k = ⟨#[115, 101, 113]⟩
  · subst q1
    have h1 : stmtR ge gs (.mk ⟨#[115, 101, 113]⟩ t n l) = (if (n != 0) = true then false else if (!eqB t ⟨#[]⟩) = true then false else (l.all (fun y => !eqB y.kind ⟨#[115, 101, 113]⟩) && (decide (((eSyns l).length : Int) ≥ 2) && l.all gs))) := rfl
    have h2 : stmtB ge gs (.mk ⟨#[115, 101, 113]⟩ t n l) = ((if bareM (.mk ⟨#[115, 101, 113]⟩ t n l) false false = false then false else (decide (lenI l ≥ 2) && l.all (notSeq gs)))) := rfl
    rw [h1, h2, bare_split]
    refine head_skel ?_
    rw [all_notSeq, lenI]
    cases l.all (fun y => !eqB y.kind ⟨#[115, 101, 113]⟩) <;> simp
  by_cases q2 : k = ⟨#[108, 111, 99, 97, 108]⟩
  · subst q2
    have h1 : stmtR ge gs (.mk ⟨#[108, 111, 99, 97, 108]⟩ t n l) = (if (n != 0) = true then false else if (!eqB t ⟨#[]⟩) = true then false else (decide (((eSyns l).length : Int) ≥ 2) && formalM l.dropLast true && gs (l.getLastD zeroS))) := rfl
    have h2 : stmtB ge gs (.mk ⟨#[108, 111, 99, 97, 108]⟩ t n l) = ((if bareM (.mk ⟨#[108, 111, 99, 97, 108]⟩ t n l) false false = false then false else (varsM l.dropLast && gs (l.getLastD zeroS)))) := rfl
    rw [h1, h2, bare_split]
    refine head_skel ?_
    rw [formalM_true]
    by_cases hl : 2 ≤ l.length
    · rw [decide_eq_true (show ((eSyns l).length : Int) ≥ 2 by rw [eSyns_len]; omega), Bool.true_and]
    · rw [decide_eq_false (show ¬ ((eSyns l).length : Int) ≥ 2 by rw [eSyns_len]; omega)]
      have : varsM l.dropLast = false := by
        rw [varsM, decide_eq_false (show ¬ l.dropLast.length ≥ 1 by rw [List.length_dropLast]; omega)]; rfl
      rw [this]; rfl
  by_cases q3 : k = ⟨#[101, 113]⟩
  · subst q3
    have h1 : stmtR ge gs (.mk ⟨#[101, 113]⟩ t n l) = (if (n != 0) = true then false else if (!eqB t ⟨#[]⟩) = true then false else ((((eSyns l).length : Int) == 2) && l.all ge)) := rfl
    have h2 : stmtB ge gs (.mk ⟨#[101, 113]⟩ t n l) = ((if bareM (.mk ⟨#[101, 113]⟩ t n l) false false = false then false else ((lenI l == 2) && l.all ge))) := rfl
    rw [h1, h2, bare_split]
    exact head_skel rfl
  by_cases q4 : k = ⟨#[105, 102]⟩
  · subst q4
    have h1 : stmtR ge gs (.mk ⟨#[105, 102]⟩ t n l) = (if (n != 0) = true then false else if (!eqB t ⟨#[]⟩) = true then false else ((((eSyns l).length : Int) == 3) && ge (l.getD 0 zeroS) && (l.drop 1).all gs)) := rfl
    have h2 : stmtB ge gs (.mk ⟨#[105, 102]⟩ t n l) = ((if bareM (.mk ⟨#[105, 102]⟩ t n l) false false = false then false else ((lenI l == 3) && (l.take 1).all ge && (l.drop 1).all gs))) := rfl
    rw [h1, h2, bare_split]
    refine head_skel ?_
    by_cases hl : l.length = 3
    · obtain ⟨a, b, c, rfl⟩ : ∃ a b c, l = [a, b, c] := by
        match l, hl with
        | [a, b, c], _ => exact ⟨a, b, c, rfl⟩
      simp [List.getD, lenI]
    · have h3 : (((eSyns l).length : Int) == 3) = false := by rw [eSyns_len]; simp; omega
      rw [show (lenI l == 3) = false from h3, h3]; rfl
  by_cases q5 : k = ⟨#[97, 112, 112, 108, 121]⟩
  · subst q5
    have h1 : stmtR ge gs (.mk ⟨#[97, 112, 112, 108, 121]⟩ t n l) = (if (n != 0) = true then false else if (!eqB t ⟨#[]⟩) = true then false else (decide (((eSyns l).length : Int) ≥ 1) && l.all ge)) := rfl
    have h2 : stmtB ge gs (.mk ⟨#[97, 112, 112, 108, 121]⟩ t n l) = ((if bareM (.mk ⟨#[97, 112, 112, 108, 121]⟩ t n l) false false = false then false else (decide (lenI l ≥ 1) && l.all ge))) := rfl
    rw [h1, h2, bare_split]
    exact head_skel rfl
  by_cases q6 : k = ⟨#[112, 114, 111, 99]⟩
  · subst q6
    have h1 : stmtR ge gs (.mk ⟨#[112, 114, 111, 99]⟩ t n l) = (if (n != 0) = true then false else if false = true then false else (wordL t.data.toList 65 90 && decide (((eSyns l).length : Int) ≥ 1) && formalM l.dropLast false && gs (l.getLastD zeroS))) := rfl
    have h2 : stmtB ge gs (.mk ⟨#[112, 114, 111, 99]⟩ t n l) = (wordL t.data.toList 65 90 && (n == 0) && l.dropLast.all isParamM && differM l.dropLast [] && gs (l.getLastD zeroS)) := rfl
    rw [h1, h2]
    rw [formalM_false]
    by_cases hl : 1 ≤ l.length
    · rw [decide_eq_true (show ((eSyns l).length : Int) ≥ 1 by rw [eSyns_len]; omega)]
      have := head_skel2 (n := n) (W := wordL t.data.toList 65 90) (B := l.dropLast.all isParamM && differM l.dropLast []) (C := gs (l.getLastD zeroS)) rfl
      simp only [Bool.and_assoc, Bool.true_and] at this ⊢
      exact this
    · rw [last_zero hl]
      simp [hz, hz']
  by_cases q7 : k = ⟨#[102, 117, 110]⟩
  · subst q7
    have h1 : stmtR ge gs (.mk ⟨#[102, 117, 110]⟩ t n l) = (if (n != 0) = true then false else if false = true then false else (wordL t.data.toList 65 90 && decide (((eSyns l).length : Int) ≥ 1) && formalM l.dropLast false && ge (l.getLastD zeroS))) := rfl
    have h2 : stmtB ge gs (.mk ⟨#[102, 117, 110]⟩ t n l) = (wordL t.data.toList 65 90 && (n == 0) && l.dropLast.all isParamM && differM l.dropLast [] && ge (l.getLastD zeroS)) := rfl
    rw [h1, h2]
    rw [formalM_false]
    by_cases hl : 1 ≤ l.length
    · rw [decide_eq_true (show ((eSyns l).length : Int) ≥ 1 by rw [eSyns_len]; omega)]
      have := head_skel2 (n := n) (W := wordL t.data.toList 65 90) (B := l.dropLast.all isParamM && differM l.dropLast []) (C := ge (l.getLastD zeroS)) rfl
      simp only [Bool.and_assoc, Bool.true_and] at this ⊢
      exact this
    · rw [last_zero hl]
      simp [hz, hz']
  by_cases q8 : k = ⟨#[108, 97, 122, 121]⟩
  · subst q8
    have h1 : stmtR ge gs (.mk ⟨#[108, 97, 122, 121]⟩ t n l) = (if (n != 0) = true then false else if false = true then false else (wordL t.data.toList 65 90 && decide (((eSyns l).length : Int) ≥ 1) && formalM l.dropLast false && ge (l.getLastD zeroS))) := rfl
    have h2 : stmtB ge gs (.mk ⟨#[108, 97, 122, 121]⟩ t n l) = (wordL t.data.toList 65 90 && (n == 0) && l.dropLast.all isParamM && differM l.dropLast [] && ge (l.getLastD zeroS)) := rfl
    rw [h1, h2]
    rw [formalM_false]
    by_cases hl : 1 ≤ l.length
    · rw [decide_eq_true (show ((eSyns l).length : Int) ≥ 1 by rw [eSyns_len]; omega)]
      have := head_skel2 (n := n) (W := wordL t.data.toList 65 90) (B := l.dropLast.all isParamM && differM l.dropLast []) (C := ge (l.getLastD zeroS)) rfl
      simp only [Bool.and_assoc, Bool.true_and] at this ⊢
      exact this
    · rw [last_zero hl]
      simp [hz, hz']
  by_cases q9 : k = ⟨#[116, 104, 114, 101, 97, 100]⟩
  · subst q9
    have h1 : stmtR ge gs (.mk ⟨#[116, 104, 114, 101, 97, 100]⟩ t n l) = (if (n != 0) = true then false else if (!eqB t ⟨#[]⟩) = true then false else ((((eSyns l).length : Int) == 1) && l.all gs)) := rfl
    have h2 : stmtB ge gs (.mk ⟨#[116, 104, 114, 101, 97, 100]⟩ t n l) = ((if bareM (.mk ⟨#[116, 104, 114, 101, 97, 100]⟩ t n l) false false = false then false else ((lenI l == 1) && l.all gs))) := rfl
    rw [h1, h2, bare_split]
    exact head_skel rfl
  by_cases q10 : k = ⟨#[116, 114, 121]⟩
  · subst q10
    have h1 : stmtR ge gs (.mk ⟨#[116, 114, 121]⟩ t n l) = (if (n != 0) = true then false else if (!eqB t ⟨#[]⟩) = true then false else ((((eSyns l).length : Int) == 3) && gs (l.getD 0 zeroS) && formalM ((l.drop 1).take 1) true && gs (l.getD 2 zeroS))) := rfl
    have h2 : stmtB ge gs (.mk ⟨#[116, 114, 121]⟩ t n l) = ((if bareM (.mk ⟨#[116, 114, 121]⟩ t n l) false false = false then false else ((lenI l == 3) && (l.take 1).all gs && ((l.drop 1).take 1).all isVarM && (l.drop 2).all gs))) := rfl
    rw [h1, h2, bare_split]
    refine head_skel ?_
    by_cases hl : l.length = 3
    · obtain ⟨a, b, c, rfl⟩ : ∃ a b c, l = [a, b, c] := by
        match l, hl with
        | [a, b, c], _ => exact ⟨a, b, c, rfl⟩
      rw [formalM_true]
      simp [List.getD, lenI, varsM, differM, hasS]
    · have h3 : (((eSyns l).length : Int) == 3) = false := by rw [eSyns_len]; simp; omega
      rw [show (lenI l == 3) = false from h3, h3]; rfl
  by_cases q11 : k = ⟨#[114, 97, 105, 115, 101]⟩
  · subst q11
    have h1 : stmtR ge gs (.mk ⟨#[114, 97, 105, 115, 101]⟩ t n l) = (if (n != 0) = true then false else if (!eqB t ⟨#[]⟩) = true then false else ((((eSyns l).length : Int) == 1) && l.all ge)) := rfl
    have h2 : stmtB ge gs (.mk ⟨#[114, 97, 105, 115, 101]⟩ t n l) = ((if bareM (.mk ⟨#[114, 97, 105, 115, 101]⟩ t n l) false false = false then false else ((lenI l == 1) && l.all ge))) := rfl
    rw [h1, h2, bare_split]
    exact head_skel rfl
  by_cases q12 : k = ⟨#[99, 104, 111, 111, 115, 101]⟩
  · subst q12
    have h1 : stmtR ge gs (.mk ⟨#[99, 104, 111, 111, 115, 101]⟩ t n l) = (if (n != 0) = true then false else if (!eqB t ⟨#[]⟩) = true then false else (decide (((eSyns l).length : Int) ≥ 2) && l.all gs)) := rfl
    have h2 : stmtB ge gs (.mk ⟨#[99, 104, 111, 111, 115, 101]⟩ t n l) = ((if bareM (.mk ⟨#[99, 104, 111, 111, 115, 101]⟩ t n l) false false = false then false else (decide (lenI l ≥ 2) && l.all gs))) := rfl
    rw [h1, h2, bare_split]
    exact head_skel rfl
  by_cases q13 : k = ⟨#[99, 97, 115, 101]⟩
  · subst q13
    have h1 : stmtR ge gs (.mk ⟨#[99, 97, 115, 101]⟩ t n l) = (if (n != 0) = true then false else if (!eqB t ⟨#[]⟩) = true then false else (decide (((eSyns l).length : Int) ≥ 3) && ge (l.getD 0 zeroS) && ((l.drop 1).take (l.length - 2)).all (armR gs) && gs (l.getLastD zeroS))) := rfl
    have h2 : stmtB ge gs (.mk ⟨#[99, 97, 115, 101]⟩ t n l) = ((if bareM (.mk ⟨#[99, 97, 115, 101]⟩ t n l) false false = false then false else (decide (lenI l ≥ 3) && (l.take 1).all ge && ((l.drop 1).take (l.length - 2)).all (armF ge gs) && gs (l.getLastD zeroS)))) := rfl
    rw [h1, h2, bare_split]
    refine head_skel ?_
    rw [show armR gs = armF ge gs from funext fun y => (arm_eq ha y).symm]
    by_cases hl : 3 ≤ l.length
    · obtain ⟨a, r, rfl⟩ : ∃ a r, l = a :: r := by
        match l, hl with
        | a :: r, _ => exact ⟨a, r, rfl⟩
      simp [List.getD, lenI]
    · have h3 : decide (((eSyns l).length : Int) ≥ 3) = false := decide_eq_false (by rw [eSyns_len]; omega)
      rw [show decide (lenI l ≥ 3) = false from h3, h3]; rfl
  simp only [stmtR, stmtB, Syn.kind, eqB_ne q0, eqB_ne q1, eqB_ne q2, eqB_ne q3, eqB_ne q4, eqB_ne q5, eqB_ne q6, eqB_ne q7, eqB_ne q8, eqB_ne q9, eqB_ne q10, eqB_ne q11, eqB_ne q12, eqB_ne q13, Bool.false_eq_true, if_false, ite_self]
end
end Go.Proofs.YtfbppkjjdbkedaaGreatDoor.Ref
