/-
  Walks: statements, as the reference sees them.
-/
import Derived.Test.YtfbppkjjdbkedaaGreatDoorVs
namespace Go.Proofs.YtfbppkjjdbkedaaGreatDoor.Ref
noncomputable section
open Go
set_option linter.unusedVariables false
set_option linter.unusedSimpArgs false
set_option maxRecDepth 100000
def stmtR (ge gs : Syn → Bool) : Syn → Bool
  | .mk k t n l =>
  if (n != 0) = true then false
  else if (!eqB k ⟨#[112, 114, 111, 99]⟩ && !eqB k ⟨#[102, 117, 110]⟩ && !eqB k ⟨#[108, 97, 122, 121]⟩ && !eqB t ⟨#[]⟩) = true then false
  else if eqB k ⟨#[115, 107, 105, 112]⟩ = true then (((eSyns l).length : Int) == 0)
  else if eqB k ⟨#[115, 101, 113]⟩ = true then l.all (fun y => !eqB y.kind ⟨#[115, 101, 113]⟩) && (decide (((eSyns l).length : Int) ≥ 2) && l.all gs)
  else if eqB k ⟨#[108, 111, 99, 97, 108]⟩ = true then decide (((eSyns l).length : Int) ≥ 2) && formalM l.dropLast true && gs (l.getLastD zeroS)
  else if eqB k ⟨#[101, 113]⟩ = true then (((eSyns l).length : Int) == 2) && l.all ge
  else if eqB k ⟨#[105, 102]⟩ = true then (((eSyns l).length : Int) == 3) && ge (l.getD 0 zeroS) && (l.drop 1).all gs
  else if eqB k ⟨#[97, 112, 112, 108, 121]⟩ = true then decide (((eSyns l).length : Int) ≥ 1) && l.all ge
  else if eqB k ⟨#[112, 114, 111, 99]⟩ = true then wordL t.data.toList 65 90 && decide (((eSyns l).length : Int) ≥ 1) && formalM l.dropLast false && gs (l.getLastD zeroS)
  else if eqB k ⟨#[102, 117, 110]⟩ = true then wordL t.data.toList 65 90 && decide (((eSyns l).length : Int) ≥ 1) && formalM l.dropLast false && ge (l.getLastD zeroS)
  else if eqB k ⟨#[108, 97, 122, 121]⟩ = true then wordL t.data.toList 65 90 && decide (((eSyns l).length : Int) ≥ 1) && formalM l.dropLast false && ge (l.getLastD zeroS)
  else if eqB k ⟨#[116, 104, 114, 101, 97, 100]⟩ = true then (((eSyns l).length : Int) == 1) && l.all gs
  else if eqB k ⟨#[116, 114, 121]⟩ = true then (((eSyns l).length : Int) == 3) && gs (l.getD 0 zeroS) && formalM ((l.drop 1).take 1) true && gs (l.getD 2 zeroS)
  else if eqB k ⟨#[114, 97, 105, 115, 101]⟩ = true then (((eSyns l).length : Int) == 1) && l.all ge
  else if eqB k ⟨#[99, 104, 111, 111, 115, 101]⟩ = true then decide (((eSyns l).length : Int) ≥ 2) && l.all gs
  else if eqB k ⟨#[99, 97, 115, 101]⟩ = true then decide (((eSyns l).length : Int) ≥ 3) && ge (l.getD 0 zeroS) && ((l.drop 1).take (l.length - 2)).all (armR gs) && gs (l.getLastD zeroS)
  else false
set_option maxHeartbeats 0 in
theorem ce_IsStmt {ge gs : Syn → Bool} {x : Syn} (hl : sizeS x ≤ 100000) (he : ∀ y ∈ x.kids, Ans 46 ge y) (hs : ∀ y ∈ x.kids, Ans 45 gs y) (hs2 : ∀ y ∈ x.kids, ∀ z ∈ y.kids, Ans 45 gs z) : Ans 45 (stmtR ge gs) x := by
  obtain ⟨k, t, n, l⟩ := x
  have hll := len_size l
  simp only [sizeS] at hl
  simp only [Syn.kids] at he hs hs2
  refine ce_code hX hF (H := Hs 45) (fn := Tryz.f45) rfl rfl ?_
  have hex := ce_exprs (g := ge) (l := l) (by omega) he
  have hst := ce_stmts (g := gs) (l := l) (by omega) hs
  have hd1 : sizeL (l.drop 1) ≤ 100000 := by
    cases l with
    | nil => simp [sizeL]
    | cons a r => simp only [sizeL, List.drop_succ_cons, List.drop_zero] at hl ⊢; omega
  have hst2 := ce_stmts (g := gs) (l := l.drop 1) hd1 (fun y hy => hs y (List.mem_of_mem_drop hy))
  have har := ce_arms (g := gs) (l := (l.drop 1).take (l.length - 2)) (Nat.le_trans (size_take _ _) hd1) (fun y hy => hs2 y (List.mem_of_mem_drop (List.mem_of_mem_take hy)))
  have e1 : 1 ≤ l.length → IntKind.i64.wrap (((eSyns l).length : Int) - 1) = ((l.length - 1 : Nat) : Int) := fun h => by rw [eSyns_len, wrap64 (by omega) (by omega)]; omega
  have t1 : ((eSyns l).drop 0).take (l.length - 1 - 0) = eSyns l.dropLast := by rw [eSyns_map, eSyns_map, List.dropLast_eq_take, Nat.sub_zero, List.map_take]; rfl
  have t2 : ((eSyns l).drop 1).take ((eSyns l).length - 1) = eSyns (l.drop 1) := by rw [eSyns_len, eSyns_map, eSyns_map, ← List.map_drop, ← List.map_take, List.take_of_length_le (by simp)]
  have t3 : ((eSyns l).drop 1).take (2 - 1) = eSyns ((l.drop 1).take 1) := by rw [eSyns_map, eSyns_map, ← List.map_drop, ← List.map_take]
  have t4 : ((eSyns l).drop 1).take (l.length - 1 - 1) = eSyns ((l.drop 1).take (l.length - 2)) := by rw [eSyns_map, eSyns_map, ← List.map_drop, ← List.map_take]; rfl
  have f1 := ce_formal (l := l.dropLast) (some := false) (Nat.le_trans (size_dropLast l) (by omega))
  have f2 := ce_formal (l := l.dropLast) (some := true) (Nat.le_trans (size_dropLast l) (by omega))
  have f3 := ce_formal (l := (l.drop 1).take 1) (some := true) (Nat.le_trans (size_take _ _) hd1)
  rw [← t1] at f1 f2
  rw [← t2] at hst2
  rw [← t3] at f3
  rw [← t4] at har
  rcases hL : l.getLastD zeroS with ⟨lk, lt, ln, ll⟩
  rcases hA : l.getD 0 zeroS with ⟨ak, at', an, al⟩
  rcases hC : l.getD 2 zeroS with ⟨ck, ct, cn, cl⟩
  have g1 : ∀ h : 1 ≤ l.length, l[l.length - 1] = .mk lk lt ln ll := fun h => by
    rw [← hL]
    cases l with
    | nil => simp at h
    | cons a t => simp [List.getLastD, List.getLast_eq_getElem]
  have g2 : ∀ h : 1 ≤ l.length, l[0] = .mk ak at' an al := fun h => by
    rw [← hA]; simp [List.getD, List.getElem?_eq_getElem (show 0 < l.length by omega)]
  have g3 : ∀ h : 3 ≤ l.length, l[2] = .mk ck ct cn cl := fun h => by
    rw [← hC]; simp [List.getD, List.getElem?_eq_getElem (show 2 < l.length by omega)]
  have i1 : 1 ≤ l.length → (eSyns l)[((l.length - 1 : Nat) : Int).toNat]? = some (eSyn (.mk lk lt ln ll)) := fun h => by
    rw [← g1 h]; exact eSyns_get (show l.length - 1 < l.length by omega)
  have i2 : 1 ≤ l.length → (eSyns l)[((0 : Nat) : Int).toNat]? = some (eSyn (.mk ak at' an al)) := fun h => by
    rw [← g2 h]; exact eSyns_get (show 0 < l.length by omega)
  have i3 : 3 ≤ l.length → (eSyns l)[((2 : Nat) : Int).toNat]? = some (eSyn (.mk ck ct cn cl)) := fun h => by
    rw [← g3 h]; exact eSyns_get (show 2 < l.length by omega)
  have he1 : 1 ≤ l.length → Ans 46 ge (.mk lk lt ln ll) := fun h => by rw [← g1 h]; exact he _ (List.getElem_mem _)
  have hs1 : 1 ≤ l.length → Ans 45 gs (.mk lk lt ln ll) := fun h => by rw [← g1 h]; exact hs _ (List.getElem_mem _)
  have he0 : 1 ≤ l.length → Ans 46 ge (.mk ak at' an al) := fun h => by rw [← g2 h]; exact he _ (List.getElem_mem _)
  have hs0 : 1 ≤ l.length → Ans 45 gs (.mk ak at' an al) := fun h => by rw [← g2 h]; exact hs _ (List.getElem_mem _)
  have hs3 : 3 ≤ l.length → Ans 45 gs (.mk ck ct cn cl) := fun h => by rw [← g3 h]; exact hs _ (List.getElem_mem _)
  have w1 : decide (((eSyns l).length : Int) ≥ 1) = true → 1 ≤ l.length := fun h => by rw [eSyns_len] at h; have := of_decide_eq_true h; omega
  have w2 : decide (((eSyns l).length : Int) ≥ 2) = true → 1 ≤ l.length := fun h => by rw [eSyns_len] at h; have := of_decide_eq_true h; omega
  have w3 : decide (((eSyns l).length : Int) ≥ 3) = true → 1 ≤ l.length ∧ 2 ≤ l.length := fun h => by rw [eSyns_len] at h; have := of_decide_eq_true h; omega
  have w4 : (((eSyns l).length : Int) == 3) = true → 1 ≤ l.length ∧ l.length = 3 := fun h => by rw [eSyns_len] at h; have := eq_of_beq h; omega
  by_cases q0 : k = ⟨#[115, 107, 105, 112]⟩
  · subst q0
    have hx : stmtR ge gs (.mk ⟨#[115, 107, 105, 112]⟩ t n l) = (if (n != 0) = true then false else if (!eqB t ⟨#[]⟩) = true then false else ((((eSyns l).length : Int) == 0))) := rfl
    refine bs (fun h1 => ?_) (fun h1 => ?_)
    · exact ⟨_, _, rfl, by (try simp only [Bool.not_eq_true', Bool.not_eq_false'] at h1); simp only [hx, ↓reduceIte, h1, hL, hA, hC, if_true, if_false, Bool.not_true, Bool.not_false, Bool.and_true, Bool.true_and, Bool.and_false, Bool.false_and, Bool.and_self, Bool.false_eq_true, Bool.true_eq_false], rfl⟩
    · refine bs (fun h2 => ?_) (fun h2 => ?_)
      · exact ⟨_, _, rfl, by (try simp only [Bool.not_eq_true', Bool.not_eq_false'] at h1 h2); simp only [hx, ↓reduceIte, h1, h2, hL, hA, hC, if_true, if_false, Bool.not_true, Bool.not_false, Bool.and_true, Bool.true_and, Bool.and_false, Bool.false_and, Bool.and_self, Bool.false_eq_true, Bool.true_eq_false], rfl⟩
      · exact ⟨_, _, rfl, by (try simp only [Bool.not_eq_true', Bool.not_eq_false'] at h1 h2); simp only [hx, ↓reduceIte, h1, h2, hL, hA, hC, if_true, if_false, Bool.not_true, Bool.not_false, Bool.and_true, Bool.true_and, Bool.and_false, Bool.false_and, Bool.and_self, Bool.false_eq_true, Bool.true_eq_false], rfl⟩
  by_cases q1 : k = ⟨#[115, 101, 113]⟩
  · subst q1
    have hx : stmtR ge gs (.mk ⟨#[115, 101, 113]⟩ t n l) = (if (n != 0) = true then false else if (!eqB t ⟨#[]⟩) = true then false else (l.all (fun y => !eqB y.kind ⟨#[115, 101, 113]⟩) && (decide (((eSyns l).length : Int) ≥ 2) && l.all gs))) := rfl
    refine bs (fun h1 => ?_) (fun h1 => ?_)
    · exact ⟨_, _, rfl, by (try simp only [Bool.not_eq_true', Bool.not_eq_false'] at h1); simp only [hx, ↓reduceIte, h1, hL, hA, hC, if_true, if_false, Bool.not_true, Bool.not_false, Bool.and_true, Bool.true_and, Bool.and_false, Bool.false_and, Bool.and_self, Bool.false_eq_true, Bool.true_eq_false], rfl⟩
    · refine bs (fun h2 => ?_) (fun h2 => ?_)
      · exact ⟨_, _, rfl, by (try simp only [Bool.not_eq_true', Bool.not_eq_false'] at h1 h2); simp only [hx, ↓reduceIte, h1, h2, hL, hA, hC, if_true, if_false, Bool.not_true, Bool.not_false, Bool.and_true, Bool.true_and, Bool.and_false, Bool.false_and, Bool.and_self, Bool.false_eq_true, Bool.true_eq_false], rfl⟩
      · (refine w_loop hX (H := Hs 45) [1, 3, 4] (fun r S => ∃ i : Nat, r = l.length - i ∧ i ≤ l.length ∧ (l.drop i).all (fun y => !eqB y.kind ⟨#[115, 101, 113]⟩) = l.all (fun y => !eqB y.kind ⟨#[115, 101, 113]⟩) ∧ S = ⟨246, [(1, .d (.fz (eSyn (.mk ⟨#[115, 101, 113]⟩ t n l)))), (3, .d (I ((eSyns l).length : Int))), (4, .d (I i))], [], 0⟩) l.length ⟨0, by simp, by simp, by simp only [List.drop_zero], rfl⟩ ?_; rintro r S ⟨i, rfl, hi, hall, rfl⟩; refine bs (fun hb => ?_) (fun hb => ?_); rotate_left; (obtain rfl : i = l.length := (by have hb := of_decide_eq_false hb; rw [eSyns_len] at hb; omega); simp only [List.drop_length, List.all_nil] at hall); rotate_left; have hb : (i : Int) < (l.length : Int) := (by have hb := of_decide_eq_true hb; rw [eSyns_len] at hb; exact hb); have hb2 : i < l.length := (by omega); have e9 := inc64 i (by omega); rw [List.drop_eq_getElem_cons hb2] at hall; simp only [List.all_cons] at hall; rcases hk : l[i] with ⟨k', t', m', ks'⟩; rw [hk, show (Syn.mk k' t' m' ks').kind = k' from rfl] at hall)
        · refine Soft.idx (d := eSyn (.mk k' t' m' ks')) (by rfl) (by rfl) (by rfl) (by rfl) (by rfl) (by rfl) (by rfl) (by omega) (by rw [← hk]; exact eSyns_get hb2) ?_
          refine bs (fun h3 => ?_) (fun h3 => ?_)
          · exact ⟨_, _, rfl, by (try simp only [Bool.not_eq_true', Bool.not_eq_false'] at h1 h2 h3); simp only [h1, h2, h3, Bool.not_true, Bool.false_and] at hall; simp only [hx, ↓reduceIte, h1, h2, h3, ← hall, if_true, if_false, Bool.not_true, Bool.not_false, Bool.and_true, Bool.true_and, Bool.and_false, Bool.false_and, Bool.and_self, Bool.false_eq_true, Bool.true_eq_false], rfl⟩
          · exact ⟨l.length - (i + 1), by omega, i + 1, rfl, by omega, (by (try simp only [Bool.not_eq_true', Bool.not_eq_false'] at h1 h2 h3); simp only [h1, h2, h3, Bool.not_false, Bool.true_and] at hall; exact hall), by rw [e9]⟩
        · refine bs (fun h4 => ?_) (fun h4 => ?_)
          · refine ⟨_, _, hst, ?_⟩
            exact ⟨_, _, rfl, by (try simp only [Bool.not_eq_true', Bool.not_eq_false'] at h1 h2 h4); simp only [hx, ↓reduceIte, h1, h2, h4, ← hall, hL, hA, hC, if_true, if_false, Bool.not_true, Bool.not_false, Bool.and_true, Bool.true_and, Bool.and_false, Bool.false_and, Bool.and_self, Bool.false_eq_true, Bool.true_eq_false], rfl⟩
          · exact ⟨_, _, rfl, by (try simp only [Bool.not_eq_true', Bool.not_eq_false'] at h1 h2 h4); simp only [hx, ↓reduceIte, h1, h2, h4, ← hall, hL, hA, hC, if_true, if_false, Bool.not_true, Bool.not_false, Bool.and_true, Bool.true_and, Bool.and_false, Bool.false_and, Bool.and_self, Bool.false_eq_true, Bool.true_eq_false], rfl⟩
  by_cases q2 : k = ⟨#[108, 111, 99, 97, 108]⟩
  · subst q2
    have hx : stmtR ge gs (.mk ⟨#[108, 111, 99, 97, 108]⟩ t n l) = (if (n != 0) = true then false else if (!eqB t ⟨#[]⟩) = true then false else (decide (((eSyns l).length : Int) ≥ 2) && formalM l.dropLast true && gs (l.getLastD zeroS))) := rfl
    refine bs (fun h1 => ?_) (fun h1 => ?_)
    · exact ⟨_, _, rfl, by (try simp only [Bool.not_eq_true', Bool.not_eq_false'] at h1); simp only [hx, ↓reduceIte, h1, hL, hA, hC, if_true, if_false, Bool.not_true, Bool.not_false, Bool.and_true, Bool.true_and, Bool.and_false, Bool.false_and, Bool.and_self, Bool.false_eq_true, Bool.true_eq_false], rfl⟩
    · refine bs (fun h2 => ?_) (fun h2 => ?_)
      · exact ⟨_, _, rfl, by (try simp only [Bool.not_eq_true', Bool.not_eq_false'] at h1 h2); simp only [hx, ↓reduceIte, h1, h2, hL, hA, hC, if_true, if_false, Bool.not_true, Bool.not_false, Bool.and_true, Bool.true_and, Bool.and_false, Bool.false_and, Bool.and_self, Bool.false_eq_true, Bool.true_eq_false], rfl⟩
      · refine bs (fun h3 => ?_) (fun h3 => ?_)
        · (have hq := w2 (by assumption); refine Soft.sliceR (l := 0) (hh := l.length - 1) (by rfl) (by rfl) (by rfl) (by rfl) (by rfl) (by rfl) (by rfl) (bnd_int (by rfl) (e1 hq)) (Nat.zero_le _) (by rw [eSyns_len]; omega) ?_)
          refine ⟨_, _, f2, ?_⟩
          refine bs (fun h5 => ?_) (fun h5 => ?_)
          · refine Soft.idx (d := eSyn (.mk lk lt ln ll)) (by rfl) (by rfl) (by rfl) (by rfl) (by rfl) (by rfl) (by rfl) (by rw [e1 (by omega)]; omega) (by rw [e1 (by omega)]; exact i1 (by omega)) ?_
            refine ⟨_, _, hs1 (by first | assumption | omega), ?_⟩
            exact ⟨_, _, rfl, by (try simp only [Bool.not_eq_true', Bool.not_eq_false'] at h1 h2 h3 h5); simp only [hx, ↓reduceIte, h1, h2, h3, h5, hL, hA, hC, if_true, if_false, Bool.not_true, Bool.not_false, Bool.and_true, Bool.true_and, Bool.and_false, Bool.false_and, Bool.and_self, Bool.false_eq_true, Bool.true_eq_false], rfl⟩
          · exact ⟨_, _, rfl, by (try simp only [Bool.not_eq_true', Bool.not_eq_false'] at h1 h2 h3 h5); simp only [hx, ↓reduceIte, h1, h2, h3, h5, hL, hA, hC, if_true, if_false, Bool.not_true, Bool.not_false, Bool.and_true, Bool.true_and, Bool.and_false, Bool.false_and, Bool.and_self, Bool.false_eq_true, Bool.true_eq_false], rfl⟩
        · exact ⟨_, _, rfl, by (try simp only [Bool.not_eq_true', Bool.not_eq_false'] at h1 h2 h3); simp only [hx, ↓reduceIte, h1, h2, h3, hL, hA, hC, if_true, if_false, Bool.not_true, Bool.not_false, Bool.and_true, Bool.true_and, Bool.and_false, Bool.false_and, Bool.and_self, Bool.false_eq_true, Bool.true_eq_false], rfl⟩
  by_cases q3 : k = ⟨#[101, 113]⟩
  · subst q3
    have hx : stmtR ge gs (.mk ⟨#[101, 113]⟩ t n l) = (if (n != 0) = true then false else if (!eqB t ⟨#[]⟩) = true then false else ((((eSyns l).length : Int) == 2) && l.all ge)) := rfl
    refine bs (fun h1 => ?_) (fun h1 => ?_)
    · exact ⟨_, _, rfl, by (try simp only [Bool.not_eq_true', Bool.not_eq_false'] at h1); simp only [hx, ↓reduceIte, h1, hL, hA, hC, if_true, if_false, Bool.not_true, Bool.not_false, Bool.and_true, Bool.true_and, Bool.and_false, Bool.false_and, Bool.and_self, Bool.false_eq_true, Bool.true_eq_false], rfl⟩
    · refine bs (fun h2 => ?_) (fun h2 => ?_)
      · exact ⟨_, _, rfl, by (try simp only [Bool.not_eq_true', Bool.not_eq_false'] at h1 h2); simp only [hx, ↓reduceIte, h1, h2, hL, hA, hC, if_true, if_false, Bool.not_true, Bool.not_false, Bool.and_true, Bool.true_and, Bool.and_false, Bool.false_and, Bool.and_self, Bool.false_eq_true, Bool.true_eq_false], rfl⟩
      · refine bs (fun h3 => ?_) (fun h3 => ?_)
        · refine ⟨_, _, hex, ?_⟩
          exact ⟨_, _, rfl, by (try simp only [Bool.not_eq_true', Bool.not_eq_false'] at h1 h2 h3); simp only [hx, ↓reduceIte, h1, h2, h3, hL, hA, hC, if_true, if_false, Bool.not_true, Bool.not_false, Bool.and_true, Bool.true_and, Bool.and_false, Bool.false_and, Bool.and_self, Bool.false_eq_true, Bool.true_eq_false], rfl⟩
        · exact ⟨_, _, rfl, by (try simp only [Bool.not_eq_true', Bool.not_eq_false'] at h1 h2 h3); simp only [hx, ↓reduceIte, h1, h2, h3, hL, hA, hC, if_true, if_false, Bool.not_true, Bool.not_false, Bool.and_true, Bool.true_and, Bool.and_false, Bool.false_and, Bool.and_self, Bool.false_eq_true, Bool.true_eq_false], rfl⟩
  by_cases q4 : k = ⟨#[105, 102]⟩
  · subst q4
    have hx : stmtR ge gs (.mk ⟨#[105, 102]⟩ t n l) = (if (n != 0) = true then false else if (!eqB t ⟨#[]⟩) = true then false else ((((eSyns l).length : Int) == 3) && ge (l.getD 0 zeroS) && (l.drop 1).all gs)) := rfl
    refine bs (fun h1 => ?_) (fun h1 => ?_)
    · exact ⟨_, _, rfl, by (try simp only [Bool.not_eq_true', Bool.not_eq_false'] at h1); simp only [hx, ↓reduceIte, h1, hL, hA, hC, if_true, if_false, Bool.not_true, Bool.not_false, Bool.and_true, Bool.true_and, Bool.and_false, Bool.false_and, Bool.and_self, Bool.false_eq_true, Bool.true_eq_false], rfl⟩
    · refine bs (fun h2 => ?_) (fun h2 => ?_)
      · exact ⟨_, _, rfl, by (try simp only [Bool.not_eq_true', Bool.not_eq_false'] at h1 h2); simp only [hx, ↓reduceIte, h1, h2, hL, hA, hC, if_true, if_false, Bool.not_true, Bool.not_false, Bool.and_true, Bool.true_and, Bool.and_false, Bool.false_and, Bool.and_self, Bool.false_eq_true, Bool.true_eq_false], rfl⟩
      · refine bs (fun h3 => ?_) (fun h3 => ?_)
        · (have hq := w4 (by assumption); refine Soft.idx (d := eSyn (.mk ak at' an al)) (by rfl) (by rfl) (by rfl) (by rfl) (by rfl) (by rfl) (by rfl) (by omega) (i2 hq.1) ?_)
          refine ⟨_, _, he0 (by first | assumption | omega), ?_⟩
          refine bs (fun h5 => ?_) (fun h5 => ?_)
          · refine Soft.sliceR (l := 1) (hh := (eSyns l).length) (by rfl) (by rfl) (by rfl) (by rfl) (by rfl) (by rfl) (by rfl) (by rfl) (by rw [eSyns_len]; omega) (Nat.le_refl _) ?_
            refine ⟨_, _, hst2, ?_⟩
            exact ⟨_, _, rfl, by (try simp only [Bool.not_eq_true', Bool.not_eq_false'] at h1 h2 h3 h5); simp only [hx, ↓reduceIte, h1, h2, h3, h5, hL, hA, hC, if_true, if_false, Bool.not_true, Bool.not_false, Bool.and_true, Bool.true_and, Bool.and_false, Bool.false_and, Bool.and_self, Bool.false_eq_true, Bool.true_eq_false], rfl⟩
          · exact ⟨_, _, rfl, by (try simp only [Bool.not_eq_true', Bool.not_eq_false'] at h1 h2 h3 h5); simp only [hx, ↓reduceIte, h1, h2, h3, h5, hL, hA, hC, if_true, if_false, Bool.not_true, Bool.not_false, Bool.and_true, Bool.true_and, Bool.and_false, Bool.false_and, Bool.and_self, Bool.false_eq_true, Bool.true_eq_false], rfl⟩
        · exact ⟨_, _, rfl, by (try simp only [Bool.not_eq_true', Bool.not_eq_false'] at h1 h2 h3); simp only [hx, ↓reduceIte, h1, h2, h3, hL, hA, hC, if_true, if_false, Bool.not_true, Bool.not_false, Bool.and_true, Bool.true_and, Bool.and_false, Bool.false_and, Bool.and_self, Bool.false_eq_true, Bool.true_eq_false], rfl⟩
  by_cases q5 : k = ⟨#[97, 112, 112, 108, 121]⟩
  · subst q5
    have hx : stmtR ge gs (.mk ⟨#[97, 112, 112, 108, 121]⟩ t n l) = (if (n != 0) = true then false else if (!eqB t ⟨#[]⟩) = true then false else (decide (((eSyns l).length : Int) ≥ 1) && l.all ge)) := rfl
    refine bs (fun h1 => ?_) (fun h1 => ?_)
    · exact ⟨_, _, rfl, by (try simp only [Bool.not_eq_true', Bool.not_eq_false'] at h1); simp only [hx, ↓reduceIte, h1, hL, hA, hC, if_true, if_false, Bool.not_true, Bool.not_false, Bool.and_true, Bool.true_and, Bool.and_false, Bool.false_and, Bool.and_self, Bool.false_eq_true, Bool.true_eq_false], rfl⟩
    · refine bs (fun h2 => ?_) (fun h2 => ?_)
      · exact ⟨_, _, rfl, by (try simp only [Bool.not_eq_true', Bool.not_eq_false'] at h1 h2); simp only [hx, ↓reduceIte, h1, h2, hL, hA, hC, if_true, if_false, Bool.not_true, Bool.not_false, Bool.and_true, Bool.true_and, Bool.and_false, Bool.false_and, Bool.and_self, Bool.false_eq_true, Bool.true_eq_false], rfl⟩
      · refine bs (fun h3 => ?_) (fun h3 => ?_)
        · refine ⟨_, _, hex, ?_⟩
          exact ⟨_, _, rfl, by (try simp only [Bool.not_eq_true', Bool.not_eq_false'] at h1 h2 h3); simp only [hx, ↓reduceIte, h1, h2, h3, hL, hA, hC, if_true, if_false, Bool.not_true, Bool.not_false, Bool.and_true, Bool.true_and, Bool.and_false, Bool.false_and, Bool.and_self, Bool.false_eq_true, Bool.true_eq_false], rfl⟩
        · exact ⟨_, _, rfl, by (try simp only [Bool.not_eq_true', Bool.not_eq_false'] at h1 h2 h3); simp only [hx, ↓reduceIte, h1, h2, h3, hL, hA, hC, if_true, if_false, Bool.not_true, Bool.not_false, Bool.and_true, Bool.true_and, Bool.and_false, Bool.false_and, Bool.and_self, Bool.false_eq_true, Bool.true_eq_false], rfl⟩
  by_cases q6 : k = ⟨#[112, 114, 111, 99]⟩
  · subst q6
    have hx : stmtR ge gs (.mk ⟨#[112, 114, 111, 99]⟩ t n l) = (if (n != 0) = true then false else if false = true then false else (wordL t.data.toList 65 90 && decide (((eSyns l).length : Int) ≥ 1) && formalM l.dropLast false && gs (l.getLastD zeroS))) := rfl
    refine bs (fun h1 => ?_) (fun h1 => ?_)
    · exact ⟨_, _, rfl, by (try simp only [Bool.not_eq_true', Bool.not_eq_false'] at h1); simp only [hx, ↓reduceIte, h1, hL, hA, hC, if_true, if_false, Bool.not_true, Bool.not_false, Bool.and_true, Bool.true_and, Bool.and_false, Bool.false_and, Bool.and_self, Bool.false_eq_true, Bool.true_eq_false], rfl⟩
    · refine ⟨_, _, ce_IsIdent _, ?_⟩
      refine bs (fun h3 => ?_) (fun h3 => ?_)
      · refine bs (fun h4 => ?_) (fun h4 => ?_)
        · (have hq := w1 (by assumption); refine Soft.sliceR (l := 0) (hh := l.length - 1) (by rfl) (by rfl) (by rfl) (by rfl) (by rfl) (by rfl) (by rfl) (bnd_int (by rfl) (e1 hq)) (Nat.zero_le _) (by rw [eSyns_len]; omega) ?_)
          refine ⟨_, _, f1, ?_⟩
          refine bs (fun h6 => ?_) (fun h6 => ?_)
          · refine Soft.idx (d := eSyn (.mk lk lt ln ll)) (by rfl) (by rfl) (by rfl) (by rfl) (by rfl) (by rfl) (by rfl) (by rw [e1 (by omega)]; omega) (by rw [e1 (by omega)]; exact i1 (by omega)) ?_
            refine ⟨_, _, hs1 (by first | assumption | omega), ?_⟩
            exact ⟨_, _, rfl, by (try simp only [Bool.not_eq_true', Bool.not_eq_false'] at h1 h3 h4 h6); simp only [hx, ↓reduceIte, h1, h3, h4, h6, hL, hA, hC, if_true, if_false, Bool.not_true, Bool.not_false, Bool.and_true, Bool.true_and, Bool.and_false, Bool.false_and, Bool.and_self, Bool.false_eq_true, Bool.true_eq_false], rfl⟩
          · exact ⟨_, _, rfl, by (try simp only [Bool.not_eq_true', Bool.not_eq_false'] at h1 h3 h4 h6); simp only [hx, ↓reduceIte, h1, h3, h4, h6, hL, hA, hC, if_true, if_false, Bool.not_true, Bool.not_false, Bool.and_true, Bool.true_and, Bool.and_false, Bool.false_and, Bool.and_self, Bool.false_eq_true, Bool.true_eq_false], rfl⟩
        · exact ⟨_, _, rfl, by (try simp only [Bool.not_eq_true', Bool.not_eq_false'] at h1 h3 h4); simp only [hx, ↓reduceIte, h1, h3, h4, hL, hA, hC, if_true, if_false, Bool.not_true, Bool.not_false, Bool.and_true, Bool.true_and, Bool.and_false, Bool.false_and, Bool.and_self, Bool.false_eq_true, Bool.true_eq_false], rfl⟩
      · exact ⟨_, _, rfl, by (try simp only [Bool.not_eq_true', Bool.not_eq_false'] at h1 h3); simp only [hx, ↓reduceIte, h1, h3, hL, hA, hC, if_true, if_false, Bool.not_true, Bool.not_false, Bool.and_true, Bool.true_and, Bool.and_false, Bool.false_and, Bool.and_self, Bool.false_eq_true, Bool.true_eq_false], rfl⟩
  by_cases q7 : k = ⟨#[102, 117, 110]⟩
  · subst q7
    have hx : stmtR ge gs (.mk ⟨#[102, 117, 110]⟩ t n l) = (if (n != 0) = true then false else if false = true then false else (wordL t.data.toList 65 90 && decide (((eSyns l).length : Int) ≥ 1) && formalM l.dropLast false && ge (l.getLastD zeroS))) := rfl
    refine bs (fun h1 => ?_) (fun h1 => ?_)
    · exact ⟨_, _, rfl, by (try simp only [Bool.not_eq_true', Bool.not_eq_false'] at h1); simp only [hx, ↓reduceIte, h1, hL, hA, hC, if_true, if_false, Bool.not_true, Bool.not_false, Bool.and_true, Bool.true_and, Bool.and_false, Bool.false_and, Bool.and_self, Bool.false_eq_true, Bool.true_eq_false], rfl⟩
    · refine ⟨_, _, ce_IsIdent _, ?_⟩
      refine bs (fun h3 => ?_) (fun h3 => ?_)
      · refine bs (fun h4 => ?_) (fun h4 => ?_)
        · (have hq := w1 (by assumption); refine Soft.sliceR (l := 0) (hh := l.length - 1) (by rfl) (by rfl) (by rfl) (by rfl) (by rfl) (by rfl) (by rfl) (bnd_int (by rfl) (e1 hq)) (Nat.zero_le _) (by rw [eSyns_len]; omega) ?_)
          refine ⟨_, _, f1, ?_⟩
          refine bs (fun h6 => ?_) (fun h6 => ?_)
          · refine Soft.idx (d := eSyn (.mk lk lt ln ll)) (by rfl) (by rfl) (by rfl) (by rfl) (by rfl) (by rfl) (by rfl) (by rw [e1 (by omega)]; omega) (by rw [e1 (by omega)]; exact i1 (by omega)) ?_
            refine ⟨_, _, he1 (by first | assumption | omega), ?_⟩
            exact ⟨_, _, rfl, by (try simp only [Bool.not_eq_true', Bool.not_eq_false'] at h1 h3 h4 h6); simp only [hx, ↓reduceIte, h1, h3, h4, h6, hL, hA, hC, if_true, if_false, Bool.not_true, Bool.not_false, Bool.and_true, Bool.true_and, Bool.and_false, Bool.false_and, Bool.and_self, Bool.false_eq_true, Bool.true_eq_false], rfl⟩
          · exact ⟨_, _, rfl, by (try simp only [Bool.not_eq_true', Bool.not_eq_false'] at h1 h3 h4 h6); simp only [hx, ↓reduceIte, h1, h3, h4, h6, hL, hA, hC, if_true, if_false, Bool.not_true, Bool.not_false, Bool.and_true, Bool.true_and, Bool.and_false, Bool.false_and, Bool.and_self, Bool.false_eq_true, Bool.true_eq_false], rfl⟩
        · exact ⟨_, _, rfl, by (try simp only [Bool.not_eq_true', Bool.not_eq_false'] at h1 h3 h4); simp only [hx, ↓reduceIte, h1, h3, h4, hL, hA, hC, if_true, if_false, Bool.not_true, Bool.not_false, Bool.and_true, Bool.true_and, Bool.and_false, Bool.false_and, Bool.and_self, Bool.false_eq_true, Bool.true_eq_false], rfl⟩
      · exact ⟨_, _, rfl, by (try simp only [Bool.not_eq_true', Bool.not_eq_false'] at h1 h3); simp only [hx, ↓reduceIte, h1, h3, hL, hA, hC, if_true, if_false, Bool.not_true, Bool.not_false, Bool.and_true, Bool.true_and, Bool.and_false, Bool.false_and, Bool.and_self, Bool.false_eq_true, Bool.true_eq_false], rfl⟩
  by_cases q8 : k = ⟨#[108, 97, 122, 121]⟩
  · subst q8
    have hx : stmtR ge gs (.mk ⟨#[108, 97, 122, 121]⟩ t n l) = (if (n != 0) = true then false else if false = true then false else (wordL t.data.toList 65 90 && decide (((eSyns l).length : Int) ≥ 1) && formalM l.dropLast false && ge (l.getLastD zeroS))) := rfl
    refine bs (fun h1 => ?_) (fun h1 => ?_)
    · exact ⟨_, _, rfl, by (try simp only [Bool.not_eq_true', Bool.not_eq_false'] at h1); simp only [hx, ↓reduceIte, h1, hL, hA, hC, if_true, if_false, Bool.not_true, Bool.not_false, Bool.and_true, Bool.true_and, Bool.and_false, Bool.false_and, Bool.and_self, Bool.false_eq_true, Bool.true_eq_false], rfl⟩
    · refine ⟨_, _, ce_IsIdent _, ?_⟩
      refine bs (fun h3 => ?_) (fun h3 => ?_)
      · refine bs (fun h4 => ?_) (fun h4 => ?_)
        · (have hq := w1 (by assumption); refine Soft.sliceR (l := 0) (hh := l.length - 1) (by rfl) (by rfl) (by rfl) (by rfl) (by rfl) (by rfl) (by rfl) (bnd_int (by rfl) (e1 hq)) (Nat.zero_le _) (by rw [eSyns_len]; omega) ?_)
          refine ⟨_, _, f1, ?_⟩
          refine bs (fun h6 => ?_) (fun h6 => ?_)
          · refine Soft.idx (d := eSyn (.mk lk lt ln ll)) (by rfl) (by rfl) (by rfl) (by rfl) (by rfl) (by rfl) (by rfl) (by rw [e1 (by omega)]; omega) (by rw [e1 (by omega)]; exact i1 (by omega)) ?_
            refine ⟨_, _, he1 (by first | assumption | omega), ?_⟩
            exact ⟨_, _, rfl, by (try simp only [Bool.not_eq_true', Bool.not_eq_false'] at h1 h3 h4 h6); simp only [hx, ↓reduceIte, h1, h3, h4, h6, hL, hA, hC, if_true, if_false, Bool.not_true, Bool.not_false, Bool.and_true, Bool.true_and, Bool.and_false, Bool.false_and, Bool.and_self, Bool.false_eq_true, Bool.true_eq_false], rfl⟩
          · exact ⟨_, _, rfl, by (try simp only [Bool.not_eq_true', Bool.not_eq_false'] at h1 h3 h4 h6); simp only [hx, ↓reduceIte, h1, h3, h4, h6, hL, hA, hC, if_true, if_false, Bool.not_true, Bool.not_false, Bool.and_true, Bool.true_and, Bool.and_false, Bool.false_and, Bool.and_self, Bool.false_eq_true, Bool.true_eq_false], rfl⟩
        · exact ⟨_, _, rfl, by (try simp only [Bool.not_eq_true', Bool.not_eq_false'] at h1 h3 h4); simp only [hx, ↓reduceIte, h1, h3, h4, hL, hA, hC, if_true, if_false, Bool.not_true, Bool.not_false, Bool.and_true, Bool.true_and, Bool.and_false, Bool.false_and, Bool.and_self, Bool.false_eq_true, Bool.true_eq_false], rfl⟩
      · exact ⟨_, _, rfl, by (try simp only [Bool.not_eq_true', Bool.not_eq_false'] at h1 h3); simp only [hx, ↓reduceIte, h1, h3, hL, hA, hC, if_true, if_false, Bool.not_true, Bool.not_false, Bool.and_true, Bool.true_and, Bool.and_false, Bool.false_and, Bool.and_self, Bool.false_eq_true, Bool.true_eq_false], rfl⟩
  by_cases q9 : k = ⟨#[116, 104, 114, 101, 97, 100]⟩
  · subst q9
    have hx : stmtR ge gs (.mk ⟨#[116, 104, 114, 101, 97, 100]⟩ t n l) = (if (n != 0) = true then false else if (!eqB t ⟨#[]⟩) = true then false else ((((eSyns l).length : Int) == 1) && l.all gs)) := rfl
    refine bs (fun h1 => ?_) (fun h1 => ?_)
    · exact ⟨_, _, rfl, by (try simp only [Bool.not_eq_true', Bool.not_eq_false'] at h1); simp only [hx, ↓reduceIte, h1, hL, hA, hC, if_true, if_false, Bool.not_true, Bool.not_false, Bool.and_true, Bool.true_and, Bool.and_false, Bool.false_and, Bool.and_self, Bool.false_eq_true, Bool.true_eq_false], rfl⟩
    · refine bs (fun h2 => ?_) (fun h2 => ?_)
      · exact ⟨_, _, rfl, by (try simp only [Bool.not_eq_true', Bool.not_eq_false'] at h1 h2); simp only [hx, ↓reduceIte, h1, h2, hL, hA, hC, if_true, if_false, Bool.not_true, Bool.not_false, Bool.and_true, Bool.true_and, Bool.and_false, Bool.false_and, Bool.and_self, Bool.false_eq_true, Bool.true_eq_false], rfl⟩
      · refine bs (fun h3 => ?_) (fun h3 => ?_)
        · refine ⟨_, _, hst, ?_⟩
          exact ⟨_, _, rfl, by (try simp only [Bool.not_eq_true', Bool.not_eq_false'] at h1 h2 h3); simp only [hx, ↓reduceIte, h1, h2, h3, hL, hA, hC, if_true, if_false, Bool.not_true, Bool.not_false, Bool.and_true, Bool.true_and, Bool.and_false, Bool.false_and, Bool.and_self, Bool.false_eq_true, Bool.true_eq_false], rfl⟩
        · exact ⟨_, _, rfl, by (try simp only [Bool.not_eq_true', Bool.not_eq_false'] at h1 h2 h3); simp only [hx, ↓reduceIte, h1, h2, h3, hL, hA, hC, if_true, if_false, Bool.not_true, Bool.not_false, Bool.and_true, Bool.true_and, Bool.and_false, Bool.false_and, Bool.and_self, Bool.false_eq_true, Bool.true_eq_false], rfl⟩
  by_cases q10 : k = ⟨#[116, 114, 121]⟩
  · subst q10
    have hx : stmtR ge gs (.mk ⟨#[116, 114, 121]⟩ t n l) = (if (n != 0) = true then false else if (!eqB t ⟨#[]⟩) = true then false else ((((eSyns l).length : Int) == 3) && gs (l.getD 0 zeroS) && formalM ((l.drop 1).take 1) true && gs (l.getD 2 zeroS))) := rfl
    refine bs (fun h1 => ?_) (fun h1 => ?_)
    · exact ⟨_, _, rfl, by (try simp only [Bool.not_eq_true', Bool.not_eq_false'] at h1); simp only [hx, ↓reduceIte, h1, hL, hA, hC, if_true, if_false, Bool.not_true, Bool.not_false, Bool.and_true, Bool.true_and, Bool.and_false, Bool.false_and, Bool.and_self, Bool.false_eq_true, Bool.true_eq_false], rfl⟩
    · refine bs (fun h2 => ?_) (fun h2 => ?_)
      · exact ⟨_, _, rfl, by (try simp only [Bool.not_eq_true', Bool.not_eq_false'] at h1 h2); simp only [hx, ↓reduceIte, h1, h2, hL, hA, hC, if_true, if_false, Bool.not_true, Bool.not_false, Bool.and_true, Bool.true_and, Bool.and_false, Bool.false_and, Bool.and_self, Bool.false_eq_true, Bool.true_eq_false], rfl⟩
      · refine bs (fun h3 => ?_) (fun h3 => ?_)
        · (have hq := w4 (by assumption); refine Soft.idx (d := eSyn (.mk ak at' an al)) (by rfl) (by rfl) (by rfl) (by rfl) (by rfl) (by rfl) (by rfl) (by omega) (i2 hq.1) ?_)
          refine ⟨_, _, hs0 (by first | assumption | omega), ?_⟩
          refine bs (fun h5 => ?_) (fun h5 => ?_)
          · refine Soft.sliceR (l := 1) (hh := 2) (by rfl) (by rfl) (by rfl) (by rfl) (by rfl) (by rfl) (by rfl) (by rfl) (by omega) (by rw [eSyns_len]; omega) ?_
            refine ⟨_, _, f3, ?_⟩
            refine bs (fun h7 => ?_) (fun h7 => ?_)
            · refine Soft.idx (d := eSyn (.mk ck ct cn cl)) (by rfl) (by rfl) (by rfl) (by rfl) (by rfl) (by rfl) (by rfl) (by omega) (i3 (by omega)) ?_
              refine ⟨_, _, hs3 (by first | assumption | omega), ?_⟩
              exact ⟨_, _, rfl, by (try simp only [Bool.not_eq_true', Bool.not_eq_false'] at h1 h2 h3 h5 h7); simp only [hx, ↓reduceIte, h1, h2, h3, h5, h7, hL, hA, hC, if_true, if_false, Bool.not_true, Bool.not_false, Bool.and_true, Bool.true_and, Bool.and_false, Bool.false_and, Bool.and_self, Bool.false_eq_true, Bool.true_eq_false], rfl⟩
            · exact ⟨_, _, rfl, by (try simp only [Bool.not_eq_true', Bool.not_eq_false'] at h1 h2 h3 h5 h7); simp only [hx, ↓reduceIte, h1, h2, h3, h5, h7, hL, hA, hC, if_true, if_false, Bool.not_true, Bool.not_false, Bool.and_true, Bool.true_and, Bool.and_false, Bool.false_and, Bool.and_self, Bool.false_eq_true, Bool.true_eq_false], rfl⟩
          · exact ⟨_, _, rfl, by (try simp only [Bool.not_eq_true', Bool.not_eq_false'] at h1 h2 h3 h5); simp only [hx, ↓reduceIte, h1, h2, h3, h5, hL, hA, hC, if_true, if_false, Bool.not_true, Bool.not_false, Bool.and_true, Bool.true_and, Bool.and_false, Bool.false_and, Bool.and_self, Bool.false_eq_true, Bool.true_eq_false], rfl⟩
        · exact ⟨_, _, rfl, by (try simp only [Bool.not_eq_true', Bool.not_eq_false'] at h1 h2 h3); simp only [hx, ↓reduceIte, h1, h2, h3, hL, hA, hC, if_true, if_false, Bool.not_true, Bool.not_false, Bool.and_true, Bool.true_and, Bool.and_false, Bool.false_and, Bool.and_self, Bool.false_eq_true, Bool.true_eq_false], rfl⟩
  by_cases q11 : k = ⟨#[114, 97, 105, 115, 101]⟩
  · subst q11
    have hx : stmtR ge gs (.mk ⟨#[114, 97, 105, 115, 101]⟩ t n l) = (if (n != 0) = true then false else if (!eqB t ⟨#[]⟩) = true then false else ((((eSyns l).length : Int) == 1) && l.all ge)) := rfl
    refine bs (fun h1 => ?_) (fun h1 => ?_)
    · exact ⟨_, _, rfl, by (try simp only [Bool.not_eq_true', Bool.not_eq_false'] at h1); simp only [hx, ↓reduceIte, h1, hL, hA, hC, if_true, if_false, Bool.not_true, Bool.not_false, Bool.and_true, Bool.true_and, Bool.and_false, Bool.false_and, Bool.and_self, Bool.false_eq_true, Bool.true_eq_false], rfl⟩
    · refine bs (fun h2 => ?_) (fun h2 => ?_)
      · exact ⟨_, _, rfl, by (try simp only [Bool.not_eq_true', Bool.not_eq_false'] at h1 h2); simp only [hx, ↓reduceIte, h1, h2, hL, hA, hC, if_true, if_false, Bool.not_true, Bool.not_false, Bool.and_true, Bool.true_and, Bool.and_false, Bool.false_and, Bool.and_self, Bool.false_eq_true, Bool.true_eq_false], rfl⟩
      · refine bs (fun h3 => ?_) (fun h3 => ?_)
        · refine ⟨_, _, hex, ?_⟩
          exact ⟨_, _, rfl, by (try simp only [Bool.not_eq_true', Bool.not_eq_false'] at h1 h2 h3); simp only [hx, ↓reduceIte, h1, h2, h3, hL, hA, hC, if_true, if_false, Bool.not_true, Bool.not_false, Bool.and_true, Bool.true_and, Bool.and_false, Bool.false_and, Bool.and_self, Bool.false_eq_true, Bool.true_eq_false], rfl⟩
        · exact ⟨_, _, rfl, by (try simp only [Bool.not_eq_true', Bool.not_eq_false'] at h1 h2 h3); simp only [hx, ↓reduceIte, h1, h2, h3, hL, hA, hC, if_true, if_false, Bool.not_true, Bool.not_false, Bool.and_true, Bool.true_and, Bool.and_false, Bool.false_and, Bool.and_self, Bool.false_eq_true, Bool.true_eq_false], rfl⟩
  by_cases q12 : k = ⟨#[99, 104, 111, 111, 115, 101]⟩
  · subst q12
    have hx : stmtR ge gs (.mk ⟨#[99, 104, 111, 111, 115, 101]⟩ t n l) = (if (n != 0) = true then false else if (!eqB t ⟨#[]⟩) = true then false else (decide (((eSyns l).length : Int) ≥ 2) && l.all gs)) := rfl
    refine bs (fun h1 => ?_) (fun h1 => ?_)
    · exact ⟨_, _, rfl, by (try simp only [Bool.not_eq_true', Bool.not_eq_false'] at h1); simp only [hx, ↓reduceIte, h1, hL, hA, hC, if_true, if_false, Bool.not_true, Bool.not_false, Bool.and_true, Bool.true_and, Bool.and_false, Bool.false_and, Bool.and_self, Bool.false_eq_true, Bool.true_eq_false], rfl⟩
    · refine bs (fun h2 => ?_) (fun h2 => ?_)
      · exact ⟨_, _, rfl, by (try simp only [Bool.not_eq_true', Bool.not_eq_false'] at h1 h2); simp only [hx, ↓reduceIte, h1, h2, hL, hA, hC, if_true, if_false, Bool.not_true, Bool.not_false, Bool.and_true, Bool.true_and, Bool.and_false, Bool.false_and, Bool.and_self, Bool.false_eq_true, Bool.true_eq_false], rfl⟩
      · refine bs (fun h3 => ?_) (fun h3 => ?_)
        · refine ⟨_, _, hst, ?_⟩
          exact ⟨_, _, rfl, by (try simp only [Bool.not_eq_true', Bool.not_eq_false'] at h1 h2 h3); simp only [hx, ↓reduceIte, h1, h2, h3, hL, hA, hC, if_true, if_false, Bool.not_true, Bool.not_false, Bool.and_true, Bool.true_and, Bool.and_false, Bool.false_and, Bool.and_self, Bool.false_eq_true, Bool.true_eq_false], rfl⟩
        · exact ⟨_, _, rfl, by (try simp only [Bool.not_eq_true', Bool.not_eq_false'] at h1 h2 h3); simp only [hx, ↓reduceIte, h1, h2, h3, hL, hA, hC, if_true, if_false, Bool.not_true, Bool.not_false, Bool.and_true, Bool.true_and, Bool.and_false, Bool.false_and, Bool.and_self, Bool.false_eq_true, Bool.true_eq_false], rfl⟩
  by_cases q13 : k = ⟨#[99, 97, 115, 101]⟩
  · subst q13
    have hx : stmtR ge gs (.mk ⟨#[99, 97, 115, 101]⟩ t n l) = (if (n != 0) = true then false else if (!eqB t ⟨#[]⟩) = true then false else (decide (((eSyns l).length : Int) ≥ 3) && ge (l.getD 0 zeroS) && ((l.drop 1).take (l.length - 2)).all (armR gs) && gs (l.getLastD zeroS))) := rfl
    refine bs (fun h1 => ?_) (fun h1 => ?_)
    · exact ⟨_, _, rfl, by (try simp only [Bool.not_eq_true', Bool.not_eq_false'] at h1); simp only [hx, ↓reduceIte, h1, hL, hA, hC, if_true, if_false, Bool.not_true, Bool.not_false, Bool.and_true, Bool.true_and, Bool.and_false, Bool.false_and, Bool.and_self, Bool.false_eq_true, Bool.true_eq_false], rfl⟩
    · refine bs (fun h2 => ?_) (fun h2 => ?_)
      · exact ⟨_, _, rfl, by (try simp only [Bool.not_eq_true', Bool.not_eq_false'] at h1 h2); simp only [hx, ↓reduceIte, h1, h2, hL, hA, hC, if_true, if_false, Bool.not_true, Bool.not_false, Bool.and_true, Bool.true_and, Bool.and_false, Bool.false_and, Bool.and_self, Bool.false_eq_true, Bool.true_eq_false], rfl⟩
      · refine bs (fun h3 => ?_) (fun h3 => ?_)
        · (have hq := w3 (by assumption); refine Soft.idx (d := eSyn (.mk ak at' an al)) (by rfl) (by rfl) (by rfl) (by rfl) (by rfl) (by rfl) (by rfl) (by omega) (i2 hq.1) ?_)
          refine ⟨_, _, he0 (by first | assumption | omega), ?_⟩
          refine bs (fun h5 => ?_) (fun h5 => ?_)
          · refine Soft.sliceR (l := 1) (hh := l.length - 1) (by rfl) (by rfl) (by rfl) (by rfl) (by rfl) (by rfl) (by rfl) (bnd_int (by rfl) (e1 (by omega))) (by omega) (by rw [eSyns_len]; omega) ?_
            refine ⟨_, _, har, ?_⟩
            refine bs (fun h7 => ?_) (fun h7 => ?_)
            · refine Soft.idx (d := eSyn (.mk lk lt ln ll)) (by rfl) (by rfl) (by rfl) (by rfl) (by rfl) (by rfl) (by rfl) (by rw [e1 (by omega)]; omega) (by rw [e1 (by omega)]; exact i1 (by omega)) ?_
              refine ⟨_, _, hs1 (by first | assumption | omega), ?_⟩
              exact ⟨_, _, rfl, by (try simp only [Bool.not_eq_true', Bool.not_eq_false'] at h1 h2 h3 h5 h7); simp only [hx, ↓reduceIte, h1, h2, h3, h5, h7, hL, hA, hC, if_true, if_false, Bool.not_true, Bool.not_false, Bool.and_true, Bool.true_and, Bool.and_false, Bool.false_and, Bool.and_self, Bool.false_eq_true, Bool.true_eq_false], rfl⟩
            · exact ⟨_, _, rfl, by (try simp only [Bool.not_eq_true', Bool.not_eq_false'] at h1 h2 h3 h5 h7); simp only [hx, ↓reduceIte, h1, h2, h3, h5, h7, hL, hA, hC, if_true, if_false, Bool.not_true, Bool.not_false, Bool.and_true, Bool.true_and, Bool.and_false, Bool.false_and, Bool.and_self, Bool.false_eq_true, Bool.true_eq_false], rfl⟩
          · exact ⟨_, _, rfl, by (try simp only [Bool.not_eq_true', Bool.not_eq_false'] at h1 h2 h3 h5); simp only [hx, ↓reduceIte, h1, h2, h3, h5, hL, hA, hC, if_true, if_false, Bool.not_true, Bool.not_false, Bool.and_true, Bool.true_and, Bool.and_false, Bool.false_and, Bool.and_self, Bool.false_eq_true, Bool.true_eq_false], rfl⟩
        · exact ⟨_, _, rfl, by (try simp only [Bool.not_eq_true', Bool.not_eq_false'] at h1 h2 h3); simp only [hx, ↓reduceIte, h1, h2, h3, hL, hA, hC, if_true, if_false, Bool.not_true, Bool.not_false, Bool.and_true, Bool.true_and, Bool.and_false, Bool.false_and, Bool.and_self, Bool.false_eq_true, Bool.true_eq_false], rfl⟩
  have hz : eqB k ⟨#[115, 107, 105, 112]⟩ = false ∧ eqB k ⟨#[115, 101, 113]⟩ = false ∧ eqB k ⟨#[108, 111, 99, 97, 108]⟩ = false ∧ eqB k ⟨#[101, 113]⟩ = false ∧ eqB k ⟨#[105, 102]⟩ = false ∧ eqB k ⟨#[97, 112, 112, 108, 121]⟩ = false ∧ eqB k ⟨#[112, 114, 111, 99]⟩ = false ∧ eqB k ⟨#[102, 117, 110]⟩ = false ∧ eqB k ⟨#[108, 97, 122, 121]⟩ = false ∧ eqB k ⟨#[116, 104, 114, 101, 97, 100]⟩ = false ∧ eqB k ⟨#[116, 114, 121]⟩ = false ∧ eqB k ⟨#[114, 97, 105, 115, 101]⟩ = false ∧ eqB k ⟨#[99, 104, 111, 111, 115, 101]⟩ = false ∧ eqB k ⟨#[99, 97, 115, 101]⟩ = false := ⟨Bool.eq_false_iff.2 fun e => q0 (eqB_iff.1 e), Bool.eq_false_iff.2 fun e => q1 (eqB_iff.1 e), Bool.eq_false_iff.2 fun e => q2 (eqB_iff.1 e), Bool.eq_false_iff.2 fun e => q3 (eqB_iff.1 e), Bool.eq_false_iff.2 fun e => q4 (eqB_iff.1 e), Bool.eq_false_iff.2 fun e => q5 (eqB_iff.1 e), Bool.eq_false_iff.2 fun e => q6 (eqB_iff.1 e), Bool.eq_false_iff.2 fun e => q7 (eqB_iff.1 e), Bool.eq_false_iff.2 fun e => q8 (eqB_iff.1 e), Bool.eq_false_iff.2 fun e => q9 (eqB_iff.1 e), Bool.eq_false_iff.2 fun e => q10 (eqB_iff.1 e), Bool.eq_false_iff.2 fun e => q11 (eqB_iff.1 e), Bool.eq_false_iff.2 fun e => q12 (eqB_iff.1 e), Bool.eq_false_iff.2 fun e => q13 (eqB_iff.1 e)⟩
  refine bs (fun h1 => ?_) (fun h1 => ?_)
  · exact ⟨_, _, rfl, by simp only [stmtR, ↓reduceIte, hz, h1, Bool.false_eq_true, Bool.not_false, Bool.and_true, Bool.true_and, if_true, if_false, Bool.not_true, Bool.and_false, ite_self], rfl⟩
  · refine bs (fun h2 => ?_) (fun h2 => ?_)
    · refine bs (fun h3 => ?_) (fun h3 => ?_)
      · refine bs (fun h4 => ?_) (fun h4 => ?_)
        · refine bs (fun h5 => ?_) (fun h5 => ?_)
          · exact ⟨_, _, rfl, by simp only [stmtR, ↓reduceIte, hz, h1, h2, h3, h4, h5, Bool.false_eq_true, Bool.not_false, Bool.and_true, Bool.true_and, if_true, if_false, Bool.not_true, Bool.and_false, ite_self], rfl⟩
          · refine bs (fun h6 => ?_) (fun h6 => ?_)
            · exact absurd (eqB_iff.1 h6) (by assumption)
            · refine bs (fun h7 => ?_) (fun h7 => ?_)
              · exact absurd (eqB_iff.1 h7) (by assumption)
              · refine bs (fun h8 => ?_) (fun h8 => ?_)
                · exact absurd (eqB_iff.1 h8) (by assumption)
                · refine bs (fun h9 => ?_) (fun h9 => ?_)
                  · exact absurd (eqB_iff.1 h9) (by assumption)
                  · refine bs (fun h10 => ?_) (fun h10 => ?_)
                    · exact absurd (eqB_iff.1 h10) (by assumption)
                    · refine bs (fun h11 => ?_) (fun h11 => ?_)
                      · exact absurd (eqB_iff.1 h11) (by assumption)
                      · refine bs (fun h12 => ?_) (fun h12 => ?_)
                        · exact absurd (eqB_iff.1 h12) (by assumption)
                        · refine bs (fun h13 => ?_) (fun h13 => ?_)
                          · exact absurd (eqB_iff.1 h13) (by assumption)
                          · refine bs (fun h14 => ?_) (fun h14 => ?_)
                            · exact absurd (eqB_iff.1 h14) (by assumption)
                            · refine bs (fun h15 => ?_) (fun h15 => ?_)
                              · exact absurd (eqB_iff.1 h15) (by assumption)
                              · refine bs (fun h16 => ?_) (fun h16 => ?_)
                                · exact absurd (eqB_iff.1 h16) (by assumption)
                                · refine bs (fun h17 => ?_) (fun h17 => ?_)
                                  · exact absurd (eqB_iff.1 h17) (by assumption)
                                  · refine bs (fun h18 => ?_) (fun h18 => ?_)
                                    · exact absurd (eqB_iff.1 h18) (by assumption)
                                    · refine bs (fun h19 => ?_) (fun h19 => ?_)
                                      · exact absurd (eqB_iff.1 h19) (by assumption)
                                      · exact ⟨_, _, rfl, by simp only [stmtR, ↓reduceIte, hz, h1, h2, h3, h4, h5, h6, h7, h8, h9, h10, h11, h12, h13, h14, h15, h16, h17, h18, h19, Bool.false_eq_true, Bool.not_false, Bool.and_true, Bool.true_and, if_true, if_false, Bool.not_true, Bool.and_false, ite_self], rfl⟩
        · refine bs (fun h20 => ?_) (fun h20 => ?_)
          · exact absurd (eqB_iff.1 h20) (by assumption)
          · refine bs (fun h21 => ?_) (fun h21 => ?_)
            · exact absurd (eqB_iff.1 h21) (by assumption)
            · refine bs (fun h22 => ?_) (fun h22 => ?_)
              · exact absurd (eqB_iff.1 h22) (by assumption)
              · refine bs (fun h23 => ?_) (fun h23 => ?_)
                · exact absurd (eqB_iff.1 h23) (by assumption)
                · refine bs (fun h24 => ?_) (fun h24 => ?_)
                  · exact absurd (eqB_iff.1 h24) (by assumption)
                  · refine bs (fun h25 => ?_) (fun h25 => ?_)
                    · exact absurd (eqB_iff.1 h25) (by assumption)
                    · refine bs (fun h26 => ?_) (fun h26 => ?_)
                      · exact absurd (eqB_iff.1 h26) (by assumption)
                      · refine bs (fun h27 => ?_) (fun h27 => ?_)
                        · exact absurd (eqB_iff.1 h27) (by assumption)
                        · refine bs (fun h28 => ?_) (fun h28 => ?_)
                          · exact absurd (eqB_iff.1 h28) (by assumption)
                          · refine bs (fun h29 => ?_) (fun h29 => ?_)
                            · exact absurd (eqB_iff.1 h29) (by assumption)
                            · refine bs (fun h30 => ?_) (fun h30 => ?_)
                              · exact absurd (eqB_iff.1 h30) (by assumption)
                              · refine bs (fun h31 => ?_) (fun h31 => ?_)
                                · exact absurd (eqB_iff.1 h31) (by assumption)
                                · refine bs (fun h32 => ?_) (fun h32 => ?_)
                                  · exact absurd (eqB_iff.1 h32) (by assumption)
                                  · refine bs (fun h33 => ?_) (fun h33 => ?_)
                                    · exact absurd (eqB_iff.1 h33) (by assumption)
                                    · exact ⟨_, _, rfl, by simp only [stmtR, ↓reduceIte, hz, h1, h2, h3, h4, h20, h21, h22, h23, h24, h25, h26, h27, h28, h29, h30, h31, h32, h33, Bool.false_eq_true, Bool.not_false, Bool.and_true, Bool.true_and, if_true, if_false, Bool.not_true, Bool.and_false, ite_self], rfl⟩
      · refine bs (fun h34 => ?_) (fun h34 => ?_)
        · exact absurd (eqB_iff.1 h34) (by assumption)
        · refine bs (fun h35 => ?_) (fun h35 => ?_)
          · exact absurd (eqB_iff.1 h35) (by assumption)
          · refine bs (fun h36 => ?_) (fun h36 => ?_)
            · exact absurd (eqB_iff.1 h36) (by assumption)
            · refine bs (fun h37 => ?_) (fun h37 => ?_)
              · exact absurd (eqB_iff.1 h37) (by assumption)
              · refine bs (fun h38 => ?_) (fun h38 => ?_)
                · exact absurd (eqB_iff.1 h38) (by assumption)
                · refine bs (fun h39 => ?_) (fun h39 => ?_)
                  · exact absurd (eqB_iff.1 h39) (by assumption)
                  · refine bs (fun h40 => ?_) (fun h40 => ?_)
                    · exact absurd (eqB_iff.1 h40) (by assumption)
                    · refine bs (fun h41 => ?_) (fun h41 => ?_)
                      · exact absurd (eqB_iff.1 h41) (by assumption)
                      · refine bs (fun h42 => ?_) (fun h42 => ?_)
                        · exact absurd (eqB_iff.1 h42) (by assumption)
                        · refine bs (fun h43 => ?_) (fun h43 => ?_)
                          · exact absurd (eqB_iff.1 h43) (by assumption)
                          · refine bs (fun h44 => ?_) (fun h44 => ?_)
                            · exact absurd (eqB_iff.1 h44) (by assumption)
                            · refine bs (fun h45 => ?_) (fun h45 => ?_)
                              · exact absurd (eqB_iff.1 h45) (by assumption)
                              · refine bs (fun h46 => ?_) (fun h46 => ?_)
                                · exact absurd (eqB_iff.1 h46) (by assumption)
                                · refine bs (fun h47 => ?_) (fun h47 => ?_)
                                  · exact absurd (eqB_iff.1 h47) (by assumption)
                                  · exact ⟨_, _, rfl, by simp only [stmtR, ↓reduceIte, hz, h1, h2, h3, h34, h35, h36, h37, h38, h39, h40, h41, h42, h43, h44, h45, h46, h47, Bool.false_eq_true, Bool.not_false, Bool.and_true, Bool.true_and, if_true, if_false, Bool.not_true, Bool.and_false, ite_self], rfl⟩
    · refine bs (fun h48 => ?_) (fun h48 => ?_)
      · exact absurd (eqB_iff.1 h48) (by assumption)
      · refine bs (fun h49 => ?_) (fun h49 => ?_)
        · exact absurd (eqB_iff.1 h49) (by assumption)
        · refine bs (fun h50 => ?_) (fun h50 => ?_)
          · exact absurd (eqB_iff.1 h50) (by assumption)
          · refine bs (fun h51 => ?_) (fun h51 => ?_)
            · exact absurd (eqB_iff.1 h51) (by assumption)
            · refine bs (fun h52 => ?_) (fun h52 => ?_)
              · exact absurd (eqB_iff.1 h52) (by assumption)
              · refine bs (fun h53 => ?_) (fun h53 => ?_)
                · exact absurd (eqB_iff.1 h53) (by assumption)
                · refine bs (fun h54 => ?_) (fun h54 => ?_)
                  · exact absurd (eqB_iff.1 h54) (by assumption)
                  · refine bs (fun h55 => ?_) (fun h55 => ?_)
                    · exact absurd (eqB_iff.1 h55) (by assumption)
                    · refine bs (fun h56 => ?_) (fun h56 => ?_)
                      · exact absurd (eqB_iff.1 h56) (by assumption)
                      · refine bs (fun h57 => ?_) (fun h57 => ?_)
                        · exact absurd (eqB_iff.1 h57) (by assumption)
                        · refine bs (fun h58 => ?_) (fun h58 => ?_)
                          · exact absurd (eqB_iff.1 h58) (by assumption)
                          · refine bs (fun h59 => ?_) (fun h59 => ?_)
                            · exact absurd (eqB_iff.1 h59) (by assumption)
                            · refine bs (fun h60 => ?_) (fun h60 => ?_)
                              · exact absurd (eqB_iff.1 h60) (by assumption)
                              · refine bs (fun h61 => ?_) (fun h61 => ?_)
                                · exact absurd (eqB_iff.1 h61) (by assumption)
                                · exact ⟨_, _, rfl, by simp only [stmtR, ↓reduceIte, hz, h1, h2, h48, h49, h50, h51, h52, h53, h54, h55, h56, h57, h58, h59, h60, h61, Bool.false_eq_true, Bool.not_false, Bool.and_true, Bool.true_and, if_true, if_false, Bool.not_true, Bool.and_false, ite_self], rfl⟩
end
end Go.Proofs.YtfbppkjjdbkedaaGreatDoor.Ref
