/-
  Walks: expressions, as the reference sees them.
-/
import Derived.Test.YtfbppkjjdbkedaaGreatDoorVr
namespace Go.Proofs.YtfbppkjjdbkedaaGreatDoor.Ref
noncomputable section
open Go
set_option linter.unusedVariables false
set_option linter.unusedSimpArgs false
set_option maxRecDepth 100000
def opsR : List ByteArray := [⟨#[43]⟩, ⟨#[45]⟩, ⟨#[42]⟩, ⟨#[61, 61]⟩, ⟨#[92, 61]⟩, ⟨#[60]⟩, ⟨#[61, 60]⟩, ⟨#[62]⟩, ⟨#[62, 61]⟩]
def opR (t : ByteArray) : Bool := opsR.any (fun o => eqB o t)
def exprR (ge gs : Syn → Bool) : Syn → Bool
  | .mk k t n l =>
  if eqB k ⟨#[116, 117, 112, 108, 101]⟩ = true then bareR (.mk k t n l) true false true && atomB t && decide (((eSyns l).length : Int) ≥ 1) && decide (((eSyns l).length : Int) ≤ 8) && l.all ge
  else if eqB k ⟨#[111, 112]⟩ = true then opR t && bareR (.mk k t n l) true false true && (((eSyns l).length : Int) == 2) && l.all ge
  else if eqB k ⟨#[99, 97, 108, 108]⟩ = true then bareR (.mk k t n l) false false true && decide (((eSyns l).length : Int) ≥ 1) && l.all ge
  else if eqB k ⟨#[102, 110]⟩ = true then bareR (.mk k t n l) false false true && decide (((eSyns l).length : Int) ≥ 1) && formalM l.dropLast false && ge (l.getLastD zeroS)
  else if eqB k ⟨#[112, 114]⟩ = true then bareR (.mk k t n l) false false true && decide (((eSyns l).length : Int) ≥ 1) && formalM l.dropLast false && gs (l.getLastD zeroS)
  else if eqB k ⟨#[102, 117, 116, 117, 114, 101]⟩ = true then bareR (.mk k t n l) false false true && (((eSyns l).length : Int) == 1) && l.all ge
  else if eqB k ⟨#[108, 101, 116]⟩ = true then bareR (.mk k t n l) false false true && decide (((eSyns l).length : Int) ≥ 3) && formalM (l.take (l.length - 2)) true && gs (l.getD (l.length - 2) zeroS) && ge (l.getLastD zeroS)
  else if eqB k ⟨#[99, 111, 110, 100]⟩ = true then bareR (.mk k t n l) false false true && (((eSyns l).length : Int) == 3) && l.all ge
  else simpleM (.mk k t n l)
set_option maxHeartbeats 0 in
theorem ce_IsExpr {ge gs : Syn → Bool} {x : Syn} (hl : sizeS x ≤ 100000) (ht : x.text.data.toList.length < 4611686018427387000) (he : ∀ y ∈ x.kids, Ans 46 ge y) (hs : ∀ y ∈ x.kids, Ans 45 gs y) : Ans 46 (exprR ge gs) x := by
  obtain ⟨k, t, n, l⟩ := x
  have hll := len_size l
  simp only [sizeS] at hl
  simp only [Syn.kids] at he hs
  refine ce_code hX hF (H := Hs 46) (fn := Tryz.f46) rfl rfl ?_
  have hop : opR t = (opsR.take 9).any (fun o => eqB o t) := rfl
  have hex := ce_exprs (g := ge) (l := l) (by omega) he
  have hf : ∀ m : Int, decide (((eSyns l).length : Int) ≥ m) = true → m ≤ (l.length : Int) := fun m h => by rw [eSyns_len] at h; simpa using h
  have e1 : 1 ≤ l.length → IntKind.i64.wrap (((eSyns l).length : Int) - 1) = ((l.length - 1 : Nat) : Int) := fun h => by rw [eSyns_len, wrap64 (by omega) (by omega)]; omega
  have e2 : 2 ≤ l.length → IntKind.i64.wrap (((eSyns l).length : Int) - 2) = ((l.length - 2 : Nat) : Int) := fun h => by rw [eSyns_len, wrap64 (by omega) (by omega)]; omega
  have t1 : ((eSyns l).drop 0).take (l.length - 1 - 0) = eSyns l.dropLast := by rw [eSyns_map, eSyns_map, List.dropLast_eq_take, Nat.sub_zero, List.map_take]; rfl
  have t2 : ((eSyns l).drop 0).take (l.length - 2 - 0) = eSyns (l.take (l.length - 2)) := by rw [eSyns_map, eSyns_map, Nat.sub_zero, List.map_take]; rfl
  have f1 := ce_formal (l := l.dropLast) (some := false) (Nat.le_trans (size_dropLast l) (by omega))
  have f2 := ce_formal (l := l.take (l.length - 2)) (some := true) (Nat.le_trans (size_take l _) (by omega))
  rw [← t1] at f1
  rw [← t2] at f2
  rcases hL : l.getLastD zeroS with ⟨lk, lt, ln, ll⟩
  rcases hM : l.getD (l.length - 2) zeroS with ⟨mk, mt, mn, ml⟩
  have g1 : ∀ h : 1 ≤ l.length, l[l.length - 1] = .mk lk lt ln ll := fun h => by
    rw [← hL]
    cases l with
    | nil => simp at h
    | cons a t => simp [List.getLastD, List.getLast_eq_getElem]
  have g2 : ∀ h : 2 ≤ l.length, l[l.length - 2] = .mk mk mt mn ml := fun h => by
    rw [← hM]; simp [List.getD, List.getElem?_eq_getElem (show l.length - 2 < l.length by omega)]
  have i1 : 1 ≤ l.length → (eSyns l)[((l.length - 1 : Nat) : Int).toNat]? = some (eSyn (.mk lk lt ln ll)) := fun h => by
    rw [← g1 h]; exact eSyns_get (show l.length - 1 < l.length by omega)
  have i2 : 2 ≤ l.length → (eSyns l)[((l.length - 2 : Nat) : Int).toNat]? = some (eSyn (.mk mk mt mn ml)) := fun h => by
    rw [← g2 h]; exact eSyns_get (show l.length - 2 < l.length by omega)
  have he1 : 1 ≤ l.length → Ans 46 ge (.mk lk lt ln ll) := fun h => by rw [← g1 h]; exact he _ (List.getElem_mem _)
  have hs1 : 1 ≤ l.length → Ans 45 gs (.mk lk lt ln ll) := fun h => by rw [← g1 h]; exact hs _ (List.getElem_mem _)
  have hs2 : 2 ≤ l.length → Ans 45 gs (.mk mk mt mn ml) := fun h => by rw [← g2 h]; exact hs _ (List.getElem_mem _)
  have hg1 : 1 ≤ (l.length : Int) → 1 ≤ l.length := fun h => by omega
  have hg3 : 3 ≤ (l.length : Int) → 1 ≤ l.length ∧ 2 ≤ l.length := fun h => by omega
  refine bs (fun h1 => ?_) (fun h1 => ?_)
  · refine ⟨_, _, ce_Rbare _ _ _ _ _ _ _, ?_⟩
    refine bs (fun h3 => ?_) (fun h3 => ?_)
    · refine ⟨_, _, ce_IsAtom _, ?_⟩
      refine bs (fun h5 => ?_) (fun h5 => ?_)
      · refine bs (fun h6 => ?_) (fun h6 => ?_)
        · refine bs (fun h7 => ?_) (fun h7 => ?_)
          · refine ⟨_, _, hex, ?_⟩
            exact ⟨_, _, rfl, by (try simp only [Bool.not_eq_true', Bool.not_eq_false'] at h1 h3 h5 h6 h7); simp only [exprR, hop, h1, h3, h5, h6, h7, hL, hM, if_true, if_false, Bool.and_true, Bool.true_and, Bool.and_false, Bool.false_and, Bool.false_eq_true, Bool.true_eq_false], rfl⟩
          · exact ⟨_, _, rfl, by (try simp only [Bool.not_eq_true', Bool.not_eq_false'] at h1 h3 h5 h6 h7); simp only [exprR, hop, h1, h3, h5, h6, h7, hL, hM, if_true, if_false, Bool.and_true, Bool.true_and, Bool.and_false, Bool.false_and, Bool.false_eq_true, Bool.true_eq_false], rfl⟩
        · exact ⟨_, _, rfl, by (try simp only [Bool.not_eq_true', Bool.not_eq_false'] at h1 h3 h5 h6); simp only [exprR, hop, h1, h3, h5, h6, hL, hM, if_true, if_false, Bool.and_true, Bool.true_and, Bool.and_false, Bool.false_and, Bool.false_eq_true, Bool.true_eq_false], rfl⟩
      · exact ⟨_, _, rfl, by (try simp only [Bool.not_eq_true', Bool.not_eq_false'] at h1 h3 h5); simp only [exprR, hop, h1, h3, h5, hL, hM, if_true, if_false, Bool.and_true, Bool.true_and, Bool.and_false, Bool.false_and, Bool.false_eq_true, Bool.true_eq_false], rfl⟩
    · exact ⟨_, _, rfl, by (try simp only [Bool.not_eq_true', Bool.not_eq_false'] at h1 h3); simp only [exprR, hop, h1, h3, hL, hM, if_true, if_false, Bool.and_true, Bool.true_and, Bool.and_false, Bool.false_and, Bool.false_eq_true, Bool.true_eq_false], rfl⟩
  · refine bs (fun h9 => ?_) (fun h9 => ?_)
    · (have hany : ∀ i : Nat, i < 9 → (opsR.take (i + 1)).any (fun o => eqB o t) = ((opsR.take i).any (fun o => eqB o t) || eqB (opsR[i]?.getD ⟨#[]⟩) t) := fun i hi => (by rw [List.take_add_one, List.any_append]; have : i < opsR.length := hi; simp [List.getElem?_eq_getElem this]); refine w_loop hX (H := Hs 46) [1, 3, 4, 5, 6] (fun r S => ∃ i : Nat, r = 9 - i ∧ i ≤ 9 ∧ S = ⟨192, [(1, .d (.fz (eSyn (.mk k t n l)))), (3, .d (I ((eSyns l).length : Int))), (4, .d (.row true 1 (opsR.map T))), (5, .d (B ((opsR.take i).any (fun o => eqB o t)))), (6, .d (I i))], [], 0⟩) 9 ⟨0, by simp, by simp, rfl⟩ ?_; rintro r S ⟨i, rfl, hi, rfl⟩; refine bs (fun hb => ?_) (fun hb => ?_); rotate_left; (obtain rfl : i = 9 := by (have hb : ¬ ((i : Int) < 9) := of_decide_eq_false hb); omega); rotate_left; have hb : (i : Int) < 9 := of_decide_eq_true hb; have hb2 : i < 9 := (by omega); have e9 := inc64 i (by omega))
      · refine .mk (by kernel_rfl) ?_
        refine bs (fun h10 => ?_) (fun h10 => ?_)
        · exact ⟨9 - (i + 1), by omega, i + 1, rfl, by omega, by rw [e9, hany i hb2]; (try simp only [Bool.not_eq_true', Bool.not_eq_false'] at h1 h9 h10); simp only [h1, h9, h10, Bool.true_or, Bool.false_or]⟩
        · refine SoftE.idx (d := T (opsR[i]?.getD ⟨#[]⟩)) (by rfl) (by rfl) (by rfl) (by rfl) (by rfl) (by rfl) (by omega) (by simp [List.getElem?_eq_getElem (show i < opsR.length from hb2)]) ?_
          exact ⟨9 - (i + 1), by omega, i + 1, rfl, by omega, by rw [e9, hany i hb2]; (try simp only [Bool.not_eq_true', Bool.not_eq_false'] at h1 h9 h10); simp only [h1, h9, h10, Bool.true_or, Bool.false_or]⟩
      · refine bs (fun h11 => ?_) (fun h11 => ?_)
        · refine ⟨_, _, ce_Rbare _ _ _ _ _ _ _, ?_⟩
          refine bs (fun h13 => ?_) (fun h13 => ?_)
          · refine bs (fun h14 => ?_) (fun h14 => ?_)
            · refine ⟨_, _, hex, ?_⟩
              exact ⟨_, _, rfl, by (try simp only [Bool.not_eq_true', Bool.not_eq_false'] at h1 h9 h11 h13 h14); simp only [exprR, hop, h1, h9, h11, h13, h14, hL, hM, if_true, if_false, Bool.and_true, Bool.true_and, Bool.and_false, Bool.false_and, Bool.false_eq_true, Bool.true_eq_false], rfl⟩
            · exact ⟨_, _, rfl, by (try simp only [Bool.not_eq_true', Bool.not_eq_false'] at h1 h9 h11 h13 h14); simp only [exprR, hop, h1, h9, h11, h13, h14, hL, hM, if_true, if_false, Bool.and_true, Bool.true_and, Bool.and_false, Bool.false_and, Bool.false_eq_true, Bool.true_eq_false], rfl⟩
          · exact ⟨_, _, rfl, by (try simp only [Bool.not_eq_true', Bool.not_eq_false'] at h1 h9 h11 h13); simp only [exprR, hop, h1, h9, h11, h13, hL, hM, if_true, if_false, Bool.and_true, Bool.true_and, Bool.and_false, Bool.false_and, Bool.false_eq_true, Bool.true_eq_false], rfl⟩
        · exact ⟨_, _, rfl, by (try simp only [Bool.not_eq_true', Bool.not_eq_false'] at h1 h9 h11); simp only [exprR, hop, h1, h9, h11, hL, hM, if_true, if_false, Bool.and_true, Bool.true_and, Bool.and_false, Bool.false_and, Bool.false_eq_true, Bool.true_eq_false], rfl⟩
    · refine bs (fun h16 => ?_) (fun h16 => ?_)
      · refine ⟨_, _, ce_Rbare _ _ _ _ _ _ _, ?_⟩
        refine bs (fun h18 => ?_) (fun h18 => ?_)
        · refine bs (fun h19 => ?_) (fun h19 => ?_)
          · refine ⟨_, _, hex, ?_⟩
            exact ⟨_, _, rfl, by (try simp only [Bool.not_eq_true', Bool.not_eq_false'] at h1 h9 h16 h18 h19); simp only [exprR, hop, h1, h9, h16, h18, h19, hL, hM, if_true, if_false, Bool.and_true, Bool.true_and, Bool.and_false, Bool.false_and, Bool.false_eq_true, Bool.true_eq_false], rfl⟩
          · exact ⟨_, _, rfl, by (try simp only [Bool.not_eq_true', Bool.not_eq_false'] at h1 h9 h16 h18 h19); simp only [exprR, hop, h1, h9, h16, h18, h19, hL, hM, if_true, if_false, Bool.and_true, Bool.true_and, Bool.and_false, Bool.false_and, Bool.false_eq_true, Bool.true_eq_false], rfl⟩
        · exact ⟨_, _, rfl, by (try simp only [Bool.not_eq_true', Bool.not_eq_false'] at h1 h9 h16 h18); simp only [exprR, hop, h1, h9, h16, h18, hL, hM, if_true, if_false, Bool.and_true, Bool.true_and, Bool.and_false, Bool.false_and, Bool.false_eq_true, Bool.true_eq_false], rfl⟩
      · refine bs (fun h21 => ?_) (fun h21 => ?_)
        · refine ⟨_, _, ce_Rbare _ _ _ _ _ _ _, ?_⟩
          refine bs (fun h23 => ?_) (fun h23 => ?_)
          · refine bs (fun h24 => ?_) (fun h24 => ?_)
            · (have hq := hf 1 (by assumption); refine Soft.sliceR (l := 0) (hh := l.length - 1) (by rfl) (by rfl) (by rfl) (by rfl) (by rfl) (by rfl) (by rfl) (bnd_int (by rfl) (e1 (by omega))) (Nat.zero_le _) (by rw [eSyns_len]; omega) ?_)
              refine ⟨_, _, f1, ?_⟩
              refine bs (fun h26 => ?_) (fun h26 => ?_)
              · refine Soft.idx (d := eSyn (.mk lk lt ln ll)) (by rfl) (by rfl) (by rfl) (by rfl) (by rfl) (by rfl) (by rfl) (by rw [e1 (by omega)]; omega) (by rw [e1 (by omega)]; exact i1 (by omega)) ?_
                refine ⟨_, _, he1 (by omega), ?_⟩
                exact ⟨_, _, rfl, by (try simp only [Bool.not_eq_true', Bool.not_eq_false'] at h1 h9 h16 h21 h23 h24 h26); simp only [exprR, hop, h1, h9, h16, h21, h23, h24, h26, hL, hM, if_true, if_false, Bool.and_true, Bool.true_and, Bool.and_false, Bool.false_and, Bool.false_eq_true, Bool.true_eq_false], rfl⟩
              · exact ⟨_, _, rfl, by (try simp only [Bool.not_eq_true', Bool.not_eq_false'] at h1 h9 h16 h21 h23 h24 h26); simp only [exprR, hop, h1, h9, h16, h21, h23, h24, h26, hL, hM, if_true, if_false, Bool.and_true, Bool.true_and, Bool.and_false, Bool.false_and, Bool.false_eq_true, Bool.true_eq_false], rfl⟩
            · exact ⟨_, _, rfl, by (try simp only [Bool.not_eq_true', Bool.not_eq_false'] at h1 h9 h16 h21 h23 h24); simp only [exprR, hop, h1, h9, h16, h21, h23, h24, hL, hM, if_true, if_false, Bool.and_true, Bool.true_and, Bool.and_false, Bool.false_and, Bool.false_eq_true, Bool.true_eq_false], rfl⟩
          · exact ⟨_, _, rfl, by (try simp only [Bool.not_eq_true', Bool.not_eq_false'] at h1 h9 h16 h21 h23); simp only [exprR, hop, h1, h9, h16, h21, h23, hL, hM, if_true, if_false, Bool.and_true, Bool.true_and, Bool.and_false, Bool.false_and, Bool.false_eq_true, Bool.true_eq_false], rfl⟩
        · refine bs (fun h28 => ?_) (fun h28 => ?_)
          · refine ⟨_, _, ce_Rbare _ _ _ _ _ _ _, ?_⟩
            refine bs (fun h30 => ?_) (fun h30 => ?_)
            · refine bs (fun h31 => ?_) (fun h31 => ?_)
              · (have hq := hf 1 (by assumption); refine Soft.sliceR (l := 0) (hh := l.length - 1) (by rfl) (by rfl) (by rfl) (by rfl) (by rfl) (by rfl) (by rfl) (bnd_int (by rfl) (e1 (by omega))) (Nat.zero_le _) (by rw [eSyns_len]; omega) ?_)
                refine ⟨_, _, f1, ?_⟩
                refine bs (fun h33 => ?_) (fun h33 => ?_)
                · refine Soft.idx (d := eSyn (.mk lk lt ln ll)) (by rfl) (by rfl) (by rfl) (by rfl) (by rfl) (by rfl) (by rfl) (by rw [e1 (by omega)]; omega) (by rw [e1 (by omega)]; exact i1 (by omega)) ?_
                  refine ⟨_, _, hs1 (by omega), ?_⟩
                  exact ⟨_, _, rfl, by (try simp only [Bool.not_eq_true', Bool.not_eq_false'] at h1 h9 h16 h21 h28 h30 h31 h33); simp only [exprR, hop, h1, h9, h16, h21, h28, h30, h31, h33, hL, hM, if_true, if_false, Bool.and_true, Bool.true_and, Bool.and_false, Bool.false_and, Bool.false_eq_true, Bool.true_eq_false], rfl⟩
                · exact ⟨_, _, rfl, by (try simp only [Bool.not_eq_true', Bool.not_eq_false'] at h1 h9 h16 h21 h28 h30 h31 h33); simp only [exprR, hop, h1, h9, h16, h21, h28, h30, h31, h33, hL, hM, if_true, if_false, Bool.and_true, Bool.true_and, Bool.and_false, Bool.false_and, Bool.false_eq_true, Bool.true_eq_false], rfl⟩
              · exact ⟨_, _, rfl, by (try simp only [Bool.not_eq_true', Bool.not_eq_false'] at h1 h9 h16 h21 h28 h30 h31); simp only [exprR, hop, h1, h9, h16, h21, h28, h30, h31, hL, hM, if_true, if_false, Bool.and_true, Bool.true_and, Bool.and_false, Bool.false_and, Bool.false_eq_true, Bool.true_eq_false], rfl⟩
            · exact ⟨_, _, rfl, by (try simp only [Bool.not_eq_true', Bool.not_eq_false'] at h1 h9 h16 h21 h28 h30); simp only [exprR, hop, h1, h9, h16, h21, h28, h30, hL, hM, if_true, if_false, Bool.and_true, Bool.true_and, Bool.and_false, Bool.false_and, Bool.false_eq_true, Bool.true_eq_false], rfl⟩
          · refine bs (fun h35 => ?_) (fun h35 => ?_)
            · refine ⟨_, _, ce_Rbare _ _ _ _ _ _ _, ?_⟩
              refine bs (fun h37 => ?_) (fun h37 => ?_)
              · refine bs (fun h38 => ?_) (fun h38 => ?_)
                · refine ⟨_, _, hex, ?_⟩
                  exact ⟨_, _, rfl, by (try simp only [Bool.not_eq_true', Bool.not_eq_false'] at h1 h9 h16 h21 h28 h35 h37 h38); simp only [exprR, hop, h1, h9, h16, h21, h28, h35, h37, h38, hL, hM, if_true, if_false, Bool.and_true, Bool.true_and, Bool.and_false, Bool.false_and, Bool.false_eq_true, Bool.true_eq_false], rfl⟩
                · exact ⟨_, _, rfl, by (try simp only [Bool.not_eq_true', Bool.not_eq_false'] at h1 h9 h16 h21 h28 h35 h37 h38); simp only [exprR, hop, h1, h9, h16, h21, h28, h35, h37, h38, hL, hM, if_true, if_false, Bool.and_true, Bool.true_and, Bool.and_false, Bool.false_and, Bool.false_eq_true, Bool.true_eq_false], rfl⟩
              · exact ⟨_, _, rfl, by (try simp only [Bool.not_eq_true', Bool.not_eq_false'] at h1 h9 h16 h21 h28 h35 h37); simp only [exprR, hop, h1, h9, h16, h21, h28, h35, h37, hL, hM, if_true, if_false, Bool.and_true, Bool.true_and, Bool.and_false, Bool.false_and, Bool.false_eq_true, Bool.true_eq_false], rfl⟩
            · refine bs (fun h40 => ?_) (fun h40 => ?_)
              · refine ⟨_, _, ce_Rbare _ _ _ _ _ _ _, ?_⟩
                refine bs (fun h42 => ?_) (fun h42 => ?_)
                · refine bs (fun h43 => ?_) (fun h43 => ?_)
                  · (have hq := hf 3 (by assumption); refine Soft.sliceR (l := 0) (hh := l.length - 2) (by rfl) (by rfl) (by rfl) (by rfl) (by rfl) (by rfl) (by rfl) (bnd_int (by rfl) (e2 (by omega))) (Nat.zero_le _) (by rw [eSyns_len]; omega) ?_)
                    refine ⟨_, _, f2, ?_⟩
                    refine bs (fun h45 => ?_) (fun h45 => ?_)
                    · refine Soft.idx (d := eSyn (.mk mk mt mn ml)) (by rfl) (by rfl) (by rfl) (by rfl) (by rfl) (by rfl) (by rfl) (by rw [e2 (by omega)]; omega) (by rw [e2 (by omega)]; exact i2 (by omega)) ?_
                      refine ⟨_, _, hs2 (by omega), ?_⟩
                      refine bs (fun h47 => ?_) (fun h47 => ?_)
                      · refine Soft.idx (d := eSyn (.mk lk lt ln ll)) (by rfl) (by rfl) (by rfl) (by rfl) (by rfl) (by rfl) (by rfl) (by rw [e1 (by omega)]; omega) (by rw [e1 (by omega)]; exact i1 (by omega)) ?_
                        refine ⟨_, _, he1 (by omega), ?_⟩
                        exact ⟨_, _, rfl, by (try simp only [Bool.not_eq_true', Bool.not_eq_false'] at h1 h9 h16 h21 h28 h35 h40 h42 h43 h45 h47); simp only [exprR, hop, h1, h9, h16, h21, h28, h35, h40, h42, h43, h45, h47, hL, hM, if_true, if_false, Bool.and_true, Bool.true_and, Bool.and_false, Bool.false_and, Bool.false_eq_true, Bool.true_eq_false], rfl⟩
                      · exact ⟨_, _, rfl, by (try simp only [Bool.not_eq_true', Bool.not_eq_false'] at h1 h9 h16 h21 h28 h35 h40 h42 h43 h45 h47); simp only [exprR, hop, h1, h9, h16, h21, h28, h35, h40, h42, h43, h45, h47, hL, hM, if_true, if_false, Bool.and_true, Bool.true_and, Bool.and_false, Bool.false_and, Bool.false_eq_true, Bool.true_eq_false], rfl⟩
                    · exact ⟨_, _, rfl, by (try simp only [Bool.not_eq_true', Bool.not_eq_false'] at h1 h9 h16 h21 h28 h35 h40 h42 h43 h45); simp only [exprR, hop, h1, h9, h16, h21, h28, h35, h40, h42, h43, h45, hL, hM, if_true, if_false, Bool.and_true, Bool.true_and, Bool.and_false, Bool.false_and, Bool.false_eq_true, Bool.true_eq_false], rfl⟩
                  · exact ⟨_, _, rfl, by (try simp only [Bool.not_eq_true', Bool.not_eq_false'] at h1 h9 h16 h21 h28 h35 h40 h42 h43); simp only [exprR, hop, h1, h9, h16, h21, h28, h35, h40, h42, h43, hL, hM, if_true, if_false, Bool.and_true, Bool.true_and, Bool.and_false, Bool.false_and, Bool.false_eq_true, Bool.true_eq_false], rfl⟩
                · exact ⟨_, _, rfl, by (try simp only [Bool.not_eq_true', Bool.not_eq_false'] at h1 h9 h16 h21 h28 h35 h40 h42); simp only [exprR, hop, h1, h9, h16, h21, h28, h35, h40, h42, hL, hM, if_true, if_false, Bool.and_true, Bool.true_and, Bool.and_false, Bool.false_and, Bool.false_eq_true, Bool.true_eq_false], rfl⟩
              · refine bs (fun h49 => ?_) (fun h49 => ?_)
                · refine ⟨_, _, ce_Rbare _ _ _ _ _ _ _, ?_⟩
                  refine bs (fun h51 => ?_) (fun h51 => ?_)
                  · refine bs (fun h52 => ?_) (fun h52 => ?_)
                    · refine ⟨_, _, hex, ?_⟩
                      exact ⟨_, _, rfl, by (try simp only [Bool.not_eq_true', Bool.not_eq_false'] at h1 h9 h16 h21 h28 h35 h40 h49 h51 h52); simp only [exprR, hop, h1, h9, h16, h21, h28, h35, h40, h49, h51, h52, hL, hM, if_true, if_false, Bool.and_true, Bool.true_and, Bool.and_false, Bool.false_and, Bool.false_eq_true, Bool.true_eq_false], rfl⟩
                    · exact ⟨_, _, rfl, by (try simp only [Bool.not_eq_true', Bool.not_eq_false'] at h1 h9 h16 h21 h28 h35 h40 h49 h51 h52); simp only [exprR, hop, h1, h9, h16, h21, h28, h35, h40, h49, h51, h52, hL, hM, if_true, if_false, Bool.and_true, Bool.true_and, Bool.and_false, Bool.false_and, Bool.false_eq_true, Bool.true_eq_false], rfl⟩
                  · exact ⟨_, _, rfl, by (try simp only [Bool.not_eq_true', Bool.not_eq_false'] at h1 h9 h16 h21 h28 h35 h40 h49 h51); simp only [exprR, hop, h1, h9, h16, h21, h28, h35, h40, h49, h51, hL, hM, if_true, if_false, Bool.and_true, Bool.true_and, Bool.and_false, Bool.false_and, Bool.false_eq_true, Bool.true_eq_false], rfl⟩
                · refine ⟨_, _, ce_Rsimple _ _ _ _, ?_⟩
                  exact ⟨_, _, rfl, by (try simp only [Bool.not_eq_true', Bool.not_eq_false'] at h1 h9 h16 h21 h28 h35 h40 h49); simp only [exprR, hop, h1, h9, h16, h21, h28, h35, h40, h49, hL, hM, if_true, if_false, Bool.and_true, Bool.true_and, Bool.and_false, Bool.false_and, Bool.false_eq_true, Bool.true_eq_false], rfl⟩
end
end Go.Proofs.YtfbppkjjdbkedaaGreatDoor.Ref
