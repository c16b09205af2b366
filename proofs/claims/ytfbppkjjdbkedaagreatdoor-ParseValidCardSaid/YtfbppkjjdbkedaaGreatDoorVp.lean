/-
  Walks: statements, as the program sees them.
-/
import Derived.Test.YtfbppkjjdbkedaaGreatDoorVo
namespace Go.Proofs.YtfbppkjjdbkedaaGreatDoor.Ref
noncomputable section
open Go
set_option linter.unusedVariables false
set_option linter.unusedSimpArgs false
set_option maxRecDepth 100000
def stmtB (ge gs : Syn → Bool) (x : Syn) : Bool :=
  if eqB x.kind ⟨#[112, 114, 111, 99]⟩ = true then wordL x.text.data.toList 65 90 && (x.int == 0) && x.kids.dropLast.all isParamM && differM x.kids.dropLast [] && gs (x.kids.getLastD zeroS) else
  if eqB x.kind ⟨#[102, 117, 110]⟩ = true then wordL x.text.data.toList 65 90 && (x.int == 0) && x.kids.dropLast.all isParamM && differM x.kids.dropLast [] && ge (x.kids.getLastD zeroS) else
  if eqB x.kind ⟨#[108, 97, 122, 121]⟩ = true then wordL x.text.data.toList 65 90 && (x.int == 0) && x.kids.dropLast.all isParamM && differM x.kids.dropLast [] && ge (x.kids.getLastD zeroS) else
  if bareM x false false = false then false else
  if eqB x.kind ⟨#[115, 107, 105, 112]⟩ = true then (lenI x.kids == 0) else
  if eqB x.kind ⟨#[115, 101, 113]⟩ = true then decide (lenI x.kids ≥ 2) && x.kids.all (notSeq gs) else
  if eqB x.kind ⟨#[99, 104, 111, 111, 115, 101]⟩ = true then decide (lenI x.kids ≥ 2) && x.kids.all gs else
  if eqB x.kind ⟨#[108, 111, 99, 97, 108]⟩ = true then varsM x.kids.dropLast && gs (x.kids.getLastD zeroS) else
  if eqB x.kind ⟨#[101, 113]⟩ = true then (lenI x.kids == 2) && x.kids.all ge else
  if eqB x.kind ⟨#[97, 112, 112, 108, 121]⟩ = true then decide (lenI x.kids ≥ 1) && x.kids.all ge else
  if eqB x.kind ⟨#[114, 97, 105, 115, 101]⟩ = true then (lenI x.kids == 1) && x.kids.all ge else
  if eqB x.kind ⟨#[116, 104, 114, 101, 97, 100]⟩ = true then (lenI x.kids == 1) && x.kids.all gs else
  if eqB x.kind ⟨#[105, 102]⟩ = true then (lenI x.kids == 3) && (x.kids.take 1).all ge && (x.kids.drop 1).all gs else
  if eqB x.kind ⟨#[116, 114, 121]⟩ = true then (lenI x.kids == 3) && (x.kids.take 1).all gs && ((x.kids.drop 1).take 1).all isVarM && (x.kids.drop 2).all gs else
  if eqB x.kind ⟨#[99, 97, 115, 101]⟩ = true then decide (lenI x.kids ≥ 3) && (x.kids.take 1).all ge && ((x.kids.drop 1).take (x.kids.length - 2)).all (armF ge gs) && gs (x.kids.getLastD zeroS) else
  false
set_option maxHeartbeats 0 in
theorem ce_isStmt {ge gs : Syn → Bool} {x : Syn} (hl : sizeS x ≤ 100000) (he : ∀ y ∈ x.kids, Ans 76 ge y) (hs : ∀ y ∈ x.kids, Ans 75 gs y) (ha : ∀ y ∈ x.kids, Ans 130 (armF ge gs) y) (hz : ge zeroS = false) (hz' : gs zeroS = false) : Ans 75 (stmtB ge gs) x := by
  obtain ⟨k, t, n, l⟩ := x
  have hll := len_size l
  simp only [sizeS] at hl
  simp only [Syn.kids] at he hs ha
  refine ce_code hX hF (H := Hs 75) (fn := Tryz.f75) rfl rfl ?_
  have hlast : ∀ (k' : FuncId) (g : Syn → Bool), (∀ y ∈ l, Ans k' g y) → Ans k' g zeroS → Ans k' g (l.getLastD zeroS) := fun k' g h hz => by
    cases l with
    | nil => exact hz
    | cons a t => exact h _ (by simp only [List.getLastD_cons]; rw [← List.getLast_eq_getLastD (h := by simp)]; exact List.getLast_mem _)
  have hb := ce_body (l := l) (by omega)
  have hle := hlast _ _ he (ans_zero_expr hz)
  have hls := hlast _ _ hs (ans_zero_stmt hz')
  have hfl : sizeL l.dropLast ≤ 100000 := Nat.le_trans (size_dropLast l) (by omega)
  have hfn : l.dropLast.length < 1000000 := by have := len_size l.dropLast; omega
  have hpar : ∀ y ∈ l.dropLast, Ans 124 isParamM y := fun y _ => by obtain ⟨a, b, c, d⟩ := y; exact ce_isParam a b c d
  rcases hL : l.getLastD zeroS with ⟨lk, lt, ln, ll⟩
  rw [hL] at hb hle hls
  refine ⟨_, _, hb, ?_⟩
  refine bs (fun h0 => ?_) (fun h0 => ?_)
  · have hx : stmtB ge gs (.mk k t n l) = (wordL t.data.toList 65 90 && (n == 0) && l.dropLast.all isParamM && differM l.dropLast [] && gs (l.getLastD zeroS)) := by simp only [stmtB, Syn.kind, Syn.text, Syn.int, Syn.kids, h0, Bool.false_eq_true, Bool.true_eq_false, if_false, if_true] <;> rfl
    rw [hL] at hx
    refine ⟨_, _, ce_Word t 65 90, ?_⟩
    refine bs (fun g1 => ?_) (fun g1 => ?_)
    · refine bs (fun g2 => ?_) (fun g2 => ?_)
      · refine ⟨_, _, ce_all (k := 124) (g := isParamM) hfl hpar, ?_⟩
        refine bs (fun g3 => ?_) (fun g3 => ?_)
        · refine ⟨_, _, ce_different l.dropLast hfn, ?_⟩
          refine bs (fun g4 => ?_) (fun g4 => ?_)
          · refine ⟨_, _, hls, ?_⟩
            exact ⟨_, _, rfl, by rw [hx, g1, g2, g3, g4]; rfl, rfl⟩
          · exact ⟨_, _, rfl, by rw [hx, g1, g2, g3, g4]; simp, rfl⟩
        · exact ⟨_, _, rfl, by rw [hx, g1, g2, g3]; simp, rfl⟩
      · exact ⟨_, _, rfl, by rw [hx, g1, g2]; simp, rfl⟩
    · exact ⟨_, _, rfl, by rw [hx, g1]; simp, rfl⟩
  refine bs (fun h1 => ?_) (fun h1 => ?_)
  · have hx : stmtB ge gs (.mk k t n l) = (wordL t.data.toList 65 90 && (n == 0) && l.dropLast.all isParamM && differM l.dropLast [] && ge (l.getLastD zeroS)) := by simp only [stmtB, Syn.kind, Syn.text, Syn.int, Syn.kids, h0, h1, Bool.false_eq_true, Bool.true_eq_false, if_false, if_true] <;> rfl
    rw [hL] at hx
    refine ⟨_, _, ce_Word t 65 90, ?_⟩
    refine bs (fun g1 => ?_) (fun g1 => ?_)
    · refine bs (fun g2 => ?_) (fun g2 => ?_)
      · refine ⟨_, _, ce_all (k := 124) (g := isParamM) hfl hpar, ?_⟩
        refine bs (fun g3 => ?_) (fun g3 => ?_)
        · refine ⟨_, _, ce_different l.dropLast hfn, ?_⟩
          refine bs (fun g4 => ?_) (fun g4 => ?_)
          · refine ⟨_, _, hle, ?_⟩
            exact ⟨_, _, rfl, by rw [hx, g1, g2, g3, g4]; rfl, rfl⟩
          · exact ⟨_, _, rfl, by rw [hx, g1, g2, g3, g4]; simp, rfl⟩
        · exact ⟨_, _, rfl, by rw [hx, g1, g2, g3]; simp, rfl⟩
      · exact ⟨_, _, rfl, by rw [hx, g1, g2]; simp, rfl⟩
    · exact ⟨_, _, rfl, by rw [hx, g1]; simp, rfl⟩
  refine bs (fun h2 => ?_) (fun h2 => ?_)
  · have hx : stmtB ge gs (.mk k t n l) = (wordL t.data.toList 65 90 && (n == 0) && l.dropLast.all isParamM && differM l.dropLast [] && ge (l.getLastD zeroS)) := by simp only [stmtB, Syn.kind, Syn.text, Syn.int, Syn.kids, h0, h1, h2, Bool.false_eq_true, Bool.true_eq_false, if_false, if_true] <;> rfl
    rw [hL] at hx
    refine ⟨_, _, ce_Word t 65 90, ?_⟩
    refine bs (fun g1 => ?_) (fun g1 => ?_)
    · refine bs (fun g2 => ?_) (fun g2 => ?_)
      · refine ⟨_, _, ce_all (k := 124) (g := isParamM) hfl hpar, ?_⟩
        refine bs (fun g3 => ?_) (fun g3 => ?_)
        · refine ⟨_, _, ce_different l.dropLast hfn, ?_⟩
          refine bs (fun g4 => ?_) (fun g4 => ?_)
          · refine ⟨_, _, hle, ?_⟩
            exact ⟨_, _, rfl, by rw [hx, g1, g2, g3, g4]; rfl, rfl⟩
          · exact ⟨_, _, rfl, by rw [hx, g1, g2, g3, g4]; simp, rfl⟩
        · exact ⟨_, _, rfl, by rw [hx, g1, g2, g3]; simp, rfl⟩
      · exact ⟨_, _, rfl, by rw [hx, g1, g2]; simp, rfl⟩
    · exact ⟨_, _, rfl, by rw [hx, g1]; simp, rfl⟩
  refine ⟨_, _, ce_bare k t n l false false, ?_⟩
  refine bs (fun h3 => ?_) (fun h3 => ?_)
  · simp only [Bool.not_eq_true'] at h3
    exact ⟨_, _, rfl, by simp only [stmtB, Syn.kind, h0, h1, h2, h3, Bool.false_eq_true, Bool.true_eq_false, if_false, if_true], rfl⟩
  simp only [Bool.not_eq_false'] at h3
  refine bs (fun h4 => ?_) (fun h4 => ?_)
  · have hx : stmtB ge gs (.mk k t n l) = ((lenI l == 0)) := by simp only [stmtB, Syn.kind, Syn.text, Syn.int, Syn.kids, h0, h1, h2, h3, h4, Bool.false_eq_true, Bool.true_eq_false, if_false, if_true] <;> rfl
    exact ⟨_, _, rfl, by rw [hx]; rfl, rfl⟩
  refine bs (fun h5 => ?_) (fun h5 => ?_)
  · have hx : stmtB ge gs (.mk k t n l) = (decide (lenI l ≥ 2) && l.all (notSeq gs)) := by simp only [stmtB, Syn.kind, Syn.text, Syn.int, Syn.kids, h0, h1, h2, h3, h4, h5, Bool.false_eq_true, Bool.true_eq_false, if_false, if_true] <;> rfl
    refine bs (fun g1 => ?_) (fun g1 => ?_)
    · refine ⟨_, _, ce_all (k := 127) (g := notSeq gs) (by omega) (fun y hy => ce_isStmt1 (hs y hy)), ?_⟩
      exact ⟨_, _, rfl, by rw [hx, show decide (lenI l ≥ 2) = _ from g1]; rfl, rfl⟩
    · exact ⟨_, _, rfl, by rw [hx, show decide (lenI l ≥ 2) = _ from g1]; simp, rfl⟩
  refine bs (fun h6 => ?_) (fun h6 => ?_)
  · have hx : stmtB ge gs (.mk k t n l) = (decide (lenI l ≥ 2) && l.all gs) := by simp only [stmtB, Syn.kind, Syn.text, Syn.int, Syn.kids, h0, h1, h2, h3, h4, h5, h6, Bool.false_eq_true, Bool.true_eq_false, if_false, if_true] <;> rfl
    refine bs (fun g1 => ?_) (fun g1 => ?_)
    · refine ⟨_, _, ce_all (k := 75) (g := gs) (by omega) hs, ?_⟩
      exact ⟨_, _, rfl, by rw [hx, show decide (lenI l ≥ 2) = _ from g1]; rfl, rfl⟩
    · exact ⟨_, _, rfl, by rw [hx, show decide (lenI l ≥ 2) = _ from g1]; simp, rfl⟩
  refine bs (fun h7 => ?_) (fun h7 => ?_)
  · have hx : stmtB ge gs (.mk k t n l) = (varsM l.dropLast && gs (l.getLastD zeroS)) := by simp only [stmtB, Syn.kind, Syn.text, Syn.int, Syn.kids, h0, h1, h2, h3, h4, h5, h6, h7, Bool.false_eq_true, Bool.true_eq_false, if_false, if_true] <;> rfl
    rw [hL] at hx
    refine ⟨_, _, ce_vars hfl, ?_⟩
    refine bs (fun g1 => ?_) (fun g1 => ?_)
    · refine ⟨_, _, hls, ?_⟩
      exact ⟨_, _, rfl, by rw [hx, g1]; rfl, rfl⟩
    · exact ⟨_, _, rfl, by rw [hx, g1]; simp, rfl⟩
  refine bs (fun h8 => ?_) (fun h8 => ?_)
  · have hx : stmtB ge gs (.mk k t n l) = ((lenI l == 2) && l.all ge) := by simp only [stmtB, Syn.kind, Syn.text, Syn.int, Syn.kids, h0, h1, h2, h3, h4, h5, h6, h7, h8, Bool.false_eq_true, Bool.true_eq_false, if_false, if_true] <;> rfl
    refine bs (fun g1 => ?_) (fun g1 => ?_)
    · refine ⟨_, _, ce_all (k := 76) (g := ge) (by omega) he, ?_⟩
      exact ⟨_, _, rfl, by rw [hx, show (lenI l == 2) = _ from g1]; rfl, rfl⟩
    · exact ⟨_, _, rfl, by rw [hx, show (lenI l == 2) = _ from g1]; simp, rfl⟩
  refine bs (fun h9 => ?_) (fun h9 => ?_)
  · have hx : stmtB ge gs (.mk k t n l) = (decide (lenI l ≥ 1) && l.all ge) := by simp only [stmtB, Syn.kind, Syn.text, Syn.int, Syn.kids, h0, h1, h2, h3, h4, h5, h6, h7, h8, h9, Bool.false_eq_true, Bool.true_eq_false, if_false, if_true] <;> rfl
    refine bs (fun g1 => ?_) (fun g1 => ?_)
    · refine ⟨_, _, ce_all (k := 76) (g := ge) (by omega) he, ?_⟩
      exact ⟨_, _, rfl, by rw [hx, show decide (lenI l ≥ 1) = _ from g1]; rfl, rfl⟩
    · exact ⟨_, _, rfl, by rw [hx, show decide (lenI l ≥ 1) = _ from g1]; simp, rfl⟩
  refine bs (fun h10 => ?_) (fun h10 => ?_)
  · have hx : stmtB ge gs (.mk k t n l) = ((lenI l == 1) && l.all ge) := by simp only [stmtB, Syn.kind, Syn.text, Syn.int, Syn.kids, h0, h1, h2, h3, h4, h5, h6, h7, h8, h9, h10, Bool.false_eq_true, Bool.true_eq_false, if_false, if_true] <;> rfl
    refine bs (fun g1 => ?_) (fun g1 => ?_)
    · have g1' : l.length = 1 := by rw [eSyns_len] at g1; simp at g1; omega
      obtain ⟨a, rfl⟩ : ∃ a, l = [a] := by
        match l, g1' with
        | [a], _ => exact ⟨a, rfl⟩
      have ha := he a (by simp)
      refine Soft.idx (d := eSyn a) (by rfl) (by rfl) (by rfl) (by rfl) (by rfl) (by rfl) (by rfl) (by omega) (by rfl) ?_
      obtain ⟨ak, at', an, al⟩ := a
      refine ⟨_, _, ha, ?_⟩
      exact ⟨_, _, rfl, by rw [hx, show (lenI [Syn.mk ak at' an al] == 1) = _ from g1]; simp, rfl⟩
    · exact ⟨_, _, rfl, by rw [hx, show (lenI l == 1) = _ from g1]; simp, rfl⟩
  refine bs (fun h11 => ?_) (fun h11 => ?_)
  · have hx : stmtB ge gs (.mk k t n l) = ((lenI l == 1) && l.all gs) := by simp only [stmtB, Syn.kind, Syn.text, Syn.int, Syn.kids, h0, h1, h2, h3, h4, h5, h6, h7, h8, h9, h10, h11, Bool.false_eq_true, Bool.true_eq_false, if_false, if_true] <;> rfl
    refine bs (fun g1 => ?_) (fun g1 => ?_)
    · have g1' : l.length = 1 := by rw [eSyns_len] at g1; simp at g1; omega
      obtain ⟨a, rfl⟩ : ∃ a, l = [a] := by
        match l, g1' with
        | [a], _ => exact ⟨a, rfl⟩
      have ha := hs a (by simp)
      refine Soft.idx (d := eSyn a) (by rfl) (by rfl) (by rfl) (by rfl) (by rfl) (by rfl) (by rfl) (by omega) (by rfl) ?_
      obtain ⟨ak, at', an, al⟩ := a
      refine ⟨_, _, ha, ?_⟩
      exact ⟨_, _, rfl, by rw [hx, show (lenI [Syn.mk ak at' an al] == 1) = _ from g1]; simp, rfl⟩
    · exact ⟨_, _, rfl, by rw [hx, show (lenI l == 1) = _ from g1]; simp, rfl⟩
  refine bs (fun h12 => ?_) (fun h12 => ?_)
  · have hx : stmtB ge gs (.mk k t n l) = ((lenI l == 3) && (l.take 1).all ge && (l.drop 1).all gs) := by simp only [stmtB, Syn.kind, Syn.text, Syn.int, Syn.kids, h0, h1, h2, h3, h4, h5, h6, h7, h8, h9, h10, h11, h12, Bool.false_eq_true, Bool.true_eq_false, if_false, if_true] <;> rfl
    refine bs (fun g1 => ?_) (fun g1 => ?_)
    · have g1' : l.length = 3 := by rw [eSyns_len] at g1; simp at g1; omega
      obtain ⟨a, b, c, rfl⟩ : ∃ a b c, l = [a, b, c] := by
        match l, g1' with
        | [a, b, c], _ => exact ⟨a, b, c, rfl⟩
      have ha' := he a (by simp)
      have hbc : ∀ y ∈ [b, c], Ans 75 gs y := fun y hy => hs y (List.mem_cons_of_mem _ hy)
      have hsz : sizeL [b, c] ≤ 100000 := by simp only [sizeL] at hl ⊢; omega
      refine Soft.idx (d := eSyn a) (by rfl) (by rfl) (by rfl) (by rfl) (by rfl) (by rfl) (by rfl) (by omega) (by rfl) ?_
      obtain ⟨ak, at', an, al⟩ := a
      refine ⟨_, _, ha', ?_⟩
      refine bs (fun g2 => ?_) (fun g2 => ?_)
      · refine Soft.sliceR (l := 1) (hh := 3) (by rfl) (by rfl) (by rfl) (by rfl) (by rfl) (by rfl) (by rfl) (by rfl) (by omega) (by rw [eSyns_len]; exact Nat.le_refl _) ?_
        refine ⟨_, _, (show CE X 123 [.row false 4 (((eSyns [Syn.mk ak at' an al, b, c]).drop 1).take (3 - 1)), .fn 75 []] [] (.ret (B ([b, c].all gs))) [] from ce_all hsz hbc), ?_⟩
        exact ⟨_, _, rfl, by rw [hx, show (lenI [Syn.mk ak at' an al, b, c] == 3) = _ from g1]; simp only [List.take, List.drop, List.all_cons, List.all_nil, g2, Bool.and_true, Bool.true_and], rfl⟩
      · exact ⟨_, _, rfl, by rw [hx]; simp [g2], rfl⟩
    · exact ⟨_, _, rfl, by rw [hx, show (lenI l == 3) = _ from g1]; simp, rfl⟩
  refine bs (fun h13 => ?_) (fun h13 => ?_)
  · have hx : stmtB ge gs (.mk k t n l) = ((lenI l == 3) && (l.take 1).all gs && ((l.drop 1).take 1).all isVarM && (l.drop 2).all gs) := by simp only [stmtB, Syn.kind, Syn.text, Syn.int, Syn.kids, h0, h1, h2, h3, h4, h5, h6, h7, h8, h9, h10, h11, h12, h13, Bool.false_eq_true, Bool.true_eq_false, if_false, if_true] <;> rfl
    refine bs (fun g1 => ?_) (fun g1 => ?_)
    · have g1' : l.length = 3 := by rw [eSyns_len] at g1; simp at g1; omega
      obtain ⟨a, b, c, rfl⟩ : ∃ a b c, l = [a, b, c] := by
        match l, g1' with
        | [a, b, c], _ => exact ⟨a, b, c, rfl⟩
      have ha' := hs a (by simp)
      have hc' := hs c (by simp)
      refine Soft.idx (d := eSyn a) (by rfl) (by rfl) (by rfl) (by rfl) (by rfl) (by rfl) (by rfl) (by omega) (by rfl) ?_
      obtain ⟨ak, at', an, al⟩ := a
      refine ⟨_, _, ha', ?_⟩
      refine bs (fun g2 => ?_) (fun g2 => ?_)
      · refine Soft.idx (d := eSyn b) (by rfl) (by rfl) (by rfl) (by rfl) (by rfl) (by rfl) (by rfl) (by omega) (by rfl) ?_
        obtain ⟨bk, bt, bn, bl⟩ := b
        refine ⟨_, _, ce_isVar bk bt bn bl, ?_⟩
        refine bs (fun g3 => ?_) (fun g3 => ?_)
        · refine Soft.idx (d := eSyn c) (by rfl) (by rfl) (by rfl) (by rfl) (by rfl) (by rfl) (by rfl) (by omega) (by rfl) ?_
          obtain ⟨ck, ct, cn, cl⟩ := c
          refine ⟨_, _, hc', ?_⟩
          exact ⟨_, _, rfl, by rw [hx, show (lenI [Syn.mk ak at' an al, Syn.mk bk bt bn bl, Syn.mk ck ct cn cl] == 3) = _ from g1]; simp only [List.take, List.drop, List.all_cons, List.all_nil, g2, g3, Bool.and_true, Bool.true_and], rfl⟩
        · exact ⟨_, _, rfl, by rw [hx]; simp [g3], rfl⟩
      · exact ⟨_, _, rfl, by rw [hx]; simp [g2], rfl⟩
    · exact ⟨_, _, rfl, by rw [hx, show (lenI l == 3) = _ from g1]; simp, rfl⟩
  refine bs (fun h14 => ?_) (fun h14 => ?_)
  · have hx : stmtB ge gs (.mk k t n l) = (decide (lenI l ≥ 3) && (l.take 1).all ge && ((l.drop 1).take (l.length - 2)).all (armF ge gs) && gs (l.getLastD zeroS)) := by simp only [stmtB, Syn.kind, Syn.text, Syn.int, Syn.kids, h0, h1, h2, h3, h4, h5, h6, h7, h8, h9, h10, h11, h12, h13, h14, Bool.false_eq_true, Bool.true_eq_false, if_false, if_true] <;> rfl
    rw [hL] at hx
    refine bs (fun g1 => ?_) (fun g1 => ?_)
    · have g1' : 3 ≤ l.length := by rw [eSyns_len] at g1; simp at g1; omega
      have h0 : 0 < l.length := by omega
      have e1 : IntKind.i64.wrap (((eSyns l).length : Int) - 1) = ((l.length - 1 : Nat) : Int) := by rw [eSyns_len, wrap64 (by omega) (by omega)]; omega
      have e2 : ((eSyns l).drop 1).take (l.length - 1 - 1) = eSyns ((l.drop 1).take (l.length - 2)) := by rw [eSyns_map, eSyns_map, List.map_take, List.map_drop]; rfl
      have hd : l.take 1 = [l[0]] := by
        cases l with
        | nil => simp at h0
        | cons a r => rfl
      have hsz : sizeL ((l.drop 1).take (l.length - 2)) ≤ 100000 := by
        refine Nat.le_trans (size_take _ _) ?_
        cases l with
        | nil => simp at h0
        | cons a r => simp only [sizeL, List.drop_succ_cons, List.drop_zero] at hl ⊢; omega
      have hv := ce_all (k := 130) (g := armF ge gs) hsz (fun y hy => ha y (List.mem_of_mem_drop (List.mem_of_mem_take hy)))
      rw [← e2] at hv
      have ha' := he l[0] (List.getElem_mem h0)
      refine Soft.idx (by rfl) (by rfl) (by rfl) (by rfl) (by rfl) (by rfl) (by rfl) (by omega) (eSyns_get h0) ?_
      rcases hk : l[0] with ⟨ak, at', an, al⟩
      rw [hk] at ha' hd
      rw [hd] at hx
      refine ⟨_, _, ha', ?_⟩
      refine bs (fun g2 => ?_) (fun g2 => ?_)
      · refine Soft.sliceR (l := 1) (hh := l.length - 1) (by rfl) (by rfl) (by rfl) (by rfl) (by rfl) (by rfl) (by rfl) ?_ (by omega) (by rw [eSyns_len]; omega) ?_
        · exact bnd_int (by rfl) e1
        refine ⟨_, _, hv, ?_⟩
        refine bs (fun g3 => ?_) (fun g3 => ?_)
        · refine ⟨_, _, hls, ?_⟩
          exact ⟨_, _, rfl, by rw [hx, show decide (lenI l ≥ 3) = _ from g1, g3]; simp only [List.all_cons, List.all_nil, g2, Bool.and_true, Bool.true_and], rfl⟩
        · exact ⟨_, _, rfl, by rw [hx, g3]; simp, rfl⟩
      · exact ⟨_, _, rfl, by rw [hx]; simp [g2], rfl⟩
    · exact ⟨_, _, rfl, by rw [hx, show decide (lenI l ≥ 3) = _ from g1]; simp, rfl⟩
  exact ⟨_, _, rfl, by simp only [stmtB, Syn.kind, h0, h1, h2, h3, h4, h5, h6, h7, h8, h9, h10, h11, h12, h13, h14, Bool.false_eq_true, Bool.true_eq_false, if_false, if_true], rfl⟩
end
end Go.Proofs.YtfbppkjjdbkedaaGreatDoor.Ref
