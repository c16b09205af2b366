/-
  Walks: expressions, as the program sees them.
-/
import Derived.Test.YtfbppkjjdbkedaaGreatDoorVn
namespace Go.Proofs.YtfbppkjjdbkedaaGreatDoor.Ref
noncomputable section
open Go
set_option linter.unusedVariables false
set_option linter.unusedSimpArgs false
set_option maxRecDepth 100000
theorem zero_expr : acall3 X F Hs (drawer X) It Mf T0 1000 80 76 [eSyn zeroS] [] = some (.ret (B false), []) := by kernel_rfl
theorem zero_stmt : acall3 X F Hs (drawer X) It Mf T0 1000 80 75 [eSyn zeroS] [] = some (.ret (B false), []) := by kernel_rfl
theorem ans_zero_expr {g : Syn → Bool} (h : g zeroS = false) : Ans 76 g zeroS := by
  unfold Ans; rw [h]; exact acall3_ok hX hF (drawer_ok hX) (drawer_okr hX) It_ok T0_ok 80 _ _ _ _ _ zero_expr
theorem ans_zero_stmt {g : Syn → Bool} (h : g zeroS = false) : Ans 75 g zeroS := by
  unfold Ans; rw [h]; exact acall3_ok hX hF (drawer_ok hX) (drawer_okr hX) It_ok T0_ok 80 _ _ _ _ _ zero_stmt
def lvs : List (ByteArray × Bool) := [(⟨#[32, 61, 61, 32, 92, 61, 32, 60, 32, 61, 60, 32, 62, 32, 62, 61, 32]⟩, false), (⟨#[32, 43, 32, 45, 32]⟩, true), (⟨#[32, 42, 32]⟩, true)]
def lenI (l : List Syn) : Int := ((eSyns l).length : Int)
theorem size_dropLast : ∀ l : List Syn, sizeL l.dropLast ≤ sizeL l
  | [] => Nat.le_refl _
  | [x] => Nat.zero_le _
  | x :: y :: l => by
    have := size_dropLast (y :: l)
    simp only [List.dropLast_cons_cons, sizeL] at this ⊢
    omega
theorem bnd_int {G : Nat → Option D} {S : ASt} {x : Operand} {d m : Nat} {kd : IntKind} {z : Int} (h : S.ev G x = some (.d (.v (.int kd z)))) (e : z = (m : Int)) : S.bnd G d (some x) = some m := by
  subst e
  simp [ASt.bnd, h]
theorem size_take : ∀ (l : List Syn) (n : Nat), sizeL (l.take n) ≤ sizeL l
  | [], n => by simp
  | x :: l, 0 => Nat.zero_le _
  | x :: l, n + 1 => by
    have := size_take l n
    simp only [List.take_succ_cons, sizeL]
    omega
def exprB (ge gs : Syn → Bool) (x : Syn) : Bool :=
  if eqB x.kind ⟨#[118, 97, 114]⟩ = true then isParamM x
  else if eqB x.kind ⟨#[97, 110, 121]⟩ = true then isParamM x
  else if eqB x.kind ⟨#[105, 110, 116]⟩ = true then bareM x false true && decide (x.int ≥ -1099511627776) && decide (x.int ≤ 1099511627776) && (lenI x.kids == 0)
  else if eqB x.kind ⟨#[97, 116, 111, 109]⟩ = true then bareM x true false && atomB x.text && (lenI x.kids == 0)
  else if eqB x.kind ⟨#[116, 117, 112, 108, 101]⟩ = true then bareM x true false && atomB x.text && decide (lenI x.kids ≥ 1) && decide (lenI x.kids ≤ 8) && x.kids.all ge
  else if eqB x.kind ⟨#[111, 112]⟩ = true then lvs.any (opX x) && (x.int == 0) && (lenI x.kids == 2) && x.kids.all ge
  else if bareM x false false = false then false
  else if eqB x.kind ⟨#[99, 97, 108, 108]⟩ = true then decide (lenI x.kids ≥ 1) && x.kids.all ge
  else if eqB x.kind ⟨#[102, 110]⟩ = true then x.kids.dropLast.all isParamM && differM x.kids.dropLast [] && ge (x.kids.getLastD zeroS)
  else if eqB x.kind ⟨#[112, 114]⟩ = true then x.kids.dropLast.all isParamM && differM x.kids.dropLast [] && gs (x.kids.getLastD zeroS)
  else if eqB x.kind ⟨#[102, 117, 116, 117, 114, 101]⟩ = true then (lenI x.kids == 1) && x.kids.all ge
  else if eqB x.kind ⟨#[99, 111, 110, 100]⟩ = true then (lenI x.kids == 3) && x.kids.all ge
  else if eqB x.kind ⟨#[108, 101, 116]⟩ = true then decide (lenI x.kids ≥ 3) && varsM (x.kids.take (x.kids.length - 2)) && gs (x.kids.getD (x.kids.length - 2) zeroS) && ge (x.kids.getLastD zeroS)
  else false
set_option maxHeartbeats 0 in
theorem ce_isExpr {ge gs : Syn → Bool} {x : Syn} (hl : sizeS x ≤ 100000) (ht : x.text.data.toList.length < 4611686018427387000) (he : ∀ y ∈ x.kids, Ans 76 ge y) (hs : ∀ y ∈ x.kids, Ans 75 gs y) (hz : ge zeroS = false) (hz' : gs zeroS = false) : Ans 76 (exprB ge gs) x := by
  obtain ⟨k, t, n, l⟩ := x
  have hll := len_size l
  simp only [sizeS] at hl
  simp only [Syn.kids] at he hs
  refine ce_code hX hF (H := Hs 76) (fn := Tryz.f76) rfl rfl ?_
  have hlast : ∀ (k' : FuncId) (g : Syn → Bool), (∀ y ∈ l, Ans k' g y) → Ans k' g zeroS → Ans k' g (l.getLastD zeroS) := fun k' g h hz => by
    cases l with
    | nil => exact hz
    | cons a t => exact h _ (by simp only [List.getLastD_cons]; rw [← List.getLast_eq_getLastD (h := by simp)]; exact List.getLast_mem _)
  have hb := ce_body (l := l) (by omega)
  have hle := hlast _ _ he (ans_zero_expr hz)
  have hls := hlast _ _ hs (ans_zero_stmt hz')
  have hfl : sizeL l.dropLast ≤ 100000 := Nat.le_trans (size_dropLast l) (by omega)
  have hfn : l.dropLast.length < 1000000 := by have := len_size l.dropLast; omega
  have hpar : ∀ y ∈ l.dropLast, Ans 124 isParamM y := fun y _ => by obtain ⟨a, b, c, d⟩ := y; exact ce_isParam a b c d
  rcases hL : l.getLastD zeroS with ⟨lk, lt, ln, ll⟩
  rw [hL] at hb hle hls
  refine ⟨_, _, hb, ?_⟩
  refine bs (fun h1 => ?_) (fun h1 => ?_)
  · refine ⟨_, _, ce_isParam k t n l, ?_⟩
    exact ⟨_, _, rfl, by simp only [exprB, Syn.kind, h1, if_true], rfl⟩
  refine bs (fun h2 => ?_) (fun h2 => ?_)
  · refine ⟨_, _, ce_isParam k t n l, ?_⟩
    exact ⟨_, _, rfl, by simp only [exprB, Syn.kind, h1, h2, Bool.false_eq_true, if_false, if_true], rfl⟩
  refine bs (fun h3 => ?_) (fun h3 => ?_)
  · have hx : exprB ge gs (.mk k t n l) = (bareM (.mk k t n l) false true && decide (n ≥ -1099511627776) && decide (n ≤ 1099511627776) && (lenI l == 0)) := by simp only [exprB, Syn.kind, Syn.int, Syn.kids, h1, h2, h3, Bool.false_eq_true, if_false, if_true] <;> rfl
    refine ⟨_, _, ce_bare k t n l false true, ?_⟩
    refine bs (fun g1 => ?_) (fun g1 => ?_)
    · refine bs (fun g2 => ?_) (fun g2 => ?_)
      · refine bs (fun g3 => ?_) (fun g3 => ?_)
        · exact ⟨_, _, rfl, by rw [hx, g1, g2, g3]; rfl, rfl⟩
        · exact ⟨_, _, rfl, by rw [hx, g1, g2, g3]; rfl, rfl⟩
      · exact ⟨_, _, rfl, by rw [hx, g1, g2]; rfl, rfl⟩
    · exact ⟨_, _, rfl, by rw [hx, g1]; rfl, rfl⟩
  refine bs (fun h4 => ?_) (fun h4 => ?_)
  · have hx : exprB ge gs (.mk k t n l) = (bareM (.mk k t n l) true false && atomB t && (lenI l == 0)) := by simp only [exprB, Syn.kind, Syn.text, Syn.int, Syn.kids, h1, h2, h3, h4, Bool.false_eq_true, if_false, if_true] <;> rfl
    refine ⟨_, _, ce_bare k t n l true false, ?_⟩
    refine bs (fun g1 => ?_) (fun g1 => ?_)
    · refine ⟨_, _, ce_Atom t, ?_⟩
      refine bs (fun g2 => ?_) (fun g2 => ?_)
      · exact ⟨_, _, rfl, by rw [hx, g1, g2]; rfl, rfl⟩
      · exact ⟨_, _, rfl, by rw [hx, g1, g2]; simp, rfl⟩
    · exact ⟨_, _, rfl, by rw [hx, g1]; simp, rfl⟩
  refine bs (fun h5 => ?_) (fun h5 => ?_)
  · have hx : exprB ge gs (.mk k t n l) = (bareM (.mk k t n l) true false && atomB t && decide (lenI l ≥ 1) && decide (lenI l ≤ 8) && l.all ge) := by simp only [exprB, Syn.kind, Syn.text, Syn.int, Syn.kids, h1, h2, h3, h4, h5, Bool.false_eq_true, if_false, if_true] <;> rfl
    refine ⟨_, _, ce_bare k t n l true false, ?_⟩
    refine bs (fun g1 => ?_) (fun g1 => ?_)
    · refine ⟨_, _, ce_Atom t, ?_⟩
      refine bs (fun g2 => ?_) (fun g2 => ?_)
      · refine bs (fun g3 => ?_) (fun g3 => ?_)
        · refine bs (fun g4 => ?_) (fun g4 => ?_)
          · refine ⟨_, _, ce_all (k := 76) (g := ge) (by omega) he, ?_⟩
            exact ⟨_, _, rfl, by rw [hx, g1, g2, show decide (lenI l ≥ 1) = _ from g3, show decide (lenI l ≤ 8) = _ from g4]; rfl, rfl⟩
          · exact ⟨_, _, rfl, by rw [hx, g1, g2, show decide (lenI l ≥ 1) = _ from g3, show decide (lenI l ≤ 8) = _ from g4]; simp, rfl⟩
        · exact ⟨_, _, rfl, by rw [hx, g1, g2, show decide (lenI l ≥ 1) = _ from g3]; simp, rfl⟩
      · exact ⟨_, _, rfl, by rw [hx, g1, g2]; simp, rfl⟩
    · exact ⟨_, _, rfl, by rw [hx, g1]; simp, rfl⟩
  refine bs (fun h6 => ?_) (fun h6 => ?_)
  · have hx : exprB ge gs (.mk k t n l) = (lvs.any (opX (.mk k t n l)) && (n == 0) && (lenI l == 2) && l.all ge) := by simp only [exprB, Syn.kind, Syn.text, Syn.int, Syn.kids, h1, h2, h3, h4, h5, h6, Bool.false_eq_true, if_false, if_true] <;> rfl
    refine ⟨_, _, ce_ContainsL (f := 133) (g := opX (.mk k t n l)) (l := lvs) (y := .mk k t n l) (by decide) (fun p hp => ce_isExpr1 (.mk k t n l) p (by simp only [lvs, List.mem_cons, List.not_mem_nil, or_false] at hp; rcases hp with rfl | rfl | rfl <;> decide) ht), ?_⟩
    refine bs (fun g1 => ?_) (fun g1 => ?_)
    · refine bs (fun g2 => ?_) (fun g2 => ?_)
      · refine bs (fun g3 => ?_) (fun g3 => ?_)
        · refine ⟨_, _, ce_all (k := 76) (g := ge) (by omega) he, ?_⟩
          exact ⟨_, _, rfl, by rw [hx, g1, g2, show (lenI l == 2) = _ from g3]; rfl, rfl⟩
        · exact ⟨_, _, rfl, by rw [hx, g1, g2, show (lenI l == 2) = _ from g3]; simp, rfl⟩
      · exact ⟨_, _, rfl, by rw [hx, g1, g2]; simp, rfl⟩
    · exact ⟨_, _, rfl, by rw [hx, g1]; simp, rfl⟩
  refine ⟨_, _, ce_bare k t n l false false, ?_⟩
  refine bs (fun h7 => ?_) (fun h7 => ?_)
  · simp only [Bool.not_eq_true'] at h7
    exact ⟨_, _, rfl, by simp only [exprB, Syn.kind, h1, h2, h3, h4, h5, h6, h7, Bool.false_eq_true, Bool.true_eq_false, if_false, if_true], rfl⟩
  simp only [Bool.not_eq_false'] at h7
  refine bs (fun h8 => ?_) (fun h8 => ?_)
  · have hx : exprB ge gs (.mk k t n l) = (decide (lenI l ≥ 1) && l.all ge) := by simp only [exprB, Syn.kind, Syn.text, Syn.int, Syn.kids, h1, h2, h3, h4, h5, h6, h7, h8, Bool.false_eq_true, Bool.true_eq_false, if_false, if_true] <;> rfl
    refine bs (fun g1 => ?_) (fun g1 => ?_)
    · refine ⟨_, _, ce_all (k := 76) (g := ge) (by omega) he, ?_⟩
      exact ⟨_, _, rfl, by rw [hx, show decide (lenI l ≥ 1) = _ from g1]; rfl, rfl⟩
    · exact ⟨_, _, rfl, by rw [hx, show decide (lenI l ≥ 1) = _ from g1]; simp, rfl⟩
  refine bs (fun h9 => ?_) (fun h9 => ?_)
  · have hx : exprB ge gs (.mk k t n l) = (l.dropLast.all isParamM && differM l.dropLast [] && ge (l.getLastD zeroS)) := by simp only [exprB, Syn.kind, Syn.text, Syn.int, Syn.kids, h1, h2, h3, h4, h5, h6, h7, h8, h9, Bool.false_eq_true, Bool.true_eq_false, if_false, if_true] <;> rfl
    rw [hL] at hx
    refine ⟨_, _, ce_all (k := 124) (g := isParamM) hfl hpar, ?_⟩
    refine bs (fun g1 => ?_) (fun g1 => ?_)
    · refine ⟨_, _, ce_different l.dropLast hfn, ?_⟩
      refine bs (fun g2 => ?_) (fun g2 => ?_)
      · refine ⟨_, _, hle, ?_⟩
        exact ⟨_, _, rfl, by rw [hx, g1, g2]; rfl, rfl⟩
      · exact ⟨_, _, rfl, by rw [hx, g1, g2]; simp, rfl⟩
    · exact ⟨_, _, rfl, by rw [hx, g1]; simp, rfl⟩
  refine bs (fun h10 => ?_) (fun h10 => ?_)
  · have hx : exprB ge gs (.mk k t n l) = (l.dropLast.all isParamM && differM l.dropLast [] && gs (l.getLastD zeroS)) := by simp only [exprB, Syn.kind, Syn.text, Syn.int, Syn.kids, h1, h2, h3, h4, h5, h6, h7, h8, h9, h10, Bool.false_eq_true, Bool.true_eq_false, if_false, if_true] <;> rfl
    rw [hL] at hx
    refine ⟨_, _, ce_all (k := 124) (g := isParamM) hfl hpar, ?_⟩
    refine bs (fun g1 => ?_) (fun g1 => ?_)
    · refine ⟨_, _, ce_different l.dropLast hfn, ?_⟩
      refine bs (fun g2 => ?_) (fun g2 => ?_)
      · refine ⟨_, _, hls, ?_⟩
        exact ⟨_, _, rfl, by rw [hx, g1, g2]; rfl, rfl⟩
      · exact ⟨_, _, rfl, by rw [hx, g1, g2]; simp, rfl⟩
    · exact ⟨_, _, rfl, by rw [hx, g1]; simp, rfl⟩
  refine bs (fun h11 => ?_) (fun h11 => ?_)
  · have hx : exprB ge gs (.mk k t n l) = ((lenI l == 1) && l.all ge) := by simp only [exprB, Syn.kind, Syn.text, Syn.int, Syn.kids, h1, h2, h3, h4, h5, h6, h7, h8, h9, h10, h11, Bool.false_eq_true, Bool.true_eq_false, if_false, if_true] <;> rfl
    refine bs (fun g1 => ?_) (fun g1 => ?_)
    · have g1' : l.length = 1 := by rw [eSyns_len] at g1; simp at g1; omega
      obtain ⟨a, rfl⟩ : ∃ a, l = [a] := by
        match l, g1' with
        | [a], _ => exact ⟨a, rfl⟩
      have ha := he a (by simp)
      refine Soft.idx (d := eSyn a) (by rfl) (by rfl) (by rfl) (by rfl) (by rfl) (by rfl) (by rfl) (by omega) (by rfl) ?_
      obtain ⟨ak, at', an, al⟩ := a
      refine ⟨_, _, ha, ?_⟩
      exact ⟨_, _, rfl, by rw [hx, show (lenI [Syn.mk ak at' an al] == 1) = _ from g1]; simp, rfl⟩
    · exact ⟨_, _, rfl, by rw [hx, show (lenI l == 1) = _ from g1]; simp, rfl⟩
  refine bs (fun h12 => ?_) (fun h12 => ?_)
  · have hx : exprB ge gs (.mk k t n l) = ((lenI l == 3) && l.all ge) := by simp only [exprB, Syn.kind, Syn.text, Syn.int, Syn.kids, h1, h2, h3, h4, h5, h6, h7, h8, h9, h10, h11, h12, Bool.false_eq_true, Bool.true_eq_false, if_false, if_true] <;> rfl
    refine bs (fun g1 => ?_) (fun g1 => ?_)
    · refine ⟨_, _, ce_all (k := 76) (g := ge) (by omega) he, ?_⟩
      exact ⟨_, _, rfl, by rw [hx, show (lenI l == 3) = _ from g1]; rfl, rfl⟩
    · exact ⟨_, _, rfl, by rw [hx, show (lenI l == 3) = _ from g1]; simp, rfl⟩
  refine bs (fun h13 => ?_) (fun h13 => ?_)
  · have hx : exprB ge gs (.mk k t n l) = (decide (lenI l ≥ 3) && varsM (l.take (l.length - 2)) && gs (l.getD (l.length - 2) zeroS) && ge (l.getLastD zeroS)) := by simp only [exprB, Syn.kind, Syn.text, Syn.int, Syn.kids, h1, h2, h3, h4, h5, h6, h7, h8, h9, h10, h11, h12, h13, Bool.false_eq_true, Bool.true_eq_false, if_false, if_true] <;> rfl
    rw [hL] at hx
    refine bs (fun g1 => ?_) (fun g1 => ?_)
    · have g1' : 3 ≤ l.length := by rw [eSyns_len] at g1; simp at g1; omega
      have hi : l.length - 2 < l.length := by omega
      have e1 : IntKind.i64.wrap (((eSyns l).length : Int) - 2) = ((l.length - 2 : Nat) : Int) := by rw [eSyns_len, wrap64 (by omega) (by omega)]; omega
      have e2 : ((eSyns l).drop 0).take (l.length - 2 - 0) = eSyns (l.take (l.length - 2)) := by rw [eSyns_map, eSyns_map, List.drop_zero, Nat.sub_zero, List.map_take]
      have hv := ce_vars (l := l.take (l.length - 2)) (Nat.le_trans (size_take l _) (by omega))
      rw [← e2] at hv
      have hd : l.getD (l.length - 2) zeroS = l[l.length - 2] := by rw [List.getD_eq_getElem?_getD, List.getElem?_eq_getElem hi]; rfl
      have hst := hs l[l.length - 2] (List.getElem_mem hi)
      refine Soft.sliceR (l := 0) (hh := l.length - 2) (by rfl) (by rfl) (by rfl) (by rfl) (by rfl) (by rfl) (by rfl) ?_ (Nat.zero_le _) (by rw [eSyns_len]; omega) ?_
      · exact bnd_int (by rfl) e1
      refine ⟨_, _, hv, ?_⟩
      refine bs (fun g2 => ?_) (fun g2 => ?_)
      · refine Soft.idx (n := IntKind.i64.wrap (((eSyns l).length : Int) - 2)) (by rfl) (by rfl) (by rfl) (by rfl) (by rfl) (by rfl) (by rfl) (by rw [e1]; omega) (by rw [e1]; exact eSyns_get hi) ?_
        rcases hk : l[l.length - 2] with ⟨sk, st, sn, sl⟩
        rw [hk] at hst hd
        rw [hd] at hx
        refine ⟨_, _, hst, ?_⟩
        refine bs (fun g3 => ?_) (fun g3 => ?_)
        · refine ⟨_, _, hle, ?_⟩
          exact ⟨_, _, rfl, by rw [hx, show decide (lenI l ≥ 3) = _ from g1, g2, g3]; rfl, rfl⟩
        · exact ⟨_, _, rfl, by rw [hx, g3]; simp, rfl⟩
      · exact ⟨_, _, rfl, by rw [hx, g2]; simp, rfl⟩
    · exact ⟨_, _, rfl, by rw [hx, show decide (lenI l ≥ 3) = _ from g1]; simp, rfl⟩
  exact ⟨_, _, rfl, by simp only [exprB, Syn.kind, h1, h2, h3, h4, h5, h6, h7, h8, h9, h10, h11, h12, h13, Bool.false_eq_true, Bool.true_eq_false, if_false, if_true], rfl⟩
end
end Go.Proofs.YtfbppkjjdbkedaaGreatDoor.Ref
