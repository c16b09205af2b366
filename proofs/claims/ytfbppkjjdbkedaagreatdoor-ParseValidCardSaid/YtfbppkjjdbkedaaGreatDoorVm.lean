/-
  Walks: leaves, patterns, arms, variables, as the program sees them.
-/
import Derived.Test.YtfbppkjjdbkedaaGreatDoorVl
namespace Go.Proofs.YtfbppkjjdbkedaaGreatDoor.Ref
noncomputable section
open Go
set_option linter.unusedVariables false
set_option linter.unusedSimpArgs false
set_option maxRecDepth 100000
def leafF (g : Syn → Bool) (x : Syn) : Bool := isParamM x || (eqB x.kind ⟨#[105, 110, 116]⟩ || eqB x.kind ⟨#[97, 116, 111, 109]⟩) && g x
theorem ce_isLeaf {g : Syn → Bool} {x : Syn} (h : Ans 76 g x) : Ans 184 (leafF g) x := by
  obtain ⟨k, t, n, l⟩ := x
  refine ce_code hX hF (H := Hs 184) (fn := Tryz.f184) rfl rfl ?_
  refine ⟨_, _, ce_isParam k t n l, ?_⟩
  refine bs (fun h1 => ?_) (fun h1 => ?_)
  · refine ⟨_, _, rfl, ?_, rfl⟩
    simp only [leafF, h1, Bool.true_or]
  · refine bs (fun h2 => ?_) (fun h2 => ?_)
    · refine ⟨_, _, h, ?_⟩
      refine ⟨_, _, rfl, ?_, rfl⟩
      simp only [leafF, h1, Syn.kind, h2, Bool.true_or, Bool.false_or, Bool.true_and]
    · refine bs (fun h3 => ?_) (fun h3 => ?_)
      · refine ⟨_, _, h, ?_⟩
        refine ⟨_, _, rfl, ?_, rfl⟩
        simp only [leafF, h1, Syn.kind, h2, h3, Bool.or_true, Bool.false_or, Bool.true_and]
      · refine ⟨_, _, rfl, ?_, rfl⟩
        simp only [leafF, h1, Syn.kind, h2, h3, Bool.or_self, Bool.false_and]
def varsM (l : List Syn) : Bool := decide (l.length ≥ 1) && l.all isVarM && differM l []
theorem ce_vars {l : List Syn} (hl : sizeL l ≤ 100000) : CE X 128 [.row false 4 (eSyns l)] [] (.ret (B (varsM l))) [] := by
  have hll := len_size l
  refine ce_code hX hF (H := Hs 128) (fn := Tryz.f128) rfl rfl ?_
  refine bs (fun h1 => ?_) (fun h1 => ?_)
  · have h1 : l.length ≥ 1 := by rw [eSyns_len] at h1; simp at h1; omega
    refine ⟨_, _, ce_all (k := 129) (g := isVarM) hl (fun x _ => by obtain ⟨k, t, n, ks⟩ := x; exact ce_isVar k t n ks), ?_⟩
    refine bs (fun h2 => ?_) (fun h2 => ?_)
    · refine ⟨_, _, ce_different l (by omega), ?_⟩
      refine ⟨_, _, rfl, ?_, rfl⟩
      simp only [varsM, decide_eq_true h1, h2, Bool.true_and]
    · refine ⟨_, _, rfl, ?_, rfl⟩
      simp only [varsM, h2, Bool.and_false, Bool.false_and]
  · have h1 : ¬ l.length ≥ 1 := by rw [eSyns_len] at h1; simp at h1; omega
    refine ⟨_, _, rfl, ?_, rfl⟩
    simp only [varsM, decide_eq_false h1, Bool.false_and]
def patF (g : Syn → Bool) (x : Syn) : Bool := if eqB x.kind ⟨#[116, 117, 112, 108, 101]⟩ = true then atomB x.text && (x.int == 0) && decide (x.kids.length ≥ 1) && decide (x.kids.length ≤ 8) && x.kids.all (leafF g) && differM x.kids [] else leafF g x
theorem ce_isPattern {g : Syn → Bool} {x : Syn} (hl : sizeS x ≤ 100000) (h : Ans 76 g x) (hk : ∀ y ∈ x.kids, Ans 76 g y) : Ans 168 (patF g) x := by
  obtain ⟨k, t, n, l⟩ := x
  have hll := len_size l
  simp only [sizeS] at hl
  simp only [Syn.kids] at hk
  refine ce_code hX hF (H := Hs 168) (fn := Tryz.f168) rfl rfl ?_
  refine bs (fun h0 => ?_) (fun h0 => ?_)
  · refine ⟨_, _, ce_isLeaf h, ?_⟩
    refine ⟨_, _, rfl, ?_, rfl⟩
    simp only [Bool.not_eq_true'] at h0
    simp only [patF, Syn.kind, h0, Bool.false_eq_true, if_false]
  · simp only [Bool.not_eq_false'] at h0
    have hp : patF g (.mk k t n l) = (atomB t && (n == 0) && decide (l.length ≥ 1) && decide (l.length ≤ 8) && l.all (leafF g) && differM l []) := by
      simp only [patF, Syn.kind, Syn.kids, Syn.text, Syn.int, h0, if_true]
      rfl
    refine ⟨_, _, ce_Atom t, ?_⟩
    refine bs (fun h1 => ?_) (fun h1 => ?_)
    · refine bs (fun h2 => ?_) (fun h2 => ?_)
      · refine bs (fun h3 => ?_) (fun h3 => ?_)
        · have h3 : l.length ≥ 1 := by rw [eSyns_len] at h3; simp at h3; omega
          refine bs (fun h4 => ?_) (fun h4 => ?_)
          · have h4 : l.length ≤ 8 := by rw [eSyns_len] at h4; simp at h4; omega
            refine ⟨_, _, ce_all (k := 184) (g := leafF g) (by omega) (fun y hy => ce_isLeaf (hk y hy)), ?_⟩
            refine bs (fun h5 => ?_) (fun h5 => ?_)
            · refine ⟨_, _, ce_different l (by omega), ?_⟩
              refine ⟨_, _, rfl, ?_, rfl⟩
              rw [hp, h1, h2, decide_eq_true h3, decide_eq_true h4, h5]; rfl
            · refine ⟨_, _, rfl, ?_, rfl⟩
              rw [hp, h5]; simp
          · have h4 : ¬ l.length ≤ 8 := by rw [eSyns_len] at h4; simp at h4; omega
            refine ⟨_, _, rfl, ?_, rfl⟩
            rw [hp, decide_eq_false h4]; simp
        · have h3 : ¬ l.length ≥ 1 := by rw [eSyns_len] at h3; simp at h3; omega
          refine ⟨_, _, rfl, ?_, rfl⟩
          rw [hp, decide_eq_false h3]; simp
      · refine ⟨_, _, rfl, ?_, rfl⟩
        rw [hp, h2]; simp
    · refine ⟨_, _, rfl, ?_, rfl⟩
      rw [hp, h1]; simp
def notSeq (g : Syn → Bool) (x : Syn) : Bool := !eqB x.kind ⟨#[115, 101, 113]⟩ && g x
theorem ce_isStmt1 {g : Syn → Bool} {x : Syn} (h : Ans 75 g x) : Ans 127 (notSeq g) x := by
  obtain ⟨k, t, n, l⟩ := x
  refine ce_code hX hF (H := Hs 127) (fn := Tryz.f127) rfl rfl ?_
  refine bs (fun h1 => ?_) (fun h1 => ?_)
  · refine ⟨_, _, h, ?_⟩
    refine ⟨_, _, rfl, ?_, rfl⟩
    simp only [notSeq, Syn.kind, h1, Bool.true_and]
  · refine ⟨_, _, rfl, ?_, rfl⟩
    simp only [notSeq, Syn.kind, h1, Bool.false_and]
/-- An arm: ge tells what an expression is, gs what a statement is. -/
def armF (ge gs : Syn → Bool) (x : Syn) : Bool := eqB x.kind ⟨#[97, 114, 109]⟩ && bareM x false false && (match x.kids with
  | [p, s] => patF ge p && gs s
  | _ => false)
theorem ce_isArm {ge gs : Syn → Bool} {x : Syn} (hl : sizeS x ≤ 100000) (he : ∀ y ∈ x.kids, Ans 76 ge y ∧ ∀ z ∈ y.kids, Ans 76 ge z) (hs : ∀ y ∈ x.kids, Ans 75 gs y) : Ans 130 (armF ge gs) x := by
  obtain ⟨k, t, n, l⟩ := x
  have hll := len_size l
  simp only [sizeS] at hl
  simp only [Syn.kids] at he hs
  refine ce_code hX hF (H := Hs 130) (fn := Tryz.f130) rfl rfl ?_
  refine bs (fun h1 => ?_) (fun h1 => ?_)
  · refine ⟨_, _, ce_bare k t n l false false, ?_⟩
    refine bs (fun h2 => ?_) (fun h2 => ?_)
    · refine bs (fun h3 => ?_) (fun h3 => ?_)
      · have h3 : l.length = 2 := by rw [eSyns_len] at h3; simp at h3; omega
        obtain ⟨p, s, rfl⟩ : ∃ p s, l = [p, s] := by
          match l, h3 with
          | [p, s], _ => exact ⟨p, s, rfl⟩
        have har : armF ge gs (.mk k t n [p, s]) = (patF ge p && gs s) := by simp only [armF, Syn.kind, Syn.kids, h1, h2, Bool.true_and]
        obtain ⟨hp1, hp2⟩ := he p (by simp)
        have hs1 := hs s (by simp)
        simp only [sizeL] at hl
        refine Soft.idx (d := eSyn p) (by rfl) (by rfl) (by rfl) (by rfl) (by rfl) (by rfl) (by rfl) (by omega) (by rfl) ?_
        obtain ⟨pk, pt, pm, pl⟩ := p
        refine ⟨_, _, ce_isPattern (x := .mk pk pt pm pl) (by omega) hp1 hp2, ?_⟩
        refine bs (fun h4 => ?_) (fun h4 => ?_)
        · refine Soft.idx (d := eSyn s) (by rfl) (by rfl) (by rfl) (by rfl) (by rfl) (by rfl) (by rfl) (by omega) (by rfl) ?_
          obtain ⟨sk, st, sm, sl⟩ := s
          refine ⟨_, _, hs1, ?_⟩
          refine ⟨_, _, rfl, ?_, rfl⟩
          rw [har, h4, Bool.true_and]
        · refine ⟨_, _, rfl, ?_, rfl⟩
          rw [har, h4, Bool.false_and]
      · have h3 : l.length ≠ 2 := by rw [eSyns_len] at h3; simp at h3; omega
        refine ⟨_, _, rfl, ?_, rfl⟩
        have : armF ge gs (.mk k t n l) = false := by
          simp only [armF, Syn.kids]
          split
          · simp at h3
          · simp
        rw [this]
    · refine ⟨_, _, rfl, ?_, rfl⟩
      simp only [armF, h2, Bool.and_false, Bool.false_and]
  · refine ⟨_, _, rfl, ?_, rfl⟩
    simp only [armF, Syn.kind, h1, Bool.false_and]
end
end Go.Proofs.YtfbppkjjdbkedaaGreatDoor.Ref
