/-
  Walks: how deep a tree is, as the reference sees it; parts of which all hold.
-/
import Derived.Test.YtfbppkjjdbkedaaGreatDoorVg
namespace Go.Proofs.YtfbppkjjdbkedaaGreatDoor.Ref
noncomputable section
open Go
set_option linter.unusedVariables false
set_option linter.unusedSimpArgs false
set_option maxRecDepth 100000
def deepN : Nat → Syn → Bool
  | 0, _ => true
  | n + 1, x => x.kids.any (deepN n)
theorem ce_Deep : ∀ (n : Nat) (hn : n ≤ 1000) (x : Syn) (hx : sizeS x ≤ 100000), CE X 44 [eSyn x, I n] [] (.ret (B (deepN n x))) []
  | 0, hn, .mk k t m l, hx => by
    refine ce_code hX hF (H := Hs 44) (fn := Tryz.f44) rfl rfl ?_
    exact ⟨_, _, rfl, rfl, rfl⟩
  | n + 1, hn, .mk k t m l, hx => by
    have ih := ce_Deep n (by omega)
    simp only [sizeS] at hx
    have hll := len_size l
    refine ce_code hX hF (H := Hs 44) (fn := Tryz.f44) rfl rfl ?_
    refine w_loop hX (H := Hs 44) [1, 2, 5] (fun r S => ∃ i : Nat, r = l.length - i ∧ i ≤ l.length ∧ (l.drop i).any (deepN n) = l.any (deepN n) ∧ S = ⟨23, [(1, .d (I ((n + 1 : Nat) : Int))), (2, .d (.fz (eSyn (.mk k t m l)))), (5, .d (I i))], [], 0⟩) l.length ⟨0, by simp, by simp, by simp only [List.drop_zero], rfl⟩ ?_
    rintro r S ⟨i, rfl, hi, he, rfl⟩
    refine bs (fun h1 => ?_) (fun h1 => ?_)
    · have h1 : i < l.length := by rw [eSyns_len] at h1; simp at h1; exact h1
      have hd := List.drop_eq_getElem_cons h1
      rw [hd] at he
      simp only [List.any_cons] at he
      have e1 := inc64 i (by omega)
      have e2 : IntKind.i64.wrap (((n + 1 : Nat) : Int) - 1) = ((n : Nat) : Int) := by rw [wrap64 (by omega) (by omega)]; omega
      have hs := size_get h1
      have ihx := ih l[i] (by omega)
      refine Soft.idx (by rfl) (by rfl) (by rfl) (by rfl) (by rfl) (by rfl) (by rfl) (by omega) (eSyns_get h1) ?_
      rcases hk : l[i] with ⟨k', t', m', ks'⟩
      rw [hk] at ihx he
      refine ⟨_, _, (show CE X 44 [eSyn (.mk k' t' m' ks'), I (IntKind.i64.wrap (((n + 1 : Nat) : Int) - 1))] [] (.ret (B (deepN n (.mk k' t' m' ks')))) [] from by rw [e2]; exact ihx), ?_⟩
      refine bs (fun h2 => ?_) (fun h2 => ?_)
      · refine ⟨_, _, rfl, ?_, rfl⟩
        rw [h2, Bool.true_or] at he
        simp only [deepN, Syn.kids, ← he]
      · rw [h2, Bool.false_or] at he
        refine ⟨l.length - (i + 1), by omega, i + 1, rfl, by omega, he, ?_⟩
        rw [e1]; first | done | rfl
    · have h1 : i = l.length := by rw [eSyns_len] at h1; simp at h1; omega
      subst h1
      refine ⟨_, _, rfl, ?_, rfl⟩
      simp only [List.drop_length, List.any_nil] at he
      simp only [deepN, Syn.kids, ← he]
/-- A function value's answers: on data of a syntax tree. -/
def Ans (k : FuncId) (g : Syn → Bool) (x : Syn) : Prop := CE X k [eSyn x] [] (.ret (B (g x))) []
theorem ce_all1 {k : FuncId} {g : Syn → Bool} {x : Syn} (h : Ans k g x) : CE X 167 [eSyn x, .fz (.fn k [])] [] (.ret (B (!g x))) [] := by
  obtain ⟨k', t', m', ks'⟩ := x
  refine ce_code hX hF (H := Hs 167) (fn := Tryz.f167) rfl rfl ?_
  refine ⟨_, _, h, ?_⟩
  exact ⟨_, _, rfl, rfl, rfl⟩
def idxF (g : Syn → Bool) : List Syn → Nat → Int
  | [], _ => -1
  | x :: l, i => if g x = true then (i : Int) else idxF g l (i + 1)
theorem idxF_iff {g : Syn → Bool} : ∀ (l : List Syn) (i : Nat), 0 ≤ idxF g l i ↔ l.any g = true
  | [], i => by simp [idxF]
  | x :: l, i => by
    simp only [idxF, List.any_cons, Bool.or_eq_true]
    split
    · rename_i h; simp [h]
    · rename_i h; rw [idxF_iff l (i + 1)]; simp [h]
theorem ce_IndexF {f : FuncId} {k0 : FuncId} {g : Syn → Bool} {l : List Syn} (hl : sizeL l ≤ 100000) (h : ∀ x ∈ l, CE X f [eSyn x, .fz (.fn k0 [])] [] (.ret (B (g x))) []) : CE X 183 [.row false 4 (eSyns l), .fn f [.fz (.fn k0 [])]] [] (.ret (I (idxF g l 0))) [] := by
  have hll := len_size l
  refine ce_code hX hF (H := Hs 183) (fn := Tryz.f183) rfl rfl ?_
  refine w_loop hX (H := Hs 183) [0, 1, 7, 8] (fun r S => ∃ i : Nat, r = l.length - i ∧ i ≤ l.length ∧ idxF g (l.drop i) i = idxF g l 0 ∧ S = ⟨19, [(0, .d (.row false 4 (eSyns l))), (1, .d (.fn f [.fz (.fn k0 [])])), (7, .d (I l.length)), (8, .d (I i))], [], 0⟩) l.length ⟨0, by simp, by simp, by simp only [List.drop_zero], by simp only [eSyns_len]; rfl⟩ ?_
  rintro r S ⟨i, rfl, hi, he, rfl⟩
  refine bs (fun h1 => ?_) (fun h1 => ?_)
  · simp at h1
    have hd := List.drop_eq_getElem_cons h1
    rw [hd] at he
    simp only [idxF] at he
    have e1 := inc64 i (by omega)
    have ihx := h l[i] (List.getElem_mem h1)
    refine Soft.idx (by rfl) (by rfl) (by rfl) (by rfl) (by rfl) (by rfl) (by rfl) (by omega) (eSyns_get h1) ?_
    rcases hk : l[i] with ⟨k', t', m', ks'⟩
    rw [hk] at ihx he
    refine ⟨_, _, ihx, ?_⟩
    refine bs (fun h2 => ?_) (fun h2 => ?_)
    · refine ⟨_, _, rfl, ?_, rfl⟩
      simp only [h2, if_true] at he
      rw [← he]
    · simp only [h2, Bool.false_eq_true, if_false] at he
      refine ⟨l.length - (i + 1), by omega, i + 1, rfl, by omega, he, ?_⟩
      rw [e1]
  · simp at h1
    refine ⟨_, _, rfl, ?_, rfl⟩
    have : i = l.length := by omega
    subst this
    simp only [List.drop_length, idxF] at he
    rw [← he]
theorem ce_ContainsF {f : FuncId} {k0 : FuncId} {g : Syn → Bool} {l : List Syn} (hl : sizeL l ≤ 100000) (h : ∀ x ∈ l, CE X f [eSyn x, .fz (.fn k0 [])] [] (.ret (B (g x))) []) : CE X 166 [.row false 4 (eSyns l), .fn f [.fz (.fn k0 [])]] [] (.ret (B (l.any g))) [] := by
  refine ce_code hX hF (H := Hs 166) (fn := Tryz.f166) rfl rfl ?_
  refine ⟨_, _, ce_IndexF hl h, ?_⟩
  refine ⟨_, _, rfl, ?_, rfl⟩
  have h1 := idxF_iff (g := g) l 0
  refine congrArg (fun b => ARes.ret (B b)) ?_
  rw [Bool.eq_iff_iff, ← h1]
  simp
/-- All parts hold. -/
theorem ce_all {k : FuncId} {g : Syn → Bool} {l : List Syn} (hl : sizeL l ≤ 100000) (h : ∀ x ∈ l, Ans k g x) : CE X 123 [.row false 4 (eSyns l), .fn k []] [] (.ret (B (l.all g))) [] := by
  refine ce_code hX hF (H := Hs 123) (fn := Tryz.f123) rfl rfl ?_
  refine ⟨_, _, ce_ContainsF (g := fun x => !g x) hl (fun x hx => ce_all1 (h x hx)), ?_⟩
  refine ⟨_, _, rfl, ?_, rfl⟩
  refine congrArg (fun b => ARes.ret (B b)) ?_
  rw [List.all_eq_not_any_not]
end
end Go.Proofs.YtfbppkjjdbkedaaGreatDoor.Ref
