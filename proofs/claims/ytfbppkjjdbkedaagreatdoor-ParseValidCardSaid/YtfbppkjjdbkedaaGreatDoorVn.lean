/-
  Walks: operators by levels.
-/
import Derived.Test.YtfbppkjjdbkedaaGreatDoorVm
namespace Go.Proofs.YtfbppkjjdbkedaaGreatDoor.Ref
noncomputable section
open Go
set_option linter.unusedVariables false
set_option linter.unusedSimpArgs false
set_option maxRecDepth 100000
def lvD (p : ByteArray × Bool) : D := .agg [T p.1, B p.2]
def opX (x : Syn) (p : ByteArray × Bool) : Bool := !eqB x.text ⟨#[]⟩ && opM p.1 x.text
theorem ce_isExpr1 (x : Syn) (p : ByteArray × Bool) (ho : p.1.data.toList.length < 1000) (hs : x.text.data.toList.length < 4611686018427387000) : CE X 133 [lvD p, .fz (eSyn x)] [] (.ret (B (opX x p))) [] := by
  obtain ⟨k, t, n, l⟩ := x
  obtain ⟨o, b⟩ := p
  refine ce_code hX hF (H := Hs 133) (fn := Tryz.f133) rfl rfl ?_
  refine bs (fun h1 => ?_) (fun h1 => ?_)
  · refine ⟨_, _, ce_operator o t ho hs, ?_⟩
    refine ⟨_, _, rfl, ?_, rfl⟩
    simp only [opX, Syn.text, h1, Bool.true_and]
  · refine ⟨_, _, rfl, ?_, rfl⟩
    simp only [opX, Syn.text, h1, Bool.false_and]
def idxL (g : ByteArray × Bool → Bool) : List (ByteArray × Bool) → Nat → Int
  | [], _ => -1
  | x :: l, i => if g x = true then (i : Int) else idxL g l (i + 1)
theorem idxL_iff {g : ByteArray × Bool → Bool} : ∀ (l : List (ByteArray × Bool)) (i : Nat), 0 ≤ idxL g l i ↔ l.any g = true
  | [], i => by simp [idxL]
  | x :: l, i => by
    simp only [idxL, List.any_cons, Bool.or_eq_true]
    split
    · rename_i h; simp [h]
    · rename_i h; rw [idxL_iff l (i + 1)]; simp [h]
theorem ce_IndexL {f : FuncId} {e : D} {g : ByteArray × Bool → Bool} {l : List (ByteArray × Bool)} {y : Syn} (he : e = eSyn y) (hl : l.length < 1000) (h : ∀ p ∈ l, CE X f [lvD p, .fz (eSyn y)] [] (.ret (B (g p))) []) : CE X 169 [.row false 2 (l.map lvD), .fn f [.fz (eSyn y)]] [] (.ret (I (idxL g l 0))) [] := by
  obtain ⟨yk, yt, yn, yl⟩ := y
  refine ce_code hX hF (H := Hs 169) (fn := Tryz.f169) rfl rfl ?_
  refine w_loop hX (H := Hs 169) [0, 1, 7, 8] (fun r S => ∃ i : Nat, r = l.length - i ∧ i ≤ l.length ∧ idxL g (l.drop i) i = idxL g l 0 ∧ S = ⟨19, [(0, .d (.row false 2 (l.map lvD))), (1, .d (.fn f [.fz (eSyn (.mk yk yt yn yl))])), (7, .d (I l.length)), (8, .d (I i))], [], 0⟩) l.length ⟨0, by simp, by simp, by simp only [List.drop_zero], by simp only [List.length_map]; rfl⟩ ?_
  rintro r S ⟨i, rfl, hi, he, rfl⟩
  refine bs (fun h1 => ?_) (fun h1 => ?_)
  · simp at h1
    have hd := List.drop_eq_getElem_cons h1
    rw [hd] at he
    simp only [idxL] at he
    have e1 := inc64 i (by omega)
    have ihx := h l[i] (List.getElem_mem h1)
    refine Soft.idx (by rfl) (by rfl) (by rfl) (by rfl) (by rfl) (by rfl) (by rfl) (by omega) (map_get lvD h1) ?_
    rcases hk : l[i] with ⟨o, b⟩
    rw [hk] at ihx he
    refine ⟨_, _, ihx, ?_⟩
    refine bs (fun h2 => ?_) (fun h2 => ?_)
    · refine ⟨_, _, rfl, ?_, rfl⟩
      simp only [h2, if_true] at he
      rw [← he]
    · simp only [h2, Bool.false_eq_true, if_false] at he
      refine ⟨l.length - (i + 1), by omega, i + 1, rfl, by omega, he, ?_⟩
      rw [e1]
  · simp at h1
    refine ⟨_, _, rfl, ?_, rfl⟩
    have : i = l.length := by omega
    subst this
    simp only [List.drop_length, idxL] at he
    rw [← he]
theorem ce_ContainsL {f : FuncId} {g : ByteArray × Bool → Bool} {l : List (ByteArray × Bool)} {y : Syn} (hl : l.length < 1000) (h : ∀ p ∈ l, CE X f [lvD p, .fz (eSyn y)] [] (.ret (B (g p))) []) : CE X 132 [.row false 2 (l.map lvD), .fn f [.fz (eSyn y)]] [] (.ret (B (l.any g))) [] := by
  have h0 := ce_IndexL (e := eSyn y) rfl hl h
  obtain ⟨yk, yt, yn, yl⟩ := y
  refine ce_code hX hF (H := Hs 132) (fn := Tryz.f132) rfl rfl ?_
  refine ⟨_, _, h0, ?_⟩
  refine ⟨_, _, rfl, ?_, rfl⟩
  have h1 := idxL_iff (g := g) l 0
  refine congrArg (fun b => ARes.ret (B b)) ?_
  rw [Bool.eq_iff_iff, ← h1]
  simp
end
end Go.Proofs.YtfbppkjjdbkedaaGreatDoor.Ref
