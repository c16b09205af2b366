/-
  Walks: identifiers, atoms.
-/
import Derived.Test.YtfbppkjjdbkedaaGreatDoorVb
namespace Go.Proofs.YtfbppkjjdbkedaaGreatDoor.Ref
noncomputable section
open Go
set_option linter.unusedVariables false
set_option maxRecDepth 100000
def sb (l : List UInt8) : ByteArray := ⟨⟨l⟩⟩
theorem wordR_head {s : ByteArray} (h : wordR s.data.toList = true) : ∃ c t, s.data.toList = c :: t := by
  cases hs : s.data.toList with
  | nil => rw [hs] at h; simp [wordR] at h
  | cons c t => exact ⟨c, t, rfl⟩
theorem wordL_R (l : List UInt8) (a b : Nat) : wordL l a b = (wordR l && decide (a ≤ (l.headD 0).toNat) && decide ((l.headD 0).toNat ≤ b)) := by
  simp only [wordL, wordR]
  cases decide (1 ≤ l.length) <;> cases decide (l.length ≤ 16) <;> cases decide (a ≤ (l.headD 0).toNat) <;> cases decide ((l.headD 0).toNat ≤ b) <;> cases (l.all fun c => letterN c.toNat) <;> rfl
theorem ce_IsIdent (s : ByteArray) : CE X 80 [T s] [] (.ret (B (wordL s.data.toList 65 90))) [] := by
  refine ce_code hX hF (H := Hs 80) (fn := Tryz.f80) rfl rfl ?_
  rw [wordL_R]
  refine ⟨_, _, ce_word s, ?_⟩
  refine bs (fun h1 => ?_) (fun h1 => ?_)
  · obtain ⟨c, t, hl⟩ := wordR_head h1
    have hd : s.data.toList.headD 0 = c := by rw [hl]; rfl
    rw [h1, hd]
    refine Soft.byte (b := c) (by rfl) (by rfl) (by rfl) (by rfl) (by rfl) (by rfl) (by rfl) (by omega) (by rw [hl]; rfl) ?_
    refine bs (fun h2 => ?_) (fun h2 => ?_)
    · refine Soft.byte (b := c) (by rfl) (by rfl) (by rfl) (by rfl) (by rfl) (by rfl) (by rfl) (by omega) (by rw [hl]; rfl) ?_
      refine ⟨_, _, rfl, ?_, rfl⟩
      refine congrArg (fun b => ARes.ret (B b)) ?_
      rw [Bool.eq_iff_iff]; simp at *; omega
    · refine ⟨_, _, rfl, ?_, rfl⟩
      refine congrArg (fun b => ARes.ret (B b)) ?_
      rw [Bool.eq_iff_iff]; simp at *; omega
  · refine ⟨_, _, rfl, ?_, rfl⟩
    rw [h1]; rfl
/-- What an atom is. -/
def atomB (s : ByteArray) : Bool := eqB s (sb [124]) || eqB s (sb [35]) || wordL s.data.toList 97 122
theorem atom1 {s : ByteArray} (h : eqB s ⟨#[124]⟩ = true) : atomB s = true := by simp only [atomB, show eqB s (sb [124]) = true from h, Bool.true_or]
theorem atom2 {s : ByteArray} (h : eqB s ⟨#[35]⟩ = true) : atomB s = true := by simp only [atomB, show eqB s (sb [35]) = true from h, Bool.true_or, Bool.or_true]
theorem atom3 {s : ByteArray} (h1 : eqB s ⟨#[124]⟩ = false) (h2 : eqB s ⟨#[35]⟩ = false) : atomB s = wordL s.data.toList 97 122 := by simp only [atomB, show eqB s (sb [124]) = false from h1, show eqB s (sb [35]) = false from h2, Bool.false_or]
theorem ce_Atom (s : ByteArray) : CE X 131 [T s] [] (.ret (B (atomB s))) [] := by
  refine ce_code hX hF (H := Hs 131) (fn := Tryz.f131) rfl rfl ?_
  refine bs (fun h1 => ?_) (fun h1 => ?_)
  · exact ⟨_, _, rfl, by rw [atom1 h1], rfl⟩
  · refine bs (fun h2 => ?_) (fun h2 => ?_)
    · exact ⟨_, _, rfl, by rw [atom2 h2], rfl⟩
    · refine ⟨_, _, ce_Word s 97 122, ?_⟩
      exact ⟨_, _, rfl, by rw [atom3 h1 h2], rfl⟩
theorem ce_IsAtom (s : ByteArray) : CE X 83 [T s] [] (.ret (B (atomB s))) [] := by
  refine ce_code hX hF (H := Hs 83) (fn := Tryz.f83) rfl rfl ?_
  refine bs (fun h1 => ?_) (fun h1 => ?_)
  · exact ⟨_, _, rfl, by rw [atom1 h1], rfl⟩
  · refine bs (fun h2 => ?_) (fun h2 => ?_)
    · exact ⟨_, _, rfl, by rw [atom2 h2], rfl⟩
    · have e3 := (atom3 h1 h2).trans (wordL_R s.data.toList 97 122)
      clear h1 h2
      refine ⟨_, _, ce_word s, ?_⟩
      refine bs (fun h3 => ?_) (fun h3 => ?_)
      · obtain ⟨c, t, hl⟩ := wordR_head h3
        have hd : s.data.toList.headD 0 = c := by rw [hl]; rfl
        rw [h3, hd] at e3
        refine Soft.byte (b := c) (by rfl) (by rfl) (by rfl) (by rfl) (by rfl) (by rfl) (by rfl) (by omega) (by rw [hl]; rfl) ?_
        refine bs (fun h4 => ?_) (fun h4 => ?_)
        · refine Soft.byte (b := c) (by rfl) (by rfl) (by rfl) (by rfl) (by rfl) (by rfl) (by rfl) (by omega) (by rw [hl]; rfl) ?_
          refine ⟨_, _, rfl, ?_, rfl⟩
          rw [e3]
          refine congrArg (fun b => ARes.ret (B b)) ?_
          rw [Bool.eq_iff_iff]; simp at *; omega
        · refine ⟨_, _, rfl, ?_, rfl⟩
          rw [e3]
          refine congrArg (fun b => ARes.ret (B b)) ?_
          rw [Bool.eq_iff_iff]; simp at *; omega
      · refine ⟨_, _, rfl, ?_, rfl⟩
        rw [e3, h3]; rfl
end
end Go.Proofs.YtfbppkjjdbkedaaGreatDoor.Ref
