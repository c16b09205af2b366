/-
  Walks: variables that differ, as the reference sees them.
-/
import Derived.Test.YtfbppkjjdbkedaaGreatDoorVe
namespace Go.Proofs.YtfbppkjjdbkedaaGreatDoor.Ref
noncomputable section
open Go
set_option linter.unusedVariables false
set_option linter.unusedSimpArgs false
set_option maxRecDepth 100000
def clash (x y : Syn) : Bool := eqB x.kind ⟨#[118, 97, 114]⟩ && eqB y.kind ⟨#[118, 97, 114]⟩ && eqB x.text y.text
def differR : List Syn → List Syn → Bool
  | _, [] => true
  | pre, x :: l => pre.all (fun y => !clash x y) && differR (pre ++ [x]) l
theorem ce_Rdifferent (l : List Syn) (hl : l.length < 1000000) : CE X 135 [.row false 4 (eSyns l)] [] (.ret (B (differR [] l))) [] := by
  refine ce_code hX hF (H := Hs 135) (fn := Tryz.f135) rfl rfl ?_
  refine w_loop hX (H := Hs 135) [0, 3] (fun r S => ∃ i : Nat, r = l.length - i ∧ i ≤ l.length ∧ differR (l.take i) (l.drop i) = differR [] l ∧ S = ⟨43, [(0, .d (.row false 4 (eSyns l))), (3, .d (I i))], [], 0⟩) l.length ⟨0, by simp, by simp, by simp, rfl⟩ ?_
  rintro r S ⟨i, rfl, hi, he, rfl⟩
  refine bs (fun h1 => ?_) (fun h1 => ?_)
  · have h1 : i < l.length := by rw [eSyns_len] at h1; simp at h1; exact h1
    have hd := List.drop_eq_getElem_cons h1
    rw [hd] at he
    simp only [differR] at he
    have e1 := inc64 i (by omega)
    refine w_loop hX (H := Hs 135) [0, 3, 4] (fun r S => ∃ j : Nat, r = i - j ∧ j ≤ i ∧ (l.take j).all (fun y => !clash l[i] y) = true ∧ S = ⟨43, [(0, .d (.row false 4 (eSyns l))), (3, .d (I i)), (4, .d (I j))], [], 0⟩) i ⟨0, by simp, by simp, by simp, rfl⟩ ?_
    rintro r S ⟨j, rfl, hj, ha, rfl⟩
    refine bs (fun h2 => ?_) (fun h2 => ?_)
    · have h2 : j < i := by simp at h2; exact h2
      have e2 := inc64 j (by omega)
      have hjl : j < l.length := by omega
      refine .mk (by kernel_rfl) ?_
      have back : clash l[i] l[j] = false → (l.take (j + 1)).all (fun y => !clash l[i] y) = true := fun hc => by
        rw [List.take_succ_eq_append_getElem hjl, List.all_append, ha]
        simp [hc]
      refine SoftE.idx (by rfl) (by rfl) (by rfl) (by rfl) (by rfl) (by rfl) (by omega) (eSyns_get h1) ?_
      rcases hx : l[i] with ⟨k, t, n, ks⟩
      rcases hy : l[j] with ⟨k', t', n', ks'⟩
      have hc : clash l[i] l[j] = (eqB k ⟨#[118, 97, 114]⟩ && eqB k' ⟨#[118, 97, 114]⟩ && eqB t t') := by rw [hx, hy]; rfl
      refine bs (fun h3 => ?_) (fun h3 => ?_)
      · refine SoftE.idx (by rfl) (by rfl) (by rfl) (by rfl) (by rfl) (by rfl) (by omega) ((eSyns_get hjl).trans (by rw [hy])) ?_
        refine bs (fun h4 => ?_) (fun h4 => ?_)
        · refine SoftE.idx (by rfl) (by rfl) (by rfl) (by rfl) (by rfl) (by rfl) (by omega) ((eSyns_get h1).trans (by rw [hx])) ?_
          refine SoftE.idx (by rfl) (by rfl) (by rfl) (by rfl) (by rfl) (by rfl) (by omega) ((eSyns_get hjl).trans (by rw [hy])) ?_
          refine bs (fun h5 => ?_) (fun h5 => ?_)
          · refine ⟨_, _, rfl, ?_, rfl⟩
            have hf : (l.take i).all (fun y => !clash l[i] y) = false := by
              rw [List.all_eq_false]
              refine ⟨l[j], ?_, ?_⟩
              · rw [List.mem_take_iff_getElem]
                exact ⟨j, by omega, rfl⟩
              · rw [hc, h3, h4, h5]; simp
            rw [hf, Bool.false_and] at he
            rw [← he]
          · refine ⟨i - (j + 1), by omega, j + 1, rfl, by omega, ?_, ?_⟩
            · rw [← hx]; exact back (by rw [hc, h3, h4, h5]; rfl)
            · rw [e2]
        · refine ⟨i - (j + 1), by omega, j + 1, rfl, by omega, ?_, ?_⟩
          · rw [← hx]; exact back (by rw [hc, h3, h4]; rfl)
          · rw [e2]
      · refine ⟨i - (j + 1), by omega, j + 1, rfl, by omega, ?_, ?_⟩
        · rw [← hx]; exact back (by rw [hc, h3]; rfl)
        · rw [e2]
    · have h2 : j = i := by simp at h2; omega
      subst h2
      refine ⟨l.length - (j + 1), by omega, j + 1, rfl, by omega, ?_, ?_⟩
      · rw [ha, Bool.true_and] at he
        rw [← he, List.take_succ_eq_append_getElem h1]
      · rw [e1]
  · have h1 : i = l.length := by rw [eSyns_len] at h1; simp at h1; omega
    refine ⟨_, _, rfl, ?_, rfl⟩
    subst h1
    simp [differR] at he
    rw [← he]
end
end Go.Proofs.YtfbppkjjdbkedaaGreatDoor.Ref
