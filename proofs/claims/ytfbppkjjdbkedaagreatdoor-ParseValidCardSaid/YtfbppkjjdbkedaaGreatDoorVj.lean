/-
  Walks: the last part; arms and patterns, as the reference sees them.
-/
import Derived.Test.YtfbppkjjdbkedaaGreatDoorVi
namespace Go.Proofs.YtfbppkjjdbkedaaGreatDoor.Ref
noncomputable section
open Go
set_option linter.unusedVariables false
set_option linter.unusedSimpArgs false
set_option maxRecDepth 100000
def zeroS : Syn := .mk ⟨#[]⟩ ⟨#[]⟩ 0 []
theorem ce_body {l : List Syn} (hl : sizeL l ≤ 100000) : CE X 58 [.row false 4 (eSyns l)] [] (.ret (.tup [.row false 4 (eSyns l.dropLast), eSyn (l.getLastD zeroS)])) [] := by
  have hll := len_size l
  refine ce_cool hX hF (H := Hs 58) (fn := Tryz.f58) [.tmp 2] rfl rfl ?_
  refine bs (fun h1 => ?_) (fun h1 => ?_)
  · have h1 : l = [] := by
      have : (eSyns l).length = 0 := by simpa using h1
      rw [eSyns_len] at this
      exact List.eq_nil_of_length_eq_zero this
    subst h1
    exact ⟨_, _, rfl, rfl, rfl⟩
  · have h1 : 1 ≤ l.length := by
      have : (eSyns l).length ≠ 0 := by simpa using h1
      rw [eSyns_len] at this
      omega
    have e1 : IntKind.i64.wrap (((eSyns l).length : Int) - 1) = ((l.length - 1 : Nat) : Int) := by rw [eSyns_len, wrap64 (by omega) (by omega)]; omega
    refine .mk (by kernel_rfl) ?_
    refine SoftE.sliceR (l := 0) (hh := l.length - 1) (by rfl) (by rfl) (by rfl) (by rfl) (by rfl) (by rfl) ?_ (Nat.zero_le _) (by rw [eSyns_len]; omega) ?_
    · rw [e1]; simp [ASt.bnd, ASt.ev, look_cons]
    · refine SoftE.idx (n := IntKind.i64.wrap (((eSyns l).length : Int) - 1)) (by rfl) (by rfl) (by rfl) (by rfl) (by rfl) (by rfl) (by rw [e1]; omega) (by rw [e1]; exact eSyns_get (show l.length - 1 < l.length by omega)) ?_
      rcases hk : l[l.length - 1] with ⟨k', t', m', ks'⟩
      refine ⟨_, _, rfl, ?_, rfl⟩
      have h3 : l.getLastD zeroS = .mk k' t' m' ks' := by
        rw [← hk]
        cases l with
        | nil => simp at h1
        | cons a t => simp [List.getLastD, List.getLast_eq_getElem]
      have h4 : (eSyns l).take (l.length - 1 - 0) = eSyns l.dropLast := by rw [eSyns_map, eSyns_map, List.dropLast_eq_take, Nat.sub_zero, List.map_take]
      rw [h3, List.drop_zero, h4]
      rfl
end
end Go.Proofs.YtfbppkjjdbkedaaGreatDoor.Ref
