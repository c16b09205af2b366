/-
  Walks: lists of strings; variables that differ.
-/
import Derived.Test.YtfbppkjjdbkedaaGreatDoorVd
namespace Go.Proofs.YtfbppkjjdbkedaaGreatDoor.Ref
noncomputable section
open Go
set_option linter.unusedVariables false
set_option linter.unusedSimpArgs false
set_option maxRecDepth 100000
theorem eqB_iff {a b : ByteArray} : eqB a b = true ↔ a = b := ⟨eqB_of, fun h => by subst h; rw [eqB, eqL_eq]; simp⟩
abbrev Rs (nn : Bool) (l : List ByteArray) : D := .row nn 1 (l.map T)
def hasS : List ByteArray → ByteArray → Bool
  | [], _ => false
  | y :: l, x => eqB y x || hasS l x
theorem hasS_iff : ∀ (l : List ByteArray) (x : ByteArray), hasS l x = true ↔ x ∈ l
  | [], x => by simp [hasS]
  | y :: l, x => by
    simp only [hasS, Bool.or_eq_true, hasS_iff l x, eqB_iff, List.mem_cons]
    constructor
    · rintro (h | h)
      · exact .inl h.symm
      · exact .inr h
    · rintro (h | h)
      · exact .inl h.symm
      · exact .inr h
def idxT : List ByteArray → ByteArray → Nat → Int
  | [], _, _ => -1
  | y :: l, x, i => if eqB x y = true then (i : Int) else idxT l x (i + 1)
theorem idxT_iff : ∀ (l : List ByteArray) (x : ByteArray) (i : Nat), 0 ≤ idxT l x i ↔ x ∈ l
  | [], x, i => by simp [idxT]
  | y :: l, x, i => by
    simp only [idxT]
    split
    · rename_i h; have h := eqB_iff.1 h; subst h; simp
    · rename_i h; rw [eqB_iff] at h; rw [idxT_iff l x (i + 1)]; simp [h]
theorem ce_IndexT (nn : Bool) (l : List ByteArray) (x : ByteArray) (hl : l.length < 4611686018427387904) : CE X 147 [Rs nn l, T x] [] (.ret (I (idxT l x 0))) [] := by
  refine ce_code hX hF (H := Hs 147) (fn := Tryz.f147) rfl rfl ?_
  refine w_loop hX (H := Hs 147) [0, 1, 7, 8] (fun r S => ∃ i : Nat, r = l.length - i ∧ i ≤ l.length ∧ idxT (l.drop i) x i = idxT l x 0 ∧ S = ⟨19, [(0, .d (Rs nn l)), (1, .d (T x)), (7, .d (I l.length)), (8, .d (I i))], [], 0⟩) l.length ⟨0, by simp, by simp, by simp, by simp⟩ ?_
  rintro r S ⟨i, rfl, hi, he, rfl⟩
  refine bs (fun h1 => ?_) (fun h1 => ?_)
  · simp at h1
    have hd := List.drop_eq_getElem_cons h1
    rw [hd] at he
    simp only [idxT] at he
    refine Soft.idx (by rfl) (by rfl) (by rfl) (by rfl) (by rfl) (by rfl) (by rfl) (by omega) (map_get T h1) ?_
    refine bs (fun h2 => ?_) (fun h2 => ?_)
    · refine ⟨_, _, rfl, ?_, rfl⟩
      have h2 : eqB x l[i] = true := h2
      rw [if_pos h2] at he
      rw [← he]
    · have h2 : eqB x l[i] = false := h2
      rw [if_neg (by rw [h2]; simp)] at he
      refine ⟨l.length - (i + 1), by omega, i + 1, rfl, by omega, he, ?_⟩
      have e1 := inc64 i (by omega)
      rw [e1]
  · simp at h1
    refine ⟨_, _, rfl, ?_, rfl⟩
    have : i = l.length := by omega
    subst this
    simp [idxT] at he
    rw [← he]
theorem ce_ContainsT (nn : Bool) (l : List ByteArray) (x : ByteArray) (hl : l.length < 4611686018427387904) : CE X 102 [Rs nn l, T x] [] (.ret (B (hasS l x))) [] := by
  refine ce_code hX hF (H := Hs 102) (fn := Tryz.f102) rfl rfl ?_
  refine ⟨_, _, ce_IndexT nn l x hl, ?_⟩
  refine ⟨_, _, rfl, ?_, rfl⟩
  have h1 := idxT_iff l x 0
  have h2 := hasS_iff l x
  by_cases h : x ∈ l
  · rw [h2.2 h]; simp [h1.2 h]
  · have h0 : ¬ 0 ≤ idxT l x 0 := fun e => h (h1.1 e)
    have h3 : hasS l x = false := by cases e : hasS l x with
      | false => rfl
      | true => exact absurd (h2.1 e) h
    rw [h3]; simp; omega
theorem frzL_T : ∀ l : List ByteArray, D.frzL (l.map T) = l.map T
  | [] => rfl
  | x :: l => by simp only [List.map_cons, D.frzL, frzL_T l, D.frz]
theorem loL_T : ∀ l : List ByteArray, D.loL 0 (l.map T) = true
  | [] => rfl
  | x :: l => by simp only [List.map_cons, D.loL, loL_T l, D.lo, Bool.and_self]
theorem snL_T : ∀ l : List ByteArray, D.snL (l.map T) = true
  | [] => rfl
  | x :: l => by simp only [List.map_cons, D.snL, snL_T l, D.sn, Bool.and_self]
def differM : List Syn → List ByteArray → Bool
  | [], _ => true
  | x :: l, seen => if eqB x.kind ⟨#[118, 97, 114]⟩ = true then (if hasS seen x.text = true then false else differM l (seen ++ [x.text])) else differM l seen
theorem eSyns_get {l : List Syn} {i : Nat} (h : i < l.length) : (eSyns l)[((i : Nat) : Int).toNat]? = some (eSyn l[i]) := by rw [eSyns_map]; exact map_get eSyn h
theorem ce_different (l : List Syn) (hl : l.length < 1000000) : CE X 125 [.row false 4 (eSyns l)] [] (.ret (B (differM l []))) [] := by
  refine ce_code hX hF (H := Hs 125) (fn := Tryz.f125) rfl rfl ?_
  refine w_loop hX (H := Hs 125) [3, 6, 7, 8] (fun r S => ∃ (i : Nat) (seen : List ByteArray), r = l.length - i ∧ i ≤ l.length ∧ seen.length ≤ i ∧ differM (l.drop i) seen = differM l [] ∧ S = ⟨25, [(3, .d (.own false 1 (seen.map T))), (6, .d (.row false 4 (eSyns l))), (7, .d (I l.length)), (8, .d (I i))], [], 0⟩) l.length ⟨0, [], by simp, by simp, by simp, by simp, by simp only [eSyns_len]; rfl⟩ ?_
  rintro r S ⟨i, seen, rfl, hi, hsl, he, rfl⟩
  refine bs (fun h1 => ?_) (fun h1 => ?_)
  · simp at h1
    have hd := List.drop_eq_getElem_cons h1
    rw [hd] at he
    have e1 := inc64 i (by omega)
    refine Soft.idx (by rfl) (by rfl) (by rfl) (by rfl) (by rfl) (by rfl) (by rfl) (by omega) (eSyns_get h1) ?_
    rcases hx : l[i] with ⟨k, t, n, ks⟩
    rw [hx] at he
    simp only [differM, Syn.kind, Syn.text] at he
    refine bs (fun h2 => ?_) (fun h2 => ?_)
    · simp only [Bool.not_eq_true'] at h2
      simp only [h2, Bool.false_eq_true, if_false] at he
      refine ⟨l.length - (i + 1), by omega, i + 1, seen, rfl, by omega, by omega, he, ?_⟩
      rw [e1]
    · simp only [Bool.not_eq_false'] at h2
      simp only [h2, if_true] at he
      refine Bor.mk _ [Rs false seen, T t] _ (by rfl) ?_ (by rfl) (ce_ContainsT false seen t (by omega)) rfl ?_
      · simp [ASt.views, ASt.view, ASt.ev, ASt.at, ASt.cont, look_cons, look_nil, D.get, D.isHdr, D.frz, D.lo, D.loL, D.ro, frzL_T, loL_T]
      refine bs (fun h3 => ?_) (fun h3 => ?_)
      · refine ⟨_, _, rfl, ?_, rfl⟩
        simp only [h3, if_true] at he
        rw [← he]
      · simp only [h3, Bool.false_eq_true, if_false] at he
        refine Soft.appU (es := [T t]) (ds := seen.map T) (sz := 1) (by rfl) (by rfl) (by rfl) (by rfl) (by rfl) (by rfl) (by rfl) (by rfl) (by rfl) (by rfl) (by rfl) (by rfl) (by rfl) (by rfl) (by rfl) (by show ((seen.map T).length + 1) * 16 ≤ lim; simp [lim]; omega) ?_
        refine ⟨l.length - (i + 1), by omega, i + 1, seen ++ [t], rfl, by omega, by simp; omega, he, ?_⟩
        rw [e1]; simp
  · simp at h1
    refine ⟨_, _, rfl, ?_, rfl⟩
    have : i = l.length := by omega
    subst this
    simp [differM] at he
    rw [← he]
end
end Go.Proofs.YtfbppkjjdbkedaaGreatDoor.Ref
