/-
  Walks: how deep a tree is.
-/
import Derived.Test.YtfbppkjjdbkedaaGreatDoorVf
namespace Go.Proofs.YtfbppkjjdbkedaaGreatDoor.Ref
noncomputable section
open Go
set_option linter.unusedVariables false
set_option linter.unusedSimpArgs false
set_option maxRecDepth 100000
mutual
/-- How many nodes. -/
def sizeS : Syn → Nat
  | .mk _ _ _ l => sizeL l + 1
def sizeL : List Syn → Nat
  | [] => 0
  | x :: l => sizeS x + sizeL l
end
theorem size_pos : ∀ x : Syn, 1 ≤ sizeS x
  | .mk _ _ _ l => by simp only [sizeS]; omega
theorem len_size : ∀ l : List Syn, l.length ≤ sizeL l
  | [] => Nat.le_refl _
  | x :: l => by
    have := len_size l; have := size_pos x
    simp only [sizeL, List.length_cons]; omega
theorem size_get : ∀ {l : List Syn} {i : Nat} (h : i < l.length), sizeS l[i] ≤ sizeL l
  | x :: l, 0, h => by simp only [sizeL, List.getElem_cons_zero]; omega
  | x :: l, i + 1, h => by
    have := size_get (l := l) (i := i) (by simpa using h)
    simp only [sizeL, List.getElem_cons_succ]; omega
theorem wrap64 {z : Int} (h1 : -4611686018427387904 ≤ z) (h2 : z < 4611686018427387904) : IntKind.i64.wrap z = z := by
  simp only [IntKind.wrap, IntKind.bits, IntKind.signed]; simp; omega
def mx (m n : Int) : Int := if n > m then n else m
def belowL (f : Syn → Int) : List Syn → Int → Int
  | [], m => m
  | x :: l, m => belowL f l (mx m (f x))
def belowN : Nat → Syn → Int
  | 0, _ => 1
  | n + 1, x => belowL (belowN n) x.kids 0 + 1
theorem belowL_le {f : Syn → Int} {b : Int} (hf : ∀ x, 0 ≤ f x ∧ f x ≤ b) : ∀ (l : List Syn) (m : Int), 0 ≤ m → m ≤ b → 0 ≤ belowL f l m ∧ belowL f l m ≤ b
  | [], m, h1, h2 => ⟨h1, h2⟩
  | x :: l, m, h1, h2 => by
    have := hf x
    simp only [belowL]
    refine belowL_le hf l _ ?_ ?_ <;> simp only [mx] <;> split <;> omega
theorem belowN_le : ∀ (n : Nat) (x : Syn), 1 ≤ belowN n x ∧ belowN n x ≤ n + 1
  | 0, x => by simp [belowN]
  | n + 1, x => by
    have := belowL_le (f := belowN n) (b := (n : Int) + 1) (fun x => by have := belowN_le n x; omega) x.kids 0 (by omega) (by omega)
    simp only [belowN]; omega
theorem ce_below : ∀ (n : Nat) (hn : n ≤ 1000) (x : Syn) (hx : sizeS x ≤ 100000), CE X 74 [eSyn x, I n] [] (.ret (I (belowN n x))) []
  | 0, hn, .mk k t m l, hx => by
    refine ce_code hX hF (H := Hs 74) (fn := Tryz.f74) rfl rfl ?_
    exact ⟨_, _, rfl, rfl, rfl⟩
  | n + 1, hn, .mk k t m l, hx => by
    have ih := ce_below n (by omega)
    simp only [sizeS] at hx
    have hll := len_size l
    refine ce_code hX hF (H := Hs 74) (fn := Tryz.f74) rfl rfl ?_
    refine bs (fun h0 => ?_) (fun h0 => ?_)
    · refine w_loop hX (H := Hs 74) [1, 5, 11, 12, 13] (fun r S => ∃ (i : Nat) (mo : Int), r = l.length - i ∧ i ≤ l.length ∧ 0 ≤ mo ∧ mo ≤ n + 1 ∧ belowL (belowN n) (l.drop i) mo = belowL (belowN n) l 0 ∧ S = ⟨26, [(1, .d (I ((n + 1 : Nat) : Int))), (5, .d (I mo)), (11, .d (.row false 4 (eSyns l))), (12, .d (I l.length)), (13, .d (I i))], [], 0⟩) l.length ⟨0, 0, by simp, by simp, by simp, by omega, by simp only [List.drop_zero], by simp only [eSyns_len]; rfl⟩ ?_
      rintro r S ⟨i, mo, rfl, hi, hm0, hm1, he, rfl⟩
      refine bs (fun h1 => ?_) (fun h1 => ?_)
      · simp at h1
        have hd := List.drop_eq_getElem_cons h1
        rw [hd] at he
        simp only [belowL] at he
        have e1 := inc64 i (by omega)
        have e2 : IntKind.i64.wrap (((n + 1 : Nat) : Int) - 1) = ((n : Nat) : Int) := by rw [wrap64 (by omega) (by omega)]; omega
        have hs := size_get h1
        have hb := belowN_le n l[i]
        have ihx := ih l[i] (by omega)
        refine Soft.idx (by rfl) (by rfl) (by rfl) (by rfl) (by rfl) (by rfl) (by rfl) (by omega) (eSyns_get h1) ?_
        rcases hk : l[i] with ⟨k', t', m', ks'⟩
        rw [hk] at ihx he hb
        refine ⟨_, _, (show CE X 74 [eSyn (.mk k' t' m' ks'), I (IntKind.i64.wrap (((n + 1 : Nat) : Int) - 1))] [] (.ret (I (belowN n (.mk k' t' m' ks')))) [] from by rw [e2]; exact ihx), ?_⟩
        refine ⟨l.length - (i + 1), by omega, i + 1, mx mo (belowN n (.mk k' t' m' ks')), rfl, by omega, ?_, ?_, he, ?_⟩
        · simp only [mx]; split <;> omega
        · simp only [mx]; split <;> omega
        · rw [e1]; first | done | rfl
      · simp at h1
        refine ⟨_, _, rfl, ?_, rfl⟩
        have : i = l.length := by omega
        subst this
        simp only [List.drop_length, belowL] at he
        rw [wrap64 (by omega) (by omega)]
        simp only [belowN, Syn.kids, ← he]
    · simp at h0
      first | done | omega
end
end Go.Proofs.YtfbppkjjdbkedaaGreatDoor.Ref
