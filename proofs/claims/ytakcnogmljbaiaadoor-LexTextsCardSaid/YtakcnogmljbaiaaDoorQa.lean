/-
  Plain notions for the pure part: a function with a number of rounds comes to a value ('Evt'), and strings as lists of bytes ('B').
-/
import Derived.Test.YtakcnogmljbaiaaDoorPLexx2
import Derived.Test.YtakcnogmljbaiaaDoorPLexx3
import Derived.Test.YtakcnogmljbaiaaDoorPLexx4
set_option linter.unusedVariables false
set_option linter.unusedSimpArgs false
namespace Go.Proofs.YtakcnogmljbaiaaDoor.Q
open Go.RowKit Go.Proofs.YtakcnogmljbaiaaDoorW.PrintWords Go.Proofs.YtakcnogmljbaiaaDoor.PLex

/-- From some number of rounds on the answer is r. -/
def Evt {α : Type} (g : Nat → Option α) (r : α) : Prop := ∃ K, ∀ k, K ≤ k → g k = some r
theorem Evt.pure {α : Type} (r : α) : Evt (fun _ => some r) r := ⟨0, fun _ _ => rfl⟩
theorem Evt.const {α : Type} {g : Option α} {r : α} (h : g = some r) : Evt (fun _ => g) r := ⟨0, fun _ _ => h⟩
theorem Evt.bind {α β : Type} {g : Nat → Option α} {f : Nat → α → Option β} {a : α} {r : β} (h : Evt g a) (h2 : Evt (fun k => f k a) r) : Evt (fun k => (g k).bind (f k)) r := by
  obtain ⟨K, hK⟩ := h
  obtain ⟨L, hL⟩ := h2
  exact ⟨max K L, fun k hk => by show (g k).bind (f k) = some r; rw [hK k (by omega)]; exact hL k (by omega)⟩
theorem Evt.succ {α : Type} {g : Nat → Option α} {r : α} (h : Evt (fun k => g (k + 1)) r) : Evt g r := by
  obtain ⟨K, hK⟩ := h
  refine ⟨K + 1, fun k hk => ?_⟩
  obtain ⟨m, rfl⟩ : ∃ m, k = m + 1 := ⟨k - 1, by omega⟩
  exact hK m (by omega)
theorem Evt.pos {α : Type} {g h : Nat → Option α} {r : α} {c : Prop} [Decidable c] (hc : c) (e : Evt g r) : Evt (fun k => if c then g k else h k) r := by simpa [hc] using e
theorem Evt.neg {α : Type} {g h : Nat → Option α} {r : α} {c : Prop} [Decidable c] (hc : ¬ c) (e : Evt h r) : Evt (fun k => if c then g k else h k) r := by simpa [hc] using e
theorem Evt.of_mono {α : Type} {g : Nat → Option α} {r : α} (hm : ∀ k, LeO (g k) (g (k + 1))) {k : Nat} (h : g k = some r) : Evt g r := by
  refine ⟨k, fun m hm' => ?_⟩
  obtain ⟨d, rfl⟩ : ∃ d, m = k + d := ⟨m - k, by omega⟩
  clear hm'
  induction d with
  | zero => exact h
  | succ d ih => exact hm _ r ih
theorem Evt.ex {α : Type} {g : Nat → Option α} {r : α} (h : Evt g r) : ∃ k, g k = some r := by
  obtain ⟨K, hK⟩ := h
  exact ⟨K, hK K (Nat.le_refl _)⟩
theorem Evt.congr {α : Type} {g h : Nat → Option α} {r : α} (e : ∀ k, g k = h k) (hh : Evt h r) : Evt g r := by
  obtain ⟨K, hK⟩ := hh
  exact ⟨K, fun k hk => by rw [e k]; exact hK k hk⟩

/-- A string out of its bytes. -/
def B (l : List UInt8) : ByteArray := ⟨l.toArray⟩
/-- A string's bytes. -/
def L (s : ByteArray) : List UInt8 := s.data.toList
theorem B_L (s : ByteArray) : B (L s) = s := Lib.mk_data s
theorem L_B (l : List UInt8) : L (B l) = l := rfl
theorem size_B (l : List UInt8) : (B l).size = l.length := by
  show l.toArray.size = _
  simp
theorem size_L (s : ByteArray) : s.size = (L s).length := Lib.size_eq s
theorem toList_B (l : List UInt8) : (B l).toList = l := by rw [Lib.toList_data]; rfl
theorem toList_L (s : ByteArray) : s.toList = L s := Lib.toList_data s
theorem B_inj {l m : List UInt8} (h : B l = B m) : l = m := by
  have := congrArg L h
  exact this
theorem ext_L {s t : ByteArray} (h : L s = L t) : s = t := by rw [← B_L s, ← B_L t, h]
theorem extract_B (l : List UInt8) (i j : Nat) : (B l).extract i j = B ((l.drop i).take (j - i)) := Lib.extract_eq _ i j
theorem L_extract (s : ByteArray) (i j : Nat) : L (s.extract i j) = ((L s).drop i).take (j - i) := Lib.extract_data s i j
theorem append_B (l m : List UInt8) : B l ++ B m = B (l ++ m) := by
  apply ext_L
  show (B l ++ B m).data.toList = _
  rw [ByteArray.data_append]
  simp [L, B]
theorem L_append (s t : ByteArray) : L (s ++ t) = L s ++ L t := by
  show (s ++ t).data.toList = _
  rw [ByteArray.data_append]
  simp [L]
theorem bt_B (l : List UInt8) (i : Nat) (h : i < l.length) : bt (B l) (i : Int) = ((l[i]'h).toNat : Int) := by
  unfold bt
  rw [dif_pos (by rw [Int.toNat_natCast, size_B]; exact h)]
  rfl
theorem bt_L (s : ByteArray) (i : Nat) (h : i < (L s).length) : bt s (i : Int) = (((L s)[i]'h).toNat : Int) := by
  have := bt_B (L s) i h
  rwa [B_L] at this
theorem bt_cons (c : UInt8) (r : List UInt8) : bt (B (c :: r)) 0 = (c.toNat : Int) := bt_B (c :: r) 0 (by simp)
theorem w64 {n : Int} (h0 : -9223372036854775808 ≤ n) (h1 : n ≤ 9223372036854775807) : wrap64 n = n := by
  unfold wrap64; omega
theorem w64n (n : Nat) (h1 : n ≤ 9223372036854775807) : wrap64 (n : Int) = n := w64 (by omega) (by omega)
theorem w64s (n : Nat) (h1 : n + 1 ≤ 9223372036854775807) : wrap64 ((n : Int) + 1) = ((n + 1 : Nat) : Int) := by rw [w64 (by omega) (by omega)]; omega
end Go.Proofs.YtakcnogmljbaiaaDoor.Q
