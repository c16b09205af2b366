/-
  Walks: bytes by trying all of them; words.
-/
import Derived.Test.YtfbppkjjdbkedaaGreatDoorLa
namespace Go.Proofs.YtfbppkjjdbkedaaGreatDoor.Ref
noncomputable section
open Go
set_option linter.unusedVariables false
set_option maxRecDepth 100000
abbrev I (n : Int) : D := .v (.int .i64 n)
abbrev B (b : Bool) : D := .v (.bool b)
abbrev T (s : ByteArray) : D := .v (.string s)
abbrev U (n : Nat) : D := .v (.int .u8 (n : Int))
def allN (p : Nat → Bool) : Nat → Nat → Bool
  | _, 0 => true
  | lo, k + 1 => match p lo with
    | true => allN p (lo + 1) k
    | false => false
theorem allN_of {p : Nat → Bool} : ∀ (k lo : Nat), allN p lo k = true → ∀ n, lo ≤ n → n < lo + k → p n = true
  | 0, lo, h, n, h1, h2 => absurd h2 (by omega)
  | k + 1, lo, h, n, h1, h2 => by
    simp only [allN] at h
    split at h
    · rename_i hp
      rcases Nat.eq_or_lt_of_le h1 with rfl | h3
      · exact hp
      · exact allN_of k (lo + 1) h n h3 (by omega)
    · cases h
noncomputable def byteB (f : FuncId) (g : Nat → Bool) (n : Nat) : Bool := match acall3 X F Hs (drawer X) It Mf T0 1000 80 f [U n] [] with
  | some (.ret (.v (.bool true)), []) => g n
  | some (.ret (.v (.bool false)), []) => !g n
  | _ => false
theorem ce_byteB {f : FuncId} {g : Nat → Bool} {n : Nat} (h : byteB f g n = true) : CE X f [U n] [] (.ret (B (g n))) [] := by
  unfold byteB at h
  split at h
  · rename_i hr
    rw [h]
    exact acall3_ok hX hF (drawer_ok hX) (drawer_okr hX) It_ok T0_ok 80 _ _ _ _ _ hr
  · rename_i hr
    have : g n = false := by simpa using h
    rw [this]
    exact acall3_ok hX hF (drawer_ok hX) (drawer_okr hX) It_ok T0_ok 80 _ _ _ _ _ hr
  · cases h
def letterN (n : Nat) : Bool := Nat.ble 97 n && Nat.ble n 122 || Nat.ble 65 n && Nat.ble n 90 || Nat.ble 48 n && Nat.ble n 57 || Nat.beq n 95
theorem letter1 : allN (byteB 165 letterN) 0 128 = true := by kernel_rfl
theorem letter2 : allN (byteB 165 letterN) 128 128 = true := by kernel_rfl
theorem ce_letter (n : Nat) (h : n < 256) : CE X 165 [U n] [] (.ret (B (letterN n))) [] := by
  refine ce_byteB ?_
  rcases Nat.lt_or_ge n 128 with h1 | h1
  · exact allN_of _ _ letter1 n (Nat.zero_le _) h1
  · exact allN_of _ _ letter2 n h1 h
theorem letter3 : allN (byteB 149 letterN) 0 128 = true := by kernel_rfl
theorem letter4 : allN (byteB 149 letterN) 128 128 = true := by kernel_rfl
theorem ce_Letter (n : Nat) (h : n < 256) : CE X 149 [U n] [] (.ret (B (letterN n))) [] := by
  refine ce_byteB ?_
  rcases Nat.lt_or_ge n 128 with h1 | h1
  · exact allN_of _ _ letter3 n (Nat.zero_le _) h1
  · exact allN_of _ _ letter4 n h1 h
end
end Go.Proofs.YtfbppkjjdbkedaaGreatDoor.Ref
