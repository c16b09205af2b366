/-
  Walks: small functions of the library and of lex, for the closed machine.
-/
import Derived.Test.YtfbppkjjdbkedaaGreatDoorAb
import Derived.Test.YtfbppkjjdbkedaaGreatDoorRefD
namespace Go.Proofs.YtfbppkjjdbkedaaGreatDoor.Ref
noncomputable section
open Go
set_option linter.unusedVariables false
set_option maxRecDepth 100000
def pfxB (s p : ByteArray) : Bool := match Nat.ble p.data.toList.length s.data.toList.length with
  | true => eqB (subB s 0 p.data.toList.length) p
  | false => false
theorem ce_prefix1 (s p : ByteArray) : CE X 144 [.v (.string s), .v (.string p)] [] (.ret (.v (.bool (pfxB s p)))) [] := by
  refine ce_code hX hF (H := Hs 144) (fn := Tryz.f144) rfl rfl ?_
  refine bs (fun h1 => ?_) (fun h1 => ?_)
  · have h2 : p.data.toList.length ≤ s.data.toList.length := by simp only [decide_eq_true_eq, ge_iff_le] at h1; omega
    refine Soft.sliceS (l := 0) (hh := p.data.toList.length) (by rfl) (by rfl) (by rfl) (by rfl) (by rfl) (by rfl) (by rfl) (by rfl) (Nat.zero_le _) h2 ?_
    refine ⟨_, _, rfl, ?_, rfl⟩
    simp only [pfxB, Nat.ble_eq_true_of_le h2]
  · have h2 : ¬ p.data.toList.length ≤ s.data.toList.length := by simp only [decide_eq_false_iff_not, ge_iff_le] at h1; omega
    refine ⟨_, _, rfl, ?_, rfl⟩
    have : Nat.ble p.data.toList.length s.data.toList.length = false := by
      cases h : Nat.ble p.data.toList.length s.data.toList.length
      · rfl
      · exact absurd (Nat.le_of_ble_eq_true h) h2
    simp only [pfxB, this]
theorem ce_prefix (s p : ByteArray) : CE X 93 [.v (.string s), .v (.string p)] [] (.ret (.v (.bool (pfxB s p)))) [] := by
  refine ce_code hX hF (H := Hs 93) (fn := Tryz.f93) rfl rfl ?_
  refine ⟨_, _, ce_prefix1 s p, ?_⟩
  exact ⟨_, _, rfl, rfl, rfl⟩
/-- Calls known by a law. -/
def tfun (f : FuncId) (g : List D → Option D) (T : Tab) : Tab := fun f' ds' b' => match Nat.beq f f' with
  | true => match g ds' with
    | some d => some (.ret d, b')
    | none => T f' ds' b'
  | false => T f' ds' b'
theorem tfun_ok {T : Tab} {f : FuncId} {g : List D → Option D} (hT : T.Ok X) (h : ∀ ds d, g ds = some d → D.loL 0 ds = true ∧ CE X f ds [] (.ret d) []) : (tfun f g T).Ok X := by
  intro k ds1 bs1 r1 b1 h1
  unfold tfun at h1
  split at h1
  · rename_i hc
    have e1 := Nat.eq_of_beq_eq_true hc
    subst e1
    split at h1
    · rename_i d hd
      injection h1 with h1
      injection h1 with h1 h2
      subst h1 h2
      obtain ⟨q0, q1, q2⟩ := h _ _ hd
      exact ⟨q1, ct_frame q2 q0 rfl _ hG0⟩
    · exact hT _ _ _ _ _ h1
  · exact hT _ _ _ _ _ h1
def gPfx : List D → Option D
  | [.v (.string s), .v (.string p)] => some (.v (.bool (pfxB s p)))
  | _ => none
theorem gPfx_ok (ds : List D) (d : D) (h : gPfx ds = some d) : D.loL 0 ds = true ∧ CE X 93 ds [] (.ret d) [] := by
  unfold gPfx at h
  split at h
  · injection h with h; subst h
    exact ⟨rfl, ce_prefix _ _⟩
  · cases h
end
end Go.Proofs.YtfbppkjjdbkedaaGreatDoor.Ref
