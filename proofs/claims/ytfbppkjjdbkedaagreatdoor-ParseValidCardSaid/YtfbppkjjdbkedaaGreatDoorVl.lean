/-
  Walks: is a text in a list of texts with blanks between.
-/
import Derived.Test.YtfbppkjjdbkedaaGreatDoorVk
namespace Go.Proofs.YtfbppkjjdbkedaaGreatDoor.Ref
noncomputable section
open Go
set_option linter.unusedVariables false
set_option linter.unusedSimpArgs false
set_option maxRecDepth 100000
theorem ce_IndexByte (s : ByteArray) (c : Nat) (hc : c < 256) : CE X 176 [T s, U c] [] (.ret (I (Lib.indexByte s.data.toList c.toUInt8))) [] := by
  refine ce_code hX hF (H := Hs 176) (fn := Tryz.f176) rfl rfl ?_
  refine ⟨_, rfl, ?_⟩
  exact ⟨_, _, rfl, rfl, rfl⟩
theorem ce_Index1 (s : ByteArray) : CE X 200 [T s, T ⟨#[32]⟩] [] (.ret (I (Lib.indexByte s.data.toList 32))) [] := by
  refine ce_code hX hF (H := Hs 200) (fn := Tryz.f200) rfl rfl ?_
  refine bs (fun h1 => ?_) (fun h1 => ?_)
  · refine ⟨_, _, rfl, ?_, rfl⟩
    have := eqB_iff.1 h1
    subst this
    rfl
  · refine Soft.byte (b := 32) (by rfl) (by rfl) (by rfl) (by rfl) (by rfl) (by rfl) (by rfl) (by omega) (by rfl) ?_
    refine ⟨_, _, ce_IndexByte s 32 (by omega), ?_⟩
    exact ⟨_, _, rfl, rfl, rfl⟩
def blankB (s : ByteArray) : Bool := decide (Lib.indexByte s.data.toList 32 ≥ 0)
theorem ce_Contains1 (s : ByteArray) : CE X 170 [T s, T ⟨#[32]⟩] [] (.ret (B (blankB s))) [] := by
  refine ce_code hX hF (H := Hs 170) (fn := Tryz.f170) rfl rfl ?_
  have h : CE X 185 [T s, T ⟨#[32]⟩] [] (.ret (I (Lib.indexByte s.data.toList 32))) [] := by
    refine ce_code hX hF (H := Hs 185) (fn := Tryz.f185) rfl rfl ?_
    refine ⟨_, _, ce_Index1 s, ?_⟩
    exact ⟨_, _, rfl, rfl, rfl⟩
  refine ⟨_, _, h, ?_⟩
  exact ⟨_, _, rfl, rfl, rfl⟩
theorem Soft.cat {S : ASt} {o : Oper} {u : Nat} {next : ASt → Prop} {t v : TypeId} {x y : Operand} {a b : ByteArray} (ho : o.op = .binOp .add t x y v) (hd : o.dst = some u) (hx : S.ev X.G x = some (.d (.v (.string a)))) (hy : S.ev X.G y = some (.d (.v (.string b))))
    (hl : a.data.toList.length + b.data.toList.length ≤ 9223372036854775807) (hu : decide (u < S.n) = true) (h : forceS S (S.putF u (.d (.v (.string (catB a b))))) next) : Soft X S 8 o next :=
  .mk _ (opS_nop (tv := .d (.v (.string (catB a b)))) (by rw [ho]; rfl) (fun S => by simp only [opE, ho]) (by simp only [preS, ho, coolers, ASt.coolOps]) (fun S' => by simp only [postS]) (by simp only [Ref.nop, ho, binN, hx, hy, asV, binV, gd, decide_eq_true hl, scal]) hd hu rfl) h
/-- Stands s in o at place i, blanks around it? -/
def atB (o s : ByteArray) (i : Nat) : Bool := eqB (subB o i (i + s.data.toList.length + 2)) (catB (catB ⟨#[32]⟩ s) ⟨#[32]⟩)
def opGo (o s : ByteArray) : Nat → Nat → Bool
  | _, 0 => false
  | i, n + 1 => atB o s i && !blankB s || opGo o s (i + 1) n
def opM (o s : ByteArray) : Bool := opGo o s 0 (o.data.toList.length - s.data.toList.length - 1)
theorem ce_operator (o s : ByteArray) (ho : o.data.toList.length < 1000) (hs : s.data.toList.length < 4611686018427387000) : CE X 134 [T o, T s] [] (.ret (B (opM o s))) [] := by
  refine ce_code hX hF (H := Hs 134) (fn := Tryz.f134) rfl rfl ?_
  have e0 : IntKind.i64.wrap (IntKind.i64.wrap ((o.data.toList.length : Int) - (s.data.toList.length : Int)) - 1) = (o.data.toList.length : Int) - (s.data.toList.length : Int) - 1 := by
    rw [wrap64 (z := (o.data.toList.length : Int) - (s.data.toList.length : Int)) (by omega) (by omega), wrap64 (by omega) (by omega)]
  refine w_loop hX (H := Hs 134) [0, 1, 11, 12] (fun r S => ∃ i : Nat, r = 1000 - i ∧ i ≤ 1000 ∧ (i = 0 ∨ (i : Int) ≤ (o.data.toList.length : Int) - (s.data.toList.length : Int) - 1) ∧ opGo o s i (o.data.toList.length - s.data.toList.length - 1 - i) = opM o s ∧ S = ⟨33, [(0, .d (T o)), (1, .d (T s)), (11, .d (I ((o.data.toList.length : Int) - (s.data.toList.length : Int) - 1))), (12, .d (I i))], [], 0⟩) 1000 ⟨0, by simp, by simp, by simp, by simp [opM], by rw [← e0]; rfl⟩ ?_
  rintro r S ⟨i, rfl, hi, hle, he, rfl⟩
  refine bs (fun h1 => ?_) (fun h1 => ?_)
  · have h1 : (i : Int) < (o.data.toList.length : Int) - (s.data.toList.length : Int) - 1 := by simpa using h1
    have hlt : i + s.data.toList.length + 1 < o.data.toList.length := by omega
    have e1 := inc64 i (by omega)
    have e2 : IntKind.i64.wrap (IntKind.i64.wrap ((i : Int) + (s.data.toList.length : Int)) + 2) = ((i + s.data.toList.length + 2 : Nat) : Int) := by
      rw [wrap64 (z := (i : Int) + (s.data.toList.length : Int)) (by omega) (by omega), wrap64 (by omega) (by omega)]; omega
    have hgo : opGo o s i (o.data.toList.length - s.data.toList.length - 1 - i) = (atB o s i && !blankB s || opGo o s (i + 1) (o.data.toList.length - s.data.toList.length - 1 - (i + 1))) := by
      rw [show o.data.toList.length - s.data.toList.length - 1 - i = (o.data.toList.length - s.data.toList.length - 1 - (i + 1)) + 1 from by omega]
      rfl
    rw [hgo] at he
    have next : (atB o s i && !blankB s) = false → opGo o s (i + 1) (o.data.toList.length - s.data.toList.length - 1 - (i + 1)) = opM o s := fun hb => by
      rw [hb, Bool.false_or] at he; exact he
    refine Soft.sliceS (l := i) (hh := i + s.data.toList.length + 2) (by rfl) (by rfl) (by rfl) (by rfl) (by rfl) (by rfl) ?_ ?_ (by omega) (by omega) ?_
    · simp [ASt.bnd, ASt.ev, look_cons]
    · rw [e2]; simp [ASt.bnd, ASt.ev, look_cons]; omega
    · refine Soft.cat (by rfl) (by rfl) (by rfl) (by rfl) (by show 1 + s.data.toList.length ≤ _; omega) (by rfl) ?_
      refine Soft.cat (by rfl) (by rfl) (by rfl) (by rfl) (by rw [show (catB ⟨#[32]⟩ s).data.toList.length = s.data.toList.length + 1 from by simp [catB]]; show s.data.toList.length + 1 + 1 ≤ 9223372036854775807; omega) (by rfl) ?_
      refine bs (fun h2 => ?_) (fun h2 => ?_)
      · refine ⟨_, _, ce_Contains1 s, ?_⟩
        refine bs (fun h3 => ?_) (fun h3 => ?_)
        · refine ⟨_, _, rfl, ?_, rfl⟩
          rw [show atB o s i = true from h2, h3, Bool.true_and, Bool.true_or] at he
          rw [← he]
        · refine ⟨1000 - (i + 1), by omega, i + 1, rfl, by omega, .inr (by omega), next (by rw [h3, Bool.and_false]), ?_⟩
          rw [e1]
      · refine ⟨1000 - (i + 1), by omega, i + 1, rfl, by omega, .inr (by omega), next (by rw [show atB o s i = false from h2, Bool.false_and]), ?_⟩
        rw [e1]
  · have h1 : ¬ (i : Int) < (o.data.toList.length : Int) - (s.data.toList.length : Int) - 1 := by simpa using h1
    refine ⟨_, _, rfl, ?_, rfl⟩
    have : o.data.toList.length - s.data.toList.length - 1 - i = 0 := by omega
    rw [this] at he
    simp only [opGo] at he
    rw [← he]
end
end Go.Proofs.YtfbppkjjdbkedaaGreatDoor.Ref
