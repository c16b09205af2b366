/-
  Walks: syntax trees: leaves.
-/
import Derived.Test.YtfbppkjjdbkedaaGreatDoorVc
namespace Go.Proofs.YtfbppkjjdbkedaaGreatDoor.Ref
noncomputable section
open Go
set_option linter.unusedVariables false
set_option linter.unusedSimpArgs false
set_option maxRecDepth 100000
/-- Syntax trees. -/
inductive Syn where
  | mk (kind text : ByteArray) (int : Int) (kids : List Syn)
def Syn.kind : Syn → ByteArray
  | .mk k _ _ _ => k
def Syn.text : Syn → ByteArray
  | .mk _ t _ _ => t
def Syn.int : Syn → Int
  | .mk _ _ n _ => n
def Syn.kids : Syn → List Syn
  | .mk _ _ _ l => l
mutual
def eSyn : Syn → D
  | .mk k t n l => .agg [T k, T t, I n, .row false 4 (eSyns l)]
def eSyns : List Syn → List D
  | [] => []
  | x :: l => eSyn x :: eSyns l
end
theorem eSyns_map : ∀ l : List Syn, eSyns l = l.map eSyn
  | [] => rfl
  | x :: l => by simp only [eSyns, List.map_cons, eSyns_map l]
theorem eSyns_len (l : List Syn) : (eSyns l).length = l.length := by rw [eSyns_map]; simp
def noKids (l : List Syn) : Bool := (((eSyns l).length : Int) == 0)
def bareM (x : Syn) (t n : Bool) : Bool := (t || eqB x.text ⟨#[]⟩) && (n || (x.int == 0))
theorem ce_bare (k t : ByteArray) (n : Int) (l : List Syn) (a b : Bool) : CE X 126 [eSyn (.mk k t n l), B a, B b] [] (.ret (B (bareM (.mk k t n l) a b))) [] := by
  refine ce_code hX hF (H := Hs 126) (fn := Tryz.f126) rfl rfl ?_
  refine bs (fun h1 => ?_) (fun h1 => ?_)
  · refine bs (fun h2 => ?_) (fun h2 => ?_)
    · exact ⟨_, _, rfl, by simp [bareM, Syn.text, Syn.int, *] <;> rfl, rfl⟩
    · exact ⟨_, _, rfl, by simp [bareM, Syn.text, Syn.int, *] <;> rfl, rfl⟩
  · refine bs (fun h3 => ?_) (fun h3 => ?_)
    · refine bs (fun h4 => ?_) (fun h4 => ?_)
      · exact ⟨_, _, rfl, by simp [bareM, Syn.text, Syn.int, *] <;> rfl, rfl⟩
      · exact ⟨_, _, rfl, by simp [bareM, Syn.text, Syn.int, *] <;> rfl, rfl⟩
    · exact ⟨_, _, rfl, by simp [bareM, Syn.text, Syn.int, *] <;> rfl, rfl⟩
def isVarM (x : Syn) : Bool := eqB x.kind ⟨#[118, 97, 114]⟩ && wordL x.text.data.toList 65 90 && (x.int == 0) && noKids x.kids
theorem ce_isVar (k t : ByteArray) (n : Int) (l : List Syn) : CE X 129 [eSyn (.mk k t n l)] [] (.ret (B (isVarM (.mk k t n l)))) [] := by
  refine ce_code hX hF (H := Hs 129) (fn := Tryz.f129) rfl rfl ?_
  refine bs (fun h5 => ?_) (fun h5 => ?_)
  · refine ⟨_, _, ce_Word t 65 90, ?_⟩
    refine bs (fun h6 => ?_) (fun h6 => ?_)
    · refine bs (fun h7 => ?_) (fun h7 => ?_)
      · exact ⟨_, _, rfl, by simp [isVarM, Syn.kind, Syn.text, Syn.int, Syn.kids, noKids, *] <;> rfl, rfl⟩
      · exact ⟨_, _, rfl, by simp [isVarM, Syn.kind, Syn.text, Syn.int, Syn.kids, noKids, *] <;> rfl, rfl⟩
    · exact ⟨_, _, rfl, by simp [isVarM, Syn.kind, Syn.text, Syn.int, Syn.kids, noKids, *] <;> rfl, rfl⟩
  · exact ⟨_, _, rfl, by simp [isVarM, Syn.kind, Syn.text, Syn.int, Syn.kids, noKids, *] <;> rfl, rfl⟩
def isParamM (x : Syn) : Bool := isVarM x || eqB x.kind ⟨#[97, 110, 121]⟩ && bareM x false false && noKids x.kids
theorem ce_isParam (k t : ByteArray) (n : Int) (l : List Syn) : CE X 124 [eSyn (.mk k t n l)] [] (.ret (B (isParamM (.mk k t n l)))) [] := by
  refine ce_code hX hF (H := Hs 124) (fn := Tryz.f124) rfl rfl ?_
  refine ⟨_, _, ce_isVar k t n l, ?_⟩
  refine bs (fun h8 => ?_) (fun h8 => ?_)
  · exact ⟨_, _, rfl, by simp [isParamM, Syn.kind, Syn.text, Syn.int, Syn.kids, noKids, *] <;> rfl, rfl⟩
  · refine bs (fun h9 => ?_) (fun h9 => ?_)
    · refine ⟨_, _, ce_bare k t n l false false, ?_⟩
      refine bs (fun h10 => ?_) (fun h10 => ?_)
      · exact ⟨_, _, rfl, by simp [isParamM, Syn.kind, Syn.text, Syn.int, Syn.kids, noKids, *] <;> rfl, rfl⟩
      · exact ⟨_, _, rfl, by simp [isParamM, Syn.kind, Syn.text, Syn.int, Syn.kids, noKids, *] <;> rfl, rfl⟩
    · exact ⟨_, _, rfl, by simp [isParamM, Syn.kind, Syn.text, Syn.int, Syn.kids, noKids, *] <;> rfl, rfl⟩
def bareR (x : Syn) (t n k : Bool) : Bool := (t || eqB x.text ⟨#[]⟩) && (n || (x.int == 0)) && (k || noKids x.kids)
theorem ce_Rbare (k t : ByteArray) (n : Int) (l : List Syn) (a b c : Bool) : CE X 82 [eSyn (.mk k t n l), B a, B b, B c] [] (.ret (B (bareR (.mk k t n l) a b c))) [] := by
  refine ce_code hX hF (H := Hs 82) (fn := Tryz.f82) rfl rfl ?_
  refine bs (fun h11 => ?_) (fun h11 => ?_)
  · refine bs (fun h12 => ?_) (fun h12 => ?_)
    · refine bs (fun h13 => ?_) (fun h13 => ?_)
      · exact ⟨_, _, rfl, by simp [bareR, Syn.text, Syn.int, Syn.kids, noKids, *] <;> rfl, rfl⟩
      · exact ⟨_, _, rfl, by simp [bareR, Syn.text, Syn.int, Syn.kids, noKids, *] <;> rfl, rfl⟩
    · refine bs (fun h14 => ?_) (fun h14 => ?_)
      · refine bs (fun h15 => ?_) (fun h15 => ?_)
        · exact ⟨_, _, rfl, by simp [bareR, Syn.text, Syn.int, Syn.kids, noKids, *] <;> rfl, rfl⟩
        · exact ⟨_, _, rfl, by simp [bareR, Syn.text, Syn.int, Syn.kids, noKids, *] <;> rfl, rfl⟩
      · exact ⟨_, _, rfl, by simp [bareR, Syn.text, Syn.int, Syn.kids, noKids, *] <;> rfl, rfl⟩
  · refine bs (fun h16 => ?_) (fun h16 => ?_)
    · refine bs (fun h17 => ?_) (fun h17 => ?_)
      · refine bs (fun h18 => ?_) (fun h18 => ?_)
        · exact ⟨_, _, rfl, by simp [bareR, Syn.text, Syn.int, Syn.kids, noKids, *] <;> rfl, rfl⟩
        · exact ⟨_, _, rfl, by simp [bareR, Syn.text, Syn.int, Syn.kids, noKids, *] <;> rfl, rfl⟩
      · refine bs (fun h19 => ?_) (fun h19 => ?_)
        · refine bs (fun h20 => ?_) (fun h20 => ?_)
          · exact ⟨_, _, rfl, by simp [bareR, Syn.text, Syn.int, Syn.kids, noKids, *] <;> rfl, rfl⟩
          · exact ⟨_, _, rfl, by simp [bareR, Syn.text, Syn.int, Syn.kids, noKids, *] <;> rfl, rfl⟩
        · exact ⟨_, _, rfl, by simp [bareR, Syn.text, Syn.int, Syn.kids, noKids, *] <;> rfl, rfl⟩
    · exact ⟨_, _, rfl, by simp [bareR, Syn.text, Syn.int, Syn.kids, noKids, *] <;> rfl, rfl⟩
def simpleM (x : Syn) : Bool := if eqB x.kind ⟨#[118, 97, 114]⟩ = true then bareR x true false false && wordL x.text.data.toList 65 90 else if eqB x.kind ⟨#[97, 110, 121]⟩ = true then bareR x false false false else if eqB x.kind ⟨#[105, 110, 116]⟩ = true then bareR x false true false && decide (x.int ≥ -1099511627776) && decide (x.int ≤ 1099511627776) else if eqB x.kind ⟨#[97, 116, 111, 109]⟩ = true then bareR x true false false && atomB x.text else false
theorem ce_Rsimple (k t : ByteArray) (n : Int) (l : List Syn) : CE X 84 [eSyn (.mk k t n l)] [] (.ret (B (simpleM (.mk k t n l)))) [] := by
  refine ce_code hX hF (H := Hs 84) (fn := Tryz.f84) rfl rfl ?_
  refine bs (fun h21 => ?_) (fun h21 => ?_)
  · refine ⟨_, _, ce_Rbare k t n l true false false, ?_⟩
    refine bs (fun h22 => ?_) (fun h22 => ?_)
    · refine ⟨_, _, ce_IsIdent t, ?_⟩
      exact ⟨_, _, rfl, by simp [simpleM, Syn.kind, Syn.text, Syn.int, *] <;> rfl, rfl⟩
    · exact ⟨_, _, rfl, by simp [simpleM, Syn.kind, Syn.text, Syn.int, *] <;> rfl, rfl⟩
  · refine bs (fun h23 => ?_) (fun h23 => ?_)
    · refine ⟨_, _, ce_Rbare k t n l false false false, ?_⟩
      exact ⟨_, _, rfl, by simp [simpleM, Syn.kind, Syn.text, Syn.int, *] <;> rfl, rfl⟩
    · refine bs (fun h24 => ?_) (fun h24 => ?_)
      · refine ⟨_, _, ce_Rbare k t n l false true false, ?_⟩
        refine bs (fun h25 => ?_) (fun h25 => ?_)
        · refine bs (fun h26 => ?_) (fun h26 => ?_)
          · exact ⟨_, _, rfl, by simp [simpleM, Syn.kind, Syn.text, Syn.int, *] <;> rfl, rfl⟩
          · exact ⟨_, _, rfl, by simp [simpleM, Syn.kind, Syn.text, Syn.int, *] <;> rfl, rfl⟩
        · exact ⟨_, _, rfl, by simp [simpleM, Syn.kind, Syn.text, Syn.int, *] <;> rfl, rfl⟩
      · refine bs (fun h27 => ?_) (fun h27 => ?_)
        · refine ⟨_, _, ce_Rbare k t n l true false false, ?_⟩
          refine bs (fun h28 => ?_) (fun h28 => ?_)
          · refine ⟨_, _, ce_IsAtom t, ?_⟩
            exact ⟨_, _, rfl, by simp [simpleM, Syn.kind, Syn.text, Syn.int, *] <;> rfl, rfl⟩
          · exact ⟨_, _, rfl, by simp [simpleM, Syn.kind, Syn.text, Syn.int, *] <;> rfl, rfl⟩
        · exact ⟨_, _, rfl, by simp [simpleM, Syn.kind, Syn.text, Syn.int, *] <;> rfl, rfl⟩
end
end Go.Proofs.YtfbppkjjdbkedaaGreatDoor.Ref
