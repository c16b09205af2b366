/-
  Text of the program: words with blanks between them.
-/
import Derived.Test.YtakcnogmljbaiaaDoorQm
set_option linter.unusedVariables false
set_option linter.unusedSimpArgs false
namespace Go.Proofs.YtakcnogmljbaiaaDoor.Q
open Go.RowKit Go.Proofs.YtakcnogmljbaiaaDoorW.PrintWords Go.Proofs.YtakcnogmljbaiaaDoor.PLex

/-- Words with blanks between them. -/
def jb : List (List UInt8) → List UInt8
  | [] => []
  | x :: r => x ++ r.flatMap (fun y => 32 :: y)
def szS (xs : List (List UInt8)) : Nat := xs.foldr (fun w n => w.length + 1 + n) 0
theorem szS_cons (x : List UInt8) (r : List (List UInt8)) : szS (x :: r) = x.length + 1 + szS r := rfl
theorem szS_append (xs ys : List (List UInt8)) : szS (xs ++ ys) = szS xs + szS ys := by
  induction xs with
  | nil => simp [szS]
  | cons x r ih => rw [List.cons_append, szS_cons, szS_cons, ih]; omega
theorem szS_flat (r : List (List UInt8)) : (r.flatMap (fun y => (32 : UInt8) :: y)).length = szS r := by
  induction r with
  | nil => rfl
  | cons x r ih => rw [List.flatMap_cons, List.length_append, ih, szS_cons, List.length_cons]
theorem jb_len {xs : List (List UInt8)} (h : xs ≠ []) : (jb xs).length + 1 = szS xs := by
  cases xs with
  | nil => exact absurd rfl h
  | cons x r => rw [jb, List.length_append, szS_flat, szS_cons]; omega
theorem jb_snoc (x : List UInt8) (r : List (List UInt8)) (y : List UInt8) : jb (x :: r ++ [y]) = jb (x :: r) ++ 32 :: y := by
  rw [List.cons_append, jb, jb, List.flatMap_append, List.append_assoc]
  simp
theorem szS_le (xs : List (List UInt8)) (h : ∀ w ∈ xs, w.length ≤ 40) : szS xs ≤ 41 * xs.length := by
  induction xs with
  | nil => simp [szS]
  | cons x r ih =>
    have h1 := h x (List.mem_cons_self ..)
    have h2 := ih (fun w hw => h w (List.mem_cons_of_mem _ hw))
    rw [szS_cons, List.length_cons]; omega
theorem inter_jb (xs : List (List UInt8)) : ([32] : List UInt8).intercalate xs = jb xs := by
  cases xs with
  | nil => rfl
  | cons x r =>
    induction r generalizing x with
    | nil => simp [jb, List.intercalate]
    | cons y r ih =>
      have := ih y
      rw [jb] at this
      rw [jb, List.flatMap_cons, ← List.append_assoc, List.append_assoc]
      have e : ([32] : List UInt8).intercalate (x :: y :: r) = x ++ [32] ++ ([32] : List UInt8).intercalate (y :: r) := by
        simp [List.intercalate, List.intersperse]
      rw [e, this]
      simp

def okT (x : S32) : Bool := wrB x.f0 (L x.f1)
def putT (x : S32) : List UInt8 := putS x.f0 (L x.f1)
theorem putT_le {x : S32} (h : okT x = true) : 1 ≤ (putT x).length ∧ (putT x).length ≤ 40 := by
  have h : wrB x.f0 (L x.f1) = true := h
  unfold wrB at h
  rw [decide_eq_true_iff] at h
  exact ⟨List.length_pos_iff.2 h.1, h.2.1⟩
/-- Text. -/
def textF (l : List S32) : ByteArray × Int :=
  if l.all okT = true then
    if l.length > 1200 then ((⟨#[]⟩ : ByteArray), 3)
    else if (jb (l.map putT)).length > 4000 then ((⟨#[]⟩ : ByteArray), 3)
    else (B (jb (l.map putT)), 0)
  else ((⟨#[]⟩ : ByteArray), 2)
theorem textF_bad {l : List S32} {i : Nat} (hi : i < l.length) (h : ¬ okT l[i] = true) : textF l = ((⟨#[]⟩ : ByteArray), 2) := by
  unfold textF
  rw [if_neg]
  intro ha
  rw [List.all_eq_true] at ha
  exact h (ha _ (List.getElem_mem hi))
theorem rd_get {l : List S32} {i : Nat} (hi : i < l.length) : rd_T32 l (i : Int) = l[i] := by
  simp [rd_T32, List.getD_eq_getElem?_getD, List.getElem?_eq_getElem hi]
theorem ok_take {l : List S32} {i : Nat} (hi : i < l.length) (h : ∀ x ∈ l.take i, okT x = true) (ho : okT l[i] = true) : ∀ x ∈ l.take (i + 1), okT x = true := by
  intro x hx
  rw [List.take_succ_eq_append_getElem hi, List.mem_append, List.mem_singleton] at hx
  rcases hx with hx | hx
  · exact h x hx
  · rw [hx]; exact ho
theorem sz_take {l : List S32} {i : Nat} (h : ∀ x ∈ l.take i, okT x = true) : szS ((l.take i).map putT) ≤ 41 * i := by
  have h1 : ∀ w ∈ (l.take i).map putT, w.length ≤ 40 := by
    intro w hw
    obtain ⟨x, hx, rfl⟩ := List.mem_map.1 hw
    exact (putT_le (h x hx)).2
  have h2 := szS_le _ h1
  rw [List.length_map, List.length_take] at h2
  have : min i l.length ≤ i := Nat.min_le_left ..
  omega
theorem sz_succ {l : List S32} {i : Nat} (hi : i < l.length) : szS ((l.take (i + 1)).map putT) = szS ((l.take i).map putT) + ((putT l[i]).length + 1) := by
  rw [List.take_succ_eq_append_getElem hi, List.map_append, szS_append]
  rfl
theorem sz_mono (l : List S32) (i : Nat) : szS ((l.take i).map putT) ≤ szS (l.map putT) := by
  conv => rhs; rw [← List.take_append_drop i l, List.map_append, szS_append]
  omega
theorem join_f (l : List S32) (h1 : l.length ≤ 1200) (h2 : (jb (l.map putT)).length ≤ 4000) : strings_Join.f (l.map (fun x => B (putT x))) (⟨#[32]⟩ : ByteArray) = some (B (jb (l.map putT))) := by
  have e : Lib.join ((l.map (fun x => B (putT x))).map (·.data.toList)) (⟨#[32]⟩ : ByteArray).data.toList = jb (l.map putT) := by
    rw [← inter_jb, List.map_map]
    rfl
  unfold strings_Join.f
  rw [e, if_pos ⟨by rw [List.length_map]; omega, by omega⟩]
  rfl
theorem text_loop (l : List S32) (hl : l.length ≤ 8796093022208) (hs : ∀ x ∈ l, (L x.f1).length < 4611686018427387000) : ∀ (d i : Nat), i + d = l.length → (∀ x ∈ l.take i, okT x = true) →
    Evt (fun k => lex_Text.l0 k l ((l.take (min i 1200)).map (fun x => B (putT x))) (szS ((l.take i).map putT) : Nat) l (l.length : Int) (i : Int)) (textF l) := by
  intro d
  induction d with
  | zero =>
    intro i hi ha
    have hil : i = l.length := by omega
    subst hil
    rw [List.take_length] at *
    have hall : l.all okT = true := List.all_eq_true.2 ha
    have hz := sz_take (l := l) (i := l.length) (by rw [List.take_length]; exact ha)
    rw [List.take_length] at hz
    unfold textF
    rw [if_pos hall]
    apply Evt.succ
    simp only [lex_Text.l0]
    refine Evt.neg (by omega) ?_
    by_cases h12 : l.length > 1200
    · rw [if_pos h12]
      exact Evt.pos (by omega) (Evt.pure _)
    · rw [if_neg h12]
      refine Evt.neg (by omega) ?_
      have hw : wrap64 (((szS (l.map putT) : Nat) : Int) - 1) = ((szS (l.map putT) : Nat) : Int) - 1 := w64 (by omega) (by omega)
      rw [hw]
      have hj : (jb (l.map putT)).length > 4000 ↔ ((szS (l.map putT) : Nat) : Int) - 1 > 4000 := by
        by_cases hn : l = []
        · subst hn; simp [jb, szS]
        · have := jb_len (xs := l.map putT) (by simpa using hn)
          omega
      by_cases h4 : (jb (l.map putT)).length > 4000
      · rw [if_pos h4]
        exact Evt.pos (hj.1 h4) (Evt.pure _)
      · rw [if_neg h4]
        refine Evt.neg (fun h => h4 (hj.2 h)) ?_
        rw [show min l.length 1200 = l.length by omega, List.take_length]
        exact Evt.bind (Evt.const (join_f l (by omega) (by omega))) (Evt.pure _)
  | succ d ih =>
    intro i hi ha
    have hlt : i < l.length := by omega
    have hz := sz_take ha
    have hm := hs _ (List.getElem_mem hlt)
    obtain ⟨w, hw, hv⟩ := written_o (L l[i].f1) l[i].f0 l[i].f2 hm
    rw [B_L] at hw
    apply Evt.succ
    simp only [lex_Text.l0]
    rw [rd_get hlt]
    refine Evt.pos (by omega) (Evt.pos (by omega) (Evt.pos (by omega) (Evt.bind hw ?_)))
    have hiw : ∀ _ : Unit, wrap64 ((i : Int) + 1) = ((i + 1 : Nat) : Int) := fun _ => w64s i (by omega)
    by_cases ho : okT l[i] = true
    · have hp := putT_le ho
      have hwe : w = B (putT l[i]) := hv ho
      have h2 := ih (i + 1) (by omega) (ok_take hlt ha ho)
      have hsz : ∀ _ : Unit, wrap64 (((szS ((l.take i).map putT) : Nat) : Int) + wrap64 ((w.size : Int) + 1)) = ((szS ((l.take (i + 1)).map putT) : Nat) : Int) := by
        intro _
        rw [hwe, size_B, sz_succ hlt, w64 (n := (((putT l[i]).length : Nat) : Int) + 1) (by omega) (by omega), w64 (by omega) (by omega)]
        omega
      refine Evt.pos ho ?_
      show Evt (fun k => if (i : Int) < 1200 then (if ((l.take (min i 1200)).map (fun x => B (putT x))).length < 8796093022208 then (lex_Text.l0 k l ((l.take (min i 1200)).map (fun x => B (putT x)) ++ [w]) (wrap64 (((szS ((l.take i).map putT) : Nat) : Int) + wrap64 ((w.size : Int) + 1))) l (l.length : Int) (wrap64 ((i : Int) + 1))) else none) else (lex_Text.l0 k l ((l.take (min i 1200)).map (fun x => B (putT x))) (wrap64 (((szS ((l.take i).map putT) : Nat) : Int) + wrap64 ((w.size : Int) + 1))) l (l.length : Int) (wrap64 ((i : Int) + 1)))) (textF l)
      rw [hsz (), hiw ()]
      by_cases h12 : i < 1200
      · refine Evt.pos (by omega) (Evt.pos (by rw [List.length_map, List.length_take]; omega) ?_)
        rw [show min (i + 1) 1200 = i + 1 by omega, List.take_succ_eq_append_getElem hlt, List.map_append] at h2
        rw [show min i 1200 = i by omega, hwe]
        rw [List.take_succ_eq_append_getElem hlt]
        exact h2
      · refine Evt.neg (by omega) ?_
        rw [show min (i + 1) 1200 = 1200 by omega] at h2
        rw [show min i 1200 = 1200 by omega]
        exact h2
    · rw [textF_bad hlt ho]
      exact Evt.neg ho (Evt.pure _)
theorem text_e (l : List S32) (hl : l.length ≤ 8796093022208) (hs : ∀ x ∈ l, (L x.f1).length < 4611686018427387000) : Evt (fun k => lex_Text.f k l) (textF l) := by
  have := text_loop l hl hs l.length 0 (by omega) (by simp)
  exact this
end Go.Proofs.YtakcnogmljbaiaaDoor.Q
