/-
  Runs of bytes, membership in lists of strings, keywords, atoms, words and quoted atoms: the program's functions come to their plain meaning.
-/
import Derived.Test.YtakcnogmljbaiaaDoorQb
set_option linter.unusedVariables false
set_option linter.unusedSimpArgs false
namespace Go.Proofs.YtakcnogmljbaiaaDoor.Q
open Go.RowKit Go.Proofs.YtakcnogmljbaiaaDoorW.PrintWords Go.Proofs.YtakcnogmljbaiaaDoor.PLex

theorem run_loop (ks : List Int) (p : UInt8 → Bool) (hp : ∀ c, Evt (fun k => slices_Contains_int_int.f k ks (kindS c)) (p c)) (l : List UInt8) (hl : l.length < 4611686018427387904) : ∀ (d i : Nat), i + d = l.length →
    Evt (fun k => lex_run.l0 k (B l) ks (l.length : Int) (i : Int)) ((i + ((l.drop i).takeWhile p).length : Nat) : Int) := by
  intro d
  induction d with
  | zero =>
    intro i hi
    apply Evt.succ
    simp only [lex_run.l0]
    refine Evt.neg (by omega) ?_
    rw [List.drop_eq_nil_of_le (by omega), size_B]
    have : i = l.length := by omega
    subst this
    exact Evt.pure _
  | succ d ih =>
    intro i hi
    have hlt : i < l.length := by omega
    apply Evt.succ
    simp only [lex_run.l0]
    refine Evt.pos (by omega) (Evt.pos (by omega) (Evt.pos (by rw [size_B]; omega) ?_))
    rw [bt_B l i hlt, w64s i (by omega)]
    refine Evt.bind (kind_e _) (Evt.bind (hp _) ?_)
    rw [drop_cons hlt]
    cases hpc : p l[i] with
    | true =>
      refine Evt.pos rfl ?_
      rw [List.takeWhile_cons_of_pos hpc, List.length_cons]
      have e : i + (((l.drop (i + 1)).takeWhile p).length + 1) = i + 1 + ((l.drop (i + 1)).takeWhile p).length := by omega
      rw [e]; exact ih (i + 1) (by omega)
    | false =>
      refine Evt.neg (by simp) ?_
      rw [List.takeWhile_cons_of_neg (by simp [hpc])]
      exact Evt.pure _
theorem run_e (ks : List Int) (p : UInt8 → Bool) (hp : ∀ c, Evt (fun k => slices_Contains_int_int.f k ks (kindS c)) (p c)) (l : List UInt8) (hl : l.length < 4611686018427387904) :
    Evt (fun k => lex_run.f k (B l) ks) (((l.takeWhile p).length : Nat) : Int) := by
  have := run_loop ks p hp l hl l.length 0 (by omega)
  simpa [lex_run.f, size_B] using this
theorem dig_in (c : UInt8) : Evt (fun k => slices_Contains_int_int.f k [2] (kindS c)) (isDig c) := by
  have h := all_bytes (p := fun n => decide (slices_Contains_int_int.f 8 [2] (kindS (UInt8.ofNat n)) = some (isDig (UInt8.ofNat n)))) (by decide +kernel) c
  have := of_decide_eq_true h
  rw [ofNat_toNat] at this
  exact Evt.of_mono (fun k => slices_Contains_int_int.mono _ _ k) this
theorem let_in (c : UInt8) : Evt (fun k => slices_Contains_int_int.f k [2, 3, 4, 5] (kindS c)) (isLet c) := by
  have h := all_bytes (p := fun n => decide (slices_Contains_int_int.f 8 [2, 3, 4, 5] (kindS (UInt8.ofNat n)) = some (isLet (UInt8.ofNat n)))) (by decide +kernel) c
  have := of_decide_eq_true h
  rw [ofNat_toNat] at this
  exact Evt.of_mono (fun k => slices_Contains_int_int.mono _ _ k) this

/-! Membership in a list of strings. -/
theorem index_loop (xs : List ByteArray) (x : ByteArray) (hl : xs.length < 4611686018427387904) : ∀ (d i : Nat), i + d = xs.length →
    ∃ r, Evt (fun k => slices_Index_string_string.l0 k xs x (xs.length : Int) (i : Int)) r ∧ (0 ≤ r ↔ x ∈ xs.drop i) := by
  intro d
  induction d with
  | zero =>
    intro i hi
    refine ⟨-1, ?_, ?_⟩
    · apply Evt.succ
      simp only [slices_Index_string_string.l0]
      exact Evt.neg (by omega) (Evt.pure _)
    · rw [List.drop_eq_nil_of_le (by omega)]; simp
  | succ d ih =>
    intro i hi
    have hlt : i < xs.length := by omega
    have hrd : rdOf ByteArray.empty xs (i : Int) = xs[i] := by simp [rdOf, List.getD_eq_getElem?_getD, hlt]
    by_cases he : x = xs[i]
    · refine ⟨i, ?_, ?_⟩
      · apply Evt.succ
        simp only [slices_Index_string_string.l0]
        exact Evt.pos (by omega) (Evt.pos (by omega) (Evt.pos (by omega) (Evt.pos (by rw [hrd, ← he]) (Evt.pure _))))
      · rw [List.drop_eq_getElem_cons hlt]; exact ⟨fun _ => he ▸ List.mem_cons_self, fun _ => by omega⟩
    · obtain ⟨r, hr, hm⟩ := ih (i + 1) (by omega)
      refine ⟨r, ?_, ?_⟩
      · apply Evt.succ
        simp only [slices_Index_string_string.l0]
        refine Evt.pos (by omega) (Evt.pos (by omega) (Evt.pos (by omega) (Evt.neg ?_ ?_)))
        · rw [hrd, toList_L, toList_L]; exact fun h => he (ext_L h)
        · rw [w64s i (by omega)]; exact hr
      · rw [hm, List.drop_eq_getElem_cons hlt, List.mem_cons]; exact ⟨Or.inr, fun h => h.resolve_left he⟩
theorem contains_e (xs : List ByteArray) (x : ByteArray) (hl : xs.length < 4611686018427387904) (b : Bool) (hb : x ∈ xs ↔ b = true) : Evt (fun k => slices_Contains_string_string.f k xs x) b := by
  obtain ⟨r, hr, hm⟩ := index_loop xs x hl xs.length 0 (by omega)
  unfold slices_Contains_string_string.f slices_Index_string_string.f
  refine Evt.bind hr ?_
  rw [List.drop_zero] at hm
  have : decide (r ≥ 0) = b := by
    rw [Bool.eq_iff_iff, decide_eq_true_iff]
    exact hm.trans hb
  rw [this]
  exact Evt.pure _
theorem mem_B {l : List UInt8} {xs : List (List UInt8)} : B l ∈ xs.map B ↔ l ∈ xs := by
  constructor
  · intro h
    obtain ⟨m, hm, e⟩ := List.mem_map.1 h
    rwa [← B_inj e]
  · exact fun h => List.mem_map_of_mem h

def kwL : List (List UInt8) := [[115, 107, 105, 112], [108, 111, 99, 97, 108], [105, 110], [101, 110, 100], [105, 102], [116, 104, 101, 110], [101, 108, 115, 101], [99, 97, 115, 101], [111, 102], [112, 114, 111, 99], [102, 117, 110], [116, 104, 114, 101, 97, 100], [116, 114, 121], [99, 97, 116, 99, 104], [114, 97, 105, 115, 101], [108, 97, 122, 121], [99, 104, 111, 111, 115, 101]]
theorem keywords_f : lex_keywords.f = some (kwL.map B) := rfl
theorem keyword_e (l : List UInt8) : Evt (fun k => lex_Keyword.f k (B l)) (decide (l ∈ kwL)) := by
  unfold lex_Keyword.f
  refine Evt.bind (Evt.const keywords_f) (Evt.bind (contains_e _ _ (by simp [kwL]) (decide (l ∈ kwL)) (by rw [decide_eq_true_iff]; exact mem_B)) (Evt.pure _))

/-- The word that a text begins with: its kind, its bytes. -/
def wordS (l : List UInt8) : Option (Int × List UInt8 × Nat) :=
  let t := l.takeWhile isLet
  if t.length > 16 then none else some (if (l.head?.map isUp).getD false then 3 else if t ∈ kwL then 4 else 2, t, t.length)
theorem takeWhile_take {p : UInt8 → Bool} (l : List UInt8) : l.take (l.takeWhile p).length = l.takeWhile p := by
  induction l with
  | nil => rfl
  | cons c r ih =>
    by_cases h : p c = true
    · rw [List.takeWhile_cons_of_pos h, List.length_cons, List.take_succ_cons, ih]
    · rw [List.takeWhile_cons_of_neg h]; rfl
theorem takeWhile_le {p : UInt8 → Bool} (l : List UInt8) : (l.takeWhile p).length ≤ l.length := by
  induction l with
  | nil => simp
  | cons c r ih =>
    by_cases h : p c = true
    · rw [List.takeWhile_cons_of_pos h]; simp; exact ih
    · rw [List.takeWhile_cons_of_neg h]; simp
theorem up_kind (c : UInt8) (h : kindS c = 4) : isUp c = true := by
  have := all_bytes (p := fun n => decide (kindS (UInt8.ofNat n) = 4 → isUp (UInt8.ofNat n) = true)) (by decide +kernel) c
  have := of_decide_eq_true this
  rw [ofNat_toNat] at this
  exact this h
theorem kind_up (c : UInt8) (h : isUp c = true) : kindS c = 4 := by
  have := all_bytes (p := fun n => decide (isUp (UInt8.ofNat n) = true → kindS (UInt8.ofNat n) = 4)) (by decide +kernel) c
  have := of_decide_eq_true this
  rw [ofNat_toNat] at this
  exact this h
/-- A token as the program hands it back: kind, bytes, place 0, length. -/
def tk (o : Option (Int × List UInt8 × Nat)) : Int × ByteArray × Int × Int :=
  match o with
  | some (k, t, n) => (k, B t, 0, n)
  | none => (0, (⟨#[]⟩ : ByteArray), 0, 0)
theorem word_e (c : UInt8) (r : List UInt8) (hl : (c :: r).length < 4611686018427387904) : Evt (fun k => lex_word.f k (B (c :: r))) (tk (wordS (c :: r))) := by
  unfold lex_word.f
  have hn := takeWhile_le (p := isLet) (c :: r)
  refine Evt.bind (run_e _ isLet let_in _ hl) (Evt.pos (by omega) (Evt.pos (by rw [size_B]; omega) ?_))
  have ht : (B (c :: r)).extract 0 ((((c :: r).takeWhile isLet).length : Nat) : Int).toNat = B ((c :: r).takeWhile isLet) := by
    rw [extract_B, Int.toNat_natCast, List.drop_zero, Nat.sub_zero, takeWhile_take]
  rw [ht]
  by_cases h16 : ((c :: r).takeWhile isLet).length > 16
  · refine Evt.pos (by omega) ?_
    simp only [wordS, h16, if_true, tk]
    exact Evt.pure _
  · refine Evt.neg (by omega) (Evt.pos (by rw [size_B]; simp) ?_)
    rw [bt_cons]
    refine Evt.bind (kind_e c) ?_
    simp only [wordS, h16, if_false, tk, List.head?_cons, Option.map_some, Option.getD_some]
    by_cases hu : isUp c = true
    · simp only [hu, if_true]
      exact Evt.pos (kind_up c hu) (Evt.pure _)
    · simp only [hu, if_false]
      refine Evt.neg (fun h => hu (up_kind c h)) (Evt.bind (keyword_e _) ?_)
      by_cases hk : (c :: r).takeWhile isLet ∈ kwL
      · simp only [hk, if_true]
        exact Evt.pos (by simp) (Evt.pure _)
      · simp only [hk, if_false]
        exact Evt.neg (by simp) (Evt.pure _)

/-! Atoms. -/
theorem letter_f (c : UInt8) : tree_letter.f (c.toNat : Int) = some (isLet c) := by
  have h := all_bytes (p := fun n => decide (tree_letter.f (n : Int) = some (isLet (UInt8.ofNat n)))) (by decide +kernel) c
  have := of_decide_eq_true h
  rwa [ofNat_toNat] at this
theorem letters_loop (l : List UInt8) (hl : l.length < 4611686018427387904) : ∀ (d i : Nat), i + d = l.length →
    Evt (fun k => tree_Word.l0 k (B l) (l.length : Int) (i : Int)) ((l.drop i).all isLet) := by
  intro d
  induction d with
  | zero =>
    intro i hi
    apply Evt.succ
    simp only [tree_Word.l0]
    rw [List.drop_eq_nil_of_le (by omega)]
    exact Evt.neg (by omega) (Evt.pure _)
  | succ d ih =>
    intro i hi
    have hlt : i < l.length := by omega
    apply Evt.succ
    simp only [tree_Word.l0]
    refine Evt.pos (by omega) (Evt.pos (by omega) (Evt.pos (by rw [size_B]; omega) ?_))
    rw [bt_B l i hlt, w64s i (by omega)]
    refine Evt.bind (Evt.const (letter_f _)) ?_
    rw [drop_cons hlt, List.all_cons]
    cases hpc : isLet l[i] with
    | true => exact Evt.pos rfl (by simpa using ih (i + 1) (by omega))
    | false => exact Evt.neg (by simp) (Evt.pure _)
/-- A word of 1 to 16 letters. -/
def isWord (l : List UInt8) : Bool := decide (1 ≤ l.length) && decide (l.length ≤ 16) && l.all isLet
def headIs (p : UInt8 → Bool) (l : List UInt8) : Bool := (l.head?.map p).getD false
def isAtomL (l : List UInt8) : Bool := l == [124] || l == [35] || (isWord l && headIs isLow l)
def isIdL (l : List UInt8) : Bool := isWord l && headIs isUp l
theorem Word_e (l : List UInt8) (a b : Nat) :
    Evt (fun k => tree_Word.f k (B l) (a : Int) (b : Int)) (isWord l && headIs (fun c => decide (a ≤ c.toNat) && decide (c.toNat ≤ b)) l) := by
  unfold tree_Word.f
  have no : ∀ r : Bool, r = false → Evt (fun k => tree_Word.j0 k (B l) true) r := by
    intro r hr
    subst hr
    apply Evt.succ
    simp only [tree_Word.j0]
    exact Evt.pos trivial (Evt.pure _)
  by_cases h1 : l.length < 1
  · refine Evt.pos (by rw [size_B]; omega) (no _ ?_)
    have : l = [] := List.length_eq_zero_iff.1 (by omega)
    subst this
    rfl
  · refine Evt.neg (by rw [size_B]; omega) ?_
    by_cases h2 : l.length > 16
    · refine Evt.pos (by rw [size_B]; omega) (no _ ?_)
      have : ¬ l.length ≤ 16 := by omega
      simp [isWord, this]
    · refine Evt.neg (by rw [size_B]; omega) (Evt.pos (by rw [size_B]; omega) ?_)
      obtain ⟨c, r, rfl⟩ : ∃ c r, l = c :: r := by
        cases l with
        | nil => simp at h1
        | cons c r => exact ⟨c, r, rfl⟩
      rw [bt_cons]
      have hlen : isWord (c :: r) = (c :: r).all isLet := by
        have a1 : 1 ≤ (c :: r).length := by simp
        have a2 : (c :: r).length ≤ 16 := by omega
        unfold isWord
        rw [decide_eq_true a1, decide_eq_true a2, Bool.true_and, Bool.true_and]
      rw [hlen]
      have hh : ∀ p, headIs p (c :: r) = p c := fun p => rfl
      rw [hh]
      by_cases h3 : (c.toNat : Int) < a
      · refine Evt.pos h3 (no _ ?_)
        have : ¬ a ≤ c.toNat := by omega
        simp [this]
      · refine Evt.neg h3 ?_
        have h3' : a ≤ c.toNat := by omega
        by_cases h4 : (c.toNat : Int) > b
        · rw [decide_eq_true h4]
          refine no _ ?_
          have : ¬ c.toNat ≤ b := by omega
          simp [this]
        · rw [decide_eq_false h4]
          apply Evt.succ
          simp only [tree_Word.j0]
          refine Evt.neg (by simp) ?_
          have h4' : c.toNat ≤ b := by omega
          have := letters_loop (c :: r) (by omega) (c :: r).length 0 (by omega)
          simp only [h3', h4', decide_true, Bool.and_self, Bool.and_true]
          rw [size_B]
          simpa using this
theorem Atom_e (l : List UInt8) : Evt (fun k => tree_Atom.f k (B l)) (isAtomL l) := by
  unfold tree_Atom.f
  rw [toList_B]
  by_cases h1 : l = [124]
  · exact Evt.pos h1 (by subst h1; exact Evt.pure _)
  · refine Evt.neg h1 ?_
    by_cases h2 : l = [35]
    · exact Evt.pos h2 (by subst h2; exact Evt.pure _)
    · refine Evt.neg h2 (Evt.bind (Word_e l 97 122) ?_)
      have e : (isWord l && headIs (fun c => decide (97 ≤ c.toNat) && decide (c.toNat ≤ 122)) l) = isAtomL l := by
        have b1 : (l == [124]) = false := by simpa using h1
        have b2 : (l == [35]) = false := by simpa using h2
        simp only [isAtomL, b1, b2, Bool.false_or]
        rfl
      rw [e]
      exact Evt.pure _

/-- The quoted atom that a text begins with (its first byte, the quote, is gone). -/
def quotedS (r : List UInt8) : Option (Int × List UInt8 × Nat) :=
  let t := r.takeWhile (fun c => c != 39)
  if t.length < r.length ∧ isAtomL t = true then some (2, t, t.length + 2) else none
theorem indexByte_tw (r : List UInt8) : Lib.indexByte r 39 = if (r.takeWhile (fun c => c != 39)).length < r.length then (((r.takeWhile (fun c => c != 39)).length : Nat) : Int) else -1 := by
  induction r with
  | nil => rfl
  | cons c r ih =>
    simp only [Lib.indexByte]
    by_cases h : c = 39
    · subst h; simp
    · have h1 : (c == 39) = false := by simpa using h
      have h2 : (c != 39) = true := by simpa using h
      rw [List.takeWhile_cons_of_pos (p := fun c => c != 39) h2, ih, h1]
      simp only [List.length_cons]
      by_cases h3 : (r.takeWhile (fun c => c != 39)).length < r.length
      · have h4 : ((((r.takeWhile (fun c => c != 39)).length : Nat) : Int) == -1) = false := by rw [beq_eq_false_iff_ne]; omega
        have h5 : (r.takeWhile (fun c => c != 39)).length + 1 < r.length + 1 := by omega
        simp only [h3, if_true, h4, h5, Bool.false_eq_true, if_false]
        omega
      · have h5 : ¬ (r.takeWhile (fun c => c != 39)).length + 1 < r.length + 1 := by omega
        simp only [h3, h5, if_false]
        rfl
theorem quoted_e (r : List UInt8) (c : UInt8) (hl : (c :: r).length < 4611686018427387904) : Evt (fun k => lex_quoted.f k (B (c :: r))) (tk (quotedS r)) := by
  unfold lex_quoted.f
  refine Evt.pos (by rw [size_B]; simp; omega) ?_
  have h1 : (B (c :: r)).extract 1 (B (c :: r)).size = B r := by
    rw [extract_B, size_B]
    simp
  rw [h1]
  refine Evt.bind (Evt.const (show strings_IndexByte.f (B r) 39 = some (Lib.indexByte r 39) from rfl)) ?_
  rw [indexByte_tw]
  have hle := takeWhile_le (p := fun c => c != 39) r
  simp only [List.length_cons] at hl
  by_cases h3 : (r.takeWhile (fun c => c != 39)).length < r.length
  · rw [if_pos h3]
    refine Evt.neg (by omega) ?_
    have hw : wrap64 (((((r.takeWhile (fun c => c != 39)).length : Nat) : Int)) + 1) = (((r.takeWhile (fun c => c != 39)).length + 1 : Nat) : Int) := w64s _ (by omega)
    have hw2 : wrap64 (((((r.takeWhile (fun c => c != 39)).length : Nat) : Int)) + 2) = (((r.takeWhile (fun c => c != 39)).length + 2 : Nat) : Int) := by rw [w64 (by omega) (by omega)]; omega
    rw [hw, hw2]
    refine Evt.pos (by omega) (Evt.pos (by rw [size_B]; simp only [List.length_cons]; omega) ?_)
    have he : (B (c :: r)).extract 1 (((r.takeWhile (fun c => c != 39)).length + 1 : Nat) : Int).toNat = B (r.takeWhile (fun c => c != 39)) := by
      rw [extract_B, Int.toNat_natCast, Nat.add_sub_cancel, List.drop_succ_cons, List.drop_zero, takeWhile_take]
    rw [he]
    refine Evt.bind (Atom_e _) ?_
    by_cases h4 : isAtomL (r.takeWhile (fun c => c != 39)) = true
    · have hq : quotedS r = some (2, r.takeWhile (fun c => c != 39), (r.takeWhile (fun c => c != 39)).length + 2) := if_pos ⟨h3, h4⟩
      rw [hq]
      exact Evt.pos h4 (Evt.pure _)
    · have hq : quotedS r = none := if_neg (fun h => h4 h.2)
      rw [hq]
      exact Evt.neg h4 (Evt.pure _)
  · rw [if_neg h3]
    refine Evt.pos (by omega) ?_
    have hq : quotedS r = none := if_neg (fun h => h3 h.1)
    rw [hq]
    exact Evt.pure _
end Go.Proofs.YtakcnogmljbaiaaDoor.Q
