/-
  The reference's Word and Text: as putS, wrB and textF say.
-/
import Derived.Test.YtakcnogmljbaiaaDoorQn
import Derived.Test.YtakcnogmljbaiaaDoorPLexx19
set_option linter.unusedVariables false
set_option linter.unusedSimpArgs false
namespace Go.Proofs.YtakcnogmljbaiaaDoor.Q
open Go.RowKit Go.Proofs.YtakcnogmljbaiaaDoorW.PrintWords Go.Proofs.YtakcnogmljbaiaaDoor.PLex

/-! The reference. -/
theorem rw_j4 (d : List UInt8) (neg : Bool) (b : Bool) (hs : d.length < 4611686018427387000) : ∃ w, Evt (fun k => leatworkref03_Word.j4 k neg (B d) b) (w, !b) ∧ (b = false → w = B (if neg then 126 :: d else d)) := by
  cases b with
  | true =>
    refine ⟨(⟨#[]⟩ : ByteArray), Evt.succ ?_, fun h => by cases h⟩
    · simp only [leatworkref03_Word.j4]
      exact Evt.pos trivial (Evt.pure _)
  | false =>
    refine ⟨B (if neg then 126 :: d else d), Evt.succ ?_, fun _ => rfl⟩
    simp only [leatworkref03_Word.j4]
    refine Evt.neg (by simp) ?_
    cases neg with
    | true =>
      have e2 : (⟨#[126]⟩ : ByteArray) ++ B d = B (126 :: d) := append_B [126] d
      rw [e2]
      exact Evt.pos rfl (Evt.pos (by rw [size_B]; omega) (Evt.pure _))
    | false => exact Evt.neg (by simp) (Evt.pure _)
theorem rw_loop (d : List UInt8) (neg : Bool) (h1 : 1 ≤ d.length) (h13 : d.length ≤ 13) : ∀ (m i : Nat), i + m = d.length → (d.take i).all isDig = true →
    ∃ w, Evt (fun k => leatworkref03_Word.l0 k neg (B d) (i : Int)) (w, decide (d.all isDig = true ∧ ¬ badInt neg d)) ∧ (d.all isDig = true ∧ ¬ badInt neg d → w = B (if neg then 126 :: d else d)) := by
  intro m
  induction m with
  | zero =>
    intro i hi ha
    rw [List.take_of_length_le (by omega)] at ha
    obtain ⟨c, r, rfl⟩ : ∃ c r, d = c :: r := by
      cases d with
      | nil => simp at h1
      | cons c r => exact ⟨c, r, rfl⟩
    have hD := Decimal_e (c :: r) ha h13
    -- the last question
    have last : ∀ b : Bool, (b = true ↔ badInt neg (c :: r)) → ∃ w, Evt (fun k => leatworkref03_Word.j4 k neg (B (c :: r)) b) (w, decide ((c :: r).all isDig = true ∧ ¬ badInt neg (c :: r))) ∧ ((c :: r).all isDig = true ∧ ¬ badInt neg (c :: r) → w = B (if neg then 126 :: (c :: r) else c :: r)) := by
      intro b hb
      obtain ⟨w, hw, hv⟩ := rw_j4 (c :: r) neg b (by omega)
      have e : (!b) = decide ((c :: r).all isDig = true ∧ ¬ badInt neg (c :: r)) := by
        apply Bool.eq_iff_iff.2
        rw [decide_eq_true_iff, ← hb]
        cases b <;> simp [ha]
      rw [e] at hw
      exact ⟨w, hw, fun h => hv (by cases b with | false => rfl | true => exact absurd (hb.1 rfl) h.2)⟩
    have bad1 : c.toNat = 48 → ((c :: r).length > 1 ∨ neg = true) → badInt neg (c :: r) := by
      intro h0 h
      refine .inr (.inl ⟨?_, h⟩)
      have : c = 48 := by apply UInt8.toNat_inj.1; rw [h0]; rfl
      rw [this]; rfl
    have badD : ¬ (c.toNat = 48 ∧ ((c :: r).length > 1 ∨ neg = true)) → (decide (((decV 0 (c :: r) : Nat) : Int) > 1099511627776) = true ↔ badInt neg (c :: r)) := by
      intro h0
      rw [decide_eq_true_iff]
      constructor
      · intro h; exact .inr (.inr (.inr (by omega)))
      · rintro (h | h | h | h)
        · cases h
        · exfalso
          apply h0
          have : c = 48 := by have := h.1; injection this
          rw [this]
          exact ⟨rfl, h.2⟩
        · omega
        · omega
    have go : ∀ b : Bool, (b = true ↔ badInt neg (c :: r)) → ∀ g : Nat → Option (ByteArray × Bool), (∀ v, Evt (fun k => leatworkref03_Word.j4 k neg (B (c :: r)) b) v → Evt (fun k => leatworkref03_Word.l0 k neg (B (c :: r)) (i : Int)) v) →
        ∃ w, Evt (fun k => leatworkref03_Word.l0 k neg (B (c :: r)) (i : Int)) (w, decide ((c :: r).all isDig = true ∧ ¬ badInt neg (c :: r))) ∧ ((c :: r).all isDig = true ∧ ¬ badInt neg (c :: r) → w = B (if neg then 126 :: (c :: r) else c :: r)) := by
      intro b hb g hg
      obtain ⟨w, hw, hv⟩ := last b hb
      exact ⟨w, hg _ hw, hv⟩
    by_cases h48 : c.toNat = 48
    · by_cases hb : (c :: r).length > 1 ∨ neg = true
      · refine go true ⟨fun _ => bad1 h48 hb, fun _ => rfl⟩ (fun _ => none) (fun v hv => Evt.succ ?_)
        simp only [leatworkref03_Word.l0]
        refine Evt.neg (by rw [size_B]; omega) (Evt.pos (by rw [size_B]; omega) ?_)
        rw [bt_cons]
        refine Evt.pos (by omega) ?_
        rcases Nat.lt_or_ge 1 (c :: r).length with h | h
        · exact Evt.pos (by rw [size_B]; omega) hv
        · exact Evt.neg (by rw [size_B]; omega) (Evt.pos (hb.resolve_left (by omega)) hv)
      · refine go _ (badD (fun h => hb h.2)) (fun _ => none) (fun v hv => Evt.succ ?_)
        simp only [leatworkref03_Word.l0]
        refine Evt.neg (by rw [size_B]; omega) (Evt.pos (by rw [size_B]; omega) ?_)
        rw [bt_cons]
        refine Evt.pos (by omega) (Evt.neg (by rw [size_B]; exact fun h => hb (.inl (by omega))) (Evt.neg (fun h => hb (.inr h)) ?_))
        exact Evt.bind hD hv
    · refine go _ (badD (fun h => h48 h.1)) (fun _ => none) (fun v hv => Evt.succ ?_)
      simp only [leatworkref03_Word.l0]
      refine Evt.neg (by rw [size_B]; omega) (Evt.pos (by rw [size_B]; omega) ?_)
      rw [bt_cons]
      exact Evt.neg (by omega) (Evt.bind hD hv)
  | succ m ih =>
    intro i hi ha
    have hlt : i < d.length := by omega
    have hdf : leatworkref03_digit.f (B d) (i : Int) = some (isDig d[i]) := by rw [digit_f, List.getElem?_eq_getElem hlt]; rfl
    by_cases hc : isDig d[i] = true
    · obtain ⟨w, hw, hv⟩ := ih (i + 1) (by omega) (by
        rw [List.take_succ_eq_append_getElem hlt, List.all_append, ha]
        simp [hc])
      refine ⟨w, Evt.succ ?_, hv⟩
      simp only [leatworkref03_Word.l0]
      refine Evt.pos (by rw [size_B]; omega) (Evt.bind (Evt.const hdf) ?_)
      rw [w64s i (by omega)]
      exact Evt.pos hc hw
    · have hno : ¬ d.all isDig = true := by
        intro h
        rw [List.all_eq_true] at h
        exact hc (h _ (List.getElem_mem hlt))
      rw [decide_eq_false (fun h => hno h.1)]
      refine ⟨(⟨#[]⟩ : ByteArray), Evt.succ ?_, fun h => absurd h.1 hno⟩
      · simp only [leatworkref03_Word.l0]
        refine Evt.pos (by rw [size_B]; omega) (Evt.bind (Evt.const hdf) ?_)
        exact Evt.neg hc (Evt.pure _)
theorem rw_j1 (d : List UInt8) (neg : Bool) (hs : d.length < 4611686018427387000) :
    ∃ w, Evt (fun k => leatworkref03_Word.j1 k neg (B d)) (w, decide (d.all isDig = true ∧ ¬ badInt neg d)) ∧ (d.all isDig = true ∧ ¬ badInt neg d → w = B (if neg then 126 :: d else d)) := by
  have no : badInt neg d → Evt (fun k => leatworkref03_Word.j2 k neg (B d) true) ((⟨#[]⟩ : ByteArray), decide (d.all isDig = true ∧ ¬ badInt neg d)) := by
    intro hb
    rw [decide_eq_false (fun h => h.2 hb)]
    apply Evt.succ
    simp only [leatworkref03_Word.j2]
    exact Evt.pos trivial (Evt.pure _)
  by_cases h1 : d.length < 1
  · have hb : badInt neg d := .inl (List.length_eq_zero_iff.1 (by omega))
    refine ⟨(⟨#[]⟩ : ByteArray), Evt.succ ?_, fun h => absurd hb h.2⟩
    · simp only [leatworkref03_Word.j1]
      exact Evt.pos (by rw [size_B]; omega) (no hb)
  · by_cases h13 : d.length > 13
    · have hb : badInt neg d := .inr (.inr (.inl h13))
      refine ⟨(⟨#[]⟩ : ByteArray), Evt.succ ?_, fun h => absurd hb h.2⟩
      · simp only [leatworkref03_Word.j1]
        refine Evt.neg (by rw [size_B]; omega) ?_
        rw [decide_eq_true (by rw [size_B]; omega)]
        exact no hb
    · obtain ⟨w, hw, hv⟩ := rw_loop d neg (by omega) (by omega) d.length 0 (by omega) (by simp)
      refine ⟨w, Evt.succ ?_, hv⟩
      simp only [leatworkref03_Word.j1]
      refine Evt.neg (by rw [size_B]; omega) ?_
      rw [decide_eq_false (by rw [size_B]; omega)]
      apply Evt.succ
      simp only [leatworkref03_Word.j2]
      exact Evt.neg (by simp) hw
theorem rWord_o (t : List UInt8) (kd a : Int) (hs : t.length < 4611686018427387000) : ∃ w, Evt (fun k => leatworkref03_Word.f k kd (B t) a) (w, wrB kd t) ∧ (wrB kd t = true → w = B (putS kd t)) := by
  by_cases h1 : kd = 1
  · subst h1
    by_cases hm : t.head? = some 45
    · obtain ⟨r, rfl⟩ : ∃ r, t = 45 :: r := by
        cases t with
        | nil => cases hm
        | cons c r => exact ⟨r, by injection hm with hm; rw [hm]⟩
      rw [List.length_cons] at hs
      obtain ⟨w, hw, hv⟩ := rw_j1 r true (by omega)
      have e : decide (r.all isDig = true ∧ ¬ badInt true r) = wrB 1 (45 :: r) := by
        apply Bool.eq_iff_iff.2
        rw [decide_eq_true_iff, wr_neg]
      rw [e] at hw
      refine ⟨w, ?_, fun h => by rw [putS_neg]; exact hv ((wr_neg r).1 h)⟩
      unfold leatworkref03_Word.f
      refine Evt.pos rfl (Evt.pos (by rw [size_B]; simp only [List.length_cons]; omega) (Evt.pos (by rw [size_B]; simp only [List.length_cons]; omega) ?_))
      rw [bt_cons]
      show Evt (fun k => leatworkref03_Word.j0 k true 1 (B (45 :: r)) a) _
      apply Evt.succ
      simp only [leatworkref03_Word.j0]
      have hx : (B (45 :: r)).extract 1 (B (45 :: r)).size = B r := by rw [extract_B, size_B]; simp
      rw [hx]
      exact Evt.pos trivial (Evt.pos (by rw [size_B]; simp only [List.length_cons]; omega) hw)
    · obtain ⟨w, hw, hv⟩ := rw_j1 t false hs
      have e : decide (t.all isDig = true ∧ ¬ badInt false t) = wrB 1 t := by
        apply Bool.eq_iff_iff.2
        rw [decide_eq_true_iff, wr_int hm]
      rw [e] at hw
      refine ⟨w, ?_, fun h => by rw [putS_self (fun h => hm h.2) (fun h => absurd h.1 (by decide))]; exact hv ((wr_int hm).1 h)⟩
      have z : Evt (fun k => leatworkref03_Word.j0 k false 1 (B t) a) (w, wrB 1 t) := by
        apply Evt.succ
        simp only [leatworkref03_Word.j0]
        exact Evt.neg (by simp) hw
      unfold leatworkref03_Word.f
      refine Evt.pos rfl ?_
      cases t with
      | nil => exact Evt.neg (by rw [size_B]; simp) z
      | cons c r =>
        refine Evt.pos (by rw [size_B]; simp only [List.length_cons]; omega) (Evt.pos (by rw [size_B]; simp only [List.length_cons]; omega) ?_)
        rw [bt_cons]
        have : ((c.toNat : Int) == 45) = false := by
          rw [beq_eq_false_iff_ne]
          intro h
          apply hm
          have : c = 45 := by apply UInt8.toNat_inj.1; show c.toNat = 45; omega
          rw [this]; rfl
        rw [this]
        exact z
  · by_cases h2 : kd = 2
    · subst h2
      have e : (⟨#[39]⟩ : ByteArray) ++ B t = B (39 :: t) := append_B [39] t
      have e2 : B (39 :: t) ++ (⟨#[39]⟩ : ByteArray) = B (39 :: (t ++ [39])) := append_B (39 :: t) [39]
      by_cases hq : t ∈ kwL ∨ t = [124] ∨ t = [35]
      · refine ⟨B (39 :: (t ++ [39])), ?_, fun _ => by rw [putS_quote hq]⟩
        rw [wr_quote hq]
        unfold leatworkref03_Word.f
        rw [e, e2, toList_B]
        refine Evt.neg (by decide) (Evt.pos rfl (Evt.bind (rKeyword_e t) ?_))
        have s1 : 1 + (B t).size ≤ 9223372036854775807 := by rw [size_B]; omega
        have s2 : (B (39 :: t)).size + 1 ≤ 9223372036854775807 := by rw [size_B, List.length_cons]; omega
        by_cases hk : t ∈ kwL
        · exact Evt.pos (decide_eq_true hk) (Evt.pos s1 (Evt.pos s2 (Evt.pure _)))
        · refine Evt.neg (by simpa using hk) ?_
          by_cases hb : t = [124]
          · exact Evt.pos hb (Evt.pos s1 (Evt.pos s2 (Evt.pure _)))
          · refine Evt.neg hb (Evt.pos ((hq.resolve_left hk).resolve_left hb) (Evt.pos s1 (Evt.pos s2 (Evt.pure _))))
      · refine ⟨B t, ?_, fun _ => by rw [putS_self (fun h => absurd h.1 (by decide)) (fun h => hq h.2)]⟩
        rw [wr_atom hq]
        unfold leatworkref03_Word.f
        rw [toList_B]
        refine Evt.neg (by decide) (Evt.pos rfl (Evt.bind (rKeyword_e t) ?_))
        refine Evt.neg (by simpa using fun h => hq (.inl h)) (Evt.neg (fun h => hq (.inr (.inl h))) (Evt.neg (fun h => hq (.inr (.inr h))) ?_))
        exact Evt.bind (rAtom_e t) (Evt.pure _)
    · have hp : putS kd t = t := putS_self (fun h => h1 h.1) (fun h => h2 h.1)
      by_cases h3 : kd = 3
      · subst h3
        refine ⟨B t, ?_, fun _ => by rw [hp]⟩
        rw [wr_var]
        unfold leatworkref03_Word.f
        exact Evt.neg (by decide) (Evt.neg (by decide) (Evt.pos rfl (Evt.bind (rIdent_e t) (Evt.pure _))))
      · by_cases h4 : kd = 4
        · subst h4
          refine ⟨B t, ?_, fun _ => by rw [hp]⟩
          rw [wr_kw]
          unfold leatworkref03_Word.f
          exact Evt.neg (by decide) (Evt.neg (by decide) (Evt.neg (by decide) (Evt.pos rfl (Evt.bind (rKeyword_e t) (Evt.pure _)))))
        · by_cases h5 : kd = 5
          · subst h5
            refine ⟨B t, ?_, fun _ => by rw [hp]⟩
            rw [wr_sym]
            unfold leatworkref03_Word.f
            exact Evt.neg (by decide) (Evt.neg (by decide) (Evt.neg (by decide) (Evt.neg (by decide) (Evt.pos rfl (Evt.bind (Evt.const rsymbols_f) (Evt.bind (in_e rsymL t (by decide)) (Evt.pure _)))))))
          · refine ⟨(⟨#[]⟩ : ByteArray), ?_, fun h => ?_⟩
            · rw [wr_other h1 h2 h3 h4 h5]
              unfold leatworkref03_Word.f
              exact Evt.neg h1 (Evt.neg h2 (Evt.neg h3 (Evt.neg h4 (Evt.neg h5 (Evt.pure _)))))
            · rw [wr_other h1 h2 h3 h4 h5] at h
              cases h
theorem rtext_long (l : List S32) (hl : l.length ≤ 8796093022208) (hs : ∀ x ∈ l, (L x.f1).length < 4611686018427387000) (hlong : l.length > 1200 ∨ (jb (l.map putT)).length > 4000) (s : ByteArray) : ∀ (d i : Nat), i + d = l.length → (∀ x ∈ l.take i, okT x = true) →
    Evt (fun k => leatworkref03_Text.l0 k l s true (i : Int)) (textF l) := by
  intro d
  induction d with
  | zero =>
    intro i hi ha
    rw [List.take_of_length_le (by omega)] at ha
    have hall : l.all okT = true := List.all_eq_true.2 ha
    have ht : textF l = ((⟨#[]⟩ : ByteArray), 3) := by
      unfold textF
      rw [if_pos hall]
      by_cases h12 : l.length > 1200
      · rw [if_pos h12]
      · rw [if_neg h12, if_pos (hlong.resolve_left h12)]
    rw [ht]
    apply Evt.succ
    simp only [leatworkref03_Text.l0]
    exact Evt.neg (by omega) (Evt.pos trivial (Evt.pure _))
  | succ d ih =>
    intro i hi ha
    have hlt : i < l.length := by omega
    have hm := hs _ (List.getElem_mem hlt)
    obtain ⟨w, hw, hv⟩ := rWord_o (L l[i].f1) l[i].f0 l[i].f2 hm
    rw [B_L] at hw
    apply Evt.succ
    simp only [leatworkref03_Text.l0]
    rw [rd_get hlt]
    refine Evt.pos (by omega) (Evt.pos (by omega) (Evt.bind hw ?_))
    by_cases ho : okT l[i] = true
    · refine Evt.pos ho (Evt.pos trivial ?_)
      rw [w64s i (by omega)]
      exact ih (i + 1) (by omega) (ok_take hlt ha ho)
    · rw [textF_bad hlt ho]
      exact Evt.neg ho (Evt.pure _)
theorem rtext_short (l : List S32) (hl : l.length ≤ 1200) (hs : ∀ x ∈ l, (L x.f1).length < 4611686018427387000) : ∀ (d i : Nat), i + d = l.length → (∀ x ∈ l.take i, okT x = true) → (jb ((l.take i).map putT)).length ≤ 4000 →
    Evt (fun k => leatworkref03_Text.l0 k l (B (jb ((l.take i).map putT))) false (i : Int)) (textF l) := by
  intro d
  induction d with
  | zero =>
    intro i hi ha h4
    rw [List.take_of_length_le (by omega)] at ha h4 ⊢
    have hall : l.all okT = true := List.all_eq_true.2 ha
    have ht : textF l = (B (jb (l.map putT)), 0) := by
      unfold textF
      rw [if_pos hall, if_neg (by omega), if_neg (by omega)]
    rw [ht]
    apply Evt.succ
    simp only [leatworkref03_Text.l0]
    exact Evt.neg (by omega) (Evt.neg (by simp) (Evt.pure _))
  | succ d ih =>
    intro i hi ha h4
    have hlt : i < l.length := by omega
    have hm := hs _ (List.getElem_mem hlt)
    obtain ⟨w, hw, hv⟩ := rWord_o (L l[i].f1) l[i].f0 l[i].f2 hm
    rw [B_L] at hw
    apply Evt.succ
    simp only [leatworkref03_Text.l0]
    rw [rd_get hlt]
    refine Evt.pos (by omega) (Evt.pos (by omega) (Evt.bind hw ?_))
    by_cases ho : okT l[i] = true
    · have hp := putT_le ho
      have hwe : w = B (putT l[i]) := hv ho
      have hok := ok_take hlt ha ho
      -- the next round, whether it is long now or not
      have next : Evt (fun k => leatworkref03_Text.l0 k l (B (jb ((l.take (i + 1)).map putT))) (decide (((B (jb ((l.take (i + 1)).map putT))).size : Int) > 4000)) ((i + 1 : Nat) : Int)) (textF l) := by
        by_cases h5 : (jb ((l.take (i + 1)).map putT)).length > 4000
        · rw [decide_eq_true (by rw [size_B]; omega)]
          refine rtext_long l (by omega) hs (.inr ?_) _ d (i + 1) (by omega) hok
          have hn : (l.take (i + 1)).map putT ≠ [] := by intro e; rw [e] at h5; simp [jb] at h5
          have e1 := jb_len hn
          have hn2 : l.map putT ≠ [] := by
            intro e
            rw [List.map_eq_nil_iff] at e
            rw [e] at hlt
            exact absurd hlt (by simp)
          have e2 := jb_len hn2
          have := sz_mono l (i + 1)
          omega
        · rw [decide_eq_false (by rw [size_B]; omega)]
          exact ih (i + 1) (by omega) hok (by omega)
      refine Evt.pos ho (Evt.neg (by simp) ?_)
      rw [w64s i (by omega)]
      by_cases h0 : i = 0
      · subst h0
        refine Evt.neg (by simp) ?_
        have hx : B (jb ((l.take 0).map putT)) ++ w = B (jb ((l.take (0 + 1)).map putT)) := by
          rw [hwe, append_B, List.take_succ_eq_append_getElem hlt]
          simp [jb]
        refine Evt.pos (by rw [hwe, size_B, size_B]; omega) ?_
        rw [show B (jb ((l.take 0).map putT)) ++ (w, wrB l[0].f0 (L l[0].f1)).1 = _ from hx]
        exact next
      · refine Evt.pos (by omega) ?_
        have e1 : B (jb ((l.take i).map putT)) ++ (⟨#[32]⟩ : ByteArray) = B (jb ((l.take i).map putT) ++ [32]) := append_B _ [32]
        have hx : B (jb ((l.take i).map putT)) ++ (⟨#[32]⟩ : ByteArray) ++ w = B (jb ((l.take (i + 1)).map putT)) := by
          obtain ⟨y, r, hy⟩ : ∃ y r, (l.take i).map putT = y :: r := by
            cases hc : (l.take i).map putT with
            | nil =>
              rw [List.map_eq_nil_iff, List.take_eq_nil_iff] at hc
              rcases hc with h | h
              · exact absurd h h0
              · rw [h] at hlt; simp at hlt
            | cons y r => exact ⟨y, r, rfl⟩
          rw [e1, hwe, append_B, List.take_succ_eq_append_getElem hlt, List.map_append, hy, List.map_singleton, jb_snoc]
          simp
        refine Evt.pos (by rw [size_B]; omega) (Evt.pos (by rw [e1, size_B, hwe, size_B, List.length_append, List.length_singleton]; omega) ?_)
        rw [show B (jb ((l.take i).map putT)) ++ (⟨#[32]⟩ : ByteArray) ++ (w, wrB l[i].f0 (L l[i].f1)).1 = _ from hx]
        exact next
    · rw [textF_bad hlt ho]
      exact Evt.neg ho (Evt.pure _)
theorem rtext_e (l : List S32) (hl : l.length ≤ 8796093022208) (hs : ∀ x ∈ l, (L x.f1).length < 4611686018427387000) : Evt (fun k => leatworkref03_Text.f k l) (textF l) := by
  unfold leatworkref03_Text.f
  by_cases h12 : l.length > 1200
  · rw [decide_eq_true (by omega)]
    exact rtext_long l hl hs (.inl h12) _ l.length 0 (by omega) (by simp)
  · rw [decide_eq_false (by omega)]
    exact rtext_short l (by omega) hs l.length 0 (by omega) (by simp) (by simp [jb])
end Go.Proofs.YtakcnogmljbaiaaDoor.Q
