/-
  The pure statement of LexJoined: a source that consists of two sources with a newline between them has the tokens of both.
-/
import Derived.Test.YtakcnogmljbaiaaDoorQk
import Derived.Test.YtakcnogmljbaiaaDoorPLexx16
set_option linter.unusedVariables false
set_option linter.unusedSimpArgs false
namespace Go.Proofs.YtakcnogmljbaiaaDoor.Pure
open Go.RowKit Go.Proofs.YtakcnogmljbaiaaDoorW.PrintWords Go.Proofs.YtakcnogmljbaiaaDoor.PLex Go.Proofs.YtakcnogmljbaiaaDoor.Q

/-- The chain of a source that begins anywhere. -/
def Gc (i : Nat) (l : List UInt8) (ts : List (Nat × Int × List UInt8 × Nat)) (e : Option Nat) : Prop := Ch (i + sp false l) (l.drop (sp false l)) ts e
theorem Ch.shift {i : Nat} {l : List UInt8} {ts : List (Nat × Int × List UInt8 × Nat)} {e : Option Nat} (h : Ch i l ts e) (d : Nat) : Ch (i + d) l (ts.map fun x => (x.1 + d, x.2)) (e.map fun j => j + d) := by
  induction h with
  | nil i => exact .nil _
  | bad i l h1 h2 => exact .bad _ l h1 h2
  | tok i l k t n ts e ht hc ih =>
    refine .tok _ l k t n _ _ ht ?_
    rwa [show i + n + sp false (l.drop n) + d = i + d + n + sp false (l.drop n) by omega] at ih
theorem Gc.shift {i : Nat} {l : List UInt8} {ts : List (Nat × Int × List UInt8 × Nat)} {e : Option Nat} (h : Gc i l ts e) (d : Nat) : Gc (i + d) l (ts.map fun x => (x.1 + d, x.2)) (e.map fun j => j + d) := by
  have := Ch.shift h d
  unfold Gc
  rwa [show i + d + sp false l = i + sp false l + d by omega]
theorem tw_nl (p : UInt8 → Bool) (hp : p 10 = false) (r y : List UInt8) : (r ++ 10 :: y).takeWhile p = r.takeWhile p := by
  induction r with
  | nil => exact List.takeWhile_cons_of_neg (by rw [hp]; simp)
  | cons a r ih =>
    rw [List.cons_append]
    by_cases ha : p a = true
    · rw [List.takeWhile_cons_of_pos ha, List.takeWhile_cons_of_pos ha, ih]
    · rw [List.takeWhile_cons_of_neg ha, List.takeWhile_cons_of_neg ha]
theorem rsym_no10 : ∀ x ∈ rsymL, ¬ (10 : UInt8) ∈ x := by decide +kernel
theorem tw_ne (y : List UInt8) (r : List UInt8) (h : ¬ (r.takeWhile (fun c => c != 39)).length < r.length) : ∃ z, (r ++ 10 :: y).takeWhile (fun c => c != 39) = r ++ 10 :: z := by
  induction r with
  | nil => exact ⟨y.takeWhile (fun c => c != 39), List.takeWhile_cons_of_pos (p := fun c => c != 39) (by decide)⟩
  | cons a r ih =>
    by_cases ha : (a != 39) = true
    · rw [List.takeWhile_cons_of_pos (p := fun c => c != 39) ha] at h
      simp only [List.length_cons] at h
      obtain ⟨z, hz⟩ := ih (by omega)
      refine ⟨z, ?_⟩
      rw [List.cons_append, List.takeWhile_cons_of_pos (p := fun c => c != 39) ha, hz]
      rfl
    · rw [List.takeWhile_cons_of_neg (p := fun c => c != 39) ha] at h
      simp at h
theorem atom_no10 (r z : List UInt8) : isAtomL (r ++ 10 :: z) = false := by
  have h1 : (r ++ 10 :: z == [124]) = false := by
    rw [beq_eq_false_iff_ne]; intro e
    have : (10 : UInt8) ∈ ([124] : List UInt8) := by rw [← e]; simp
    exact absurd this (by decide)
  have h2 : (r ++ 10 :: z == [35]) = false := by
    rw [beq_eq_false_iff_ne]; intro e
    have : (10 : UInt8) ∈ ([35] : List UInt8) := by rw [← e]; simp
    exact absurd this (by decide)
  have h3 : (r ++ 10 :: z).all isLet = false := by
    rw [List.all_append, List.all_cons, show isLet 10 = false by decide]; simp
  unfold isAtomL isWord
  rw [h1, h2, h3]
  simp
theorem tok_none_ext (c : UInt8) (r y : List UInt8) (h : tokS (c :: r) = none) : tokS ((c :: r) ++ 10 :: y) = none := by
  rw [tokS_cons] at h
  rw [List.cons_append, tokS_cons]
  by_cases hn : isDig c = true ∨ c.toNat = 126
  · rw [if_pos hn] at h ⊢
    have hb : badInt (c.toNat == 126) ((if c.toNat = 126 then r else c :: r).takeWhile isDig) := by
      rcases Decidable.em (badInt (c.toNat == 126) ((if c.toNat = 126 then r else c :: r).takeWhile isDig)) with hb | hb
      · exact hb
      · rw [intS_of hb] at h; cases h
    have same : (if c.toNat = 126 then r ++ 10 :: y else c :: (r ++ 10 :: y)).takeWhile isDig = (if c.toNat = 126 then r else c :: r).takeWhile isDig := by
      by_cases h126 : c.toNat = 126
      · rw [if_pos h126, if_pos h126]; exact tw_nl isDig (by decide) r y
      · rw [if_neg h126, if_neg h126]; exact tw_nl isDig (by decide) (c :: r) y
    show (if badInt (c.toNat == 126) ((if c.toNat = 126 then r ++ 10 :: y else c :: (r ++ 10 :: y)).takeWhile isDig) then none else _) = none
    rw [same]
    exact if_pos hb
  · rw [if_neg hn] at h ⊢
    by_cases hw : isLow c = true ∨ isUp c = true
    · rw [if_pos hw] at h ⊢
      have same := tw_nl isLet (by decide) (c :: r) y
      rw [List.cons_append] at same
      unfold wordS at h ⊢
      simp only at h ⊢
      rw [same]
      by_cases h16 : ((c :: r).takeWhile isLet).length > 16
      · rw [if_pos h16]
      · rw [if_neg h16] at h; cases h
    · rw [if_neg hw] at h ⊢
      by_cases h39 : c.toNat = 39
      · rw [if_pos h39] at h ⊢
        unfold quotedS at h ⊢
        simp only at h ⊢
        by_cases hl : (r.takeWhile (fun c => c != 39)).length < r.length
        · have hat : ¬ isAtomL (r.takeWhile (fun c => c != 39)) = true := fun hat => by rw [if_pos ⟨hl, hat⟩] at h; cases h
          have q := quoted_take r hl
          have e : (r ++ 10 :: y).takeWhile (fun c => c != 39) = r.takeWhile (fun c => c != 39) := by
            have hr : r = (r.takeWhile (fun c => c != 39) ++ [39]) ++ r.drop ((r.takeWhile (fun c => c != 39)).length + 1) := by
              rw [← q, List.take_append_drop]
            have hall := all_takeWhile (fun c => c != 39) r
            have go : ∀ (T x : List UInt8), T.all (fun c => c != 39) = true → (T ++ (39 :: x)).takeWhile (fun c => c != 39) = T := by
              intro T x
              induction T with
              | nil => intro _; exact List.takeWhile_cons_of_neg (p := fun c => c != 39) (by simp)
              | cons a T ih =>
                intro hT
                rw [List.cons_append, List.takeWhile_cons_of_pos (p := fun c => c != 39) (all_cons_of hT).1, ih (all_cons_of hT).2]
            have : r ++ 10 :: y = r.takeWhile (fun c => c != 39) ++ (39 :: (r.drop ((r.takeWhile (fun c => c != 39)).length + 1) ++ 10 :: y)) := by
              conv => lhs; rw [hr]
              simp
            rw [this]
            exact go _ _ hall
          rw [e]
          exact if_neg (fun hh => hat hh.2)
        · obtain ⟨z, hz⟩ := tw_ne y r hl
          rw [hz]
          exact if_neg (fun hh => by rw [atom_no10] at hh; cases hh.2)
      · rw [if_neg h39] at h ⊢
        rw [symS_eq] at h ⊢
        have n2 : ¬ (2 ≤ (c :: r).length ∧ (c :: r).take 2 ∈ rsymL) := fun hh => by rw [if_pos hh] at h; cases h
        have n1 : ¬ (1 ≤ (c :: r).length ∧ (c :: r).take 1 ∈ rsymL) := fun hh => by rw [if_neg n2, if_pos hh] at h; cases h
        rw [if_neg, if_neg]
        · rintro ⟨_, hm⟩
          exact n1 ⟨by simp, hm⟩
        · rintro ⟨_, hm⟩
          cases r with
          | nil => exact rsym_no10 _ hm (by simp)
          | cons a r => exact n2 ⟨by simp, hm⟩
theorem gc_join (m : Nat) : ∀ (l y : List UInt8) (i : Nat) (ts us : List (Nat × Int × List UInt8 × Nat)) (e f : Option Nat), l.length ≤ m → Gc i l ts e → Gc (i + l.length + 1) y us f →
    (e = none → Gc i (l ++ 10 :: y) (ts ++ us) f) ∧ (∀ j, e = some j → Gc i (l ++ 10 :: y) ts (some j)) := by
  induction m with
  | zero =>
    intro l y i ts us e f hl h g
    obtain rfl : l = [] := List.length_eq_zero_iff.1 (by omega)
    have hs : sp false ([] : List UInt8) = 0 := rfl
    unfold Gc at h
    rw [hs] at h
    cases h with
    | nil =>
      refine ⟨fun _ => ?_, fun j hj => by cases hj⟩
      have := sp_nl [] y rfl
      unfold Gc at g ⊢
      simp only [List.nil_append, List.length_nil, Nat.zero_add, Nat.add_zero] at this g ⊢
      rw [this]
      rw [show 1 + sp false y = sp false y + 1 by omega, List.drop_succ_cons]
      rwa [show i + (sp false y + 1) = i + 1 + sp false y by omega]
    | bad _ _ h1 _ => exact absurd rfl h1
    | tok _ _ _ _ _ _ _ ht _ => cases ht
  | succ m ih =>
    intro l y i ts us e f hl h g
    rcases Nat.lt_or_ge (sp false l) l.length with hlt | hge
    · have hsplit : l.take (sp false l) ++ l.drop (sp false l) = l := List.take_append_drop _ _
      have hz := sp_zero l
      have hdl : (l.drop (sp false l)).length = l.length - sp false l := List.length_drop
      have htl : (l.take (sp false l)).length = sp false l := by rw [List.length_take]; omega
      have hsp : sp false (l ++ 10 :: y) = sp false l := by
        have e1 : l ++ 10 :: y = l.take (sp false l) ++ (l.drop (sp false l) ++ 10 :: y) := by rw [← List.append_assoc, hsplit]
        rw [e1, sp_gap l _ hlt]
        have : sp false (l.drop (sp false l) ++ 10 :: y) = 0 := by
          have hd : l.drop (sp false l) = l[sp false l] :: l.drop (sp false l + 1) := drop_cons hlt
          rw [hd] at hz ⊢
          rw [List.cons_append]
          simp only [sp] at hz ⊢
          split at hz
          · omega
          · split at hz
            · omega
            · rename_i h1 h2
              rw [if_neg h1, if_neg h2]
        rw [this]; rfl
      have hdrop : (l ++ 10 :: y).drop (sp false l) = l.drop (sp false l) ++ 10 :: y := by
        rw [List.drop_append_of_le_length (by omega)]
      unfold Gc at h ⊢
      rw [hsp, hdrop]
      generalize hq : l.drop (sp false l) = l1 at *
      cases h with
      | nil => rw [List.length_nil] at hdl; omega
      | bad _ _ h1 h2 =>
        refine ⟨fun hj => (by cases hj), fun j hj => ?_⟩
        obtain ⟨c, r, rfl⟩ : ∃ c r, l1 = c :: r := by
          cases l1 with
          | nil => exact absurd rfl h1
          | cons c r => exact ⟨c, r, rfl⟩
        rw [← hj]
        exact .bad _ _ (by simp) (tok_none_ext c r y h2)
      | tok _ _ k t n ts e ht hc =>
        have hn := tok_len ht
        have hw : l1.take n ++ l1.drop n = l1 := List.take_append_drop _ _
        have hwl : (l1.take n).length = n := by rw [List.length_take]; omega
        have ht1 : tokS (l1.take n ++ l1.drop n) = some (k, t, (l1.take n).length) := by rw [hw, hwl]; exact ht
        have hext := tok_ext ht1 (rest' := l1.drop n ++ 10 :: y) (by
          cases hr : l1.drop n with
          | nil => right; left; exact ⟨10, y, rfl, .inl (by decide)⟩
          | cons c r => right; right; exact ⟨c, r, r ++ 10 :: y, rfl, rfl⟩)
        rw [← List.append_assoc, hw, hwl] at hext
        have hG : Gc (i + sp false l + n) (l1.drop n) ts e := by
          unfold Gc
          rw [List.drop_drop]
          exact hc
        have hlen : (l1.drop n).length = l1.length - n := List.length_drop
        obtain ⟨r1, r2⟩ := ih (l1.drop n) y (i + sp false l + n) ts us e f (by omega) hG (by
          rwa [show i + sp false l + n + (l1.drop n).length + 1 = i + l.length + 1 by omega])
        have back : ∀ vs f', Gc (i + sp false l + n) (l1.drop n ++ 10 :: y) vs f' → Ch (i + sp false l) (l1 ++ 10 :: y) ((i + sp false l, k, t, n) :: vs) f' := by
          intro vs f' hg
          refine .tok _ _ k t n vs f' hext ?_
          have hd2 : (l1 ++ 10 :: y).drop n = l1.drop n ++ 10 :: y := by rw [List.drop_append_of_le_length (by omega)]
          rw [← List.drop_drop, hd2]
          exact hg
        exact ⟨fun he => back _ _ (r1 he), fun j hj => back _ _ (r2 j hj)⟩
    · have hs := sp_le false l
      have he : sp false l = l.length := by omega
      unfold Gc at h
      rw [he, List.drop_length] at h
      cases h with
      | nil =>
        refine ⟨fun _ => ?_, fun j hj => by cases hj⟩
        have := sp_nl l y he
        unfold Gc at g ⊢
        rw [this]
        have hd : (l ++ 10 :: y).drop (l.length + 1 + sp false y) = y.drop (sp false y) := by
          rw [show l.length + 1 + sp false y = l.length + (1 + sp false y) by omega, ← List.drop_drop, List.drop_left, show 1 + sp false y = sp false y + 1 by omega, List.drop_succ_cons]
        rw [hd]
        rwa [show i + (l.length + 1 + sp false y) = i + l.length + 1 + sp false y by omega]
      | bad _ _ h1 _ => exact absurd rfl h1
      | tok _ _ _ _ _ _ _ ht _ => cases ht
/-- What Scan hands back of a source whose chain is known. -/
theorem scanF_of {l : List UInt8} {ts : List (Nat × Int × List UInt8 × Nat)} {e : Option Nat} (hl : l.length ≤ 4000) (h : Gc 0 l ts e) (ht : ts.length ≤ 1200) : scanF l = match e with | none => (ts.map tS, 0, 0) | some j => ([], (j : Int), 2) := by
  unfold scanF
  rw [if_neg (by omega)]
  unfold Gc at h
  rw [Nat.zero_add] at h
  rw [h.scan l [] rfl (sp_le false l) (by simp; omega)]
  cases e <;> simp
theorem joined_loop (s : List UInt8) (hs : s.length ≤ 400) (c : List S32) (suf : List (Nat × Int × List UInt8 × Nat)) (hc : ∀ x ∈ suf, x.1 ≤ 400) : ∀ (pre : List (Nat × Int × List UInt8 × Nat)) (acc : List S32), pre.length + suf.length ≤ 400 → acc.length + suf.length ≤ 800 →
    c = acc ++ (suf.map fun x => (x.1 + (s.length + 1), x.2)).map tS →
    Evt (fun k => leatworklaw03_LexJoined.l0 k (B s) ((pre ++ suf).map tS) c 0 acc (pre.length : Int)) true := by
  induction suf with
  | nil =>
    intro pre acc hn ha he
    apply Evt.succ
    simp only [leatworklaw03_LexJoined.l0]
    refine Evt.neg (by simp) (Evt.pos (by first | rfl | trivial) ?_)
    simp only [List.map_nil, List.append_nil] at he
    subst he
    exact Evt.bind (tokens_refl c true (by simp at ha; omega)) (Evt.pos rfl (Evt.bind alive_e (Evt.pure _)))
  | cons x suf ih =>
    intro pre acc hn ha he
    obtain ⟨q, k, t, n⟩ := x
    have hq := hc (q, k, t, n) List.mem_cons_self
    have hlen : (((pre ++ (q, k, t, n) :: suf).map tS).length : Int) = (pre.length + suf.length + 1 : Nat) := by simp; omega
    have hget : rd_T32 ((pre ++ (q, k, t, n) :: suf).map tS) (pre.length : Int) = tS (q, k, t, n) := by
      simp [rd_T32, List.getD_eq_getElem?_getD]
    simp only [List.length_cons] at hn ha
    apply Evt.succ
    simp only [leatworklaw03_LexJoined.l0]
    rw [hlen, hget]
    simp only [tS]
    refine Evt.pos (by omega) (Evt.pos (by omega) (Evt.pos (by omega) ?_))
    have e1 : wrap64 (((q : Nat) : Int) + ((B s).size : Int)) = ((q + s.length : Nat) : Int) := by rw [size_B, w64 (by simp only at hq; omega) (by simp only at hq; omega)]; omega
    have e2 : wrap64 (((q + s.length : Nat) : Int) + 1) = ((q + (s.length + 1) : Nat) : Int) := by rw [w64 (by simp only at hq; omega) (by simp only at hq; omega)]; omega
    have e3 : wrap64 ((pre.length : Int) + 1) = ((pre.length + 1 : Nat) : Int) := w64s _ (by omega)
    simp only [e1, e2, e3]
    have := ih (fun x hx => hc x (List.mem_cons_of_mem _ hx)) (pre ++ [(q, k, t, n)]) (acc ++ [⟨k, B t, ((q + (s.length + 1) : Nat) : Int)⟩]) (by simp; omega) (by simp; omega) (by rw [he]; simp [tS])
    simpa using this
theorem Ch.places {i : Nat} {l : List UInt8} {ts : List (Nat × Int × List UInt8 × Nat)} {e : Option Nat} (h : Ch i l ts e) : ∀ x ∈ ts, x.1 ≤ i + l.length := by
  induction h with
  | nil => simp
  | bad => simp
  | tok i l k t n ts e ht hc ih =>
    have hn := tok_len ht
    intro x hx
    rcases List.mem_cons.1 hx with rfl | hx
    · simp only; omega
    · have := ih x hx
      have hs := sp_le false (l.drop n)
      rw [List.length_drop] at this hs
      omega
theorem LexJoined : leatworklaw03_LexJoined.Pure := by
  intro a0 a1 h0 h1
  rw [← B_L a0, ← B_L a1] at *
  generalize L a0 = s at *
  generalize L a1 = t at *
  apply Evt.ex
  unfold leatworklaw03_LexJoined.f
  have yes : Evt (fun k => leatworklaw03_LexJoined.j0 k (B s) (B t) true) true := by
    apply Evt.succ
    simp only [leatworklaw03_LexJoined.j0]
    exact Evt.pos trivial (Evt.bind alive_e (Evt.pure _))
  by_cases hs : s.length > 400
  · exact Evt.pos (by rw [size_B]; omega) yes
  · refine Evt.neg (by rw [size_B]; omega) ?_
    by_cases ht : t.length > 400
    · rw [decide_eq_true (by rw [size_B]; omega)]
      exact yes
    · rw [decide_eq_false (by rw [size_B]; omega)]
      clear yes
      apply Evt.succ
      simp only [leatworklaw03_LexJoined.j0]
      refine Evt.neg (by simp) ?_
      obtain ⟨ts, e, hc, hf, hsc⟩ := scanF_ch s (by omega)
      obtain ⟨us, f, hd, hg, htc⟩ := scanF_ch t (by omega)
      have g1 : Gc 0 s ts e := by unfold Gc; rw [Nat.zero_add]; exact hc
      have g2 : Gc 0 t us f := by unfold Gc; rw [Nat.zero_add]; exact hd
      have g2' := g2.shift (s.length + 1)
      have hjl : (s ++ 10 :: t).length ≤ 4000 := by simp; omega
      obtain ⟨j1, j2⟩ := gc_join s.length s t 0 ts _ e _ (Nat.le_refl _) g1 (by rwa [show 0 + s.length + 1 = 0 + (s.length + 1) by omega])
      have e1 := scan_e s (by omega)
      have e2 := scan_e t (by omega)
      have e3 := scan_e (s ++ 10 :: t) (by omega)
      rw [hsc] at e1
      rw [htc] at e2
      have cat : (B s ++ (⟨#[10]⟩ : ByteArray)) ++ B t = B (s ++ 10 :: t) := by
        have : (⟨#[10]⟩ : ByteArray) = B [10] := rfl
        rw [this, append_B, append_B]
        simp
      refine Evt.bind e1 (Evt.bind e2 (Evt.pos (by rw [size_B]; omega) (Evt.pos (by
        have : (⟨#[10]⟩ : ByteArray) = B [10] := rfl
        rw [this, append_B, size_B, size_B]; simp; omega) ?_)))
      rw [cat]
      cases e with
      | some j =>
        have h3 := scanF_of hjl (j2 j rfl) (by omega)
        rw [h3] at e3
        refine Evt.bind e3 (Evt.neg (show ¬ ((2 : Int) = 0) by decide) (Evt.pos rfl (Evt.pos rfl (Evt.bind alive_e (Evt.pure _)))))
      | none =>
        have h3 := scanF_of hjl (j1 rfl) (by simp; omega)
        rw [h3] at e3
        refine Evt.bind e3 (Evt.pos rfl ?_)
        cases f with
        | some j =>
          refine Evt.neg (show ¬ ((2 : Int) = 0) by decide) (Evt.pos rfl (Evt.pos ?_ (Evt.bind alive_e (Evt.pure _))))
          have hj : j ≤ t.length := by
            have hb : ∀ (i : Nat) (l : List UInt8) (ts : List (Nat × Int × List UInt8 × Nat)) (e : Option Nat), Ch i l ts e → ∀ j, e = some j → j ≤ i + l.length := by
              intro i l ts e h
              induction h with
              | nil => intro j hj; cases hj
              | bad i l h1 h2 => intro j hj; cases hj; omega
              | tok i l k t n ts e ht hc ih =>
                intro j hj
                have := ih j hj
                have hn := tok_len ht
                have hs := sp_le false (l.drop n)
                rw [List.length_drop] at this hs
                omega
            have := hb _ _ _ _ hd j rfl
            have hs := sp_le false t
            rw [List.length_drop] at this
            omega
          show ((j + (s.length + 1) : Nat) : Int) = wrap64 ((wrap64 (((B s).size : Int) + 1)) + (j : Int))
          rw [size_B]
          have w1 : wrap64 ((s.length : Int) + 1) = ((s.length + 1 : Nat) : Int) := w64s _ (by omega)
          rw [w1, w64 (by omega) (by omega)]
          omega
        | none =>
          refine Evt.pos rfl (Evt.pos (by simp; omega) ?_)
          have hp := Ch.places hd
          have hs0 := sp_le false t
          have := joined_loop s (by omega) ((ts ++ us.map fun x => (x.1 + (s.length + 1), x.2)).map tS) us (fun x hx => by have := hp x hx; rw [List.length_drop] at this; omega) [] (ts.map tS) (by simp; omega) (by simp; omega) (by simp)
          simpa using this
end Go.Proofs.YtakcnogmljbaiaaDoor.Pure
