/-
  The pure statement of LexPlaces: tokens do not overlap, each one stands where it says, and between them are only blanks, newlines, tabs and remarks.
-/
import Derived.Test.YtakcnogmljbaiaaDoorQj
import Derived.Test.YtakcnogmljbaiaaDoorPLexx13
set_option linter.unusedVariables false
set_option linter.unusedSimpArgs false
namespace Go.Proofs.YtakcnogmljbaiaaDoor.Pure
open Go.RowKit Go.Proofs.YtakcnogmljbaiaaDoorW.PrintWords Go.Proofs.YtakcnogmljbaiaaDoor.PLex Go.Proofs.YtakcnogmljbaiaaDoor.Q

theorem blank_loop (l : List UInt8) (hl : l.length < 4611686018427387904) : ∀ (d i : Nat) (b : Bool), i + d = l.length → Evt (fun k => leatworklaw03_blank.l0 k (B l) b (i : Int)) (bl b (l.drop i)) := by
  intro d
  induction d with
  | zero =>
    intro i b hi
    apply Evt.succ
    simp only [leatworklaw03_blank.l0]
    rw [List.drop_eq_nil_of_le (by omega)]
    refine Evt.neg (by rw [size_B]; omega) ?_
    cases b <;> exact Evt.pure _
  | succ d ih =>
    intro i b hi
    have hlt : i < l.length := by omega
    apply Evt.succ
    simp only [leatworklaw03_blank.l0]
    refine Evt.pos (by rw [size_B]; omega) (Evt.pos (by omega) ?_)
    rw [bt_B l i hlt, w64s i (by omega), drop_cons hlt]
    simp only [bl]
    by_cases h10 : (l[i]).toNat = 10
    · rw [if_pos h10]; exact Evt.pos (by omega) (ih (i + 1) false (by omega))
    · rw [if_neg h10]
      refine Evt.neg (by omega) ?_
      by_cases h37 : (l[i]).toNat = 37
      · rw [if_pos h37]; exact Evt.pos (by omega) (ih (i + 1) true (by omega))
      · rw [if_neg h37]
        refine Evt.neg (by omega) ?_
        cases b with
        | true => exact Evt.pos rfl (by simpa using ih (i + 1) true (by omega))
        | false =>
          refine Evt.neg (by simp) ?_
          rw [if_neg (by simp)]
          by_cases h32 : (l[i]).toNat = 32
          · rw [if_pos (.inl h32)]; exact Evt.pos (by omega) (ih (i + 1) false (by omega))
          · refine Evt.neg (by omega) ?_
            by_cases h9 : (l[i]).toNat = 9
            · rw [if_pos (.inr h9)]; exact Evt.pos (by omega) (ih (i + 1) false (by omega))
            · rw [if_neg (by omega)]; exact Evt.neg (by omega) (Evt.pure _)
theorem blank_e (l : List UInt8) (hl : l.length < 4611686018427387904) : Evt (fun k => leatworklaw03_blank.f k (B l)) (bl false l) := by
  have := blank_loop l hl l.length 0 false (by omega)
  simpa [leatworklaw03_blank.f] using this
theorem places_loop (l : List UInt8) (hl : l.length ≤ 1000) (suf : List (Nat × Int × List UInt8 × Nat)) : ∀ (pre : List (Nat × Int × List UInt8 × Nat)) (p : Nat), p ≤ l.length → pre.length + suf.length ≤ 1000 →
    Ch (p + sp false (l.drop p)) (l.drop (p + sp false (l.drop p))) suf none →
    Evt (fun k => leatworklaw03_LexPlaces.l0 k (B l) ((pre ++ suf).map tS) (p : Int) (pre.length : Int)) true := by
  induction suf with
  | nil =>
    intro pre p hp hn hc
    apply Evt.succ
    simp only [leatworklaw03_LexPlaces.l0]
    refine Evt.neg (by simp) (Evt.pos (by omega) (Evt.pos (by rw [size_B]; omega) ?_))
    have hx : (B l).extract ((p : Nat) : Int).toNat (B l).size = B (l.drop p) := by
      rw [extract_B, Int.toNat_natCast, size_B, List.take_of_length_le (by rw [List.length_drop]; omega)]
    rw [hx]
    have hs := sp_le false (l.drop p)
    have hend : l.drop (p + sp false (l.drop p)) = [] := hc.inv_nil
    have hlen : (l.drop p).length ≤ sp false (l.drop p) := by
      have := congrArg List.length hend
      rw [List.length_drop, List.length_nil] at this
      rw [List.length_drop]
      omega
    have hb : bl false (l.drop p) = true := by
      have := bl_sp false (l.drop p)
      rwa [List.take_of_length_le hlen] at this
    refine Evt.bind (blank_e _ (by rw [List.length_drop]; omega)) ?_
    rw [hb]
    exact Evt.pos rfl (Evt.bind alive_e (Evt.pure _))
  | cons x suf ih =>
    intro pre p hp hn hc
    obtain ⟨q, k, t, n⟩ := x
    have hs := sp_le false (l.drop p)
    rw [List.length_drop] at hs
    have hlen : (((pre ++ (q, k, t, n) :: suf).map tS).length : Int) = (pre.length + suf.length + 1 : Nat) := by simp; omega
    have hget : rd_T32 ((pre ++ (q, k, t, n) :: suf).map tS) (pre.length : Int) = tS (q, k, t, n) := by
      simp [rd_T32, List.getD_eq_getElem?_getD]
    obtain ⟨hq, ht, hc⟩ := hc.inv_tok
    rw [← hq] at ht hc
    have hqlt : q < l.length := by
      rcases Nat.lt_or_ge q l.length with h | h
      · exact h
      · rw [List.drop_eq_nil_of_le h] at ht; cases ht
    have hdrop : l.drop q = l[q] :: l.drop (q + 1) := drop_cons hqlt
    have hn1 := tok_len ht
    rw [List.length_drop] at hn1
    have htx := ht
    rw [hdrop] at htx
    have hcase := tok_text htx
    rw [← hdrop] at hcase
    have htl : t.length ≤ n := by rcases hcase with h | h | h <;> omega
    have hsize : (if (l[q]).toNat = 39 then t.length + 2 else t.length) = n := by
      rcases hcase with h | h | h
      · rw [if_pos h.1]; exact h.2.2.1.symm
      · rw [if_neg (by omega)]; exact h.2.2.1.symm
      · rw [if_neg h.1]; exact h.2.2.1.symm
    have hsz := size_f l q hqlt k t (by omega)
    rw [hsize] at hsz
    have hw : ∀ _ : Unit, wrap64 ((q : Int) + (n : Int)) = ((q + n : Nat) : Int) := fun _ => by rw [w64 (by omega) (by omega)]; omega
    have hw1 : ∀ _ : Unit, wrap64 ((pre.length : Int) + 1) = ((pre.length + 1 : Nat) : Int) := fun _ => w64s _ (by omega)
    -- behind this token
    have next : Evt (fun k_ => leatworklaw03_LexPlaces.l0 k_ (B l) ((pre ++ (q, k, t, n) :: suf).map tS) ((q + n : Nat) : Int) ((pre.length + 1 : Nat) : Int)) true := by
      have h1 : q + n ≤ l.length := by clear hcase hsz hw hw1 hget hlen; omega
      have h2 : (pre ++ [(q, k, t, n)]).length + suf.length ≤ 1000 := by
        clear hcase hsz hw hw1 hget hlen
        rw [List.length_append, List.length_singleton]
        rw [List.length_cons] at hn
        omega
      rw [List.drop_drop, List.drop_drop, ← Nat.add_assoc] at hc
      have := ih (pre ++ [(q, k, t, n)]) (q + n) h1 h2 hc
      rw [List.length_append, List.length_singleton, List.append_assoc, List.singleton_append] at this
      exact this
    have blank1 : bl false ((l.drop p).take (q - p)) = true := by
      have := bl_sp false (l.drop p)
      rwa [show sp false (l.drop p) = q - p by omega] at this
    -- the token's text
    have two : ∀ s : List UInt8, s ≠ [] → ((s.head?.map UInt8.toNat = some 126 → t = 45 :: s.tail) ∧ (s.head?.map UInt8.toNat ≠ some 126 → t = s)) → s.length ≤ 1000 →
        Evt (fun k_ => leatworklaw03_LexPlaces.j2 k_ (B l) ((pre ++ (q, k, t, n) :: suf).map tS) (pre.length : Int) (B s) k (B t) (q : Int)) true := by
      intro s hs0 hst hsl
      obtain ⟨c, r, rfl⟩ : ∃ c r, s = c :: r := by
        cases s with
        | nil => exact absurd rfl hs0
        | cons c r => exact ⟨c, r, rfl⟩
      have last : ∀ s2 : List UInt8, s2 = t → Evt (fun k_ => leatworklaw03_LexPlaces.j3 k_ (B l) ((pre ++ (q, k, t, n) :: suf).map tS) (pre.length : Int) (B s2) k (B t) (q : Int)) true := by
        intro s2 e2
        subst e2
        apply Evt.succ
        simp only [leatworklaw03_LexPlaces.j3]
        rw [hw1 ()]
        refine Evt.pos trivial (Evt.bind (Evt.const hsz) ?_)
        rw [hw ()]
        exact next
      apply Evt.succ
      simp only [leatworklaw03_LexPlaces.j2]
      refine Evt.pos (by rw [size_B]; simp only [List.length_cons]; omega) ?_
      rw [bt_cons]
      by_cases h126 : c.toNat = 126
      · have he := hst.1 (by simp [h126])
        refine Evt.pos (by omega) (Evt.pos (by rw [size_B]; simp only [List.length_cons]; omega) ?_)
        have hx : (B (c :: r)).extract 1 (B (c :: r)).size = B r := by rw [extract_B, size_B]; simp
        rw [hx]
        have e2 : (⟨#[45]⟩ : ByteArray) ++ B r = B (45 :: r) := append_B [45] r
        rw [e2]
        exact Evt.pos (by rw [size_B]; simp only [List.length_cons] at hsl; omega) (last _ he.symm)
      · have he := hst.2 (by simp [h126])
        exact Evt.neg (by omega) (last _ he.symm)
    have one : Evt (fun k_ => leatworklaw03_LexPlaces.j1 k_ (B l) ((pre ++ (q, k, t, n) :: suf).map tS) (pre.length : Int) false k (B t) (q : Int)) true := by
      apply Evt.succ
      simp only [leatworklaw03_LexPlaces.j1]
      refine Evt.neg (by simp) ?_
      refine Evt.bind (Evt.const hsz) ?_
      rw [hw ()]
      have hx : (B l).extract ((q : Nat) : Int).toNat ((q + n : Nat) : Int).toNat = B ((l.drop q).take n) := by
        rw [extract_mid, Nat.add_sub_cancel_left]
      rw [hx]
      have hxl : ((l.drop q).take n).length = n := by rw [List.length_take, List.length_drop]; omega
      refine Evt.pos (by omega) (Evt.pos (by omega) (Evt.pos (by rw [size_B]; omega) (Evt.pos (by rw [size_B, hxl]; omega) ?_)))
      have hb0 : bt (B ((l.drop q).take n)) 0 = ((l[q]).toNat : Int) := by
        have hc0 : (l.drop q).take n = l[q] :: (l.drop (q + 1)).take (n - 1) := by
          rw [hdrop, show n = (n - 1) + 1 by omega, List.take_succ_cons, Nat.add_sub_cancel]
        rw [hc0, bt_cons]
      rw [hb0]
      rw [size_B, hxl]
      rcases hcase with ⟨h39, hk, hnt, htake, hat⟩ | ⟨h126, hk, hnt, d, hd, htd, htake⟩ | ⟨h39, h126, hnt, htake⟩
      · have e1 : wrap64 ((n : Int) - 1) = ((n - 1 : Nat) : Int) := by rw [w64 (by omega) (by omega)]; omega
        have tne : t ≠ [] := by intro e; subst e; exact absurd hat (by decide)
        have tpos := List.length_pos_iff.2 tne
        rw [e1]
        refine Evt.pos (by omega) (Evt.pos (by omega) (Evt.pos (by omega) ?_))
        have hx2 : (B ((l.drop q).take n)).extract 1 ((n - 1 : Nat) : Int).toNat = B t := by
          rw [htake, extract_B, Int.toNat_natCast, List.drop_succ_cons, List.drop_zero, show n - 1 - 1 = t.length by omega, List.take_left]
        rw [hx2]
        refine two t tne ⟨fun h => ?_, fun _ => rfl⟩ (by omega)
        exfalso
        cases t with
        | nil => cases h
        | cons c r =>
          have hc : c.toNat = 126 := by simpa using h
          have hc2 : c = 126 := by apply UInt8.toNat_inj.1; rw [hc]; rfl
          subst hc2
          simp only [isAtomL, Bool.or_eq_true, beq_iff_eq, Bool.and_eq_true] at hat
          rcases hat with (h | h) | h
          · cases h
          · cases h
          · exact absurd h.2 (show ¬ isLow 126 = true by decide)
      · refine Evt.neg (by omega) ?_
        rw [htake]
        refine two (126 :: d) (by simp) ⟨fun _ => by rw [htd]; rfl, fun h => absurd rfl h⟩ ?_
        have := congrArg List.length htake
        rw [hxl] at this
        omega
      · refine Evt.neg (by omega) ?_
        have tne : t ≠ [] := by intro e; subst e; simp at hnt; omega
        rw [htake]
        refine two t tne ⟨fun h => ?_, fun _ => rfl⟩ (by omega)
        exfalso
        apply h126
        have hc0 : (l.drop q).take n = l[q] :: (l.drop (q + 1)).take (n - 1) := by
          rw [hdrop, show n = (n - 1) + 1 by omega, List.take_succ_cons, Nat.add_sub_cancel]
        rw [← htake, hc0] at h
        simpa using h
    apply Evt.succ
    simp only [leatworklaw03_LexPlaces.l0]
    rw [hlen, hget]
    simp only [tS]
    refine Evt.pos (by omega) (Evt.pos (by omega) (Evt.neg (by omega) (Evt.neg (by rw [size_B]; omega) (Evt.pos (by omega) (Evt.pos (by omega) (Evt.pos (by rw [size_B]; omega) ?_))))))
    have hx : (B l).extract ((p : Nat) : Int).toNat ((q : Nat) : Int).toNat = B ((l.drop p).take (q - p)) := by rw [extract_mid]
    rw [hx]
    refine Evt.bind (blank_e _ (by rw [List.length_take, List.length_drop]; omega)) ?_
    rw [blank1]
    refine Evt.pos rfl ?_
    refine Evt.bind (Evt.const hsz) ?_
    simp only [hw ()]
    rw [decide_eq_false (by rw [size_B]; omega)]
    exact one
theorem LexPlaces : leatworklaw03_LexPlaces.Pure := by
  intro a0 h0
  rw [← B_L a0] at *
  generalize L a0 = l at *
  rw [size_B] at h0
  apply Evt.ex
  unfold leatworklaw03_LexPlaces.f
  by_cases h : l.length > 1000
  · exact Evt.pos (by rw [size_B]; omega) (Evt.bind alive_e (Evt.pure _))
  · refine Evt.neg (by rw [size_B]; omega) ?_
    obtain ⟨ts, e, hc, hf, hs⟩ := scanF_ch l (by omega)
    have hsc := scan_e l (by omega)
    rw [hs] at hsc
    refine Evt.bind hsc ?_
    cases e with
    | none =>
      refine Evt.pos rfl ?_
      have := places_loop l (by omega) ts [] 0 (by omega) (by simp; omega) (by simpa using hc)
      simpa using this
    | some j => exact Evt.neg (show ¬ ((2 : Int) = 0) by decide) (Evt.bind alive_e (Evt.pure _))
end Go.Proofs.YtakcnogmljbaiaaDoor.Pure
