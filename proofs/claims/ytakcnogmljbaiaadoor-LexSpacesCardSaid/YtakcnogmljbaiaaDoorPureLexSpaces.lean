/-
  The pure statement of LexSpaces: more blanks, newlines, tabs and remarks between tokens change nothing but the places.
-/
import Derived.Test.YtakcnogmljbaiaaDoorQk
import Derived.Test.YtakcnogmljbaiaaDoorPLexx15
set_option linter.unusedVariables false
set_option linter.unusedSimpArgs false
namespace Go.Proofs.YtakcnogmljbaiaaDoor.Pure
open Go.RowKit Go.Proofs.YtakcnogmljbaiaaDoorW.PrintWords Go.Proofs.YtakcnogmljbaiaaDoor.PLex Go.Proofs.YtakcnogmljbaiaaDoor.Q

/-- The separators. -/
def seps : List (List UInt8) := [[32], [10], [9], [37, 32, 88, 61, 10], [32, 32]]
/-- What is laid before a token. -/
def sepAt (more : List Int) (i : Nat) : List UInt8 := if i < more.length then seps.getD (Int.tmod (more.getD i 0) 5).toNat [] else []
/-- The source with separators, from a place on. -/
def mkS (l : List UInt8) (more : List Int) : List (Nat × Int × List UInt8 × Nat) → Nat → Nat → List UInt8
  | [], _, last => l.drop last ++ [10]
  | x :: ts, i, last => (l.drop last).take (x.1 - last) ++ (sepAt more i ++ mkS l more ts (i + 1) x.1)
theorem sepAt_mem (more : List Int) (i : Nat) : sepAt more i = [] ∨ sepAt more i ∈ seps := by
  unfold sepAt
  split
  · rcases Nat.lt_or_ge (Int.tmod (more.getD i 0) 5).toNat seps.length with h | h
    · right
      rw [List.getD_eq_getElem?_getD, List.getElem?_eq_getElem h]
      exact List.getElem_mem h
    · left
      rw [List.getD_eq_getElem?_getD, List.getElem?_eq_none h]
      rfl
  · exact .inl rfl
theorem sep_sp (s y : List UInt8) (h : s = [] ∨ s ∈ seps) : sp false (s ++ y) = s.length + sp false y := by
  rcases h with rfl | h
  · simp
  · simp only [seps, List.mem_cons, List.not_mem_nil, or_false] at h
    rcases h with rfl | rfl | rfl | rfl | rfl <;> simp [sp, isBl] <;> omega
theorem sep_head (s : List UInt8) (h : s ∈ seps) : ∃ b r, s = b :: r ∧ (isBl b = true ∨ b.toNat = 37) := by
  simp only [seps, List.mem_cons, List.not_mem_nil, or_false] at h
  rcases h with rfl | rfl | rfl | rfl | rfl
  · exact ⟨32, [], rfl, .inl (by decide)⟩
  · exact ⟨10, [], rfl, .inl (by decide)⟩
  · exact ⟨9, [], rfl, .inl (by decide)⟩
  · exact ⟨37, _, rfl, .inr (by decide)⟩
  · exact ⟨32, _, rfl, .inl (by decide)⟩
theorem sep_len (more : List Int) (i : Nat) : (sepAt more i).length ≤ 5 := by
  rcases sepAt_mem more i with h | h
  · rw [h]; simp
  · simp only [seps, List.mem_cons, List.not_mem_nil, or_false] at h
    rcases h with h | h | h | h | h <;> rw [h] <;> decide
theorem mkS_len (l : List UInt8) (more : List Int) (ts : List (Nat × Int × List UInt8 × Nat)) : ∀ (i last : Nat), last ≤ l.length → (∀ q ts' e, Ch q (l.drop q) ts' e → ts' = ts → last ≤ q → q ≤ l.length → (mkS l more ts i last).length ≤ l.length - last + 5 * ts.length + 1) := by
  induction ts with
  | nil => intro i last hl q ts' e _ _ _ _; simp [mkS]
  | cons x ts ih =>
    intro i last hl q ts' e hc he hq hql
    subst he
    obtain ⟨p, k, t, n⟩ := x
    obtain ⟨rfl, ht, hc⟩ := hc.inv_tok
    have hn := tok_len ht
    rw [List.length_drop] at hn
    have hs := sp_le false ((l.drop p).drop n)
    rw [List.drop_drop, List.length_drop] at hs
    rw [List.drop_drop] at hc
    have := ih (i + 1) p hql (p + n + sp false (l.drop (p + n))) ts e (by rw [List.drop_drop, ← Nat.add_assoc] at hc; exact hc) rfl (by omega) (by omega)
    have h5 := sep_len more i
    simp only [mkS, List.length_append, List.length_take, List.length_drop, List.length_cons]
    omega
/-- The chain of the source with separators, from a token on. -/
theorem chain_mk (l : List UInt8) (more : List Int) (ts : List (Nat × Int × List UInt8 × Nat)) : ∀ (q i j : Nat) (k : Int) (t : List UInt8) (n : Nat), q ≤ l.length → Ch q (l.drop q) ((q, k, t, n) :: ts) none →
    ∃ us, Ch j (mkS l more ts i q) us none ∧ us.map (fun x => (x.2.1, x.2.2.1)) = ((q, k, t, n) :: ts).map (fun x => (x.2.1, x.2.2.1)) := by
  induction ts with
  | nil =>
    intro q i j k t n hq hc
    obtain ⟨_, ht, hc⟩ := hc.inv_tok
    have hn := tok_len ht
    have hend := hc.inv_nil
    generalize hl1 : l.drop q = l1 at *
    have hw : l1.take n ++ l1.drop n = l1 := List.take_append_drop _ _
    have hwl : (l1.take n).length = n := by rw [List.length_take]; omega
    have ht1 : tokS (l1.take n ++ l1.drop n) = some (k, t, (l1.take n).length) := by rw [hw, hwl]; exact ht
    have hext := tok_ext ht1 (rest' := l1.drop n ++ [10]) (by
      cases hr : l1.drop n with
      | nil => right; left; exact ⟨10, [], rfl, .inl (by decide)⟩
      | cons c r => right; right; exact ⟨c, r, r ++ [10], rfl, rfl⟩)
    rw [← List.append_assoc, hw, hwl] at hext
    have hs := sp_le false (l1.drop n)
    have he : sp false (l1.drop n) = (l1.drop n).length := by
      have := congrArg List.length hend
      rw [List.length_drop, List.length_nil] at this
      rw [List.length_drop] at hs ⊢
      omega
    have hnl := sp_nl (l1.drop n) [] he
    have hd2 : (l1 ++ [10]).drop n = l1.drop n ++ [10] := by rw [List.drop_append_of_le_length (by omega)]
    refine ⟨[(j, k, t, n)], ?_, rfl⟩
    simp only [mkS, hl1]
    refine .tok _ _ k t n [] none hext ?_
    have hall : (l1 ++ [10]).drop (n + sp false ((l1 ++ [10]).drop n)) = [] := by
      rw [hd2, hnl]
      apply List.drop_eq_nil_of_le
      rw [List.length_append, List.length_drop]
      simp [sp]
      omega
    rw [hall]
    exact .nil _
  | cons x ts ih =>
    intro q i j k t n hq hc
    obtain ⟨p, k2, t2, n2⟩ := x
    obtain ⟨_, ht, hc⟩ := hc.inv_tok
    have hn := tok_len ht
    rw [List.length_drop] at hn
    have hp : p = q + n + sp false ((l.drop q).drop n) := hc.inv_tok.1
    have hplt : p < l.length := by
      have h1 := tok_len hc.inv_tok.2.1
      rw [List.drop_drop, List.length_drop] at h1
      omega
    have hcp : Ch p (l.drop p) ((p, k2, t2, n2) :: ts) none := by
      rw [List.drop_drop, List.drop_drop] at hc
      rw [List.drop_drop] at hp
      rw [← Nat.add_assoc, ← hp] at hc
      exact hc
    -- what stands behind the token in l, and with separators
    have hrest : (l.drop q).drop n = l.drop (q + n) := List.drop_drop
    rw [hrest] at hp
    have hz := sp_zero (l.drop (q + n))
    rw [List.drop_drop, ← hp] at hz
    have hslt : sp false (l.drop (q + n)) < (l.drop (q + n)).length := by rw [List.length_drop]; omega
    have hgap := sp_gap (l.drop (q + n)) (sepAt more (i) ++ mkS l more ts (i + 1) p) hslt
    have hY : ∃ c r r', l.drop p = c :: r ∧ mkS l more ts (i + 1) p = c :: r' := by
      have hd : l.drop p = l[p] :: l.drop (p + 1) := drop_cons hplt
      refine ⟨l[p], l.drop (p + 1), ?_⟩
      cases ts with
      | nil => exact ⟨l.drop (p + 1) ++ [10], hd, by simp only [mkS]; rw [hd]; rfl⟩
      | cons y ts =>
        obtain ⟨p3, k3, t3, n3⟩ := y
        have h1 := tok_len hcp.inv_tok.2.1
        have h3 := hcp.inv_tok.2.2.inv_tok.1
        refine ⟨(l.drop (p + 1)).take (p3 - p - 1) ++ (sepAt more (i + 1) ++ mkS l more ts (i + 1 + 1) p3), hd, ?_⟩
        simp only [mkS]
        rw [hd, show p3 - p = (p3 - p - 1) + 1 by omega, List.take_succ_cons]
        rfl
    have hspY : sp false (mkS l more ts (i + 1) p) = 0 := by
      obtain ⟨c, r, r', h1, h2⟩ := hY
      rw [h1] at hz
      rw [h2]
      simp only [sp] at hz ⊢
      split at hz
      · omega
      · split at hz
        · omega
        · rename_i g1 g2
          rw [if_neg g1, if_neg g2]
    have hsep := sep_sp (sepAt more i) (mkS l more ts (i + 1) p) (sepAt_mem more i)
    rw [hspY] at hsep
    rw [hsep] at hgap
    have hmk : mkS l more ((p, k2, t2, n2) :: ts) i q = (l.drop q).take n ++ ((l.drop (q + n)).take (sp false (l.drop (q + n))) ++ (sepAt more i ++ mkS l more ts (i + 1) p)) := by
      simp only [mkS]
      rw [show p - q = n + sp false (l.drop (q + n)) by omega, List.take_add, List.drop_drop, List.append_assoc]
    have hwl : ((l.drop q).take n).length = n := by rw [List.length_take, List.length_drop]; omega
    have ht1 : tokS ((l.drop q).take n ++ l.drop (q + n)) = some (k, t, ((l.drop q).take n).length) := by
      rw [← hrest, List.take_append_drop, hwl]; exact ht
    have hext := tok_ext ht1 (rest' := (l.drop (q + n)).take (sp false (l.drop (q + n))) ++ (sepAt more i ++ mkS l more ts (i + 1) p)) (by
      cases hg : (l.drop (q + n)).take (sp false (l.drop (q + n))) with
      | cons c r =>
        right; right
        refine ⟨c, (l.drop (q + n)).drop 1, _, ?_, rfl⟩
        cases hr : l.drop (q + n) with
        | nil => rw [hr] at hg; simp at hg
        | cons a r2 =>
          rw [hr] at hg
          cases hsp : sp false (a :: r2) with
          | zero => rw [hsp] at hg; simp at hg
          | succ m => rw [hsp, List.take_succ_cons] at hg; rw [(List.cons.inj hg).1]; rfl
      | nil =>
        have hs0 : sp false (l.drop (q + n)) = 0 := by
          have := congrArg List.length hg
          rw [List.length_take, List.length_nil] at this
          omega
        rcases sepAt_mem more i with h | h
        · rw [h]
          right; right
          obtain ⟨c, r, r', h1, h2⟩ := hY
          have hpq : p = q + n := by omega
          rw [hpq] at h1 h2
          rw [hpq]
          exact ⟨c, r, r', h1, h2⟩
        · right; left
          obtain ⟨b, r, hb, hg2⟩ := sep_head _ h
          exact ⟨b, r ++ mkS l more ts (i + 1) p, by rw [hb]; rfl, hg2⟩)
    rw [hwl] at hext
    obtain ⟨us, hus, hmap⟩ := ih p (i + 1) (j + n + (sp false (l.drop (q + n)) + ((sepAt more i).length + 0))) k2 t2 n2 (by omega) hcp
    refine ⟨(j, k, t, n) :: us, ?_, ?_⟩
    · rw [hmk]
      refine .tok _ _ k t n us none hext ?_
      have hd : ((l.drop q).take n ++ ((l.drop (q + n)).take (sp false (l.drop (q + n))) ++ (sepAt more i ++ mkS l more ts (i + 1) p))).drop n = (l.drop (q + n)).take (sp false (l.drop (q + n))) ++ (sepAt more i ++ mkS l more ts (i + 1) p) := by
        have := List.drop_left (l₁ := (l.drop q).take n) (l₂ := (l.drop (q + n)).take (sp false (l.drop (q + n))) ++ (sepAt more i ++ mkS l more ts (i + 1) p))
        rwa [hwl] at this
      generalize (l.drop q).take n ++ ((l.drop (q + n)).take (sp false (l.drop (q + n))) ++ (sepAt more i ++ mkS l more ts (i + 1) p)) = X at hd ⊢
      rw [hd, hgap]
      have hX : X.drop (n + (sp false (l.drop (q + n)) + ((sepAt more i).length + 0))) = (X.drop n).drop (sp false (l.drop (q + n)) + ((sepAt more i).length + 0)) := List.drop_drop.symm
      rw [hX, hd]
      have hgl : ((l.drop (q + n)).take (sp false (l.drop (q + n)))).length = sp false (l.drop (q + n)) := by rw [List.length_take]; omega
      have hd2 : ((l.drop (q + n)).take (sp false (l.drop (q + n))) ++ (sepAt more i ++ mkS l more ts (i + 1) p)).drop (sp false (l.drop (q + n)) + ((sepAt more i).length + 0)) = mkS l more ts (i + 1) p := by
        rw [Nat.add_zero, ← List.drop_drop]
        have h1 := List.drop_left (l₁ := (l.drop (q + n)).take (sp false (l.drop (q + n)))) (l₂ := sepAt more i ++ mkS l more ts (i + 1) p)
        rw [hgl] at h1
        rw [h1, List.drop_left]
      rw [hd2]
      exact hus
    · simp only [List.map_cons, hmap]
theorem mkS_chain (l : List UInt8) (more : List Int) (ts : List (Nat × Int × List UInt8 × Nat)) (h : Ch (sp false l) (l.drop (sp false l)) ts none) :
    ∃ us, Ch (sp false (mkS l more ts 0 0)) ((mkS l more ts 0 0).drop (sp false (mkS l more ts 0 0))) us none ∧ us.map (fun x => (x.2.1, x.2.2.1)) = ts.map (fun x => (x.2.1, x.2.2.1)) := by
  have hs := sp_le false l
  cases ts with
  | nil =>
    have hend := h.inv_nil
    have he : sp false l = l.length := by
      have := congrArg List.length hend
      rw [List.length_drop, List.length_nil] at this
      omega
    refine ⟨[], ?_, rfl⟩
    simp only [mkS, List.drop_zero]
    have hnl := sp_nl l [] he
    rw [hnl]
    have : (l ++ [10]).drop (l.length + 1 + sp false []) = [] := by
      apply List.drop_eq_nil_of_le
      simp [sp]
    rw [this]
    exact .nil _
  | cons x ts =>
    obtain ⟨q, k, t, n⟩ := x
    obtain ⟨hq, ht, _⟩ := h.inv_tok
    subst hq
    have hn := tok_len ht
    rw [List.length_drop] at hn
    have hslt : sp false l < l.length := by omega
    have hgap := sp_gap l (sepAt more 0 ++ mkS l more ts 1 (sp false l)) hslt
    have hsep := sep_sp (sepAt more 0) (mkS l more ts 1 (sp false l)) (sepAt_mem more 0)
    obtain ⟨us, hus, hmap⟩ := chain_mk l more ts (sp false l) 1 (sp false l + (sepAt more 0).length) k t n hs h
    have hz : sp false (mkS l more ts 1 (sp false l)) = 0 := by
      have h0 := sp_zero l
      have hd : l.drop (sp false l) = l[sp false l] :: l.drop (sp false l + 1) := drop_cons hslt
      rw [hd] at h0
      have hY : ∃ r', mkS l more ts 1 (sp false l) = l[sp false l] :: r' := by
        cases ts with
        | nil => exact ⟨l.drop (sp false l + 1) ++ [10], by simp only [mkS]; rw [hd]; rfl⟩
        | cons y ts =>
          obtain ⟨p3, k3, t3, n3⟩ := y
          have h3 := h.inv_tok.2.2.inv_tok.1
          refine ⟨(l.drop (sp false l + 1)).take (p3 - sp false l - 1) ++ (sepAt more 1 ++ mkS l more ts 2 p3), ?_⟩
          simp only [mkS]
          rw [hd, show p3 - sp false l = (p3 - sp false l - 1) + 1 by omega, List.take_succ_cons]
          rfl
      obtain ⟨r', hr'⟩ := hY
      rw [hr']
      simp only [sp] at h0 ⊢
      split at h0
      · omega
      · split at h0
        · omega
        · rename_i g1 g2
          rw [if_neg g1, if_neg g2]
    refine ⟨us, ?_, hmap⟩
    simp only [mkS, List.drop_zero, Nat.sub_zero]
    rw [hgap, hsep, hz, Nat.add_zero]
    have hgl : (l.take (sp false l)).length = sp false l := by rw [List.length_take]; omega
    have hd2 : (l.take (sp false l) ++ (sepAt more 0 ++ mkS l more ts (0 + 1) (sp false l))).drop (sp false l + (sepAt more 0).length) = mkS l more ts 1 (sp false l) := by
      rw [← List.drop_drop]
      have h1 := List.drop_left (l₁ := l.take (sp false l)) (l₂ := sepAt more 0 ++ mkS l more ts (0 + 1) (sp false l))
      rw [hgl] at h1
      rw [h1, List.drop_left]
    rw [hd2]
    exact hus
theorem same_texts {us ts : List (Nat × Int × List UInt8 × Nat)} (h : us.map (fun x => (x.2.1, x.2.2.1)) = ts.map (fun x => (x.2.1, x.2.2.1))) (hb : ts.length ≤ 1200) :
    Evt (fun k => leatworklaw03_tokens.f k (ts.map tS) (us.map tS) false) true := by
  have hl : us.length = ts.length := by have := congrArg List.length h; simpa using this
  refine tokens_e _ _ false (by simp [hl]) (by simp; omega) (fun j hj => ?_)
  have hj' : j < ts.length := by simpa using hj
  have e := congrArg (fun z => z[j]?) h
  simp only [List.getElem?_map, List.getElem?_eq_getElem hj', List.getElem?_eq_getElem (show j < us.length by omega), Option.map_some, Option.some.injEq, Prod.mk.injEq] at e
  simp only [List.getD_eq_getElem?_getD, List.getElem?_map, List.getElem?_eq_getElem hj', List.getElem?_eq_getElem (show j < us.length by omega), Option.map_some, Option.getD_some, tS]
  exact ⟨e.1.symm, by rw [e.2], fun hh => by cases hh⟩
theorem spaces_loop (l : List UInt8) (hl : l.length ≤ 400) (more : List Int) (hm : ∀ x ∈ more, 0 ≤ x ∧ x ≤ 255) (fin : ∀ T us, T.length ≤ 4000 → Ch (sp false T) (T.drop (sp false T)) us none → us.length ≤ 1200 → scanF T = (us.map tS, 0, 0)) (all : List (Nat × Int × List UInt8 × Nat)) (hall : all.length ≤ 400)
    (T : List UInt8) (hT : T.length ≤ 4000) (us : List (Nat × Int × List UInt8 × Nat)) (hus : Ch (sp false T) (T.drop (sp false T)) us none) (hmap : us.map (fun x => (x.2.1, x.2.2.1)) = all.map (fun x => (x.2.1, x.2.2.1)))
    (suf : List (Nat × Int × List UInt8 × Nat)) : ∀ (pre : List (Nat × Int × List UInt8 × Nat)) (acc : List UInt8) (last : Nat), all = pre ++ suf → last ≤ l.length → (∀ q ts' e, Ch q (l.drop q) ts' e → ts' = suf → True) →
    (∃ q, Ch q (l.drop q) suf none ∧ last ≤ q ∧ q ≤ l.length) → T = acc ++ mkS l more suf pre.length last →
    Evt (fun k => leatworklaw03_LexSpaces.l0 k (B l) more (all.map tS) (B acc) (last : Int) (pre.length : Int)) true := by
  have hful : us.length = all.length := by have := congrArg List.length hmap; simpa using this
  induction suf with
  | nil =>
    intro pre acc last ha hlast _ hq he
    simp only [List.append_nil] at ha
    subst ha
    apply Evt.succ
    simp only [leatworklaw03_LexSpaces.l0]
    have hx : (B l).extract ((last : Nat) : Int).toNat (B l).size = B (l.drop last) := by
      rw [extract_B, Int.toNat_natCast, size_B, List.take_of_length_le (by rw [List.length_drop]; omega)]
    have hal : acc.length ≤ 4000 := by rw [he, List.length_append] at hT; omega
    rw [hx]
    refine Evt.neg (by simp) (Evt.pos (by omega) (Evt.pos (by rw [size_B]; omega) (Evt.pos (by rw [size_B, size_B, List.length_drop]; omega) (Evt.pos (by rw [append_B, size_B, List.length_append, List.length_drop]; omega) ?_))))
    have e1 : (B acc ++ B (l.drop last)) ++ (⟨#[10]⟩ : ByteArray) = B T := by
      have : (⟨#[10]⟩ : ByteArray) = B [10] := rfl
      rw [this, append_B, append_B, he]
      simp [mkS]
    rw [e1]
    have hs := scan_e T (by omega)
    rw [fin T us hT hus (by omega)] at hs
    exact Evt.bind hs (Evt.pos rfl (Evt.bind (same_texts hmap (by omega)) (Evt.pos rfl (Evt.bind alive_e (Evt.pure _)))))
  | cons x suf ih =>
    intro pre acc last ha hlast _ hq he
    obtain ⟨q, hq, hlq, hql⟩ := hq
    obtain ⟨p, k, t, n⟩ := x
    obtain ⟨rfl, ht, hc⟩ := hq.inv_tok
    have hn := tok_len ht
    rw [List.length_drop] at hn
    have hlen : ((all.map tS).length : Int) = (pre.length + suf.length + 1 : Nat) := by rw [ha]; simp; omega
    have hget : rd_T32 (all.map tS) (pre.length : Int) = tS (p, k, t, n) := by
      rw [ha]; simp [rd_T32, List.getD_eq_getElem?_getD]
    have hs := sp_le false ((l.drop p).drop n)
    rw [List.drop_drop, List.length_drop] at hs
    rw [List.drop_drop] at hc
    have hpl : pre.length + suf.length + 1 ≤ 400 := by rw [ha] at hall; simp at hall; omega
    have hal : acc.length ≤ 4000 := by rw [he, List.length_append] at hT; omega
    have next := ih (pre ++ [(p, k, t, n)]) (acc ++ (l.drop last).take (p - last) ++ sepAt more pre.length) p (by rw [ha]; simp) (by omega) (fun _ _ _ _ _ => trivial)
      ⟨p + n + sp false (l.drop (p + n)), by rw [List.drop_drop, ← Nat.add_assoc] at hc; exact hc, by omega, by omega⟩ (by rw [he]; simp [mkS])
    have hw1 : wrap64 ((pre.length : Int) + 1) = (((pre ++ [(p, k, t, n)]).length : Nat) : Int) := by rw [w64s _ (by omega)]; simp
    have hx : (B l).extract ((last : Nat) : Int).toNat ((p : Nat) : Int).toNat = B ((l.drop last).take (p - last)) := by rw [extract_mid]
    have hxl : ((l.drop last).take (p - last)).length ≤ 400 := by rw [List.length_take, List.length_drop]; omega
    apply Evt.succ
    simp only [leatworklaw03_LexSpaces.l0]
    rw [hlen, hget]
    simp only [tS]
    simp only [hx, hw1]
    refine Evt.pos (by omega) (Evt.pos (by omega) (Evt.pos (by omega) (Evt.pos (by omega) (Evt.pos (by rw [size_B]; omega) (Evt.pos (by rw [size_B, size_B]; omega) ?_)))))
    by_cases hmore : pre.length < more.length
    · have hmem : more[pre.length] ∈ more := List.getElem_mem hmore
      have hb := hm _ hmem
      have hrd : rd more (pre.length : Int) = more[pre.length] := by simp [rd, List.getD_eq_getElem?_getD, hmore]
      have hgd : more.getD pre.length 0 = more[pre.length] := by simp [List.getD_eq_getElem?_getD, hmore]
      have hmod : 0 ≤ Int.tmod more[pre.length] 5 ∧ Int.tmod more[pre.length] 5 < 5 := ⟨Int.tmod_nonneg _ hb.1, Int.tmod_lt_of_pos _ (by decide)⟩
      refine Evt.pos (by omega) (Evt.bind (Evt.pure _) ?_)
      rw [hrd]
      have hys : rdOf ByteArray.empty [(⟨#[32]⟩ : ByteArray), (⟨#[10]⟩ : ByteArray), (⟨#[9]⟩ : ByteArray), (⟨#[37, 32, 88, 61, 10]⟩ : ByteArray), (⟨#[32, 32]⟩ : ByteArray)] (Int.tmod more[pre.length] 5) = B (sepAt more pre.length) := by
        have hcast : ∀ m : Int, 0 ≤ m → m < 5 → rdOf ByteArray.empty [(⟨#[32]⟩ : ByteArray), (⟨#[10]⟩ : ByteArray), (⟨#[9]⟩ : ByteArray), (⟨#[37, 32, 88, 61, 10]⟩ : ByteArray), (⟨#[32, 32]⟩ : ByteArray)] m = B (seps.getD m.toNat []) := by
          intro m h0 h5
          have : m = 0 ∨ m = 1 ∨ m = 2 ∨ m = 3 ∨ m = 4 := by omega
          rcases this with rfl | rfl | rfl | rfl | rfl <;> rfl
        rw [hcast _ hmod.1 hmod.2]
        unfold sepAt
        rw [if_pos hmore, hgd]
      rw [hys]
      have h5 := sep_len more pre.length
      refine Evt.pos hmod.1 (Evt.pos (by simp only [List.length_cons, List.length_nil]; omega) (Evt.pos (by rw [append_B, size_B, size_B, List.length_append]; omega) ?_))
      rw [append_B, append_B]
      exact next
    · have hsep : sepAt more pre.length = [] := by unfold sepAt; rw [if_neg hmore]
      rw [hsep, List.append_nil] at next
      refine Evt.neg (by omega) ?_
      rw [append_B]
      exact next
theorem LexSpaces : leatworklaw03_LexSpaces.Pure := by
  intro a0 l1 h0 hm hm2 hw
  rw [← B_L a0] at *
  generalize L a0 = l at *
  rw [size_B] at h0
  apply Evt.ex
  unfold leatworklaw03_LexSpaces.f
  by_cases h : l.length > 400
  · exact Evt.pos (by rw [size_B]; omega) (Evt.bind alive_e (Evt.pure _))
  · refine Evt.neg (by rw [size_B]; omega) ?_
    obtain ⟨ts, e, hc, hf, hs⟩ := scanF_ch l (by omega)
    have hsc := scan_e l (by omega)
    rw [hs] at hsc
    refine Evt.bind hsc ?_
    cases e with
    | some j => exact Evt.neg (show ¬ ((2 : Int) = 0) by decide) (Evt.bind alive_e (Evt.pure _))
    | none =>
      refine Evt.pos rfl ?_
      obtain ⟨us, hus, hmap⟩ := mkS_chain l l1 ts hc
      have hsl := sp_le false l
      have hlen := mkS_len l l1 ts 0 0 (by omega) (sp false l) ts none hc rfl (by omega) hsl
      have hb : ∀ x ∈ l1, 0 ≤ x ∧ x ≤ 255 := by
        intro x hx
        have := hw x hx
        simp only [Lit.wf, IntKind.min, IntKind.max, IntKind.signed, IntKind.bits, Bool.and_eq_true, decide_eq_true_eq] at this
        simp at this
        omega
      have fin : ∀ T us, T.length ≤ 4000 → Ch (sp false T) (T.drop (sp false T)) us none → us.length ≤ 1200 → scanF T = (us.map tS, 0, 0) := by
        intro T us hT hc hu
        unfold scanF
        rw [if_neg (by omega), hc.scan T [] rfl (sp_le false T) (by simp; omega)]
        simp
      have := spaces_loop l (by omega) l1 hb fin ts (by omega) (mkS l l1 ts 0 0) (by omega) us hus hmap ts [] [] 0 rfl (by omega) (fun _ _ _ _ _ => trivial) ⟨sp false l, hc, by omega, hsl⟩ (by simp)
      have hB : (⟨#[]⟩ : ByteArray) = B [] := rfl
      rw [hB]
      simpa using this
end Go.Proofs.YtakcnogmljbaiaaDoor.Pure
