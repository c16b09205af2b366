/-
  The abstract machine as a program; deferred calls; known calls.
-/
import Derived.Test.YtfbppkjjdbkedaaGreatDoorRefB
import Derived.Recover
/-
  The abstract machine as a program: operations that may call; lists of operations.
-/
namespace Go.Proofs.YtfbppkjjdbkedaaGreatDoor.Ref
noncomputable section
open Go
set_option linter.unusedVariables false
variable {X : Cx}

/-- What an operation comes to: a state, or a panic. -/
inductive Out where
  | go (S : ASt)
  | stop (d : D) (S : ASt)
/-- The operation comes to it. -/
def OPC (X : Cx) (S : ASt) (o : Oper) (out : Out) : Prop :=
  ∀ g β R Os a w, g.G = X.G → StR g β R Os S a w → ∀ (K : Act → World → Prop) (Q : Exit → Act → World → Prop), (∀ S' β' R' Os' a' w', out = .go S' → StR g β' R' Os' S' a' w' → K a' w') →
    (∀ d S' β' R' Os' w' c, out = .stop d S' → StR g β' R' Os' S' a w' → ExOk β' w' R' (.pan d) (.panic c) → Q (.panic c) a w') → o.wp X.P a w K Q
theorem opc_res {S S' : ASt} {o : Oper} (h : RES X S o S') : OPC X S o (.go S') := by
  intro g β R Os a w hG hs K Q hK hQ
  obtain ⟨v, w', β', R', Os', h1, h2⟩ := h g β R Os a w hG hs
  unfold Oper.wp
  rcases h1 with h1 | ⟨h1, rfl⟩ <;> rw [h1]
  · exact hK _ _ _ _ _ _ rfl h2
  · exact hK _ _ _ _ _ _ rfl h2
theorem OPC.pre {S S1 : ASt} {o : Oper} {out : Out} (hw : Wk S S1) (h : OPC X S1 o out) : OPC X S o out := fun g β R Os a w hG hs => by
  obtain ⟨β', R', Os', h1⟩ := hw g β R Os a w hs
  exact h g β' R' Os' a w hG h1
theorem OPC.post {S S1 S' : ASt} {o : Oper} (h : OPC X S o (.go S1)) (hw : Wk S1 S') : OPC X S o (.go S') := fun g β R Os a w hG hs K Q hK hQ => by
  refine h g β R Os a w hG hs K Q ?_ (fun d S2 β' R' Os' w' c e => by cases e)
  intro S2 β' R' Os' a' w' e h2
  injection e with e
  subst e
  obtain ⟨β2, R2, Os2, h3⟩ := hw g β' R' Os' a' w' h2
  exact hK _ _ _ _ _ _ rfl h3

theorem opc_call {S S1 : ASt} {o : Oper} {c : Call} {f : Operand} {k : FuncId} {caps ds bs : List D} {r : ARes} (ho : o.op = .call c) (hc : c.callee = .value f)
    (hf : S.ev X.G f = some (.d (.fn k caps))) (hE : Enters X k) (hargs : S.args X.G c.args.toList = some (ds, S1)) (hct : CT X k (ds ++ caps) S1.boxes (fun r' b' => r' = r ∧ b' = bs)) (ht : ∀ t, o.dst = some t → t < S1.n) :
    OPC X S o (match r with | .ret d => .go ((S1.back bs).putO o.dst (.d d)) | .pan d => .stop d (S1.back bs)) := by
  intro g β R Os a w hG h K Q hK hQ
  obtain ⟨xs, m1, m2⟩ := evalR h (by rw [hG]; exact hf) rfl
  simp only [packs] at m1
  simp only [Rel] at m2
  obtain ⟨vs, m3, m4⟩ := m2
  rw [m1] at m3
  injection m3 with m3
  obtain ⟨Os', Oa, k1, k2, k3, k4⟩ := args_ok _ h (by rw [hG]; exact hargs)
  have hrun : (execOp a.eval o).run X.P w = .ok (.enter k (c.args.map a.eval ++ vs)) w := by
    unfold execOp
    simp [ho, resolve, hc, m3, Deferred.ofValue, invoke, enters_run hE]
  have hRa : Disj R Oa := fun x hx hy => by obtain ⟨q, hq⟩ := k4 x hy; exact h.apart q x hx hq
  have hOa : ∀ x, Oa x → x < w.heap.size ∧ (g.O x ∨ g.w.heap.size ≤ x) := fun x hx => by obtain ⟨q, hq⟩ := k4 x hx; exact h.own q x hq
  unfold Oper.wp
  rw [hrun, Oper.upon_enter]
  have hcall := hct β w R Oa (fun i => Os' (.box i)) ((c.args.toList.map a.eval) ++ vs.toList) (relVV_append _ _ _ _ _ k2 (relVV_of_vs _ _ _ m4)) k1.boxes (fun i j hij => k1.disj _ _ (by simpa using hij)) (fun i x hx hy => (k3 _ x hy).2 hx)
    hRa (fun i => k1.apart _) (fun x hx => (k1.read x hx).1) (fun x hx => (hOa x hx).1) (fun i x hx => (k1.own _ x hx).1) (by rw [← hG]; exact k1.glob) (fun b q => (k1.ext b).2 q)
  have hargs' : ((c.args.toList.map a.eval) ++ vs.toList).toArray = c.args.map a.eval ++ vs := by
    apply Array.ext'; simp
  rw [hargs'] at hcall
  refine hcall.mono ?_
  rintro e w' ⟨r', bs', R', Or, Ob', ⟨rfl, rfl⟩, hb⟩
  have hst := k1.back hb (fun q x hq => (k3 q x hq).2) hOa hRa
  cases r' with
  | pan d =>
    cases e with
    | panicked chain =>
      obtain ⟨v, q1, q2⟩ := hb.ret
      exact hQ d _ β R' _ w' chain rfl hst ⟨v, q1, q2⟩
    | returned v => exact hb.ret.elim
    | outgrown => exact hb.ret.elim
  | ret d =>
    cases e with
    | panicked chain => exact hb.ret.elim
    | outgrown => exact hb.ret.elim
    | returned v =>
      have hv : RelV β w' R' d v Or := hb.ret
      cases hd : o.dst with
      | none =>
        exact hK _ β R' _ _ _ (by rw [hd]; rfl) hst
      | some t =>
        have hts : t < a.tmps.size := Nat.lt_of_lt_of_le (ht t hd) k1.size
        refine hK _ β R' _ _ _ (by rw [hd]; rfl) (hst.putX (Grow.refl w') (fun _ x => x) (fun _ x => .inl x) hts hv ?_ hb.d1)
        intro x hx
        obtain ⟨q1, q2⟩ := hb.ownr x hx
        refine ⟨q1, ?_, ?_⟩
        · rcases q2 with q2 | ⟨i, q2⟩ | q2
          · exact (hOa x q2).2
          · exact (k1.own _ x q2).2
          · exact .inr (Nat.le_trans h.fr.size q2)
        · intro q _ hq
          cases q with
          | box b => exact hb.d3 b x hx hq
          | slot u =>
            rcases q2 with q2 | ⟨i, q2⟩ | q2
            · exact (k3 _ x hq).2 q2
            · exact k1.disj (.slot u) (.box i) (by simp) x hq q2
            · have := (k1.own _ x hq).1; omega
/-- A function that turns its slice where it lies. -/
theorem opc_mut (hX : X.Ok) {S : ASt} {o : Oper} {c : Call} {f x : Operand} {k : FuncId} {r : Root} {p : List Nat} {c0 d d' : D} (ho : o.op = .call c) (hc : c.callee = .value f) (ha : c.args = #[x]) (hf : S.ev X.G f = some (.d (.fn k []))) (hx : S.src X.G x = some (r, p)) (hc0 : S.cont r = some c0) (hk : c0.okc = true) (hg : D.get p c0 = some d)
    (hM : X.M k d = some d') (ht : ∀ t, o.dst = some t → t < S.n) : OPC X S o (.go ((S.upd r (D.setp p d' c0)).putO o.dst (.d .dead))) := by
  intro g β R Os a w hG h K Q hK hQ
  obtain ⟨xs, m1, m2⟩ := evalR h (by rw [hG]; exact hf) rfl
  simp only [packs] at m1
  simp only [Rel, RelVs] at m2
  obtain ⟨vs, m3, m4⟩ := m2
  rw [m1] at m3
  injection m3 with m3
  have hvs : vs = #[] := by apply Array.ext'; simpa using m4
  subst hvs
  obtain ⟨hE, hmc, hd1, hd2⟩ := hX.mu k d d' hM
  have hat0 : S.at r p = some d := by simp only [ASt.at, hc0]; exact hg
  obtain ⟨d0, pos, pos', s1, s2, s3, s4⟩ := src_ok h (by rw [hG]; exact hx) hat0
  have hd0 : d0 = c0 := by
    have := root_cont s1
    rw [hc0] at this
    injection this with this
    exact this.symm
  subst hd0
  obtain ⟨O, t1, t2, t3⟩ := root_at h s1
  have hRO : Disj R O := fun x a b => h.apart r x a (t2 x b)
  have hpp : ∀ x, pos.isIn x → ¬ O x ∧ ¬ R x := fun x hx => ⟨(t3 x hx).2, fun hR => h.apart r x hR (t3 x hx).1⟩
  obtain ⟨Oe, Or, a1, a2, a3, a4, a5, a5', a6⟩ := lens_walk p d0 d pos pos' O t1 hRO hpp s2
  have hone : d.nc = 1 := by cases d <;> simp [D.isHdr] at hd1 <;> rfl
  have hone' : d'.nc = 1 := by cases d' <;> simp [D.isHdr] at hd2 <;> rfl
  have hrel := at_one hone a4 s3
  have hrun : (execOp a.eval o).run X.P w = .ok (.enter k #[a.eval x]) w := by
    unfold execOp
    simp [ho, resolve, hc, ha, m3, Deferred.ofValue, invoke, enters_run hE]
  unfold Oper.wp
  rw [hrun, Oper.upon_enter]
  have hOe : ∀ y, Oe y → Os r y := fun y hy => t2 y (a1 y hy)
  refine (hmc β w R Oe (a.eval x) hrel (fun y q1 q2 => hRO y q1 (a1 y q2)) (fun y hy => (h.read y hy).1) (fun y hy => (h.own r y (hOe y hy)).1) (by rw [← hG]; exact h.glob)).mono ?_
  rintro e w' ⟨v, R', On, rfl, hT, r1, r2, r3, r4, r5⟩
  have same : ∀ y, y < w.heap.size → ¬ Oe y → w'.heap[y]? = w.heap[y]? := hT.block
  have hposlt : ∀ y, pos.isIn y → y < w.heap.size := fun y hy => (h.own r y (t3 y hy).1).1
  have hposOe : ∀ y, pos.isIn y → ¬ Oe y := fun y hy q => (t3 y hy).2 (a1 y q)
  have hOrlt : ∀ y, Or y → y < w.heap.size := fun y hy => (h.own r y (t2 y (a2 y hy))).1
  have hOn : ∀ y, y < w.heap.size → ¬ Oe y → ¬ On y := fun y q1 q2 q3 => (r3 y q3).elim q2 fun q => by omega
  have hR' : ∀ y, y < w.heap.size → ¬ Oe y → ¬ R y → ¬ R' y := fun y q1 q2 q3 q4 => by
    rcases r2 y q4 with q | q | q
    · exact q3 q
    · exact q2 q
    · omega
  have hat : At β w' R' d' pos' On := by
    cases pos' with
    | slot c' =>
      simp only [Pos.val, Option.some.injEq] at s3
      rw [← s3] at r5
      exact r5
    | mem b off =>
      obtain ⟨cs, k1, k2, k3, k4⟩ := a4
      have hl := Rel.len _ _ _ k2
      rw [hone] at hl
      have hb : b < w.heap.size := cell_lt s3
      match cs, hl with
      | [y], _ =>
        have hy : y = a.eval x := by
          have := k1.cell 0 (by simp)
          simp only [Nat.add_zero, List.getElem?_cons_zero] at this
          have s3 : w.cell? ⟨b, off, none⟩ = some (a.eval x) := s3
          rw [s3] at this
          injection this with this
          exact this.symm
        subst hy
        exact ⟨[a.eval x], k1.keep (same b hb k3), r5, hOn b hb k3, hR' b hb k3 k4⟩
  have hsame : OutSame w w' pos' d.nc (fun y => R y ∨ Or y ∨ pos.isIn y) := by
    intro y hy
    refine .inl (same y ?_ ?_)
    · rcases hy with hy | hy | hy
      · exact (h.read y hy).1
      · exact hOrlt y hy
      · exact hposlt y hy
    · rcases hy with hy | hy | hy
      · exact fun q => hRO y hy (a1 y q)
      · exact fun q => a3 y q hy
      · exact hposOe y hy
  obtain ⟨f1, f2⟩ := a6 β w' R' d' On (fun _ _ x => x) r1 (hone'.trans hone.symm) hsame hat (fun y q1 q2 => hOn y (hOrlt y q2) (fun q => a3 y q q2) q1) (fun y q1 q2 => hR' y (hOrlt y q2) (fun q => a3 y q q2) (fun q => hRO y q (a2 y q2)) q1) (fun y hy => hOn y (hposlt y hy) (hposOe y hy)) (fun y hy => hR' y (hposlt y hy) (hposOe y hy) (hpp y hy).2)
  have hposR : ∀ y, pos.isIn y → ¬ R' y := fun y hy => hR' y (hposlt y hy) (hposOe y hy) (hpp y hy).2
  have key : StR g β R' (Os.upd r (fun y => (Os r y ∧ ¬ R' y) ∨ On y)) (S.upd r (D.setp p d' d0)) a w' := by
    have hhdr : ∀ t, r = .slot t → (D.setp p d' d0).isHdr = true := by
      intro t ht
      subst ht
      by_cases hp : p = []
      · subst hp; exact hd2
      · cases s1 with
        | slot h1 h2 h3 => exact setp_hdr hp h2
    refine h.turn s1 ⟨hT.os, hT.tape, hT.output, hT.size, fun y q1 q2 => same y q1 fun q => q2 (hOe y q)⟩ r1 (fun y hy => ?_) (fun y hy => ?_) (fun y q1 q2 => ?_) (put_back s1 f1 (setp_okc hk (by cases d' <;> simp [D.isHdr] at hd2 <;> rfl)) ?_ ?_ hhdr ?_) ?_
    · rcases r2 y hy with q | q | q
      · exact .inl q
      · exact .inr (.inl (hOe y q))
      · exact .inr (.inr q)
    · rcases hy with hy | hy
      · exact .inl hy.1
      · rcases r3 y hy with q | q
        · exact .inl (hOe y q)
        · exact .inr q
    · rcases q2 with q2 | q2
      · exact q2.2 q1
      · exact r4 y q1 q2
    · rintro y (hy | hy)
      · exact .inl ⟨t2 y (a2 y hy), hR' y (hOrlt y hy) (fun q => a3 y q hy) (fun q => hRO y q (a2 y hy))⟩
      · exact .inr hy
    · intro y hy
      exact .inl ⟨(t3 y hy).1, hposR y hy⟩
    · intro b hb
      subst hb
      obtain ⟨all2, T2, n3, hs2⟩ := root_block h s1
      exact ⟨all2, T2, by rw [same b (hposlt b rfl) (hposOe b rfl)]; exact n3, by rw [hs2, f2]⟩
    · cases r with
      | slot t => exact .inl (hhdr t rfl)
      | box b => trivial
  cases hd : o.dst with
  | none => exact hK _ β R' _ _ _ (by rw [hd]; rfl) key
  | some t =>
    have hts : t < a.tmps.size := Nat.lt_of_lt_of_le (ht t hd) h.size
    exact hK _ β R' _ _ _ (by rw [hd]; rfl) (key.putD (Grow.refl w') (fun _ x => x) (fun _ x => .inl x) hts (d := .dead) (On := Blk.emp) trivial (fun x hx => hx.elim) (fun _ _ x => x))
theorem opc_panic {S : ASt} {o : Oper} {x : Operand} {t : TypeId} {d : D} (ho : o.op = .panic x) (hx : S.ev X.G x = some (.d (.ifc t d))) : OPC X S o (.stop (.ifc t d) S) := by
  intro g β R Os a w hG h K Q hK hQ
  have hv := evalR h (by rw [hG]; exact hx) rfl
  have hv' := hv
  obtain ⟨xs, m1, m2⟩ := hv
  simp only [packs] at m1
  simp only [Rel] at m2
  obtain ⟨c, ys, m3, _⟩ := m2
  rw [m1] at m3
  injection m3 with m3
  have hrun : (execOp a.eval o).run X.P w = .halt (.panic (a.eval x)) w := by
    rw [m3]
    simp [execOp, ho, Instr.panic, m3, goPanic, Sem.run]
  unfold Oper.wp
  rw [hrun]
  exact hQ _ S β R Os w _ rfl h ⟨_, rfl, hv'⟩
end
end Go.Proofs.YtfbppkjjdbkedaaGreatDoor.Ref
/-
  The abstract machine: calls that look at what is ours, and leave it.
-/
namespace Go.Proofs.YtfbppkjjdbkedaaGreatDoor.Ref
noncomputable section
open Go
set_option linter.unusedVariables false
variable {X : Cx}

mutual
/-- It looks at nothing that others hold. -/
def D.nr : D → Bool
  | .v _ => true
  | .agg ds => D.nrL ds
  | .own _ _ ds => D.nrL ds
  | .cell d => D.nr d
  | .tup ds => D.nrL ds
  | .und => true
  | .dead => true
  | _ => false
def D.nrL : List D → Bool
  | [] => true
  | d :: ds => D.nr d && D.nrL ds
end
mutual
theorem Rel.nr {β β' : Env} {w : World} {R R' : Blk} : ∀ (d : D) (cs : List Value) (O : Blk), d.nr = true → Rel β' w R' d cs O → Rel β w R d cs O
  | .v x, cs, O, hl, h => by simp only [Rel] at h ⊢; exact h
  | .agg ds, cs, O, hl, h => by simp only [Rel, D.nr] at h hl ⊢; exact RelL.nr ds cs O hl h
  | .own nn sz ds, cs, O, hl, h => by
    simp only [Rel, D.nr] at h hl ⊢
    rcases h with h | ⟨b, off, len, cap, all, T, O1, h1, h2, h3, h4, h5, h6, h7, h8, h9, h10⟩
    · exact .inl h
    exact .inr ⟨b, off, len, cap, all, T, O1, h1, h2, h3, h4, h5, h6, h7, h8, h9, RelL.nr ds _ _ hl h10⟩
  | .cell d, cs, O, hl, h => by
    simp only [Rel, D.nr] at h hl ⊢
    obtain ⟨b, all, T, O1, h1, h2, h3, h4, h5, h6⟩ := h
    exact ⟨b, all, T, O1, h1, h2, h3, h4, h5, Rel.nr d _ _ hl h6⟩
  | .tup ds, cs, O, hl, h => by simp only [Rel] at h
  | .und, cs, O, hl, h => by simp only [Rel] at h
  | .dead, cs, O, hl, h => by simp only [Rel] at h ⊢; exact h
  | .row _ _ _, cs, O, hl, h | .fz _, cs, O, hl, h | .ref _ _ _, cs, O, hl, h | .mapo _ _, cs, O, hl, h | .fmp _ _, cs, O, hl, h | .fn _ _, cs, O, hl, h | .ifc _ _, cs, O, hl, h => by simp [D.nr] at hl
theorem RelL.nr {β β' : Env} {w : World} {R R' : Blk} : ∀ (ds : List D) (cs : List Value) (O : Blk), D.nrL ds = true → RelL β' w R' ds cs O → RelL β w R ds cs O
  | [], cs, O, hl, h => by simp only [RelL] at h ⊢; exact h
  | d :: ds, cs, O, hl, h => by
    simp only [RelL, D.nrL, Bool.and_eq_true] at h hl ⊢
    obtain ⟨c1, c2, O1, O2, h1, h2, h3, h4, h5, h6⟩ := h
    exact ⟨c1, c2, O1, O2, h1, Rel.nr d c1 O1 hl.1 h2, RelL.nr ds c2 O2 hl.2 h3, h4, h5, h6⟩
theorem RelVs.nr {β β' : Env} {w : World} {R R' : Blk} : ∀ (ds : List D) (cs : List Value) (O : Blk), D.nrL ds = true → RelVs β' w R' ds cs O → RelVs β w R ds cs O
  | [], cs, O, hl, h => by simp only [RelVs] at h ⊢; exact h
  | d :: ds, cs, O, hl, h => by
    simp only [RelVs, D.nrL, Bool.and_eq_true] at h hl ⊢
    obtain ⟨c, cs', xs, O1, O2, h1, h0, h2, h3, h4, h5, h6⟩ := h
    exact ⟨c, cs', xs, O1, O2, h1, h0, Rel.nr d xs O1 hl.1 h2, RelVs.nr ds cs' O2 hl.2 h3, h4, h5, h6⟩
end
theorem RelV.nr {β β' : Env} {w : World} {R R' O : Blk} {d : D} {c : Value} (hl : d.nr = true) (h : RelV β' w R' d c O) : RelV β w R d c O := by
  cases d with
  | tup ds => obtain ⟨vs, h1, h2⟩ := h; exact ⟨vs, h1, RelVs.nr ds _ _ (by simpa [D.nr] using hl) h2⟩
  | und => exact h
  | dead => exact trivial
  | _ => obtain ⟨xs, h1, h2⟩ := h; exact ⟨xs, h1, Rel.nr _ _ _ hl h2⟩

/-- An argument as one looks at it. -/
def ASt.view (G : Nat → Option D) (S : ASt) (x : Operand) : Option D := match S.ev G x with
  | some (.d d) => if d.ro then some d else if d.okc then some d.frz else none
  | some (.u true r p) => match S.at r p with
    | some e => if e.isHdr then some e.frz else none
    | none => none
  | _ => none
def ASt.views (G : Nat → Option D) (S : ASt) : List Operand → Option (List D)
  | [] => some []
  | x :: l => match S.view G x, S.views G l with
    | some d, some ds => if d.lo 0 then some (d :: ds) else none
    | _, _ => none
/-- All that is ours, and all that nobody turns. -/
def allB (R : Blk) (Os : Own) : Blk := fun x => R x ∨ ∃ q, Os q x
theorem view_ok {g : Gh} {β : Env} {R : Blk} {Os : Own} {S : ASt} {a : Act} {w : World} (h : StR g β R Os S a w) {x : Operand} {d : D} (hv : S.view g.G x = some d) : RelV β w (allB R Os) d (a.eval x) Blk.emp := by
  unfold ASt.view at hv
  split at hv
  · rename_i d0 hx
    split at hv
    · rename_i hr
      injection hv with hv; subst hv
      exact (evalR h hx hr).up (fun _ _ x => x) (fun _ x => .inl x) (fun _ _ => rfl) (fun _ _ => rfl) (fun _ x => x)
    · rename_i hr
      split at hv
      · rename_i hk
        injection hv with hv; subst hv
        cases x with
        | tmp t =>
          simp only [ASt.ev] at hx
          obtain ⟨c, n1, n2⟩ := h.slots t d0 hx
          obtain ⟨xs, m1, m2⟩ := n2.okc hk
          have hev : a.eval (.tmp t) = c := by simp [Act.eval, n1]
          rw [hev]
          refine RelV.mk (packs_frz m1) ((Rel.frz d0 xs _ m2).more ?_)
          intro y hy
          exact hy.elim .inl fun hy => .inr ⟨_, hy⟩
        | const v =>
          simp only [ASt.ev] at hx
          split at hx <;> simp at hx
          subst hx
          simp [D.ro] at hr
        | func f => simp [ASt.ev] at hx; subst hx; simp [D.ro] at hr
        | global i =>
          simp only [ASt.ev] at hx
          simp only [Option.map_eq_some_iff, TV.d.injEq] at hx
          obtain ⟨y, _, rfl⟩ := hx
          simp [D.ro] at hr
      · simp at hv
  · rename_i r p hx
    split at hv
    · rename_i e he
      split at hv
      · rename_i hh
        injection hv with hv; subst hv
        have hs : S.src g.G x = some (r, p) := by simp only [ASt.src, hx]
        obtain ⟨d0, pos, pos', k1, k2, k3, k4⟩ := src_ok h hs he
        obtain ⟨O, m1, m2, m3⟩ := root_at h k1
        obtain ⟨O', q1, q2⟩ := at_walk p d0 e pos pos' O m1 (fun y hy ho => h.apart _ y hy (m2 y ho)) k2
        have h1 : e.nc = 1 := by cases e <;> simp [D.isHdr] at hh <;> rfl
        have hrel := at_one h1 q1 k3
        have hp : packs e [a.eval x] (a.eval x) := by cases e <;> simp [D.isHdr] at hh <;> simp [packs]
        refine RelV.mk (packs_frz hp) ((Rel.frz e _ _ hrel).more ?_)
        intro y hy
        exact hy.elim .inl fun hy => .inr ⟨_, m2 y (q2 y hy)⟩
      · simp at hv
    · simp at hv
  · simp at hv
theorem relV_down0 {β β' : Env} {w : World} {R O : Blk} {d : D} {c : Value} (hl : d.lo 0 = true) (h : RelV β' w R d c O) : RelV β w R d c O := h.down (fun b _ hb => absurd hb (Nat.not_lt_zero b)) hl
theorem views_ok {g : Gh} {β β' : Env} {R : Blk} {Os : Own} {S : ASt} {a : Act} {w : World} (h : StR g β R Os S a w) : ∀ (l : List Operand) (ds : List D), S.views g.G l = some ds → RelVV β' w (allB R Os) ds (l.map a.eval) Blk.emp
  | [], ds, hv => by
    simp only [ASt.views, Option.some.injEq] at hv
    subst hv
    simp [RelVV]
  | x :: l, ds, hv => by
    simp only [ASt.views] at hv
    split at hv
    · rename_i d ds' h1 h2
      split at hv
      · rename_i hl
        injection hv with hv; subst hv
        simp only [RelVV, List.map_cons]
        exact ⟨_, _, Blk.emp, Blk.emp, rfl, relV_down0 hl (view_ok h h1), views_ok h l ds' h2, fun _ x => x, fun _ x => x, fun _ x => x.elim⟩
      · simp at hv
    · simp at hv

theorem opc_borrow (hG : ∀ i e, X.G i = some e → e.lo 0 = true) {S : ASt} {o : Oper} {c : Call} {f : Operand} {k : FuncId} {ds : List D} {d : D} (ho : o.op = .call c) (hc : c.callee = .value f)
    (hf : S.ev X.G f = some (.d (.fn k []))) (hE : Enters X k) (hargs : S.views X.G c.args.toList = some ds) (hct : CT X k ds [] (fun r' b' => r' = .ret d ∧ b' = [])) (hn : d.nr = true) (ht : ∀ t, o.dst = some t → t < S.n) :
    OPC X S o (.go (S.putO o.dst (.d d))) := by
  intro g β R Os a w hGG h K Q hK hQ
  obtain ⟨xs, m1, m2⟩ := evalR h (by rw [hGG]; exact hf) rfl
  simp only [packs] at m1
  simp only [Rel, RelVs] at m2
  obtain ⟨vs, m3, m4⟩ := m2
  rw [m1] at m3
  injection m3 with m3
  have hvs : vs = #[] := by apply Array.ext'; simpa using m4
  subst hvs
  have hrun : (execOp a.eval o).run X.P w = .ok (.enter k (c.args.map a.eval)) w := by
    unfold execOp
    simp [ho, resolve, hc, m3, Deferred.ofValue, invoke, enters_run hE]
  unfold Oper.wp
  rw [hrun, Oper.upon_enter]
  have hall : ∀ x, allB R Os x → x < w.heap.size := fun x hx => hx.elim (fun hx => (h.read x hx).1) fun ⟨q, hx⟩ => (h.own q x hx).1
  have hcall := hct (fun _ => none) w (allB R Os) Blk.emp (fun _ => Blk.emp) (c.args.toList.map a.eval) (views_ok h _ _ (by rw [hGG]; exact hargs)) (fun b d hb => by simp at hb) (fun _ _ _ _ hx => hx.elim) (fun _ _ hx => hx.elim) (fun _ _ hx => hx.elim) (fun _ _ _ hx => hx.elim) hall (fun _ hx => hx.elim) (fun _ _ hx => hx.elim)
    (fun i e hi => by
      have hg := h.glob i e (by rw [hGG]; exact hi)
      exact (hg.down0 (β := fun _ => none) (hG i e hi)).up (fun _ _ hh => hh) (fun _ x => .inl x) (fun _ _ => rfl)) (fun _ _ => rfl)
  have hargs' : (c.args.toList.map a.eval).toArray = c.args.map a.eval := by apply Array.ext'; simp
  rw [hargs'] at hcall
  refine hcall.mono ?_
  rintro e w' ⟨r, bs', R', Or, Ob', ⟨rfl, rfl⟩, hb⟩
  have hsame : ∀ x, x < w.heap.size → w'.heap[x]? = w.heap[x]? := fun x hx => hb.fr.block x hx fun hh => hh.elim (fun hh => hh.elim) fun ⟨_, hh⟩ => hh.elim
  have hgr : Grow w w' := ⟨hb.fr.os, hb.fr.tape, hb.fr.output, hb.fr.size, hsame⟩
  cases e with
  | panicked chain => exact hb.ret.elim
  | outgrown => exact hb.ret.elim
  | returned v =>
    have hv : RelV β w' R d v Or := RelV.nr hn hb.ret
    have hOr : ∀ x, Or x → w.heap.size ≤ x ∧ x < w'.heap.size := fun x hx => by
      obtain ⟨q1, q2⟩ := hb.ownr x hx
      refine ⟨?_, q1⟩
      rcases q2 with q2 | ⟨_, q2⟩ | q2
      · exact q2.elim
      · exact q2.elim
      · exact q2
    cases hd : o.dst with
    | none =>
      refine hK _ β R Os _ _ rfl ?_
      rw [hd]
      exact h.float (F := Blk.emp) ⟨hgr.os, hgr.tape, hgr.output, hgr.size, fun x hx _ => hgr.block x hx⟩ (fun x hx => hx.elim) (fun q x hx => hx.elim) (fun x hx => hx.elim)
    | some t =>
      have hts : t < a.tmps.size := Nat.lt_of_lt_of_le (ht t hd) h.size
      refine hK _ β R _ _ _ (by rw [hd]; rfl) (h.putX hgr (fun _ x => x) (fun _ x => .inl x) hts hv ?_ (fun x hx ho => by have := (hOr x ho).1; have := (h.read x hx).1; omega))
      intro x hx
      obtain ⟨q1, q2⟩ := hOr x hx
      exact ⟨q2, .inr (Nat.le_trans h.fr.size q1), fun q _ hq => by have := (h.own q x hq).1; omega⟩
end
end Go.Proofs.YtfbppkjjdbkedaaGreatDoor.Ref
/-
  The abstract machine as a program: regions, code, functions.
-/
namespace Go.Proofs.YtfbppkjjdbkedaaGreatDoor.Ref
noncomputable section
open Go
set_option linter.unusedVariables false
variable {X : Cx}

/-- What is known of functions: called so, the boxes being so, it comes to so much. -/
abbrev Tab := FuncId → List D → List D → Option (ARes × List D)
def Tab.Ok (X : Cx) (C : Tab) : Prop := ∀ k ds bs r bs', C k ds bs = some (r, bs') → Enters X k ∧ CT X k ds bs (fun r' b' => r' = r ∧ b' = bs')

def isAl (S : ASt) : Operand → Bool
  | .tmp t => match look S.slots t with
    | some (.u true _ _) => true
    | _ => false
  | _ => false
def prepA (h : Nat) : List Operand → ASt → ASt
  | [], S => S
  | x :: l, S => prepA h l (match h with
    | 1 => S.pull x
    | 2 => S.coolOp x
    | _ => if isAl S x then S.coolOp x else S)
theorem wk_prepA (h : Nat) : ∀ (l : List Operand) (S : ASt), Wk S (prepA h l S)
  | [], S => Wk.refl S
  | x :: l, S => by
    simp only [prepA]
    refine Wk.trans ?_ (wk_prepA h l _)
    split
    · exact wk_pull S x
    · exact wk_coolOp S x
    · split
      · exact wk_coolOp S x
      · exact Wk.refl S
def asF : Option TV → Option (FuncId × List D)
  | some (.d (.fn k caps)) => some (k, caps)
  | _ => none
theorem asF_eq {x : Option TV} {k : FuncId} {caps : List D} (h : asF x = some (k, caps)) : x = some (.d (.fn k caps)) := by unfold asF at h; split at h <;> simp at h; rw [h.1, h.2]
def dstOk (S : ASt) : Option Nat → Bool
  | some t => decide (t < S.n)
  | none => true
def callE (X : Cx) (C : Tab) (S : ASt) (h : Nat) (o : Oper) (c : Call) (f : Operand) : Option Out :=
  let S0 := prepA h c.args.toList S
  bd (asF (S0.ev X.G f)) fun kc => bd (S0.args X.G c.args.toList) fun ds => gd (dstOk ds.2 o.dst) <| bd (C kc.1 (ds.1 ++ kc.2) ds.2.boxes) fun rb => match rb.1 with
    | .ret d => bd (postS ((ds.2.back rb.2).putO o.dst (.d d)) h o.dst) fun S' => some (.go S')
    | .pan d => some (.stop d (ds.2.back rb.2))
theorem callE_ok {C : Tab} (hC : C.Ok X) {S : ASt} {h : Nat} {o : Oper} {c : Call} {f : Operand} {out : Out} (ho : o.op = .call c) (hc : c.callee = .value f) (he : callE X C S h o c f = some out) : OPC X S o out := by
  obtain ⟨⟨k, caps⟩, hf, he⟩ := bd_eq he
  obtain ⟨⟨ds, S1⟩, hargs, he⟩ := bd_eq he
  obtain ⟨hd, he⟩ := gd_eq he
  obtain ⟨⟨r, bs⟩, hcall, he⟩ := bd_eq he
  obtain ⟨hE, hct⟩ := hC _ _ _ _ _ hcall
  have ht : ∀ t, o.dst = some t → t < S1.n := fun t h1 => by simp only [dstOk, h1, decide_eq_true_eq] at hd; exact hd
  have main := (opc_call ho hc (asF_eq hf) hE hargs hct ht).pre (wk_prepA h c.args.toList S)
  cases r with
  | ret d =>
    obtain ⟨S', h1, he⟩ := bd_eq he
    injection he with he; subst he
    exact main.post (wk_postS h1)
  | pan d =>
    injection he with he; subst he
    exact main
/-- A call that looks at what is ours, and leaves it. -/
def borE (X : Cx) (C : Tab) (S : ASt) (o : Oper) (c : Call) (f : Operand) : Option Out := bd (asF (S.ev X.G f)) fun kc => bd (S.views X.G c.args.toList) fun ds => gd (dstOk S o.dst) <| match kc.2 with
  | [] => bd (C kc.1 ds []) fun rb => match rb with
    | (.ret d, []) => gd d.nr (some (.go (S.putO o.dst (.d d))))
    | _ => none
  | _ => none
theorem borE_ok (hX : X.Ok) {C : Tab} (hC : C.Ok X) {S : ASt} {o : Oper} {c : Call} {f : Operand} {out : Out} (ho : o.op = .call c) (hc : c.callee = .value f) (he : borE X C S o c f = some out) : OPC X S o out := by
  obtain ⟨⟨k, caps⟩, hf, q1⟩ := bd_eq he
  obtain ⟨ds, hargs, q2⟩ := bd_eq q1
  obtain ⟨hd, q3⟩ := gd_eq q2
  have ht : ∀ t, o.dst = some t → t < S.n := fun t h1 => by simp only [dstOk, h1, decide_eq_true_eq] at hd; exact hd
  split at q3
  · rename_i hcaps
    simp only at hcaps
    subst hcaps
    obtain ⟨⟨r, bs⟩, hcall, q4⟩ := bd_eq q3
    obtain ⟨hE, hct⟩ := hC _ _ _ _ _ hcall
    split at q4
    · rename_i d hrb
      injection hrb with e1 e2
      subst e1 e2
      obtain ⟨hn, q5⟩ := gd_eq q4
      injection q5 with q5; subst q5
      exact opc_borrow hX.gl ho hc (asF_eq hf) hE hargs hct hn ht
    · simp at q4
  · simp at q3
def asIfc : Option TV → Option (TypeId × D)
  | some (.d (.ifc t d)) => some (t, d)
  | _ => none
theorem asIfc_eq {x : Option TV} {t : TypeId} {d : D} (h : asIfc x = some (t, d)) : x = some (.d (.ifc t d)) := by unfold asIfc at h; split at h <;> simp at h; rw [h.1, h.2]
/-- The first place of a byte in a string, by the model's own entry. -/
def extO (X : Cx) (S : ASt) (o : Oper) (c : Call) (f : Operand) : Option ASt := bd (asF (S.ev X.G f)) fun kc => gd (X.E kc.1) <| match kc.2, c.args with
  | [], ⟨[x, y]⟩ => bd (asS (S.ev X.G x)) fun s => bd (asI (S.ev X.G y)) fun kn => match kn.1 with
    | .u8 => S.fin o (.d (.v (.int .i64 (Lib.indexByte s.data.toList kn.2.toNat.toUInt8))))
    | _ => none
  | _, _ => none
theorem extO_ok (hX : X.Ok) {S S' : ASt} {o : Oper} {c : Call} {f : Operand} (ho : o.op = .call c) (hc : c.callee = .value f) (h : extO X S o c f = some S') : RES X S o S' := by
  obtain ⟨⟨k, caps⟩, hf, q1⟩ := bd_eq h
  obtain ⟨hE, q2⟩ := gd_eq q1
  split at q2
  · rename_i x y h1 h2
    simp only at h1
    subst h1
    obtain ⟨s, hs, q3⟩ := bd_eq q2
    obtain ⟨⟨kd, n⟩, hn, q4⟩ := bd_eq q3
    simp only at q4
    split at q4
    · refine fin_ok ?_ q4
      intro g β R Os a w hG hst
      obtain ⟨fn, e1, e2, e3, e4, e5⟩ := hX.ext k hE
      obtain ⟨xs, m1, m2⟩ := evalR hst (by rw [hG]; exact asF_eq hf) rfl
      simp only [packs] at m1
      simp only [Rel, RelVs] at m2
      obtain ⟨vs, m3, m4⟩ := m2
      rw [m1] at m3
      injection m3 with m3
      have hvs : vs = #[] := by apply Array.ext'; simpa using m4
      subst hvs
      have ex := ev_v hst (by rw [hG]; exact asS_eq hs)
      have ey := ev_v hst (by rw [hG]; exact asI_eq hn)
      refine came_same (v := .int .i64 (Lib.indexByte s.data.toList n.toNat.toUInt8)) ?_ (RelV.mk (xs := [.int .i64 (Lib.indexByte s.data.toList n.toNat.toUInt8)]) (by simp [packs]) (by simp [Rel, scal]))
      have hr := run_callFunc_extern e1 e2 e3 e4 e5 #[.string s, .int .u8 n] w
      rw [Lib.run_indexByteString] at hr
      simp [execOp, ho, hc, h2, resolve, m3, Deferred.ofValue, invoke, ex, ey, hr, Result.andThen]
    · simp at q4
  · simp at q2
/-- A function that turns its slice where it lies. -/
def mutO (X : Cx) (S : ASt) (o : Oper) (c : Call) (f : Operand) : Option ASt := match c.args with
  | ⟨[x]⟩ => bd (asF (S.ev X.G f)) fun kc => gd (kc.2.isEmpty && dstOk S o.dst) <| bd (S.src X.G x) fun rp => bd (S.cont rp.1) fun c0 => gd c0.okc <| bd (D.get rp.2 c0) fun d => bd (X.M kc.1 d) fun d' => some ((S.upd rp.1 (D.setp rp.2 d' c0)).putO o.dst (.d .dead))
  | _ => none
theorem mutO_ok (hX : X.Ok) {S S' : ASt} {o : Oper} {c : Call} {f : Operand} (ho : o.op = .call c) (hc : c.callee = .value f) (h : mutO X S o c f = some S') : OPC X S o (.go S') := by
  unfold mutO at h
  split at h
  · rename_i x ha
    obtain ⟨⟨k, caps⟩, h1, h⟩ := bd_eq h
    obtain ⟨hb, h⟩ := gd_eq h
    obtain ⟨⟨r, p⟩, h2, h⟩ := bd_eq h
    obtain ⟨c0, h3, h⟩ := bd_eq h
    obtain ⟨h4, h⟩ := gd_eq h
    obtain ⟨d, h5, h⟩ := bd_eq h
    obtain ⟨d', h6, h⟩ := bd_eq h
    injection h with h
    subst h
    rw [Bool.and_eq_true, List.isEmpty_iff] at hb
    obtain ⟨rfl, hb⟩ := hb
    refine opc_mut hX ho hc ha (asF_eq h1) h2 h3 h4 h5 h6 (fun t ht => ?_)
    rw [ht] at hb
    simpa [dstOk] using hb
  · cases h
/-- One operation. -/
def stepO (X : Cx) (C : Tab) (S : ASt) (h : Nat) (o : Oper) : Option Out := match o.op with
  | .panic x => bd (asIfc (S.ev X.G x)) fun td => some (.stop (.ifc td.1 td.2) S)
  | .call c => match c.callee with
    | .value f => match extO X S o c f with
      | some S' => some (.go S')
      | none => match h with
        | 7 => borE X C S o c f
        | 10 => bd (mutO X S o c f) fun S' => some (.go S')
        | _ => callE X C S h o c f
    | _ => bd (opS X S h o) fun S' => some (.go S')
  | _ => bd (opS X S h o) fun S' => some (.go S')
theorem stepO_ok (hX : X.Ok) {C : Tab} (hC : C.Ok X) {S : ASt} {h : Nat} {o : Oper} {out : Out} (he : stepO X C S h o = some out) : OPC X S o out := by
  have fin : (bd (opS X S h o) fun S' => some (Out.go S')) = some out → OPC X S o out := by
    intro he
    obtain ⟨S', h1, he⟩ := bd_eq he
    injection he with he; subst he
    exact opc_res (opS_ok hX h1)
  unfold stepO at he
  split at he
  · rename_i x ho
    obtain ⟨⟨t, d⟩, h1, he⟩ := bd_eq he
    injection he with he; subst he
    exact opc_panic ho (asIfc_eq h1)
  · rename_i c ho
    split at he
    · rename_i f hc
      split at he
      · rename_i S' h1
        injection he with he; subst he
        exact opc_res (extO_ok hX ho hc h1)
      · split at he
        · exact borE_ok hX hC ho hc he
        · obtain ⟨S', h1, he⟩ := bd_eq he
          injection he with he; subst he
          exact mutO_ok hX ho hc h1
        · exact callE_ok hC ho hc he
    · exact fin he
  · exact fin he

/-- Is the operation wanted? -/
def gval (ops : Array Oper) (S : ASt) (o : Oper) : Option Bool := match o.guard with
  | none => some true
  | some (j, want) => match ops.toList[j]? with
    | some o' => match o'.dst with
      | some t => match look S.slots t with
        | some (.d (.v (.bool b))) => some (b == want)
        | some (.d .und) => some false
        | _ => none
      | none => none
    | none => none
theorem gval_ok {g : Gh} {β : Env} {R : Blk} {Os : Own} {S : ASt} {a : Act} {w : World} (h : StR g β R Os S a w) {ops : Array Oper} {o : Oper} {b : Bool} (hg : gval ops S o = some b) : Region.wanted o (yielded ops a.tmps) = b := by
  unfold gval at hg
  unfold Region.wanted
  split at hg
  · rename_i h0
    injection hg with hg; subst hg
    rw [h0]
  · rename_i j want h0
    rw [h0]
    split at hg
    · rename_i o' hj
      rw [Array.getElem?_toList] at hj
      split at hg
      · rename_i t ht
        split at hg
        · rename_i b' hl
          injection hg with hg; subst hg
          obtain ⟨c, k1, xs, k2, k3⟩ := h.slots t _ hl
          simp only [packs] at k2
          subst k2
          simp only [Rel] at k3
          have k3 := k3.2
          injection k3 with k3
          subst k3
          simp only [yielded, hj, Option.bind_some, ht, k1]
          cases b' <;> cases want <;> rfl
        · rename_i hl
          injection hg with hg; subst hg
          obtain ⟨c, k1, k2⟩ := h.slots t _ hl
          have k2 : c = undef := k2
          simp only [yielded, hj, Option.bind_some, ht, k1, k2]
          rfl
        · simp at hg
      · simp at hg
    · simp at hg

/-- Operations one behind the other. -/
def runL (X : Cx) (C : Tab) (H : Nat → Nat) (ops : Array Oper) : Nat → List Oper → ASt → Option (AEx × ASt)
  | _, [], S => some (.normal, S)
  | i, o :: l, S => match gval ops S o with
    | some true => match stepO X C S (H i) o with
      | some (.go S') => runL X C H ops (i + 1) l (S.fixAs S')
      | some (.stop d S') => some (.pan d, S')
      | none => none
    | some false => gd (dstOk S o.dst) (runL X C H ops (i + 1) l (S.fixAs (S.putO o.dst (.d .und))))
    | none => none
theorem StR.und {g : Gh} {β : Env} {R : Blk} {Os : Own} {S : ASt} {a : Act} {w : World} (h : StR g β R Os S a w) {dst : Option Nat} (hd : dstOk S dst = true) : ∃ Os', StR g β R Os' (S.putO dst (.d .und)) (a.put dst undef) w := by
  cases dst with
  | none => exact ⟨Os, h⟩
  | some t =>
    simp only [dstOk, decide_eq_true_eq] at hd
    exact ⟨_, h.putX (Grow.refl w) (fun _ x => x) (fun _ x => .inl x) (On := Blk.emp) (Nat.lt_of_lt_of_le hd h.size) rfl (fun x hx => hx.elim) (fun _ _ hx => hx)⟩
theorem runL_ok (hX : X.Ok) {C : Tab} (hC : C.Ok X) {H : Nat → Nat} {ops : Array Oper} {K : AEx → ASt → Prop} : ∀ (l : List Oper) (i : Nat) (S : ASt) (e : AEx) (S' : ASt), runL X C H ops i l S = some (e, S') → K e S' → AL X ops l K S
  | [], i, S, e, S', h, hK => by
    simp only [runL, Option.some.injEq, Prod.mk.injEq] at h
    obtain ⟨rfl, rfl⟩ := h
    exact al_nil hK
  | o :: l, i, S, e, S', h, hK => by
    intro g β R Os a w hG hs
    simp only [runL, fixAs_eq] at h
    split at h
    · rename_i hg
      have hw := gval_ok hs hg
      split at h
      · rename_i S1 h1
        simp only [wpList, hw, if_true]
        refine .inl (stepO_ok hX hC h1 g β R Os a w hG hs _ _ ?_ (fun d S2 β' R' Os' w' c e => by cases e))
        intro S2 β' R' Os' a' w' e2 h2
        injection e2 with e2
        subst e2
        exact runL_ok hX hC l (i + 1) S1 e S' h hK g β' R' Os' a' w' hG h2
      · rename_i d S1 h1
        injection h with h
        injection h with e1 e2
        subst e1 e2
        simp only [wpList, hw, if_true]
        refine .inl (stepO_ok hX hC h1 g β R Os a w hG hs _ _ (fun S2 β' R' Os' a' w' e => by cases e) ?_)
        intro d' S2 β' R' Os' w' c e2 h2 h3
        injection e2 with e2 e3
        subst e2 e3
        exact ⟨_, _, β', R', Os', hK, h2, h3⟩
      · simp at h
    · rename_i hg
      have hw := gval_ok hs hg
      obtain ⟨hd, h⟩ := gd_eq h
      simp only [wpList, hw, Bool.false_eq_true, if_false]
      obtain ⟨Os', hs'⟩ := hs.und hd
      exact runL_ok hX hC l (i + 1) _ e S' h hK g β R Os' _ w hG hs'
    · simp at h
end
end Go.Proofs.YtfbppkjjdbkedaaGreatDoor.Ref
/-
  The abstract machine as a program: code and functions.
-/
namespace Go.Proofs.YtfbppkjjdbkedaaGreatDoor.Ref
noncomputable section
open Go
set_option linter.unusedVariables false
variable {X : Cx}

def mem (t : Nat) : List Nat → Bool
  | [] => false
  | s :: l => Nat.beq s t || mem t l
/-- The slots that are kept. -/
def keepL (S : ASt) (ks : List Nat) : List Nat → List (Nat × TV)
  | [] => []
  | t :: l => match look S.slots t with
    | none => keepL S ks l
    | some (.u h (.slot s) p) => match mem s ks, look S.slots s with
      | true, some (.d d) => (t, .u h (.slot s) p) :: keepL S ks l
      | _, _ => keepL S ks l
    | some x => (t, x) :: keepL S ks l
theorem keepL_sub (S : ASt) (ks : List Nat) : ∀ (l : List Nat) (t : Nat) (x : TV), look (keepL S ks l) t = some x → look S.slots t = some x ∧ ∀ h s p, x = .u h (.slot s) p → mem s ks = true ∧ ∃ d, look S.slots s = some (.d d)
  | [], t, x, h => by simp [keepL, look_nil, look_cons] at h
  | u :: l, t, x, h => by
    simp only [keepL] at h
    split at h
    · exact keepL_sub S ks l t x h
    · rename_i hh s p hl
      split at h
      · rename_i d hm hs
        simp only [look_nil, look_cons] at h
        split at h
        · rename_i e
          injection h with h
          subst h e
          refine ⟨hl, ?_⟩
          intro h' s' p' e
          injection e with e1 e2 e3
          injection e2 with e2
          subst e2
          exact ⟨hm, d, hs⟩
        · exact keepL_sub S ks l t x h
      · exact keepL_sub S ks l t x h
    · rename_i y hy hl
      simp only [look_nil, look_cons] at h
      split at h
      · rename_i e
        injection h with h
        subst h e
        refine ⟨hl, ?_⟩
        intro h' s' p' e
        exact absurd e (hy _ _ _)
      · exact keepL_sub S ks l t x h
theorem keepL_has (S : ASt) (ks : List Nat) : ∀ (l : List Nat) (t : Nat) (d : D), mem t l = true → look S.slots t = some (.d d) → look (keepL S ks l) t = some (.d d)
  | [], t, d, h, hl => by simp [mem] at h
  | u :: l, t, d, h, hl => by
    simp only [mem, Bool.or_eq_true] at h
    by_cases e : u = t
    · subst e
      simp only [keepL, hl, look_nil, look_cons, if_true]
    · have hm : mem t l = true := h.resolve_left fun hb => e (Nat.eq_of_beq_eq_true hb)
      have ih := keepL_has S ks l t d hm hl
      simp only [keepL]
      split
      · exact ih
      · split
        · simp only [look_nil, look_cons, if_neg e]; exact ih
        · exact ih
      · simp only [look_nil, look_cons, if_neg e]; exact ih
def ASt.trim (S : ASt) : Option (List Nat) → ASt
  | some ks => { S with slots := keepL S ks ks }
  | none => S
theorem wk_trim (S : ASt) (ks : Option (List Nat)) : Wk S (S.trim ks) := by
  cases ks with
  | none => exact Wk.refl S
  | some ks =>
    refine wk_sub rfl (Nat.le_refl _) (fun t x h => (keepL_sub S ks ks t x h).1) rfl ?_
    intro t h r p hu s hr
    subst hr
    obtain ⟨h1, h2⟩ := keepL_sub S ks ks t _ hu
    obtain ⟨h3, d, h4⟩ := h2 h s p rfl
    show look (keepL S ks ks) s = look S.slots s
    rw [h4]
    exact keepL_has S ks ks s d h3 h4

/-- Hints of a function: by region and operation; which slots a region keeps. -/
structure Hint where
  op : Nat → Nat → Nat
  keep : Nat → Option (List Nat)
/-- A region of no given order. -/
abbrev Drawer := Tab → (Nat → Nat) → Array Oper → ASt → Option (AEx × ASt)
def Drawer.Ok (X : Cx) (W : Drawer) : Prop := ∀ C : Tab, C.Ok X → ∀ id H ops S e S' (K : AEx → ASt → Prop), W C H ops S = some (e, S') → K e S' → AWP X (.region id ops true) K S
def loopN (f : ASt → Option (AEx × ASt)) : Nat → ASt → Option (AEx × ASt)
  | 0, _ => none
  | n + 1, S => match f S with
    | some (.normal, S') => loopN f n S'
    | r => r
def arun (X : Cx) (C : Tab) (W : Drawer) (H : Hint) (N : Nat) : Code → ASt → Option (AEx × ASt)
  | .skip, S => some (.normal, S)
  | .region id ops draw, S => match draw with
    | false => runL X C (H.op id) ops 0 ops.toList (S.fixAs (S.trim (H.keep id)))
    | true => W C (H.op id) ops (S.fixAs (S.trim (H.keep id)))
  | .seq a b, S => match arun X C W H N a S with
    | some (.normal, S') => arun X C W H N b S'
    | r => r
  | .cond c x y, S => match asB (S.ev X.G c) with
    | some true => arun X C W H N x S
    | some false => arun X C W H N y S
    | none => none
  | .block id c, S => match arun X C W H N c S with
    | some (.exit j, S') => match Nat.beq j id with
      | true => some (.normal, S')
      | false => some (.exit j, S')
    | r => r
  | .loop c, S => loopN (fun S => arun X C W H N c S) N S
  | .exit id, S => some (.exit id, S)
  | .ret, S => some (.ret, S)
  | _, _ => none
theorem arun_ok (hX : X.Ok) {C : Tab} (hC : C.Ok X) {W : Drawer} (hW : W.Ok X) {H : Hint} {N : Nat} : ∀ (c : Code) (S : ASt) (e : AEx) (S' : ASt) (K : AEx → ASt → Prop), arun X C W H N c S = some (e, S') → K e S' → AWP X c K S
  | .skip, S, e, S', K, h, hK => by
    simp only [arun, Option.some.injEq, Prod.mk.injEq] at h
    obtain ⟨rfl, rfl⟩ := h
    exact awp_skip hK
  | .region id ops draw, S, e, S', K, h, hK => by
    cases draw with
    | false => simp only [arun, fixAs_eq] at h; exact awp_wk (wk_trim S _) (awp_region (runL_ok hX hC _ _ _ _ _ h hK))
    | true => simp only [arun, fixAs_eq] at h; exact awp_wk (wk_trim S _) (hW C hC id _ ops _ e S' K h hK)
  | .seq a b, S, e, S', K, h, hK => by
    simp only [arun] at h
    split at h
    · rename_i S1 h1
      exact awp_seq (arun_ok hX hC hW a S _ S1 _ h1 (arun_ok hX hC hW b S1 e S' K h hK))
    · rename_i hne
      refine awp_seq (arun_ok hX hC hW a S e S' _ h ?_)
      cases e with
      | normal => exact absurd h (hne S')
      | exit j => exact hK
      | ret => exact hK
      | pan d => exact hK
  | .cond c x y, S, e, S', K, h, hK => by
    simp only [arun] at h
    split at h
    · rename_i hb
      exact awp_true (asB_eq hb) (arun_ok hX hC hW x S e S' K h hK)
    · rename_i hb
      exact awp_false (asB_eq hb) (arun_ok hX hC hW y S e S' K h hK)
    · simp at h
  | .block id c, S, e, S', K, h, hK => by
    simp only [arun] at h
    split at h
    · rename_i j S1 h1
      refine awp_block (arun_ok hX hC hW c S _ S1 _ h1 ?_)
      simp only [Kb]
      split at h
      · rename_i hj
        injection h with h
        injection h with e1 e2
        subst e1 e2
        rw [if_pos (Nat.eq_of_beq_eq_true hj)]
        exact hK
      · rename_i hj
        injection h with h
        injection h with e1 e2
        subst e1 e2
        rw [if_neg (beq_ne hj)]
        exact hK
    · rename_i hne
      refine awp_block (arun_ok hX hC hW c S e S' _ h ?_)
      cases e with
      | exit j => exact absurd h (hne j S')
      | normal => exact hK
      | ret => exact hK
      | pan d => exact hK
  | .loop c, S, e, S', K, h, hK => by
    simp only [arun] at h
    refine awp_loop (fun n S => loopN (fun S => arun X C W H N c S) n S = some (e, S')) N h ?_
    intro n S1 hI
    cases n with
    | zero => simp [loopN] at hI
    | succ n =>
      simp only [loopN] at hI
      split at hI
      · rename_i S2 h2
        exact arun_ok hX hC hW c S1 _ S2 _ h2 ⟨n, Nat.lt_succ_self n, hI⟩
      · rename_i hne
        refine arun_ok hX hC hW c S1 e S' _ hI ?_
        cases e with
        | normal => exact absurd hI (hne S')
        | exit j => exact hK
        | ret => exact hK
        | pan d => exact hK
  | .exit id, S, e, S', K, h, hK => by
    simp only [arun, Option.some.injEq, Prod.mk.injEq] at h
    obtain ⟨rfl, rfl⟩ := h
    exact awp_exit hK
  | .ret, S, e, S', K, h, hK => by
    simp only [arun, Option.some.injEq, Prod.mk.injEq] at h
    obtain ⟨rfl, rfl⟩ := h
    exact awp_ret hK
  | .rangeFunc _ _ _ _, S, e, S', K, h, hK => by simp [arun] at h
  | .scope _, S, e, S', K, h, hK => by simp [arun] at h
  | .label _, S, e, S', K, h, hK => by simp [arun] at h
  | .goto _, S, e, S', K, h, hK => by simp [arun] at h
  | .refuse _, S, e, S', K, h, hK => by simp [arun] at h

/-- The functions that the machine knows. -/
abbrev Funs := FuncId → Option Func
def Funs.Ok (X : Cx) (F : Funs) : Prop := ∀ f fn, F f = some fn → X.P.funcs[f]? = some fn ∧ (fn.name == "runtime.NumGoroutine") = false ∧ (rTmps fn.results.toList).Nodup
def finF (X : Cx) (rs : List ResultVar) (n : Nat) (r : AEx × ASt) : Option (ARes × List D) := gd (Nat.beq r.2.nb n && Nat.ble r.2.nb r.2.boxes.length) <| match r.1 with
  | .normal => bd (resD X.T r.2 rs) fun d => gd (r.2.okR d) (some (.ret d, r.2.boxes.take r.2.nb))
  | .ret => bd (resD X.T r.2 rs) fun d => gd (r.2.okR d) (some (.ret d, r.2.boxes.take r.2.nb))
  | .pan d => gd (r.2.okR d) (some (.pan d, r.2.boxes.take r.2.nb))
  | .exit _ => none
/-- A call of a function, on data; before it goes to the code, it looks into a table of what is known. -/
def acall (X : Cx) (F : Funs) (Hs : FuncId → Hint) (W : Drawer) (T : Tab) (N : Nat) : Nat → Tab
  | 0 => fun _ _ _ => none
  | n + 1 => fun f ds bs => match T f ds bs with
    | some r => some r
    | none => bd (F f) fun fn => bd fn.body fun c => bd (arun X (acall X F Hs W T N n) W (Hs f) N c ⟨fn.ntmps, enterS 0 ds, bs, bs.length⟩) fun r => finF X fn.results.toList bs.length r
theorem acall_ok (hX : X.Ok) {F : Funs} (hF : F.Ok X) {Hs : FuncId → Hint} {W : Drawer} (hW : W.Ok X) {T : Tab} (hT : T.Ok X) {N : Nat} : ∀ n, (acall X F Hs W T N n).Ok X
  | 0 => fun k ds bs r bs' h => by simp [acall] at h
  | n + 1 => fun k ds bs r bs' h => by
    simp only [acall] at h
    split at h
    · rename_i r' hr
      injection h with h
      subst h
      exact hT _ _ _ _ _ hr
    · obtain ⟨fn, h1, h⟩ := bd_eq h
      obtain ⟨c, h2, h⟩ := bd_eq h
      obtain ⟨⟨e, S⟩, h3, h⟩ := bd_eq h
      obtain ⟨k1, k2, k3⟩ := hF k fn h1
      refine ⟨⟨fn, k1, k2, by rw [h2]; rfl⟩, ?_⟩
      refine ct_of_awp hX k1 h2 k3 (arun_ok hX (acall_ok hX hF hW hT n) hW c _ e S _ h3 ?_)
      unfold finF at h
      obtain ⟨hb, h⟩ := gd_eq h
      simp only [Bool.and_eq_true] at hb
      refine ⟨⟨Nat.eq_of_beq_eq_true hb.1, Nat.le_of_ble_eq_true hb.2⟩, ?_⟩
      cases e with
      | normal =>
        obtain ⟨d, m1, h⟩ := bd_eq h
        obtain ⟨m2, h⟩ := gd_eq h
        simp only [Option.some.injEq, Prod.mk.injEq] at h
        exact ⟨d, m1, m2, h.1, h.2⟩
      | ret =>
        obtain ⟨d, m1, h⟩ := bd_eq h
        obtain ⟨m2, h⟩ := gd_eq h
        simp only [Option.some.injEq, Prod.mk.injEq] at h
        exact ⟨d, m1, m2, h.1, h.2⟩
      | pan d =>
        obtain ⟨m2, h⟩ := gd_eq h
        simp only [Option.some.injEq, Prod.mk.injEq] at h
        exact ⟨m2, h.1, h.2⟩
      | exit j => simp at h
end
end Go.Proofs.YtfbppkjjdbkedaaGreatDoor.Ref
/-
  The abstract machine: regions of no given order, in the machine's terms: any order, frozen blocks staying.
-/
namespace Go.Proofs.YtfbppkjjdbkedaaGreatDoor.Ref
noncomputable section
open Go
set_option linter.unusedVariables false
variable {X : Cx}

/-- Blocks stay. -/
def Stay (R : Blk) (w w' : World) : Prop := ∀ x, R x → w'.heap[x]? = w.heap[x]?
/-- Any order, as the kit's, the frozen blocks being told at each step. -/
def wpF (P : Program) (ops : Array Oper) (Q : Exit → Act → World → Prop) : Nat → Array Bool → Blk → Act → World → Prop
  | 0, listed, R, a, w => Region.ready .any ops listed = [] ∧ Q .normal a w
  | n + 1, listed, R, a, w => (Region.ready .any ops listed = [] → Q .normal a w) ∧
    ∀ i ∈ Region.ready .any ops listed, wpOp P ops Q i (fun a' w' => ∃ R', (∀ x, R x → R' x) ∧ Stay R w w' ∧ wpF P ops Q n (listed.setIfInBounds i true) R' a' w') a w
theorem wpF_any {P : Program} {ops : Array Oper} {Q : Exit → Act → World → Prop} : ∀ (n : Nat) (listed : Array Bool) (R : Blk) (a : Act) (w : World), wpF P ops Q n listed R a w → wpAny P .any ops Q n listed a w
  | 0, listed, R, a, w, h => h
  | n + 1, listed, R, a, w, h => ⟨h.1, fun i hi => wpOp_mono (fun a' w' ⟨R', _, _, h'⟩ => wpF_any n _ R' a' w' h') (h.2 i hi)⟩

/-- An operation's slot set ahead: the other operation does the same. -/
theorem wpOp_put0 {P : Program} {ops : Array Oper} {Q : Exit → Act → World → Prop} {j : Nat} {oi oj : Oper} {v : Value} (hj : ops[j]? = some oj) (hap : oi.apart ops oj = true)
    (hsi : ∀ cs b, oi.op ≠ .select cs b) (hsj : ∀ cs b, oj.op ≠ .select cs b)
    (hQ : ∀ c a w, Q (.panic c) (a.put oi.dst v) w → Q (.panic c) a w) {K : Act → World → Prop} {a : Act} {w : World} (h : wpOp P ops Q j K (a.put oi.dst v) w) :
    wpOp P ops Q j (fun a' w' => (execOp a'.eval oi = execOp a.eval oi ∧ Region.wanted oi (yielded ops a'.tmps) = Region.wanted oi (yielded ops a.tmps)) ∧ K (a'.put oi.dst v) w') a w := by
  obtain ⟨h1, h2, h3⟩ := Oper.apart_spec hap
  have keep : ∀ (a : Act) u, execOp (a.put oj.dst u).eval oi = execOp a.eval oi ∧ Region.wanted oi (yielded ops (a.put oj.dst u).tmps) = Region.wanted oi (yielded ops a.tmps) := fun a u =>
    ⟨execOp_put oi hsi a oj.dst u h3, wanted_put oi a oj.dst u h3⟩
  unfold wpOp at *
  simp only [hj] at *
  rw [wanted_put oj a oi.dst v h1] at h
  split
  · rename_i hw
    simp only [hw, if_true] at h
    rcases h with h | ⟨hasks, hlets⟩
    case inr => exact .inr ⟨by unfold Oper.asks at *; rw [execOp_put oj hsj a oi.dst v h1] at hasks; exact hasks, hlets⟩
    refine .inl ?_
    unfold Oper.wp at *
    rw [execOp_put oj hsj a oi.dst v h1] at h
    generalize (execOp a.eval oj).run P w = r at *
    cases r with
    | ok n w' =>
      cases n <;> simp only [Oper.upon] at h ⊢
      case value u => exact ⟨keep a u, by rw [← Act.put_comm a v u h2]; exact h⟩
      case skip => exact ⟨keep a _, by rw [← Act.put_comm a v undef h2]; exact h⟩
      case defer d =>
        refine ⟨keep { a with defers := d :: a.defers } _, ?_⟩
        rw [← Act.put_comm _ v undef h2, ← Act.put_defers]
        exact h
      case enter f args =>
        refine Calls.mono h fun e w'' he => ?_
        cases e with
        | returned u => exact ⟨keep a u, by rw [← Act.put_comm a v u h2]; exact he⟩
        | panicked c => exact hQ _ _ _ he
        | outgrown => exact he
      case row row args => exact Rows.mono h fun u w'' he => ⟨keep a u, by rw [← Act.put_comm a v u h2]; exact he⟩
    | halt x w' =>
      cases x <;> simp only [Oper.upon] at h ⊢
      case panic u => exact hQ _ _ _ h
  · rename_i hw
    simp only [hw] at h
    exact ⟨keep a _, by rw [← Act.put_comm a v undef h2]; exact h⟩

/-- In all worlds in which the frozen blocks stand as now, the operation yields v; or it is not wanted. -/
def YF (P : Program) (ops : Array Oper) (o : Oper) (v : Value) (R : Blk) (a : Act) (w : World) : Prop :=
  (Region.wanted o (yielded ops a.tmps) = true ∧ ∀ w', Stay R w w' → (execOp a.eval o).run P w' = .ok (.value v) w') ∨ (Region.wanted o (yielded ops a.tmps) = false ∧ v = undef)
theorem YF.wpOp {P : Program} {ops : Array Oper} {Q : Exit → Act → World → Prop} {i : Nat} {o : Oper} {v : Value} {R : Blk} {a : Act} {w : World} (hi : ops[i]? = some o) (hy : YF P ops o v R a w) {K : Act → World → Prop} (h : K (a.put o.dst v) w) : wpOp P ops Q i K a w := by
  unfold Go.wpOp
  rcases hy with hy | ⟨hy, rfl⟩
  · simp only [hi, hy.1, if_true, Oper.wp, hy.2 w (fun _ _ => rfl), Oper.upon]
    exact .inl h
  · simp only [hi, hy, Bool.false_eq_true, if_false]
    exact h
theorem wpF_first {P : Program} {ops : Array Oper} {Q : Exit → Act → World → Prop} {i : Nat} {oi : Oper} {v : Value} (hi : ops[i]? = some oi) (hsel : ∀ (j : Nat) (o : Oper) cs b, ops[j]? = some o → o.op ≠ .select cs b)
    (hQ : ∀ c a w, Q (.panic c) (a.put oi.dst v) w → Q (.panic c) a w) :
    ∀ (fuel : Nat) (listed : Array Bool) (R : Blk) (a : Act) (w : World),
      (∀ j oj, ops[j]? = some oj → j ≠ i → listed.getD j true = false → (∀ e ∈ oj.after, Region.binds .any e = true → e.on ≠ i) → oi.apart ops oj = true) →
      i ∈ Region.ready .any ops listed → YF P ops oi v R a w →
      wpF P ops Q fuel (listed.setIfInBounds i true) R (a.put oi.dst v) w → wpF P ops Q (fuel + 1) listed R a w := by
  intro fuel
  induction fuel with
  | zero =>
    intro listed R a w _ hr hy H
    refine ⟨fun h => (by rw [h] at hr; cases hr), fun j hj => ?_⟩
    by_cases hji : j = i
    · subst hji; exact hy.wpOp hi ⟨R, fun _ x => x, fun _ _ => rfl, H⟩
    · have := ready_mono hj hji
      rw [H.1] at this
      cases this
  | succ fuel ih =>
    intro listed R a w hfree hr hy H
    refine ⟨fun h => (by rw [h] at hr; cases hr), fun j hj => ?_⟩
    by_cases hji : j = i
    · subst hji; exact hy.wpOp hi ⟨R, fun _ x => x, fun _ _ => rfl, H⟩
    · have h1 := H.2 j (ready_mono hj hji)
      obtain ⟨hjun, oj, hoj, hall⟩ := mem_ready.1 hj
      have hnot : ∀ e ∈ oj.after, Region.binds .any e = true → e.on ≠ i := fun e he hb heq => by
        have h1 := hall e he hb
        have h0 := (mem_ready.1 hr).1
        rw [heq] at h1
        rcases Nat.lt_or_ge i listed.size with h' | h'
        · simp [h'] at h0 h1; rw [h0] at h1; cases h1
        · simp [Array.getElem?_eq_none h'] at h1
      have h2 := wpOp_put0 hoj (hfree j oj hoj hji hjun hnot) (fun cs b => hsel i oi cs b hi) (fun cs b => hsel j oj cs b hoj) hQ h1
      have hfree' : ∀ k ok, ops[k]? = some ok → k ≠ i → (listed.setIfInBounds j true).getD k true = false →
          (∀ e ∈ ok.after, Region.binds .any e = true → e.on ≠ i) → oi.apart ops ok = true := fun k ok hk hki hun hno => by
        refine hfree k ok hk hki ?_ hno
        by_cases hjk : j = k
        · subst hjk; exact hjun
        · rw [getD_set_ne true hjk] at hun; exact hun
      refine wpOp_mono (fun a' w' ⟨⟨q1, q2⟩, R', r1, r2, h3⟩ => ⟨R', r1, r2, ih (listed.setIfInBounds j true) R' a' w' hfree' (ready_mono hr (Ne.symm hji)) ?_ ?_⟩) h2
      · rcases hy with hy | hy
        · refine .inl ⟨q2.trans hy.1, fun w2 hw2 => ?_⟩
          rw [q1]
          exact hy.2 w2 fun x hx => (hw2 x (r1 x hx)).trans (r2 x hx)
        · exact .inr ⟨q2.trans hy.1, hy.2⟩
      · rw [Array.setIfInBounds_comm _ _ hji]
        exact h3
end
end Go.Proofs.YtfbppkjjdbkedaaGreatDoor.Ref
/-
  The abstract machine: regions of no given order, by abstract states.
-/
namespace Go.Proofs.YtfbppkjjdbkedaaGreatDoor.Ref
noncomputable section
open Go
set_option linter.unusedVariables false
variable {X : Cx}

theorem wpF_less {P : Program} {ops : Array Oper} {Q : Exit → Act → World → Prop} : ∀ (n : Nat) (listed : Array Bool) (R R' : Blk) (a : Act) (w : World), (∀ x, R x → R' x) → wpF P ops Q n listed R' a w → wpF P ops Q n listed R a w
  | 0, listed, R, R', a, w, hs, h => h
  | n + 1, listed, R, R', a, w, hs, h => ⟨h.1, fun i hi => wpOp_mono (fun a' w' ⟨R2, h1, h2, h3⟩ => ⟨R2, fun x hx => h1 x (hs x hx), fun x hx => h2 x (hs x hx), h3⟩) (h.2 i hi)⟩

/-- The state as where a call begins. -/
def reG (g : Gh) (β : Env) (R : Blk) (Os : Own) (w : World) : Gh := ⟨g.G, w, β, R, fun x => ∃ q, Os q x, g.dfr⟩
theorem StR.reroot {g : Gh} {β : Env} {R : Blk} {Os : Own} {S : ASt} {a : Act} {w : World} (h : StR g β R Os S a w) : StR (reG g β R Os w) β R Os S a w :=
  ⟨fun b => ⟨fun _ => rfl, (h.ext b).2⟩, h.size, h.defers, h.slots, h.ups, h.boxes, h.disj, h.apart, fun q x hx => ⟨(h.own q x hx).1, .inl ⟨q, hx⟩⟩, fun x hx => ⟨(h.read x hx).1, .inl hx⟩, Fr.refl _ _, h.glob⟩
theorem StR.unroot {g : Gh} {β β' : Env} {R R' : Blk} {Os Os' : Own} {S S' : ASt} {a a' : Act} {w w' : World} (h : StR g β R Os S a w) (k : StR (reG g β R Os w) β' R' Os' S' a' w') (hnb : S'.nb = S.nb) : StR g β' (Or2 R R') Os' S' a' w' ∧ Stay R w w' := by
  have hfr : Fr (fun x => ∃ q, Os q x) w w' := k.fr
  have hO : ∀ x, (∃ q, Os q x) → g.O x ∨ g.w.heap.size ≤ x := fun x ⟨q, hx⟩ => (h.own q x hx).2
  refine ⟨⟨fun b => ⟨fun hb => ?_, (k.ext b).2⟩, k.size, k.defers, ?_, k.ups, ?_, k.disj, ?_, ?_, ?_, h.fr.trans hfr hO, ?_⟩, fun x hx => hfr.block x (h.read x hx).1 fun ⟨q, hq⟩ => h.apart q x hx hq⟩
  · exact ((k.ext b).1 hb).trans ((h.ext b).1 (hnb ▸ hb))
  · intro t d hl
    obtain ⟨c, k1, k2⟩ := k.slots t d hl
    exact ⟨c, k1, k2.up (fun _ _ x => x) (fun x hx => .inr hx) (fun _ _ => rfl) (fun _ _ => rfl) (fun _ x => x)⟩
  · intro b d hd
    exact (k.boxes b d hd).up (fun _ _ x => x) (fun x hx => .inr hx) (fun _ _ => rfl) (fun _ _ => rfl) (fun _ x => x)
  · intro q x hx hy
    rcases hx with hx | hx
    · rcases (k.own q x hy).2 with ⟨q', hq'⟩ | hh
      · exact h.apart q' x hx hq'
      · have h1 := (h.read x hx).1
        have h2 : w.heap.size ≤ x := hh
        omega
    · exact k.apart q x hx hy
  · intro q x hx
    refine ⟨(k.own q x hx).1, ?_⟩
    rcases (k.own q x hx).2 with hh | hh
    · exact hO x hh
    · exact .inr (Nat.le_trans h.fr.size hh)
  · rintro x (hx | hx)
    · exact ⟨Nat.lt_of_lt_of_le (h.read x hx).1 hfr.size, (h.read x hx).2⟩
    · refine ⟨(k.read x hx).1, ?_⟩
      rcases (k.read x hx).2 with hh | hh | hh
      · exact (h.read x hh).2
      · exact .inr (hO x hh)
      · exact .inr (.inr (Nat.le_trans h.fr.size hh))
  · intro i d hi
    exact (k.glob i d hi).up (fun _ _ x => x) (fun x hx => .inr hx) (fun _ _ => rfl)

def ASt.forget (S : ASt) : ASt := { S with slots := [] }
theorem wk_forget (S : ASt) : Wk S S.forget := wk_sub rfl (Nat.le_refl _) (fun t x h => by simp [ASt.forget, look_nil, look_cons] at h) rfl (fun t h r p hu => by simp [ASt.forget, look_nil, look_cons] at hu)
/-- Behind a region of no given order: what is left after a panic knows no slots. -/
def AQf (g : Gh) (K : AEx → ASt → Prop) : Exit → Act → World → Prop := fun e a w => match e with
  | .panic c => ∃ d S β R Os, S.slots = [] ∧ K (.pan d) S ∧ StR g β R Os S a w ∧ ExOk β w R (.pan d) (.panic c)
  | e => AQ g K e a w
theorem AQf.aq {g : Gh} {K : AEx → ASt → Prop} {e : Exit} {a : Act} {w : World} (h : AQf g K e a w) : AQ g K e a w := by
  cases e with
  | panic c => obtain ⟨d, S, β, R, Os, _, h1, h2, h3⟩ := h; exact ⟨_, S, β, R, Os, h1, h2, h3⟩
  | _ => exact h
theorem AQf.put {g : Gh} {K : AEx → ASt → Prop} {c : _} {a : Act} {w : World} {dst : Option Nat} {v : Value} (h : AQf g K (.panic c) (a.put dst v) w) : AQf g K (.panic c) a w := by
  obtain ⟨d, S, β, R, Os, h0, h1, h2, h3⟩ := h
  refine ⟨d, S, β, R, Os, h0, h1, ⟨h2.ext, ?_, ?_, ?_, ?_, h2.boxes, h2.disj, h2.apart, h2.own, h2.read, h2.fr, h2.glob⟩, h3⟩
  · have := h2.size; cases dst <;> simpa [Act.put] using this
  · have := h2.defers; cases dst <;> simpa [Act.put] using this
  · intro t d hl; rw [h0] at hl; simp [look_nil, look_cons] at hl
  · intro t b r p hl; rw [h0] at hl; simp [look_nil, look_cons] at hl

/-- From S on, some being done, any order leads to K. -/
def SAny (X : Cx) (ops : Array Oper) (K : AEx → ASt → Prop) (n : Nat) (listed : Array Bool) (S : ASt) : Prop :=
  ∀ g β R Os a w, g.G = X.G → StR g β R Os S a w → wpF X.P ops (AQf g K) n listed R a w
theorem awp_draw (hX : X.Ok) {id : Nat} {ops : Array Oper} {K : AEx → ASt → Prop} {S : ASt} (h : SAny X ops K ops.size (Array.replicate ops.size false) S) : AWP X (.region id ops true) K S := by
  intro g β R Os a w hG hs
  refine Go.Code.wp_mono (fun e a w h => AQf.aq h) (wp_region_any hX.md (wpF_any _ _ R _ _ (h g β R Os a _ hG ?_)))
  exact hs.float (F := Blk.emp) ⟨rfl, rfl, rfl, Nat.le_refl _, fun _ _ _ => rfl⟩ (fun x hx => hx.elim) (fun q x hx => hx.elim) (fun x hx => hx.elim)
theorem sany_wk {ops : Array Oper} {K : AEx → ASt → Prop} {n : Nat} {listed : Array Bool} {S S' : ASt} (hr : Region.ready .any ops listed = []) (hw : Wk S S') (hK : K .normal S') : SAny X ops K n listed S := by
  intro g β R Os a w hG hs
  obtain ⟨β', R', Os', h1⟩ := hw g β R Os a w hs
  have hq : AQf g K .normal a w := AQ.mk (ae := .normal) hK h1 trivial
  cases n with
  | zero => exact ⟨hr, hq⟩
  | succ n => exact ⟨fun _ => hq, by rw [hr]; simp⟩
/-- One of those that may come next. -/
def Nxt (X : Cx) (ops : Array Oper) (K : AEx → ASt → Prop) (n : Nat) (listed : Array Bool) (S : ASt) (i : Nat) : Prop :=
  ∃ o, ops[i]? = some o ∧ ((gval ops S o = some true ∧ ∃ out, OPC X S o out ∧ match out with
    | .go S' => S'.nb = S.nb ∧ SAny X ops K n (listed.setIfInBounds i true) S'
    | .stop d S' => S'.nb = S.nb ∧ K (.pan d) S'.forget) ∨
   (gval ops S o = some false ∧ dstOk S o.dst = true ∧ SAny X ops K n (listed.setIfInBounds i true) (S.putO o.dst (.d .und))))
theorem sany_all {ops : Array Oper} {K : AEx → ASt → Prop} {n : Nat} {listed : Array Bool} {S : ASt} {rs : List Nat} (hr : Region.ready .any ops listed = rs) (hne : rs ≠ []) (h : ∀ i ∈ rs, Nxt X ops K n listed S i) : SAny X ops K (n + 1) listed S := by
  intro g β R Os a w hG hs
  refine ⟨fun h0 => absurd (hr ▸ h0) hne, fun i hi => ?_⟩
  obtain ⟨o, ho, hh⟩ := h i (hr ▸ hi)
  unfold wpOp
  simp only [ho]
  rcases hh with ⟨hg, out, hop, hout⟩ | ⟨hg, hd, hout⟩
  · simp only [gval_ok hs hg, if_true]
    refine .inl (hop (reG g β R Os w) β R Os a w hG hs.reroot _ _ ?_ ?_)
    · rintro S' β' R' Os' a' w' rfl h2
      obtain ⟨h3, h4⟩ := hs.unroot h2 hout.1
      exact ⟨_, fun x hx => .inl hx, h4, hout.2 g β' _ Os' a' w' hG h3⟩
    · rintro d S' β' R' Os' w' c rfl h2 h3
      obtain ⟨h4, _⟩ := hs.unroot h2 hout.1
      obtain ⟨v, q1, q2⟩ := h3
      have h5 := (hs.unroot h2 hout.1).1
      have h6 : StR g β' (Or2 R R') Os' S'.forget a w' := ⟨h5.ext, h5.size, h5.defers, fun t d hl => by simp [ASt.forget, look_nil, look_cons] at hl, fun t b r p hl => by simp [ASt.forget, look_nil, look_cons] at hl, h5.boxes, h5.disj, h5.apart, h5.own, h5.read, h5.fr, h5.glob⟩
      exact ⟨d, _, β', _, Os', rfl, hout.2, h6, v, q1, q2.up (fun _ _ x => x) (fun x hx => .inr hx) (fun _ _ => rfl) (fun _ _ => rfl) (fun _ x => x)⟩
  · simp only [gval_ok hs hg, Bool.false_eq_true, if_false]
    obtain ⟨Os', hs'⟩ := hs.und hd
    exact ⟨R, fun _ x => x, fun _ _ => rfl, hout g β R Os' _ w hG hs'⟩

/-- The operation's value hangs on nothing that may turn. -/
def Early (X : Cx) (S : ASt) (o : Oper) : Prop :=
  ∀ g β R Os a w v, g.G = X.G → StR g β R Os S a w → (execOp a.eval o).run X.P w = .ok (.value v) w → ∀ w', Stay R w w' → (execOp a.eval o).run X.P w' = .ok (.value v) w'
/-- Its world stands. -/
def Calm (X : Cx) (S : ASt) (o : Oper) (tv : TV) : Prop := NRes X S o tv ∧ ∀ g β R Os a w v w', g.G = X.G → StR g β R Os S a w → (execOp a.eval o).run X.P w = .ok (.value v) w' → w' = w
/-- Those yet to come, and not bound to wait for it, are apart from it. -/
def FreeP (ops : Array Oper) (listed : Array Bool) (i : Nat) (oi : Oper) : Prop := ∀ j oj, ops[j]? = some oj → j ≠ i → listed.getD j true = false → (∀ e ∈ oj.after, Region.binds .any e = true → e.on ≠ i) → oi.apart ops oj = true
theorem sany_early {ops : Array Oper} {K : AEx → ASt → Prop} {n i t : Nat} {listed : Array Bool} {S : ASt} {oi : Oper} {tv : TV} (hi : ops[i]? = some oi) (hs : Region.noSelect ops = true) (hf : FreeP ops listed i oi) (hr : (Region.ready .any ops listed).contains i = true)
    (hg : gval ops S oi = some true) (hd : oi.dst = some t) (ht : t < S.n) (hu : upOk t tv = true) (hc : Calm X S oi tv) (he : Early X S oi) (h : SAny X ops K n (listed.setIfInBounds i true) (S.put t tv)) : SAny X ops K (n + 1) listed S := by
  intro g β R Os a w hG hst
  have htl : t < a.tmps.size := Nat.lt_of_lt_of_le ht hst.size
  have key : ∃ v R', (execOp a.eval oi).run X.P w = .ok (.value v) w ∧ (∀ x, R x → R' x) ∧ ∃ Os', StR g β R' Os' (S.put t tv) (a.put (some t) v) w := by
    have h1 := hc.1 g β R Os a w hG hst
    cases tv with
    | d d =>
      obtain ⟨v, w', R', On, k1, k2, k3, k4, k5, k6, k7⟩ := h1
      have := hc.2 g β R Os a w v w' hG hst k1
      subst this
      exact ⟨v, R', k1, k3, _, hst.putD k2 k3 k4 htl k5 k6 k7⟩
    | u b q p =>
      obtain ⟨v, k1, k2⟩ := h1
      refine ⟨v, R, k1, fun _ x => x, _, hst.putU htl ?_ k2⟩
      intro e
      subst e
      simp [upOk] at hu
  obtain ⟨v, R', k1, k2, Os', k3⟩ := key
  have hy : YF X.P ops oi v R a w := .inl ⟨gval_ok hst hg, he g β R Os a w v hG hst k1⟩
  have h1 := h g β R' Os' _ w hG k3
  refine wpF_first hi (Region.noSelect_spec hs) (fun c a w => AQf.put) n listed R a w hf (by simpa using hr) hy ?_
  rw [hd]
  exact wpF_less _ _ R R' _ _ k2 h1
/-- An operation that is not wanted comes first. -/
theorem sany_skip {ops : Array Oper} {K : AEx → ASt → Prop} {n i : Nat} {listed : Array Bool} {S : ASt} {oi : Oper} (hi : ops[i]? = some oi) (hs : Region.noSelect ops = true) (hf : FreeP ops listed i oi) (hr : (Region.ready .any ops listed).contains i = true)
    (hg : gval ops S oi = some false) (hd : dstOk S oi.dst = true) (h : SAny X ops K n (listed.setIfInBounds i true) (S.putO oi.dst (.d .und))) : SAny X ops K (n + 1) listed S := by
  intro g β R Os a w hG hst
  obtain ⟨Os', k3⟩ := hst.und hd
  have hy : YF X.P ops oi undef R a w := .inr ⟨gval_ok hst hg, rfl⟩
  exact wpF_first hi (Region.noSelect_spec hs) (fun c a w => AQf.put) n listed R a w hf (by simpa using hr) hy (h g β R Os' _ w hG k3)
end
end Go.Proofs.YtfbppkjjdbkedaaGreatDoor.Ref
/-
  The abstract machine: operations that no world sways.
-/
namespace Go.Proofs.YtfbppkjjdbkedaaGreatDoor.Ref
noncomputable section
open Go
set_option linter.unusedVariables false
variable {X : Cx}

/-- The operation comes to a value that no world sways, once the state stands for the frame and a world. -/
def Free1 (X : Cx) (S : ASt) (o : Oper) : Prop :=
  ∀ g β R Os a w, g.G = X.G → StR g β R Os S a w → ∃ v, ∀ w', Stay R w w' → (execOp a.eval o).run X.P w' = .ok (.value v) w'
theorem Free1.early {S : ASt} {o : Oper} (h : Free1 X S o) : Early X S o := fun g β R Os a w v hG hs hr w' hw => by
  obtain ⟨v', h1⟩ := h g β R Os a w hG hs
  have := h1 w (fun _ _ => rfl)
  rw [hr] at this
  injection this with this
  injection this with this
  subst this
  exact h1 w' hw
theorem Free1.calm {S : ASt} {o : Oper} {tv : TV} (h : Free1 X S o) (hn : NRes X S o tv) : Calm X S o tv := ⟨hn, fun g β R Os a w v w' hG hs hr => by
  obtain ⟨v', h1⟩ := h g β R Os a w hG hs
  have := h1 w (fun _ _ => rfl)
  rw [hr] at this
  injection this with _ this⟩

theorem f_move {S : ASt} {o : Oper} {x : Operand} (ho : o.op = .move x ∨ o.op = .assign x) : Free1 X S o := fun g β R Os a w hG hs =>
  ⟨a.eval x, fun w' _ => by rcases ho with ho | ho <;> simp [execOp, ho]⟩
theorem f_pick {S : ASt} {o : Oper} {c x y : Operand} {b : Bool} (ho : o.op = .pick c x y) (hc : S.ev X.G c = some (.d (.v (.bool b)))) : Free1 X S o := fun g β R Os a w hG hs => by
  have hb := ev_v hs (by rw [hG]; exact hc)
  exact ⟨a.eval (if b then x else y), fun w' _ => by cases b <;> simp [execOp, ho, hb, asBool]⟩
theorem f_bin {S : ASt} {o : Oper} {op : BinOp} {t u : TypeId} {x y : Operand} {a b v : Value} (ho : o.op = .binOp op t x y u) (hx : S.ev X.G x = some (.d (.v a))) (hy : S.ev X.G y = some (.d (.v b))) (hv : bin op a b = some v) : Free1 X S o := fun g β R Os act w hG hs => by
  have ex := ev_v hs (by rw [hG]; exact hx)
  have ey := ev_v hs (by rw [hG]; exact hy)
  refine ⟨v, fun w' _ => ?_⟩
  obtain ⟨r1, r2⟩ := bin_run hv t X.P w'
  simp [execOp, ho, ex, ey, r1, r2]
theorem f_un {S : ASt} {o : Oper} {op : UnOp} {t : TypeId} {x : Operand} {a v : Value} (ho : o.op = .unOp op t x) (hx : S.ev X.G x = some (.d (.v a))) (hv : Op.unary op a = pure v) : Free1 X S o := fun g β R Os act w hG hs => by
  have ex := ev_v hs (by rw [hG]; exact hx)
  exact ⟨v, fun w' _ => by simp [execOp, ho, ex, hv]⟩
theorem f_field (hX : X.Ok) {S : ASt} {o : Oper} {s : TypeId} {j n : Nat} {x : Operand} {r : Root} {p : List Nat} {e : D} (ho : o.op = .fieldAddr s x j) (hs : X.fld s j = some n) (hp : S.ptr X.G x = some (r, p)) (he : S.at r p = some e) : Free1 X S o := fun g β R Os a w hG hst => by
  obtain ⟨d, pos, b, off, O, h1, h2, h3, _⟩ := ptr_ok hst (by rw [hG]; exact hp) he
  exact ⟨.pointer (some ⟨b, off + n, none⟩), fun w' _ => by simp [execOp, ho, h3, run_fieldAt hX hs]⟩
theorem f_fieldF (hX : X.Ok) {S : ASt} {o : Oper} {s : TypeId} {j n : Nat} {x : Operand} {e : D} (ho : o.op = .fieldAddr s x j) (hs : X.fld s j = some n) (hx : S.ev X.G x = some (.d (.fz e))) : Free1 X S o := fun g β R Os a w hG hst => by
  obtain ⟨xs, h1, h2⟩ := evalR hst (by rw [hG]; exact hx) rfl
  simp only [Rel] at h2
  obtain ⟨b, off, all, T, fr, k1, _⟩ := h2
  simp only [packs] at h1
  rw [k1] at h1
  injection h1 with h1
  exact ⟨.pointer (some ⟨b, off + n, none⟩), fun w' _ => by simp [execOp, ho, ← h1, run_fieldAt hX hs]⟩
theorem f_loadF (hX : X.Ok) {S : ASt} {o : Oper} {t : TypeId} {i : TI} {x : Operand} {e : D} (ho : o.op = .load t x) (ht : X.T t = some i) (hx : S.ev X.G x = some (.d (.fz e))) (hf : i.fits e = true) : Free1 X S o := fun g β R Os a w hG hst => by
  obtain ⟨xs, h1, h2⟩ := evalR hst (by rw [hG]; exact hx) rfl
  simp only [Rel] at h2
  obtain ⟨b, off, all, T, fr, k1, k2, k3, k4, k5⟩ := h2
  simp only [packs] at h1
  rw [k1] at h1
  injection h1 with h1
  obtain ⟨v, m1, m2⟩ := run_loadVar hX ht k5 (cellsR_of k3 k4) hf
  refine ⟨v, fun w' hw => ?_⟩
  have hst' : Rel β w' R e ((all.toList.drop off).take e.nc) Blk.emp := Rel.up (fun _ _ x => x) (fun _ x => x) hw e _ _ _ (fun _ x => x.elim) (fun _ x => x) k5
  obtain ⟨v', q1, q2⟩ := run_loadVar hX ht hst' (cellsR_of ((hw b k2).trans k3) k4) hf
  have hvv : v' = v := by
    cases e <;> simp only [packs] at m2 q2 <;> first | (rw [m2, q2]) | (rw [m2] at q2; injection q2 with q2; exact q2.symm)
  subst hvv
  simp [execOp, ho, ← h1, Instr.loadAt, Instr.sureAddr, q1]
theorem f_idxR (hX : X.Ok) {S : ASt} {o : Oper} {t e : TypeId} {i k : TI} {x y : Operand} {nn : Bool} {sz : Nat} {ds : List D} {kd : IntKind} {n : Int} {d : D} (ho : o.op = .indexAddr t x y) (ht : X.T t = some i) (hd : i.desc = .slice e)
    (he : X.T e = some k) (hx : S.ev X.G x = some (.d (.row nn sz ds))) (hy : S.ev X.G y = some (.d (.v (.int kd n)))) (h0 : 0 ≤ n) (hn : ds[n.toNat]? = some d) : Free1 X S o := fun g β R Os a w hG h => by
  obtain ⟨xs, h1, h2⟩ := evalR h (by rw [hG]; exact hx) rfl
  have ey := ev_v h (by rw [hG]; exact hy)
  simp only [packs] at h1
  subst h1
  simp only [Rel] at h2
  have hlt : n.toNat < ds.length := (List.getElem?_eq_some_iff.1 hn).1
  rcases h2 with ⟨rfl, _⟩ | ⟨b, off, len, cap, all, T, fr, m1, m2, m3, rfl, _⟩
  · simp at hlt
  · injection m1 with m1
    exact ⟨_, fun w' _ => by simp [execOp, ho, m1, ey, run_indexAt hX ht hd he b off ds.length cap kd n h0 (by omega)]; rfl⟩
end
end Go.Proofs.YtfbppkjjdbkedaaGreatDoor.Ref
/-
  The abstract machine as a program: regions of no given order.
-/
namespace Go.Proofs.YtfbppkjjdbkedaaGreatDoor.Ref
noncomputable section
open Go
set_option linter.unusedVariables false
variable {X : Cx}

theorem f_lenR (hX : X.Ok) {S : ASt} {o : Oper} {c : Call} {t e : TypeId} {i : TI} {x : Operand} {nn : Bool} {sz : Nat} {ds : List D} (ho : o.op = .call c) (hb : c.callee = .builtin .len) (ha : c.args = #[x]) (hat : c.argTypes = #[t]) (ht : X.T t = some i) (hd : i.desc = .slice e)
    (hx : S.ev X.G x = some (.d (.row nn sz ds))) : Free1 X S o := fun g β R Os a w hG h => by
  obtain ⟨xs, h1, h2⟩ := evalR h (by rw [hG]; exact hx) rfl
  simp only [packs] at h1
  subst h1
  simp only [Rel] at h2
  refine ⟨.int .i64 ds.length, fun w' _ => ?_⟩
  rcases h2 with ⟨rfl, p, cap, m1, _⟩ | ⟨b, off, len, cap, all, T, fr, m1, m2, m3, rfl, _⟩ <;> injection m1 with m1 <;> simp [execOp, ho, hb, ha, hat, resolve, invoke, builtin, Builtin.len_, m1, run_under hX ht, hd, goInt]
theorem f_lenS (hX : X.Ok) {S : ASt} {o : Oper} {c : Call} {t : TypeId} {i : TI} {x : Operand} {s : ByteArray} (ho : o.op = .call c) (hb : c.callee = .builtin .len) (ha : c.args = #[x]) (hat : c.argTypes = #[t]) (ht : X.T t = some i) (hd : i.desc = .string)
    (hx : S.ev X.G x = some (.d (.v (.string s)))) : Free1 X S o := fun g β R Os a w hG h => by
  have e := ev_v h (by rw [hG]; exact hx)
  exact ⟨.int .i64 s.size, fun w' _ => by simp [execOp, ho, hb, ha, hat, resolve, invoke, builtin, Builtin.len_, e, run_under hX ht, hd, goInt]⟩
theorem f_nil {S : ASt} {o : Oper} {x : Operand} (ho : o.op = .nilCheck x) (hx : S.kind X.G x = some (false, 1)) : Free1 X S o := fun g β R Os a w hG h => by
  have hk := kind_ok h (by rw [hG]; exact hx)
  refine ⟨a.eval x, fun w' _ => ?_⟩
  generalize hv : a.eval x = v at hk
  cases hk
  simp [execOp, ho, hv]

theorem f_rem {S : ASt} {o : Oper} {t u : TypeId} {x y : Operand} {k : IntKind} {m n : Int} (ho : o.op = .binOp .rem t x y u) (hx : S.ev X.G x = some (.d (.v (.int k m)))) (hy : S.ev X.G y = some (.d (.v (.int k n)))) (hn : n ≠ 0) : Free1 X S o := fun g β R Os a w hG h => by
  have ex := ev_v h (by rw [hG]; exact hx)
  have ey := ev_v h (by rw [hG]; exact hy)
  exact ⟨.int k (m.tmod n), fun w' _ => by simp [execOp, ho, ex, ey, eqGuard, binOp, Op.intDiv, hn]⟩
theorem f_quo {S : ASt} {o : Oper} {t u : TypeId} {x y : Operand} {k : IntKind} {m n : Int} (ho : o.op = .binOp .quo t x y u) (hx : S.ev X.G x = some (.d (.v (.int k m)))) (hy : S.ev X.G y = some (.d (.v (.int k n)))) (hn : n ≠ 0) : Free1 X S o := fun g β R Os a w hG h => by
  have ex := ev_v h (by rw [hG]; exact hx)
  have ey := ev_v h (by rw [hG]; exact hy)
  exact ⟨.int k (k.wrap (m.tdiv n)), fun w' _ => by simp [execOp, ho, ex, ey, eqGuard, binOp, Op.intDiv, hn]⟩
theorem f_convI (hX : X.Ok) {S : ASt} {o : Oper} {s t : TypeId} {i k : TI} {x : Operand} {kd k' : IntKind} {n : Int} (ho : o.op = .convert s t x) (hs : X.T s = some i) (ht : X.T t = some k) (hd : k.desc = .int kd) (hx : S.ev X.G x = some (.d (.v (.int k' n)))) : Free1 X S o := fun g β R Os a w hG h => by
  have e := ev_v h (by rw [hG]; exact hx)
  have h1 := (hX.ty s i hs).1
  have h2 := (hX.ty t k ht).1
  rw [hd] at h2
  refine ⟨.int kd (kd.wrap n), fun w' _ => ?_⟩
  have : (convert s t (.int k' n)).run X.P w' = .ok (.int kd (kd.wrap n)) w' := by
    unfold convert
    simp only [Sem.run_bind, run_underlying h1, run_underlying h2, Result.andThen_ok]
    cases i.desc <;> rfl
  simp [execOp, ho, e, this]
theorem f_sliceR (hX : X.Ok) {S : ASt} {o : Oper} {t el : TypeId} {i k : TI} {x : Operand} {lo hi : Option Operand} {nn : Bool} {sz l hh : Nat} {ds : List D} (ho : o.op = .slice t x lo hi none) (ht : X.T t = some i) (hd : i.desc = .slice el) (he : X.T el = some k) (hs : k.size = sz)
    (hx : S.ev X.G x = some (.d (.row nn sz ds))) (hl : S.bnd X.G 0 lo = some l) (hhi : S.bnd X.G ds.length hi = some hh) (h1 : l ≤ hh) (h2 : hh ≤ ds.length) : Free1 X S o := fun g β R Os a w hG h => by
  obtain ⟨xs, k1, k2⟩ := evalR h (by rw [hG]; exact hx) rfl
  simp only [packs] at k1
  subst k1
  simp only [Rel] at k2
  have hu := (hX.ty t i ht).1
  rw [hd] at hu
  rcases k2 with ⟨m2, p, cap, m3, m1⟩ | ⟨b, off, len, cap, all, T, fr, m1, m2, m3, rfl, m5, m6, m7, m8⟩
  · injection m3 with m3
    subst m2
    simp only [List.length_nil] at h2 hhi
    have : l = 0 ∧ hh = 0 := by omega
    obtain ⟨rfl, rfl⟩ := this
    have hrb := run_boundsA (P := X.P) (len := 0) (cap := cap) h (by rw [hG]; exact hl) (by rw [hG]; exact hhi) (Nat.le_refl 0) (Nat.zero_le cap) true
    cases p with
    | none =>
      obtain rfl := (m1 rfl).2
      exact ⟨.slice none 0 0, fun w' _ => by simp [execOp, ho, Instr.sliceAt, m3, Instr.slice, run_underlying hu, hrb, run_size hX he]⟩
    | some p =>
      by_cases hc : cap = 0
      · subst hc
        exact ⟨.slice (some p) 0 0, fun w' _ => by simp [execOp, ho, Instr.sliceAt, m3, Instr.slice, run_underlying hu, hrb, run_size hX he]⟩
      · exact ⟨.slice (some (p.add 0)) 0 cap, fun w' _ => by simp [execOp, ho, Instr.sliceAt, m3, Instr.slice, run_underlying hu, hrb, run_size hX he, hc]⟩
  · injection m1 with m1
    have hrb := run_boundsA (P := X.P) (len := ds.length) (cap := cap) h (by rw [hG]; exact hl) (by rw [hG]; exact hhi) h1 (by omega) true
    by_cases hm : cap = l
    · have e1 : l = ds.length := by omega
      have e2 : hh = l := by omega
      subst hm e2
      exact ⟨.slice (some ⟨b, off, none⟩) 0 0, fun w' _ => by simp [execOp, ho, Instr.sliceAt, m1, Instr.slice, run_underlying hu, hrb, run_size hX he]⟩
    · exact ⟨.slice (some ⟨b, off + l * sz, none⟩) (hh - l) (cap - l), fun w' _ => by simp [execOp, ho, Instr.sliceAt, m1, Instr.slice, run_underlying hu, hrb, run_size hX he, hm, add_off, hs]⟩
theorem f_sliceS (hX : X.Ok) {S : ASt} {o : Oper} {t : TypeId} {i : TI} {x : Operand} {lo hi : Option Operand} {l hh : Nat} {s : ByteArray} (ho : o.op = .slice t x lo hi none) (ht : X.T t = some i) (hd : i.desc = .string)
    (hx : S.ev X.G x = some (.d (.v (.string s)))) (hl : S.bnd X.G 0 lo = some l) (hhi : S.bnd X.G s.size hi = some hh) (h1 : l ≤ hh) (h2 : hh ≤ s.size) : Free1 X S o := fun g β R Os a w hG h => by
  obtain ⟨xs, k1, k2⟩ := evalR h (by rw [hG]; exact hx) rfl
  simp only [packs] at k1
  subst k1
  simp only [Rel] at k2
  have k2 := k2.2
  injection k2 with k2
  have hu := (hX.ty t i ht).1
  rw [hd] at hu
  have hrb := run_boundsA (P := X.P) (len := s.size) (cap := s.size) h (by rw [hG]; exact hl) (by rw [hG]; exact hhi) h1 h2 false
  exact ⟨.string (s.extract l hh), fun w' _ => by simp [execOp, ho, Instr.sliceAt, k2, Instr.slice, run_underlying hu, hrb]⟩
theorem sliceN_free (hX : X.Ok) {S : ASt} {o : Oper} {t : TypeId} {x : Operand} {lo hi : Option Operand} {tv : TV} (ho : o.op = .slice t x lo hi none) (h : sliceN X S t x lo hi = some tv) : Free1 X S o := by
  obtain ⟨l, hl, h⟩ := bd_eq h
  split at h
  · rename_i s hx
    obtain ⟨i, ht, h⟩ := bd_eq h
    obtain ⟨hi', h⟩ := gd_eq h
    obtain ⟨hh, hhi, h⟩ := bd_eq h
    obtain ⟨hb, h⟩ := gd_eq h
    simp only [Bool.and_eq_true, decide_eq_true_eq] at hb
    exact f_sliceS hX ho ht (isStr_eq hi') hx hl hhi hb.1 hb.2
  · rename_i nn sz ds hx
    obtain ⟨⟨e, k⟩, hs, h⟩ := bd_eq h
    obtain ⟨i, ht, hd, he⟩ := sl_eq hs
    obtain ⟨hsz, h⟩ := gd_eq h
    obtain ⟨hh, hhi, h⟩ := bd_eq h
    obtain ⟨hb, h⟩ := gd_eq h
    simp only [Bool.and_eq_true, decide_eq_true_eq] at hb
    exact f_sliceR hX ho ht hd he (Nat.eq_of_beq_eq_true hsz) hx hl hhi hb.1 hb.2
  · simp at h
/-- Does no world sway it? -/
def earlyT (X : Cx) (S : ASt) (o : Oper) : Bool := match o.op with
  | .move _ => true
  | .pick c _ _ => (asB (S.ev X.G c)).isSome
  | .binOp op _ x y _ => match asV (S.ev X.G x), asV (S.ev X.G y) with
    | some a, some b => match op, a, b with
      | .rem, .int k m, .int k' n => decide (k = k') && !decide (n = 0)
      | .quo, .int k m, .int k' n => decide (k = k') && !decide (n = 0)
      | op, a, b => (bin op a b).isSome
    | _, _ => false
  | .convert s t x => match X.T s, X.T t with
    | some _, some k => (intK k.desc).isSome && (asI (S.ev X.G x)).isSome
    | _, _ => false
  | .unOp .not _ x => (asB (S.ev X.G x)).isSome
  | .fieldAddr s x j => (X.fld s j).isSome && match S.ev X.G x with
    | some (.d (.fz _)) => true
    | _ => match S.ptr X.G x with
      | some (r, p) => (S.at r p).isSome
      | none => false
  | .load t x => match S.ev X.G x, X.T t with
    | some (.d (.fz e)), some i => i.fits e
    | _, _ => false
  | .indexAddr t x y => match X.sl t, S.ev X.G x, asI (S.ev X.G y) with
    | some _, some (.d (.row _ _ ds)), some (_, n) => decide (0 ≤ n) && (ds[n.toNat]?).isSome
    | _, _, _ => false
  | .slice t x lo hi none => (sliceN X S t x lo hi).isSome
  | .nilCheck x => match S.kind X.G x with
    | some (false, 1) => true
    | _ => false
  | .call c => match c.callee, c.args, c.argTypes with
    | .builtin .len, ⟨[x]⟩, ⟨[t]⟩ => match X.T t, S.ev X.G x with
      | some i, some (.d (.row _ _ _)) => (sliceE i.desc).isSome
      | some i, some (.d (.v (.string _))) => isStr i.desc
      | _, _ => false
    | _, _, _ => false
  | _ => false
theorem some_of {α : Type} {x : Option α} (h : x.isSome = true) : ∃ a, x = some a := Option.isSome_iff_exists.1 h
theorem earlyT_ok (hX : X.Ok) {S : ASt} {o : Oper} (h : earlyT X S o = true) : Free1 X S o := by
  unfold earlyT at h
  split at h
  · rename_i ho; exact f_move (.inl ho)
  · rename_i ho
    obtain ⟨b, hb⟩ := some_of h
    exact f_pick ho (asB_eq hb)
  · rename_i ho
    split at h
    · rename_i a b hx hy
      have hx := asV_eq hx
      have hy := asV_eq hy
      split at h
      · simp at h
        obtain ⟨rfl, h⟩ := h
        exact f_rem ho hx hy h
      · simp at h
        obtain ⟨rfl, h⟩ := h
        exact f_quo ho hx hy h
      · obtain ⟨v, hv⟩ := some_of h
        exact f_bin ho hx hy hv
    · cases h
  · rename_i ho
    split at h
    · rename_i i k hs ht
      simp only [Bool.and_eq_true] at h
      obtain ⟨kd, hk⟩ := some_of h.1
      obtain ⟨⟨k', n⟩, hx⟩ := some_of h.2
      exact f_convI hX ho hs ht (intK_eq hk) (asI_eq hx)
    · cases h
  · rename_i ho
    obtain ⟨b, hb⟩ := some_of h
    exact f_un ho (asB_eq hb) (v := .bool (!b)) rfl
  · rename_i ho
    simp only [Bool.and_eq_true] at h
    obtain ⟨n, hn⟩ := some_of h.1
    have h := h.2
    split at h
    · rename_i e he; exact f_fieldF hX ho hn he
    · split at h
      · rename_i r p hp
        obtain ⟨e, he⟩ := some_of h
        exact f_field hX ho hn hp he
      · cases h
  · rename_i ho
    split at h
    · rename_i e i he hi; exact f_loadF hX ho hi he h
    · cases h
  · rename_i ho
    split at h
    · rename_i ek nn sz ds k n hs hx hy
      simp only [Bool.and_eq_true, decide_eq_true_eq] at h
      obtain ⟨d, hd⟩ := some_of h.2
      obtain ⟨i, ht, hde, he⟩ := sl_eq hs
      exact f_idxR hX ho ht hde he hx (asI_eq hy) h.1 hd
    · cases h
  · rename_i ho
    obtain ⟨tv, htv⟩ := some_of h
    exact sliceN_free hX ho htv
  · rename_i ho
    split at h
    · rename_i hk; exact f_nil ho hk
    · cases h
  · rename_i c ho
    split at h
    · rename_i x t h1 h2 h3
      split at h
      · rename_i i _ _ _ ht hx
        obtain ⟨e, he⟩ := some_of h
        exact f_lenR hX ho h1 h2 h3 ht (sliceE_eq he) hx
      · rename_i i _ ht hx
        exact f_lenS hX ho h1 h2 h3 ht (isStr_eq h) hx
      · cases h
    · cases h
  · cases h
end
end Go.Proofs.YtfbppkjjdbkedaaGreatDoor.Ref
/-
  The abstract machine as a program: all orders of a region.
-/
namespace Go.Proofs.YtfbppkjjdbkedaaGreatDoor.Ref
noncomputable section
open Go
set_option linter.unusedVariables false
variable {X : Cx}

-- ---------------------------------------------------------------- sameness
def eqV : Value → Value → Bool
  | .int k a, .int k' b => decide (k = k') && decide (a = b)
  | .bool a, .bool b => decide (a = b)
  | .string a, .string b => eqB a b
  | .pointer none, .pointer none => true
  | .slice none 0 0, .slice none 0 0 => true
  | .map none, .map none => true
  | .nilFunc, .nilFunc => true
  | .nilIface, .nilIface => true
  | _, _ => false
theorem eqB_of {a b : ByteArray} (h : eqB a b = true) : a = b := by
  rw [eqB, eqL_eq, beq_iff_eq] at h
  cases a; cases b
  congr 1
  exact Array.ext' h
theorem eqV_of {a b : Value} (h : eqV a b = true) : a = b := by
  unfold eqV at h
  split at h <;> first | (simp at h; done) | rfl | skip
  · simp only [Bool.and_eq_true, decide_eq_true_eq] at h; rw [h.1, h.2]
  · simp only [decide_eq_true_eq] at h; rw [h]
  · rw [eqB_of h]
def eqVs : List Value → List Value → Bool
  | [], [] => true
  | a :: l, b :: m => eqV a b && eqVs l m
  | _, _ => false
theorem eqVs_of : ∀ {a b : List Value}, eqVs a b = true → a = b
  | [], [], h => rfl
  | a :: l, b :: m, h => by simp only [eqVs, Bool.and_eq_true] at h; rw [eqV_of h.1, eqVs_of h.2]
  | [], _ :: _, h => by simp [eqVs] at h
  | _ :: _, [], h => by simp [eqVs] at h
mutual
def eqD : D → D → Bool
  | .v a, .v b => eqV a b
  | .agg a, .agg b => eqDs a b
  | .row n s a, .row n' s' b => decide (n = n') && Nat.beq s s' && eqDs a b
  | .own n s a, .own n' s' b => decide (n = n') && Nat.beq s s' && eqDs a b
  | .cell a, .cell b => eqD a b
  | .fz a, .fz b => eqD a b
  | .ref b p o, .ref b' p' o' => Nat.beq b b' && decide (p = p') && Nat.beq o o'
  | .mapo k a, .mapo k' b => eqVs k k' && eqDs a b
  | .fmp k a, .fmp k' b => eqVs k k' && eqDs a b
  | .fn f a, .fn f' b => Nat.beq f f' && eqDs a b
  | .ifc t a, .ifc t' b => Nat.beq t t' && eqD a b
  | .tup a, .tup b => eqDs a b
  | .und, .und => true
  | .dead, .dead => true
  | _, _ => false
def eqDs : List D → List D → Bool
  | [], [] => true
  | a :: l, b :: m => eqD a b && eqDs l m
  | _, _ => false
end
mutual
theorem eqD_of : ∀ {a b : D}, eqD a b = true → a = b
  | .v a, b, h => by cases b <;> simp only [eqD] at h <;> first | (cases h; done) | rw [eqV_of h]
  | .agg a, b, h => by cases b <;> simp only [eqD] at h <;> first | (cases h; done) | rw [eqDs_of h]
  | .row n s a, b, h => by cases b <;> simp only [eqD, Bool.and_eq_true, decide_eq_true_eq] at h <;> first | (cases h; done) | rw [h.1.1, Nat.eq_of_beq_eq_true h.1.2, eqDs_of h.2]
  | .own n s a, b, h => by cases b <;> simp only [eqD, Bool.and_eq_true, decide_eq_true_eq] at h <;> first | (cases h; done) | rw [h.1.1, Nat.eq_of_beq_eq_true h.1.2, eqDs_of h.2]
  | .cell a, b, h => by cases b <;> simp only [eqD] at h <;> first | (cases h; done) | rw [eqD_of h]
  | .fz a, b, h => by cases b <;> simp only [eqD] at h <;> first | (cases h; done) | rw [eqD_of h]
  | .ref x p o, b, h => by cases b <;> simp only [eqD, Bool.and_eq_true, decide_eq_true_eq] at h <;> first | (cases h; done) | rw [Nat.eq_of_beq_eq_true h.1.1, h.1.2, Nat.eq_of_beq_eq_true h.2]
  | .mapo k a, b, h => by cases b <;> simp only [eqD, Bool.and_eq_true] at h <;> first | (cases h; done) | rw [eqVs_of h.1, eqDs_of h.2]
  | .fmp k a, b, h => by cases b <;> simp only [eqD, Bool.and_eq_true] at h <;> first | (cases h; done) | rw [eqVs_of h.1, eqDs_of h.2]
  | .fn f a, b, h => by cases b <;> simp only [eqD, Bool.and_eq_true] at h <;> first | (cases h; done) | rw [Nat.eq_of_beq_eq_true h.1, eqDs_of h.2]
  | .ifc t a, b, h => by cases b <;> simp only [eqD, Bool.and_eq_true] at h <;> first | (cases h; done) | rw [Nat.eq_of_beq_eq_true h.1, eqD_of h.2]
  | .tup a, b, h => by cases b <;> simp only [eqD] at h <;> first | (cases h; done) | rw [eqDs_of h]
  | .und, b, h => by cases b <;> simp only [eqD] at h <;> first | (cases h; done) | rfl
  | .dead, b, h => by cases b <;> simp only [eqD] at h <;> first | (cases h; done) | rfl
theorem eqDs_of : ∀ {a b : List D}, eqDs a b = true → a = b
  | [], [], h => rfl
  | a :: l, b :: m, h => by simp only [eqDs, Bool.and_eq_true] at h; rw [eqD_of h.1, eqDs_of h.2]
  | [], _ :: _, h => by simp [eqDs] at h
  | _ :: _, [], h => by simp [eqDs] at h
end
def eqTV : TV → TV → Bool
  | .d a, .d b => eqD a b
  | .u h r p, .u h' r' p' => decide (h = h') && decide (r = r') && decide (p = p')
  | _, _ => false
theorem eqTV_of {a b : TV} (h : eqTV a b = true) : a = b := by
  cases a <;> cases b <;> simp only [eqTV, Bool.and_eq_true, decide_eq_true_eq] at h <;> first | (cases h; done) | rw [eqD_of h] | rw [h.1.1, h.1.2, h.2]
def eqSl : List (Nat × TV) → List (Nat × TV) → Bool
  | [], [] => true
  | (s, a) :: l, (t, b) :: m => Nat.beq s t && eqTV a b && eqSl l m
  | _, _ => false
theorem eqSl_of : ∀ {a b : List (Nat × TV)}, eqSl a b = true → a = b
  | [], [], h => rfl
  | (s, a) :: l, (t, b) :: m, h => by simp only [eqSl, Bool.and_eq_true] at h; rw [Nat.eq_of_beq_eq_true h.1.1, eqTV_of h.1.2, eqSl_of h.2]
  | [], _ :: _, h => by simp [eqSl] at h
  | _ :: _, [], h => by simp [eqSl] at h
def eqSt (a b : ASt) : Bool := Nat.beq a.n b.n && eqSl a.slots b.slots && eqDs a.boxes b.boxes && Nat.beq a.nb b.nb
theorem eqSt_of {a b : ASt} (h : eqSt a b = true) : a = b := by
  simp only [eqSt, Bool.and_eq_true] at h
  cases a; cases b
  simp only at h
  rw [Nat.eq_of_beq_eq_true h.1.1.1, eqSl_of h.1.1.2, eqDs_of h.1.2, Nat.eq_of_beq_eq_true h.2]
def eqEx : AEx → AEx → Bool
  | .normal, .normal => true
  | .pan a, .pan b => eqD a b
  | _, _ => false
theorem eqEx_of {a b : AEx} (h : eqEx a b = true) : a = b := by
  cases a <;> cases b <;> simp only [eqEx] at h <;> first | (cases h; done) | rfl | rw [eqD_of h]

-- ---------------------------------------------------------------- all orders
def firstE (X : Cx) (H : Nat → Nat) (ops : Array Oper) (listed : Array Bool) (S : ASt) : List Nat → Option (Nat × ASt)
  | [] => none
  | i :: l => match bd ops.toList[i]? (fun o => match gval ops S o with
      | some true => gd (Nat.beq (H i) 0 && earlyT X S o && Region.free .any ops listed i) <| bd (nop X S o) fun tv => bd o.dst fun t => gd (decide (t < S.n) && upOk t tv) (some (i, S.put t tv))
      | some false => gd (dstOk S o.dst && Region.free .any ops listed i) (some (i, S.putO o.dst (.d .und)))
      | none => none) with
    | some r => some r
    | none => firstE X H ops listed S l
def gather (f : Nat → Option (List (AEx × ASt))) : List Nat → Option (List (AEx × ASt))
  | [] => some []
  | i :: l => bd (f i) fun a => bd (gather f l) fun b => some (a ++ b)
def nextE (X : Cx) (C : Tab) (H : Nat → Nat) (ops : Array Oper) (go : ASt → Option (List (AEx × ASt))) (S : ASt) (i : Nat) : Option (List (AEx × ASt)) := bd ops.toList[i]? fun o => match gval ops S o with
  | some true => match stepO X C S (H i) o with
    | some (.go S') => gd (Nat.beq S'.nb S.nb) (go S')
    | some (.stop d S') => gd (Nat.beq S'.nb S.nb) (some [(.pan d, S'.forget)])
    | none => none
  | some false => gd (dstOk S o.dst) (go (S.putO o.dst (.d .und)))
  | none => none
def explore (X : Cx) (C : Tab) (H : Nat → Nat) (ops : Array Oper) : Nat → Array Bool → ASt → Option (List (AEx × ASt))
  | 0, listed, S => match Region.ready .any ops listed with
    | [] => some [(.normal, S)]
    | _ => none
  | n + 1, listed, S => match Region.ready .any ops listed with
    | [] => some [(.normal, S)]
    | rs => match firstE X H ops listed S rs with
      | some (i, S') => explore X C H ops n (listed.setIfInBounds i true) S'
      | none => gather (fun i => nextE X C H ops (fun S' => explore X C H ops n (listed.setIfInBounds i true) S') S i) rs
def canon (S : ASt) : ASt := S.fixAs (S.trim (some (List.range S.n)))
theorem keepL_nil (S : ASt) (ks : List Nat) (h : S.slots = []) : ∀ l, keepL S ks l = []
  | [] => rfl
  | t :: l => by simp only [keepL, h, look_nil, look_cons]; exact keepL_nil S ks h l
theorem canon_forget (S : ASt) : canon S.forget = S.forget := by
  simp only [canon, fixAs_eq, ASt.trim]
  rw [keepL_nil S.forget _ rfl]
  rfl
theorem firstE_ok (hX : X.Ok) {H : Nat → Nat} {ops : Array Oper} (hs : Region.noSelect ops = true) {K : AEx → ASt → Prop} {n : Nat} {listed : Array Bool} {S S' : ASt} {i : Nat} : ∀ {l : List Nat}, firstE X H ops listed S l = some (i, S') → (∀ j ∈ l, (Region.ready .any ops listed).contains j = true) → SAny X ops K n (listed.setIfInBounds i true) S' → SAny X ops K (n + 1) listed S
  | [], h, _, _ => by simp [firstE] at h
  | j :: l, h, hl, hk => by
    simp only [firstE] at h
    split at h
    · rename_i r hr
      injection h with h
      subst h
      obtain ⟨o, ho, hr⟩ := bd_eq hr
      rw [Array.getElem?_toList] at ho
      split at hr
      · rename_i hg
        obtain ⟨hc, hr⟩ := gd_eq hr
        obtain ⟨tv, hn, hr⟩ := bd_eq hr
        obtain ⟨t, hd, hr⟩ := bd_eq hr
        obtain ⟨hb, hr⟩ := gd_eq hr
        simp only [Option.some.injEq, Prod.mk.injEq] at hr
        obtain ⟨rfl, rfl⟩ := hr
        simp only [Bool.and_eq_true, decide_eq_true_eq] at hc hb
        have hf := earlyT_ok hX hc.1.2
        exact sany_early ho hs (Region.free_spec ho hc.2) (hl _ (by simp)) hg hd hb.1 hb.2 (hf.calm (nop_ok hX hn)) hf.early hk
      · rename_i hg
        obtain ⟨hc, hr⟩ := gd_eq hr
        simp only [Option.some.injEq, Prod.mk.injEq] at hr
        obtain ⟨rfl, rfl⟩ := hr
        rw [Bool.and_eq_true] at hc
        exact sany_skip ho hs (Region.free_spec ho hc.2) (hl _ (by simp)) hg hc.1 hk
      · simp at hr
    · exact firstE_ok hX hs h (fun j hj => hl j (by simp [hj])) hk
theorem gather_mem {f : Nat → Option (List (AEx × ASt))} : ∀ {l : List Nat} {r : List (AEx × ASt)}, gather f l = some r → ∀ i ∈ l, ∃ a, f i = some a ∧ ∀ p ∈ a, p ∈ r
  | [], r, h, i, hi => by simp at hi
  | j :: l, r, h, i, hi => by
    simp only [gather] at h
    obtain ⟨a, h1, h⟩ := bd_eq h
    obtain ⟨b, h2, h⟩ := bd_eq h
    injection h with h
    subst h
    rcases List.mem_cons.1 hi with rfl | hi
    · exact ⟨a, h1, fun p hp => by simp [hp]⟩
    · obtain ⟨a', h3, h4⟩ := gather_mem h2 i hi
      exact ⟨a', h3, fun p hp => by simp [h4 p hp]⟩
theorem sany_leaf {ops : Array Oper} {K : AEx → ASt → Prop} {n : Nat} {listed : Array Bool} {S : ASt} (hr : Region.ready .any ops listed = []) (hK : K .normal S ∨ K .normal (canon S)) : SAny X ops K n listed S := by
  rcases hK with hK | hK
  · exact sany_wk hr (Wk.refl S) hK
  · exact sany_wk hr (by rw [canon, fixAs_eq]; exact wk_trim S _) hK
theorem explore_ok (hX : X.Ok) {C : Tab} (hC : C.Ok X) {H : Nat → Nat} {ops : Array Oper} (hs : Region.noSelect ops = true) {K : AEx → ASt → Prop} : ∀ (n : Nat) (listed : Array Bool) (S : ASt) (l : List (AEx × ASt)), explore X C H ops n listed S = some l → (∀ p ∈ l, K p.1 p.2 ∨ K p.1 (canon p.2)) → SAny X ops K n listed S
  | 0, listed, S, l, h, hK => by
    simp only [explore] at h
    split at h
    · rename_i hr
      injection h with h
      subst h
      exact sany_leaf hr (hK (.normal, S) (by simp))
    · simp at h
  | n + 1, listed, S, l, h, hK => by
    simp only [explore] at h
    split at h
    · rename_i hr
      injection h with h
      subst h
      exact sany_leaf hr (hK (.normal, S) (by simp))
    · rename_i rs hne
      split at h
      · rename_i i S' hf
        exact firstE_ok hX hs hf (fun j hj => by simpa using hj) (explore_ok hX hC hs n _ _ l h hK)
      · refine sany_all rfl hne fun i hi => ?_
        obtain ⟨a, h1, h2⟩ := gather_mem h i hi
        obtain ⟨o, ho, h1⟩ := bd_eq h1
        rw [Array.getElem?_toList] at ho
        refine ⟨o, ho, ?_⟩
        split at h1
        · rename_i hg
          refine .inl ⟨hg, ?_⟩
          split at h1
          · rename_i S' hstep
            obtain ⟨hb, h1⟩ := gd_eq h1
            exact ⟨_, stepO_ok hX hC hstep, Nat.eq_of_beq_eq_true hb, explore_ok hX hC hs n _ S' a h1 fun p hp => hK p (h2 p hp)⟩
          · rename_i d S' hstep
            obtain ⟨hb, h1⟩ := gd_eq h1
            injection h1 with h1
            subst h1
            refine ⟨_, stepO_ok hX hC hstep, Nat.eq_of_beq_eq_true hb, ?_⟩
            have := hK (.pan d, S'.forget) (h2 _ (by simp))
            simp only [canon_forget, or_self] at this
            exact this
          · simp at h1
        · rename_i hg
          obtain ⟨hd, h1⟩ := gd_eq h1
          exact .inr ⟨hg, hd, explore_ok hX hC hs n _ _ a h1 fun p hp => hK p (h2 p hp)⟩
        · simp at h1
-- ---------------------------------------------------------------- the same, quicker: who waits for whom as bits
def depL : List Edge → Nat
  | [] => 0
  | e :: l => match Region.binds .any e with
    | true => Nat.lor (Nat.shiftLeft 1 e.on) (depL l)
    | false => depL l
theorem depL_bit (k : Nat) : ∀ (l : List Edge), (depL l).testBit k = true ↔ ∃ e ∈ l, Region.binds .any e = true ∧ e.on = k
  | [] => by simp [depL]
  | e :: l => by
    have ih := depL_bit k l
    simp only [depL]
    split
    · rename_i hb
      show ((1 <<< e.on) ||| depL l).testBit k = true ↔ _
      rw [Nat.testBit_or, Bool.or_eq_true, ih, Nat.one_shiftLeft, Nat.testBit_two_pow]
      simp [hb]
    · rename_i hb
      simp [ih, hb]
abbrev Oent := Nat × Nat × Oper
def ents : Nat → List Oper → List Oent
  | _, [] => []
  | k, o :: l => (k, depL o.after.toList, o) :: ents (k + 1) l
theorem mem_ents {i m : Nat} {o : Oper} : ∀ (l : List Oper) (k : Nat), (i, m, o) ∈ ents k l ↔ k ≤ i ∧ l[i - k]? = some o ∧ m = depL o.after.toList
  | [], k => by simp [ents]
  | p :: l, k => by
    simp only [ents, List.mem_cons, mem_ents l (k + 1), Prod.mk.injEq]
    constructor
    · rintro (⟨rfl, rfl, rfl⟩ | ⟨h1, h2, h3⟩)
      · simp
      · refine ⟨by omega, ?_, h3⟩
        rw [show i - k = (i - (k + 1)) + 1 from by omega]
        simpa using h2
    · rintro ⟨h1, h2, h3⟩
      rcases Nat.eq_or_lt_of_le h1 with rfl | h4
      · simp at h2; subst h2; exact .inl ⟨rfl, h3, rfl⟩
      · refine .inr ⟨by omega, ?_, h3⟩
        rw [show i - k = (i - (k + 1)) + 1 from by omega] at h2
        simpa using h2
def bitOf (m i : Nat) : Bool := Nat.beq (Nat.mod (Nat.shiftRight m i) 2) 1
theorem bitOf_eq (m i : Nat) : bitOf m i = m.testBit i := by
  rw [Nat.testBit_eq_decide_div_mod_eq]
  show Nat.beq ((m >>> i) % 2) 1 = _
  rw [Nat.shiftRight_eq_div_pow]
  cases h : decide (m / 2 ^ i % 2 = 1) <;> simp at h
  · cases h2 : Nat.beq (m / 2 ^ i % 2) 1
    · rfl
    · have := Nat.eq_of_beq_eq_true h2; omega
  · rw [h]; rfl
def freeOne (ops : Array Oper) (i mi : Nat) (oi : Oper) : List Oent → Bool
  | [] => true
  | (j, mj, oj) :: l => (Nat.beq i j || bitOf mj i || bitOf mi j || oi.apart ops oj) && freeOne ops i mi oi l
def freeAll (ops : Array Oper) (all : List Oent) : List Oent → Bool
  | [] => true
  | (i, mi, oi) :: l => freeOne ops i mi oi all && freeAll ops all l
theorem freeOne_of {ops : Array Oper} {i mi : Nat} {oi : Oper} : ∀ {l : List Oent}, freeOne ops i mi oi l = true → ∀ j mj oj, (j, mj, oj) ∈ l → i = j ∨ mj.testBit i = true ∨ mi.testBit j = true ∨ oi.apart ops oj = true
  | [], h, j, mj, oj, hm => by simp at hm
  | (j', mj', oj') :: l, h, j, mj, oj, hm => by
    simp only [freeOne, Bool.and_eq_true, Bool.or_eq_true, bitOf_eq] at h
    rcases List.mem_cons.1 hm with hm | hm
    · simp only [Prod.mk.injEq] at hm
      obtain ⟨rfl, rfl, rfl⟩ := hm
      rcases h.1 with ((h1 | h1) | h1) | h1
      · exact .inl (Nat.eq_of_beq_eq_true h1)
      · exact .inr (.inl h1)
      · exact .inr (.inr (.inl h1))
      · exact .inr (.inr (.inr h1))
    · exact freeOne_of h.2 j mj oj hm
theorem freeAll_of {ops : Array Oper} {all : List Oent} : ∀ {l : List Oent}, freeAll ops all l = true → ∀ i mi oi, (i, mi, oi) ∈ l → freeOne ops i mi oi all = true
  | [], h, i, mi, oi, hm => by simp at hm
  | (i', mi', oi') :: l, h, i, mi, oi, hm => by
    simp only [freeAll, Bool.and_eq_true] at h
    rcases List.mem_cons.1 hm with hm | hm
    · simp only [Prod.mk.injEq] at hm
      obtain ⟨rfl, rfl, rfl⟩ := hm
      exact h.1
    · exact freeAll_of h.2 i mi oi hm
/-- What is listed, as bits; what is not, as a list. -/
def Inv (ops : Array Oper) (listed : Array Bool) (L : Nat) (rem : List Oent) : Prop := listed.size = ops.size ∧ (∀ j, L.testBit j = true ↔ listed.getD j false = true) ∧ ∀ i m o, (i, m, o) ∈ rem ↔ ops[i]? = some o ∧ listed.getD i true = false ∧ m = depL o.after.toList
def rdyB (L m : Nat) : Bool := Nat.beq (Nat.land m L) m
theorem rdyB_iff {L m : Nat} : rdyB L m = true ↔ ∀ k, m.testBit k = true → L.testBit k = true := by
  constructor
  · intro h k hk
    have h : m &&& L = m := Nat.eq_of_beq_eq_true h
    rw [← h, Nat.testBit_and, Bool.and_eq_true] at hk
    exact hk.2
  · intro h
    have : m &&& L = m := by
      refine Nat.eq_of_testBit_eq fun k => ?_
      rw [Nat.testBit_and]
      cases hm : m.testBit k
      · rfl
      · rw [h k hm]; rfl
    show Nat.beq (m &&& L) m = true
    rw [this]
    exact Nat.beq_refl m
theorem Inv.ready {ops : Array Oper} {listed : Array Bool} {L : Nat} {rem : List Oent} (h : Inv ops listed L rem) (i : Nat) : i ∈ Region.ready .any ops listed ↔ ∃ m o, (i, m, o) ∈ rem ∧ rdyB L m = true := by
  rw [mem_ready]
  constructor
  · rintro ⟨h1, o, h2, h3⟩
    refine ⟨_, o, (h.2.2 i _ o).2 ⟨h2, h1, rfl⟩, rdyB_iff.2 fun k hk => ?_⟩
    obtain ⟨e, he, hb, rfl⟩ := (depL_bit k _).1 hk
    exact (h.2.1 _).2 (h3 e (by simpa using he) hb)
  · rintro ⟨m, o, h1, h2⟩
    obtain ⟨h3, h4, rfl⟩ := (h.2.2 i m o).1 h1
    refine ⟨h4, o, h3, fun e he hb => (h.2.1 _).1 (rdyB_iff.1 h2 _ ((depL_bit _ _).2 ⟨e, by simpa using he, hb, rfl⟩))⟩
def del (i : Nat) : List Oent → List Oent
  | [] => []
  | (j, e) :: l => match Nat.beq i j with
    | true => del i l
    | false => (j, e) :: del i l
theorem mem_del {i j m : Nat} {o : Oper} : ∀ (l : List Oent), (j, m, o) ∈ del i l ↔ (j, m, o) ∈ l ∧ i ≠ j
  | [] => by simp [del]
  | (k, e) :: l => by
    simp only [del]
    split
    · rename_i hb
      have := Nat.eq_of_beq_eq_true hb
      subst this
      rw [mem_del l]
      constructor
      · rintro ⟨h1, h2⟩; exact ⟨List.mem_cons_of_mem _ h1, h2⟩
      · rintro ⟨h1, h2⟩
        rcases List.mem_cons.1 h1 with h1 | h1
        · simp only [Prod.mk.injEq] at h1; exact absurd h1.1.symm h2
        · exact ⟨h1, h2⟩
    · rename_i hb
      have hne : i ≠ k := fun h => by subst h; simp [Nat.beq_refl] at hb
      simp only [List.mem_cons, mem_del l]
      constructor
      · rintro (h1 | ⟨h1, h2⟩)
        · exact ⟨.inl h1, by simp only [Prod.mk.injEq] at h1; rw [h1.1]; exact hne⟩
        · exact ⟨.inr h1, h2⟩
      · rintro ⟨h1 | h1, h2⟩
        · exact .inl h1
        · exact .inr ⟨h1, h2⟩
theorem Inv.step {ops : Array Oper} {listed : Array Bool} {L : Nat} {rem : List Oent} (h : Inv ops listed L rem) (i : Nat) (hi : i < ops.size) : Inv ops (listed.setIfInBounds i true) (Nat.lor L (Nat.shiftLeft 1 i)) (del i rem) := by
  refine ⟨by simpa using h.1, fun j => ?_, fun j m o => ?_⟩
  · show (L ||| (1 <<< i)).testBit j = true ↔ _
    rw [Nat.testBit_or, Bool.or_eq_true, Nat.one_shiftLeft, Nat.testBit_two_pow, h.2.1 j]
    by_cases hij : i = j
    · subst hij
      simp [h.1, hi]
    · rw [getD_set_ne false hij]; simp [hij]
  · rw [mem_del, h.2.2]
    by_cases hij : i = j
    · subst hij
      simp [h.1, hi]
    · rw [getD_set_ne true hij]; simp [hij]
theorem Inv.init (ops : Array Oper) : Inv ops (Array.replicate ops.size false) 0 (ents 0 ops.toList) := by
  refine ⟨by simp, fun j => by simp [Array.getElem?_replicate]; split <;> rfl, fun i m o => ?_⟩
  rw [mem_ents]
  simp only [Nat.zero_le, Nat.sub_zero, Array.getElem?_toList, true_and]
  constructor
  · rintro ⟨h1, h2⟩
    refine ⟨h1, ?_, h2⟩
    have := (Array.getElem?_eq_some_iff.1 h1).1
    simp [this]
  · rintro ⟨h1, _, h2⟩; exact ⟨h1, h2⟩
def rdyL (L : Nat) : List Oent → List Oent
  | [] => []
  | (i, m, o) :: l => match rdyB L m with
    | true => (i, m, o) :: rdyL L l
    | false => rdyL L l
theorem mem_rdyL {L i m : Nat} {o : Oper} : ∀ (l : List Oent), (i, m, o) ∈ rdyL L l ↔ (i, m, o) ∈ l ∧ rdyB L m = true
  | [] => by simp [rdyL]
  | (k, m', o') :: l => by
    simp only [rdyL]
    split
    · rename_i hb
      simp only [List.mem_cons, mem_rdyL l, Prod.mk.injEq]
      constructor
      · rintro (⟨rfl, rfl, rfl⟩ | ⟨h1, h2⟩)
        · exact ⟨.inl ⟨rfl, rfl, rfl⟩, hb⟩
        · exact ⟨.inr h1, h2⟩
      · rintro ⟨h1 | h1, h2⟩
        · exact .inl h1
        · exact .inr ⟨h1, h2⟩
    · rename_i hb
      simp only [List.mem_cons, mem_rdyL l, Prod.mk.injEq]
      constructor
      · rintro ⟨h1, h2⟩; exact ⟨.inr h1, h2⟩
      · rintro ⟨⟨rfl, rfl, rfl⟩ | h1, h2⟩
        · rw [hb] at h2; cases h2
        · exact ⟨h1, h2⟩
def first2 (X : Cx) (H : Nat → Nat) (ops : Array Oper) (S : ASt) : List Oent → Option (Nat × ASt)
  | [] => none
  | (i, m, o) :: l => match (match gval ops S o with
      | some true => gd (Nat.beq (H i) 0 && earlyT X S o) <| bd (nop X S o) fun tv => bd o.dst fun t => gd (decide (t < S.n) && upOk t tv) (some (S.put t tv))
      | some false => gd (dstOk S o.dst) (some (S.putO o.dst (.d .und)))
      | none => none) with
    | some S' => some (i, S')
    | none => first2 X H ops S l
def gath2 (f : Oent → Option (List (AEx × ASt))) : List Oent → Option (List (AEx × ASt))
  | [] => some []
  | i :: l => bd (f i) fun a => bd (gath2 f l) fun b => some (a ++ b)
theorem gath2_mem {f : Oent → Option (List (AEx × ASt))} : ∀ {l : List Oent} {r : List (AEx × ASt)}, gath2 f l = some r → ∀ i ∈ l, ∃ a, f i = some a ∧ ∀ p ∈ a, p ∈ r
  | [], r, h, i, hi => by simp at hi
  | j :: l, r, h, i, hi => by
    simp only [gath2] at h
    obtain ⟨a, h1, h⟩ := bd_eq h
    obtain ⟨b, h2, h⟩ := bd_eq h
    injection h with h
    subst h
    rcases List.mem_cons.1 hi with rfl | hi
    · exact ⟨a, h1, fun p hp => by simp [hp]⟩
    · obtain ⟨a', h3, h4⟩ := gath2_mem h2 i hi
      exact ⟨a', h3, fun p hp => by simp [h4 p hp]⟩
def next2 (X : Cx) (C : Tab) (H : Nat → Nat) (ops : Array Oper) (go : ASt → Option (List (AEx × ASt))) (S : ASt) (i : Nat) (o : Oper) : Option (List (AEx × ASt)) := match gval ops S o with
  | some true => match stepO X C S (H i) o with
    | some (.go S') => gd (Nat.beq S'.nb S.nb) (go S')
    | some (.stop d S') => gd (Nat.beq S'.nb S.nb) (some [(.pan d, S'.forget)])
    | none => none
  | some false => gd (dstOk S o.dst) (go (S.putO o.dst (.d .und)))
  | none => none
def explore2 (X : Cx) (C : Tab) (H : Nat → Nat) (ops : Array Oper) : Nat → Nat → List Oent → ASt → Option (List (AEx × ASt))
  | 0, L, rem, S => match rdyL L rem with
    | [] => some [(.normal, S)]
    | _ => none
  | n + 1, L, rem, S => match rdyL L rem with
    | [] => some [(.normal, S)]
    | rs => match first2 X H ops S rs with
      | some (i, S') => explore2 X C H ops n (Nat.lor L (Nat.shiftLeft 1 i)) (del i rem) (S.fixAs S')
      | none => gath2 (fun e => next2 X C H ops (fun S' => explore2 X C H ops n (Nat.lor L (Nat.shiftLeft 1 e.1)) (del e.1 rem) (S.fixAs S')) S e.1 e.2.2) rs
theorem first2_ok (hX : X.Ok) {H : Nat → Nat} {ops : Array Oper} (hs : Region.noSelect ops = true) {K : AEx → ASt → Prop} {n : Nat} {listed : Array Bool} {S S' : ASt} {i : Nat} : ∀ {l : List Oent}, first2 X H ops S l = some (i, S') → (∀ j m o, (j, m, o) ∈ l → ops[j]? = some o ∧ FreeP ops listed j o ∧ (Region.ready .any ops listed).contains j = true) → i < ops.size ∧ (SAny X ops K n (listed.setIfInBounds i true) S' → SAny X ops K (n + 1) listed S)
  | [], h, _ => by simp [first2] at h
  | (j, m, o) :: l, h, hl => by
    simp only [first2] at h
    split at h
    · rename_i S1 hr
      simp only [Option.some.injEq, Prod.mk.injEq] at h
      obtain ⟨rfl, rfl⟩ := h
      obtain ⟨ho, hf, hr'⟩ := hl j m o (by simp)
      refine ⟨(Array.getElem?_eq_some_iff.1 ho).1, fun hk => ?_⟩
      split at hr
      · rename_i hg
        obtain ⟨hc, hr⟩ := gd_eq hr
        obtain ⟨tv, hn, hr⟩ := bd_eq hr
        obtain ⟨t, hd, hr⟩ := bd_eq hr
        obtain ⟨hb, hr⟩ := gd_eq hr
        simp only [Option.some.injEq] at hr
        subst hr
        simp only [Bool.and_eq_true, decide_eq_true_eq] at hc hb
        have hfr := earlyT_ok hX hc.2
        exact sany_early ho hs hf hr' hg hd hb.1 hb.2 (hfr.calm (nop_ok hX hn)) hfr.early hk
      · rename_i hg
        obtain ⟨hc, hr⟩ := gd_eq hr
        simp only [Option.some.injEq] at hr
        subst hr
        exact sany_skip ho hs hf hr' hg hc hk
      · simp at hr
    · exact first2_ok hX hs h (fun j m o hj => hl j m o (by simp [hj]))
theorem rdy_nil {ops : Array Oper} {listed : Array Bool} {L : Nat} {rem : List Oent} (hi : Inv ops listed L rem) (h : rdyL L rem = []) : Region.ready .any ops listed = [] := by
  rw [List.eq_nil_iff_forall_not_mem]
  intro i hm
  obtain ⟨m, o, h1, h2⟩ := (hi.ready i).1 hm
  have := (mem_rdyL (L := L) rem).2 ⟨h1, h2⟩
  rw [h] at this
  simp at this
theorem explore2_ok (hX : X.Ok) {C : Tab} (hC : C.Ok X) {H : Nat → Nat} {ops : Array Oper} (hs : Region.noSelect ops = true) (hfr : freeAll ops (ents 0 ops.toList) (ents 0 ops.toList) = true) {K : AEx → ASt → Prop} : ∀ (n L : Nat) (rem : List Oent) (listed : Array Bool) (S : ASt) (l : List (AEx × ASt)), Inv ops listed L rem → explore2 X C H ops n L rem S = some l → (∀ p ∈ l, K p.1 p.2 ∨ K p.1 (canon p.2)) → SAny X ops K n listed S
  | 0, L, rem, listed, S, l, hi, h, hK => by
    simp only [explore2, fixAs_eq] at h
    split at h
    · rename_i hr
      injection h with h
      subst h
      exact sany_leaf (rdy_nil hi hr) (hK (.normal, S) (by simp))
    · simp at h
  | n + 1, L, rem, listed, S, l, hi, h, hK => by
    simp only [explore2, fixAs_eq] at h
    split at h
    · rename_i hr
      injection h with h
      subst h
      exact sany_leaf (rdy_nil hi hr) (hK (.normal, S) (by simp))
    · rename_i rs hne
      have hall : ∀ j m o, (j, m, o) ∈ rdyL L rem → ops[j]? = some o ∧ FreeP ops listed j o ∧ (Region.ready .any ops listed).contains j = true := fun j m o hj => by
        obtain ⟨h1, h2⟩ := (mem_rdyL rem).1 hj
        obtain ⟨h3, h4, h5⟩ := (hi.2.2 j m o).1 h1
        refine ⟨h3, fun k ok hk hkj hun hno => ?_, by simpa using (hi.ready j).2 ⟨m, o, h1, h2⟩⟩
        have e1 : (j, m, o) ∈ ents 0 ops.toList := (mem_ents _ _).2 ⟨Nat.zero_le _, by simpa using h3, h5⟩
        have e2 : (k, depL ok.after.toList, ok) ∈ ents 0 ops.toList := (mem_ents _ _).2 ⟨Nat.zero_le _, by simpa using hk, rfl⟩
        rcases freeOne_of (freeAll_of hfr j m o e1) k _ ok e2 with q | q | q | q
        · exact absurd q.symm hkj
        · obtain ⟨e, he, hb, hon⟩ := (depL_bit _ _).1 q
          exact absurd hon (hno e (by simpa using he) hb)
        · have := (hi.2.1 k).1 (rdyB_iff.1 h2 k q)
          rcases Nat.lt_or_ge k listed.size with h' | h'
          · simp [h'] at this hun; rw [this] at hun; cases hun
          · simp [Array.getElem?_eq_none h'] at hun
        · exact q
      split at h
      · rename_i i S' hf
        obtain ⟨q1, q2⟩ := first2_ok hX hs (K := K) (n := n) hf hall
        exact q2 (explore2_ok hX hC hs hfr n _ _ _ _ l (hi.step i q1) h hK)
      · have hne' : Region.ready .any ops listed ≠ [] := fun h0 => by
          cases hrs : rdyL L rem with
          | nil => exact hne hrs
          | cons e l =>
            have := (hall e.1 e.2.1 e.2.2 (by rw [hrs]; simp)).2.2
            rw [h0] at this
            simp at this
        refine sany_all rfl hne' fun i hm => ?_
        obtain ⟨m, o, h1, h2⟩ := (hi.ready i).1 hm
        have hmem := (mem_rdyL (L := L) rem).2 ⟨h1, h2⟩
        obtain ⟨ho, _⟩ := hall i m o hmem
        obtain ⟨a, h3, h4⟩ := gath2_mem h _ hmem
        have hst := hi.step i (Array.getElem?_eq_some_iff.1 ho).1
        refine ⟨o, ho, ?_⟩
        simp only [next2] at h3
        split at h3
        · rename_i hg
          refine .inl ⟨hg, ?_⟩
          split at h3
          · rename_i S' hstep
            obtain ⟨hb, h3⟩ := gd_eq h3
            exact ⟨_, stepO_ok hX hC hstep, Nat.eq_of_beq_eq_true hb, explore2_ok hX hC hs hfr n _ _ _ S' a hst h3 fun p hp => hK p (h4 p hp)⟩
          · rename_i d S' hstep
            obtain ⟨hb, h3⟩ := gd_eq h3
            injection h3 with h3
            subst h3
            refine ⟨_, stepO_ok hX hC hstep, Nat.eq_of_beq_eq_true hb, ?_⟩
            have := hK (.pan d, S'.forget) (h4 _ (by simp))
            simp only [canon_forget, or_self] at this
            exact this
          · simp at h3
        · rename_i hg
          obtain ⟨hd, h3⟩ := gd_eq h3
          exact .inr ⟨hg, hd, explore2_ok hX hC hs hfr n _ _ _ _ a hst h3 fun p hp => hK p (h4 p hp)⟩
        · simp at h3
/-- All orders. -/
def explo (X : Cx) (C : Tab) (H : Nat → Nat) (ops : Array Oper) (S : ASt) : Option (List (AEx × ASt)) := match freeAll ops (ents 0 ops.toList) (ents 0 ops.toList) with
  | true => explore2 X C H ops ops.size 0 (ents 0 ops.toList) S
  | false => explore X C H ops ops.size (Array.replicate ops.size false) S
theorem explo_ok (hX : X.Ok) {C : Tab} (hC : C.Ok X) {H : Nat → Nat} {ops : Array Oper} (hs : Region.noSelect ops = true) {K : AEx → ASt → Prop} (S : ASt) (l : List (AEx × ASt)) (h : explo X C H ops S = some l) (hK : ∀ p ∈ l, K p.1 p.2 ∨ K p.1 (canon p.2)) : SAny X ops K ops.size (Array.replicate ops.size false) S := by
  unfold explo at h
  split at h
  · rename_i hf
    exact explore2_ok hX hC hs hf _ _ _ _ S l (Inv.init ops) h hK
  · exact explore_ok hX hC hs _ _ S l h hK
def allSame (r : AEx × ASt) (c : ASt) : List (AEx × ASt) → Bool
  | [] => true
  | p :: l => eqEx p.1 r.1 && eqSt (canon p.2) c && allSame r c l
theorem allSame_of {r : AEx × ASt} {c : ASt} : ∀ {l : List (AEx × ASt)}, allSame r c l = true → ∀ p ∈ l, p.1 = r.1 ∧ canon p.2 = c
  | [], h, p, hp => by simp at hp
  | q :: l, h, p, hp => by
    simp only [allSame, Bool.and_eq_true] at h
    rcases List.mem_cons.1 hp with rfl | hp
    · exact ⟨eqEx_of h.1.1, eqSt_of h.1.2⟩
    · exact allSame_of h.2 p hp
def drawer (X : Cx) : Drawer := fun C H ops S => gd (Region.noSelect ops) <| bd (explo X C H ops S) fun l => match l with
  | [r] => some r
  | r :: l => gd (allSame r (canon r.2) l) (some (r.1, canon r.2))
  | [] => none
theorem drawer_ok (hX : X.Ok) : (drawer X).Ok X := by
  intro C hC id H ops S e S' K h hK
  obtain ⟨hs, h⟩ := gd_eq h
  obtain ⟨l, hl, h⟩ := bd_eq h
  refine awp_draw hX (explo_ok hX hC hs S l hl ?_)
  split at h
  · rename_i r
    injection h with h
    subst h
    intro p hp
    simp at hp
    subst hp
    exact .inl hK
  · rename_i r l _
    obtain ⟨ha, h⟩ := gd_eq h
    simp only [Option.some.injEq, Prod.mk.injEq] at h
    obtain ⟨rfl, rfl⟩ := h
    intro p hp
    rcases List.mem_cons.1 hp with rfl | hp
    · exact .inr hK
    · obtain ⟨h1, h2⟩ := allSame_of ha p hp
      rw [h1, h2]
      exact .inr hK
  · simp at h
end
end Go.Proofs.YtfbppkjjdbkedaaGreatDoor.Ref
/-
  The abstract machine: a function's entry and end once more; what is called at a function's end, and recovers.
-/
namespace Go.Proofs.YtfbppkjjdbkedaaGreatDoor.Ref
noncomputable section
open Go
set_option linter.unusedVariables false
variable {X : Cx}

/-- Where a call begins. -/
def gh0 (X : Cx) (β : Env) (w : World) (R Oa : Blk) (Ob : Nat → Blk) : Gh := ⟨X.G, w, β, R, fun x => Oa x ∨ ∃ i, Ob i x, []⟩
structure Ent (X : Cx) (args boxes : List D) (β : Env) (w : World) (R Oa : Blk) (Ob : Nat → Blk) (cargs : List Value) : Prop where
  h1 : RelVV β w R args cargs Oa
  h2 : ∀ b d, boxes[b]? = some d → RelB β w R b d (Ob b)
  h3 : ∀ i j, i ≠ j → Disj (Ob i) (Ob j)
  h4 : ∀ i, Disj Oa (Ob i)
  h5 : Disj R Oa
  h6 : ∀ i, Disj R (Ob i)
  h7 : ∀ x, R x → x < w.heap.size
  h8 : ∀ x, Oa x → x < w.heap.size
  h9 : ∀ i x, Ob i x → x < w.heap.size
  h10 : ∀ i d, X.G i = some d → Gl β w R i d
  h11 : ∀ b, boxes.length ≤ b → β b = none
theorem enter_str {args boxes : List D} {β : Env} {w : World} {R Oa : Blk} {Ob : Nat → Blk} {cargs : List Value} (H : Ent X args boxes β w R Oa Ob cargs) (n : Nat) :
    ∃ Os, StR (gh0 X β w R Oa Ob) β R Os ⟨n, enterS 0 args, boxes, boxes.length⟩ { tmps := cargs.toArray ++ Array.replicate (n - cargs.toArray.size) undef, defers := [] } w := by
  obtain ⟨h1, h2, h3, h4, h5, h6, h7, h8, h9, h10, h11⟩ := H
  obtain ⟨F, f1, f2, f3, f4⟩ := relVV_fam args cargs Oa h1
  refine ⟨fun r => match r with | .slot t => F t | .box b => Ob b, ?_⟩
  refine ⟨fun b => ⟨fun _ => rfl, h11 b⟩, by simp; omega, rfl, ?_, ?_, h2, ?_, ?_, ?_, fun x hx => ⟨h7 x hx, .inl hx⟩, Fr.refl _ _, h10⟩
  · intro t d hl
    simp only [look_enter, Nat.zero_le, if_true, Nat.sub_zero, Option.map_eq_some_iff, TV.d.injEq, exists_eq_right] at hl
    obtain ⟨c', k1, k2⟩ := f1 t d hl
    have hlt : t < cargs.length := (List.getElem?_eq_some_iff.1 k1).1
    refine ⟨c', ?_, k2⟩
    rw [Array.getElem?_append_left (by simpa using hlt)]
    simpa using k1
  · intro t b r p hl
    simp [look_enter] at hl
  · intro r s hrs x hx hy
    cases r with
    | slot t =>
      cases s with
      | slot u => exact f3 t u (fun e => hrs (by rw [e])) x hx hy
      | box b => exact h4 b x (f2 t x hx) hy
    | box b =>
      cases s with
      | slot u => exact h4 b x (f2 u x hy) hx
      | box b' => exact h3 b b' (fun e => hrs (by rw [e])) x hx hy
  · intro r x hx hy
    cases r with
    | slot t => exact h5 x hx (f2 t x hy)
    | box b => exact h6 b x hx hy
  · intro r x hx
    cases r with
    | slot t => exact ⟨h8 x (f2 t x hx), .inl (.inl (f2 t x hx))⟩
    | box b => exact ⟨h9 b x hx, .inl (.inr ⟨b, hx⟩)⟩
theorem fin_back {args boxes : List D} {β : Env} {w : World} {R Oa : Blk} {Ob : Nat → Blk} {cargs : List Value} (H : Ent X args boxes β w R Oa Ob cargs) {S : ASt} {β' : Env} {R' : Blk} {Os' : Own} {a' : Act} {w' : World} {r : ARes} {d : D} {e : Ending} {Or : Blk}
    (hlen : S.nb = boxes.length) (hle : S.nb ≤ S.boxes.length) (hok : S.okR d = true) (hrd : r = .ret d ∨ r = .pan d) (hs : StR (gh0 X β w R Oa Ob) β' R' Os' S a' w') (hr : RetR β' w' (Or2 R R') Or r e) (hOr : ∀ x, Or x → ∃ t, Os' (.slot t) x) :
    Back X β w R Oa Ob boxes r (S.boxes.take S.nb) e w' (Or2 R R') Or (fun b => Os' (.box b)) := by
  obtain ⟨h1, h2, h3, h4, h5, h6, h7, h8, h9, h10, h11⟩ := H
  have hRO : ∀ q x, R x → ¬ Os' q x := by
    intro q x hx hy
    rcases (hs.own q x hy).2 with hh | hh
    · rcases hh with hh | ⟨i, hh⟩
      · exact h5 x hx hh
      · exact h6 i x hx hh
    · have := h7 x hx
      have : w.heap.size ≤ x := hh
      omega
  have hβ : ∀ b x, b < S.nb → β' b = some x → β b = some x := fun b x hb hx => ((hs.ext b).1 hb).symm.trans hx
  have hret : RetR β w' (Or2 R R') Or r e ∧ ∀ b d, (S.boxes.take S.nb)[b]? = some d → RelB β w' R' b d (Os' (.box b)) := by
    have hbl : ∀ b d, (S.boxes.take S.nb)[b]? = some d → b < S.nb ∧ S.boxes[b]? = some d := fun b d hb => by
      rw [List.getElem?_take] at hb
      split at hb
      · exact ⟨by assumption, hb⟩
      · simp at hb
    simp only [ASt.okR, Bool.or_eq_true, beq_iff_eq, Bool.and_eq_true] at hok
    rcases hok with hok | ⟨hok1, hok2⟩
    · have e : β' = β := funext fun b => by
        rcases Nat.lt_or_ge b S.nb with hb | hb
        · exact (hs.ext b).1 hb
        · rw [(hs.ext b).2 (by omega), h11 b (by omega)]
      subst e
      exact ⟨hr, fun b d hd => hs.boxes b d (hbl b d hd).2⟩
    · refine ⟨?_, fun b d hd => (hs.boxes b d (hbl b d hd).2).down hβ (hbl b d hd).1 (loL_get hok2 hd)⟩
      rcases hrd with rfl | rfl
      · cases e <;> simp only [RetR] at hr ⊢ <;> first | exact hr.down hβ hok1 | exact hr
      · cases e <;> simp only [RetR] at hr ⊢
        obtain ⟨v, q1, q2⟩ := hr
        exact ⟨v, q1, q2.down hβ hok1⟩
  refine ⟨by simp; omega, hret.1, ?_, hs.fr, fun x hx => .inl hx, ?_, ?_, ?_, ?_, ?_, ?_, ?_⟩
  · intro b d hd
    exact (hret.2 b d hd).up (fun _ _ x => x) (fun x hx => .inr hx) (fun _ _ => rfl) (fun _ _ => rfl) (fun _ x => x)
  · rintro x (hx | hx)
    · exact ⟨Nat.lt_of_lt_of_le (h7 x hx) hs.fr.size, .inl hx⟩
    · obtain ⟨q1, q2⟩ := hs.read x hx
      refine ⟨q1, ?_⟩
      rcases q2 with q2 | (q2 | q2) | q2
      · exact .inl q2
      · exact .inr (.inl q2)
      · exact .inr (.inr (.inl q2))
      · exact .inr (.inr (.inr q2))
  · intro x hx
    obtain ⟨t, ht⟩ := hOr x hx
    obtain ⟨q1, q2⟩ := hs.own _ x ht
    refine ⟨q1, ?_⟩
    rcases q2 with (q2 | q2) | q2
    · exact .inl q2
    · exact .inr (.inl q2)
    · exact .inr (.inr q2)
  · intro i x hx
    obtain ⟨q1, q2⟩ := hs.own _ x hx
    refine ⟨q1, ?_⟩
    rcases q2 with (q2 | q2) | q2
    · exact .inl q2
    · exact .inr (.inl q2)
    · exact .inr (.inr q2)
  · rintro x (hx | hx) hy
    · obtain ⟨t, ht⟩ := hOr x hy; exact hRO _ x hx ht
    · obtain ⟨t, ht⟩ := hOr x hy; exact hs.apart _ x hx ht
  · rintro i x (hx | hx) hy
    · exact hRO _ x hx hy
    · exact hs.apart _ x hx hy
  · intro i x hx hy
    obtain ⟨t, ht⟩ := hOr x hx
    exact hs.disj (.slot t) (.box i) (by simp) x ht hy
  · intro i j hij x hx hy
    exact hs.disj (.box i) (.box j) (by simpa using hij) x hx hy
end
end Go.Proofs.YtfbppkjjdbkedaaGreatDoor.Ref
/-
  The abstract machine: functions that defer a call which recovers.
-/
namespace Go.Proofs.YtfbppkjjdbkedaaGreatDoor.Ref
noncomputable section
open Go
set_option linter.unusedVariables false
variable {X : Cx}

/-- The state as where a call begins, the boxes lent, calls deferred. -/
def reG2 (g : Gh) (β : Env) (R : Blk) (Os : Own) (w : World) (ds : List Deferred) : Gh := ⟨g.G, w, β, R, fun x => ∃ q, Os q x, ds⟩
def ASt.lendAll (S : ASt) : ASt := { S with nb := S.boxes.length }
theorem UPok.cong {β : Env} {S S' : ASt} {a a' : Act} {w : World} {t : Nat} {h : Bool} {r : Root} {p : List Nat} (hu : UPok β S a w t h r p) (h1 : S'.slots = S.slots) (h2 : S'.boxes = S.boxes) (h3 : a'.tmps = a.tmps) : UPok β S' a' w t h r p := by
  obtain ⟨d, pos, e, pos', c, k1, k2, k3, k4⟩ := hu
  refine ⟨d, pos, e, pos', c, ?_, k2, by rw [h3]; exact k3, k4⟩
  cases k1 with
  | slot q1 q2 q3 => exact .slot (by rw [h1]; exact q1) q2 (by rw [h3]; exact q3)
  | box q1 q2 q3 => exact .box (by rw [h2]; exact q1) q2 q3
theorem StR.reroot2 {g : Gh} {β : Env} {R : Blk} {Os : Own} {S : ASt} {a : Act} {w : World} (h : StR g β R Os S a w) (ds : List Deferred) : StR (reG2 g β R Os w ds) β R Os S.lendAll { a with defers := ds } w :=
  ⟨fun b => ⟨fun _ => rfl, (h.ext b).2⟩, h.size, rfl, h.slots, fun t b r p q => (h.ups t b r p q).cong rfl rfl rfl, h.boxes, h.disj, h.apart, fun q x hx => ⟨(h.own q x hx).1, .inl ⟨q, hx⟩⟩, fun x hx => ⟨(h.read x hx).1, .inl hx⟩, Fr.refl _ _, h.glob⟩
theorem StR.unroot2 {g : Gh} {β β' : Env} {R R' : Blk} {Os Os' : Own} {S S' : ASt} {a a' : Act} {w w' : World} {ds : List Deferred} (h : StR g β R Os S a w) (k : StR (reG2 g β R Os w ds) β' R' Os' S' a' w') (hnb : S'.nb = S.boxes.length) (hle : S.nb ≤ S.boxes.length) :
    StR { g with dfr := ds } β' (Or2 R R') Os' { S' with nb := S.nb } a' w' ∧ Stay R w w' := by
  have hfr : Fr (fun x => ∃ q, Os q x) w w' := k.fr
  have hO : ∀ x, (∃ q, Os q x) → g.O x ∨ g.w.heap.size ≤ x := fun x ⟨q, hx⟩ => (h.own q x hx).2
  refine ⟨⟨fun b => ⟨fun hb => ?_, (k.ext b).2⟩, k.size, k.defers, ?_, fun t b r p q => (k.ups t b r p q).cong rfl rfl rfl, ?_, k.disj, ?_, ?_, ?_, h.fr.trans hfr hO, ?_⟩, fun x hx => hfr.block x (h.read x hx).1 fun ⟨q, hq⟩ => h.apart q x hx hq⟩
  · have hb : b < S.nb := hb
    exact ((k.ext b).1 (by omega)).trans ((h.ext b).1 hb)
  · intro t d hl
    obtain ⟨c, k1, k2⟩ := k.slots t d hl
    exact ⟨c, k1, k2.up (fun _ _ x => x) (fun x hx => .inr hx) (fun _ _ => rfl) (fun _ _ => rfl) (fun _ x => x)⟩
  · intro b d hd
    exact (k.boxes b d hd).up (fun _ _ x => x) (fun x hx => .inr hx) (fun _ _ => rfl) (fun _ _ => rfl) (fun _ x => x)
  · intro q x hx hy
    rcases hx with hx | hx
    · rcases (k.own q x hy).2 with ⟨q', hq'⟩ | hh
      · exact h.apart q' x hx hq'
      · have h1 := (h.read x hx).1
        have h2 : w.heap.size ≤ x := hh
        omega
    · exact k.apart q x hx hy
  · intro q x hx
    refine ⟨(k.own q x hx).1, ?_⟩
    rcases (k.own q x hx).2 with hh | hh
    · exact hO x hh
    · exact .inr (Nat.le_trans h.fr.size hh)
  · rintro x (hx | hx)
    · exact ⟨Nat.lt_of_lt_of_le (h.read x hx).1 hfr.size, (h.read x hx).2⟩
    · refine ⟨(k.read x hx).1, ?_⟩
      rcases (k.read x hx).2 with hh | hh | hh
      · exact (h.read x hh).2
      · exact .inr (hO x hh)
      · exact .inr (.inr (Nat.le_trans h.fr.size hh))
  · intro i d hi
    exact (k.glob i d hi).up (fun _ _ x => x) (fun x hx => .inr hx) (fun _ _ => rfl)

-- ---------------------------------------------------------------- boxes struck
def cutL (n : Nat) : List (Nat × TV) → List (Nat × TV)
  | [] => []
  | (t, .d d) :: l => match d.lo n with
    | true => (t, .d d) :: cutL n l
    | false => (t, .d .dead) :: cutL n l
  | (t, .u _ _ _) :: l => (t, .d .dead) :: cutL n l
theorem look_cutL (n : Nat) : ∀ (l : List (Nat × TV)) (t : Nat), look (cutL n l) t = match look l t with
    | some (.d d) => match d.lo n with
      | true => some (.d d)
      | false => some (.d .dead)
    | some (.u _ _ _) => some (.d .dead)
    | none => none
  | [], t => rfl
  | (s, .d d) :: l, t => by
    simp only [cutL]
    cases hd : d.lo n <;> simp only [look_nil, look_cons] <;> by_cases e : s = t <;> simp [e, hd, look_cutL n l t]
  | (s, .u _ _ _) :: l, t => by
    simp only [cutL, look_nil, look_cons]
    by_cases e : s = t <;> simp [e, look_cutL n l t]
def ASt.cut (S : ASt) (n : Nat) : ASt := { S with slots := cutL n S.slots, boxes := S.boxes.take n }
theorem StR.cut {g : Gh} {β : Env} {R : Blk} {Os : Own} {S : ASt} {a : Act} {w : World} (h : StR g β R Os S a w) {n : Nat} (hn : S.nb ≤ n) (hb : n ≤ S.boxes.length) (hl : D.loL n (S.boxes.take n) = true)
    (hglob : ∀ i d, g.G i = some d → Gl (fun b => if b < n then β b else none) w R i d) :
    StR g (fun b => if b < n then β b else none) R Os (S.cut n) a w := by
  have hβ : ∀ b x, b < n → β b = some x → (if b < n then β b else none) = some x := fun b x hb hx => by rw [if_pos hb]; exact hx
  refine ⟨fun b => ⟨fun hlt => ?_, fun hlt => ?_⟩, h.size, h.defers, ?_, ?_, ?_, h.disj, h.apart, h.own, h.read, h.fr, hglob⟩
  · have hlt : b < S.nb := hlt
    rw [if_pos (by omega)]
    exact (h.ext b).1 hlt
  · have : (S.boxes.take n).length ≤ b := hlt
    simp at this
    rw [if_neg (by omega)]
  · intro t d hd
    have hd : look (cutL n S.slots) t = some (.d d) := hd
    rw [look_cutL] at hd
    split at hd
    · rename_i e he
      obtain ⟨c, k1, k2⟩ := h.slots t e he
      split at hd
      · rename_i hlo
        injection hd with hd
        injection hd with hd
        subst hd
        exact ⟨c, k1, k2.down hβ hlo⟩
      · injection hd with hd
        injection hd with hd
        subst hd
        exact ⟨c, k1, trivial⟩
    · rename_i hh r p he
      obtain ⟨d', pos, e, pos', c, _, _, k1, _⟩ := h.ups t hh r p he
      injection hd with hd
      injection hd with hd
      subst hd
      exact ⟨c, k1, trivial⟩
    · simp at hd
  · intro t b r p hd
    have hd : look (cutL n S.slots) t = some (.u b r p) := hd
    rw [look_cutL] at hd
    split at hd
    · split at hd <;> simp at hd
    · simp at hd
    · simp at hd
  · intro b d hd
    have hd : (S.boxes.take n)[b]? = some d := hd
    have hd' := hd
    rw [List.getElem?_take] at hd
    split at hd
    · rename_i hlt
      exact (h.boxes b d hd).down hβ hlt (loL_get hl hd')
    · simp at hd
end
end Go.Proofs.YtfbppkjjdbkedaaGreatDoor.Ref
/-
  The abstract machine: what a deferred function that recovers comes to; functions that defer it.
-/
namespace Go.Proofs.YtfbppkjjdbkedaaGreatDoor.Ref
noncomputable section
open Go
set_option linter.unusedVariables false
variable {X : Cx}

/-- The mode of a frame that leaves: returning, or with a panic's value. -/
def ModeR (β : Env) (w : World) (R : Blk) : Option D → FrameMode → Prop
  | none, u => u = .returning
  | some d, u => ∃ v, u = .panicking [{ v := v, recovered := false }] ∧ RelV β w R d v Blk.emp
/-- A deferred function's contract: it recovers from pv, if there is one, and returns. -/
def CTD (X : Cx) (f : FuncId) (pv : Option D) (args boxes bs' : List D) : Prop :=
  ∀ (β : Env) (w : World) (R Oa : Blk) (Ob : Nat → Blk) (cargs : List Value) (u : FrameMode), Ent X args boxes β w R Oa Ob cargs → ModeR β w R pv u →
    CallsD X.P f cargs.toArray u w fun e u' w' => (∃ v, e = .returned v) ∧ settle u' = .returning ∧ ∃ r R' Or Ob', Back X β w R Oa Ob boxes r bs' e w' R' Or Ob'

def pvD : Option D → D
  | none => .v .nilIface
  | some d => d
theorem run_recover {a : Act} {o : Oper} {c : Call} (P : Program) (w : World) (ho : o.op = .call c) (hc : c.callee = .builtin .recover) (ha : c.args = #[]) : (execOp a.eval o).run P w = .ok .recover w := by
  simp [execOp, ho, hc, ha, resolve, invoke, builtin, Sem.run_pure]
theorem ctd_of_awp (hX : X.Ok) {f : FuncId} {fn : Func} {id : Nat} {o1 o2 : Oper} {c : Call} {t1 t2 : Nat} {rest : Code} {pv : Option D} {args boxes bs' : List D} (hf : X.P.funcs[f]? = some fn)
    (hb : fn.body = some (.seq (.region id #[o1, o2] false) rest)) (h1 : o1.op = .call c) (h1c : c.callee = .builtin .recover) (h1a : c.args = #[]) (h1g : o1.guard = none) (h1d : o1.dst = some t1)
    (h2 : o2.op = .assign (.tmp t1)) (h2g : o2.guard = none) (h2d : o2.dst = some t2) (ht1 : t1 < fn.ntmps) (ht2 : t2 < fn.ntmps) (hn : (rTmps fn.results.toList).Nodup) (hpv : ∀ d, pv = some d → ∃ t e, d = .ifc t e)
    (h : AWP X rest (fun e S => (e = .normal ∨ e = .ret) ∧ (S.nb = boxes.length ∧ S.nb ≤ S.boxes.length) ∧ ∃ d, resD X.T S fn.results.toList = some d ∧ S.okR d = true ∧ S.boxes.take S.nb = bs')
      (((⟨fn.ntmps, enterS 0 args, boxes, boxes.length⟩ : ASt).put t1 (.d (pvD pv))).put t2 (.d (pvD pv)))) : CTD X f pv args boxes bs' := by
  intro β w R Oa Ob cargs u H hu
  obtain ⟨Os, hst⟩ := enter_str H fn.ntmps
  refine callsD_of_wpS hf hb fun c₀ cs hc₀ => ?_
  refine wpS_seq (wpS_region ?_)
  -- the recovered value
  have hrec : ∃ v cs', (match recoverD (c₀ :: cs) with | some (v, cs') => (v, cs') | none => (.nilIface, c₀ :: cs)) = (v, cs') ∧ RelV β w R (pvD pv) v Blk.emp ∧ ∃ u', settle u' = .returning ∧ cs' = { c₀ with mode := u' } :: cs := by
    cases pv with
    | none =>
      have hu : u = .returning := hu
      refine ⟨.nilIface, c₀ :: cs, by simp [recoverD, hc₀, hu], (show RelV β w R (.v .nilIface) .nilIface Blk.emp from ⟨[.nilIface], rfl, rfl, rfl⟩), .returning, rfl, ?_⟩
      rw [← hu, ← hc₀]
    | some d =>
      obtain ⟨v, hu, hv⟩ := hu
      exact ⟨v, { c₀ with mode := .panicking [{ v := v, recovered := true }] } :: cs, by simp [recoverD, hc₀, hu], hv, .panicking [{ v := v, recovered := true }], rfl, rfl⟩
  obtain ⟨v, cs', hr1, hv, u', hu', hcs⟩ := hrec
  have hsz : fn.ntmps ≤ (cargs.toArray ++ Array.replicate (fn.ntmps - cargs.toArray.size) undef).size := hst.size
  have st1 := hst.putD (Grow.refl w) (fun _ x => x) (fun _ x => .inl x) (Nat.lt_of_lt_of_le ht1 hsz) hv (fun x hx => hx.elim) (fun x _ hx => hx)
  have hsz1 := st1.size
  have ev1 : (({ tmps := cargs.toArray ++ Array.replicate (fn.ntmps - cargs.toArray.size) undef, defers := [] } : Act).put (some t1) v).eval (.tmp t1) = v := by
    have := put_get (a := { tmps := cargs.toArray ++ Array.replicate (fn.ntmps - cargs.toArray.size) undef, defers := [] }) (t := t1) (s := t1) (v := v) (Nat.lt_of_lt_of_le ht1 hsz)
    simp only [if_true] at this
    simp only [Act.eval, Array.getD_eq_getD_getElem?, this, Option.getD_some]
  have st2 := st1.putD (Grow.refl w) (fun _ x => x) (fun _ x => .inl x) (t := t2) (Nat.lt_of_lt_of_le ht2 hsz1) hv (fun x hx => hx.elim) (fun x _ hx => hx)
  have hrest := h (gh0 X β w R Oa Ob) β R _ _ w rfl st2
  have hgoal : rest.wpS X.P (bodyPostS X.P fn c₀ cs fun e u' w' => (∃ v, e = .returned v) ∧ settle u' = .returning ∧ ∃ r R' Or Ob', Back X β w R Oa Ob boxes r bs' e w' R' Or Ob')
      ((({ tmps := cargs.toArray ++ Array.replicate (fn.ntmps - cargs.toArray.size) undef, defers := [] } : Act).put (some t1) v).put (some t2) v) cs' w := by
    refine wpS_of_wp (Code.wp_mono ?_ hrest)
    rintro e a' w' ⟨ae, S, β', R', Os', ⟨hae, ⟨hlen, hle⟩, d, hd, hok, hbs⟩, hs, he⟩
    obtain ⟨vr, O, q1, q2, q3⟩ := res_run hX hs hd hn
    have fin : a'.defers = [] ∧ ∃ u', cs' = { c₀ with mode := u' } :: cs ∧ ∃ v, (results fn a'.tmps).run X.P w' = .ok v w' ∧ ((∃ v', Ending.returned v = .returned v') ∧ settle u' = .returning ∧ ∃ r R' Or Ob', Back X β w R Oa Ob boxes r bs' (.returned v) w' R' Or Ob') := by
      refine ⟨hs.defers, u', hcs, vr, q1, ⟨_, rfl⟩, hu', .ret d, Or2 R R', O, fun b => Os' (.box b), ?_⟩
      subst hbs
      refine fin_back H hlen hle hok (.inl rfl) hs ?_ ?_
      · exact q2.up (fun _ _ x => x) (fun x hx => .inr hx) (fun _ _ => rfl) (fun _ _ => rfl) (fun _ x => x)
      · intro x hx
        obtain ⟨t, _, ht⟩ := q3 x hx
        exact ⟨t, ht⟩
    rcases hae with rfl | rfl <;> cases e <;> simp only [ExOk] at he <;> first | exact he.elim | exact fin
  have w1 : ∀ y, Region.wanted o1 y = true := fun y => by simp [Region.wanted, h1g]
  have w2 : ∀ y, Region.wanted o2 y = true := fun y => by simp [Region.wanted, h2g]
  have r2 : ∀ (a : Act) w, (execOp a.eval o2).run X.P w = .ok (.value (a.eval (.tmp t1))) w := fun a w => by simp [execOp, h2]
  have hl : List.range (#[o1, o2] : Array Oper).size = [0, 1] := rfl
  rw [hl]
  simp only [wpOpsS, List.getElem?_toArray, List.getElem?_cons_zero, List.getElem?_cons_succ, w1, if_true, run_recover X.P w h1 h1c h1a]
  cases hrd : recoverD (c₀ :: cs) with
  | none =>
    rw [hrd] at hr1
    injection hr1 with e1 e2
    subst e1 e2
    simp only [w2, if_true, r2, h1d, h2d, Oper.upon, ev1]
    exact hgoal
  | some p =>
    obtain ⟨pv', pcs⟩ := p
    rw [hrd] at hr1
    injection hr1 with e1 e2
    subst e1 e2
    simp only [w2, if_true, r2, h1d, h2d, Oper.upon, ev1]
    exact hgoal
end
end Go.Proofs.YtfbppkjjdbkedaaGreatDoor.Ref
/-
  The abstract machine: functions that defer a call which recovers: their contracts.
-/
namespace Go.Proofs.YtfbppkjjdbkedaaGreatDoor.Ref
noncomputable section
open Go
set_option linter.unusedVariables false
variable {X : Cx}

/-- Behind code that may have deferred a call: before that (Ke), or behind it (Kl). -/
def Late (X : Cx) (g : Gh) (Kl : FuncId → List D → Nat → AEx → ASt → Prop) (e : Exit) (a : Act) (w : World) : Prop :=
  ∃ k caps vs ae S2 n1 β1 β2 R Os, Kl k caps n1 ae S2 ∧ Enters X k ∧ RelVs β1 w R caps vs.toList Blk.emp ∧ (∀ b, n1 ≤ b → β1 b = none) ∧ (∀ b, b < n1 → β2 b = β1 b) ∧
    (∀ b, S2.boxes.length ≤ b → β2 b = none) ∧ (∀ i d, X.G i = some d → Gl β1 w R i d) ∧ StR { g with dfr := [⟨.fn (.func k) vs, #[]⟩] } β2 R Os S2 a w ∧ ExOk β2 w R ae e
def DQ (X : Cx) (g : Gh) (Ke : AEx → ASt → Prop) (Kl : FuncId → List D → Nat → AEx → ASt → Prop) : Exit → Act → World → Prop := fun e a w => AQ g Ke e a w ∨ Late X g Kl e a w
def AWPD (X : Cx) (c : Code) (Ke : AEx → ASt → Prop) (Kl : FuncId → List D → Nat → AEx → ASt → Prop) (S : ASt) : Prop :=
  ∀ g β R Os a w, g.G = X.G → g.dfr = [] → StR g β R Os S a w → c.wp X.P (DQ X g Ke Kl) a w

theorem awpd_seq {x y : Code} {Ke : AEx → ASt → Prop} {Kl : FuncId → List D → Nat → AEx → ASt → Prop} {S : ASt} (h : AWP X x (fun ae S' => match ae with | .normal => AWPD X y Ke Kl S' | e => Ke e S') S) : AWPD X (.seq x y) Ke Kl S := by
  intro g β R Os a w hG hd hs
  refine wp_seq (Code.wp_mono ?_ (h g β R Os a w hG hs))
  rintro e a' w' ⟨ae, S', β', R', Os', h1, h2, h3⟩
  cases ae <;> cases e <;> simp only [ExOk] at h3 <;> first | exact h3.elim | skip
  · exact h1 g β' R' Os' a' w' hG hd h2
  · exact .inl ⟨_, S', β', R', Os', h1, h2, h3⟩
  · exact .inl ⟨.ret, S', β', R', Os', h1, h2, trivial⟩
  · exact .inl ⟨_, S', β', R', Os', h1, h2, h3⟩

theorem awpd_defer (hX : X.Ok) {id : Nat} {o1 o2 : Oper} {t : Nat} {rest : Code} {hh : Nat} {k : FuncId} {caps : List D} {S1 : ASt} {Ke : AEx → ASt → Prop} {Kl : FuncId → List D → Nat → AEx → ASt → Prop} {S : ASt}
    (h1 : opS X S hh o1 = some S1) (h1g : o1.guard = none) (h1c : ∀ c, o1.op ≠ .call c) (h2 : o2.op = .defer ⟨.value (.tmp t), #[], #[]⟩) (h2g : o2.guard = none) (h2d : o2.dst = none)
    (hk : look S1.slots t = some (.d (.fn k caps))) (hE : Enters X k) (hnb : S1.nb ≤ S1.boxes.length)
    (h : AWP X rest (fun ae S2 => (S2.nb = S1.boxes.length ∧ S2.nb ≤ S2.boxes.length) ∧ Kl k caps S1.boxes.length ae { S2 with nb := S1.nb }) S1.lendAll) : AWPD X (.seq (.region id #[o1, o2] false) rest) Ke Kl S := by
  intro g β R Os a w hG hd hs
  refine wp_seq (wp_region_list ?_)
  obtain ⟨v, w1, β1, R1, Os1, q1, q2⟩ := opS_ok hX h1 g β R Os a w hG hs
  have hev := evalR q2 (x := .tmp t) (d := .fn k caps) (by simp only [ASt.ev]; exact hk) rfl
  obtain ⟨xs, m1, m2⟩ := hev
  simp only [packs] at m1
  simp only [Rel] at m2
  obtain ⟨vs, m3, m4⟩ := m2
  rw [m1] at m3
  injection m3 with m3
  have hdf : (execOp (a.put o1.dst v).eval o2).run X.P w1 = .ok (.defer ⟨.fn (.func k) vs, #[]⟩) w1 := by
    simp [execOp, h2, resolve, m3, Deferred.ofValue]
  have key : wpList X.P #[o1, o2] (Exit.then (rest.wp X.P (DQ X g Ke Kl)) (DQ X g Ke Kl)) [o2] (a.put o1.dst v) w1 := by
    refine wpList_plain h2g fun K' hK => ?_
    unfold Oper.wp
    rw [hdf]
    refine hK _ _ ?_
    show rest.wp X.P (DQ X g Ke Kl) _ w1
    have hds : (a.put o1.dst v).defers = [] := q2.defers.trans hd
    rw [hds, h2d]
    have st := q2.reroot2 [⟨.fn (.func k) vs, #[]⟩]
    refine Code.wp_mono ?_ (h (reG2 g β1 R1 Os1 w1 [⟨.fn (.func k) vs, #[]⟩]) β1 R1 Os1 _ w1 hG st)
    rintro e a' w' ⟨ae, S2, β2, R2, Os2, ⟨⟨n1, n2⟩, hKl⟩, k2, k3⟩
    obtain ⟨u1, u2⟩ := q2.unroot2 k2 n1 hnb
    refine .inr ⟨k, caps, vs, ae, _, S1.boxes.length, β1, β2, Or2 R1 R2, Os2, hKl, hE, ?_, fun b hb => (q2.ext b).2 hb, fun b hb => (k2.ext b).1 (by omega), (k2.ext · |>.2), ?_, u1, ?_⟩
    · exact RelVs.up (fun _ _ x => x) (fun x hx => .inl hx) u2 _ _ _ _ (fun _ x => x.elim) (fun _ x => x) m4
    · intro i d hi
      exact (q2.glob i d (by rw [hG]; exact hi)).up (fun _ _ x => x) (fun x hx => .inl hx) u2
    · cases ae <;> cases e <;> simp only [ExOk] at k3 ⊢ <;> first | exact k3 | skip
      obtain ⟨v', e1, e2⟩ := k3
      exact ⟨v', e1, e2.up (fun _ _ x => x) (fun x hx => .inr hx) (fun _ _ => rfl) (fun _ _ => rfl) (fun _ x => x)⟩
  show wpList X.P #[o1, o2] _ [o1, o2] a w
  refine wpList_plain h1g fun K' hK => ?_
  unfold Oper.wp
  rcases q1 with q1 | ⟨q1, rfl⟩ <;> rw [q1] <;> exact hK _ _ key

/-- The end of a function that deferred a call. -/
def LateOk (X : Cx) (rs : List ResultVar) (nb : Nat) (K : ARes → List D → Prop) (k : FuncId) (caps : List D) (n1 : Nat) (ae : AEx) (S2 : ASt) : Prop :=
  S2.nb = nb ∧ (S2.nb ≤ n1 ∧ n1 ≤ S2.boxes.length) ∧ D.loL n1 (S2.boxes.take n1) = true ∧ ∃ pv bs', (match ae with | .normal => pv = none | .ret => pv = none | .pan d => pv = some d ∧ d.lo n1 = true | .exit _ => False) ∧
    CTD X k pv caps (S2.boxes.take n1) bs' ∧ ∃ d, resD X.T ((S2.cut n1).back bs') rs = some d ∧ ((S2.cut n1).back bs').okR d = true ∧ K (.ret d) (bs'.take nb)

theorem ct_of_awpd (hX : X.Ok) {f : FuncId} {fn : Func} {c : Code} {args boxes : List D} {K : ARes → List D → Prop} (hf : X.P.funcs[f]? = some fn) (hb : fn.body = some c) (hn : (rTmps fn.results.toList).Nodup)
    (h : AWPD X c (fun e S => (S.nb = boxes.length ∧ S.nb ≤ S.boxes.length) ∧ Kf X.T fn.results.toList K e S) (LateOk X fn.results.toList boxes.length K) ⟨fn.ntmps, enterS 0 args, boxes, boxes.length⟩) : CT X f args boxes K := by
  intro β w R Oa Ob cargs h1 h2 h3 h4 h5 h6 h7 h8 h9 h10 h11
  have H : Ent X args boxes β w R Oa Ob cargs := ⟨h1, h2, h3, h4, h5, h6, h7, h8, h9, h10, h11⟩
  obtain ⟨Os, hst⟩ := enter_str H fn.ntmps
  refine calls_of_wp_defers hf hb (Code.wp_mono ?_ (h (gh0 X β w R Oa Ob) β R Os _ w rfl rfl hst))
  rintro e a' w' (hq | hq)
  · obtain ⟨ae, S, β', R', Os', ⟨⟨hlen, hle⟩, hK⟩, hs, he⟩ := hq
    have hd0 : a'.defers = [] := hs.defers
    have ret : (∃ d, resD X.T S fn.results.toList = some d ∧ S.okR d = true ∧ K (.ret d) (S.boxes.take S.nb)) → ∃ v, (results fn a'.tmps).run X.P w' = .ok v w' ∧ ∃ r boxes' R' Or Ob', K r boxes' ∧ Back X β w R Oa Ob boxes r boxes' (.returned v) w' R' Or Ob' := by
      rintro ⟨d, hd, hok, hKd⟩
      obtain ⟨v, O, q1, q2, q3⟩ := res_run hX hs hd hn
      refine ⟨v, q1, .ret d, _, _, O, _, hKd, fin_back H hlen hle hok (.inl rfl) hs ?_ ?_⟩
      · exact q2.up (fun _ _ x => x) (fun x hx => .inr hx) (fun _ _ => rfl) (fun _ _ => rfl) (fun _ x => x)
      · intro x hx
        obtain ⟨t, _, ht⟩ := q3 x hx
        exact ⟨t, ht⟩
    cases ae <;> cases e <;> simp only [ExOk] at he <;> first | exact he.elim | skip
    · simp only [bodyPostD, hd0, Leaves]; exact ret hK
    · exact hK.elim
    · simp only [bodyPostD, hd0, Leaves]; exact ret hK
    · obtain ⟨v, rfl, hv⟩ := he
      simp only [bodyPostD, hd0, Leaves]
      refine ⟨.pan _, _, _, Blk.emp, _, hK.2, fin_back H hlen hle hK.1 (.inr rfl) hs ⟨v, rfl, ?_⟩ (fun x hx => hx.elim)⟩
      exact hv.up (fun _ _ x => x) (fun x hx => .inr hx) (fun _ _ => rfl) (fun _ _ => rfl) (fun _ x => x)
  · obtain ⟨k, caps, vs, ae, S2, n1, β1, β2, R2, Os2, ⟨l1, ⟨l2, l3⟩, l4, pv, bs', l5, l6, d, l7, l8, l9⟩, hE, k1, k2, k3, k3', k4, k5, k6⟩ := hq
    have hds : a'.defers = [⟨.fn (.func k) vs, #[]⟩] := k5.defers
    -- the boxes behind n1 are struck
    have hβ : (fun b => if b < n1 then β2 b else none) = β1 := by
      funext b
      by_cases hb : b < n1
      · simp only [if_pos hb]; exact k3 b hb
      · simp only [if_neg hb]; exact (k2 b (by omega)).symm
    have c1 := k5.cut l2 l3 l4 (by rw [hβ]; exact k4)
    rw [hβ] at c1
    have hRo : ∀ q x, R2 x → ¬ Os2 q x := fun q x hx hy => c1.apart q x hx hy
    have hEnt : Ent X caps (S2.boxes.take n1) β1 w' R2 Blk.emp (fun i => Os2 (.box i)) vs.toList := by
      refine ⟨?_, c1.boxes, fun i j hij => c1.disj _ _ (by simpa using hij), fun i x hx => hx.elim, fun x _ hx => hx, fun i => c1.apart _, fun x hx => (c1.read x hx).1, fun x hx => hx.elim, fun i x hx => (c1.own _ x hx).1, k4, ?_⟩
      · exact relVV_of_vs _ _ _ k1
      · intro b hb
        have hb : (S2.boxes.take n1).length ≤ b := hb
        simp at hb
        exact k2 b (by omega)
    have step : ∀ u, u ≠ .run → ModeR β1 w' R2 pv u → Leaves X.P fn a'.tmps (fun e w' => ∃ r boxes' R' Or Ob', K r boxes' ∧ Back X β w R Oa Ob boxes r boxes' e w' R' Or Ob') a'.defers u w' := by
      intro u hu hm
      rw [hds]
      refine leaves_cons hu (f := k) (args := vs) ?_ ?_
      · simp only [invoke]
        have := enters_run hE vs w'
        simpa using this
      · have hc := l6 β1 w' R2 Blk.emp (fun i => Os2 (.box i)) vs.toList u hEnt hm
        rw [Array.toArray_toList] at hc
        refine hc.mono ?_
        rintro e u' w2 ⟨⟨v, rfl⟩, hset, r, R3, Or, Ob3, hback⟩
        show Leaves X.P fn a'.tmps _ [] (settle u') w2
        rw [hset]
        have hst2 := c1.back hback (fun q x _ hx => hx.elim) (fun x hx => hx.elim) (fun x _ hx => hx)
        have hst3 : StR (gh0 X β w R Oa Ob) β1 R3 (fun q => match q with | .slot t => Os2 (.slot t) | .box b => Ob3 b) ((S2.cut n1).back bs') { a' with defers := [] } w2 := ⟨hst2.ext, hst2.size, rfl, hst2.slots, fun t b r p q => (hst2.ups t b r p q).cong rfl rfl rfl, hst2.boxes, hst2.disj, hst2.apart, hst2.own, hst2.read, hst2.fr, hst2.glob⟩
        obtain ⟨v', O, q1, q2, q3⟩ := res_run hX hst3 l7 hn
        have hl : bs'.length = n1 := by
          have := hback.len
          simp at this
          omega
        have hnb : ((S2.cut n1).back bs').nb = boxes.length := l1
        have main := fin_back H hnb (by show S2.nb ≤ bs'.length; omega) l8 (.inl rfl) hst3 (e := .returned v') (Or := O)
          (q2.up (fun _ _ x => x) (fun x hx => .inr hx) (fun _ _ => rfl) (fun _ _ => rfl) (fun _ x => x))
          (fun x hx => by obtain ⟨t, _, ht⟩ := q3 x hx; exact ⟨t, ht⟩)
        rw [hnb] at main
        exact ⟨v', q1, .ret d, _, _, O, _, l9, main⟩
    cases ae <;> cases e <;> simp only [ExOk] at k6 <;> first | exact k6.elim | skip
    · subst l5; exact step .returning (by simp) rfl
    · exact l5.elim
    · subst l5; exact step .returning (by simp) rfl
    · obtain ⟨v, rfl, hv⟩ := k6
      obtain ⟨rfl, hlo⟩ := l5
      refine step (.panicking _) (by simp) ⟨v, rfl, hv.down (n := n1) ?_ hlo⟩
      intro b x hb hx
      rw [← k3 b hb]; exact hx
end
end Go.Proofs.YtfbppkjjdbkedaaGreatDoor.Ref
/-
  The abstract machine as a program: functions that defer a call which recovers.
-/
namespace Go.Proofs.YtfbppkjjdbkedaaGreatDoor.Ref
noncomputable section
open Go
set_option linter.unusedVariables false
variable {X : Cx}

inductive DOut where
  | early (e : AEx) (S : ASt)
  | late (k : FuncId) (caps : List D) (n1 : Nat) (e : AEx) (S : ASt)
/-- The region that defers: what it defers. -/
def dfrO : Code → Option (Nat × Oper × Oper × Nat)
  | .region id ⟨[o1, o2]⟩ false => match o2.op, o2.guard, o2.dst, o1.guard with
    | .defer ⟨.value (.tmp t), ⟨[]⟩, ⟨[]⟩⟩, none, none, none => some (id, o1, o2, t)
    | _, _, _, _ => none
  | _ => none
def isCall : Op → Bool
  | .call _ => true
  | _ => false
theorem dfrO_eq {c : Code} {id : Nat} {o1 o2 : Oper} {t : Nat} (h : dfrO c = some (id, o1, o2, t)) : c = .region id #[o1, o2] false ∧ o2.op = .defer ⟨.value (.tmp t), #[], #[]⟩ ∧ o2.guard = none ∧ o2.dst = none ∧ o1.guard = none := by
  unfold dfrO at h
  split at h
  · split at h
    · rename_i h1 h2 h3 h4
      simp only [Option.some.injEq, Prod.mk.injEq] at h
      obtain ⟨rfl, rfl, rfl, rfl⟩ := h
      exact ⟨rfl, h1, h2, h3, h4⟩
    · simp at h
  · simp at h
def dfrs : Code → Bool
  | .seq a b => (dfrO a).isSome || dfrs b
  | _ => false
def drun (X : Cx) (C : Tab) (W : Drawer) (H : Hint) (N : Nat) (F : FuncId → Bool) : Code → ASt → Option DOut
  | .seq a b, S => match dfrO a with
    | some (id, o1, o2, t) => gd (!isCall o1.op) <| bd (opS X S (H.op id 0) o1) fun S1 => bd (asF (look S1.slots t)) fun kc => gd (F kc.1 && Nat.ble S1.nb S1.boxes.length) <| bd (arun X C W H N b S1.lendAll) fun r => gd (Nat.beq r.2.nb S1.boxes.length && Nat.ble r.2.nb r.2.boxes.length) (some (.late kc.1 kc.2 S1.boxes.length r.1 { r.2 with nb := S1.nb }))
    | none => match arun X C W H N a S with
      | some (.normal, S') => drun X C W H N F b S'
      | some (e, S') => some (.early e S')
      | none => none
  | c, S => bd (arun X C W H N c S) fun r => some (.early r.1 r.2)
def DOut.sat (Ke : AEx → ASt → Prop) (Kl : FuncId → List D → Nat → AEx → ASt → Prop) : DOut → Prop
  | .early e S => Ke e S
  | .late k caps n1 e S => Kl k caps n1 e S
theorem awpd_early {c : Code} {Ke : AEx → ASt → Prop} {Kl : FuncId → List D → Nat → AEx → ASt → Prop} {S : ASt} (h : AWP X c Ke S) : AWPD X c Ke Kl S := fun g β R Os a w hG hd hs => Code.wp_mono (fun e a w h => .inl h) (h g β R Os a w hG hs)
theorem asF_eq' {x : Option TV} {k : FuncId} {caps : List D} (h : asF x = some (k, caps)) : x = some (.d (.fn k caps)) := asF_eq h
theorem drun_ok (hX : X.Ok) {C : Tab} (hC : C.Ok X) {W : Drawer} (hW : W.Ok X) {H : Hint} {N : Nat} {F : FuncId → Bool} (hF : ∀ k, F k = true → Enters X k) {Ke : AEx → ASt → Prop} {Kl : FuncId → List D → Nat → AEx → ASt → Prop} :
    ∀ (c : Code) (S : ASt) (out : DOut), drun X C W H N F c S = some out → out.sat Ke Kl → AWPD X c Ke Kl S
  | .seq a b, S, out, h, hK => by
    simp only [drun] at h
    split at h
    · rename_i id o1 o2 t hd
      obtain ⟨rfl, d2, d3, d4, d5⟩ := dfrO_eq hd
      obtain ⟨hc, h⟩ := gd_eq h
      obtain ⟨S1, h1, h⟩ := bd_eq h
      obtain ⟨⟨k, caps⟩, h2, h⟩ := bd_eq h
      obtain ⟨hf, h⟩ := gd_eq h
      simp only [Bool.and_eq_true] at hf
      obtain ⟨⟨e, S2⟩, h3, h⟩ := bd_eq h
      obtain ⟨hb, h⟩ := gd_eq h
      simp only [Bool.and_eq_true] at hb
      injection h with h
      subst h
      refine awpd_defer hX h1 d5 (fun c e => by rw [e] at hc; simp [isCall] at hc) d2 d3 d4 (asF_eq h2) (hF _ hf.1) (Nat.le_of_ble_eq_true hf.2) (arun_ok hX hC hW b _ e S2 _ h3 ⟨⟨Nat.eq_of_beq_eq_true hb.1, Nat.le_of_ble_eq_true hb.2⟩, hK⟩)
    · refine awpd_seq ?_
      split at h
      · rename_i S' h1
        exact arun_ok hX hC hW a S _ S' _ h1 (drun_ok hX hC hW hF b S' out h hK)
      · rename_i e S' hne h1
        injection h with h
        subst h
        refine arun_ok hX hC hW a S e S' _ h1 ?_
        cases e with
        | normal => exact absurd rfl hne
        | exit j => exact hK
        | ret => exact hK
        | pan d => exact hK
      · simp at h
  | .skip, S, out, h, hK => by
    simp only [drun] at h
    obtain ⟨⟨e, S'⟩, h1, h⟩ := bd_eq h
    injection h with h; subst h
    exact awpd_early (arun_ok hX hC hW _ S e S' _ h1 hK)
  | .region _ _ _, S, out, h, hK => by
    simp only [drun] at h
    obtain ⟨⟨e, S'⟩, h1, h⟩ := bd_eq h
    injection h with h; subst h
    exact awpd_early (arun_ok hX hC hW _ S e S' _ h1 hK)
  | .cond _ _ _, S, out, h, hK => by
    simp only [drun] at h
    obtain ⟨⟨e, S'⟩, h1, h⟩ := bd_eq h
    injection h with h; subst h
    exact awpd_early (arun_ok hX hC hW _ S e S' _ h1 hK)
  | .block _ _, S, out, h, hK => by
    simp only [drun] at h
    obtain ⟨⟨e, S'⟩, h1, h⟩ := bd_eq h
    injection h with h; subst h
    exact awpd_early (arun_ok hX hC hW _ S e S' _ h1 hK)
  | .loop _, S, out, h, hK => by
    simp only [drun] at h
    obtain ⟨⟨e, S'⟩, h1, h⟩ := bd_eq h
    injection h with h; subst h
    exact awpd_early (arun_ok hX hC hW _ S e S' _ h1 hK)
  | .exit _, S, out, h, hK => by
    simp only [drun] at h
    obtain ⟨⟨e, S'⟩, h1, h⟩ := bd_eq h
    injection h with h; subst h
    exact awpd_early (arun_ok hX hC hW _ S e S' _ h1 hK)
  | .ret, S, out, h, hK => by
    simp only [drun] at h
    obtain ⟨⟨e, S'⟩, h1, h⟩ := bd_eq h
    injection h with h; subst h
    exact awpd_early (arun_ok hX hC hW _ S e S' _ h1 hK)
  | .rangeFunc _ _ _ _, S, out, h, hK => by simp [drun, arun, bd] at h
  | .scope _, S, out, h, hK => by simp [drun, arun, bd] at h
  | .label _, S, out, h, hK => by simp [drun, arun, bd] at h
  | .goto _, S, out, h, hK => by simp [drun, arun, bd] at h
  | .refuse _, S, out, h, hK => by simp [drun, arun, bd] at h

-- ---------------------------------------------------------------- what is deferred
def closC : Code → Option (Nat × Nat × Code)
  | .seq (.region id ⟨[o1, o2]⟩ false) rest => match o1.op, o1.dst, o1.guard, o2.op, o2.dst, o2.guard with
    | .call ⟨.builtin .recover, ⟨[]⟩, ts⟩, some t1, none, .assign (.tmp t), some t2, none => gd (Nat.beq t t1) (some (t1, t2, rest))
    | _, _, _, _, _, _ => none
  | _ => none
theorem closC_eq {c rest : Code} {t1 t2 : Nat} (h : closC c = some (t1, t2, rest)) : ∃ id o1 o2 cc, c = .seq (.region id #[o1, o2] false) rest ∧ o1.op = .call cc ∧ cc.callee = .builtin .recover ∧ cc.args = #[] ∧ o1.guard = none ∧ o1.dst = some t1 ∧ o2.op = .assign (.tmp t1) ∧ o2.guard = none ∧ o2.dst = some t2 := by
  unfold closC at h
  split at h
  · split at h
    · rename_i id o1 o2 rest' _ _ _ _ _ _ ts t1' t t2' h1 h2 h3 h4 h5 h6
      obtain ⟨hb, h⟩ := gd_eq h
      simp only [Option.some.injEq, Prod.mk.injEq] at h
      obtain ⟨rfl, rfl, rfl⟩ := h
      have := Nat.eq_of_beq_eq_true hb
      subst this
      exact ⟨_, _, _, _, rfl, h1, rfl, rfl, h3, h2, h4, h6, h5⟩
    · simp at h
  · simp at h
def clos (X : Cx) (C : Tab) (W : Drawer) (Hs : FuncId → Hint) (N : Nat) (F : Funs) (k : FuncId) (pv : Option D) (caps boxes : List D) : Option (List D) := bd (F k) fun fn => bd fn.body fun c => bd (closC c) fun r => gd (decide (r.1 < fn.ntmps) && decide (r.2.1 < fn.ntmps)) <|
  bd (arun X C W (Hs k) N r.2.2 (((⟨fn.ntmps, enterS 0 caps, boxes, boxes.length⟩ : ASt).put r.1 (.d (pvD pv))).put r.2.1 (.d (pvD pv)))) fun q => gd ((match q.1 with | .normal => true | .ret => true | _ => false) && Nat.beq q.2.nb boxes.length && Nat.ble q.2.nb q.2.boxes.length) <|
    bd (resD X.T q.2 fn.results.toList) fun d => gd (q.2.okR d) (some (q.2.boxes.take q.2.nb))
def isIfD : D → Bool
  | .ifc _ _ => true
  | _ => false
theorem clos_ok (hX : X.Ok) {C : Tab} (hC : C.Ok X) {W : Drawer} (hW : W.Ok X) {Hs : FuncId → Hint} {N : Nat} {F : Funs} (hF : F.Ok X) {k : FuncId} {pv : Option D} (hpv : ∀ d, pv = some d → isIfD d = true) {caps boxes bs' : List D} (h : clos X C W Hs N F k pv caps boxes = some bs') : CTD X k pv caps boxes bs' := by
  obtain ⟨fn, h1, h⟩ := bd_eq h
  obtain ⟨c, h2, h⟩ := bd_eq h
  obtain ⟨⟨t1, t2, rest⟩, h3, h⟩ := bd_eq h
  obtain ⟨hb, h⟩ := gd_eq h
  simp only [Bool.and_eq_true, decide_eq_true_eq] at hb
  obtain ⟨⟨e, S⟩, h4, h⟩ := bd_eq h
  obtain ⟨hc, h⟩ := gd_eq h
  simp only [Bool.and_eq_true] at hc
  obtain ⟨d, h5, h⟩ := bd_eq h
  obtain ⟨h6, h⟩ := gd_eq h
  injection h with hend
  obtain ⟨id, o1, o2, cc, rfl, k1, k2, k3, k4, k5, k6, k7, k8⟩ := closC_eq h3
  obtain ⟨f1, f2, f3⟩ := hF k fn h1
  refine ctd_of_awp hX f1 h2 k1 k2 k3 k4 k5 k6 k7 k8 hb.1 hb.2 f3 ?_ (arun_ok hX hC hW rest _ e S _ h4 ⟨?_, ⟨Nat.eq_of_beq_eq_true hc.1.2, Nat.le_of_ble_eq_true hc.2⟩, d, h5, h6, hend⟩)
  · intro d' hd'
    have := hpv d' hd'
    cases d' <;> simp [isIfD] at this
    exact ⟨_, _, rfl⟩
  · have := hc.1.1
    cases e <;> simp at this ⊢
def pvE (n1 : Nat) : AEx → Option (Option D)
  | .normal => some none
  | .ret => some none
  | .pan d => gd (d.lo n1 && isIfD d) (some (some d))
  | .exit _ => none
def dcall (X : Cx) (C : Tab) (W : Drawer) (Hs : FuncId → Hint) (N : Nat) (F : Funs) (H : Hint) (fn : Func) (c : Code) (ds bs : List D) : Option (ARes × List D) := bd (drun X C W H N (fun k => match F k with | some fn => fn.body.isSome | none => false) c ⟨fn.ntmps, enterS 0 ds, bs, bs.length⟩) fun out => match out with
  | .early e S => finF X fn.results.toList bs.length (e, S)
  | .late k caps n1 e S => gd (Nat.beq S.nb bs.length && Nat.ble S.nb n1 && Nat.ble n1 S.boxes.length && D.loL n1 (S.boxes.take n1)) <| bd (pvE n1 e) fun pv => bd (clos X C W Hs N F k pv caps (S.boxes.take n1)) fun bs' =>
      bd (resD X.T ((S.cut n1).back bs') fn.results.toList) fun d => gd (((S.cut n1).back bs').okR d) (some (.ret d, bs'.take bs.length))
theorem dcall_ok (hX : X.Ok) {C : Tab} (hC : C.Ok X) {W : Drawer} (hW : W.Ok X) {Hs : FuncId → Hint} {N : Nat} {F : Funs} (hF : F.Ok X) {H : Hint} {f : FuncId} {fn : Func} {c : Code} (hf : F f = some fn) (hb : fn.body = some c) {ds bs bs' : List D} {r : ARes} (h : dcall X C W Hs N F H fn c ds bs = some (r, bs')) :
    CT X f ds bs (fun r' b' => r' = r ∧ b' = bs') := by
  obtain ⟨k1, k2, k3⟩ := hF f fn hf
  obtain ⟨out, h1, h⟩ := bd_eq h
  refine ct_of_awpd hX k1 hb k3 (drun_ok hX hC hW ?_ c _ out h1 ?_)
  · intro k hk
    split at hk
    · rename_i fn' hfn
      obtain ⟨m1, m2, m3⟩ := hF k fn' hfn
      exact ⟨fn', m1, m2, hk⟩
    · simp at hk
  · split at h
    · rename_i e S
      show _ ∧ _
      unfold finF at h
      obtain ⟨hb, h⟩ := gd_eq h
      simp only [Bool.and_eq_true] at hb
      refine ⟨⟨Nat.eq_of_beq_eq_true hb.1, Nat.le_of_ble_eq_true hb.2⟩, ?_⟩
      cases e with
      | normal =>
        obtain ⟨d, m1, h⟩ := bd_eq h
        obtain ⟨m2, h⟩ := gd_eq h
        simp only [Option.some.injEq, Prod.mk.injEq] at h
        exact ⟨d, m1, m2, h.1, h.2⟩
      | ret =>
        obtain ⟨d, m1, h⟩ := bd_eq h
        obtain ⟨m2, h⟩ := gd_eq h
        simp only [Option.some.injEq, Prod.mk.injEq] at h
        exact ⟨d, m1, m2, h.1, h.2⟩
      | pan d =>
        obtain ⟨m2, h⟩ := gd_eq h
        simp only [Option.some.injEq, Prod.mk.injEq] at h
        exact ⟨m2, h.1, h.2⟩
      | exit j => simp at h
    · rename_i k caps n1 e S
      obtain ⟨hc, h⟩ := gd_eq h
      simp only [Bool.and_eq_true] at hc
      obtain ⟨pv, h2, h⟩ := bd_eq h
      obtain ⟨bs1, h3, h⟩ := bd_eq h
      obtain ⟨d, h4, h⟩ := bd_eq h
      obtain ⟨h5, h⟩ := gd_eq h
      simp only [Option.some.injEq, Prod.mk.injEq] at h
      refine ⟨Nat.eq_of_beq_eq_true hc.1.1.1, ⟨Nat.le_of_ble_eq_true hc.1.1.2, Nat.le_of_ble_eq_true hc.1.2⟩, hc.2, pv, bs1, ?_, clos_ok hX hC hW hF ?_ h3, d, h4, h5, h.1, h.2⟩
      · cases e with
        | normal => simp only [pvE, Option.some.injEq] at h2; exact h2.symm
        | ret => simp only [pvE, Option.some.injEq] at h2; exact h2.symm
        | pan d =>
          simp only [pvE] at h2
          obtain ⟨hb, h2⟩ := gd_eq h2
          simp only [Bool.and_eq_true] at hb
          injection h2 with h2
          exact ⟨h2.symm, hb.1⟩
        | exit j => simp [pvE] at h2
      · intro d' hd'
        subst hd'
        cases e with
        | normal => simp [pvE] at h2
        | ret => simp [pvE] at h2
        | pan d =>
          simp only [pvE] at h2
          obtain ⟨hb, h2⟩ := gd_eq h2
          simp only [Bool.and_eq_true] at hb
          injection h2 with h2
          injection h2 with h2
          rw [← h2]
          exact hb.2
        | exit j => simp [pvE] at h2

/-- A call of a function, on data, with calls deferred. -/
def acall2 (X : Cx) (F : Funs) (Hs : FuncId → Hint) (W : Drawer) (T : Tab) (N : Nat) : Nat → Tab
  | 0 => fun _ _ _ => none
  | n + 1 => fun f ds bs => match T f ds bs with
    | some r => some r
    | none => bd (F f) fun fn => bd fn.body fun c => match dfrs c with
      | false => bd (arun X (acall2 X F Hs W T N n) W (Hs f) N c ⟨fn.ntmps, enterS 0 ds, bs, bs.length⟩) fun r => finF X fn.results.toList bs.length r
      | true => dcall X (acall2 X F Hs W T N n) W Hs N F (Hs f) fn c ds bs
theorem acall2_ok (hX : X.Ok) {F : Funs} (hF : F.Ok X) {Hs : FuncId → Hint} {W : Drawer} (hW : W.Ok X) {T : Tab} (hT : T.Ok X) {N : Nat} : ∀ n, (acall2 X F Hs W T N n).Ok X
  | 0 => fun k ds bs r bs' h => by simp [acall2] at h
  | n + 1 => fun k ds bs r bs' h => by
    simp only [acall2] at h
    split at h
    · rename_i r' hr
      injection h with h
      subst h
      exact hT _ _ _ _ _ hr
    · obtain ⟨fn, h1, h⟩ := bd_eq h
      obtain ⟨c, h2, h⟩ := bd_eq h
      obtain ⟨k1, k2, k3⟩ := hF k fn h1
      refine ⟨⟨fn, k1, k2, by rw [h2]; rfl⟩, ?_⟩
      split at h
      · obtain ⟨⟨e, S⟩, h3, h⟩ := bd_eq h
        refine ct_of_awp hX k1 h2 k3 (arun_ok hX (acall2_ok hX hF hW hT n) hW c _ e S _ h3 ?_)
        unfold finF at h
        obtain ⟨hb, h⟩ := gd_eq h
        simp only [Bool.and_eq_true] at hb
        refine ⟨⟨Nat.eq_of_beq_eq_true hb.1, Nat.le_of_ble_eq_true hb.2⟩, ?_⟩
        cases e with
        | normal =>
          obtain ⟨d, m1, h⟩ := bd_eq h
          obtain ⟨m2, h⟩ := gd_eq h
          simp only [Option.some.injEq, Prod.mk.injEq] at h
          exact ⟨d, m1, m2, h.1, h.2⟩
        | ret =>
          obtain ⟨d, m1, h⟩ := bd_eq h
          obtain ⟨m2, h⟩ := gd_eq h
          simp only [Option.some.injEq, Prod.mk.injEq] at h
          exact ⟨d, m1, m2, h.1, h.2⟩
        | pan d =>
          obtain ⟨m2, h⟩ := gd_eq h
          simp only [Option.some.injEq, Prod.mk.injEq] at h
          exact ⟨m2, h.1, h.2⟩
        | exit j => simp at h
      · exact dcall_ok hX (acall2_ok hX hF hW hT n) hW hF h1 h2 h
end
end Go.Proofs.YtfbppkjjdbkedaaGreatDoor.Ref
/-
  The abstract machine: tables of known calls.
-/
namespace Go.Proofs.YtfbppkjjdbkedaaGreatDoor.Ref
noncomputable section
open Go
set_option linter.unusedVariables false
variable {X : Cx}
def T0 : Tab := fun _ _ _ => none
theorem T0_ok : T0.Ok X := fun k ds bs r bs' h => by simp [T0] at h
/-- One more known call. -/
def tcons (f : FuncId) (ds bs : List D) (r : ARes) (bs' : List D) (T : Tab) : Tab := fun f' ds' b' => match Nat.beq f f' && eqDs ds ds' && eqDs bs b' with
  | true => some (r, bs')
  | false => T f' ds' b'
theorem tcons_ok {F : Funs} {Hs : FuncId → Hint} {W : Drawer} {T : Tab} {N n : Nat} {f : FuncId} {ds bs bs' : List D} {r : ARes} (hX : X.Ok) (hF : F.Ok X) (hW : W.Ok X) (hT : T.Ok X) (h : acall2 X F Hs W T N n f ds bs = some (r, bs')) : (tcons f ds bs r bs' T).Ok X := by
  intro k ds1 bs1 r1 b1 h1
  unfold tcons at h1
  split at h1
  · rename_i hc
    simp only [Bool.and_eq_true] at hc
    have e1 := Nat.eq_of_beq_eq_true hc.1.1
    have e2 := eqDs_of hc.1.2
    have e3 := eqDs_of hc.2
    subst e1 e2 e3
    injection h1 with h1
    injection h1 with h1 h2
    subst h1 h2
    exact acall2_ok hX hF hW hT n _ _ _ _ _ h
  · exact hT _ _ _ _ _ h1
theorem tcons_ok' {T : Tab} {f : FuncId} {ds bs bs' : List D} {r : ARes} (hT : T.Ok X) (h : Enters X f ∧ CT X f ds bs (fun r' b' => r' = r ∧ b' = bs')) : (tcons f ds bs r bs' T).Ok X := by
  intro k ds1 bs1 r1 b1 h1
  unfold tcons at h1
  split at h1
  · rename_i hc
    simp only [Bool.and_eq_true] at hc
    have e1 := Nat.eq_of_beq_eq_true hc.1.1
    have e2 := eqDs_of hc.1.2
    have e3 := eqDs_of hc.2
    subst e1 e2 e3
    injection h1 with h1
    injection h1 with h1 h2
    subst h1 h2
    exact h
  · exact hT _ _ _ _ _ h1
theorem relVV_down {β β' : Env} {w : World} {R : Blk} (hβ : ∀ b x, b < 0 → β' b = some x → β b = some x) : ∀ (ds : List D) (cs : List Value) (O : Blk), D.loL 0 ds = true → RelVV β' w R ds cs O → RelVV β w R ds cs O
  | [], cs, O, hl, h => by simp only [RelVV] at h ⊢; exact h
  | d :: ds, cs, O, hl, h => by
    simp only [D.loL, Bool.and_eq_true] at hl
    simp only [RelVV] at h ⊢
    obtain ⟨c, cs', O1, O2, h1, h2, h3, h4, h5, h6⟩ := h
    exact ⟨c, cs', O1, O2, h1, h2.down hβ hl.1, relVV_down hβ ds cs' O2 hl.2 h3, h4, h5, h6⟩
/-- Boxes that a call does not know stay. -/
theorem ct_frame {f : FuncId} {ds : List D} {r0 : ARes} {d : D} (h : CT X f ds [] (fun r b => r = r0 ∧ b = [])) (hl : D.loL 0 ds = true) (hr : r0 = .ret d) (bs : List D) (hG : ∀ i e, X.G i = some e → e.lo 0 = true) : CT X f ds bs (fun r b => r = r0 ∧ b = bs) := by
  intro β w R Oa Ob cargs h1 h2 h3 h4 h5 h6 h7 h8 h9 h10 h11
  have hd : ∀ (β1 β2 : Env) b x, b < 0 → β1 b = some x → β2 b = some x := fun _ _ b x hb => absurd hb (Nat.not_lt_zero b)
  have hc := h (fun _ => none) w R Oa (fun _ => Blk.emp) cargs (relVV_down (hd _ _) ds cargs Oa hl h1) (fun b d hb => by simp at hb) (fun _ _ _ _ hx => hx.elim) (fun _ _ _ hx => hx.elim) h5 (fun _ _ _ hx => hx.elim) h7 h8 (fun _ _ hx => hx.elim)
    (fun i e hi => (h10 i e hi).down0 (hG i e hi)) (fun _ _ => rfl)
  refine hc.mono ?_
  rintro e w' ⟨r, b', R', Or, Ob', ⟨rfl, rfl⟩, k⟩
  subst hr
  have hfr : ∀ i x, Ob i x → w'.heap[x]? = w.heap[x]? := fun i x hx => k.fr.block x (h9 i x hx) fun hh => hh.elim (fun ho => h4 i x ho hx) fun ⟨_, he⟩ => he
  have hRn : ∀ i x, R' x → ¬ Ob i x := fun i x hx ho => by
    rcases (k.read x hx).2 with q | q | ⟨_, q⟩ | q
    · exact h6 i x q ho
    · exact h4 i x q ho
    · exact q
    · have := h9 i x ho; omega
  have hOn : ∀ i x, Or x → ¬ Ob i x := fun i x hx ho => by
    rcases (k.ownr x hx).2 with q | ⟨_, q⟩ | q
    · exact h4 i x q ho
    · exact q
    · have := h9 i x ho; omega
  refine ⟨.ret d, bs, R', Or, Ob, ⟨rfl, rfl⟩, rfl, ?_, ?_, ⟨k.fr.os, k.fr.tape, k.fr.output, k.fr.size, fun x hx ho => k.fr.block x hx fun hh => ho (hh.elim .inl fun ⟨_, he⟩ => he.elim)⟩, k.more, ?_, ?_, ?_, k.d1, hRn, hOn, h3⟩
  · cases e with
    | returned v => exact (show RelV β w' R' d v Or from RelV.up (β := fun _ => none) k.ret (fun _ _ hh => by cases hh) (fun _ x => x) (fun _ _ => rfl) (fun _ _ => rfl) (fun _ x => x))
    | panicked c => exact k.ret.elim
    | outgrown => exact k.ret.elim
  · intro b e hb
    exact (h2 b e hb).up (fun _ _ x => x) k.more (fun x hx => k.fr.block x (h7 x hx) fun hh => hh.elim (fun ho => h5 x hx ho) fun ⟨_, he⟩ => he) (fun x hx => hfr b x hx) (fun _ x => x)
  · intro x hx
    obtain ⟨q1, q2⟩ := k.read x hx
    exact ⟨q1, q2.imp_right fun q => q.imp_right fun q => q.imp_left fun ⟨_, q⟩ => q.elim⟩
  · intro x hx
    obtain ⟨q1, q2⟩ := k.ownr x hx
    exact ⟨q1, q2.imp_right fun q => q.imp_left fun ⟨_, q⟩ => q.elim⟩
  · intro i x hx
    exact ⟨Nat.lt_of_lt_of_le (h9 i x hx) k.fr.size, .inr (.inl ⟨i, hx⟩)⟩
/-- One more known call, the boxes being what they are. -/
def tany (f : FuncId) (ds : List D) (d : D) (T : Tab) : Tab := fun f' ds' b' => match Nat.beq f f' && eqDs ds ds' with
  | true => some (.ret d, b')
  | false => T f' ds' b'
theorem tany_ok {T : Tab} {f : FuncId} {ds : List D} {d : D} (hG : ∀ i e, X.G i = some e → e.lo 0 = true) (hT : T.Ok X) (hl : D.loL 0 ds = true) (h : Enters X f ∧ CT X f ds [] (fun r b => r = .ret d ∧ b = [])) : (tany f ds d T).Ok X := by
  intro k ds1 bs1 r1 b1 h1
  unfold tany at h1
  split at h1
  · rename_i hc
    simp only [Bool.and_eq_true] at hc
    have e1 := Nat.eq_of_beq_eq_true hc.1
    have e2 := eqDs_of hc.2
    subst e1 e2
    injection h1 with h1
    injection h1 with h1 h2
    subst h1 h2
    obtain ⟨q1, q2⟩ := h
    exact ⟨q1, ct_frame q2 hl rfl _ hG⟩
  · exact hT _ _ _ _ _ h1
end
end Go.Proofs.YtfbppkjjdbkedaaGreatDoor.Ref
