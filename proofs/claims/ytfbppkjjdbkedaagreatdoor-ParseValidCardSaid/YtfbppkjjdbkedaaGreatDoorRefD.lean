/-
  The abstract machine: ranges over functions, walks on data that is not known, readings of memory as data.
-/
import Derived.Test.YtfbppkjjdbkedaaGreatDoorRefC
import Derived.RangeFuncLeaves
import Derived.RangeFuncRecord
import Derived.RangeFuncSeq
import Derived.OrdersIn
import Derived.TacticsIn
import Derived.KernelRfl
import GoSem.ClaimJoined
import Derived.ChangeOld
import Derived.WideShapes
import Derived.Carry
import Derived.Below
import Derived.ChangeShapes
import Derived.OpenShut
import Derived.ProofKit
/-
  The abstract machine: pieces of code on data of which some is not known.
-/
namespace Go.Proofs.YtfbppkjjdbkedaaGreatDoor.Ref
noncomputable section
open Go
set_option linter.unusedVariables false
variable {X : Cx}

theorem finF_ok {rs : List ResultVar} {n : Nat} {e : AEx} {S : ASt} {r : ARes} {bs : List D} {K : ARes → List D → Prop} (h : finF X rs n (e, S) = some (r, bs)) (hK : K r bs) : (S.nb = n ∧ S.nb ≤ S.boxes.length) ∧ Kf X.T rs K e S := by
  unfold finF at h
  obtain ⟨hb, h⟩ := gd_eq h
  simp only [Bool.and_eq_true] at hb
  refine ⟨⟨Nat.eq_of_beq_eq_true hb.1, Nat.le_of_ble_eq_true hb.2⟩, ?_⟩
  cases e with
  | normal =>
    obtain ⟨d, m1, h⟩ := bd_eq h
    obtain ⟨m2, h⟩ := gd_eq h
    simp only [Option.some.injEq, Prod.mk.injEq] at h
    exact ⟨d, m1, m2, by rw [h.1, h.2]; exact hK⟩
  | ret =>
    obtain ⟨d, m1, h⟩ := bd_eq h
    obtain ⟨m2, h⟩ := gd_eq h
    simp only [Option.some.injEq, Prod.mk.injEq] at h
    exact ⟨d, m1, m2, by rw [h.1, h.2]; exact hK⟩
  | pan d =>
    obtain ⟨m2, h⟩ := gd_eq h
    simp only [Option.some.injEq, Prod.mk.injEq] at h
    exact ⟨m2, by rw [h.1, h.2]; exact hK⟩
  | exit j => simp at h
/-- The end of a function: it comes to K. -/
def KF (X : Cx) (rs : List ResultVar) (n : Nat) (K : ARes → List D → Prop) : AEx → ASt → Prop := fun e S => ∃ r bs, finF X rs n (e, S) = some (r, bs) ∧ K r bs
/-- A function's contract out of its code. -/
theorem ct_code (hX : X.Ok) {F : Funs} (hF : F.Ok X) {f : FuncId} {fn : Func} {c : Code} {args boxes : List D} {K : ARes → List D → Prop} (h1 : F f = some fn) (h2 : fn.body = some c)
    (h : AWP X c (KF X fn.results.toList boxes.length K) ⟨fn.ntmps, enterS 0 args, boxes, boxes.length⟩) : CT X f args boxes K := by
  obtain ⟨k1, k2, k3⟩ := hF f fn h1
  exact ct_of_awp hX k1 h2 k3 (awp_mono h fun e S ⟨r, bs, q1, q2⟩ => finF_ok q1 q2)
/-- Operations ahead, by the machine. -/
theorem al_app (hX : X.Ok) {C : Tab} (hC : C.Ok X) {H : Nat → Nat} {ops : Array Oper} {K : AEx → ASt → Prop} {l2 : List Oper} : ∀ (l1 : List Oper) (i : Nat) (S S' : ASt), runL X C H ops i l1 S = some (.normal, S') → AL X ops l2 K S' → AL X ops (l1 ++ l2) K S
  | [], i, S, S', h, hK => by
    simp only [runL, Option.some.injEq, Prod.mk.injEq] at h
    rw [List.nil_append, h.2]; exact hK
  | o :: l, i, S, S', h, hK => by
    intro g β R Os a w hG hs
    simp only [runL, fixAs_eq] at h
    rw [List.cons_append]
    split at h
    · rename_i hg
      have hw := gval_ok hs hg
      split at h
      · rename_i S1 h1
        simp only [wpList, hw, if_true]
        refine .inl (stepO_ok hX hC h1 g β R Os a w hG hs _ _ ?_ (fun d S2 β' R' Os' w' c e => by cases e))
        intro S2 β' R' Os' a' w' e2 h2
        injection e2 with e2
        subst e2
        exact al_app hX hC l (i + 1) S1 S' h hK g β' R' Os' a' w' hG h2
      · simp at h
      · simp at h
    · rename_i hg
      have hw := gval_ok hs hg
      obtain ⟨hd, h⟩ := gd_eq h
      simp only [wpList, hw, Bool.false_eq_true, if_false]
      obtain ⟨Os', hs'⟩ := hs.und hd
      exact al_app hX hC l (i + 1) _ S' h hK g β R Os' _ w hG hs'
    · simp at h
/-- The state behind code, by the machine. -/
def nx (X : Cx) (C : Tab) (W : Drawer) (H : Hint) (N : Nat) (c : Code) (S : ASt) : ASt := match arun X C W H N c S with
  | some (_, S') => S'
  | none => S
/-- The state behind operations, by the machine. -/
def nl (X : Cx) (C : Tab) (H : Nat → Nat) (ops : Array Oper) (i : Nat) (l : List Oper) (S : ASt) : ASt := match runL X C H ops i l S with
  | some (_, S') => S'
  | none => S
theorem awp_nx (hX : X.Ok) {C : Tab} (hC : C.Ok X) {W : Drawer} (hW : W.Ok X) {H : Hint} {N : Nat} {a b : Code} {S : ASt} {K : AEx → ASt → Prop} (h : arun X C W H N a S = some (.normal, nx X C W H N a S)) (hb : AWP X b K (nx X C W H N a S)) : AWP X (.seq a b) K S :=
  awp_seq (arun_ok hX hC hW a S .normal _ (Ks X b K) h hb)
theorem awp_end (hX : X.Ok) {C : Tab} (hC : C.Ok X) {W : Drawer} (hW : W.Ok X) {H : Hint} {N : Nat} {a : Code} {S : ASt} {rs : List ResultVar} {n : Nat} {r : ARes} {bs : List D} {K : ARes → List D → Prop} (h : bd (arun X C W H N a S) (fun q => finF X rs n q) = some (r, bs)) (hK : K r bs) : AWP X a (KF X rs n K) S := by
  obtain ⟨⟨e, S1⟩, h1, h2⟩ := bd_eq h
  exact arun_ok hX hC hW a S e S1 _ h1 ⟨r, bs, h2, hK⟩
def cHd : Code → Code
  | .seq a _ => a
  | _ => .skip
def cTl : Code → Code
  | .seq _ b => b
  | _ => .skip
def isSeq : Code → Bool
  | .seq _ _ => true
  | _ => false
theorem awp_st (hX : X.Ok) {C : Tab} (hC : C.Ok X) {W : Drawer} (hW : W.Ok X) {H : Hint} {N : Nat} {c : Code} {S : ASt} {K : AEx → ASt → Prop} (hc : isSeq c = true) (h : arun X C W H N (cHd c) S = some (.normal, nx X C W H N (cHd c) S)) (hb : AWP X (cTl c) K (nx X C W H N (cHd c) S)) : AWP X c K S := by
  cases c <;> simp [isSeq] at hc
  exact awp_nx hX hC hW h hb
theorem awp_sq {c : Code} {S : ASt} {K : AEx → ASt → Prop} (hc : isSeq c = true) (h : AWP X (cHd c) (Ks X (cTl c) K) S) : AWP X c K S := by
  cases c <;> simp [isSeq] at hc
  exact awp_seq h
def cOps : Code → Array Oper
  | .region _ ops _ => ops
  | _ => #[]
def cId : Code → Nat
  | .region id _ _ => id
  | _ => 0
def isReg : Code → Bool
  | .region _ _ draw => !draw
  | _ => false
/-- A region's first operations by the machine. -/
theorem awp_cut (hX : X.Ok) {C : Tab} (hC : C.Ok X) {H : Nat → Nat} {c : Code} {S : ASt} {K : AEx → ASt → Prop} (k : Nat) (hc : isReg c = true) (h : runL X C H (cOps c) 0 ((cOps c).toList.take k) S = some (.normal, nl X C H (cOps c) 0 ((cOps c).toList.take k) S))
    (hb : AL X (cOps c) ((cOps c).toList.drop k) K (nl X C H (cOps c) 0 ((cOps c).toList.take k) S)) : AWP X c K S := by
  cases c <;> simp [isReg] at hc
  subst hc
  refine awp_region ?_
  have := al_app hX hC _ 0 S _ h hb
  rw [List.take_append_drop] at this
  exact this
/-- More of its operations. -/
theorem al_cut (hX : X.Ok) {C : Tab} (hC : C.Ok X) {H : Nat → Nat} {ops : Array Oper} {S S' : ASt} {K : AEx → ASt → Prop} {l : List Oper} (i k : Nat) (h : runL X C H ops i (l.take k) S = some (.normal, S')) (hb : AL X ops (l.drop k) K S') : AL X ops l K S := by
  have := al_app hX hC _ i S S' h hb
  rw [List.take_append_drop] at this
  exact this
theorem al_rest (hX : X.Ok) {C : Tab} (hC : C.Ok X) {H : Nat → Nat} {ops : Array Oper} {S S' : ASt} {e : AEx} {K : AEx → ASt → Prop} {l : List Oper} (i : Nat) (h : runL X C H ops i l S = some (e, S')) (hK : K e S') : AL X ops l K S := runL_ok hX hC l i S e S' h hK
end
end Go.Proofs.YtfbppkjjdbkedaaGreatDoor.Ref
/-
  The abstract machine: code within a round of a loop over an iterator.
-/
namespace Go.Proofs.YtfbppkjjdbkedaaGreatDoor.Ref
noncomputable section
open Go
set_option linter.unusedVariables false
variable {X : Cx}

def noDefer (o : Oper) : Bool := match o.op with
  | .defer _ => false
  | _ => true
theorem noDefer_ne {o : Oper} (h : noDefer o = true) : ∀ c, o.op ≠ .defer c := fun c e => by simp [noDefer, e] at h
theorem oper_round {P : Program} {o : Oper} {a : Act} {w : World} {K : Act → World → Prop} {Q : Exit → Act → World → Prop} (l n : Nat) (hd : noDefer o = true) (h : o.wp P a w K Q) : o.wpIn (Fence.wide.inRound l) n P a w K Q := by
  unfold Oper.wpIn
  refine ⟨fun _ _ => trivial, ?_⟩
  rw [Fence.inRound_round, Oper.semAt_some l _ _ (noDefer_ne hd)]
  unfold Oper.wp at h
  have key : ∀ {f : FuncId} {args : Array Value} {w' : World} {R : Ending → World → Prop}, Calls P f args w' R → CallsIn (Fence.wide.inRound l) (n - 1) P f args w' R := fun h => (callsIn_wide (n := n - 1)).2 h
  generalize (execOp a.eval o).run P w = r at *
  cases r with
  | ok x w' =>
    cases x <;> simp only [Oper.upon, Oper.uponIn] at h ⊢ <;>
      first
        | exact h
        | exact ⟨fun h => by simp [Fence.wide] at h, key h⟩
        | exact ⟨fun h => by simp [Fence.wide] at h, fun c cs _ => let ⟨v, w2, r, s⟩ := h c cs; ⟨v, w2, r, stepsIn_wide.2 s⟩⟩
        | exact h.elim
  | halt x w' => cases x <;> simp only [Oper.upon, Oper.uponIn] at h ⊢ <;> exact h
theorem wpOp_round {P : Program} {ops : Array Oper} {Q : Exit → Act → World → Prop} {i : Nat} {K : Act → World → Prop} {a : Act} {w : World} (l n : Nat) (hQ : ¬ LetsOut Q) (hd : ops.toList.all noDefer = true) (h : wpOp P ops Q i K a w) : wpOpIn (Fence.wide.inRound l) n P ops Q i K a w := by
  unfold wpOp at h
  unfold wpOpIn
  cases ho : ops[i]? with
  | none => simp only [ho] at h ⊢; exact h
  | some o =>
    simp only [ho] at h ⊢
    have hno : noDefer o = true := List.all_eq_true.1 hd o (List.mem_of_getElem? (by rw [Array.getElem?_toList]; exact ho))
    split
    · rename_i hw
      simp only [hw, if_true] at h
      rcases h with h | ⟨_, h⟩
      · exact oper_round l n hno h
      · exact absurd h hQ
    · rename_i hw
      simp only [hw] at h
      exact ⟨fun _ _ => trivial, h⟩
theorem wpAny_round {P : Program} {ops : Array Oper} {Q : Exit → Act → World → Prop} (l n : Nat) (hQ : ¬ LetsOut Q) (hd : ops.toList.all noDefer = true) : ∀ (fuel : Nat) (listed : Array Bool) (a : Act) (w : World), wpAny P .any ops Q fuel listed a w → wpAnyIn (Fence.wide.inRound l) n P .any ops Q fuel listed a w
  | 0, listed, a, w, h => h
  | fuel + 1, listed, a, w, h => ⟨h.1, fun i hi => wpOpIn_mono (fun a' w' h' => wpAny_round l n hQ hd fuel _ a' w' h') (wpOp_round l n hQ hd (h.2 i hi))⟩
theorem wpList_round {P : Program} {ops : Array Oper} {Q : Exit → Act → World → Prop} (l n : Nat) (hQ : ¬ LetsOut Q) : ∀ (os : List Oper) (a : Act) (w : World), os.all noDefer = true → wpList P ops Q os a w → wpListIn (Fence.wide.inRound l) n P ops Q os a w
  | [], a, w, _, h => h
  | o :: os, a, w, hd, h => by
    simp only [List.all_cons, Bool.and_eq_true] at hd
    unfold wpList at h
    unfold wpListIn
    split
    · rename_i hw
      simp only [hw, if_true] at h
      rcases h with h | ⟨_, h⟩
      · exact Oper.wpIn_mono (fun a w h => wpList_round l n hQ os a w hd.2 h) (oper_round l n hd.1 h)
      · exact absurd h hQ
    · rename_i hw
      simp only [hw] at h
      exact ⟨fun _ _ => trivial, wpList_round l n hQ os _ w hd.2 h⟩
theorem aq_inside (g : Gh) (K : AEx → ASt → Prop) : ¬ LetsOut (AQ g K) := by
  rintro ⟨a, w, ae, S, β, R, Os, _, _, h⟩
  cases ae <;> simp [ExOk] at h

/-- The same in a round. -/
def AWPr (X : Cx) (c : Code) (K : AEx → ASt → Prop) (S : ASt) : Prop := ∀ g β R Os a w l n, g.G = X.G → StR g β R Os S a w → c.wpIn (Fence.wide.inRound l) n X.P (AQ g K) a w
theorem awpr_wk {c : Code} {K : AEx → ASt → Prop} {S S' : ASt} (hw : Wk S S') (h : AWPr X c K S') : AWPr X c K S := fun g β R Os a w l n hG hs => by
  obtain ⟨β', R', Os', h1⟩ := hw g β R Os a w hs
  exact h g β' R' Os' a w l n hG h1
theorem awpr_mono {c : Code} {K K' : AEx → ASt → Prop} {S : ASt} (h : AWPr X c K S) (hK : ∀ ae S', K ae S' → K' ae S') : AWPr X c K' S := fun g β R Os a w l n hG hs =>
  Code.wpIn_mono (fun e a' w' ⟨ae, S', β', R', Os', h1, h2, h3⟩ => ⟨ae, S', β', R', Os', hK _ _ h1, h2, h3⟩) (h g β R Os a w l n hG hs)
theorem awpr_region {id : Nat} {ops : Array Oper} {K : AEx → ASt → Prop} {S : ASt} (hd : ops.toList.all noDefer = true) (h : AL X ops ops.toList K S) : AWPr X (.region id ops false) K S := fun g β R Os a w l n hG hs =>
  wpIn_region_list (wpList_round l n (aq_inside g K) _ a w hd (h g β R Os a w hG hs))
theorem awpr_draw (hX : X.Ok) {id : Nat} {ops : Array Oper} {K : AEx → ASt → Prop} {S : ASt} (hd : ops.toList.all noDefer = true) (h : SAny X ops K ops.size (Array.replicate ops.size false) S) : AWPr X (.region id ops true) K S := by
  intro g β R Os a w l n hG hs
  have hin : ¬ LetsOut (AQf g K) := fun ⟨a, w, h⟩ => aq_inside g K ⟨a, w, AQf.aq h⟩
  refine Code.wpIn_mono (fun e a w h => AQf.aq h) (wpIn_region_any hX.md (wpAny_round l n hin hd _ _ _ _ ?_))
  exact wpF_any _ _ R _ _ (h g β R Os a { w with drawn := w.drawn + 1 } hG (hs.float (F := Blk.emp) ⟨rfl, rfl, rfl, Nat.le_refl _, fun _ _ _ => rfl⟩ (fun x hx => hx.elim) (fun q x hx => hx.elim) (fun x hx => hx.elim)))
/-- What stands behind the first of two. -/
def Ksr (X : Cx) (y : Code) (K : AEx → ASt → Prop) : AEx → ASt → Prop
  | .normal, S => AWPr X y K S
  | e, S => K e S
theorem awpr_seq {x y : Code} {K : AEx → ASt → Prop} {S : ASt} (h : AWPr X x (Ksr X y K) S) : AWPr X (.seq x y) K S := fun g β R Os a w l n hG hs => by
  refine wpIn_seq (Code.wpIn_mono ?_ (h g β R Os a w l n hG hs))
  rintro e a' w' ⟨ae, S', β', R', Os', h1, h2, h3⟩
  cases ae <;> cases e <;> simp only [ExOk] at h3 <;> first | exact h3.elim | skip
  · exact h1 g β' R' Os' a' w' l n hG h2
  · exact ⟨_, S', β', R', Os', h1, h2, h3⟩
  · exact ⟨.ret, S', β', R', Os', h1, h2, trivial⟩
  · exact ⟨_, S', β', R', Os', h1, h2, h3⟩
theorem awpr_skip {K : AEx → ASt → Prop} {S : ASt} (h : K .normal S) : AWPr X .skip K S := fun g β R Os a w l n hG hs => wpIn_skip (.mk h hs trivial)
theorem awpr_block {id : Nat} {c : Code} {K : AEx → ASt → Prop} {S : ASt} (h : AWPr X c (Kb id K) S) : AWPr X (.block id c) K S := fun g β R Os a w l n hG hs => by
  refine wpIn_block (Code.wpIn_mono ?_ (h g β R Os a w l n hG hs))
  rintro e a' w' ⟨ae, S', β', R', Os', h1, h2, h3⟩
  cases ae <;> cases e <;> simp only [ExOk] at h3 <;> first | exact h3.elim | skip
  · exact .mk (ae := .normal) h1 h2 trivial
  · subst h3
    simp only [Kb] at h1
    simp only [Exit.inBlock]
    split <;> rename_i hid
    · rw [if_pos hid] at h1; exact .mk h1 h2 trivial
    · rw [if_neg hid] at h1; exact .mk h1 h2 rfl
  · exact .mk (ae := .ret) h1 h2 trivial
  · exact ⟨_, S', β', R', Os', h1, h2, h3⟩
theorem awpr_cond {c : Operand} {x y : Code} {b : Bool} {K : AEx → ASt → Prop} {S : ASt} (hc : S.ev X.G c = some (.d (.v (.bool b)))) (ht : b = true → AWPr X x K S) (hf : b = false → AWPr X y K S) : AWPr X (.cond c x y) K S := fun g β R Os a w l n hG hs => by
  obtain ⟨xs, h1, h2⟩ := evalR hs (by rw [hG]; exact hc) rfl
  simp only [Rel] at h2
  simp only [packs] at h1
  rw [h1] at h2
  have h2 := h2.2
  injection h2 with h2
  exact wpIn_cond_split h2 (fun hb => ht hb g β R Os a w l n hG hs) (fun hb => hf hb g β R Os a w l n hG hs)
end
end Go.Proofs.YtfbppkjjdbkedaaGreatDoor.Ref
/-
  The abstract machine: one operation at a time in a world that stays, for iterators.
-/
namespace Go.Proofs.YtfbppkjjdbkedaaGreatDoor.Ref
noncomputable section
open Go
set_option linter.unusedVariables false
variable {X : Cx}

/-- The state stands for the frame and this world, reading R. -/
def Sw (X : Cx) (R : Blk) (W : World) (S : ASt) (a : Act) : Prop := ∃ Os, StR ⟨X.G, W, fun _ => none, R, Blk.emp, []⟩ (fun _ => none) R Os S a W
theorem blk_sub_empty {On : Blk} {w : World} (h : ∀ x, On x → w.heap.size ≤ x ∧ x < w.heap.size) : ∀ x, ¬ On x := fun x hx => by have := h x hx; omega
theorem Sw.nop (hX : X.Ok) {R : Blk} {W : World} {S : ASt} {a : Act} {o : Oper} {d : D} {t : Nat} (h : Sw X R W S a) (hn : nop X S o = some (.d d)) (hf : Free1 X S o) (ht : decide (t < S.n) = true) :
    ∃ v, (execOp a.eval o).run X.P W = .ok (.value v) W ∧ RelV (fun _ => none) W R d v Blk.emp ∧ Sw X R W (S.put t (.d d)) (a.put (some t) v) := by
  obtain ⟨Os, hs⟩ := h
  have ht := of_decide_eq_true ht
  obtain ⟨v, w', R', On, h1, h2, h3, h4, h5, h6, h7⟩ := nop_ok hX hn _ _ _ _ _ _ rfl hs
  have hw : w' = W := (hf.calm (nop_ok hX hn)).2 _ _ _ _ _ _ _ _ rfl hs h1
  subst hw
  have hOn := blk_sub_empty h6
  have hv : RelV (fun _ => none) w' R d v Blk.emp := h5.up (fun _ _ x => x) (fun x hx => (h4 x hx).elim id fun hh => by omega) (fun _ _ => rfl) (fun _ _ => rfl) (fun x hx => absurd hx (hOn x))
  exact ⟨v, h1, hv, _, hs.putD (Grow.refl _) (fun _ x => x) (fun _ x => .inl x) (Nat.lt_of_lt_of_le ht hs.size) hv (fun x hx => hx.elim) (fun _ _ x => x)⟩
theorem Sw.any {R : Blk} {W : World} {S : ASt} {a : Act} {t : Nat} (h : Sw X R W S a) (ht : decide (t < S.n) = true) (v : Value) : Sw X R W (S.put t (.d .dead)) (a.put (some t) v) := by
  obtain ⟨Os, hs⟩ := h
  exact ⟨_, hs.putD (Grow.refl _) (fun _ x => x) (fun _ x => .inl x) (Nat.lt_of_lt_of_le (of_decide_eq_true ht) hs.size) (d := .dead) (On := Blk.emp) trivial (fun x hx => hx.elim) (fun _ _ x => x)⟩
variable {n : Nat} {ops : Array Oper} {Q : Exit → Act → World → Prop}
theorem wl_nop (hX : X.Ok) {R : Blk} {W : World} {S : ASt} {a : Act} {o : Oper} {d : D} {t : Nat} {rest : List Oper} (h : Sw X R W S a) (hn : nop X S o = some (.d d)) (hf : Free1 X S o) (hg : o.guard = none) (hd : o.dst = some t) (hnd : noDefer o = true) (ht : decide (t < S.n) = true)
    (k : ∀ v, RelV (fun _ => none) W R d v Blk.emp → Sw X R W (S.put t (.d d)) (a.put (some t) v) → wpListIn Fence.wide n X.P ops Q rest (a.put (some t) v) W) : wpListIn Fence.wide n X.P ops Q (o :: rest) a W := by
  obtain ⟨v, h1, h2, h3⟩ := h.nop hX hn hf ht
  refine wpListIn_plain hg fun K hK => ⟨fun _ _ => trivial, ?_⟩
  show o.uponIn _ _ _ _ _ _ ((execOp a.eval o).run X.P W)
  rw [h1]
  simp only [Oper.uponIn]
  rw [hd]
  exact hK _ _ (k v h2 h3)
theorem wl_any {R : Blk} {W : World} {S : ASt} {a : Act} {o : Oper} {t : Nat} {x : Operand} {rest : List Oper} (h : Sw X R W S a) (ho : o.op = .move x) (hg : o.guard = none) (hd : o.dst = some t) (ht : decide (t < S.n) = true)
    (k : Sw X R W (S.put t (.d .dead)) (a.put (some t) (a.eval x)) → wpListIn Fence.wide n X.P ops Q rest (a.put (some t) (a.eval x)) W) : wpListIn Fence.wide n X.P ops Q (o :: rest) a W := by
  refine wpListIn_plain hg fun K hK => ⟨fun _ _ => trivial, ?_⟩
  show o.uponIn _ _ _ _ _ _ ((execOp a.eval o).run X.P W)
  have e : (execOp a.eval o).run X.P W = .ok (.value (a.eval x)) W := by simp [execOp, ho]
  rw [e]
  simp only [Oper.uponIn]
  rw [hd]
  exact hK _ _ (k (h.any ht _))
/-- Where yield is called. -/
theorem wl_yield {W : World} {a : Act} {o : Oper} {l t f x y : Nat} {tys : Array TypeId} {vx vy : Value} {rest : List Oper} (ho : o.op = .call ⟨.value (.tmp f), #[.tmp x, .tmp y], tys⟩) (hg : o.guard = none) (hd : o.dst = some t)
    (hf : a.tmps[f]? = some (.func (.yield l) #[] #[])) (hx : a.tmps[x]? = some vx) (hy : a.tmps[y]? = some vy)
    (k : YieldAt Fence.wide (n - 1) X.P l #[vx, vy] W fun e W' => ∃ v, e = .returned v ∧ wpListIn Fence.wide n X.P ops Q rest (a.put (some t) v) W') : wpListIn Fence.wide n X.P ops Q (o :: rest) a W := by
  refine wpListIn_plain hg fun K hK => ⟨fun _ _ => trivial, ?_⟩
  show o.uponIn _ _ _ _ _ _ ((execOp a.eval o).run X.P W)
  obtain ⟨fn, tmps, assign, body, h1, h2⟩ := k
  have e : (execOp a.eval o).run X.P W = .ok (.round l fn tmps assign body) W := by
    have ef : a.eval (.tmp f) = .func (.yield l) #[] #[] := by simp [Act.eval, hf]
    have ex : a.eval (.tmp x) = vx := by simp [Act.eval, hx]
    have ey : a.eval (.tmp y) = vy := by simp [Act.eval, hy]
    simp [execOp, ho, resolve, Deferred.ofValue, ef, ex, ey, invoke, h1]
  rw [e]
  simp only [Oper.uponIn]
  refine ⟨fun h => by simp [Fence.wide] at h, h2.mono fun e' W' ⟨v, he, hk⟩ => ?_⟩
  subst he
  rw [hd]
  exact hK _ _ hk
theorem pin_ne {a : Act} {t u : Nat} {v w : Value} (h : a.tmps[u]? = some w) (hne : (Nat.beq t u) = false) : (a.put (some t) v).tmps[u]? = some w := by
  simp only [Act.put]
  rw [Array.getElem?_setIfInBounds_ne (fun e => by subst e; simp at hne)]
  exact h
theorem pin_defers {a : Act} {t : Nat} {v : Value} : (a.put (some t) v).defers = a.defers := rfl
theorem pin_size {a : Act} {t : Nat} {v : Value} : (a.put (some t) v).tmps.size = a.tmps.size := by simp [Act.put]
theorem pin_self {a : Act} {t : Nat} {v : Value} (h : t < a.tmps.size) : (a.put (some t) v).tmps[t]? = some v := by simp [Act.put, h]
theorem early_idx {S : ASt} {o : Oper} {t : TypeId} {x y : Operand} {nn : Bool} {sz : Nat} {ds : List D} {kd : IntKind} {z : Int} {d : D} {ek : TypeId × TI} (ho : o.op = .indexAddr t x y) (hs : X.sl t = some ek) (hx : S.ev X.G x = some (.d (.row nn sz ds))) (hy : asI (S.ev X.G y) = some (kd, z)) (h0 : 0 ≤ z) (hn : ds[z.toNat]? = some d) : earlyT X S o = true := by
  simp only [earlyT, ho, hs, hx, hy, decide_eq_true h0, hn, Option.isSome_some, Bool.and_true]
theorem early_loadF {S : ASt} {o : Oper} {t : TypeId} {x : Operand} {e : D} {i : TI} (ho : o.op = .load t x) (hx : S.ev X.G x = some (.d (.fz e))) (ht : X.T t = some i) (hf : i.fits e = true) : earlyT X S o = true := by
  simp only [earlyT, ho, hx, ht, hf]
theorem nop_loadF {S : ASt} {o : Oper} {t : TypeId} {x : Operand} {e : D} {i : TI} (ho : o.op = .load t x) (hx : S.ev X.G x = some (.d (.fz e))) (ht : X.T t = some i) (hf : i.fits e = true) : nop X S o = some (.d e) := by
  simp only [nop, ho, loadN, ht, bd, hx, gd, hf]
/-- What an iterator reads. -/
structure Rd (X : Cx) (R : Blk) (W : World) (d : D) (c : Value) : Prop where
  lt : ∀ x, R x → x < W.heap.size
  rel : RelV (fun _ => none) W R d c Blk.emp
  glob : ∀ i d, X.G i = some d → Gl (fun _ => none) W R i d
/-- An iterator over a variable that holds d and that nobody turns: it hands out ds, the last one first. -/
def Iter (X : Cx) (f : FuncId) (d : D) (ds : List D) : Prop := ∀ (n l : Nat) (R : Blk) (c1 : Value) (J : Nat → World → Prop) (W : World), (∀ k W, J k W → Rd X R W (.fz d) c1) →
  (∀ k W x c, J k W → k < ds.length → ds[ds.length - 1 - k]? = some x → RelV (fun _ => none) W R x c Blk.emp → YieldAt Fence.wide (n - 1) X.P l #[.int .i64 (ds.length - 1 - k : Nat), c] W fun e W' => e = .returned (.bool true) ∧ J (k + 1) W') → J 0 W →
  CallsIn Fence.wide n X.P f #[.func (.yield l) #[] #[], c1] W fun e W' => (∃ v, e = .returned v) ∧ J ds.length W'
end
end Go.Proofs.YtfbppkjjdbkedaaGreatDoor.Ref
/-
  The abstract machine: a loop over an iterator that hands out a slice's elements; what it leaves among the deferred calls.
-/
namespace Go.Proofs.YtfbppkjjdbkedaaGreatDoor.Ref
noncomputable section
open Go
set_option linter.unusedVariables false
variable {X : Cx}

/-- Slots that own nothing. -/
def roS : List (Nat × TV) → Bool
  | [] => true
  | (_, .d d) :: l => d.ro && roS l
  | (_, .u _ _ _) :: l => false
theorem roS_look : ∀ {l : List (Nat × TV)} {t : Nat} {x : TV}, roS l = true → look l t = some x → ∃ d, x = .d d ∧ d.ro = true
  | [], t, x, _, h => by simp [look_nil, look_cons] at h
  | (s, .d d) :: l, t, x, hr, h => by
    simp only [roS, Bool.and_eq_true] at hr
    simp only [look_nil, look_cons] at h
    split at h
    · injection h with h; exact ⟨d, h.symm, hr.1⟩
    · exact roS_look hr.2 h
  | (s, .u _ _ _) :: l, t, x, hr, h => by simp [roS] at hr
/-- Behind code that may have left one mark among the deferred calls. -/
def AQM (g : Gh) (K : AEx → ASt → Prop) : Exit → Act → World → Prop := fun e a w => AQ g K e a w ∨
  ∃ D ae S β R Os, K ae S ∧ StR { g with dfr := [⟨.collected D, #[]⟩] } β R Os S a w ∧ ExOk β w R ae e ∧ g.w.heap.size ≤ D ∧ w.heap[D]? = some (.deferred (some [])) ∧ ¬ R D ∧ ∀ q, ¬ Os q D
def AWPM (X : Cx) (c : Code) (K : AEx → ASt → Prop) (S : ASt) : Prop := ∀ g β R Os a w, g.G = X.G → g.dfr = [] → StR g β R Os S a w → c.wp X.P (AQM g K) a w
theorem awpm_of {c : Code} {K : AEx → ASt → Prop} {S : ASt} (h : AWP X c K S) : AWPM X c K S := fun g β R Os a w hG hd hs => Code.wp_mono (fun e a w h => .inl h) (h g β R Os a w hG hs)
theorem turn_putObj (w : World) (l : Nat) (o : Obj) : Turn (fun x => x = l) w (w.putObj l o) := ⟨rfl, rfl, rfl, by simp, fun k _ hk => World.putObj_heap_other hk⟩
/-- A block that the state does not know turns. -/
theorem StR.turnX {g : Gh} {β : Env} {R : Blk} {Os : Own} {S : ASt} {a : Act} {w : World} (h : StR g β R Os S a w) {l : Nat} (o : Obj) (hR : ¬ R l) (hO : ∀ q, ¬ Os q l) (hl : g.w.heap.size ≤ l) : StR g β R Os S a (w.putObj l o) :=
  h.float (turn_putObj w l o) (fun x hx => by subst hx; exact hR) (fun q x hx => by subst hx; exact hO q) (fun x hx => by subst hx; exact .inr hl)
def RoundK (X : Cx) (body : Code) (nb : Nat) (Inv : List D → Prop) : AEx → ASt → Prop := fun e S1 => e = .normal ∧ S1.nb = nb ∧ AWPr X body (fun e S' => e = .normal ∧ S'.nb = nb ∧ nb ≤ S'.boxes.length ∧ D.loL nb (S'.boxes.take nb) = true ∧ Inv (S'.boxes.take nb)) S1
theorem exOk_normal {β : Env} {w : World} {R : Blk} {e : Exit} (h : ExOk β w R .normal e) : e = .normal := by cases e <;> simp [ExOk] at h ⊢
theorem awp_range (hX : X.Ok) {gop : Operand} {p1 p2 : Nat} {assign body : Code} {S : ASt} {fb : FuncId} {d : D} {ds : List D} {K : AEx → ASt → Prop} (hg : S.ev X.G gop = some (.d (.fn fb [.fz d]))) (hent : Enters X fb) (hlo : (D.fz d).lo 0 = true) (hit : Iter X fb d ds) (hro : roS S.slots = true)
    (hp1 : p1 < S.n) (hp2 : p2 < S.n) (hp : p1 ≠ p2) (Inv : Nat → List D → Prop) (hnb : S.nb ≤ S.boxes.length) (h0 : Inv 0 S.boxes)
    (hround : ∀ k bs x, Inv k bs → bs.length = S.boxes.length → k < ds.length → ds[ds.length - 1 - k]? = some x → AWPr X assign (RoundK X body S.boxes.length (Inv (k + 1))) ⟨S.n, (p2, .d x) :: (p1, .d (.v (.int .i64 (ds.length - 1 - k : Nat)))) :: S.slots, bs, S.boxes.length⟩)
    (hK : ∀ bs, Inv ds.length bs → bs.length = S.boxes.length → K .normal ⟨S.n, S.slots, bs, S.nb⟩) : AWPM X (.rangeFunc gop #[p1, p2] assign body) K S := by
  intro g β R Os a w hG hdf hs
  -- the iterator's value
  obtain ⟨xs, m1, m2⟩ := evalR hs (by rw [hG]; exact hg) rfl
  simp only [packs] at m1
  simp only [Rel] at m2
  obtain ⟨vs, m3, m4⟩ := m2
  rw [m1] at m3
  injection m3 with m3
  simp only [RelVs] at m4
  obtain ⟨c1, cs', xs1, O1, O2, n1, n2, n3, n4, n5, n6, n7⟩ := m4
  rw [n4] at n1
  have hvs : vs = #[c1] := by apply Array.ext'; rw [n1]
  subst hvs
  simp only [packs] at n2
  subst n2
  have hrel0 : Rel β w R (.fz d) [c1] Blk.emp := Rel.up (fun _ _ x => x) (fun _ x => x) (fun _ _ => rfl) _ _ _ _ (fun _ _ => rfl) n5 n3
  have hO : ∀ x, (∃ q, Os q x) → ¬ R x := fun x ⟨q, hq⟩ hx => hs.apart q x hx hq
  -- what holds when k rounds are over
  obtain ⟨rec, hrec⟩ : ∃ rec : FuncId → LoopState → Option Code → Loop, rec = fun fn st pe => { state := st, pending := pe, fn := fn, tmps := a.tmps, params := #[p1, p2], assign, body, defers := w.heap.size } := ⟨_, rfl⟩
  obtain ⟨gJ, hgJ⟩ : ∃ gJ, gJ = reG2 g β R Os w g.dfr := ⟨_, rfl⟩
  have gw : gJ.w = w := by rw [hgJ]; rfl
  have gG : gJ.G = X.G := by rw [hgJ]; exact hG
  let J : FuncId → Nat → World → Prop := fun fn k W => ∃ (bs : List D) (R' : Blk) (Ob : Nat → Blk), Inv k bs ∧ bs.length = S.boxes.length ∧ (∀ x, R x → R' x) ∧ StR gJ β R' (fun r => match r with | .slot _ => Blk.emp | .box b => Ob b) ⟨S.n, S.slots, bs, S.boxes.length⟩ a W ∧
    W.heap[w.heap.size + 1]? = some (.loop (rec fn .ready none)) ∧ W.heap[w.heap.size]? = some (.deferred (some [])) ∧ ¬ R' (w.heap.size + 1) ∧ ¬ R' w.heap.size ∧ ∀ b, ¬ Ob b (w.heap.size + 1) ∧ ¬ Ob b w.heap.size
  have hst : ∀ W, Fr gJ.O w W → ∀ x, R x → W.heap[x]? = w.heap[x]? := fun W hfr x hx => hfr.block x (hs.read x hx).1 fun hq => by rw [hgJ] at hq; exact hO x hq hx
  have mk : ∀ (bs : List D) (R' : Blk) (Ob : Nat → Blk) (W : World), bs.length = S.boxes.length → (∀ x, R x → R' x) → Fr gJ.O w W → (∀ b d, bs[b]? = some d → RelB β W R' b d (Ob b)) → (∀ i j, i ≠ j → Disj (Ob i) (Ob j)) → (∀ i, Disj R' (Ob i)) → (∀ i x, Ob i x → x < W.heap.size ∧ (gJ.O x ∨ w.heap.size ≤ x)) → (∀ x, R' x → x < W.heap.size ∧ (R x ∨ gJ.O x ∨ w.heap.size ≤ x)) →
      StR gJ β R' (fun r => match r with | .slot _ => Blk.emp | .box b => Ob b) ⟨S.n, S.slots, bs, S.boxes.length⟩ a W := by
    intro bs R' Ob W k1 k2 k3 k4 k5 k6 k7 k8
    refine ⟨fun b => ⟨fun _ => by rw [hgJ]; rfl, fun hb => (hs.ext b).2 (by have hb : bs.length ≤ b := hb; omega)⟩, hs.size, by rw [hgJ]; exact hs.defers, ?_, ?_, k4, ?_, ?_, ?_, ?_, by rw [gw]; exact k3, ?_⟩
    · intro t e he
      obtain ⟨c, q1, q2⟩ := hs.slots t e he
      obtain ⟨e', q3, q4⟩ := roS_look hro he
      injection q3 with q3
      subst q3
      exact ⟨c, q1, (q2.ro q4).up (fun _ _ x => x) k2 (hst W k3) (fun x hx => hx.elim) (fun _ x => x)⟩
    · intro t b r p hu
      obtain ⟨e', q3, q4⟩ := roS_look hro hu
      cases q3
    · intro r s hrs x hx hy
      cases r with
      | slot t => exact hx.elim
      | box b => cases s with
        | slot t => exact hy.elim
        | box b' => exact k5 b b' (fun e => hrs (by rw [e])) x hx hy
    · intro r x hx hy
      cases r with
      | slot t => exact hy.elim
      | box b => exact k6 b x hx hy
    · intro r x hx
      cases r with
      | slot t => exact hx.elim
      | box b => rw [gw]; exact k7 b x hx
    · intro x hx
      rw [gw]
      have := k8 x hx
      rw [show gJ.R = R by rw [hgJ]; rfl]
      exact this
    · intro i e hi
      have hi : g.G i = some e := by rw [hG, ← gG]; exact hi
      exact (hs.glob i e hi).up (fun _ _ x => x) k2 (hst W k3)
  have hlo0 : ∀ (W : World), Fr gJ.O w W → ∀ e cs, e.lo 0 = true → Rel β w R e cs Blk.emp → Rel (fun _ => none) W R e cs Blk.emp := fun W hfr e cs hl hr =>
    Rel.down (n := 0) (β' := β) (fun b x hb _ => by omega) e cs _ hl (Rel.up (fun _ _ x => x) (fun _ x => x) (hst W hfr) _ _ _ _ (fun _ hb => hb.elim) (fun _ hb => hb) hr)
  have hrd : ∀ fn k W, J fn k W → Rd X R W (.fz d) c1 := by
    rintro fn k W ⟨bs, R', Ob, _, _, _, hj, _⟩
    have hfr : Fr gJ.O w W := by have := hj.fr; rw [gw] at this; exact this
    refine ⟨fun x hx => Nat.lt_of_lt_of_le (hs.read x hx).1 hfr.size, RelV.mk (xs := [c1]) (by simp [packs]) (hlo0 W hfr _ _ hlo hrel0), fun i e hi => ((hs.glob i e (by rw [hG]; exact hi)).up (fun _ _ x => x) (fun _ x => x) (hst W hfr)).down0 (hX.gl i e hi)⟩
  have hyield : ∀ fn n' k W x c, J fn k W → k < ds.length → ds[ds.length - 1 - k]? = some x → RelV (fun _ => none) W R x c Blk.emp → YieldAt Fence.wide n' X.P (w.heap.size + 1) #[.int .i64 (ds.length - 1 - k : Nat), c] W fun e W' => e = .returned (.bool true) ∧ J fn (k + 1) W' := by
    rintro fn n' k W x c ⟨bs, R', Ob, i1, i2, i3, hj, hl, hD, r1, r2, r3⟩ hk hx hc
    have hy := run_yield (P := X.P) (args := #[.int .i64 (ds.length - 1 - k : Nat), c]) hl (by rw [hrec]; rfl)
    refine ⟨_, _, _, _, hy, roundIn_of_wpIn trivial ?_⟩
    have efold : ((rec fn .ready none).params.zip #[.int .i64 (ds.length - 1 - k : Nat), c]).foldl (fun tmps (t, a) => tmps.setIfInBounds t a) (rec fn .ready none).tmps = (a.tmps.setIfInBounds p1 (.int .i64 (ds.length - 1 - k : Nat))).setIfInBounds p2 c := by
      rw [hrec]; simp
    rw [efold]
    have ea : (rec fn .ready none).assign = assign := by rw [hrec]
    have eb : (rec fn .ready none).body = body := by rw [hrec]
    rw [ea, eb]
    have hlt : w.heap.size + 1 < W.heap.size := (Array.getElem?_eq_some_iff.1 hl).1
    have hk0 : StR gJ β R' (fun r => match r with | .slot _ => Blk.emp | .box b => Ob b) ⟨S.n, (p2, .d x) :: (p1, .d (.v (.int .i64 (ds.length - 1 - k : Nat)))) :: S.slots, bs, S.boxes.length⟩ { tmps := (a.tmps.setIfInBounds p1 (.int .i64 (ds.length - 1 - k : Nat))).setIfInBounds p2 c, defers := [] } W := by
      refine ⟨hj.ext, by have := hj.size; simpa using this, by rw [hgJ]; exact hdf.symm, ?_, ?_, hj.boxes, hj.disj, hj.apart, hj.own, hj.read, hj.fr, hj.glob⟩
      · intro t e he
        have hsz := hj.size
        simp only at hsz
        simp only [look_nil, look_cons] at he
        split at he
        · rename_i e1; subst e1; injection he with he; injection he with he; subst he
          exact ⟨c, by rw [Array.getElem?_setIfInBounds_self]; simp; omega, hc.up (fun _ _ h => by cases h) i3 (fun _ _ => rfl) (fun _ _ => rfl) (fun _ x => x)⟩
        · rename_i e1
          split at he
          · rename_i e2; subst e2; injection he with he; injection he with he; subst he
            refine ⟨.int .i64 (ds.length - 1 - k : Nat), ?_, RelV.mk (xs := [.int .i64 (ds.length - 1 - k : Nat)]) (by simp [packs]) (by simp [Rel, scal])⟩
            show ((a.tmps.setIfInBounds p1 _).setIfInBounds p2 c)[p1]? = _
            rw [Array.getElem?_setIfInBounds_ne e1, Array.getElem?_setIfInBounds_self]
            simp; omega
          · rename_i e2
            obtain ⟨v, q1, q2⟩ := hj.slots t e he
            refine ⟨v, ?_, q2⟩
            show ((a.tmps.setIfInBounds p1 _).setIfInBounds p2 c)[t]? = _
            rw [Array.getElem?_setIfInBounds_ne e1, Array.getElem?_setIfInBounds_ne e2]
            exact q1
      · intro t b r p hu
        simp only [look_nil, look_cons] at hu
        split at hu
        · cases hu
        · split at hu
          · cases hu
          · obtain ⟨e', q3, _⟩ := roS_look hro hu; cases q3
    have h1 := hround k bs x i1 i2 hk hx (reG gJ β R' _ W) β R' _ _ W (w.heap.size + 1) n' gG hk0.reroot
    refine Code.wpIn_mono ?_ h1
    rintro e a1 W1 ⟨ae, S1, β1, R1, Os1, ⟨rfl, hnb1, hbody⟩, hs1, hex⟩
    have := exOk_normal hex
    subst this
    obtain ⟨hs1u, stay1⟩ := hk0.unroot hs1 hnb1
    have hown1 : ∀ y, y < W.heap.size → ¬ (∃ q, (fun r => match r with | .slot _ => Blk.emp | .box b => Ob b : Own) q y) → ¬ R' y → W1.heap[y]? = W.heap[y]? ∧ ¬ Or2 R' R1 y ∧ ∀ q, ¬ Os1 q y := by
      intro y hy1 hy2 hy3
      refine ⟨hs1.fr.block y hy1 hy2, ?_, fun q hq => ?_⟩
      · rintro (h | h)
        · exact hy3 h
        · rcases (hs1.read y h).2 with h | h | h
          · exact hy3 h
          · exact hy2 h
          · have h : W.heap.size ≤ y := h; omega
      · rcases (hs1.own q y hq).2 with h | h
        · exact hy2 h
        · have h : W.heap.size ≤ y := h; omega
    have nOl : ¬ (∃ q, (fun r => match r with | .slot _ => Blk.emp | .box b => Ob b : Own) q (w.heap.size + 1)) := fun ⟨q, hq⟩ => by cases q with
      | slot t => exact hq
      | box b => exact (r3 b).1 hq
    have nOD : ¬ (∃ q, (fun r => match r with | .slot _ => Blk.emp | .box b => Ob b : Own) q w.heap.size) := fun ⟨q, hq⟩ => by cases q with
      | slot t => exact hq
      | box b => exact (r3 b).2 hq
    obtain ⟨el1, nRl1, nOl1⟩ := hown1 _ hlt nOl r1
    obtain ⟨eD1, nRD1, nOD1⟩ := hown1 _ (by omega) nOD r2
    rw [hl] at el1
    rw [hD] at eD1
    have hb := run_beginRound (P := X.P) el1 (by rw [hrec])
    refine ⟨_, hb, ?_⟩
    have hlt1 : w.heap.size + 1 < W1.heap.size := (Array.getElem?_eq_some_iff.1 el1).1
    have hs2 := hs1u.turnX (l := w.heap.size + 1) (.loop { rec fn .ready none with state := .busy }) nRl1 nOl1 (by rw [gw]; omega)
    have el2 : (W1.putObj (w.heap.size + 1) (.loop { rec fn .ready none with state := .busy })).heap[w.heap.size + 1]? = some (.loop { rec fn .ready none with state := .busy }) := World.putObj_heap_same hlt1
    have eD2 : (W1.putObj (w.heap.size + 1) (.loop { rec fn .ready none with state := .busy })).heap[w.heap.size]? = some (.deferred (some [])) := (World.putObj_heap_other (by omega)).trans eD1
    generalize W1.putObj (w.heap.size + 1) (.loop { rec fn .ready none with state := .busy }) = W2 at hs2 el2 eD2
    have hlt2 : w.heap.size + 1 < W2.heap.size := (Array.getElem?_eq_some_iff.1 el2).1
    refine Code.wpIn_mono ?_ (hbody (reG gJ β1 _ Os1 W2) β1 _ Os1 a1 W2 (w.heap.size + 1) n' gG hs2.reroot)
    rintro e a3 W3 ⟨ae, S3, β3, R3, Os3, ⟨rfl, hnb3, hle3, hlo3, hinv3⟩, hs3, hex3⟩
    have := exOk_normal hex3
    subst this
    obtain ⟨hs3u, stay3⟩ := hs2.unroot hs3 (hnb3.trans hnb1.symm)
    have hown3 : ∀ y, y < W2.heap.size → ¬ (∃ q, Os1 q y) → ¬ Or2 R' R1 y → W3.heap[y]? = W2.heap[y]? ∧ ¬ Or2 (Or2 R' R1) R3 y ∧ ∀ q, ¬ Os3 q y := by
      intro y hy1 hy2 hy3
      refine ⟨hs3.fr.block y hy1 hy2, ?_, fun q hq => ?_⟩
      · rintro (h | h)
        · exact hy3 h
        · rcases (hs3.read y h).2 with h | h | h
          · exact hy3 h
          · exact hy2 h
          · have h : W2.heap.size ≤ y := h; omega
      · rcases (hs3.own q y hq).2 with h | h
        · exact hy2 h
        · have h : W2.heap.size ≤ y := h; omega
    obtain ⟨el3, nRl3, nOl3⟩ := hown3 _ hlt2 (fun ⟨q, hq⟩ => nOl1 q hq) nRl1
    obtain ⟨eD3, nRD3, nOD3⟩ := hown3 _ (by omega) (fun ⟨q, hq⟩ => nOD1 q hq) nRD1
    rw [el2] at el3
    rw [eD2] at eD3
    have he := run_endRound (P := X.P) none el3
    refine ⟨_, _, he, rfl, ?_⟩
    have hlt3 : w.heap.size + 1 < W3.heap.size := (Array.getElem?_eq_some_iff.1 el3).1
    have hs4 := hs3u.turnX (l := w.heap.size + 1) (.loop { { rec fn .ready none with state := .busy } with state := if (none : Option Code).isNone then .ready else .done, pending := none }) nRl3 nOl3 (by rw [gw]; omega)
    have el4 : (W3.putObj (w.heap.size + 1) (.loop { { rec fn .ready none with state := .busy } with state := if (none : Option Code).isNone then .ready else .done, pending := none })).heap[w.heap.size + 1]? = some (.loop (rec fn .ready none)) := by
      rw [World.putObj_heap_same hlt3, hrec]; rfl
    have eD4 : (W3.putObj (w.heap.size + 1) (.loop { { rec fn .ready none with state := .busy } with state := if (none : Option Code).isNone then .ready else .done, pending := none })).heap[w.heap.size]? = some (.deferred (some [])) := (World.putObj_heap_other (by omega)).trans eD3
    generalize W3.putObj (w.heap.size + 1) (.loop { { rec fn .ready none with state := .busy } with state := if (none : Option Code).isNone then .ready else .done, pending := none }) = W4 at hs4 el4 eD4
    have hβ : ∀ b y, b < S.boxes.length → β3 b = some y → β b = some y := fun b y hb hy' => by
      have := (hs4.ext b).1 (by rw [hnb3]; exact hb)
      rw [this, hgJ] at hy'
      exact hy'
    have hlen4 : (S3.boxes.take S.boxes.length).length = S.boxes.length := by simp; omega
    refine ⟨S3.boxes.take S.boxes.length, Or2 (Or2 R' R1) R3, fun b => Os3 (.box b), hinv3, hlen4, fun y hy => .inl (.inl (i3 y hy)), mk _ _ _ _ hlen4 (fun y hy => .inl (.inl (i3 y hy))) ?_ ?_ ?_ ?_ ?_ ?_, el4, eD4, nRl3, nRD3, fun b => ⟨nOl3 _, nOD3 _⟩⟩
    · have := hs4.fr; rw [gw] at this; exact this
    · intro b e hb
      have hb' : b < S.boxes.length := by
        have := (List.getElem?_eq_some_iff.1 hb).1
        omega
      have hb2 : S3.boxes[b]? = some e := by
        rw [List.getElem?_take, if_pos hb'] at hb; exact hb
      exact (hs4.boxes b e hb2).down hβ hb' (loL_get hlo3 hb)
    · intro i j hij
      exact hs4.disj _ _ (by simpa using hij)
    · intro i
      exact hs4.apart _
    · intro i y hy
      have := hs4.own _ y hy
      rw [gw] at this
      exact this
    · intro y hy
      have := hs4.read y hy
      rw [gw, show gJ.R = R by rw [hgJ]; rfl] at this
      exact this
  refine (wpIn_wide (n := 1)).1 (wpIn_rangeFunc fun fn hfn => ?_)
  obtain ⟨W1, hW1⟩ : ∃ W1, (w.alloc (.deferred (some []))).alloc (.loop (rec fn .ready none)) = W1 := ⟨_, rfl⟩
  have hL1 : W1.heap[w.heap.size + 1]? = some (.loop (rec fn .ready none)) := by
    rw [← hW1]; have := World.alloc_heap_new (w.alloc (.deferred (some []))) (.loop (rec fn .ready none)); rwa [World.size_alloc] at this
  have hD1 : W1.heap[w.heap.size]? = some (.deferred (some [])) := by
    rw [← hW1]; exact ((Grow.alloc (w.alloc (.deferred (some []))) _).block _ (by simp)).trans (World.alloc_heap_new w _)
  have hgr : Grow w W1 := by
    rw [← hW1]
    exact ⟨rfl, rfl, rfl, by simp; omega, fun k hk => ((Grow.alloc (w.alloc (.deferred (some []))) _).block k (by simp; omega)).trans ((Grow.alloc w _).block k hk)⟩
  have hJ0 : J fn 0 W1 := by
    refine ⟨S.boxes, R, fun b => Os (.box b), h0, rfl, fun _ x => x, mk _ _ _ _ rfl (fun _ x => x) (hgr.fr _) ?_ ?_ ?_ ?_ ?_, hL1, hD1, fun h => ?_, fun h => ?_, fun b => ⟨fun h => ?_, fun h => ?_⟩⟩
    · intro b e hb
      exact (hs.boxes b e hb).up (fun _ _ x => x) (fun _ x => x) (fun x hx => hgr.block x (hs.read x hx).1) (fun x hx => hgr.block x (hs.own _ x hx).1) (fun _ x => x)
    · intro i j hij
      exact hs.disj _ _ (by simpa using hij)
    · intro i
      exact hs.apart _
    · intro i x hx
      exact ⟨Nat.lt_of_lt_of_le (hs.own _ x hx).1 hgr.size, .inl (by rw [hgJ]; exact ⟨_, hx⟩)⟩
    · intro x hx
      exact ⟨Nat.lt_of_lt_of_le (hs.read x hx).1 hgr.size, .inl hx⟩
    · have := (hs.read _ h).1; omega
    · have := (hs.read _ h).1; omega
    · have := (hs.own _ _ h).1; omega
    · have := (hs.own _ _ h).1; omega
  have eg : a.eval gop = .func (.func fb) #[] #[c1] := m3
  refine ⟨w.heap.size + 1, [{ target := .collected w.heap.size, args := #[] }], W1, { target := .fn (.func fb) #[c1], args := #[.func (.yield (w.heap.size + 1)) #[] #[]] }, W1, fb,
    #[.func (.yield (w.heap.size + 1)) #[] #[], c1], W1, ?_, ?_, fun _ _ => trivial, ?_, fun _ => Nat.le_refl _, ?_⟩
  · rw [← hW1, hrec]; exact run_enterLoop_outer _ _ _ _ _
  · simp only [resolve, eg]
    simp [go_sem]
  · simp [invoke, enters_run hent]
  · refine (hit (1 - 1) (w.heap.size + 1) R c1 (J fn) W1 (hrd fn) (fun k W x c hj hk hx hc => hyield fn _ k W x c hj hk hx hc) hJ0).mono ?_
    rintro e W ⟨⟨v, rfl⟩, bs, R', Ob, i1, i2, i3, hj, hl, hD, r1, r2, r3⟩
    have he := run_endLoop (P := X.P) hl (by rw [hrec]; simp)
    have hpend : (rec fn .ready none).pending = none := by rw [hrec]
    generalize hob : (Obj.loop { rec fn .ready none with state := .exhausted }) = ob at he
    refine ⟨_, _, he, ?_⟩
    rw [hpend]
    refine (.inr ⟨w.heap.size, .normal, ⟨S.n, S.slots, bs, S.nb⟩, β, Or2 R R', (fun r => match r with | .slot _ => Blk.emp | .box b => Ob b), hK bs i1 i2, ?_, trivial, hs.fr.size, ?_, ?_, ?_⟩ : AQM g K .normal _ _)
    · have hj2 := hj.turnX (l := w.heap.size + 1) ob r1 (fun q => by cases q with | slot t => exact fun h => h | box b => exact (r3 b).1) (by rw [gw]; omega)
      have hj3 : StR (reG2 g β R Os w [⟨.collected w.heap.size, #[]⟩]) β R' (fun r => match r with | .slot _ => Blk.emp | .box b => Ob b) ⟨S.n, S.slots, bs, S.boxes.length⟩ { a with defers := [⟨.collected w.heap.size, #[]⟩] } (W.putObj (w.heap.size + 1) ob) := by
        rw [hgJ] at hj2
        exact ⟨hj2.ext, hj2.size, rfl, hj2.slots, (fun t b r p hu => by obtain ⟨e', q3, _⟩ := roS_look hro hu; cases q3), hj2.boxes, hj2.disj, hj2.apart, hj2.own, hj2.read, hj2.fr, hj2.glob⟩
      have := (hs.unroot2 hj3 rfl hnb).1
      have ed : a.defers = [] := by rw [hs.defers, hdf]
      rw [show ({ a with defers := [({ target := .collected w.heap.size, args := #[] } : Deferred)] ++ a.defers } : Act) = { a with defers := [⟨.collected w.heap.size, #[]⟩] } by rw [ed]; rfl]
      exact this
    · exact (World.putObj_heap_other (by omega)).trans hD
    · rintro (h | h)
      · have := (hs.read _ h).1; omega
      · exact r2 h
    · intro q
      cases q with
      | slot t => exact fun h => h
      | box b => exact (r3 b).2
end
end Go.Proofs.YtfbppkjjdbkedaaGreatDoor.Ref
/-
  The abstract machine: functions with a loop over an iterator: their code, their contracts.
-/
namespace Go.Proofs.YtfbppkjjdbkedaaGreatDoor.Ref
noncomputable section
open Go
set_option linter.unusedVariables false
variable {X : Cx}

theorem awpm_mono {c : Code} {K K' : AEx → ASt → Prop} {S : ASt} (h : AWPM X c K S) (hK : ∀ ae S', K ae S' → K' ae S') : AWPM X c K' S := fun g β R Os a w hG hd hs =>
  Code.wp_mono (fun e a' w' hq => by
    rcases hq with ⟨ae, S', β', R', Os', h1, h2, h3⟩ | ⟨D, ae, S', β', R', Os', h1, h2⟩
    · exact .inl ⟨ae, S', β', R', Os', hK _ _ h1, h2, h3⟩
    · exact .inr ⟨D, ae, S', β', R', Os', hK _ _ h1, h2⟩) (h g β R Os a w hG hd hs)
theorem awpm_wk {c : Code} {K : AEx → ASt → Prop} {S S' : ASt} (hw : Wk S S') (h : AWPM X c K S') : AWPM X c K S := fun g β R Os a w hG hd hs => by
  obtain ⟨β', R', Os', h1⟩ := hw g β R Os a w hs
  exact h g β' R' Os' a w hG hd h1
/-- Unmarked code first. -/
theorem awpm_seq1 {x y : Code} {K : AEx → ASt → Prop} {S : ASt} (h : AWP X x (fun ae S' => match ae with | .normal => AWPM X y K S' | e => K e S') S) : AWPM X (.seq x y) K S := by
  intro g β R Os a w hG hd hs
  refine wp_seq (Code.wp_mono ?_ (h g β R Os a w hG hs))
  rintro e a' w' ⟨ae, S', β', R', Os', h1, h2, h3⟩
  cases ae <;> cases e <;> simp only [ExOk] at h3 <;> first | exact h3.elim | skip
  · exact h1 g β' R' Os' a' w' hG hd h2
  · exact .inl ⟨_, S', β', R', Os', h1, h2, h3⟩
  · exact .inl ⟨.ret, S', β', R', Os', h1, h2, trivial⟩
  · exact .inl ⟨_, S', β', R', Os', h1, h2, h3⟩
/-- Unmarked code behind. -/
theorem awpm_seq2 {x y : Code} {K : AEx → ASt → Prop} {S : ASt} (h : AWPM X x (fun ae S' => match ae with | .normal => AWP X y (fun e S'' => S''.nb = S'.nb ∧ K e S'') S' | e => K e S') S) : AWPM X (.seq x y) K S := by
  intro g β R Os a w hG hd hs
  refine wp_seq (Code.wp_mono ?_ (h g β R Os a w hG hd hs))
  rintro e a' w' (⟨ae, S', β', R', Os', h1, h2, h3⟩ | ⟨D, ae, S', β', R', Os', h1, h2, h3, h4, h5, h6, h7⟩)
  · cases ae <;> cases e <;> simp only [ExOk] at h3 <;> first | exact h3.elim | skip
    · exact Code.wp_mono (fun e a w ⟨ae, S'', β'', R'', Os'', q1, q2, q3⟩ => .inl ⟨ae, S'', β'', R'', Os'', q1.2, q2, q3⟩) (h1 g β' R' Os' a' w' hG h2)
    · exact .inl ⟨_, S', β', R', Os', h1, h2, h3⟩
    · exact .inl ⟨.ret, S', β', R', Os', h1, h2, trivial⟩
    · exact .inl ⟨_, S', β', R', Os', h1, h2, h3⟩
  · cases ae <;> cases e <;> simp only [ExOk] at h3 <;> first | exact h3.elim | skip
    · refine Code.wp_mono ?_ (h1 (reG { g with dfr := [⟨.collected D, #[]⟩] } β' R' Os' w') β' R' Os' a' w' hG h2.reroot)
      rintro e2 a2 w2 ⟨ae2, S2, β2, R2, Os2, ⟨q0, q1⟩, q2, q3⟩
      obtain ⟨u1, u2⟩ := h2.unroot q2 q0
      have hlt : D < w'.heap.size := (Array.getElem?_eq_some_iff.1 h5).1
      refine .inr ⟨D, ae2, S2, β2, Or2 R' R2, Os2, q1, u1, ?_, h4, ?_, ?_, ?_⟩
      · cases ae2 <;> cases e2 <;> simp only [ExOk] at q3 ⊢ <;> first | exact q3 | skip
        obtain ⟨v, e1, e3⟩ := q3
        exact ⟨v, e1, e3.up (fun _ _ x => x) (fun x hx => .inr hx) (fun _ _ => rfl) (fun _ _ => rfl) (fun _ x => x)⟩
      · rw [q2.fr.block D hlt (fun ⟨q, hq⟩ => h7 q hq)]; exact h5
      · rintro (hx | hx)
        · exact h6 hx
        · rcases (q2.read D hx).2 with hx | ⟨q, hx⟩ | hx
          · exact h6 hx
          · exact h7 q hx
          · have hx : w'.heap.size ≤ D := hx; omega
      · intro q hq
        rcases (q2.own q D hq).2 with ⟨q', hx⟩ | hx
        · exact h7 q' hx
        · have hx : w'.heap.size ≤ D := hx; omega
    · exact .inr ⟨D, _, S', β', R', Os', h1, h2, h3, h4, h5, h6, h7⟩
    · exact .inr ⟨D, .ret, S', β', R', Os', h1, h2, trivial, h4, h5, h6, h7⟩
    · exact .inr ⟨D, _, S', β', R', Os', h1, h2, h3, h4, h5, h6, h7⟩
theorem awpm_block {id : Nat} {c : Code} {K : AEx → ASt → Prop} {S : ASt} (h : AWPM X c (Kb id K) S) : AWPM X (.block id c) K S := fun g β R Os a w hG hd hs => by
  refine wp_block (Code.wp_mono ?_ (h g β R Os a w hG hd hs))
  rintro e a' w' (⟨ae, S', β', R', Os', h1, h2, h3⟩ | ⟨D, ae, S', β', R', Os', h1, h2, h3, h4⟩)
  · cases ae <;> cases e <;> simp only [ExOk] at h3 <;> first | exact h3.elim | skip
    · exact .inl (.mk (ae := .normal) h1 h2 trivial)
    · subst h3
      simp only [Kb] at h1
      simp only [Exit.inBlock]
      split <;> rename_i hid
      · rw [if_pos hid] at h1; exact .inl (.mk h1 h2 trivial)
      · rw [if_neg hid] at h1; exact .inl (.mk h1 h2 rfl)
    · exact .inl (.mk (ae := .ret) h1 h2 trivial)
    · exact .inl ⟨_, S', β', R', Os', h1, h2, h3⟩
  · cases ae <;> cases e <;> simp only [ExOk] at h3 <;> first | exact h3.elim | skip
    · exact .inr ⟨D, .normal, S', β', R', Os', h1, h2, trivial, h4⟩
    · subst h3
      simp only [Kb] at h1
      simp only [Exit.inBlock]
      split <;> rename_i hid
      · rw [if_pos hid] at h1; exact .inr ⟨D, .normal, S', β', R', Os', h1, h2, trivial, h4⟩
      · rw [if_neg hid] at h1; exact .inr ⟨D, .exit _, S', β', R', Os', h1, h2, rfl, h4⟩
    · exact .inr ⟨D, .ret, S', β', R', Os', h1, h2, trivial, h4⟩
    · exact .inr ⟨D, _, S', β', R', Os', h1, h2, h3, h4⟩
theorem awpm_cond {c : Operand} {x y : Code} {b : Bool} {K : AEx → ASt → Prop} {S : ASt} (hc : S.ev X.G c = some (.d (.v (.bool b)))) (ht : b = true → AWPM X x K S) (hf : b = false → AWPM X y K S) : AWPM X (.cond c x y) K S := fun g β R Os a w hG hd hs => by
  obtain ⟨xs, h1, h2⟩ := evalR hs (by rw [hG]; exact hc) rfl
  simp only [Rel] at h2
  simp only [packs] at h1
  rw [h1] at h2
  have h2 := h2.2
  injection h2 with h2
  exact Go.wp_cond_split h2 (fun hb => ht hb g β R Os a w hG hd hs) (fun hb => hf hb g β R Os a w hG hd hs)

theorem ct_of_awpm (hX : X.Ok) {f : FuncId} {fn : Func} {c : Code} {args boxes : List D} {K : ARes → List D → Prop} (hf : X.P.funcs[f]? = some fn) (hb : fn.body = some c) (hn : (rTmps fn.results.toList).Nodup)
    (h : AWPM X c (fun e S => (S.nb = boxes.length ∧ S.nb ≤ S.boxes.length) ∧ Kf X.T fn.results.toList K e S) ⟨fn.ntmps, enterS 0 args, boxes, boxes.length⟩) : CT X f args boxes K := by
  intro β w R Oa Ob cargs h1 h2 h3 h4 h5 h6 h7 h8 h9 h10 h11
  have H : Ent X args boxes β w R Oa Ob cargs := ⟨h1, h2, h3, h4, h5, h6, h7, h8, h9, h10, h11⟩
  obtain ⟨Os, hst⟩ := enter_str H fn.ntmps
  refine (callsIn_wide (n := 0)).1 (callsIn_of_wp_marks hf hb trivial ((wpIn_wide (n := 0)).2 (Code.wp_mono ?_ (h (gh0 X β w R Oa Ob) β R Os _ w rfl rfl hst))))
  have ret : ∀ (S : ASt) (β' : Env) (R' : Blk) (Os' : Own) (a' : Act) (w' : World), S.nb = boxes.length → S.nb ≤ S.boxes.length → StR (gh0 X β w R Oa Ob) β' R' Os' S { a' with defers := [] } w' → (∃ d, resD X.T S fn.results.toList = some d ∧ S.okR d = true ∧ K (.ret d) (S.boxes.take S.nb)) →
      ∃ v, (results fn a'.tmps).run X.P w' = .ok v w' ∧ ∃ r boxes' R' Or Ob', K r boxes' ∧ Back X β w R Oa Ob boxes r boxes' (.returned v) w' R' Or Ob' := by
    rintro S β' R' Os' a' w' hlen hle hs ⟨d, hd, hok, hKd⟩
    obtain ⟨v, O, q1, q2, q3⟩ := res_run hX hs hd hn
    refine ⟨v, q1, .ret d, _, _, O, _, hKd, fin_back H hlen hle hok (.inl rfl) hs ?_ ?_⟩
    · exact q2.up (fun _ _ x => x) (fun x hx => .inr hx) (fun _ _ => rfl) (fun _ _ => rfl) (fun _ x => x)
    · intro x hx
      obtain ⟨t, _, ht⟩ := q3 x hx
      exact ⟨t, ht⟩
  rintro e a' w' (⟨ae, S, β', R', Os', ⟨⟨hlen, hle⟩, hK⟩, hs, he⟩ | ⟨D, ae, S, β', R', Os', ⟨⟨hlen, hle⟩, hK⟩, hs, he, hD, hDw, hDR, hDO⟩)
  · have hd0 : a'.defers = [] := hs.defers
    have hs' : StR (gh0 X β w R Oa Ob) β' R' Os' S { a' with defers := [] } w' := by rw [← hd0]; exact hs
    cases ae <;> cases e <;> simp only [ExOk] at he <;> first | exact he.elim | skip
    · simp only [bodyPostM, hd0, LeavesInM, LeavesIn]; exact ret S β' R' Os' a' w' hlen hle hs' hK
    · exact hK.elim
    · simp only [bodyPostM, hd0, LeavesInM, LeavesIn]; exact ret S β' R' Os' a' w' hlen hle hs' hK
    · obtain ⟨v, rfl, hv⟩ := he
      simp only [bodyPostM, hd0, LeavesInM, LeavesIn]
      refine ⟨.pan _, _, _, Blk.emp, _, hK.2, fin_back H hlen hle hK.1 (.inr rfl) hs ⟨v, rfl, ?_⟩ (fun x hx => hx.elim)⟩
      exact hv.up (fun _ _ x => x) (fun x hx => .inr hx) (fun _ _ => rfl) (fun _ _ => rfl) (fun _ x => x)
  · have hd0 : a'.defers = [⟨.collected D, #[]⟩] := hs.defers
    have htake := run_takeDeferred (P := X.P) hDw
    have hs0 : StR (gh0 X β w R Oa Ob) β' R' Os' S { a' with defers := [] } w' :=
      ⟨hs.ext, hs.size, rfl, hs.slots, fun t b r p q => (hs.ups t b r p q).cong rfl rfl rfl, hs.boxes, hs.disj, hs.apart, hs.own, hs.read, hs.fr, hs.glob⟩
    have hs' := hs0.turnX (l := D) (.deferred none) hDR hDO hD
    have hstay : ∀ x, R' x → (w'.putObj D (.deferred none)).heap[x]? = w'.heap[x]? := fun x hx => World.putObj_heap_other (fun e => hDR (e ▸ hx))
    cases ae <;> cases e <;> simp only [ExOk] at he <;> first | exact he.elim | skip
    · simp only [bodyPostM, hd0, LeavesInM, LeavesIn]
      exact ⟨by simp, .inl ⟨D, _, rfl, htake, ret S β' R' Os' a' _ hlen hle hs' hK⟩⟩
    · exact hK.elim
    · simp only [bodyPostM, hd0, LeavesInM, LeavesIn]
      exact ⟨by simp, .inl ⟨D, _, rfl, htake, ret S β' R' Os' a' _ hlen hle hs' hK⟩⟩
    · obtain ⟨v, rfl, hv⟩ := he
      simp only [bodyPostM, hd0, LeavesInM, LeavesIn]
      refine ⟨by simp, .inl ⟨D, _, rfl, htake, .pan _, _, _, Blk.emp, _, hK.2, fin_back H hlen hle hK.1 (.inr rfl) hs' ⟨v, rfl, ?_⟩ (fun x hx => hx.elim)⟩⟩
      exact hv.up (fun _ _ x => x) (fun x hx => .inr hx) hstay (fun _ hx => hx.elim) (fun _ x => x)
end
end Go.Proofs.YtfbppkjjdbkedaaGreatDoor.Ref
/-
  The abstract machine as a program: functions with a loop over an iterator.
-/
namespace Go.Proofs.YtfbppkjjdbkedaaGreatDoor.Ref
noncomputable section
open Go
set_option linter.unusedVariables false
variable {X : Cx}

/-- A region of no given order, in a round too. -/
def Drawer.Okr (X : Cx) (W : Drawer) : Prop := ∀ C : Tab, C.Ok X → ∀ id H ops S e S' (K : AEx → ASt → Prop), ops.toList.all noDefer = true → W C H ops S = some (e, S') → K e S' → AWPr X (.region id ops true) K S
theorem drawer_okr (hX : X.Ok) : (drawer X).Okr X := by
  intro C hC id H ops S e S' K hd h hK
  obtain ⟨hs, h⟩ := gd_eq h
  obtain ⟨l, hl, h⟩ := bd_eq h
  refine awpr_draw hX hd (explo_ok hX hC hs S l hl ?_)
  split at h
  · rename_i r
    injection h with h
    subst h
    intro p hp
    simp at hp
    subst hp
    exact .inl hK
  · rename_i r l _
    obtain ⟨ha, h⟩ := gd_eq h
    simp only [Option.some.injEq, Prod.mk.injEq] at h
    obtain ⟨rfl, rfl⟩ := h
    intro p hp
    rcases List.mem_cons.1 hp with rfl | hp
    · exact .inr hK
    · obtain ⟨h1, h2⟩ := allSame_of ha p hp
      rw [h1, h2]
      exact .inr hK
  · simp at h
def arunR (X : Cx) (C : Tab) (W : Drawer) (H : Hint) : Code → ASt → Option (AEx × ASt)
  | .skip, S => some (.normal, S)
  | .region id ops draw, S => gd (ops.toList.all noDefer) <| match draw with
    | false => runL X C (H.op id) ops 0 ops.toList (S.fixAs (S.trim (H.keep id)))
    | true => W C (H.op id) ops (S.fixAs (S.trim (H.keep id)))
  | .seq a b, S => match arunR X C W H a S with
    | some (.normal, S') => arunR X C W H b S'
    | r => r
  | .cond c x y, S => match asB (S.ev X.G c) with
    | some true => arunR X C W H x S
    | some false => arunR X C W H y S
    | none => none
  | .block id c, S => match arunR X C W H c S with
    | some (.exit j, S') => match Nat.beq j id with
      | true => some (.normal, S')
      | false => some (.exit j, S')
    | r => r
  | _, _ => none
theorem arunR_ok (hX : X.Ok) {C : Tab} (hC : C.Ok X) {W : Drawer} (hW : W.Okr X) {H : Hint} : ∀ (c : Code) (S : ASt) (e : AEx) (S' : ASt) (K : AEx → ASt → Prop), arunR X C W H c S = some (e, S') → K e S' → AWPr X c K S
  | .skip, S, e, S', K, h, hK => by
    simp only [arunR, Option.some.injEq, Prod.mk.injEq] at h
    obtain ⟨rfl, rfl⟩ := h
    exact awpr_skip hK
  | .region id ops draw, S, e, S', K, h, hK => by
    simp only [arunR, fixAs_eq] at h
    obtain ⟨hd, h⟩ := gd_eq h
    cases draw with
    | false => exact awpr_wk (wk_trim S _) (awpr_region hd (runL_ok hX hC _ _ _ _ _ h hK))
    | true => exact awpr_wk (wk_trim S _) (hW C hC id _ ops _ e S' K hd h hK)
  | .seq a b, S, e, S', K, h, hK => by
    simp only [arunR] at h
    split at h
    · rename_i S1 h1
      exact awpr_seq (arunR_ok hX hC hW a S _ S1 _ h1 (arunR_ok hX hC hW b S1 e S' K h hK))
    · rename_i hne
      refine awpr_seq (arunR_ok hX hC hW a S e S' _ h ?_)
      cases e with
      | normal => exact absurd h (hne S')
      | exit j => exact hK
      | ret => exact hK
      | pan d => exact hK
  | .cond c x y, S, e, S', K, h, hK => by
    simp only [arunR] at h
    split at h
    · rename_i hb
      exact awpr_cond (asB_eq hb) (fun _ => arunR_ok hX hC hW x S e S' K h hK) (fun h => by cases h)
    · rename_i hb
      exact awpr_cond (asB_eq hb) (fun h => by cases h) (fun _ => arunR_ok hX hC hW y S e S' K h hK)
    · simp at h
  | .block id c, S, e, S', K, h, hK => by
    simp only [arunR] at h
    split at h
    · rename_i j S1 h1
      refine awpr_block (arunR_ok hX hC hW c S _ S1 _ h1 ?_)
      simp only [Kb]
      split at h
      · rename_i hj
        injection h with h
        injection h with e1 e2
        subst e1 e2
        rw [if_pos (Nat.eq_of_beq_eq_true hj)]
        exact hK
      · rename_i hj
        injection h with h
        injection h with e1 e2
        subst e1 e2
        rw [if_neg (beq_ne hj)]
        exact hK
    · rename_i hne
      refine awpr_block (arunR_ok hX hC hW c S e S' _ h ?_)
      cases e with
      | exit j => exact absurd h (hne j S')
      | normal => exact hK
      | ret => exact hK
      | pan d => exact hK
  | .loop _, S, e, S', K, h, hK => by simp [arunR] at h
  | .exit _, S, e, S', K, h, hK => by simp [arunR] at h
  | .ret, S, e, S', K, h, hK => by simp [arunR] at h
  | .rangeFunc _ _ _ _, S, e, S', K, h, hK => by simp [arunR] at h
  | .scope _, S, e, S', K, h, hK => by simp [arunR] at h
  | .label _, S, e, S', K, h, hK => by simp [arunR] at h
  | .goto _, S, e, S', K, h, hK => by simp [arunR] at h
  | .refuse _, S, e, S', K, h, hK => by simp [arunR] at h

/-- The iterators that are known: the elements' size and type. -/
abbrev Its := FuncId → Option (Nat × TI)
def Its.Ok (X : Cx) (I : Its) : Prop := ∀ f r, I f = some r → Enters X f ∧ ∀ nn ds, ds.length < 4611686018427387904 → (∀ x ∈ ds, r.2.fits x = true) → Iter X f (.row nn r.1 ds) ds
def slotsOf : List (Nat × TV) → List Operand
  | [] => []
  | (t, _) :: l => .tmp t :: slotsOf l
def isN : AEx → Bool
  | .normal => true
  | _ => false
theorem isN_eq {e : AEx} (h : isN e = true) : e = .normal := by cases e <;> simp [isN] at h ⊢
def rounds (X : Cx) (C : Tab) (W : Drawer) (H : Hint) (p1 p2 : Nat) (assign body : Code) (n : Nat) (slots : List (Nat × TV)) (nb : Nat) : List D → List D → Option (List D)
  | [], bs => some bs
  | x :: xs, bs => bd (arunR X C W H assign ⟨n, (p2, .d x) :: (p1, .d (.v (.int .i64 xs.length))) :: slots, bs, nb⟩) fun r => gd (isN r.1 && Nat.beq r.2.nb nb) <|
    bd (arunR X C W H body r.2) fun q => gd (isN q.1 && Nat.beq q.2.nb nb && Nat.ble nb q.2.boxes.length && D.loL nb (q.2.boxes.take nb)) (rounds X C W H p1 p2 assign body n slots nb xs (q.2.boxes.take nb))
def itOf (k : FuncId × List D) : Option (Bool × Nat × List D) := match k.2 with
  | [.fz (.row nn sz ds)] => some (nn, sz, ds)
  | _ => none
def rfrun (X : Cx) (C : Tab) (W : Drawer) (I : Its) (H : Hint) (gop : Operand) (ps : Array Tmp) (assign body : Code) (S0 : ASt) : Option (AEx × ASt × Bool) := match ps with
  | ⟨[p1, p2]⟩ =>
    let S1 := S0.trim (H.keep 999)
    let S := (S1.coolOps (slotsOf S1.slots)).trim (H.keep 999)
    bd (asF (S.ev X.G gop)) fun k => bd (itOf k) fun r => bd (I k.1) fun si => gd (Nat.beq si.1 r.2.1 && r.2.2.all si.2.fits && D.loL 0 r.2.2 && roS S.slots && Nat.blt p1 S.n && Nat.blt p2 S.n && !(Nat.beq p1 p2) && Nat.ble S.nb S.boxes.length && Nat.blt r.2.2.length 4611686018427387904) <|
      bd (rounds X C W H p1 p2 assign body S.n S.slots S.boxes.length r.2.2.reverse S.boxes) fun bs => some (.normal, ⟨S.n, S.slots, bs, S.nb⟩, true)
  | _ => none
def mrun (X : Cx) (C : Tab) (W : Drawer) (I : Its) (H : Hint) (N : Nat) : Code → ASt → Option (AEx × ASt × Bool)
  | .rangeFunc gop ps assign body, S => rfrun X C W I H gop ps assign body S
  | .seq a b, S => match mrun X C W I H N a S with
    | some (.normal, S', false) => mrun X C W I H N b S'
    | some (.normal, S', true) => bd (arun X C W H N b S') fun r => gd (Nat.beq r.2.nb S'.nb) (some (r.1, r.2, true))
    | r => r
  | .cond c x y, S => match asB (S.ev X.G c) with
    | some true => mrun X C W I H N x S
    | some false => mrun X C W I H N y S
    | none => none
  | .block id c, S => match mrun X C W I H N c S with
    | some (.exit j, S', m) => match Nat.beq j id with
      | true => some (.normal, S', m)
      | false => some (.exit j, S', m)
    | r => r
  | c, S => bd (arun X C W H N c S) fun r => some (r.1, r.2, false)
theorem rounds_ok (hX : X.Ok) {C : Tab} (hC : C.Ok X) {W : Drawer} (hW : W.Okr X) {H : Hint} {p1 p2 n nb : Nat} {assign body : Code} {slots : List (Nat × TV)} {bsF : List D} {xs : List D} {x : D} {bs : List D} (h : rounds X C W H p1 p2 assign body n slots nb (x :: xs) bs = some bsF) :
    AWPr X assign (RoundK X body nb (fun b => rounds X C W H p1 p2 assign body n slots nb xs b = some bsF)) ⟨n, (p2, .d x) :: (p1, .d (.v (.int .i64 (xs.length : Nat)))) :: slots, bs, nb⟩ := by
  simp only [rounds] at h
  obtain ⟨⟨e1, S1⟩, h1, h⟩ := bd_eq h
  obtain ⟨c1, h⟩ := gd_eq h
  obtain ⟨⟨e2, S2⟩, h2, h⟩ := bd_eq h
  obtain ⟨c2, h⟩ := gd_eq h
  simp only [Bool.and_eq_true] at c1 c2
  refine arunR_ok hX hC hW assign _ e1 S1 _ h1 ⟨isN_eq c1.1, Nat.eq_of_beq_eq_true c1.2, arunR_ok hX hC hW body S1 e2 S2 _ h2 ⟨isN_eq c2.1.1.1, Nat.eq_of_beq_eq_true c2.1.1.2, Nat.le_of_ble_eq_true c2.1.2, c2.2, h⟩⟩
theorem itOf_eq {k : FuncId × List D} {r : Bool × Nat × List D} (h : itOf k = some r) : k.2 = [.fz (.row r.1 r.2.1 r.2.2)] := by
  unfold itOf at h
  split at h
  · rename_i hk
    injection h with h
    subst h
    exact hk
  · cases h
theorem rfrun_ok (hX : X.Ok) {C : Tab} (hC : C.Ok X) {W : Drawer} (hWr : W.Okr X) {I : Its} (hI : I.Ok X) {H : Hint} {gop : Operand} {ps : Array Tmp} {assign body : Code} {S0 : ASt} {e : AEx} {S' : ASt} {m : Bool} {K : AEx → ASt → Prop} (h : rfrun X C W I H gop ps assign body S0 = some (e, S', m)) (hK : K e S') : m = true ∧ AWPM X (.rangeFunc gop ps assign body) K S0 := by
  unfold rfrun at h
  split at h
  · rename_i p1 p2
    obtain ⟨S, hS⟩ : ∃ S, S = ((S0.trim (H.keep 999)).coolOps (slotsOf (S0.trim (H.keep 999)).slots)).trim (H.keep 999) := ⟨_, rfl⟩
    simp only [← hS] at h
    obtain ⟨k, h1, h⟩ := bd_eq h
    obtain ⟨r, h2, h⟩ := bd_eq h
    obtain ⟨si, h3, h⟩ := bd_eq h
    obtain ⟨hc, h⟩ := gd_eq h
    obtain ⟨bs, h4, h⟩ := bd_eq h
    simp only [Option.some.injEq, Prod.mk.injEq] at h
    obtain ⟨rfl, rfl, rfl⟩ := h
    simp only [Bool.and_eq_true, Bool.not_eq_true'] at hc
    obtain ⟨⟨⟨⟨⟨⟨⟨⟨c1, c2⟩, c3⟩, c4⟩, c5⟩, c6⟩, c7⟩, c8⟩, c9⟩ := hc
    refine ⟨rfl, ?_⟩
    refine awpm_wk (((wk_trim S0 (H.keep 999)).trans (wk_coolOps (slotsOf (S0.trim (H.keep 999)).slots) _)).trans (wk_trim _ (H.keep 999))) ?_
    rw [← hS]
    obtain ⟨k1, k2⟩ := k
    have e1 := asF_eq h1
    have e2 := itOf_eq h2
    simp only at e2
    subst e2
    obtain ⟨i1, i2⟩ := hI _ _ h3
    have hsz := Nat.eq_of_beq_eq_true c1
    have hlt : r.2.2.length < 4611686018427387904 := Nat.le_of_ble_eq_true c9
    have hit := i2 r.1 r.2.2 hlt (fun x hx => List.all_eq_true.1 c2 x hx)
    rw [hsz] at hit
    refine awp_range hX e1 i1 (by simpa [D.lo] using c3) hit c4 (Nat.le_of_ble_eq_true c5) (Nat.le_of_ble_eq_true c6) (beq_ne c7) (fun k b => rounds X C W H p1 p2 assign body S.n S.slots S.boxes.length (r.2.2.reverse.drop k) b = some bs) (Nat.le_of_ble_eq_true c8) (by simpa using h4) ?_ ?_
    · intro k b x hb hbl hk hx
      have hd : r.2.2.reverse.drop k = x :: r.2.2.reverse.drop (k + 1) := by
        rw [List.drop_eq_getElem_cons (by simpa using hk)]
        congr 1
        rw [List.getElem_reverse]
        have := (List.getElem?_eq_some_iff.1 hx).2
        exact this
      rw [hd] at hb
      have := rounds_ok hX hC hWr hb
      have hl : (r.2.2.reverse.drop (k + 1)).length = r.2.2.length - 1 - k := by simp; omega
      rw [hl] at this
      exact this
    · intro b hb hbl
      rw [List.drop_eq_nil_of_le (by simp)] at hb
      simp only [rounds, Option.some.injEq] at hb
      subst hb
      exact hK
  · cases h
theorem mrun_ok (hX : X.Ok) {C : Tab} (hC : C.Ok X) {W : Drawer} (hW : W.Ok X) (hWr : W.Okr X) {I : Its} (hI : I.Ok X) {H : Hint} {N : Nat} : ∀ (c : Code) (S : ASt) (e : AEx) (S' : ASt) (m : Bool) (K : AEx → ASt → Prop), mrun X C W I H N c S = some (e, S', m) → K e S' → (m = false → AWP X c K S) ∧ AWPM X c K S
  | .rangeFunc gop ps assign body, S0, e, S', m, K, h, hK => by
    simp only [mrun] at h
    obtain ⟨h1, h2⟩ := rfrun_ok hX hC hWr hI h hK
    exact ⟨fun hm => (by rw [hm] at h1; cases h1), h2⟩
  | .seq a b, S, e, S', m, K, h, hK => by
    simp only [mrun] at h
    split at h
    · rename_i S1 h1
      obtain ⟨r1, r2⟩ := mrun_ok hX hC hW hWr hI b S1 e S' m K h hK
      refine ⟨fun hm => awp_seq ((mrun_ok hX hC hW hWr hI a S _ S1 _ (Ks X b K) h1 (r1 hm)).1 rfl), awpm_seq1 ((mrun_ok hX hC hW hWr hI a S _ S1 _ (fun ae S' => match ae with | .normal => AWPM X b K S' | e => K e S') h1 r2).1 rfl)⟩
    · rename_i S1 h1
      obtain ⟨⟨e2, S2⟩, h2, h⟩ := bd_eq h
      obtain ⟨hb, h⟩ := gd_eq h
      simp only [Option.some.injEq, Prod.mk.injEq] at h
      obtain ⟨rfl, rfl, rfl⟩ := h
      refine ⟨fun h => (by cases h), awpm_seq2 (mrun_ok hX hC hW hWr hI a S _ S1 _ _ h1 ?_).2⟩
      exact arun_ok hX hC hW b S1 e2 S2 _ h2 ⟨Nat.eq_of_beq_eq_true hb, hK⟩
    · rename_i hn1 hn2
      have he : e ≠ .normal := fun he => by
        subst he
        cases m with
        | false => exact hn1 S' h
        | true => exact hn2 S' h
      constructor
      · intro hm
        refine awp_seq ((mrun_ok hX hC hW hWr hI a S e S' m _ h ?_).1 hm)
        cases e with
        | normal => exact absurd rfl he
        | exit j => exact hK
        | ret => exact hK
        | pan d => exact hK
      · refine awpm_seq2 (mrun_ok hX hC hW hWr hI a S e S' m _ h ?_).2
        cases e with
        | normal => exact absurd rfl he
        | exit j => exact hK
        | ret => exact hK
        | pan d => exact hK
  | .cond c x y, S, e, S', m, K, h, hK => by
    simp only [mrun] at h
    split at h
    · rename_i hb
      obtain ⟨r1, r2⟩ := mrun_ok hX hC hW hWr hI x S e S' m K h hK
      exact ⟨fun hm => awp_true (asB_eq hb) (r1 hm), awpm_cond (asB_eq hb) (fun _ => r2) (fun h => by cases h)⟩
    · rename_i hb
      obtain ⟨r1, r2⟩ := mrun_ok hX hC hW hWr hI y S e S' m K h hK
      exact ⟨fun hm => awp_false (asB_eq hb) (r1 hm), awpm_cond (asB_eq hb) (fun h => by cases h) (fun _ => r2)⟩
    · simp at h
  | .block id c, S, e, S', m, K, h, hK => by
    simp only [mrun] at h
    have key : ∀ e0 S0 m0, mrun X C W I H N c S = some (e0, S0, m0) → Kb id K e0 S0 → (m0 = false → AWP X (.block id c) K S) ∧ AWPM X (.block id c) K S := fun e0 S0 m0 h0 hk0 => by
      obtain ⟨r1, r2⟩ := mrun_ok hX hC hW hWr hI c S e0 S0 m0 _ h0 hk0
      exact ⟨fun hm => awp_block (r1 hm), awpm_block r2⟩
    split at h
    · rename_i j S1 m1 h1
      split at h
      · rename_i hj
        simp only [Option.some.injEq, Prod.mk.injEq] at h
        obtain ⟨rfl, rfl, rfl⟩ := h
        exact key _ _ _ h1 (by simp only [Kb]; rw [if_pos (Nat.eq_of_beq_eq_true hj)]; exact hK)
      · rename_i hj
        simp only [Option.some.injEq, Prod.mk.injEq] at h
        obtain ⟨rfl, rfl, rfl⟩ := h
        exact key _ _ _ h1 (by simp only [Kb]; rw [if_neg (beq_ne hj)]; exact hK)
    · rename_i hne
      refine key _ _ _ h ?_
      cases e with
      | exit j => exact absurd h (hne j S' m)
      | normal => exact hK
      | ret => exact hK
      | pan d => exact hK
  | .skip, S, e, S', m, K, h, hK => by
    simp only [mrun] at h
    obtain ⟨⟨e1, S1⟩, h1, h⟩ := bd_eq h
    simp only [Option.some.injEq, Prod.mk.injEq] at h
    obtain ⟨rfl, rfl, rfl⟩ := h
    have := arun_ok hX hC hW _ S e1 S1 K h1 hK
    exact ⟨fun _ => this, awpm_of this⟩
  | .region _ _ _, S, e, S', m, K, h, hK => by
    simp only [mrun] at h
    obtain ⟨⟨e1, S1⟩, h1, h⟩ := bd_eq h
    simp only [Option.some.injEq, Prod.mk.injEq] at h
    obtain ⟨rfl, rfl, rfl⟩ := h
    have := arun_ok hX hC hW _ S e1 S1 K h1 hK
    exact ⟨fun _ => this, awpm_of this⟩
  | .loop _, S, e, S', m, K, h, hK => by
    simp only [mrun] at h
    obtain ⟨⟨e1, S1⟩, h1, h⟩ := bd_eq h
    simp only [Option.some.injEq, Prod.mk.injEq] at h
    obtain ⟨rfl, rfl, rfl⟩ := h
    have := arun_ok hX hC hW _ S e1 S1 K h1 hK
    exact ⟨fun _ => this, awpm_of this⟩
  | .exit _, S, e, S', m, K, h, hK => by
    simp only [mrun] at h
    obtain ⟨⟨e1, S1⟩, h1, h⟩ := bd_eq h
    simp only [Option.some.injEq, Prod.mk.injEq] at h
    obtain ⟨rfl, rfl, rfl⟩ := h
    have := arun_ok hX hC hW _ S e1 S1 K h1 hK
    exact ⟨fun _ => this, awpm_of this⟩
  | .ret, S, e, S', m, K, h, hK => by
    simp only [mrun] at h
    obtain ⟨⟨e1, S1⟩, h1, h⟩ := bd_eq h
    simp only [Option.some.injEq, Prod.mk.injEq] at h
    obtain ⟨rfl, rfl, rfl⟩ := h
    have := arun_ok hX hC hW _ S e1 S1 K h1 hK
    exact ⟨fun _ => this, awpm_of this⟩
  | .scope _, S, e, S', m, K, h, hK => by simp [mrun, arun, bd] at h
  | .label _, S, e, S', m, K, h, hK => by simp [mrun, arun, bd] at h
  | .goto _, S, e, S', m, K, h, hK => by simp [mrun, arun, bd] at h
  | .refuse _, S, e, S', m, K, h, hK => by simp [mrun, arun, bd] at h
/-- A call on data; M: the functions with a loop over an iterator. -/
def acall3 (X : Cx) (F : Funs) (Hs : FuncId → Hint) (W : Drawer) (I : Its) (M : FuncId → Bool) (T : Tab) (N : Nat) : Nat → Tab
  | 0 => fun _ _ _ => none
  | n + 1 => fun f ds bs => match T f ds bs with
    | some r => some r
    | none => bd (F f) fun fn => bd fn.body fun c => match M f with
      | true => bd (mrun X (acall3 X F Hs W I M T N n) W I (Hs f) N c ⟨fn.ntmps, enterS 0 ds, bs, bs.length⟩) fun r => finF X fn.results.toList bs.length (r.1, r.2.1)
      | false => match dfrs c with
        | false => bd (arun X (acall3 X F Hs W I M T N n) W (Hs f) N c ⟨fn.ntmps, enterS 0 ds, bs, bs.length⟩) fun r => finF X fn.results.toList bs.length r
        | true => dcall X (acall3 X F Hs W I M T N n) W Hs N F (Hs f) fn c ds bs
theorem finF_kf {rs : List ResultVar} {n : Nat} {e : AEx} {S : ASt} {r : ARes} {bs' : List D} (h : finF X rs n (e, S) = some (r, bs')) : (S.nb = n ∧ S.nb ≤ S.boxes.length) ∧ Kf X.T rs (fun r' b' => r' = r ∧ b' = bs') e S := by
  unfold finF at h
  obtain ⟨hb, h⟩ := gd_eq h
  simp only [Bool.and_eq_true] at hb
  refine ⟨⟨Nat.eq_of_beq_eq_true hb.1, Nat.le_of_ble_eq_true hb.2⟩, ?_⟩
  cases e with
  | normal =>
    obtain ⟨d, m1, h⟩ := bd_eq h
    obtain ⟨m2, h⟩ := gd_eq h
    simp only [Option.some.injEq, Prod.mk.injEq] at h
    exact ⟨d, m1, m2, h.1, h.2⟩
  | ret =>
    obtain ⟨d, m1, h⟩ := bd_eq h
    obtain ⟨m2, h⟩ := gd_eq h
    simp only [Option.some.injEq, Prod.mk.injEq] at h
    exact ⟨d, m1, m2, h.1, h.2⟩
  | pan d =>
    obtain ⟨m2, h⟩ := gd_eq h
    simp only [Option.some.injEq, Prod.mk.injEq] at h
    exact ⟨m2, h.1, h.2⟩
  | exit j => simp at h
theorem acall3_ok (hX : X.Ok) {F : Funs} (hF : F.Ok X) {Hs : FuncId → Hint} {W : Drawer} (hW : W.Ok X) (hWr : W.Okr X) {I : Its} (hI : I.Ok X) {M : FuncId → Bool} {T : Tab} (hT : T.Ok X) {N : Nat} : ∀ n, (acall3 X F Hs W I M T N n).Ok X
  | 0 => fun k ds bs r bs' h => by simp [acall3] at h
  | n + 1 => fun k ds bs r bs' h => by
    have ih := acall3_ok hX hF hW hWr hI hT (Hs := Hs) (M := M) (N := N) n
    simp only [acall3] at h
    split at h
    · rename_i r' hr
      injection h with h
      subst h
      exact hT _ _ _ _ _ hr
    · obtain ⟨fn, h1, h⟩ := bd_eq h
      obtain ⟨c, h2, h⟩ := bd_eq h
      obtain ⟨k1, k2, k3⟩ := hF k fn h1
      refine ⟨⟨fn, k1, k2, by rw [h2]; rfl⟩, ?_⟩
      split at h
      · obtain ⟨⟨e, S, m⟩, h3, h⟩ := bd_eq h
        exact ct_of_awpm hX k1 h2 k3 (mrun_ok hX ih hW hWr hI c _ e S m _ h3 (finF_kf h)).2
      · split at h
        · obtain ⟨⟨e, S⟩, h3, h⟩ := bd_eq h
          exact ct_of_awp hX k1 h2 k3 (arun_ok hX ih hW c _ e S _ h3 (finF_kf h))
        · exact dcall_ok hX ih hW hF h1 h2 h
end
end Go.Proofs.YtfbppkjjdbkedaaGreatDoor.Ref
/-
  Tables as trees.
-/
namespace Go.Proofs.YtfbppkjjdbkedaaGreatDoor.Ref
noncomputable section
set_option linter.unusedVariables false
inductive TM (α : Type) where
  | nil
  | node (l : TM α) (k : Nat) (v : α) (r : TM α)
def TM.get {α : Type} : TM α → Nat → Option α
  | .nil, _ => none
  | .node l k v r, t => match Nat.beq t k with
    | true => some v
    | false => match Nat.ble t k with
      | true => l.get t
      | false => r.get t
def TM.All {α : Type} (P : Nat → α → Prop) : TM α → Prop
  | .nil => True
  | .node l k v r => l.All P ∧ P k v ∧ r.All P
theorem TM.get_all {α : Type} {P : Nat → α → Prop} : ∀ (m : TM α) (t : Nat) (v : α), m.All P → m.get t = some v → P t v
  | .nil, t, v, h, hg => by simp [TM.get] at hg
  | .node l k w r, t, v, h, hg => by
    obtain ⟨h1, h2, h3⟩ := h
    simp only [TM.get] at hg
    split at hg
    · rename_i e
      have e := Nat.eq_of_beq_eq_true e
      injection hg with hg
      subst e hg
      exact h2
    · split at hg
      · exact TM.get_all l t v h1 hg
      · exact TM.get_all r t v h3 hg
end
end Go.Proofs.YtfbppkjjdbkedaaGreatDoor.Ref
/-
  The abstract machine: what the statements' readings of memory (trod) are as data.
-/
namespace Go.Proofs.YtfbppkjjdbkedaaGreatDoor.Ref
noncomputable section
open Go
set_option linter.unusedVariables false
variable {X : Cx}

def litD : Lit → D
  | .bool b => .v (.bool b)
  | .int k n => .v (.int k n)
  | .string l => .v (.string ⟨l.toArray⟩)
  | _ => .dead
mutual
/-- A reading as data: slices that nobody turns. -/
def toD {H : Type} (P : Program) (t : TypeId) : DataW H → D
  | .lit l => litD l
  | .nil => match P.underlying t with
    | some (.slice e) => .row false (P.cellsOf e) []
    | _ => .dead
  | .slice es _ => match P.underlying t with
    | some (.slice e) => .row false (P.cellsOf e) (toDs P e es)
    | _ => .dead
  | .agg ps => match P.underlying t with
    | some (.struct fs) => .agg (toDf P (fs.toList.map (·.type)) ps)
    | some (.array _ e) => .agg (toDs P e ps)
    | _ => .dead
  | _ => .dead
def toDs {H : Type} (P : Program) (e : TypeId) : List (DataW H) → List D
  | [] => []
  | d :: ds => toD P e d :: toDs P e ds
def toDf {H : Type} (P : Program) : List TypeId → List (DataW H) → List D
  | t :: ts, d :: ds => toD P t d :: toDf P ts ds
  | _, _ => []
end
theorem toDs_map {H : Type} (P : Program) (e : TypeId) : ∀ l : List (DataW H), toDs P e l = l.map (toD P e)
  | [] => rfl
  | d :: ds => by simp only [toDs, List.map_cons, toDs_map P e ds]

/-- What data of a type is like. -/
inductive Sh (P : Program) : TypeId → D → Prop
  | bool {t : TypeId} (b : Bool) : P.underlying t = some .bool → Sh P t (.v (.bool b))
  | int {t : TypeId} {k : IntKind} (n : Int) : P.underlying t = some (.int k) → k.min ≤ n → n ≤ k.max → Sh P t (.v (.int k n))
  | str {t : TypeId} (s : ByteArray) : P.underlying t = some .string → s.size ≤ reachBytes → Sh P t (.v (.string s))
  | row {t e : TypeId} {ds : List D} : P.underlying t = some (.slice e) → (∀ d ∈ ds, Sh P e d) → ds.length * P.bytesOf e ≤ reachBytes → Sh P t (.row false (P.cellsOf e) ds)
  | agg {t : TypeId} {fs : Array Field} {ds : List D} : P.underlying t = some (.struct fs) → ds.length = fs.size → (∀ (i : Nat) (f : Field) (d : D), fs[i]? = some f → ds[i]? = some d → Sh P f.type d) → Sh P t (.agg ds)
  | arr {t e : TypeId} {n : Nat} {ds : List D} : P.underlying t = some (.array n e) → ds.length = n → (∀ d ∈ ds, Sh P e d) → Sh P t (.agg ds)

def layB (X : Cx) : List Field → Nat → Option Nat
  | [], off => some off
  | f :: fs, off => match X.T f.type with
    | some k => if f.offset = off then layB X fs (off + k.size) else none
    | none => none
/-- The types of a family are bools, integers, strings, and slices, structs and arrays of such. -/
def famB (X : Cx) (G : TypeId → Bool) (t : TypeId) : Bool := match X.T t with
  | none => false
  | some i => match i.desc with
    | .bool => i.size == 1
    | .int _ => i.size == 1
    | .string => i.size == 1
    | .slice e => G e && i.size == 1 && (match X.T e with | some k => decide (0 < k.size) && decide (0 < k.bytes) | none => false)
    | .struct fs => fs.toList.all (fun f => G f.type) && (match layB X fs.toList 0 with | some n => n == i.size | none => false)
    | .array n e => G e && (match X.T e with | some k => n * k.size == i.size | none => false)
    | _ => false
theorem cells_of (hX : X.Ok) {t : TypeId} {i : TI} (h : X.T t = some i) : X.P.cellsOf t = i.size ∧ X.P.bytesOf t = i.bytes := by
  obtain ⟨_, inf, zv, xs, h1, h2, h3, _⟩ := hX.ty t i h
  simp [Program.cellsOf, Program.bytesOf, h1, h2, h3]

def inPs (ps : List MemPlace) : Blk := fun b => ∃ p ∈ ps, p.block = b
theorem mapM_opt {α γ : Type} {f : γ → Option α} : ∀ (xs : List γ) {l : List α}, xs.mapM f = some l → l.length = xs.length ∧ ∀ (i : Nat) (x : γ), xs[i]? = some x → ∃ a, f x = some a ∧ l[i]? = some a
  | [], l, h => by
    simp at h
    subst h
    exact ⟨rfl, fun i x hi => by simp at hi⟩
  | x :: xs, l, h => by
    rw [List.mapM_cons] at h
    cases hx : f x with
    | none => rw [hx] at h; simp at h
    | some a =>
      rw [hx] at h
      cases hr : xs.mapM f with
      | none => rw [hr] at h; simp at h
      | some r =>
        rw [hr] at h
        simp at h
        subst h
        obtain ⟨h1, h2⟩ := mapM_opt xs hr
        refine ⟨by simp [h1], fun i y hi => ?_⟩
        cases i with
        | zero => simp at hi; subst hi; exact ⟨a, hx, rfl⟩
        | succ i => simp at hi; simpa using h2 i y hi
theorem mapM_range {α : Type} {f : Nat → Option α} (n : Nat) {l : List α} (h : (List.range n).mapM f = some l) : l.length = n ∧ ∀ i, i < n → ∃ a, f i = some a ∧ l[i]? = some a := by
  obtain ⟨h1, h2⟩ := mapM_opt _ h
  refine ⟨by simpa using h1, fun i hi => h2 i i (by simp [List.getElem?_range hi])⟩
/-- Cells that are read lie in one block. -/
theorem cells_in {w : World} {base : Nat} {a : Addr} {n : Nat} {cs : List Value} (h : w.cells? base a n = some cs) (hn : 0 < n) : a.spot = none ∧ cs.length = n ∧ ∃ all T fr, w.heap[a.block]? = some (.cells all T fr) ∧ a.off + n ≤ all.size ∧ cs = (all.toList.drop a.off).take n := by
  unfold World.cells? at h
  split at h
  · obtain ⟨h1, h2⟩ := mapM_range n h
    obtain ⟨v0, k0, _⟩ := h2 0 hn
    have key : ∃ all T fr, w.heap[a.block]? = some (.cells all T fr) ∧ a.spot = none := by
      unfold World.cell? at k0
      simp only [Addr.add, if_true] at k0
      split at k0
      · rename_i c T fr hc
        split at k0
        · simp at k0
        · rename_i hs
          exact ⟨c, T, fr, hc, by simpa using hs⟩
      · simp at k0
    obtain ⟨all, T, fr, k1, k2⟩ := key
    have hcell : ∀ i, i < n → all[a.off + i]? = cs[i]? ∧ a.off + i < all.size := by
      intro i hi
      obtain ⟨v, k3, k4⟩ := h2 i hi
      have hb : (a.add i).block = a.block := by unfold Addr.add; split <;> rfl
      have ho : (a.add i).off = a.off + i := by unfold Addr.add; split <;> simp_all
      have hsp : (a.add i).spot = none := by unfold Addr.add; split <;> simp_all
      unfold World.cell? at k3
      rw [hb, k1, ho, hsp] at k3
      simp at k3
      rw [k3, k4]
      exact ⟨rfl, (Array.getElem?_eq_some_iff.1 k3).1⟩
    refine ⟨k2, h1, all, T, fr, k1, by have := (hcell (n - 1) (by omega)).2; omega, ?_⟩
    apply List.ext_getElem?
    intro i
    rw [List.getElem?_take, List.getElem?_drop]
    by_cases hi : i < n
    · rw [if_pos hi, ← (hcell i hi).1]; simp
    · rw [if_neg hi, List.getElem?_eq_none (by omega)]
  · simp at h
theorem relL_of_all {β : Env} {w : World} {R : Blk} {sz : Nat} : ∀ (ds : List D) (cs : List Value), cs.length = ds.length * sz → (∀ (i : Nat) (d : D), ds[i]? = some d → Rel β w R d ((cs.drop (i * sz)).take sz) Blk.emp) → RelL β w R ds cs Blk.emp
  | [], cs, hl, h => by
    simp at hl
    subst hl
    simp [RelL]
  | d :: ds, cs, hl, h => by
    simp only [RelL]
    refine ⟨cs.take sz, cs.drop sz, Blk.emp, Blk.emp, (List.take_append_drop sz cs).symm, ?_, ?_, fun _ x => x, fun _ x => x, fun _ x => x.elim⟩
    · have := h 0 d rfl
      simpa using this
    · refine relL_of_all (sz := sz) ds _ (by simp [hl, Nat.succ_mul]) fun i e hi => ?_
      have := h (i + 1) e (by simpa using hi)
      rw [List.drop_drop]
      rwa [show sz + i * sz = (i + 1) * sz by rw [Nat.succ_mul, Nat.add_comm]]
/-- Cells of fields one behind the other. -/
theorem relL_of_fields {β : Env} {w : World} {R : Blk} (hX : X.Ok) : ∀ (fs : List Field) (ds : List D) (cs : List Value) (off n : Nat), layB X fs off = some n → ds.length = fs.length → cs.length + off = n →
    (∀ (i : Nat) (f : Field) (d : D), fs[i]? = some f → ds[i]? = some d → Rel β w R d ((cs.drop (f.offset - off)).take (X.P.cellsOf f.type)) Blk.emp ∧ off ≤ f.offset) → RelL β w R ds cs Blk.emp
  | [], ds, cs, off, n, hlay, hl, hc, h => by
    simp only [layB, Option.some.injEq] at hlay
    have : ds = [] := by simpa using hl
    subst this
    have : cs = [] := by apply List.eq_nil_of_length_eq_zero; omega
    subst this
    simp [RelL]
  | f :: fs, [], cs, off, n, hlay, hl, hc, h => by simp at hl
  | f :: fs, d :: ds, cs, off, n, hlay, hl, hc, h => by
    simp only [layB] at hlay
    split at hlay
    · rename_i k hk
      split at hlay
      · rename_i ho
        obtain ⟨h1, _⟩ := h 0 f d rfl rfl
        rw [ho, Nat.sub_self, List.drop_zero, (cells_of hX hk).1] at h1
        have hle : ∀ (fs : List Field) (a b : Nat), layB X fs a = some b → a ≤ b := by
          intro fs
          induction fs with
          | nil => intro a b hh; simp only [layB, Option.some.injEq] at hh; omega
          | cons g gs ih =>
            intro a b hh
            simp only [layB] at hh
            split at hh
            · split at hh
              · have := ih _ _ hh; omega
              · simp at hh
            · simp at hh
        have hlen := hle _ _ _ hlay
        simp only [RelL]
        refine ⟨cs.take k.size, cs.drop k.size, Blk.emp, Blk.emp, (List.take_append_drop _ cs).symm, h1, ?_, fun _ x => x, fun _ x => x, fun _ x => x.elim⟩
        have hmono : ∀ (fs : List Field) (a b i : Nat) (g : Field), layB X fs a = some b → fs[i]? = some g → a ≤ g.offset := by
          intro fs
          induction fs with
          | nil => intro a b i g _ hg; simp at hg
          | cons e es ih =>
            intro a b i g hh hg
            simp only [layB] at hh
            split at hh
            · split at hh
              · rename_i he
                cases i with
                | zero => simp at hg; subst hg; omega
                | succ i => simp at hg; have := ih _ _ i g hh hg; omega
              · simp at hh
            · simp at hh
        refine relL_of_fields hX fs ds _ (off + k.size) n hlay (by simpa using hl) (by simp; omega) fun i g e hg he => ?_
        obtain ⟨h2, _⟩ := h (i + 1) g e (by simpa using hg) (by simpa using he)
        have ho2 := hmono fs _ _ i g hlay hg
        refine ⟨?_, ho2⟩
        rw [List.drop_drop, show k.size + (g.offset - (off + k.size)) = g.offset - off by omega]
        exact h2
      · simp at hlay
    · simp at hlay
theorem w_all {H : Type} {P : Program} {e : TypeId} : ∀ {l : List (DataW H)} {n : Nat}, (∀ x ∈ DataW.weightsAll P e l, x ≤ n) → ∀ d ∈ l, ∀ x ∈ d.weights P e, x ≤ n
  | [], n, h, d, hd => by simp at hd
  | a :: l, n, h, d, hd => by
    simp only [DataW.weightsAll, List.mem_append] at h
    rcases List.mem_cons.1 hd with rfl | hd
    · exact fun x hx => h x (.inl hx)
    · exact w_all (fun x hx => h x (.inr hx)) d hd
theorem w_each {H : Type} {P : Program} : ∀ {ts : List TypeId} {l : List (DataW H)} {n : Nat}, (∀ x ∈ DataW.weightsEach P ts l, x ≤ n) → ∀ (i : Nat) t d, ts[i]? = some t → l[i]? = some d → ∀ x ∈ d.weights P t, x ≤ n
  | [], l, n, h, i, t, d, ht, hd => by simp at ht
  | t0 :: ts, [], n, h, i, t, d, ht, hd => by simp at hd
  | t0 :: ts, a :: l, n, h, i, t, d, ht, hd => by
    simp only [DataW.weightsEach, List.mem_append] at h
    cases i with
    | zero => simp at ht hd; subst ht hd; exact fun x hx => h x (.inl hx)
    | succ i => simp at ht hd; exact w_each (fun x hx => h x (.inr hx)) i t d ht hd
theorem toDf_get {H : Type} {P : Program} : ∀ {ts : List TypeId} {l : List (DataW H)}, ts.length = l.length → (toDf P ts l).length = ts.length ∧ ∀ (i : Nat) (x : D), (toDf P ts l)[i]? = some x → ∃ t d, ts[i]? = some t ∧ l[i]? = some d ∧ x = toD P t d
  | [], [], h => ⟨rfl, fun i x hx => by simp [toDf] at hx⟩
  | t :: ts, d :: l, h => by
    simp at h
    obtain ⟨h1, h2⟩ := toDf_get (P := P) h
    refine ⟨by simp [toDf, h1], fun i x hx => ?_⟩
    cases i with
    | zero => simp [toDf] at hx; exact ⟨t, d, rfl, rfl, hx.symm⟩
    | succ i => simp only [toDf, List.getElem?_cons_succ] at hx; simpa using h2 i x hx
theorem litD_nc (l : Lit) : (litD l).nc = 1 := by cases l <;> rfl
theorem inPs_mono {ps qs : List MemPlace} (h : ∀ p ∈ ps, p ∈ qs) : ∀ b, inPs ps b → inPs qs b := fun b ⟨p, h1, h2⟩ => ⟨p, h p h1, h2⟩
/-- Readings of a family's types, as data: it lies in memory, and is what the type says. -/
theorem trod_rel (hX : X.Ok) {G : TypeId → Bool} (hG : ∀ t, G t = true → famB X G t = true) {H : Type} {enc : TypeId × Value → H} {β : Env} {w : World} {base : Nat} {held : Bool} {spare : Nat → Bool} : ∀ (n : Nat) (t : TypeId) (cs : List Value) (d : DataW H) (ps : List MemPlace), G t = true →
    (∀ x ∈ d.weights X.P t, x ≤ reachBytes) → DataW.trod enc X.P w base spare held n t cs = some (d, ps) → Rel β w (inPs ps) (toD X.P t d) cs Blk.emp ∧ Sh X.P t (toD X.P t d) ∧ cs.length = X.P.cellsOf t
  | 0, t, cs, d, ps, ht, hw, h => by simp [DataW.trod] at h
  | n + 1, t, cs, d, ps, ht, hw, h => by
    have hf := hG t ht
    unfold famB at hf
    split at hf
    · cases hf
    rename_i i hi
    have hu := (hX.ty t i hi).1
    obtain ⟨hc1, hc2⟩ := cells_of hX hi
    split at hf
    · -- bool
      rename_i hd
      rw [hd] at hu
      have hs : i.size = 1 := by simpa using hf
      rcases cs with _ | ⟨c, _ | ⟨c2, cs⟩⟩
      · simp [DataW.trod, hu] at h
      · cases c <;> simp [DataW.trod, hu] at h
        obtain ⟨rfl, rfl⟩ := h
        exact ⟨by simp [toD, litD, Rel, scal], .bool _ hu, by simp [hc1, hs]⟩
      · simp [DataW.trod, hu] at h
    · -- int
      rename_i k hd
      rw [hd] at hu
      have hs : i.size = 1 := by simpa using hf
      rcases cs with _ | ⟨c, _ | ⟨c2, cs⟩⟩
      · simp [DataW.trod, hu] at h
      · cases c <;> simp [DataW.trod, hu] at h
        obtain ⟨⟨rfl, hwf⟩, rfl, rfl⟩ := h
        simp [Lit.wf] at hwf
        exact ⟨by simp [toD, litD, Rel, scal], .int _ hu hwf.1 hwf.2, by simp [hc1, hs]⟩
      · simp [DataW.trod, hu] at h
    · -- string
      rename_i hd
      rw [hd] at hu
      have hs : i.size = 1 := by simpa using hf
      rcases cs with _ | ⟨c, _ | ⟨c2, cs⟩⟩
      · simp [DataW.trod, hu] at h
      · cases c <;> simp [DataW.trod, hu] at h
        rename_i s
        obtain ⟨hl, rfl, rfl⟩ := h
        have e : (⟨s.data.toList.toArray⟩ : ByteArray) = s := by cases s; simp
        refine ⟨by simp [toD, litD, Rel, scal, e], ?_, by simp [hc1, hs]⟩
        simp only [toD, litD, e]
        refine .str _ hu ?_
        have := hw s.data.toList.length (by simp [DataW.weights])
        rw [Array.length_toList] at this
        exact this
      · simp [DataW.trod, hu] at h
    · -- slice
      rename_i e hd
      rw [hd] at hu
      simp only [Bool.and_eq_true] at hf
      have hs : i.size = 1 := by simpa using hf.1.2
      have hGe := hf.1.1
      obtain ⟨hpos, hbpos⟩ : 0 < X.P.cellsOf e ∧ 0 < X.P.bytesOf e := by
        have := hf.2
        split at this
        · rename_i k hk; rw [(cells_of hX hk).1, (cells_of hX hk).2]; simpa using this
        · cases this
      rcases cs with _ | ⟨c, _ | ⟨c2, cs⟩⟩
      · simp [DataW.trod, hu] at h
      · cases c with
        | slice a len cap =>
          cases a with
          | none =>
            have hz : len = 0 ∧ cap = 0 := by
              rcases len with _ | len <;> rcases cap with _ | cap <;> simp [DataW.trod, hu] at h ⊢
            obtain ⟨rfl, rfl⟩ := hz
            simp [DataW.trod, hu] at h
            obtain ⟨rfl, rfl⟩ := h
            simp only [toD, hu]
            refine ⟨?_, .row hu (fun d hd => by simp at hd) (by simp), by simp [hc1, hs]⟩
            simp only [Rel]
            exact .inl ⟨trivial, none, 0, rfl, fun _ => ⟨trivial, rfl⟩⟩
          | some a =>
            simp only [DataW.trod, hu] at h
            split at h
            · rename_i hc
              simp only [Option.bind_eq_some_iff, Option.map_eq_some_iff] at h
              obtain ⟨elems, h1, rest, h2, h3⟩ := h
              simp only [Prod.mk.injEq] at h3
              obtain ⟨rfl, rfl⟩ := h3
              obtain ⟨l1, l2⟩ := mapM_range len h1
              have hel : ∀ i, i < len → ∃ x, elems[i]? = some x ∧ ∃ cs, w.cells? base (a.add (i * X.P.cellsOf e)) (X.P.cellsOf e) = some cs ∧ DataW.trod enc X.P w base spare held n e cs = some x := by
                intro i hi
                obtain ⟨x, k1, k2⟩ := l2 i hi
                simp only [Option.bind_eq_some_iff] at k1
                obtain ⟨cs, k1, k3⟩ := k1
                exact ⟨x, k2, cs, k1, k3⟩
              have hwe : ∀ x ∈ elems, ∀ z ∈ x.1.weights X.P e, z ≤ reachBytes := fun x hx z hz => by
                refine hw z ?_
                simp only [DataW.weights, hu, List.mem_cons, List.mem_append]
                refine .inr (.inl ?_)
                have : ∀ (l : List (DataW H × List MemPlace)), x ∈ l → z ∈ DataW.weightsAll X.P e (l.map (·.1)) := by
                  intro l
                  induction l with
                  | nil => intro h; simp at h
                  | cons y l ih =>
                    intro h
                    simp only [List.map_cons, DataW.weightsAll, List.mem_append]
                    rcases List.mem_cons.1 h with rfl | h
                    · exact .inl hz
                    · exact .inr (ih h)
                exact this elems hx
              have hlen : len * X.P.bytesOf e ≤ reachBytes := by
                have := hw ((elems.map (·.1)).length + (rest.map (·.1)).length |>.mul (X.P.bytesOf e)) (by simp only [DataW.weights, hu, List.mem_cons]; exact .inl rfl)
                simp only [List.length_map, l1] at this
                exact Nat.le_trans (Nat.mul_le_mul_right _ (Nat.le_add_right len rest.length)) this
              have hds : toD X.P t (.slice (elems.map (·.1)) (rest.map (·.1))) = .row false (X.P.cellsOf e) (elems.map fun x => toD X.P e x.1) := by
                simp only [toD, hu, toDs_map, List.map_map]; rfl
              rw [hds]
              have hall : ∀ x ∈ elems, ∃ cs, Rel β w (inPs x.2) (toD X.P e x.1) cs Blk.emp ∧ Sh X.P e (toD X.P e x.1) ∧ cs.length = X.P.cellsOf e := by
                intro x hx
                obtain ⟨i, hi, hix⟩ := List.getElem_of_mem hx
                obtain ⟨x', k1, cs, k2, k3⟩ := hel i (by omega)
                rw [List.getElem?_eq_getElem hi, hix] at k1
                injection k1 with k1
                subst k1
                obtain ⟨m1, m2, m3⟩ := trod_rel hX hG n e cs x.1 x.2 hGe (hwe x hx) k3
                exact ⟨cs, m1, m2, m3⟩
              refine ⟨?_, .row hu (fun d hd => ?_) (by simpa [l1] using hlen), by simp [hc1, hs]⟩
              · by_cases h0 : len = 0
                · subst h0
                  have : elems = [] := by simpa using l1
                  subst this
                  simp only [Rel, List.map_nil]
                  exact .inl ⟨trivial, some a, cap, rfl, fun e => by cases e⟩
                · obtain ⟨x0, k1, cs0, k2, k3⟩ := hel 0 (by omega)
                  obtain ⟨s1, s2, all, T, fr, s3, s4, s5⟩ := cells_in k2 hpos
                  simp only [Nat.zero_mul, Addr.add, if_true] at s1 s3 s4 s5
                  have ha : a = ⟨a.block, a.off, none⟩ := by cases a; simp at s1; simp [s1]
                  have hsub : ∀ i, i < len → ∃ x, elems[i]? = some x ∧ a.off + (i + 1) * X.P.cellsOf e ≤ all.size ∧ DataW.trod enc X.P w base spare held n e ((all.toList.drop (a.off + i * X.P.cellsOf e)).take (X.P.cellsOf e)) = some x := by
                    intro i hi
                    obtain ⟨x, m1, cs, m2, m3⟩ := hel i hi
                    obtain ⟨p1, p2, all', T', fr', p3, p4, p5⟩ := cells_in m2 hpos
                    have hb : (a.add (i * X.P.cellsOf e)).block = a.block := by unfold Addr.add; split <;> rfl
                    have ho : (a.add (i * X.P.cellsOf e)).off = a.off + i * X.P.cellsOf e := by
                      unfold Addr.add
                      split
                      · rename_i hz; rw [hz]; rfl
                      · rfl
                    rw [hb, s3] at p3
                    injection p3 with p3
                    injection p3 with p3 _ _
                    subst p3
                    rw [ho] at p4 p5
                    subst p5
                    exact ⟨x, m1, by rw [Nat.succ_mul]; omega, m3⟩
                  have hend : a.off + len * X.P.cellsOf e ≤ all.size := by
                    obtain ⟨_, _, q, _⟩ := hsub (len - 1) (by omega)
                    rwa [show len - 1 + 1 = len by omega] at q
                  simp only [Rel]
                  refine .inr ⟨a.block, a.off, len, cap, all, T, fr, by rw [← ha], ⟨.cell a.block a.off, ?_, rfl⟩, s3, by rw [List.length_map, l1], ⟨hc.2.1, ?_⟩, hend, ?_, ?_⟩
                  · refine List.mem_append.2 (.inl ?_)
                    simp only [MemPlace.row, List.mem_map, List.mem_range]
                    exact ⟨0, Nat.mul_pos (by omega) hpos, rfl⟩
                  · simp only [List.length_map, l1]
                    have h5 : len * 1 ≤ len * X.P.bytesOf e := Nat.mul_le_mul_left _ hbpos
                    have h6 : reachBytes ≤ lim := by decide
                    omega
                  · intro d hd
                    simp only [List.mem_map] at hd
                    obtain ⟨x, hx, rfl⟩ := hd
                    obtain ⟨cs, m1, m2, m3⟩ := hall x hx
                    rw [← Rel.len _ _ _ m1, m3]
                  · refine relL_of_all (sz := X.P.cellsOf e) _ _ (by simp [l1]; omega) fun i d hi => ?_
                    simp only [List.getElem?_map, Option.map_eq_some_iff] at hi
                    obtain ⟨x, hx, rfl⟩ := hi
                    have hil : i < len := by rw [← l1]; exact (List.getElem?_eq_some_iff.1 hx).1
                    obtain ⟨x', m1, m2, m3⟩ := hsub i hil
                    rw [hx] at m1
                    injection m1 with m1
                    subst m1
                    have hxm := List.mem_of_getElem? hx
                    obtain ⟨q1, _, _⟩ := trod_rel hX hG n e _ x.1 x.2 hGe (hwe x hxm) m3
                    have hsm : i * X.P.cellsOf e + X.P.cellsOf e ≤ len * X.P.cellsOf e := by rw [← Nat.succ_mul]; exact Nat.mul_le_mul_right _ hil
                    rw [List.drop_take, List.drop_drop, List.take_take, show min (X.P.cellsOf e) (len * X.P.cellsOf e - i * X.P.cellsOf e) = X.P.cellsOf e by omega]
                    refine q1.more (inPs_mono fun p hp => List.mem_append.2 (.inr ?_))
                    exact List.mem_flatMap.2 ⟨x, List.mem_append.2 (.inl hxm), hp⟩
              · simp only [List.mem_map] at hd
                obtain ⟨x, hx, rfl⟩ := hd
                obtain ⟨cs, m1, m2, m3⟩ := hall x hx
                exact m2
            · simp at h
        | _ => simp [DataW.trod, hu] at h
      · simp [DataW.trod, hu] at h
    · -- struct
      rename_i fs hd
      rw [hd] at hu
      simp only [Bool.and_eq_true] at hf
      obtain ⟨hf1, hf2⟩ := hf
      have hlay : layB X fs.toList 0 = some i.size := by
        split at hf2
        · rename_i m hm; rw [hm]; simpa using hf2
        · cases hf2
      have hstep : DataW.trod enc X.P w base spare held (n + 1) t cs = if cs.length = X.P.cellsOf t then (fs.toList.mapM fun f => DataW.trod enc X.P w base spare held n f.type ((cs.drop f.offset).take (X.P.cellsOf f.type))).map fun xs => (.agg (xs.map (·.1)), xs.flatMap (·.2)) else none := by
        simp only [DataW.trod, hu]
      rw [hstep] at h
      split at h
      · rename_i hcl
        simp only [Option.map_eq_some_iff] at h
        obtain ⟨xs, h1, h2⟩ := h
        simp only [Prod.mk.injEq] at h2
        obtain ⟨rfl, rfl⟩ := h2
        obtain ⟨l1, l2⟩ := mapM_opt _ h1
        have hds : toD X.P t (.agg (xs.map (·.1))) = .agg (toDf X.P (fs.toList.map (·.type)) (xs.map (·.1))) := by simp only [toD, hu]
        rw [hds]
        obtain ⟨t1, t2⟩ := toDf_get (P := X.P) (ts := fs.toList.map (·.type)) (l := xs.map (·.1)) (by simp [l1])
        have key : ∀ (j : Nat) (f : Field) (dd : D), fs.toList[j]? = some f → (toDf X.P (fs.toList.map (·.type)) (xs.map (·.1)))[j]? = some dd → Rel β w (inPs (xs.flatMap (·.2))) dd ((cs.drop f.offset).take (X.P.cellsOf f.type)) Blk.emp ∧ Sh X.P f.type dd := by
          intro j f dd hj hdd
          obtain ⟨x, m1, m2⟩ := l2 j f hj
          obtain ⟨tt, d0, m3, m4, rfl⟩ := t2 j dd hdd
          simp only [List.getElem?_map, hj, Option.map_some, Option.some.injEq] at m3
          subst m3
          simp only [List.getElem?_map, m2, Option.map_some, Option.some.injEq] at m4
          subst m4
          have hGf : G f.type = true := List.all_eq_true.1 hf1 f (List.mem_of_getElem? hj)
          have hwx : ∀ z ∈ x.1.weights X.P f.type, z ≤ reachBytes := fun z hz => by
            refine w_each (ts := fs.toList.map (·.type)) (l := xs.map (·.1)) (fun y hy => hw y (by simp only [DataW.weights, hu]; exact hy)) j f.type x.1 (by simp [hj]) (by simp [m2]) z hz
          obtain ⟨q1, q2, _⟩ := trod_rel hX hG n f.type _ x.1 x.2 hGf hwx m1
          refine ⟨q1.more (inPs_mono fun p hp => List.mem_flatMap.2 ⟨x, List.mem_of_getElem? m2, hp⟩), q2⟩
        refine ⟨?_, .agg hu (by rw [t1]; simp) (fun j f dd hj hdd => (key j f dd (by rw [Array.getElem?_toList]; exact hj) hdd).2), hcl⟩
        simp only [Rel]
        refine relL_of_fields hX fs.toList _ cs 0 i.size hlay (by rw [t1]; simp) (by rw [hcl, hc1]; rfl) fun j f dd hj hdd => ⟨?_, Nat.zero_le _⟩
        rw [Nat.sub_zero]
        exact (key j f dd hj hdd).1
      · simp at h
    · -- array
      rename_i m e hd
      rw [hd] at hu
      simp only [Bool.and_eq_true] at hf
      have hGe := hf.1
      have hsz : m * X.P.cellsOf e = X.P.cellsOf t := by
        have := hf.2
        split at this
        · rename_i k hk; rw [(cells_of hX hk).1, hc1]; simpa using this
        · cases this
      have hstep : DataW.trod enc X.P w base spare held (n + 1) t cs = if cs.length = X.P.cellsOf t then ((List.range m).mapM fun i => DataW.trod enc X.P w base spare held n e ((cs.drop (i * X.P.cellsOf e)).take (X.P.cellsOf e))).map fun xs => (.agg (xs.map (·.1)), xs.flatMap (·.2)) else none := by
        simp only [DataW.trod, hu]
      rw [hstep] at h
      split at h
      · rename_i hcl
        simp only [Option.map_eq_some_iff] at h
        obtain ⟨xs, h1, h2⟩ := h
        simp only [Prod.mk.injEq] at h2
        obtain ⟨rfl, rfl⟩ := h2
        obtain ⟨l1, l2⟩ := mapM_range m h1
        have hds : toD X.P t (.agg (xs.map (·.1))) = .agg (xs.map fun x => toD X.P e x.1) := by simp only [toD, hu, toDs_map, List.map_map]; rfl
        rw [hds]
        have key : ∀ (j : Nat) x, xs[j]? = some x → Rel β w (inPs (xs.flatMap (·.2))) (toD X.P e x.1) ((cs.drop (j * X.P.cellsOf e)).take (X.P.cellsOf e)) Blk.emp ∧ Sh X.P e (toD X.P e x.1) := by
          intro j x hx
          obtain ⟨x', m1, m2⟩ := l2 j (by rw [← l1]; exact (List.getElem?_eq_some_iff.1 hx).1)
          rw [hx] at m2
          injection m2 with m2
          subst m2
          have hwx : ∀ z ∈ x.1.weights X.P e, z ≤ reachBytes := w_all (l := xs.map (·.1)) (fun y hy => hw y (by simp only [DataW.weights, hu]; exact hy)) x.1 (List.mem_map_of_mem (List.mem_of_getElem? hx))
          obtain ⟨q1, q2, _⟩ := trod_rel hX hG n e _ x.1 x.2 hGe hwx m1
          exact ⟨q1.more (inPs_mono fun p hp => List.mem_flatMap.2 ⟨x, List.mem_of_getElem? hx, hp⟩), q2⟩
        refine ⟨?_, .arr hu (by simp [l1]) (fun d hd => ?_), hcl⟩
        · simp only [Rel]
          refine relL_of_all (sz := X.P.cellsOf e) _ _ (by simp [l1, hsz, hcl]) fun j d hj => ?_
          simp only [List.getElem?_map, Option.map_eq_some_iff] at hj
          obtain ⟨x, hx, rfl⟩ := hj
          exact (key j x hx).1
        · simp only [List.mem_map] at hd
          obtain ⟨x, hx, rfl⟩ := hd
          obtain ⟨j, hj, hjx⟩ := List.getElem_of_mem hx
          exact (key j x (by rw [List.getElem?_eq_getElem hj, hjx])).2
      · simp at h
    · cases hf
end
end Go.Proofs.YtfbppkjjdbkedaaGreatDoor.Ref
/-
  The abstract machine: arguments and package-level variables as the rows tell them; what a row asks behind the call.
-/
namespace Go.Proofs.YtfbppkjjdbkedaaGreatDoor.Ref
noncomputable section
open Go Go.RowKit
set_option linter.unusedVariables false
variable {X : Cx}

theorem nonagg_packs {d : D} {v : Value} (h : ∀ ds, d ≠ .agg ds) : packs d [v] v := by cases d <;> simp [packs] at h ⊢
/-- An argument. -/
theorem open_arg (hX : X.Ok) {G : TypeId → Bool} (hG : ∀ t, G t = true → famB X G t = true) {H : Type} {enc : TypeId × Value → H} {β : Env} {w : World} {base b0 : Nat} {r : Reach} {t : TypeId} {v : Value} {d : DataW H} {ps : List MemPlace} (ht : G t = true)
    (hok : Value.okWide X.P w r b0 t v) (hw : ∀ x ∈ d.weights X.P t, x ≤ reachBytes) (h : DataW.Trod enc X.P w base (fun _ => true) true t v d ps) : RelV β w (inPs ps) (toD X.P t d) v Blk.emp ∧ Sh X.P t (toD X.P t d) := by
  obtain ⟨n, hn⟩ := h
  obtain ⟨h1, h2, h3⟩ := trod_rel (β := β) hX hG n t _ d ps ht hw hn
  refine ⟨?_, h2⟩
  have hpk : packs (toD X.P t d) v.cells.toList v := by
    have hf := hG t ht
    unfold famB at hf
    split at hf
    · cases hf
    rename_i i hi
    have hu := (hX.ty t i hi).1
    have one : (∀ cs, v ≠ .agg cs) → (∀ ds, toD X.P t d ≠ .agg ds) → packs (toD X.P t d) v.cells.toList v := by
      intro ha hd
      have : v.cells.toList = [v] := by cases v <;> first | rfl | exact absurd rfl (ha _)
      rw [this]
      exact nonagg_packs hd
    have many : (∃ cs, v = .agg cs) → packs (toD X.P t d) v.cells.toList v ∨ ∀ ds, toD X.P t d ≠ .agg ds := by
      rintro ⟨cs, rfl⟩
      by_cases hd : ∃ ds, toD X.P t d = .agg ds
      · obtain ⟨ds, hd⟩ := hd
        rw [hd]
        exact .inl (by simp [packs, Value.cells])
      · exact .inr fun ds e => hd ⟨ds, e⟩
    have notagg : (∀ ms, X.P.underlying t ≠ some (.struct ms)) → (∀ m e, X.P.underlying t ≠ some (.array m e)) → ∀ ds, toD X.P t d ≠ .agg ds := by
      intro q1 q2 ds hds
      rw [hds] at h2
      cases h2 with
      | agg hq _ _ => exact q1 _ hq
      | arr hq _ _ => exact q2 _ _ hq
    split at hf
    · rename_i hd; rw [hd] at hu
      obtain ⟨b, rfl⟩ := WideShapes.okWide_bool hu hok
      exact one (fun _ e => by cases e) (notagg (fun _ e => by rw [hu] at e; cases e) (fun _ _ e => by rw [hu] at e; cases e))
    · rename_i hd; rw [hd] at hu
      obtain ⟨b, rfl⟩ := WideShapes.okWide_int hu hok
      exact one (fun _ e => by cases e) (notagg (fun _ e => by rw [hu] at e; cases e) (fun _ _ e => by rw [hu] at e; cases e))
    · rename_i hd; rw [hd] at hu
      obtain ⟨b, rfl⟩ := WideShapes.okWide_string hu hok
      exact one (fun _ e => by cases e) (notagg (fun _ e => by rw [hu] at e; cases e) (fun _ _ e => by rw [hu] at e; cases e))
    · rename_i hd; rw [hd] at hu
      obtain ⟨a, l, c, rfl⟩ := WideShapes.okWide_slice hu hok
      exact one (fun _ e => by cases e) (notagg (fun _ e => by rw [hu] at e; cases e) (fun _ _ e => by rw [hu] at e; cases e))
    · rename_i fs hd; rw [hd] at hu
      simp only [Value.okWide, hu] at hok
      obtain ⟨cs, rfl, _⟩ := hok
      rcases many ⟨cs, rfl⟩ with hp | hp
      · exact hp
      · generalize toD X.P t d = z at h2 hp
        cases h2 <;> first | exact absurd rfl (hp _) | (rename_i q _ _; rw [hu] at q; cases q) | (rename_i q _; rw [hu] at q; cases q) | (rename_i q; rw [hu] at q; cases q)
    · rename_i m e hd; rw [hd] at hu
      simp only [Value.okWide, hu] at hok
      obtain ⟨cs, rfl, _⟩ := hok
      rcases many ⟨cs, rfl⟩ with hp | hp
      · exact hp
      · generalize toD X.P t d = z at h2 hp
        cases h2 <;> first | exact absurd rfl (hp _) | (rename_i q _ _; rw [hu] at q; cases q) | (rename_i q _; rw [hu] at q; cases q) | (rename_i q; rw [hu] at q; cases q)
    · cases hf
  exact RelV.mk hpk h1
/-- All arguments. -/
theorem open_args (hX : X.Ok) {G : TypeId → Bool} (hG : ∀ t, G t = true → famB X G t = true) {H : Type} {enc : TypeId × Value → H} {β : Env} {w : World} {base b0 : Nat} {r : Reach} : ∀ (ts : List TypeId) (vs : List Value) (ds : List (DataW H)) (ps : List MemPlace), (∀ t ∈ ts, G t = true) →
    (∀ (j : Nat) t v, ts[j]? = some t → vs[j]? = some v → Value.okWide X.P w r b0 t v) → (∀ x ∈ DataW.weightsEach X.P ts ds, x ≤ reachBytes) → DataW.TrodAll enc X.P w base (fun _ => true) true ts vs ds ps →
    RelVV β w (inPs ps) (toDf X.P ts ds) vs Blk.emp ∧ (toDf X.P ts ds).length = ts.length ∧ (∀ (j : Nat) t x, ts[j]? = some t → (toDf X.P ts ds)[j]? = some x → Sh X.P t x) ∧ ds.length = ts.length
  | [], [], [], ps, ht, hok, hw, h => ⟨by simp [toDf, RelVV], rfl, fun j t x hj => by simp at hj, rfl⟩
  | [], _ :: _, _, ps, ht, hok, hw, h => by simp [DataW.TrodAll] at h
  | [], [], _ :: _, ps, ht, hok, hw, h => by simp [DataW.TrodAll] at h
  | _ :: _, [], _, ps, ht, hok, hw, h => by simp [DataW.TrodAll] at h
  | _ :: _, _ :: _, [], ps, ht, hok, hw, h => by simp [DataW.TrodAll] at h
  | t :: ts, v :: vs, d :: ds, ps, ht, hok, hw, h => by
    obtain ⟨p, q, h1, h2, rfl⟩ := h
    simp only [DataW.weightsEach, List.mem_append] at hw
    obtain ⟨a1, a2⟩ := open_arg (β := β) hX hG (ht t (by simp)) (hok 0 t v rfl rfl) (fun x hx => hw x (.inl hx)) h1
    obtain ⟨b1, b2, b3, b4⟩ := open_args (β := β) hX hG ts vs ds q (fun t h => ht t (by simp [h])) (fun j t v h1 h2 => hok (j + 1) t v (by simpa using h1) (by simpa using h2)) (fun x hx => hw x (.inr hx)) h2
    refine ⟨?_, by simp [toDf, b2], ?_, by simp [b4]⟩
    · simp only [toDf, RelVV]
      refine ⟨v, vs, Blk.emp, Blk.emp, rfl, a1.up (fun _ _ x => x) (inPs_mono fun p hp => List.mem_append.2 (.inl hp)) (fun _ _ => rfl) (fun _ _ => rfl) (fun _ x => x), ?_, fun _ x => x, fun _ x => x, fun _ x => x.elim⟩
      have : ∀ (ds : List D) (cs : List Value), RelVV β w (inPs q) ds cs Blk.emp → RelVV β w (inPs (p ++ q)) ds cs Blk.emp := by
        intro ds
        induction ds with
        | nil => intro cs h; simpa [RelVV] using h
        | cons e es ih =>
          intro cs h
          simp only [RelVV] at h ⊢
          obtain ⟨c, cs', O1, O2, k1, k2, k3, k4, k5, k6⟩ := h
          have k3' : RelVV β w (inPs (p ++ q)) es cs' Blk.emp ∨ True := .inr trivial
          have up2 : ∀ (ds : List D) (cs : List Value) (O : Blk), RelVV β w (inPs q) ds cs O → RelVV β w (inPs (p ++ q)) ds cs O := by
            intro ds
            induction ds with
            | nil => intro cs O h; simpa [RelVV] using h
            | cons e es ih2 =>
              intro cs O h
              simp only [RelVV] at h ⊢
              obtain ⟨c, cs', O1, O2, k1, k2, k3, k4, k5, k6⟩ := h
              exact ⟨c, cs', O1, O2, k1, k2.up (fun _ _ x => x) (inPs_mono fun p hp => List.mem_append.2 (.inr hp)) (fun _ _ => rfl) (fun _ _ => rfl) (fun _ x => x), ih2 cs' O2 k3, k4, k5, k6⟩
          exact ⟨c, cs', O1, O2, k1, k2.up (fun _ _ x => x) (inPs_mono fun p hp => List.mem_append.2 (.inr hp)) (fun _ _ => rfl) (fun _ _ => rfl) (fun _ x => x), up2 es cs' O2 k3, k4, k5, k6⟩
      exact this _ _ b1
    · intro j t' x hj hx
      cases j with
      | zero => simp at hj; subst hj; simp [toDf] at hx; subst hx; exact a2
      | succ j => simp at hj; simp only [toDf, List.getElem?_cons_succ] at hx; exact b3 j t' x hj hx

/-- A package-level variable that the row lists. -/
theorem laid_glob (hX : X.Ok) {G : TypeId → Bool} (hG : ∀ t, G t = true → famB X G t = true) {β : Env} {w : World} : ∀ {laid : List (String × DataW Unit)} {ps : List MemPlace}, DataW.LaidVars X.P w laid ps → ∀ (n : String) (d : DataW Unit), (n, d) ∈ laid → ∀ g t, X.P.globalNamed n = some g → (X.P.globals[g]?).map (·.type) = some t → G t = true →
    (∀ x ∈ d.weights X.P t, x ≤ reachBytes) → Gl β w (fun b => b < w.heap.size) g (toD X.P t d)
  | [], ps, h, n, d, hm, g, t, hg, ht, hGt, hw => by simp at hm
  | (n', d') :: r, ps, h, n, d, hm, g, t, hg, ht, hGt, hw => by
    obtain ⟨g', t', cs, fuel, p, q, h1, h2, h3, h4, h5, rfl⟩ := h
    rcases List.mem_cons.1 hm with e | hm
    · injection e with e1 e2
      subst e1 e2
      rw [hg] at h1
      injection h1 with h1
      subst h1
      rw [ht] at h2
      injection h2 with h2
      subst h2
      obtain ⟨k1, k2, k3⟩ := trod_rel (β := β) hX hG fuel t _ d p hGt hw h4
      have hb : ∃ T fr, w.heap[g]? = some (.cells cs T fr) := by
        unfold World.var? at h3
        rw [hg] at h3
        simp only [Option.bind_some] at h3
        split at h3
        · rename_i c T fr hc
          injection h3 with h3
          subst h3
          exact ⟨T, fr, hc⟩
        · simp at h3
      obtain ⟨T, fr, hb⟩ := hb
      have hnc := Rel.len _ _ _ k1
      refine ⟨?_, cs, T, fr, hb, by rw [← hnc]; simp⟩
      simp only [Rel]
      refine ⟨g, 0, cs, T, fr, rfl, (Array.getElem?_eq_some_iff.1 hb).1, hb, by rw [← hnc]; simp, ?_⟩
      rw [← hnc, List.drop_zero, List.take_length]
      refine k1.more fun b ⟨x, hx, e⟩ => ?_
      rw [← e]
      exact DataW.trod_lt _ _ _ _ h4 x hx
    · exact laid_glob hX hG h5 n d hm g t hg ht hGt hw

/-- What a row asks behind the call: its arguments read as they did. -/
theorem args_stay {H : Type} {enc : TypeId × Value → H} {P : Program} (hl : laidOutB P = true) {W W' : World} (hb : Below W.heap.size W W') : ∀ {ts : List TypeId} {vs : List Value} {ds : List (DataW H)} {ps : List MemPlace}, (ts.all fun t => P.readableRec t && decide (t < P.types.size)) = true →
    DataW.TrodAll enc P W 0 (fun _ => true) true ts vs ds ps → DataW.TrodAll enc P W' 0 (fun b => decide (b < W.heap.size)) true ts vs ds ps
  | [], [], [], ps, hr, h => h
  | [], _ :: _, _, ps, hr, h => by simp [DataW.TrodAll] at h
  | [], [], _ :: _, ps, hr, h => by simp [DataW.TrodAll] at h
  | _ :: _, [], _, ps, hr, h => by simp [DataW.TrodAll] at h
  | _ :: _, _ :: _, [], ps, hr, h => by simp [DataW.TrodAll] at h
  | t :: ts, v :: vs, d :: ds, ps, hr, h => by
    obtain ⟨p, q, h1, h2, rfl⟩ := h
    simp only [List.all_cons, Bool.and_eq_true, decide_eq_true_eq] at hr
    refine ⟨p, q, Below.trod hl hr.1.1 hr.1.2 h1 hb ?_, args_stay hl hb hr.2 h2, rfl⟩
    obtain ⟨m, hm⟩ := h1
    exact DataW.trod_lt m _ _ _ hm
/-- A law's call, out of its contract. -/
theorem calls_of_ct {f : FuncId} {dargs : List D} {cargs : List Value} {W : World} (h : CT X f dargs [] (fun r b => r = .ret (.v (.bool true)) ∧ b = [])) (ha : RelVV (fun _ => none) W (fun b => b < W.heap.size) dargs cargs Blk.emp)
    (hg : ∀ i d, X.G i = some d → Gl (fun _ => none) W (fun b => b < W.heap.size) i d) : Calls X.P f cargs.toArray W fun e W' => e = .returned (.bool true) ∧ Below W.heap.size W W' := by
  refine (h (fun _ => none) W (fun b => b < W.heap.size) Blk.emp (fun _ => Blk.emp) cargs ha (fun b d hb => by simp at hb) (fun _ _ _ _ hx => hx.elim) (fun _ _ hx => hx.elim) (fun _ _ hx => hx.elim) (fun _ _ _ hx => hx.elim) (fun _ hx => hx) (fun _ hx => hx.elim) (fun _ _ hx => hx.elim) hg (fun _ _ => rfl)).mono ?_
  rintro e W' ⟨r, bs, R', Or, Ob', ⟨rfl, rfl⟩, hb⟩
  refine ⟨?_, hb.fr.os, hb.fr.tape, hb.fr.output, hb.fr.size, fun k hk => hb.fr.block k hk fun hh => hh.elim (fun hh => hh.elim) fun ⟨_, hh⟩ => hh.elim⟩
  cases e with
  | returned v =>
    obtain ⟨xs, h1, h2⟩ := (show RelV _ W' R' (.v (.bool true)) v Or from hb.ret)
    simp only [packs] at h1
    simp only [Rel] at h2
    rw [h1] at h2
    have h2 := h2.2
    injection h2 with h2
    rw [h2]
  | panicked c => exact hb.ret.elim
  | outgrown => exact hb.ret.elim
theorem relVV_more {β : Env} {w : World} {R R' : Blk} (hR : ∀ x, R x → R' x) : ∀ (ds : List D) (cs : List Value) (O : Blk), RelVV β w R ds cs O → RelVV β w R' ds cs O
  | [], cs, O, h => by simpa [RelVV] using h
  | e :: es, cs, O, h => by
    simp only [RelVV] at h ⊢
    obtain ⟨c, cs', O1, O2, k1, k2, k3, k4, k5, k6⟩ := h
    exact ⟨c, cs', O1, O2, k1, k2.up (fun _ _ x => x) hR (fun _ _ => rfl) (fun _ _ => rfl) (fun _ x => x), relVV_more hR es cs' O2 k3, k4, k5, k6⟩
def memN (t : Nat) : List Nat → Bool
  | [] => false
  | s :: l => match Nat.beq s t with
    | true => true
    | false => memN t l
theorem memN_mem {t : Nat} : ∀ {l : List Nat}, memN t l = true → t ∈ l
  | [], h => by simp [memN] at h
  | s :: l, h => by
    simp only [memN] at h
    split at h
    · rename_i e; have := Nat.eq_of_beq_eq_true e; simp [this]
    · exact List.mem_cons_of_mem _ (memN_mem h)
theorem fam_of {X : Cx} {l : List Nat} (h : l.all (fun t => famB X (fun t => memN t l) t) = true) : ∀ t, (fun t => memN t l) t = true → famB X (fun t => memN t l) t = true := fun t ht => List.all_eq_true.1 h t (memN_mem ht)
theorem sh_int {P : Program} {t : TypeId} {k : IntKind} {x : D} (hu : P.underlying t = some (.int k)) (h : Sh P t x) : ∃ n, x = .v (.int k n) ∧ k.min ≤ n ∧ n ≤ k.max := by
  cases h with
  | int n h1 h2 h3 => rw [hu] at h1; injection h1 with h1; injection h1 with h1; subst h1; exact ⟨n, rfl, h2, h3⟩
  | bool b h1 => rw [hu] at h1; cases h1
  | str s h1 _ => rw [hu] at h1; cases h1
  | row h1 _ _ => rw [hu] at h1; cases h1
  | agg h1 _ _ => rw [hu] at h1; cases h1
  | arr h1 _ _ => rw [hu] at h1; cases h1
theorem sh_u8 {P : Program} {t : TypeId} {x : D} (hu : P.underlying t = some (.int .u8)) (h : Sh P t x) : ∃ n, x = .v (.int .u8 n) ∧ 0 ≤ n ∧ n < 256 := by
  obtain ⟨n, e, h1, h2⟩ := sh_int hu h
  refine ⟨n, e, by simpa [IntKind.min, IntKind.signed] using h1, ?_⟩
  simp [IntKind.max, IntKind.signed, IntKind.bits] at h2
  omega
theorem sh_str {P : Program} {t : TypeId} {x : D} (hu : P.underlying t = some .string) (h : Sh P t x) : ∃ s, x = .v (.string s) ∧ s.size ≤ reachBytes := by
  cases h with
  | int n h1 h2 h3 => rw [hu] at h1; cases h1
  | bool b h1 => rw [hu] at h1; cases h1
  | str s h1 h2 => exact ⟨s, rfl, h2⟩
  | row h1 _ _ => rw [hu] at h1; cases h1
  | agg h1 _ _ => rw [hu] at h1; cases h1
  | arr h1 _ _ => rw [hu] at h1; cases h1
theorem sh_row {P : Program} {t e : TypeId} {x : D} (hu : P.underlying t = some (.slice e)) (h : Sh P t x) : ∃ ds, x = .row false (P.cellsOf e) ds ∧ (∀ d ∈ ds, Sh P e d) ∧ ds.length * P.bytesOf e ≤ reachBytes := by
  cases h with
  | int n h1 h2 h3 => rw [hu] at h1; cases h1
  | bool b h1 => rw [hu] at h1; cases h1
  | str s h1 h2 => rw [hu] at h1; cases h1
  | row h1 h2 h3 => rw [hu] at h1; injection h1 with h1; injection h1 with h1; subst h1; exact ⟨_, rfl, h2, h3⟩
  | agg h1 _ _ => rw [hu] at h1; cases h1
  | arr h1 _ _ => rw [hu] at h1; cases h1
theorem sh_agg {P : Program} {t : TypeId} {fs : Array Field} {x : D} (hu : P.underlying t = some (.struct fs)) (h : Sh P t x) : ∃ ds, x = .agg ds ∧ ds.length = fs.size ∧ ∀ (i : Nat) (f : Field) (d : D), fs[i]? = some f → ds[i]? = some d → Sh P f.type d := by
  cases h with
  | int n h1 h2 h3 => rw [hu] at h1; cases h1
  | bool b h1 => rw [hu] at h1; cases h1
  | str s h1 h2 => rw [hu] at h1; cases h1
  | row h1 _ _ => rw [hu] at h1; cases h1
  | agg h1 h2 h3 => rw [hu] at h1; injection h1 with h1; injection h1 with h1; subst h1; exact ⟨_, rfl, h2, h3⟩
  | arr h1 _ _ => rw [hu] at h1; cases h1
end
end Go.Proofs.YtfbppkjjdbkedaaGreatDoor.Ref
/-
  The abstract machine on data that is not known: what must be shown, as a proposition that unfolds by itself.
-/
namespace Go.Proofs.YtfbppkjjdbkedaaGreatDoor.Ref
noncomputable section
open Go
set_option linter.unusedVariables false
variable {X : Cx}

/-- A contract: it returns (or panics with) just this, and leaves the boxes so. -/
def CE (X : Cx) (k : FuncId) (ds bs : List D) (r : ARes) (bs' : List D) : Prop := Enters X k ∧ CT X k ds bs (fun r' b' => r' = r ∧ b' = bs')
theorem CE.known {F : Funs} {Hs : FuncId → Hint} {Wd : Drawer} {T : Tab} {N n : Nat} {f : FuncId} {ds bs bs' : List D} {r : ARes} (hX : X.Ok) (hF : F.Ok X) (hW : Wd.Ok X) (hT : T.Ok X) (h : acall2 X F Hs Wd T N n f ds bs = some (r, bs')) : CE X f ds bs r bs' := acall2_ok hX hF hW hT n _ _ _ _ _ h
theorem CE.frame {f : FuncId} {ds : List D} {d : D} (hX : X.Ok) (h : CE X f ds [] (.ret d) []) (hl : D.loL 0 ds = true) (bs : List D) : CE X f ds bs (.ret d) bs := ⟨h.1, ct_frame h.2 hl rfl bs hX.gl⟩

def Bs : Bool → Prop → Prop → Prop
  | true, A, _ => A
  | false, _, B => B
theorem bs {b : Bool} {A B : Prop} (h1 : b = true → A) (h2 : b = false → B) : Bs b A B := by cases b <;> simp [Bs] <;> first | exact h1 rfl | exact h2 rfl
theorem bs_elim {b : Bool} {A B : Prop} (h : Bs b A B) : (b = true → A) ∧ (b = false → B) := by cases b <;> simp [Bs] at h ⊢ <;> exact h
def RM : ARes → (D → Prop) → (D → Prop) → Prop
  | .ret d, A, _ => A d
  | .pan d, _, B => B d
/-- A list, rebuilt. -/
def forceL : List (Nat × TV) → (List (Nat × TV) → Prop) → Prop
  | [], k => k []
  | (s, x) :: l, k => forceL l fun l' => k ((s, x) :: l')
theorem forceL_eq : ∀ (l : List (Nat × TV)) (k : List (Nat × TV) → Prop), forceL l k = k l
  | [], k => rfl
  | (s, x) :: l, k => by rw [forceL, forceL_eq l]
def forceB : List D → (List D → Prop) → Prop
  | [], k => k []
  | x :: l, k => forceB l fun l' => k (x :: l')
theorem forceB_eq : ∀ (l : List D) (k : List D → Prop), forceB l k = k l
  | [], k => rfl
  | x :: l, k => by rw [forceB, forceB_eq l]
/-- A state, rebuilt: its sizes are those of S0. -/
def forceS (S0 S : ASt) (k : ASt → Prop) : Prop := match S0 with
  | ⟨n0, _, _, nb0⟩ => match Nat.beq S.n n0 && Nat.beq S.nb nb0 with
    | true => forceL S.slots fun l => forceB S.boxes fun b => k ⟨n0, l, b, nb0⟩
    | false => False
theorem forceS_k {S0 S : ASt} {k : ASt → Prop} (h : forceS S0 S k) : k S := by
  unfold forceS at h
  split at h
  split at h
  · rename_i hb
    simp only [Bool.and_eq_true] at hb
    rw [forceL_eq, forceB_eq, ← Nat.eq_of_beq_eq_true hb.1, ← Nat.eq_of_beq_eq_true hb.2] at h
    exact h
  · exact h.elim
def ASt.setB (S : ASt) (c : Operand) (b : Bool) : ASt := match c with
  | .tmp t => match S with
    | ⟨n, l, bs, nb⟩ => ⟨n, (t, .d (.v (.bool b))) :: l, bs, nb⟩
  | _ => S
theorem wk_setB {S : ASt} {c : Operand} {b : Bool} (h : asB (S.ev X.G c) = some b) : Wk S (S.setB c b) := by
  cases c with
  | tmp t =>
    have h := asB_eq h
    simp only [ASt.ev] at h
    have hl : ∀ s, look ((t, .d (.v (.bool b))) :: S.slots) s = look S.slots s := by
      intro s
      simp only [look_nil, look_cons]
      by_cases e : t = s
      · rw [if_pos e, ← e, h]
      · rw [if_neg e]
    exact wk_sub rfl (Nat.le_refl _) (fun s y hy => by rw [← hl]; exact hy) rfl (fun s b r p hs u hu => hl u)
  | _ => exact Wk.refl S

/-- A slot's data told otherwise. -/
theorem wk_put0 {S : ASt} {t : Nat} {d d' : D} (hl : look S.slots t = some (.d d)) (hx : ∀ β w R c O, RelV β w R d c O → RelV β w R d' c O) : Wk S { S with slots := (t, .d d') :: kill (.slot t) S.slots } := by
  intro g β R Os a w h
  obtain ⟨c, k1, k2⟩ := h.slots t d hl
  refine ⟨β, R, Os, h.ext, h.size, h.defers, ?_, ?_, h.boxes, h.disj, h.apart, h.own, h.read, h.fr, h.glob⟩
  · intro s e he
    by_cases hs : t = s
    · subst hs
      simp only [look_nil, look_cons, if_true, Option.some.injEq, TV.d.injEq] at he
      subst he
      exact ⟨c, k1, hx _ _ _ _ _ k2⟩
    · have he : look (kill (.slot t) S.slots) s = some (.d e) := by simpa [look_nil, look_cons, hs] using he
      rcases look_kill_d he with hh | hh
      · exact h.slots s e hh
      · subst hh
        rw [look_kill] at he
        split at he
        · rename_i b r p hu
          obtain ⟨_, _, _, _, c', _, _, k3, _⟩ := h.ups s b r p hu
          exact ⟨c', k3, trivial⟩
        · exact h.slots s _ he
  · intro s b q p hu
    by_cases hs : t = s
    · simp [look_nil, look_cons, hs] at hu
    · have hu' : look (kill (.slot t) S.slots) s = some (.u b q p) := by simpa [look_nil, look_cons, hs] using hu
      obtain ⟨hl', hq⟩ := look_kill_u hu'
      refine (h.ups s b q p hl').keep ?_ rfl (fun _ _ => rfl)
      intro d0 pos0 hra
      cases hra with
      | slot h1 h2 h3 =>
        rename_i t0 c0
        have hne : t ≠ t0 := fun e => hq (by rw [e])
        exact .slot (by simp only [look_nil, look_cons, if_neg hne]; rw [look_kill, h1]) h2 h3
      | box h1 h2 h3 => exact .box h1 h2 h3
mutual
/-- Nil slices, by types: as rows, or (ow) as ours. -/
def nilD (X : Cx) (ow : Bool) : Nat → TypeId → D → D
  | 0, _, d => d
  | n + 1, t, d => match X.T t with
    | none => d
    | some i => match i.desc with
      | .slice e => match d with
        | .v (.slice none 0 0) => match X.T e with
          | none => d
          | some k => match ow with
            | true => .own false k.size []
            | false => .row false k.size []
        | _ => d
      | .struct fs => match d with
        | .agg ds => .agg (nilDs X ow n fs.toList ds)
        | _ => d
      | _ => d
def nilDs (X : Cx) (ow : Bool) : Nat → List Field → List D → List D
  | n, f :: fs, d :: ds => nilD X ow n f.type d :: nilDs X ow n fs ds
  | _, _, ds => ds
end
mutual
theorem nilD_rel {β : Env} {w : World} {R : Blk} {ow : Bool} : ∀ (n : Nat) (t : TypeId) (d : D) (cs : List Value) (O : Blk), Rel β w R d cs O → Rel β w R (nilD X ow n t d) cs O
  | 0, t, d, cs, O, h => by simpa [nilD] using h
  | n + 1, t, d, cs, O, h => by
    unfold nilD
    split
    · exact h
    split
    · split
      · split
        · exact h
        · simp only [Rel] at h
          cases ow with
          | true => simp only [Rel]; exact .inl ⟨by trivial, by trivial, h.2⟩
          | false => simp only [Rel]; exact .inl ⟨by trivial, none, 0, h.2, fun _ => ⟨by trivial, by trivial⟩⟩
      · exact h
    · split
      · simp only [Rel] at h ⊢
        exact nilDs_rel n _ _ _ _ h
      · exact h
    · exact h
theorem nilDs_rel {β : Env} {w : World} {R : Blk} {ow : Bool} : ∀ (n : Nat) (fs : List Field) (ds : List D) (cs : List Value) (O : Blk), RelL β w R ds cs O → RelL β w R (nilDs X ow n fs ds) cs O
  | n, [], ds, cs, O, h => by simpa [nilDs] using h
  | n, f :: fs, [], cs, O, h => by simpa [nilDs] using h
  | n, f :: fs, d :: ds, cs, O, h => by
    simp only [nilDs]
    simp only [RelL] at h ⊢
    obtain ⟨c1, c2, O1, O2, h1, h2, h3, h4, h5, h6⟩ := h
    exact ⟨c1, c2, O1, O2, h1, nilD_rel n _ d c1 O1 h2, nilDs_rel n fs ds c2 O2 h3, h4, h5, h6⟩
end
theorem nilD_packs {ow : Bool} {n : Nat} {t : TypeId} {d : D} {xs : List Value} {c : Value} (h : packs d xs c) : packs (nilD X ow n t d) xs c := by
  cases n with
  | zero => simpa [nilD] using h
  | succ n =>
    unfold nilD
    split
    · exact h
    split
    · split
      · split
        · exact h
        · cases ow <;> simpa [packs] using h
      · exact h
    · split
      · simpa [packs] using h
      · exact h
    · exact h
theorem nilD_relV {β : Env} {w : World} {R O : Blk} {ow : Bool} {n : Nat} {t : TypeId} {d : D} {c : Value} (h : RelV β w R d c O) (hk : d.okc = true) : RelV β w R (nilD X ow n t d) c O := by
  obtain ⟨xs, h1, h2⟩ := h.okc hk
  exact RelV.mk (nilD_packs h1) (nilD_rel n t d xs O h2)
/-- A slot's nil slices. -/
def ASt.nilS (X : Cx) (S : ASt) (ow : Bool) (t : TypeId) (u : Nat) : ASt := match look S.slots u with
  | some (.d d) => match d with
    | .cell e => { S with slots := (u, .d (.cell (nilD X ow 4 t e))) :: kill (.slot u) S.slots }
    | _ => match d.okc with
      | true => { S with slots := (u, .d (nilD X ow 4 t d)) :: kill (.slot u) S.slots }
      | false => S
  | _ => S
theorem wk_nilS (S : ASt) (ow : Bool) (t : TypeId) (u : Nat) : Wk S (S.nilS X ow t u) := by
  unfold ASt.nilS
  split
  · rename_i d hl
    split
    · rename_i e
      refine (wk_put0 hl fun β w R c O hv => ?_)
      obtain ⟨xs, m1, m2⟩ := hv
      simp only [packs] at m1
      simp only [Rel] at m2
      obtain ⟨b, all, T, O', k1, k2, k3, k4, k5, k6⟩ := m2
      exact RelV.mk (xs := [c]) (by simp [packs]) (by simp only [Rel]; exact ⟨b, all, T, O', by rw [← m1, k1], k2, k3, k4, k5, nilD_rel 4 t e _ _ k6⟩)
    · split
      · rename_i hk
        exact wk_put0 hl fun β w R c O hv => nilD_relV hv hk
      · exact Wk.refl S
  · exact Wk.refl S
/-- Behind an operation: nil slices as their types say. -/
def fixS (X : Cx) (S : ASt) (h : Nat) (o : Oper) : ASt := match o.dst with
  | none => S
  | some u => match o.op with
    | .assign (.const (.slice none 0 0)) => S.nilS X true o.type u
    | .move (.const (.slice none 0 0)) => S.nilS X false o.type u
    | .build t _ => match h with
      | 12 => S
      | 3 => S
      | _ => S.nilS X false t u
    | .alloc t => match h with
      | 4 => S
      | _ => S.nilS X true t u
    | .box t _ => match h with
      | 13 => S.nilS X true t u
      | _ => S
    | _ => S
theorem wk_fixS (S : ASt) (h : Nat) (o : Oper) : Wk S (fixS X S h o) := by
  unfold fixS
  split
  · exact Wk.refl S
  · split
    · exact wk_nilS _ _ _ _
    · exact wk_nilS _ _ _ _
    · split
      · exact Wk.refl S
      · exact Wk.refl S
      · exact wk_nilS _ _ _ _
    · split
      · exact Wk.refl S
      · exact wk_nilS _ _ _ _
    · split
      · exact wk_nilS _ _ _ _
      · exact Wk.refl S
    · exact Wk.refl S

/-- Operations that may stand still on data that is not known. -/
def softO (h : Nat) : Op → Bool
  | .indexAddr _ _ _ => true
  | .index _ _ _ => true
  | .slice _ _ _ _ _ => true
  | .binOp op _ _ _ _ => match op with
    | .quo => true
    | .rem => true
    | _ => Nat.beq h 8
  | .lookup _ _ _ _ => true
  | .mapUpdate _ _ _ _ => true
  | .insert _ _ _ _ => true
  | .makeSlice _ _ _ => true
  | .call c => match c.callee with
    | .builtin .append => true
    | _ => Nat.beq h 8
  | _ => Nat.beq h 8
def hardS (X : Cx) (S : ASt) (h : Nat) (o : Oper) (next : ASt → Prop) : Prop := match opS X S h o with
  | some S' => forceS S (fixS X S' h o) next
  | none => False
/-- An operation whose outcome is to be shown. -/
inductive Soft (X : Cx) (S : ASt) (h : Nat) (o : Oper) (next : ASt → Prop) : Prop
  | mk (S' : ASt) (h1 : opS X S h o = some S') (h2 : forceS S S' next)
def plainS (X : Cx) (S : ASt) (h : Nat) (o : Oper) (next : ASt → Prop) : Prop := match softO h o.op with
  | true => Soft X S h o next
  | false => hardS X S h o next
theorem plainS_ok {S : ASt} {h : Nat} {o : Oper} {next : ASt → Prop} (hp : plainS X S h o next) : ∃ S', opS X S h o = some S' ∧ ∃ S2, Wk S' S2 ∧ next S2 := by
  unfold plainS at hp
  split at hp
  · obtain ⟨S', h1, h2⟩ := hp
    exact ⟨S', h1, S', Wk.refl _, forceS_k h2⟩
  · unfold hardS at hp
    split at hp
    · rename_i S' h1
      exact ⟨S', h1, _, wk_fixS S' h o, forceS_k hp⟩
    · exact hp.elim
/-- Arguments: nil slices as rows. -/
def normT (X : Cx) (t : TypeId) : D → D
  | .v (.slice none 0 0) => nilD X false 1 t (.v (.slice none 0 0))
  | d => d
def normA (X : Cx) : List TypeId → List D → List D
  | t :: ts, d :: ds => normT X t d :: normA X ts ds
  | _, ds => ds
theorem normT_rel {β : Env} {w : World} {R O : Blk} {t : TypeId} {d : D} {c : Value} (h : RelV β w R d c O) : RelV β w R (normT X t d) c O := by
  unfold normT
  split
  · exact nilD_relV h rfl
  · exact h
theorem normA_rel {β : Env} {w : World} {R : Blk} : ∀ (ts : List TypeId) (ds : List D) (cs : List Value) (O : Blk), RelVV β w R ds cs O → RelVV β w R (normA X ts ds) cs O
  | [], ds, cs, O, h => by simpa [normA] using h
  | t :: ts, [], cs, O, h => by simpa [normA] using h
  | t :: ts, d :: ds, cs, O, h => by
    simp only [RelVV] at h
    obtain ⟨c, cs', O1, O2, h1, h2, h3, h4, h5, h6⟩ := h
    simp only [normA, RelVV]
    exact ⟨c, cs', O1, O2, h1, normT_rel h2, normA_rel ts ds cs' O2 h3, h4, h5, h6⟩
theorem CT.norm {k : FuncId} {ts : List TypeId} {ds caps bs : List D} {K : ARes → List D → Prop} (h : CT X k (normA X ts ds ++ caps) bs K) (hl : ts.length ≤ ds.length) : CT X k (ds ++ caps) bs K := by
  intro β w R Oa Ob cargs h1
  have key : ∀ (ts : List TypeId) (ds caps : List D) (cs : List Value) (O : Blk), ts.length ≤ ds.length → RelVV β w R (ds ++ caps) cs O → RelVV β w R (normA X ts ds ++ caps) cs O := by
    intro ts
    induction ts with
    | nil => intro ds caps cs O _ h; simpa [normA] using h
    | cons t ts ih =>
      intro ds caps cs O hl h
      cases ds with
      | nil => simp at hl
      | cons d ds =>
        simp only [List.cons_append, RelVV] at h
        obtain ⟨c, cs', O1, O2, h1, h2, h3, h4, h5, h6⟩ := h
        simp only [normA, List.cons_append, RelVV]
        exact ⟨c, cs', O1, O2, h1, normT_rel h2, ih ds caps cs' O2 (by simpa using hl) h3, h4, h5, h6⟩
  exact h β w R Oa Ob cargs (key ts ds caps cargs Oa hl h1)
/-- A call: its contract is asked for. -/
def callW (X : Cx) (S : ASt) (h : Nat) (o : Oper) (c : Call) (f : Operand) (next : ASt → Prop) (pan : D → ASt → Prop) : Prop := match asF ((prepA h c.args.toList S).ev X.G f) with
  | none => False
  | some kc => match (prepA h c.args.toList S).args X.G c.args.toList with
    | none => False
    | some ds => match dstOk ds.2 o.dst && Nat.ble c.argTypes.toList.length ds.1.length with
      | false => False
      | true => ∃ r bs, CE X kc.1 (normA X c.argTypes.toList ds.1 ++ kc.2) ds.2.boxes r bs ∧ RM r (fun d => match postS ((ds.2.back bs).putO o.dst (.d d)) h o.dst with
        | some S' => forceS S S' next
        | none => False) (fun d => forceS S (ds.2.back bs) (pan d))
/-- A call that looks at what is ours. -/
inductive Bor (X : Cx) (S : ASt) (o : Oper) (c : Call) (f : Operand) (next : ASt → Prop) : Prop
  | mk (k : FuncId) (ds : List D) (d : D) (h1 : asF (S.ev X.G f) = some (k, [])) (h2 : S.views X.G c.args.toList = some ds) (h3 : dstOk S o.dst = true) (h4 : CE X k ds [] (.ret d) []) (h5 : d.nr = true) (h6 : forceS S (S.putO o.dst (.d d)) next)
def stepW (X : Cx) (S : ASt) (h : Nat) (o : Oper) (next : ASt → Prop) (pan : D → ASt → Prop) : Prop := match o.op with
  | .panic x => match asIfc (S.ev X.G x) with
    | some td => pan (.ifc td.1 td.2) S
    | none => False
  | .call c => match c.callee with
    | .value f => match h with
      | 7 => Bor X S o c f next
      | 6 => ∃ S', extO X S o c f = some S' ∧ forceS S S' next
      | 10 => match mutO X S o c f with
        | some S' => forceS S S' next
        | none => False
      | _ => callW X S h o c f next pan
    | _ => plainS X S h o next
  | _ => plainS X S h o next

/-- What an operation comes to, as its contract says. -/
theorem stepW_ok (hX : X.Ok) {S : ASt} {h : Nat} {o : Oper} {next : ASt → Prop} {pan : D → ASt → Prop} (hw : stepW X S h o next pan) : ∃ out, OPC X S o out ∧ match out with
    | .go S' => next S'
    | .stop d S' => pan d S' := by
  have fin : plainS X S h o next → ∃ out, OPC X S o out ∧ match out with
    | .go S' => next S'
    | .stop d S' => pan d S' := fun hp => by
    obtain ⟨S', h1, S2, h2, h3⟩ := plainS_ok hp
    exact ⟨.go S2, opc_res ((opS_ok hX h1).post h2), h3⟩
  unfold stepW at hw
  split at hw
  · rename_i x ho
    split at hw
    · rename_i td h1
      exact ⟨.stop (.ifc td.1 td.2) S, opc_panic ho (asIfc_eq h1), hw⟩
    · exact hw.elim
  · rename_i c ho
    split at hw
    · rename_i f hc
      split at hw
      · obtain ⟨k, ds, d, hf, hargs, hdd, hce, hnr, hw⟩ := hw
        have ht : ∀ t, o.dst = some t → t < S.n := fun t e => by simp only [dstOk, e, decide_eq_true_eq] at hdd; exact hdd
        exact ⟨.go _, opc_borrow hX.gl ho hc (asF_eq hf) hce.1 hargs hce.2 hnr ht, forceS_k hw⟩
      · obtain ⟨S', h1, h2⟩ := hw
        have h2 := forceS_k h2
        exact ⟨.go S', opc_res (extO_ok hX ho hc h1), h2⟩
      · split at hw
        · rename_i S' h1
          exact ⟨.go S', mutO_ok hX ho hc h1, forceS_k hw⟩
        · exact hw.elim
      · unfold callW at hw
        split at hw
        · exact hw.elim
        rename_i kc hf
        split at hw
        · exact hw.elim
        rename_i ds hargs
        split at hw
        · exact hw.elim
        rename_i hdd
        simp only [Bool.and_eq_true] at hdd
        have hd := hdd.1
        obtain ⟨r, bs', h1, h2⟩ := hw
        have ht : ∀ t, o.dst = some t → t < ds.2.n := fun t e => by simp only [dstOk, e, decide_eq_true_eq] at hd; exact hd
        have main := (opc_call ho hc (asF_eq (k := kc.1) (caps := kc.2) (by rw [hf])) h1.1 (ds := ds.1) (S1 := ds.2) (by rw [hargs]) (CT.norm h1.2 (Nat.le_of_ble_eq_true hdd.2)) ht).pre (wk_prepA h c.args.toList S)
        cases r with
        | ret d =>
          simp only [RM] at h2
          split at h2
          · rename_i S' hp
            have h2 := forceS_k h2
            exact ⟨.go S', main.post (wk_postS hp), h2⟩
          · exact h2.elim
        | pan d =>
          simp only [RM] at h2
          have h2 := forceS_k h2
          exact ⟨.stop d _, main, h2⟩
    · exact fin hw
  · exact fin hw
end
end Go.Proofs.YtfbppkjjdbkedaaGreatDoor.Ref
/-
  The abstract machine on data that is not known: regions, code, loops, functions.
-/
namespace Go.Proofs.YtfbppkjjdbkedaaGreatDoor.Ref
noncomputable section
open Go
set_option linter.unusedVariables false
variable {X : Cx}

/-- States of which the slots hold the same. -/
structure Same (S S' : ASt) : Prop where
  n : S'.n = S.n
  nb : S'.nb = S.nb
  boxes : S'.boxes = S.boxes
  look : ∀ s, look S'.slots s = look S.slots s
theorem Same.refl (S : ASt) : Same S S := ⟨rfl, rfl, rfl, fun _ => rfl⟩
theorem StR.same {g : Gh} {β : Env} {R : Blk} {Os : Own} {S S' : ASt} {a : Act} {w : World} (h : StR g β R Os S a w) (hs : Same S S') : StR g β R Os S' a w := by
  obtain ⟨h1, h2, h3, h4⟩ := hs
  refine ⟨fun b => by rw [h2, h3]; exact h.ext b, by rw [h1]; exact h.size, h.defers, fun t d hd => h.slots t d (by rw [← h4]; exact hd), ?_, fun b d hd => h.boxes b d (by rw [← h3]; exact hd), h.disj, h.apart, h.own, h.read, h.fr, h.glob⟩
  intro t b r p hu
  rw [h4] at hu
  obtain ⟨d, pos, e, pos', c, k1, k2, k3, k4⟩ := h.ups t b r p hu
  refine ⟨d, pos, e, pos', c, ?_, k2, k3, k4⟩
  cases k1 with
  | slot q1 q2 q3 => exact .slot (by rw [h4]; exact q1) q2 q3
  | box q1 q2 q3 => exact .box (by rw [h3]; exact q1) q2 q3
theorem Same.wk {S S' : ASt} (h : Same S S') : Wk S S' := fun g β R Os a w hs => ⟨β, R, Os, hs.same h⟩
theorem Same.putO {S S' : ASt} (h : Same S S') (dst : Option Nat) (x : TV) : Same (S.putO dst x) (S'.putO dst x) := by
  cases dst with
  | none => exact h
  | some t =>
    refine ⟨h.n, h.nb, h.boxes, fun s => ?_⟩
    show Ref.look (S'.put t x).slots s = Ref.look (S.put t x).slots s
    rw [look_put, look_put, look_kill, look_kill, h.look]
theorem setB_same {S : ASt} {t : Nat} {b : Bool} (h : look S.slots t = some (.d (.v (.bool b)))) : Same S (S.setB (.tmp t) b) := by
  refine ⟨rfl, rfl, rfl, fun s => ?_⟩
  simp only [ASt.setB, look_nil, look_cons]
  by_cases e : t = s
  · rw [if_pos e, ← e, h]
  · rw [if_neg e]
def guardW (ops : Array Oper) (S : ASt) (o : Oper) (go skip : ASt → Prop) : Prop := match o.guard with
  | none => go S
  | some jw => match ops.toList[jw.1]? with
    | none => False
    | some o' => match o'.dst with
      | none => False
      | some t => match look S.slots t with
        | some (.d (.v (.bool b))) => match jw.2 with
          | true => Bs b (go (S.setB (.tmp t) true)) (skip (S.setB (.tmp t) false))
          | false => Bs b (skip (S.setB (.tmp t) true)) (go (S.setB (.tmp t) false))
        | some (.d .und) => skip S
        | _ => False
theorem guardW_ok {ops : Array Oper} {S : ASt} {o : Oper} {go skip : ASt → Prop} (h : guardW ops S o go skip) : ∃ S1, Same S S1 ∧ ((gval ops S o = some true ∧ gval ops S1 o = some true ∧ go S1) ∨ (gval ops S o = some false ∧ gval ops S1 o = some false ∧ skip S1)) := by
  unfold guardW at h
  split at h
  · rename_i hg
    exact ⟨S, Same.refl S, .inl ⟨by simp [gval, hg], by simp [gval, hg], h⟩⟩
  · rename_i jw hg
    split at h
    · exact h.elim
    rename_i o' ho'
    split at h
    · exact h.elim
    rename_i t ht
    split at h
    · rename_i b hb
      have hv : gval ops S o = some (b == jw.2) := by simp [gval, hg, ho', ht, hb]
      have hv1 : ∀ b', gval ops (S.setB (.tmp t) b') o = some (b' == jw.2) := fun b' => by simp [gval, hg, ho', ht, ASt.setB, look_nil, look_cons]
      have hwk : ∀ b', b = b' → Same S (S.setB (.tmp t) b') := fun b' e => setB_same (by rw [hb, e])
      split at h
      · rename_i hw
        obtain ⟨h1, h2⟩ := bs_elim h
        cases b with
        | true => exact ⟨_, hwk true rfl, .inl ⟨by rw [hv, hw]; rfl, by rw [hv1, hw]; rfl, h1 rfl⟩⟩
        | false => exact ⟨_, hwk false rfl, .inr ⟨by rw [hv, hw]; rfl, by rw [hv1, hw]; rfl, h2 rfl⟩⟩
      · rename_i hw
        obtain ⟨h1, h2⟩ := bs_elim h
        cases b with
        | true => exact ⟨_, hwk true rfl, .inr ⟨by rw [hv, hw]; rfl, by rw [hv1, hw]; rfl, h1 rfl⟩⟩
        | false => exact ⟨_, hwk false rfl, .inl ⟨by rw [hv, hw]; rfl, by rw [hv1, hw]; rfl, h2 rfl⟩⟩
    · rename_i hb
      have hv : gval ops S o = some false := by simp [gval, hg, ho', ht, hb]
      exact ⟨S, Same.refl S, .inr ⟨hv, hv, h⟩⟩
    · exact h.elim

/-- Operations one behind the other. -/
def WL (X : Cx) (H : Nat → Nat) (ops : Array Oper) (K : AEx → ASt → Prop) : Nat → List Oper → ASt → Prop
  | _, [], S => K .normal S
  | i, o :: l, S => guardW ops S o (fun S1 => stepW X S1 (H i) o (fun S' => WL X H ops K (i + 1) l S') (fun d S' => K (.pan d) S')) (fun S1 => match dstOk S1 o.dst with
    | true => forceS S1 (S1.putO o.dst (.d .und)) fun S' => WL X H ops K (i + 1) l S'
    | false => False)
theorem WL_ok (hX : X.Ok) {H : Nat → Nat} {ops : Array Oper} {K : AEx → ASt → Prop} : ∀ (l : List Oper) (i : Nat) (S : ASt), WL X H ops K i l S → AL X ops l K S
  | [], i, S, h => al_nil h
  | o :: l, i, S, h => by
    simp only [WL] at h
    obtain ⟨S1, hsm, h⟩ := guardW_ok h
    refine al_wk hsm.wk ?_
    intro g β R Os a w hG hs
    rcases h with ⟨_, hg, h⟩ | ⟨_, hg, h⟩
    · have hw := gval_ok hs hg
      obtain ⟨out, h1, h2⟩ := stepW_ok hX h
      simp only [wpList, hw, if_true]
      refine .inl (h1 g β R Os a w hG hs _ _ ?_ ?_)
      · rintro S' β' R' Os' a' w' rfl h3
        exact WL_ok hX l (i + 1) S' h2 g β' R' Os' a' w' hG h3
      · rintro d S' β' R' Os' w' c rfl h3 h4
        exact ⟨_, _, β', R', Os', h2, h3, h4⟩
    · have hw := gval_ok hs hg
      split at h
      · rename_i hd
        simp only [wpList, hw, Bool.false_eq_true, if_false]
        obtain ⟨Os', hs'⟩ := hs.und hd
        exact WL_ok hX l (i + 1) _ (forceS_k h) g β R Os' _ w hG hs'
      · exact h.elim

-- ---------------------------------------------------------------- regions of no given order
def earlyK : Op → Bool
  | .move _ => true
  | .pick _ _ _ => true
  | .binOp op _ _ _ _ => match op with
    | .quo => false
    | .rem => false
    | _ => true
  | .unOp .not _ _ => true
  | .convert _ _ _ => true
  | .fieldAddr _ _ _ => true
  | .load _ _ => true
  | .indexAddr _ _ _ => true
  | .slice _ _ _ _ none => true
  | .nilCheck _ => true
  | .call c => match c.callee with
    | .builtin .len => true
    | _ => false
  | _ => false
/-- The same in a region of no given order. -/
inductive SoftE (X : Cx) (S : ASt) (o : Oper) (t : Nat) (next : ASt → Prop) : Prop
  | mk (tv : TV) (h1 : earlyT X S o = true) (h2 : nop X S o = some tv) (h3 : (decide (t < S.n) && upOk t tv) = true) (h4 : forceS S (S.put t tv) next)
def earlyW (X : Cx) (S : ASt) (o : Oper) (next : ASt → Prop) : Prop := match o.dst with
  | none => False
  | some t => match softO 0 o.op with
    | true => SoftE X S o t next
    | false => match earlyT X S o with
      | false => False
      | true => match nop X S o with
        | none => False
        | some tv => match decide (t < S.n) && upOk t tv with
          | false => False
          | true => forceS S (S.put t tv) next
theorem earlyW_ok {S : ASt} {o : Oper} {next : ASt → Prop} (h : earlyW X S o next) : ∃ t tv, o.dst = some t ∧ earlyT X S o = true ∧ nop X S o = some tv ∧ t < S.n ∧ upOk t tv = true ∧ next (S.put t tv) := by
  unfold earlyW at h
  split at h
  · exact h.elim
  rename_i t ht
  split at h
  · obtain ⟨tv, h1, h2, h3, h4⟩ := h
    simp only [Bool.and_eq_true, decide_eq_true_eq] at h3
    exact ⟨t, tv, ht, h1, h2, h3.1, h3.2, forceS_k h4⟩
  · split at h
    · exact h.elim
    rename_i h1
    split at h
    · exact h.elim
    rename_i tv h2
    split at h
    · exact h.elim
    rename_i h3
    simp only [Bool.and_eq_true, decide_eq_true_eq] at h3
    exact ⟨t, tv, ht, h1, h2, h3.1, h3.2, forceS_k h⟩
def isNone' : Option (Nat × Bool) → Bool
  | none => true
  | some _ => false
def earlyX (H : Nat → Nat) (i : Nat) (o : Oper) : Bool := earlyK o.op && Nat.beq (H i) 0 && isNone' o.guard
/-- Under a guard, in a region that a hint names. -/
def earlyG (H : Nat → Nat) (i : Nat) (o : Oper) : Bool := Nat.beq (H 1000) 1 && earlyK o.op && Nat.beq (H i) 0
/-- The operations may go in the order in which they stand, whatever order is taken. -/
def natGo (H : Nat → Nat) (ops : Array Oper) : Nat → List Oper → Array Bool → Bool
  | _, [], listed => (Region.ready .any ops listed).isEmpty
  | i, o :: l, listed => (match earlyX H i o with
    | true => (Region.ready .any ops listed).contains i && Region.free .any ops listed i
    | false => match earlyG H i o with
      | true => (Region.ready .any ops listed).contains i && Region.free .any ops listed i
      | false => decide (Region.ready .any ops listed = [i])) && natGo H ops (i + 1) l (listed.setIfInBounds i true)
def natOk (H : Nat → Nat) (ops : Array Oper) : Bool := Region.noSelect ops && natGo H ops 0 ops.toList (Array.replicate ops.size false)
def WP (X : Cx) (H : Nat → Nat) (ops : Array Oper) (K : AEx → ASt → Prop) : Nat → List Oper → ASt → Prop
  | _, [], S => K .normal S
  | i, o :: l, S => match earlyX H i o with
    | true => earlyW X S o (fun S' => WP X H ops K (i + 1) l S')
    | false => match earlyG H i o with
      | true => guardW ops S o (fun S1 => earlyW X S1 o (fun S' => WP X H ops K (i + 1) l S')) (fun S1 => match dstOk S1 o.dst with
            | true => forceS S1 (S1.putO o.dst (.d .und)) fun S' => WP X H ops K (i + 1) l S'
            | false => False)
      | false => guardW ops S o (fun S1 => stepW X S1 (H i) o (fun S' => match Nat.beq S'.nb S1.nb with
            | true => WP X H ops K (i + 1) l S'
            | false => False) (fun d S' => match Nat.beq S'.nb S1.nb with
            | true => K (.pan d) S'.forget
            | false => False)) (fun S1 => match dstOk S1 o.dst with
            | true => forceS S1 (S1.putO o.dst (.d .und)) fun S' => WP X H ops K (i + 1) l S'
            | false => False)
/-- The operations in an order that is told. -/
def ordGo (H : Nat → Nat) (ops : Array Oper) : List Nat → Array Bool → Bool
  | [], listed => (Region.ready .any ops listed).isEmpty
  | i :: l, listed => match ops.toList[i]? with
    | none => false
    | some o => (match earlyX H i o with
      | true => (Region.ready .any ops listed).contains i && Region.free .any ops listed i
      | false => match earlyG H i o with
        | true => (Region.ready .any ops listed).contains i && Region.free .any ops listed i
        | false => decide (Region.ready .any ops listed = [i])) && ordGo H ops l (listed.setIfInBounds i true)
def ordOk (H : Nat → Nat) (ops : Array Oper) (os : List Nat) : Bool := Nat.beq os.length ops.size && Region.noSelect ops && ordGo H ops os (Array.replicate ops.size false)
/-- An order: what is early goes first. -/
def greedy (H : Nat → Nat) (ops : Array Oper) : Nat → Array Bool → List Nat
  | 0, _ => []
  | n + 1, listed => match (Region.ready .any ops listed).find? (fun i => match ops.toList[i]? with | some o => (earlyX H i o || earlyG H i o) && Region.free .any ops listed i | none => false) with
    | some i => i :: greedy H ops n (listed.setIfInBounds i true)
    | none => match Region.ready .any ops listed with
      | i :: _ => i :: greedy H ops n (listed.setIfInBounds i true)
      | [] => []
def greedyL (H : Nat → Nat) (ops : Array Oper) : List Nat := greedy H ops ops.size (Array.replicate ops.size false)
def WQ (X : Cx) (H : Nat → Nat) (ops : Array Oper) (K : AEx → ASt → Prop) : List Nat → ASt → Prop
  | [], S => K .normal S
  | i :: l, S => match ops.toList[i]? with
    | none => False
    | some o => match earlyX H i o with
      | true => earlyW X S o (fun S' => WQ X H ops K l S')
      | false => match earlyG H i o with
        | true => guardW ops S o (fun S1 => earlyW X S1 o (fun S' => WQ X H ops K l S')) (fun S1 => match dstOk S1 o.dst with
              | true => forceS S1 (S1.putO o.dst (.d .und)) fun S' => WQ X H ops K l S'
              | false => False)
        | false => guardW ops S o (fun S1 => stepW X S1 (H i) o (fun S' => match Nat.beq S'.nb S1.nb with
              | true => WQ X H ops K l S'
              | false => False) (fun d S' => match Nat.beq S'.nb S1.nb with
              | true => K (.pan d) S'.forget
              | false => False)) (fun S1 => match dstOk S1 o.dst with
              | true => forceS S1 (S1.putO o.dst (.d .und)) fun S' => WQ X H ops K l S'
              | false => False)
/-- A region of no given order. -/
inductive Draw (X : Cx) (H : Nat → Nat) (ops : Array Oper) (K : AEx → ASt → Prop) (S : ASt) : Prop
  | mk (h1 : natOk H ops = true) (h2 : WP X H ops K 0 ops.toList S)
  | ord (os : List Nat) (h1 : ordOk H ops os = true) (h2 : WQ X H ops K os S)
theorem SAny.same {ops : Array Oper} {K : AEx → ASt → Prop} {n : Nat} {listed : Array Bool} {S S' : ASt} (hw : Same S S') (h : SAny X ops K n listed S') : SAny X ops K n listed S := fun g β R Os a w hG hs => h g β R Os a w hG (hs.same hw)
theorem WP_ok (hX : X.Ok) {H : Nat → Nat} {ops : Array Oper} (hsel : Region.noSelect ops = true) {K : AEx → ASt → Prop} : ∀ (l : List Oper) (i : Nat) (listed : Array Bool) (S : ASt), ops.toList.drop i = l → natGo H ops i l listed = true → WP X H ops K i l S → SAny X ops K l.length listed S
  | [], i, listed, S, hd, hn, h => by
    simp only [natGo, List.isEmpty_iff] at hn
    exact sany_leaf hn (.inl h)
  | o :: l, i, listed, S, hd, hn, h => by
    have ho : ops[i]? = some o := by
      have := congrArg List.head? hd
      rw [List.head?_drop, Array.getElem?_toList] at this
      simpa using this
    have hd' : ops.toList.drop (i + 1) = l := by
      rw [← List.drop_drop, hd]; rfl
    simp only [natGo, Bool.and_eq_true] at hn
    obtain ⟨hn1, hn2⟩ := hn
    simp only [WP] at h
    split at h
    · rename_i he
      rw [he] at hn1
      simp only [Bool.and_eq_true] at hn1
      obtain ⟨t, tv, k1, k2, k3, k4, k5, k6⟩ := earlyW_ok h
      have hf := earlyT_ok hX k2
      have hg : o.guard = none := by
        simp only [earlyX, Bool.and_eq_true] at he
        have := he.2
        cases hgo : o.guard with
        | none => rfl
        | some p => rw [hgo] at this; simp [isNone'] at this
      exact sany_early ho hsel (Region.free_spec ho hn1.2) hn1.1 (by simp [gval, hg]) k1 k4 k5 (hf.calm (nop_ok hX k3)) hf.early (WP_ok hX hsel l (i + 1) _ _ hd' hn2 k6)
    · rename_i he
      rw [he] at hn1
      simp only at hn1
      split at h
      · rename_i heg
        rw [heg] at hn1
        simp only [Bool.and_eq_true] at hn1
        obtain ⟨S1, hs, h1⟩ := guardW_ok h
        refine SAny.same hs ?_
        rcases h1 with ⟨_, hg, h1⟩ | ⟨_, hg, h1⟩
        · obtain ⟨t, tv, k1, k2, k3, k4, k5, k6⟩ := earlyW_ok h1
          have hf := earlyT_ok hX k2
          exact sany_early ho hsel (Region.free_spec ho hn1.2) hn1.1 hg k1 k4 k5 (hf.calm (nop_ok hX k3)) hf.early (WP_ok hX hsel l (i + 1) _ _ hd' hn2 k6)
        · split at h1
          · rename_i hd
            exact sany_skip ho hsel (Region.free_spec ho hn1.2) hn1.1 hg hd (WP_ok hX hsel l (i + 1) _ _ hd' hn2 (forceS_k h1))
          · exact h1.elim
      rename_i heg
      rw [heg] at hn1
      simp only [decide_eq_true_eq] at hn1
      refine sany_all (rs := [i]) hn1 (by simp) fun j hj => ?_
      simp at hj
      subst hj
      refine ⟨o, ho, ?_⟩
      obtain ⟨S1, hs, h1⟩ := guardW_ok h
      rcases h1 with ⟨hg, _, h1⟩ | ⟨hg, _, h1⟩
      · refine .inl ⟨hg, ?_⟩
        obtain ⟨out, h2, h3⟩ := stepW_ok hX h1
        refine ⟨out, h2.pre hs.wk, ?_⟩
        cases out with
        | go S' =>
          simp only at h3
          split at h3
          · rename_i hb
            exact ⟨(Nat.eq_of_beq_eq_true hb).trans hs.nb, WP_ok hX hsel l _ _ _ hd' hn2 h3⟩
          · exact h3.elim
        | stop d S' =>
          simp only at h3
          split at h3
          · rename_i hb
            exact ⟨(Nat.eq_of_beq_eq_true hb).trans hs.nb, h3⟩
          · exact h3.elim
      · refine .inr ⟨hg, ?_⟩
        split at h1
        · rename_i hd
          have hd2 : dstOk S o.dst = true := by
            cases hdst : o.dst with
            | none => rfl
            | some t => rw [hdst] at hd; simpa [dstOk, hs.n] using hd
          exact ⟨hd2, (WP_ok hX hsel l _ _ _ hd' hn2 (forceS_k h1)).same (hs.putO o.dst _)⟩
        · exact h1.elim

theorem WQ_ok (hX : X.Ok) {H : Nat → Nat} {ops : Array Oper} (hsel : Region.noSelect ops = true) {K : AEx → ASt → Prop} : ∀ (l : List Nat) (listed : Array Bool) (S : ASt), ordGo H ops l listed = true → WQ X H ops K l S → SAny X ops K l.length listed S
  | [], listed, S, hn, h => by
    simp only [ordGo, List.isEmpty_iff] at hn
    exact sany_leaf hn (.inl h)
  | i :: l, listed, S, hn, h => by
    simp only [ordGo] at hn
    simp only [WQ] at h
    cases ho' : ops.toList[i]? with
    | none => rw [ho'] at h; exact h.elim
    | some o =>
    rw [ho'] at hn h
    have ho : ops[i]? = some o := by rw [← Array.getElem?_toList]; exact ho'
    simp only [Bool.and_eq_true] at hn
    obtain ⟨hn1, hn2⟩ := hn
    simp only at h
    split at h
    · rename_i he
      rw [he] at hn1
      simp only [Bool.and_eq_true] at hn1
      obtain ⟨t, tv, k1, k2, k3, k4, k5, k6⟩ := earlyW_ok h
      have hf := earlyT_ok hX k2
      have hg : o.guard = none := by
        simp only [earlyX, Bool.and_eq_true] at he
        have := he.2
        cases hgo : o.guard with
        | none => rfl
        | some p => rw [hgo] at this; simp [isNone'] at this
      exact sany_early ho hsel (Region.free_spec ho hn1.2) hn1.1 (by simp [gval, hg]) k1 k4 k5 (hf.calm (nop_ok hX k3)) hf.early (WQ_ok hX hsel l _ _ hn2 k6)
    · rename_i he
      rw [he] at hn1
      simp only at hn1
      split at h
      · rename_i heg
        rw [heg] at hn1
        simp only [Bool.and_eq_true] at hn1
        obtain ⟨S1, hs, h1⟩ := guardW_ok h
        refine SAny.same hs ?_
        rcases h1 with ⟨_, hg, h1⟩ | ⟨_, hg, h1⟩
        · obtain ⟨t, tv, k1, k2, k3, k4, k5, k6⟩ := earlyW_ok h1
          have hf := earlyT_ok hX k2
          exact sany_early ho hsel (Region.free_spec ho hn1.2) hn1.1 hg k1 k4 k5 (hf.calm (nop_ok hX k3)) hf.early (WQ_ok hX hsel l _ _ hn2 k6)
        · split at h1
          · rename_i hd
            exact sany_skip ho hsel (Region.free_spec ho hn1.2) hn1.1 hg hd (WQ_ok hX hsel l _ _ hn2 (forceS_k h1))
          · exact h1.elim
      rename_i heg
      rw [heg] at hn1
      simp only [decide_eq_true_eq] at hn1
      refine sany_all (rs := [i]) hn1 (by simp) fun j hj => ?_
      simp at hj
      subst hj
      refine ⟨o, ho, ?_⟩
      obtain ⟨S1, hs, h1⟩ := guardW_ok h
      rcases h1 with ⟨hg, _, h1⟩ | ⟨hg, _, h1⟩
      · refine .inl ⟨hg, ?_⟩
        obtain ⟨out, h2, h3⟩ := stepW_ok hX h1
        refine ⟨out, h2.pre hs.wk, ?_⟩
        cases out with
        | go S' =>
          simp only at h3
          split at h3
          · rename_i hb
            exact ⟨(Nat.eq_of_beq_eq_true hb).trans hs.nb, WQ_ok hX hsel l _ _ hn2 h3⟩
          · exact h3.elim
        | stop d S' =>
          simp only at h3
          split at h3
          · rename_i hb
            exact ⟨(Nat.eq_of_beq_eq_true hb).trans hs.nb, h3⟩
          · exact h3.elim
      · refine .inr ⟨hg, ?_⟩
        split at h1
        · rename_i hd
          have hd2 : dstOk S o.dst = true := by
            cases hdst : o.dst with
            | none => rfl
            | some t => rw [hdst] at hd; simpa [dstOk, hs.n] using hd
          exact ⟨hd2, (WQ_ok hX hsel l _ _ hn2 (forceS_k h1)).same (hs.putO o.dst _)⟩
        · exact h1.elim

-- ---------------------------------------------------------------- code
def W (X : Cx) (H : Hint) : Code → (AEx → ASt → Prop) → ASt → Prop
  | .skip, K, S => K .normal S
  | .region id ops draw, K, S => match draw with
    | false => forceS S (S.trim (H.keep id)) fun S => WL X (H.op id) ops K 0 ops.toList S
    | true => forceS S (S.trim (H.keep id)) fun S => Draw X (H.op id) ops K S
  | .seq a b, K, S => W X H a (fun e S' => match e with
    | .normal => W X H b K S'
    | e => K e S') S
  | .cond c x y, K, S => match asB (S.ev X.G c) with
    | some b => Bs b (W X H x K (S.setB c true)) (W X H y K (S.setB c false))
    | none => False
  | .block id c, K, S => W X H c (fun e S' => match e with
    | .exit j => (match Nat.beq j id with
      | true => K .normal S'
      | false => K (.exit j) S')
    | e => K e S') S
  | .loop c, K, S => AWP X (.loop c) K S
  | .exit id, K, S => K (.exit id) S
  | .ret, K, S => K .ret S
  | _, _, _ => False
theorem W_ok (hX : X.Ok) {H : Hint} : ∀ (c : Code) (K : AEx → ASt → Prop) (S : ASt), W X H c K S → AWP X c K S
  | .skip, K, S, h => awp_skip h
  | .region id ops draw, K, S, h => by
    cases draw with
    | false =>
      simp only [W] at h
      have h := forceS_k h
      exact awp_wk (wk_trim S _) (awp_region (WL_ok hX _ _ _ h))
    | true =>
      simp only [W] at h
      rcases forceS_k h with ⟨h1, h2⟩ | ⟨os, h1, h2⟩
      · simp only [natOk, Bool.and_eq_true] at h1
        have := WP_ok hX h1.1 ops.toList 0 _ _ (by simp) h1.2 h2
        rw [Array.length_toList] at this
        exact awp_wk (wk_trim S _) (awp_draw hX this)
      · simp only [ordOk, Bool.and_eq_true] at h1
        have := WQ_ok hX h1.1.2 os _ _ h1.2 h2
        rw [Nat.eq_of_beq_eq_true h1.1.1] at this
        exact awp_wk (wk_trim S _) (awp_draw hX this)
  | .seq a b, K, S, h => by
    simp only [W] at h
    refine awp_seq (awp_mono (W_ok hX a _ S h) fun e S' h' => ?_)
    cases e with
    | normal => exact W_ok hX b K S' h'
    | exit j => exact h'
    | ret => exact h'
    | pan d => exact h'
  | .cond c x y, K, S, h => by
    simp only [W] at h
    split at h
    · rename_i b hb
      obtain ⟨h1, h2⟩ := bs_elim h
      refine awp_cond (asB_eq hb) (fun e => ?_) (fun e => ?_)
      · exact awp_wk (wk_setB (by rw [hb, e])) (W_ok hX x K _ (h1 e))
      · exact awp_wk (wk_setB (by rw [hb, e])) (W_ok hX y K _ (h2 e))
    · exact h.elim
  | .block id c, K, S, h => by
    simp only [W] at h
    refine awp_block (awp_mono (W_ok hX c _ S h) fun e S' h' => ?_)
    cases e with
    | normal => exact h'
    | exit j =>
      simp only [Kb]
      simp only at h'
      split at h'
      · rename_i hj; rw [if_pos (Nat.eq_of_beq_eq_true hj)]; exact h'
      · rename_i hj; rw [if_neg (beq_ne hj)]; exact h'
    | ret => exact h'
    | pan d => exact h'
  | .loop c, K, S, h => h
  | .exit id, K, S, h => awp_exit h
  | .ret, K, S, h => awp_ret h
  | .rangeFunc _ _ _ _, K, S, h => by simp [W] at h
  | .scope _, K, S, h => by simp [W] at h
  | .label _, K, S, h => by simp [W] at h
  | .goto _, K, S, h => by simp [W] at h
  | .refuse _, K, S, h => by simp [W] at h
/-- A loop: states I m at its head, of which ks is kept; m becomes less. -/
theorem w_loop (hX : X.Ok) {H : Hint} {c : Code} {K : AEx → ASt → Prop} {S : ASt} (ks : List Nat) (I : Nat → ASt → Prop) (n : Nat) (h0 : forceS S (S.trim (some ks)) (I n)) (h : ∀ m S, I m S → W X H c (fun e S' => match e with
    | .normal => ∃ m', m' < m ∧ forceS S' (S'.trim (some ks)) (I m')
    | e => K e S') S) : AWP X (.loop c) K S := by
  refine awp_loop (fun m S => I m (S.trim (some ks))) n (forceS_k h0) fun m S hI => ?_
  refine awp_wk (wk_trim S (some ks)) (awp_mono (W_ok hX c _ _ (h m _ hI)) fun e S' h' => ?_)
  cases e with
  | normal =>
    obtain ⟨m', h1, h2⟩ := h'
    exact ⟨m', h1, forceS_k h2⟩
  | exit j => exact h'
  | ret => exact h'
  | pan d => exact h'
/-- A function's contract, its results frozen. -/
theorem ce_cool (hX : X.Ok) {F : Funs} (hF : F.Ok X) {H : Hint} {f : FuncId} {fn : Func} {c : Code} {args boxes bs' : List D} {r : ARes} (l : List Operand) (h1 : F f = some fn) (h2 : fn.body = some c)
    (h : W X H c (fun e S => KF X fn.results.toList boxes.length (fun r' b' => r' = r ∧ b' = bs') e (match e with | .pan _ => S | _ => S.coolOps l)) ⟨fn.ntmps, enterS 0 args, boxes, boxes.length⟩) : CE X f args boxes r bs' := by
  obtain ⟨k1, k2, k3⟩ := hF f fn h1
  refine ⟨⟨fn, k1, k2, by rw [h2]; rfl⟩, ct_code hX hF h1 h2 fun g β R Os a w hG hs => ?_⟩
  refine Code.wp_mono ?_ (W_ok hX c _ _ h g β R Os a w hG hs)
  rintro e a' w' ⟨ae, S', β', R', Os', q1, q2, q3⟩
  obtain ⟨β2, R2, Os2, q4⟩ := wk_coolOps l S' g β' R' Os' a' w' q2
  cases ae with
  | pan d => exact ⟨_, _, β', R', Os', q1, q2, q3⟩
  | normal => exact ⟨_, _, β2, R2, Os2, q1, q4, by cases e <;> simp only [ExOk] at q3 ⊢⟩
  | ret => exact ⟨_, _, β2, R2, Os2, q1, q4, by cases e <;> simp only [ExOk] at q3 ⊢⟩
  | exit j => exact ⟨_, _, β2, R2, Os2, q1, q4, by cases e <;> simp only [ExOk] at q3 ⊢ <;> exact q3⟩
/-- A function's contract. -/
theorem ce_code (hX : X.Ok) {F : Funs} (hF : F.Ok X) {H : Hint} {f : FuncId} {fn : Func} {c : Code} {args boxes bs' : List D} {r : ARes} (h1 : F f = some fn) (h2 : fn.body = some c)
    (h : W X H c (KF X fn.results.toList boxes.length (fun r' b' => r' = r ∧ b' = bs')) ⟨fn.ntmps, enterS 0 args, boxes, boxes.length⟩) : CE X f args boxes r bs' := by
  obtain ⟨k1, k2, k3⟩ := hF f fn h1
  exact ⟨⟨fn, k1, k2, by rw [h2]; rfl⟩, ct_code hX hF h1 h2 (W_ok hX c _ _ h)⟩
-- ---------------------------------------------------------------- operations whose outcome is to be shown
theorem nop_idx {S : ASt} {o : Oper} {t : TypeId} {x y : Operand} {nn : Bool} {sz : Nat} {ds : List D} {kd : IntKind} {n : Int} {d : D} {ek : TypeId × TI} (ho : o.op = .indexAddr t x y) (hs : X.sl t = some ek) (hx : S.ev X.G x = some (.d (.row nn sz ds))) (hy : asI (S.ev X.G y) = some (kd, n))
    (hb : Nat.beq ek.2.size sz = true) (h0 : 0 ≤ n) (hn : ds[n.toNat]? = some d) : nop X S o = some (.d (.fz d)) := by
  have : idxN X S t x y = some (.d (.fz d)) := by
    simp only [idxN, hs, bd, hy, hx, hb, gd, decide_eq_true h0, hn]
  simp only [nop, ho, this]
theorem SoftE.idx {S : ASt} {o : Oper} {u : Nat} {next : ASt → Prop} {t : TypeId} {x y : Operand} {nn : Bool} {sz : Nat} {ds : List D} {kd : IntKind} {n : Int} {d : D} {ek : TypeId × TI} (ho : o.op = .indexAddr t x y) (hs : X.sl t = some ek) (hx : S.ev X.G x = some (.d (.row nn sz ds))) (hy : asI (S.ev X.G y) = some (kd, n))
    (hb : Nat.beq ek.2.size sz = true) (hu : decide (u < S.n) = true) (h0 : 0 ≤ n) (hn : ds[n.toNat]? = some d) (h : forceS S (S.put u (.d (.fz d))) next) : SoftE X S o u next :=
  .mk (.d (.fz d)) (by simp only [earlyT, ho, hs, hx, hy, decide_eq_true h0, hn, Option.isSome_some, Bool.and_true]) (nop_idx ho hs hx hy hb h0 hn) (by rw [hu]; rfl) h
theorem SoftE.sliceR {S : ASt} {o : Oper} {u : Nat} {next : ASt → Prop} {t : TypeId} {x : Operand} {lo hi : Option Operand} {nn : Bool} {sz l hh : Nat} {ds : List D} {ek : TypeId × TI} (ho : o.op = .slice t x lo hi none) (hs : X.sl t = some ek) (hx : S.ev X.G x = some (.d (.row nn sz ds)))
    (hb : Nat.beq ek.2.size sz = true) (hu : decide (u < S.n) = true) (hl : S.bnd X.G 0 lo = some l) (hh' : S.bnd X.G ds.length hi = some hh) (h1 : l ≤ hh) (h2 : hh ≤ ds.length) (h : forceS S (S.put u (.d (.row nn sz ((ds.drop l).take (hh - l))))) next) : SoftE X S o u next := by
  have e : sliceN X S t x lo hi = some (.d (.row nn sz ((ds.drop l).take (hh - l)))) := by
    simp only [sliceN, hl, bd, hx, hs, hb, gd, hh', decide_eq_true h1, decide_eq_true h2, Bool.and_self]
  exact .mk (.d (.row nn sz ((ds.drop l).take (hh - l)))) (by simp only [earlyT, ho, e, Option.isSome_some]) (by simp only [Ref.nop, ho, e]) (by rw [hu]; rfl) h
theorem opS_nop {S : ASt} {hh : Nat} {o : Oper} {tv : TV} {u : Nat} (hc : coolers o.op = []) (hk : ∀ S, opE X S hh o = bd (nop X S o) fun tv => S.fin o tv) (h2 : preS X S hh o.op = S) (hp : ∀ S', postS S' hh o.dst = some S') (hn : nop X S o = some tv) (hd : o.dst = some u) (hu : decide (u < S.n) = true) (hup : upOk u tv = true) : opS X S hh o = some (S.putF u tv) := by
  unfold opS
  rw [h2, hk S, hn]
  simp only [bd, ASt.fin, hd, hu, hup, Bool.and_true, gd, hp]
  exact (by rw [← hd]; exact hp _)
theorem Soft.idx {S : ASt} {o : Oper} {u : Nat} {next : ASt → Prop} {t : TypeId} {x y : Operand} {nn : Bool} {sz : Nat} {ds : List D} {kd : IntKind} {n : Int} {d : D} {ek : TypeId × TI} (ho : o.op = .indexAddr t x y) (hd : o.dst = some u) (hs : X.sl t = some ek) (hx : S.ev X.G x = some (.d (.row nn sz ds))) (hy : asI (S.ev X.G y) = some (kd, n))
    (hb : Nat.beq ek.2.size sz = true) (hu : decide (u < S.n) = true) (h0 : 0 ≤ n) (hn : ds[n.toNat]? = some d) (h : forceS S (S.putF u (.d (.fz d))) next) : Soft X S 0 o next := by
  refine .mk _ (opS_nop (u := u) (tv := .d (.fz d)) (by rw [ho]; rfl) (fun S => by simp only [opE, ho]) (by simp only [preS, ho, coolers, ASt.coolOps]) (fun S' => by simp only [postS]) (nop_idx ho hs hx hy hb h0 hn) hd hu rfl) h
/-- An operation that turns nothing, its value told. -/
theorem Soft.nop {S : ASt} {o : Oper} {u : Nat} {next : ASt → Prop} {tv : TV} (hc : coolers o.op = []) (hk : ∀ S, opE X S 0 o = bd (Ref.nop X S o) fun tv => S.fin o tv) (hn : Ref.nop X S o = some tv) (hd : o.dst = some u) (hu : decide (u < S.n) = true) (hup : upOk u tv = true) (h : forceS S (S.putF u tv) next) : Soft X S 0 o next :=
  .mk _ (opS_nop (u := u) (tv := tv) hc hk (by simp only [preS, hc, ASt.coolOps]) (fun S' => by simp only [postS]) hn hd hu hup) h
theorem Soft.byte {S : ASt} {o : Oper} {u : Nat} {next : ASt → Prop} {t : TypeId} {x y : Operand} {s : ByteArray} {kd : IntKind} {n : Int} {b : UInt8} {i : TI} (ho : o.op = .index t x y) (hd : o.dst = some u) (ht : X.T t = some i) (hi : isStr i.desc = true) (hx : asS (S.ev X.G x) = some s) (hy : asI (S.ev X.G y) = some (kd, n))
    (hu : decide (u < S.n) = true) (h0 : 0 ≤ n) (hn : s.data.toList[n.toNat]? = some b) (h : forceS S (S.putF u (.d (.v (.int .u8 b.toNat)))) next) : Soft X S 0 o next :=
  Soft.nop (tv := .d (.v (.int .u8 b.toNat))) (by rw [ho]; rfl) (fun S => by simp only [opE, ho]) (by simp only [Ref.nop, ho, byteN, ht, bd, hi, gd, hx, hy, decide_eq_true h0, hn]) hd hu rfl h
theorem opS_slice {S : ASt} {o : Oper} {tv : TV} {u : Nat} {t : TypeId} {x : Operand} {lo hi : Option Operand} (ho : o.op = .slice t x lo hi none) (hn : Ref.nop X S o = some tv) (hd : o.dst = some u) (hu : decide (u < S.n) = true) (hup : upOk u tv = true) : opS X S 0 o = some (S.putF u tv) := by
  have e1 : preS X S 0 o.op = S := by simp only [preS, ho, coolers, ASt.coolOps]
  unfold opS
  rw [e1]
  simp only [opE, ho, hn, bd, ASt.fin, hd, hu, hup, Bool.and_true, gd, postS]
theorem Soft.sliceR {S : ASt} {o : Oper} {u : Nat} {next : ASt → Prop} {t : TypeId} {x : Operand} {lo hi : Option Operand} {nn : Bool} {sz l hh : Nat} {ds : List D} {ek : TypeId × TI} (ho : o.op = .slice t x lo hi none) (hd : o.dst = some u) (hs : X.sl t = some ek) (hx : S.ev X.G x = some (.d (.row nn sz ds)))
    (hb : Nat.beq ek.2.size sz = true) (hu : decide (u < S.n) = true) (hl : S.bnd X.G 0 lo = some l) (hh' : S.bnd X.G ds.length hi = some hh) (h1 : l ≤ hh) (h2 : hh ≤ ds.length) (h : forceS S (S.putF u (.d (.row nn sz ((ds.drop l).take (hh - l))))) next) : Soft X S 0 o next := by
  refine .mk _ (opS_slice (tv := .d (.row nn sz ((ds.drop l).take (hh - l)))) ho ?_ hd hu rfl) h
  simp only [Ref.nop, ho, sliceN, hl, bd, hx, hs, hb, gd, hh', decide_eq_true h1, decide_eq_true h2, Bool.and_self]
theorem Soft.sliceS {S : ASt} {o : Oper} {u : Nat} {next : ASt → Prop} {t : TypeId} {x : Operand} {lo hi : Option Operand} {l hh : Nat} {s : ByteArray} {i : TI} (ho : o.op = .slice t x lo hi none) (hd : o.dst = some u) (ht : X.T t = some i) (hst : isStr i.desc = true) (hx : S.ev X.G x = some (.d (.v (.string s))))
    (hu : decide (u < S.n) = true) (hl : S.bnd X.G 0 lo = some l) (hh' : S.bnd X.G s.data.toList.length hi = some hh) (h1 : l ≤ hh) (h2 : hh ≤ s.data.toList.length) (h : forceS S (S.putF u (.d (.v (.string (subB s l hh))))) next) : Soft X S 0 o next := by
  refine .mk _ (opS_slice (tv := .d (.v (.string (subB s l hh)))) ho ?_ hd hu rfl) h
  simp only [Ref.nop, ho, sliceN, hl, bd, hx, ht, hst, gd, hh', decide_eq_true h1, decide_eq_true h2, Bool.and_self]
/-- Append to a slice that is ours, in a slot. -/
theorem Soft.app {S S1 : ASt} {o : Oper} {u s : Nat} {next : ASt → Prop} {c : Call} {y : Operand} {t : TypeId} {nn mm : Bool} {sz : Nat} {ds es : List D} {ek : TypeId × TI} (ho : o.op = .call c) (hc : c = ⟨.builtin .append, #[.tmp s, y], #[t, t]⟩) (hyc : S.coolOp y = S1) (hd : o.dst = some u) (hu : decide (u < S1.n) = true) (hs : X.sl t = some ek)
    (hk : (!(Nat.beq ek.2.bytes 0) && Nat.beq ek.2.zero.nc ek.2.size) = true) (hy : S1.ev X.G y = some (.d (.row mm sz es))) (hb : Nat.beq ek.2.size sz = true) (hx : look S1.slots s = some (.d (.own nn sz ds))) (hnl : S1.nilA X c = S1) (hes : D.snL es = true) (hl : (ds.length + es.length) * ek.2.bytes ≤ lim)
    (h : forceS S ((S1.out (.slot s) []).put u (.d (.own nn sz (ds ++ es)))) next) : Soft X S 0 o next := by
  have e1 : preS X S 0 o.op = S1 := by
    rw [ho, hc]
    show S.coolOps [y] = S1
    simp only [ASt.coolOps, hyc]
  have hlen : Ref.nop X S1 o = none := by simp only [Ref.nop, ho, lenN, hc]
  refine .mk _ ?_ h
  unfold opS
  rw [e1]
  have hsz := Nat.eq_of_beq_eq_true hb
  have ev : S1.ev X.G (.tmp s) = some (.d (.own nn sz ds)) := by simp only [ASt.ev, hx]
  have hsrc : S1.src X.G (.tmp s) = some (.slot s, []) := by simp only [ASt.src, ev, D.isHdr, if_true]
  have hcont : S1.cont (.slot s) = some (.own nn sz ds) := by simp only [ASt.cont, hx, D.isHdr, if_true]
  have happ : appE X S1 o c = some ((S1.out (.slot s) []).put u (.d (.own nn sz (ds ++ es)))) := by
    subst hc
    simp only [appE, Nat.beq_refl, gd, hd, bd, hu, hs, hk, hy, hb, hes, Bool.and_true, ev, hsrc, hcont, D.get, ownL, D.okc, takeOk, decide_eq_true hl, hsz ▸ Nat.beq_refl sz]
    first | rfl | (rw [hsz]; simp [Nat.beq_refl])
  have : opE X S1 0 o = some ((S1.out (.slot s) []).put u (.d (.own nn sz (ds ++ es)))) := by
    simp only [opE, ho, hlen, bd, hnl]
    exact happ
  rw [this]
  simp only [bd, postS]
/-- Append to a slice that is ours and hangs elsewhere. -/
theorem Soft.appU {S S1 : ASt} {o : Oper} {u : Nat} {x : Operand} {r : Root} {p : List Nat} {c0 : D} {next : ASt → Prop} {c : Call} {y : Operand} {t : TypeId} {nn mm : Bool} {sz : Nat} {ds es : List D} {ek : TypeId × TI} (ho : o.op = .call c) (hc : c = ⟨.builtin .append, #[x, y], #[t, t]⟩) (hyc : S.coolOp y = S1) (hd : o.dst = some u) (hu : decide (u < S1.n) = true) (hs : X.sl t = some ek)
    (hk : (!(Nat.beq ek.2.bytes 0) && Nat.beq ek.2.zero.nc ek.2.size) = true) (hy : S1.ev X.G y = some (.d (.row mm sz es))) (hb : Nat.beq ek.2.size sz = true) (hx : S1.ev X.G x = some (.u true r p)) (hcont : S1.cont r = some c0) (hget : D.get p c0 = some (.own nn sz ds)) (hok : (c0.okc && takeOk r p) = true) (hnl : S1.nilA X c = S1) (hes : D.snL es = true) (hl : (ds.length + es.length) * ek.2.bytes ≤ lim)
    (h : forceS S ((S1.out r p).put u (.d (.own nn sz (ds ++ es)))) next) : Soft X S 0 o next := by
  have e1 : preS X S 0 o.op = S1 := by
    rw [ho, hc]
    show S.coolOps [y] = S1
    simp only [ASt.coolOps, hyc]
  have hlen : Ref.nop X S1 o = none := by simp only [Ref.nop, ho, lenN, hc]
  refine .mk _ ?_ h
  unfold opS
  rw [e1]
  have hsz := Nat.eq_of_beq_eq_true hb
  have hsrc : S1.src X.G x = some (r, p) := by simp only [ASt.src, hx]
  have happ : appE X S1 o c = some ((S1.out r p).put u (.d (.own nn sz (ds ++ es)))) := by
    subst hc
    simp only [appE, Nat.beq_refl, gd, hd, bd, hu, hs, hk, hy, hb, hes, Bool.and_true, hx, hsrc, hcont, hget, ownL, hok, decide_eq_true hl, hsz ▸ Nat.beq_refl sz]
    first | rfl | (rw [hsz]; simp [Nat.beq_refl])
  have : opE X S1 0 o = some ((S1.out r p).put u (.d (.own nn sz (ds ++ es)))) := by
    simp only [opE, ho, hlen, bd, hnl]
    exact happ
  rw [this]
  simp only [bd, postS]
theorem map_get {α β : Type} (f : α → β) {l : List α} {i : Nat} (h : i < l.length) : (l.map f)[((i : Nat) : Int).toNat]? = some (f l[i]) := by simp [h]
end
end Go.Proofs.YtfbppkjjdbkedaaGreatDoor.Ref
/-
  The abstract machine: code that leaves a slot of the frame as it is; functions that turn their slice where it lies.
-/
namespace Go.Proofs.YtfbppkjjdbkedaaGreatDoor.Ref
noncomputable section
open Go
set_option linter.unusedVariables false
variable {X : Cx}

def PinQ (t : Nat) (v : Value) (Q : Exit → Act → World → Prop) : Exit → Act → World → Prop := fun e a w => Q e a w ∧ a.tmps[t]? = some v
def AWPp (X : Cx) (t : Nat) (c : Code) (K : AEx → ASt → Prop) (S : ASt) : Prop := ∀ g β R Os a w v, g.G = X.G → StR g β R Os S a w → a.tmps[t]? = some v → c.wp X.P (PinQ t v (AQ g K)) a w
def keepsT (t : Nat) (o : Oper) : Bool := match o.dst with
  | some u => !(Nat.beq u t)
  | none => true
theorem put_pin {t : Nat} {v : Value} {o : Oper} {a : Act} {x : Value} (hk : keepsT t o = true) (h : a.tmps[t]? = some v) : (a.put o.dst x).tmps[t]? = some v := by
  cases hd : o.dst with
  | none => simpa [Act.put] using h
  | some u =>
    simp only [keepsT, hd, Bool.not_eq_true'] at hk
    simp only [Act.put]
    rw [Array.getElem?_setIfInBounds_ne (beq_ne hk)]
    exact h
theorem oper_pin {P : Program} {o : Oper} {a : Act} {w : World} {t : Nat} {v : Value} {K K' : Act → World → Prop} {Q : Exit → Act → World → Prop} (hQ : ¬ LetsOut Q) (hk : keepsT t o = true) (hv : a.tmps[t]? = some v) (hK : ∀ a w, K a w → a.tmps[t]? = some v → K' a w) (h : o.wp P a w K Q) : o.wp P a w K' (PinQ t v Q) := by
  unfold Oper.wp at *
  generalize (execOp a.eval o).run P w = r at *
  cases r with
  | ok n w' =>
    cases n <;> simp only [Oper.upon] at h ⊢
    case value u => exact hK _ _ h (put_pin hk hv)
    case skip => exact hK _ _ h (put_pin hk hv)
    case defer d => exact hK _ _ h (put_pin (a := { a with defers := d :: a.defers }) hk hv)
    case enter f args =>
      refine Calls.mono h fun e w'' he => ?_
      cases e with
      | returned u => exact hK _ _ he (put_pin hk hv)
      | panicked c => exact ⟨he, hv⟩
      | outgrown => exact absurd he hQ
    case row row args => exact Rows.mono h fun u w'' he => hK _ _ he (put_pin hk hv)
  | halt x w' =>
    cases x <;> simp only [Oper.upon] at h ⊢
    case panic u => exact ⟨h, hv⟩
theorem wpOp_pin {P : Program} {ops : Array Oper} {Q : Exit → Act → World → Prop} {i : Nat} {t : Nat} {v : Value} {K K' : Act → World → Prop} {a : Act} {w : World} (hQ : ¬ LetsOut Q) (hd : ops.toList.all (keepsT t) = true) (hv : a.tmps[t]? = some v) (hK : ∀ a w, K a w → a.tmps[t]? = some v → K' a w) (h : wpOp P ops Q i K a w) : wpOp P ops (PinQ t v Q) i K' a w := by
  unfold wpOp at *
  cases ho : ops[i]? with
  | none => simp only [ho] at h ⊢; exact hK _ _ h hv
  | some o =>
    simp only [ho] at h ⊢
    have hk : keepsT t o = true := List.all_eq_true.1 hd o (List.mem_of_getElem? (by rw [Array.getElem?_toList]; exact ho))
    split
    · rename_i hw
      simp only [hw, if_true] at h
      rcases h with h | ⟨_, h⟩
      · exact .inl (oper_pin hQ hk hv hK h)
      · exact absurd h hQ
    · rename_i hw
      simp only [hw] at h
      exact hK _ _ h (put_pin hk hv)
theorem wpAny_pin {P : Program} {ops : Array Oper} {Q : Exit → Act → World → Prop} {t : Nat} {v : Value} (hQ : ¬ LetsOut Q) (hd : ops.toList.all (keepsT t) = true) : ∀ (fuel : Nat) (listed : Array Bool) (a : Act) (w : World), a.tmps[t]? = some v → wpAny P .any ops Q fuel listed a w → wpAny P .any ops (PinQ t v Q) fuel listed a w
  | 0, listed, a, w, hv, h => ⟨h.1, h.2, hv⟩
  | fuel + 1, listed, a, w, hv, h => ⟨fun h0 => ⟨h.1 h0, hv⟩, fun i hi => wpOp_pin hQ hd hv (fun a' w' h' hv' => wpAny_pin hQ hd fuel _ a' w' hv' h') (h.2 i hi)⟩
theorem wpList_pin {P : Program} {ops : Array Oper} {Q : Exit → Act → World → Prop} {t : Nat} {v : Value} (hQ : ¬ LetsOut Q) : ∀ (os : List Oper) (a : Act) (w : World), os.all (keepsT t) = true → a.tmps[t]? = some v → wpList P ops Q os a w → wpList P ops (PinQ t v Q) os a w
  | [], a, w, _, hv, h => ⟨h, hv⟩
  | o :: os, a, w, hd, hv, h => by
    simp only [List.all_cons, Bool.and_eq_true] at hd
    unfold wpList at h ⊢
    split
    · rename_i hw
      simp only [hw, if_true] at h
      rcases h with h | ⟨_, h⟩
      · exact .inl (oper_pin hQ hd.1 hv (fun a w h hv => wpList_pin hQ os a w hd.2 hv h) h)
      · exact absurd h hQ
    · rename_i hw
      simp only [hw] at h
      exact wpList_pin hQ os _ w hd.2 (put_pin hd.1 hv) h
theorem awpp_wk {t : Nat} {c : Code} {K : AEx → ASt → Prop} {S S' : ASt} (hw : Wk S S') (h : AWPp X t c K S') : AWPp X t c K S := fun g β R Os a w v hG hs hv => by
  obtain ⟨β', R', Os', h1⟩ := hw g β R Os a w hs
  exact h g β' R' Os' a w v hG h1 hv
theorem awpp_mono {t : Nat} {c : Code} {K K' : AEx → ASt → Prop} {S : ASt} (h : AWPp X t c K S) (hK : ∀ ae S', K ae S' → K' ae S') : AWPp X t c K' S := fun g β R Os a w v hG hs hv =>
  Code.wp_mono (fun e a' w' ⟨⟨ae, S', β', R', Os', h1, h2, h3⟩, h4⟩ => ⟨⟨ae, S', β', R', Os', hK _ _ h1, h2, h3⟩, h4⟩) (h g β R Os a w v hG hs hv)
theorem awpp_region {t id : Nat} {ops : Array Oper} {K : AEx → ASt → Prop} {S : ASt} (hd : ops.toList.all (keepsT t) = true) (h : AL X ops ops.toList K S) : AWPp X t (.region id ops false) K S := fun g β R Os a w v hG hs hv =>
  wp_region_list (wpList_pin (aq_inside g K) _ a w hd hv (h g β R Os a w hG hs))
theorem awpp_draw (hX : X.Ok) {t id : Nat} {ops : Array Oper} {K : AEx → ASt → Prop} {S : ASt} (hd : ops.toList.all (keepsT t) = true) (h : SAny X ops K ops.size (Array.replicate ops.size false) S) : AWPp X t (.region id ops true) K S := by
  intro g β R Os a w v hG hs hv
  have hin : ¬ LetsOut (AQf g K) := fun ⟨a, w, h⟩ => aq_inside g K ⟨a, w, AQf.aq h⟩
  refine Go.Code.wp_mono (fun e a w h => ⟨AQf.aq h.1, h.2⟩) (wp_region_any hX.md (wpAny_pin hin hd _ _ a _ hv ?_))
  exact wpF_any _ _ R _ _ (h g β R Os a { w with drawn := w.drawn + 1 } hG (hs.float (F := Blk.emp) ⟨rfl, rfl, rfl, Nat.le_refl _, fun _ _ _ => rfl⟩ (fun x hx => hx.elim) (fun q x hx => hx.elim) (fun x hx => hx.elim)))
theorem awpp_skip {t : Nat} {K : AEx → ASt → Prop} {S : ASt} (h : K .normal S) : AWPp X t .skip K S := fun g β R Os a w v hG hs hv => wp_skip ⟨.mk h hs trivial, hv⟩
theorem awpp_ret {t : Nat} {K : AEx → ASt → Prop} {S : ASt} (h : K .ret S) : AWPp X t .ret K S := fun g β R Os a w v hG hs hv => wp_ret ⟨.mk h hs trivial, hv⟩
theorem awpp_exit {t id : Nat} {K : AEx → ASt → Prop} {S : ASt} (h : K (.exit id) S) : AWPp X t (.exit id) K S := fun g β R Os a w v hG hs hv => wp_exit ⟨.mk h hs rfl, hv⟩
def Ksp (X : Cx) (t : Nat) (y : Code) (K : AEx → ASt → Prop) : AEx → ASt → Prop
  | .normal, S => AWPp X t y K S
  | e, S => K e S
theorem awpp_seq {t : Nat} {x y : Code} {K : AEx → ASt → Prop} {S : ASt} (h : AWPp X t x (Ksp X t y K) S) : AWPp X t (.seq x y) K S := fun g β R Os a w v hG hs hv => by
  refine wp_seq (Code.wp_mono ?_ (h g β R Os a w v hG hs hv))
  rintro e a' w' ⟨⟨ae, S', β', R', Os', h1, h2, h3⟩, h4⟩
  cases ae <;> cases e <;> simp only [ExOk] at h3 <;> first | exact h3.elim | skip
  · exact h1 g β' R' Os' a' w' v hG h2 h4
  · exact ⟨⟨_, S', β', R', Os', h1, h2, h3⟩, h4⟩
  · exact ⟨⟨.ret, S', β', R', Os', h1, h2, trivial⟩, h4⟩
  · exact ⟨⟨_, S', β', R', Os', h1, h2, h3⟩, h4⟩
theorem awpp_block {t id : Nat} {c : Code} {K : AEx → ASt → Prop} {S : ASt} (h : AWPp X t c (Kb id K) S) : AWPp X t (.block id c) K S := fun g β R Os a w v hG hs hv => by
  refine wp_block (Code.wp_mono ?_ (h g β R Os a w v hG hs hv))
  rintro e a' w' ⟨⟨ae, S', β', R', Os', h1, h2, h3⟩, h4⟩
  cases ae <;> cases e <;> simp only [ExOk] at h3 <;> first | exact h3.elim | skip
  · exact ⟨.mk (ae := .normal) h1 h2 trivial, h4⟩
  · subst h3
    simp only [Kb] at h1
    simp only [Exit.inBlock]
    split <;> rename_i hid
    · rw [if_pos hid] at h1; exact ⟨.mk h1 h2 trivial, h4⟩
    · rw [if_neg hid] at h1; exact ⟨.mk h1 h2 rfl, h4⟩
  · exact ⟨.mk (ae := .ret) h1 h2 trivial, h4⟩
  · exact ⟨⟨_, S', β', R', Os', h1, h2, h3⟩, h4⟩
theorem awpp_cond {t : Nat} {c : Operand} {x y : Code} {b : Bool} {K : AEx → ASt → Prop} {S : ASt} (hc : S.ev X.G c = some (.d (.v (.bool b)))) (ht : b = true → AWPp X t x K S) (hf : b = false → AWPp X t y K S) : AWPp X t (.cond c x y) K S := fun g β R Os a w v hG hs hv => by
  obtain ⟨xs, h1, h2⟩ := evalR hs (by rw [hG]; exact hc) rfl
  simp only [Rel] at h2
  simp only [packs] at h1
  rw [h1] at h2
  have h2 := h2.2
  injection h2 with h2
  exact Go.wp_cond_split h2 (fun hb => ht hb g β R Os a w v hG hs hv) (fun hb => hf hb g β R Os a w v hG hs hv)
theorem awpp_loop {t : Nat} {c : Code} {K : AEx → ASt → Prop} {S : ASt} (I : Nat → ASt → Prop) (n : Nat) (h0 : I n S) (h : ∀ n S, I n S → AWPp X t c (Kl I n K) S) : AWPp X t (.loop c) K S := by
  intro g β R Os a w v hG hs hv
  intro b k cs
  have key : ∀ n S β R Os a w, I n S → StR g β R Os S a w → a.tmps[t]? = some v → ∃ e a' w', PinQ t v (AQ g K) e a' w' ∧ Arrives X.P (lone (b.at a (.code c :: .inLoop c :: k)) cs w) b k cs e a' w' := by
    intro n
    induction n using Nat.strongRecOn with
    | _ n ih =>
      intro S β R Os a w hI hs hv
      obtain ⟨e, a₁, w₁, ⟨hq, hv1⟩, harr⟩ := h n S hI g β R Os a w v hG hs hv b (.inLoop c :: k) cs
      obtain ⟨ae, S', β', R', Os', h1, h2, h3⟩ := hq
      cases ae <;> cases e <;> simp only [ExOk] at h3 <;> first | exact h3.elim | skip
      · obtain ⟨m, hm, hI'⟩ := h1
        obtain ⟨e₂, a₂, w₂, hq₂, harr₂⟩ := ih m hm S' β' R' Os' a₁ w₁ hI' h2 hv1
        exact ⟨e₂, a₂, w₂, hq₂, .of_steps (Steps.trans harr (.one step_inLoop)) harr₂⟩
      · exact ⟨.exit _, a₁, w₁, ⟨AQ.mk (ae := .exit _) h1 h2 h3, hv1⟩, .pass (x := .inLoop c) rfl (fun _ _ => .inl (by simp)) harr⟩
      · exact ⟨.ret, a₁, w₁, ⟨AQ.mk (ae := .ret) h1 h2 trivial, hv1⟩, .pass (x := .inLoop c) rfl (fun _ _ => .inl (by simp)) harr⟩
      · exact ⟨.panic _, a₁, w₁, ⟨AQ.mk (ae := .pan _) h1 h2 h3, hv1⟩, .pass (x := .inLoop c) rfl (fun _ _ => .inl (by simp)) harr⟩
  obtain ⟨e, a', w', hq, harr⟩ := key n S β R Os a w h0 hs hv
  exact ⟨e, a', w', hq, .of_steps (.one step_loop) harr⟩
/-- A function that turns its slice where it lies, out of its code. -/
theorem mc_of_awpp (hX : X.Ok) {f : FuncId} {fn : Func} {c : Code} {d d' : D} (hf : X.P.funcs[f]? = some fn) (hb : fn.body = some c) (hr : fn.results = #[]) (h1 : d.lo 0 = true) (h2 : d'.lo 0 = true) (hd : d.isHdr = true) (hd' : d'.isHdr = true)
    (h : AWPp X 0 c (fun e S => (e = .normal ∨ e = .ret) ∧ look S.slots 0 = some (.d d')) ⟨fn.ntmps, enterS 0 [d], [], 0⟩) : MC X.P X.G f d d' := by
  intro β w R O c0 hrel hRO hR hO hG
  have dn : ∀ e cs O, e.lo 0 = true → Rel β w R e cs O → Rel (fun _ => none) w R e cs O := fun e cs O hl hr => Rel.down (n := 0) (fun b x hb _ => by omega) e cs O hl hr
  have H : Ent X [d] [] (fun _ => none) w R O (fun _ => Blk.emp) [c0] := by
    refine ⟨?_, fun b e hb => by simp at hb, fun _ _ _ x hx => hx.elim, fun _ x _ hx => hx.elim, hRO, fun _ x _ hx => hx.elim, hR, hO, fun _ x hx => hx.elim, fun i e hi => (hG i e hi).down0 (hX.gl i e hi), fun _ _ => rfl⟩
    refine ⟨c0, [], O, Blk.emp, rfl, ?_, rfl, fun _ x => x, fun _ x => x.elim, fun _ _ x => x⟩
    exact RelV.mk (xs := [c0]) (by cases d <;> simp [D.isHdr] at hd <;> simp [packs]) (dn _ _ _ h1 hrel)
  obtain ⟨Os, hst⟩ := enter_str H fn.ntmps
  have e0 : [c0].toArray = #[c0] := rfl
  refine calls_of_wp hf hb (Code.wp_mono ?_ (h (gh0 X (fun _ => none) w R O (fun _ => Blk.emp)) _ R Os _ w c0 rfl hst (by rw [Array.getElem?_append_left (by simp)]; rfl)))
  rintro e a' w' ⟨⟨ae, S', β', R', Os', ⟨hae, hl⟩, hs, he⟩, hp⟩
  have fin : ∃ v, (results fn a'.tmps).run X.P w' = .ok v w' ∧ ∃ v' R'' On, Ending.returned v = .returned v' ∧ Turn O w w' ∧ (∀ x, R x → R'' x) ∧ (∀ x, R'' x → R x ∨ O x ∨ (w.heap.size ≤ x ∧ x < w'.heap.size)) ∧ (∀ x, On x → O x ∨ (w.heap.size ≤ x ∧ x < w'.heap.size)) ∧ Disj R'' On ∧ Rel β w' R'' d' [c0] On := by
    refine ⟨_, results_none hr _ _ _, _, Or2 R R', Os' (.slot 0), rfl, ⟨hs.fr.os, hs.fr.tape, hs.fr.output, hs.fr.size, fun k hk hn => hs.fr.block k hk fun hh => hh.elim hn fun ⟨_, hh⟩ => hh⟩, fun x hx => .inl hx, ?_, ?_, ?_, ?_⟩
    · rintro x (hx | hx)
      · exact .inl hx
      · obtain ⟨q1, q2⟩ := hs.read x hx
        rcases q2 with q2 | (q2 | ⟨_, q2⟩) | q2
        · exact .inl q2
        · exact .inr (.inl q2)
        · exact q2.elim
        · exact .inr (.inr ⟨q2, q1⟩)
    · intro x hx
      obtain ⟨q1, q2⟩ := hs.own _ x hx
      rcases q2 with (q2 | ⟨_, q2⟩) | q2
      · exact .inl q2
      · exact q2.elim
      · exact .inr ⟨q2, q1⟩
    · rintro x (hx | hx) hy
      · rcases (hs.own _ x hy).2 with (q2 | ⟨_, q2⟩) | q2
        · exact hRO x hx q2
        · exact q2
        · have := hR x hx
          have q2 : w.heap.size ≤ x := q2
          omega
      · exact hs.apart _ x hx hy
    · obtain ⟨c', k1, k2⟩ := hs.slots 0 d' hl
      rw [hp] at k1
      injection k1 with k1
      subst k1
      have k2 : ∃ xs, packs d' xs c0 ∧ Rel β' w' R' d' xs (Os' (.slot 0)) := by cases d' <;> simp [D.isHdr] at hd' <;> exact k2
      obtain ⟨xs, k3, k4⟩ := k2
      have k3 : xs = [c0] := by cases d' <;> simp [D.isHdr] at hd' <;> simpa [packs] using k3
      subst k3
      exact Rel.up (fun _ _ x => x) (fun x hx => .inr hx) (fun _ _ => rfl) _ _ _ _ (fun _ _ => rfl) (fun _ x => x) (Rel.down (n := 0) (β' := β') (fun b x hb _ => by omega) d' _ _ h2 k4)
  have hd0 : a'.defers = [] := hs.defers
  rcases hae with rfl | rfl
  · cases e <;> simp only [ExOk] at he
    exact ⟨hd0, fin⟩
  · cases e <;> simp only [ExOk] at he
    exact ⟨hd0, fin⟩
/-- What is to be shown of such code. -/
def Wp (X : Cx) (t : Nat) (H : Hint) : Code → (AEx → ASt → Prop) → ASt → Prop
  | .skip, K, S => K .normal S
  | .region id ops draw, K, S => match ops.toList.all (keepsT t) with
    | false => False
    | true => match draw with
      | false => forceS S (S.trim (H.keep id)) fun S => WL X (H.op id) ops K 0 ops.toList S
      | true => forceS S (S.trim (H.keep id)) fun S => Draw X (H.op id) ops K S
  | .seq a b, K, S => Wp X t H a (fun e S' => match e with
    | .normal => Wp X t H b K S'
    | e => K e S') S
  | .cond c x y, K, S => match asB (S.ev X.G c) with
    | some b => Bs b (Wp X t H x K (S.setB c true)) (Wp X t H y K (S.setB c false))
    | none => False
  | .block id c, K, S => Wp X t H c (fun e S' => match e with
    | .exit j => (match Nat.beq j id with
      | true => K .normal S'
      | false => K (.exit j) S')
    | e => K e S') S
  | .loop c, K, S => AWPp X t (.loop c) K S
  | .exit id, K, S => K (.exit id) S
  | .ret, K, S => K .ret S
  | _, _, _ => False
theorem Wp_ok (hX : X.Ok) {t : Nat} {H : Hint} : ∀ (c : Code) (K : AEx → ASt → Prop) (S : ASt), Wp X t H c K S → AWPp X t c K S
  | .skip, K, S, h => awpp_skip h
  | .region id ops draw, K, S, h => by
    simp only [Wp] at h
    split at h
    · exact h.elim
    rename_i hd
    cases draw with
    | false =>
      have h := forceS_k h
      exact awpp_wk (wk_trim S _) (awpp_region hd (WL_ok hX _ _ _ h))
    | true =>
      rcases forceS_k h with ⟨h1, h2⟩ | ⟨os, h1, h2⟩
      · simp only [natOk, Bool.and_eq_true] at h1
        have := WP_ok hX h1.1 ops.toList 0 _ _ (by simp) h1.2 h2
        rw [Array.length_toList] at this
        exact awpp_wk (wk_trim S _) (awpp_draw hX hd this)
      · simp only [ordOk, Bool.and_eq_true] at h1
        have := WQ_ok hX h1.1.2 os _ _ h1.2 h2
        rw [Nat.eq_of_beq_eq_true h1.1.1] at this
        exact awpp_wk (wk_trim S _) (awpp_draw hX hd this)
  | .seq a b, K, S, h => by
    simp only [Wp] at h
    refine awpp_seq (awpp_mono (Wp_ok hX a _ S h) fun e S' h' => ?_)
    cases e with
    | normal => exact Wp_ok hX b K S' h'
    | exit j => exact h'
    | ret => exact h'
    | pan d => exact h'
  | .cond c x y, K, S, h => by
    simp only [Wp] at h
    split at h
    · rename_i b hb
      obtain ⟨h1, h2⟩ := bs_elim h
      refine awpp_cond (asB_eq hb) (fun e => ?_) (fun e => ?_)
      · exact awpp_wk (wk_setB (by rw [hb, e])) (Wp_ok hX x K _ (h1 e))
      · exact awpp_wk (wk_setB (by rw [hb, e])) (Wp_ok hX y K _ (h2 e))
    · exact h.elim
  | .block id c, K, S, h => by
    simp only [Wp] at h
    refine awpp_block (awpp_mono (Wp_ok hX c _ S h) fun e S' h' => ?_)
    cases e with
    | normal => exact h'
    | exit j =>
      simp only [Kb]
      simp only at h'
      split at h'
      · rename_i hj; rw [if_pos (Nat.eq_of_beq_eq_true hj)]; exact h'
      · rename_i hj; rw [if_neg (beq_ne hj)]; exact h'
    | ret => exact h'
    | pan d => exact h'
  | .loop c, K, S, h => h
  | .exit id, K, S, h => awpp_exit h
  | .ret, K, S, h => awpp_ret h
  | .rangeFunc _ _ _ _, K, S, h => by simp [Wp] at h
  | .scope _, K, S, h => by simp [Wp] at h
  | .label _, K, S, h => by simp [Wp] at h
  | .goto _, K, S, h => by simp [Wp] at h
  | .refuse _, K, S, h => by simp [Wp] at h
theorem wp_loopP (hX : X.Ok) {t : Nat} {H : Hint} {c : Code} {K : AEx → ASt → Prop} {S : ASt} (ks : List Nat) (I : Nat → ASt → Prop) (n : Nat) (h0 : forceS S (S.trim (some ks)) (I n)) (h : ∀ m S, I m S → Wp X t H c (fun e S' => match e with
    | .normal => ∃ m', m' < m ∧ forceS S' (S'.trim (some ks)) (I m')
    | e => K e S') S) : AWPp X t (.loop c) K S := by
  refine awpp_loop (fun m S => I m (S.trim (some ks))) n (forceS_k h0) fun m S hI => ?_
  refine awpp_wk (wk_trim S (some ks)) (awpp_mono (Wp_ok hX c _ _ (h m _ hI)) fun e S' h' => ?_)
  cases e with
  | normal =>
    obtain ⟨m', h1, h2⟩ := h'
    exact ⟨m', h1, forceS_k h2⟩
  | exit j => exact h'
  | ret => exact h'
  | pan d => exact h'
end
end Go.Proofs.YtfbppkjjdbkedaaGreatDoor.Ref
/-
  The abstract machine as a program: functions that turn their slice where it lies.
-/
namespace Go.Proofs.YtfbppkjjdbkedaaGreatDoor.Ref
noncomputable section
open Go
set_option linter.unusedVariables false
variable {X : Cx}

def Drawer.Okp (X : Cx) (W : Drawer) : Prop := ∀ C : Tab, C.Ok X → ∀ t id H ops S e S' (K : AEx → ASt → Prop), ops.toList.all (keepsT t) = true → W C H ops S = some (e, S') → K e S' → AWPp X t (.region id ops true) K S
theorem drawer_okp (hX : X.Ok) : (drawer X).Okp X := by
  intro C hC t id H ops S e S' K hd h hK
  obtain ⟨hs, h⟩ := gd_eq h
  obtain ⟨l, hl, h⟩ := bd_eq h
  refine awpp_draw hX hd (explo_ok hX hC hs S l hl ?_)
  split at h
  · rename_i r
    injection h with h
    subst h
    intro p hp
    simp at hp
    subst hp
    exact .inl hK
  · rename_i r l _
    obtain ⟨ha, h⟩ := gd_eq h
    simp only [Option.some.injEq, Prod.mk.injEq] at h
    obtain ⟨rfl, rfl⟩ := h
    intro p hp
    rcases List.mem_cons.1 hp with rfl | hp
    · exact .inr hK
    · obtain ⟨h1, h2⟩ := allSame_of ha p hp
      rw [h1, h2]
      exact .inr hK
  · simp at h
/-- Does the code leave a slot as it is? -/
def keepsC (t : Nat) : Code → Bool
  | .region _ ops _ => ops.toList.all (keepsT t)
  | .seq a b => keepsC t a && keepsC t b
  | .cond _ a b => keepsC t a && keepsC t b
  | .block _ c => keepsC t c
  | .loop c => keepsC t c
  | .skip => true
  | .exit _ => true
  | .ret => true
  | _ => false
theorem arunP_ok (hX : X.Ok) {C : Tab} (hC : C.Ok X) {W : Drawer} (hW : W.Okp X) {H : Hint} {N t : Nat} : ∀ (c : Code) (S : ASt) (e : AEx) (S' : ASt) (K : AEx → ASt → Prop), keepsC t c = true → arun X C W H N c S = some (e, S') → K e S' → AWPp X t c K S
  | .skip, S, e, S', K, hk, h, hK => by
    simp only [arun, Option.some.injEq, Prod.mk.injEq] at h
    obtain ⟨rfl, rfl⟩ := h
    exact awpp_skip hK
  | .region id ops draw, S, e, S', K, hk, h, hK => by
    cases draw with
    | false => simp only [arun, fixAs_eq] at h; exact awpp_wk (wk_trim S _) (awpp_region hk (runL_ok hX hC _ _ _ _ _ h hK))
    | true => simp only [arun, fixAs_eq] at h; exact awpp_wk (wk_trim S _) (hW C hC t id _ ops _ e S' K hk h hK)
  | .seq a b, S, e, S', K, hk, h, hK => by
    simp only [keepsC, Bool.and_eq_true] at hk
    simp only [arun] at h
    split at h
    · rename_i S1 h1
      exact awpp_seq (arunP_ok hX hC hW a S _ S1 _ hk.1 h1 (arunP_ok hX hC hW b S1 e S' K hk.2 h hK))
    · rename_i hne
      refine awpp_seq (arunP_ok hX hC hW a S e S' _ hk.1 h ?_)
      cases e with
      | normal => exact absurd h (hne S')
      | exit j => exact hK
      | ret => exact hK
      | pan d => exact hK
  | .cond c x y, S, e, S', K, hk, h, hK => by
    simp only [keepsC, Bool.and_eq_true] at hk
    simp only [arun] at h
    split at h
    · rename_i hb
      exact awpp_cond (asB_eq hb) (fun _ => arunP_ok hX hC hW x S e S' K hk.1 h hK) (fun h => by cases h)
    · rename_i hb
      exact awpp_cond (asB_eq hb) (fun h => by cases h) (fun _ => arunP_ok hX hC hW y S e S' K hk.2 h hK)
    · simp at h
  | .block id c, S, e, S', K, hk, h, hK => by
    simp only [keepsC] at hk
    simp only [arun] at h
    split at h
    · rename_i j S1 h1
      refine awpp_block (arunP_ok hX hC hW c S _ S1 _ hk h1 ?_)
      simp only [Kb]
      split at h
      · rename_i hj
        injection h with h
        injection h with e1 e2
        subst e1 e2
        rw [if_pos (Nat.eq_of_beq_eq_true hj)]
        exact hK
      · rename_i hj
        injection h with h
        injection h with e1 e2
        subst e1 e2
        rw [if_neg (beq_ne hj)]
        exact hK
    · rename_i hne
      refine awpp_block (arunP_ok hX hC hW c S e S' _ hk h ?_)
      cases e with
      | exit j => exact absurd h (hne j S')
      | normal => exact hK
      | ret => exact hK
      | pan d => exact hK
  | .loop c, S, e, S', K, hk, h, hK => by
    simp only [keepsC] at hk
    simp only [arun] at h
    refine awpp_loop (fun n S => loopN (fun S => arun X C W H N c S) n S = some (e, S')) N h ?_
    intro n S1 hI
    cases n with
    | zero => simp [loopN] at hI
    | succ n =>
      simp only [loopN] at hI
      split at hI
      · rename_i S2 h2
        exact arunP_ok hX hC hW c S1 _ S2 _ hk h2 ⟨n, Nat.lt_succ_self n, hI⟩
      · rename_i hne
        refine arunP_ok hX hC hW c S1 e S' _ hk hI ?_
        cases e with
        | normal => exact absurd hI (hne S')
        | exit j => exact hK
        | ret => exact hK
        | pan d => exact hK
  | .exit id, S, e, S', K, hk, h, hK => by
    simp only [arun, Option.some.injEq, Prod.mk.injEq] at h
    obtain ⟨rfl, rfl⟩ := h
    exact awpp_exit hK
  | .ret, S, e, S', K, hk, h, hK => by
    simp only [arun, Option.some.injEq, Prod.mk.injEq] at h
    obtain ⟨rfl, rfl⟩ := h
    exact awpp_ret hK
  | .rangeFunc _ _ _ _, S, e, S', K, hk, h, hK => by simp [arun] at h
  | .scope _, S, e, S', K, hk, h, hK => by simp [arun] at h
  | .label _, S, e, S', K, hk, h, hK => by simp [arun] at h
  | .goto _, S, e, S', K, hk, h, hK => by simp [arun] at h
  | .refuse _, S, e, S', K, hk, h, hK => by simp [arun] at h
def mutEnd (r : Option (AEx × ASt)) : Option D := bd r fun q => match q.1 with
  | .normal => (match look q.2.slots 0 with | some (.d d) => some d | _ => none)
  | .ret => (match look q.2.slots 0 with | some (.d d) => some d | _ => none)
  | _ => none
/-- On data that is known. -/
theorem mc_run (hX : X.Ok) {C : Tab} (hC : C.Ok X) {W : Drawer} (hW : W.Okp X) {H : Hint} {N : Nat} {f : FuncId} {fn : Func} {c : Code} {d d' : D} (hf : X.P.funcs[f]? = some fn) (hb : fn.body = some c) (hr : fn.results = #[]) (hk : keepsC 0 c = true) (h1 : (d.lo 0 && d'.lo 0 && d.isHdr && d'.isHdr) = true)
    (h : mutEnd (arun X C W H N c ⟨fn.ntmps, enterS 0 [d], [], 0⟩) = some d') : MC X.P X.G f d d' := by
  simp only [Bool.and_eq_true] at h1
  obtain ⟨⟨e, S⟩, h2, h⟩ := bd_eq h
  refine mc_of_awpp hX hf hb hr h1.1.1.1 h1.1.1.2 h1.1.2 h1.2 (arunP_ok hX hC hW c _ e S _ hk h2 ?_)
  have fin : (match look S.slots 0 with | some (.d d) => some d | _ => none) = some d' → look S.slots 0 = some (.d d') := fun h => by
    split at h
    · rename_i d2 hl; injection h with h; subst h; exact hl
    · cases h
  cases e with
  | normal => exact ⟨.inl rfl, fin h⟩
  | ret => exact ⟨.inr rfl, fin h⟩
  | exit j => cases h
  | pan d => cases h
end
end Go.Proofs.YtfbppkjjdbkedaaGreatDoor.Ref
