/-
  The abstract machine: data without memory, states, code, calls, contracts.
-/
import Derived.Calls
import Derived.Orders
import Derived.Below
import Derived.ProofKit
import Derived.Lib.Bytealg
import Derived.Tactics
import Derived.Lib.Strings
import Derived.Laws.AppendOwn
/-
  The abstract machine, its data: values without memory (D), how they stand to the machine's cells (Rel), and that this stays where memory stays.
-/
namespace Go.Proofs.YtfbppkjjdbkedaaGreatDoor.Ref
noncomputable section
open Go
set_option linter.unusedVariables false

/-- A set of blocks. -/
abbrev Blk := Nat → Prop
def Blk.emp : Blk := fun _ => False
theorem Blk.emp_sub (O : Blk) : ∀ b, Blk.emp b → O b := fun _ h => h.elim

/-- Data. 'row': a slice that nobody turns; 'own': a slice whose array is ours alone; 'cell': a variable of ours behind a pointer; 'fz': a pointer to what nobody turns; 'ref': a pointer into a box (a variable that several can reach, by number). -/
inductive D where
  | v (x : Value)
  | agg (ds : List D)
  | row (nn : Bool) (sz : Nat) (ds : List D)
  | own (nn : Bool) (sz : Nat) (ds : List D)
  | cell (d : D)
  | fz (d : D)
  | ref (b : Nat) (p : List Nat) (off : Nat)
  | mapo (ks : List Value) (ds : List D)
  | fmp (ks : List Value) (ds : List D)
  | fn (f : FuncId) (caps : List D)
  | ifc (t : TypeId) (d : D)
  | tup (ds : List D)
  | und
  | dead
  deriving Inhabited

mutual
def D.nc : D → Nat
  | .agg ds => D.ncL ds
  | _ => 1
def D.ncL : List D → Nat
  | [] => 0
  | d :: ds => d.nc + D.ncL ds
end

/-- Values of one cell that name no memory. -/
def scal : Value → Bool
  | .bool _ | .int _ _ | .string _ | .pointer none | .slice none 0 0 | .map none | .nilFunc | .nilIface => true
  | _ => false

/-- A value as a slot holds it, out of its cells. -/
def packs (d : D) (xs : List Value) (c : Value) : Prop :=
  match d with
  | .agg _ => c = .agg xs.toArray
  | _ => xs = [c]

/-- No slice is longer. -/
def lim : Nat := 140737488355328
abbrev Env := Nat → Option Nat
def Disj (A B : Blk) : Prop := ∀ b, A b → B b → False
theorem Disj.symm {A B : Blk} (h : Disj A B) : Disj B A := fun b x y => h b y x

mutual
/-- The cells 'cs' hold what 'd' says; it reads the blocks R, which nobody turns, and owns blocks of O alone. -/
def Rel (β : Env) (w : World) (R : Blk) : D → List Value → Blk → Prop
  | .v x, cs, _ => scal x = true ∧ cs = [x]
  | .agg ds, cs, O => RelL β w R ds cs O
  | .row nn sz ds, cs, _ => (ds = [] ∧ ∃ p cap, cs = [.slice p 0 cap] ∧ (p = none → nn = false ∧ cap = 0)) ∨
      ∃ b off len cap all T fr, cs = [.slice (some ⟨b, off, none⟩) len cap] ∧ R b ∧ w.heap[b]? = some (.cells all T fr) ∧ len = ds.length ∧ (len ≤ cap ∧ ds.length ≤ lim) ∧
        off + len * sz ≤ all.size ∧ (∀ d ∈ ds, d.nc = sz) ∧ RelL β w R ds ((all.toList.drop off).take (len * sz)) Blk.emp
  | .own nn sz ds, cs, O => (nn = false ∧ ds = [] ∧ cs = [.slice none 0 0]) ∨ ∃ b off len cap all T O', cs = [.slice (some ⟨b, off, none⟩) len cap] ∧ O b ∧ w.heap[b]? = some (.cells all T (0, 0)) ∧ len = ds.length ∧ (len ≤ cap ∧ ds.length ≤ lim) ∧
        off + cap * sz ≤ all.size ∧ (∀ d ∈ ds, d.nc = sz) ∧ (∀ x, O' x → O x) ∧ ¬ O' b ∧ RelL β w R ds ((all.toList.drop off).take (len * sz)) O'
  | .cell d, cs, O => ∃ b all T O', cs = [.pointer (some ⟨b, 0, none⟩)] ∧ O b ∧ w.heap[b]? = some (.cells all T (0, 0)) ∧ (∀ x, O' x → O x) ∧ ¬ O' b ∧ Rel β w R d all.toList O'
  | .fz d, cs, _ => ∃ b off all T fr, cs = [.pointer (some ⟨b, off, none⟩)] ∧ R b ∧ w.heap[b]? = some (.cells all T fr) ∧ off + d.nc ≤ all.size ∧ Rel β w R d ((all.toList.drop off).take d.nc) Blk.emp
  | .ref b p off, cs, _ => ∃ x, β b = some x ∧ cs = [.pointer (some ⟨x, off, none⟩)]
  | .mapo ks ds, cs, O => ∃ r es clock O', cs = [.map (some r)] ∧ O r ∧ w.heap[r]? = some (.map es clock) ∧ (∀ x, O' x → O x) ∧ ¬ O' r ∧ es.toList.map (·.key) = ks ∧ RelVs β w R ds (es.toList.map (·.val)) O'
  | .fmp ks ds, cs, _ => ∃ r es clock, cs = [.map (some r)] ∧ R r ∧ w.heap[r]? = some (.map es clock) ∧ es.toList.map (·.key) = ks ∧ RelVs β w R ds (es.toList.map (·.val)) Blk.emp
  | .fn f caps, cs, _ => ∃ vs, cs = [.func (.func f) #[] vs] ∧ RelVs β w R caps vs.toList Blk.emp
  | .ifc t d, cs, _ => ∃ c xs, cs = [.iface t c] ∧ packs d xs c ∧ Rel β w R d xs Blk.emp
  | .tup _, _, _ => False
  | .und, _, _ => False
  | .dead, cs, _ => ∃ c, cs = [c]
/-- Cells one behind the other. -/
def RelL (β : Env) (w : World) (R : Blk) : List D → List Value → Blk → Prop
  | [], cs, _ => cs = []
  | d :: ds, cs, O => ∃ c1 c2 O1 O2, cs = c1 ++ c2 ∧ Rel β w R d c1 O1 ∧ RelL β w R ds c2 O2 ∧ (∀ x, O1 x → O x) ∧ (∀ x, O2 x → O x) ∧ Disj O1 O2
/-- Values, each of its own. -/
def RelVs (β : Env) (w : World) (R : Blk) : List D → List Value → Blk → Prop
  | [], cs, _ => cs = []
  | d :: ds, cs, O => ∃ c cs' xs O1 O2, cs = c :: cs' ∧ packs d xs c ∧ Rel β w R d xs O1 ∧ RelVs β w R ds cs' O2 ∧ (∀ x, O1 x → O x) ∧ (∀ x, O2 x → O x) ∧ Disj O1 O2
end

mutual
theorem Rel.up {β β' : Env} {w w' : World} {R R' : Blk} (hβ : ∀ b x, β b = some x → β' b = some x) (hR : ∀ b, R b → R' b) (hw : ∀ b, R b → w'.heap[b]? = w.heap[b]?) :
    ∀ (d : D) (cs : List Value) (O O' : Blk), (∀ b, O b → w'.heap[b]? = w.heap[b]?) → (∀ b, O b → O' b) → Rel β w R d cs O → Rel β' w' R' d cs O'
  | .v x, cs, O, O', ho, hs, h => by simp only [Rel] at h ⊢; exact h
  | .agg ds, cs, O, O', ho, hs, h => by simp only [Rel] at h ⊢; exact RelL.up hβ hR hw ds cs O O' ho hs h
  | .row nn sz ds, cs, O, O', ho, hs, h => by
    simp only [Rel] at h ⊢
    rcases h with h | ⟨b, off, len, cap, all, T, fr, h1, h2, h3, h4, h5, h6, h7, h8⟩
    · exact .inl h
    · exact .inr ⟨b, off, len, cap, all, T, fr, h1, hR b h2, (hw b h2).trans h3, h4, h5, h6, h7, RelL.up hβ hR hw ds _ _ _ (fun _ x => x.elim) (fun _ x => x) h8⟩
  | .own nn sz ds, cs, O, O', ho, hs, h => by
    simp only [Rel] at h ⊢
    rcases h with h | ⟨b, off, len, cap, all, T, O1, h1, h2, h3, h4, h5, h6, h7, h8, h9, h10⟩
    · exact .inl h
    exact .inr ⟨b, off, len, cap, all, T, O1, h1, hs b h2, (ho b h2).trans h3, h4, h5, h6, h7, fun x hx => hs x (h8 x hx), h9, RelL.up hβ hR hw ds _ _ _ (fun x hx => ho x (h8 x hx)) (fun _ x => x) h10⟩
  | .cell d, cs, O, O', ho, hs, h => by
    simp only [Rel] at h ⊢
    obtain ⟨b, all, T, O1, h1, h2, h3, h4, h5, h6⟩ := h
    exact ⟨b, all, T, O1, h1, hs b h2, (ho b h2).trans h3, fun x hx => hs x (h4 x hx), h5, Rel.up hβ hR hw d _ _ _ (fun x hx => ho x (h4 x hx)) (fun _ x => x) h6⟩
  | .fz d, cs, O, O', ho, hs, h => by
    simp only [Rel] at h ⊢
    obtain ⟨b, off, all, T, fr, h1, h2, h3, h4, h5⟩ := h
    exact ⟨b, off, all, T, fr, h1, hR b h2, (hw b h2).trans h3, h4, Rel.up hβ hR hw d _ _ _ (fun _ x => x.elim) (fun _ x => x) h5⟩
  | .ref b p off, cs, O, O', ho, hs, h => by
    simp only [Rel] at h ⊢
    obtain ⟨x, h1, h2⟩ := h
    exact ⟨x, hβ b x h1, h2⟩
  | .mapo ks ds, cs, O, O', ho, hs, h => by
    simp only [Rel] at h ⊢
    obtain ⟨r, es, clock, O1, h1, h2, h3, h4, h5, h6, h7⟩ := h
    exact ⟨r, es, clock, O1, h1, hs r h2, (ho r h2).trans h3, fun x hx => hs x (h4 x hx), h5, h6, RelVs.up hβ hR hw ds _ _ _ (fun x hx => ho x (h4 x hx)) (fun _ x => x) h7⟩
  | .fmp ks ds, cs, O, O', ho, hs, h => by
    simp only [Rel] at h ⊢
    obtain ⟨r, es, clock, h1, h2, h3, h4, h5⟩ := h
    exact ⟨r, es, clock, h1, hR r h2, (hw r h2).trans h3, h4, RelVs.up hβ hR hw ds _ _ _ (fun _ x => x.elim) (fun _ x => x) h5⟩
  | .fn f caps, cs, O, O', ho, hs, h => by
    simp only [Rel] at h ⊢
    obtain ⟨vs, h1, h2⟩ := h
    exact ⟨vs, h1, RelVs.up hβ hR hw caps _ _ _ (fun _ x => x.elim) (fun _ x => x) h2⟩
  | .ifc t d, cs, O, O', ho, hs, h => by
    simp only [Rel] at h ⊢
    obtain ⟨c, xs, h1, h2, h3⟩ := h
    exact ⟨c, xs, h1, h2, Rel.up hβ hR hw d _ _ _ (fun _ x => x.elim) (fun _ x => x) h3⟩
  | .tup ds, cs, O, O', ho, hs, h => by simp only [Rel] at h
  | .und, cs, O, O', ho, hs, h => by simp only [Rel] at h
  | .dead, cs, O, O', ho, hs, h => by simp only [Rel] at h ⊢; exact h
theorem RelL.up {β β' : Env} {w w' : World} {R R' : Blk} (hβ : ∀ b x, β b = some x → β' b = some x) (hR : ∀ b, R b → R' b) (hw : ∀ b, R b → w'.heap[b]? = w.heap[b]?) :
    ∀ (ds : List D) (cs : List Value) (O O' : Blk), (∀ b, O b → w'.heap[b]? = w.heap[b]?) → (∀ b, O b → O' b) → RelL β w R ds cs O → RelL β' w' R' ds cs O'
  | [], cs, O, O', ho, hs, h => by simp only [RelL] at h ⊢; exact h
  | d :: ds, cs, O, O', ho, hs, h => by
    simp only [RelL] at h ⊢
    obtain ⟨c1, c2, O1, O2, h1, h2, h3, h4, h5, h6⟩ := h
    exact ⟨c1, c2, O1, O2, h1, Rel.up hβ hR hw d _ _ _ (fun x hx => ho x (h4 x hx)) (fun _ x => x) h2, RelL.up hβ hR hw ds _ _ _ (fun x hx => ho x (h5 x hx)) (fun _ x => x) h3, fun x hx => hs x (h4 x hx), fun x hx => hs x (h5 x hx), h6⟩
theorem RelVs.up {β β' : Env} {w w' : World} {R R' : Blk} (hβ : ∀ b x, β b = some x → β' b = some x) (hR : ∀ b, R b → R' b) (hw : ∀ b, R b → w'.heap[b]? = w.heap[b]?) :
    ∀ (ds : List D) (cs : List Value) (O O' : Blk), (∀ b, O b → w'.heap[b]? = w.heap[b]?) → (∀ b, O b → O' b) → RelVs β w R ds cs O → RelVs β' w' R' ds cs O'
  | [], cs, O, O', ho, hs, h => by simp only [RelVs] at h ⊢; exact h
  | d :: ds, cs, O, O', ho, hs, h => by
    simp only [RelVs] at h ⊢
    obtain ⟨c, cs', xs, O1, O2, h1, h0, h2, h3, h4, h5, h6⟩ := h
    exact ⟨c, cs', xs, O1, O2, h1, h0, Rel.up hβ hR hw d _ _ _ (fun x hx => ho x (h4 x hx)) (fun _ x => x) h2, RelVs.up hβ hR hw ds _ _ _ (fun x hx => ho x (h5 x hx)) (fun _ x => x) h3, fun x hx => hs x (h4 x hx), fun x hx => hs x (h5 x hx), h6⟩
end

mutual
theorem Rel.len {β : Env} {w : World} {R : Blk} : ∀ (d : D) (cs : List Value) (O : Blk), Rel β w R d cs O → cs.length = d.nc
  | .v x, cs, O, h => by simp only [Rel] at h; simp [h.2, D.nc]
  | .agg ds, cs, O, h => by simp only [Rel] at h; rw [D.nc]; exact RelL.len ds cs O h
  | .row nn sz ds, cs, O, h => by
    simp only [Rel] at h
    rcases h with ⟨_, p, cap, h, _⟩ | ⟨b, off, len, cap, all, T, fr, h, _⟩ <;> simp [h, D.nc]
  | .own nn sz ds, cs, O, h => by
    simp only [Rel] at h
    rcases h with h | ⟨b, off, len, cap, all, T, O', h, _⟩ <;> simp [h, D.nc]
  | .cell d, cs, O, h => by simp only [Rel] at h; obtain ⟨b, all, T, O', h, _⟩ := h; simp [h, D.nc]
  | .fz d, cs, O, h => by simp only [Rel] at h; obtain ⟨b, off, all, T, fr, h, _⟩ := h; simp [h, D.nc]
  | .ref b p off, cs, O, h => by simp only [Rel] at h; obtain ⟨x, _, h⟩ := h; simp [h, D.nc]
  | .mapo ks ds, cs, O, h => by simp only [Rel] at h; obtain ⟨r, es, clock, O', h, _⟩ := h; simp [h, D.nc]
  | .fmp ks ds, cs, O, h => by simp only [Rel] at h; obtain ⟨r, es, clock, h, _⟩ := h; simp [h, D.nc]
  | .fn f caps, cs, O, h => by simp only [Rel] at h; obtain ⟨vs, h, _⟩ := h; simp [h, D.nc]
  | .ifc t d, cs, O, h => by simp only [Rel] at h; obtain ⟨c, xs, h, _⟩ := h; simp [h, D.nc]
  | .tup ds, cs, O, h => by simp only [Rel] at h
  | .und, cs, O, h => by simp only [Rel] at h
  | .dead, cs, O, h => by simp only [Rel] at h; obtain ⟨c, h⟩ := h; simp [h, D.nc]
theorem RelL.len {β : Env} {w : World} {R : Blk} : ∀ (ds : List D) (cs : List Value) (O : Blk), RelL β w R ds cs O → cs.length = D.ncL ds
  | [], cs, O, h => by simp only [RelL] at h; simp [h, D.ncL]
  | d :: ds, cs, O, h => by
    simp only [RelL] at h
    obtain ⟨c1, c2, O1, O2, h1, h2, h3, _⟩ := h
    simp [h1, D.ncL, Rel.len d c1 O1 h2, RelL.len ds c2 O2 h3]
end
theorem RelVs.len {β : Env} {w : World} {R : Blk} : ∀ (ds : List D) (cs : List Value) (O : Blk), RelVs β w R ds cs O → cs.length = ds.length
  | [], cs, O, h => by simp only [RelVs] at h; simp [h]
  | d :: ds, cs, O, h => by
    simp only [RelVs] at h
    obtain ⟨c, cs', xs, O1, O2, h1, h0, h2, h3, _⟩ := h
    simp [h1, RelVs.len ds cs' O2 h3]

end
end Go.Proofs.YtfbppkjjdbkedaaGreatDoor.Ref
/-
  The abstract machine, places: how a path leads through data to cells of memory, what is read there, and what a store there makes of the whole.
-/
namespace Go.Proofs.YtfbppkjjdbkedaaGreatDoor.Ref
noncomputable section
open Go
set_option linter.unusedVariables false

/-- The block b holds the cells cs from off on; nothing of it is frozen. -/
def Cells (w : World) (b off : Nat) (cs : List Value) : Prop :=
  ∃ all T, w.heap[b]? = some (.cells all T (0, 0)) ∧ off + cs.length ≤ all.size ∧ ∀ k, k < cs.length → all[off + k]? = cs[k]?

theorem take_drop_of {all : Array Value} {off : Nat} {cs : List Value} (hl : off + cs.length ≤ all.size) (h : ∀ k, k < cs.length → all[off + k]? = cs[k]?) :
    (all.toList.drop off).take cs.length = cs := by
  apply List.ext_getElem?
  intro k
  rcases Nat.lt_or_ge k cs.length with hk | hk
  · rw [List.getElem?_take_of_lt hk, List.getElem?_drop, Array.getElem?_toList, h k hk]
  · rw [List.getElem?_take_eq_none (by omega), List.getElem?_eq_none (by omega)]
theorem of_take_drop {all : Array Value} {off n : Nat} (hl : off + n ≤ all.size) :
    ((all.toList.drop off).take n).length = n ∧ ∀ k, k < n → all[off + k]? = ((all.toList.drop off).take n)[k]? := by
  refine ⟨by simp; omega, fun k hk => ?_⟩
  rw [List.getElem?_take_of_lt hk, List.getElem?_drop, Array.getElem?_toList]

theorem Cells.left {w : World} {b off : Nat} {c1 c2 : List Value} (h : Cells w b off (c1 ++ c2)) : Cells w b off c1 := by
  obtain ⟨all, T, h1, h2, h3⟩ := h
  refine ⟨all, T, h1, by simp at h2; omega, fun k hk => ?_⟩
  rw [h3 k (by simp; omega), List.getElem?_append_left hk]
theorem Cells.right {w : World} {b off : Nat} {c1 c2 : List Value} (h : Cells w b off (c1 ++ c2)) : Cells w b (off + c1.length) c2 := by
  obtain ⟨all, T, h1, h2, h3⟩ := h
  refine ⟨all, T, h1, by simp at h2; omega, fun k hk => ?_⟩
  have := h3 (c1.length + k) (by simp; omega)
  rw [List.getElem?_append_right (by omega)] at this
  rw [Nat.add_assoc, this]; congr 1; omega
theorem Cells.both {w : World} {b off : Nat} {c1 c2 : List Value} (h : Cells w b off c1) (h' : Cells w b (off + c1.length) c2) : Cells w b off (c1 ++ c2) := by
  obtain ⟨all, T, h1, h2, h3⟩ := h
  obtain ⟨all', T', h1', h2', h3'⟩ := h'
  rw [h1] at h1'
  injection h1' with e
  injection e with e1 e2
  subst e1
  refine ⟨all, T, h1, by simp; omega, fun k hk => ?_⟩
  rcases Nat.lt_or_ge k c1.length with hl | hl
  · rw [h3 k hl, List.getElem?_append_left hl]
  · have := h3' (k - c1.length) (by simp at hk; omega)
    rw [List.getElem?_append_right hl, ← this]; congr 1; omega
theorem Cells.keep {w w' : World} {b off : Nat} {cs : List Value} (h : Cells w b off cs) (hw : w'.heap[b]? = w.heap[b]?) : Cells w' b off cs := by
  obtain ⟨all, T, h1, h2⟩ := h
  exact ⟨all, T, hw.trans h1, h2⟩
theorem Cells.cell {w : World} {b off : Nat} {cs : List Value} (h : Cells w b off cs) (k : Nat) (hk : k < cs.length) : w.cell? ⟨b, off + k, none⟩ = cs[k]? := by
  obtain ⟨all, T, h1, h2, h3⟩ := h
  simp [World.cell?, h1, h3 k hk]

/-- Where data lies: in memory, or (what has one cell) in a slot. -/
inductive Pos where
  | mem (b off : Nat)
  | slot (c : Value)

/-- The one cell at a position. -/
def Pos.val (w : World) : Pos → Option Value
  | .mem b off => w.cell? ⟨b, off, none⟩
  | .slot c => some c

/-- One step on a path. -/
def step1 (w : World) (d : D) (pos : Pos) (i : Nat) : Option (D × Pos) :=
  match d with
  | .agg ds => match pos with
    | .mem b off => (ds[i]?).map fun e => (e, .mem b (off + D.ncL (ds.take i)))
    | .slot _ => none
  | .own nn sz ds => match pos.val w with
    | some (.slice (some a) _ _) => (ds[i]?).map fun e => (e, .mem a.block (a.off + i * sz))
    | _ => none
  | .cell e => match pos.val w with
    | some (.pointer (some a)) => if i = 0 then some (e, .mem a.block a.off) else none
    | _ => none
  | _ => none

def walk (w : World) : List Nat → D → Pos → Option (D × Pos)
  | [], d, pos => some (d, pos)
  | i :: p, d, pos => match step1 w d pos i with
    | some (e, pos') => walk w p e pos'
    | none => none

/-- What lies at a path. -/
def D.get : List Nat → D → Option D
  | [], d => some d
  | i :: p, d => match d with
    | .agg ds => match ds[i]? with | some e => D.get p e | none => none
    | .own _ _ ds => match ds[i]? with | some e => D.get p e | none => none
    | .cell e => if i = 0 then D.get p e else none
    | _ => none
/-- Data with something else at a path. -/
def D.setp : List Nat → D → D → D
  | [], e, _ => e
  | i :: p, e, d => match d with
    | .agg ds => .agg (ds.modify i (D.setp p e))
    | .own nn sz ds => .own nn sz (ds.modify i (D.setp p e))
    | .cell d => .cell (D.setp p e d)
    | d => d

/-- 'd' lies at 'pos'. -/
def At (β : Env) (w : World) (R : Blk) (d : D) (pos : Pos) (O : Blk) : Prop :=
  match pos with
  | .mem b off => ∃ cs, Cells w b off cs ∧ Rel β w R d cs O ∧ ¬ O b ∧ ¬ R b
  | .slot c => Rel β w R d [c] O

theorem relL_get {β : Env} {w : World} {R : Blk} : ∀ (ds : List D) (i : Nat) (cs : List Value) (O : Blk) (e : D), RelL β w R ds cs O → ds[i]? = some e →
    ∃ c1 c2 c3 Oe, cs = c1 ++ (c2 ++ c3) ∧ c1.length = D.ncL (ds.take i) ∧ Rel β w R e c2 Oe ∧ (∀ x, Oe x → O x)
  | [], i, cs, O, e, h, he => by simp at he
  | d :: ds, 0, cs, O, e, h, he => by
    simp only [RelL] at h
    obtain ⟨c1, c2, O1, O2, h1, h2, h3, h4, h5, h6⟩ := h
    simp at he
    subst he
    exact ⟨[], c1, c2, O1, by simpa using h1, by simp [D.ncL], h2, h4⟩
  | d :: ds, i + 1, cs, O, e, h, he => by
    simp only [RelL] at h
    obtain ⟨c1, c2, O1, O2, h1, h2, h3, h4, h5, h6⟩ := h
    simp at he
    obtain ⟨x1, x2, x3, Oe, k1, k2, k3, k4⟩ := relL_get ds i c2 O2 e h3 he
    exact ⟨c1 ++ x1, x2, x3, Oe, by rw [h1, k1]; simp, by simp [D.ncL, Rel.len d c1 O1 h2, k2], k3, fun x hx => h5 x (k4 x hx)⟩

theorem ncL_take {sz : Nat} : ∀ (ds : List D) (i : Nat), (∀ d ∈ ds, d.nc = sz) → i ≤ ds.length → D.ncL (ds.take i) = i * sz
  | ds, 0, h, hi => by simp [D.ncL]
  | [], i + 1, h, hi => by simp at hi
  | d :: ds, i + 1, h, hi => by
    simp only [List.take_succ_cons, D.ncL]
    rw [h d (by simp), ncL_take ds i (fun e he => h e (by simp [he])) (by simpa using hi)]
    rw [Nat.add_mul]; omega
theorem ncL_all {sz : Nat} (ds : List D) (h : ∀ d ∈ ds, d.nc = sz) : D.ncL ds = ds.length * sz := by
  have := ncL_take ds ds.length h (Nat.le_refl _)
  rwa [List.take_length] at this

/-- The element of a row of ours. -/
theorem own_at {β : Env} {w : World} {R O : Blk} {nn : Bool} {sz : Nat} {ds : List D} {c : Value} (h : Rel β w R (.own nn sz ds) [c] O) (hRO : Disj R O) (hne : ds = [] → c ≠ .slice none 0 0) :
    ∃ b off len cap O', c = .slice (some ⟨b, off, none⟩) len cap ∧ O b ∧ (∀ x, O' x → O x) ∧ ¬ O' b ∧ len = ds.length ∧ len ≤ cap ∧
      ∃ cs, Cells w b off cs ∧ RelL β w R ds cs O' ∧ cs.length = len * sz := by
  simp only [Rel] at h
  rcases h with ⟨_, h0, h⟩ | ⟨b, off, len, cap, all, T, O', h1, h2, h3, h4, h5, h6, h7, h8, h9, h10⟩
  · exact absurd (by simpa using h) (hne h0)
  have hle : off + len * sz ≤ all.size := by have := Nat.mul_le_mul_right sz h5.1; omega
  obtain ⟨k1, k2⟩ := of_take_drop hle
  exact ⟨b, off, len, cap, O', by simpa using h1, h2, h8, h9, h4, h5.1, _, ⟨all, T, h3, by rw [k1]; exact hle, fun k hk => k2 k (by rwa [k1] at hk)⟩, h10, k1⟩

theorem cells_split3 {w : World} {b off : Nat} {c1 c2 c3 : List Value} (h : Cells w b off (c1 ++ (c2 ++ c3))) : Cells w b (off + c1.length) c2 := h.right.left

/-- A step leads from what lies somewhere to what lies somewhere. -/
theorem at_step {β : Env} {w : World} {R O : Blk} {d e : D} {pos pos' : Pos} {i : Nat} (h : At β w R d pos O) (hRO : Disj R O) (hs : step1 w d pos i = some (e, pos')) :
    ∃ O', At β w R e pos' O' ∧ (∀ x, O' x → O x) := by
  unfold step1 at hs
  split at hs
  · rename_i ds
    cases pos with
    | slot c => simp at hs
    | mem b off =>
      simp only [Option.map_eq_some_iff] at hs
      obtain ⟨e', he, hs⟩ := hs
      injection hs with h1 h2
      subst h1 h2
      obtain ⟨cs, hc, hr, hb, hRb⟩ := h
      simp only [Rel] at hr
      obtain ⟨c1, c2, c3, Oe, k1, k2, k3, k4⟩ := relL_get ds i cs O e' hr he
      rw [k1] at hc
      refine ⟨Oe, ⟨c2, ?_, k3, fun hx => hb (k4 _ hx), hRb⟩, k4⟩
      rw [← k2]; exact cells_split3 hc
  · rename_i nn sz ds
    split at hs
    · rename_i a len cap hv
      simp only [Option.map_eq_some_iff] at hs
      obtain ⟨e', he, hs⟩ := hs
      injection hs with h1 h2
      subst h1 h2
      have hr : Rel β w R (.own nn sz ds) [.slice (some a) len cap] O := by
        cases pos with
        | slot c => simp [Pos.val] at hv; subst hv; exact h
        | mem b off =>
          obtain ⟨cs, hc, hr, hb, hRb⟩ := h
          have hl := Rel.len _ _ _ hr
          simp only [D.nc] at hl
          have := hc.cell 0 (by omega)
          simp only [Nat.add_zero] at this
          rw [show Pos.val w (.mem b off) = w.cell? ⟨b, off, none⟩ from rfl, this] at hv
          have : cs = [.slice (some a) len cap] := by
            match cs, hl with
            | [x], _ => simp at hv; rw [hv]
          rw [← this]; exact hr
      obtain ⟨b, off, len', cap', O', h1, h2, h3, h4, h5, h6, cs, h7, h8, h9⟩ := own_at hr hRO (fun _ => by simp)
      injection h1 with h1 h1' h1''
      injection h1 with h1
      subst h1
      obtain ⟨c1, c2, c3, Oe, k1, k2, k3, k4⟩ := relL_get ds i cs O' e' h8 he
      rw [k1] at h7
      have hi : i < ds.length := (List.getElem?_eq_some_iff.1 he).1
      have hsz : ∀ d ∈ ds, d.nc = sz := by simp only [Rel] at hr; rcases hr with ⟨_, hr, _⟩ | ⟨_, _, _, _, _, _, _, _, _, _, _, _, _, h, _⟩; (rw [hr]; simp); exact h
      rw [ncL_take ds i hsz (by omega)] at k2
      refine ⟨Oe, ⟨c2, ?_, k3, fun hx => h4 (k4 _ hx), fun hR => hRO _ hR h2⟩, fun x hx => h3 x (k4 x hx)⟩
      rw [← k2]; exact cells_split3 h7
    · simp at hs
  · rename_i e0
    split at hs
    · rename_i a hv
      split at hs
      · simp only [Option.some.injEq, Prod.mk.injEq] at hs
        obtain ⟨h1, h2⟩ := hs
        subst h1 h2
        have hr : Rel β w R (.cell e0) [.pointer (some a)] O := by
          cases pos with
          | slot c => simp [Pos.val] at hv; subst hv; exact h
          | mem b off =>
            obtain ⟨cs, hc, hr, hb, hRb⟩ := h
            have hl := Rel.len _ _ _ hr
            simp only [D.nc] at hl
            have := hc.cell 0 (by omega)
            simp only [Nat.add_zero] at this
            rw [show Pos.val w (.mem b off) = w.cell? ⟨b, off, none⟩ from rfl, this] at hv
            have : cs = [.pointer (some a)] := by
              match cs, hl with
              | [x], _ => simp at hv; rw [hv]
            rw [← this]; exact hr
        simp only [Rel] at hr
        obtain ⟨b, all, T, O', h1, h2, h3, h4, h5, h6⟩ := hr
        simp at h1
        subst h1
        refine ⟨O', ⟨all.toList, ⟨all, T, h3, by simp, fun k hk => by simp⟩, h6, h5, fun hR => hRO _ hR h2⟩, h4⟩
      · simp at hs
    · simp at hs
  · simp at hs

theorem at_walk {β : Env} {w : World} {R : Blk} : ∀ (p : List Nat) (d e : D) (pos pos' : Pos) (O : Blk), At β w R d pos O → Disj R O → walk w p d pos = some (e, pos') →
    ∃ O', At β w R e pos' O' ∧ (∀ x, O' x → O x)
  | [], d, e, pos, pos', O, h, hRO, hs => by
    simp only [walk, Option.some.injEq, Prod.mk.injEq] at hs
    obtain ⟨h1, h2⟩ := hs
    subst h1 h2
    exact ⟨O, h, fun _ x => x⟩
  | i :: p, d, e, pos, pos', O, h, hRO, hs => by
    simp only [walk] at hs
    split at hs
    · rename_i e1 pos1 h1
      obtain ⟨O1, k1, k2⟩ := at_step h hRO h1
      obtain ⟨O2, k3, k4⟩ := at_walk p e1 e pos1 pos' O1 k1 (fun x a b => hRO x a (k2 x b)) hs
      exact ⟨O2, k3, fun x hx => k2 x (k4 x hx)⟩
    · simp at hs

/-- A path leads somewhere where 'get' finds something. -/
theorem walk_get (w : World) : ∀ (p : List Nat) (d e : D) (pos pos' : Pos), walk w p d pos = some (e, pos') → D.get p d = some e
  | [], d, e, pos, pos', hs => by simp only [walk, Option.some.injEq, Prod.mk.injEq] at hs; simp [D.get, hs.1]
  | i :: p, d, e, pos, pos', hs => by
    simp only [walk] at hs
    split at hs
    · rename_i e1 pos1 h1
      have ih := walk_get w p e1 e pos1 pos' hs
      unfold step1 at h1
      split at h1
      · split at h1 <;> simp at h1
        obtain ⟨x, hx, h1, _⟩ := h1
        subst h1
        simp [D.get, hx, ih]
      · split at h1 <;> simp at h1
        obtain ⟨x, hx, h1, _⟩ := h1
        subst h1
        simp [D.get, hx, ih]
      · split at h1 <;> simp at h1
        obtain ⟨hi, h1, _⟩ := h1
        subst h1 hi
        simp [D.get, ih]
      · simp at h1
    · simp at hs
theorem get_walk {β : Env} {w : World} {R : Blk} : ∀ (p : List Nat) (d e : D) (pos : Pos) (O : Blk), At β w R d pos O → Disj R O → D.get p d = some e →
    (∀ ds c, d = .agg ds → pos = .slot c → p = []) → ∃ pos', walk w p d pos = some (e, pos') ∧ (p ≠ [] → ∃ b off, pos' = .mem b off)
  | [], d, e, pos, O, h, hRO, hs, hn => by simp [D.get] at hs; subst hs; exact ⟨pos, rfl, fun h => absurd rfl h⟩
  | i :: p, d, e, pos, O, h, hRO, hs, hn => by
    have key : ∀ e1 pos1, step1 w d pos i = some (e1, pos1) → D.get p e1 = some e → (∃ b off, pos1 = .mem b off) →
        ∃ pos', walk w (i :: p) d pos = some (e, pos') ∧ (i :: p ≠ [] → ∃ b off, pos' = .mem b off) := by
      intro e1 pos1 h1 h2 ⟨b, off, h3⟩
      obtain ⟨O1, k1, k2⟩ := at_step h hRO h1
      obtain ⟨pos', k3, k4⟩ := get_walk p e1 e pos1 O1 k1 (fun x a b => hRO x a (k2 x b)) h2 (by subst h3; intro _ _ _ h; cases h)
      refine ⟨pos', by simp [walk, h1, k3], fun _ => ?_⟩
      by_cases hp : p = []
      · subst hp
        simp [walk] at k3
        exact ⟨b, off, by rw [← k3.2, h3]⟩
      · exact k4 hp
    have hdr : ∀ nn sz ds, ds ≠ [] → d = .own nn sz ds → ∃ b off len cap, pos.val w = some (.slice (some ⟨b, off, none⟩) len cap) := by
      intro nn sz ds hnil hd
      subst hd
      cases pos with
      | slot c =>
        have h : Rel β w R (.own nn sz ds) [c] O := h
        obtain ⟨b, off, len, cap, O', h1, _⟩ := own_at h hRO (fun e => absurd e hnil)
        exact ⟨b, off, len, cap, by simp [Pos.val, h1]⟩
      | mem b off =>
        obtain ⟨cs, hc, hr, hb, hRb⟩ := h
        have hl := Rel.len _ _ _ hr
        simp only [D.nc] at hl
        have hcell := hc.cell 0 (by omega)
        simp only [Nat.add_zero] at hcell
        match cs, hl with
        | [x], _ =>
          obtain ⟨b, off, len, cap, O', h1, _⟩ := own_at hr hRO (fun e => absurd e hnil)
          exact ⟨b, off, len, cap, by simp [Pos.val, hcell, h1]⟩
    have hptr : ∀ d', d = .cell d' → ∃ b, pos.val w = some (.pointer (some ⟨b, 0, none⟩)) := by
      intro d' hd
      subst hd
      cases pos with
      | slot c =>
        have h : Rel β w R (.cell d') [c] O := h
        simp only [Rel] at h
        obtain ⟨b, all, T, O', h1, _⟩ := h
        exact ⟨b, by simpa [Pos.val] using h1⟩
      | mem b off =>
        obtain ⟨cs, hc, hr, hb, hRb⟩ := h
        have hl := Rel.len _ _ _ hr
        simp only [D.nc] at hl
        have hcell := hc.cell 0 (by omega)
        simp only [Nat.add_zero] at hcell
        match cs, hl with
        | [x], _ =>
          simp only [Rel] at hr
          obtain ⟨b, all, T, O', h1, _⟩ := hr
          simp at h1
          exact ⟨b, by simp [Pos.val, hcell, h1]⟩
    simp only [D.get] at hs
    split at hs
    · rename_i ds
      split at hs
      · rename_i e1 he1
        cases pos with
        | slot c => exact absurd (hn ds c rfl rfl) (by simp)
        | mem b off => exact key e1 (.mem b (off + D.ncL (ds.take i))) (by simp [step1, he1]) hs ⟨_, _, rfl⟩
      · simp at hs
    · rename_i nn sz ds
      split at hs
      · rename_i e1 he1
        obtain ⟨b, off, len, cap, hv⟩ := hdr nn sz ds (by intro e; rw [e] at he1; simp at he1) rfl
        exact key e1 (.mem b (off + i * sz)) (by simp [step1, he1, hv]) hs ⟨_, _, rfl⟩
      · simp at hs
    · rename_i e1
      split at hs
      · rename_i hi
        subst hi
        obtain ⟨b, hv⟩ := hptr e1 rfl
        exact key e1 (.mem b 0) (by simp [step1, hv]) hs ⟨_, _, rfl⟩
      · simp at hs
    · simp at hs
end
end Go.Proofs.YtfbppkjjdbkedaaGreatDoor.Ref
/-
  The abstract machine, places: what lies at a path can be taken out and something else put in its place, the rest staying as it is.
-/
namespace Go.Proofs.YtfbppkjjdbkedaaGreatDoor.Ref
noncomputable section
open Go
set_option linter.unusedVariables false

def Or2 (A B : Blk) : Blk := fun x => A x ∨ B x

theorem relL_lens {β : Env} {w : World} {R : Blk} : ∀ (ds : List D) (i : Nat) (cs : List Value) (O : Blk) (e : D), RelL β w R ds cs O → ds[i]? = some e →
    ∃ c1 c2 c3 Oe Or, cs = c1 ++ (c2 ++ c3) ∧ c1.length = D.ncL (ds.take i) ∧ Rel β w R e c2 Oe ∧ (∀ x, Oe x → O x) ∧ (∀ x, Or x → O x) ∧ Disj Oe Or ∧
      ∀ (β' : Env) (w' : World) (R' : Blk) (f : D → D) (c2' : List Value) (Oe' : Blk), (∀ b x, β b = some x → β' b = some x) → (∀ x, R x → R' x) → (∀ x, R x → w'.heap[x]? = w.heap[x]?) →
        (∀ x, Or x → w'.heap[x]? = w.heap[x]?) → Rel β' w' R' (f e) c2' Oe' → Disj Oe' Or → RelL β' w' R' (ds.modify i f) (c1 ++ (c2' ++ c3)) (Or2 Or Oe')
  | [], i, cs, O, e, h, he => by simp at he
  | d :: ds, 0, cs, O, e, h, he => by
    simp only [RelL] at h
    obtain ⟨c1, c2, O1, O2, h1, h2, h3, h4, h5, h6⟩ := h
    simp at he
    subst he
    refine ⟨[], c1, c2, O1, O2, by simpa using h1, by simp [D.ncL], h2, h4, h5, h6, ?_⟩
    intro β' w' R' f c2' Oe' hβ hR hw ho hr hd
    simp only [List.modify_zero_cons, List.nil_append, RelL]
    exact ⟨c2', c2, Oe', O2, rfl, hr, RelL.up hβ hR hw ds c2 O2 O2 ho (fun _ x => x) h3, fun x hx => .inr hx, fun x hx => .inl hx, hd⟩
  | d :: ds, i + 1, cs, O, e, h, he => by
    simp only [RelL] at h
    obtain ⟨c1, c2, O1, O2, h1, h2, h3, h4, h5, h6⟩ := h
    simp at he
    obtain ⟨x1, x2, x3, Oe, Or, k1, k2, k3, k4, k5, k6, k7⟩ := relL_lens ds i c2 O2 e h3 he
    refine ⟨c1 ++ x1, x2, x3, Oe, Or2 O1 Or, by rw [h1, k1]; simp, by simp [D.ncL, Rel.len d c1 O1 h2, k2], k3, fun x hx => h5 x (k4 x hx), ?_, ?_, ?_⟩
    · rintro x (hx | hx)
      · exact h4 x hx
      · exact h5 x (k5 x hx)
    · rintro x hx (hy | hy)
      · exact h6 x hy (k4 x hx)
      · exact k6 x hx hy
    · intro β' w' R' f c2' Oe' hβ hR hw ho hr hd
      simp only [List.modify_succ_cons, RelL]
      refine ⟨c1, x1 ++ (c2' ++ x3), O1, Or2 Or Oe', by simp, Rel.up hβ hR hw d c1 O1 O1 (fun x hx => ho x (.inl hx)) (fun _ x => x) h2, k7 β' w' R' f c2' Oe' hβ hR hw (fun x hx => ho x (.inr hx)) hr (fun x a b => hd x a (.inr b)), fun x hx => .inl (.inl hx), ?_, ?_⟩
      · rintro x (hx | hx)
        · exact .inl (.inr hx)
        · exact .inr hx
      · rintro x hx (hy | hy)
        · exact h6 x hx (k5 x hy)
        · exact hd x hy (.inl hx)

/-- Of the blocks S nothing has turned but, at 'pos', n cells. -/
def OutSame (w w' : World) (pos : Pos) (n : Nat) (S : Nat → Prop) : Prop :=
  ∀ x, S x → w'.heap[x]? = w.heap[x]? ∨ ∃ off all all' T, pos = .mem x off ∧ w.heap[x]? = some (.cells all T (0, 0)) ∧ w'.heap[x]? = some (.cells all' T (0, 0)) ∧ all'.size = all.size ∧
    ∀ o, o < off ∨ off + n ≤ o → all'[o]? = all[o]?

/-- The block of a position in memory. -/
def Pos.isIn : Pos → Nat → Prop
  | .mem b _, x => b = x
  | .slot _, _ => False

/-- From (d, pos), which owns O, to (e, pos'): what e owns, what the rest owns, and that the rest stands whatever is put in e's place. -/
def Lens (β : Env) (w : World) (R : Blk) (d : D) (pos : Pos) (O : Blk) (e : D) (pos' : Pos) (f : D → D) : Prop :=
  ∃ Oe Or, (∀ x, Oe x → O x) ∧ (∀ x, Or x → O x) ∧ Disj Oe Or ∧ At β w R e pos' Oe ∧
    (∀ b off, pos' = .mem b off → Or b ∨ ∃ off0, pos = .mem b off0 ∧ off0 ≤ off ∧ off + e.nc ≤ off0 + d.nc) ∧ (∀ c, pos' = .slot c → pos = .slot c) ∧
    ∀ (β' : Env) (w' : World) (R' : Blk) (e' : D) (Oe' : Blk), (∀ b x, β b = some x → β' b = some x) → (∀ x, R x → R' x) → e'.nc = e.nc →
      OutSame w w' pos' e.nc (fun x => R x ∨ Or x ∨ pos.isIn x) → At β' w' R' e' pos' Oe' → Disj Oe' Or → Disj R' Or → (∀ x, pos.isIn x → ¬ Oe' x) → (∀ x, pos.isIn x → ¬ R' x) →
      At β' w' R' (f e') pos (Or2 Or Oe') ∧ (f e').nc = d.nc

theorem At.mono {β : Env} {w : World} {R O O' : Blk} {d : D} {pos : Pos} (h : At β w R d pos O) (hs : ∀ x, O x → O' x) (hb : ∀ x, pos.isIn x → ¬ O' x) : At β w R d pos O' := by
  cases pos with
  | slot c => exact Rel.up (fun _ _ x => x) (fun _ x => x) (fun _ _ => rfl) d _ _ _ (fun _ _ => rfl) hs h
  | mem b off =>
    obtain ⟨cs, h1, h2, h3, h4⟩ := h
    exact ⟨cs, h1, Rel.up (fun _ _ x => x) (fun _ x => x) (fun _ _ => rfl) d _ _ _ (fun _ _ => rfl) hs h2, hb b rfl, h4⟩

theorem Lens.refl {β : Env} {w : World} {R O : Blk} {d : D} {pos : Pos} (h : At β w R d pos O) : Lens β w R d pos O d pos (fun e => e) := by
  refine ⟨O, Blk.emp, fun _ x => x, fun _ x => x.elim, fun _ _ x => x.elim, h, fun b off hp => .inr ⟨off, hp, Nat.le_refl _, Nat.le_refl _⟩, fun _ h => h, ?_⟩
  intro β' w' R' e' Oe' hβ hR hn hs ha hd _ hp hq
  refine ⟨?_, hn⟩
  cases pos with
  | slot c => exact Rel.up (fun _ _ x => x) (fun _ x => x) (fun _ _ => rfl) e' _ _ _ (fun _ _ => rfl) (fun x hx => .inr hx) ha
  | mem b off =>
    obtain ⟨cs, h1, h2, h3, h4⟩ := ha
    exact ⟨cs, h1, Rel.up (fun _ _ x => x) (fun _ x => x) (fun _ _ => rfl) e' _ _ _ (fun _ _ => rfl) (fun x hx => .inr hx) h2, fun h => h.elim (fun x => x.elim) h3, h4⟩

theorem Lens.trans {β : Env} {w : World} {R O : Blk} {d d1 e : D} {pos pos1 pos' : Pos} {f g : D → D} (hRO : Disj R O) (hp : ∀ x, pos.isIn x → ¬ O x ∧ ¬ R x)
    (h : Lens β w R d pos O d1 pos1 f) (k : ∀ O1, At β w R d1 pos1 O1 → (∀ x, O1 x → O x) → Lens β w R d1 pos1 O1 e pos' g) : Lens β w R d pos O e pos' (fun z => f (g z)) := by
  obtain ⟨Oe1, Or1, a1, a2, a3, a4, a5, a5', a6⟩ := h
  obtain ⟨Oe, Or', b1, b2, b3, b4, b5, b5', b6⟩ := k Oe1 a4 a1
  have in1 : ∀ x, pos1.isIn x → Or1 x ∨ pos.isIn x := by
    intro x hx
    cases pos1 with
    | slot c => exact hx.elim
    | mem b off =>
      simp only [Pos.isIn] at hx
      subst hx
      rcases a5 b off rfl with h | ⟨off0, h, _⟩
      · exact .inl h
      · exact .inr (by rw [h]; rfl)
  have out1 : ∀ x, pos1.isIn x → ¬ Oe1 x ∧ ¬ R x := by
    intro x hx
    rcases in1 x hx with h | h
    · exact ⟨fun hh => a3 x hh h, fun hh => hRO x hh (a2 x h)⟩
    · exact ⟨fun hh => (hp x h).1 (a1 x hh), (hp x h).2⟩
  refine ⟨Oe, Or2 Or1 Or', fun x hx => a1 x (b1 x hx), ?_, ?_, b4, ?_, fun c hc => a5' c (b5' c hc), ?_⟩
  · rintro x (hx | hx)
    · exact a2 x hx
    · exact a1 x (b2 x hx)
  · rintro x hx (hy | hy)
    · exact a3 x (b1 x hx) hy
    · exact b3 x hx hy
  · intro b off hb
    rcases b5 b off hb with h | ⟨off1, h1, h2, h3⟩
    · exact .inl (.inr h)
    · rcases a5 b off1 h1 with h | ⟨off0, h0, h4, h5⟩
      · exact .inl (.inl h)
      · exact .inr ⟨off0, h0, by omega, by omega⟩
  · intro β' w' R' e' Oe' hβ hR hn hs ha hd hd' hq hr
    have hq1 : ∀ x, pos1.isIn x → ¬ Oe' x := by
      intro x hx hh
      rcases in1 x hx with h | h
      · exact hd x hh (.inl h)
      · exact hq x h hh
    have hs1 : OutSame w w' pos' e.nc (fun x => R x ∨ Or' x ∨ pos1.isIn x) := by
      intro x hx
      rcases hx with h | h | h
      · exact hs x (.inl h)
      · exact hs x (.inr (.inl (.inr h)))
      · rcases in1 x h with h | h
        · exact hs x (.inr (.inl (.inl h)))
        · exact hs x (.inr (.inr h))
    have hh : ∀ x, pos1.isIn x → ¬ R' x := fun x hx => (in1 x hx).elim (fun h hR' => hd' x hR' (.inl h)) (fun h => hr x h)
    obtain ⟨c1, c2⟩ := b6 β' w' R' e' Oe' hβ hR hn hs1 ha (fun x a b => hd x a (.inr b)) (fun x a b => hd' x a (.inr b)) hq1 hh
    obtain ⟨r1, r2⟩ := a6 β' w' R' (g e') (Or2 Or' Oe') hβ hR c2 (by
        intro x hx
        rcases hs x (by rcases hx with h | h | h; exact .inl h; exact .inr (.inl (.inl h)); exact .inr (.inr h)) with h | ⟨off, all, all', T, h1, h2, h3, h4, h5⟩
        · exact .inl h
        · rcases b5 x off h1 with h | ⟨off1, k1, k2, k3⟩
          · exfalso
            rcases hx with g1 | g1 | g1
            · exact hRO x g1 (a1 x (b2 x h))
            · exact a3 x (b2 x h) g1
            · exact (hp x g1).1 (a1 x (b2 x h))
          · exact .inr ⟨off1, all, all', T, k1, h2, h3, h4, fun o ho => h5 o (by omega)⟩) c1 (by
        rintro x (h | h) hy
        · exact a3 x (b2 x h) hy
        · exact hd x h (.inl hy)) (fun x a b => hd' x a (.inl b)) (by
        rintro x hx (h | h)
        · exact (hp x hx).1 (a1 x (b2 x h))
        · exact hq x hx h) hr
    refine ⟨At.mono r1 (by rintro x (h | h | h); exact .inl (.inl h); exact .inl (.inr h); exact .inr h) (by
      rintro x hx (h | h) 
      · rcases h with h | h
        · exact (hp x hx).1 (a2 x h)
        · exact (hp x hx).1 (a1 x (b2 x h))
      · exact hq x hx h), r2⟩

/-- Something else at one step. -/
def D.set1 (i : Nat) (z d : D) : D :=
  match d with
  | .agg ds => .agg (ds.modify i fun _ => z)
  | .own nn sz ds => .own nn sz (ds.modify i fun _ => z)
  | .cell _ => .cell z
  | d => d

theorem ncL_modify {z : D} : ∀ (ds : List D) (i : Nat) (e : D), ds[i]? = some e → z.nc = e.nc → D.ncL (ds.modify i fun _ => z) = D.ncL ds
  | [], i, e, h, hz => by simp at h
  | d :: ds, 0, e, h, hz => by simp at h; subst h; simp [D.ncL, hz]
  | d :: ds, i + 1, e, h, hz => by simp at h; simp [D.ncL, ncL_modify ds i e h hz]
theorem nc_modify {z : D} {sz : Nat} {ds : List D} {i : Nat} {e : D} (h : ds[i]? = some e) (hz : z.nc = e.nc) (hs : ∀ d ∈ ds, d.nc = sz) : ∀ d ∈ ds.modify i fun _ => z, d.nc = sz := by
  intro d hd
  obtain ⟨k, hk⟩ := List.mem_iff_getElem?.1 hd
  rw [List.getElem?_modify] at hk
  by_cases hik : i = k
  · subst hik
    simp [h] at hk
    rw [← hk, hz]
    exact hs e (List.mem_of_getElem? h)
  · simp [hik] at hk
    exact hs d (List.mem_of_getElem? hk)

theorem header_same {w w' : World} {pos : Pos} {c : Value} (h : pos.val w = some c) (hs : ∀ x, pos.isIn x → w'.heap[x]? = w.heap[x]?) : pos.val w' = some c := by
  cases pos with
  | slot c' => exact h
  | mem b off =>
    simp only [Pos.val] at h ⊢
    rw [← h]
    simp only [World.cell?]
    rw [hs b rfl]
theorem at_one {β : Env} {w : World} {R O : Blk} {d : D} {pos : Pos} {c : Value} (h1 : d.nc = 1) (h : At β w R d pos O) (hv : pos.val w = some c) : Rel β w R d [c] O := by
  cases pos with
  | slot c' => simp [Pos.val] at hv; subst hv; exact h
  | mem b off =>
    obtain ⟨cs, hc, hr, hb, hRb⟩ := h
    have hl := Rel.len _ _ _ hr
    rw [h1] at hl
    have := hc.cell 0 (by omega)
    simp only [Nat.add_zero] at this
    rw [show Pos.val w (.mem b off) = w.cell? ⟨b, off, none⟩ from rfl, this] at hv
    match cs, hl with
    | [x], _ =>
      simp at hv
      rw [← hv]; exact hr
theorem one_at {β : Env} {w : World} {R O : Blk} {d : D} {pos : Pos} {c : Value} (h : Rel β w R d [c] O) (hv : ∀ b off, pos = .mem b off → Cells w b off [c]) (hs : ∀ c', pos = .slot c' → c' = c)
    (h1 : ∀ x, pos.isIn x → ¬ O x ∧ ¬ R x) : At β w R d pos O := by
  cases pos with
  | slot c' => rw [hs c' rfl]; exact h
  | mem b off => exact ⟨[c], hv b off rfl, h, (h1 b rfl).1, (h1 b rfl).2⟩

theorem own_lens {β : Env} {w : World} {R O : Blk} {nn : Bool} {sz i : Nat} {ds : List D} {e : D} {c : Value} {pos : Pos} (hr : Rel β w R (.own nn sz ds) [c] O) (hv : pos.val w = some c) (hcell : ∀ b off, pos = .mem b off → Cells w b off [c])
    (hp : ∀ x, pos.isIn x → ¬ O x ∧ ¬ R x) (hRO : Disj R O) (he : ds[i]? = some e) :
    ∃ b off len cap, c = .slice (some ⟨b, off, none⟩) len cap ∧ Lens β w R (.own nn sz ds) pos O e (.mem b (off + i * sz)) (fun z => D.set1 i z (.own nn sz ds)) := by
  have hr' := hr
  simp only [Rel] at hr'
  rcases hr' with ⟨_, h0, _⟩ | ⟨b, off, len, cap, all, T, O1, h1, h2, h3, h4, h5, h6, h7, h8, h9, h10⟩
  · rw [h0] at he; simp at he
  simp at h1
  subst h1
  refine ⟨b, off, len, cap, rfl, ?_⟩
  have hle : off + len * sz ≤ all.size := by have := Nat.mul_le_mul_right sz h5.1; omega
  obtain ⟨k1, k2⟩ := of_take_drop hle
  obtain ⟨c1, c2, c3, Oe, Or, m1, m2, m3, m4, m5, m6, m7⟩ := relL_lens ds i _ O1 e h10 he
  have hcs : Cells w b off ((all.toList.drop off).take (len * sz)) := ⟨all, T, h3, by rw [k1]; exact hle, fun k hk => k2 k (by rwa [k1] at hk)⟩
  have hi : i < ds.length := (List.getElem?_eq_some_iff.1 he).1
  rw [ncL_take ds i h7 (by omega)] at m2
  have hnc : e.nc = sz := h7 e (List.mem_of_getElem? he)
  have hl2 : c2.length = e.nc := Rel.len e c2 Oe m3
  have hsum : c1.length + c2.length + c3.length = len * sz := by rw [← k1, m1]; simp; omega
  rw [m1] at hcs
  have hc1 := hcs.left
  have hc2 := cells_split3 hcs
  have hc3 : Cells w b (off + c1.length + c2.length) c3 := hcs.right.right
  refine ⟨Oe, Or2 (fun x => x = b) Or, fun x hx => h8 x (m4 x hx), ?_, ?_, ⟨c2, by rw [← m2]; exact hc2, m3, fun hx => h9 (m4 b hx), fun hx => hRO b hx h2⟩, ?_, ?_, ?_⟩
  · rintro x (hx | hx)
    · rw [hx]; exact h2
    · exact h8 x (m5 x hx)
  · rintro x hx (hy | hy)
    · subst hy; exact h9 (m4 x hx)
    · exact m6 x hx hy
  · intro b' off' hb
    injection hb with hb
    exact .inl (.inl hb.symm)
  · intro c hc; cases hc
  · intro β' w' R' e' Oe' hβ hR hn hs ha hd hd' hq hr2
    refine ⟨?_, by simp [D.set1, D.nc]⟩
    obtain ⟨cs', a1, a2, a3, a4⟩ := ha
    have hl' : cs'.length = sz := by rw [Rel.len e' cs' Oe' a2, hn, hnc]
    -- the row's own block
    obtain ⟨all', T', b1, b2, b3⟩ := a1
    have hsb : ∃ all2, w'.heap[b]? = some (.cells all2 T (0, 0)) ∧ all2.size = all.size ∧ ∀ o, o < off + i * sz ∨ off + i * sz + e.nc ≤ o → all2[o]? = all[o]? := by
      rcases hs b (.inr (.inl (.inl rfl))) with h | ⟨off', x, x', T2, g1, g2, g3, g4, g5⟩
      · exact ⟨all, h.trans h3, rfl, fun _ _ => rfl⟩
      · rw [h3] at g2
        injection g2 with g2
        injection g2 with g2 g2'
        subst g2 g2'
        injection g1 with _ g1
        subst g1
        exact ⟨x', g3, g4, g5⟩
    obtain ⟨all2, d1, d2, d3⟩ := hsb
    rw [b1] at d1
    injection d1 with d1
    injection d1 with d1 d1'
    subst d1 d1'
    have same : ∀ {o0 : Nat} {xs : List Value}, Cells w b o0 xs → (o0 + xs.length ≤ off + i * sz ∨ off + i * sz + e.nc ≤ o0) → Cells w' b o0 xs := by
      intro o0 xs hx ho
      obtain ⟨y, Ty, y1, y2, y3⟩ := hx
      rw [h3] at y1
      injection y1 with y1
      injection y1 with y1 y1'
      subst y1 y1'
      exact ⟨all', T', b1, by omega, fun k hk => by rw [d3 (o0 + k) (by omega)]; exact y3 k hk⟩
    have hall : Cells w' b off (c1 ++ (cs' ++ c3)) :=
      (same hc1 (by omega)).both ((show Cells w' b (off + c1.length) cs' by rw [m2]; exact ⟨all', T', b1, b2, b3⟩).both (same (by rw [hl', ← hnc, ← hl2]; exact hc3) (by omega)))
    have hlen : (c1 ++ (cs' ++ c3)).length = len * sz := by simp; omega
    have rl := m7 β' w' R' (fun _ => e') cs' Oe' hβ hR (fun x hx => by
        rcases hs x (.inl hx) with h | ⟨off', x0, x', T2, g1, g2, g3, g4, g5⟩
        · exact h
        · injection g1 with g1; exact absurd hx (by rw [← g1]; exact fun hh => hRO b hh h2)) (fun x hx => by
        rcases hs x (.inr (.inl (.inr hx))) with h | ⟨off', x0, x', T2, g1, g2, g3, g4, g5⟩
        · exact h
        · injection g1 with g1; exact absurd (m5 x hx) (by rw [← g1]; exact h9)) a2 (fun x a b => hd x a (.inr b))
    have hsame : ∀ x, pos.isIn x → w'.heap[x]? = w.heap[x]? := by
      intro x hx
      rcases hs x (.inr (.inr hx)) with h | ⟨off', x0, x', T2, g1, g2, g3, g4, g5⟩
      · exact h
      · injection g1 with g1; exact absurd h2 (by rw [g1]; exact (hp x hx).1)
    have hrel : Rel β' w' R' (.own nn sz (ds.modify i fun _ => e')) [.slice (some ⟨b, off, none⟩) len cap] (Or2 (Or2 (fun x => x = b) Or) Oe') := by
      simp only [Rel]
      refine .inr ⟨b, off, len, cap, all', T', Or2 Or Oe', rfl, .inl (.inl rfl), b1, by simpa using h4, by simpa using h5, by omega, nc_modify he hn h7, ?_, ?_, ?_⟩
      · rintro x (hx | hx)
        · exact .inl (.inr hx)
        · exact .inr hx
      · rintro (hx | hx)
        · exact h9 (m5 b hx)
        · exact hd b hx (.inl rfl)
      · obtain ⟨y, Ty, y1, y2, y3⟩ := hall
        rw [b1] at y1
        injection y1 with y1
        injection y1 with y1 y1'
        subst y1 y1'
        rw [← hlen, take_drop_of y2 y3]
        exact rl
    refine one_at hrel (fun b' off' hb => (hcell b' off' hb).keep (hsame b' (by rw [hb]; rfl))) ?_ ?_
    · intro c' hc; subst hc; simpa [Pos.val] using hv
    · intro x hx
      refine ⟨?_, hr2 x hx⟩
      rintro ((h | h) | h)
      · subst h; exact (hp x hx).1 h2
      · exact (hp x hx).1 (h8 x (m5 x h))
      · exact hq x hx h

theorem cell_lens {β : Env} {w : World} {R O : Blk} {e : D} {c : Value} {pos : Pos} (hr : Rel β w R (.cell e) [c] O) (hv : pos.val w = some c) (hcell : ∀ b off, pos = .mem b off → Cells w b off [c])
    (hp : ∀ x, pos.isIn x → ¬ O x ∧ ¬ R x) (hRO : Disj R O) :
    ∃ b, c = .pointer (some ⟨b, 0, none⟩) ∧ Lens β w R (.cell e) pos O e (.mem b 0) (fun z => D.set1 0 z (.cell e)) := by
  have hr' := hr
  simp only [Rel] at hr'
  obtain ⟨b, all, T, O1, h1, h2, h3, h4, h5, h6⟩ := hr'
  simp at h1
  subst h1
  refine ⟨b, rfl, ?_⟩
  have hl : all.toList.length = e.nc := Rel.len _ _ _ h6
  refine ⟨O1, fun x => x = b, h4, fun x hx => by rw [hx]; exact h2, fun x hx hy => by subst hy; exact h5 hx, ⟨all.toList, ⟨all, T, h3, by simp, fun k hk => by simp⟩, h6, h5, fun hx => hRO b hx h2⟩, ?_, ?_, ?_⟩
  · intro b' off' hb
    injection hb with hb
    exact .inl hb.symm
  · intro c hc; cases hc
  · intro β' w' R' e' Oe' hβ hR hn hs ha hd hd' hq hr2
    refine ⟨?_, by simp [D.set1, D.nc]⟩
    obtain ⟨cs', a1, a2, a3, a4⟩ := ha
    obtain ⟨all', T', b1, b2, b3⟩ := a1
    have hsz : all'.size = all.size := by
      rcases hs b (.inr (.inl rfl)) with h | ⟨off', x, x', T2, g1, g2, g3, g4, g5⟩
      · rw [b1, h3] at h
        injection h with h
        injection h with h
        rw [h]
      · rw [h3] at g2
        injection g2 with g2
        injection g2 with g2 g2'
        rw [b1] at g3
        injection g3 with g3
        injection g3 with g3 g3'
        rw [g3, g2]; exact g4
    have hl' : cs'.length = e'.nc := Rel.len _ _ _ a2
    have hcs : cs' = all'.toList := by
      apply List.ext_getElem?
      intro k
      rcases Nat.lt_or_ge k cs'.length with hk | hk
      · rw [← b3 k hk, Nat.zero_add, Array.getElem?_toList]
      · rw [List.getElem?_eq_none hk, List.getElem?_eq_none]
        simp at hl ⊢; omega
    have hsame : ∀ x, pos.isIn x → w'.heap[x]? = w.heap[x]? := by
      intro x hx
      rcases hs x (.inr (.inr hx)) with h | ⟨off', x0, x', T2, g1, g2, g3, g4, g5⟩
      · exact h
      · injection g1 with g1; exact absurd h2 (by rw [g1]; exact (hp x hx).1)
    have hrel : Rel β' w' R' (.cell e') [.pointer (some ⟨b, 0, none⟩)] (Or2 (fun x => x = b) Oe') := by
      simp only [Rel]
      exact ⟨b, all', T', Oe', rfl, .inl rfl, b1, fun x hx => .inr hx, fun hx => hd b hx rfl, hcs ▸ a2⟩
    refine one_at hrel (fun b' off' hb => (hcell b' off' hb).keep (hsame b' (by rw [hb]; rfl))) ?_ ?_
    · intro c' hc; subst hc; simpa [Pos.val] using hv
    · intro x hx
      refine ⟨?_, hr2 x hx⟩
      rintro (h | h)
      · subst h; exact (hp x hx).1 h2
      · exact hq x hx h

theorem agg_lens {β : Env} {w : World} {R O : Blk} {ds : List D} {i b off : Nat} {e : D} (h : At β w R (.agg ds) (.mem b off) O) (hRO : Disj R O) (he : ds[i]? = some e) :
    Lens β w R (.agg ds) (.mem b off) O e (.mem b (off + D.ncL (ds.take i))) (fun z => D.set1 i z (.agg ds)) := by
  obtain ⟨cs, hc, hr, hb, hRb⟩ := h
  have hlen := Rel.len _ _ _ hr
  simp only [Rel] at hr
  obtain ⟨c1, c2, c3, Oe, Or, m1, m2, m3, m4, m5, m6, m7⟩ := relL_lens ds i _ O e hr he
  have hl2 : c2.length = e.nc := Rel.len e c2 Oe m3
  rw [m1] at hc hlen
  have hc1 := hc.left
  have hc2 := cells_split3 hc
  have hc3 : Cells w b (off + c1.length + c2.length) c3 := hc.right.right
  simp only [List.length_append] at hlen
  refine ⟨Oe, Or, m4, m5, m6, ⟨c2, by rw [← m2]; exact hc2, m3, fun hx => hb (m4 b hx), hRb⟩, ?_, ?_, ?_⟩
  · intro b' off' hb'
    injection hb' with h1 h2
    subst h1 h2
    exact .inr ⟨off, rfl, by omega, by omega⟩
  · intro c hc; cases hc
  · intro β' w' R' e' Oe' hβ hR hn hs ha hd hd' hq hr2
    have hnc : (D.set1 i e' (.agg ds)).nc = (D.agg ds).nc := by simp only [D.set1, D.nc]; exact ncL_modify ds i e he hn
    refine ⟨?_, hnc⟩
    obtain ⟨cs', a1, a2, a3, a4⟩ := ha
    have hl' : cs'.length = e.nc := by rw [Rel.len e' cs' Oe' a2, hn]
    obtain ⟨all', T', b1, b2, b3⟩ := a1
    obtain ⟨all, T, z1, z2, z3⟩ := hc
    have hsb : all'.size = all.size ∧ T = T' ∧ ∀ o, o < off + c1.length ∨ off + c1.length + e.nc ≤ o → all'[o]? = all[o]? := by
      rcases hs b (.inr (.inr rfl)) with h | ⟨off', x, x', T2, g1, g2, g3, g4, g5⟩
      · rw [b1, z1] at h
        injection h with h
        injection h with h h'
        subst h
        exact ⟨rfl, h'.symm, fun _ _ => rfl⟩
      · rw [z1] at g2
        injection g2 with g2
        injection g2 with g2 g2'
        rw [b1] at g3
        injection g3 with g3
        injection g3 with g3 g3'
        injection g1 with _ g1
        rw [← m2] at g1
        subst g1 g2 g3
        exact ⟨g4, g2'.trans g3'.symm, g5⟩
    obtain ⟨d2, dT, d3⟩ := hsb
    subst dT
    have same : ∀ {o0 : Nat} {xs : List Value}, Cells w b o0 xs → (o0 + xs.length ≤ off + c1.length ∨ off + c1.length + e.nc ≤ o0) → Cells w' b o0 xs := by
      intro o0 xs hx ho
      obtain ⟨y, Ty, y1, y2, y3⟩ := hx
      rw [z1] at y1
      injection y1 with y1
      injection y1 with y1 y1'
      subst y1 y1'
      exact ⟨all', T, b1, by omega, fun k hk => by rw [d3 (o0 + k) (by omega)]; exact y3 k hk⟩
    refine ⟨c1 ++ (cs' ++ c3), (same hc1 (by omega)).both ((show Cells w' b (off + c1.length) cs' by rw [m2]; exact ⟨all', T, b1, b2, b3⟩).both (same (by rw [hl', ← hl2]; exact hc3) (by omega))), ?_, ?_, hr2 b rfl⟩
    · simp only [D.set1, Rel]
      exact m7 β' w' R' (fun _ => e') cs' Oe' hβ hR (fun x hx => by
        rcases hs x (.inl hx) with h | ⟨off', x0, x', T2, g1, g2, g3, g4, g5⟩
        · exact h
        · injection g1 with g1; exact absurd hx (by rw [← g1]; exact hRb)) (fun x hx => by
        rcases hs x (.inr (.inl hx)) with h | ⟨off', x0, x', T2, g1, g2, g3, g4, g5⟩
        · exact h
        · injection g1 with g1; exact absurd (m5 x hx) (by rw [← g1]; exact hb)) a2 hd
    · rintro (h | h)
      · exact hb (m5 b h)
      · exact hq b rfl h

theorem lens_step {β : Env} {w : World} {R O : Blk} {d e : D} {pos pos' : Pos} {i : Nat} (h : At β w R d pos O) (hRO : Disj R O) (hp : ∀ x, pos.isIn x → ¬ O x ∧ ¬ R x) (hs : step1 w d pos i = some (e, pos')) :
    Lens β w R d pos O e pos' (fun z => D.set1 i z d) := by
  have hcell : ∀ c, d.nc = 1 → pos.val w = some c → ∀ b off, pos = .mem b off → Cells w b off [c] := by
    intro c h1 hv b off hb
    subst hb
    obtain ⟨cs, hc, hr, _⟩ := h
    have hl := Rel.len _ _ _ hr
    rw [h1] at hl
    have := hc.cell 0 (by omega)
    simp only [Nat.add_zero] at this
    rw [show Pos.val w (.mem b off) = w.cell? ⟨b, off, none⟩ from rfl, this] at hv
    match cs, hl with
    | [x], _ => simp at hv; rw [← hv]; exact hc
  unfold step1 at hs
  split at hs
  · rename_i ds
    cases pos with
    | slot c => simp at hs
    | mem b off =>
      simp only [Option.map_eq_some_iff] at hs
      obtain ⟨e', he, hs⟩ := hs
      injection hs with h1 h2
      subst h1 h2
      exact agg_lens h hRO he
  · rename_i nn sz ds
    split at hs
    · rename_i a len cap hv
      simp only [Option.map_eq_some_iff] at hs
      obtain ⟨e', he, hs⟩ := hs
      injection hs with h1 h2
      subst h1 h2
      obtain ⟨b, off, len', cap', h1, h2⟩ := own_lens (at_one rfl h hv) hv (hcell _ rfl hv) hp hRO he
      injection h1 with h1
      injection h1 with h1
      subst h1
      exact h2
    · simp at hs
  · rename_i e0
    split at hs
    · rename_i a hv
      split at hs
      · rename_i hi
        simp only [Option.some.injEq, Prod.mk.injEq] at hs
        obtain ⟨h1, h2⟩ := hs
        subst h1 h2 hi
        obtain ⟨b, h1, h2⟩ := cell_lens (at_one rfl h hv) hv (hcell _ rfl hv) hp hRO
        injection h1 with h1
        injection h1 with h1
        subst h1
        exact h2
      · simp at hs
    · simp at hs
  · simp at hs

theorem modify_at {f : D → D} {e : D} : ∀ (ds : List D) (i : Nat), ds[i]? = some e → ds.modify i f = ds.modify i fun _ => f e
  | [], i, h => by simp at h
  | d :: ds, 0, h => by simp at h; simp [h]
  | d :: ds, i + 1, h => by simp at h; simp [modify_at ds i h]

theorem lens_walk {β : Env} {w : World} {R : Blk} : ∀ (p : List Nat) (d e : D) (pos pos' : Pos) (O : Blk), At β w R d pos O → Disj R O → (∀ x, pos.isIn x → ¬ O x ∧ ¬ R x) → walk w p d pos = some (e, pos') →
    Lens β w R d pos O e pos' (fun z => D.setp p z d)
  | [], d, e, pos, pos', O, h, hRO, hp, hs => by
    simp only [walk, Option.some.injEq, Prod.mk.injEq] at hs
    obtain ⟨h1, h2⟩ := hs
    subst h1 h2
    exact Lens.refl h
  | i :: p, d, e, pos, pos', O, h, hRO, hp, hs => by
    simp only [walk] at hs
    split at hs
    · rename_i e1 pos1 h1
      have l1 := lens_step h hRO hp h1
      have l2 := Lens.trans hRO hp l1 (g := fun z => D.setp p z e1) (e := e) (pos' := pos') fun O1 ha hsub => lens_walk p e1 e pos1 pos' O1 ha (fun x a b => hRO x a (hsub x b)) (by
        intro x hx
        cases pos1 with
        | slot c => exact hx.elim
        | mem b off =>
          simp only [Pos.isIn] at hx
          subst hx
          obtain ⟨cs, _, _, q1, q2⟩ := ha
          exact ⟨q1, q2⟩) hs
      have he : (fun z => D.setp (i :: p) z d) = fun z => D.set1 i (D.setp p z e1) d := by
        funext z
        unfold step1 at h1
        split at h1
        · split at h1 <;> simp at h1
          obtain ⟨x, hx, h1, _⟩ := h1
          subst h1
          simp [D.setp, D.set1, modify_at _ i hx]
        · split at h1 <;> simp at h1
          obtain ⟨x, hx, h1, _⟩ := h1
          subst h1
          simp [D.setp, D.set1, modify_at _ i hx]
        · split at h1 <;> simp at h1
          obtain ⟨hi, h1, _⟩ := h1
          subst h1 hi
          simp [D.setp, D.set1]
        · simp at h1
      rw [he]; exact l2
    · simp at hs
end
end Go.Proofs.YtfbppkjjdbkedaaGreatDoor.Ref
/-
  The abstract machine, its state: what the slots hold, the boxes; how it stands to a frame and a world.
-/
namespace Go.Proofs.YtfbppkjjdbkedaaGreatDoor.Ref
noncomputable section
open Go
set_option linter.unusedVariables false

mutual
/-- Nothing in it is owned. -/
def D.ro : D → Bool
  | .agg ds => D.roL ds
  | .tup ds => D.roL ds
  | .own _ _ _ | .cell _ | .mapo _ _ => false
  | _ => true
def D.roL : List D → Bool
  | [] => true
  | d :: ds => d.ro && D.roL ds
end
mutual
/-- Nobody turns it any more. -/
def D.frz : D → D
  | .agg ds => .agg (D.frzL ds)
  | .own nn sz ds => .row nn sz (D.frzL ds)
  | .cell d => .fz d.frz
  | .mapo ks ds => .fmp ks (D.frzL ds)
  | .tup ds => .tup (D.frzL ds)
  | d => d
def D.frzL : List D → List D
  | [] => []
  | d :: ds => d.frz :: D.frzL ds
end
mutual
theorem D.frz_nc : ∀ d : D, d.frz.nc = d.nc
  | .agg ds => by simp only [D.frz, D.nc]; exact D.frzL_nc ds
  | .own _ _ _ | .cell _ | .mapo _ _ | .v _ | .row _ _ _ | .fz _ | .ref _ _ _ | .fmp _ _ | .fn _ _ | .ifc _ _ | .tup _ | .und | .dead => by simp [D.frz, D.nc]
theorem D.frzL_nc : ∀ ds : List D, D.ncL (D.frzL ds) = D.ncL ds
  | [] => rfl
  | d :: ds => by simp only [D.frzL, D.ncL, D.frz_nc d, D.frzL_nc ds]
end
theorem D.frzL_len : ∀ ds : List D, (D.frzL ds).length = ds.length
  | [] => rfl
  | d :: ds => by simp [D.frzL, D.frzL_len ds]
theorem D.frzL_all {sz : Nat} : ∀ ds : List D, (∀ d ∈ ds, d.nc = sz) → ∀ d ∈ D.frzL ds, d.nc = sz
  | [], h => by simp [D.frzL]
  | d :: ds, h => by
    intro e he
    simp only [D.frzL, List.mem_cons] at he
    rcases he with rfl | he
    · rw [D.frz_nc]; exact h d (by simp)
    · exact D.frzL_all ds (fun x hx => h x (by simp [hx])) e he
mutual
theorem D.frz_ro : ∀ d : D, d.ro = true → d.frz = d
  | .agg ds, h => by simp only [D.ro] at h; simp only [D.frz, D.frzL_ro ds h]
  | .tup ds, h => by simp only [D.ro] at h; simp only [D.frz, D.frzL_ro ds h]
  | .own _ _ _, h | .cell _, h | .mapo _ _, h => by simp [D.ro] at h
  | .v _, h | .row _ _ _, h | .fz _, h | .ref _ _ _, h | .fmp _ _, h | .fn _ _, h | .ifc _ _, h | .und, h | .dead, h => by simp [D.frz]
theorem D.frzL_ro : ∀ ds : List D, D.roL ds = true → D.frzL ds = ds
  | [], h => rfl
  | d :: ds, h => by simp only [D.roL, Bool.and_eq_true] at h; simp only [D.frzL, D.frz_ro d h.1, D.frzL_ro ds h.2]
end
theorem packs_frz {d : D} {xs : List Value} {c : Value} (h : packs d xs c) : packs d.frz xs c := by
  cases d <;> simpa [D.frz, packs] using h

mutual
theorem Rel.ro {β : Env} {w : World} {R : Blk} : ∀ (d : D) (cs : List Value) (O : Blk), d.ro = true → Rel β w R d cs O → Rel β w R d cs Blk.emp
  | .agg ds, cs, O, hr, h => by simp only [Rel, D.ro] at h hr ⊢; exact RelL.ro ds cs O hr h
  | .own _ _ _, cs, O, hr, h | .cell _, cs, O, hr, h | .mapo _ _, cs, O, hr, h => by simp [D.ro] at hr
  | .v _, cs, O, hr, h => by simp only [Rel] at h ⊢; exact h
  | .row _ _ _, cs, O, hr, h => by simp only [Rel] at h ⊢; exact h
  | .fz _, cs, O, hr, h => by simp only [Rel] at h ⊢; exact h
  | .ref _ _ _, cs, O, hr, h => by simp only [Rel] at h ⊢; exact h
  | .fmp _ _, cs, O, hr, h => by simp only [Rel] at h ⊢; exact h
  | .fn _ _, cs, O, hr, h => by simp only [Rel] at h ⊢; exact h
  | .ifc _ _, cs, O, hr, h => by simp only [Rel] at h ⊢; exact h
  | .und, cs, O, hr, h | .tup _, cs, O, hr, h => by simp only [Rel] at h
  | .dead, cs, O, hr, h => by simp only [Rel] at h ⊢; exact h
theorem RelL.ro {β : Env} {w : World} {R : Blk} : ∀ (ds : List D) (cs : List Value) (O : Blk), D.roL ds = true → RelL β w R ds cs O → RelL β w R ds cs Blk.emp
  | [], cs, O, hr, h => by simp only [RelL] at h ⊢; exact h
  | d :: ds, cs, O, hr, h => by
    simp only [RelL, D.roL, Bool.and_eq_true] at h hr ⊢
    obtain ⟨c1, c2, O1, O2, h1, h2, h3, h4, h5, h6⟩ := h
    exact ⟨c1, c2, Blk.emp, Blk.emp, h1, Rel.ro d c1 O1 hr.1 h2, RelL.ro ds c2 O2 hr.2 h3, fun _ x => x, fun _ x => x, fun _ x => x.elim⟩
end

theorem or2_r {R O : Blk} : ∀ x, R x → Or2 R O x := fun _ h => .inl h
/-- With nothing owned, over more that is read. -/
theorem Rel.more {β : Env} {w : World} {R R' O : Blk} {d : D} {cs : List Value} (h : Rel β w R d cs O) (hR : ∀ x, R x → R' x) : Rel β w R' d cs O :=
  Rel.up (fun _ _ x => x) hR (fun _ _ => rfl) d cs O O (fun _ _ => rfl) (fun _ x => x) h
theorem RelL.more {β : Env} {w : World} {R R' O : Blk} {d : List D} {cs : List Value} (h : RelL β w R d cs O) (hR : ∀ x, R x → R' x) : RelL β w R' d cs O :=
  RelL.up (fun _ _ x => x) hR (fun _ _ => rfl) d cs O O (fun _ _ => rfl) (fun _ x => x) h
theorem RelVs.more {β : Env} {w : World} {R R' O : Blk} {d : List D} {cs : List Value} (h : RelVs β w R d cs O) (hR : ∀ x, R x → R' x) : RelVs β w R' d cs O :=
  RelVs.up (fun _ _ x => x) hR (fun _ _ => rfl) d cs O O (fun _ _ => rfl) (fun _ x => x) h

mutual
theorem Rel.frz {β : Env} {w : World} {R : Blk} : ∀ (d : D) (cs : List Value) (O : Blk), Rel β w R d cs O → Rel β w (Or2 R O) d.frz cs Blk.emp
  | .agg ds, cs, O, h => by simp only [Rel, D.frz] at h ⊢; exact RelL.frz ds cs O h
  | .own nn sz ds, cs, O, h => by
    simp only [Rel, D.frz] at h ⊢
    rcases h with ⟨h1, h2, h3⟩ | ⟨b, off, len, cap, all, T, O', h1, h2, h3, h4, h5, h6, h7, h8, h9, h10⟩
    · exact .inl ⟨by rw [h2]; rfl, none, 0, h3, fun _ => ⟨h1, rfl⟩⟩
    refine .inr ⟨b, off, len, cap, all, T, (0, 0), h1, .inr h2, h3, by rw [D.frzL_len]; exact h4, by rw [D.frzL_len]; exact h5, by have := Nat.mul_le_mul_right sz h5.1; omega, D.frzL_all ds h7, ?_⟩
    exact (RelL.frz ds _ O' h10).more fun x hx => hx.elim .inl fun hx => .inr (h8 x hx)
  | .cell d, cs, O, h => by
    simp only [Rel, D.frz] at h ⊢
    obtain ⟨b, all, T, O', h1, h2, h3, h4, h5, h6⟩ := h
    have hl := Rel.len _ _ _ h6
    refine ⟨b, 0, all, T, (0, 0), h1, .inr h2, h3, by rw [D.frz_nc, ← hl]; simp, ?_⟩
    rw [D.frz_nc, ← hl, List.drop_zero, List.take_length]
    exact (Rel.frz d _ O' h6).more fun x hx => hx.elim .inl fun hx => .inr (h4 x hx)
  | .mapo ks ds, cs, O, h => by
    simp only [Rel, D.frz] at h ⊢
    obtain ⟨r, es, clock, O', h1, h2, h3, h4, h5, h6, h7⟩ := h
    exact ⟨r, es, clock, h1, .inr h2, h3, h6, (RelVs.frz ds _ O' h7).more fun x hx => hx.elim .inl fun hx => .inr (h4 x hx)⟩
  | .und, cs, O, h | .tup _, cs, O, h => by simp only [Rel] at h
  | .v _, cs, O, h => by simp only [D.frz]; exact (Rel.ro _ cs O (by simp [D.ro]) h).more or2_r
  | .row _ _ _, cs, O, h => by simp only [D.frz]; exact (Rel.ro _ cs O (by simp [D.ro]) h).more or2_r
  | .fz _, cs, O, h => by simp only [D.frz]; exact (Rel.ro _ cs O (by simp [D.ro]) h).more or2_r
  | .ref _ _ _, cs, O, h => by simp only [D.frz]; exact (Rel.ro _ cs O (by simp [D.ro]) h).more or2_r
  | .fmp _ _, cs, O, h => by simp only [D.frz]; exact (Rel.ro _ cs O (by simp [D.ro]) h).more or2_r
  | .fn _ _, cs, O, h => by simp only [D.frz]; exact (Rel.ro _ cs O (by simp [D.ro]) h).more or2_r
  | .ifc _ _, cs, O, h => by simp only [D.frz]; exact (Rel.ro _ cs O (by simp [D.ro]) h).more or2_r
  | .dead, cs, O, h => by simp only [D.frz]; exact (Rel.ro _ cs O (by simp [D.ro]) h).more or2_r
theorem RelL.frz {β : Env} {w : World} {R : Blk} : ∀ (ds : List D) (cs : List Value) (O : Blk), RelL β w R ds cs O → RelL β w (Or2 R O) (D.frzL ds) cs Blk.emp
  | [], cs, O, h => by simp only [RelL, D.frzL] at h ⊢; exact h
  | d :: ds, cs, O, h => by
    simp only [RelL, D.frzL] at h ⊢
    obtain ⟨c1, c2, O1, O2, h1, h2, h3, h4, h5, h6⟩ := h
    exact ⟨c1, c2, Blk.emp, Blk.emp, h1, (Rel.frz d c1 O1 h2).more fun x hx => hx.elim .inl fun hx => .inr (h4 x hx), (RelL.frz ds c2 O2 h3).more fun x hx => hx.elim .inl fun hx => .inr (h5 x hx), fun _ x => x, fun _ x => x, fun _ x => x.elim⟩
theorem RelVs.frz {β : Env} {w : World} {R : Blk} : ∀ (ds : List D) (cs : List Value) (O : Blk), RelVs β w R ds cs O → RelVs β w (Or2 R O) (D.frzL ds) cs Blk.emp
  | [], cs, O, h => by simp only [RelVs, D.frzL] at h ⊢; exact h
  | d :: ds, cs, O, h => by
    simp only [RelVs, D.frzL] at h ⊢
    obtain ⟨c, cs', xs, O1, O2, h1, h0, h2, h3, h4, h5, h6⟩ := h
    exact ⟨c, cs', xs, Blk.emp, Blk.emp, h1, packs_frz h0, (Rel.frz d xs O1 h2).more fun x hx => hx.elim .inl fun hx => .inr (h4 x hx), (RelVs.frz ds cs' O2 h3).more fun x hx => hx.elim .inl fun hx => .inr (h5 x hx), fun _ x => x, fun _ x => x, fun _ x => x.elim⟩
end

/-- What owns: a slot, or a box. -/
inductive Root where
  | slot (t : Nat)
  | box (b : Nat)
  deriving DecidableEq

/-- What a slot holds: data; or (hdr) the slice, map or pointer that lies at a place, or the place's address. -/
inductive TV where
  | d (x : D)
  | u (hdr : Bool) (r : Root) (p : List Nat)

/-- 'n' slots, what they hold; the boxes, of which the first 'nb' are lent by the caller. -/
structure ASt where
  n : Nat
  slots : List (Nat × TV)
  boxes : List D
  nb : Nat

noncomputable def look (l : List (Nat × TV)) (t : Nat) : Option TV := List.rec (motive := fun _ => Option TV) none (fun p _ ih => Bool.rec (motive := fun _ => Option TV) ih (some p.2) (Nat.beq p.1 t)) l
theorem look_nil (t : Nat) : look [] t = none := rfl
theorem look_cons (s : Nat) (x : TV) (l : List (Nat × TV)) (t : Nat) : look ((s, x) :: l) t = if s = t then some x else look l t := by
  show Bool.rec (motive := fun _ => Option TV) (look l t) (some x) (Nat.beq s t) = _
  by_cases h : s = t
  · subst h; simp [Nat.beq_refl]
  · rw [if_neg h]
    cases hb : Nat.beq s t
    · rfl
    · exact absurd (Nat.eq_of_beq_eq_true hb) h
def lookC : List (Nat × TV) → Nat → Option TV
  | [], _ => none
  | (s, x) :: l, t => if s = t then some x else lookC l t
theorem look_eq_lookC : @look = @lookC := by
  funext l t
  induction l with
  | nil => rfl
  | cons p l ih => cases p; rw [look_cons, lookC, ih]

/-- Whatever hangs on a root is struck. -/
def kill (r : Root) : List (Nat × TV) → List (Nat × TV)
  | [] => []
  | (s, .u h q p) :: l => if q = r then (s, .d .dead) :: kill r l else (s, .u h q p) :: kill r l
  | (s, .d x) :: l => (s, .d x) :: kill r l

def ASt.put (S : ASt) (t : Nat) (x : TV) : ASt := { S with slots := (t, x) :: kill (.slot t) S.slots }
/-- The same state, what never turns written as in a state before: else the kernel walks back through all states for it. -/
def ASt.fixAs (S S' : ASt) : ASt := match S with
  | ⟨n, _, _, nb⟩ => match Nat.beq S'.n n && Nat.beq S'.nb nb with
    | true => ⟨n, S'.slots, S'.boxes, nb⟩
    | false => S'
theorem fixAs_eq (S S' : ASt) : S.fixAs S' = S' := by
  cases S
  simp only [ASt.fixAs]
  split
  · rename_i h
    simp only [Bool.and_eq_true] at h
    cases S'
    simp only at h
    rw [Nat.eq_of_beq_eq_true h.1, Nat.eq_of_beq_eq_true h.2]
  · rfl

/-- A value in a slot. -/
def RelV (β : Env) (w : World) (R : Blk) (d : D) (c : Value) (O : Blk) : Prop :=
  match d with
  | .tup ds => ∃ vs, c = .tuple vs ∧ RelVs β w R ds vs.toList O
  | .und => c = undef
  | .dead => True
  | d => ∃ xs, packs d xs c ∧ Rel β w R d xs O

/-- A box. -/
def RelB (β : Env) (w : World) (R : Blk) (b : Nat) (d : D) (O : Blk) : Prop :=
  match d with
  | .dead => True
  | d => ∃ x all T O', β b = some x ∧ O x ∧ w.heap[x]? = some (.cells all T (0, 0)) ∧ (∀ y, O' y → O y) ∧ ¬ O' x ∧ Rel β w R d all.toList O'

/-- Slices, maps and pointers that own. -/
def D.isHdr : D → Bool
  | .own _ _ _ | .cell _ | .mapo _ _ => true
  | _ => false

/-- What stands at a root. -/
inductive RootAt (β : Env) (S : ASt) (a : Act) : Root → D → Pos → Prop
  | slot {t : Nat} {d : D} {c : Value} (h : look S.slots t = some (.d d)) (hd : d.isHdr = true) (hc : a.tmps[t]? = some c) : RootAt β S a (.slot t) d (.slot c)
  | box {b : Nat} {d : D} {x : Nat} (h : S.boxes[b]? = some d) (hd : d ≠ .dead) (hx : β b = some x) : RootAt β S a (.box b) d (.mem x 0)

def UPok (β : Env) (S : ASt) (a : Act) (w : World) (t : Nat) (hdr : Bool) (r : Root) (p : List Nat) : Prop :=
  ∃ d pos e pos' c, RootAt β S a r d pos ∧ walk w p d pos = some (e, pos') ∧ a.tmps[t]? = some c ∧
    if hdr then e.isHdr = true ∧ pos'.val w = some c else ∃ b off, pos' = .mem b off ∧ c = .pointer (some ⟨b, off, none⟩)

/-- The world as far as a call may have turned it. -/
structure Fr (O : Blk) (w w' : World) : Prop where
  os : w'.os = w.os
  tape : w'.tape = w.tape
  output : w'.output = w.output
  size : w.heap.size ≤ w'.heap.size
  block : ∀ k, k < w.heap.size → ¬ O k → w'.heap[k]? = w.heap[k]?

theorem Fr.refl (O : Blk) (w : World) : Fr O w w := ⟨rfl, rfl, rfl, Nat.le_refl _, fun _ _ _ => rfl⟩
theorem Fr.trans {O O' : Blk} {a b c : World} (h : Fr O a b) (k : Fr O' b c) (hO : ∀ x, O' x → O x ∨ a.heap.size ≤ x) : Fr O a c :=
  ⟨k.os.trans h.os, k.tape.trans h.tape, k.output.trans h.output, Nat.le_trans h.size k.size, fun i hi ho =>
    (k.block i (Nat.lt_of_lt_of_le hi h.size) fun hx => (hO i hx).elim ho (fun hh => by omega)).trans (h.block i hi ho)⟩
theorem Fr.mono {O O' : Blk} {a b : World} (h : Fr O a b) (hO : ∀ x, O x → O' x) : Fr O' a b := ⟨h.os, h.tape, h.output, h.size, fun i hi ho => h.block i hi fun hx => ho (hO i hx)⟩

/-- Where a call began: the world, the boxes' places, what it may read, what it owns. -/
structure Gh where
  G : Nat → Option D
  w : World
  β : Env
  R : Blk
  O : Blk
  dfr : List Deferred := []

/-- Owners: slots (even), boxes (odd). -/
abbrev Own := Root → Blk

/-- A listed package-level variable. -/
def Gl (β : Env) (w : World) (R : Blk) (i : Nat) (d : D) : Prop := Rel β w R (.fz d) [.pointer (some ⟨i, 0, none⟩)] Blk.emp ∧ ∃ all T fr, w.heap[i]? = some (.cells all T fr) ∧ all.size = d.nc
theorem Gl.up {β β' : Env} {w w' : World} {R R' : Blk} {i : Nat} {d : D} (h : Gl β w R i d) (hβ : ∀ b x, β b = some x → β' b = some x) (hR : ∀ b, R b → R' b) (hw : ∀ b, R b → w'.heap[b]? = w.heap[b]?) : Gl β' w' R' i d := by
  obtain ⟨h1, h2⟩ := h
  refine ⟨Rel.up hβ hR hw _ _ _ _ (fun _ hb => hb.elim) (fun _ hb => hb) h1, ?_⟩
  simp only [Rel] at h1
  obtain ⟨b, off, all, T, fr, k1, k2, _⟩ := h1
  simp only [List.cons.injEq, Value.pointer.injEq, Option.some.injEq, Addr.mk.injEq, and_true] at k1
  obtain ⟨rfl, _⟩ := k1
  rw [hw _ k2]
  exact h2
/-- The state stands for the frame and the world. -/
structure StR (g : Gh) (β : Env) (R : Blk) (Os : Own) (S : ASt) (a : Act) (w : World) : Prop where
  ext : ∀ b, (b < S.nb → β b = g.β b) ∧ (S.boxes.length ≤ b → β b = none)
  size : S.n ≤ a.tmps.size
  defers : a.defers = g.dfr
  slots : ∀ t d, look S.slots t = some (.d d) → ∃ c, a.tmps[t]? = some c ∧ RelV β w R d c (Os (.slot t))
  ups : ∀ t h r p, look S.slots t = some (.u h r p) → UPok β S a w t h r p
  boxes : ∀ b d, S.boxes[b]? = some d → RelB β w R b d (Os (.box b))
  disj : ∀ r s, r ≠ s → Disj (Os r) (Os s)
  apart : ∀ r, Disj R (Os r)
  own : ∀ r x, Os r x → x < w.heap.size ∧ (g.O x ∨ g.w.heap.size ≤ x)
  read : ∀ x, R x → x < w.heap.size ∧ (g.R x ∨ g.O x ∨ g.w.heap.size ≤ x)
  fr : Fr g.O g.w w
  glob : ∀ i d, g.G i = some d → Gl β w R i d

def St (g : Gh) (S : ASt) (a : Act) (w : World) : Prop := ∃ β R Os, StR g β R Os S a w

end
end Go.Proofs.YtfbppkjjdbkedaaGreatDoor.Ref
/-
  The abstract machine: what a new value in a slot leaves standing; types; reading and writing cells.
-/
namespace Go.Proofs.YtfbppkjjdbkedaaGreatDoor.Ref
noncomputable section
open Go
set_option linter.unusedVariables false

theorem look_kill (r : Root) : ∀ (l : List (Nat × TV)) (t : Nat), look (kill r l) t = match look l t with
    | some (.u h q p) => if q = r then some (.d .dead) else some (.u h q p)
    | x => x
  | [], t => by simp [kill, look_nil, look_cons]
  | (s, .u h q p) :: l, t => by
    by_cases hq : q = r
    · simp only [kill, hq, if_true, look_nil, look_cons]
      by_cases hs : s = t
      · simp [hs]
      · simp [hs, look_kill r l t]
    · simp only [kill, hq, if_false, look_nil, look_cons]
      by_cases hs : s = t
      · simp [hs, hq]
      · simp [hs, look_kill r l t]
  | (s, .d x) :: l, t => by
    simp only [kill, look_nil, look_cons]
    by_cases hs : s = t
    · simp [hs]
    · simp [hs, look_kill r l t]
theorem look_kill_d {r : Root} {l : List (Nat × TV)} {t : Nat} {d : D} (h : look (kill r l) t = some (.d d)) : look l t = some (.d d) ∨ d = .dead := by
  rw [look_kill] at h
  split at h
  · split at h
    · injection h with h; injection h with h; exact .inr h.symm
    · simp at h
  · exact .inl h
theorem look_kill_u {r q : Root} {l : List (Nat × TV)} {t : Nat} {b : Bool} {p : List Nat} (h : look (kill r l) t = some (.u b q p)) : look l t = some (.u b q p) ∧ q ≠ r := by
  rw [look_kill] at h
  split at h
  · rename_i hl
    split at h
    · simp at h
    · rename_i hq
      injection h with h
      injection h with h1 h2 h3
      subst h1 h2 h3
      exact ⟨hl, hq⟩
  · rename_i hne
    exact absurd h (hne _ _ _)

/-- Memory may have grown. -/
structure Grow (w w' : World) : Prop where
  os : w'.os = w.os
  tape : w'.tape = w.tape
  output : w'.output = w.output
  size : w.heap.size ≤ w'.heap.size
  block : ∀ k, k < w.heap.size → w'.heap[k]? = w.heap[k]?
theorem Grow.refl (w : World) : Grow w w := ⟨rfl, rfl, rfl, Nat.le_refl _, fun _ _ => rfl⟩
theorem Grow.fr {w w' : World} (h : Grow w w') (O : Blk) : Fr O w w' := ⟨h.os, h.tape, h.output, h.size, fun k hk _ => h.block k hk⟩
theorem Grow.alloc (w : World) (o : Obj) : Grow w { w with heap := w.heap.push o } :=
  ⟨rfl, rfl, rfl, by simp, fun k hk => by show (w.heap.push o)[k]? = _; rw [Array.getElem?_push, if_neg (by omega)]⟩

theorem cell_lt {w : World} {b off : Nat} {c : Value} (h : w.cell? ⟨b, off, none⟩ = some c) : b < w.heap.size := by
  unfold World.cell? at h
  rcases Nat.lt_or_ge b w.heap.size with hb | hb
  · exact hb
  · simp [Array.getElem?_eq_none hb] at h
theorem Pos.val_grow {w w' : World} {pos : Pos} {c : Value} (h : pos.val w = some c) (hs : ∀ k, k < w.heap.size → pos.isIn k → w'.heap[k]? = w.heap[k]?) : pos.val w' = some c := by
  cases pos with
  | slot c' => exact h
  | mem b off =>
    have hb := cell_lt h
    simp only [Pos.val] at h ⊢
    rw [← h]
    simp only [World.cell?]
    rw [hs b hb rfl]
theorem step1_same {w w' : World} {d : D} {pos : Pos} {i : Nat} {r : D × Pos} (h : step1 w d pos i = some r) (hv : ∀ c, pos.val w = some c → pos.val w' = some c) : step1 w' d pos i = some r := by
  unfold step1 at h ⊢
  cases d with
  | agg ds => exact h
  | own nn sz ds =>
    simp only at h ⊢
    cases hp : pos.val w with
    | none => simp [hp] at h
    | some c => rw [hv c hp]; rw [hp] at h; exact h
  | cell e =>
    simp only at h ⊢
    cases hp : pos.val w with
    | none => simp [hp] at h
    | some c => rw [hv c hp]; rw [hp] at h; exact h
  | _ => exact h
theorem walk_grow {w w' : World} (hg : ∀ k, k < w.heap.size → w'.heap[k]? = w.heap[k]?) : ∀ (p : List Nat) (d : D) (pos : Pos) (r : D × Pos), walk w p d pos = some r → walk w' p d pos = some r
  | [], d, pos, r, h => h
  | i :: p, d, pos, r, h => by
    simp only [walk] at h ⊢
    split at h
    · rename_i e pos1 h1
      rw [step1_same h1 fun c hc => Pos.val_grow hc fun k hk _ => hg k hk]
      exact walk_grow hg p e pos1 r h
    · simp at h

theorem RelV.up {β β' : Env} {w w' : World} {R R' O O' : Blk} {d : D} {c : Value} (h : RelV β w R d c O) (hβ : ∀ b x, β b = some x → β' b = some x) (hR : ∀ b, R b → R' b) (hw : ∀ b, R b → w'.heap[b]? = w.heap[b]?)
    (ho : ∀ b, O b → w'.heap[b]? = w.heap[b]?) (hs : ∀ b, O b → O' b) : RelV β' w' R' d c O' := by
  cases d with
  | tup ds => obtain ⟨vs, h1, h2⟩ := h; exact ⟨vs, h1, RelVs.up hβ hR hw ds _ _ _ ho hs h2⟩
  | und => exact h
  | dead => exact trivial
  | _ => obtain ⟨xs, h1, h2⟩ := h; exact ⟨xs, h1, Rel.up hβ hR hw _ _ _ _ ho hs h2⟩
theorem RelB.up {β β' : Env} {w w' : World} {R R' O O' : Blk} {b : Nat} {d : D} (h : RelB β w R b d O) (hβ : ∀ b x, β b = some x → β' b = some x) (hR : ∀ b, R b → R' b) (hw : ∀ b, R b → w'.heap[b]? = w.heap[b]?)
    (ho : ∀ b, O b → w'.heap[b]? = w.heap[b]?) (hs : ∀ b, O b → O' b) : RelB β' w' R' b d O' := by
  cases d with
  | dead => exact trivial
  | _ =>
    obtain ⟨x, all, T, O1, h1, h2, h3, h4, h5, h6⟩ := h
    exact ⟨x, all, T, O1, hβ b x h1, hs x h2, (ho x h2).trans h3, fun y hy => hs y (h4 y hy), h5, Rel.up hβ hR hw _ _ _ _ (fun y hy => ho y (h4 y hy)) (fun _ x => x) h6⟩
theorem RelV.rel {β : Env} {w : World} {R O : Blk} {d : D} {c : Value} (h : RelV β w R d c O) (h1 : d ≠ .dead) (h2 : d ≠ .und) (h3 : ∀ ds, d ≠ .tup ds) : ∃ xs, packs d xs c ∧ Rel β w R d xs O := by
  cases d <;> first | exact h | exact absurd rfl h1 | exact absurd rfl h2 | exact absurd rfl (h3 _)
theorem RelV.mk {β : Env} {w : World} {R O : Blk} {d : D} {c : Value} {xs : List Value} (hp : packs d xs c) (h : Rel β w R d xs O) : RelV β w R d c O := by
  cases d with
  | tup ds => simp [Rel] at h
  | und => simp [Rel] at h
  | dead => exact trivial
  | _ => exact ⟨xs, hp, h⟩
theorem packs_one {d : D} {xs : List Value} {c : Value} (ha : ∀ ds, d ≠ .agg ds) : packs d xs c ↔ xs = [c] := by
  cases d <;> first | exact Iff.rfl | exact absurd rfl (ha _)

def Own.upd (Os : Own) (r : Root) (O : Blk) : Own := fun q => if q = r then O else Os q
theorem Own.upd_same (Os : Own) (r : Root) (O : Blk) : (Os.upd r O) r = O := by simp [Own.upd]
theorem Own.upd_other (Os : Own) {r q : Root} (O : Blk) (h : q ≠ r) : (Os.upd r O) q = Os q := by simp [Own.upd, h]

theorem put_get {a : Act} {t s : Nat} {v : Value} (ht : t < a.tmps.size) : (a.put (some t) v).tmps[s]? = if t = s then some v else a.tmps[s]? := by
  simp only [Act.put, Array.getElem?_setIfInBounds]
  by_cases h : t = s
  · subst h; simp [ht]
  · simp [h]

theorem look_put (S : ASt) (t s : Nat) (x : TV) : look (S.put t x).slots s = if t = s then some x else look (kill (.slot t) S.slots) s := look_cons ..

/-- What hangs on a root that has not turned stands in a world where nothing old has turned. -/
theorem UPok.keep {β β' : Env} {S S' : ASt} {a a' : Act} {w w' : World} {t : Nat} {h : Bool} {r : Root} {p : List Nat} (hu : UPok β S a w t h r p)
    (hr : ∀ d pos, RootAt β S a r d pos → RootAt β' S' a' r d pos) (ht : a'.tmps[t]? = a.tmps[t]?) (hg : ∀ k, k < w.heap.size → w'.heap[k]? = w.heap[k]?) : UPok β' S' a' w' t h r p := by
  obtain ⟨d, pos, e, pos', c, h1, h2, h3, h4⟩ := hu
  refine ⟨d, pos, e, pos', c, hr _ _ h1, walk_grow hg p d pos _ h2, ht.trans h3, ?_⟩
  cases h with
  | true => exact ⟨h4.1, Pos.val_grow h4.2 fun k hk _ => hg k hk⟩
  | false => exact h4

theorem StR.putX {g : Gh} {β : Env} {R R' : Blk} {Os : Own} {S : ASt} {a : Act} {w w' : World} (h : StR g β R Os S a w) (hg : Grow w w') (hR : ∀ x, R x → R' x)
    (hR' : ∀ x, R' x → R x ∨ (w.heap.size ≤ x ∧ x < w'.heap.size)) {t : Nat} {d : D} {v : Value} {On : Blk} (ht : t < a.tmps.size) (hv : RelV β w' R' d v On)
    (hOn : ∀ x, On x → x < w'.heap.size ∧ (g.O x ∨ g.w.heap.size ≤ x) ∧ ∀ q, q ≠ .slot t → ¬ Os q x) (hd : Disj R' On) : StR g β R' (Os.upd (.slot t) On) (S.put t (.d d)) (a.put (some t) v) w' := by
  have hfr : w.heap.size ≥ g.w.heap.size := h.fr.size
  have old : ∀ r x, Os r x → w'.heap[x]? = w.heap[x]? := fun r x hx => hg.block x (h.own r x hx).1
  have oldR : ∀ x, R x → w'.heap[x]? = w.heap[x]? := fun x hx => hg.block x (h.read x hx).1
  refine ⟨h.ext, by simpa [ASt.put, Act.put] using h.size, h.defers, ?_, ?_, ?_, ?_, ?_, ?_, ?_, h.fr.trans (hg.fr Blk.emp) fun x hx => hx.elim, fun i d hi => (h.glob i d hi).up (fun _ _ x => x) hR oldR⟩
  · intro s e he
    rw [look_put] at he
    by_cases hs : t = s
    · subst hs
      simp at he
      subst he
      exact ⟨v, by rw [put_get ht]; simp, by rw [Own.upd_same]; exact hv⟩
    · rw [if_neg hs] at he
      rcases look_kill_d he with he | rfl
      · obtain ⟨c, h1, h2⟩ := h.slots s e he
        refine ⟨c, by rw [put_get ht, if_neg hs]; exact h1, ?_⟩
        rw [Own.upd_other _ _ (by simp; omega)]
        exact h2.up (fun _ _ x => x) hR oldR (old _) (fun _ x => x)
      · have : ∃ c, a.tmps[s]? = some c := by
          rw [look_kill] at he
          split at he
          · rename_i hl
            obtain ⟨d', pos, e, pos', c, h1, h2, h3, h4⟩ := h.ups s _ _ _ hl
            exact ⟨c, h3⟩
          · obtain ⟨c, h1, _⟩ := h.slots s _ he
            exact ⟨c, h1⟩
        obtain ⟨c, hc⟩ := this
        exact ⟨c, by rw [put_get ht, if_neg hs]; exact hc, trivial⟩
  · intro s b r p hu
    rw [look_put] at hu
    by_cases hs : t = s
    · subst hs; simp at hu
    · rw [if_neg hs] at hu
      obtain ⟨hl, hr⟩ := look_kill_u hu
      refine (h.ups s b r p hl).keep ?_ (by rw [put_get ht, if_neg hs]) hg.block
      intro d' pos hra
      cases hra with
      | slot h1 h2 h4 =>
        rename_i t' c'
        have hne : t ≠ t' := fun e => hr (by rw [e])
        exact .slot (by rw [look_put, if_neg hne, look_kill, h1]) h2 (by rw [put_get ht, if_neg hne]; exact h4)
      | box h1 h2 h3 => exact .box h1 h2 h3
  · intro b e he
    rw [Own.upd_other _ _ (by simp)]
    exact (h.boxes b e he).up (fun _ _ x => x) hR oldR (old _) (fun _ x => x)
  · intro r s hrs x h1 h2
    by_cases hr : r = .slot t
    · by_cases hs : s = .slot t
      · exact hrs (hr.trans hs.symm)
      · rw [hr, Own.upd_same] at h1
        rw [Own.upd_other _ _ hs] at h2
        exact (hOn x h1).2.2 s hs h2
    · rw [Own.upd_other _ _ hr] at h1
      by_cases hs : s = .slot t
      · rw [hs, Own.upd_same] at h2
        exact (hOn x h2).2.2 r hr h1
      · rw [Own.upd_other _ _ hs] at h2
        exact h.disj r s hrs x h1 h2
  · intro r x h1 h2
    by_cases hr : r = .slot t
    · rw [hr, Own.upd_same] at h2
      exact hd x h1 h2
    · rw [Own.upd_other _ _ hr] at h2
      rcases hR' x h1 with h3 | h3
      · exact h.apart r x h3 h2
      · have := (h.own r x h2).1
        omega
  · intro r x h1
    by_cases hr : r = .slot t
    · rw [hr, Own.upd_same] at h1
      have := hOn x h1
      exact ⟨this.1, this.2.1⟩
    · rw [Own.upd_other _ _ hr] at h1
      have := h.own r x h1
      exact ⟨Nat.lt_of_lt_of_le this.1 hg.size, this.2⟩
  · intro x hx
    rcases hR' x hx with h1 | h1
    · have := h.read x h1
      exact ⟨Nat.lt_of_lt_of_le this.1 hg.size, this.2⟩
    · exact ⟨h1.2, .inr (.inr (by omega))⟩

theorem StR.putD {g : Gh} {β : Env} {R R' : Blk} {Os : Own} {S : ASt} {a : Act} {w w' : World} (h : StR g β R Os S a w) (hg : Grow w w') (hR : ∀ x, R x → R' x)
    (hR' : ∀ x, R' x → R x ∨ (w.heap.size ≤ x ∧ x < w'.heap.size)) {t : Nat} {d : D} {v : Value} {On : Blk} (ht : t < a.tmps.size) (hv : RelV β w' R' d v On)
    (hOn : ∀ x, On x → w.heap.size ≤ x ∧ x < w'.heap.size) (hd : Disj R' On) : StR g β R' (Os.upd (.slot t) On) (S.put t (.d d)) (a.put (some t) v) w' :=
  h.putX hg hR hR' ht hv (fun x hx => ⟨(hOn x hx).2, .inr (Nat.le_trans h.fr.size (hOn x hx).1), fun q _ hq => absurd (h.own q x hq).1 (Nat.not_lt.2 (hOn x hx).1)⟩) hd

theorem StR.putU {g : Gh} {β : Env} {R : Blk} {Os : Own} {S : ASt} {a : Act} {w : World} (h : StR g β R Os S a w) {t : Nat} {b : Bool} {r : Root} {p : List Nat} {v : Value} (ht : t < a.tmps.size)
    (hr : r ≠ .slot t) (hu : ∃ d pos e pos', RootAt β S a r d pos ∧ walk w p d pos = some (e, pos') ∧ if b then e.isHdr = true ∧ pos'.val w = some v else ∃ x off, pos' = .mem x off ∧ v = .pointer (some ⟨x, off, none⟩)) :
    StR g β R (Os.upd (.slot t) Blk.emp) (S.put t (.u b r p)) (a.put (some t) v) w := by
  have k := h.putD (Grow.refl w) (fun _ x => x) (fun _ x => .inl x) (t := t) (d := .dead) (v := v) (On := Blk.emp) ht trivial (fun _ x => x.elim) (fun _ _ x => x)
  have hkeep : ∀ r' d' pos', r' ≠ .slot t → RootAt β S a r' d' pos' → RootAt β (S.put t (.u b r p)) (a.put (some t) v) r' d' pos' := by
    intro r' d' pos' hne hra
    cases hra with
    | slot h1 h2 h4 =>
      rename_i t' c'
      have hne : t ≠ t' := fun e => hne (by rw [e])
      exact .slot (by rw [look_put, if_neg hne, look_kill, h1]) h2 (by rw [put_get ht, if_neg hne]; exact h4)
    | box h1 h2 h3 => exact .box h1 h2 h3
  refine ⟨k.ext, k.size, k.defers, ?_, ?_, k.boxes, k.disj, k.apart, k.own, k.read, k.fr, k.glob⟩
  · intro s e he
    rw [look_put] at he
    by_cases hs : t = s
    · subst hs; simp at he
    · rw [if_neg hs] at he
      exact k.slots s e (by rw [look_put, if_neg hs]; exact he)
  · intro s b' r' p' hu'
    rw [look_put] at hu'
    by_cases hs : t = s
    · subst hs
      simp at hu'
      obtain ⟨rfl, rfl, rfl⟩ := hu'
      obtain ⟨d, pos, e, pos', h1, h2, h3⟩ := hu
      exact ⟨d, pos, e, pos', v, hkeep _ _ _ hr h1, h2, by rw [put_get ht]; simp, h3⟩
    · rw [if_neg hs] at hu'
      obtain ⟨hl, hr'⟩ := look_kill_u hu'
      exact (h.ups s b' r' p' hl).keep (fun d pos hra => hkeep _ _ _ hr' hra) (by rw [put_get ht, if_neg hs]) (fun _ _ => rfl)
end
end Go.Proofs.YtfbppkjjdbkedaaGreatDoor.Ref
/-
  The abstract machine, its operations that turn nothing: what comes of them, and that the machine's own operation does the same.
-/
namespace Go.Proofs.YtfbppkjjdbkedaaGreatDoor.Ref
noncomputable section
open Go
set_option linter.unusedVariables false

/-- What is known of a type. -/
structure TI where
  desc : TypeDesc
  size : Nat
  bytes : Nat
  zero : D

def TI.isAgg (i : TI) : Bool := match i.desc with
  | .struct _ | .array _ _ => true
  | _ => false

mutual
def D.lit : D → Option (List Value)
  | .v x => if scal x then some [x] else none
  | .agg ds => D.litL ds
  | _ => none
def D.litL : List D → Option (List Value)
  | [] => some []
  | d :: ds => match d.lit, D.litL ds with
    | some a, some b => some (a ++ b)
    | _, _ => none
end
mutual
theorem D.lit_rel {β : Env} {w : World} {R : Blk} : ∀ (d : D) (xs : List Value), d.lit = some xs → Rel β w R d xs Blk.emp
  | .v x, xs, h => by
    simp only [D.lit] at h
    split at h
    · rename_i hs; injection h with h; subst h; simp [Rel, hs]
    · simp at h
  | .agg ds, xs, h => by simp only [D.lit] at h; simp only [Rel]; exact D.litL_rel ds xs h
  | .row _ _ _, xs, h | .own _ _ _, xs, h | .cell _, xs, h | .fz _, xs, h | .ref _ _ _, xs, h | .mapo _ _, xs, h | .fmp _ _, xs, h | .fn _ _, xs, h | .ifc _ _, xs, h | .tup _, xs, h | .und, xs, h | .dead, xs, h => by simp [D.lit] at h
theorem D.litL_rel {β : Env} {w : World} {R : Blk} : ∀ (ds : List D) (xs : List Value), D.litL ds = some xs → RelL β w R ds xs Blk.emp
  | [], xs, h => by simp only [D.litL] at h; injection h with h; simp only [RelL]; exact h.symm
  | d :: ds, xs, h => by
    simp only [D.litL] at h
    split at h
    · rename_i a b ha hb
      injection h with h
      subst h
      simp only [RelL]
      exact ⟨a, b, Blk.emp, Blk.emp, rfl, D.lit_rel d a ha, D.litL_rel ds b hb, fun _ x => x, fun _ x => x, fun _ x => x.elim⟩
    · simp at h
end

mutual
/-- It refers to boxes below n alone. -/
def D.lo (n : Nat) : D → Bool
  | .agg ds => D.loL n ds
  | .row _ _ ds => D.loL n ds
  | .own _ _ ds => D.loL n ds
  | .cell d => D.lo n d
  | .fz d => D.lo n d
  | .ref b _ _ => decide (b < n)
  | .mapo _ ds => D.loL n ds
  | .fmp _ ds => D.loL n ds
  | .fn _ caps => D.loL n caps
  | .ifc _ d => D.lo n d
  | .tup ds => D.loL n ds
  | _ => true
def D.loL (n : Nat) : List D → Bool
  | [] => true
  | d :: ds => D.lo n d && D.loL n ds
end
/-- The world has turned in blocks of one owner alone. -/
structure Turn (A : Blk) (w w' : World) : Prop where
  os : w'.os = w.os
  tape : w'.tape = w.tape
  output : w'.output = w.output
  size : w.heap.size ≤ w'.heap.size
  block : ∀ k, k < w.heap.size → ¬ A k → w'.heap[k]? = w.heap[k]?
def EntersP (P : Program) (k : FuncId) : Prop := ∃ fn, P.funcs[k]? = some fn ∧ (fn.name == "runtime.NumGoroutine") = false ∧ fn.body.isSome = true
/-- A function of one slice that turns its elements where they lie: d becomes d'. -/
def MC (P : Program) (G : Nat → Option D) (k : FuncId) (d d' : D) : Prop := ∀ (β : Env) (w : World) (R O : Blk) (c : Value), Rel β w R d [c] O → Disj R O → (∀ x, R x → x < w.heap.size) → (∀ x, O x → x < w.heap.size) → (∀ i e, G i = some e → Gl β w R i e) →
  Calls P k #[c] w fun e w' => ∃ v R' On, e = .returned v ∧ Turn O w w' ∧ (∀ x, R x → R' x) ∧ (∀ x, R' x → R x ∨ O x ∨ (w.heap.size ≤ x ∧ x < w'.heap.size)) ∧ (∀ x, On x → O x ∨ (w.heap.size ≤ x ∧ x < w'.heap.size)) ∧ Disj R' On ∧ Rel β w' R' d' [c] On
/-- The program, what is known of its types, and of its package-level variables; M: functions that turn a slice where it lies. -/
structure Cx where
  P : Program
  T : TypeId → Option TI
  G : Nat → Option D
  E : FuncId → Bool := fun _ => false
  Q : TypeId → Bool := fun _ => false
  M : FuncId → D → Option D := fun _ _ => none

structure Cx.Ok (X : Cx) : Prop where
  ty : ∀ t i, X.T t = some i → X.P.underlying t = some i.desc ∧ ∃ inf zv xs, X.P.info? t = some inf ∧ inf.size = i.size ∧ inf.bytes = i.bytes ∧ inf.zero = some zv ∧ zv.cells = xs.toArray ∧ packs i.zero xs zv ∧ D.lit i.zero = some xs
  md : X.P.follows .mixedOrders = true
  ext : ∀ k, X.E k = true → ∃ fn, X.P.funcs[k]? = some fn ∧ (fn.name == "runtime.NumGoroutine") = false ∧ fn.body.isNone = true ∧ Extern.findNext fn = none ∧ Extern.find fn = some Extern.BytealgIndexByte.indexByte
  emp : ∀ t, X.Q t = true → X.P.underlying t = some (.struct #[]) ∧ (∃ inf, X.P.info? t = some inf ∧ inf.comparable = true) ∧ X.P.stoodInHeld t = false
  gl : ∀ i e, X.G i = some e → e.lo 0 = true
  mu : ∀ k d d', X.M k d = some d' → EntersP X.P k ∧ MC X.P X.G k d d' ∧ d.isHdr = true ∧ d'.isHdr = true

variable {X : Cx}

theorem run_under (hX : X.Ok) {t : TypeId} {i : TI} (h : X.T t = some i) (w : World) : (underlying t).run X.P w = .ok i.desc w := by
  simp [underlying, program, Sem.run, Sem.bind, (hX.ty t i h).1, bind, pure]
theorem run_size (hX : X.Ok) {t : TypeId} {i : TI} (h : X.T t = some i) (w : World) : (sizeOf t).run X.P w = .ok i.size w := by
  obtain ⟨_, inf, zv, xs, h1, h2, _⟩ := hX.ty t i h
  simp [sizeOf, typeInfo, program, Sem.run, Sem.bind, h1, h2, bind, pure]
theorem run_info (hX : X.Ok) {t : TypeId} {i : TI} (h : X.T t = some i) (w : World) : ∃ inf, (typeInfo t).run X.P w = .ok inf w ∧ inf.size = i.size ∧ inf.bytes = i.bytes := by
  obtain ⟨_, inf, zv, xs, h1, h2, h3, _⟩ := hX.ty t i h
  exact ⟨inf, by simp [typeInfo, program, Sem.run, Sem.bind, h1, bind, pure], h2, h3⟩
theorem run_zero (hX : X.Ok) {t : TypeId} {i : TI} (h : X.T t = some i) (w : World) : ∃ zv xs, (zeroValue t).run X.P w = .ok zv w ∧ zv.cells = xs.toArray ∧ packs i.zero xs zv ∧ D.lit i.zero = some xs := by
  obtain ⟨_, inf, zv, xs, h1, h2, h3, h4, h5, h6, h7⟩ := hX.ty t i h
  exact ⟨zv, xs, by simp [zeroValue, typeInfo, program, Sem.run, Sem.bind, h1, h4, bind, pure], h5, h6, h7⟩
theorem run_isAgg (hX : X.Ok) {t : TypeId} {i : TI} (h : X.T t = some i) (w : World) : (isAgg t).run X.P w = .ok i.isAgg w := by
  unfold isAgg TI.isAgg
  rw [Sem.run_bind, run_under hX h]
  cases hd : i.desc <;> rfl

/-- Does data fit a type? -/
def TI.fits (i : TI) (e : D) : Bool := match e with
  | .agg ds => i.isAgg && (D.ncL ds == i.size)
  | .tup _ | .und | .dead => false
  | _ => !i.isAgg

/-- Cells that are read, frozen or not. -/
def CellsR (w : World) (b off : Nat) (cs : List Value) : Prop := ∀ k, k < cs.length → w.cell? ⟨b, off + k, none⟩ = cs[k]?
theorem Cells.r {w : World} {b off : Nat} {cs : List Value} (h : Cells w b off cs) : CellsR w b off cs := fun k hk => h.cell k hk
theorem cellsR_of {w : World} {b off n : Nat} {all : Array Value} {T : TypeId} {fr : Nat × Nat} (h : w.heap[b]? = some (.cells all T fr)) (hl : off + n ≤ all.size) : CellsR w b off ((all.toList.drop off).take n) := by
  obtain ⟨k1, k2⟩ := of_take_drop hl
  intro k hk
  rw [k1] at hk
  simp [World.cell?, h, k2 k hk]

theorem add_off (b off k : Nat) : (⟨b, off, none⟩ : Addr).add k = ⟨b, off + k, none⟩ := by
  unfold Addr.add
  split
  · rename_i h; simp [h]
  · rfl

/-- Reading a variable gives what lies there. -/
theorem run_loadVar (hX : X.Ok) {t : TypeId} {i : TI} (h : X.T t = some i) {β : Env} {w : World} {R O : Blk} {e : D} {cs : List Value} {b off : Nat} (hr : Rel β w R e cs O) (hc : CellsR w b off cs) (hf : i.fits e = true) :
    ∃ v, (loadVar t ⟨b, off, none⟩).run X.P w = .ok v w ∧ packs e cs v := by
  have hl := Rel.len e cs O hr
  unfold loadVar
  rw [Sem.run_bind, run_isAgg hX h]
  simp only [Result.andThen_ok]
  by_cases ha : i.isAgg = true
  · rw [if_pos ha]
    simp only [Sem.run_bind, run_size hX h, Result.andThen_ok]
    cases e with
    | agg ds =>
      simp only [TI.fits, Bool.and_eq_true, beq_iff_eq] at hf
      rw [← hf.2, show D.ncL ds = cs.length from by rw [hl]; rfl]
      rw [run_loadCells_list w ⟨b, off, none⟩ cs fun j v hj => by
        rw [add_off, hc j (List.getElem?_eq_some_iff.1 hj).1, hj]]
      exact ⟨.agg cs.toArray, rfl, rfl⟩
    | _ => simp [TI.fits, ha] at hf
  · rw [if_neg ha]
    have h1 : e.nc = 1 ∧ ∀ ds, e ≠ .agg ds := by cases e <;> simp [TI.fits, ha, D.nc] at hf ⊢
    rw [h1.1] at hl
    match cs, hl with
    | [c], _ =>
      have := hc 0 (by simp)
      simp only [Nat.add_zero, List.getElem?_cons_zero] at this
      refine ⟨c, ?_, (packs_one h1.2).2 rfl⟩
      rw [run_load]
      simp [this]

-- ---------------------------------------------------------------- operands
def ASt.ev (G : Nat → Option D) (S : ASt) : Operand → Option TV
  | .tmp t => look S.slots t
  | .const v => if scal v then some (.d (.v v)) else none
  | .func f => some (.d (.fn f []))
  | .global i => (G i).map fun d => .d (.fz d)

theorem evalV {g : Gh} {β : Env} {R : Blk} {Os : Own} {S : ASt} {a : Act} {w : World} (h : StR g β R Os S a w) {x : Operand} {d : D} (hx : S.ev g.G x = some (.d d)) :
    ∃ O, RelV β w R d (a.eval x) O ∧ (∀ y, O y → ∃ t, x = .tmp t ∧ Os (.slot t) y) := by
  cases x with
  | tmp t =>
    obtain ⟨c, h1, h2⟩ := h.slots t d hx
    exact ⟨_, by simpa [Act.eval, h1] using h2, fun y hy => ⟨t, rfl, hy⟩⟩
  | const v =>
    simp only [ASt.ev] at hx
    split at hx
    · rename_i hs
      injection hx with hx
      injection hx with hx
      subst hx
      exact ⟨Blk.emp, RelV.mk (xs := [v]) (by simp [packs, Act.eval]) (by simp [Rel, hs]), fun _ y => y.elim⟩
    · simp at hx
  | func f =>
    simp only [ASt.ev] at hx
    injection hx with hx
    injection hx with hx
    subst hx
    refine ⟨Blk.emp, RelV.mk (xs := [a.eval (.func f)]) (by simp [packs]) ?_, fun _ y => y.elim⟩
    simp only [Rel]
    exact ⟨#[], rfl, by simp [RelVs]⟩
  | global i =>
    simp only [ASt.ev, Option.map_eq_some_iff] at hx
    obtain ⟨d', h1, h2⟩ := hx
    injection h2 with h2
    subst h2
    exact ⟨Blk.emp, RelV.mk (xs := [a.eval (.global i)]) (by simp [packs]) (h.glob i d' h1).1, fun _ y => y.elim⟩

theorem RelVs.ro {β : Env} {w : World} {R : Blk} : ∀ (ds : List D) (cs : List Value) (O : Blk), D.roL ds = true → RelVs β w R ds cs O → RelVs β w R ds cs Blk.emp
  | [], cs, O, hr, h => by simp only [RelVs] at h ⊢; exact h
  | d :: ds, cs, O, hr, h => by
    simp only [RelVs, D.roL, Bool.and_eq_true] at h hr ⊢
    obtain ⟨c, cs', xs, O1, O2, h1, h0, h2, h3, h4, h5, h6⟩ := h
    exact ⟨c, cs', xs, Blk.emp, Blk.emp, h1, h0, Rel.ro d xs O1 hr.1 h2, RelVs.ro ds cs' O2 hr.2 h3, fun _ x => x, fun _ x => x, fun _ x => x.elim⟩
theorem RelV.ro {β : Env} {w : World} {R O : Blk} {d : D} {c : Value} (hr : d.ro = true) (h : RelV β w R d c O) : RelV β w R d c Blk.emp := by
  cases d with
  | tup ds => obtain ⟨vs, h1, h2⟩ := h; exact ⟨vs, h1, RelVs.ro ds _ O (by simpa [D.ro] using hr) h2⟩
  | und => exact h
  | dead => exact trivial
  | _ => obtain ⟨xs, h1, h2⟩ := h; exact ⟨xs, h1, Rel.ro _ xs O hr h2⟩
theorem evalR {g : Gh} {β : Env} {R : Blk} {Os : Own} {S : ASt} {a : Act} {w : World} (h : StR g β R Os S a w) {x : Operand} {d : D} (hx : S.ev g.G x = some (.d d)) (hr : d.ro = true) : RelV β w R d (a.eval x) Blk.emp := by
  obtain ⟨O, h1, _⟩ := evalV h hx
  exact h1.ro hr

/-- What came of an operation that turns nothing old. -/
def Came (β : Env) (S : ASt) (a : Act) (R : Blk) (w : World) (r : Result Next) (tv : TV) : Prop :=
  match tv with
  | .d d => ∃ v w' R' On, r = .ok (.value v) w' ∧ Grow w w' ∧ (∀ x, R x → R' x) ∧ (∀ x, R' x → R x ∨ (w.heap.size ≤ x ∧ x < w'.heap.size)) ∧ RelV β w' R' d v On ∧
      (∀ x, On x → w.heap.size ≤ x ∧ x < w'.heap.size) ∧ Disj R' On
  | .u b q p => ∃ v, r = .ok (.value v) w ∧ ∃ d pos e pos', RootAt β S a q d pos ∧ walk w p d pos = some (e, pos') ∧
      if b then e.isHdr = true ∧ pos'.val w = some v else ∃ x off, pos' = .mem x off ∧ v = .pointer (some ⟨x, off, none⟩)

theorem came_same {β : Env} {S : ASt} {a : Act} {R : Blk} {w : World} {r : Result Next} {d : D} {v : Value} (h : r = .ok (.value v) w) (hv : RelV β w R d v Blk.emp) : Came β S a R w r (.d d) :=
  ⟨v, w, R, Blk.emp, h, Grow.refl w, fun _ x => x, fun _ x => .inl x, hv, fun _ x => x.elim, fun _ _ x => x⟩

/-- The operation comes to 'tv', whatever the frame and the world for which the state stands. -/
def NRes (X : Cx) (S : ASt) (o : Oper) (tv : TV) : Prop :=
  ∀ g β R Os a w, g.G = X.G → StR g β R Os S a w → Came β S a R w ((execOp a.eval o).run X.P w) tv

theorem StR.came {g : Gh} {β : Env} {R : Blk} {Os : Own} {S : ASt} {a : Act} {w : World} (h : StR g β R Os S a w) {t : Nat} (ht : t < a.tmps.size) {tv : TV} (hu : ∀ b r p, tv = .u b r p → r ≠ .slot t) {r : Result Next} (hc : Came β S a R w r tv) :
    ∃ v w' R' Os', r = .ok (.value v) w' ∧ StR g β R' Os' (S.put t tv) (a.put (some t) v) w' := by
  cases tv with
  | d d =>
    obtain ⟨v, w', R', On, h1, h2, h3, h4, h5, h6, h7⟩ := hc
    exact ⟨v, w', R', _, h1, h.putD h2 h3 h4 ht h5 h6 h7⟩
  | u b q p =>
    obtain ⟨v, h1, h2⟩ := hc
    exact ⟨v, w, R, _, h1, h.putU ht (hu b q p rfl) h2⟩

/-- Reading a slot's value: a copy of what owns nothing; what owns is looked at where it lies. -/
def ASt.mv (G : Nat → Option D) (S : ASt) (x : Operand) : Option TV :=
  match S.ev G x with
  | some (.d d) => if d.ro then some (.d d) else if d.isHdr then (match x with | .tmp t => some (.u true (.slot t) []) | _ => none) else none
  | some (.u b r p) => some (.u b r p)
  | none => none

theorem hdr_root {β : Env} {S : ASt} {a : Act} {t : Nat} {d : D} {c : Value} (h : look S.slots t = some (.d d)) (hd : d.isHdr = true) (hc : a.tmps[t]? = some c) : RootAt β S a (.slot t) d (.slot c) := .slot h hd hc

theorem mv_came {g : Gh} {β : Env} {R : Blk} {Os : Own} {S : ASt} {a : Act} {w : World} (h : StR g β R Os S a w) {x : Operand} {tv : TV} (hx : S.mv g.G x = some tv) : Came β S a R w (.ok (.value (a.eval x)) w) tv := by
  unfold ASt.mv at hx
  split at hx
  · rename_i d he
    split at hx
    · rename_i hr
      injection hx with hx
      subst hx
      exact came_same rfl (evalR h he hr)
    · split at hx
      · rename_i hd
        cases x with
        | tmp t =>
          injection hx with hx
          subst hx
          obtain ⟨c, h1, h2⟩ := h.slots t d he
          exact ⟨_, rfl, d, .slot c, d, .slot c, hdr_root he hd h1, rfl, hd, by simp [Pos.val, Act.eval, h1]⟩
        | _ => simp at hx
      · simp at hx
  · rename_i b r p he
    injection hx with hx
    subst hx
    cases x with
    | tmp t =>
      obtain ⟨d, pos, e, pos', c, h1, h2, h3, h4⟩ := h.ups t b r p he
      refine ⟨_, rfl, d, pos, e, pos', h1, h2, ?_⟩
      simpa [Act.eval, h3] using h4
    | const v => simp only [ASt.ev] at he; split at he <;> simp at he
    | func f => simp [ASt.ev] at he
    | global i => simp [ASt.ev] at he
  · simp at hx

theorem n_move {S : ASt} {o : Oper} {x : Operand} {tv : TV} (ho : o.op = .move x ∨ o.op = .assign x) (hx : S.mv X.G x = some tv) : NRes X S o tv := by
  intro g β R Os a w hG h
  have : (execOp a.eval o).run X.P w = .ok (.value (a.eval x)) w := by rcases ho with ho | ho <;> simp [execOp, ho]
  rw [this]
  exact mv_came h (by rw [hG]; exact hx)

end
end Go.Proofs.YtfbppkjjdbkedaaGreatDoor.Ref
/-
  The abstract machine, operations on addresses: places, loads, addresses of fields and of elements.
-/
namespace Go.Proofs.YtfbppkjjdbkedaaGreatDoor.Ref
noncomputable section
open Go
set_option linter.unusedVariables false
variable {X : Cx}

theorem walk_append (w : World) : ∀ (p q : List Nat) (d : D) (pos : Pos), walk w (p ++ q) d pos = match walk w p d pos with
    | some (e, pos') => walk w q e pos'
    | none => none
  | [], q, d, pos => by simp [walk]
  | i :: p, q, d, pos => by
    simp only [List.cons_append, walk]
    cases h : step1 w d pos i with
    | none => rfl
    | some r => exact walk_append w p q r.1 r.2
theorem get_append : ∀ (p q : List Nat) (d : D), D.get (p ++ q) d = (D.get p d).bind (D.get q)
  | [], q, d => by simp [D.get]
  | i :: p, q, d => by
    cases d with
    | agg ds =>
      simp only [List.cons_append, D.get]
      cases ds[i]? with
      | none => rfl
      | some e => exact get_append p q e
    | own nn sz ds =>
      simp only [List.cons_append, D.get]
      cases ds[i]? with
      | none => rfl
      | some e => exact get_append p q e
    | cell e =>
      simp only [List.cons_append, D.get]
      by_cases hi : i = 0
      · simp only [hi, if_true]; exact get_append p q e
      · simp [hi]
    | _ => simp [D.get]

/-- What stands at a root. -/
def ASt.cont (S : ASt) : Root → Option D
  | .slot t => match look S.slots t with
    | some (.d d) => if d.isHdr then some d else none
    | _ => none
  | .box b => match S.boxes[b]? with
    | some .dead => none
    | x => x
/-- What stands at a place. -/
def ASt.at (S : ASt) (r : Root) (p : List Nat) : Option D := match S.cont r with
  | some d => D.get p d
  | none => none
/-- Where a path of fields leads. -/
def D.offs : List Nat → D → Option Nat
  | [], _ => some 0
  | i :: p, d => match d with
    | .agg ds => match ds[i]? with
      | some e => match D.offs p e with
        | some n => some (D.ncL (ds.take i) + n)
        | none => none
      | none => none
    | _ => none

theorem root_at {g : Gh} {β : Env} {R : Blk} {Os : Own} {S : ASt} {a : Act} {w : World} (h : StR g β R Os S a w) {r : Root} {d : D} {pos : Pos} (hr : RootAt β S a r d pos) :
    ∃ O, At β w R d pos O ∧ (∀ x, O x → Os r x) ∧ (∀ x, pos.isIn x → Os r x ∧ ¬ O x) := by
  cases hr with
  | slot h1 h2 h4 =>
    rename_i t c
    obtain ⟨c', k1, k2⟩ := h.slots t d h1
    rw [h4] at k1
    injection k1 with k1
    subst k1
    refine ⟨_, ?_, fun _ x => x, fun x hx => hx.elim⟩
    cases d <;> simp [D.isHdr] at h2 <;> (obtain ⟨xs, m1, m2⟩ := k2; simp only [packs] at m1; subst m1; exact m2)
  | box h1 h2 h3 =>
    rename_i b x
    have hb := h.boxes b d h1
    have : ∃ x all T O', β b = some x ∧ Os (.box b) x ∧ w.heap[x]? = some (.cells all T (0, 0)) ∧ (∀ y, O' y → Os (.box b) y) ∧ ¬ O' x ∧ Rel β w R d all.toList O' := by
      cases d <;> first | exact hb | exact absurd rfl h2
    obtain ⟨x', all, T, O', k1, k2, k3, k4, k5, k6⟩ := this
    rw [h3] at k1
    injection k1 with k1
    subst k1
    refine ⟨O', ⟨all.toList, ⟨all, T, k3, by simp, fun k hk => by simp⟩, k6, k5, fun hR => h.apart _ _ hR k2⟩, k4, fun y hy => ?_⟩
    simp only [Pos.isIn] at hy
    subst hy
    exact ⟨k2, k5⟩

theorem cont_root {g : Gh} {β : Env} {R : Blk} {Os : Own} {S : ASt} {a : Act} {w : World} (h : StR g β R Os S a w) {r : Root} {d : D} (hc : S.cont r = some d) : ∃ pos, RootAt β S a r d pos := by
  cases r with
  | slot t =>
    simp only [ASt.cont] at hc
    split at hc
    · rename_i d' hl
      split at hc
      · rename_i hd
        injection hc with hc
        subst hc
        obtain ⟨c, k1, _⟩ := h.slots t d' hl
        exact ⟨_, .slot hl hd k1⟩
      · simp at hc
    · simp at hc
  | box b =>
    simp only [ASt.cont] at hc
    split at hc
    · simp at hc
    · rename_i hne
      have hd : d ≠ .dead := fun e => by subst e; exact hne hc
      have hb := h.boxes b d hc
      have : ∃ x, β b = some x := by
        cases d <;> first | (obtain ⟨x, _, _, _, k, _⟩ := hb; exact ⟨x, k⟩) | exact absurd rfl hd
      obtain ⟨x, hx⟩ := this
      exact ⟨_, .box hc hd hx⟩
theorem root_cont {β : Env} {S : ASt} {a : Act} {r : Root} {d : D} {pos : Pos} (hr : RootAt β S a r d pos) : S.cont r = some d := by
  cases hr with
  | slot h1 h2 h3 => simp [ASt.cont, h1, h2]
  | box h1 h2 h3 => simp only [ASt.cont, h1]; split <;> simp_all
theorem root_one {β : Env} {S : ASt} {a : Act} {r : Root} {d : D} {pos pos' : Pos} (hr : RootAt β S a r d pos) (hr' : RootAt β S a r d pos') : pos = pos' := by
  cases hr with
  | slot h1 h2 h3 => cases hr' with | slot k1 k2 k3 => rw [h3] at k3; injection k3 with k3; rw [k3]
  | box h1 h2 h3 => cases hr' with | box k1 k2 k3 => rw [h3] at k3; injection k3 with k3; rw [k3]

/-- A place: the way there. -/
theorem place {g : Gh} {β : Env} {R : Blk} {Os : Own} {S : ASt} {a : Act} {w : World} (h : StR g β R Os S a w) {r : Root} {p : List Nat} {e : D} (he : S.at r p = some e) :
    ∃ d pos pos' O, RootAt β S a r d pos ∧ walk w p d pos = some (e, pos') ∧ (p ≠ [] → ∃ b off, pos' = .mem b off) ∧ At β w R e pos' O ∧ (∀ x, O x → Os r x) := by
  unfold ASt.at at he
  split at he
  · rename_i d hc
    obtain ⟨pos, hr⟩ := cont_root h hc
    obtain ⟨O, k1, k2, k3⟩ := root_at h hr
    have hd : Disj R O := fun x a b => h.apart r x a (k2 x b)
    obtain ⟨pos', m1, m2⟩ := get_walk p d e pos O k1 hd he (by
      intro ds c h1 h2
      subst h1 h2
      cases hr with
      | slot h1 h2 h3 => simp [D.isHdr] at h2)
    obtain ⟨O', n1, n2⟩ := at_walk p d e pos pos' O k1 hd m1
    exact ⟨d, pos, pos', O', hr, m1, m2, n1, fun x hx => k2 x (n2 x hx)⟩
  · simp at he
/-- What hangs on a place, at that place. -/
theorem up_place {β : Env} {S : ASt} {a : Act} {w : World} {t : Nat} {b : Bool} {r : Root} {p : List Nat} (h : UPok β S a w t b r p) :
    ∃ d pos e pos' c, RootAt β S a r d pos ∧ walk w p d pos = some (e, pos') ∧ S.at r p = some e ∧ a.tmps[t]? = some c ∧ (if b then e.isHdr = true ∧ pos'.val w = some c else ∃ x off, pos' = .mem x off ∧ c = .pointer (some ⟨x, off, none⟩)) := by
  obtain ⟨d, pos, e, pos', c, h1, h2, h3, h4⟩ := h
  exact ⟨d, pos, e, pos', c, h1, h2, by rw [ASt.at, root_cont h1]; exact walk_get w p d e pos pos' h2, h3, h4⟩

theorem offs_walk (w : World) : ∀ (p : List Nat) (d e : D) (b off n : Nat), D.offs p d = some n → D.get p d = some e → walk w p d (.mem b off) = some (e, .mem b (off + n))
  | [], d, e, b, off, n, h, he => by simp [D.offs] at h; simp [D.get] at he; subst h he; rfl
  | i :: p, d, e, b, off, n, h, he => by
    cases d with
    | agg ds =>
      simp only [D.offs] at h
      simp only [D.get] at he
      split at h
      · rename_i e1 he1
        rw [he1] at he
        split at h
        · rename_i m hm
          injection h with h
          subst h
          simp only [walk, step1, he1, Option.map_some]
          rw [offs_walk w p e1 e b _ m hm he, Nat.add_assoc]
        · simp at h
      · simp at h
    | _ => simp [D.offs] at h

/-- The place whose address an operand is. -/
def ASt.ptr (G : Nat → Option D) (S : ASt) (x : Operand) : Option (Root × List Nat) :=
  match S.ev G x with
  | some (.u false r p) => some (r, p)
  | some (.u true r p) => match S.at r p with
    | some (.cell _) => some (r, p ++ [0])
    | _ => none
  | some (.d (.cell _)) => match x with
    | .tmp t => some (.slot t, [0])
    | _ => none
  | some (.d (.ref b p off)) => match S.cont (.box b) with
    | some d => if D.offs p d = some off then some (.box b, p) else none
    | none => none
  | _ => none

theorem ptr_ok {g : Gh} {β : Env} {R : Blk} {Os : Own} {S : ASt} {a : Act} {w : World} (h : StR g β R Os S a w) {x : Operand} {r : Root} {p : List Nat} (hp : S.ptr g.G x = some (r, p)) {e : D} (he : S.at r p = some e) :
    ∃ d pos b off O, RootAt β S a r d pos ∧ walk w p d pos = some (e, .mem b off) ∧ a.eval x = .pointer (some ⟨b, off, none⟩) ∧ At β w R e (.mem b off) O ∧ (∀ x, O x → Os r x) := by
  unfold ASt.ptr at hp
  split at hp
  · rename_i r' p' hx
    injection hp with hp
    injection hp with h1 h2
    subst h1 h2
    cases x with
    | tmp t =>
      obtain ⟨d, pos, e', pos', c, k1, k2, k3, k4, b, off, k5, k6⟩ := up_place (h.ups t _ _ _ hx)
      rw [he] at k3
      injection k3 with k3
      subst k3 k5
      obtain ⟨O, m1, m2, m3⟩ := root_at h k1
      obtain ⟨O', n1, n2⟩ := at_walk _ d _ pos _ O m1 (fun x a b => h.apart r' x a (m2 x b)) k2
      exact ⟨d, pos, b, off, O', k1, k2, by simp [Act.eval, k4, k6], n1, fun x hx => m2 x (n2 x hx)⟩
    | const v => simp only [ASt.ev] at hx; split at hx <;> simp at hx
    | func f => simp [ASt.ev] at hx
    | global i => simp [ASt.ev] at hx
  · rename_i r' p' hx
    split at hp
    · rename_i e0 he0
      injection hp with hp
      injection hp with h1 h2
      subst h1 h2
      cases x with
      | tmp t =>
        obtain ⟨d, pos, e', pos', c, k1, k2, k3, k4, k5, k6⟩ := up_place (h.ups t _ _ _ hx)
        rw [he0] at k3
        injection k3 with k3
        subst k3
        obtain ⟨O, m1, m2, m3⟩ := root_at h k1
        obtain ⟨O', n1, n2⟩ := at_walk _ d _ pos _ O m1 (fun x a b => h.apart r' x a (m2 x b)) k2
        have hone := at_one rfl n1 k6
        simp only [Rel] at hone
        obtain ⟨b, all, T, O1, q1, _⟩ := hone
        simp at q1
        have hw : walk w (p' ++ [0]) d pos = some (e0, .mem b 0) := by
          rw [walk_append, k2]
          simp [walk, step1, k6, q1]
        have hee : e = e0 := by
          have := walk_get w _ _ _ _ _ hw
          rw [ASt.at, root_cont k1] at he
          simp only at he
          rw [this] at he
          exact (Option.some.inj he).symm
        subst hee
        obtain ⟨O2, z1, z2⟩ := at_walk _ d _ pos _ O m1 (fun x a b => h.apart r' x a (m2 x b)) hw
        exact ⟨d, pos, b, 0, O2, k1, hw, by simp [Act.eval, k4, q1], z1, fun x hx => m2 x (z2 x hx)⟩
      | const v => simp only [ASt.ev] at hx; split at hx <;> simp at hx
      | func f => simp [ASt.ev] at hx
      | global i => simp [ASt.ev] at hx
    · simp at hp
  · rename_i e0 hx
    split at hp
    · rename_i t
      injection hp with hp
      injection hp with h1 h2
      subst h1 h2
      obtain ⟨c, k1, k2⟩ := h.slots t _ hx
      have hr : RootAt β S a (.slot t) (.cell e0) (.slot c) := .slot hx rfl k1
      obtain ⟨xs, q1, q2⟩ := k2
      simp only [packs] at q1
      subst q1
      have q2' := q2
      simp only [Rel] at q2'
      obtain ⟨b, all, T, O1, z1, _⟩ := q2'
      simp at z1
      have hw : walk w [0] (.cell e0) (.slot c) = some (e0, .mem b 0) := by simp [walk, step1, Pos.val, z1]
      have hee : e = e0 := by
        have := walk_get w _ _ _ _ _ hw
        rw [ASt.at, root_cont hr] at he
        simp only at he
        rw [this] at he
        exact (Option.some.inj he).symm
      subst hee
      obtain ⟨O, m1, m2, m3⟩ := root_at h hr
      obtain ⟨O2, y1, y2⟩ := at_walk _ _ _ _ _ O m1 (fun x a b => h.apart _ x a (m2 x b)) hw
      exact ⟨_, _, b, 0, O2, hr, hw, by simp [Act.eval, k1, z1], y1, fun x hx => m2 x (y2 x hx)⟩
    · simp at hp
  · rename_i bx p' off hx
    split at hp
    · rename_i d hc
      split at hp
      · rename_i ho
        injection hp with hp
        injection hp with h1 h2
        subst h1 h2
        obtain ⟨pos, hr⟩ := cont_root h hc
        cases hr with
        | box h1 h2 h3 =>
          rename_i xb
          have hr : RootAt β S a (.box bx) d (.mem xb 0) := .box h1 h2 h3
          have hget : D.get p' d = some e := by rw [ASt.at, hc] at he; exact he
          have hw := offs_walk w p' d e xb 0 off ho hget
          rw [Nat.zero_add] at hw
          obtain ⟨O, m1, m2, m3⟩ := root_at h hr
          obtain ⟨O2, y1, y2⟩ := at_walk _ _ _ _ _ O m1 (fun x a b => h.apart _ x a (m2 x b)) hw
          obtain ⟨O3, v1, _⟩ := evalV h hx
          obtain ⟨xs, v2, v3⟩ := v1
          simp only [Rel] at v3
          obtain ⟨y, v4, v5⟩ := v3
          rw [h3] at v4
          injection v4 with v4
          subst v4
          simp only [packs] at v2
          rw [v5] at v2
          injection v2 with v2
          exact ⟨d, _, xb, off, O2, hr, hw, v2.symm, y1, fun x hx => m2 x (y2 x hx)⟩
      · simp at hp
    · simp at hp
  · simp at hp

/-- Loading what owns nothing: a copy. -/
theorem n_load (hX : X.Ok) {S : ASt} {o : Oper} {t : TypeId} {i : TI} {x : Operand} {r : Root} {p : List Nat} {e : D} (ho : o.op = .load t x) (ht : X.T t = some i) (hp : S.ptr X.G x = some (r, p)) (he : S.at r p = some e)
    (hr : e.ro = true) (hf : i.fits e = true) : NRes X S o (.d e) := by
  intro g β R Os a w hG h
  obtain ⟨d, pos, b, off, O, h1, h2, h3, ⟨cs, h4, h5, _⟩, _⟩ := ptr_ok h (by rw [hG]; exact hp) he
  obtain ⟨v, k1, k2⟩ := run_loadVar hX ht h5 h4.r hf
  refine came_same (v := v) ?_ (RelV.mk k2 (Rel.ro e cs O hr h5))
  simp [execOp, ho, h3, Instr.loadAt, Instr.sureAddr, k1]
/-- Loading what owns: it is looked at where it lies. -/
theorem n_loadH (hX : X.Ok) {S : ASt} {o : Oper} {t : TypeId} {i : TI} {x : Operand} {r : Root} {p : List Nat} {e : D} (ho : o.op = .load t x) (ht : X.T t = some i) (hp : S.ptr X.G x = some (r, p)) (he : S.at r p = some e)
    (hr : e.isHdr = true) (hf : i.fits e = true) : NRes X S o (.u true r p) := by
  intro g β R Os a w hG h
  obtain ⟨d, pos, b, off, O, h1, h2, h3, ⟨cs, h4, h5, _⟩, _⟩ := ptr_ok h (by rw [hG]; exact hp) he
  obtain ⟨v, k1, k2⟩ := run_loadVar hX ht h5 h4.r hf
  have hcs : cs = [v] := by cases e <;> simp [D.isHdr] at hr <;> exact k2
  subst hcs
  have := h4.cell 0 (by simp)
  refine ⟨v, by simp [execOp, ho, h3, Instr.loadAt, Instr.sureAddr, k1], d, pos, e, .mem b off, h1, h2, hr, by simpa [Pos.val] using this⟩
/-- Loading through a pointer to what nobody turns. -/
theorem n_loadF (hX : X.Ok) {S : ASt} {o : Oper} {t : TypeId} {i : TI} {x : Operand} {e : D} (ho : o.op = .load t x) (ht : X.T t = some i) (hx : S.ev X.G x = some (.d (.fz e))) (hf : i.fits e = true) : NRes X S o (.d e) := by
  intro g β R Os a w hG h
  obtain ⟨xs, h1, h2⟩ := evalR h (by rw [hG]; exact hx) rfl
  simp only [Rel] at h2
  obtain ⟨b, off, all, T, fr, k1, k2, k3, k4, k5⟩ := h2
  simp only [packs] at h1
  rw [k1] at h1
  injection h1 with h1
  obtain ⟨v, m1, m2⟩ := run_loadVar hX ht k5 (cellsR_of k3 k4) hf
  refine came_same (v := v) ?_ (RelV.mk m2 k5)
  simp [execOp, ho, ← h1, Instr.loadAt, Instr.sureAddr, m1]

theorem run_fieldPlace (hX : X.Ok) {f : Field} {i : TI} (ht : X.T f.type = some i) (hs : i.size ≠ 0) (b off : Nat) (w : World) : (fieldPlace ⟨b, off, none⟩ f).run X.P w = .ok ⟨b, off + f.offset, none⟩ w := by
  unfold fieldPlace
  rw [Sem.run_bind, run_size hX ht]
  simp [hs, add_off]

/-- What is known of a struct's field. -/
def Cx.fld (X : Cx) (s : TypeId) (j : Nat) : Option Nat := match X.T s with
  | some i => match i.desc with
    | .struct fs => match fs[j]? with
      | some f => match X.T f.type with
        | some k => if k.size = 0 then none else some f.offset
        | none => none
      | none => none
    | _ => none
  | none => none

theorem run_fieldAt (hX : X.Ok) {s : TypeId} {j n : Nat} (h : X.fld s j = some n) (b off : Nat) (w : World) : (Instr.fieldAt s (.pointer (some ⟨b, off, none⟩)) j).run X.P w = .ok (.pointer (some ⟨b, off + n, none⟩)) w := by
  unfold Cx.fld at h
  split at h
  · rename_i i hi
    split at h
    · rename_i fs hd
      split at h
      · rename_i f hf
        split at h
        · rename_i k hk
          split at h
          · simp at h
          · rename_i hs
            injection h with h
            subst h
            simp [Instr.fieldAt, run_under hX hi, hd, hf, Instr.sureAddr, run_fieldPlace hX hk hs]
        · simp at h
      · simp at h
    · simp at h
  · simp at h

/-- The address of a field. -/
theorem n_field (hX : X.Ok) {S : ASt} {o : Oper} {s : TypeId} {j n : Nat} {x : Operand} {r : Root} {p : List Nat} {ds : List D} {e : D} (ho : o.op = .fieldAddr s x j) (hs : X.fld s j = some n) (hp : S.ptr X.G x = some (r, p))
    (he : S.at r p = some (.agg ds)) (hj : ds[j]? = some e) (hn : D.ncL (ds.take j) = n) : NRes X S o (.u false r (p ++ [j])) := by
  intro g β R Os a w hG h
  obtain ⟨d, pos, b, off, O, h1, h2, h3, _⟩ := ptr_ok h (by rw [hG]; exact hp) he
  refine ⟨.pointer (some ⟨b, off + n, none⟩), by simp [execOp, ho, h3, run_fieldAt hX hs], d, pos, e, .mem b (off + n), h1, ?_, ?_⟩
  · rw [walk_append, h2]
    simp [walk, step1, hj, hn]
  · exact ⟨_, _, rfl, rfl⟩
theorem n_fieldF (hX : X.Ok) {S : ASt} {o : Oper} {s : TypeId} {j n : Nat} {x : Operand} {ds : List D} {e : D} (ho : o.op = .fieldAddr s x j) (hs : X.fld s j = some n) (hx : S.ev X.G x = some (.d (.fz (.agg ds))))
    (hj : ds[j]? = some e) (hn : D.ncL (ds.take j) = n) : NRes X S o (.d (.fz e)) := by
  intro g β R Os a w hG h
  obtain ⟨xs, h1, h2⟩ := evalR h (by rw [hG]; exact hx) rfl
  simp only [Rel] at h2
  obtain ⟨b, off, all, T, fr, k1, k2, k3, k4, k5⟩ := h2
  simp only [packs] at h1
  rw [k1] at h1
  injection h1 with h1
  refine came_same (v := .pointer (some ⟨b, off + n, none⟩)) (by simp [execOp, ho, ← h1, run_fieldAt hX hs]) (RelV.mk (xs := [.pointer (some ⟨b, off + n, none⟩)]) (by simp [packs]) ?_)
  obtain ⟨c1, c2, c3, Oe, m1, m2, m3, m4⟩ := relL_get ds j _ _ e k5 hj
  rw [hn] at m2
  have hl := Rel.len e c2 Oe m3
  have hlen : ((all.toList.drop off).take (D.agg ds).nc).length = (D.agg ds).nc := (of_take_drop k4).1
  rw [m1] at hlen
  simp at hlen
  simp only [Rel]
  refine ⟨b, off + n, all, T, fr, rfl, k2, k3, by omega, ?_⟩
  have : (all.toList.drop (off + n)).take e.nc = c2 := by
    have h0 : ((all.toList.drop off).take (D.agg ds).nc).drop n = c2 ++ c3 := by rw [m1, ← m2, List.drop_left]
    have h2 := congrArg (List.take c2.length) h0
    rw [List.drop_take, List.take_take, Nat.min_eq_left (by omega), List.drop_drop] at h2
    rw [← hl]
    simpa using h2
  rw [this]
  exact Rel.up (fun _ _ x => x) (fun _ x => x) (fun _ _ => rfl) e c2 Oe _ (fun _ _ => rfl) m4 m3
end
end Go.Proofs.YtfbppkjjdbkedaaGreatDoor.Ref
/-
  The abstract machine, more operations that turn nothing: elements, lengths, slices, new variables, structs, numbers, strings.
-/
namespace Go.Proofs.YtfbppkjjdbkedaaGreatDoor.Ref
noncomputable section
open Go
set_option linter.unusedVariables false
variable {X : Cx}

/-- What has a value of its own in a slot or a cell. -/
def D.okc : D → Bool
  | .tup _ | .und | .dead => false
  | _ => true
theorem rel_not_agg {β : Env} {w : World} {R O : Blk} {d : D} {c : Value} (h : Rel β w R d [c] O) (h1 : ∀ ds, d ≠ .agg ds) (h2 : d.okc = true) : ∀ cs, c ≠ .agg cs := by
  intro cs hc
  subst hc
  cases d <;> simp [Rel, D.okc] at h h2 h1 <;> first | (obtain ⟨h, rfl⟩ := h; simp [scal] at h) | simp_all
theorem packs_cells {β : Env} {w : World} {R O : Blk} {d : D} {xs : List Value} {c : Value} (hp : packs d xs c) (h : Rel β w R d xs O) (h2 : d.okc = true) : c.cells = xs.toArray := by
  by_cases ha : ∃ ds, d = .agg ds
  · obtain ⟨ds, rfl⟩ := ha
    simp only [packs] at hp
    rw [hp]; rfl
  · have ha : ∀ ds, d ≠ .agg ds := fun ds hd => ha ⟨ds, hd⟩
    rw [packs_one ha] at hp
    subst hp
    have := rel_not_agg h ha h2
    cases c <;> first | rfl | exact absurd rfl (this _)
theorem RelV.okc {β : Env} {w : World} {R O : Blk} {d : D} {c : Value} (h : RelV β w R d c O) (h2 : d.okc = true) : ∃ xs, packs d xs c ∧ Rel β w R d xs O := by
  cases d <;> first | exact h | simp [D.okc] at h2

-- ---------------------------------------------------------------- nil checks
def TV.nonnil : TV → Bool
  | .u _ _ _ => true
  | .d (.fz _) | .d (.ref _ _ _) | .d (.ifc _ _) => true
  | _ => false
theorem n_nil {S : ASt} {o : Oper} {x : Operand} {tv : TV} (ho : o.op = .nilCheck x) (hx : S.mv X.G x = some tv) (hn : tv.nonnil = true) (hh : ∀ r p, tv = .u true r p → ∃ e, S.at r p = some (.cell e)) : NRes X S o tv := by
  intro g β R Os a w hG h
  have hc := mv_came h (by rw [hG]; exact hx)
  have : (execOp a.eval o).run X.P w = .ok (.value (a.eval x)) w := by
    have key : (∃ b, a.eval x = .pointer (some b)) ∨ (∃ t v, a.eval x = .iface t v) := by
      cases tv with
      | d d =>
        obtain ⟨v, w', R', On, h1, h2, h3, h4, h5, _⟩ := hc
        injection h1 with h1 h1'
        injection h1 with h1
        cases d <;> simp [TV.nonnil] at hn <;> (obtain ⟨xs, m1, m2⟩ := h5; simp only [packs] at m1; subst m1; simp only [Rel] at m2)
        · obtain ⟨b, off, _, _, _, m2, _⟩ := m2; simp at m2; exact .inl ⟨_, h1.trans m2⟩
        · obtain ⟨b, _, m2⟩ := m2; simp at m2; exact .inl ⟨_, h1.trans m2⟩
        · obtain ⟨c, ys, m2, _⟩ := m2; simp at m2; exact .inr ⟨_, _, h1.trans m2⟩
      | u b r p =>
        obtain ⟨v, h1, d, pos, e, pos', h2, h3, h4⟩ := hc
        injection h1 with h1 h1'
        injection h1 with h1
        cases b with
        | false => obtain ⟨y, off, k1, k2⟩ := h4; exact .inl ⟨_, h1.trans k2⟩
        | true =>
          obtain ⟨e0, he0⟩ := hh r p rfl
          have : e = .cell e0 := by
            have := walk_get w _ _ _ _ _ h3
            rw [ASt.at, root_cont h2] at he0
            simp only at he0
            rw [this] at he0
            exact Option.some.inj he0
          subst this
          obtain ⟨O, m1, m2, m3⟩ := root_at h h2
          obtain ⟨O', n1, n2⟩ := at_walk _ d _ pos _ O m1 (fun x a b => h.apart r x a (m2 x b)) h3
          have hone := at_one rfl n1 h4.2
          simp only [Rel] at hone
          obtain ⟨b, all, T, O1, q1, _⟩ := hone
          simp at q1
          exact .inl ⟨_, h1.trans q1⟩
    rcases key with ⟨b, hb⟩ | ⟨t, v, hb⟩ <;> simp [execOp, ho, hb]
  rw [this]
  exact hc

-- ---------------------------------------------------------------- elements
theorem run_indexAt (hX : X.Ok) {t e : TypeId} {i k : TI} (ht : X.T t = some i) (hd : i.desc = .slice e) (he : X.T e = some k) (b off len cap : Nat) (kd : IntKind) (n : Int) (h0 : 0 ≤ n) (h1 : n < len) (w : World) :
    (Instr.indexAt t (.slice (some ⟨b, off, none⟩) len cap) (.int kd n)).run X.P w = .ok (.pointer (some ⟨b, off + n.toNat * k.size, none⟩)) w := by
  simp [Instr.indexAt, asIntOf, run_under hX ht, hd, h0, h1, run_size hX he, add_off]

theorem n_idxR (hX : X.Ok) {S : ASt} {o : Oper} {t e : TypeId} {i k : TI} {x y : Operand} {nn : Bool} {sz : Nat} {ds : List D} {kd : IntKind} {n : Int} {d : D} (ho : o.op = .indexAddr t x y) (ht : X.T t = some i) (hd : i.desc = .slice e)
    (he : X.T e = some k) (hx : S.ev X.G x = some (.d (.row nn sz ds))) (hy : S.ev X.G y = some (.d (.v (.int kd n)))) (h0 : 0 ≤ n) (hn : ds[n.toNat]? = some d) (hs : k.size = sz) : NRes X S o (.d (.fz d)) := by
  intro g β R Os a w hG h
  obtain ⟨xs, h1, h2⟩ := evalR h (by rw [hG]; exact hx) rfl
  obtain ⟨ys, k1, k2⟩ := evalR h (by rw [hG]; exact hy) rfl
  simp only [Rel] at h2 k2
  simp only [packs] at h1 k1
  rcases h2 with ⟨rfl, _⟩ | ⟨b, off, len, cap, all, T, fr, m1, m2, m3, m4, m5, m6, m7, m8⟩
  · simp at hn
  · rw [h1] at m1; rw [k1] at k2
    injection m1 with m1
    have k2 := k2.2
    injection k2 with k2
    have hlt : n.toNat < ds.length := (List.getElem?_eq_some_iff.1 hn).1
    have hnc : d.nc = sz := m7 d (List.mem_of_getElem? hn)
    refine came_same (v := .pointer (some ⟨b, off + n.toNat * sz, none⟩)) (by simp [execOp, ho, m1, k2, run_indexAt hX ht hd he b off len cap kd n h0 (by omega), hs]) (RelV.mk (xs := [.pointer (some ⟨b, off + n.toNat * sz, none⟩)]) (by simp [packs]) ?_)
    obtain ⟨c1, c2, c3, Oe, q1, q2, q3, q4⟩ := relL_get ds n.toNat _ _ d m8 hn
    rw [ncL_take ds n.toNat m7 (by omega)] at q2
    have hl := Rel.len d c2 Oe q3
    have hlen : ((all.toList.drop off).take (len * sz)).length = len * sz := (of_take_drop m6).1
    rw [q1] at hlen
    simp at hlen
    simp only [Rel]
    refine ⟨b, off + n.toNat * sz, all, T, fr, rfl, m2, m3, by omega, ?_⟩
    have : (all.toList.drop (off + n.toNat * sz)).take d.nc = c2 := by
      have h0 : ((all.toList.drop off).take (len * sz)).drop (n.toNat * sz) = c2 ++ c3 := by rw [q1, ← q2, List.drop_left]
      have h2 := congrArg (List.take c2.length) h0
      rw [List.drop_take, List.take_take, Nat.min_eq_left (by omega), List.drop_drop] at h2
      rw [← hl]
      simpa using h2
    rw [this]
    exact Rel.up (fun _ _ x => x) (fun _ x => x) (fun _ _ => rfl) d c2 Oe _ (fun _ _ => rfl) q4 q3

/-- The slice of ours that an operand is. -/
def ASt.sli (G : Nat → Option D) (S : ASt) (x : Operand) : Option (Root × List Nat) :=
  match S.ev G x with
  | some (.u true r p) => some (r, p)
  | some (.d (.own _ _ _)) => match x with
    | .tmp t => some (.slot t, [])
    | _ => none
  | some (.d (.mapo _ _)) => match x with
    | .tmp t => some (.slot t, [])
    | _ => none
  | _ => none
theorem sli_ok {g : Gh} {β : Env} {R : Blk} {Os : Own} {S : ASt} {a : Act} {w : World} (h : StR g β R Os S a w) {x : Operand} {r : Root} {p : List Nat} (hp : S.sli g.G x = some (r, p)) {e : D} (he : S.at r p = some e) :
    ∃ d pos pos' O, RootAt β S a r d pos ∧ walk w p d pos = some (e, pos') ∧ pos'.val w = some (a.eval x) ∧ Rel β w R e [a.eval x] O ∧ (∀ x, O x → Os r x) ∧ e.isHdr = true := by
  unfold ASt.sli at hp
  split at hp
  · rename_i r' p' hx
    injection hp with hp
    injection hp with h1 h2
    subst h1 h2
    cases x with
    | tmp t =>
      obtain ⟨d, pos, e', pos', c, k1, k2, k3, k4, k5, k6⟩ := up_place (h.ups t _ _ _ hx)
      rw [he] at k3
      injection k3 with k3
      subst k3
      obtain ⟨O, m1, m2, m3⟩ := root_at h k1
      obtain ⟨O', n1, n2⟩ := at_walk _ d _ pos _ O m1 (fun x a b => h.apart r' x a (m2 x b)) k2
      have : a.eval (.tmp t) = c := by simp [Act.eval, k4]
      rw [this]
      exact ⟨d, pos, pos', O', k1, k2, k6, at_one (by cases e <;> simp [D.isHdr] at k5 <;> rfl) n1 k6, fun x hx => m2 x (n2 x hx), k5⟩
    | const v => simp only [ASt.ev] at hx; split at hx <;> simp at hx
    | func f => simp [ASt.ev] at hx
    | global i => simp [ASt.ev] at hx
  · rename_i nn sz ds hx
    split at hp
    · rename_i t
      injection hp with hp
      injection hp with h1 h2
      subst h1 h2
      obtain ⟨c, k1, k2⟩ := h.slots t _ hx
      have hr : RootAt β S a (.slot t) (.own nn sz ds) (.slot c) := .slot hx rfl k1
      have hee : e = .own nn sz ds := by rw [ASt.at, root_cont hr] at he; simpa [D.get] using he.symm
      subst hee
      obtain ⟨xs, q1, q2⟩ := k2
      simp only [packs] at q1
      subst q1
      have : a.eval (.tmp t) = c := by simp [Act.eval, k1]
      rw [this]
      exact ⟨_, _, _, _, hr, rfl, rfl, q2, fun _ x => x, rfl⟩
    · simp at hp
  · rename_i ks ds hx
    split at hp
    · rename_i t
      injection hp with hp
      injection hp with h1 h2
      subst h1 h2
      obtain ⟨c, k1, k2⟩ := h.slots t _ hx
      have hr : RootAt β S a (.slot t) (.mapo ks ds) (.slot c) := .slot hx rfl k1
      have hee : e = .mapo ks ds := by rw [ASt.at, root_cont hr] at he; simpa [D.get] using he.symm
      subst hee
      obtain ⟨xs, q1, q2⟩ := k2
      simp only [packs] at q1
      subst q1
      have : a.eval (.tmp t) = c := by simp [Act.eval, k1]
      rw [this]
      exact ⟨_, _, _, _, hr, rfl, rfl, q2, fun _ x => x, rfl⟩
    · simp at hp
  · simp at hp

theorem n_idxO (hX : X.Ok) {S : ASt} {o : Oper} {t e : TypeId} {i k : TI} {x y : Operand} {nn : Bool} {sz : Nat} {ds : List D} {kd : IntKind} {n : Int} {r : Root} {p : List Nat} (ho : o.op = .indexAddr t x y) (ht : X.T t = some i) (hd : i.desc = .slice e)
    (he : X.T e = some k) (hx : S.sli X.G x = some (r, p)) (hat : S.at r p = some (.own nn sz ds)) (hy : S.ev X.G y = some (.d (.v (.int kd n)))) (h0 : 0 ≤ n) (hn : n < ds.length) (hs : k.size = sz) : NRes X S o (.u false r (p ++ [n.toNat])) := by
  intro g β R Os a w hG h
  obtain ⟨d, pos, pos', O, h1, h2, h3, h4, h5, h6⟩ := sli_ok h (by rw [hG]; exact hx) hat
  obtain ⟨ys, k1, k2⟩ := evalR h (by rw [hG]; exact hy) rfl
  simp only [Rel] at k2
  simp only [packs] at k1
  rw [k1] at k2
  have k2 := k2.2
  injection k2 with k2
  obtain ⟨b, off, len, cap, O', m1, m2, m3, m4, m5, m6, _⟩ := own_at h4 (fun x a b => h.apart r x a (h5 x b)) (fun e => by rw [e] at hn; simp at hn; omega)
  have hlt : n.toNat < ds.length := by omega
  refine ⟨.pointer (some ⟨b, off + n.toNat * sz, none⟩), by simp [execOp, ho, m1, k2, run_indexAt hX ht hd he b off len cap kd n h0 (by omega), hs], d, pos, ds[n.toNat], .mem b (off + n.toNat * sz), h1, ?_, _, _, rfl, rfl⟩
  rw [walk_append, h2]
  simp [walk, step1, h3, m1, List.getElem?_eq_getElem hlt]

-- ---------------------------------------------------------------- lengths
theorem n_lenR (hX : X.Ok) {S : ASt} {o : Oper} {c : Call} {t : TypeId} {e : TypeId} {i : TI} {x : Operand} {nn : Bool} {sz : Nat} {ds : List D} (ho : o.op = .call c) (hb : c.callee = .builtin .len) (ha : c.args = #[x]) (hat : c.argTypes = #[t]) (ht : X.T t = some i) (hd : i.desc = .slice e)
    (hx : S.ev X.G x = some (.d (.row nn sz ds))) : NRes X S o (.d (.v (.int .i64 ds.length))) := by
  intro g β R Os a w hG h
  obtain ⟨xs, h1, h2⟩ := evalR h (by rw [hG]; exact hx) rfl
  simp only [Rel] at h2
  simp only [packs] at h1
  refine came_same (v := .int .i64 ds.length) ?_ (RelV.mk (xs := [.int .i64 ds.length]) (by simp [packs]) (by simp [Rel, scal]))
  rcases h2 with ⟨rfl, p, cap, h2, _⟩ | ⟨b, off, len, cap, all, T, fr, m1, m2, m3, m4, _⟩
  · rw [h1] at h2
    injection h2 with h2
    simp [execOp, ho, hb, ha, hat, resolve, invoke, builtin, Builtin.len_, h2, run_under hX ht, hd, goInt]
  · rw [h1] at m1
    injection m1 with m1
    simp [execOp, ho, hb, ha, hat, resolve, invoke, builtin, Builtin.len_, m1, run_under hX ht, hd, goInt, m4]
theorem n_lenO (hX : X.Ok) {S : ASt} {o : Oper} {c : Call} {t : TypeId} {e : TypeId} {i : TI} {x : Operand} {nn : Bool} {sz : Nat} {ds : List D} {r : Root} {p : List Nat} (ho : o.op = .call c) (hb : c.callee = .builtin .len) (ha : c.args = #[x]) (hat : c.argTypes = #[t]) (ht : X.T t = some i) (hd : i.desc = .slice e)
    (hx : S.sli X.G x = some (r, p)) (hr : S.at r p = some (.own nn sz ds)) : NRes X S o (.d (.v (.int .i64 ds.length))) := by
  intro g β R Os a w hG h
  obtain ⟨d, pos, pos', O, h1, h2, h3, h4, h5, h6⟩ := sli_ok h (by rw [hG]; exact hx) hr
  refine came_same (v := .int .i64 ds.length) ?_ (RelV.mk (xs := [.int .i64 ds.length]) (by simp [packs]) (by simp [Rel, scal]))
  simp only [Rel] at h4
  rcases h4 with ⟨_, rfl, h4⟩ | ⟨b, off, len, cap, all, T, O', m1, m2, m3, m4, _⟩
  · simp at h4
    simp [execOp, ho, hb, ha, hat, resolve, invoke, builtin, Builtin.len_, h4, run_under hX ht, hd, goInt]
  · simp at m1
    simp [execOp, ho, hb, ha, hat, resolve, invoke, builtin, Builtin.len_, m1, run_under hX ht, hd, goInt, m4]
theorem n_lenV (hX : X.Ok) {S : ASt} {o : Oper} {c : Call} {t : TypeId} {i : TI} {x : Operand} {s : ByteArray} (ho : o.op = .call c) (hb : c.callee = .builtin .len) (ha : c.args = #[x]) (hat : c.argTypes = #[t]) (ht : X.T t = some i) (hd : i.desc = .string)
    (hx : S.ev X.G x = some (.d (.v (.string s)))) : NRes X S o (.d (.v (.int .i64 s.size))) := by
  intro g β R Os a w hG h
  obtain ⟨xs, h1, h2⟩ := evalR h (by rw [hG]; exact hx) rfl
  simp only [Rel] at h2
  simp only [packs] at h1
  rw [h1] at h2
  have h2 := h2.2
  injection h2 with h2
  refine came_same (v := .int .i64 s.size) ?_ (RelV.mk (xs := [.int .i64 s.size]) (by simp [packs]) (by simp [Rel, scal]))
  simp [execOp, ho, hb, ha, hat, resolve, invoke, builtin, Builtin.len_, h2, run_under hX ht, hd, goInt]
theorem n_lenN (hX : X.Ok) {S : ASt} {o : Oper} {c : Call} {t : TypeId} {e : TypeId} {i : TI} {x : Operand} (ho : o.op = .call c) (hb : c.callee = .builtin .len) (ha : c.args = #[x]) (hat : c.argTypes = #[t]) (ht : X.T t = some i) (hd : i.desc = .slice e)
    (hx : S.ev X.G x = some (.d (.v (.slice none 0 0)))) : NRes X S o (.d (.v (.int .i64 0))) := by
  intro g β R Os a w hG h
  obtain ⟨xs, h1, h2⟩ := evalR h (by rw [hG]; exact hx) rfl
  simp only [Rel] at h2
  simp only [packs] at h1
  rw [h1] at h2
  have h2 := h2.2
  injection h2 with h2
  refine came_same (v := .int .i64 0) ?_ (RelV.mk (xs := [.int .i64 0]) (by simp [packs]) (by simp [Rel, scal]))
  simp [execOp, ho, hb, ha, hat, resolve, invoke, builtin, Builtin.len_, h2, run_under hX ht, hd, goInt]

-- ---------------------------------------------------------------- new variables
theorem evalX {g : Gh} {β : Env} {R : Blk} {Os : Own} {S : ASt} {a : Act} {w : World} (h : StR g β R Os S a w) {x : Operand} {d : D} (hx : S.ev g.G x = some (.d d)) (hr : d.ro = true) (hk : d.okc = true) :
    ∃ xs, packs d xs (a.eval x) ∧ Rel β w R d xs Blk.emp ∧ (a.eval x).cells = xs.toArray := by
  obtain ⟨xs, h1, h2⟩ := (evalR h hx hr).okc hk
  exact ⟨xs, h1, h2, packs_cells h1 h2 hk⟩

theorem fresh_cell {β : Env} {w : World} {R : Blk} {d : D} {xs : List Value} (t : TypeId) (h : Rel β w R d xs Blk.emp) (hR : ∀ x, R x → x < w.heap.size) :
    Rel β { w with heap := w.heap.push (.cells xs.toArray t) } R (.cell d) [.pointer (some ⟨w.heap.size, 0, none⟩)] (fun x => x = w.heap.size) := by
  simp only [Rel]
  refine ⟨w.heap.size, xs.toArray, t, Blk.emp, rfl, rfl, by simp, fun _ x => x.elim, fun x => x, ?_⟩
  have hg := Grow.alloc w (.cells xs.toArray t)
  exact Rel.up (fun _ _ x => x) (fun _ x => x) (fun b hb => hg.block b (hR b hb)) d _ _ _ (fun _ x => x.elim) (fun _ x => x) (by simpa using h)

theorem came_fresh {β : Env} {S : ASt} {a : Act} {R : Blk} {w : World} {r : Result Next} {d : D} {v : Value} {o : Obj} (h : r = .ok (.value v) { w with heap := w.heap.push o }) (hR : ∀ x, R x → x < w.heap.size)
    (hv : RelV β { w with heap := w.heap.push o } R d v (fun x => x = w.heap.size)) : Came β S a R w r (.d d) :=
  ⟨v, _, R, _, h, Grow.alloc w o, fun _ x => x, fun _ x => .inl x, hv, fun x hx => by subst hx; simp, fun x hx hy => by subst hy; exact absurd (hR _ hx) (Nat.lt_irrefl _)⟩

theorem n_box {S : ASt} {o : Oper} {t : TypeId} {x : Operand} {d : D} (ho : o.op = .box t x) (hx : S.ev X.G x = some (.d d)) (hr : d.ro = true) (hk : d.okc = true) : NRes X S o (.d (.cell d)) := by
  intro g β R Os a w hG h
  obtain ⟨xs, h1, h2, h3⟩ := evalX h (by rw [hG]; exact hx) hr hk
  have hR : ∀ x, R x → x < w.heap.size := fun x hx => (h.read x hx).1
  refine came_fresh (o := .cells xs.toArray t) (v := .pointer (some ⟨w.heap.size, 0, none⟩)) ?_ hR (RelV.mk (xs := [.pointer (some ⟨w.heap.size, 0, none⟩)]) (by simp [packs]) (fresh_cell t h2 hR))
  simp [execOp, ho, Instr.box, newVar, newRow, h3]
theorem came_freshF {β : Env} {S : ASt} {a : Act} {R : Blk} {w : World} {r : Result Next} {d : D} {v : Value} {o : Obj} (h : r = .ok (.value v) { w with heap := w.heap.push o })
    (hv : RelV β { w with heap := w.heap.push o } (Or2 R fun x => x = w.heap.size) d v Blk.emp) : Came β S a R w r (.d d) :=
  ⟨v, _, Or2 R fun x => x = w.heap.size, Blk.emp, h, Grow.alloc w o, fun _ x => .inl x, fun x hx => hx.elim .inl fun hx => .inr (by subst hx; simp), hv, fun x hx => hx.elim, fun x _ hy => hy.elim⟩
theorem n_boxF {S : ASt} {o : Oper} {t : TypeId} {x : Operand} {d : D} (ho : o.op = .box t x) (hx : S.ev X.G x = some (.d d)) (hr : d.ro = true) (hk : d.okc = true) : NRes X S o (.d (.fz d)) := by
  intro g β R Os a w hG h
  obtain ⟨xs, h1, h2, h3⟩ := evalX h (by rw [hG]; exact hx) hr hk
  have hR : ∀ x, R x → x < w.heap.size := fun x hx => (h.read x hx).1
  refine came_freshF (o := .cells xs.toArray t) (v := .pointer (some ⟨w.heap.size, 0, none⟩)) ?_ (RelV.mk (xs := [.pointer (some ⟨w.heap.size, 0, none⟩)]) (by simp [packs]) ?_)
  · simp [execOp, ho, Instr.box, newVar, newRow, h3]
  · have := Rel.frz _ _ _ (fresh_cell t h2 hR)
    simp only [D.frz, D.frz_ro d hr] at this
    exact this
theorem n_alloc (hX : X.Ok) {S : ASt} {o : Oper} {t : TypeId} {i : TI} (ho : o.op = .alloc t) (ht : X.T t = some i) : NRes X S o (.d (.cell i.zero)) := by
  intro g β R Os a w hG h
  obtain ⟨zv, xs, h1, h2, h3, h4⟩ := run_zero hX ht w
  have hR : ∀ x, R x → x < w.heap.size := fun x hx => (h.read x hx).1
  refine came_fresh (o := .cells xs.toArray t) (v := .pointer (some ⟨w.heap.size, 0, none⟩)) ?_ hR (RelV.mk (xs := [.pointer (some ⟨w.heap.size, 0, none⟩)]) (by simp [packs]) (fresh_cell t (D.lit_rel _ _ h4) hR))
  simp [execOp, ho, Instr.alloc, newVar, newRow, h1, h2]

-- ---------------------------------------------------------------- numbers, bools, strings
/-- Are bytes the same? -/
def eqL : List UInt8 → List UInt8 → Bool
  | [], [] => true
  | a :: l, b :: m => Nat.beq a.toNat b.toNat && eqL l m
  | _, _ => false
theorem eqL_eq : ∀ a b : List UInt8, eqL a b = (a == b)
  | [], [] => rfl
  | [], _ :: _ => rfl
  | _ :: _, [] => rfl
  | a :: l, b :: m => by
    have : Nat.beq a.toNat b.toNat = (a == b) := by
      rw [Bool.eq_iff_iff, Nat.beq_eq, beq_iff_eq]
      exact UInt8.toNat_inj
    simp [eqL, eqL_eq l m, this]
def eqB (a b : ByteArray) : Bool := eqL a.data.toList b.data.toList
theorem eqB_eq (a b : ByteArray) : (a.toList == b.toList) = eqB a b := by rw [ByteArray.toList_eq, ByteArray.toList_eq, eqB, eqL_eq]
def catB (a b : ByteArray) : ByteArray := ⟨⟨a.data.toList ++ b.data.toList⟩⟩
theorem catB_eq (a b : ByteArray) : a ++ b = catB a b := by
  have h : (a ++ b).data = (catB a b).data := by
    rw [ByteArray.data_append]; apply Array.ext'; simp [catB]
  cases h1 : a ++ b
  cases h2 : catB a b
  rw [h1, h2] at h
  simpa using h
def subB (s : ByteArray) (l h : Nat) : ByteArray := ⟨⟨(s.data.toList.drop l).take (h - l)⟩⟩
theorem subB_eq (s : ByteArray) (l h : Nat) : s.extract l h = subB s l h := by
  have e : (s.extract l h).data = (subB s l h).data := by
    rw [ByteArray.data_extract]; apply Array.ext'; simp [subB]
  cases h1 : s.extract l h
  cases h2 : subB s l h
  rw [h1, h2] at e
  simpa using e
theorem getB (s : ByteArray) (n : Nat) : s[n]? = s.data.toList[n]? := by
  rw [Array.getElem?_toList]
  rcases Nat.lt_or_ge n s.size with h | h
  · rw [getElem?_pos s n h, getElem?_pos s.data n h]; rfl
  · rw [getElem?_neg s n (by omega), getElem?_neg s.data n (by have : s.data.size = s.size := rfl; omega)]

/-- Operators on plain values. -/
def bin (op : BinOp) : Value → Value → Option Value
  | .int k a, .int k' b => match op with
    | .shl => if 0 ≤ b then some (.int k (k.wrap (a * 2 ^ (min b.toNat k.bits)))) else none
    | .shr => if 0 ≤ b then some (.int k (a.fdiv (2 ^ (min b.toNat k.bits)))) else none
    | op => if k = k' then match op with
      | .add => some (.int k (k.wrap (a + b)))
      | .sub => some (.int k (k.wrap (a - b)))
      | .mul => some (.int k (k.wrap (a * b)))
      | .eql => some (.bool (a == b))
      | .neq => some (.bool (a != b))
      | .lss => some (.bool (decide (a < b)))
      | .leq => some (.bool (decide (a ≤ b)))
      | .gtr => some (.bool (decide (a > b)))
      | .geq => some (.bool (decide (a ≥ b)))
      | .and => some (.int k (k.wrap (BitVec.ofInt k.bits a &&& BitVec.ofInt k.bits b).toNat))
      | .or => some (.int k (k.wrap (BitVec.ofInt k.bits a ||| BitVec.ofInt k.bits b).toNat))
      | .xor => some (.int k (k.wrap (BitVec.ofInt k.bits a ^^^ BitVec.ofInt k.bits b).toNat))
      | .andNot => some (.int k (k.wrap (BitVec.ofInt k.bits a &&& ~~~ (BitVec.ofInt k.bits b)).toNat))
      | _ => none else none
  | .string a, .string b => match op with
    | .eql => some (.bool (eqB a b))
    | .neq => some (.bool (!(eqB a b)))
    | _ => none
  | _, _ => none
theorem bin_run {op : BinOp} {x y v : Value} (h : bin op x y = some v) (t : TypeId) (P : Program) (w : World) : (binOp op t x y).run P w = .ok v w ∧ ∀ u u', (eqGuard op t u u' x y).run P w = .ok () w := by
  unfold bin at h
  split at h
  · split at h
    · split at h
      · rename_i hb
        injection h with h; subst h
        refine ⟨?_, fun u u' => by simp [eqGuard]⟩
        simp only [binOp, Op.shift]
        rw [if_neg (by omega)]
        rfl
      · simp at h
    · split at h
      · rename_i hb
        injection h with h; subst h
        refine ⟨?_, fun u u' => by simp [eqGuard]⟩
        simp only [binOp, Op.shift]
        rw [if_neg (by omega)]
        rfl
      · simp at h
    · split at h
      · rename_i hk
        subst hk
        refine ⟨?_, fun u u' => by cases op <;> simp [eqGuard]⟩
        cases op <;> simp at h <;> subst h <;> simp [binOp, Op.intArith, Op.intCmp, Op.intBits]
      · simp at h
  · refine ⟨?_, fun u u' => by cases op <;> simp [eqGuard]⟩
    cases op <;> simp at h <;> subst h <;> simp only [← eqB_eq] <;> simp [binOp, Op.stringOp]
  · simp at h
theorem n_bin {S : ASt} {o : Oper} {op : BinOp} {t u : TypeId} {x y : Operand} {a b v : Value} (ho : o.op = .binOp op t x y u) (hx : S.ev X.G x = some (.d (.v a))) (hy : S.ev X.G y = some (.d (.v b))) (hv : bin op a b = some v) (hs : scal v = true) : NRes X S o (.d (.v v)) := by
  intro g β R Os act w hG h
  obtain ⟨xs, h1, h2⟩ := evalR h (by rw [hG]; exact hx) rfl
  obtain ⟨ys, k1, k2⟩ := evalR h (by rw [hG]; exact hy) rfl
  simp only [Rel] at h2 k2
  simp only [packs] at h1 k1
  rw [h1] at h2; rw [k1] at k2
  have h2 := h2.2; have k2 := k2.2
  injection h2 with h2; injection k2 with k2
  obtain ⟨r1, r2⟩ := bin_run hv t X.P w
  refine came_same (v := v) ?_ (RelV.mk (xs := [v]) (by simp [packs]) (by simp [Rel, hs]))
  simp [execOp, ho, h2, k2, r1, r2]
theorem n_cat {S : ASt} {o : Oper} {t u : TypeId} {x y : Operand} {a b : ByteArray} (ho : o.op = .binOp .add t x y u) (hx : S.ev X.G x = some (.d (.v (.string a)))) (hy : S.ev X.G y = some (.d (.v (.string b)))) (hl : a.size + b.size ≤ 9223372036854775807) :
    NRes X S o (.d (.v (.string (catB a b)))) := by
  rw [← catB_eq]
  intro g β R Os act w hG h
  obtain ⟨xs, h1, h2⟩ := evalR h (by rw [hG]; exact hx) rfl
  obtain ⟨ys, k1, k2⟩ := evalR h (by rw [hG]; exact hy) rfl
  simp only [Rel] at h2 k2
  simp only [packs] at h1 k1
  rw [h1] at h2; rw [k1] at k2
  have h2 := h2.2; have k2 := k2.2
  injection h2 with h2; injection k2 with k2
  refine came_same (v := .string (a ++ b)) ?_ (RelV.mk (xs := [.string (a ++ b)]) (by simp [packs]) (by simp [Rel, scal]))
  have : ¬ (((a.size + b.size : Nat) : Int) > IntKind.i64.max) := by simp [IntKind.max, IntKind.signed, IntKind.bits]; omega
  simp [execOp, ho, h2, k2, eqGuard, binOp, Op.stringOp]
  omega
theorem n_not {S : ASt} {o : Oper} {t : TypeId} {x : Operand} {b : Bool} (ho : o.op = .unOp .not t x) (hx : S.ev X.G x = some (.d (.v (.bool b)))) : NRes X S o (.d (.v (.bool (!b)))) := by
  intro g β R Os act w hG h
  obtain ⟨xs, h1, h2⟩ := evalR h (by rw [hG]; exact hx) rfl
  simp only [Rel] at h2
  simp only [packs] at h1
  rw [h1] at h2
  have h2 := h2.2
  injection h2 with h2
  exact came_same (v := .bool (!b)) (by simp [execOp, ho, h2, Op.unary]) (RelV.mk (xs := [.bool (!b)]) (by simp [packs]) (by simp [Rel, scal]))
theorem n_neg {S : ASt} {o : Oper} {t : TypeId} {x : Operand} {k : IntKind} {n : Int} (ho : o.op = .unOp .neg t x) (hx : S.ev X.G x = some (.d (.v (.int k n)))) : NRes X S o (.d (.v (.int k (k.wrap (0 - n))))) := by
  intro g β R Os act w hG h
  obtain ⟨xs, h1, h2⟩ := evalR h (by rw [hG]; exact hx) rfl
  simp only [Rel] at h2
  simp only [packs] at h1
  rw [h1] at h2
  have h2 := h2.2
  injection h2 with h2
  exact came_same (v := .int k (k.wrap (0 - n))) (by simp [execOp, ho, h2, Op.unary, Op.intArith]) (RelV.mk (xs := [.int k (k.wrap (0 - n))]) (by simp [packs]) (by simp [Rel, scal]))
/-- A byte of a string. -/
theorem n_byte (hX : X.Ok) {S : ASt} {o : Oper} {t : TypeId} {i : TI} {x y : Operand} {s : ByteArray} {k : IntKind} {n : Int} (ho : o.op = .index t x y) (ht : X.T t = some i) (hd : i.desc = .string) (hx : S.ev X.G x = some (.d (.v (.string s))))
    (hy : S.ev X.G y = some (.d (.v (.int k n)))) (h0 : 0 ≤ n) {b : UInt8} (hn : s.data.toList[n.toNat]? = some b) : NRes X S o (.d (.v (.int .u8 b.toNat))) := by
  intro g β R Os act w hG h
  obtain ⟨xs, h1, h2⟩ := evalR h (by rw [hG]; exact hx) rfl
  obtain ⟨ys, k1, k2⟩ := evalR h (by rw [hG]; exact hy) rfl
  simp only [Rel] at h2 k2
  simp only [packs] at h1 k1
  rw [h1] at h2; rw [k1] at k2
  have h2 := h2.2; have k2 := k2.2
  injection h2 with h2; injection k2 with k2
  rw [← getB] at hn
  exact came_same (v := .int .u8 b.toNat) (by simp [execOp, ho, h2, k2, Instr.index, asIntOf, run_under hX ht, hd, h0, hn]) (RelV.mk (xs := [.int .u8 b.toNat]) (by simp [packs]) (by simp [Rel, scal]))
end
end Go.Proofs.YtfbppkjjdbkedaaGreatDoor.Ref
/-
  The abstract machine: what turns a root (a store, a taking out, a freezing).
-/
namespace Go.Proofs.YtfbppkjjdbkedaaGreatDoor.Ref
noncomputable section
open Go
set_option linter.unusedVariables false
variable {X : Cx}

/-- May it stay when its root turns below? -/
def stays (h : Bool) (q : Root) (p : List Nat) : Bool := match q with
  | .slot _ => h && p.isEmpty
  | .box _ => false
theorem stays_spec {h : Bool} {q : Root} {p : List Nat} (hs : stays h q p = true) : h = true ∧ p = [] ∧ ∃ t, q = .slot t := by
  cases q with
  | box b => simp [stays] at hs
  | slot t => simp [stays] at hs; exact ⟨hs.1, hs.2, t, rfl⟩
/-- Whatever hangs below a root is struck; what is a slot's own header stays. -/
def killP (r : Root) : List (Nat × TV) → List (Nat × TV)
  | [] => []
  | (s, .u h q p) :: l => if q = r then (if stays h q p then (s, .u h q p) :: killP r l else (s, .d .dead) :: killP r l) else (s, .u h q p) :: killP r l
  | (s, .d x) :: l => (s, .d x) :: killP r l
theorem look_killP (r : Root) : ∀ (l : List (Nat × TV)) (t : Nat), look (killP r l) t = match look l t with
    | some (.u h q p) => if q = r ∧ stays h q p = false then some (.d .dead) else some (.u h q p)
    | x => x
  | [], t => by simp [killP, look_nil, look_cons]
  | (s, .u h q p) :: l, t => by
    by_cases hq : q = r
    · by_cases hp : stays h q p = true
      · simp only [killP, hq, if_true, look_nil, look_cons]
        rw [← hq, if_pos hp]
        by_cases hs : s = t
        · simp [hs, hp, look_nil, look_cons]
        · simp [hs, look_killP q l t, look_nil, look_cons]
      · have hp : stays h q p = false := by simpa using hp
        simp only [killP, hq, if_true]
        rw [← hq, if_neg (by simp [hp])]
        by_cases hs : s = t
        · simp [hs, hp, look_nil, look_cons]
        · simp [hs, look_killP q l t, look_nil, look_cons]
    · simp only [killP, hq, if_false, look_nil, look_cons]
      by_cases hs : s = t
      · simp [hs, hq]
      · simp [hs, look_killP r l t]
  | (s, .d x) :: l, t => by
    simp only [killP, look_nil, look_cons]
    by_cases hs : s = t
    · simp [hs]
    · simp [hs, look_killP r l t]

/-- Something else at a root. -/
def ASt.upd (S : ASt) (r : Root) (d : D) : ASt := match r with
  | .slot t => { S with slots := (t, .d d) :: killP (.slot t) S.slots }
  | .box b => { S with slots := killP (.box b) S.slots, boxes := S.boxes.set b d }

theorem look_upd_slot (S : ASt) (t s : Nat) (d : D) : look (S.upd (.slot t) d).slots s = if t = s then some (.d d) else look (killP (.slot t) S.slots) s := look_cons ..
theorem look_upd_box (S : ASt) (b s : Nat) (d : D) : look (S.upd (.box b) d).slots s = look (killP (.box b) S.slots) s := rfl

theorem walk_own {β : Env} {w w' : World} {R : Blk} : ∀ (p : List Nat) (d : D) (pos : Pos) (O : Blk) (r : D × Pos), At β w R d pos O → Disj R O → (∀ x, O x ∨ pos.isIn x → w'.heap[x]? = w.heap[x]?) → walk w p d pos = some r → walk w' p d pos = some r
  | [], d, pos, O, r, h, hRO, hs, hw => hw
  | i :: p, d, pos, O, r, h, hRO, hs, hw => by
    simp only [walk] at hw ⊢
    split at hw
    · rename_i e pos1 h1
      rw [step1_same h1 fun c hc => header_same hc fun x hx => hs x (.inr hx)]
      obtain ⟨O', k1, k2⟩ := at_step h hRO h1
      refine walk_own p e pos1 O' r k1 (fun x a b => hRO x a (k2 x b)) ?_ hw
      rintro x (hx | hx)
      · exact hs x (.inl (k2 x hx))
      · -- the block of pos1 is owned, or it is pos's
        unfold step1 at h1
        split at h1
        · cases pos with
          | slot c => simp at h1
          | mem b off =>
            simp at h1
            obtain ⟨_, _, h1⟩ := h1
            obtain ⟨_, rfl⟩ := h1
            simp only [Pos.isIn] at hx
            exact hs x (.inr hx)
        · split at h1
          · rename_i nn sz ds a len cap hv
            simp at h1
            obtain ⟨_, _, h1⟩ := h1
            obtain ⟨_, rfl⟩ := h1
            obtain ⟨b, off, len', cap', O2, m1, m2, _⟩ := own_at (at_one rfl h hv) hRO (fun _ => by simp)
            injection m1 with m1
            injection m1 with m1
            subst m1
            simp only [Pos.isIn] at hx
            subst hx
            exact hs b (.inl m2)
          · simp at h1
        · split at h1
          · rename_i e0 a hv
            simp at h1
            obtain ⟨_, _, rfl⟩ := h1
            have hr := at_one (by rfl) h hv
            simp only [Rel] at hr
            obtain ⟨b, all, T, O2, m1, m2, _⟩ := hr
            simp at m1
            subst m1
            simp only [Pos.isIn] at hx
            subst hx
            exact hs b (.inl m2)
          · simp at h1
        · simp at h1
    · simp at hw

def RootRel (β : Env) (w : World) (R : Blk) (a : Act) (d : D) (O : Blk) : Root → Prop
  | .slot t => ∃ c, a.tmps[t]? = some c ∧ RelV β w R d c O
  | .box b => RelB β w R b d O
def RootHdr (S : ASt) (d : D) : Root → Prop
  | .slot t => d.isHdr = true ∨ ∀ s, look S.slots s ≠ some (.u true (.slot t) [])
  | .box _ => True

/-- A root turns: what it owned may have become something else that it owns, or what is read. -/
theorem StR.turn {g : Gh} {β : Env} {R R' : Blk} {Os : Own} {S : ASt} {a : Act} {w w' : World} (h : StR g β R Os S a w) {r : Root} {d d' : D} {pos : Pos} (hr : RootAt β S a r d pos) (ht : Turn (Os r) w w') {On : Blk}
    (hR : ∀ x, R x → R' x) (hR' : ∀ x, R' x → R x ∨ Os r x ∨ (w.heap.size ≤ x ∧ x < w'.heap.size)) (hOn' : ∀ x, On x → Os r x ∨ (w.heap.size ≤ x ∧ x < w'.heap.size)) (hd : Disj R' On)
    (hnew : RootRel β w' R' a d' On r) (hh : RootHdr S d' r) :
    StR g β R' (Os.upd r On) (S.upd r d') a w' := by
  have hown : ∀ q x, q ≠ r → Os q x → w'.heap[x]? = w.heap[x]? := fun q x hq hx => ht.block x (h.own q x hx).1 fun hy => h.disj q r hq x hx hy
  have hrd : ∀ x, R x → w'.heap[x]? = w.heap[x]? := fun x hx => ht.block x (h.read x hx).1 fun hy => h.apart r x hx hy
  have hdisj : ∀ r1 s1, r1 ≠ s1 → Disj ((Os.upd r On) r1) ((Os.upd r On) s1) := by
    intro r1 s1 hrs x h1 h2
    by_cases e1 : r1 = r
    · by_cases e2 : s1 = r
      · exact hrs (e1.trans e2.symm)
      · rw [e1, Own.upd_same] at h1
        rw [Own.upd_other _ _ e2] at h2
        rcases hOn' x h1 with h3 | h3
        · exact h.disj s1 r e2 x h2 h3
        · have := (h.own s1 x h2).1; omega
    · rw [Own.upd_other _ _ e1] at h1
      by_cases e2 : s1 = r
      · rw [e2, Own.upd_same] at h2
        rcases hOn' x h2 with h3 | h3
        · exact h.disj r1 r e1 x h1 h3
        · have := (h.own r1 x h1).1; omega
      · rw [Own.upd_other _ _ e2] at h2
        exact h.disj r1 s1 hrs x h1 h2
  have hapart : ∀ r1, Disj R' ((Os.upd r On) r1) := by
    intro r1 x h1 h2
    by_cases e1 : r1 = r
    · rw [e1, Own.upd_same] at h2; exact hd x h1 h2
    · rw [Own.upd_other _ _ e1] at h2
      rcases hR' x h1 with h3 | h3 | h3
      · exact h.apart r1 x h3 h2
      · exact h.disj r1 r e1 x h2 h3
      · have := (h.own r1 x h2).1; omega
  have hownb : ∀ r1 x, (Os.upd r On) r1 x → x < w'.heap.size ∧ (g.O x ∨ g.w.heap.size ≤ x) := by
    intro r1 x h1
    by_cases e1 : r1 = r
    · rw [e1, Own.upd_same] at h1
      rcases hOn' x h1 with h3 | h3
      · have := h.own r x h3; exact ⟨Nat.lt_of_lt_of_le this.1 ht.size, this.2⟩
      · exact ⟨h3.2, .inr (Nat.le_trans h.fr.size h3.1)⟩
    · rw [Own.upd_other _ _ e1] at h1
      have := h.own r1 x h1
      exact ⟨Nat.lt_of_lt_of_le this.1 ht.size, this.2⟩
  have hread : ∀ x, R' x → x < w'.heap.size ∧ (g.R x ∨ g.O x ∨ g.w.heap.size ≤ x) := by
    intro x hx
    rcases hR' x hx with h3 | h3 | h3
    · have := h.read x h3; exact ⟨Nat.lt_of_lt_of_le this.1 ht.size, this.2⟩
    · have := h.own r x h3; exact ⟨Nat.lt_of_lt_of_le this.1 ht.size, .inr this.2⟩
    · exact ⟨h3.2, .inr (.inr (Nat.le_trans h.fr.size h3.1))⟩
  have hfr : Fr g.O g.w w' := h.fr.trans (O' := Os r) ⟨ht.os, ht.tape, ht.output, ht.size, ht.block⟩ fun x hx => (h.own r x hx).2
  have hglob : ∀ i d, g.G i = some d → Gl β w' R' i d := fun i d hi => (h.glob i d hi).up (fun _ _ x => x) hR hrd
  have hsl : ∀ t e, Root.slot t ≠ r → look S.slots t = some (.d e) → ∃ c, a.tmps[t]? = some c ∧ RelV β w' R' e c ((Os.upd r On) (.slot t)) := by
    intro t e ht' hl
    obtain ⟨c, k1, k2⟩ := h.slots t e hl
    rw [Own.upd_other _ _ ht']
    exact ⟨c, k1, k2.up (fun _ _ x => x) hR hrd (fun x hx => hown _ x ht' hx) (fun _ x => x)⟩
  have hdead : ∀ s, (∃ b q p, look S.slots s = some (.u b q p)) → ∃ c, a.tmps[s]? = some c := by
    rintro s ⟨b, q, p, hl⟩
    obtain ⟨d0, pos0, e0, pos1, c, _, _, h3, _⟩ := h.ups s _ _ _ hl
    exact ⟨c, h3⟩
  have hupq : ∀ (S' : ASt) s b q p, q ≠ r → (∀ d0 pos0, RootAt β S a q d0 pos0 → RootAt β S' a q d0 pos0) → look S.slots s = some (.u b q p) → UPok β S' a w' s b q p := by
    intro S' s b q p hq hk hl
    obtain ⟨d0, pos0, e, pos', c, k1, k2, k3, k4⟩ := h.ups s b q p hl
    obtain ⟨O, m1, m2, m3⟩ := root_at h k1
    have hRO : Disj R O := fun x a b => h.apart q x a (m2 x b)
    have hsame : ∀ x, O x ∨ pos0.isIn x → w'.heap[x]? = w.heap[x]? := by
      rintro x (hx | hx)
      · exact hown q x hq (m2 x hx)
      · exact hown q x hq (m3 x hx).1
    refine ⟨d0, pos0, e, pos', c, hk _ _ k1, walk_own p d0 pos0 O _ m1 hRO hsame k2, k3, ?_⟩
    cases b with
    | false => exact k4
    | true =>
      refine ⟨k4.1, header_same k4.2 fun x hx => ?_⟩
      obtain ⟨O', n1, n2⟩ := at_walk p d0 e pos0 pos' O m1 hRO k2
      cases pos' with
      | slot c' => exact hx.elim
      | mem bb off =>
        have l := lens_walk p d0 e pos0 _ O m1 hRO (fun x hx => ⟨(m3 x hx).2, fun hR => h.apart q x hR (m3 x hx).1⟩) k2
        obtain ⟨Oe, Or, a1, a2, a3, a4, a5, _⟩ := l
        simp only [Pos.isIn] at hx
        subst hx
        rcases a5 bb off rfl with hh | ⟨off0, hh, _⟩
        · exact hown q bb hq (m2 bb (a2 bb hh))
        · exact hown q bb hq (m3 bb (by rw [hh]; rfl)).1
  cases r with
  | slot t =>
    refine ⟨h.ext, h.size, h.defers, ?_, ?_, ?_, hdisj, hapart, hownb, hread, hfr, hglob⟩
    · intro s e he
      rw [look_upd_slot] at he
      by_cases hs : t = s
      · subst hs
        simp at he
        subst he
        obtain ⟨c, k1, k2⟩ := hnew
        exact ⟨c, k1, by rw [Own.upd_same]; exact k2⟩
      · rw [if_neg hs, look_killP] at he
        split at he
        · rename_i b q p hl
          split at he
          · injection he with he; injection he with he; subst he
            obtain ⟨c, hc⟩ := hdead s ⟨_, _, _, hl⟩
            exact ⟨c, hc, trivial⟩
          · simp at he
        · exact hsl s e (fun e => hs (by injection e with e; exact e.symm)) he
    · intro s b q p hu
      rw [look_upd_slot] at hu
      by_cases hs : t = s
      · simp [hs] at hu
      · rw [if_neg hs, look_killP] at hu
        split at hu
        · rename_i b' q' p' hl
          split at hu
          · simp at hu
          · rename_i hne
            injection hu with hu
            injection hu with e1 e2 e3
            subst e1 e2 e3
            by_cases hq : q' = .slot t
            · subst hq
              have hb : stays b' (.slot t) p' = true := by
                by_cases hb : stays b' (.slot t) p' = true
                · exact hb
                · exact absurd ⟨rfl, by simpa using hb⟩ hne
              obtain ⟨rfl, rfl, _⟩ := stays_spec hb
              obtain ⟨c, k1, k2⟩ := hnew
              have hhd : d'.isHdr = true := by
                rcases hh with hh | hh
                · exact hh
                · exact absurd hl (hh s)
              obtain ⟨d0, pos0, e, pos', c', m1, m2, m3, m4⟩ := h.ups s _ _ _ hl
              cases m1 with
              | slot q1 q2 q3 =>
                rename_i c0
                rw [k1] at q3
                injection q3 with q3
                subst q3
                simp only [walk, Option.some.injEq, Prod.mk.injEq] at m2
                obtain ⟨_, rfl⟩ := m2
                exact ⟨d', .slot c, d', .slot c, c', .slot (by rw [look_upd_slot]; simp) hhd k1, rfl, m3, hhd, m4.2⟩
            · refine hupq _ s b' q' p' hq ?_ hl
              intro d0 pos0 hra
              cases hra with
              | slot h1 h2 h3 =>
                rename_i t' c'
                have hne : t ≠ t' := fun e => hq (by rw [e])
                exact .slot (by rw [look_upd_slot, if_neg hne, look_killP, h1]) h2 h3
              | box h1 h2 h3 => exact .box h1 h2 h3
        · rename_i hl
          exact absurd hu (hl _ _ _)
    · intro b e he
      rw [Own.upd_other _ _ (by simp)]
      exact (h.boxes b e he).up (fun _ _ x => x) hR hrd (fun x hx => hown _ x (by simp) hx) (fun _ x => x)
  | box bx =>
    refine ⟨fun b => by simpa [ASt.upd] using h.ext b, h.size, h.defers, ?_, ?_, ?_, hdisj, hapart, hownb, hread, hfr, hglob⟩
    · intro s e he
      rw [look_upd_box, look_killP] at he
      split at he
      · rename_i b q p hl
        split at he
        · injection he with he; injection he with he; subst he
          obtain ⟨c, hc⟩ := hdead s ⟨_, _, _, hl⟩
          exact ⟨c, hc, trivial⟩
        · simp at he
      · exact hsl s e (by simp) he
    · intro s b q p hu
      rw [look_upd_box, look_killP] at hu
      split at hu
      · rename_i b' q' p' hl
        split at hu
        · simp at hu
        · rename_i hne
          injection hu with hu
          injection hu with e1 e2 e3
          subst e1 e2 e3
          by_cases hq : q' = .box bx
          · subst hq
            exact absurd ⟨rfl, rfl⟩ hne
          · refine hupq _ s b' q' p' hq ?_ hl
            intro d0 pos0 hra
            cases hra with
            | slot h1 h2 h3 => exact .slot (by rw [look_upd_box, look_killP, h1]) h2 h3
            | box h1 h2 h3 =>
              rename_i b0 x0
              have hne : bx ≠ b0 := fun e => hq (by rw [e])
              exact .box (by simp only [ASt.upd]; rw [List.getElem?_set_ne hne]; exact h1) h2 h3
      · rename_i hl
        exact absurd hu (hl _ _ _)
    · intro b e he
      simp only [ASt.upd] at he
      by_cases hb : bx = b
      · subst hb
        have hlt : bx < S.boxes.length := by
          rcases Nat.lt_or_ge bx S.boxes.length with h1 | h1
          · exact h1
          · rw [List.getElem?_eq_none (by simpa using h1)] at he; simp at he
        rw [List.getElem?_set_self hlt] at he
        injection he with he
        subst he
        rw [Own.upd_same]; exact hnew
      · rw [List.getElem?_set_ne hb] at he
        rw [Own.upd_other _ _ (by simp; omega)]
        exact (h.boxes b e he).up (fun _ _ x => x) hR hrd (fun x hx => hown _ x (by simp; omega) hx) (fun _ x => x)
end
end Go.Proofs.YtfbppkjjdbkedaaGreatDoor.Ref
/-
  The abstract machine: stores; taking out; freezing; appending.
-/
namespace Go.Proofs.YtfbppkjjdbkedaaGreatDoor.Ref
noncomputable section
open Go
set_option linter.unusedVariables false
variable {X : Cx}

mutual
/-- No hole in it. -/
def D.sn : D → Bool
  | .agg ds => D.snL ds
  | .tup _ | .und | .dead => false
  | _ => true
def D.snL : List D → Bool
  | [] => true
  | d :: ds => d.sn && D.snL ds
end
theorem sn_okc {d : D} (h : d.sn = true) : d.okc = true := by cases d <;> simp [D.sn, D.okc] at h ⊢
mutual
theorem Rel.flat {β : Env} {w : World} {R : Blk} : ∀ (d : D) (cs : List Value) (O : Blk), d.sn = true → Rel β w R d cs O → ∀ c ∈ cs, c.oneCell' = true
  | .agg ds, cs, O, hs, h => by simp only [Rel, D.sn] at h hs; exact RelL.flat ds cs O hs h
  | .v x, cs, O, hs, h => by
    simp only [Rel] at h; obtain ⟨h1, rfl⟩ := h
    intro c hc; simp at hc; subst hc
    cases c <;> simp [scal] at h1 <;> rfl
  | .row _ _ _, cs, O, hs, h => by
    simp only [Rel] at h
    rcases h with ⟨_, _, _, rfl, _⟩ | ⟨_, _, _, _, _, _, _, rfl, _⟩ <;> (intro c hc; simp at hc; subst hc; rfl)
  | .own _ _ _, cs, O, hs, h => by
    simp only [Rel] at h
    rcases h with ⟨_, _, rfl⟩ | ⟨_, _, _, _, _, _, _, rfl, _⟩ <;> (intro c hc; simp at hc; subst hc; rfl)
  | .cell _, cs, O, hs, h => by simp only [Rel] at h; obtain ⟨_, _, _, _, rfl, _⟩ := h; intro c hc; simp at hc; subst hc; rfl
  | .fz _, cs, O, hs, h => by simp only [Rel] at h; obtain ⟨_, _, _, _, _, rfl, _⟩ := h; intro c hc; simp at hc; subst hc; rfl
  | .ref _ _ _, cs, O, hs, h => by simp only [Rel] at h; obtain ⟨_, _, rfl⟩ := h; intro c hc; simp at hc; subst hc; rfl
  | .mapo _ _, cs, O, hs, h => by simp only [Rel] at h; obtain ⟨_, _, _, _, rfl, _⟩ := h; intro c hc; simp at hc; subst hc; rfl
  | .fmp _ _, cs, O, hs, h => by simp only [Rel] at h; obtain ⟨_, _, _, rfl, _⟩ := h; intro c hc; simp at hc; subst hc; rfl
  | .fn _ _, cs, O, hs, h => by simp only [Rel] at h; obtain ⟨_, rfl, _⟩ := h; intro c hc; simp at hc; subst hc; rfl
  | .ifc _ _, cs, O, hs, h => by simp only [Rel] at h; obtain ⟨_, _, rfl, _⟩ := h; intro c hc; simp at hc; subst hc; rfl
  | .tup _, cs, O, hs, h | .und, cs, O, hs, h | .dead, cs, O, hs, h => by simp [D.sn] at hs
theorem RelL.flat {β : Env} {w : World} {R : Blk} : ∀ (ds : List D) (cs : List Value) (O : Blk), D.snL ds = true → RelL β w R ds cs O → ∀ c ∈ cs, c.oneCell' = true
  | [], cs, O, hs, h => by simp only [RelL] at h; subst h; simp
  | d :: ds, cs, O, hs, h => by
    simp only [RelL, D.snL, Bool.and_eq_true] at h hs
    obtain ⟨c1, c2, O1, O2, rfl, h2, h3, _⟩ := h
    intro c hc
    rcases List.mem_append.1 hc with hc | hc
    · exact Rel.flat d c1 O1 hs.1 h2 c hc
    · exact RelL.flat ds c2 O2 hs.2 h3 c hc
end

/-- Storing cells. -/
theorem run_storeCells {w : World} {b off : Nat} {old new : List Value} (h : Cells w b off old) (hl : new.length = old.length) (h1 : ∀ c ∈ new, c.oneCell' = true) (P : Program) :
    ∃ w', (storeCells ⟨b, off, none⟩ new).run P w = .ok () w' ∧ Turn (fun x => x = b) w w' ∧ Cells w' b off new ∧ OutSame w w' (.mem b off) old.length (fun _ => True) ∧ w'.heap.size = w.heap.size := by
  obtain ⟨all, T, k1, k2, k3⟩ := h
  have hr := run_storeCells_at (P := P) b off T new 0 all w k1 (by omega) h1
  simp only [Nat.add_zero] at hr
  have hlen : (all.toList.take off ++ new ++ all.toList.drop (off + new.length)).toArray.size = all.size := by simp; omega
  have hget : ∀ o, (all.toList.take off ++ new ++ all.toList.drop (off + new.length)).toArray[o]? = if off ≤ o ∧ o < off + new.length then new[o - off]? else all[o]? := by
    intro o
    rw [List.getElem?_toArray, List.append_assoc]
    by_cases h0 : o < off
    · rw [List.getElem?_append_left (by simp; omega), if_neg (by omega), List.getElem?_take_of_lt h0, Array.getElem?_toList]
    · rw [List.getElem?_append_right (by simp; omega)]
      have : (all.toList.take off).length = off := by simp; omega
      rw [this]
      by_cases h2 : o < off + new.length
      · rw [List.getElem?_append_left (by omega), if_pos (by omega)]
      · rw [List.getElem?_append_right (by omega), if_neg (by omega), List.getElem?_drop, Array.getElem?_toList]
        congr 1; omega
  refine ⟨_, hr, ⟨rfl, rfl, rfl, by simp [World.setRow], fun k hk hne => setRow_other w b k _ hne⟩, ⟨_, T, setRow_heap w b all _ T _ k1, by rw [hlen]; omega, fun k hk => ?_⟩, ?_, by simp [World.setRow]⟩
  · rw [hget, if_pos (by omega)]; congr 1; omega
  · intro x _
    by_cases hx : x = b
    · subst hx
      exact .inr ⟨off, all, _, T, rfl, k1, setRow_heap w x all _ T _ k1, hlen, fun o ho => by rw [hget, if_neg (by omega)]⟩
    · exact .inl (setRow_other w b x _ hx)

/-- What a slot owned goes to a root. -/
def ASt.drop (S : ASt) (t : Nat) : ASt := { S with slots := (t, .d .dead) :: kill (.slot t) S.slots }
theorem look_drop (S : ASt) (t s : Nat) : look (S.drop t).slots s = if t = s then some (.d .dead) else look (kill (.slot t) S.slots) s := look_cons ..
theorem StR.give {g : Gh} {β : Env} {R : Blk} {Os : Own} {S : ASt} {a : Act} {w : World} (h : StR g β R Os S a w) {y : Nat} {r : Root} (hy : Root.slot y ≠ r) (hl : ∃ c, a.tmps[y]? = some c) :
    StR g β R ((Os.upd r (Or2 (Os r) (Os (.slot y)))).upd (.slot y) Blk.emp) (S.drop y) a w := by
  have hsub : ∀ q x, q ≠ .slot y → Os q x → ((Os.upd r (Or2 (Os r) (Os (.slot y)))).upd (.slot y) Blk.emp) q x := by
    intro q x hq hx
    rw [Own.upd_other _ _ hq]
    by_cases hr : q = r
    · subst hr; rw [Own.upd_same]; exact .inl hx
    · rw [Own.upd_other _ _ hr]; exact hx
  have hinv : ∀ q x, ((Os.upd r (Or2 (Os r) (Os (.slot y)))).upd (.slot y) Blk.emp) q x → (q ≠ .slot y) ∧ (Os q x ∨ (q = r ∧ Os (.slot y) x)) := by
    intro q x hx
    by_cases hq : q = .slot y
    · rw [hq, Own.upd_same] at hx; exact hx.elim
    · refine ⟨hq, ?_⟩
      rw [Own.upd_other _ _ hq] at hx
      by_cases hr : q = r
      · subst hr; rw [Own.upd_same] at hx; exact hx.elim .inl fun h => .inr ⟨rfl, h⟩
      · rw [Own.upd_other _ _ hr] at hx; exact .inl hx
  have hroot : ∀ q d pos, q ≠ .slot y → RootAt β S a q d pos → RootAt β (S.drop y) a q d pos := by
    intro q d pos hq hra
    cases hra with
    | slot h1 h2 h3 =>
      rename_i t c
      have hne : y ≠ t := fun e => hq (by rw [e])
      exact .slot (by rw [look_drop, if_neg hne, look_kill, h1]) h2 h3
    | box h1 h2 h3 => exact .box h1 h2 h3
  refine ⟨h.ext, h.size, h.defers, ?_, ?_, ?_, ?_, ?_, ?_, h.read, h.fr, h.glob⟩
  · intro s e he
    rw [look_drop] at he
    by_cases hs : y = s
    · subst hs
      simp at he
      subst he
      obtain ⟨c, hc⟩ := hl
      exact ⟨c, hc, trivial⟩
    · rw [if_neg hs] at he
      rw [look_kill] at he
      split at he
      · rename_i b q p hl'
        split at he
        · injection he with he; injection he with he; subst he
          obtain ⟨_, _, _, _, c, _, _, h3, _⟩ := h.ups s _ _ _ hl'
          exact ⟨c, h3, trivial⟩
        · simp at he
      · obtain ⟨c, k1, k2⟩ := h.slots s e he
        exact ⟨c, k1, k2.up (fun _ _ x => x) (fun _ x => x) (fun _ _ => rfl) (fun _ _ => rfl) fun x hx => hsub _ x (by simp; omega) hx⟩
  · intro s b q p hu
    rw [look_drop] at hu
    by_cases hs : y = s
    · simp [hs] at hu
    · rw [if_neg hs] at hu
      obtain ⟨hl', hq⟩ := look_kill_u hu
      exact (h.ups s b q p hl').keep (fun d pos hra => hroot q d pos hq hra) rfl (fun _ _ => rfl)
  · intro b e he
    exact (h.boxes b e he).up (fun _ _ x => x) (fun _ x => x) (fun _ _ => rfl) (fun _ _ => rfl) fun x hx => hsub _ x (by simp) hx
  · intro q1 q2 hq x h1 h2
    obtain ⟨a1, a2⟩ := hinv q1 x h1
    obtain ⟨b1, b2⟩ := hinv q2 x h2
    rcases a2 with a2 | ⟨rfl, a2⟩ <;> rcases b2 with b2 | ⟨rfl, b2⟩
    · exact h.disj q1 q2 hq x a2 b2
    · exact h.disj q1 (.slot y) a1 x a2 b2
    · exact h.disj (.slot y) q2 (Ne.symm b1) x a2 b2
    · exact hq rfl
  · intro q x h1 h2
    rcases (hinv q x h2).2 with h3 | ⟨_, h3⟩
    · exact h.apart q x h1 h3
    · exact h.apart _ x h1 h3
  · intro q x h1
    rcases (hinv q x h1).2 with h3 | ⟨_, h3⟩
    · exact h.own q x h3
    · exact h.own _ x h3

/-- What an operation comes to: a state for the frame with its result, and the world behind. -/
def Res (X : Cx) (S : ASt) (o : Oper) (S' : ASt) : Prop :=
  ∀ g β R Os a w, g.G = X.G → StR g β R Os S a w → ∃ v w' R' Os', ((execOp a.eval o).run X.P w = .ok (.value v) w' ∨ ((execOp a.eval o).run X.P w = .ok .skip w' ∧ v = undef)) ∧
    StR g β R' Os' S' (a.put o.dst v) w'

theorem NRes.res {S : ASt} {o : Oper} {tv : TV} {t : Nat} (h : NRes X S o tv) (hd : o.dst = some t) (ht : t < S.n) (hu : ∀ b r p, tv = .u b r p → r ≠ .slot t) : Res X S o (S.put t tv) := by
  intro g β R Os a w hG hs
  obtain ⟨v, w', R', Os', h1, h2⟩ := hs.came (Nat.lt_of_lt_of_le ht hs.size) hu (h g β R Os a w hG hs)
  exact ⟨v, w', R', Os', .inl h1, by rw [hd]; exact h2⟩

/-- The part of a root's new content: all that a store, a taking out and a freezing leave. -/
theorem put_back {β : Env} {S : ASt} {a : Act} {w' : World} {R' : Blk} {r : Root} {d d' : D} {pos : Pos} {O : Blk} (hr : RootAt β S a r d pos) (h : At β w' R' d' pos O) (hc : d'.okc = true) {On : Blk} (hO : ∀ x, O x → On x) (hp : ∀ x, pos.isIn x → On x) (hh : ∀ t, r = .slot t → d'.isHdr = true)
    (hb : ∀ b, pos = .mem b 0 → ∃ all T, w'.heap[b]? = some (.cells all T (0, 0)) ∧ all.size = d'.nc) :
    RootRel β w' R' a d' On r := by
  cases hr with
  | slot h1 h2 h3 =>
    rename_i t c
    refine ⟨c, h3, ?_⟩
    have h : Rel β w' R' d' [c] O := h
    have ha : ∀ ds, d' ≠ .agg ds := by
      intro ds e
      have := hh t rfl
      rw [e] at this
      simp [D.isHdr] at this
    exact RelV.mk ((packs_one ha).2 rfl) (Rel.up (fun _ _ x => x) (fun _ x => x) (fun _ _ => rfl) d' _ _ _ (fun _ _ => rfl) hO h)
  | box h1 h2 h3 =>
    rename_i b x
    obtain ⟨cs, k1, k2, k3, k4⟩ := h
    obtain ⟨all, T, m1, m2⟩ := hb x rfl
    have hl := Rel.len d' cs O k2
    have hcs : cs = all.toList := by
      obtain ⟨all2, T2, n1, n2, n3⟩ := k1
      rw [m1] at n1
      injection n1 with n1
      injection n1 with n1
      subst n1
      apply List.ext_getElem?
      intro k
      rcases Nat.lt_or_ge k cs.length with hk | hk
      · rw [← n3 k hk, Nat.zero_add, Array.getElem?_toList]
      · rw [List.getElem?_eq_none hk, List.getElem?_eq_none (by simp; omega)]
    have : ∃ x all T O', β b = some x ∧ On x ∧ w'.heap[x]? = some (.cells all T (0, 0)) ∧ (∀ y, O' y → On y) ∧ ¬ O' x ∧ Rel β w' R' d' all.toList O' :=
      ⟨x, all, T, O, h3, hp x rfl, m1, hO, k3, hcs ▸ k2⟩
    cases d' <;> first | exact this | simp [D.okc] at hc

theorem setp_hdr {d e : D} {p : List Nat} (hp : p ≠ []) (h : d.isHdr = true) : (D.setp p e d).isHdr = true := by
  cases p with
  | nil => exact absurd rfl hp
  | cons i p => cases d <;> simp [D.isHdr] at h <;> simp [D.setp, D.isHdr]
theorem setp_okc {d e : D} {p : List Nat} (h : d.okc = true) (he : e.okc = true) : (D.setp p e d).okc = true := by
  cases p with
  | nil => exact he
  | cons i p => cases d <;> simp [D.okc] at h <;> simp [D.setp, D.okc]
theorem root_okc {β : Env} {S : ASt} {a : Act} {r : Root} {d : D} {pos : Pos} (h : RootAt β S a r d pos) (hb : ∀ b, r = .box b → d.okc = true) : d.okc = true := by
  cases h with
  | slot h1 h2 h3 => cases d <;> simp [D.isHdr] at h2 <;> rfl
  | box h1 h2 h3 => exact hb _ rfl

theorem store_core {g : Gh} {β : Env} {R : Blk} {Os : Own} {S : ASt} {a : Act} {w : World} (h : StR g β R Os S a w) {r : Root} {d e d' : D} {pos : Pos} {p : List Nat} {b off : Nat} {O Oy : Blk} {new : List Value} (hr : RootAt β S a r d pos)
    (hat : At β w R d pos O) (hO : ∀ x, O x → Os r x) (hpos : ∀ x, pos.isIn x → Os r x ∧ ¬ O x) (hw : walk w p d pos = some (e, .mem b off)) (hn : d'.nc = e.nc) (hnew : Rel β w R d' new Oy) (hsn : d'.sn = true) (hOy : ∀ x, Oy x → Os r x ∧ ¬ O x ∧ ¬ pos.isIn x)
    (hp : ∀ t, r = .slot t → p ≠ []) (hk : d.okc = true) (P : Program) :
    ∃ w', (storeCells ⟨b, off, none⟩ new).run P w = .ok () w' ∧ StR g β R (Os.upd r (Os r)) (S.upd r (D.setp p d' d)) a w' := by
  have hRO : Disj R O := fun x a b => h.apart r x a (hO x b)
  have hpp : ∀ x, pos.isIn x → ¬ O x ∧ ¬ R x := fun x hx => ⟨(hpos x hx).2, fun hR => h.apart r x hR (hpos x hx).1⟩
  obtain ⟨Oe, Or, a1, a2, a3, ⟨old, c1, c2, c3, c4⟩, a5, a5', a6⟩ := lens_walk p d e pos _ O hat hRO hpp hw
  have hbO : Os r b := by
    rcases a5 b off rfl with hh | ⟨off0, hh, _⟩
    · exact hO b (a2 b hh)
    · exact (hpos b (by rw [hh]; rfl)).1
  have hlo := Rel.len e old Oe c2
  have hln := Rel.len d' new Oy hnew
  obtain ⟨w', k1, k2, k3, k4, k5⟩ := run_storeCells c1 (by omega) (Rel.flat d' new Oy hsn hnew) P
  refine ⟨w', k1, ?_⟩
  have hRs : ∀ x, R x → w'.heap[x]? = w.heap[x]? := fun x hx => k2.block x (h.read x hx).1 fun e => c4 (by rw [← e]; exact hx)
  have hbOy : ¬ Oy b := by
    intro hh
    rcases a5 b off rfl with h1 | ⟨off0, h1, _⟩
    · exact (hOy b hh).2.1 (a2 b h1)
    · exact (hOy b hh).2.2 (by rw [h1]; rfl)
  have hOys : ∀ x, Oy x → w'.heap[x]? = w.heap[x]? := fun x hx => k2.block x (h.own r x (hOy x hx).1).1 fun e => hbOy (by rw [← e]; exact hx)
  have hnew' : Rel β w' R d' new Oy := Rel.up (fun _ _ x => x) (fun _ x => x) hRs d' new Oy Oy hOys (fun _ x => x) hnew
  obtain ⟨f1, f2⟩ := a6 β w' R d' Oy (fun _ _ x => x) (fun _ x => x) hn (fun x _ => by have := k4 x trivial; rwa [hlo] at this) ⟨new, k3, hnew', hbOy, c4⟩
    (fun x hx hy => (hOy x hx).2.1 (a2 x hy)) (fun x hx hy => h.apart r x hx (hO x (a2 x hy))) (fun x hx hy => (hOy x hy).2.2 hx) (fun x hx => (hpp x hx).2)
  have ht : Turn (Os r) w w' := ⟨k2.os, k2.tape, k2.output, k2.size, fun k hk hne => k2.block k hk fun e => hne (by rw [e]; exact hbO)⟩
  refine h.turn hr ht (fun _ x => x) (fun _ x => .inl x) (fun x hx => .inl hx) (h.apart r) ?_ ?_
  · refine put_back hr f1 (setp_okc hk (sn_okc hsn)) ?_ (fun x hx => (hpos x hx).1) ?_ ?_
    · rintro x (hx | hx)
      · exact hO x (a2 x hx)
      · exact (hOy x hx).1
    · intro t ht
      subst ht
      cases hr with
      | slot h1 h2 h3 => exact setp_hdr (hp t rfl) h2
    · intro bb hbb
      subst hbb
      obtain ⟨cs, ⟨all, T, m1, m2, m3⟩, m4, _⟩ := hat
      cases hr with
      | box h1 h2 h3 =>
        rename_i bx
        have hb := h.boxes bx d h1
        have : ∃ x all T O', β bx = some x ∧ Os (.box bx) x ∧ w.heap[x]? = some (.cells all T (0, 0)) ∧ (∀ y, O' y → Os (.box bx) y) ∧ ¬ O' x ∧ Rel β w R d all.toList O' := by
          cases d <;> first | exact hb | exact absurd rfl h2
        obtain ⟨x, all2, T2, O2, n1, n2, n3, n4, n5, n6⟩ := this
        rw [h3] at n1
        injection n1 with n1
        subst n1
        have hs2 : all2.size = d.nc := by have := Rel.len d _ _ n6; simpa using this
        rcases k4 bb trivial with q | ⟨off', x0, x', T3, q1, q2, q3, q4, q5⟩
        · exact ⟨all2, T2, q.trans n3, by rw [hs2, f2]⟩
        · rw [n3] at q2
          injection q2 with q2
          injection q2 with q2 q2'
          subst q2 q2'
          exact ⟨x', T2, q3, by rw [q4, hs2, f2]⟩
  · cases r with
    | slot t =>
      cases hr with
      | slot h1 h2 h3 => exact .inl (setp_hdr (hp t rfl) h2)
    | box b => trivial

theorem upd_self {g : Gh} {β : Env} {R : Blk} {Os : Own} {r : Root} {S : ASt} {a : Act} {w : World} (h : StR g β R (Os.upd r (Os r)) S a w) : StR g β R Os S a w := by
  have : Os.upd r (Os r) = Os := by
    funext q; unfold Own.upd; split
    · rename_i e; rw [e]
    · rfl
  rw [this] at h; exact h

theorem run_storeVar (hX : X.Ok) {t : TypeId} {i : TI} (h : X.T t = some i) {w : World} {a : Addr} {v : Value} {xs : List Value} (hv : v.cells = xs.toArray) (hl : xs.length = i.size) :
    (storeVar t a v).run X.P w = (storeCells a xs).run X.P w := by
  unfold storeVar
  simp [run_size hX h, hv, hl]
theorem fits_size {i : TI} {d : D} (h : i.fits d = true) (h1 : i.isAgg = false → i.size = 1) : d.nc = i.size := by
  cases d <;> simp [TI.fits, D.nc] at h ⊢ <;> first | exact h.2 | (have := h1 (by simpa using h); omega)

/-- A store of what owns nothing. -/
theorem e_store (hX : X.Ok) {S : ASt} {o : Oper} {t : TypeId} {i : TI} {x y : Operand} {r : Root} {p : List Nat} {c e d : D} (ho : o.op = .store t x y) (hdst : o.dst = none) (ht : X.T t = some i) (hp : S.ptr X.G x = some (r, p)) (hc : S.cont r = some c)
    (hk : c.okc = true) (he : D.get p c = some e) (hy : S.ev X.G y = some (.d d)) (hr : d.ro = true) (hs : d.sn = true) (hi : d.nc = i.size) (hn : d.nc = e.nc) (hp0 : ∀ t, r = .slot t → p ≠ []) : Res X S o (S.upd r (D.setp p d c)) := by
  intro g β R Os a w hG h
  have hat : S.at r p = some e := by rw [ASt.at, hc]; exact he
  obtain ⟨d0, pos, b, off, O', h1, h2, h3, h4, h5⟩ := ptr_ok h (by rw [hG]; exact hp) hat
  have hcd : c = d0 := by rw [root_cont h1] at hc; injection hc with hc; exact hc.symm
  subst hcd
  obtain ⟨O, m1, m2, m3⟩ := root_at h h1
  obtain ⟨xs, k1, k2, k3⟩ := evalX h (by rw [hG]; exact hy) hr (sn_okc hs)
  obtain ⟨w', q1, q2⟩ := store_core h h1 m1 m2 m3 h2 hn k2 hs (fun x hx => hx.elim) hp0 hk X.P
  have hl := Rel.len d xs _ k2
  refine ⟨undef, w', R, Os, .inr ⟨?_, rfl⟩, by rw [hdst]; exact upd_self q2⟩
  simp [execOp, ho, h3, Instr.storeAt, Instr.sureAddr, run_storeVar hX ht k3 (by omega), q1]
/-- A store of what owns: the slot gives it away. -/
theorem e_storeO (hX : X.Ok) {S : ASt} {o : Oper} {t : TypeId} {i : TI} {x : Operand} {y : Nat} {r : Root} {p : List Nat} {c e d : D} (ho : o.op = .store t x (.tmp y)) (hdst : o.dst = none) (ht : X.T t = some i) (hp : S.ptr X.G x = some (r, p)) (hc : S.cont r = some c)
    (hk : c.okc = true) (he : D.get p c = some e) (hy : look S.slots y = some (.d d)) (hr : d.isHdr = true) (hi : i.size = 1) (hn : e.nc = 1) (hp0 : ∀ t, r = .slot t → p ≠ []) (hyr : Root.slot y ≠ r) : Res X S o ((S.drop y).upd r (D.setp p d c)) := by
  intro g β R Os a w hG h
  have hat : S.at r p = some e := by rw [ASt.at, hc]; exact he
  obtain ⟨d0, pos, b, off, O', h1, h2, h3, h4, h5⟩ := ptr_ok h (by rw [hG]; exact hp) hat
  have hcd : c = d0 := by rw [root_cont h1] at hc; injection hc with hc; exact hc.symm
  subst hcd
  obtain ⟨O, m1, m2, m3⟩ := root_at h h1
  have hs : d.sn = true := by cases d <;> simp [D.isHdr] at hr <;> rfl
  have hd1 : d.nc = 1 := by cases d <;> simp [D.isHdr] at hr <;> rfl
  obtain ⟨cv, n1, n2⟩ := h.slots y d hy
  obtain ⟨xs, k1, k2⟩ := n2.okc (sn_okc hs)
  have k3 := packs_cells k1 k2 (sn_okc hs)
  have hg := h.give hyr ⟨cv, n1⟩
  have h1' : RootAt β (S.drop y) a r c pos := by
    cases h1 with
    | slot q1 q2 q3 =>
      rename_i t0 c0
      have hne : y ≠ t0 := fun e => hyr (by rw [e])
      exact .slot (by rw [look_drop, if_neg hne, look_kill, q1]) q2 q3
    | box q1 q2 q3 => exact .box q1 q2 q3
  have hr1 : ((Os.upd r (Or2 (Os r) (Os (.slot y)))).upd (.slot y) Blk.emp) r = Or2 (Os r) (Os (.slot y)) := by
    rw [Own.upd_other _ _ (Ne.symm hyr), Own.upd_same]
  obtain ⟨w', q1, q2⟩ := store_core hg h1' m1 (fun x hx => by rw [hr1]; exact .inl (m2 x hx)) (fun x hx => ⟨by rw [hr1]; exact .inl (m3 x hx).1, (m3 x hx).2⟩) h2 (by omega) k2 hs
    (fun x hx => ⟨by rw [hr1]; exact .inr hx, fun hh => h.disj _ _ hyr x hx (m2 x hh), fun hh => h.disj _ _ hyr x hx (m3 x hh).1⟩) hp0 hk X.P
  have hl := Rel.len d xs _ k2
  refine ⟨undef, w', R, _, .inr ⟨?_, rfl⟩, by rw [hdst]; exact upd_self q2⟩
  have hev : a.eval (.tmp y) = cv := by simp [Act.eval, n1]
  simp [execOp, ho, h3, hev, Instr.storeAt, Instr.sureAddr, run_storeVar hX ht k3 (by omega), q1]
end
end Go.Proofs.YtfbppkjjdbkedaaGreatDoor.Ref
/-
  The abstract machine: taking out, freezing, forgetting.
-/
namespace Go.Proofs.YtfbppkjjdbkedaaGreatDoor.Ref
noncomputable section
open Go
set_option linter.unusedVariables false
variable {X : Cx}

/-- A place with nothing in it. -/
def ASt.out (S : ASt) (r : Root) (p : List Nat) : ASt := match r, p with
  | .slot t, [] => S.drop t
  | .box b, [] => S.upd (.box b) (.agg [.dead])
  | r, p => match S.cont r with
    | some c => S.upd r (D.setp p .dead c)
    | none => S

theorem StR.dropS {g : Gh} {β : Env} {R : Blk} {Os : Own} {S : ASt} {a : Act} {w : World} (h : StR g β R Os S a w) {y : Nat} (hl : ∃ c, a.tmps[y]? = some c) :
    StR g β R (Os.upd (.slot y) Blk.emp) (S.drop y) a w := by
  have hsub : ∀ q x, q ≠ .slot y → Os q x → (Os.upd (.slot y) Blk.emp) q x := by
    intro q x hq hx
    rw [Own.upd_other _ _ hq]; exact hx
  have hinv : ∀ q x, (Os.upd (.slot y) Blk.emp) q x → q ≠ .slot y ∧ Os q x := by
    intro q x hx
    by_cases hq : q = .slot y
    · rw [hq, Own.upd_same] at hx; exact hx.elim
    · rw [Own.upd_other _ _ hq] at hx; exact ⟨hq, hx⟩
  have hroot : ∀ q d pos, q ≠ .slot y → RootAt β S a q d pos → RootAt β (S.drop y) a q d pos := by
    intro q d pos hq hra
    cases hra with
    | slot h1 h2 h3 =>
      rename_i t c
      have hne : y ≠ t := fun e => hq (by rw [e])
      exact .slot (by rw [look_drop, if_neg hne, look_kill, h1]) h2 h3
    | box h1 h2 h3 => exact .box h1 h2 h3
  refine ⟨h.ext, h.size, h.defers, ?_, ?_, ?_, ?_, ?_, ?_, h.read, h.fr, h.glob⟩
  · intro s e he
    rw [look_drop] at he
    by_cases hs : y = s
    · subst hs
      simp at he
      subst he
      obtain ⟨c, hc⟩ := hl
      exact ⟨c, hc, trivial⟩
    · rw [if_neg hs, look_kill] at he
      split at he
      · rename_i b q p hl'
        split at he
        · injection he with he; injection he with he; subst he
          obtain ⟨_, _, _, _, c, _, _, h3, _⟩ := h.ups s _ _ _ hl'
          exact ⟨c, h3, trivial⟩
        · simp at he
      · obtain ⟨c, k1, k2⟩ := h.slots s e he
        exact ⟨c, k1, k2.up (fun _ _ x => x) (fun _ x => x) (fun _ _ => rfl) (fun _ _ => rfl) fun x hx => hsub _ x (by simp; omega) hx⟩
  · intro s b q p hu
    rw [look_drop] at hu
    by_cases hs : y = s
    · simp [hs] at hu
    · rw [if_neg hs] at hu
      obtain ⟨hl', hq⟩ := look_kill_u hu
      exact (h.ups s b q p hl').keep (fun d pos hra => hroot q d pos hq hra) rfl (fun _ _ => rfl)
  · intro b e he
    exact (h.boxes b e he).up (fun _ _ x => x) (fun _ x => x) (fun _ _ => rfl) (fun _ _ => rfl) fun x hx => hsub _ x (by simp) hx
  · intro q1 q2 hq x h1 h2
    exact h.disj q1 q2 hq x (hinv q1 x h1).2 (hinv q2 x h2).2
  · intro q x h1 h2
    exact h.apart q x h1 (hinv q x h2).2
  · intro q x h1
    exact h.own q x (hinv q x h1).2

theorem root_block {g : Gh} {β : Env} {R : Blk} {Os : Own} {S : ASt} {a : Act} {w : World} (h : StR g β R Os S a w) {r : Root} {d : D} {b off : Nat} (hr : RootAt β S a r d (.mem b off)) :
    ∃ all T, w.heap[b]? = some (.cells all T (0, 0)) ∧ all.size = d.nc := by
  cases hr with
  | box h1 h2 h3 =>
    rename_i bx
    have hb := h.boxes bx d h1
    have : ∃ x all T O', β bx = some x ∧ Os (.box bx) x ∧ w.heap[x]? = some (.cells all T (0, 0)) ∧ (∀ y, O' y → Os (.box bx) y) ∧ ¬ O' x ∧ Rel β w R d all.toList O' := by
      cases d <;> first | exact hb | exact absurd rfl h2
    obtain ⟨x, all2, T2, O2, n1, n2, n3, n4, n5, n6⟩ := this
    rw [h3] at n1
    injection n1 with n1
    subst n1
    exact ⟨all2, T2, n3, by have := Rel.len d _ _ n6; simpa using this⟩

/-- Taking out what owns. -/
theorem take_core {g : Gh} {β : Env} {R : Blk} {Os : Own} {S : ASt} {a : Act} {w : World} (h : StR g β R Os S a w) {r : Root} {c e : D} {p : List Nat} {pos pos' : Pos} {v : Value} (hr : RootAt β S a r c pos) (hw : walk w p c pos = some (e, pos'))
    (he : e.isHdr = true) (hv : pos'.val w = some v) (hk : c.okc = true) :
    ∃ Os' Oe, StR g β R Os' (S.out r p) a w ∧ Rel β w R e [v] Oe ∧ (∀ x, Oe x → Os r x) ∧ (∀ q x, Os' q x → ¬ Oe x) := by
  have hone : e.nc = 1 := by cases e <;> simp [D.isHdr] at he <;> rfl
  obtain ⟨O, m1, m2, m3⟩ := root_at h hr
  have hRO : Disj R O := fun x a b => h.apart r x a (m2 x b)
  by_cases hp : p = []
  · subst hp
    cases r with
    | box b =>
      simp only [walk, Option.some.injEq, Prod.mk.injEq] at hw
      obtain ⟨rfl, rfl⟩ := hw
      have hrel := at_one hone m1 hv
      have hdead : At β w R (.agg [.dead]) pos Blk.emp := by
        cases pos with
        | slot c' => cases hr
        | mem bb off =>
          obtain ⟨cs, k1, k2, k3, k4⟩ := m1
          have hl := Rel.len _ _ _ k2
          rw [hone] at hl
          match cs, hl with
          | [x], _ => exact ⟨[x], k1, by simp only [Rel, RelL]; exact ⟨[x], [], Blk.emp, Blk.emp, rfl, ⟨x, rfl⟩, rfl, fun _ h => h, fun _ h => h, fun _ h => h.elim⟩, fun h => h, k4⟩
      refine ⟨Os.upd (.box b) (fun x => Os (.box b) x ∧ ¬ O x), O, ?_, hrel, m2, ?_⟩
      · show StR g β R _ (S.upd (.box b) (.agg [.dead])) a w
        refine h.turn (On := fun x => Os (.box b) x ∧ ¬ O x) hr ⟨rfl, rfl, rfl, Nat.le_refl _, fun _ _ _ => rfl⟩ (fun _ x => x) (fun _ x => .inl x) (fun x hx => .inl hx.1) (fun x a b => h.apart _ x a b.1) ?_ trivial
        refine put_back hr hdead rfl (fun x hx => hx.elim) (fun x hx => m3 x hx) (fun t ht => by cases ht) ?_
        intro bb hbb
        subst hbb
        obtain ⟨all2, T2, n3, hs2⟩ := root_block h hr
        exact ⟨all2, T2, n3, by rw [hs2, hone]; rfl⟩
      · intro q x hx hy
        by_cases hq : q = .box b
        · subst hq; rw [Own.upd_same] at hx; exact hx.2 hy
        · rw [Own.upd_other _ _ hq] at hx; exact h.disj q _ hq x hx (m2 x hy)
    | slot t =>
      simp only [walk, Option.some.injEq, Prod.mk.injEq] at hw
      obtain ⟨rfl, rfl⟩ := hw
      cases hr with
      | slot h1 h2 h3 =>
        rename_i c0
        simp only [Pos.val, Option.some.injEq] at hv
        subst hv
        refine ⟨_, Os (.slot t), h.dropS ⟨c0, h3⟩, ?_, fun _ x => x, ?_⟩
        · exact Rel.up (fun _ _ x => x) (fun _ x => x) (fun _ _ => rfl) _ _ _ _ (fun _ _ => rfl) m2 m1
        · intro q x hx hy
          by_cases hq : q = .slot t
          · rw [hq, Own.upd_same] at hx; exact hx
          · rw [Own.upd_other _ _ hq] at hx; exact h.disj q _ hq x hx hy
  · have hout : S.out r p = S.upd r (D.setp p .dead c) := by
      have hc := root_cont hr
      cases r with
      | box b =>
        cases p with
        | nil => exact absurd rfl hp
        | cons i p => simp only [ASt.out, hc]
      | slot t =>
        cases p with
        | nil => exact absurd rfl hp
        | cons i p => simp only [ASt.out, hc]
    have hpp : ∀ x, pos.isIn x → ¬ O x ∧ ¬ R x := fun x hx => ⟨(m3 x hx).2, fun hR => h.apart r x hR (m3 x hx).1⟩
    obtain ⟨Oe, Or, a1, a2, a3, a4, a5, a5', a6⟩ := lens_walk p c e pos pos' O m1 hRO hpp hw
    have hrel := at_one hone a4 hv
    have hdead : At β w R .dead pos' Blk.emp := by
      cases pos' with
      | slot c' => simp only [At, Rel]; exact ⟨c', rfl⟩
      | mem b off =>
        obtain ⟨cs, k1, k2, k3, k4⟩ := a4
        have hl := Rel.len _ _ _ k2
        rw [hone] at hl
        match cs, hl with
        | [x], _ => exact ⟨[x], k1, by simp only [Rel]; exact ⟨x, rfl⟩, fun h => h, k4⟩
    obtain ⟨f1, f2⟩ := a6 β w R .dead Blk.emp (fun _ _ x => x) (fun _ x => x) (by rw [hone]; rfl) (fun x _ => .inl rfl) hdead (fun x hx => hx.elim) (fun x hx hy => h.apart r x hx (m2 x (a2 x hy))) (fun x _ hx => hx) (fun x hx => (hpp x hx).2)
    have hne : ∀ b off, pos' = .mem b off → ¬ Oe b := by
      intro b off hb hh
      rcases a5 b off hb with h1 | ⟨off0, h1, _⟩
      · exact a3 b hh h1
      · exact (m3 b (by rw [h1]; rfl)).2 (a1 b hh)
    refine ⟨Os.upd r (fun x => Os r x ∧ ¬ Oe x), Oe, ?_, hrel, fun x hx => m2 x (a1 x hx), ?_⟩
    · rw [hout]
      refine h.turn (On := fun x => Os r x ∧ ¬ Oe x) hr ⟨rfl, rfl, rfl, Nat.le_refl _, fun _ _ _ => rfl⟩ (fun _ x => x) (fun _ x => .inl x) (fun x hx => .inl hx.1) (fun x a b => h.apart r x a b.1) ?_ ?_
      · refine put_back hr f1 ?_ ?_ ?_ ?_ ?_
        · cases p with
          | nil => exact absurd rfl hp
          | cons i p => cases c <;> simp [D.okc] at hk <;> simp [D.setp, D.okc]
        · rintro x (hx | hx)
          · exact ⟨m2 x (a2 x hx), fun hy => a3 x hy hx⟩
          · exact hx.elim
        · intro x hx
          exact ⟨(m3 x hx).1, fun hy => (m3 x hx).2 (a1 x hy)⟩
        · intro t ht
          subst ht
          cases hr with
          | slot h1 h2 h3 => exact setp_hdr hp h2
        · intro bb hbb
          subst hbb
          obtain ⟨all2, T2, n3, hs2⟩ := root_block h hr
          exact ⟨all2, T2, n3, by rw [hs2, f2]⟩
      · cases r with
        | slot t =>
          cases hr with
          | slot h1 h2 h3 => exact .inl (setp_hdr hp h2)
        | box b => trivial
    · intro q x hx hy
      by_cases hq : q = r
      · subst hq; rw [Own.upd_same] at hx; exact hx.2 hy
      · rw [Own.upd_other _ _ hq] at hx; exact h.disj q r hq x hx (m2 x (a1 x hy))

/-- Where the operand's own slice, map or variable lies. -/
def ASt.src (G : Nat → Option D) (S : ASt) (x : Operand) : Option (Root × List Nat) :=
  match S.ev G x with
  | some (.u true r p) => some (r, p)
  | some (.d d) => if d.isHdr then (match x with | .tmp t => some (.slot t, []) | _ => none) else none
  | _ => none
theorem src_ok {g : Gh} {β : Env} {R : Blk} {Os : Own} {S : ASt} {a : Act} {w : World} (h : StR g β R Os S a w) {x : Operand} {r : Root} {p : List Nat} (hp : S.src g.G x = some (r, p)) {e : D} (he : S.at r p = some e) :
    ∃ d pos pos', RootAt β S a r d pos ∧ walk w p d pos = some (e, pos') ∧ pos'.val w = some (a.eval x) ∧ e.isHdr = true := by
  unfold ASt.src at hp
  split at hp
  · rename_i r' p' hx
    injection hp with hp
    injection hp with h1 h2
    subst h1 h2
    cases x with
    | tmp t =>
      obtain ⟨d, pos, e', pos', c, k1, k2, k3, k4, k5, k6⟩ := up_place (h.ups t _ _ _ hx)
      rw [he] at k3
      injection k3 with k3
      subst k3
      have : a.eval (.tmp t) = c := by simp [Act.eval, k4]
      rw [this]
      exact ⟨d, pos, pos', k1, k2, k6, k5⟩
    | const v => simp only [ASt.ev] at hx; split at hx <;> simp at hx
    | func f => simp [ASt.ev] at hx
    | global i => simp [ASt.ev] at hx
  · rename_i d hx
    split at hp
    · rename_i hd
      split at hp
      · rename_i t
        injection hp with hp
        injection hp with h1 h2
        subst h1 h2
        obtain ⟨c, k1, k2⟩ := h.slots t _ hx
        have hr : RootAt β S a (.slot t) d (.slot c) := .slot hx hd k1
        have hee : e = d := by rw [ASt.at, root_cont hr] at he; simpa [D.get] using he.symm
        subst hee
        have : a.eval (.tmp t) = c := by simp [Act.eval, k1]
        rw [this]
        exact ⟨_, _, _, hr, rfl, rfl, hd⟩
      · simp at hp
    · simp at hp
  · simp at hp

/-- An assignment that takes what owns. -/
theorem e_take {S : ASt} {o : Oper} {x : Operand} {t : Nat} {r : Root} {p : List Nat} {c e : D} (ho : o.op = .assign x ∨ o.op = .move x) (hd : o.dst = some t) (ht : t < S.n) (hx : S.src X.G x = some (r, p)) (hc : S.cont r = some c) (hk : c.okc = true) (he : D.get p c = some e) : Res X S o ((S.out r p).put t (.d e)) := by
  intro g β R Os a w hG h
  obtain ⟨d0, pos, pos', h1, h2, h3, h4⟩ := src_ok h (by rw [hG]; exact hx) (e := e) (by rw [ASt.at, hc]; exact he)
  have hcd : c = d0 := by rw [root_cont h1] at hc; injection hc with hc; exact hc.symm
  subst hcd
  obtain ⟨Os', Oe, k1, k2, k3, k4⟩ := take_core h h1 h2 h4 h3 hk
  have ha : ∀ ds, e ≠ .agg ds := by intro ds e0; subst e0; simp [D.isHdr] at h4
  have hts : t < a.tmps.size := Nat.lt_of_lt_of_le ht h.size
  refine ⟨a.eval x, w, R, Os'.upd (.slot t) Oe, .inl (by rcases ho with ho | ho <;> simp [execOp, ho]), ?_⟩
  rw [hd]
  exact k1.putX (Grow.refl w) (fun _ x => x) (fun _ x => .inl x) hts (RelV.mk ((packs_one ha).2 rfl) k2) (fun x hx => ⟨(h.own r x (k3 x hx)).1, (h.own r x (k3 x hx)).2, fun q _ hq => k4 q x hq hx⟩) (fun x hx hy => h.apart r x hx (k3 x hy))

-- ---------------------------------------------------------------- weakenings
/-- One state for another, of the same frame and world. -/
def Wk (S S' : ASt) : Prop := ∀ g β R Os a w, StR g β R Os S a w → ∃ β' R' Os', StR g β' R' Os' S' a w
/-- The same, the boxes' places being the same. -/
def Wk0 (S S' : ASt) : Prop := ∀ g β R Os a w, StR g β R Os S a w → ∃ R' Os', StR g β R' Os' S' a w
theorem Wk0.wk {S S' : ASt} (h : Wk0 S S') : Wk S S' := fun g β R Os a w hs => by
  obtain ⟨R', Os', h1⟩ := h g β R Os a w hs
  exact ⟨β, R', Os', h1⟩
theorem Wk.refl (S : ASt) : Wk S S := fun g β R Os a w h => ⟨β, R, Os, h⟩
theorem Wk.trans {S S' S'' : ASt} (h : Wk S S') (k : Wk S' S'') : Wk S S'' := fun g β R Os a w hs => by
  obtain ⟨β', R', Os', h1⟩ := h g β R Os a w hs
  exact k g β' R' Os' a w h1

/-- Fewer slots. -/
def sub (l' l : List (Nat × TV)) : Prop := ∀ t x, look l' t = some x → look l t = some x
theorem wk_sub {S S' : ASt} (hnb : S'.nb = S.nb) (hn : S'.n ≤ S.n) (hs : sub S'.slots S.slots) (hb : S'.boxes = S.boxes) (hr : ∀ t h r p, look S'.slots t = some (.u h r p) → ∀ s, r = .slot s → look S'.slots s = look S.slots s) : Wk S S' := by
  intro g β R Os a w h
  refine ⟨β, R, Os, fun b => by rw [hnb, hb]; exact h.ext b, Nat.le_trans hn h.size, h.defers, fun t d hd => h.slots t d (hs t _ hd), ?_, fun b d hd => h.boxes b d (by rw [← hb]; exact hd), h.disj, h.apart, h.own, h.read, h.fr, h.glob⟩
  intro t b r p hu
  refine (h.ups t b r p (hs t _ hu)).keep ?_ rfl (fun _ _ => rfl)
  intro d pos hra
  cases hra with
  | slot h1 h2 h3 => exact .slot (by rw [hr t b _ p hu _ rfl]; exact h1) h2 h3
  | box h1 h2 h3 => exact .box (by rw [hb]; exact h1) h2 h3

/-- A place frozen. -/
def ASt.ice (S : ASt) (r : Root) (p : List Nat) : ASt := match r, p with
  | .slot t, [] => match S.cont (.slot t) with
    | some c => { S with slots := (t, .d c.frz) :: kill (.slot t) S.slots }
    | none => S
  | r, p => match S.cont r with
    | some c => match D.get p c with
      | some e => S.upd r (D.setp p e.frz c)
      | none => S
    | none => S
theorem wk_put {S : ASt} {t : Nat} {d d' : D} (hl : look S.slots t = some (.d d)) (hx : ∀ β w R c O, RelV β w R d c O → RelV β w (Or2 R O) d' c Blk.emp) : Wk0 S { S with slots := (t, .d d') :: kill (.slot t) S.slots } := by
  intro g β R Os a w h
  obtain ⟨c, k1, k2⟩ := h.slots t d hl
  have hd := h.dropS (y := t) ⟨c, k1⟩
  refine ⟨Or2 R (Os (.slot t)), Os.upd (.slot t) Blk.emp, hd.ext, hd.size, hd.defers, ?_, ?_, ?_, hd.disj, ?_, hd.own, ?_, hd.fr, ?_⟩
  · intro s e he
    by_cases hs : t = s
    · subst hs
      simp only [look_nil, look_cons, if_true, Option.some.injEq, TV.d.injEq] at he
      subst he
      exact ⟨c, k1, by rw [Own.upd_same]; exact hx _ _ _ _ _ k2⟩
    · obtain ⟨c', m1, m2⟩ := hd.slots s e (by rw [look_drop, if_neg hs]; simpa [look_nil, look_cons, hs] using he)
      exact ⟨c', m1, m2.up (fun _ _ x => x) or2_r (fun _ _ => rfl) (fun _ _ => rfl) (fun _ x => x)⟩
  · intro s b q p hu
    by_cases hs : t = s
    · simp [look_nil, look_cons, hs] at hu
    · have hu' : look (kill (.slot t) S.slots) s = some (.u b q p) := by simpa [look_nil, look_cons, hs] using hu
      obtain ⟨hl', hq⟩ := look_kill_u hu'
      refine (h.ups s b q p hl').keep ?_ rfl (fun _ _ => rfl)
      intro d0 pos0 hra
      cases hra with
      | slot h1 h2 h3 =>
        rename_i t0 c0
        have hne : t ≠ t0 := fun e => hq (by rw [e])
        exact .slot (by simp only [look_nil, look_cons, if_neg hne]; rw [look_kill, h1]) h2 h3
      | box h1 h2 h3 => exact .box h1 h2 h3
  · intro b e he
    exact (hd.boxes b e he).up (fun _ _ x => x) or2_r (fun _ _ => rfl) (fun _ _ => rfl) (fun _ x => x)
  · intro q x h1 h2
    by_cases hq : q = .slot t
    · rw [hq, Own.upd_same] at h2; exact h2
    · rw [Own.upd_other _ _ hq] at h2
      rcases h1 with h1 | h1
      · exact h.apart q x h1 h2
      · exact h.disj q _ hq x h2 h1
  · intro x hx
    rcases hx with hx | hx
    · exact h.read x hx
    · have := h.own _ x hx; exact ⟨this.1, .inr this.2⟩
  · intro i d0 hi
    exact (h.glob i d0 hi).up (fun _ _ x => x) or2_r (fun _ _ => rfl)

theorem frz_okc {d : D} (h : d.okc = true) : d.frz.okc = true := by cases d <;> simp [D.okc] at h <;> simp [D.frz, D.okc]
theorem wk_ice {S : ASt} {r : Root} {p : List Nat} {c e : D} (hc : S.cont r = some c) (hk : c.okc = true) (he : D.get p c = some e) (hke : e.okc = true) : Wk0 S (S.ice r p) := by
  by_cases hp : p = [] ∧ ∃ t, r = .slot t
  · obtain ⟨rfl, t, rfl⟩ := hp
    · simp only [D.get, Option.some.injEq] at he
      subst he
      simp only [ASt.ice, hc]
      refine wk_put (d := c) ?_ ?_
      · simp only [ASt.cont] at hc
        split at hc
        · rename_i d hl
          split at hc
          · injection hc with hc; subst hc; exact hl
          · simp at hc
        · simp at hc
      · intro β w R v O hv
        obtain ⟨xs, m1, m2⟩ := hv.okc hk
        exact RelV.mk (packs_frz m1) (Rel.frz c xs O m2)
  · have hpt : ∀ t, r = .slot t → p ≠ [] := fun t ht hp' => hp ⟨hp', t, ht⟩
    have hice : S.ice r p = S.upd r (D.setp p e.frz c) := by
      cases r with
      | box b => simp only [ASt.ice, hc, he]
      | slot t =>
        cases p with
        | nil => exact absurd rfl (hpt t rfl)
        | cons i p => simp only [ASt.ice, hc, he]
    rw [hice]
    intro g β R Os a w h
    obtain ⟨d, pos, pos', O0, hr, hw, _, _, _⟩ := place h (r := r) (p := p) (e := e) (by rw [ASt.at, hc]; exact he)
    have hcd : c = d := by rw [root_cont hr] at hc; injection hc with hc; exact hc.symm
    subst hcd
    obtain ⟨O, m1, m2, m3⟩ := root_at h hr
    have hRO : Disj R O := fun x a b => h.apart r x a (m2 x b)
    have hpp : ∀ x, pos.isIn x → ¬ O x ∧ ¬ R x := fun x hx => ⟨(m3 x hx).2, fun hR => h.apart r x hR (m3 x hx).1⟩
    obtain ⟨Oe, Or, a1, a2, a3, a4, a5, a5', a6⟩ := lens_walk p c e pos pos' O m1 hRO hpp hw
    have hne : ∀ b off, pos' = .mem b off → ¬ Oe b := by
      intro b off hb hh
      rcases a5 b off hb with h1 | ⟨off0, h1, _⟩
      · exact a3 b hh h1
      · exact (m3 b (by rw [h1]; rfl)).2 (a1 b hh)
    have hfz : At β w (Or2 R Oe) e.frz pos' Blk.emp := by
      cases pos' with
      | slot c' => exact Rel.frz e _ Oe a4
      | mem b off =>
        obtain ⟨cs, k1, k2, k3, k4⟩ := a4
        exact ⟨cs, k1, Rel.frz e cs Oe k2, fun h => h, fun hh => hh.elim k4 (hne b off rfl)⟩
    obtain ⟨f1, f2⟩ := a6 β w (Or2 R Oe) e.frz Blk.emp (fun _ _ x => x) or2_r (D.frz_nc e) (fun x _ => .inl rfl) hfz (fun x hx => hx.elim)
      (fun x hx hy => hx.elim (fun hx => h.apart r x hx (m2 x (a2 x hy))) (fun hx => a3 x hx hy)) (fun x _ hx => hx) (fun x hx hy => hy.elim (hpp x hx).2 (fun hy => (m3 x hx).2 (a1 x hy)))
    refine ⟨Or2 R Oe, Os.upd r (fun x => Os r x ∧ ¬ Oe x), ?_⟩
    refine h.turn (On := fun x => Os r x ∧ ¬ Oe x) hr ⟨rfl, rfl, rfl, Nat.le_refl _, fun _ _ _ => rfl⟩ or2_r (fun x hx => hx.elim .inl fun hx => .inr (.inl (m2 x (a1 x hx)))) (fun x hx => .inl hx.1) (fun x a b => a.elim (fun a => h.apart r x a b.1) b.2) ?_ ?_
    · refine put_back hr f1 ?_ ?_ ?_ ?_ ?_
      · cases p with
        | nil => exact frz_okc hke
        | cons i p => cases c <;> simp [D.okc] at hk <;> simp [D.setp, D.okc]
      · rintro x (hx | hx)
        · exact ⟨m2 x (a2 x hx), fun hy => a3 x hy hx⟩
        · exact hx.elim
      · intro x hx
        exact ⟨(m3 x hx).1, fun hy => (m3 x hx).2 (a1 x hy)⟩
      · intro t ht
        subst ht
        cases hr with
        | slot h1 h2 h3 => exact setp_hdr (hpt _ rfl) h2
      · intro bb hbb
        subst hbb
        obtain ⟨all2, T2, n3, hs2⟩ := root_block h hr
        exact ⟨all2, T2, n3, by rw [hs2, f2]⟩
    · cases r with
      | slot t =>
        cases hr with
        | slot h1 h2 h3 => exact .inl (setp_hdr (hpt _ rfl) h2)
      | box b => trivial
end
end Go.Proofs.YtfbppkjjdbkedaaGreatDoor.Ref
/-
  The abstract machine: code, calls, functions.
-/
namespace Go.Proofs.YtfbppkjjdbkedaaGreatDoor.Ref
noncomputable section
open Go
set_option linter.unusedVariables false
variable {X : Cx}

inductive AEx where
  | normal
  | exit (id : Nat)
  | ret
  | pan (d : D)

def ExOk (β : Env) (w : World) (R : Blk) : AEx → Exit → Prop
  | .normal, .normal => True
  | .exit i, .exit j => i = j
  | .ret, .ret => True
  | .pan d, .panic chain => ∃ v, chain = [{ v := v, recovered := false }] ∧ RelV β w R d v Blk.emp
  | _, _ => False

def AQ (g : Gh) (K : AEx → ASt → Prop) : Exit → Act → World → Prop := fun e a w => ∃ ae S β R Os, K ae S ∧ StR g β R Os S a w ∧ ExOk β w R ae e

/-- From state S on, the code comes to K, whatever the frame and the world for which S stands. -/
def AWP (X : Cx) (c : Code) (K : AEx → ASt → Prop) (S : ASt) : Prop := ∀ g β R Os a w, g.G = X.G → StR g β R Os S a w → c.wp X.P (AQ g K) a w
/-- The same of operations of a region, one behind the other. -/
def AL (X : Cx) (ops : Array Oper) (l : List Oper) (K : AEx → ASt → Prop) (S : ASt) : Prop := ∀ g β R Os a w, g.G = X.G → StR g β R Os S a w → wpList X.P ops (AQ g K) l a w

theorem AQ.mk {g : Gh} {β : Env} {K : AEx → ASt → Prop} {ae : AEx} {e : Exit} {S : ASt} {R : Blk} {Os : Own} {a : Act} {w : World} (hK : K ae S) (h : StR g β R Os S a w) (he : ExOk β w R ae e) : AQ g K e a w := ⟨ae, S, β, R, Os, hK, h, he⟩

theorem awp_wk {c : Code} {K : AEx → ASt → Prop} {S S' : ASt} (hw : Wk S S') (h : AWP X c K S') : AWP X c K S := fun g β R Os a w hG hs => by
  obtain ⟨β', R', Os', h1⟩ := hw g β R Os a w hs
  exact h g β' R' Os' a w hG h1
theorem al_wk {ops : Array Oper} {l : List Oper} {K : AEx → ASt → Prop} {S S' : ASt} (hw : Wk S S') (h : AL X ops l K S') : AL X ops l K S := fun g β R Os a w hG hs => by
  obtain ⟨β', R', Os', h1⟩ := hw g β R Os a w hs
  exact h g β' R' Os' a w hG h1
theorem awp_mono {c : Code} {K K' : AEx → ASt → Prop} {S : ASt} (h : AWP X c K S) (hK : ∀ ae S', K ae S' → K' ae S') : AWP X c K' S := fun g β R Os a w hG hs =>
  wp_mono (h g β R Os a w hG hs) fun e a' w' ⟨ae, S', β', R', Os', h1, h2, h3⟩ => ⟨ae, S', β', R', Os', hK _ _ h1, h2, h3⟩

/-- What stands behind the first of two. -/
def Ks (X : Cx) (y : Code) (K : AEx → ASt → Prop) : AEx → ASt → Prop
  | .normal, S => AWP X y K S
  | e, S => K e S
theorem awp_seq {x y : Code} {K : AEx → ASt → Prop} {S : ASt} (h : AWP X x (Ks X y K) S) : AWP X (.seq x y) K S := fun g β R Os a w hG hs => by
  refine wp_seq (wp_mono (h g β R Os a w hG hs) ?_)
  rintro e a' w' ⟨ae, S', β', R', Os', h1, h2, h3⟩
  cases ae <;> cases e <;> simp only [ExOk] at h3 <;> first | exact h3.elim | skip
  · exact h1 g β' R' Os' a' w' hG h2
  · exact ⟨_, S', β', R', Os', h1, h2, h3⟩
  · exact ⟨.ret, S', β', R', Os', h1, h2, trivial⟩
  · exact ⟨_, S', β', R', Os', h1, h2, h3⟩
theorem awp_skip {K : AEx → ASt → Prop} {S : ASt} (h : K .normal S) : AWP X .skip K S := fun g β R Os a w hG hs => wp_skip (.mk h hs trivial)
theorem awp_ret {K : AEx → ASt → Prop} {S : ASt} (h : K .ret S) : AWP X .ret K S := fun g β R Os a w hG hs => wp_ret (.mk h hs trivial)
theorem awp_exit {id : Nat} {K : AEx → ASt → Prop} {S : ASt} (h : K (.exit id) S) : AWP X (.exit id) K S := fun g β R Os a w hG hs => wp_exit (.mk h hs rfl)
/-- What stands behind a block. -/
def Kb (id : Nat) (K : AEx → ASt → Prop) : AEx → ASt → Prop
  | .exit j, S => if j = id then K .normal S else K (.exit j) S
  | e, S => K e S
theorem awp_block {id : Nat} {c : Code} {K : AEx → ASt → Prop} {S : ASt} (h : AWP X c (Kb id K) S) : AWP X (.block id c) K S := fun g β R Os a w hG hs => by
  refine wp_block (wp_mono (h g β R Os a w hG hs) ?_)
  rintro e a' w' ⟨ae, S', β', R', Os', h1, h2, h3⟩
  cases ae <;> cases e <;> simp only [ExOk] at h3 <;> first | exact h3.elim | skip
  · exact .mk (ae := .normal) h1 h2 trivial
  · subst h3
    simp only [Kb] at h1
    simp only [Exit.inBlock]
    split <;> rename_i hid
    · rw [if_pos hid] at h1; exact .mk h1 h2 trivial
    · rw [if_neg hid] at h1; exact .mk h1 h2 rfl
  · exact .mk (ae := .ret) h1 h2 trivial
  · exact ⟨_, S', β', R', Os', h1, h2, h3⟩
theorem awp_cond {c : Operand} {x y : Code} {b : Bool} {K : AEx → ASt → Prop} {S : ASt} (hc : S.ev X.G c = some (.d (.v (.bool b)))) (ht : b = true → AWP X x K S) (hf : b = false → AWP X y K S) : AWP X (.cond c x y) K S := fun g β R Os a w hG hs => by
  obtain ⟨xs, h1, h2⟩ := evalR hs (by rw [hG]; exact hc) rfl
  simp only [Rel] at h2
  simp only [packs] at h1
  rw [h1] at h2
  have h2 := h2.2
  injection h2 with h2
  exact Go.wp_cond_split h2 (fun hb => ht hb g β R Os a w hG hs) (fun hb => hf hb g β R Os a w hG hs)
theorem awp_true {c : Operand} {x y : Code} {K : AEx → ASt → Prop} {S : ASt} (hc : S.ev X.G c = some (.d (.v (.bool true)))) (h : AWP X x K S) : AWP X (.cond c x y) K S := awp_cond hc (fun _ => h) (fun h => by cases h)
theorem awp_false {c : Operand} {x y : Code} {K : AEx → ASt → Prop} {S : ASt} (hc : S.ev X.G c = some (.d (.v (.bool false)))) (h : AWP X y K S) : AWP X (.cond c x y) K S := awp_cond hc (fun h => by cases h) (fun _ => h)
/-- A loop: the states I n at its head, n rounds left at most. -/
def Kl (I : Nat → ASt → Prop) (n : Nat) (K : AEx → ASt → Prop) : AEx → ASt → Prop
  | .normal, S => ∃ m, m < n ∧ I m S
  | e, S => K e S
theorem awp_loop {c : Code} {K : AEx → ASt → Prop} {S : ASt} (I : Nat → ASt → Prop) (n : Nat) (h0 : I n S) (h : ∀ n S, I n S → AWP X c (Kl I n K) S) : AWP X (.loop c) K S := by
  intro g β R Os a w hG hs
  intro b k cs
  have key : ∀ n S β R Os a w, I n S → StR g β R Os S a w → ∃ e a' w', AQ g K e a' w' ∧ Arrives X.P (lone (b.at a (.code c :: .inLoop c :: k)) cs w) b k cs e a' w' := by
    intro n
    induction n using Nat.strongRecOn with
    | _ n ih =>
      intro S β R Os a w hI hs
      obtain ⟨e, a₁, w₁, hq, harr⟩ := h n S hI g β R Os a w hG hs b (.inLoop c :: k) cs
      obtain ⟨ae, S', β', R', Os', h1, h2, h3⟩ := hq
      cases ae <;> cases e <;> simp only [ExOk] at h3 <;> first | exact h3.elim | skip
      · obtain ⟨m, hm, hI'⟩ := h1
        obtain ⟨e₂, a₂, w₂, hq₂, harr₂⟩ := ih m hm S' β' R' Os' a₁ w₁ hI' h2
        exact ⟨e₂, a₂, w₂, hq₂, .of_steps (Steps.trans harr (.one step_inLoop)) harr₂⟩
      · exact ⟨.exit _, a₁, w₁, AQ.mk (ae := .exit _) h1 h2 h3, .pass (x := .inLoop c) rfl (fun _ _ => .inl (by simp)) harr⟩
      · exact ⟨.ret, a₁, w₁, AQ.mk (ae := .ret) h1 h2 trivial, .pass (x := .inLoop c) rfl (fun _ _ => .inl (by simp)) harr⟩
      · exact ⟨.panic _, a₁, w₁, AQ.mk (ae := .pan _) h1 h2 h3, .pass (x := .inLoop c) rfl (fun _ _ => .inl (by simp)) harr⟩
  obtain ⟨e, a', w', hq, harr⟩ := key n S β R Os a w h0 hs
  exact ⟨e, a', w', hq, .of_steps (.one step_loop) harr⟩

theorem awp_region {id : Nat} {ops : Array Oper} {K : AEx → ASt → Prop} {S : ASt} (h : AL X ops ops.toList K S) : AWP X (.region id ops false) K S := fun g β R Os a w hG hs => wp_region_list (h g β R Os a w hG hs)
theorem al_nil {ops : Array Oper} {K : AEx → ASt → Prop} {S : ASt} (h : K .normal S) : AL X ops [] K S := fun g β R Os a w hG hs => AQ.mk h hs trivial

theorem al_res {ops : Array Oper} {o : Oper} {l : List Oper} {K : AEx → ASt → Prop} {S S' : ASt} (hr : Res X S o S') (hg : o.guard = none) (h : AL X ops l K S') : AL X ops (o :: l) K S := fun g β R Os a w hG hs => by
  obtain ⟨v, w', R', Os', h1, h2⟩ := hr g β R Os a w hG hs
  refine wpList_plain hg fun K' hK => ?_
  unfold Oper.wp
  rcases h1 with h1 | ⟨h1, rfl⟩ <;> rw [h1]
  · exact hK _ _ (h g β R' Os' _ _ hG h2)
  · exact hK _ _ (h g β R' Os' _ _ hG h2)
/-- An operation that turns nothing. -/
theorem al {ops : Array Oper} {o : Oper} {l : List Oper} {K : AEx → ASt → Prop} {S : ASt} {tv : TV} {t : Nat} (hr : NRes X S o tv) (hg : o.guard = none) (hd : o.dst = some t) (ht : t < S.n) (hu : ∀ b r p, tv = .u b r p → r ≠ .slot t) (h : AL X ops l K (S.put t tv)) : AL X ops (o :: l) K S :=
  al_res (hr.res hd ht hu) hg h
end
end Go.Proofs.YtfbppkjjdbkedaaGreatDoor.Ref
/-
  The abstract machine: contracts of functions; a function's entry and its end; a call.
-/
namespace Go.Proofs.YtfbppkjjdbkedaaGreatDoor.Ref
noncomputable section
open Go
set_option linter.unusedVariables false
variable {X : Cx}

/-- Values in slots, each of its own. -/
def RelVV (β : Env) (w : World) (R : Blk) : List D → List Value → Blk → Prop
  | [], cs, _ => cs = []
  | d :: ds, cs, O => ∃ c cs' O1 O2, cs = c :: cs' ∧ RelV β w R d c O1 ∧ RelVV β w R ds cs' O2 ∧ (∀ x, O1 x → O x) ∧ (∀ x, O2 x → O x) ∧ Disj O1 O2

inductive ARes where
  | ret (d : D)
  | pan (d : D)

def RetR (β : Env) (w : World) (R O : Blk) : ARes → Ending → Prop
  | .ret d, .returned v => RelV β w R d v O
  | .pan d, .panicked chain => ∃ v, chain = [{ v := v, recovered := false }] ∧ RelV β w R d v Blk.emp
  | _, _ => False

/-- Behind a call. -/
structure Back (X : Cx) (β : Env) (w : World) (R Oa : Blk) (Ob : Nat → Blk) (boxes : List D) (r : ARes) (boxes' : List D) (e : Ending) (w' : World) (R' Or : Blk) (Ob' : Nat → Blk) : Prop where
  len : boxes'.length = boxes.length
  ret : RetR β w' R' Or r e
  box : ∀ b d, boxes'[b]? = some d → RelB β w' R' b d (Ob' b)
  fr : Fr (fun x => Oa x ∨ ∃ i, Ob i x) w w'
  more : ∀ x, R x → R' x
  read : ∀ x, R' x → x < w'.heap.size ∧ (R x ∨ Oa x ∨ (∃ i, Ob i x) ∨ w.heap.size ≤ x)
  ownr : ∀ x, Or x → x < w'.heap.size ∧ (Oa x ∨ (∃ i, Ob i x) ∨ w.heap.size ≤ x)
  ownb : ∀ i x, Ob' i x → x < w'.heap.size ∧ (Oa x ∨ (∃ i, Ob i x) ∨ w.heap.size ≤ x)
  d1 : Disj R' Or
  d2 : ∀ i, Disj R' (Ob' i)
  d3 : ∀ i, Disj Or (Ob' i)
  d4 : ∀ i j, i ≠ j → Disj (Ob' i) (Ob' j)

/-- A contract: called with 'args', the boxes being 'boxes', the function comes to K. -/
def CT (X : Cx) (f : FuncId) (args : List D) (boxes : List D) (K : ARes → List D → Prop) : Prop :=
  ∀ (β : Env) (w : World) (R Oa : Blk) (Ob : Nat → Blk) (cargs : List Value), RelVV β w R args cargs Oa → (∀ b d, boxes[b]? = some d → RelB β w R b d (Ob b)) →
    (∀ i j, i ≠ j → Disj (Ob i) (Ob j)) → (∀ i, Disj Oa (Ob i)) → Disj R Oa → (∀ i, Disj R (Ob i)) → (∀ x, R x → x < w.heap.size) → (∀ x, Oa x → x < w.heap.size) → (∀ i x, Ob i x → x < w.heap.size) →
    (∀ i d, X.G i = some d → Gl β w R i d) → (∀ b, boxes.length ≤ b → β b = none) →
    Calls X.P f cargs.toArray w fun e w' => ∃ r boxes' R' Or Ob', K r boxes' ∧ Back X β w R Oa Ob boxes r boxes' e w' R' Or Ob'

theorem CT.mono {f : FuncId} {args boxes : List D} {K K' : ARes → List D → Prop} (h : CT X f args boxes K) (hK : ∀ r b, K r b → K' r b) : CT X f args boxes K' := by
  intro β w R Oa Ob cargs h1 h2 h3 h4 h5 h6 h7 h8 h9 h10 h11
  exact (h β w R Oa Ob cargs h1 h2 h3 h4 h5 h6 h7 h8 h9 h10 h11).mono fun e w' ⟨r, b', R', Or, Ob', k1, k2⟩ => ⟨r, b', R', Or, Ob', hK _ _ k1, k2⟩

-- ---------------------------------------------------------------- results
def rTmps : List ResultVar → List Nat
  | [] => []
  | .tmp t :: l => t :: rTmps l
  | .cell _ _ :: l => rTmps l
def resL (T : TypeId → Option TI) (S : ASt) : List ResultVar → Option (List D)
  | [] => some []
  | .tmp t :: l => match look S.slots t, resL T S l with
    | some (.d d), some ds => if d.okc then some (d :: ds) else none
    | _, _ => none
  | .cell a ty :: l => match look S.slots a, T ty, resL T S l with
    | some (.d (.cell d)), some i, some ds => if d.ro && d.okc && i.fits d then some (d :: ds) else none
    | some (.d (.ref b [] 0)), some i, some ds => match S.boxes[b]? with
      | some d => if d.ro && d.okc && i.fits d then some (d :: ds) else none
      | none => none
    | _, _, _ => none
def resV (P : Program) (tmps : Array Value) : ResultVar → Sem Value
  | .tmp t => pure (tmps.getD t undef)
  | .cell a t => do loadVar t (← asAddr (tmps.getD a undef))

theorem res_list (hX : X.Ok) {g : Gh} {β : Env} {R : Blk} {Os : Own} {S : ASt} {a : Act} {w : World} (h : StR g β R Os S a w) : ∀ (l : List ResultVar) (ds : List D), resL X.T S l = some ds → (rTmps l).Nodup →
    ∃ vs O, (l.mapM (resV X.P a.tmps)).run X.P w = .ok vs w ∧ RelVs β w R ds vs O ∧ (∀ x, O x → ∃ t ∈ rTmps l, Os (.slot t) x) ∧ vs.length = l.length
  | [], ds, hr, hn => by
    simp only [resL, Option.some.injEq] at hr
    subst hr
    exact ⟨[], Blk.emp, rfl, by simp [RelVs], fun x hx => hx.elim, rfl⟩
  | .tmp t :: l, ds, hr, hn => by
    simp only [resL] at hr
    split at hr
    · rename_i d ds' h1 h2
      split at hr
      · rename_i hk
        injection hr with hr
        subst hr
        simp only [rTmps, List.nodup_cons] at hn
        obtain ⟨vs, O, k1, k2, k3, k4⟩ := res_list hX h l ds' h2 hn.2
        obtain ⟨c, m1, m2⟩ := h.slots t d h1
        obtain ⟨xs, m3, m4⟩ := m2.okc hk
        refine ⟨c :: vs, Or2 (Os (.slot t)) O, ?_, ?_, ?_, by simp [k4]⟩
        · simp [List.mapM_cons, resV, m1, k1]
        · simp only [RelVs]
          refine ⟨c, vs, xs, Os (.slot t), O, rfl, m3, m4, k2, fun x hx => .inl hx, fun x hx => .inr hx, ?_⟩
          intro x hx hy
          obtain ⟨u, hu, hx'⟩ := k3 x hy
          exact h.disj (.slot t) (.slot u) (by intro e; injection e with e; exact hn.1 (e ▸ hu)) x hx hx'
        · rintro x (hx | hx)
          · exact ⟨t, by simp [rTmps], hx⟩
          · obtain ⟨u, hu, hx'⟩ := k3 x hx; exact ⟨u, by simp [rTmps, hu], hx'⟩
      · simp at hr
    · simp at hr
  | .cell p ty :: l, ds, hr, hn => by
    simp only [resL] at hr
    split at hr
    · rename_i d i ds' h1 h2 h3
      split at hr
      · rename_i hk
        injection hr with hr
        subst hr
        simp only [Bool.and_eq_true] at hk
        simp only [rTmps] at hn
        obtain ⟨vs, O, k1, k2, k3, k4⟩ := res_list hX h l ds' h3 hn
        obtain ⟨c, m1, xs, m2, m3⟩ := h.slots p _ h1
        simp only [packs] at m2
        subst m2
        simp only [Rel] at m3
        obtain ⟨b, all, T, O', n1, n2, n3, n4, n5, n6⟩ := m3
        simp at n1
        subst n1
        have hc : CellsR w b 0 all.toList := fun k hk => by simp [World.cell?, n3]
        obtain ⟨v, q1, q2⟩ := run_loadVar hX h2 n6 hc hk.2
        refine ⟨v :: vs, O, ?_, ?_, fun x hx => by simpa [rTmps] using k3 x hx, by simp [k4]⟩
        · simp [List.mapM_cons, resV, m1, k1, asAddr, q1]
        · simp only [RelVs]
          exact ⟨v, vs, _, Blk.emp, O, rfl, q2, Rel.ro d _ O' hk.1.1 n6, k2, fun x hx => hx.elim, fun x hx => hx, fun x hx => hx.elim⟩
      · simp at hr
    · rename_i b i ds' h1 h2 h3
      split at hr
      · rename_i d hbx
        split at hr
        · rename_i hk
          injection hr with hr
          subst hr
          simp only [Bool.and_eq_true] at hk
          simp only [rTmps] at hn
          obtain ⟨vs, O, k1, k2, k3, k4⟩ := res_list hX h l ds' h3 hn
          obtain ⟨c, m1, xs, m2, m3⟩ := h.slots p _ h1
          simp only [packs] at m2
          subst m2
          simp only [Rel] at m3
          obtain ⟨y, n1, n2⟩ := m3
          injection n2 with n2
          subst n2
          have hb := h.boxes b d hbx
          have hb : ∃ x all T O', β b = some x ∧ Os (.box b) x ∧ w.heap[x]? = some (.cells all T (0, 0)) ∧ (∀ y, O' y → Os (.box b) y) ∧ ¬ O' x ∧ Rel β w R d all.toList O' := by
            cases d <;> first | exact hb | (have := hk.1.2; simp [D.okc] at this)
          obtain ⟨x', all, T, O', r1, r2, r3, r4, r5, r6⟩ := hb
          rw [n1] at r1
          injection r1 with r1
          subst r1
          have hc : CellsR w y 0 all.toList := fun k hk => by simp [World.cell?, r3]
          obtain ⟨v, q1, q2⟩ := run_loadVar hX h2 r6 hc hk.2
          refine ⟨v :: vs, O, ?_, ?_, fun x hx => by simpa [rTmps] using k3 x hx, by simp [k4]⟩
          · simp [List.mapM_cons, resV, m1, k1, asAddr, q1]
          · simp only [RelVs]
            exact ⟨v, vs, _, Blk.emp, O, rfl, q2, Rel.ro d _ O' hk.1.1 r6, k2, fun x hx => hx.elim, fun x hx => hx, fun x hx => hx.elim⟩
        · simp at hr
      · simp at hr
    · simp at hr

def resD (T : TypeId → Option TI) (S : ASt) (l : List ResultVar) : Option D := match resL T S l with
  | some [d] => some d
  | some ds => some (.tup ds)
  | none => none

theorem res_run (hX : X.Ok) {g : Gh} {β : Env} {R : Blk} {Os : Own} {S : ASt} {a : Act} {w : World} (h : StR g β R Os S a w) {fn : Func} {d : D} (hr : resD X.T S fn.results.toList = some d) (hn : (rTmps fn.results.toList).Nodup) :
    ∃ v O, (results fn a.tmps).run X.P w = .ok v w ∧ RelV β w R d v O ∧ (∀ x, O x → ∃ t ∈ rTmps fn.results.toList, Os (.slot t) x) := by
  have hrun : ∀ vs, (fn.results.toList.mapM (resV X.P a.tmps)).run X.P w = .ok vs w → (results fn a.tmps).run X.P w = .ok (if h : vs.toArray.size = 1 then vs.toArray[0] else .tuple vs.toArray) w := by
    intro vs hvs
    have e1 : (fn.results.mapM (m := Sem) (resV X.P a.tmps)) = List.toArray <$> fn.results.toList.mapM (resV X.P a.tmps) := Array.mapM_eq_mapM_toList
    have e2 : results fn a.tmps = (fn.results.mapM (m := Sem) (resV X.P a.tmps)) >>= fun vs => pure (if h : vs.size = 1 then vs[0] else .tuple vs) := by
      unfold results
      congr 1
    rw [e2, Sem.run_bind, e1, Sem.run_map, hvs]
    rfl
  unfold resD at hr
  split at hr
  · rename_i d' hl
    injection hr with hr
    subst hr
    obtain ⟨vs, O, k1, k2, k3, k4⟩ := res_list hX h _ _ hl hn
    simp only [RelVs] at k2
    obtain ⟨c, cs', xs, O1, O2, rfl, m1, m2, rfl, m4, m5, m6⟩ := k2
    refine ⟨c, O, by rw [hrun _ k1]; simp, RelV.mk m1 (Rel.up (fun _ _ x => x) (fun _ x => x) (fun _ _ => rfl) _ _ _ _ (fun _ _ => rfl) m4 m2), k3⟩
  · rename_i ds hne hl
    injection hr with hr
    subst hr
    obtain ⟨vs, O, k1, k2, k3, k4⟩ := res_list hX h _ _ hl hn
    have hlen := RelVs.len _ _ _ k2
    refine ⟨.tuple vs.toArray, O, ?_, ⟨vs.toArray, rfl, by simpa using k2⟩, k3⟩
    rw [hrun _ k1]
    have : ¬ vs.toArray.size = 1 := by
      intro h1
      simp at h1
      rw [hlen] at h1
      match ds, h1 with
      | [d0], _ => exact hne d0 rfl
    simp only [this, dite_false]
  · simp at hr

-- ---------------------------------------------------------------- arguments
/-- Arguments: copies of what owns nothing; what owns is given away. -/
def ASt.args (G : Nat → Option D) : List Operand → ASt → Option (List D × ASt)
  | [], S => some ([], S)
  | x :: xs, S => match S.ev G x with
    | some (.d d) => if d.ro then (match ASt.args G xs S with | some (ds, S') => some (d :: ds, S') | none => none)
      else match x with
        | .tmp t => match ASt.args G xs (S.drop t) with | some (ds, S') => some (d :: ds, S') | none => none
        | _ => none
    | _ => none

theorem args_ok : ∀ (xs : List Operand) {g : Gh} {β : Env} {R : Blk} {Os : Own} {S : ASt} {a : Act} {w : World} (h : StR g β R Os S a w) {ds : List D} {S' : ASt}, S.args g.G xs = some (ds, S') →
    ∃ Os' Oa, StR g β R Os' S' a w ∧ RelVV β w R ds (xs.map a.eval) Oa ∧ (∀ q x, Os' q x → Os q x ∧ ¬ Oa x) ∧ (∀ x, Oa x → ∃ q, Os q x)
  | [], g, β, R, Os, S, a, w, h, ds, S', hs => by
    simp only [ASt.args, Option.some.injEq, Prod.mk.injEq] at hs
    obtain ⟨rfl, rfl⟩ := hs
    exact ⟨Os, Blk.emp, h, by simp [RelVV], fun q x hx => ⟨hx, fun h => h⟩, fun x hx => hx.elim⟩
  | x :: xs, g, β, R, Os, S, a, w, h, ds, S', hs => by
    simp only [ASt.args] at hs
    split at hs
    · rename_i d hx
      split at hs
      · rename_i hr
        split at hs
        · rename_i ds' S1 h1
          injection hs with hs
          injection hs with e1 e2
          subst e1 e2
          obtain ⟨Os', Oa, k1, k2, k3, k4⟩ := args_ok xs h h1
          refine ⟨Os', Oa, k1, ?_, k3, k4⟩
          simp only [List.map_cons, RelVV]
          exact ⟨_, _, Blk.emp, Oa, rfl, evalR h hx hr, k2, fun x hx => hx.elim, fun x hx => hx, fun x hx => hx.elim⟩
        · simp at hs
      · split at hs
        · rename_i t
          split at hs
          · rename_i ds' S1 h1
            injection hs with hs
            injection hs with e1 e2
            subst e1 e2
            obtain ⟨c, m1, m2⟩ := h.slots t d hx
            have hd := h.dropS (y := t) ⟨c, m1⟩
            obtain ⟨Os', Oa, k1, k2, k3, k4⟩ := args_ok xs hd h1
            have hev : a.eval (.tmp t) = c := by simp [Act.eval, m1]
            refine ⟨Os', Or2 (Os (.slot t)) Oa, k1, ?_, ?_, ?_⟩
            · simp only [List.map_cons, RelVV]
              refine ⟨_, _, Os (.slot t), Oa, rfl, by rw [hev]; exact m2, k2, fun x hx => .inl hx, fun x hx => .inr hx, ?_⟩
              intro y hy hy'
              obtain ⟨q, hq⟩ := k4 y hy'
              by_cases e : q = .slot t
              · rw [e, Own.upd_same] at hq; exact hq
              · rw [Own.upd_other _ _ e] at hq; exact h.disj _ _ (Ne.symm e) y hy hq
            · intro q y hy
              obtain ⟨b1, b2⟩ := k3 q y hy
              by_cases e : q = .slot t
              · rw [e, Own.upd_same] at b1; exact b1.elim
              · rw [Own.upd_other _ _ e] at b1
                exact ⟨b1, fun hh => hh.elim (fun hh => h.disj _ _ e y b1 hh) b2⟩
            · rintro y (hy | hy)
              · exact ⟨_, hy⟩
              · obtain ⟨q, hq⟩ := k4 y hy
                by_cases e : q = .slot t
                · rw [e, Own.upd_same] at hq; exact hq.elim
                · rw [Own.upd_other _ _ e] at hq; exact ⟨q, hq⟩
          · simp at hs
        · simp at hs
    · simp at hs

-- ---------------------------------------------------------------- a function
def enterS : Nat → List D → List (Nat × TV)
  | _, [] => []
  | k, d :: ds => (k, .d d) :: enterS (k + 1) ds
theorem look_enter : ∀ (ds : List D) (k t : Nat), look (enterS k ds) t = if k ≤ t then (ds[t - k]?).map TV.d else none
  | [], k, t => by simp [enterS, look_nil, look_cons]
  | d :: ds, k, t => by
    simp only [enterS, look_nil, look_cons]
    by_cases h : k = t
    · subst h; simp
    · rw [if_neg h, look_enter ds (k + 1) t]
      by_cases h2 : k ≤ t
      · rw [if_pos h2, if_pos (by omega)]
        have : t - k = (t - (k + 1)) + 1 := by omega
        rw [this, List.getElem?_cons_succ]
      · rw [if_neg h2, if_neg (by omega)]

theorem relVV_fam {β : Env} {w : World} {R : Blk} : ∀ (ds : List D) (cs : List Value) (O : Blk), RelVV β w R ds cs O →
    ∃ F : Nat → Blk, (∀ i d, ds[i]? = some d → ∃ c, cs[i]? = some c ∧ RelV β w R d c (F i)) ∧ (∀ i x, F i x → O x) ∧ (∀ i j, i ≠ j → Disj (F i) (F j)) ∧ cs.length = ds.length
  | [], cs, O, h => by simp only [RelVV] at h; subst h; exact ⟨fun _ => Blk.emp, fun i d hi => by simp at hi, fun _ _ hx => hx.elim, fun _ _ _ _ hx => hx.elim, rfl⟩
  | d :: ds, cs, O, h => by
    simp only [RelVV] at h
    obtain ⟨c, cs', O1, O2, rfl, h1, h2, h3, h4, h5⟩ := h
    obtain ⟨F, k1, k2, k3, k4⟩ := relVV_fam ds cs' O2 h2
    refine ⟨fun i => match i with | 0 => O1 | i + 1 => F i, ?_, ?_, ?_, by simp [k4]⟩
    · intro i e hi
      cases i with
      | zero => simp at hi; subst hi; exact ⟨c, rfl, h1⟩
      | succ i => simp at hi; obtain ⟨c', m1, m2⟩ := k1 i e hi; exact ⟨c', by simpa using m1, m2⟩
    · intro i x hx
      cases i with
      | zero => exact h3 x hx
      | succ i => exact h4 x (k2 i x hx)
    · intro i j hij x hx hy
      cases i with
      | zero =>
        cases j with
        | zero => exact hij rfl
        | succ j => exact h5 x hx (k2 j x hy)
      | succ i =>
        cases j with
        | zero => exact h5 x hy (k2 i x hx)
        | succ j => exact k3 i j (by omega) x hx hy

mutual
theorem Rel.down {n : Nat} {β β' : Env} {w : World} {R : Blk} (hβ : ∀ b x, b < n → β' b = some x → β b = some x) : ∀ (d : D) (cs : List Value) (O : Blk), d.lo n = true → Rel β' w R d cs O → Rel β w R d cs O
  | .v x, cs, O, hl, h => by simp only [Rel] at h ⊢; exact h
  | .agg ds, cs, O, hl, h => by simp only [Rel, D.lo] at h hl ⊢; exact RelL.down hβ ds cs O hl h
  | .row nn sz ds, cs, O, hl, h => by
    simp only [Rel, D.lo] at h hl ⊢
    rcases h with h | ⟨b, off, len, cap, all, T, fr, h1, h2, h3, h4, h5, h6, h7, h8⟩
    · exact .inl h
    · exact .inr ⟨b, off, len, cap, all, T, fr, h1, h2, h3, h4, h5, h6, h7, RelL.down hβ ds _ _ hl h8⟩
  | .own nn sz ds, cs, O, hl, h => by
    simp only [Rel, D.lo] at h hl ⊢
    rcases h with h | ⟨b, off, len, cap, all, T, O1, h1, h2, h3, h4, h5, h6, h7, h8, h9, h10⟩
    · exact .inl h
    exact .inr ⟨b, off, len, cap, all, T, O1, h1, h2, h3, h4, h5, h6, h7, h8, h9, RelL.down hβ ds _ _ hl h10⟩
  | .cell d, cs, O, hl, h => by
    simp only [Rel, D.lo] at h hl ⊢
    obtain ⟨b, all, T, O1, h1, h2, h3, h4, h5, h6⟩ := h
    exact ⟨b, all, T, O1, h1, h2, h3, h4, h5, Rel.down hβ d _ _ hl h6⟩
  | .fz d, cs, O, hl, h => by
    simp only [Rel, D.lo] at h hl ⊢
    obtain ⟨b, off, all, T, fr, h1, h2, h3, h4, h5⟩ := h
    exact ⟨b, off, all, T, fr, h1, h2, h3, h4, Rel.down hβ d _ _ hl h5⟩
  | .ref b p off, cs, O, hl, h => by
    simp only [Rel, D.lo, decide_eq_true_eq] at h hl ⊢
    obtain ⟨x, h1, h2⟩ := h
    exact ⟨x, hβ b x hl h1, h2⟩
  | .mapo ks ds, cs, O, hl, h => by
    simp only [Rel, D.lo] at h hl ⊢
    obtain ⟨r, es, clock, O1, h1, h2, h3, h4, h5, h6, h7⟩ := h
    exact ⟨r, es, clock, O1, h1, h2, h3, h4, h5, h6, RelVs.down hβ ds _ _ hl h7⟩
  | .fmp ks ds, cs, O, hl, h => by
    simp only [Rel, D.lo] at h hl ⊢
    obtain ⟨r, es, clock, h1, h2, h3, h4, h5⟩ := h
    exact ⟨r, es, clock, h1, h2, h3, h4, RelVs.down hβ ds _ _ hl h5⟩
  | .fn f caps, cs, O, hl, h => by
    simp only [Rel, D.lo] at h hl ⊢
    obtain ⟨vs, h1, h2⟩ := h
    exact ⟨vs, h1, RelVs.down hβ caps _ _ hl h2⟩
  | .ifc t d, cs, O, hl, h => by
    simp only [Rel, D.lo] at h hl ⊢
    obtain ⟨c, xs, h1, h2, h3⟩ := h
    exact ⟨c, xs, h1, h2, Rel.down hβ d _ _ hl h3⟩
  | .tup ds, cs, O, hl, h => by simp only [Rel] at h
  | .und, cs, O, hl, h => by simp only [Rel] at h
  | .dead, cs, O, hl, h => by simp only [Rel] at h ⊢; exact h
theorem RelL.down {n : Nat} {β β' : Env} {w : World} {R : Blk} (hβ : ∀ b x, b < n → β' b = some x → β b = some x) : ∀ (ds : List D) (cs : List Value) (O : Blk), D.loL n ds = true → RelL β' w R ds cs O → RelL β w R ds cs O
  | [], cs, O, hl, h => by simp only [RelL] at h ⊢; exact h
  | d :: ds, cs, O, hl, h => by
    simp only [RelL, D.loL, Bool.and_eq_true] at h hl ⊢
    obtain ⟨c1, c2, O1, O2, h1, h2, h3, h4, h5, h6⟩ := h
    exact ⟨c1, c2, O1, O2, h1, Rel.down hβ d _ _ hl.1 h2, RelL.down hβ ds _ _ hl.2 h3, h4, h5, h6⟩
theorem RelVs.down {n : Nat} {β β' : Env} {w : World} {R : Blk} (hβ : ∀ b x, b < n → β' b = some x → β b = some x) : ∀ (ds : List D) (cs : List Value) (O : Blk), D.loL n ds = true → RelVs β' w R ds cs O → RelVs β w R ds cs O
  | [], cs, O, hl, h => by simp only [RelVs] at h ⊢; exact h
  | d :: ds, cs, O, hl, h => by
    simp only [RelVs, D.loL, Bool.and_eq_true] at h hl ⊢
    obtain ⟨c, cs', xs, O1, O2, h1, h0, h2, h3, h4, h5, h6⟩ := h
    exact ⟨c, cs', xs, O1, O2, h1, h0, Rel.down hβ d _ _ hl.1 h2, RelVs.down hβ ds _ _ hl.2 h3, h4, h5, h6⟩
end
theorem Gl.down0 {β β' : Env} {w : World} {R : Blk} {i : Nat} {d : D} (h : Gl β' w R i d) (hl : d.lo 0 = true) : Gl β w R i d := ⟨Rel.down (n := 0) (fun b x hb _ => absurd hb (Nat.not_lt_zero b)) _ _ _ (by simpa [D.lo] using hl) h.1, h.2⟩
theorem RelV.down {n : Nat} {β β' : Env} {w : World} {R O : Blk} (hβ : ∀ b x, b < n → β' b = some x → β b = some x) {d : D} {c : Value} (hl : d.lo n = true) (h : RelV β' w R d c O) : RelV β w R d c O := by
  cases d with
  | tup ds => obtain ⟨vs, h1, h2⟩ := h; exact ⟨vs, h1, RelVs.down hβ ds _ _ (by simpa [D.lo] using hl) h2⟩
  | und => exact h
  | dead => exact trivial
  | _ => obtain ⟨xs, h1, h2⟩ := h; exact ⟨xs, h1, Rel.down hβ _ _ _ hl h2⟩
theorem RelB.down {n : Nat} {β β' : Env} {w : World} {R O : Blk} (hβ : ∀ b x, b < n → β' b = some x → β b = some x) {b : Nat} (hb : b < n) {d : D} (hl : d.lo n = true) (h : RelB β' w R b d O) : RelB β w R b d O := by
  cases d with
  | dead => exact trivial
  | _ => obtain ⟨x, all, T, O', h1, h2, h3, h4, h5, h6⟩ := h; exact ⟨x, all, T, O', hβ b x hb h1, h2, h3, h4, h5, Rel.down hβ _ _ _ hl h6⟩

/-- Nothing that goes back refers to a box of the callee's. -/
def ASt.okR (S : ASt) (d : D) : Bool := S.boxes.length == S.nb || (d.lo S.nb && D.loL S.nb (S.boxes.take S.nb))
theorem loL_get {n : Nat} : ∀ {ds : List D} {i : Nat} {d : D}, D.loL n ds = true → ds[i]? = some d → d.lo n = true
  | [], i, d, _, h => by simp at h
  | e :: ds, i, d, hl, h => by
    simp only [D.loL, Bool.and_eq_true] at hl
    cases i with
    | zero => simp at h; subst h; exact hl.1
    | succ i => simp at h; exact loL_get hl.2 h

/-- A function's end. -/
def Kf (T : TypeId → Option TI) (rs : List ResultVar) (K : ARes → List D → Prop) : AEx → ASt → Prop
  | .normal, S => ∃ d, resD T S rs = some d ∧ S.okR d = true ∧ K (.ret d) (S.boxes.take S.nb)
  | .ret, S => ∃ d, resD T S rs = some d ∧ S.okR d = true ∧ K (.ret d) (S.boxes.take S.nb)
  | .pan d, S => S.okR d = true ∧ K (.pan d) (S.boxes.take S.nb)
  | .exit _, _ => False

theorem ct_of_awp (hX : X.Ok) {f : FuncId} {fn : Func} {c : Code} {args boxes : List D} {K : ARes → List D → Prop} (hf : X.P.funcs[f]? = some fn) (hb : fn.body = some c) (hn : (rTmps fn.results.toList).Nodup)
    (h : AWP X c (fun e S => (S.nb = boxes.length ∧ S.nb ≤ S.boxes.length) ∧ Kf X.T fn.results.toList K e S) ⟨fn.ntmps, enterS 0 args, boxes, boxes.length⟩) : CT X f args boxes K := by
  intro β w R Oa Ob cargs h1 h2 h3 h4 h5 h6 h7 h8 h9 h10 h11
  obtain ⟨F, f1, f2, f3, f4⟩ := relVV_fam args cargs Oa h1
  refine calls_of_wp hf hb ?_
  let g : Gh := ⟨X.G, w, β, R, fun x => Oa x ∨ ∃ i, Ob i x, []⟩
  let Os : Own := fun r => match r with | .slot t => F t | .box b => Ob b
  have hst : StR g β R Os ⟨fn.ntmps, enterS 0 args, boxes, boxes.length⟩ { tmps := cargs.toArray ++ Array.replicate (fn.ntmps - cargs.toArray.size) undef, defers := [] } w := by
    refine ⟨fun b => ⟨fun _ => rfl, h11 b⟩, by simp; omega, rfl, ?_, ?_, h2, ?_, ?_, ?_, fun x hx => ⟨h7 x hx, .inl hx⟩, Fr.refl _ _, h10⟩
    · intro t d hl
      simp only [look_enter, Nat.zero_le, if_true, Nat.sub_zero, Option.map_eq_some_iff, TV.d.injEq, exists_eq_right] at hl
      obtain ⟨c', k1, k2⟩ := f1 t d hl
      have hlt : t < cargs.length := (List.getElem?_eq_some_iff.1 k1).1
      refine ⟨c', ?_, k2⟩
      rw [Array.getElem?_append_left (by simpa using hlt)]
      simpa using k1
    · intro t b r p hl
      simp [look_enter] at hl
    · intro r s hrs x hx hy
      cases r with
      | slot t =>
        cases s with
        | slot u => exact f3 t u (fun e => hrs (by rw [e])) x hx hy
        | box b => exact h4 b x (f2 t x hx) hy
      | box b =>
        cases s with
        | slot u => exact h4 b x (f2 u x hy) hx
        | box b' => exact h3 b b' (fun e => hrs (by rw [e])) x hx hy
    · intro r x hx hy
      cases r with
      | slot t => exact h5 x hx (f2 t x hy)
      | box b => exact h6 b x hx hy
    · intro r x hx
      cases r with
      | slot t => exact ⟨h8 x (f2 t x hx), .inl (.inl (f2 t x hx))⟩
      | box b => exact ⟨h9 b x hx, .inl (.inr ⟨b, hx⟩)⟩
  refine Code.wp_mono ?_ (h g β R Os _ w rfl hst)
  have fin : ∀ S β' R' Os' a' w' r d e Or, S.nb = boxes.length → S.nb ≤ S.boxes.length → S.okR d = true → (r = .ret d ∨ r = .pan d) → StR g β' R' Os' S a' w' → K r (S.boxes.take S.nb) → RetR β' w' (Or2 R R') Or r e → (∀ x, Or x → ∃ t, Os' (.slot t) x) →
      ∃ r boxes' R' Or Ob', K r boxes' ∧ Back X β w R Oa Ob boxes r boxes' e w' R' Or Ob' := by
    intro S β' R' Os' a' w' r d e Or hlen hle hok hrd hs hK hr hOr
    have hRO : ∀ q x, R x → ¬ Os' q x := by
      intro q x hx hy
      rcases (hs.own q x hy).2 with hh | hh
      · rcases hh with hh | ⟨i, hh⟩
        · exact h5 x hx hh
        · exact h6 i x hx hh
      · have := h7 x hx
        have : w.heap.size ≤ x := hh
        omega
    have hβ : ∀ b x, b < S.nb → β' b = some x → β b = some x := fun b x hb hx => ((hs.ext b).1 hb).symm.trans hx
    have hret : RetR β w' (Or2 R R') Or r e ∧ ∀ b d, (S.boxes.take S.nb)[b]? = some d → RelB β w' R' b d (Os' (.box b)) := by
      have hbl : ∀ b d, (S.boxes.take S.nb)[b]? = some d → b < S.nb ∧ S.boxes[b]? = some d := fun b d hb => by
        rw [List.getElem?_take] at hb
        split at hb
        · exact ⟨by assumption, hb⟩
        · simp at hb
      simp only [ASt.okR, Bool.or_eq_true, beq_iff_eq, Bool.and_eq_true] at hok
      rcases hok with hok | ⟨hok1, hok2⟩
      · have e : β' = β := funext fun b => by
          rcases Nat.lt_or_ge b S.nb with hb | hb
          · exact (hs.ext b).1 hb
          · rw [(hs.ext b).2 (by omega), h11 b (by omega)]
        subst e
        exact ⟨hr, fun b d hd => hs.boxes b d (hbl b d hd).2⟩
      · refine ⟨?_, fun b d hd => (hs.boxes b d (hbl b d hd).2).down hβ (hbl b d hd).1 (loL_get hok2 hd)⟩
        rcases hrd with rfl | rfl
        · cases e <;> simp only [RetR] at hr ⊢ <;> first | exact hr.down hβ hok1 | exact hr
        · cases e <;> simp only [RetR] at hr ⊢
          obtain ⟨v, q1, q2⟩ := hr
          exact ⟨v, q1, q2.down hβ hok1⟩
    refine ⟨r, S.boxes.take S.nb, Or2 R R', Or, fun b => Os' (.box b), hK, by simp; omega, hret.1, ?_, hs.fr, fun x hx => .inl hx, ?_, ?_, ?_, ?_, ?_, ?_, ?_⟩
    · intro b d hd
      exact (hret.2 b d hd).up (fun _ _ x => x) (fun x hx => .inr hx) (fun _ _ => rfl) (fun _ _ => rfl) (fun _ x => x)
    · rintro x (hx | hx)
      · exact ⟨Nat.lt_of_lt_of_le (h7 x hx) hs.fr.size, .inl hx⟩
      · obtain ⟨q1, q2⟩ := hs.read x hx
        refine ⟨q1, ?_⟩
        rcases q2 with q2 | (q2 | q2) | q2
        · exact .inl q2
        · exact .inr (.inl q2)
        · exact .inr (.inr (.inl q2))
        · exact .inr (.inr (.inr q2))
    · intro x hx
      obtain ⟨t, ht⟩ := hOr x hx
      obtain ⟨q1, q2⟩ := hs.own _ x ht
      refine ⟨q1, ?_⟩
      rcases q2 with (q2 | q2) | q2
      · exact .inl q2
      · exact .inr (.inl q2)
      · exact .inr (.inr q2)
    · intro i x hx
      obtain ⟨q1, q2⟩ := hs.own _ x hx
      refine ⟨q1, ?_⟩
      rcases q2 with (q2 | q2) | q2
      · exact .inl q2
      · exact .inr (.inl q2)
      · exact .inr (.inr q2)
    · rintro x (hx | hx) hy
      · obtain ⟨t, ht⟩ := hOr x hy; exact hRO _ x hx ht
      · obtain ⟨t, ht⟩ := hOr x hy; exact hs.apart _ x hx ht
    · rintro i x (hx | hx) hy
      · exact hRO _ x hx hy
      · exact hs.apart _ x hx hy
    · intro i x hx hy
      obtain ⟨t, ht⟩ := hOr x hx
      exact hs.disj (.slot t) (.box i) (by simp) x ht hy
    · intro i j hij x hx hy
      exact hs.disj (.box i) (.box j) (by simpa using hij) x hx hy
  rintro e a' w' ⟨ae, S, β', R', Os', ⟨⟨hlen, hle⟩, hK⟩, hs, he⟩
  have ret : (∃ d, resD X.T S fn.results.toList = some d ∧ S.okR d = true ∧ K (.ret d) (S.boxes.take S.nb)) → a'.defers = [] ∧ ∃ v, (results fn a'.tmps).run X.P w' = .ok v w' ∧ ∃ r boxes' R' Or Ob', K r boxes' ∧ Back X β w R Oa Ob boxes r boxes' (.returned v) w' R' Or Ob' := by
    rintro ⟨d, hd, hok, hKd⟩
    obtain ⟨v, O, q1, q2, q3⟩ := res_run hX hs hd hn
    refine ⟨hs.defers, v, q1, fin S β' R' Os' a' w' (.ret d) d (.returned v) O hlen hle hok (.inl rfl) hs hKd ?_ ?_⟩
    · exact q2.up (fun _ _ x => x) (fun x hx => .inr hx) (fun _ _ => rfl) (fun _ _ => rfl) (fun _ x => x)
    · intro x hx
      obtain ⟨t, _, ht⟩ := q3 x hx
      exact ⟨t, ht⟩
  cases ae <;> cases e <;> simp only [ExOk] at he <;> first | exact he.elim | skip
  · exact ret hK
  · exact hK.elim
  · exact ret hK
  · obtain ⟨v, rfl, hv⟩ := he
    refine ⟨hs.defers, fin S β' R' Os' a' w' (.pan _) _ _ Blk.emp hlen hle hK.1 (.inr rfl) hs hK.2 ⟨v, rfl, ?_⟩ (fun x hx => hx.elim)⟩
    exact hv.up (fun _ _ x => x) (fun x hx => .inr hx) (fun _ _ => rfl) (fun _ _ => rfl) (fun _ x => x)
end
end Go.Proofs.YtfbppkjjdbkedaaGreatDoor.Ref
/-
  The abstract machine: calls.
-/
namespace Go.Proofs.YtfbppkjjdbkedaaGreatDoor.Ref
noncomputable section
open Go
set_option linter.unusedVariables false
variable {X : Cx}

/-- Whatever hangs on a box is struck. -/
def killB : List (Nat × TV) → List (Nat × TV)
  | [] => []
  | (s, .u h (.box b) p) :: l => (s, .d .dead) :: killB l
  | (s, .u h (.slot t) p) :: l => (s, .u h (.slot t) p) :: killB l
  | (s, .d x) :: l => (s, .d x) :: killB l
theorem look_killB : ∀ (l : List (Nat × TV)) (t : Nat), look (killB l) t = match look l t with
    | some (.u h (.box b) p) => some (.d .dead)
    | x => x
  | [], t => by simp [killB, look_nil, look_cons]
  | (s, .u h (.box b) p) :: l, t => by
    simp only [killB, look_nil, look_cons]
    by_cases hs : s = t
    · simp [hs]
    · simp [hs, look_killB l t]
  | (s, .u h (.slot b) p) :: l, t => by
    simp only [killB, look_nil, look_cons]
    by_cases hs : s = t
    · simp [hs]
    · simp [hs, look_killB l t]
  | (s, .d x) :: l, t => by
    simp only [killB, look_nil, look_cons]
    by_cases hs : s = t
    · simp [hs]
    · simp [hs, look_killB l t]

/-- A state behind a call that left other boxes. -/
def ASt.back (S : ASt) (bs : List D) : ASt := { S with slots := killB S.slots, boxes := bs }

theorem StR.back {g : Gh} {β : Env} {R : Blk} {Os : Own} {S : ASt} {a : Act} {w : World} (h : StR g β R Os S a w) {Oa : Blk} {r : ARes} {bs : List D} {e : Ending} {w' : World} {R' Or : Blk} {Ob' : Nat → Blk}
    (hb : Back X β w R Oa (fun i => Os (.box i)) S.boxes r bs e w' R' Or Ob') (ha : ∀ q x, Os q x → ¬ Oa x) (hab : ∀ x, Oa x → x < w.heap.size ∧ (g.O x ∨ g.w.heap.size ≤ x)) (hra : Disj R Oa) :
    StR g β R' (fun q => match q with | .slot t => Os (.slot t) | .box b => Ob' b) (S.back bs) a w' := by
  have hs : ∀ t x, Os (.slot t) x → w'.heap[x]? = w.heap[x]? := fun t x hx => hb.fr.block x (h.own _ x hx).1 fun hh => hh.elim (ha _ x hx) fun ⟨i, hi⟩ => h.disj (.slot t) (.box i) (by simp) x hx hi
  have hR : ∀ x, R x → w'.heap[x]? = w.heap[x]? := fun x hx => hb.fr.block x (h.read x hx).1 fun hh => by
    rcases hh with hh | ⟨i, hi⟩
    · exact hra x hx hh
    · exact h.apart _ x hx hi
  have hbd : ∀ x, (Oa x ∨ (∃ i, Os (.box i) x) ∨ w.heap.size ≤ x) → g.O x ∨ g.w.heap.size ≤ x := by
    rintro x (hx | ⟨i, hx⟩ | hx)
    · exact (hab x hx).2
    · exact (h.own _ x hx).2
    · exact .inr (Nat.le_trans h.fr.size hx)
  have hslot : ∀ t x, Os (.slot t) x → ¬ (Oa x ∨ (∃ i, Os (.box i) x) ∨ w.heap.size ≤ x) := by
    rintro t x hx (hy | ⟨i, hy⟩ | hy)
    · exact ha _ x hx hy
    · exact h.disj (.slot t) (.box i) (by simp) x hx hy
    · have := (h.own _ x hx).1; omega
  refine ⟨fun b => ⟨(h.ext b).1, fun q => (h.ext b).2 (by rw [← hb.len]; exact q)⟩, h.size, h.defers, ?_, ?_, ?_, ?_, ?_, ?_, ?_, ?_, ?_⟩
  · intro t d hl
    simp only [ASt.back, look_killB] at hl
    split at hl
    · rename_i b i p hl'
      injection hl with hl; injection hl with hl; subst hl
      obtain ⟨_, _, _, _, c, _, _, h3, _⟩ := h.ups t _ _ _ hl'
      exact ⟨c, h3, trivial⟩
    · obtain ⟨c, k1, k2⟩ := h.slots t d hl
      exact ⟨c, k1, k2.up (fun _ _ x => x) hb.more hR (hs t) (fun _ x => x)⟩
  · intro t b q p hl
    simp only [ASt.back, look_killB] at hl
    split at hl
    · simp at hl
    · rename_i hne
      cases q with
      | box i => exact absurd hl (hne _ _ _)
      | slot u =>
        obtain ⟨d, pos, e0, pos', c, k1, k2, k3, k4⟩ := h.ups t b _ p hl
        obtain ⟨O, m1, m2, m3⟩ := root_at h k1
        have hRO : Disj R O := fun x a b => h.apart _ x a (m2 x b)
        have hsame : ∀ x, O x ∨ pos.isIn x → w'.heap[x]? = w.heap[x]? := by
          rintro x (hx | hx)
          · exact hs u x (m2 x hx)
          · exact hs u x (m3 x hx).1
        cases k1 with
        | slot q1 q2 q3 =>
          refine ⟨d, _, e0, pos', c, .slot (by simp only [ASt.back, look_killB, q1]) q2 q3, walk_own p d _ O _ m1 hRO hsame k2, k3, ?_⟩
          cases b with
          | false => exact k4
          | true =>
            refine ⟨k4.1, header_same k4.2 fun x hx => ?_⟩
            have l := lens_walk p d e0 _ pos' O m1 hRO (fun x hx => ⟨(m3 x hx).2, fun hR => h.apart _ x hR (m3 x hx).1⟩) k2
            obtain ⟨Oe, Orr, a1, a2, a3, a4, a5, _⟩ := l
            cases pos' with
            | slot c' => exact hx.elim
            | mem bb off =>
              simp only [Pos.isIn] at hx
              subst hx
              rcases a5 bb off rfl with hh | ⟨off0, hh, _⟩
              · exact hs u bb (m2 bb (a2 bb hh))
              · exact hs u bb (m3 bb (by rw [hh]; rfl)).1
  · intro b d hd
    exact hb.box b d hd
  · intro q1 q2 hq x hx hy
    cases q1 with
    | slot t =>
      cases q2 with
      | slot u => exact h.disj _ _ hq x hx hy
      | box b => exact hslot t x hx (hb.ownb b x hy).2
    | box b =>
      cases q2 with
      | slot u => exact hslot u x hy (hb.ownb b x hx).2
      | box b' => exact hb.d4 b b' (fun e => hq (by rw [e])) x hx hy
  · intro q x hx hy
    cases q with
    | slot t =>
      rcases (hb.read x hx).2 with hh | hh
      · exact h.apart _ x hh hy
      · exact hslot t x hy hh
    | box b => exact hb.d2 b x hx hy
  · intro q x hx
    cases q with
    | slot t =>
      obtain ⟨k1, k2⟩ := h.own _ x hx
      exact ⟨Nat.lt_of_lt_of_le k1 hb.fr.size, k2⟩
    | box b =>
      obtain ⟨k1, k2⟩ := hb.ownb b x hx
      exact ⟨k1, hbd x k2⟩
  · intro x hx
    obtain ⟨k1, k2⟩ := hb.read x hx
    refine ⟨k1, ?_⟩
    rcases k2 with k2 | k2
    · exact (h.read x k2).2
    · exact .inr (hbd x k2)
  · refine h.fr.trans hb.fr ?_
    rintro x (hx | ⟨i, hx⟩)
    · exact (hab x hx).2
    · exact (h.own _ x hx).2
  · intro i d hi
    exact (h.glob i d hi).up (fun _ _ x => x) hb.more hR

/-- A function that a call enters. -/
def Enters (X : Cx) (k : FuncId) : Prop := EntersP X.P k
theorem enters_run {k : FuncId} (h : Enters X k) (args : Array Value) (w : World) : (callFunc k args).run X.P w = .ok (.enter k args) w := by
  obtain ⟨fn, hf, hname, hb⟩ := h
  have h1 : fn.name ≠ "runtime.NumGoroutine" := by simpa using hname
  obtain ⟨c, hc⟩ := Option.isSome_iff_exists.1 hb
  simp [callFunc, hf, h1, hc]

theorem relVV_append {β : Env} {w : World} {R : Blk} : ∀ (ds : List D) (cs : List Value) (O : Blk) (ds' : List D) (cs' : List Value), RelVV β w R ds cs O → RelVV β w R ds' cs' Blk.emp → RelVV β w R (ds ++ ds') (cs ++ cs') O
  | [], cs, O, ds', cs', h, h' => by
    simp only [RelVV] at h
    subst h
    simp only [List.nil_append]
    have up : ∀ (ds : List D) (cs : List Value), RelVV β w R ds cs Blk.emp → RelVV β w R ds cs O := by
      intro ds
      induction ds with
      | nil => intro cs h; exact h
      | cons d ds ih =>
        intro cs h
        simp only [RelVV] at h ⊢
        obtain ⟨c, c', O1, O2, h1, h2, h3, h4, h5, h6⟩ := h
        exact ⟨c, c', O1, O2, h1, h2, h3, fun x hx => (h4 x hx).elim, fun x hx => (h5 x hx).elim, h6⟩
    exact up ds' cs' h'
  | d :: ds, cs, O, ds', cs', h, h' => by
    simp only [RelVV, List.cons_append] at h ⊢
    obtain ⟨c, c2, O1, O2, h1, h2, h3, h4, h5, h6⟩ := h
    exact ⟨c, c2 ++ cs', O1, O2, by rw [h1]; rfl, h2, relVV_append ds c2 O2 ds' cs' h3 h', h4, h5, h6⟩
theorem relVV_of_vs {β : Env} {w : World} {R : Blk} : ∀ (ds : List D) (cs : List Value) (O : Blk), RelVs β w R ds cs O → RelVV β w R ds cs O
  | [], cs, O, h => by simp only [RelVs] at h; simp only [RelVV]; exact h
  | d :: ds, cs, O, h => by
    simp only [RelVs] at h
    simp only [RelVV]
    obtain ⟨c, cs', xs, O1, O2, h1, h2, h3, h4, h5, h6, h7⟩ := h
    exact ⟨c, cs', O1, O2, h1, RelV.mk h2 h3, relVV_of_vs ds cs' O2 h4, h5, h6, h7⟩

def ASt.putO (S : ASt) (t : Option Nat) (x : TV) : ASt := match t with
  | some t => S.put t x
  | none => S

theorem al_call {ops : Array Oper} {o : Oper} {l : List Oper} {K : AEx → ASt → Prop} {S S1 : ASt} {c : Call} {f : Operand} {k : FuncId} {caps ds : List D} {K' : ARes → List D → Prop} (ho : o.op = .call c) (hc : c.callee = .value f) (hg : o.guard = none)
    (hf : S.ev X.G f = some (.d (.fn k caps))) (hE : Enters X k) (hargs : S.args X.G c.args.toList = some (ds, S1)) (hct : CT X k (ds ++ caps) S1.boxes K') (ht : ∀ t, o.dst = some t → t < S1.n)
    (hret : ∀ d bs, bs.length = S1.boxes.length → K' (.ret d) bs → AL X ops l K ((S1.back bs).putO o.dst (.d d))) (hpan : ∀ d bs, bs.length = S1.boxes.length → K' (.pan d) bs → K (.pan d) (S1.back bs)) : AL X ops (o :: l) K S := by
  intro g β R Os a w hG h
  obtain ⟨xs, m1, m2⟩ := evalR h (by rw [hG]; exact hf) rfl
  simp only [packs] at m1
  simp only [Rel] at m2
  obtain ⟨vs, m3, m4⟩ := m2
  rw [m1] at m3
  injection m3 with m3
  obtain ⟨Os', Oa, k1, k2, k3, k4⟩ := args_ok _ h (by rw [hG]; exact hargs)
  have hrun : (execOp a.eval o).run X.P w = .ok (.enter k (c.args.map a.eval ++ vs)) w := by
    unfold execOp
    simp [ho, resolve, hc, m3, Deferred.ofValue, invoke, enters_run hE]
  have hRa : Disj R Oa := fun x hx hy => by obtain ⟨q, hq⟩ := k4 x hy; exact h.apart q x hx hq
  have hOa : ∀ x, Oa x → x < w.heap.size ∧ (g.O x ∨ g.w.heap.size ≤ x) := fun x hx => by obtain ⟨q, hq⟩ := k4 x hx; exact h.own q x hq
  refine wpList_plain hg fun K2 hK => ?_
  unfold Oper.wp
  rw [hrun, Oper.upon_enter]
  have hcall := hct β w R Oa (fun i => Os' (.box i)) ((c.args.toList.map a.eval) ++ vs.toList) (relVV_append _ _ _ _ _ k2 (relVV_of_vs _ _ _ m4)) k1.boxes (fun i j hij => k1.disj _ _ (by simpa using hij)) (fun i x hx hy => (k3 _ x hy).2 hx)
    hRa (fun i => k1.apart _) (fun x hx => (k1.read x hx).1) (fun x hx => (hOa x hx).1) (fun i x hx => (k1.own _ x hx).1) (by rw [← hG]; exact k1.glob) (fun b q => (k1.ext b).2 q)
  have hargs' : ((c.args.toList.map a.eval) ++ vs.toList).toArray = c.args.map a.eval ++ vs := by
    apply Array.ext'; simp
  rw [hargs'] at hcall
  refine hcall.mono ?_
  rintro e w' ⟨r, bs, R', Or, Ob', hk, hb⟩
  have hst := k1.back hb (fun q x hq => (k3 q x hq).2) hOa hRa
  cases r with
  | pan d =>
    cases e with
    | panicked chain =>
      obtain ⟨v, q1, q2⟩ := hb.ret
      exact ⟨.pan d, _, β, R', _, hpan d bs hb.len hk, hst, v, q1, q2⟩
    | returned v => exact hb.ret.elim
    | outgrown => exact hb.ret.elim
  | ret d =>
    cases e with
    | panicked chain => exact hb.ret.elim
    | outgrown => exact hb.ret.elim
    | returned v =>
      refine hK _ _ ?_
      have hv : RelV β w' R' d v Or := hb.ret
      have hnext := hret d bs hb.len hk
      cases hd : o.dst with
      | none =>
        rw [hd] at hnext
        exact hnext g β R' _ _ _ hG hst
      | some t =>
        rw [hd] at hnext
        have hts : t < a.tmps.size := Nat.lt_of_lt_of_le (ht t hd) k1.size
        refine hnext g β R' _ _ _ hG (hst.putX (Grow.refl w') (fun _ x => x) (fun _ x => .inl x) hts hv ?_ hb.d1)
        intro x hx
        obtain ⟨q1, q2⟩ := hb.ownr x hx
        refine ⟨q1, ?_, ?_⟩
        · rcases q2 with q2 | ⟨i, q2⟩ | q2
          · exact (hOa x q2).2
          · exact (k1.own _ x q2).2
          · exact .inr (Nat.le_trans h.fr.size q2)
        · intro q _ hq
          cases q with
          | box b => exact hb.d3 b x hx hq
          | slot u =>
            rcases q2 with q2 | ⟨i, q2⟩ | q2
            · exact (k3 _ x hq).2 q2
            · exact k1.disj (.slot u) (.box i) (by simp) x hq q2
            · have := (k1.own _ x hq).1; omega
end
end Go.Proofs.YtfbppkjjdbkedaaGreatDoor.Ref
