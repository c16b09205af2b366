/-
  Contracts of library functions: the shelf's, told of the abstract machine.
-/
import Derived.Test.YtfbppkjjdbkedaaGreatDoorMu
import Derived.Test.YtfbppkjjdbkedaaGreatDoorLib
import Derived.Test.YtfbppkjjdbkedaaGreatDoorRefD
import Derived.Lib.ItoaNum
import Derived.Lib.Join
import Derived.Lib.AtoiErrMem
namespace Go.Proofs.YtfbppkjjdbkedaaGreatDoor.Ref
noncomputable section
open Go Go.RowKit
set_option linter.unusedVariables false
set_option maxRecDepth 100000
/-- A call that only adds to memory, and hands back what names none. -/
theorem ce_add {X : Cx} {f : FuncId} {ds : List D} {d : D} (hE : Enters X f)
    (h : ∀ (w : World) (R Oa : Blk) (cs : List Value), RelVV (fun _ => none) w R ds cs Oa → (∀ x, R x → x < w.heap.size) → (∀ x, Oa x → x < w.heap.size) → (∀ i e, X.G i = some e → Gl (fun _ => none) w R i e) →
      Calls X.P f cs.toArray w fun e w' => ∃ v, e = .returned v ∧ (∀ w'' , RelV (fun _ => none) w'' R d v Blk.emp) ∧ Below w.heap.size w w') : CE X f ds [] (.ret d) [] := by
  refine ⟨hE, ?_⟩
  intro β w R Oa Ob cargs h1 h2 h3 h4 h5 h6 h7 h8 h9 h10 h11
  have hβ : β = fun _ => none := funext fun b => h11 b (by simp)
  subst hβ
  refine (h w R Oa cargs h1 h7 h8 h10).mono ?_
  rintro e w' ⟨v, rfl, hv, hb⟩
  exact ⟨_, [], R, Blk.emp, fun _ => Blk.emp, ⟨rfl, rfl⟩, rfl, hv w', fun b d hb => by simp at hb, ⟨hb.os, hb.tape, hb.output, hb.size, fun k hk _ => hb.block k hk⟩, fun _ x => x, fun x hx => ⟨Nat.lt_of_lt_of_le (h7 x hx) hb.size, .inl hx⟩, fun x hx => hx.elim, fun _ x hx => hx.elim, fun x _ hx => hx, fun _ x _ hx => hx, fun _ x hx => hx.elim, fun _ _ _ x hx => hx.elim⟩
theorem relVV_v {β : Env} {w : World} {R O : Blk} {x : Value} {ds : List D} {cs : List Value} (h : RelVV β w R (.v x :: ds) cs O) : ∃ cs' O', cs = x :: cs' ∧ RelVV β w R ds cs' O' := by
  simp only [RelVV] at h
  obtain ⟨c, cs', O1, O2, h1, ⟨xs, h2, h3⟩, h4, _⟩ := h
  simp only [packs] at h2
  simp only [Rel] at h3
  subst h2
  have := h3.2
  injection this with this
  subst this
  exact ⟨cs', O2, h1, h4⟩
theorem relL_v {β : Env} {w : World} {R : Blk} : ∀ (vs : List Value) (cs : List Value) (O : Blk), RelL β w R (vs.map .v) cs O → cs = vs
  | [], cs, O, h => by simpa [RelL] using h
  | v :: vs, cs, O, h => by
    simp only [List.map_cons, RelL, Rel] at h
    obtain ⟨c1, c2, O1, O2, h1, ⟨_, h2⟩, h3, _⟩ := h
    rw [h1, h2, relL_v vs c2 O2 h3]
    rfl
theorem pow_of {w : World} {R : Blk} (h : ∀ i e, X.G i = some e → Gl (fun _ => none) w R i e) : Lib.TabIs Tryz.prog w "internal/strconv.uint64pow10" .u64 Lib.pow10Tab := by
  obtain ⟨h6, all, T, fr, q1, q2⟩ := h 6 p10 rfl
  simp only [Rel] at h6
  obtain ⟨b, off, all', T', fr', k1, k2, k3, k4, k5⟩ := h6
  simp only [List.cons.injEq, Value.pointer.injEq, Option.some.injEq, Addr.mk.injEq, and_true] at k1
  obtain ⟨rfl, rfl⟩ := k1
  rw [q1] at k3
  injection k3 with k3
  injection k3 with k3 _ _
  subst k3
  rw [List.drop_zero, ← q2, ← Array.length_toList, List.take_length] at k5
  have ep : p10 = .agg ((Lib.pow10Tab.map fun z => Value.int .u64 z).map .v) := by rfl
  rw [ep] at k5
  simp only [Rel] at k5
  have ea := relL_v _ _ _ k5
  have hn : Tryz.prog.globalNamed "internal/strconv.uint64pow10" = some 6 := by kernel_rfl
  simp only [Lib.TabIs, World.var?, hn, Option.bind_some, q1]
  rw [← ea]
theorem below_grow_drewN {w : World} {k : Nat} {os : Array Obj} : Below w.heap.size w (Go.Sort.grow (w.drewN k) os) := by
  have h1 : Below w.heap.size w (w.drewN k) := (Below.refl _ w).trans ⟨rfl, rfl, rfl, Nat.le_refl _, fun _ _ => rfl⟩
  refine h1.trans ⟨rfl, rfl, rfl, by simp [Go.Sort.grow], fun i hi => ?_⟩
  have hi' : i < (w.drewN k).heap.size := Nat.lt_of_lt_of_le hi h1.size
  simp only [Go.Sort.grow]
  rw [Array.getElem?_append_left hi']
def itoaS (n : Int) : ByteArray := ⟨(Lib.itoa n).toArray⟩
theorem relV_v {β : Env} {w : World} {R : Blk} {x : Value} (h : scal x = true) : RelV β w R (.v x) x Blk.emp := RelV.mk (xs := [x]) (by simp [packs]) (by simp [Rel, h])
theorem ce_Itoa (n : Int) (h0 : -9223372036854775808 ≤ n) (h1 : n ≤ 9223372036854775807) : CE X 109 [.v (.int .i64 n)] [] (.ret (.v (.string (itoaS n)))) [] := by
  refine ce_add ⟨_, (hF 109 _ rfl).1, (hF 109 _ rfl).2.1, rfl⟩ fun w R Oa cs hr hR hO hG => ?_
  obtain ⟨cs', O', rfl, hr'⟩ := relVV_v hr
  simp only [RelVV] at hr'
  subst hr'
  exact (Tryz.strconv_Itoa n h0 h1 w (pow_of hG)).mono fun e w' ⟨he, k, os, hw⟩ => ⟨_, he, fun _ => relV_v rfl, hw ▸ below_grow_drewN⟩
theorem ce_Atoi (s : ByteArray) (n : Int) (hl : s.size ≤ 18) (h : Lib.atoi s.data.toList = some n) : CE X 141 [.v (.string s)] [] (.ret (.tup [.v (.int .i64 n), .v .nilIface])) [] := by
  refine ce_add ⟨_, (hF 141 _ rfl).1, (hF 141 _ rfl).2.1, rfl⟩ fun w R Oa cs hr hR hO hG => ?_
  obtain ⟨cs', O', rfl, hr'⟩ := relVV_v hr
  simp only [RelVV] at hr'
  subst hr'
  refine (Tryz.strconv_Atoi s n hl h w).mono fun e w' ⟨he, t, hw⟩ => ⟨_, he, fun _ => ⟨_, rfl, ?_⟩, hw ▸ Lib.bytesWorld_below _ _ _⟩
  simp only [RelVs]
  exact ⟨_, _, [.int .i64 n], Blk.emp, Blk.emp, rfl, by simp [packs], by simp [Rel, scal], ⟨_, _, [.nilIface], Blk.emp, Blk.emp, rfl, by simp [packs], by simp [Rel, scal], rfl, fun _ x => x, fun _ x => x, fun _ x _ => x⟩, fun _ x => x, fun _ x => x, fun _ x _ => x⟩
theorem strs_of {β : Env} {w : World} {R O : Blk} (l : List ByteArray) (cs : List Value) (h : RelL β w R (l.map fun s => D.v (.string s)) cs O) : cs = l.map Value.string := by
  have e : (l.map fun s => D.v (.string s)) = (l.map Value.string).map .v := by simp
  rw [e] at h
  exact relL_v _ _ _ h
def joinS (l : List ByteArray) (sep : ByteArray) : ByteArray := ⟨(Lib.join (l.map (·.data.toList)) sep.data.toList).toArray⟩
theorem ce_Join (nn : Bool) (l : List ByteArray) (sep : ByteArray) (hlen : (Lib.join (l.map (·.data.toList)) sep.data.toList).length ≤ 140737488355328) : CE X 63 [.row nn 1 (l.map fun s => D.v (.string s)), .v (.string sep)] [] (.ret (.v (.string (joinS l sep)))) [] := by
  refine ce_add ⟨_, (hF 63 _ rfl).1, (hF 63 _ rfl).2.1, rfl⟩ fun w R Oa cs hr hR hO hG => ?_
  simp only [RelVV] at hr
  obtain ⟨c, cs', O1, O2, rfl, ⟨xs, p1, p2⟩, hr2, _⟩ := hr
  have hr2 : RelVV (fun _ => none) w R [.v (.string sep)] cs' O2 := by simp only [RelVV]; exact hr2
  obtain ⟨cs2, O', rfl, hr3⟩ := relVV_v hr2
  simp only [RelVV] at hr3
  subst hr3
  simp only [packs] at p1
  subst p1
  simp only [Rel] at p2
  rcases p2 with ⟨hn, p, cap, hc, _⟩ | ⟨b, off, len, cap, all, T, fr, hc, q2, q3, q4, q5, q6, q7, q8⟩
  · injection hc with hc
    subst hc
    have hl : l = [] := by cases l with | nil => rfl | cons a l => simp at hn
    subst hl
    exact (Tryz.strings_Join_none p cap sep w).mono fun e w' ⟨he, hw⟩ => ⟨_, he, fun _ => relV_v rfl, hw ▸ Below.refl _ _⟩
  · injection hc with hc
    subst hc
    simp only [List.length_map] at q4 q5
    subst q4
    have hcs := strs_of l _ q8
    have hcells : ∀ (j : Nat) x, l[j]? = some x → w.cell? ⟨b, off + j, none⟩ = some (.string x) := by
      intro j x hx
      have hj : j < l.length := (List.getElem?_eq_some_iff.1 hx).1
      have hcr := cellsR_of (n := l.length * 1) q3 q6 j (by rw [hcs]; simpa using hj)
      rw [hcr, hcs]
      simp [hx]
    have hbk : b < w.heap.size := hR b q2
    exact (Tryz.strings_Join b off cap l sep w hcells hbk q5.2 q5.1 hlen).mono fun e w' ⟨he, hw⟩ => ⟨_, he, fun _ => relV_v rfl, hw⟩
end
end Go.Proofs.YtfbppkjjdbkedaaGreatDoor.Ref
