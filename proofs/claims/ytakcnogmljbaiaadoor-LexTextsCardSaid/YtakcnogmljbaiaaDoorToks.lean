/-
  A []api.Token that a caller hands in: its tokens as a list, and how great it may be.
-/
import Derived.Deep.Slices
import Derived.Deep.Fields
import Derived.ChangeSame
import Derived.SizedLaws
import Derived.Test.YtakcnogmljbaiaaDoorPLexx0
set_option linter.unusedVariables false
namespace Go.Proofs.YtakcnogmljbaiaaDoor.Toks
open Go.ChangeShapes Go.WideShapes Go.Deep Go.RowKit Go.Proofs.YtakcnogmljbaiaaDoorW.PrintWords Go.Proofs.YtakcnogmljbaiaaDoor.PLex

theorem list_of {α : Type} {P : Nat → α → Prop} : ∀ n : Nat, (∀ i, i < n → ∃ x, P i x) → ∃ l : List α, l.length = n ∧ ∀ i x, l[i]? = some x → P i x := by
  intro n
  induction n with
  | zero => intro _; exact ⟨[], rfl, fun i x h => by simp at h⟩
  | succ n ih =>
    intro h
    obtain ⟨l, hl, hp⟩ := ih (fun i hi => h i (by omega))
    obtain ⟨x, hx⟩ := h n (by omega)
    refine ⟨l ++ [x], by rw [List.length_append, hl]; rfl, fun i y hy => ?_⟩
    rcases Nat.lt_or_ge i n with hi | hi
    · rw [List.getElem?_append_left (by omega)] at hy
      exact hp i y hy
    · rw [List.getElem?_append_right (by omega), hl] at hy
      have : i - n = 0 := by
        rcases Nat.eq_zero_or_pos (i - n) with h0 | h0
        · exact h0
        · rw [List.getElem?_eq_none (by simp; omega)] at hy; cases hy
      rw [this] at hy
      have hin : i = n := by omega
      injection hy with hy
      rw [← hy, hin]; exact hx
theorem weights_all {H : Type} {P : Program} {e : TypeId} : ∀ {ds : List (DataW H)} {d : DataW H}, d ∈ ds → ∀ n ∈ d.weights P e, n ∈ DataW.weightsAll P e ds
  | d0 :: ds, d, hd, n, hn => by
    rw [DataW.weightsAll, List.mem_append]
    rcases List.mem_cons.1 hd with rfl | hd
    · exact .inl hn
    · exact .inr (weights_all hd n hn)
theorem three {α : Type} {l : List α} (h : l.length = 3) : ∃ a b c, l = [a, b, c] := by
  match l, h with
  | [a, b, c], _ => exact ⟨a, b, c, rfl⟩
theorem few_of {a b : Nat} (h : (a + b) * 32 ≤ reachBytes) : a ≤ 8796093022208 := by
  have e : (a + b) * 32 ≤ 140737488351232 := h
  omega
/-- The tokens that a caller's slice holds. -/
theorem open_toks {H : Type} {enc : TypeId × Value → H} {w : World} {base : Nat} {spare : Nat → Bool} {held : Bool} {A : Option Addr} {len cap : Nat} {d : DataW H} {ps : List MemPlace} {ts : List TypeId} {ds : List (DataW H)} {j : Nat}
    (hu : Tryd.prog.underlying 24 = some (.slice 32)) (hs : Tryd.prog.underlying 32 = some (.struct #[⟨"Kind", 3, 0, false, "", "", 0⟩, ⟨"Text", 9, 1, false, "", "", 8⟩, ⟨"At", 3, 2, false, "", "", 24⟩]))
    (h3 : Tryd.prog.underlying 3 = some (.int .i64)) (h9 : Tryd.prog.underlying 9 = some .string) (hC : Tryd.prog.cellsOf 32 = 3) (c3 : Tryd.prog.cellsOf 3 = 1) (c9 : Tryd.prog.cellsOf 9 = 1) (hB : Tryd.prog.bytesOf 32 = 32)
    (hsz : (DataW.weightsEach Tryd.prog ts ds).all (· ≤ reachBytes) = true) (ht : ts[j]? = some 24) (hd : ds[j]? = some d)
    (h : DataW.Trod enc Tryd.prog w base spare held 24 (.slice A len cap) d ps) :
    ∃ l : List S32, l.length = len ∧ len ≤ cap ∧ Kd.C k32 w A l.length l ∧ l.length ≤ 8796093022208 ∧ ∀ x ∈ l, x.f1.size ≤ 140737488351232 := by
  obtain ⟨fuel, hf⟩ := h
  rcases open_slice hu hf with ⟨hcs, _⟩ | ⟨a, len', cap', m, n, D, Pl, hcs, hb, hl, hm, hmm, hx, hi⟩
  · simp [Value.cells] at hcs
    obtain ⟨rfl, rfl, rfl⟩ := hcs
    exact ⟨[], rfl, Nat.le_refl _, ⟨rfl, by simp, fun h => absurd h (by simp)⟩, by simp, fun x hx => by simp at hx⟩
  · simp [Value.cells] at hcs
    obtain ⟨rfl, rfl, rfl⟩ := hcs
    obtain ⟨hx, _⟩ := Prod.mk.inj hx
    subst hx
    have hml : len ≤ m := by rw [hmm]; split <;> omega
    have z := sized_slice hsz ht hd hu
    rw [hB] at z
    simp only [List.length_map, List.length_range] at z
    have hlen : len ≤ 8796093022208 := few_of z
    have each : ∀ i, i < len → ∃ x : S32, (w.cell? (a.add (i * 3 + 0)) = some (.int .i64 x.f0) ∧ w.cell? (a.add (i * 3 + 1)) = some (.string x.f1) ∧ w.cell? (a.add (i * 3 + 2)) = some (.int .i64 x.f2)) ∧ x.f1.size ≤ 140737488351232 := by
      intro i hil
      obtain ⟨cs', hc, ht'⟩ := hi i (by omega)
      obtain ⟨ys, n', _, hy, hcl, hyl, hfld⟩ := DataW.trod_struct hs ht'
      obtain ⟨_, hlen3, hat⟩ := World.cells?_some hc
      rw [hC] at hlen3 hat hc
      obtain ⟨u0, u1, u2, rfl⟩ := three hlen3
      obtain ⟨y0, y1, y2, rfl⟩ := three (l := ys) hyl
      have g0 := hfld 0 _ rfl
      have g1 := hfld 1 _ rfl
      have g2 := hfld 2 _ rfl
      have g0 : DataW.trod enc Tryd.prog w base spare held n' 3 [u0] = some y0 := by simpa [c3] using g0
      have g1 : DataW.trod enc Tryd.prog w base spare held n' 9 [u1] = some y1 := by simpa [c9] using g1
      have g2 : DataW.trod enc Tryd.prog w base spare held n' 3 [u2] = some y2 := by simpa [c3] using g2
      obtain ⟨k0, e0, _, _⟩ := DataW.trod_int h3 g0
      obtain ⟨s1, e1, e1d, _⟩ := DataW.trod_string h9 g1
      obtain ⟨k2, e2, e2d, _⟩ := DataW.trod_int h3 g2
      injection e0 with e0
      injection e1 with e1
      injection e2 with e2
      subst e0 e1 e2
      have hadd : ∀ q, (a.add (i * 3)).add q = a.add (i * 3 + q) := fun q => Go.Deep.add_add a (i * 3) q
      refine ⟨⟨k0, s1, k2⟩, ⟨?_, ?_, ?_⟩, ?_⟩
      · have := hat 0 (by omega); rw [hadd] at this; exact this
      · have := hat 1 (by omega); rw [hadd] at this; exact this
      · have := hat 2 (by omega); rw [hadd] at this; exact this
      · have hD : D i = .agg [y0.1, y1.1, y2.1] := by
          have := (Prod.mk.inj hy).1
          simpa using this
        have hw : s1.data.toList.length ∈ (D i).weights Tryd.prog 32 := by
          rw [hD, e1d]
          simp [DataW.weights, hs, DataW.weightsEach]
        have hmem : D i ∈ (List.range len).map D := List.mem_map.2 ⟨i, List.mem_range.2 hil, rfl⟩
        have hw2 := weights_all hmem _ hw
        have hw3 := DataW.weights_mem_each (P := Tryd.prog) ht hd s1.data.toList.length (by
          simp only [DataW.weights, hu, List.mem_cons, List.mem_append]
          exact .inr (.inl hw2))
        have := List.all_eq_true.1 hsz _ hw3
        have : s1.data.toList.length ≤ 140737488351232 := of_decide_eq_true this
        rwa [Array.length_toList] at this
    obtain ⟨l, hll, hp⟩ := list_of len each
    refine ⟨l, hll, hl, ⟨rfl, by omega, fun hpos => ⟨a, rfl, fun q x hq => ?_⟩⟩, by omega, ?_⟩
    · obtain ⟨⟨p0, p1, p2⟩, _⟩ := hp q x hq
      refine ⟨[.int .i64 x.f0, .string x.f1, .int .i64 x.f2], rfl, k32_mk w x, fun i u hu => ?_⟩
      show w.cell? (a.add (q * 3 + i)) = some u
      match i, hu with
      | 0, hu =>
        obtain rfl := Option.some.inj hu
        exact p0
      | 1, hu =>
        obtain rfl := Option.some.inj hu
        exact p1
      | 2, hu =>
        obtain rfl := Option.some.inj hu
        exact p2
      | i + 3, hu => simp at hu
    · intro x hx
      obtain ⟨q, hq⟩ := List.mem_iff_getElem?.1 hx
      exact (hp q x hq).2
end Go.Proofs.YtakcnogmljbaiaaDoor.Toks
