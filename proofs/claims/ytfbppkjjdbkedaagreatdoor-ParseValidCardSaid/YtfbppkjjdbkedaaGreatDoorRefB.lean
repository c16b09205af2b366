/-
  The abstract machine: operations.
-/
import Derived.Test.YtfbppkjjdbkedaaGreatDoorRefA
import Derived.Laws.MakeOwn
import Derived.MapKept
import Derived.Laws.StructEq
/-
  The abstract machine: what turns blocks that nothing holds; append.
-/
namespace Go.Proofs.YtfbppkjjdbkedaaGreatDoor.Ref
noncomputable section
open Go
set_option linter.unusedVariables false
variable {X : Cx}

/-- A world that has turned where nothing looks. -/
theorem StR.float {g : Gh} {β : Env} {R : Blk} {Os : Own} {S : ASt} {a : Act} {w w' : World} (h : StR g β R Os S a w) {F : Blk} (ht : Turn F w w') (hR : ∀ x, F x → ¬ R x) (hO : ∀ q x, F x → ¬ Os q x) (hF : ∀ x, F x → g.O x ∨ g.w.heap.size ≤ x) : StR g β R Os S a w' := by
  have ho : ∀ q x, Os q x → w'.heap[x]? = w.heap[x]? := fun q x hx => ht.block x (h.own q x hx).1 fun hf => hO q x hf hx
  have hr : ∀ x, R x → w'.heap[x]? = w.heap[x]? := fun x hx => ht.block x (h.read x hx).1 fun hf => hR x hf hx
  refine ⟨h.ext, h.size, h.defers, ?_, ?_, ?_, h.disj, h.apart, fun q x hx => ⟨Nat.lt_of_lt_of_le (h.own q x hx).1 ht.size, (h.own q x hx).2⟩, fun x hx => ⟨Nat.lt_of_lt_of_le (h.read x hx).1 ht.size, (h.read x hx).2⟩, h.fr.trans ⟨ht.os, ht.tape, ht.output, ht.size, ht.block⟩ hF, ?_⟩
  · intro t d hl
    obtain ⟨c, k1, k2⟩ := h.slots t d hl
    exact ⟨c, k1, k2.up (fun _ _ x => x) (fun _ x => x) hr (ho _) (fun _ x => x)⟩
  · intro t b q p hl
    obtain ⟨d, pos, e0, pos', c, k1, k2, k3, k4⟩ := h.ups t b q p hl
    obtain ⟨O, m1, m2, m3⟩ := root_at h k1
    have hRO : Disj R O := fun x a b => h.apart q x a (m2 x b)
    refine ⟨d, pos, e0, pos', c, k1, walk_own p d pos O _ m1 hRO (fun x hx => hx.elim (fun hx => ho q x (m2 x hx)) (fun hx => ho q x (m3 x hx).1)) k2, k3, ?_⟩
    cases b with
    | false => exact k4
    | true =>
      refine ⟨k4.1, header_same k4.2 fun x hx => ?_⟩
      obtain ⟨Oe, Orr, a1, a2, a3, a4, a5, _⟩ := lens_walk p d e0 _ pos' O m1 hRO (fun x hx => ⟨(m3 x hx).2, fun hR => h.apart q x hR (m3 x hx).1⟩) k2
      cases pos' with
      | slot c' => exact hx.elim
      | mem bb off =>
        simp only [Pos.isIn] at hx
        subst hx
        rcases a5 bb off rfl with hh | ⟨off0, hh, _⟩
        · exact ho q bb (m2 bb (a2 bb hh))
        · exact ho q bb (m3 bb (by rw [hh]; rfl)).1
  · intro b d hd
    exact (h.boxes b d hd).up (fun _ _ x => x) (fun _ x => x) hr (ho _) (fun _ x => x)
  · intro i d hi
    exact (h.glob i d hi).up (fun _ _ x => x) (fun _ x => x) hr

theorem relL_join {β : Env} {w : World} {R : Blk} : ∀ (ds es : List D) (c1 c2 : List Value) (O1 O2 O : Blk), RelL β w R ds c1 O1 → RelL β w R es c2 O2 → (∀ x, O1 x → O x) → (∀ x, O2 x → O x) → Disj O1 O2 → RelL β w R (ds ++ es) (c1 ++ c2) O
  | [], es, c1, c2, O1, O2, O, h1, h2, a1, a2, hd => by
    simp only [RelL] at h1
    subst h1
    exact RelL.up (fun _ _ x => x) (fun _ x => x) (fun _ _ => rfl) es _ _ _ (fun _ _ => rfl) a2 h2
  | d :: ds, es, c1, c2, O1, O2, O, h1, h2, a1, a2, hd => by
    simp only [RelL, List.cons_append] at h1 ⊢
    obtain ⟨x1, x2, P1, P2, rfl, k1, k2, k3, k4, k5⟩ := h1
    exact ⟨x1, x2 ++ c2, P1, Or2 P2 O2, by simp, k1, relL_join ds es x2 c2 P2 O2 _ k2 h2 (fun x hx => .inl hx) (fun x hx => .inr hx) (fun x hx hy => hd x (k4 x hx) hy), fun x hx => a1 x (k3 x hx), fun x hx => hx.elim (fun hx => a1 x (k4 x hx)) (a2 x), fun x hx hy => hy.elim (k5 x hx) (hd x (k3 x hx))⟩
theorem relL_nc {β : Env} {w : World} {R O : Blk} {ds : List D} {cs : List Value} {sz : Nat} (h : RelL β w R ds cs O) (hs : ∀ d ∈ ds, d.nc = sz) : cs.length = ds.length * sz := by
  rw [RelL.len ds cs O h]
  clear h
  induction ds with
  | nil => simp [D.ncL]
  | cons d ds ih => simp only [D.ncL, List.length_cons]; rw [ih (fun x hx => hs x (by simp [hx])), hs d (by simp), Nat.succ_mul, Nat.add_comm]

theorem zero_nc (hX : X.Ok) {t : TypeId} {i : TI} (h : X.T t = some i) : ∃ inf zv, X.P.info? t = some inf ∧ inf.size = i.size ∧ inf.bytes = i.bytes ∧ inf.zero = some zv ∧ zv.cells.size = i.zero.nc := by
  obtain ⟨_, inf, zv, xs, h1, h2, h3, h4, h5, h6, h7⟩ := hX.ty t i h
  refine ⟨inf, zv, h1, h2, h3, h4, ?_⟩
  have := Rel.len (β := fun _ => none) (w := default) (R := Blk.emp) _ _ _ (D.lit_rel _ _ h7)
  rw [h5]
  simpa using this
theorem zeroCells_size (z : Array Value) (n : Nat) : (Builtin.zeroCells z n).size = n * z.size := by simp [Builtin.zeroCells]

theorem da_old (w : World) (o : Obj) {k : Nat} (h : k < w.heap.size) : (w.drew.alloc o).heap[k]? = w.heap[k]? := by
  show (w.heap.push o)[k]? = _
  rw [Array.getElem?_push, if_neg (by omega)]
theorem da_new (w : World) (o : Obj) : (w.drew.alloc o).heap[w.heap.size]? = some o := by
  show (w.heap.push o)[w.heap.size]? = _
  simp
theorem da_size (w : World) (o : Obj) : (w.drew.alloc o).heap.size = w.heap.size + 1 := by
  show (w.heap.push o).size = _
  simp
theorem da_turn (w : World) (o : Obj) (F : Blk) : Turn F w (w.drew.alloc o) := ⟨rfl, rfl, rfl, by rw [da_size]; omega, fun k hk _ => da_old w o hk⟩

theorem append_core (hX : X.Ok) {t el : TypeId} {i k : TI} (ht : X.T t = some i) (hd : i.desc = .slice el) (he : X.T el = some k) (hb : k.bytes ≠ 0) {sz : Nat} (hs : k.size = sz) (hz : k.zero.nc = sz) {β : Env} {w : World} {R O : Blk} {nn nn' : Bool}
    {ds es : List D} {c cy : Value} (hc : Rel β w R (.own nn sz ds) [c] O) (hy : Rel β w R (.row nn' sz es) [cy] Blk.emp) (hRO : Disj R O) (hRl : ∀ x, R x → x < w.heap.size) (hOl : ∀ x, O x → x < w.heap.size) (hsn : D.snL es = true) (hl : (ds.length + es.length) * k.bytes ≤ lim) (ty : TypeId) :
    ∃ v w' O', (Builtin.append_ #[t, t] ty #[c, cy]).run X.P w = .ok v w' ∧ Turn O w w' ∧ Rel β w' R (.own nn sz (ds ++ es)) [v] O' ∧ (∀ x, O' x → O x ∨ (w.heap.size ≤ x ∧ x < w'.heap.size)) := by
  have hu := (hX.ty t i ht).1
  rw [hd] at hu
  obtain ⟨inf, zv, hi, hsz, hby, hzz, hzn⟩ := zero_nc hX he
  have hlen : ds.length + es.length ≤ lim := Nat.le_trans (Nat.le_mul_of_pos_right _ (Nat.pos_of_ne_zero hb)) hl
  simp only [Rel] at hc hy
  have hes : (∃ yb yoff ycap all T fr, cy = .slice (some ⟨yb, yoff, none⟩) es.length ycap ∧ R yb ∧ w.heap[yb]? = some (.cells all T fr) ∧ yoff + es.length * sz ≤ all.size ∧ (∀ d ∈ es, d.nc = sz) ∧ RelL β w R es ((all.toList.drop yoff).take (es.length * sz)) Blk.emp) ∨ (es = [] ∧ ∃ p cap, cy = .slice p 0 cap) := by
    rcases hy with ⟨h1, p, cap, h2, _⟩ | ⟨b, off, len, cap, all, T, fr, h1, h2, h3, rfl, h5, h6, h7, h8⟩
    · exact .inr ⟨h1, p, cap, by simpa using h2⟩
    · exact .inl ⟨b, off, cap, all, T, fr, by simpa using h1, h2, h3, h6, h7, h8⟩
  by_cases hes0 : es = []
  · -- nothing is put behind
    subst hes0
    have hrun : ∀ base (n cap : Nat), n ≤ cap → (base = none → n = 0 ∧ cap = 0) → (Builtin.append_ #[t, t] ty #[.slice base n cap, cy]).run X.P w = .ok (.slice base n cap) w := by
      intro base n cap hn hbase
      have hf : (Builtin.firstCells inf.size 0 cy).run X.P w = .ok #[] w := by
        rcases hes with ⟨yb, yoff, ycap, all, T, fr, rfl, h2, h3, h4, h5, h6⟩ | ⟨_, p, cap, rfl⟩
        · exact run_firstCells_some w inf.size 0 ⟨yb, yoff, none⟩ 0 ycap [] (by simp) (by simp)
        · cases p with
          | none => exact run_firstCells_none w inf.size 0 0 cap
          | some p => exact run_firstCells_some w inf.size 0 p 0 cap [] (by simp) (by simp)
      have hlo : (Builtin.lenOf cy).run X.P w = .ok 0 w := by
        rcases hes with ⟨yb, yoff, ycap, all, T, fr, rfl, _⟩ | ⟨_, p, cap, rfl⟩ <;> simp [Builtin.lenOf]
      cases base with
      | none =>
        obtain ⟨rfl, rfl⟩ := hbase rfl
        simp [Builtin.append_, run_underlying hu, sizeOf, typeInfo, hi, hlo, hf]
      | some a =>
        simp [Builtin.append_, run_underlying hu, sizeOf, typeInfo, hi, hlo, hf, hn, storeCells]
    rcases hc with ⟨h1, h2, h3⟩ | ⟨b, off, len, cap, all, T, O', h1, h2, h3, h4, h5, h6, h7, h8, h9, h10⟩
    · simp at h3
      subst h3
      exact ⟨_, w, O, hrun none 0 0 (Nat.le_refl _) (fun _ => ⟨rfl, rfl⟩), ⟨rfl, rfl, rfl, Nat.le_refl _, fun _ _ _ => rfl⟩, by simp only [Rel, List.append_nil]; exact .inl ⟨h1, h2, by simp⟩, fun x hx => .inl hx⟩
    · simp at h1
      subst h1
      refine ⟨_, w, O, hrun _ _ _ h5.1 (fun h => by simp at h), ⟨rfl, rfl, rfl, Nat.le_refl _, fun _ _ _ => rfl⟩, ?_, fun x hx => .inl hx⟩
      simp only [Rel, List.append_nil]
      exact .inr ⟨b, off, len, cap, all, T, O', rfl, h2, h3, h4, h5, h6, h7, h8, h9, h10⟩
  · obtain ⟨yb, yoff, ycap, yall, yT, yfr, rfl, y2, y3, y4, y5, y6⟩ := hes.resolve_right (fun h => hes0 h.1)
    have hpos : 0 < es.length := List.length_pos_iff.2 hes0
    obtain ⟨m1, m2⟩ := of_take_drop y4
    generalize hnews : (yall.toList.drop yoff).take (es.length * sz) = news at *
    have hcell : ∀ j u, news[j]? = some u → w.cell? ((⟨yb, yoff, none⟩ : Addr).add j) = some u := by
      intro j u hj
      have hjl : j < es.length * sz := by rw [← m1]; exact (List.getElem?_eq_some_iff.1 hj).1
      rw [add_off]
      simp [World.cell?, y3, m2 j hjl, hj]
    have hflat : ∀ u ∈ news, u.oneCell' = true := RelL.flat es news _ hsn y6
    have hfresh : ∀ (w1 : World) (b : Nat) (all : Array Value) (T : TypeId), (∀ x, R x → w1.heap[x]? = w.heap[x]?) → True := fun _ _ _ _ _ => trivial
    rcases hc with ⟨h1, h2, h3⟩ | ⟨b, off, len, cap, all, T, O', h1, h2, h3, h4, h5, h6, h7, h8, h9, h10⟩
    · -- a nil slice
      simp at h3
      subst h3 h2
      simp only [List.length_nil, Nat.zero_add, List.nil_append] at *
      have hrun := run_append_nil (P := X.P) w t ty el inf zv hu hi hzz ⟨yb, yoff, none⟩ es.length ycap news (by rw [hsz, hs]; exact m1) hcell hpos (by simp [lim] at hlen; omega) (by rw [hby]; simp [lim] at hl; omega)
      refine ⟨_, _, fun x => x = w.heap.size, hrun, da_turn _ _ _, ?_, fun x hx => .inr (by subst hx; rw [da_size]; omega)⟩
      simp only [Rel]
      refine .inr ⟨w.heap.size, 0, es.length, _, _, _, Blk.emp, rfl, rfl, da_new _ _, rfl, ⟨grownCap_ge _ _ _ _, hlen⟩, ?_, y5, fun _ x => x.elim, fun x => x, ?_⟩
      · have := grownCap_ge w es.length 0 el
        simp only [Nat.zero_add, Array.size_append, List.size_toArray, zeroCells_size, hzn, hz]
        rw [m1, ← Nat.add_mul]
        exact Nat.mul_le_mul_right _ (by omega)
      · have : ((news.toArray ++ Builtin.zeroCells zv.cells (grownCap w es.length 0 el - es.length)).toList.drop 0).take (es.length * sz) = news := by simp [← m1]
        rw [this]
        exact RelL.up (fun _ _ x => x) (fun _ x => x) (fun x hx => da_old _ _ (hRl x hx)) es _ _ _ (fun _ x => x.elim) (fun _ x => x) y6
    · simp at h1
      subst h1
      subst h4
      have hle : off + ds.length * sz ≤ all.size := by have := Nat.mul_le_mul_right sz h5.1; omega
      obtain ⟨n1, n2⟩ := of_take_drop hle
      by_cases hroom : ds.length + es.length ≤ cap
      · -- in place
        have hfit : off + ds.length * sz + news.length ≤ all.size := by
          rw [m1]
          have := Nat.mul_le_mul_right sz hroom
          rw [Nat.add_mul] at this
          omega
        have hf := run_firstCells_some (P := X.P) w inf.size es.length ⟨yb, yoff, none⟩ es.length ycap news (by rw [hsz, hs]; exact m1) hcell
        have hst := run_storeCells_at X.P b (off + ds.length * sz) T news 0 all w h3 (by simpa using hfit) hflat
        simp only [Nat.add_zero] at hst
        have hsz' : inf.size = sz := by rw [hsz, hs]
        rw [hsz'] at hf
        have hrun : (Builtin.append_ #[t, t] ty #[.slice (some ⟨b, off, none⟩) ds.length cap, .slice (some ⟨yb, yoff, none⟩) es.length ycap]).run X.P w =
            .ok (.slice (some ⟨b, off, none⟩) (ds.length + es.length) cap) (w.setRow b (all.toList.take (off + ds.length * sz) ++ news ++ all.toList.drop (off + ds.length * sz + news.length)).toArray) := by
          simp [Builtin.append_, run_underlying hu, sizeOf, typeInfo, hi, Builtin.lenOf, hroom, hsz', hf, add_off, hst]
        have hother : ∀ x, x ≠ b → (w.setRow b (all.toList.take (off + ds.length * sz) ++ news ++ all.toList.drop (off + ds.length * sz + news.length)).toArray).heap[x]? = w.heap[x]? := fun x hx => setRow_other w b x _ hx
        refine ⟨_, _, O, hrun, ⟨rfl, rfl, rfl, by simp [World.setRow], fun x _ hx => hother x (fun e => hx (e ▸ h2))⟩, ?_, fun x hx => .inl hx⟩
        simp only [Rel]
        refine .inr ⟨b, off, ds.length + es.length, cap, _, T, O', rfl, h2, setRow_heap w b all _ T _ h3, by simp, ⟨hroom, by simpa using hlen⟩, ?_, ?_, h8, h9, ?_⟩
        · simp only [List.size_toArray, List.length_append, List.length_take, List.length_drop, Array.length_toList]
          omega
        · intro d hd
          rcases List.mem_append.1 hd with hd | hd
          · exact h7 d hd
          · exact y5 d hd
        · have hcut : ((all.toList.take (off + ds.length * sz) ++ news ++ all.toList.drop (off + ds.length * sz + news.length)).drop off).take ((ds.length + es.length) * sz) = (all.toList.drop off).take (ds.length * sz) ++ news := by
            have e1 : all.toList.take (off + ds.length * sz) = all.toList.take off ++ (all.toList.drop off).take (ds.length * sz) := List.take_add
            have e2 : (all.toList.take off).length = off := by simp; omega
            rw [e1, List.append_assoc, List.append_assoc, List.drop_append_of_le_length (by omega)]
            rw [show (all.toList.take off).drop off = [] from by rw [List.drop_eq_nil_iff]; omega, List.nil_append, ← List.append_assoc, List.take_append_of_le_length (by rw [List.length_append, n1, m1, Nat.add_mul]; omega)]
            rw [List.take_of_length_le (by rw [List.length_append, n1, m1, Nat.add_mul]; omega)]
          rw [List.toList_toArray, hcut]
          have hsame : ∀ x, x ≠ b → (w.setRow b (all.toList.take (off + ds.length * sz) ++ news ++ all.toList.drop (off + ds.length * sz + news.length)).toArray).heap[x]? = w.heap[x]? := hother
          have hRb : ∀ x, R x → x ≠ b := fun x hx e => hRO b (e ▸ hx) h2
          refine relL_join ds es _ _ O' Blk.emp _ ?_ ?_ (fun x hx => hx) (fun x hx => hx.elim) (fun _ _ hx => hx.elim)
          · exact RelL.up (fun _ _ x => x) (fun _ x => x) (fun x hx => hsame x (hRb x hx)) ds _ _ _ (fun x hx => hsame x (fun e => h9 (e ▸ hx))) (fun _ x => x) h10
          · exact RelL.up (fun _ _ x => x) (fun _ x => x) (fun x hx => hsame x (hRb x hx)) es _ _ _ (fun x hx => hx.elim) (fun _ x => x) y6
      · -- a new array
        generalize hold : (all.toList.drop off).take (ds.length * sz) = olds at *
        have hocell : ∀ j u, olds[j]? = some u → w.cell? ((⟨b, off, none⟩ : Addr).add j) = some u := by
          intro j u hj
          have hjl : j < ds.length * sz := by rw [← n1]; exact (List.getElem?_eq_some_iff.1 hj).1
          rw [add_off]
          simp [World.cell?, h3, n2 j hjl, hj]
        have hrun := run_append_grow (P := X.P) w t ty el inf zv hu hi hzz ⟨b, off, none⟩ ds.length cap olds (by rw [hsz, hs]; exact n1) hocell ⟨yb, yoff, none⟩ es.length ycap news (by rw [hsz, hs]; exact m1) hcell (by omega) (by simp [lim] at hlen; omega)
          (growslice_fits (by omega) (by rw [hby]; exact hl))
        have hge := grownCap_ge w (ds.length + es.length) cap el
        have hO' : ∀ x, O' x → x < w.heap.size := fun x hx => hOl x (h8 x hx)
        have hsame : ∀ x, x < w.heap.size → ∀ o, (w.drew.alloc o).heap[x]? = w.heap[x]? := fun x hx o => da_old _ _ hx
        refine ⟨_, _, fun x => x = w.heap.size ∨ O' x, hrun, da_turn _ _ _, ?_, fun x hx => hx.elim (fun hx => .inr (by subst hx; rw [da_size]; omega)) fun hx => .inl (h8 x hx)⟩
        simp only [Rel]
        refine .inr ⟨w.heap.size, 0, ds.length + es.length, _, _, _, O', rfl, .inl rfl, da_new _ _, by simp, ⟨hge, by simpa using hlen⟩, ?_, ?_, fun x hx => .inr hx, fun hx => absurd (hO' _ hx) (Nat.lt_irrefl _), ?_⟩
        · simp only [Nat.zero_add, Array.size_append, List.size_toArray, zeroCells_size, hzn, hz]
          rw [m1, n1, ← Nat.add_mul, ← Nat.add_mul]
          exact Nat.mul_le_mul_right _ (by omega)
        · intro d hd
          rcases List.mem_append.1 hd with hd | hd
          · exact h7 d hd
          · exact y5 d hd
        · have hcut : ((olds.toArray ++ news.toArray ++ Builtin.zeroCells zv.cells (grownCap w (ds.length + es.length) cap el - (ds.length + es.length))).toList.drop 0).take ((ds.length + es.length) * sz) = olds ++ news := by
            have : (olds ++ news).length = (ds.length + es.length) * sz := by rw [List.length_append, n1, m1, Nat.add_mul]
            simp only [List.drop_zero, Array.toList_append, List.toList_toArray]
            rw [List.take_append_of_le_length (by omega), List.take_of_length_le (by omega)]
          rw [hcut]
          refine relL_join ds es _ _ O' Blk.emp _ ?_ ?_ (fun x hx => hx) (fun x hx => hx.elim) (fun _ _ hx => hx.elim)
          · exact RelL.up (fun _ _ x => x) (fun _ x => x) (fun x hx => hsame x (hRl x hx) _) ds _ _ _ (fun x hx => hsame x (hO' x hx) _) (fun _ x => x) h10
          · exact RelL.up (fun _ _ x => x) (fun _ x => x) (fun x hx => hsame x (hRl x hx) _) es _ _ _ (fun x hx => hx.elim) (fun _ x => x) y6
end
end Go.Proofs.YtfbppkjjdbkedaaGreatDoor.Ref
/-
  The abstract machine: operations append, slice, build, buildSlice, pick, extract, make.
-/
namespace Go.Proofs.YtfbppkjjdbkedaaGreatDoor.Ref
noncomputable section
open Go
set_option linter.unusedVariables false
variable {X : Cx}

theorem own_hdr (nn : Bool) (sz : Nat) (ds : List D) : (D.own nn sz ds).isHdr = true := rfl

/-- Append to what owns. -/
theorem e_append (hX : X.Ok) {S : ASt} {o : Oper} {c : Call} {t el : TypeId} {i k : TI} {x y : Operand} {u : Nat} {r : Root} {p : List Nat} {c0 : D} {nn nn' : Bool} {sz : Nat} {ds es : List D} (ho : o.op = .call c) (hb : c.callee = .builtin .append) (ha : c.args = #[x, y]) (hat : c.argTypes = #[t, t])
    (hdst : o.dst = some u) (hu : u < S.n) (ht : X.T t = some i) (hd : i.desc = .slice el) (he : X.T el = some k) (hby : k.bytes ≠ 0) (hs : k.size = sz) (hz : k.zero.nc = sz)
    (hx : S.src X.G x = some (r, p)) (hc : S.cont r = some c0) (hk : c0.okc = true) (hg : D.get p c0 = some (.own nn sz ds)) (hy : S.ev X.G y = some (.d (.row nn' sz es))) (hsn : D.snL es = true) (hl : (ds.length + es.length) * k.bytes ≤ lim) :
    Res X S o ((S.out r p).put u (.d (.own nn sz (ds ++ es)))) := by
  intro g β R Os a w hG h
  obtain ⟨d0, pos, pos', h1, h2, h3, h4⟩ := src_ok h (by rw [hG]; exact hx) (e := .own nn sz ds) (by rw [ASt.at, hc]; exact hg)
  have hcd : c0 = d0 := by rw [root_cont h1] at hc; injection hc with hc; exact hc.symm
  subst hcd
  obtain ⟨Os', Oe, k1, k2, k3, k4⟩ := take_core h h1 h2 h4 h3 hk
  obtain ⟨ys, y1, y2⟩ := evalR h (by rw [hG]; exact hy) rfl
  simp only [packs] at y1
  subst y1
  have hRO : Disj R Oe := fun x hx hy => h.apart r x hx (k3 x hy)
  obtain ⟨v, w', O', m1, m2, m3, m4⟩ := append_core hX ht hd he hby hs hz k2 y2 hRO (fun x hx => (h.read x hx).1) (fun x hx => (h.own r x (k3 x hx)).1) hsn hl o.type
  have hst := k1.float m2 (fun x hx hR => hRO x hR hx) (fun q x hx hq => k4 q x hq hx) (fun x hx => (h.own r x (k3 x hx)).2)
  have hts : u < a.tmps.size := Nat.lt_of_lt_of_le hu h.size
  refine ⟨v, w', R, Os'.upd (.slot u) O', .inl ?_, ?_⟩
  · simp [execOp, ho, hb, ha, hat, resolve, invoke, builtin, m1]
  · rw [hdst]
    refine hst.putX (Grow.refl w') (fun _ x => x) (fun _ x => .inl x) hts (RelV.mk (xs := [v]) (by simp [packs]) m3) ?_ ?_
    · intro x hx
      rcases m4 x hx with hx | ⟨hx1, hx2⟩
      · exact ⟨Nat.lt_of_lt_of_le (h.own r x (k3 x hx)).1 m2.size, (h.own r x (k3 x hx)).2, fun q _ hq => k4 q x hq hx⟩
      · exact ⟨hx2, .inr (Nat.le_trans h.fr.size hx1), fun q _ hq => absurd (k1.own q x hq).1 (by omega)⟩
    · intro x hx hy
      rcases m4 x hy with hy | ⟨hy, _⟩
      · exact hRO x hx hy
      · exact absurd (h.read x hx).1 (by omega)
/-- Append to nil. -/
theorem e_appendN (hX : X.Ok) {S : ASt} {o : Oper} {c : Call} {t el : TypeId} {i k : TI} {x y : Operand} {u : Nat} {nn' : Bool} {sz : Nat} {es : List D} (ho : o.op = .call c) (hb : c.callee = .builtin .append) (ha : c.args = #[x, y]) (hat : c.argTypes = #[t, t])
    (hdst : o.dst = some u) (hu : u < S.n) (ht : X.T t = some i) (hd : i.desc = .slice el) (he : X.T el = some k) (hby : k.bytes ≠ 0) (hs : k.size = sz) (hz : k.zero.nc = sz)
    (hx : S.ev X.G x = some (.d (.v (.slice none 0 0)))) (hy : S.ev X.G y = some (.d (.row nn' sz es))) (hsn : D.snL es = true) (hl : es.length * k.bytes ≤ lim) :
    Res X S o (S.put u (.d (.own false sz es))) := by
  intro g β R Os a w hG h
  obtain ⟨xs, x1, x2⟩ := evalR h (by rw [hG]; exact hx) rfl
  obtain ⟨ys, y1, y2⟩ := evalR h (by rw [hG]; exact hy) rfl
  simp only [packs] at y1 x1
  subst y1 x1
  simp only [Rel] at x2
  have x3 := x2.2
  injection x3 with x3
  have hown : Rel β w R (.own false sz []) [a.eval x] Blk.emp := by simp [Rel, x3]
  obtain ⟨v, w', O', m1, m2, m3, m4⟩ := append_core hX ht hd he hby hs hz hown y2 (fun _ _ x => x) (fun x hx => (h.read x hx).1) (fun x hx => hx.elim) hsn (by simpa using hl) o.type
  have hst := h.float m2 (fun x hx => hx.elim) (fun q x hx => hx.elim) (fun x hx => hx.elim)
  have hts : u < a.tmps.size := Nat.lt_of_lt_of_le hu h.size
  refine ⟨v, w', R, Os.upd (.slot u) O', .inl ?_, ?_⟩
  · simp [execOp, ho, hb, ha, hat, resolve, invoke, builtin, m1]
  · rw [hdst]
    refine hst.putX (Grow.refl w') (fun _ x => x) (fun _ x => .inl x) hts (RelV.mk (xs := [v]) (by simp [packs]) (by simpa using m3)) ?_ ?_
    · intro x hx
      rcases m4 x hx with hx | ⟨hx1, hx2⟩
      · exact hx.elim
      · exact ⟨hx2, .inr (Nat.le_trans h.fr.size hx1), fun q _ hq => absurd (h.own q x hq).1 (by omega)⟩
    · intro x hx hy
      rcases m4 x hy with hy | ⟨hy, _⟩
      · exact hy.elim
      · exact absurd (h.read x hx).1 (by omega)

-- ---------------------------------------------------------------- parts of slices
/-- A bound, if there is one. -/
def ASt.bnd (G : Nat → Option D) (S : ASt) (d : Nat) : Option Operand → Option Nat
  | none => some d
  | some x => match S.ev G x with
    | some (.d (.v (.int _ n))) => if 0 ≤ n then some n.toNat else none
    | _ => none
theorem bnd_okA {g : Gh} {β : Env} {R : Blk} {Os : Own} {S : ASt} {a : Act} {w : World} (h : StR g β R Os S a w) {d n y : Nat} {x : Option Operand} (hx : S.bnd g.G d x = some n) (hn : n ≤ y) (code : BoundsCode) {P : Program} (w' : World) :
    (match x.map a.eval with | some v => Instr.sliceBound v y code | none => pure d : Sem Nat).run P w' = .ok n w' := by
  cases x with
  | none => simp only [ASt.bnd, Option.some.injEq] at hx; subst hx; rfl
  | some x =>
    simp only [ASt.bnd] at hx
    split at hx
    · rename_i k m he
      split at hx
      · rename_i h0
        injection hx with hx
        subst hx
        obtain ⟨xs, h1, h2⟩ := evalR h he rfl
        simp only [packs] at h1
        subst h1
        simp only [Rel] at h2
        have h2 := h2.2
        injection h2 with h2
        simp only [Option.map_some, h2]
        simp [Instr.sliceBound, asIntOf, h0]
        omega
      · simp at hx
    · simp at hx
theorem bnd_ok {g : Gh} {β : Env} {R : Blk} {Os : Own} {S : ASt} {a : Act} {w : World} (h : StR g β R Os S a w) {d n y : Nat} {x : Option Operand} (hx : S.bnd g.G d x = some n) (hn : n ≤ y) (code : BoundsCode) {P : Program} :
    (match x.map a.eval with | some v => Instr.sliceBound v y code | none => pure d : Sem Nat).run P w = .ok n w := bnd_okA h hx hn code w
theorem run_boundsA {g : Gh} {β : Env} {R : Blk} {Os : Own} {S : ASt} {a : Act} {w : World} (h : StR g β R Os S a w) {lo hi : Option Operand} {l hh len cap : Nat} (hl : S.bnd g.G 0 lo = some l) (hhi : S.bnd g.G len hi = some hh) (h1 : l ≤ hh) (h2 : hh ≤ cap) (b : Bool) {P : Program} (w' : World) :
    (Instr.sliceBounds b len cap (lo.map a.eval) (hi.map a.eval) none).run P w' = .ok (l, hh, cap) w' := by
  unfold Instr.sliceBounds
  have e1 := bnd_okA (P := P) h hhi h2 (if b then .sliceAcap else .sliceAlen) w'
  have e2 := bnd_okA (P := P) h hl h1 .sliceB w'
  cases hi with
  | none =>
    simp only [ASt.bnd, Option.some.injEq] at hhi
    subst hhi
    cases lo with
    | none =>
      simp only [ASt.bnd, Option.some.injEq] at hl
      subst hl
      rfl
    | some y =>
      simp only [Option.map_some] at e2
      simp [Sem.run_bind, e2]
  | some x =>
    simp only [Option.map_some] at e1
    cases lo with
    | none =>
      simp only [ASt.bnd, Option.some.injEq] at hl
      subst hl
      simp [Sem.run_bind, e1]
    | some y =>
      simp only [Option.map_some] at e2
      simp [Sem.run_bind, e1, e2]
theorem run_bounds {g : Gh} {β : Env} {R : Blk} {Os : Own} {S : ASt} {a : Act} {w : World} (h : StR g β R Os S a w) {lo hi : Option Operand} {l hh len cap : Nat} (hl : S.bnd g.G 0 lo = some l) (hhi : S.bnd g.G len hi = some hh) (h1 : l ≤ hh) (h2 : hh ≤ cap) (b : Bool) {P : Program} :
    (Instr.sliceBounds b len cap (lo.map a.eval) (hi.map a.eval) none).run P w = .ok (l, hh, cap) w := run_boundsA h hl hhi h1 h2 b w
theorem relL_sub {β : Env} {w : World} {R : Blk} {sz : Nat} : ∀ (ds : List D) (l n : Nat) (cs : List Value), (∀ d ∈ ds, d.nc = sz) → RelL β w R ds cs Blk.emp → RelL β w R ((ds.drop l).take n) ((cs.drop (l * sz)).take (n * sz)) Blk.emp := by
  intro ds
  have htake : ∀ (ds : List D) (n : Nat) (cs : List Value), (∀ d ∈ ds, d.nc = sz) → RelL β w R ds cs Blk.emp → RelL β w R (ds.take n) (cs.take (n * sz)) Blk.emp := by
    intro ds
    induction ds with
    | nil => intro n cs _ h; simp only [RelL] at h; subst h; simp [RelL]
    | cons d ds ih =>
      intro n cs hs h
      cases n with
      | zero => simp [RelL]
      | succ n =>
        simp only [RelL, List.take_succ_cons] at h ⊢
        obtain ⟨c1, c2, O1, O2, rfl, h1, h2, h3, h4, h5⟩ := h
        have hl := Rel.len _ _ _ h1
        rw [hs d (by simp)] at hl
        refine ⟨c1, c2.take (n * sz), Blk.emp, Blk.emp, ?_, Rel.up (fun _ _ x => x) (fun _ x => x) (fun _ _ => rfl) _ _ _ _ (fun _ _ => rfl) h3 h1, ih n c2 (fun x hx => hs x (by simp [hx])) (RelL.up (fun _ _ x => x) (fun _ x => x) (fun _ _ => rfl) _ _ _ _ (fun _ _ => rfl) h4 h2), fun _ x => x, fun _ x => x, fun _ x => x.elim⟩
        rw [Nat.succ_mul, Nat.add_comm, ← hl, List.take_length_add_append]
  induction ds with
  | nil => intro l n cs _ h; simp only [RelL] at h; subst h; simp [RelL]
  | cons d ds ih =>
    intro l n cs hs h
    cases l with
    | zero => simpa using htake (d :: ds) n cs hs h
    | succ l =>
      simp only [RelL] at h
      obtain ⟨c1, c2, O1, O2, rfl, h1, h2, h3, h4, h5⟩ := h
      have hl := Rel.len _ _ _ h1
      rw [hs d (by simp)] at hl
      have := ih l n c2 (fun x hx => hs x (by simp [hx])) (RelL.up (fun _ _ x => x) (fun _ x => x) (fun _ _ => rfl) _ _ _ _ (fun _ _ => rfl) h4 h2)
      have e : (l + 1) * sz = c1.length + l * sz := by rw [hl, Nat.succ_mul, Nat.add_comm]
      rw [List.drop_succ_cons, e, List.drop_length_add_append]
      exact this

/-- Part of a row. -/
theorem n_sliceR (hX : X.Ok) {S : ASt} {o : Oper} {t el : TypeId} {i k : TI} {x : Operand} {lo hi : Option Operand} {nn : Bool} {sz l hh : Nat} {ds : List D} (ho : o.op = .slice t x lo hi none) (ht : X.T t = some i) (hd : i.desc = .slice el) (he : X.T el = some k) (hs : k.size = sz)
    (hx : S.ev X.G x = some (.d (.row nn sz ds))) (hl : S.bnd X.G 0 lo = some l) (hhi : S.bnd X.G ds.length hi = some hh) (h1 : l ≤ hh) (h2 : hh ≤ ds.length) : NRes X S o (.d (.row nn sz ((ds.drop l).take (hh - l)))) := by
  intro g β R Os a w hG h
  obtain ⟨xs, k1, k2⟩ := evalR h (by rw [hG]; exact hx) rfl
  simp only [packs] at k1
  subst k1
  simp only [Rel] at k2
  have hu := (hX.ty t i ht).1
  rw [hd] at hu
  have hlen : ((ds.drop l).take (hh - l)).length = hh - l := by simp; omega
  have hmem : ∀ d ∈ (ds.drop l).take (hh - l), d ∈ ds := fun d hd => List.mem_of_mem_drop (List.mem_of_mem_take hd)
  rcases k2 with ⟨m2, p, cap, m3, m1⟩ | ⟨b, off, len, cap, all, T, fr, m1, m2, m3, rfl, m5, m6, m7, m8⟩
  · injection m3 with m3
    subst m2
    simp only [List.length_nil] at h2 hhi
    have : l = 0 ∧ hh = 0 := by omega
    obtain ⟨rfl, rfl⟩ := this
    have hrb := run_bounds (P := X.P) (len := 0) (cap := cap) h (by rw [hG]; exact hl) (by rw [hG]; exact hhi) (Nat.le_refl 0) (Nat.zero_le cap) true
    cases p with
    | none =>
      obtain rfl := (m1 rfl).2
      refine came_same (v := .slice none 0 0) ?_ (RelV.mk (xs := [.slice none 0 0]) (by simp [packs]) (by simp only [Rel]; exact .inl ⟨rfl, none, 0, rfl, m1⟩))
      simp [execOp, ho, Instr.sliceAt, m3, Instr.slice, run_underlying hu, hrb, run_size hX he]
    | some p =>
      by_cases hc : cap = 0
      · subst hc
        refine came_same (v := .slice (some p) 0 0) ?_ (RelV.mk (xs := [.slice (some p) 0 0]) (by simp [packs]) (by simp only [Rel]; exact .inl ⟨rfl, some p, 0, rfl, fun e => by cases e⟩))
        simp [execOp, ho, Instr.sliceAt, m3, Instr.slice, run_underlying hu, hrb, run_size hX he]
      · refine came_same (v := .slice (some (p.add 0)) 0 cap) ?_ (RelV.mk (xs := [.slice (some (p.add 0)) 0 cap]) (by simp [packs]) (by simp only [Rel]; exact .inl ⟨rfl, some (p.add 0), cap, rfl, fun e => by cases e⟩))
        simp [execOp, ho, Instr.sliceAt, m3, Instr.slice, run_underlying hu, hrb, run_size hX he, hc]
  · injection m1 with m1
    have hrb := run_bounds (P := X.P) (len := ds.length) (cap := cap) h (by rw [hG]; exact hl) (by rw [hG]; exact hhi) h1 (by omega) true
    by_cases hm : cap = l
    · have e1 : l = ds.length := by omega
      have e2 : hh = l := by omega
      refine came_same (v := .slice (some ⟨b, off, none⟩) 0 0) ?_ (RelV.mk (xs := [.slice (some ⟨b, off, none⟩) 0 0]) (by simp [packs]) ?_)
      · subst hm e2
        simp [execOp, ho, Instr.sliceAt, m1, Instr.slice, run_underlying hu, hrb, run_size hX he]
      · simp only [Rel]
        refine .inr ⟨b, off, 0, 0, all, T, fr, rfl, m2, m3, by rw [hlen]; omega, ⟨Nat.le_refl _, by rw [hlen]; omega⟩, by omega, fun d hd => m7 d (hmem d hd), ?_⟩
        have : (ds.drop l).take (hh - l) = [] := by apply List.eq_nil_of_length_eq_zero; rw [hlen]; omega
        rw [this]; simp [RelL]
    · refine came_same (v := .slice (some ⟨b, off + l * sz, none⟩) (hh - l) (cap - l)) ?_ (RelV.mk (xs := [.slice (some ⟨b, off + l * sz, none⟩) (hh - l) (cap - l)]) (by simp [packs]) ?_)
      · simp [execOp, ho, Instr.sliceAt, m1, Instr.slice, run_underlying hu, hrb, run_size hX he, hm, add_off, hs]
      · simp only [Rel]
        have hle : hh * sz ≤ ds.length * sz := Nat.mul_le_mul_right _ h2
        have hsub : (hh - l) * sz = hh * sz - l * sz := Nat.sub_mul ..
        have hll : l * sz ≤ hh * sz := Nat.mul_le_mul_right _ h1
        refine .inr ⟨b, off + l * sz, hh - l, cap - l, all, T, fr, rfl, m2, m3, hlen.symm, ⟨by omega, by rw [hlen]; omega⟩, by omega, fun d hd => m7 d (hmem d hd), ?_⟩
        have := relL_sub ds l (hh - l) _ m7 m8
        rw [List.drop_take, List.drop_drop, List.take_take] at this
        rwa [show min ((hh - l) * sz) (ds.length * sz - l * sz) = (hh - l) * sz by omega] at this
theorem n_sliceS (hX : X.Ok) {S : ASt} {o : Oper} {t : TypeId} {i : TI} {x : Operand} {lo hi : Option Operand} {l hh : Nat} {s : ByteArray} (ho : o.op = .slice t x lo hi none) (ht : X.T t = some i) (hd : i.desc = .string)
    (hx : S.ev X.G x = some (.d (.v (.string s)))) (hl : S.bnd X.G 0 lo = some l) (hhi : S.bnd X.G s.size hi = some hh) (h1 : l ≤ hh) (h2 : hh ≤ s.size) : NRes X S o (.d (.v (.string (subB s l hh)))) := by
  rw [← subB_eq]
  intro g β R Os a w hG h
  obtain ⟨xs, k1, k2⟩ := evalR h (by rw [hG]; exact hx) rfl
  simp only [packs] at k1
  subst k1
  simp only [Rel] at k2
  have k2 := k2.2
  injection k2 with k2
  have hu := (hX.ty t i ht).1
  rw [hd] at hu
  have hrb := run_bounds (P := X.P) (len := s.size) (cap := s.size) h (by rw [hG]; exact hl) (by rw [hG]; exact hhi) h1 h2 false
  refine came_same (v := .string (s.extract l hh)) ?_ (RelV.mk (xs := [.string (s.extract l hh)]) (by simp [packs]) (by simp [Rel, scal]))
  simp [execOp, ho, Instr.sliceAt, k2, Instr.slice, run_underlying hu, hrb]
end
end Go.Proofs.YtfbppkjjdbkedaaGreatDoor.Ref
/-
  The abstract machine: operations pick, comparison with nil, build, buildSlice, make, interfaces, conversions.
-/
namespace Go.Proofs.YtfbppkjjdbkedaaGreatDoor.Ref
noncomputable section
open Go
set_option linter.unusedVariables false
variable {X : Cx}

theorem ev_v {g : Gh} {β : Env} {R : Blk} {Os : Own} {S : ASt} {a : Act} {w : World} (h : StR g β R Os S a w) {x : Operand} {v : Value} (hx : S.ev g.G x = some (.d (.v v))) : a.eval x = v := by
  obtain ⟨xs, h1, h2⟩ := evalR h hx rfl
  simp only [packs] at h1
  subst h1
  simp only [Rel] at h2
  have h2 := h2.2
  injection h2

theorem n_pick {S : ASt} {o : Oper} {c x y : Operand} {b : Bool} {tv : TV} (ho : o.op = .pick c x y) (hc : S.ev X.G c = some (.d (.v (.bool b)))) (hx : S.mv X.G (if b then x else y) = some tv) : NRes X S o tv := by
  intro g β R Os a w hG h
  have hb := ev_v h (by rw [hG]; exact hc)
  have : (execOp a.eval o).run X.P w = .ok (.value (a.eval (if b then x else y))) w := by
    cases b <;> simp [execOp, ho, hb, asBool]
  rw [this]
  exact mv_came h (by rw [hG]; exact hx)

-- ---------------------------------------------------------------- nil
def nilK : Value → Option Nat
  | .pointer none => some 1
  | .slice none 0 0 => some 2
  | .map none => some 3
  | .nilFunc => some 4
  | .nilIface => some 5
  | _ => none
def nonnilK : D → Option Nat
  | .row nn _ ds => if nn || !ds.isEmpty then some 2 else none
  | .own nn _ ds => if nn || !ds.isEmpty then some 2 else none
  | .cell _ | .fz _ | .ref _ _ _ => some 1
  | .mapo _ _ | .fmp _ _ => some 3
  | .fn _ _ => some 4
  | .ifc _ _ => some 5
  | _ => none
def descK : TypeDesc → Option Nat
  | .pointer _ => some 1
  | .slice _ => some 2
  | .map _ _ => some 3
  | .func _ _ _ => some 4
  | .interface _ => some 5
  | _ => none
/-- Is it nil, and of which kind? -/
def ASt.kind (G : Nat → Option D) (S : ASt) (x : Operand) : Option (Bool × Nat) :=
  match S.ev G x with
  | some (.d (.v z)) => (nilK z).map (true, ·)
  | some (.d d) => (nonnilK d).map (false, ·)
  | some (.u false _ _) => some (false, 1)
  | some (.u true r p) => match S.at r p with
    | some e => (nonnilK e).map (false, ·)
    | none => none
  | none => none
inductive KV : Bool → Nat → Value → Prop
  | n1 : KV true 1 (.pointer none)
  | n2 : KV true 2 (.slice none 0 0)
  | n3 : KV true 3 (.map none)
  | n4 : KV true 4 .nilFunc
  | n5 : KV true 5 .nilIface
  | s1 (a) : KV false 1 (.pointer (some a))
  | s2 (a n m) : KV false 2 (.slice (some a) n m)
  | s3 (r) : KV false 3 (.map (some r))
  | s4 (f a b) : KV false 4 (.func f a b)
  | s5 (t v) : KV false 5 (.iface t v)
theorem nonnil_kv {β : Env} {w : World} {R O : Blk} {d : D} {c : Value} {j : Nat} (h : Rel β w R d [c] O) (hk : nonnilK d = some j) : KV false j c := by
  cases d <;> simp [nonnilK] at hk
  case row nn sz ds =>
    obtain ⟨h1, rfl⟩ := hk
    simp only [Rel] at h
    rcases h with ⟨rfl, p, cap, h, hp⟩ | ⟨b, off, len, cap, all, T, fr, h, _⟩
    · injection h with h
      cases p with
      | none => have := (hp rfl).1; subst this; simp at h1
      | some p => rw [h]; exact .s2 _ _ _
    · injection h with h; rw [h]; exact .s2 _ _ _
  case own nn sz ds =>
    obtain ⟨h1, rfl⟩ := hk
    simp only [Rel] at h
    rcases h with ⟨rfl, rfl, _⟩ | ⟨b, off, len, cap, all, T, fr, h, _⟩
    · simp at h1
    · injection h with h; rw [h]; exact .s2 _ _ _
  all_goals (subst hk; simp only [Rel] at h)
  · obtain ⟨_, _, _, _, h, _⟩ := h; injection h with h; rw [h]; exact .s1 _
  · obtain ⟨_, _, _, _, _, h, _⟩ := h; injection h with h; rw [h]; exact .s1 _
  · obtain ⟨_, _, h⟩ := h; injection h with h; rw [h]; exact .s1 _
  · obtain ⟨_, _, _, _, h, _⟩ := h; injection h with h; rw [h]; exact .s3 _
  · obtain ⟨_, _, _, h, _⟩ := h; injection h with h; rw [h]; exact .s3 _
  · obtain ⟨_, h, _⟩ := h; injection h with h; rw [h]; exact .s4 _ _ _
  · obtain ⟨_, _, h, _⟩ := h; injection h with h; rw [h]; exact .s5 _ _
theorem nonnil_one {d : D} {j : Nat} (hk : nonnilK d = some j) : (∀ ds, d ≠ .agg ds) ∧ d.okc = true := by
  cases d <;> simp [nonnilK] at hk <;> simp [D.okc]
theorem kind_ok {g : Gh} {β : Env} {R : Blk} {Os : Own} {S : ASt} {a : Act} {w : World} (h : StR g β R Os S a w) {x : Operand} {b : Bool} {j : Nat} (hx : S.kind g.G x = some (b, j)) : KV b j (a.eval x) := by
  unfold ASt.kind at hx
  split at hx
  · rename_i z he
    rw [ev_v h he]
    simp only [Option.map_eq_some_iff, Prod.mk.injEq] at hx
    obtain ⟨k, hk, rfl, rfl⟩ := hx
    unfold nilK at hk
    split at hk <;> simp at hk <;> subst hk <;> constructor
  · rename_i d hne he
    simp only [Option.map_eq_some_iff, Prod.mk.injEq] at hx
    obtain ⟨k, hk, rfl, rfl⟩ := hx
    obtain ⟨h1, h2⟩ := nonnil_one hk
    obtain ⟨O, k1, _⟩ := evalV h he
    obtain ⟨xs, k2, k3⟩ := k1.okc h2
    rw [packs_one h1] at k2
    subst k2
    exact nonnil_kv k3 hk
  · rename_i r p he
    injection hx with hx
    injection hx with h1 h2
    subst h1 h2
    cases x with
    | tmp t =>
      obtain ⟨d, pos, e, pos', c, k1, k2, k3, k4⟩ := h.ups t _ _ _ he
      obtain ⟨b, off, _, k5⟩ := k4
      have e : a.eval (.tmp t) = .pointer (some ⟨b, off, none⟩) := by simp [Act.eval, k3, k5]
      rw [e]
      exact .s1 _
    | const v => simp only [ASt.ev] at he; split at he <;> simp at he
    | func f => simp [ASt.ev] at he
    | global i => simp [ASt.ev] at he
  · rename_i r p he
    split at hx
    · rename_i e hat
      simp only [Option.map_eq_some_iff, Prod.mk.injEq] at hx
      obtain ⟨k, hk, rfl, rfl⟩ := hx
      obtain ⟨d, pos, pos', O, k1, k2, k3, k4, _⟩ := sli_ok h (x := x) (by unfold ASt.sli; rw [he]) hat
      exact nonnil_kv k4 hk
    · simp at hx
  · simp at hx
theorem run_eq_nil {P : Program} {w : World} {t : TypeId} {d : TypeDesc} {j : Nat} {b1 b2 : Bool} {x y : Value} (hu : P.underlying t = some d) (hk : descK d = some j) (k1 : KV b1 j x) (k2 : KV b2 j y) (hn : (b1 || b2) = true) : (Op.equal t x y).run P w = .ok (b1 && b2) w := by
  show (Op.equalIn (9999 + 1) t x y).run P w = _
  cases k1 <;> cases k2 <;> simp at hn <;> cases d <;> simp [descK] at hk <;> (rw [Op.equalIn]; simp [run_underlying hu])
def isConst : Operand → Bool
  | .const _ => true
  | _ => false
theorem run_eqGuard_nil {P : Program} {w : World} {op : BinOp} {t : TypeId} {j : Nat} {b1 b2 : Bool} {x y : Value} {ox oy : Operand} (k1 : KV b1 j x) (k2 : KV b2 j y) (hn : (b1 || b2) = true)
    (hc : j = 5 → b1 = true → b2 = true → isConst ox = true ∨ isConst oy = true) : (eqGuard op t ox oy x y).run P w = .ok () w := by
  cases k1 <;> cases k2 <;> simp at hn <;> try (cases op <;> rfl)
  have := hc rfl rfl rfl
  cases ox <;> cases oy <;> simp [isConst] at this <;> cases op <;> simp [eqGuard]
theorem binOp_nil {ng : Bool} {t : TypeId} {j : Nat} {b1 b2 : Bool} {x y : Value} (k1 : KV b1 j x) (k2 : KV b2 j y) (hn : (b1 || b2) = true) : binOp (if ng then .neq else .eql) t x y = (Op.equal t x y >>= fun b => pure (.bool (b != ng))) := by
  cases ng <;> cases k1 <;> cases k2 <;> simp at hn <;> simp [binOp]
/-- Comparing with nil. -/
theorem n_eqnil (hX : X.Ok) {S : ASt} {o : Oper} {ng : Bool} {t u : TypeId} {i : TI} {x y : Operand} {b1 b2 : Bool} {j : Nat} (ho : o.op = .binOp (if ng then .neq else .eql) t x y u) (ht : X.T t = some i) (hd : descK i.desc = some j) (hx : S.kind X.G x = some (b1, j)) (hy : S.kind X.G y = some (b2, j))
    (hn : (b1 || b2) = true) (hc : j = 5 → b1 = true → b2 = true → isConst x = true ∨ isConst y = true) : NRes X S o (.d (.v (.bool ((b1 && b2) != ng)))) := by
  intro g β R Os act w hG h
  have k1 := kind_ok h (by rw [hG]; exact hx)
  have k2 := kind_ok h (by rw [hG]; exact hy)
  have hu := (hX.ty t i ht).1
  refine came_same (v := .bool ((b1 && b2) != ng)) ?_ (RelV.mk (xs := [.bool ((b1 && b2) != ng)]) (by simp [packs]) (by simp [Rel, scal]))
  have e : execOp act.eval o = (do let v ← (do eqGuard (if ng then .neq else .eql) t x y (act.eval x) (act.eval y); binOp (if ng then .neq else .eql) t (act.eval x) (act.eval y) : Sem Value); pure (.value v)) := by
    unfold execOp
    rw [ho]
  rw [e]
  simp only [Sem.run_bind, run_eqGuard_nil k1 k2 hn hc, Result.andThen_ok, binOp_nil k1 k2 hn, run_eq_nil hu hd k1 k2 hn, Sem.run_pure]

-- ---------------------------------------------------------------- structs and slices out of parts
theorem relL_set {β : Env} {w : World} {R : Blk} : ∀ (ds : List D) (i : Nat) (cs : List Value) (e d : D) (xs : List Value), RelL β w R ds cs Blk.emp → ds[i]? = some e → d.nc = e.nc → Rel β w R d xs Blk.emp →
    RelL β w R (ds.set i d) (cs.take (D.ncL (ds.take i)) ++ xs ++ cs.drop (D.ncL (ds.take i) + xs.length)) Blk.emp ∧ D.ncL (ds.take i) + xs.length ≤ cs.length
  | [], i, cs, e, d, xs, h, he, hn, hd => by simp at he
  | z :: ds, i, cs, e, d, xs, h, he, hn, hd => by
    simp only [RelL] at h
    obtain ⟨c1, c2, O1, O2, rfl, h1, h2, h3, h4, h5⟩ := h
    have hl := Rel.len _ _ _ h1
    have hx := Rel.len _ _ _ hd
    have h1' := Rel.up (fun _ _ x => x) (fun _ x => x) (fun _ _ => rfl) _ _ _ _ (fun _ _ => rfl) h3 h1
    have h2' := RelL.up (fun _ _ x => x) (fun _ x => x) (fun _ _ => rfl) _ _ _ _ (fun _ _ => rfl) h4 h2
    cases i with
    | zero =>
      simp at he
      subst he
      simp only [List.set_cons_zero, List.take_zero, D.ncL, List.take_zero, List.nil_append, Nat.zero_add, RelL]
      rw [hx, hn, ← hl, List.drop_left]
      exact ⟨⟨xs, c2, Blk.emp, Blk.emp, rfl, hd, h2', fun _ x => x, fun _ x => x, fun _ x => x.elim⟩, by simp⟩
    | succ i =>
      simp at he
      obtain ⟨k1, k2⟩ := relL_set ds i c2 e d xs h2' he hn hd
      simp only [List.set_cons_succ, List.take_succ_cons, D.ncL, RelL]
      refine ⟨⟨c1, c2.take (D.ncL (ds.take i)) ++ xs ++ c2.drop (D.ncL (ds.take i) + xs.length), Blk.emp, Blk.emp, ?_, h1', k1, fun _ x => x, fun _ x => x, fun _ x => x.elim⟩, by rw [List.length_append]; omega⟩
      rw [← hl, List.take_length_add_append, Nat.add_assoc, List.drop_length_add_append]
      simp
theorem ncL_set : ∀ (ds : List D) (i j : Nat) (e d : D), ds[i]? = some e → d.nc = e.nc → D.ncL ((ds.set i d).take j) = D.ncL (ds.take j)
  | [], i, j, e, d, he, hn => by simp at he
  | z :: ds, 0, j, e, d, he, hn => by
    simp at he; subst he
    cases j <;> simp [D.ncL, hn]
  | z :: ds, i + 1, j, e, d, he, hn => by
    simp at he
    cases j with
    | zero => simp
    | succ j => simp [D.ncL, ncL_set ds i j e d he hn]
theorem fold_set : ∀ (xs : List Value) (off j : Nat) (cs : Array Value), off + j + xs.length ≤ cs.size →
    ((xs.zipIdx j).foldl (fun cs (p : Value × Nat) => cs.setIfInBounds (off + p.2) p.1) cs).toList = cs.toList.take (off + j) ++ xs ++ cs.toList.drop (off + j + xs.length)
  | [], off, j, cs, h => by simp
  | x :: xs, off, j, cs, h => by
    simp only [List.length_cons] at h
    rw [List.zipIdx_cons, List.foldl_cons, fold_set xs off (j + 1) _ (by simp; omega)]
    simp only [Array.toList_setIfInBounds]
    apply List.ext_getElem?
    intro k
    simp only [List.append_assoc, List.getElem?_append, List.length_take, List.length_set, Array.length_toList, List.getElem?_take, List.getElem?_drop, List.getElem?_set, List.length_cons, Array.getElem?_toList, List.length_append, List.getElem?_cons]
    have e1 : min (off + (j + 1)) cs.size = off + j + 1 := by omega
    have e2 : min (off + j) cs.size = off + j := by omega
    rw [e1, e2]
    by_cases h1 : k < off + j
    · simp [h1, show k < off + j + 1 by omega, show ¬ (off + j = k) by omega, show k < off + (j + 1) by omega]
    · by_cases h2 : k = off + j
      · subst h2; simp [show off + j < off + (j + 1) by omega]; omega
      · simp [show ¬ k < off + j + 1 by omega, h1]
        by_cases h3 : k - (off + j + 1) < xs.length
        · simp [h3, show k - (off + j) < xs.length + 1 by omega, show k - (off + j) ≠ 0 by omega, show k - (off + j) - 1 = k - (off + j + 1) by omega]
        · simp [h3, show ¬ k - (off + j) < xs.length + 1 by omega, show ¬ (off + j = off + (j + 1) + xs.length + (k - (off + j + 1) - xs.length)) by omega]
          congr 1; omega
end
end Go.Proofs.YtfbppkjjdbkedaaGreatDoor.Ref
/-
  The abstract machine: operations build, buildSlice, makeSlice, makeMap, makeFunc, makeInterface, convert, max.
-/
namespace Go.Proofs.YtfbppkjjdbkedaaGreatDoor.Ref
noncomputable section
open Go
set_option linter.unusedVariables false
variable {X : Cx}

def setL : List D → List (Nat × D) → Option (List D)
  | ds, [] => some ds
  | ds, (i, d) :: ps => match ds[i]? with
    | some e => if d.nc == e.nc then setL (ds.set i d) ps else none
    | none => none
def partsD (G : Nat → Option D) (S : ASt) : List (Nat × Operand) → Option (List (Nat × D))
  | [] => some []
  | (i, x) :: l => match S.ev G x, partsD G S l with
    | some (.d d), some r => if d.ro && d.okc then some ((i, d) :: r) else none
    | _, _ => none
theorem fill_ok {g : Gh} {β : Env} {R : Blk} {Os : Own} {S : ASt} {a : Act} {w : World} (h : StR g β R Os S a w) {place : Nat → Option (Nat × Nat)} : ∀ (l : List (Nat × Operand)) (ps : List (Nat × D)) (ds ds' : List D) (cells : Array Value),
    partsD g.G S l = some ps → setL ds ps = some ds' → (∀ i e, ds[i]? = some e → place i = some (D.ncL (ds.take i), e.nc)) → RelL β w R ds cells.toList Blk.emp →
    ∃ cells', Instr.fill place cells (l.map fun (i, x) => (i, a.eval x)) = some cells' ∧ RelL β w R ds' cells'.toList Blk.emp
  | [], ps, ds, ds', cells, hp, hs, hpl, hr => by
    simp only [partsD, Option.some.injEq] at hp
    subst hp
    simp only [setL, Option.some.injEq] at hs
    subst hs
    exact ⟨cells, rfl, hr⟩
  | (i, x) :: l, ps, ds, ds', cells, hp, hs, hpl, hr => by
    simp only [partsD] at hp
    split at hp
    · rename_i d r hx hr'
      split at hp
      · rename_i hk
        injection hp with hp
        subst hp
        simp only [Bool.and_eq_true] at hk
        simp only [setL] at hs
        split at hs
        · rename_i e he
          split at hs
          · rename_i hn
            rw [beq_iff_eq] at hn
            obtain ⟨xs, k1, k2, k3⟩ := evalX h hx hk.1 hk.2
            obtain ⟨m1, m2⟩ := relL_set ds i cells.toList e d xs hr he hn k2
            have hlen := Rel.len _ _ _ k2
            have hpl' : ∀ j e', (ds.set i d)[j]? = some e' → place j = some (D.ncL ((ds.set i d).take j), e'.nc) := by
              intro j e' hj
              rw [ncL_set ds i j e d he hn]
              by_cases hij : i = j
              · subst hij
                rw [List.getElem?_set_self (List.getElem?_eq_some_iff.1 he).1] at hj
                injection hj with hj
                subst hj
                rw [hpl i e he, hn]
              · rw [List.getElem?_set_ne hij] at hj
                exact hpl j e' hj
            have hfold := fold_set xs (D.ncL (ds.take i)) 0 cells (by simpa using m2)
            simp only [Nat.add_zero] at hfold
            rw [← hfold] at m1
            obtain ⟨cells', q1, q2⟩ := fill_ok h l r (ds.set i d) ds' _ hr' hs hpl' m1
            refine ⟨cells', ?_, q2⟩
            simp only [List.map_cons, Instr.fill, hpl i e he, k3]
            have : ¬ ((decide (xs.toArray.size ≠ e.nc) || decide (D.ncL (ds.take i) + xs.toArray.size > cells.size)) = true) := by
              simp only [Bool.or_eq_true, decide_eq_true_eq, not_or]
              have : cells.toList.length = cells.size := Array.length_toList
              simp only [List.size_toArray]
              omega
            simp only [List.size_toArray] at this
            simp only [List.size_toArray, if_neg this]
            rw [← q1]
            congr 1
            simp
          · simp at hs
        · simp at hs
      · simp at hp
    · simp at hp

/-- The layout of a struct is what its zero says. -/
def Cx.lay (X : Cx) : List Field → List D → Nat → Bool
  | [], [], _ => true
  | f :: fs, z :: zs, off => f.offset == off && (match X.T f.type with | some k => k.size == z.nc | none => false) && Cx.lay X fs zs (off + z.nc)
  | _, _, _ => false
theorem lay_ok (hX : X.Ok) {P : Program} (hP : P = X.P) {w : World} : ∀ (fs : List Field) (zs : List D) (off : Nat), X.lay fs zs off = true →
    ∃ pl, (fs.mapM (m := Sem) fun f => do pure (f.offset, ← sizeOf f.type)).run P w = .ok pl w ∧ ∀ i e, zs[i]? = some e → pl[i]? = some (off + D.ncL (zs.take i), e.nc)
  | [], [], off, h => ⟨[], by rw [List.mapM_nil]; rfl, fun i e hi => by simp at hi⟩
  | f :: fs, z :: zs, off, h => by
    subst hP
    simp only [Cx.lay, Bool.and_eq_true, beq_iff_eq] at h
    obtain ⟨⟨h1, h2⟩, h3⟩ := h
    split at h2
    · rename_i k hk
      rw [beq_iff_eq] at h2
      obtain ⟨pl, q1, q2⟩ := lay_ok hX rfl (w := w) fs zs (off + z.nc) h3
      refine ⟨(off, z.nc) :: pl, ?_, ?_⟩
      · rw [List.mapM_cons]
        simp only [Sem.run_bind, run_size hX hk, q1, Result.andThen_ok, Sem.run_pure, h1, h2]
      · intro i e hi
        cases i with
        | zero => simp at hi; subst hi; simp [D.ncL]
        | succ i => simp at hi; simp only [List.getElem?_cons_succ, q2 i e hi, List.take_succ_cons, D.ncL]; congr 2; omega
    · simp at h2
  | [], z :: zs, off, h => by simp [Cx.lay] at h
  | f :: fs, [], off, h => by simp [Cx.lay] at h

/-- A struct out of parts. -/
theorem n_build (hX : X.Ok) {S : ASt} {o : Oper} {t : TypeId} {i : TI} {fs : Array Field} {parts : Array (Nat × Operand)} {ps : List (Nat × D)} {zs ds : List D} (ho : o.op = .build t parts) (ht : X.T t = some i) (hd : i.desc = .struct fs) (hz : i.zero = .agg zs) (hl : X.lay fs.toList zs 0 = true)
    (hp : partsD X.G S parts.toList = some ps) (hs : setL zs ps = some ds) : NRes X S o (.d (.agg ds)) := by
  intro g β R Os a w hG h
  obtain ⟨zv, xs, h1, h2, h3, h4⟩ := run_zero hX ht w
  rw [hz] at h4 h3
  simp only [packs] at h3
  have hz' := D.lit_rel (β := β) (w := w) (R := R) _ _ h4
  simp only [Rel] at hz'
  have hu := (hX.ty t i ht).1
  rw [hd] at hu
  obtain ⟨pl, q1, q2⟩ := lay_ok hX rfl (w := w) fs.toList zs 0 hl
  simp only [Nat.zero_add] at q2
  have e1 : (fs.mapM (m := Sem) fun f => do pure (f.offset, ← sizeOf f.type)) = List.toArray <$> fs.toList.mapM (m := Sem) (fun f => do pure (f.offset, ← sizeOf f.type)) := Array.mapM_eq_mapM_toList
  have e1' : (fs.mapM (m := Sem) fun f => do pure (f.offset, ← sizeOf f.type)).run X.P w = .ok pl.toArray w := by rw [e1, Sem.run_map, q1]; rfl
  obtain ⟨cells, f1, f2⟩ := fill_ok (place := (pl.toArray[·]?)) h parts.toList ps zs ds xs.toArray (by rw [hG]; exact hp) hs (fun j e hj => by rw [List.getElem?_toArray]; exact q2 j e hj) (by simpa using hz')
  refine came_same (v := .agg cells) ?_ (RelV.mk (xs := cells.toList) (by simp [packs]) (by simpa only [Rel] using f2))
  have e2 : (parts.map fun (i, x) => (i, a.eval x)).toList = parts.toList.map fun (i, x) => (i, a.eval x) := by simp
  have e3 : zv.cells = xs.toArray := h2
  have e : (Instr.build t (parts.map fun (i, x) => (i, a.eval x))).run X.P w = .ok (.agg cells) w := by
    unfold Instr.build
    simp only [Sem.run_bind, h1, Result.andThen_ok, run_underlying hu, e1', e2, e3, f1, Sem.run_pure]
  simp [execOp, ho, e]
end
end Go.Proofs.YtfbppkjjdbkedaaGreatDoor.Ref
/-
  The abstract machine: operations buildSlice, makeSlice, makeMap, makeFunc, makeInterface, convert, max.
-/
namespace Go.Proofs.YtfbppkjjdbkedaaGreatDoor.Ref
noncomputable section
open Go
set_option linter.unusedVariables false
variable {X : Cx}

theorem zeros_list (z : Array Value) : ∀ n, ((Array.range (n * z.size)).map (z[· % z.size]!)).toList = (List.replicate n z.toList).flatten := by
  intro n
  rw [Array.toList_map, Array.toList_range]
  induction n with
  | zero => simp
  | succ n ih =>
    rw [Nat.succ_mul, List.range_add, List.map_append, ih, List.replicate_succ', List.flatten_append]
    congr 1
    simp only [List.map_map, List.flatten_cons, List.flatten_nil, List.append_nil]
    apply List.ext_getElem?
    intro k
    rcases Nat.lt_or_ge k z.size with hk | hk
    · have : (n * z.size + k) % z.size = k := by rw [Nat.mul_add_mod_self_right, Nat.mod_eq_of_lt hk]
      simp [List.getElem?_map, List.getElem?_range hk, this, hk]
    · simp [hk]
theorem relL_zeros {β : Env} {w : World} {R : Blk} {d : D} {xs : List Value} (h : Rel β w R d xs Blk.emp) : ∀ n, RelL β w R (List.replicate n d) (List.replicate n xs).flatten Blk.emp
  | 0 => by simp [RelL]
  | n + 1 => by
    simp only [List.replicate_succ, List.flatten_cons, RelL]
    exact ⟨xs, _, Blk.emp, Blk.emp, rfl, h, relL_zeros h n, fun _ x => x, fun _ x => x, fun _ x => x.elim⟩
theorem flat_len (xs : List Value) : ∀ n, (List.replicate n xs).flatten.length = n * xs.length := by
  intro n; induction n with
  | zero => simp
  | succ n ih => simp only [List.replicate_succ, List.flatten_cons, List.length_append, ih, Nat.succ_mul, Nat.add_comm]
theorem flat_take (xs : List Value) {l c : Nat} (h : l ≤ c) : ((List.replicate c xs).flatten).take (l * xs.length) = (List.replicate l xs).flatten := by
  have : List.replicate c xs = List.replicate l xs ++ List.replicate (c - l) xs := by rw [List.replicate_append_replicate]; congr 1; omega
  rw [this, List.flatten_append, ← flat_len xs l, List.take_left]

/-- The zero of a type, as cells. -/
theorem zero_cells (hX : X.Ok) {t : TypeId} {i : TI} (h : X.T t = some i) : ∃ inf zv xs, X.P.info? t = some inf ∧ inf.size = i.size ∧ inf.bytes = i.bytes ∧ inf.zero = some zv ∧ zv.cells = xs.toArray ∧ xs.length = i.zero.nc ∧ ∀ β w R, Rel β w R i.zero xs Blk.emp := by
  obtain ⟨_, inf, zv, xs, h1, h2, h3, h4, h5, h6, h7⟩ := hX.ty t i h
  exact ⟨inf, zv, xs, h1, h2, h3, h4, h5, Rel.len (β := fun _ => none) (w := default) (R := Blk.emp) _ _ _ (D.lit_rel _ _ h7), fun β w R => D.lit_rel _ _ h7⟩

theorem fresh_own {β : Env} {w : World} {R : Blk} {ds : List D} {cs all : List Value} {sz cap : Nat} (t : TypeId) (h : RelL β w R ds cs Blk.emp) (hR : ∀ x, R x → x < w.heap.size) (hs : ∀ d ∈ ds, d.nc = sz) (hc : ds.length ≤ cap) (hl : ds.length ≤ lim) (ha : cap * sz ≤ all.length) (hcs : all.take (ds.length * sz) = cs) :
    Rel β { w with heap := w.heap.push (.cells all.toArray t) } R (.own true sz ds) [.slice (some ⟨w.heap.size, 0, none⟩) ds.length cap] (fun x => x = w.heap.size) := by
  simp only [Rel]
  refine .inr ⟨w.heap.size, 0, ds.length, cap, all.toArray, t, Blk.emp, rfl, rfl, by simp, rfl, ⟨hc, hl⟩, by simpa using ha, hs, fun _ x => x.elim, fun x => x, ?_⟩
  simp only [List.drop_zero, hcs]
  have hg := Grow.alloc w (.cells all.toArray t)
  exact RelL.up (fun _ _ x => x) (fun _ x => x) (fun b hb => hg.block b (hR b hb)) ds _ _ _ (fun _ x => x.elim) (fun _ x => x) h

theorem n_buildSlice (hX : X.Ok) {S : ASt} {o : Oper} {t el : TypeId} {i k : TI} {n sz : Nat} {parts : Array (Nat × Operand)} {ps : List (Nat × D)} {ds : List D} (ho : o.op = .buildSlice t n parts) (ht : X.T t = some i) (hd : i.desc = .slice el) (he : X.T el = some k) (hs : k.size = sz) (hz : k.zero.nc = sz)
    (hn : n * sz ≤ 16777216) (hn' : n ≤ lim) (hp : partsD X.G S parts.toList = some ps) (hset : setL (List.replicate n k.zero) ps = some ds) (hds : ds.length = n) (hall : ∀ d ∈ ds, d.nc = sz) : NRes X S o (.d (.own true sz ds)) := by
  intro g β R Os a w hG h
  obtain ⟨inf, zv, xs, h1, h2, h3, h4, h5, h6, h7⟩ := zero_cells hX he
  have hu := (hX.ty t i ht).1
  rw [hd] at hu
  have hsz : zv.cells.size = sz := by rw [h5]; simp [h6, hz]
  have hncl : ∀ j, j ≤ n → D.ncL ((List.replicate n k.zero).take j) = j * sz := by
    intro j hj
    rw [List.take_replicate, Nat.min_eq_left hj]
    clear hj
    induction j with
    | zero => simp [D.ncL]
    | succ j ih => simp [List.replicate_succ, D.ncL, ih, hz, Nat.succ_mul, Nat.add_comm]
  have hcl : (((Array.range (n * sz)).map (zv.cells[· % zv.cells.size]!)).toList) = (List.replicate n xs).flatten := by
    have := zeros_list zv.cells n
    rw [hsz] at this
    rw [hsz, this, h5]
  obtain ⟨cells, f1, f2⟩ := fill_ok (place := fun j => some (j * sz, sz)) h parts.toList ps (List.replicate n k.zero) ds ((Array.range (n * sz)).map (zv.cells[· % zv.cells.size]!)) (by rw [hG]; exact hp) hset (fun j e hj => by
    have hjn : j < n := by have := (List.getElem?_eq_some_iff.1 hj).1; simpa using this
    rw [List.getElem?_replicate_of_lt hjn] at hj
    injection hj with hj
    subst hj
    rw [hncl j (by omega), hz]) (by rw [hcl]; exact relL_zeros (h7 β w R) n)
  have hR : ∀ x, R x → x < w.heap.size := fun x hx => (h.read x hx).1
  have hlen : cells.toList.length = n * sz := by rw [relL_nc f2 hall, hds]
  refine came_fresh (o := .cells cells el) (v := .slice (some ⟨w.heap.size, 0, none⟩) n n) ?_ hR (RelV.mk (xs := [.slice (some ⟨w.heap.size, 0, none⟩) n n]) (by simp [packs]) ?_)
  · have e2 : (parts.map fun (i, x) => (i, a.eval x)).toList = parts.toList.map fun (i, x) => (i, a.eval x) := by simp
    have e : (Instr.buildSlice t n (parts.map fun (i, x) => (i, a.eval x))).run X.P w = .ok (.slice (some ⟨w.heap.size, 0, none⟩) n n) { w with heap := w.heap.push (.cells cells el) } := by
      unfold Instr.buildSlice
      simp only [Sem.run_bind, run_underlying hu, Result.andThen_ok, run_size hX he, hs]
      rw [if_neg (by omega)]
      by_cases h0 : n * sz = 0
      · have hm : ((Array.range (n * sz)).map ((#[] : Array Value)[· % (#[] : Array Value).size]!)) = ((Array.range (n * sz)).map (zv.cells[· % zv.cells.size]!)) := by rw [h0]; simp [Array.range_zero']
        rw [if_pos h0]
        simp only [Sem.run_bind, Sem.run_pure, Result.andThen_ok, hm, e2, f1]
        rfl
      · rw [if_neg h0]
        have hzz : (zeroValue el).run X.P w = .ok zv w := by simp [zeroValue, typeInfo, h1, h4]
        simp only [Sem.run_bind, Sem.run_pure, Result.andThen_ok, hzz, e2, f1]
        rfl
    simp [execOp, ho, e]
  · have := fresh_own el f2 hR hall (by omega) (by omega) (by rw [hlen]; exact Nat.le_refl _) (show cells.toList.take (ds.length * sz) = cells.toList from List.take_of_length_le (by rw [hlen, hds]; exact Nat.le_refl _)) (cap := n)
    rw [hds] at this
    simpa using this

theorem n_make (hX : X.Ok) {S : ASt} {o : Oper} {t el : TypeId} {i k : TI} {x y : Operand} {kl kc : IntKind} {l c : Int} {sz : Nat} (ho : o.op = .makeSlice t x y) (ht : X.T t = some i) (hd : i.desc = .slice el) (he : X.T el = some k) (hs : k.size = sz) (hz : k.zero.nc = sz)
    (hx : S.ev X.G x = some (.d (.v (.int kl l)))) (hy : S.ev X.G y = some (.d (.v (.int kc c)))) (h0 : 0 ≤ l) (hlc : l ≤ c) (hb : (k.bytes : Int) * c ≤ 281474976710656) (hc : c ≤ lim) : NRes X S o (.d (.own true sz (List.replicate l.toNat k.zero))) := by
  intro g β R Os a w hG h
  obtain ⟨inf, zv, xs, h1, h2, h3, h4, h5, h6, h7⟩ := zero_cells hX he
  have hu := (hX.ty t i ht).1
  rw [hd] at hu
  have ex := ev_v h (by rw [hG]; exact hx)
  have ey := ev_v h (by rw [hG]; exact hy)
  have hsz : zv.cells.size = sz := by rw [h5]; simp [h6, hz]
  have hrun := run_make (P := X.P) w t el inf zv hu h1 h4 kl kc l c h0 hlc (by rw [h3]; exact hb) (by simp [lim] at hc; omega)
  have hcl : (madeCells zv.cells (c.toNat * inf.size)).toList = (List.replicate c.toNat xs).flatten := by
    have := zeros_list zv.cells c.toNat
    rw [hsz] at this
    rw [madeCells, h2, hs, hsz, this, h5]
  have hR : ∀ x, R x → x < w.heap.size := fun x hx => (h.read x hx).1
  have hlen : (List.replicate l.toNat k.zero).length = l.toNat := by simp
  refine came_fresh (o := .cells (madeCells zv.cells (c.toNat * inf.size)) el) (v := .slice (some ⟨w.heap.size, 0, none⟩) l.toNat c.toNat) ?_ hR (RelV.mk (xs := [.slice (some ⟨w.heap.size, 0, none⟩) l.toNat c.toNat]) (by simp [packs]) ?_)
  · simp only [execOp, ho, ex, ey, Sem.run_bind, hrun, Result.andThen_ok, Sem.run_pure]
    rfl
  · have := fresh_own (β := β) (w := w) (R := R) (sz := sz) (cap := c.toNat) (all := (madeCells zv.cells (c.toNat * inf.size)).toList) el (relL_zeros (h7 β w R) l.toNat) hR (fun d hd => by rw [List.eq_of_mem_replicate hd]; exact hz) (by simp; omega) (by simp [lim] at hc ⊢; omega)
      (by rw [hcl, flat_len, h6, hz]; exact Nat.le_refl _) (by rw [hcl, hlen, show sz = xs.length by rw [h6, hz]]; exact flat_take xs (by omega))
    rw [hlen] at this
    simpa using this

theorem n_makeMap (hX : X.Ok) {S : ASt} {o : Oper} {t : TypeId} (ho : o.op = .makeMap t none) : NRes X S o (.d (.mapo [] [])) := by
  intro g β R Os a w hG h
  have hR : ∀ x, R x → x < w.heap.size := fun x hx => (h.read x hx).1
  refine came_fresh (o := .map #[] 0) (v := .map (some w.heap.size)) ?_ hR (RelV.mk (xs := [.map (some w.heap.size)]) (by simp [packs]) ?_)
  · simp [execOp, ho, Instr.makeMap, newObj, Sem.run]
  · simp only [Rel]
    exact ⟨w.heap.size, #[], 0, Blk.emp, rfl, rfl, by simp, fun _ x => x.elim, fun x => x, rfl, by simp [RelVs]⟩

/-- Captured values. -/
def capsD (G : Nat → Option D) (S : ASt) : List Operand → Option (List D)
  | [] => some []
  | x :: l => match S.ev G x, capsD G S l with
    | some (.d d), some r => if d.ro && d.okc then some (d :: r) else none
    | _, _ => none
theorem caps_ok {g : Gh} {β : Env} {R : Blk} {Os : Own} {S : ASt} {a : Act} {w : World} (h : StR g β R Os S a w) : ∀ (l : List Operand) (ds : List D), capsD g.G S l = some ds → RelVs β w R ds (l.map a.eval) Blk.emp
  | [], ds, hp => by simp only [capsD, Option.some.injEq] at hp; subst hp; simp [RelVs]
  | x :: l, ds, hp => by
    simp only [capsD] at hp
    split at hp
    · rename_i d r hx hr
      split at hp
      · rename_i hk
        injection hp with hp
        subst hp
        simp only [Bool.and_eq_true] at hk
        obtain ⟨xs, k1, k2, _⟩ := evalX h hx hk.1 hk.2
        simp only [List.map_cons, RelVs]
        exact ⟨_, _, xs, Blk.emp, Blk.emp, rfl, k1, k2, caps_ok h l r hr, fun _ x => x, fun _ x => x, fun _ x => x.elim⟩
      · simp at hp
    · simp at hp
theorem n_makeFunc {S : ASt} {o : Oper} {f : FuncId} {captured : Array Operand} {ds : List D} (ho : o.op = .makeFunc (.func f) #[] captured) (hc : capsD X.G S captured.toList = some ds) : NRes X S o (.d (.fn f ds)) := by
  intro g β R Os a w hG h
  have hcs := caps_ok h captured.toList ds (by rw [hG]; exact hc)
  refine came_same (v := .func (.func f) #[] (captured.map a.eval)) ?_ (RelV.mk (xs := [.func (.func f) #[] (captured.map a.eval)]) (by simp [packs]) ?_)
  · simp [execOp, ho, Instr.makeFunc]
  · simp only [Rel]
    exact ⟨captured.map a.eval, rfl, by simpa using hcs⟩

def isIfc : TypeDesc → Bool
  | .interface _ => true
  | _ => false
theorem n_iface (hX : X.Ok) {S : ASt} {o : Oper} {t : TypeId} {i : TI} {x : Operand} {d : D} (ho : o.op = .makeInterface t x) (ht : X.T t = some i) (hi : isIfc i.desc = false) (hx : S.ev X.G x = some (.d d)) (hr : d.ro = true) (hk : d.okc = true) : NRes X S o (.d (.ifc t d)) := by
  intro g β R Os a w hG h
  obtain ⟨xs, k1, k2, _⟩ := evalX h (by rw [hG]; exact hx) hr hk
  have hu := (hX.ty t i ht).1
  refine came_same (v := .iface t (a.eval x)) ?_ (RelV.mk (xs := [.iface t (a.eval x)]) (by simp [packs]) ?_)
  · have : (Instr.makeInterface t (a.eval x)).run X.P w = .ok (.iface t (a.eval x)) w := by
      unfold Instr.makeInterface
      rw [Sem.run_bind, run_underlying hu]
      cases hd : i.desc <;> simp [hd, isIfc] at hi ⊢
    simp [execOp, ho, this]
  · simp only [Rel]
    exact ⟨_, xs, rfl, k1, k2⟩

theorem n_convI (hX : X.Ok) {S : ASt} {o : Oper} {s t : TypeId} {i k : TI} {x : Operand} {kd k' : IntKind} {n : Int} (ho : o.op = .convert s t x) (hs : X.T s = some i) (ht : X.T t = some k) (hd : k.desc = .int kd) (hx : S.ev X.G x = some (.d (.v (.int k' n)))) : NRes X S o (.d (.v (.int kd (kd.wrap n)))) := by
  intro g β R Os a w hG h
  have e := ev_v h (by rw [hG]; exact hx)
  have h1 := (hX.ty s i hs).1
  have h2 := (hX.ty t k ht).1
  rw [hd] at h2
  refine came_same (v := .int kd (kd.wrap n)) ?_ (RelV.mk (xs := [.int kd (kd.wrap n)]) (by simp [packs]) (by simp [Rel, scal]))
  have : (convert s t (.int k' n)).run X.P w = .ok (.int kd (kd.wrap n)) w := by
    unfold convert
    simp only [Sem.run_bind, run_underlying h1, run_underlying h2, Result.andThen_ok]
    cases i.desc <;> rfl
  simp [execOp, ho, e, this]
theorem n_convS (hX : X.Ok) {S : ASt} {o : Oper} {s t : TypeId} {i k : TI} {x : Operand} {b : ByteArray} (ho : o.op = .convert s t x) (hs : X.T s = some i) (ht : X.T t = some k) (hd : k.desc = .string) (hx : S.ev X.G x = some (.d (.v (.string b)))) : NRes X S o (.d (.v (.string b))) := by
  intro g β R Os a w hG h
  have e := ev_v h (by rw [hG]; exact hx)
  have h1 := (hX.ty s i hs).1
  have h2 := (hX.ty t k ht).1
  rw [hd] at h2
  refine came_same (v := .string b) ?_ (RelV.mk (xs := [.string b]) (by simp [packs]) (by simp [Rel, scal]))
  have : (convert s t (.string b)).run X.P w = .ok (.string b) w := by
    unfold convert
    simp only [Sem.run_bind, run_underlying h1, run_underlying h2, Result.andThen_ok]
    cases i.desc <;> rfl
  simp [execOp, ho, e, this]
theorem n_max {S : ASt} {o : Oper} {c : Call} {x y : Operand} {k k' : IntKind} {m n : Int} (ho : o.op = .call c) (hb : c.callee = .builtin .max) (ha : c.args = #[x, y]) (hx : S.ev X.G x = some (.d (.v (.int k m)))) (hy : S.ev X.G y = some (.d (.v (.int k' n)))) : NRes X S o (.d (.v (.int k (if n > m then n else m)))) := by
  intro g β R Os a w hG h
  have ex := ev_v h (by rw [hG]; exact hx)
  have ey := ev_v h (by rw [hG]; exact hy)
  refine came_same (v := .int k (if n > m then n else m)) ?_ (RelV.mk (xs := [.int k (if n > m then n else m)]) (by simp [packs]) (by simp [Rel, scal]))
  simp [execOp, ho, hb, ha, resolve, invoke, builtin, Builtin.max_, Builtin.max2, ex, ey]
theorem n_rem {S : ASt} {o : Oper} {t u : TypeId} {x y : Operand} {k : IntKind} {m n : Int} (ho : o.op = .binOp .rem t x y u) (hx : S.ev X.G x = some (.d (.v (.int k m)))) (hy : S.ev X.G y = some (.d (.v (.int k n)))) (hn : n ≠ 0) : NRes X S o (.d (.v (.int k (m.tmod n)))) := by
  intro g β R Os a w hG h
  have ex := ev_v h (by rw [hG]; exact hx)
  have ey := ev_v h (by rw [hG]; exact hy)
  refine came_same (v := .int k (m.tmod n)) ?_ (RelV.mk (xs := [.int k (m.tmod n)]) (by simp [packs]) (by simp [Rel, scal]))
  simp [execOp, ho, ex, ey, eqGuard, binOp, Op.intDiv, hn]
theorem n_quo {S : ASt} {o : Oper} {t u : TypeId} {x y : Operand} {k : IntKind} {m n : Int} (ho : o.op = .binOp .quo t x y u) (hx : S.ev X.G x = some (.d (.v (.int k m)))) (hy : S.ev X.G y = some (.d (.v (.int k n)))) (hn : n ≠ 0) : NRes X S o (.d (.v (.int k (k.wrap (m.tdiv n))))) := by
  intro g β R Os a w hG h
  have ex := ev_v h (by rw [hG]; exact hx)
  have ey := ev_v h (by rw [hG]; exact hy)
  refine came_same (v := .int k (k.wrap (m.tdiv n))) ?_ (RelV.mk (xs := [.int k (k.wrap (m.tdiv n))]) (by simp [packs]) (by simp [Rel, scal]))
  simp [execOp, ho, ex, ey, eqGuard, binOp, Op.intDiv, hn]
theorem n_xor {S : ASt} {o : Oper} {t : TypeId} {x : Operand} {k : IntKind} {n : Int} (ho : o.op = .unOp .xor t x) (hx : S.ev X.G x = some (.d (.v (.int k n)))) : NRes X S o (.d (.v (.int k (k.wrap (BitVec.ofInt k.bits (if k.signed then -1 else k.max) ^^^ BitVec.ofInt k.bits n).toNat)))) := by
  intro g β R Os a w hG h
  have ex := ev_v h (by rw [hG]; exact hx)
  refine came_same (v := .int k (k.wrap (BitVec.ofInt k.bits (if k.signed then -1 else k.max) ^^^ BitVec.ofInt k.bits n).toNat)) ?_ (RelV.mk (xs := [.int k (k.wrap (BitVec.ofInt k.bits (if k.signed then -1 else k.max) ^^^ BitVec.ofInt k.bits n).toNat)]) (by simp [packs]) (by simp [Rel, scal]))
  simp [execOp, ho, ex, Op.unary, Op.intBits]
end
end Go.Proofs.YtfbppkjjdbkedaaGreatDoor.Ref
/-
  The abstract machine: maps; components of tuples; a slice's own part.
-/
namespace Go.Proofs.YtfbppkjjdbkedaaGreatDoor.Ref
noncomputable section
open Go
set_option linter.unusedVariables false
variable {X : Cx}

/-- What lies behind a header turns, the header does not. -/
theorem behind_core {g : Gh} {β : Env} {R : Blk} {Os : Own} {S : ASt} {a : Act} {w w' : World} (h : StR g β R Os S a w) {r : Root} {d e e' : D} {pos pos' : Pos} {p : List Nat} {c : Value} (hr : RootAt β S a r d pos) (hw : walk w p d pos = some (e, pos')) (hv : pos'.val w = some c)
    (hh : e.isHdr = true) (hh' : e'.isHdr = true) (hk : d.okc = true) (hnew : ∀ Oe, Rel β w R e [c] Oe → Turn Oe w w' ∧ Rel β w' R e' [c] Oe) : StR g β R Os (S.upd r (D.setp p e' d)) a w' := by
  obtain ⟨O, hat, hO, hpos⟩ := root_at h hr
  have hRO : Disj R O := fun x a b => h.apart r x a (hO x b)
  have hpp : ∀ x, pos.isIn x → ¬ O x ∧ ¬ R x := fun x hx => ⟨(hpos x hx).2, fun hR => h.apart r x hR (hpos x hx).1⟩
  obtain ⟨Oe, Or, a1, a2, a3, a4, a5, a5', a6⟩ := lens_walk p d e pos pos' O hat hRO hpp hw
  have h1 : e.nc = 1 := by cases e <;> simp [D.isHdr] at hh <;> rfl
  have h1' : e'.nc = 1 := by cases e' <;> simp [D.isHdr] at hh' <;> rfl
  have hrel : Rel β w R e [c] Oe := at_one h1 a4 hv
  obtain ⟨ht, hr'⟩ := hnew Oe hrel
  have hsame : ∀ x, x < w.heap.size → ¬ Oe x → w'.heap[x]? = w.heap[x]? := ht.block
  have hlt : ∀ x, Os r x → x < w.heap.size := fun x hx => (h.own r x hx).1
  have hat' : At β w' R e' pos' Oe := by
    cases pos' with
    | slot c' => simp only [Pos.val, Option.some.injEq] at hv; subst hv; exact hr'
    | mem b off =>
      obtain ⟨cs, k1, k2, k3, k4⟩ := a4
      have hb : w'.heap[b]? = w.heap[b]? := hsame b (cell_lt hv) k3
      have hl := Rel.len _ _ _ k2
      rw [h1] at hl
      match cs, hl with
      | [c1], _ =>
        have h0 := k1.cell 0 (by simp)
        simp only [Pos.val] at hv
        simp only [Nat.add_zero] at h0
        rw [hv] at h0
        simp at h0
        subst h0
        obtain ⟨all, T, m1, m2, m3⟩ := k1
        exact ⟨[c], ⟨all, T, hb.trans m1, m2, m3⟩, hr', k3, k4⟩
  obtain ⟨f1, f2⟩ := a6 β w' R e' Oe (fun _ _ x => x) (fun _ x => x) (by rw [h1, h1']) (fun x hx => .inl (by
    rcases hx with hx | hx | hx
    · exact hsame x (h.read x hx).1 fun hy => hRO x hx (a1 x hy)
    · exact hsame x (hlt x (hO x (a2 x hx))) fun hy => a3 x hy hx
    · exact hsame x (hlt x (hpos x hx).1) fun hy => (hpos x hx).2 (a1 x hy))) hat' a3 (fun x hx hy => hRO x hx (a2 x hy)) (fun x hx hy => (hpos x hx).2 (a1 x hy)) (fun x hx => (hpp x hx).2)
  have ht' : Turn (Os r) w w' := ⟨ht.os, ht.tape, ht.output, ht.size, fun k hk hne => ht.block k hk fun e => hne (hO k (a1 k e))⟩
  have hok : e'.okc = true := by cases e' <;> simp [D.isHdr] at hh' <;> rfl
  have hhd : ∀ t, r = .slot t → (D.setp p e' d).isHdr = true := by
    intro t ht
    by_cases hp : p = []
    · subst hp; exact hh'
    · subst ht; cases hr with
      | slot q1 q2 q3 => exact setp_hdr hp q2
  have := h.turn (On := Os r) hr ht' (fun _ x => x) (fun x hx => .inl hx) (fun x hx => .inl hx) (h.apart r) (put_back hr f1 (setp_okc hk hok) (by
      rintro x (hx | hx)
      · exact hO x (a2 x hx)
      · exact hO x (a1 x hx)) (fun x hx => (hpos x hx).1) hhd (by
      intro b hb
      subst hb
      obtain ⟨all2, T2, n3, hs2⟩ := root_block h hr
      exact ⟨all2, T2, (hsame b (hlt b (hpos b rfl).1) fun hy => (hpos b rfl).2 (a1 b hy)).trans n3, by rw [hs2, f2]⟩)) (by
    cases r with
    | slot t => exact .inl (hhd t rfl)
    | box b => trivial)
  exact upd_self this

-- ---------------------------------------------------------------- maps
def keyEq : TypeDesc → Value → Value → Option Bool
  | .int _, .int k a, .int k' b => if k = k' then some (a == b) else none
  | .string, .string a, .string b => some (eqB a b)
  | _, _, _ => none
theorem beqB (a b : ByteArray) : (a == b) = eqB a b := by rw [beq_toListBytes, eqB_eq]
theorem keyEq_now {d : TypeDesc} {k k' : Value} {b : Bool} (h : keyEq d k k' = some b) : Instr.sameNow d k k' = some b := by
  unfold keyEq at h
  split at h
  · simpa [Instr.sameNow] using h
  · rename_i a b'
    simp only [Option.some.injEq] at h
    subst h
    simp only [Instr.sameNow]
    rw [beqB]
  · simp at h
def findK (d : TypeDesc) (k : Value) : List Value → Nat → Option (Option Nat)
  | [], _ => some none
  | e :: l, i => match keyEq d k e with
    | some true => some (some i)
    | some false => findK d k l (i + 1)
    | none => none
theorem findK_now {d : TypeDesc} {k : Value} : ∀ (es : List MapEntry) (i : Nat) (r : Option Nat), findK d k (es.map (·.key)) i = some r →
    match r with
    | none => Instr.findNow d k es i = some none
    | some j => i ≤ j ∧ ∃ e, es[j - i]? = some e ∧ Instr.findNow d k es i = some (some (j, e.val)) ∧ keyEq d k e.key = some true
  | [], i, r, h => by
    simp only [List.map_nil, findK, Option.some.injEq] at h
    subst h
    rfl
  | e :: es, i, r, h => by
    simp only [List.map_cons, findK] at h
    split at h
    · rename_i hk
      simp only [Option.some.injEq] at h
      subst h
      exact ⟨Nat.le_refl _, e, by simp, by simp [Instr.findNow, keyEq_now hk], hk⟩
    · rename_i hk
      have := findK_now es (i + 1) r h
      cases r with
      | none => simp only at this ⊢; simp [Instr.findNow, keyEq_now hk, this]
      | some j =>
        simp only at this ⊢
        obtain ⟨h1, e', h2, h3, h4⟩ := this
        refine ⟨by omega, e', ?_, by simp [Instr.findNow, keyEq_now hk, h3], h4⟩
        rw [show j - i = (j - (i + 1)) + 1 by omega, List.getElem?_cons_succ]
        exact h2
    · simp at h
def keyD : TypeDesc → Bool
  | .int _ | .string => true
  | _ => false
theorem run_key {P : Program} {t : TypeId} {d : TypeDesc} (hu : P.underlying t = some d) (hd : keyD d = true) (e : Bool) (k : Value) (w : World) : (Instr.checkKey e 10000 t k).run P w = .ok () w := by
  show (Instr.checkKey e (9999 + 1) t k).run P w = _
  unfold Instr.checkKey
  rw [Sem.run_bind, run_underlying hu]
  cases d <;> simp [keyD] at hd <;> simp
theorem relVs_get {β : Env} {w : World} {R : Blk} : ∀ (ds : List D) (cs : List Value) (O : Blk) (i : Nat) (d : D), RelVs β w R ds cs O → ds[i]? = some d → ∃ c xs Oe, cs[i]? = some c ∧ packs d xs c ∧ Rel β w R d xs Oe ∧ ∀ x, Oe x → O x
  | [], cs, O, i, d, h, hi => by simp at hi
  | e :: ds, cs, O, i, d, h, hi => by
    simp only [RelVs] at h
    obtain ⟨c, cs', xs, O1, O2, rfl, h0, h1, h2, h3, h4, h5⟩ := h
    cases i with
    | zero => simp at hi; subst hi; exact ⟨c, xs, O1, rfl, h0, h1, h3⟩
    | succ i =>
      simp at hi
      obtain ⟨c', xs', Oe, k1, k2, k3, k4⟩ := relVs_get ds cs' O2 i d h2 hi
      exact ⟨c', xs', Oe, by simpa using k1, k2, k3, fun x hx => h4 x (k4 x hx)⟩

/-- What a look into a map comes to. -/
def lookR (ok : Bool) (d : TypeDesc) (zero : D) (k : Value) (ks : List Value) (ds : List D) : Option D :=
  match findK d k ks 0 with
  | some (some j) => match ds[j]? with
    | some e => if e.ro && e.okc then some (if ok then .tup [e, .v (.bool true)] else e) else none
    | none => none
  | some none => some (if ok then .tup [zero, .v (.bool false)] else zero)
  | none => none
theorem look_core (hX : X.Ok) {t kt et : TypeId} {i ki ei : TI} (ht : X.T t = some i) (hd : i.desc = .map kt et) (hk : X.T kt = some ki) (hkd : keyD ki.desc = true) (he : X.T et = some ei) {β : Env} {w : World} {R O : Blk} {r : Nat} {es : Array MapEntry} {clock : Nat} {ks : List Value} {ds : List D} {k : Value} {ok : Bool} {res : D}
    (h1 : w.heap[r]? = some (.map es clock)) (h2 : es.toList.map (·.key) = ks) (h3 : RelVs β w R ds (es.toList.map (·.val)) O) (hl : lookR ok ki.desc ei.zero k ks ds = some res) (hz : ei.zero.okc = true) :
    ∃ v, (Instr.lookup t (.map (some r)) k ok).run X.P w = .ok v w ∧ RelV β w R res v Blk.emp := by
  have hu := (hX.ty t i ht).1
  rw [hd] at hu
  have hku := (hX.ty kt ki hk).1
  obtain ⟨zv, xs, z1, z2, z3, z4⟩ := run_zero hX he w
  unfold lookR at hl
  subst h2
  have run : ∀ v b, (match Instr.findNow ki.desc k es.toList 0 with | some (some (_, v')) => v' = v ∧ b = true | some none => v = zv ∧ b = false | none => False) → (Instr.lookup t (.map (some r)) k ok).run X.P w = .ok (if ok then .tuple #[v, .bool b] else v) w := by
    intro v b hf
    have hg : (getObj r).run X.P w = .ok (.map es clock) w := by simp [getObj, Sem.run, h1]
    unfold Instr.lookup
    simp only [Sem.run_bind, run_underlying hu, Result.andThen_ok, hg, Sem.run_pure, run_key hku hkd, Instr.findKey, run_underlying hku]
    split at hf
    · rename_i j v' hff
      obtain ⟨rfl, rfl⟩ := hf
      simp [hff]
    · rename_i hff
      obtain ⟨rfl, rfl⟩ := hf
      simp [hff, z1]
    · exact hf.elim
  have fin : ∀ v b e xs, packs e xs v → Rel β w R e xs Blk.emp → RelV β w R (if ok then .tup [e, .v (.bool b)] else e) (if ok then .tuple #[v, .bool b] else v) Blk.emp := by
    intro v b e xs hp hr
    cases ok with
    | false => exact RelV.mk hp hr
    | true =>
      refine ⟨#[v, .bool b], rfl, ?_⟩
      simp only [RelVs]
      exact ⟨v, [.bool b], xs, Blk.emp, Blk.emp, rfl, hp, hr, ⟨.bool b, [], [.bool b], Blk.emp, Blk.emp, rfl, by simp [packs], by simp [Rel, scal], rfl, fun _ x => x, fun _ x => x, fun _ x => x.elim⟩, fun _ x => x, fun _ x => x, fun _ x => x.elim⟩
  split at hl
  · rename_i j hf
    have hfn := findK_now _ _ _ hf
    simp only at hfn
    obtain ⟨_, e, m1, m2, m3⟩ := hfn
    simp only [Nat.sub_zero] at m1
    split at hl
    · rename_i d hdj
      split at hl
      · rename_i hok
        simp only [Bool.and_eq_true] at hok
        injection hl with hl
        subst hl
        obtain ⟨c, xs', Oe, n1, n2, n3, n4⟩ := relVs_get ds _ O j d h3 hdj
        rw [List.getElem?_map, m1] at n1
        simp only [Option.map_some, Option.some.injEq] at n1
        subst n1
        exact ⟨_, run e.val true (by rw [m2]; exact ⟨rfl, rfl⟩), fin _ _ _ _ n2 (Rel.ro d xs' Oe hok.1 n3)⟩
      · simp at hl
    · simp at hl
  · rename_i hf
    have hfn := findK_now _ _ _ hf
    simp only at hfn
    injection hl with hl
    subst hl
    exact ⟨_, run zv false (by rw [hfn]; exact ⟨rfl, rfl⟩), fin _ _ _ _ z3 (D.lit_rel _ _ z4)⟩
  · simp at hl

theorem n_lookF (hX : X.Ok) {S : ASt} {o : Oper} {t kt et : TypeId} {i ki ei : TI} {x y : Operand} {ok : Bool} {ks : List Value} {ds : List D} {k : Value} {res : D} (ho : o.op = .lookup t x y ok) (ht : X.T t = some i) (hd : i.desc = .map kt et) (hk : X.T kt = some ki) (hkd : keyD ki.desc = true) (he : X.T et = some ei) (hz : ei.zero.okc = true)
    (hx : S.ev X.G x = some (.d (.fmp ks ds))) (hy : S.ev X.G y = some (.d (.v k))) (hl : lookR ok ki.desc ei.zero k ks ds = some res) : NRes X S o (.d res) := by
  intro g β R Os a w hG h
  obtain ⟨xs, m1, m2⟩ := evalR h (by rw [hG]; exact hx) rfl
  simp only [packs] at m1
  subst m1
  simp only [Rel] at m2
  obtain ⟨r, es, clock, m3, m4, m5, m6, m7⟩ := m2
  injection m3 with m3
  have ey := ev_v h (by rw [hG]; exact hy)
  obtain ⟨v, q1, q2⟩ := look_core hX ht hd hk hkd he m5 m6 m7 hl hz
  exact came_same (v := v) (by simp [execOp, ho, m3, ey, q1]) q2
theorem n_lookO (hX : X.Ok) {S : ASt} {o : Oper} {t kt et : TypeId} {i ki ei : TI} {x y : Operand} {ok : Bool} {r : Root} {p : List Nat} {ks : List Value} {ds : List D} {k : Value} {res : D} (ho : o.op = .lookup t x y ok) (ht : X.T t = some i) (hd : i.desc = .map kt et) (hk : X.T kt = some ki) (hkd : keyD ki.desc = true) (he : X.T et = some ei) (hz : ei.zero.okc = true)
    (hx : S.src X.G x = some (r, p)) (hat : S.at r p = some (.mapo ks ds)) (hy : S.ev X.G y = some (.d (.v k))) (hl : lookR ok ki.desc ei.zero k ks ds = some res) : NRes X S o (.d res) := by
  intro g β R Os a w hG h
  obtain ⟨d, pos, pos', k1, k2, k3, _⟩ := src_ok h (by rw [hG]; exact hx) hat
  obtain ⟨O, n1, n2, n3⟩ := root_at h k1
  obtain ⟨O', n4, n5⟩ := at_walk p d _ pos _ O n1 (fun x a b => h.apart r x a (n2 x b)) k2
  have m2 := at_one (by rfl) n4 k3
  simp only [Rel] at m2
  obtain ⟨rr, es, clock, O1, m3, m4, m5, m6, m6', m7, m8⟩ := m2
  injection m3 with m3
  have ey := ev_v h (by rw [hG]; exact hy)
  obtain ⟨v, q1, q2⟩ := look_core hX ht hd hk hkd he m5 m7 m8 hl hz
  exact came_same (v := v) (by simp [execOp, ho, m3, ey, q1]) q2

def updM (d : TypeDesc) (k : Value) (v : D) (ks : List Value) (ds : List D) : Option (List Value × List D) :=
  match findK d k ks 0 with
  | some (some j) => some (ks.set j k, ds.set j v)
  | some none => some (ks ++ [k], ds ++ [v])
  | none => none
theorem modify_map {α β : Type} {f : α → α} {g : α → β} {x : β} (h : ∀ e, g (f e) = x) : ∀ (l : List α) (j : Nat), (l.modify j f).map g = (l.map g).set j x
  | [], j => by simp
  | a :: l, 0 => by simp [h]
  | a :: l, j + 1 => by simp [modify_map h l j]
theorem relVs_set {β : Env} {w : World} {R : Blk} : ∀ (ds : List D) (cs : List Value) (O : Blk) (j : Nat) (d : D) (c : Value) (xs : List Value), RelVs β w R ds cs O → packs d xs c → Rel β w R d xs Blk.emp → RelVs β w R (ds.set j d) (cs.set j c) O
  | [], cs, O, j, d, c, xs, h, hp, hd => by simp only [RelVs] at h; subst h; simp [RelVs]
  | e :: ds, cs, O, j, d, c, xs, h, hp, hd => by
    simp only [RelVs] at h
    obtain ⟨c', cs', ys, O1, O2, rfl, h0, h1, h2, h3, h4, h5⟩ := h
    cases j with
    | zero =>
      simp only [List.set_cons_zero, RelVs]
      exact ⟨c, cs', xs, Blk.emp, O2, rfl, hp, hd, h2, fun _ x => x.elim, h4, fun _ x => x.elim⟩
    | succ j =>
      simp only [List.set_cons_succ, RelVs]
      exact ⟨c', _, ys, O1, O2, rfl, h0, h1, relVs_set ds cs' O2 j d c xs h2 hp hd, h3, h4, h5⟩
theorem relVs_snoc {β : Env} {w : World} {R : Blk} : ∀ (ds : List D) (cs : List Value) (O : Blk) (d : D) (c : Value) (xs : List Value), RelVs β w R ds cs O → packs d xs c → Rel β w R d xs Blk.emp → RelVs β w R (ds ++ [d]) (cs ++ [c]) O
  | [], cs, O, d, c, xs, h, hp, hd => by
    simp only [RelVs] at h
    subst h
    simp only [List.nil_append, RelVs]
    exact ⟨c, [], xs, Blk.emp, Blk.emp, rfl, hp, hd, rfl, fun _ x => x.elim, fun _ x => x.elim, fun _ x => x.elim⟩
  | e :: ds, cs, O, d, c, xs, h, hp, hd => by
    simp only [RelVs] at h
    obtain ⟨c', cs', ys, O1, O2, rfl, h0, h1, h2, h3, h4, h5⟩ := h
    simp only [List.cons_append, RelVs]
    exact ⟨c', _, ys, O1, O2, rfl, h0, h1, relVs_snoc ds cs' O2 d c xs h2 hp hd, h3, h4, h5⟩
theorem same_keys {d : TypeDesc} {k e : Value} (h : keyEq d k e = some true) : Instr.sameBits 10000 e k = true := by
  show Instr.sameBits (9999 + 1) e k = true
  unfold keyEq at h
  split at h
  · rename_i a b c d'
    split at h
    · rename_i hk
      subst hk
      simp at h
      simp [Instr.sameBits, h]
    · simp at h
  · rename_i a b
    simp only [Option.some.injEq] at h
    have hb : (a == b) = true := by rw [beqB]; exact h
    have hb' : (b == a) = true := by rw [beqB, eqB, eqL_eq] at *; rw [beq_iff_eq] at *; exact hb.symm
    simp [Instr.sameBits, hb']
  · simp at h

theorem e_mapUpdate (hX : X.Ok) {S : ASt} {o : Oper} {t kt et : TypeId} {i ki : TI} {x y z : Operand} {r : Root} {p : List Nat} {c0 : D} {ks ks' : List Value} {ds ds' : List D} {k : Value} {v : D} (ho : o.op = .mapUpdate t x y z ∨ o.op = .insert t x y z) (hdst : o.dst = none) (ht : X.T t = some i) (hd : i.desc = .map kt et) (hk : X.T kt = some ki)
    (hkd : keyD ki.desc = true) (hx : S.src X.G x = some (r, p)) (hc : S.cont r = some c0) (hok : c0.okc = true) (hat : D.get p c0 = some (.mapo ks ds)) (hy : S.ev X.G y = some (.d (.v k))) (hz : S.ev X.G z = some (.d v)) (hv : v.ro = true) (hvk : v.okc = true) (hu : updM ki.desc k v ks ds = some (ks', ds')) :
    Res X S o (S.upd r (D.setp p (.mapo ks' ds') c0)) := by
  intro g β R Os a w hG h
  obtain ⟨d0, pos, pos', k1, k2, k3, _⟩ := src_ok h (by rw [hG]; exact hx) (e := .mapo ks ds) (by rw [ASt.at, hc]; exact hat)
  have hcd : c0 = d0 := by rw [root_cont k1] at hc; injection hc with hc; exact hc.symm
  subst hcd
  obtain ⟨O, n1, n2, n3⟩ := root_at h k1
  obtain ⟨O', n4, n5⟩ := at_walk p c0 _ pos _ O n1 (fun x a b => h.apart r x a (n2 x b)) k2
  have m2 := at_one (by rfl) n4 k3
  simp only [Rel] at m2
  obtain ⟨rr, es, clock, O1, m3, m4, m5, m6, m6', m7, m8⟩ := m2
  injection m3 with m3
  have ey := ev_v h (by rw [hG]; exact hy)
  obtain ⟨vs, v1, v2, _⟩ := evalX h (by rw [hG]; exact hz) hv hvk
  have hu1 := (hX.ty t i ht).1
  rw [hd] at hu1
  have hku := (hX.ty kt ki hk).1
  have hg : (getObj rr).run X.P w = .ok (.map es clock) w := by simp [getObj, Sem.run, m5]
  have hrl : rr < w.heap.size := by
    rcases Nat.lt_or_ge rr w.heap.size with hb | hb
    · exact hb
    · simp [Array.getElem?_eq_none hb] at m5
  have hset : ∀ ob, (setObj rr ob).run X.P w = .ok () { w with heap := w.heap.setIfInBounds rr ob } := fun ob => by simp [setObj, Sem.run, m5]
  -- what the world comes to
  have key : ∃ es' clock', (Instr.mapUpdate t (.map (some rr)) k (a.eval z)).run X.P w = .ok () { w with heap := w.heap.setIfInBounds rr (.map es' clock') } ∧ es'.toList.map (·.key) = ks' ∧
      ∀ β w R O, RelVs β w R ds (es.toList.map (·.val)) O → Rel β w R v vs Blk.emp → RelVs β w R ds' (es'.toList.map (·.val)) O := by
    unfold updM at hu
    rw [← m7] at hu
    split at hu
    · rename_i j hf
      have hfn := findK_now _ _ _ hf
      simp only at hfn
      obtain ⟨_, e, q1, q2, q3⟩ := hfn
      simp only [Nat.sub_zero] at q1
      injection hu with hu
      injection hu with u1 u2
      subst u1 u2
      refine ⟨es.modify j fun e => { e with key := k, val := a.eval z }, clock, ?_, ?_, ?_⟩
      · have hej : es[j]? = some e := by simpa using q1
        unfold Instr.mapUpdate
        simp only [Sem.run_bind, run_underlying hu1, Result.andThen_ok, hg, run_key hku hkd, Instr.findKey, run_underlying hku, q2, Sem.run_pure, Instr.keyThatStays, hej, Option.map_some, Option.getD_some, same_keys q3, if_true, hset]
      · rw [Array.toList_modify]; exact modify_map (f := fun e : MapEntry => { e with key := k, val := a.eval z }) (g := fun e => e.key) (x := k) (fun _ => rfl) _ _
      · intro β w R O h1 h2
        rw [Array.toList_modify, modify_map (f := fun e : MapEntry => { e with key := k, val := a.eval z }) (g := fun e => e.val) (x := a.eval z) (fun _ => rfl)]
        exact relVs_set _ _ _ _ _ _ _ h1 v1 h2
    · rename_i hf
      have hfn := findK_now _ _ _ hf
      simp only at hfn
      injection hu with hu
      injection hu with u1 u2
      subst u1 u2
      refine ⟨es.push { key := k, val := a.eval z, born := clock }, clock + 1, ?_, by simp, ?_⟩
      · unfold Instr.mapUpdate
        simp only [Sem.run_bind, run_underlying hu1, Result.andThen_ok, hg, run_key hku hkd, Instr.findKey, run_underlying hku, hfn, Sem.run_pure, hset]
      · intro β w R O h1 h2
        have := relVs_snoc _ _ _ _ _ _ h1 v1 h2
        simpa using this
    · simp at hu
  obtain ⟨es', clock', hrun, hks, hrel⟩ := key
  have hsame : ∀ x, x ≠ rr → (w.heap.setIfInBounds rr (.map es' clock'))[x]? = w.heap[x]? := fun x hx => by rw [Array.getElem?_setIfInBounds_ne (Ne.symm hx)]
  have hst := behind_core (w' := { w with heap := w.heap.setIfInBounds rr (.map es' clock') }) (e' := .mapo ks' ds') h k1 k2 k3 rfl rfl hok (by
    intro Oe hOe
    simp only [Rel] at hOe ⊢
    obtain ⟨r2, es2, clock2, O2, s3, s4, s5, s6, s6', s7, s8⟩ := hOe
    rw [m3] at s3
    simp at s3
    subst s3
    rw [m5] at s5
    injection s5 with s5
    injection s5 with s5 s5'
    subst s5
    refine ⟨⟨rfl, rfl, rfl, by simp, fun k hk hne => hsame k fun e => hne (e ▸ s4)⟩, rr, es', clock', O2, by rw [m3], s4, by simp [hrl], s6, s6', hks, ?_⟩
    have hRr : ∀ x, R x → x ≠ rr := fun x hx e => h.apart r x hx (n2 x (n5 x (e ▸ m4)))
    have h2r : ∀ x, O2 x → x ≠ rr := fun x hx e => s6' (e ▸ hx)
    exact hrel _ _ _ _ (RelVs.up (fun _ _ x => x) (fun _ x => x) (fun x hx => hsame x (hRr x hx)) _ _ _ _ (fun x hx => hsame x (h2r x hx)) (fun _ x => x) s8) (Rel.up (fun _ _ x => x) (fun _ x => x) (fun x hx => hsame x (hRr x hx)) _ _ _ _ (fun _ x => x.elim) (fun _ x => x) v2))
  refine ⟨undef, _, R, Os, .inr ⟨?_, rfl⟩, by rw [hdst]; exact hst⟩
  rcases ho with ho | ho <;> simp [execOp, ho, m3, ey, hrun]
end
end Go.Proofs.YtfbppkjjdbkedaaGreatDoor.Ref
/-
  The abstract machine: components of tuples; a slice's own part; a variable that becomes a box.
-/
namespace Go.Proofs.YtfbppkjjdbkedaaGreatDoor.Ref
noncomputable section
open Go
set_option linter.unusedVariables false
variable {X : Cx}

theorem n_extract {S : ASt} {o : Oper} {x : Operand} {j : Nat} {ds : List D} {d : D} (ho : o.op = .extract x j) (hx : S.ev X.G x = some (.d (.tup ds))) (hj : ds[j]? = some d) (hr : d.ro = true) : NRes X S o (.d d) := by
  intro g β R Os a w hG h
  obtain ⟨O, ⟨vs, k1, k2⟩, _⟩ := evalV h (by rw [hG]; exact hx)
  obtain ⟨c, xs, Oe, m1, m2, m3, m4⟩ := relVs_get ds _ O j d k2 hj
  rw [Array.getElem?_toList] at m1
  refine came_same (v := c) ?_ (RelV.mk m2 (Rel.ro d xs Oe hr m3))
  simp [execOp, ho, k1, Instr.extract, m1]
theorem relVs_take {β : Env} {w : World} {R : Blk} : ∀ (ds : List D) (cs : List Value) (O : Blk) (j : Nat) (d : D), RelVs β w R ds cs O → ds[j]? = some d → ∃ c xs Oe Or, cs[j]? = some c ∧ packs d xs c ∧ Rel β w R d xs Oe ∧ RelVs β w R (ds.set j .dead) cs Or ∧ (∀ x, Oe x → O x) ∧ (∀ x, Or x → O x) ∧ Disj Oe Or
  | [], cs, O, j, d, h, hj => by simp at hj
  | e :: ds, cs, O, j, d, h, hj => by
    simp only [RelVs] at h
    obtain ⟨c, cs', ys, O1, O2, rfl, h0, h1, h2, h3, h4, h5⟩ := h
    cases j with
    | zero =>
      simp at hj
      subst hj
      refine ⟨c, ys, O1, O2, rfl, h0, h1, ?_, h3, h4, h5⟩
      simp only [List.set_cons_zero, RelVs]
      exact ⟨c, cs', [c], Blk.emp, O2, rfl, by simp [packs], by simp [Rel], h2, fun _ x => x.elim, fun _ x => x, fun _ x => x.elim⟩
    | succ j =>
      simp at hj
      obtain ⟨c', xs, Oe, Or, m1, m2, m3, m4, m5, m6, m7⟩ := relVs_take ds cs' O2 j d h2 hj
      refine ⟨c', xs, Oe, Or2 O1 Or, by simpa using m1, m2, m3, ?_, fun x hx => h4 x (m5 x hx), fun x hx => hx.elim (h3 x) fun hx => h4 x (m6 x hx), fun x hx hy => hy.elim (fun hy => h5 x hy (m5 x hx)) (m7 x hx)⟩
      simp only [List.set_cons_succ, RelVs]
      exact ⟨c, cs', ys, O1, Or, rfl, h0, h1, m4, fun x hx => .inl hx, fun x hx => .inr hx, fun x hx hy => h5 x hx (m6 x hy)⟩
theorem put_same {a : Act} {t : Nat} {c : Value} (h : a.tmps[t]? = some c) : a.put (some t) c = a := by
  have e : a.tmps.setIfInBounds t c = a.tmps := by
    apply Array.ext_getElem?
    intro i
    rw [Array.getElem?_setIfInBounds]
    split
    · rename_i hi
      subst hi
      split
      · exact h.symm
      · rename_i hlt
        exact absurd (Array.getElem?_eq_some_iff.1 h).1 hlt
    · rfl
  simp only [Act.put, e]
theorem e_extractO {S : ASt} {o : Oper} {t u : Nat} {j : Nat} {ds : List D} {d : D} (ho : o.op = .extract (.tmp t) j) (hdst : o.dst = some u) (hu : u < S.n) (hx : look S.slots t = some (.d (.tup ds))) (hj : ds[j]? = some d) (hne : u ≠ t) :
    Res X S o (((S.drop t).put t (.d (.tup (ds.set j .dead)))).put u (.d d)) := by
  intro g β R Os a w hG h
  obtain ⟨c, k1, vs, k2, k3⟩ := h.slots t _ hx
  obtain ⟨c', xs, Oe, Or, m1, m2, m3, m4, m5, m6, m7⟩ := relVs_take ds _ _ j d k3 hj
  have hd := h.dropS (y := t) ⟨c, k1⟩
  have htl : t < a.tmps.size := (Array.getElem?_eq_some_iff.1 k1).1
  have hs1 := hd.putX (Grow.refl w) (fun _ x => x) (fun _ x => .inl x) (t := t) (d := .tup (ds.set j .dead)) (v := c) (On := Or) htl ⟨vs, k2, m4⟩ (fun x hx => ⟨(h.own _ x (m6 x hx)).1, (h.own _ x (m6 x hx)).2, fun q hq hqx => by
    rw [Own.upd_other _ _ hq] at hqx; exact h.disj q _ hq x hqx (m6 x hx)⟩) (fun x hx hy => h.apart _ x hx (m6 x hy))
  rw [put_same k1] at hs1
  have hul : u < a.tmps.size := Nat.lt_of_lt_of_le hu h.size
  have hs2 := hs1.putX (Grow.refl w) (fun _ x => x) (fun _ x => .inl x) (t := u) (d := d) (v := c') (On := Oe) hul (RelV.mk m2 m3) (fun x hx => ⟨(h.own _ x (m5 x hx)).1, (h.own _ x (m5 x hx)).2, fun q hq hqx => by
    by_cases e : q = .slot t
    · rw [e, Own.upd_same] at hqx; exact m7 x hx hqx
    · rw [Own.upd_other _ _ e, Own.upd_other _ _ e] at hqx; exact h.disj q _ e x hqx (m5 x hx)⟩) (fun x hx hy => h.apart _ x hx (m5 x hy))
  rw [Array.getElem?_toList] at m1
  refine ⟨c', w, R, _, .inl ?_, by rw [hdst]; exact hs2⟩
  simp [execOp, ho, Act.eval, k1, k2, Instr.extract, m1]

/-- Part of a slice of ours: the rest is given up. -/
theorem e_sliceO (hX : X.Ok) {S : ASt} {o : Oper} {t el : TypeId} {i k : TI} {x : Operand} {lo hi : Option Operand} {u : Nat} {r : Root} {p : List Nat} {c0 : D} {nn : Bool} {sz l hh : Nat} {ds : List D} (ho : o.op = .slice t x lo hi none) (hdst : o.dst = some u) (hu : u < S.n) (ht : X.T t = some i) (hd : i.desc = .slice el) (he : X.T el = some k) (hs : k.size = sz)
    (hx : S.src X.G x = some (r, p)) (hc : S.cont r = some c0) (hk : c0.okc = true) (hg : D.get p c0 = some (.own nn sz ds)) (hro : D.roL ds = true) (hl : S.bnd X.G 0 lo = some l) (hhi : S.bnd X.G ds.length hi = some hh) (h1 : l ≤ hh) (h2 : hh ≤ ds.length) :
    Res X S o ((S.out r p).put u (.d (.own nn sz ((ds.drop l).take (hh - l))))) := by
  intro g β R Os a w hG h
  obtain ⟨d0, pos, pos', s1, s2, s3, s4⟩ := src_ok h (by rw [hG]; exact hx) (e := .own nn sz ds) (by rw [ASt.at, hc]; exact hg)
  have hcd : c0 = d0 := by rw [root_cont s1] at hc; injection hc with hc; exact hc.symm
  subst hcd
  obtain ⟨Os', Oe, k1, k2, k3, k4⟩ := take_core h s1 s2 s4 s3 hk
  have hut : u < a.tmps.size := Nat.lt_of_lt_of_le hu h.size
  have hun := (hX.ty t i ht).1
  rw [hd] at hun
  have hlen : ((ds.drop l).take (hh - l)).length = hh - l := by simp; omega
  have hmem : ∀ d ∈ (ds.drop l).take (hh - l), d ∈ ds := fun d hd => List.mem_of_mem_drop (List.mem_of_mem_take hd)
  have fin : ∀ v, (Instr.sliceAt t (a.eval x) (lo.map a.eval) (hi.map a.eval) none).run X.P w = .ok v w → Rel β w R (.own nn sz ((ds.drop l).take (hh - l))) [v] Oe → ∃ v w' R' Os'', ((execOp a.eval o).run X.P w = .ok (.value v) w' ∨ (execOp a.eval o).run X.P w = .ok .skip w' ∧ v = undef) ∧ StR g β R' Os'' ((S.out r p).put u (.d (.own nn sz ((ds.drop l).take (hh - l))))) (a.put o.dst v) w' := by
    intro v hv hrel
    refine ⟨v, w, R, Os'.upd (.slot u) Oe, .inl (by simp [execOp, ho, hv]), ?_⟩
    rw [hdst]
    exact k1.putX (Grow.refl w) (fun _ x => x) (fun _ x => .inl x) hut (RelV.mk (xs := [v]) (by simp [packs]) hrel) (fun x hx => ⟨(h.own r x (k3 x hx)).1, (h.own r x (k3 x hx)).2, fun q _ hq => k4 q x hq hx⟩) (fun x hx hy => h.apart r x hx (k3 x hy))
  simp only [Rel] at k2
  rcases k2 with ⟨m1, m2, m3⟩ | ⟨b, off, len, cap, all, T, O', m1, m2, m3, rfl, m5, m6, m7, m8, m9, m10⟩
  · injection m3 with m3
    subst m2
    simp only [List.length_nil] at h2 hhi
    have : l = 0 ∧ hh = 0 := by omega
    obtain ⟨rfl, rfl⟩ := this
    have hrb := run_bounds (P := X.P) (len := 0) (cap := 0) h (by rw [hG]; exact hl) (by rw [hG]; exact hhi) (Nat.le_refl 0) (Nat.le_refl 0) true
    refine fin (.slice none 0 0) ?_ (by simp [Rel, m1])
    simp [Instr.sliceAt, m3, Instr.slice, run_underlying hun, hrb, run_size hX he]
  · injection m1 with m1
    have hrb := run_bounds (P := X.P) (len := ds.length) (cap := cap) h (by rw [hG]; exact hl) (by rw [hG]; exact hhi) h1 (by omega) true
    have m10' := RelL.ro ds _ O' hro m10
    by_cases hm : cap = l
    · have e1 : l = ds.length := by omega
      have e2 : hh = l := by omega
      refine fin (.slice (some ⟨b, off, none⟩) 0 0) ?_ ?_
      · subst hm e2
        simp [Instr.sliceAt, m1, Instr.slice, run_underlying hun, hrb, run_size hX he]
      · simp only [Rel]
        refine .inr ⟨b, off, 0, 0, all, T, Blk.emp, rfl, m2, m3, by rw [hlen]; omega, ⟨Nat.le_refl _, by rw [hlen]; omega⟩, by omega, fun d hd => m7 d (hmem d hd), fun _ x => x.elim, fun x => x, ?_⟩
        have : (ds.drop l).take (hh - l) = [] := by apply List.eq_nil_of_length_eq_zero; rw [hlen]; omega
        rw [this]; simp [RelL]
    · refine fin (.slice (some ⟨b, off + l * sz, none⟩) (hh - l) (cap - l)) ?_ ?_
      · simp [Instr.sliceAt, m1, Instr.slice, run_underlying hun, hrb, run_size hX he, hm, add_off, hs]
      · simp only [Rel]
        have hle : hh * sz ≤ ds.length * sz := Nat.mul_le_mul_right _ h2
        have hsub : (hh - l) * sz = hh * sz - l * sz := Nat.sub_mul ..
        have hll : l * sz ≤ hh * sz := Nat.mul_le_mul_right _ h1
        have hcs : (cap - l) * sz = cap * sz - l * sz := Nat.sub_mul ..
        have hlc : l * sz ≤ cap * sz := Nat.mul_le_mul_right _ (by omega)
        refine .inr ⟨b, off + l * sz, hh - l, cap - l, all, T, Blk.emp, rfl, m2, m3, hlen.symm, ⟨by omega, by rw [hlen]; omega⟩, by omega, fun d hd => m7 d (hmem d hd), fun _ x => x.elim, fun x => x, ?_⟩
        have := relL_sub ds l (hh - l) _ m7 m10'
        rw [List.drop_take, List.drop_drop, List.take_take] at this
        rwa [show min ((hh - l) * sz) (ds.length * sz - l * sz) = (hh - l) * sz by omega] at this

/-- A variable behind a pointer becomes a box. -/
def ASt.lend (S : ASt) (t : Nat) : ASt := match look S.slots t with
  | some (.d (.cell d)) => { S with slots := (t, .d (.ref S.boxes.length [] 0)) :: kill (.slot t) S.slots, boxes := S.boxes ++ [d] }
  | _ => S
theorem wk_lend {S : ASt} {t : Nat} {d : D} (hl : look S.slots t = some (.d (.cell d))) (hnb : S.nb ≤ S.boxes.length) : Wk S (S.lend t) := by
  intro g β R Os a w h
  simp only [ASt.lend, hl]
  obtain ⟨c, k1, xs, k2, k3⟩ := h.slots t _ hl
  simp only [packs] at k2
  subst k2
  simp only [Rel] at k3
  obtain ⟨b, all, T, O', m1, m2, m3, m4, m5, m6⟩ := k3
  injection m1 with m1
  have hd := h.dropS (y := t) ⟨c, k1⟩
  let n := S.boxes.length
  have hn : β n = none := (h.ext n).2 (Nat.le_refl _)
  let β' : Env := fun k => if k = n then some b else β k
  have hβ : ∀ k x, β k = some x → β' k = some x := by
    intro k x hk
    have : k ≠ n := fun e => by rw [e, hn] at hk; cases hk
    simp [β', this, hk]
  have hO : ∀ q x, (Os.upd (.slot t) Blk.emp) q x → Os q x ∧ q ≠ .slot t := by
    intro q x hx
    by_cases hq : q = .slot t
    · rw [hq, Own.upd_same] at hx; exact hx.elim
    · rw [Own.upd_other _ _ hq] at hx; exact ⟨hx, hq⟩
  let Os2 : Own := (Os.upd (.slot t) Blk.emp).upd (.box n) (Or2 (Os (.box n)) (Os (.slot t)))
  have h2 : ∀ q x, Os2 q x → Os q x ∨ (q = .box n ∧ Os (.slot t) x) := by
    intro q x hx
    by_cases hq : q = .box n
    · simp only [Os2, hq, Own.upd_same] at hx; exact hx.elim (fun hx => .inl (hq ▸ hx)) (fun hx => .inr ⟨hq, hx⟩)
    · simp only [Os2, Own.upd_other _ _ hq] at hx; exact .inl (hO q x hx).1
  refine ⟨β', R, Os2, ?_, hd.size, hd.defers, ?_, ?_, ?_, ?_, ?_, ?_, h.read, h.fr, fun i d0 hi => (h.glob i d0 hi).up hβ (fun _ x => x) (fun _ _ => rfl)⟩
  · intro k
    refine ⟨fun hk => ?_, fun hk => ?_⟩
    · have : k ≠ n := by have : k < S.nb := hk; show k ≠ S.boxes.length; omega
      simp only [β', if_neg this]
      exact (h.ext k).1 hk
    · have hk' : S.boxes.length + 1 ≤ k := by simpa using hk
      have : k ≠ n := by show k ≠ S.boxes.length; omega
      simp only [β', if_neg this]
      exact (h.ext k).2 (by omega)
  · intro s e he
    by_cases hs : t = s
    · subst hs
      simp only [look_nil, look_cons, if_true, Option.some.injEq, TV.d.injEq] at he
      subst he
      exact ⟨c, k1, RelV.mk (xs := [c]) (by simp [packs]) (by simp only [Rel]; exact ⟨b, by simp [β', n], by rw [m1]⟩)⟩
    · obtain ⟨c', q1, q2⟩ := hd.slots s e (by rw [look_drop, if_neg hs]; simpa [look_nil, look_cons, hs] using he)
      refine ⟨c', q1, q2.up hβ (fun _ x => x) (fun _ _ => rfl) (fun _ _ => rfl) fun x hx => ?_⟩
      simp only [Os2, Own.upd_other _ _ (show Root.slot s ≠ Root.box n by simp)]
      exact hx
  · intro s bo q p hu
    by_cases hs : t = s
    · simp [look_nil, look_cons, hs] at hu
    · have hu' : look (kill (.slot t) S.slots) s = some (.u bo q p) := by simpa [look_nil, look_cons, hs] using hu
      obtain ⟨hl', hq⟩ := look_kill_u hu'
      refine (h.ups s bo q p hl').keep ?_ rfl (fun _ _ => rfl)
      intro d0 pos0 hra
      cases hra with
      | slot h1 h2 h3 =>
        rename_i t0 c0
        have hne : t ≠ t0 := fun e => hq (by rw [e])
        exact .slot (by simp only [look_nil, look_cons, if_neg hne]; rw [look_kill, h1]) h2 h3
      | box h1 h2 h3 =>
        exact .box (by rw [List.getElem?_append_left (List.getElem?_eq_some_iff.1 h1).1]; exact h1) h2 (hβ _ _ h3)
  · intro k e he
    rw [List.getElem?_append] at he
    split at he
    · rename_i hk
      have hne : k ≠ n := Nat.ne_of_lt hk
      refine (h.boxes k e he).up hβ (fun _ x => x) (fun _ _ => rfl) (fun _ _ => rfl) fun x hx => ?_
      simp only [Os2, Own.upd_other _ _ (show Root.box k ≠ Root.box n by simpa using hne), Own.upd_other _ _ (show Root.box k ≠ Root.slot t by simp)]
      exact hx
    · rename_i hk
      have hkn : k - S.boxes.length = 0 := by
        rcases Nat.eq_zero_or_pos (k - S.boxes.length) with h0 | h0
        · exact h0
        · rw [List.getElem?_eq_none (by simp; omega)] at he; simp at he
      rw [hkn] at he
      simp at he
      subst he
      have hkn : k = n := by show k = S.boxes.length; omega
      subst hkn
      have hown : ∀ x, Os (.slot t) x → Os2 (.box n) x := fun x hx => by simp only [Os2, Own.upd_same]; exact .inr hx
      have : ∃ x all T O', β' n = some x ∧ Os2 (.box n) x ∧ w.heap[x]? = some (.cells all T (0, 0)) ∧ (∀ y, O' y → Os2 (.box n) y) ∧ ¬ O' x ∧ Rel β' w R d all.toList O' :=
        ⟨b, all, T, O', by simp [β', n], hown b m2, m3, fun y hy => hown y (m4 y hy), m5, Rel.up hβ (fun _ x => x) (fun _ _ => rfl) _ _ _ _ (fun _ _ => rfl) (fun _ x => x) m6⟩
      cases d <;> first | exact this | trivial
  · intro q s hqs x hx hy
    rcases h2 q x hx with hx' | ⟨e1, hx'⟩
    · rcases h2 s x hy with hy' | ⟨e2, hy'⟩
      · exact h.disj q s hqs x hx' hy'
      · by_cases hq : q = .slot t
        · subst hq
          simp only [Os2, Own.upd_other _ _ (show Root.slot t ≠ Root.box n by simp), Own.upd_same] at hx
          exact hx
        · exact h.disj q _ hq x hx' hy'
    · rcases h2 s x hy with hy' | ⟨e2, hy'⟩
      · by_cases hs : s = .slot t
        · subst hs
          simp only [Os2, Own.upd_other _ _ (show Root.slot t ≠ Root.box n by simp), Own.upd_same] at hy
          exact hy
        · exact h.disj s _ hs x hy' hx'
      · exact hqs (e1.trans e2.symm)
  · intro q x hR hx
    rcases h2 q x hx with hx | ⟨_, hx⟩
    · exact h.apart q x hR hx
    · exact h.apart _ x hR hx
  · intro q x hx
    rcases h2 q x hx with hx | ⟨_, hx⟩
    · exact h.own q x hx
    · exact h.own _ x hx

/-- An element of an array that nobody turns. -/
theorem n_idxAF (hX : X.Ok) {S : ASt} {o : Oper} {t e : TypeId} {i k : TI} {x y : Operand} {m : Nat} {ds : List D} {kd : IntKind} {n : Int} {d : D} (ho : o.op = .indexAddr t x y) (ht : X.T t = some i) (hd : i.desc = .array m e)
    (he : X.T e = some k) (hx : S.ev X.G x = some (.d (.fz (.agg ds)))) (hy : S.ev X.G y = some (.d (.v (.int kd n)))) (h0 : 0 ≤ n) (hm : n < m) (hn : ds[n.toNat]? = some d) (hs : D.ncL (ds.take n.toNat) = n.toNat * k.size) : NRes X S o (.d (.fz d)) := by
  intro g β R Os a w hG h
  obtain ⟨xs, h1, h2⟩ := evalR h (by rw [hG]; exact hx) rfl
  have ey := ev_v h (by rw [hG]; exact hy)
  simp only [Rel] at h2
  obtain ⟨b, off, all, T, fr, k1, k2, k3, k4, k5⟩ := h2
  simp only [packs] at h1
  rw [k1] at h1
  injection h1 with h1
  have hu := (hX.ty t i ht).1
  rw [hd] at hu
  have hrun : (Instr.indexAt t (.pointer (some ⟨b, off, none⟩)) (.int kd n)).run X.P w = .ok (.pointer (some ⟨b, off + n.toNat * k.size, none⟩)) w := by
    simp [Instr.indexAt, asIntOf, run_under hX ht, hd, Instr.sureAddr, h0, hm, run_size hX he, add_off]
  refine came_same (v := .pointer (some ⟨b, off + n.toNat * k.size, none⟩)) ?_ (RelV.mk (xs := [.pointer (some ⟨b, off + n.toNat * k.size, none⟩)]) (by simp [packs]) ?_)
  · simp [execOp, ho, ← h1, ey, hrun]
  · obtain ⟨c1, c2, c3, Oe, q1, q2, q3, q4⟩ := relL_get ds n.toNat _ _ d k5 hn
    have hl := Rel.len _ _ _ q3
    have hlen : ((all.toList.drop off).take (D.agg ds).nc).length = (D.agg ds).nc := (of_take_drop k4).1
    rw [q1] at hlen
    simp at hlen
    rw [hs] at q2
    simp only [Rel]
    refine ⟨b, off + n.toNat * k.size, all, T, fr, rfl, k2, k3, by omega, ?_⟩
    have : (all.toList.drop (off + n.toNat * k.size)).take d.nc = c2 := by
      have e0 : ((all.toList.drop off).take (D.agg ds).nc).drop (n.toNat * k.size) = c2 ++ c3 := by rw [q1, ← q2, List.drop_left]
      have e2 := congrArg (List.take c2.length) e0
      rw [List.drop_take, List.take_take, Nat.min_eq_left (by omega), List.drop_drop] at e2
      rw [← hl]
      simpa using e2
    rw [this]
    exact Rel.up (fun _ _ x => x) (fun _ x => x) (fun _ _ => rfl) d c2 Oe _ (fun _ _ => rfl) q4 q3
end
end Go.Proofs.YtfbppkjjdbkedaaGreatDoor.Ref
/-
  The abstract machine as a program: operations that turn nothing.
-/
namespace Go.Proofs.YtfbppkjjdbkedaaGreatDoor.Ref
noncomputable section
open Go
set_option linter.unusedVariables false
variable {X : Cx}

def gd {α : Type} (b : Bool) (x : Option α) : Option α := match b with
  | true => x
  | false => none
theorem gd_eq {α : Type} {b : Bool} {x : Option α} {y : α} (h : gd b x = some y) : b = true ∧ x = some y := by cases b <;> simp [gd] at h ⊢; exact h
def bd {α β : Type} (x : Option α) (f : α → Option β) : Option β := match x with
  | some a => f a
  | none => none
theorem bd_eq {α β : Type} {x : Option α} {f : α → Option β} {y : β} (h : bd x f = some y) : ∃ a, x = some a ∧ f a = some y := by
  cases x with
  | none => simp [bd] at h
  | some a => exact ⟨a, rfl, h⟩

def asD : Option TV → Option D
  | some (.d d) => some d
  | _ => none
theorem asD_eq {x : Option TV} {d : D} (h : asD x = some d) : x = some (.d d) := by unfold asD at h; split at h <;> simp at h; rw [h]
def asV : Option TV → Option Value
  | some (.d (.v v)) => some v
  | _ => none
theorem asV_eq {x : Option TV} {v : Value} (h : asV x = some v) : x = some (.d (.v v)) := by unfold asV at h; split at h <;> simp at h; rw [h]
def asI : Option TV → Option (IntKind × Int)
  | some (.d (.v (.int k n))) => some (k, n)
  | _ => none
theorem asI_eq {x : Option TV} {k : IntKind} {n : Int} (h : asI x = some (k, n)) : x = some (.d (.v (.int k n))) := by unfold asI at h; split at h <;> simp at h; rw [h.1, h.2]
def asB : Option TV → Option Bool
  | some (.d (.v (.bool b))) => some b
  | _ => none
theorem asB_eq {x : Option TV} {b : Bool} (h : asB x = some b) : x = some (.d (.v (.bool b))) := by unfold asB at h; split at h <;> simp at h; rw [h]
def asS : Option TV → Option ByteArray
  | some (.d (.v (.string s))) => some s
  | _ => none
theorem asS_eq {x : Option TV} {b : ByteArray} (h : asS x = some b) : x = some (.d (.v (.string b))) := by unfold asS at h; split at h <;> simp at h; rw [h]
def sliceE : TypeDesc → Option TypeId
  | .slice e => some e
  | _ => none
theorem sliceE_eq {d : TypeDesc} {e : TypeId} (h : sliceE d = some e) : d = .slice e := by unfold sliceE at h; split at h <;> simp at h; rw [h]
def isStr : TypeDesc → Bool
  | .string => true
  | _ => false
theorem isStr_eq {d : TypeDesc} (h : isStr d = true) : d = .string := by unfold isStr at h; split at h <;> simp at h; rfl

/-- Facts of a slice type: its element's. -/
def Cx.sl (X : Cx) (t : TypeId) : Option (TypeId × TI) := bd (X.T t) fun i => bd (sliceE i.desc) fun e => bd (X.T e) fun k => some (e, k)
theorem sl_eq {t e : TypeId} {k : TI} (h : X.sl t = some (e, k)) : ∃ i, X.T t = some i ∧ i.desc = .slice e ∧ X.T e = some k := by
  obtain ⟨i, h1, h⟩ := bd_eq h
  obtain ⟨e', h2, h⟩ := bd_eq h
  obtain ⟨k', h3, h⟩ := bd_eq h
  simp at h
  obtain ⟨rfl, rfl⟩ := h
  exact ⟨i, h1, sliceE_eq h2, h3⟩

def nilOk (S : ASt) : TV → Bool
  | .u true r p => match S.at r p with
    | some (.cell _) => true
    | _ => false
  | _ => true
def loadN (X : Cx) (S : ASt) (t : TypeId) (x : Operand) : Option TV := bd (X.T t) fun i => match S.ev X.G x with
  | some (.d (.fz e)) => gd (i.fits e) (some (.d e))
  | _ => bd (S.ptr X.G x) fun rp => bd (S.at rp.1 rp.2) fun e => gd (i.fits e) (if e.ro then some (.d e) else if e.isHdr then some (.u true rp.1 rp.2) else none)
theorem loadN_ok (hX : X.Ok) {S : ASt} {o : Oper} {t : TypeId} {x : Operand} {tv : TV} (ho : o.op = .load t x) (h : loadN X S t x = some tv) : NRes X S o tv := by
  obtain ⟨i, ht, h⟩ := bd_eq h
  split at h
  · rename_i e he
    obtain ⟨hf, h⟩ := gd_eq h
    injection h with h; subst h
    exact n_loadF hX ho ht he hf
  · obtain ⟨⟨r, p⟩, hp, h⟩ := bd_eq h
    obtain ⟨e, he, h⟩ := bd_eq h
    obtain ⟨hf, h⟩ := gd_eq h
    split at h
    · rename_i hr
      injection h with h; subst h
      exact n_load hX ho ht hp he hr hf
    · split at h
      · rename_i hh
        injection h with h; subst h
        exact n_loadH hX ho ht hp he hh hf
      · simp at h
def aggL : D → Option (List D)
  | .agg ds => some ds
  | _ => none
theorem aggL_eq {d : D} {ds : List D} (h : aggL d = some ds) : d = .agg ds := by cases d <;> simp [aggL] at h; rw [h]
def fieldN (X : Cx) (S : ASt) (s : TypeId) (x : Operand) (j : Nat) : Option TV := bd (X.fld s j) fun n => match S.ev X.G x with
  | some (.d (.fz (.agg ds))) => bd ds[j]? fun e => gd (Nat.beq (D.ncL (ds.take j)) n) (some (.d (.fz e)))
  | _ => bd (S.ptr X.G x) fun rp => bd (S.at rp.1 rp.2) fun a => bd (aggL a) fun ds => bd ds[j]? fun e => gd (Nat.beq (D.ncL (ds.take j)) n) (some (.u false rp.1 (rp.2 ++ [j])))
theorem fieldN_ok (hX : X.Ok) {S : ASt} {o : Oper} {s : TypeId} {x : Operand} {j : Nat} {tv : TV} (ho : o.op = .fieldAddr s x j) (h : fieldN X S s x j = some tv) : NRes X S o tv := by
  obtain ⟨n, hn, h⟩ := bd_eq h
  split at h
  · rename_i ds he
    obtain ⟨e, hj, h⟩ := bd_eq h
    obtain ⟨hb, h⟩ := gd_eq h
    injection h with h; subst h
    exact n_fieldF hX ho hn he hj (Nat.eq_of_beq_eq_true hb)
  · obtain ⟨⟨r, p⟩, hp, h⟩ := bd_eq h
    obtain ⟨a, ha, h⟩ := bd_eq h
    obtain ⟨ds, hd, h⟩ := bd_eq h
    obtain ⟨e, hj, h⟩ := bd_eq h
    obtain ⟨hb, h⟩ := gd_eq h
    injection h with h; subst h
    exact n_field hX ho hn hp (by rw [ha, aggL_eq hd]) hj (Nat.eq_of_beq_eq_true hb)
def rowL : D → Option (Bool × Nat × List D)
  | .row nn sz ds => some (nn, sz, ds)
  | _ => none
theorem rowL_eq {d : D} {nn : Bool} {sz : Nat} {ds : List D} (h : rowL d = some (nn, sz, ds)) : d = .row nn sz ds := by cases d <;> simp [rowL] at h; obtain ⟨rfl, rfl, rfl⟩ := h; rfl
def ownL : D → Option (Bool × Nat × List D)
  | .own nn sz ds => some (nn, sz, ds)
  | _ => none
theorem ownL_eq {d : D} {nn : Bool} {sz : Nat} {ds : List D} (h : ownL d = some (nn, sz, ds)) : d = .own nn sz ds := by cases d <;> simp [ownL] at h; obtain ⟨rfl, rfl, rfl⟩ := h; rfl
def idxN (X : Cx) (S : ASt) (t : TypeId) (x y : Operand) : Option TV := bd (X.sl t) fun ek => bd (asI (S.ev X.G y)) fun kn => gd (decide (0 ≤ kn.2)) <| match S.ev X.G x with
  | some (.d (.row _ sz ds)) => gd (Nat.beq ek.2.size sz) (bd ds[kn.2.toNat]? fun d => some (.d (.fz d)))
  | _ => bd (S.sli X.G x) fun rp => bd (S.at rp.1 rp.2) fun a => bd (ownL a) fun w => gd (Nat.beq ek.2.size w.2.1) (gd (decide (kn.2 < w.2.2.length)) (some (.u false rp.1 (rp.2 ++ [kn.2.toNat]))))
theorem idxN_ok (hX : X.Ok) {S : ASt} {o : Oper} {t : TypeId} {x y : Operand} {tv : TV} (ho : o.op = .indexAddr t x y) (h : idxN X S t x y = some tv) : NRes X S o tv := by
  obtain ⟨⟨e, k⟩, hs, h⟩ := bd_eq h
  obtain ⟨i, ht, hd, he⟩ := sl_eq hs
  obtain ⟨⟨kd, n⟩, hy, h⟩ := bd_eq h
  obtain ⟨h0, h⟩ := gd_eq h
  have hy := asI_eq hy
  split at h
  · rename_i nn sz ds hx
    obtain ⟨hb, h⟩ := gd_eq h
    obtain ⟨d, hn, h⟩ := bd_eq h
    injection h with h; subst h
    exact n_idxR hX ho ht hd he hx hy (by simpa using h0) hn (Nat.eq_of_beq_eq_true hb)
  · obtain ⟨⟨r, p⟩, hp, h⟩ := bd_eq h
    obtain ⟨a, ha, h⟩ := bd_eq h
    obtain ⟨⟨nn, sz, ds⟩, hw, h⟩ := bd_eq h
    obtain ⟨hb, h⟩ := gd_eq h
    obtain ⟨hl, h⟩ := gd_eq h
    injection h with h; subst h
    exact n_idxO hX ho ht hd he hp (by rw [ha, ownL_eq hw]) hy (by simpa using h0) (by simpa using hl) (Nat.eq_of_beq_eq_true hb)
def byteN (X : Cx) (S : ASt) (t : TypeId) (x y : Operand) : Option TV := bd (X.T t) fun i => gd (isStr i.desc) <| bd (asS (S.ev X.G x)) fun s => bd (asI (S.ev X.G y)) fun kn => gd (decide (0 ≤ kn.2)) <| bd s.data.toList[kn.2.toNat]? fun b => some (.d (.v (.int .u8 b.toNat)))
theorem byteN_ok (hX : X.Ok) {S : ASt} {o : Oper} {t : TypeId} {x y : Operand} {tv : TV} (ho : o.op = .index t x y) (h : byteN X S t x y = some tv) : NRes X S o tv := by
  obtain ⟨i, ht, h⟩ := bd_eq h
  obtain ⟨hi, h⟩ := gd_eq h
  obtain ⟨s, hx, h⟩ := bd_eq h
  obtain ⟨⟨k, n⟩, hy, h⟩ := bd_eq h
  obtain ⟨h0, h⟩ := gd_eq h
  obtain ⟨b, hb, h⟩ := bd_eq h
  injection h with h; subst h
  exact n_byte hX ho ht (isStr_eq hi) (asS_eq hx) (asI_eq hy) (by simpa using h0) hb
def isEq : BinOp → Option Bool
  | .eql => some false
  | .neq => some true
  | _ => none
theorem isEq_eq {op : BinOp} {b : Bool} (h : isEq op = some b) : op = if b then .neq else .eql := by cases op <;> simp [isEq] at h <;> subst h <;> rfl
def nilN (X : Cx) (S : ASt) (op : BinOp) (t : TypeId) (x y : Operand) : Option TV := bd (isEq op) fun ng => bd (X.T t) fun i => bd (descK i.desc) fun j => bd (S.kind X.G x) fun a => bd (S.kind X.G y) fun b =>
  gd (Nat.beq a.2 j && Nat.beq b.2 j && (a.1 || b.1) && (!(Nat.beq j 5 && a.1 && b.1) || (isConst x || isConst y))) (some (.d (.v (.bool ((a.1 && b.1) != ng)))))
theorem nilN_ok (hX : X.Ok) {S : ASt} {o : Oper} {op : BinOp} {t u : TypeId} {x y : Operand} {tv : TV} (ho : o.op = .binOp op t x y u) (h : nilN X S op t x y = some tv) : NRes X S o tv := by
  obtain ⟨ng, h1, h⟩ := bd_eq h
  obtain ⟨i, ht, h⟩ := bd_eq h
  obtain ⟨j, hj, h⟩ := bd_eq h
  obtain ⟨⟨b1, j1⟩, hx, h⟩ := bd_eq h
  obtain ⟨⟨b2, j2⟩, hy, h⟩ := bd_eq h
  obtain ⟨hc, h⟩ := gd_eq h
  injection h with h; subst h
  simp only [Bool.and_eq_true] at hc
  obtain ⟨⟨⟨q1, q2⟩, q3⟩, q4⟩ := hc
  have e1 := Nat.eq_of_beq_eq_true q1
  have e2 := Nat.eq_of_beq_eq_true q2
  subst e1 e2
  refine n_eqnil hX (by rw [ho, isEq_eq h1]) ht hj hx hy q3 ?_
  rintro rfl rfl rfl
  simpa using q4
def binV (op : BinOp) (a b : Value) : Option Value := match op, a, b with
  | .add, .string a, .string b => gd (decide (a.data.toList.length + b.data.toList.length ≤ 9223372036854775807)) (some (.string (catB a b)))
  | .rem, .int k m, .int k' n => gd (decide (k = k') && !decide (n = 0)) (some (.int k (m.tmod n)))
  | .quo, .int k m, .int k' n => gd (decide (k = k') && !decide (n = 0)) (some (.int k (k.wrap (m.tdiv n))))
  | op, a, b => bin op a b
def asIE : Option TV → Option (TypeId × Bool)
  | some (.d (.ifc t (.agg []))) => some (t, true)
  | some (.d (.ifc t _)) => some (t, false)
  | _ => none
theorem asIE_eq {x : Option TV} {t : TypeId} {b : Bool} (h : asIE x = some (t, b)) : ∃ d, x = some (.d (.ifc t d)) ∧ (b = true → d = .agg []) := by
  unfold asIE at h
  split at h
  · simp only [Option.some.injEq, Prod.mk.injEq] at h
    exact ⟨_, by rw [h.1], fun _ => rfl⟩
  · simp only [Option.some.injEq, Prod.mk.injEq] at h
    exact ⟨_, by rw [h.1], fun hb => by rw [hb] at h; cases h.2⟩
  · simp at h
def isIfc' : TypeDesc → Bool
  | .interface _ => true
  | _ => false
/-- Interface values: of other types, or of the same struct without fields. -/
def eqIfc (X : Cx) (S : ASt) (op : BinOp) (t : TypeId) (x y : Operand) : Option TV := bd (isEq op) fun ng => bd (X.T t) fun i => gd (isIfc' i.desc) <| bd (asIE (S.ev X.G x)) fun a => bd (asIE (S.ev X.G y)) fun b => match Nat.beq a.1 b.1 with
  | true => gd (a.2 && b.2 && X.Q a.1) (some (.d (.v (.bool (true != ng)))))
  | false => some (.d (.v (.bool (false != ng))))
theorem eqIfc_ok (hX : X.Ok) {S : ASt} {o : Oper} {op : BinOp} {t u : TypeId} {x y : Operand} {tv : TV} (ho : o.op = .binOp op t x y u) (h : eqIfc X S op t x y = some tv) : NRes X S o tv := by
  obtain ⟨ng, h1, h⟩ := bd_eq h
  obtain ⟨i, ht, h⟩ := bd_eq h
  obtain ⟨hi, h⟩ := gd_eq h
  obtain ⟨⟨t1, b1⟩, hx, h⟩ := bd_eq h
  obtain ⟨⟨t2, b2⟩, hy, h⟩ := bd_eq h
  obtain ⟨d1, hx, e1⟩ := asIE_eq hx
  obtain ⟨d2, hy, e2⟩ := asIE_eq hy
  obtain ⟨ms, hd⟩ : ∃ ms, i.desc = .interface ms := by
    unfold isIfc' at hi; split at hi
    · rename_i ms hm; exact ⟨ms, hm⟩
    · cases hi
  have hop := isEq_eq h1
  intro g β R Os act w hG hst
  obtain ⟨xs, p1, p2⟩ := evalR hst (by rw [hG]; exact hx) rfl
  obtain ⟨ys, q1, q2⟩ := evalR hst (by rw [hG]; exact hy) rfl
  simp only [packs] at p1 q1
  simp only [Rel] at p2 q2
  obtain ⟨c1, x1, p3, p4, p5⟩ := p2
  obtain ⟨c2, x2, q3, q4, q5⟩ := q2
  rw [p1] at p3
  rw [q1] at q3
  injection p3 with p3
  injection q3 with q3
  have hu := (hX.ty t i ht).1
  rw [hd] at hu
  have main : ∀ r : Bool, (Op.equalIn (9999 + 1) t (.iface t1 c1) (.iface t2 c2)).run X.P w = .ok r w → Came β S act R w ((execOp act.eval o).run X.P w) (.d (.v (.bool (r != ng)))) := by
    intro r hr
    refine came_same (v := .bool (r != ng)) ?_ (RelV.mk (xs := [.bool (r != ng)]) (by simp [packs]) (by simp [Rel, scal]))
    have e : execOp act.eval o = (do let v ← (do eqGuard op t x y (act.eval x) (act.eval y); binOp op t (act.eval x) (act.eval y) : Sem Value); pure (.value v) : Sem Next) := by unfold execOp; rw [ho]
    have hr' : (Op.equal t (.iface t1 c1) (.iface t2 c2)).run X.P w = .ok r w := hr
    have hg : (eqGuard op t x y (.iface t1 c1) (.iface t2 c2)).run X.P w = .ok () w := by rw [hop]; cases ng <;> rfl
    have hb : (binOp op t (.iface t1 c1) (.iface t2 c2)).run X.P w = .ok (.bool (r != ng)) w := by
      rw [hop]
      cases ng <;> simp [binOp, hr']
    rw [e, p3, q3]
    simp only [Sem.run_bind, hg, Result.andThen_ok, hb, Sem.run_pure]
  split at h
  · rename_i hb
    have hb : t1 = t2 := Nat.eq_of_beq_eq_true hb
    subst hb
    obtain ⟨hc, h⟩ := gd_eq h
    injection h with h; subst h
    simp only [Bool.and_eq_true] at hc
    obtain ⟨m1, ⟨inf, m2, m3⟩, m4⟩ := hX.emp t1 hc.2
    have ed1 := e1 hc.1.1
    have ed2 := e2 hc.1.2
    subst ed1 ed2
    simp only [Rel, RelL] at p5 q5
    simp only [packs] at p4 q4
    subst p5 q5 p4 q4
    refine main true ?_
    have hinf : (typeInfo t1).run X.P w = .ok inf w := by simp [typeInfo, program, Sem.run, Sem.bind, m2, bind, pure]
    have hin : (Op.equalIn (9998 + 1) t1 (.agg #[]) (.agg #[])).run X.P w = .ok true w := by
      rw [Op.equalIn]
      have hp : ∀ (w : World), (program : Sem Program).run X.P w = .ok X.P w := fun w => rfl
      simp [run_underlying m1, hp, m4]
    rw [Op.equalIn]
    simp only [Sem.run_bind, run_underlying hu, Result.andThen_ok, ne_eq, not_true_eq_false, if_false, hinf, m3, Bool.not_true, Bool.false_eq_true]
    exact hin
  · rename_i hb
    injection h with h; subst h
    have hne : t1 ≠ t2 := fun e => by rw [e, Nat.beq_refl] at hb; cases hb
    refine main false ?_
    rw [Op.equalIn]
    simp only [Sem.run_bind, run_underlying hu, Result.andThen_ok, ne_eq, hne, not_false_eq_true, if_true, Sem.run_pure]
def isBool' : TypeDesc → Bool
  | .bool => true
  | _ => false
/-- Truth values. -/
def eqBoolN (X : Cx) (S : ASt) (op : BinOp) (t : TypeId) (x y : Operand) : Option TV := bd (isEq op) fun ng => bd (X.T t) fun i => gd (isBool' i.desc) <| bd (asB (S.ev X.G x)) fun a => bd (asB (S.ev X.G y)) fun b => some (.d (.v (.bool (Bool.xor (a == b) ng))))
theorem eqBoolN_ok (hX : X.Ok) {S : ASt} {o : Oper} {op : BinOp} {t u : TypeId} {x y : Operand} {tv : TV} (ho : o.op = .binOp op t x y u) (h : eqBoolN X S op t x y = some tv) : NRes X S o tv := by
  obtain ⟨ng, h1, h⟩ := bd_eq h
  obtain ⟨i, ht, h⟩ := bd_eq h
  obtain ⟨hi, h⟩ := gd_eq h
  obtain ⟨a, hx, h⟩ := bd_eq h
  obtain ⟨b, hy, h⟩ := bd_eq h
  injection h with h; subst h
  have hx := asB_eq hx
  have hy := asB_eq hy
  have hd : i.desc = .bool := by
    unfold isBool' at hi; split at hi
    · rename_i hm; exact hm
    · cases hi
  have hop := isEq_eq h1
  intro g β R Os act w hG hst
  obtain ⟨xs, p1, p2⟩ := evalR hst (by rw [hG]; exact hx) rfl
  obtain ⟨ys, q1, q2⟩ := evalR hst (by rw [hG]; exact hy) rfl
  simp only [packs] at p1 q1
  simp only [Rel] at p2 q2
  rw [p1] at p2
  rw [q1] at q2
  have p3 := p2.2; have q3 := q2.2
  injection p3 with p3
  injection q3 with q3
  have hu := (hX.ty t i ht).1
  rw [hd] at hu
  have hr : (Op.equalIn (9999 + 1) t (.bool a) (.bool b)).run X.P w = .ok (a == b) w := by
    rw [Op.equalIn]
    simp only [Sem.run_bind, run_underlying hu, Result.andThen_ok, Sem.run_pure]
  refine came_same (v := .bool (Bool.xor (a == b) ng)) ?_ (RelV.mk (xs := [.bool (Bool.xor (a == b) ng)]) (by simp [packs]) (by simp [Rel, scal]))
  have e : execOp act.eval o = (do let v ← (do eqGuard op t x y (act.eval x) (act.eval y); binOp op t (act.eval x) (act.eval y) : Sem Value); pure (.value v) : Sem Next) := by unfold execOp; rw [ho]
  have hr' : (Op.equal t (.bool a) (.bool b)).run X.P w = .ok (a == b) w := hr
  have hg : (eqGuard op t x y (.bool a) (.bool b)).run X.P w = .ok () w := by rw [hop]; cases ng <;> rfl
  have hb : (binOp op t (.bool a) (.bool b)).run X.P w = .ok (.bool (Bool.xor (a == b) ng)) w := by
    rw [hop]
    cases ng <;> simp [binOp, hr']
  rw [e, p3, q3]
  simp only [Sem.run_bind, hg, Result.andThen_ok, hb, Sem.run_pure]
def orE {α : Type} (x y : Option α) : Option α := match x with
  | some a => some a
  | none => y
theorem orE_eq {α : Type} {x y : Option α} {a : α} (h : orE x y = some a) : x = some a ∨ y = some a := by cases x <;> simp [orE] at h ⊢ <;> simp [h]
theorem nilIfc_ok (hX : X.Ok) {S : ASt} {o : Oper} {op : BinOp} {t u : TypeId} {x y : Operand} {tv : TV} (ho : o.op = .binOp op t x y u) (h : orE (nilN X S op t x y) (orE (eqIfc X S op t x y) (eqBoolN X S op t x y)) = some tv) : NRes X S o tv := by
  rcases orE_eq h with h | h
  · exact nilN_ok hX ho h
  rcases orE_eq h with h | h
  · exact eqIfc_ok hX ho h
  · exact eqBoolN_ok hX ho h
def binN (X : Cx) (S : ASt) (op : BinOp) (t : TypeId) (x y : Operand) : Option TV := match asV (S.ev X.G x), asV (S.ev X.G y) with
  | some a, some b => match binV op a b with
    | some v => gd (scal v) (some (.d (.v v)))
    | none => orE (nilN X S op t x y) (orE (eqIfc X S op t x y) (eqBoolN X S op t x y))
  | _, _ => orE (nilN X S op t x y) (orE (eqIfc X S op t x y) (eqBoolN X S op t x y))
theorem binN_ok (hX : X.Ok) {S : ASt} {o : Oper} {op : BinOp} {t u : TypeId} {x y : Operand} {tv : TV} (ho : o.op = .binOp op t x y u) (h : binN X S op t x y = some tv) : NRes X S o tv := by
  unfold binN at h
  split at h
  · rename_i a b hx hy
    split at h
    · rename_i v hv
      obtain ⟨hs, h⟩ := gd_eq h
      injection h with h; subst h
      have hx := asV_eq hx
      have hy := asV_eq hy
      unfold binV at hv
      split at hv
      · obtain ⟨hl, hv⟩ := gd_eq hv
        injection hv with hv; subst hv
        refine n_cat ho hx hy ?_
        simpa using hl
      · obtain ⟨hl, hv⟩ := gd_eq hv
        injection hv with hv; subst hv
        simp at hl
        obtain ⟨rfl, hl⟩ := hl
        exact n_rem ho hx hy hl
      · obtain ⟨hl, hv⟩ := gd_eq hv
        injection hv with hv; subst hv
        simp at hl
        obtain ⟨rfl, hl⟩ := hl
        exact n_quo ho hx hy hl
      · exact n_bin ho hx hy hv hs
    · exact nilIfc_ok hX ho h
  · exact nilIfc_ok hX ho h
def unN (X : Cx) (S : ASt) (op : UnOp) (x : Operand) : Option TV := match op with
  | .not => bd (asB (S.ev X.G x)) fun b => some (.d (.v (.bool (!b))))
  | .neg => bd (asI (S.ev X.G x)) fun kn => some (.d (.v (.int kn.1 (kn.1.wrap (0 - kn.2)))))
  | .xor => bd (asI (S.ev X.G x)) fun kn => some (.d (.v (.int kn.1 (kn.1.wrap (BitVec.ofInt kn.1.bits (if kn.1.signed then -1 else kn.1.max) ^^^ BitVec.ofInt kn.1.bits kn.2).toNat))))
  | _ => none
theorem unN_ok {S : ASt} {o : Oper} {op : UnOp} {t : TypeId} {x : Operand} {tv : TV} (ho : o.op = .unOp op t x) (h : unN X S op x = some tv) : NRes X S o tv := by
  unfold unN at h
  split at h
  · obtain ⟨b, hb, h⟩ := bd_eq h
    injection h with h; subst h
    exact n_not ho (asB_eq hb)
  · obtain ⟨⟨k, n⟩, hb, h⟩ := bd_eq h
    injection h with h; subst h
    exact n_neg ho (asI_eq hb)
  · obtain ⟨⟨k, n⟩, hb, h⟩ := bd_eq h
    injection h with h; subst h
    exact n_xor ho (asI_eq hb)
  · simp at h
end
end Go.Proofs.YtfbppkjjdbkedaaGreatDoor.Ref
/-
  The abstract machine as a program: more operations that turn nothing.
-/
namespace Go.Proofs.YtfbppkjjdbkedaaGreatDoor.Ref
noncomputable section
open Go
set_option linter.unusedVariables false
variable {X : Cx}

def intK : TypeDesc → Option IntKind
  | .int k => some k
  | _ => none
theorem intK_eq {d : TypeDesc} {k : IntKind} (h : intK d = some k) : d = .int k := by unfold intK at h; split at h <;> simp at h; rw [h]
def convN (X : Cx) (S : ASt) (s t : TypeId) (x : Operand) : Option TV := bd (X.T s) fun i => bd (X.T t) fun k => match intK k.desc with
  | some kd => bd (asI (S.ev X.G x)) fun kn => some (.d (.v (.int kd (kd.wrap kn.2))))
  | none => gd (isStr k.desc) (bd (asS (S.ev X.G x)) fun b => some (.d (.v (.string b))))
theorem convN_ok (hX : X.Ok) {S : ASt} {o : Oper} {s t : TypeId} {x : Operand} {tv : TV} (ho : o.op = .convert s t x) (h : convN X S s t x = some tv) : NRes X S o tv := by
  obtain ⟨i, hs, h⟩ := bd_eq h
  obtain ⟨k, ht, h⟩ := bd_eq h
  split at h
  · rename_i kd hk
    obtain ⟨⟨k', n⟩, hx, h⟩ := bd_eq h
    injection h with h; subst h
    exact n_convI hX ho hs ht (intK_eq hk) (asI_eq hx)
  · obtain ⟨hi, h⟩ := gd_eq h
    obtain ⟨b, hx, h⟩ := bd_eq h
    injection h with h; subst h
    exact n_convS hX ho hs ht (isStr_eq hi) (asS_eq hx)
def funcN (X : Cx) (S : ASt) (fn : Fn) (first captured : Array Operand) : Option TV := match fn, first with
  | .func f, ⟨[]⟩ => bd (capsD X.G S captured.toList) fun ds => some (.d (.fn f ds))
  | _, _ => none
theorem funcN_ok {S : ASt} {o : Oper} {fn : Fn} {first captured : Array Operand} {tv : TV} (ho : o.op = .makeFunc fn first captured) (h : funcN X S fn first captured = some tv) : NRes X S o tv := by
  unfold funcN at h
  split at h
  · obtain ⟨ds, hc, h⟩ := bd_eq h
    injection h with h; subst h
    exact n_makeFunc ho hc
  · simp at h
def ifcN (X : Cx) (S : ASt) (t : TypeId) (x : Operand) : Option TV := bd (X.T t) fun i => gd (!isIfc i.desc) <| bd (asD (S.ev X.G x)) fun d => gd (d.ro && d.okc) (some (.d (.ifc t d)))
theorem ifcN_ok (hX : X.Ok) {S : ASt} {o : Oper} {t : TypeId} {x : Operand} {tv : TV} (ho : o.op = .makeInterface t x) (h : ifcN X S t x = some tv) : NRes X S o tv := by
  obtain ⟨i, ht, h⟩ := bd_eq h
  obtain ⟨hi, h⟩ := gd_eq h
  obtain ⟨d, hx, h⟩ := bd_eq h
  obtain ⟨hk, h⟩ := gd_eq h
  injection h with h; subst h
  simp only [Bool.and_eq_true] at hk
  exact n_iface hX ho ht (by simpa using hi) (asD_eq hx) hk.1 hk.2
def makeN (X : Cx) (S : ASt) (t : TypeId) (x y : Operand) : Option TV := bd (X.sl t) fun ek => bd (asI (S.ev X.G x)) fun l => bd (asI (S.ev X.G y)) fun c =>
  gd (Nat.beq ek.2.zero.nc ek.2.size && decide (0 ≤ l.2) && decide (l.2 ≤ c.2) && decide ((ek.2.bytes : Int) * c.2 ≤ 281474976710656) && decide (c.2 ≤ lim)) (some (.d (.own true ek.2.size (List.replicate l.2.toNat ek.2.zero))))
theorem makeN_ok (hX : X.Ok) {S : ASt} {o : Oper} {t : TypeId} {x y : Operand} {tv : TV} (ho : o.op = .makeSlice t x y) (h : makeN X S t x y = some tv) : NRes X S o tv := by
  obtain ⟨⟨e, k⟩, hs, h⟩ := bd_eq h
  obtain ⟨i, ht, hd, he⟩ := sl_eq hs
  obtain ⟨⟨kl, l⟩, hx, h⟩ := bd_eq h
  obtain ⟨⟨kc, c⟩, hy, h⟩ := bd_eq h
  obtain ⟨hb, h⟩ := gd_eq h
  injection h with h; subst h
  simp only [Bool.and_eq_true, decide_eq_true_eq] at hb
  obtain ⟨⟨⟨⟨q1, q2⟩, q3⟩, q4⟩, q5⟩ := hb
  exact n_make hX ho ht hd he rfl (Nat.eq_of_beq_eq_true q1) (asI_eq hx) (asI_eq hy) q2 q3 q4 q5
def structF : TypeDesc → Option (Array Field)
  | .struct fs => some fs
  | _ => none
theorem structF_eq {d : TypeDesc} {fs : Array Field} (h : structF d = some fs) : d = .struct fs := by unfold structF at h; split at h <;> simp at h; rw [h]
def buildN (X : Cx) (S : ASt) (t : TypeId) (parts : Array (Nat × Operand)) : Option TV := bd (X.T t) fun i => bd (structF i.desc) fun fs => bd (aggL i.zero) fun zs => gd (X.lay fs.toList zs 0) <| bd (partsD X.G S parts.toList) fun ps => bd (setL zs ps) fun ds => some (.d (.agg ds))
theorem buildN_ok (hX : X.Ok) {S : ASt} {o : Oper} {t : TypeId} {parts : Array (Nat × Operand)} {tv : TV} (ho : o.op = .build t parts) (h : buildN X S t parts = some tv) : NRes X S o tv := by
  obtain ⟨i, ht, h⟩ := bd_eq h
  obtain ⟨fs, hd, h⟩ := bd_eq h
  obtain ⟨zs, hz, h⟩ := bd_eq h
  obtain ⟨hl, h⟩ := gd_eq h
  obtain ⟨ps, hp, h⟩ := bd_eq h
  obtain ⟨ds, hs, h⟩ := bd_eq h
  injection h with h; subst h
  exact n_build hX ho ht (structF_eq hd) (aggL_eq hz) hl hp hs
def allNc (n : Nat) : List D → Bool
  | [] => true
  | d :: ds => Nat.beq d.nc n && allNc n ds
theorem allNc_eq {n : Nat} : ∀ {ds : List D}, allNc n ds = true → ∀ d ∈ ds, d.nc = n
  | [], _, d, hd => by simp at hd
  | e :: ds, h, d, hd => by
    simp only [allNc, Bool.and_eq_true] at h
    rcases List.mem_cons.1 hd with rfl | hd
    · exact Nat.eq_of_beq_eq_true h.1
    · exact allNc_eq h.2 d hd
def bsN (X : Cx) (S : ASt) (t : TypeId) (n : Nat) (parts : Array (Nat × Operand)) : Option TV := bd (X.sl t) fun ek => gd (Nat.beq ek.2.zero.nc ek.2.size && decide (n * ek.2.size ≤ 16777216) && decide (n ≤ lim)) <| bd (partsD X.G S parts.toList) fun ps => bd (setL (List.replicate n ek.2.zero) ps) fun ds =>
  gd (Nat.beq ds.length n && allNc ek.2.size ds) (some (.d (.own true ek.2.size ds)))
theorem bsN_ok (hX : X.Ok) {S : ASt} {o : Oper} {t : TypeId} {n : Nat} {parts : Array (Nat × Operand)} {tv : TV} (ho : o.op = .buildSlice t n parts) (h : bsN X S t n parts = some tv) : NRes X S o tv := by
  obtain ⟨⟨e, k⟩, hs, h⟩ := bd_eq h
  obtain ⟨i, ht, hd, he⟩ := sl_eq hs
  obtain ⟨hb, h⟩ := gd_eq h
  obtain ⟨ps, hp, h⟩ := bd_eq h
  obtain ⟨ds, hset, h⟩ := bd_eq h
  obtain ⟨hc, h⟩ := gd_eq h
  injection h with h; subst h
  simp only [Bool.and_eq_true, decide_eq_true_eq] at hb hc
  exact n_buildSlice hX ho ht hd he rfl (Nat.eq_of_beq_eq_true hb.1.1) hb.1.2 hb.2 hp hset (Nat.eq_of_beq_eq_true hc.1) (allNc_eq hc.2)
def sliceN (X : Cx) (S : ASt) (t : TypeId) (x : Operand) (lo hi : Option Operand) : Option TV := bd (S.bnd X.G 0 lo) fun l => match S.ev X.G x with
  | some (.d (.v (.string s))) => bd (X.T t) fun i => gd (isStr i.desc) <| bd (S.bnd X.G s.data.toList.length hi) fun h => gd (decide (l ≤ h) && decide (h ≤ s.data.toList.length)) (some (.d (.v (.string (subB s l h)))))
  | some (.d (.row nn sz ds)) => bd (X.sl t) fun ek => gd (Nat.beq ek.2.size sz) <| bd (S.bnd X.G ds.length hi) fun h => gd (decide (l ≤ h) && decide (h ≤ ds.length)) (some (.d (.row nn sz ((ds.drop l).take (h - l)))))
  | _ => none
theorem sliceN_ok (hX : X.Ok) {S : ASt} {o : Oper} {t : TypeId} {x : Operand} {lo hi : Option Operand} {tv : TV} (ho : o.op = .slice t x lo hi none) (h : sliceN X S t x lo hi = some tv) : NRes X S o tv := by
  obtain ⟨l, hl, h⟩ := bd_eq h
  split at h
  · rename_i s hx
    obtain ⟨i, ht, h⟩ := bd_eq h
    obtain ⟨hi', h⟩ := gd_eq h
    obtain ⟨hh, hhi, h⟩ := bd_eq h
    obtain ⟨hb, h⟩ := gd_eq h
    injection h with h; subst h
    simp only [Bool.and_eq_true, decide_eq_true_eq] at hb
    exact n_sliceS hX ho ht (isStr_eq hi') hx hl hhi hb.1 hb.2
  · rename_i nn sz ds hx
    obtain ⟨⟨e, k⟩, hs, h⟩ := bd_eq h
    obtain ⟨i, ht, hd, he⟩ := sl_eq hs
    obtain ⟨hsz, h⟩ := gd_eq h
    obtain ⟨hh, hhi, h⟩ := bd_eq h
    obtain ⟨hb, h⟩ := gd_eq h
    injection h with h; subst h
    simp only [Bool.and_eq_true, decide_eq_true_eq] at hb
    exact n_sliceR hX ho ht hd he (Nat.eq_of_beq_eq_true hsz) hx hl hhi hb.1 hb.2
  · simp at h
def tupL : Option TV → Option (List D)
  | some (.d (.tup ds)) => some ds
  | _ => none
theorem tupL_eq {x : Option TV} {ds : List D} (h : tupL x = some ds) : x = some (.d (.tup ds)) := by unfold tupL at h; split at h <;> simp at h; rw [h]
def extN (X : Cx) (S : ASt) (x : Operand) (j : Nat) : Option TV := bd (tupL (S.ev X.G x)) fun ds => bd ds[j]? fun d => gd d.ro (some (.d d))
theorem extN_ok {S : ASt} {o : Oper} {x : Operand} {j : Nat} {tv : TV} (ho : o.op = .extract x j) (h : extN X S x j = some tv) : NRes X S o tv := by
  obtain ⟨ds, hx, h⟩ := bd_eq h
  obtain ⟨d, hj, h⟩ := bd_eq h
  obtain ⟨hr, h⟩ := gd_eq h
  injection h with h; subst h
  exact n_extract ho (tupL_eq hx) hj hr
def mapK : TypeDesc → Option (TypeId × TypeId)
  | .map k e => some (k, e)
  | _ => none
theorem mapK_eq {d : TypeDesc} {k e : TypeId} (h : mapK d = some (k, e)) : d = .map k e := by unfold mapK at h; split at h <;> simp at h; rw [h.1, h.2]
def mapL : Option D → Option (List Value × List D)
  | some (.mapo ks ds) => some (ks, ds)
  | _ => none
theorem mapL_eq {x : Option D} {ks : List Value} {ds : List D} (h : mapL x = some (ks, ds)) : x = some (.mapo ks ds) := by unfold mapL at h; split at h <;> simp at h; rw [h.1, h.2]
def lookN (X : Cx) (S : ASt) (t : TypeId) (x y : Operand) (ok : Bool) : Option TV := bd (X.T t) fun i => bd (mapK i.desc) fun ke => bd (X.T ke.1) fun ki => bd (X.T ke.2) fun ei => gd (keyD ki.desc && ei.zero.okc) <| bd (asV (S.ev X.G y)) fun k => match S.ev X.G x with
  | some (.d (.fmp ks ds)) => bd (lookR ok ki.desc ei.zero k ks ds) fun r => some (.d r)
  | _ => bd (S.src X.G x) fun rp => bd (mapL (S.at rp.1 rp.2)) fun m => bd (lookR ok ki.desc ei.zero k m.1 m.2) fun r => some (.d r)
theorem lookN_ok (hX : X.Ok) {S : ASt} {o : Oper} {t : TypeId} {x y : Operand} {ok : Bool} {tv : TV} (ho : o.op = .lookup t x y ok) (h : lookN X S t x y ok = some tv) : NRes X S o tv := by
  obtain ⟨i, ht, h⟩ := bd_eq h
  obtain ⟨⟨kt, et⟩, hd, h⟩ := bd_eq h
  obtain ⟨ki, hk, h⟩ := bd_eq h
  obtain ⟨ei, he, h⟩ := bd_eq h
  obtain ⟨hb, h⟩ := gd_eq h
  simp only [Bool.and_eq_true] at hb
  obtain ⟨k, hy, h⟩ := bd_eq h
  split at h
  · rename_i ks ds hx
    obtain ⟨r, hr, h⟩ := bd_eq h
    injection h with h; subst h
    exact n_lookF hX ho ht (mapK_eq hd) hk hb.1 he hb.2 hx (asV_eq hy) hr
  · obtain ⟨⟨r, p⟩, hx, h⟩ := bd_eq h
    obtain ⟨⟨ks, ds⟩, hm, h⟩ := bd_eq h
    obtain ⟨res, hr, h⟩ := bd_eq h
    injection h with h; subst h
    exact n_lookO hX ho ht (mapK_eq hd) hk hb.1 he hb.2 hx (mapL_eq hm) (asV_eq hy) hr
def lenN (X : Cx) (S : ASt) (c : Call) : Option TV := match c.callee, c.args, c.argTypes with
  | .builtin .len, ⟨[x]⟩, ⟨[t]⟩ => bd (X.T t) fun i => match S.ev X.G x with
    | some (.d (.v (.string s))) => gd (isStr i.desc) (some (.d (.v (.int .i64 s.data.toList.length))))
    | some (.d (.v (.slice none 0 0))) => bd (sliceE i.desc) fun _ => some (.d (.v (.int .i64 0)))
    | some (.d (.row _ _ ds)) => bd (sliceE i.desc) fun _ => some (.d (.v (.int .i64 ds.length)))
    | _ => bd (sliceE i.desc) fun _ => bd (S.sli X.G x) fun rp => bd (S.at rp.1 rp.2) fun a => bd (ownL a) fun w => some (.d (.v (.int .i64 w.2.2.length)))
  | .builtin .max, ⟨[x, y]⟩, _ => bd (asI (S.ev X.G x)) fun a => bd (asI (S.ev X.G y)) fun b => some (.d (.v (.int a.1 (if b.2 > a.2 then b.2 else a.2))))
  | _, _, _ => none
theorem lenN_ok (hX : X.Ok) {S : ASt} {o : Oper} {c : Call} {tv : TV} (ho : o.op = .call c) (h : lenN X S c = some tv) : NRes X S o tv := by
  unfold lenN at h
  split at h
  · rename_i x t h1 h2 h3
    obtain ⟨i, ht, h⟩ := bd_eq h
    split at h
    · rename_i s hx
      obtain ⟨hi, h⟩ := gd_eq h
      injection h with h; subst h
      exact n_lenV hX ho h1 h2 h3 ht (isStr_eq hi) hx
    · rename_i hx
      obtain ⟨e, he, h⟩ := bd_eq h
      injection h with h; subst h
      exact n_lenN hX ho h1 h2 h3 ht (sliceE_eq he) hx
    · rename_i nn sz ds hx
      obtain ⟨e, he, h⟩ := bd_eq h
      injection h with h; subst h
      exact n_lenR hX ho h1 h2 h3 ht (sliceE_eq he) hx
    · obtain ⟨e, he, h⟩ := bd_eq h
      obtain ⟨⟨r, p⟩, hp, h⟩ := bd_eq h
      obtain ⟨a, ha, h⟩ := bd_eq h
      obtain ⟨⟨nn, sz, ds⟩, hw, h⟩ := bd_eq h
      injection h with h; subst h
      exact n_lenO hX ho h1 h2 h3 ht (sliceE_eq he) hp (by rw [ha, ownL_eq hw])
  · rename_i x y h1 h2
    obtain ⟨⟨k, m⟩, hx, h⟩ := bd_eq h
    obtain ⟨⟨k', n⟩, hy, h⟩ := bd_eq h
    injection h with h; subst h
    exact n_max ho h1 h2 (asI_eq hx) (asI_eq hy)
  · simp at h

def arrE : TypeDesc → Option (Nat × TypeId)
  | .array m e => some (m, e)
  | _ => none
theorem arrE_eq {d : TypeDesc} {m : Nat} {e : TypeId} (h : arrE d = some (m, e)) : d = .array m e := by unfold arrE at h; split at h <;> simp at h; rw [h.1, h.2]
def fzA : Option TV → Option (List D)
  | some (.d (.fz (.agg ds))) => some ds
  | _ => none
theorem fzA_eq {x : Option TV} {ds : List D} (h : fzA x = some ds) : x = some (.d (.fz (.agg ds))) := by unfold fzA at h; split at h <;> simp at h; rw [h]
def idxA (X : Cx) (S : ASt) (t : TypeId) (x y : Operand) : Option TV := bd (X.T t) fun i => bd (arrE i.desc) fun me => bd (X.T me.2) fun k => bd (asI (S.ev X.G y)) fun kn => bd (fzA (S.ev X.G x)) fun ds => gd (decide (0 ≤ kn.2) && decide (kn.2 < me.1)) <| bd ds[kn.2.toNat]? fun d => gd (Nat.beq (D.ncL (ds.take kn.2.toNat)) (kn.2.toNat * k.size)) (some (.d (.fz d)))
theorem idxA_ok (hX : X.Ok) {S : ASt} {o : Oper} {t : TypeId} {x y : Operand} {tv : TV} (ho : o.op = .indexAddr t x y) (h : idxA X S t x y = some tv) : NRes X S o tv := by
  obtain ⟨i, ht, h⟩ := bd_eq h
  obtain ⟨⟨m, e⟩, hd, h⟩ := bd_eq h
  obtain ⟨k, he, h⟩ := bd_eq h
  obtain ⟨⟨kd, n⟩, hy, h⟩ := bd_eq h
  obtain ⟨ds, hx, h⟩ := bd_eq h
  obtain ⟨hb, h⟩ := gd_eq h
  obtain ⟨d, hn, h⟩ := bd_eq h
  obtain ⟨hs, h⟩ := gd_eq h
  injection h with h; subst h
  simp only [Bool.and_eq_true, decide_eq_true_eq] at hb
  exact n_idxAF hX ho ht (arrE_eq hd) he (fzA_eq hx) (asI_eq hy) hb.1 hb.2 hn (Nat.eq_of_beq_eq_true hs)

/-- What an operation that turns nothing comes to. -/
def nop (X : Cx) (S : ASt) (o : Oper) : Option TV := match o.op with
  | .move x => S.mv X.G x
  | .assign x => S.mv X.G x
  | .pick c x y => bd (asB (S.ev X.G c)) fun b => S.mv X.G (if b then x else y)
  | .nilCheck x => bd (S.mv X.G x) fun tv => gd (tv.nonnil && nilOk S tv) (some tv)
  | .alloc t => bd (X.T t) fun i => some (.d (.cell i.zero))
  | .box _ x => bd (asD (S.ev X.G x)) fun d => gd (d.ro && d.okc) (some (.d (.cell d)))
  | .load t x => loadN X S t x
  | .fieldAddr s x j => fieldN X S s x j
  | .indexAddr t x y => match idxN X S t x y with
    | some tv => some tv
    | none => idxA X S t x y
  | .index t x y => byteN X S t x y
  | .binOp op t x y _ => binN X S op t x y
  | .unOp op _ x => unN X S op x
  | .convert s t x => convN X S s t x
  | .makeFunc fn first captured => funcN X S fn first captured
  | .makeInterface t x => ifcN X S t x
  | .makeMap _ none => some (.d (.mapo [] []))
  | .makeSlice t x y => makeN X S t x y
  | .build t parts => buildN X S t parts
  | .buildSlice t n parts => bsN X S t n parts
  | .slice t x lo hi none => sliceN X S t x lo hi
  | .extract x j => extN X S x j
  | .lookup t x y ok => lookN X S t x y ok
  | .call c => lenN X S c
  | _ => none
theorem nop_ok (hX : X.Ok) {S : ASt} {o : Oper} {tv : TV} (h : nop X S o = some tv) : NRes X S o tv := by
  unfold nop at h
  split at h
  · rename_i ho; exact n_move (.inl ho) h
  · rename_i ho; exact n_move (.inr ho) h
  · rename_i ho
    obtain ⟨b, hb, h⟩ := bd_eq h
    exact n_pick ho (asB_eq hb) h
  · rename_i ho
    obtain ⟨tv', hm, h⟩ := bd_eq h
    obtain ⟨hc, h⟩ := gd_eq h
    injection h with h; subst h
    simp only [Bool.and_eq_true] at hc
    refine n_nil ho hm hc.1 ?_
    rintro r p rfl
    have := hc.2
    simp only [nilOk] at this
    split at this
    · exact ⟨_, by assumption⟩
    · simp at this
  · rename_i ho
    obtain ⟨i, ht, h⟩ := bd_eq h
    injection h with h; subst h
    exact n_alloc hX ho ht
  · rename_i ho
    obtain ⟨d, hx, h⟩ := bd_eq h
    obtain ⟨hc, h⟩ := gd_eq h
    injection h with h; subst h
    simp only [Bool.and_eq_true] at hc
    exact n_box ho (asD_eq hx) hc.1 hc.2
  · rename_i ho; exact loadN_ok hX ho h
  · rename_i ho; exact fieldN_ok hX ho h
  · rename_i ho
    split at h
    · rename_i tv' h1; injection h with h; subst h; exact idxN_ok hX ho h1
    · exact idxA_ok hX ho h
  · rename_i ho; exact byteN_ok hX ho h
  · rename_i ho; exact binN_ok hX ho h
  · rename_i ho; exact unN_ok ho h
  · rename_i ho; exact convN_ok hX ho h
  · rename_i ho; exact funcN_ok ho h
  · rename_i ho; exact ifcN_ok hX ho h
  · rename_i ho; injection h with h; subst h; exact n_makeMap hX ho
  · rename_i ho; exact makeN_ok hX ho h
  · rename_i ho; exact buildN_ok hX ho h
  · rename_i ho; exact bsN_ok hX ho h
  · rename_i ho; exact sliceN_ok hX ho h
  · rename_i ho; exact extN_ok ho h
  · rename_i ho; exact lookN_ok hX ho h
  · rename_i ho; exact lenN_ok hX ho h
  · simp at h
end
end Go.Proofs.YtfbppkjjdbkedaaGreatDoor.Ref
/-
  The abstract machine as a program: freezing on the way; operations that turn something.
-/
namespace Go.Proofs.YtfbppkjjdbkedaaGreatDoor.Ref
noncomputable section
open Go
set_option linter.unusedVariables false
variable {X : Cx}

theorem modify_get {α : Type} {f : α → α} : ∀ (l : List α) (i : Nat) (e : α), l[i]? = some e → (l.modify i f)[i]? = some (f e)
  | [], i, e, h => by simp at h
  | a :: l, 0, e, h => by simp at h; subst h; simp
  | a :: l, i + 1, e, h => by simp at h; simp [modify_get l i e h]
theorem modify_take {f : D → D} : ∀ (l : List D) (i : Nat), (l.modify i f).take i = l.take i
  | [], i => by simp
  | a :: l, 0 => by simp
  | a :: l, i + 1 => by simp [modify_take l i]
theorem walk_setp (w : World) : ∀ (p : List Nat) (d e z : D) (pos pos' : Pos), walk w p d pos = some (e, pos') → walk w p (D.setp p z d) pos = some (z, pos')
  | [], d, e, z, pos, pos', h => by simp only [walk, Option.some.injEq, Prod.mk.injEq] at h; simp [walk, D.setp, h.2]
  | i :: p, d, e, z, pos, pos', h => by
    simp only [walk] at h
    split at h
    · rename_i e1 pos1 h1
      have ih := walk_setp w p e1 e z pos1 pos' h
      unfold step1 at h1
      cases d with
      | agg ds =>
        cases pos with
        | slot c => simp at h1
        | mem b off =>
          simp only [Option.map_eq_some_iff, Prod.mk.injEq] at h1
          obtain ⟨e2, h2, rfl, rfl⟩ := h1
          simp only [D.setp, walk, step1, modify_get ds i e2 h2, Option.map_some, modify_take, ih]
      | own nn sz ds =>
        simp only at h1
        split at h1
        · rename_i a _ _ hv
          simp only [Option.map_eq_some_iff, Prod.mk.injEq] at h1
          obtain ⟨e2, h2, rfl, rfl⟩ := h1
          simp only [D.setp, walk, step1, hv, modify_get ds i e2 h2, Option.map_some, ih]
        · simp at h1
      | cell d0 =>
        simp only at h1
        split at h1
        · rename_i a hv
          split at h1
          · rename_i hi
            injection h1 with h1
            injection h1 with h1 h2
            subst h1 h2
            simp only [D.setp, walk, step1, hv, hi, if_true, ih]
          · simp at h1
        · simp at h1
      | _ => simp at h1
    · simp at h
theorem get_setp : ∀ (p : List Nat) (d e z : D), D.get p d = some e → D.get p (D.setp p z d) = some z
  | [], d, e, z, h => rfl
  | i :: p, d, e, z, h => by
    cases d with
    | agg ds =>
      simp only [D.get] at h
      split at h
      · rename_i e1 h1; simp only [D.setp, D.get, modify_get ds i e1 h1, get_setp p e1 e z h]
      · simp at h
    | own nn sz ds =>
      simp only [D.get] at h
      split at h
      · rename_i e1 h1; simp only [D.setp, D.get, modify_get ds i e1 h1, get_setp p e1 e z h]
      · simp at h
    | cell d0 =>
      simp only [D.get] at h
      split at h
      · rename_i hi; simp only [D.setp, D.get, hi, if_true, get_setp p d0 e z h]
      · simp at h
    | _ => simp [D.get] at h

mutual
theorem frz_ro' : ∀ d : D, d.frz.ro = true
  | .agg ds => by simp only [D.frz, D.ro]; exact frzL_ro' ds
  | .tup ds => by simp only [D.frz, D.ro]; exact frzL_ro' ds
  | .own _ _ _ | .cell _ | .mapo _ _ | .v _ | .row _ _ _ | .fz _ | .ref _ _ _ | .fmp _ _ | .fn _ _ | .ifc _ _ | .und | .dead => by simp [D.frz, D.ro]
theorem frzL_ro' : ∀ ds : List D, D.roL (D.frzL ds) = true
  | [] => rfl
  | d :: ds => by simp only [D.frzL, D.roL, frz_ro' d, frzL_ro' ds, Bool.and_self]
end
/-- Frozen where it lies, and the slot that hangs on it. -/
theorem wk_cool {S : ASt} {t : Nat} {h : Bool} {r : Root} {p : List Nat} {c0 e : D} (hl : look S.slots t = some (.u h r p)) (hc : S.cont r = some c0) (hk : c0.okc = true) (he : D.get p c0 = some e) (hke : e.okc = true) (hp : h = false → ∀ s, r = .slot s → p ≠ []) (ht : t < S.n) :
    Wk S ((S.ice r p).put t (if h then .d e.frz else .u false r p)) := by
  intro g β R Os a w hs
  obtain ⟨d, pos, e1, pos', c, k1, k2, k3, k4⟩ := hs.ups t h r p hl
  have hcd : c0 = d := by rw [root_cont k1] at hc; injection hc with hc; exact hc.symm
  subst hcd
  have hee : e1 = e := by have := walk_get w p c0 e1 pos pos' k2; rw [he] at this; injection this with this; exact this.symm
  subst hee
  obtain ⟨R', Os', hi⟩ := wk_ice hc hk he hke g β R Os a w hs
  have htl : t < a.tmps.size := Nat.lt_of_lt_of_le ht hs.size
  by_cases hps : p = [] ∧ ∃ s, r = .slot s
  · obtain ⟨rfl, s, rfl⟩ := hps
    cases h with
    | false => exact absurd rfl (hp rfl s rfl)
    | true =>
      cases k1 with
      | slot q1 q2 q3 =>
        rename_i cs
        simp only [walk, Option.some.injEq, Prod.mk.injEq] at k2
        obtain ⟨rfl, rfl⟩ := k2
        have hval : cs = c := by simpa [Pos.val] using k4.2
        subst hval
        obtain ⟨c', m1, m2⟩ := hi.slots s c0.frz (by simp [ASt.ice, hc, look_nil, look_cons])
        rw [q3] at m1
        injection m1 with m1
        subst m1
        have hfro : c0.frz.ro = true := frz_ro' c0
        have := hi.putX (Grow.refl w) (fun _ x => x) (fun _ x => .inl x) (t := t) (d := c0.frz) (v := cs) (On := Blk.emp) htl (m2.ro hfro) (fun x hx => hx.elim) (fun _ _ hx => hx)
        rw [put_same k3] at this
        exact ⟨β, R', _, this⟩
  · have hpt : ∀ s, r = .slot s → p ≠ [] := fun s hs' hp' => hps ⟨hp', s, hs'⟩
    have hice : S.ice r p = S.upd r (D.setp p e1.frz c0) := by
      cases r with
      | box b => simp only [ASt.ice, hc, he]
      | slot s =>
        cases p with
        | nil => exact absurd rfl (hpt s rfl)
        | cons i p => simp only [ASt.ice, hc, he]
    have hra : RootAt β (S.ice r p) a r (D.setp p e1.frz c0) pos := by
      rw [hice]
      cases k1 with
      | slot q1 q2 q3 => exact .slot (by rw [look_upd_slot]; simp) (setp_hdr (hpt _ rfl) q2) q3
      | box q1 q2 q3 =>
        rename_i b x
        have hb : b < S.boxes.length := (List.getElem?_eq_some_iff.1 q1).1
        refine .box (by simp [ASt.upd, hb]) ?_ q3
        have := setp_okc hk (frz_okc hke) (p := p)
        intro e0
        rw [e0] at this
        simp [D.okc] at this
    have hwk := walk_setp w p c0 e1 e1.frz pos pos' k2
    obtain ⟨O, n1, n2, n3⟩ := root_at hi hra
    obtain ⟨O', n4, n5⟩ := at_walk p _ _ pos pos' O n1 (fun x a b => hi.apart r x a (n2 x b)) hwk
    cases h with
    | true =>
      have h1 : e1.frz.nc = 1 := by rw [D.frz_nc]; have := k4.1; cases e1 <;> simp [D.isHdr] at this <;> rfl
      have hrel := at_one h1 n4 k4.2
      have hag : ∀ ds, e1.frz ≠ .agg ds := by intro ds h0; have := k4.1; cases e1 <;> simp [D.isHdr] at this <;> simp [D.frz] at h0
      have := hi.putX (Grow.refl w) (fun _ x => x) (fun _ x => .inl x) (t := t) (d := e1.frz) (v := c) (On := Blk.emp) htl (RelV.mk ((packs_one hag).2 rfl) (Rel.ro _ _ _ (frz_ro' e1) hrel)) (fun x hx => hx.elim) (fun _ _ hx => hx)
      rw [put_same k3] at this
      exact ⟨β, R', _, this⟩
    | false =>
      have hne : r ≠ .slot t := by
        intro e0
        subst e0
        simp only [ASt.cont, hl] at hc
        simp at hc
      have := hi.putU (t := t) (b := false) (r := r) (p := p) (v := c) htl hne ⟨_, pos, _, pos', hra, hwk, k4⟩
      rw [put_same k3] at this
      exact ⟨β, R', _, this⟩
end
end Go.Proofs.YtfbppkjjdbkedaaGreatDoor.Ref
/-
  The abstract machine: structs and variables that take what one part owns.
-/
namespace Go.Proofs.YtfbppkjjdbkedaaGreatDoor.Ref
noncomputable section
open Go
set_option linter.unusedVariables false
variable {X : Cx}

/-- One component anew: it brings what it owns. -/
theorem relL_setO {β : Env} {w : World} {R : Blk} {Od : Blk} : ∀ (ds : List D) (i : Nat) (cs : List Value) (e d : D) (xs : List Value), RelL β w R ds cs Blk.emp → ds[i]? = some e → d.nc = e.nc → Rel β w R d xs Od →
    RelL β w R (ds.set i d) (cs.take (D.ncL (ds.take i)) ++ xs ++ cs.drop (D.ncL (ds.take i) + xs.length)) Od ∧ D.ncL (ds.take i) + xs.length ≤ cs.length
  | [], i, cs, e, d, xs, h, he, hn, hd => by simp at he
  | z :: ds, i, cs, e, d, xs, h, he, hn, hd => by
    simp only [RelL] at h
    obtain ⟨c1, c2, O1, O2, rfl, h1, h2, h3, h4, h5⟩ := h
    have hl := Rel.len _ _ _ h1
    have hx := Rel.len _ _ _ hd
    have h1' := Rel.up (fun _ _ x => x) (fun _ x => x) (fun _ _ => rfl) _ _ _ _ (fun _ _ => rfl) h3 h1
    have h2' := RelL.up (fun _ _ x => x) (fun _ x => x) (fun _ _ => rfl) _ _ _ _ (fun _ _ => rfl) h4 h2
    cases i with
    | zero =>
      simp at he
      subst he
      simp only [List.set_cons_zero, List.take_zero, D.ncL, List.take_zero, List.nil_append, Nat.zero_add, RelL]
      rw [hx, hn, ← hl, List.drop_left]
      exact ⟨⟨xs, c2, Od, Blk.emp, rfl, hd, h2', fun _ x => x, fun _ x => x.elim, fun _ _ x => x⟩, by simp⟩
    | succ i =>
      simp at he
      obtain ⟨k1, k2⟩ := relL_setO ds i c2 e d xs h2' he hn hd
      simp only [List.set_cons_succ, List.take_succ_cons, D.ncL, RelL]
      refine ⟨⟨c1, c2.take (D.ncL (ds.take i)) ++ xs ++ c2.drop (D.ncL (ds.take i) + xs.length), Blk.emp, Od, ?_, h1', k1, fun _ x => x.elim, fun _ x => x, fun _ x => x.elim⟩, by rw [List.length_append]; omega⟩
      rw [← hl, List.take_length_add_append, Nat.add_assoc, List.drop_length_add_append]
      simp
/-- One component anew that owns nothing; the others stay. -/
theorem relL_setE {β : Env} {w : World} {R : Blk} : ∀ (ds : List D) (i : Nat) (cs : List Value) (O : Blk) (e d : D) (xs : List Value), RelL β w R ds cs O → ds[i]? = some e → d.nc = e.nc → Rel β w R d xs Blk.emp →
    RelL β w R (ds.set i d) (cs.take (D.ncL (ds.take i)) ++ xs ++ cs.drop (D.ncL (ds.take i) + xs.length)) O ∧ D.ncL (ds.take i) + xs.length ≤ cs.length
  | [], i, cs, O, e, d, xs, h, he, hn, hd => by simp at he
  | z :: ds, i, cs, O, e, d, xs, h, he, hn, hd => by
    simp only [RelL] at h
    obtain ⟨c1, c2, O1, O2, rfl, h1, h2, h3, h4, h5⟩ := h
    have hl := Rel.len _ _ _ h1
    have hx := Rel.len _ _ _ hd
    cases i with
    | zero =>
      simp at he
      subst he
      simp only [List.set_cons_zero, List.take_zero, D.ncL, List.take_zero, List.nil_append, Nat.zero_add, RelL]
      rw [hx, hn, ← hl, List.drop_left]
      exact ⟨⟨xs, c2, Blk.emp, O2, rfl, hd, h2, fun _ x => x.elim, h4, fun _ x => x.elim⟩, by simp⟩
    | succ i =>
      simp at he
      obtain ⟨k1, k2⟩ := relL_setE ds i c2 O2 e d xs h2 he hn hd
      simp only [List.set_cons_succ, List.take_succ_cons, D.ncL, RelL]
      refine ⟨⟨c1, c2.take (D.ncL (ds.take i)) ++ xs ++ c2.drop (D.ncL (ds.take i) + xs.length), O1, O2, ?_, h1, k1, h3, h4, h5⟩, by rw [List.length_append]; omega⟩
      rw [← hl, List.take_length_add_append, Nat.add_assoc, List.drop_length_add_append]
      simp

def isTmp (y : Nat) : Operand → Bool
  | .tmp t => Nat.beq t y
  | _ => false
theorem isTmp_eq {y : Nat} {x : Operand} (h : isTmp y x = true) : x = .tmp y := by cases x <;> simp [isTmp] at h; rw [h]
/-- The parts: that of slot y owns, once. -/
def partsO (G : Nat → Option D) (S : ASt) (y : Nat) : Bool → List (Nat × Operand) → Option (List (Nat × D))
  | _, [] => some []
  | u, (i, x) :: l => match isTmp y x with
    | true => gd (!u) <| bd (asD (look S.slots y)) fun d => gd d.okc <| bd (partsO G S y true l) fun r => some ((i, d) :: r)
    | false => bd (asD (S.ev G x)) fun d => gd (d.ro && d.okc) <| bd (partsO G S y u l) fun r => some ((i, d) :: r)
theorem fillO_ok {g : Gh} {β : Env} {R : Blk} {Os : Own} {S : ASt} {a : Act} {w : World} (h : StR g β R Os S a w) {y : Nat} {place : Nat → Option (Nat × Nat)} : ∀ (l : List (Nat × Operand)) (ps : List (Nat × D)) (ds ds' : List D) (cells : Array Value) (u : Bool),
    partsO g.G S y u l = some ps → setL ds ps = some ds' → (∀ i e, ds[i]? = some e → place i = some (D.ncL (ds.take i), e.nc)) → RelL β w R ds cells.toList (if u then Os (.slot y) else Blk.emp) →
    ∃ cells', Instr.fill place cells (l.map fun (i, x) => (i, a.eval x)) = some cells' ∧ RelL β w R ds' cells'.toList (Os (.slot y))
  | [], ps, ds, ds', cells, u, hp, hs, hpl, hr => by
    simp only [partsO, Option.some.injEq] at hp
    subst hp
    simp only [setL, Option.some.injEq] at hs
    subst hs
    refine ⟨cells, rfl, ?_⟩
    cases u with
    | true => exact hr
    | false => exact RelL.up (fun _ _ x => x) (fun _ x => x) (fun _ _ => rfl) _ _ _ _ (fun _ _ => rfl) (fun _ x => x.elim) hr
  | (i, x) :: l, ps, ds, ds', cells, u, hp, hs, hpl, hr => by
    have main : ∀ d r u' xs, setL (ds) ((i, d) :: r) = some ds' → partsO g.G S y u' l = some r → (a.eval x).cells = xs.toArray → Rel β w R d xs (if u' then Os (.slot y) else Blk.emp) ∨ Rel β w R d xs Blk.emp →
        (∀ e, ds[i]? = some e → d.nc = e.nc → RelL β w R (ds.set i d) (cells.toList.take (D.ncL (ds.take i)) ++ xs ++ cells.toList.drop (D.ncL (ds.take i) + xs.length)) (if u' then Os (.slot y) else Blk.emp) ∧ D.ncL (ds.take i) + xs.length ≤ cells.toList.length) →
        ∃ cells', Instr.fill place cells (((i, x) :: l).map fun (i, x) => (i, a.eval x)) = some cells' ∧ RelL β w R ds' cells'.toList (Os (.slot y)) := by
      intro d r u' xs hs hr' k3 hrel hset
      simp only [setL] at hs
      split at hs
      · rename_i e he
        split at hs
        · rename_i hn
          rw [beq_iff_eq] at hn
          obtain ⟨m1, m2⟩ := hset e he hn
          have hlen : xs.length = d.nc := by rcases hrel with hh | hh <;> exact Rel.len _ _ _ hh
          have hpl' : ∀ j e', (ds.set i d)[j]? = some e' → place j = some (D.ncL ((ds.set i d).take j), e'.nc) := by
            intro j e' hj
            rw [ncL_set ds i j e d he hn]
            by_cases hij : i = j
            · subst hij
              rw [List.getElem?_set_self (List.getElem?_eq_some_iff.1 he).1] at hj
              injection hj with hj
              subst hj
              rw [hpl i e he, hn]
            · rw [List.getElem?_set_ne hij] at hj
              exact hpl j e' hj
          have hfold := fold_set xs (D.ncL (ds.take i)) 0 cells (by simpa using m2)
          simp only [Nat.add_zero] at hfold
          rw [← hfold] at m1
          obtain ⟨cells', q1, q2⟩ := fillO_ok h l r (ds.set i d) ds' _ u' hr' hs hpl' m1
          refine ⟨cells', ?_, q2⟩
          simp only [List.map_cons, Instr.fill, hpl i e he, k3]
          have : ¬ ((decide (xs.toArray.size ≠ e.nc) || decide (D.ncL (ds.take i) + xs.toArray.size > cells.size)) = true) := by
            simp only [Bool.or_eq_true, decide_eq_true_eq, not_or]
            have : cells.toList.length = cells.size := Array.length_toList
            simp only [List.size_toArray]
            omega
          simp only [List.size_toArray] at this
          simp only [List.size_toArray, if_neg this]
          rw [← q1]
          congr 1
          simp
        · simp at hs
      · simp at hs
    simp only [partsO] at hp
    split at hp
    · rename_i hy
      have hx := isTmp_eq hy
      obtain ⟨hu, hp⟩ := gd_eq hp
      obtain ⟨d, hd, hp⟩ := bd_eq hp
      obtain ⟨hk, hp⟩ := gd_eq hp
      obtain ⟨r, hr', hp⟩ := bd_eq hp
      injection hp with hp
      subst hp
      have hu : u = false := by simpa using hu
      subst hu
      have hd := asD_eq hd
      obtain ⟨c, n1, n2⟩ := h.slots y d hd
      obtain ⟨xs, k1, k2⟩ := n2.okc hk
      have hev : a.eval x = c := by rw [hx]; simp [Act.eval, n1]
      exact main d r true xs hs hr' (by rw [hev]; exact packs_cells k1 k2 hk) (.inl k2) fun e he hn => relL_setO ds i cells.toList e d xs hr he hn k2
    · obtain ⟨d, hd, hp⟩ := bd_eq hp
      obtain ⟨hk, hp⟩ := gd_eq hp
      obtain ⟨r, hr', hp⟩ := bd_eq hp
      injection hp with hp
      subst hp
      simp only [Bool.and_eq_true] at hk
      obtain ⟨xs, k1, k2, k3⟩ := evalX h (asD_eq hd) hk.1 hk.2
      exact main d r u xs hs hr' k3 (.inr k2) fun e he hn => relL_setE ds i cells.toList _ e d xs hr he hn k2

/-- What slot y owned goes to slot t, with what is new. -/
theorem StR.moveO {g : Gh} {β : Env} {R : Blk} {Os : Own} {S : ASt} {a : Act} {w w' : World} (h : StR g β R Os S a w) (hg : Grow w w') {y t : Nat} {d dy : D} {v : Value} {On : Blk} (hy : look S.slots y = some (.d dy)) (ht : t < S.n)
    (hv : RelV β w' R d v On) (hOn : ∀ x, On x → Os (.slot y) x ∨ (w.heap.size ≤ x ∧ x < w'.heap.size)) : ∃ Os', StR g β R Os' ((S.drop y).put t (.d d)) (a.put (some t) v) w' := by
  obtain ⟨c, n1, _⟩ := h.slots y dy hy
  have hd := h.dropS ⟨c, n1⟩
  refine ⟨_, hd.putX hg (fun _ x => x) (fun _ x => .inl x) (Nat.lt_of_lt_of_le ht h.size) hv ?_ ?_⟩
  · intro x hx
    rcases hOn x hx with hx | hx
    · refine ⟨Nat.lt_of_lt_of_le (h.own _ x hx).1 hg.size, (h.own _ x hx).2, fun q hq hh => ?_⟩
      by_cases e : q = .slot y
      · subst e; rw [Own.upd_same] at hh; exact hh
      · rw [Own.upd_other _ _ e] at hh; exact h.disj q (.slot y) e x hh hx
    · refine ⟨hx.2, .inr (Nat.le_trans h.fr.size hx.1), fun q hq hh => ?_⟩
      by_cases e : q = .slot y
      · subst e; rw [Own.upd_same] at hh; exact hh
      · rw [Own.upd_other _ _ e] at hh; have := (h.own q x hh).1; omega
  · intro x hx hy'
    rcases hOn x hy' with hh | hh
    · exact h.apart _ x hx hh
    · have := (h.read x hx).1; omega

/-- A struct out of parts of which one owns. -/
theorem e_buildO (hX : X.Ok) {S : ASt} {o : Oper} {t : TypeId} {i : TI} {fs : Array Field} {parts : Array (Nat × Operand)} {ps : List (Nat × D)} {zs ds : List D} {y u : Nat} {dy : D} (ho : o.op = .build t parts) (hdst : o.dst = some u) (hu : u < S.n) (ht : X.T t = some i) (hd : i.desc = .struct fs)
    (hz : i.zero = .agg zs) (hl : X.lay fs.toList zs 0 = true) (hy : look S.slots y = some (.d dy)) (hp : partsO X.G S y false parts.toList = some ps) (hs : setL zs ps = some ds) : Res X S o ((S.drop y).put u (.d (.agg ds))) := by
  intro g β R Os a w hG h
  obtain ⟨zv, xs, h1, h2, h3, h4⟩ := run_zero hX ht w
  rw [hz] at h4 h3
  simp only [packs] at h3
  have hz' := D.lit_rel (β := β) (w := w) (R := R) _ _ h4
  simp only [Rel] at hz'
  have hu' := (hX.ty t i ht).1
  rw [hd] at hu'
  obtain ⟨pl, q1, q2⟩ := lay_ok hX rfl (w := w) fs.toList zs 0 hl
  simp only [Nat.zero_add] at q2
  have e1 : (fs.mapM (m := Sem) fun f => do pure (f.offset, ← sizeOf f.type)) = List.toArray <$> fs.toList.mapM (m := Sem) (fun f => do pure (f.offset, ← sizeOf f.type)) := Array.mapM_eq_mapM_toList
  have e1' : (fs.mapM (m := Sem) fun f => do pure (f.offset, ← sizeOf f.type)).run X.P w = .ok pl.toArray w := by rw [e1, Sem.run_map, q1]; rfl
  obtain ⟨cells, f1, f2⟩ := fillO_ok (place := (pl.toArray[·]?)) h parts.toList ps zs ds xs.toArray false (by rw [hG]; exact hp) hs (fun j e hj => by rw [List.getElem?_toArray]; exact q2 j e hj) (by simpa using hz')
  have e2 : (parts.map fun (i, x) => (i, a.eval x)).toList = parts.toList.map fun (i, x) => (i, a.eval x) := by simp
  have e3 : zv.cells = xs.toArray := h2
  have e : (Instr.build t (parts.map fun (i, x) => (i, a.eval x))).run X.P w = .ok (.agg cells) w := by
    unfold Instr.build
    simp only [Sem.run_bind, h1, Result.andThen_ok, run_underlying hu', e1', e2, e3, f1, Sem.run_pure]
  obtain ⟨Os', st⟩ := h.moveO (Grow.refl w) hy hu (v := .agg cells) (d := .agg ds) (RelV.mk (xs := cells.toList) (by simp [packs]) (by simpa only [Rel] using f2)) (fun x hx => .inl hx)
  exact ⟨.agg cells, w, R, Os', .inl (by simp [execOp, ho, e]), by rw [hdst]; exact st⟩

/-- A variable out of a value that owns. -/
theorem e_boxO {S : ASt} {o : Oper} {t : TypeId} {y u : Nat} {d : D} (ho : o.op = .box t (.tmp y)) (hdst : o.dst = some u) (hu : u < S.n) (hy : look S.slots y = some (.d d)) (hk : d.okc = true) : Res X S o ((S.drop y).put u (.d (.cell d))) := by
  intro g β R Os a w hG h
  obtain ⟨c, n1, n2⟩ := h.slots y d hy
  obtain ⟨xs, k1, k2⟩ := n2.okc hk
  have k3 := packs_cells k1 k2 hk
  have hev : a.eval (.tmp y) = c := by simp [Act.eval, n1]
  have hg := Grow.alloc w (.cells xs.toArray t)
  have hrel : Rel β { w with heap := w.heap.push (.cells xs.toArray t) } R (.cell d) [.pointer (some ⟨w.heap.size, 0, none⟩)] (fun x => x = w.heap.size ∨ Os (.slot y) x) := by
    simp only [Rel]
    refine ⟨w.heap.size, xs.toArray, t, Os (.slot y), rfl, .inl rfl, by simp, fun _ x => .inr x, fun x => absurd (h.own _ _ x).1 (Nat.lt_irrefl _), ?_⟩
    exact Rel.up (fun _ _ x => x) (fun _ x => x) (fun b hb => hg.block b (h.read b hb).1) d _ _ _ (fun b hb => hg.block b (h.own _ b hb).1) (fun _ x => x) (by simpa using k2)
  obtain ⟨Os', st⟩ := h.moveO hg hy hu (v := .pointer (some ⟨w.heap.size, 0, none⟩)) (d := .cell d) (RelV.mk (xs := [.pointer (some ⟨w.heap.size, 0, none⟩)]) (by simp [packs]) hrel) (fun x hx => hx.elim (fun e => .inr (by subst e; simp)) .inl)
  refine ⟨.pointer (some ⟨w.heap.size, 0, none⟩), { w with heap := w.heap.push (.cells xs.toArray t) }, R, Os', .inl ?_, by rw [hdst]; exact st⟩
  simp [execOp, ho, Instr.box, newVar, newRow, hev, k3]

/-- The first part that owns. -/
def ownerOf (S : ASt) : List (Nat × Operand) → Option Nat
  | [] => none
  | (_, .tmp t) :: l => match look S.slots t with
    | some (.d d) => match d.ro with
      | false => some t
      | true => ownerOf S l
    | _ => ownerOf S l
  | _ :: l => ownerOf S l
def buildO (X : Cx) (S : ASt) (o : Oper) (t : TypeId) (parts : Array (Nat × Operand)) : Option ASt := bd (ownerOf S parts.toList) fun y => bd o.dst fun u => gd (decide (u < S.n)) <| bd (asD (look S.slots y)) fun _ => bd (X.T t) fun i => bd (structF i.desc) fun fs => bd (aggL i.zero) fun zs => gd (X.lay fs.toList zs 0) <|
  bd (partsO X.G S y false parts.toList) fun ps => bd (setL zs ps) fun ds => some ((S.drop y).put u (.d (.agg ds)))
theorem buildO_ok (hX : X.Ok) {S S' : ASt} {o : Oper} {t : TypeId} {parts : Array (Nat × Operand)} (ho : o.op = .build t parts) (h : buildO X S o t parts = some S') : Res X S o S' := by
  obtain ⟨y, hy, h⟩ := bd_eq h
  obtain ⟨u, hd, h⟩ := bd_eq h
  obtain ⟨hu, h⟩ := gd_eq h
  obtain ⟨dy, hl, h⟩ := bd_eq h
  obtain ⟨i, ht, h⟩ := bd_eq h
  obtain ⟨fs, hde, h⟩ := bd_eq h
  obtain ⟨zs, hz, h⟩ := bd_eq h
  obtain ⟨hlay, h⟩ := gd_eq h
  obtain ⟨ps, hp, h⟩ := bd_eq h
  obtain ⟨ds, hs, h⟩ := bd_eq h
  injection h with h; subst h
  exact e_buildO hX ho hd (by simpa using hu) ht (structF_eq hde) (aggL_eq hz) hlay (asD_eq hl) hp hs
def boxO (S : ASt) (o : Oper) : Operand → Option ASt
  | .tmp y => bd o.dst fun u => gd (decide (u < S.n)) <| bd (asD (look S.slots y)) fun d => gd d.okc (some ((S.drop y).put u (.d (.cell d))))
  | _ => none
theorem boxO_ok {S S' : ASt} {o : Oper} {t : TypeId} {x : Operand} (ho : o.op = .box t x) (h : boxO S o x = some S') : Res X S o S' := by
  unfold boxO at h
  split at h
  · obtain ⟨u, hd, h⟩ := bd_eq h
    obtain ⟨hu, h⟩ := gd_eq h
    obtain ⟨d, hl, h⟩ := bd_eq h
    obtain ⟨hk, h⟩ := gd_eq h
    injection h with h; subst h
    exact e_boxO ho hd (by simpa using hu) (asD_eq hl) hk
  · simp at h
end
end Go.Proofs.YtfbppkjjdbkedaaGreatDoor.Ref
/-
  The abstract machine as a program: operations that turn something.
-/
namespace Go.Proofs.YtfbppkjjdbkedaaGreatDoor.Ref
noncomputable section
open Go
set_option linter.unusedVariables false
variable {X : Cx}

/-- The operation leads from S to S'. -/
def RES (X : Cx) (S : ASt) (o : Oper) (S' : ASt) : Prop :=
  ∀ g β R Os a w, g.G = X.G → StR g β R Os S a w → ∃ v w' β' R' Os', ((execOp a.eval o).run X.P w = .ok (.value v) w' ∨ ((execOp a.eval o).run X.P w = .ok .skip w' ∧ v = undef)) ∧ StR g β' R' Os' S' (a.put o.dst v) w'
theorem Res.RES {S S' : ASt} {o : Oper} (h : Res X S o S') : RES X S o S' := fun g β R Os a w hG hs => by
  obtain ⟨v, w', R', Os', h1, h2⟩ := h g β R Os a w hG hs
  exact ⟨v, w', β, R', Os', h1, h2⟩
theorem RES.pre {S S1 S' : ASt} {o : Oper} (hw : Wk S S1) (h : RES X S1 o S') : RES X S o S' := fun g β R Os a w hG hs => by
  obtain ⟨β', R', Os', h1⟩ := hw g β R Os a w hs
  exact h g β' R' Os' a w hG h1
theorem RES.post {S S1 S' : ASt} {o : Oper} (h : RES X S o S1) (hw : Wk S1 S') : RES X S o S' := fun g β R Os a w hG hs => by
  obtain ⟨v, w', β', R', Os', h1, h2⟩ := h g β R Os a w hG hs
  obtain ⟨β2, R2, Os2, h3⟩ := hw g β' R' Os' _ w' h2
  exact ⟨v, w', β2, R2, Os2, h1, h3⟩

def D.isTup : D → Bool
  | .tup _ => true
  | _ => false
/-- What a slot holds, frozen. -/
def ASt.coolOp (S : ASt) (x : Operand) : ASt := match x with
  | .tmp t => match look S.slots t with
    | some (.d d) => if d.ro || !(d.okc || d.isTup) then S else { S with slots := (t, .d d.frz) :: kill (.slot t) S.slots }
    | some (.u true r p) => match S.cont r with
      | some c0 => match D.get p c0 with
        | some e => if c0.okc && e.okc && decide (t < S.n) then (S.ice r p).put t (.d e.frz) else S
        | none => S
      | none => S
    | _ => S
  | _ => S
theorem wk_coolOp (S : ASt) (x : Operand) : Wk S (S.coolOp x) := by
  unfold ASt.coolOp
  split
  · rename_i t
    split
    · rename_i d hl
      split
      · exact Wk.refl S
      · rename_i hc
        simp only [Bool.or_eq_true, Bool.not_eq_true', not_or, Bool.not_eq_false] at hc
        refine (wk_put hl fun β w R c O hv => ?_).wk
        rcases hc.2 with hk | hk
        · obtain ⟨xs, m1, m2⟩ := hv.okc hk
          exact RelV.mk (packs_frz m1) (Rel.frz d xs O m2)
        · cases d <;> first | (simp [D.isTup] at hk; done) | skip
          obtain ⟨vs, m1, m2⟩ := hv
          exact ⟨vs, m1, RelVs.frz _ _ _ m2⟩
    · rename_i r p hl
      split
      · rename_i c0 hc
        split
        · rename_i e he
          split
          · rename_i hb
            simp only [Bool.and_eq_true, decide_eq_true_eq] at hb
            exact wk_cool (h := true) hl hc hb.1.1 he hb.1.2 (fun h => by cases h) hb.2
          · exact Wk.refl S
        · exact Wk.refl S
      · exact Wk.refl S
    · exact Wk.refl S
  · exact Wk.refl S
def ASt.coolOps (S : ASt) : List Operand → ASt
  | [] => S
  | x :: l => (S.coolOp x).coolOps l
theorem wk_coolOps : ∀ (l : List Operand) (S : ASt), Wk S (S.coolOps l)
  | [], S => Wk.refl S
  | x :: l, S => (wk_coolOp S x).trans (wk_coolOps l _)
def rootOk (r : Root) (p : List Nat) : Bool := match r with
  | .slot _ => !p.isEmpty
  | .box _ => true
def isUp (S : ASt) (x : Operand) : Option Nat := match x with
  | .tmp t => match look S.slots t with
    | some (.u false _ _) => some t
    | _ => none
  | _ => none
/-- What lies behind a pointer, frozen. -/
def ASt.coolP (G : Nat → Option D) (S : ASt) (x : Operand) : ASt := match S.ptr G x with
  | some (r, p) => match S.cont r with
    | some c0 => match D.get p c0 with
      | some e => if c0.okc && e.okc && !e.ro && rootOk r p then (match isUp S x with
          | some t => if decide (t < S.n) then (S.ice r p).put t (.u false r p) else S
          | none => S.ice r p) else S
      | none => S
    | none => S
  | none => S
theorem wk_coolP (G : Nat → Option D) (S : ASt) (x : Operand) : Wk S (S.coolP G x) := by
  unfold ASt.coolP
  split
  · rename_i r p hp
    split
    · rename_i c0 hc
      split
      · rename_i e he
        split
        · rename_i hb
          simp only [Bool.and_eq_true] at hb
          split
          · rename_i t hu
            split
            · rename_i ht
              unfold isUp at hu
              split at hu
              · rename_i t'
                split at hu
                · rename_i r' p' hl
                  injection hu with hu
                  subst hu
                  simp only [ASt.ptr, ASt.ev, hl, Option.some.injEq, Prod.mk.injEq] at hp
                  obtain ⟨rfl, rfl⟩ := hp
                  exact wk_cool (h := false) hl hc hb.1.1.1 he hb.1.1.2 (fun _ s hs => by subst hs; simpa [rootOk] using hb.2) (by simpa using ht)
                · simp at hu
              · simp at hu
            · exact Wk.refl S
          · exact (wk_ice hc hb.1.1.1 he hb.1.1.2).wk
        · exact Wk.refl S
      · exact Wk.refl S
    · exact Wk.refl S
  · exact Wk.refl S

def takeOk (r : Root) (p : List Nat) : Bool := true
/-- What hangs at a slot becomes the slot's own. -/
def ASt.pull (S : ASt) (x : Operand) : ASt := match x with
  | .tmp t => match look S.slots t with
    | some (.u true r p) => match S.cont r with
      | some c0 => match D.get p c0 with
        | some e => if c0.okc && decide (t < S.n) && takeOk r p then (S.out r p).put t (.d e) else S
        | none => S
      | none => S
    | _ => S
  | _ => S
theorem wk_pull (S : ASt) (x : Operand) : Wk S (S.pull x) := by
  unfold ASt.pull
  split
  · rename_i t
    split
    · rename_i r p hl
      split
      · rename_i c0 hc
        split
        · rename_i e he
          split
          · rename_i hb
            simp only [Bool.and_eq_true, decide_eq_true_eq] at hb
            intro g β R Os a w h
            obtain ⟨d, pos, e1, pos', c, k1, k2, k3, k4⟩ := h.ups t _ r p hl
            have hcd : c0 = d := by rw [root_cont k1] at hc; injection hc with hc; exact hc.symm
            subst hcd
            have hee : e1 = e := by have := walk_get w p c0 e1 pos pos' k2; rw [he] at this; injection this with this; exact this.symm
            subst hee
            obtain ⟨Os', Oe, q1, q2, q3, q4⟩ := take_core h k1 k2 k4.1 k4.2 hb.1.1
            have ha : ∀ ds, e1 ≠ .agg ds := by intro ds e0; have := k4.1; subst e0; simp [D.isHdr] at this
            have htl : t < a.tmps.size := Nat.lt_of_lt_of_le hb.1.2 h.size
            have := q1.putX (Grow.refl w) (fun _ x => x) (fun _ x => .inl x) (t := t) (d := e1) (v := c) (On := Oe) htl (RelV.mk ((packs_one ha).2 rfl) q2) (fun x hx => ⟨(h.own r x (q3 x hx)).1, (h.own r x (q3 x hx)).2, fun q _ hq => q4 q x hq hx⟩) (fun x hx hy => h.apart r x hx (q3 x hy))
            rw [put_same k3] at this
            exact ⟨β, R, _, this⟩
          · exact Wk.refl S
        · exact Wk.refl S
      · exact Wk.refl S
    · exact Wk.refl S
  · exact Wk.refl S
end
end Go.Proofs.YtfbppkjjdbkedaaGreatDoor.Ref
/-
  The abstract machine as a program: one operation.
-/
namespace Go.Proofs.YtfbppkjjdbkedaaGreatDoor.Ref
noncomputable section
open Go
set_option linter.unusedVariables false
variable {X : Cx}

theorem beq_ne {a b : Nat} (h : Nat.beq a b = false) : a ≠ b := fun e => by rw [e, Nat.beq_refl] at h; cases h
def upOk (t : Nat) : TV → Bool
  | .u _ (.slot s) _ => !(Nat.beq s t)
  | _ => true
/-- A value into a slot; what hangs on it is struck where something may. -/
def ASt.putF (S : ASt) (t : Nat) (x : TV) : ASt := match look S.slots t with
  | some (.d d) => match d.isHdr with
    | true => S.put t x
    | false => { S with slots := (t, x) :: S.slots }
  | _ => { S with slots := (t, x) :: S.slots }
theorem putF_wk {g : Gh} {β : Env} {R : Blk} {Os : Own} {S : ASt} {a : Act} {w : World} (h : StR g β R Os S a w) (t : Nat) (x : TV) : Wk (S.put t x) (S.putF t x) := by
  have key : (∀ d, look S.slots t = some (.d d) → d.isHdr = false) → Wk (S.put t x) { S with slots := (t, x) :: S.slots } := by
    intro hno
    have hl : ∀ s, look (kill (.slot t) S.slots) s = look S.slots s := by
      intro s
      rw [look_kill]
      split
      · rename_i b r p hs
        obtain ⟨d, pos, e, pos', c, k1, _⟩ := h.ups s b r p hs
        split
        · rename_i hr
          subst hr
          cases k1 with
          | slot q1 q2 q3 => rw [hno d q1] at q2; cases q2
        · exact hs.symm
      · rfl
    have hl2 : ∀ s, look ((t, x) :: S.slots) s = look (S.put t x).slots s := by
      intro s
      rw [look_put]
      simp only [look_nil, look_cons, hl]
    exact wk_sub rfl (Nat.le_refl _) (fun s y hy => by rw [← hl2]; exact hy) rfl (fun s b r p hs u hu => hl2 u)
  unfold ASt.putF
  split
  · rename_i d hd
    split
    · exact Wk.refl _
    · rename_i hh
      exact key fun d' hd' => by rw [hd] at hd'; injection hd' with hd'; injection hd' with hd'; rw [← hd']; exact hh
  · rename_i hne
    exact key fun d hd => absurd hd (hne d)
theorem RES.fast {S : ASt} {o : Oper} {t : Nat} {x : TV} (h : RES X S o (S.put t x)) : RES X S o (S.putF t x) := fun g β R Os a w hG hs => by
  obtain ⟨v, w', β', R', Os', h1, h2⟩ := h g β R Os a w hG hs
  obtain ⟨β2, R2, Os2, h3⟩ := putF_wk hs t x g β' R' Os' _ w' h2
  exact ⟨v, w', β2, R2, Os2, h1, h3⟩
/-- A value for the operation's slot. -/
def ASt.fin (S : ASt) (o : Oper) (tv : TV) : Option ASt := match o.dst with
  | some t => gd (decide (t < S.n) && upOk t tv) (some (S.putF t tv))
  | none => none
theorem fin_ok {S S' : ASt} {o : Oper} {tv : TV} (hn : NRes X S o tv) (h : S.fin o tv = some S') : RES X S o S' := by
  unfold ASt.fin at h
  split at h
  · rename_i t hd
    obtain ⟨hc, h⟩ := gd_eq h
    injection h with h; subst h
    simp only [Bool.and_eq_true, decide_eq_true_eq] at hc
    refine (hn.res hd hc.1 ?_).RES.fast
    rintro b r p rfl rfl
    have := hc.2
    simp only [upOk, Bool.not_eq_true'] at this
    exact beq_ne this rfl
  · simp at h

def storeE (X : Cx) (S : ASt) (o : Oper) (t : TypeId) (x y : Operand) : Option ASt := gd (o.dst.isNone) <| bd (X.T t) fun i => bd (S.ptr X.G x) fun rp => bd (S.cont rp.1) fun c => bd (D.get rp.2 c) fun e => gd (c.okc && rootOk rp.1 rp.2) <| bd (asD (S.ev X.G y)) fun d => match d.ro with
  | true => gd (d.sn && Nat.beq d.nc i.size && Nat.beq d.nc e.nc) (some (S.upd rp.1 (D.setp rp.2 d c)))
  | false => match y with
    | .tmp ty => gd (d.isHdr && Nat.beq i.size 1 && Nat.beq e.nc 1 && (match rp.1 with | .slot s => !(Nat.beq ty s) | .box _ => true)) (some ((S.drop ty).upd rp.1 (D.setp rp.2 d c)))
    | _ => none
theorem storeE_ok (hX : X.Ok) {S S' : ASt} {o : Oper} {t : TypeId} {x y : Operand} (ho : o.op = .store t x y) (h : storeE X S o t x y = some S') : RES X S o S' := by
  obtain ⟨hd, h⟩ := gd_eq h
  have hd : o.dst = none := by simpa using hd
  obtain ⟨i, ht, h⟩ := bd_eq h
  obtain ⟨⟨r, p⟩, hp, h⟩ := bd_eq h
  obtain ⟨c, hc, h⟩ := bd_eq h
  obtain ⟨e, he, h⟩ := bd_eq h
  obtain ⟨hk, h⟩ := gd_eq h
  simp only [Bool.and_eq_true] at hk
  have hp0 : ∀ t, r = .slot t → p ≠ [] := fun t ht => by subst ht; simpa [rootOk] using hk.2
  obtain ⟨d, hy, h⟩ := bd_eq h
  have hy := asD_eq hy
  split at h
  · rename_i hr
    obtain ⟨hb, h⟩ := gd_eq h
    injection h with h; subst h
    simp only [Bool.and_eq_true] at hb
    exact (e_store hX ho hd ht hp hc hk.1 he hy hr hb.1.1 (Nat.eq_of_beq_eq_true hb.1.2) (Nat.eq_of_beq_eq_true hb.2) hp0).RES
  · split at h
    · rename_i ty
      obtain ⟨hb, h⟩ := gd_eq h
      injection h with h; subst h
      simp only [Bool.and_eq_true] at hb
      refine (e_storeO hX ho hd ht hp hc hk.1 he hy hb.1.1.1 (Nat.eq_of_beq_eq_true hb.1.1.2) (Nat.eq_of_beq_eq_true hb.1.2) hp0 ?_).RES
      intro e0
      have := hb.2
      rw [← e0] at this
      simp only [Bool.not_eq_true'] at this
      exact beq_ne this rfl
    · simp at h
def takeE (X : Cx) (S : ASt) (o : Oper) (x : Operand) : Option ASt := bd o.dst fun t => bd (S.src X.G x) fun rp => bd (S.cont rp.1) fun c => bd (D.get rp.2 c) fun e => gd (c.okc && takeOk rp.1 rp.2 && decide (t < S.n)) (some ((S.out rp.1 rp.2).put t (.d e)))
theorem takeE_ok {S S' : ASt} {o : Oper} {x : Operand} (ho : o.op = .assign x ∨ o.op = .move x) (h : takeE X S o x = some S') : RES X S o S' := by
  obtain ⟨t, hd, h⟩ := bd_eq h
  obtain ⟨⟨r, p⟩, hx, h⟩ := bd_eq h
  obtain ⟨c, hc, h⟩ := bd_eq h
  obtain ⟨e, he, h⟩ := bd_eq h
  obtain ⟨hb, h⟩ := gd_eq h
  injection h with h; subst h
  simp only [Bool.and_eq_true, decide_eq_true_eq] at hb
  exact (e_take ho hd hb.2 hx hc hb.1.1 he).RES
def sliceE' (X : Cx) (S : ASt) (o : Oper) (t : TypeId) (x : Operand) (lo hi : Option Operand) : Option ASt := bd o.dst fun u => bd (X.sl t) fun ek => bd (S.src X.G x) fun rp => bd (S.cont rp.1) fun c => bd (D.get rp.2 c) fun e => bd (ownL e) fun w =>
  gd (c.okc && takeOk rp.1 rp.2 && decide (u < S.n) && D.roL w.2.2 && Nat.beq ek.2.size w.2.1) <| bd (S.bnd X.G 0 lo) fun l => bd (S.bnd X.G w.2.2.length hi) fun h => gd (decide (l ≤ h) && decide (h ≤ w.2.2.length)) (some ((S.out rp.1 rp.2).put u (.d (.own w.1 w.2.1 ((w.2.2.drop l).take (h - l))))))
theorem sliceE_ok (hX : X.Ok) {S S' : ASt} {o : Oper} {t : TypeId} {x : Operand} {lo hi : Option Operand} (ho : o.op = .slice t x lo hi none) (h : sliceE' X S o t x lo hi = some S') : RES X S o S' := by
  obtain ⟨u, hd, h⟩ := bd_eq h
  obtain ⟨⟨el, k⟩, hs, h⟩ := bd_eq h
  obtain ⟨i, ht, hde, he⟩ := sl_eq hs
  obtain ⟨⟨r, p⟩, hx, h⟩ := bd_eq h
  obtain ⟨c, hc, h⟩ := bd_eq h
  obtain ⟨e, hg, h⟩ := bd_eq h
  obtain ⟨⟨nn, sz, ds⟩, hw, h⟩ := bd_eq h
  have hw := ownL_eq hw
  subst hw
  obtain ⟨hb, h⟩ := gd_eq h
  simp only [Bool.and_eq_true, decide_eq_true_eq] at hb
  obtain ⟨l, hl, h⟩ := bd_eq h
  obtain ⟨hh, hhi, h⟩ := bd_eq h
  obtain ⟨hbb, h⟩ := gd_eq h
  injection h with h; subst h
  simp only [Bool.and_eq_true, decide_eq_true_eq] at hbb
  exact (e_sliceO hX ho hd hb.1.1.2 ht hde he (Nat.eq_of_beq_eq_true hb.2) hx hc hb.1.1.1.1 hg hb.1.2 hl hhi hbb.1 hbb.2).RES
def appE (X : Cx) (S : ASt) (o : Oper) (c : Call) : Option ASt := match c.callee, c.args, c.argTypes with
  | .builtin .append, ⟨[x, y]⟩, ⟨[t, t']⟩ => gd (Nat.beq t t') <| bd o.dst fun u => gd (decide (u < S.n)) <| bd (X.sl t) fun ek => gd (!(Nat.beq ek.2.bytes 0) && Nat.beq ek.2.zero.nc ek.2.size) <|
    match S.ev X.G y with
    | some (.d (.row _ sy es)) => gd (Nat.beq sy ek.2.size && D.snL es) <| match S.ev X.G x with
      | some (.d (.v (.slice none 0 0))) => gd (decide (es.length * ek.2.bytes ≤ lim)) (some (S.put u (.d (.own false ek.2.size es))))
      | _ => bd (S.src X.G x) fun rp => bd (S.cont rp.1) fun c0 => bd (D.get rp.2 c0) fun e => bd (ownL e) fun w => gd (c0.okc && takeOk rp.1 rp.2 && Nat.beq ek.2.size w.2.1 && decide ((w.2.2.length + es.length) * ek.2.bytes ≤ lim)) (some ((S.out rp.1 rp.2).put u (.d (.own w.1 w.2.1 (w.2.2 ++ es)))))
    | _ => none
  | _, _, _ => none
theorem appE_ok (hX : X.Ok) {S S' : ASt} {o : Oper} {c : Call} (ho : o.op = .call c) (h : appE X S o c = some S') : RES X S o S' := by
  unfold appE at h
  split at h
  · rename_i x y t t' h1 h2 h3
    obtain ⟨htt, h⟩ := gd_eq h
    have h3 : c.argTypes = ⟨[t, t]⟩ := by rw [h3, Nat.eq_of_beq_eq_true htt]
    obtain ⟨u, hd, h⟩ := bd_eq h
    obtain ⟨hu, h⟩ := gd_eq h
    have hu : u < S.n := by simpa using hu
    obtain ⟨⟨el, k⟩, hs, h⟩ := bd_eq h
    obtain ⟨i, ht, hde, he⟩ := sl_eq hs
    obtain ⟨hb, h⟩ := gd_eq h
    simp only [Bool.and_eq_true, Bool.not_eq_true'] at hb
    have hby : k.bytes ≠ 0 := beq_ne hb.1
    have hz := Nat.eq_of_beq_eq_true hb.2
    split at h
    · rename_i nn' sy es hy
      obtain ⟨hc, h⟩ := gd_eq h
      simp only [Bool.and_eq_true] at hc
      have hy : S.ev X.G y = some (.d (.row nn' k.size es)) := by rw [hy, Nat.eq_of_beq_eq_true hc.1]
      split at h
      · rename_i hx
        obtain ⟨hl, h⟩ := gd_eq h
        injection h with h; subst h
        exact (e_appendN hX ho h1 h2 h3 hd hu ht hde he hby rfl hz hx hy hc.2 (by simpa using hl)).RES
      · obtain ⟨⟨r, p⟩, hx, h⟩ := bd_eq h
        obtain ⟨c0, hc0, h⟩ := bd_eq h
        obtain ⟨e, hg, h⟩ := bd_eq h
        obtain ⟨⟨nn, sz, ds⟩, hw, h⟩ := bd_eq h
        have hw := ownL_eq hw
        subst hw
        obtain ⟨hbb, h⟩ := gd_eq h
        injection h with h; subst h
        simp only [Bool.and_eq_true, decide_eq_true_eq] at hbb
        have hsz := Nat.eq_of_beq_eq_true hbb.1.2
        rw [hsz] at hy hz
        exact (e_append hX ho h1 h2 h3 hd hu ht hde he hby hsz hz hx hc0 hbb.1.1.1 hg hy hc.2 hbb.2).RES
    · simp at h
  · simp at h
/-- A nil slice that is appended is one without elements. -/
def ASt.nilRow (S : ASt) (sz : Nat) : Operand → ASt
  | .tmp t => match look S.slots t with
    | some (.d (.v (.slice none 0 0))) => { S with slots := (t, .d (.row false sz [])) :: kill (.slot t) S.slots }
    | _ => S
  | _ => S
theorem wk_nilRow (S : ASt) (sz : Nat) (x : Operand) : Wk S (S.nilRow sz x) := by
  unfold ASt.nilRow
  split
  · rename_i t
    split
    · rename_i hl
      refine (wk_put hl fun β w R c O hv => ?_).wk
      obtain ⟨xs, m1, m2⟩ := hv
      simp only [packs] at m1
      simp only [Rel] at m2
      exact RelV.mk (xs := [c]) (by simp [packs]) (.inl ⟨rfl, none, 0, by rw [← m1, m2.2], fun _ => ⟨rfl, rfl⟩⟩)
    · exact Wk.refl S
  · exact Wk.refl S
def ASt.nilA (X : Cx) (S : ASt) (c : Call) : ASt := match c.callee, c.args, c.argTypes with
  | .builtin .append, ⟨[_, y]⟩, ⟨[t, _]⟩ => match X.sl t with
    | some ek => S.nilRow ek.2.size y
    | none => S
  | _, _, _ => S
theorem wk_nilA (X : Cx) (S : ASt) (c : Call) : Wk S (S.nilA X c) := by
  unfold ASt.nilA
  split
  · split
    · exact wk_nilRow _ _ _
    · exact Wk.refl S
  · exact Wk.refl S
def extE (X : Cx) (S : ASt) (o : Oper) (x : Operand) (j : Nat) : Option ASt := match x with
  | .tmp t => bd o.dst fun u => gd (decide (u < S.n) && !(Nat.beq u t)) <| bd (tupL (look S.slots t)) fun ds => bd ds[j]? fun d => some (((S.drop t).put t (.d (.tup (ds.set j .dead)))).put u (.d d))
  | _ => none
theorem extE_ok {S S' : ASt} {o : Oper} {x : Operand} {j : Nat} (ho : o.op = .extract x j) (h : extE X S o x j = some S') : RES X S o S' := by
  unfold extE at h
  split at h
  · rename_i t
    obtain ⟨u, hd, h⟩ := bd_eq h
    obtain ⟨hb, h⟩ := gd_eq h
    obtain ⟨ds, hx, h⟩ := bd_eq h
    obtain ⟨d, hj, h⟩ := bd_eq h
    injection h with h; subst h
    simp only [Bool.and_eq_true, decide_eq_true_eq, Bool.not_eq_true'] at hb
    have hne := beq_ne hb.2
    exact (e_extractO ho hd hb.1 (tupL_eq hx) hj hne).RES
  · simp at h
def mapE (X : Cx) (S : ASt) (o : Oper) (t : TypeId) (x y z : Operand) : Option ASt := gd o.dst.isNone <| bd (X.T t) fun i => bd (mapK i.desc) fun ke => bd (X.T ke.1) fun ki => gd (keyD ki.desc) <| bd (asV (S.ev X.G y)) fun k => bd (asD (S.ev X.G z)) fun v => gd (v.ro && v.okc) <|
  bd (S.src X.G x) fun rp => bd (S.cont rp.1) fun c0 => bd (mapL (D.get rp.2 c0)) fun m => gd c0.okc <| bd (updM ki.desc k v m.1 m.2) fun m' => some (S.upd rp.1 (D.setp rp.2 (.mapo m'.1 m'.2) c0))
theorem mapE_ok (hX : X.Ok) {S S' : ASt} {o : Oper} {t : TypeId} {x y z : Operand} (ho : o.op = .mapUpdate t x y z ∨ o.op = .insert t x y z) (h : mapE X S o t x y z = some S') : RES X S o S' := by
  obtain ⟨hd, h⟩ := gd_eq h
  have hd : o.dst = none := by simpa using hd
  obtain ⟨i, ht, h⟩ := bd_eq h
  obtain ⟨⟨kt, et⟩, hde, h⟩ := bd_eq h
  obtain ⟨ki, hk, h⟩ := bd_eq h
  obtain ⟨hkd, h⟩ := gd_eq h
  obtain ⟨k, hy, h⟩ := bd_eq h
  obtain ⟨v, hz, h⟩ := bd_eq h
  obtain ⟨hv, h⟩ := gd_eq h
  simp only [Bool.and_eq_true] at hv
  obtain ⟨⟨r, p⟩, hx, h⟩ := bd_eq h
  obtain ⟨c0, hc, h⟩ := bd_eq h
  obtain ⟨⟨ks, ds⟩, hm, h⟩ := bd_eq h
  obtain ⟨hok, h⟩ := gd_eq h
  obtain ⟨⟨ks', ds'⟩, hu, h⟩ := bd_eq h
  injection h with h; subst h
  exact (e_mapUpdate hX ho hd ht (mapK_eq hde) hk hkd hx hc hok (mapL_eq hm) (asV_eq hy) (asD_eq hz) hv.1 hv.2 hu).RES

def cst (x : Operand) : List Operand := [x]
/-- The operands that an operation copies: they are frozen first. -/
def coolers (o : Op) : List Operand := match o with
  | .build _ parts => parts.toList.map (·.2)
  | .buildSlice _ _ parts => parts.toList.map (·.2)
  | .makeFunc _ _ captured => captured.toList
  | .makeInterface _ x => [x]
  | .box _ x => [x]
  | .mapUpdate _ _ _ z => [z]
  | .insert _ _ _ z => [z]
  | .call c => match c.callee, c.args with
    | .builtin .append, ⟨[_, y]⟩ => [y]
    | _, _ => []
  | _ => []
/-- What is frozen ahead: by the operation's kind, and where a hint (2) says so. -/
def preS (X : Cx) (S : ASt) (h : Nat) (o : Op) : ASt := match h with
  | 3 => S
  | 2 => match o with
    | .load _ x => S.coolP X.G x
    | .move x => S.coolOp x
    | .assign x => S.coolOp x
    | .slice _ x _ _ _ => S.coolOp x
    | .store _ _ y => S.coolOp y
    | .extract x _ => S.coolOp x
    | _ => S.coolOps (coolers o)
  | _ => S.coolOps (coolers o)
theorem wk_preS (X : Cx) (S : ASt) (h : Nat) (o : Op) : Wk S (preS X S h o) := by
  unfold preS
  split
  · exact Wk.refl S
  · split <;> first | exact wk_coolP _ _ _ | exact wk_coolOp _ _ | exact wk_coolOps _ _
  · exact wk_coolOps _ _
/-- One operation that calls nobody. -/
def opE (X : Cx) (S : ASt) (h : Nat) (o : Oper) : Option ASt := match o.op with
  | .store t x y => storeE X S o t x y
  | .assign x => match bd (nop X S o) (fun tv => match tv with | .d _ => S.fin o tv | _ => none) with
    | some S' => some S'
    | none => takeE X S o x
  | .move x => match h with
    | 1 => takeE X S o x
    | _ => bd (nop X S o) fun tv => S.fin o tv
  | .slice t x lo hi none => match bd (nop X S o) (fun tv => S.fin o tv) with
    | some S' => some S'
    | none => sliceE' X S o t x lo hi
  | .extract x j => match bd (nop X S o) (fun tv => S.fin o tv) with
    | some S' => some S'
    | none => extE X S o x j
  | .mapUpdate t x y z => mapE X S o t x y z
  | .insert t x y z => mapE X S o t x y z
  | .call c => match bd (nop X S o) (fun tv => S.fin o tv) with
    | some S' => some S'
    | none => appE X (S.nilA X c) o c
  | .build t parts => match h with
    | 3 => buildO X S o t parts
    | _ => bd (nop X S o) fun tv => S.fin o tv
  | .box _ x => match h with
    | 3 => boxO S o x
    | _ => bd (nop X S o) fun tv => S.fin o tv
  | _ => bd (nop X S o) fun tv => S.fin o tv
theorem nopE_ok (hX : X.Ok) {S S' : ASt} {o : Oper} (h : (bd (nop X S o) fun tv => S.fin o tv) = some S') : RES X S o S' := by
  obtain ⟨tv, h1, h2⟩ := bd_eq h
  exact fin_ok (nop_ok hX h1) h2
theorem opE_ok (hX : X.Ok) {S S' : ASt} {hh : Nat} {o : Oper} (h : opE X S hh o = some S') : RES X S o S' := by
  unfold opE at h
  split at h
  · rename_i ho; exact storeE_ok hX ho h
  · rename_i x ho
    split at h
    · rename_i S1 h1
      injection h with h; subst h
      obtain ⟨tv, h2, h3⟩ := bd_eq h1
      split at h3
      · exact fin_ok (nop_ok hX h2) h3
      · simp at h3
    · exact takeE_ok (.inl ho) h
  · rename_i ho
    split at h
    · exact takeE_ok (.inr ho) h
    · exact nopE_ok hX h
  · rename_i ho
    split at h
    · rename_i S1 h1; injection h with h; subst h; exact nopE_ok hX h1
    · exact sliceE_ok hX ho h
  · rename_i ho
    split at h
    · rename_i S1 h1; injection h with h; subst h; exact nopE_ok hX h1
    · exact extE_ok ho h
  · rename_i ho; exact mapE_ok hX (.inl ho) h
  · rename_i ho; exact mapE_ok hX (.inr ho) h
  · rename_i ho
    split at h
    · rename_i S1 h1; injection h with h; subst h; exact nopE_ok hX h1
    · exact (appE_ok hX ho h).pre (wk_nilA X S _)
  · rename_i ho
    split at h
    · exact (buildO_ok hX ho h).RES
    · exact nopE_ok hX h
  · rename_i ho
    split at h
    · exact (boxO_ok ho h).RES
    · exact nopE_ok hX h
  · exact nopE_ok hX h
/-- What becomes of the result, where a hint says so: a box (4), frozen (5). -/
def postS (S : ASt) (h : Nat) (dst : Option Nat) : Option ASt := match h, dst with
  | 4, some t => match look S.slots t with
    | some (.d (.cell _)) => gd (decide (S.nb ≤ S.boxes.length)) (some (S.lend t))
    | _ => none
  | 5, some t => some (S.coolOp (.tmp t))
  | _, _ => some S
theorem wk_postS {S S' : ASt} {h : Nat} {dst : Option Nat} (hp : postS S h dst = some S') : Wk S S' := by
  unfold postS at hp
  split at hp
  · split at hp
    · rename_i d hl
      obtain ⟨hb, hp⟩ := gd_eq hp
      injection hp with hp; subst hp
      exact wk_lend hl (by simpa using hb)
    · simp at hp
  · injection hp with hp; subst hp; exact wk_coolOp _ _
  · injection hp with hp; subst hp; exact Wk.refl _
def opS (X : Cx) (S : ASt) (h : Nat) (o : Oper) : Option ASt := bd (opE X (preS X S h o.op) h o) fun S' => postS S' h o.dst
theorem opS_ok (hX : X.Ok) {S S' : ASt} {hh : Nat} {o : Oper} (h : opS X S hh o = some S') : RES X S o S' := by
  obtain ⟨S1, h1, h2⟩ := bd_eq h
  exact ((opE_ok hX h1).pre (wk_preS X S hh o.op)).post (wk_postS h2)
end
end Go.Proofs.YtfbppkjjdbkedaaGreatDoor.Ref
