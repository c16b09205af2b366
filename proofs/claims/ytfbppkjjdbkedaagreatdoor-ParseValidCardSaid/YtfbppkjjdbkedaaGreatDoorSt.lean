/-
  The library's slices.Backward, of a slice that nobody turns: what its iterator hands out.
-/
import Derived.Test.YtfbppkjjdbkedaaGreatDoorMu
import Derived.Test.YtfbppkjjdbkedaaGreatDoorRefD
namespace Go.Proofs.YtfbppkjjdbkedaaGreatDoor.Ref
noncomputable section
open Go
set_option linter.unusedVariables false
set_option maxRecDepth 100000
theorem i64_down {n k : Nat} (hk : k < n) (hn : n < 4611686018427387904) : IntKind.i64.wrap (((n - 1 - k : Nat) : Int) - 1) = (n : Int) - 1 - ((k + 1 : Nat) : Int) := by
  simp only [IntKind.wrap, IntKind.bits, IntKind.signed]; simp; omega
theorem i64_dec {n : Nat} (hn : n < 4611686018427387904) : IntKind.i64.wrap ((n : Int) - 1) = (n : Int) - 1 - ((0 : Nat) : Int) := by
  simp only [IntKind.wrap, IntKind.bits, IntKind.signed]; simp; omega
theorem Rd.sw {R : Blk} {W : World} {d : D} {c : Value} (h : Rd X R W d c) {a : Act} {n : Nat} (hn : n ≤ a.tmps.size) (hd : a.defers = []) (l : List (Nat × TV)) (hl : ∀ t x, look l t = some x → ∃ e v, x = .d e ∧ a.tmps[t]? = some v ∧ RelV (fun _ => none) W R e v Blk.emp) : Sw X R W ⟨n, l, [], 0⟩ a := by
  refine ⟨fun _ => Blk.emp, fun b => ⟨fun hb => by simp at hb, fun _ => rfl⟩, hn, hd, ?_, ?_, ?_, fun _ _ _ x hx => hx.elim, fun _ x _ hx => hx.elim, fun _ x hx => hx.elim, fun x hx => ⟨h.lt x hx, .inl hx⟩, Fr.refl _ _, h.glob⟩
  · intro t e he
    obtain ⟨e', v, h1, h2, h3⟩ := hl t _ he
    injection h1 with h1
    subst h1
    exact ⟨v, h2, h3⟩
  · intro t b r p hu
    obtain ⟨e', v, h1, _⟩ := hl t _ hu
    cases h1
  · intro b d hb; simp at hb
theorem relV_int {β : Env} {W : World} {R : Blk} {k : IntKind} {z : Int} : RelV β W R (.v (.int k z)) (.int k z) Blk.emp := RelV.mk (xs := [.int k z]) (by simp [packs]) (by simp [Rel, scal])
theorem relV_int_eq {β : Env} {W : World} {R O : Blk} {k : IntKind} {z : Int} {v : Value} (h : RelV β W R (.v (.int k z)) v O) : v = .int k z := by
  obtain ⟨xs, h1, h2⟩ := h
  simp only [Rel] at h2
  simp only [packs] at h1
  rw [h1] at h2
  have := h2.2
  injection this
def bwM (a : Act) : Nat := match a.tmps[3]? with
  | some (Value.int _ z) => (z + 1).toNat
  | _ => 0
theorem relV_bool_eq {β : Env} {W : World} {R O : Blk} {b : Bool} {v : Value} (h : RelV β W R (.v (.bool b)) v O) : v = .bool b := by
  obtain ⟨xs, h1, h2⟩ := h
  simp only [Rel] at h2
  simp only [packs] at h1
  rw [h1] at h2
  have := h2.2
  injection this
theorem eval_self {a : Act} {t : Nat} {v : Value} (h : t < a.tmps.size) : (a.put (some t) v).eval (.tmp t) = v := by simp [Act.eval, Act.put, h]
theorem eval_at {a : Act} {t : Nat} {v : Value} (h : a.tmps[t]? = some v) : a.eval (.tmp t) = v := by simp [Act.eval, h]
set_option maxHeartbeats 4000000 in
theorem bw_syn {nn : Bool} {ds : List D} (hlen : ds.length < 4611686018427387904) (hfit : ∀ x ∈ ds, ∃ i, X.T 26 = some i ∧ i.fits x = true) : Iter X 201 (.row nn 4 ds) ds := by
  intro n l R c1 J W hJ hY h0
  refine callsIn_of_wp (hF 201 _ rfl).1 rfl trivial ?_ rfl
  have hpin : ∀ a : Act, a.tmps.size = 19 → a.defers = [] → a.tmps[1]? = some c1 → ∀ k W, J k W → Sw X R W ⟨19, [(1, .d (.fz (.row nn 4 ds)))], [], 0⟩ a := fun a h1 h2 h3 k W hj => (hJ k W hj).sw (by rw [h1]; exact Nat.le_refl _) h2 _ fun t x ht => by
    simp only [look_nil, look_cons] at ht
    split at ht
    · rename_i e; subst e; injection ht with ht; exact ⟨_, c1, ht.symm, h3, (hJ k W hj).rel⟩
    · cases ht
  have hpin2 : ∀ a : Act, a.tmps.size = 19 → a.defers = [] → a.tmps[1]? = some c1 → ∀ z, a.tmps[3]? = some (.int .i64 z) → ∀ k W, J k W → Sw X R W ⟨19, [(3, .d (.v (.int .i64 z))), (1, .d (.fz (.row nn 4 ds)))], [], 0⟩ a := fun a h1 h2 h3 z h4 k W hj => (hJ k W hj).sw (by rw [h1]; exact Nat.le_refl _) h2 _ fun t x ht => by
    simp only [look_nil, look_cons] at ht
    split at ht
    · rename_i e; subst e; injection ht with ht; exact ⟨_, _, ht.symm, h4, relV_int⟩
    · split at ht
      · rename_i e; subst e; injection ht with ht; exact ⟨_, c1, ht.symm, h3, (hJ k W hj).rel⟩
      · cases ht
  have hnt : Tryz.f201.ntmps = 19 := rfl
  rw [hnt]
  refine wpIn_seq (wpIn_region_list ?_)
  have s0 := hpin { tmps := #[.func (.yield l) #[] #[], c1] ++ Array.replicate (19 - (#[.func (.yield l) #[] #[], c1] : Array Value).size) undef, defers := [] } (by simp) rfl (by simp) 0 W h0
  refine wl_nop hX s0 (d := .row nn 4 ds) (t := 4) rfl (earlyT_ok hX rfl) rfl rfl rfl rfl fun v1 _ s1 => ?_
  refine wl_nop hX s1 (d := .v (.int .i64 ds.length)) (t := 5) rfl (earlyT_ok hX rfl) rfl rfl rfl rfl fun v2 _ s2 => ?_
  refine wl_nop hX s2 (d := .v (.int .i64 (IntKind.i64.wrap (ds.length - 1)))) (t := 6) rfl (earlyT_ok hX rfl) rfl rfl rfl rfl fun v3 _ s3 => ?_
  refine wl_nop hX s3 (d := .v (.int .i64 (IntKind.i64.wrap (ds.length - 1)))) (t := 3) rfl (f_move (.inr rfl)) rfl rfl rfl rfl fun v4 e4 s4 => ?_
  have h4 := relV_int_eq e4
  rw [i64_dec hlen] at h4
  subst h4
  refine wpIn_block (wpIn_loop (fun a w => ∃ k, k ≤ ds.length ∧ a.tmps.size = 19 ∧ a.defers = [] ∧ a.tmps[0]? = some (.func (.yield l) #[] #[]) ∧ a.tmps[1]? = some c1 ∧ a.tmps[3]? = some (.int .i64 ((ds.length : Int) - 1 - (k : Nat))) ∧ J k w) (fun a _ => bwM a) ⟨0, Nat.zero_le _, by simp [pin_size], rfl, ?_, ?_, ?_, h0⟩ ?_)
  · exact pin_ne (pin_ne (pin_ne (pin_ne (by simp) rfl) rfl) rfl) rfl
  · exact pin_ne (pin_ne (pin_ne (pin_ne (by simp) rfl) rfl) rfl) rfl
  · exact pin_self (by simp [pin_size])
  clear s0 s1 s2 s3 s4
  rintro a w ⟨k, hk, q1, q2, q3, q4, q5, hj⟩
  have s0 := hpin2 a q1 q2 q4 _ q5 k w hj
  refine wpIn_seq (wpIn_seq (wpIn_region_list ?_))
  refine wl_nop hX s0 (d := .v (.int .i64 ((ds.length : Int) - 1 - (k : Nat)))) (t := 7) rfl (earlyT_ok hX rfl) rfl rfl rfl rfl fun v1 _ s1 => ?_
  refine wl_nop hX s1 (d := .v (.bool (decide ((ds.length : Int) - 1 - (k : Nat) ≥ 0)))) (t := 8) rfl (earlyT_ok hX rfl) rfl rfl rfl rfl fun v2 e2 s2 => ?_
  have e2 := relV_bool_eq e2
  subst e2
  refine wpIn_cond_split (t := decide ((ds.length : Int) - 1 - (k : Nat) ≥ 0)) (eval_self (by simp [pin_size, q1])) (fun hz => ?_) (fun hz => ?_)
  · have hz : k < ds.length := by simp at hz; omega
    refine wpIn_skip ?_
    refine wpIn_seq (wpIn_block (wpIn_seq (wpIn_region_list ?_)))
    clear s0 s1 s2
    generalize hb : (a.put (some 7) v1).put (some 8) (.bool (decide ((ds.length : Int) - 1 - (k : Nat) ≥ 0))) = b
    have p1 : b.tmps.size = 19 := by rw [← hb]; simp [pin_size, q1]
    have p2 : b.defers = [] := by rw [← hb]; simp only [pin_defers]; exact q2
    have p3 : b.tmps[0]? = some (.func (.yield l) #[] #[]) := by rw [← hb]; exact pin_ne (pin_ne q3 rfl) rfl
    have p4 : b.tmps[1]? = some c1 := by rw [← hb]; exact pin_ne (pin_ne q4 rfl) rfl
    have p5 : b.tmps[3]? = some (.int .i64 ((ds.length : Int) - 1 - (k : Nat))) := by rw [← hb]; exact pin_ne (pin_ne q5 rfl) rfl
    clear hb
    have ez : (ds.length : Int) - 1 - (k : Nat) = ((ds.length - 1 - k : Nat) : Int) := by omega
    rw [ez] at p5
    have hget : ds.length - 1 - k < ds.length := by omega
    have hgd : ds[((ds.length - 1 - k : Nat) : Int).toNat]? = some ds[ds.length - 1 - k] := by simp
    have s0 := hpin2 b p1 p2 p4 _ p5 k w hj
    refine wl_any s0 (t := 11) rfl rfl rfl rfl fun s1 => ?_
    refine wl_nop hX s1 (d := .v (.int .i64 ((ds.length - 1 - k : Nat) : Int))) (t := 12) rfl (earlyT_ok hX rfl) rfl rfl rfl rfl fun v2 e2 s2 => ?_
    refine wl_nop hX s2 (d := .row nn 4 ds) (t := 13) rfl (earlyT_ok hX rfl) rfl rfl rfl rfl fun v3 _ s3 => ?_
    refine wl_nop hX s3 (d := .v (.int .i64 ((ds.length - 1 - k : Nat) : Int))) (t := 14) rfl (earlyT_ok hX rfl) rfl rfl rfl rfl fun v4 _ s4 => ?_
    refine wl_nop hX s4 (d := .fz ds[ds.length - 1 - k]) (t := 15) (nop_idx (by rfl) (by rfl) (by rfl) (by rfl) (by rfl) (by omega) hgd) (earlyT_ok hX (early_idx (by rfl) (by rfl) (by rfl) (by rfl) (by omega) hgd)) rfl rfl rfl rfl fun v5 _ s5 => ?_
    obtain ⟨i, hti, hf⟩ := hfit _ (List.getElem_mem hget)
    refine wl_nop hX s5 (d := ds[ds.length - 1 - k]) (t := 16) (nop_loadF (by rfl) (by rfl) hti hf) (earlyT_ok hX (early_loadF (by rfl) (by rfl) hti hf)) rfl rfl rfl rfl fun v6 e6 s6 => ?_
    have e2 := relV_int_eq e2
    subst e2
    clear s0 s1 s2 s3 s4 s5
    have ev0 : b.eval (.tmp 0) = .func (.yield l) #[] #[] := eval_at p3
    rw [ev0] at s6 ⊢
    refine wl_yield (l := l) (f := 11) (x := 12) (y := 16) (t := 17) rfl rfl rfl (vx := .int .i64 ((ds.length - 1 - k : Nat) : Int)) (vy := v6) ?_ ?_ ?_ ?_
    · exact pin_ne (pin_ne (pin_ne (pin_ne (pin_ne (pin_self (by rw [p1]; omega)) rfl) rfl) rfl) rfl) rfl
    · exact pin_ne (pin_ne (pin_ne (pin_ne (pin_self (by rw [pin_size, p1]; omega)) rfl) rfl) rfl) rfl
    · exact pin_self (by simp [pin_size, p1])
    obtain ⟨fn, tmps, assign, body, y1, y2⟩ := hY k w _ v6 hj hz (by simp) e6
    refine ⟨fn, tmps, assign, body, y1, y2.mono ?_⟩
    rintro e' W' ⟨rfl, hj'⟩
    refine ⟨_, rfl, ?_⟩
    clear s6 y1 y2
    generalize hb : ((((((((b.put (some 11) (.func (.yield l) #[] #[])).put (some 12) (.int .i64 ((ds.length - 1 - k : Nat) : Int))).put (some 13) v3).put (some 14) v4).put (some 15) v5).put (some 16) v6).put (some 17) (.bool true))) = b'
    have r1 : b'.tmps.size = 19 := by rw [← hb]; simp [pin_size, p1]
    have r2 : b'.defers = [] := by rw [← hb]; simp only [pin_defers]; exact p2
    have r3 : b'.tmps[0]? = some (.func (.yield l) #[] #[]) := by rw [← hb]; exact pin_ne (pin_ne (pin_ne (pin_ne (pin_ne (pin_ne (pin_ne p3 rfl) rfl) rfl) rfl) rfl) rfl) rfl
    have r4 : b'.tmps[1]? = some c1 := by rw [← hb]; exact pin_ne (pin_ne (pin_ne (pin_ne (pin_ne (pin_ne (pin_ne p4 rfl) rfl) rfl) rfl) rfl) rfl) rfl
    have r5 : b'.tmps[3]? = some (.int .i64 ((ds.length - 1 - k : Nat) : Int)) := by rw [← hb]; exact pin_ne (pin_ne (pin_ne (pin_ne (pin_ne (pin_ne (pin_ne p5 rfl) rfl) rfl) rfl) rfl) rfl) rfl
    have r6 : b'.tmps[17]? = some (.bool true) := by rw [← hb]; exact pin_self (by simp [pin_size, p1])
    clear hb
    have s0 := (hJ (k + 1) W' hj').sw (a := b') (n := 19) (by rw [r1]; exact Nat.le_refl _) r2 [(17, .d (.v (.bool true)))] fun t x ht => by
      simp only [look_nil, look_cons] at ht
      split at ht
      · rename_i e; subst e; injection ht with ht; exact ⟨_, _, ht.symm, r6, RelV.mk (xs := [.bool true]) (by simp [packs]) (by simp [Rel, scal])⟩
      · cases ht
    refine wl_nop hX s0 (d := .v (.bool false)) (t := 18) rfl (earlyT_ok hX rfl) rfl rfl rfl rfl fun v7 e7 s7 => ?_
    have e7 := relV_bool_eq e7
    subst e7
    refine wpIn_cond_split (t := false) (eval_self (by simp [r1])) (fun hz => by cases hz) (fun _ => ?_)
    refine wpIn_skip ?_
    refine wpIn_region_list ?_
    have s0 := hpin2 (b'.put (some 18) (.bool false)) (by simp [pin_size, r1]) (by simp only [pin_defers]; exact r2) (pin_ne r4 rfl) _ (pin_ne r5 rfl) (k + 1) W' hj'
    refine wl_nop hX s0 (d := .v (.int .i64 ((ds.length - 1 - k : Nat) : Int))) (t := 9) rfl (earlyT_ok hX rfl) rfl rfl rfl rfl fun v8 _ s8 => ?_
    refine wl_nop hX s8 (d := .v (.int .i64 (IntKind.i64.wrap (((ds.length - 1 - k : Nat) : Int) - 1)))) (t := 10) rfl (earlyT_ok hX rfl) rfl rfl rfl rfl fun v9 _ s9 => ?_
    refine wl_nop hX s9 (d := .v (.int .i64 (IntKind.i64.wrap (((ds.length - 1 - k : Nat) : Int) - 1)))) (t := 3) rfl (f_move (.inr rfl)) rfl rfl rfl rfl fun v10 e10 s10 => ?_
    have e10 := relV_int_eq e10
    rw [i64_down hz hlen] at e10
    subst e10
    have f3 : ∀ z, ((((b'.put (some 18) (.bool false)).put (some 9) v8).put (some 10) v9).put (some 3) (.int .i64 z)).tmps[3]? = some (.int .i64 z) := fun z => pin_self (by simp [pin_size, r1])
    refine ⟨⟨k + 1, hz, by simp [pin_size, r1], by simp only [pin_defers]; exact r2, ?_, ?_, f3 _, hj'⟩, ?_⟩
    · exact pin_ne (pin_ne (pin_ne (pin_ne r3 rfl) rfl) rfl) rfl
    · exact pin_ne (pin_ne (pin_ne (pin_ne r4 rfl) rfl) rfl) rfl
    · simp only [bwM, f3, q5]; omega
  · have hz : k = ds.length := by simp at hz; omega
    subst hz
    refine wpIn_exit ?_
    exact ⟨q2, _, results_none rfl _ _ _, ⟨_, rfl⟩, hj⟩
set_option maxHeartbeats 4000000 in
theorem bw_tok {nn : Bool} {ds : List D} (hlen : ds.length < 4611686018427387904) (hfit : ∀ x ∈ ds, ∃ i, X.T 44 = some i ∧ i.fits x = true) : Iter X 115 (.row nn 3 ds) ds := by
  intro n l R c1 J W hJ hY h0
  refine callsIn_of_wp (hF 115 _ rfl).1 rfl trivial ?_ rfl
  have hpin : ∀ a : Act, a.tmps.size = 19 → a.defers = [] → a.tmps[1]? = some c1 → ∀ k W, J k W → Sw X R W ⟨19, [(1, .d (.fz (.row nn 3 ds)))], [], 0⟩ a := fun a h1 h2 h3 k W hj => (hJ k W hj).sw (by rw [h1]; exact Nat.le_refl _) h2 _ fun t x ht => by
    simp only [look_nil, look_cons] at ht
    split at ht
    · rename_i e; subst e; injection ht with ht; exact ⟨_, c1, ht.symm, h3, (hJ k W hj).rel⟩
    · cases ht
  have hpin2 : ∀ a : Act, a.tmps.size = 19 → a.defers = [] → a.tmps[1]? = some c1 → ∀ z, a.tmps[3]? = some (.int .i64 z) → ∀ k W, J k W → Sw X R W ⟨19, [(3, .d (.v (.int .i64 z))), (1, .d (.fz (.row nn 3 ds)))], [], 0⟩ a := fun a h1 h2 h3 z h4 k W hj => (hJ k W hj).sw (by rw [h1]; exact Nat.le_refl _) h2 _ fun t x ht => by
    simp only [look_nil, look_cons] at ht
    split at ht
    · rename_i e; subst e; injection ht with ht; exact ⟨_, _, ht.symm, h4, relV_int⟩
    · split at ht
      · rename_i e; subst e; injection ht with ht; exact ⟨_, c1, ht.symm, h3, (hJ k W hj).rel⟩
      · cases ht
  have hnt : Tryz.f115.ntmps = 19 := rfl
  rw [hnt]
  refine wpIn_seq (wpIn_region_list ?_)
  have s0 := hpin { tmps := #[.func (.yield l) #[] #[], c1] ++ Array.replicate (19 - (#[.func (.yield l) #[] #[], c1] : Array Value).size) undef, defers := [] } (by simp) rfl (by simp) 0 W h0
  refine wl_nop hX s0 (d := .row nn 3 ds) (t := 4) rfl (earlyT_ok hX rfl) rfl rfl rfl rfl fun v1 _ s1 => ?_
  refine wl_nop hX s1 (d := .v (.int .i64 ds.length)) (t := 5) rfl (earlyT_ok hX rfl) rfl rfl rfl rfl fun v2 _ s2 => ?_
  refine wl_nop hX s2 (d := .v (.int .i64 (IntKind.i64.wrap (ds.length - 1)))) (t := 6) rfl (earlyT_ok hX rfl) rfl rfl rfl rfl fun v3 _ s3 => ?_
  refine wl_nop hX s3 (d := .v (.int .i64 (IntKind.i64.wrap (ds.length - 1)))) (t := 3) rfl (f_move (.inr rfl)) rfl rfl rfl rfl fun v4 e4 s4 => ?_
  have h4 := relV_int_eq e4
  rw [i64_dec hlen] at h4
  subst h4
  refine wpIn_block (wpIn_loop (fun a w => ∃ k, k ≤ ds.length ∧ a.tmps.size = 19 ∧ a.defers = [] ∧ a.tmps[0]? = some (.func (.yield l) #[] #[]) ∧ a.tmps[1]? = some c1 ∧ a.tmps[3]? = some (.int .i64 ((ds.length : Int) - 1 - (k : Nat))) ∧ J k w) (fun a _ => bwM a) ⟨0, Nat.zero_le _, by simp [pin_size], rfl, ?_, ?_, ?_, h0⟩ ?_)
  · exact pin_ne (pin_ne (pin_ne (pin_ne (by simp) rfl) rfl) rfl) rfl
  · exact pin_ne (pin_ne (pin_ne (pin_ne (by simp) rfl) rfl) rfl) rfl
  · exact pin_self (by simp [pin_size])
  clear s0 s1 s2 s3 s4
  rintro a w ⟨k, hk, q1, q2, q3, q4, q5, hj⟩
  have s0 := hpin2 a q1 q2 q4 _ q5 k w hj
  refine wpIn_seq (wpIn_seq (wpIn_region_list ?_))
  refine wl_nop hX s0 (d := .v (.int .i64 ((ds.length : Int) - 1 - (k : Nat)))) (t := 7) rfl (earlyT_ok hX rfl) rfl rfl rfl rfl fun v1 _ s1 => ?_
  refine wl_nop hX s1 (d := .v (.bool (decide ((ds.length : Int) - 1 - (k : Nat) ≥ 0)))) (t := 8) rfl (earlyT_ok hX rfl) rfl rfl rfl rfl fun v2 e2 s2 => ?_
  have e2 := relV_bool_eq e2
  subst e2
  refine wpIn_cond_split (t := decide ((ds.length : Int) - 1 - (k : Nat) ≥ 0)) (eval_self (by simp [pin_size, q1])) (fun hz => ?_) (fun hz => ?_)
  · have hz : k < ds.length := by simp at hz; omega
    refine wpIn_skip ?_
    refine wpIn_seq (wpIn_block (wpIn_seq (wpIn_region_list ?_)))
    clear s0 s1 s2
    generalize hb : (a.put (some 7) v1).put (some 8) (.bool (decide ((ds.length : Int) - 1 - (k : Nat) ≥ 0))) = b
    have p1 : b.tmps.size = 19 := by rw [← hb]; simp [pin_size, q1]
    have p2 : b.defers = [] := by rw [← hb]; simp only [pin_defers]; exact q2
    have p3 : b.tmps[0]? = some (.func (.yield l) #[] #[]) := by rw [← hb]; exact pin_ne (pin_ne q3 rfl) rfl
    have p4 : b.tmps[1]? = some c1 := by rw [← hb]; exact pin_ne (pin_ne q4 rfl) rfl
    have p5 : b.tmps[3]? = some (.int .i64 ((ds.length : Int) - 1 - (k : Nat))) := by rw [← hb]; exact pin_ne (pin_ne q5 rfl) rfl
    clear hb
    have ez : (ds.length : Int) - 1 - (k : Nat) = ((ds.length - 1 - k : Nat) : Int) := by omega
    rw [ez] at p5
    have hget : ds.length - 1 - k < ds.length := by omega
    have hgd : ds[((ds.length - 1 - k : Nat) : Int).toNat]? = some ds[ds.length - 1 - k] := by simp
    have s0 := hpin2 b p1 p2 p4 _ p5 k w hj
    refine wl_any s0 (t := 11) rfl rfl rfl rfl fun s1 => ?_
    refine wl_nop hX s1 (d := .v (.int .i64 ((ds.length - 1 - k : Nat) : Int))) (t := 12) rfl (earlyT_ok hX rfl) rfl rfl rfl rfl fun v2 e2 s2 => ?_
    refine wl_nop hX s2 (d := .row nn 3 ds) (t := 13) rfl (earlyT_ok hX rfl) rfl rfl rfl rfl fun v3 _ s3 => ?_
    refine wl_nop hX s3 (d := .v (.int .i64 ((ds.length - 1 - k : Nat) : Int))) (t := 14) rfl (earlyT_ok hX rfl) rfl rfl rfl rfl fun v4 _ s4 => ?_
    refine wl_nop hX s4 (d := .fz ds[ds.length - 1 - k]) (t := 15) (nop_idx (by rfl) (by rfl) (by rfl) (by rfl) (by rfl) (by omega) hgd) (earlyT_ok hX (early_idx (by rfl) (by rfl) (by rfl) (by rfl) (by omega) hgd)) rfl rfl rfl rfl fun v5 _ s5 => ?_
    obtain ⟨i, hti, hf⟩ := hfit _ (List.getElem_mem hget)
    refine wl_nop hX s5 (d := ds[ds.length - 1 - k]) (t := 16) (nop_loadF (by rfl) (by rfl) hti hf) (earlyT_ok hX (early_loadF (by rfl) (by rfl) hti hf)) rfl rfl rfl rfl fun v6 e6 s6 => ?_
    have e2 := relV_int_eq e2
    subst e2
    clear s0 s1 s2 s3 s4 s5
    have ev0 : b.eval (.tmp 0) = .func (.yield l) #[] #[] := eval_at p3
    rw [ev0] at s6 ⊢
    refine wl_yield (l := l) (f := 11) (x := 12) (y := 16) (t := 17) rfl rfl rfl (vx := .int .i64 ((ds.length - 1 - k : Nat) : Int)) (vy := v6) ?_ ?_ ?_ ?_
    · exact pin_ne (pin_ne (pin_ne (pin_ne (pin_ne (pin_self (by rw [p1]; omega)) rfl) rfl) rfl) rfl) rfl
    · exact pin_ne (pin_ne (pin_ne (pin_ne (pin_self (by rw [pin_size, p1]; omega)) rfl) rfl) rfl) rfl
    · exact pin_self (by simp [pin_size, p1])
    obtain ⟨fn, tmps, assign, body, y1, y2⟩ := hY k w _ v6 hj hz (by simp) e6
    refine ⟨fn, tmps, assign, body, y1, y2.mono ?_⟩
    rintro e' W' ⟨rfl, hj'⟩
    refine ⟨_, rfl, ?_⟩
    clear s6 y1 y2
    generalize hb : ((((((((b.put (some 11) (.func (.yield l) #[] #[])).put (some 12) (.int .i64 ((ds.length - 1 - k : Nat) : Int))).put (some 13) v3).put (some 14) v4).put (some 15) v5).put (some 16) v6).put (some 17) (.bool true))) = b'
    have r1 : b'.tmps.size = 19 := by rw [← hb]; simp [pin_size, p1]
    have r2 : b'.defers = [] := by rw [← hb]; simp only [pin_defers]; exact p2
    have r3 : b'.tmps[0]? = some (.func (.yield l) #[] #[]) := by rw [← hb]; exact pin_ne (pin_ne (pin_ne (pin_ne (pin_ne (pin_ne (pin_ne p3 rfl) rfl) rfl) rfl) rfl) rfl) rfl
    have r4 : b'.tmps[1]? = some c1 := by rw [← hb]; exact pin_ne (pin_ne (pin_ne (pin_ne (pin_ne (pin_ne (pin_ne p4 rfl) rfl) rfl) rfl) rfl) rfl) rfl
    have r5 : b'.tmps[3]? = some (.int .i64 ((ds.length - 1 - k : Nat) : Int)) := by rw [← hb]; exact pin_ne (pin_ne (pin_ne (pin_ne (pin_ne (pin_ne (pin_ne p5 rfl) rfl) rfl) rfl) rfl) rfl) rfl
    have r6 : b'.tmps[17]? = some (.bool true) := by rw [← hb]; exact pin_self (by simp [pin_size, p1])
    clear hb
    have s0 := (hJ (k + 1) W' hj').sw (a := b') (n := 19) (by rw [r1]; exact Nat.le_refl _) r2 [(17, .d (.v (.bool true)))] fun t x ht => by
      simp only [look_nil, look_cons] at ht
      split at ht
      · rename_i e; subst e; injection ht with ht; exact ⟨_, _, ht.symm, r6, RelV.mk (xs := [.bool true]) (by simp [packs]) (by simp [Rel, scal])⟩
      · cases ht
    refine wl_nop hX s0 (d := .v (.bool false)) (t := 18) rfl (earlyT_ok hX rfl) rfl rfl rfl rfl fun v7 e7 s7 => ?_
    have e7 := relV_bool_eq e7
    subst e7
    refine wpIn_cond_split (t := false) (eval_self (by simp [r1])) (fun hz => by cases hz) (fun _ => ?_)
    refine wpIn_skip ?_
    refine wpIn_region_list ?_
    have s0 := hpin2 (b'.put (some 18) (.bool false)) (by simp [pin_size, r1]) (by simp only [pin_defers]; exact r2) (pin_ne r4 rfl) _ (pin_ne r5 rfl) (k + 1) W' hj'
    refine wl_nop hX s0 (d := .v (.int .i64 ((ds.length - 1 - k : Nat) : Int))) (t := 9) rfl (earlyT_ok hX rfl) rfl rfl rfl rfl fun v8 _ s8 => ?_
    refine wl_nop hX s8 (d := .v (.int .i64 (IntKind.i64.wrap (((ds.length - 1 - k : Nat) : Int) - 1)))) (t := 10) rfl (earlyT_ok hX rfl) rfl rfl rfl rfl fun v9 _ s9 => ?_
    refine wl_nop hX s9 (d := .v (.int .i64 (IntKind.i64.wrap (((ds.length - 1 - k : Nat) : Int) - 1)))) (t := 3) rfl (f_move (.inr rfl)) rfl rfl rfl rfl fun v10 e10 s10 => ?_
    have e10 := relV_int_eq e10
    rw [i64_down hz hlen] at e10
    subst e10
    have f3 : ∀ z, ((((b'.put (some 18) (.bool false)).put (some 9) v8).put (some 10) v9).put (some 3) (.int .i64 z)).tmps[3]? = some (.int .i64 z) := fun z => pin_self (by simp [pin_size, r1])
    refine ⟨⟨k + 1, hz, by simp [pin_size, r1], by simp only [pin_defers]; exact r2, ?_, ?_, f3 _, hj'⟩, ?_⟩
    · exact pin_ne (pin_ne (pin_ne (pin_ne r3 rfl) rfl) rfl) rfl
    · exact pin_ne (pin_ne (pin_ne (pin_ne r4 rfl) rfl) rfl) rfl
    · simp only [bwM, f3, q5]; omega
  · have hz : k = ds.length := by simp at hz; omega
    subst hz
    refine wpIn_exit ?_
    exact ⟨q2, _, results_none rfl _ _ _, ⟨_, rfl⟩, hj⟩
/-- The iterators that are known. -/
def It : Its := fun k => match Nat.beq k 201 with
  | true => some (4, i26)
  | false => match Nat.beq k 115 with
    | true => some (3, i44)
    | false => none
theorem It_ok : It.Ok X := by
  intro f r h
  unfold It at h
  split at h
  · rename_i e
    have e := Nat.eq_of_beq_eq_true e
    subst e
    injection h with h
    subst h
    exact ⟨⟨_, (hF 201 _ rfl).1, (hF 201 _ rfl).2.1, rfl⟩, fun nn ds hl hf => bw_syn hl fun x hx => ⟨_, rfl, hf x hx⟩⟩
  · split at h
    · rename_i e
      have e := Nat.eq_of_beq_eq_true e
      subst e
      injection h with h
      subst h
      exact ⟨⟨_, (hF 115 _ rfl).1, (hF 115 _ rfl).2.1, rfl⟩, fun nn ds hl hf => bw_tok hl fun x hx => ⟨_, rfl, hf x hx⟩⟩
    · cases h
end
end Go.Proofs.YtfbppkjjdbkedaaGreatDoor.Ref
