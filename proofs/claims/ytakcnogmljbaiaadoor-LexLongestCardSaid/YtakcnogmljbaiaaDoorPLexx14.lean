-- printed for this claim by a program (mkpp.py and run.sh in wip/tools)
import Derived.Test.YtakcnogmljbaiaaDoorPLexx0
import Derived.Test.YtakcnogmljbaiaaDoorPLexx4
import Derived.Test.YtakcnogmljbaiaaDoorPLexx5
import Derived.Test.YtakcnogmljbaiaaDoorPLexx12
namespace Go.Proofs.YtakcnogmljbaiaaDoor.PLex
open Go.RowKit Go.Proofs.YtakcnogmljbaiaaDoorW.PrintWords Go.Proofs.YtakcnogmljbaiaaDoorW.PrintLast Go.Proofs.YtakcnogmljbaiaaDoorW.PrintMore
attribute [local go_sem] max2_int min2_int max_two min_two max_three min_three max_four min_four Go.Proofs.YtakcnogmljbaiaaDoor.isSome_setCell   -- for this text's walks alone
set_option linter.unusedVariables false
set_option linter.unusedSimpArgs false

/-! ### leatworklaw03_LexLongest: function 7 -/
mutual
def leatworklaw03_LexLongest.l0 : Nat → ByteArray → List (S32) → Int → Option (Bool)
  | 0, _, _, _ => none
  | k + 1, x0, x3, x6 => if x6 < (x3.length : Int) then (if 0 ≤ x6 then ((leatworklaw03_size.f x0 ((rd_T32 x3 x6).f0) ((rd_T32 x3 x6).f1) ((rd_T32 x3 x6).f2)).bind fun t296 => (if (wrap64 (((rd_T32 x3 x6).f2) + t296)) ≥ (x0.size : Int) then (leatworklaw03_LexLongest.j1 k x0 x3 x6 (wrap64 (((rd_T32 x3 x6).f2) + t296)) true) else (if ((rd_T32 x3 x6).f0) = 5 then (leatworklaw03_LexLongest.j1 k x0 x3 x6 (wrap64 (((rd_T32 x3 x6).f2) + t296)) true) else (if 0 ≤ ((rd_T32 x3 x6).f2) then (if ((rd_T32 x3 x6).f2) < (x0.size : Int) then (leatworklaw03_LexLongest.j1 k x0 x3 x6 (wrap64 (((rd_T32 x3 x6).f2) + t296)) ((bt x0 ((rd_T32 x3 x6).f2)) == 39)) else (none)) else (none))))) else (none)) else ((leatworklaw03_alive.f k).bind fun t293 => (some t293))
def leatworklaw03_LexLongest.j1 : Nat → ByteArray → List (S32) → Int → Int → Bool → Option (Bool)
  | 0, _, _, _, _, _ => none
  | k + 1, x0, x3, x6, x7, x63 => if x63 = true then (leatworklaw03_LexLongest.l0 k x0 x3 (wrap64 (x6 + 1))) else (if 0 ≤ x7 then (if x7 < (x0.size : Int) then (if (bt x0 x7) ≥ 48 then (if (bt x0 x7) ≤ 57 then (if 0 ≤ x6 then (if x6 < (x3.length : Int) then (if ((rd_T32 x3 x6).f0) = 1 then (some false) else (some false)) else (none)) else (none)) else (if (bt x0 x7) ≥ 97 then (if (bt x0 x7) ≤ 122 then (if 0 ≤ x6 then (if x6 < (x3.length : Int) then (if ((rd_T32 x3 x6).f0) = 1 then (leatworklaw03_LexLongest.l0 k x0 x3 (wrap64 (x6 + 1))) else (some false)) else (none)) else (none)) else (if (bt x0 x7) ≥ 65 then (if (bt x0 x7) ≤ 90 then (if 0 ≤ x6 then (if x6 < (x3.length : Int) then (if ((rd_T32 x3 x6).f0) = 1 then (leatworklaw03_LexLongest.l0 k x0 x3 (wrap64 (x6 + 1))) else (some false)) else (none)) else (none)) else (if 0 ≤ x6 then (if x6 < (x3.length : Int) then (if ((rd_T32 x3 x6).f0) = 1 then (leatworklaw03_LexLongest.l0 k x0 x3 (wrap64 (x6 + 1))) else (if (bt x0 x7) = 95 then (some false) else (leatworklaw03_LexLongest.l0 k x0 x3 (wrap64 (x6 + 1))))) else (none)) else (none))) else (if 0 ≤ x6 then (if x6 < (x3.length : Int) then (if ((rd_T32 x3 x6).f0) = 1 then (leatworklaw03_LexLongest.l0 k x0 x3 (wrap64 (x6 + 1))) else (if (bt x0 x7) = 95 then (some false) else (leatworklaw03_LexLongest.l0 k x0 x3 (wrap64 (x6 + 1))))) else (none)) else (none)))) else (if (bt x0 x7) ≥ 65 then (if (bt x0 x7) ≤ 90 then (if 0 ≤ x6 then (if x6 < (x3.length : Int) then (if ((rd_T32 x3 x6).f0) = 1 then (leatworklaw03_LexLongest.l0 k x0 x3 (wrap64 (x6 + 1))) else (some false)) else (none)) else (none)) else (if 0 ≤ x6 then (if x6 < (x3.length : Int) then (if ((rd_T32 x3 x6).f0) = 1 then (leatworklaw03_LexLongest.l0 k x0 x3 (wrap64 (x6 + 1))) else (if (bt x0 x7) = 95 then (some false) else (leatworklaw03_LexLongest.l0 k x0 x3 (wrap64 (x6 + 1))))) else (none)) else (none))) else (if 0 ≤ x6 then (if x6 < (x3.length : Int) then (if ((rd_T32 x3 x6).f0) = 1 then (leatworklaw03_LexLongest.l0 k x0 x3 (wrap64 (x6 + 1))) else (if (bt x0 x7) = 95 then (some false) else (leatworklaw03_LexLongest.l0 k x0 x3 (wrap64 (x6 + 1))))) else (none)) else (none))))) else (if (bt x0 x7) ≥ 97 then (if (bt x0 x7) ≤ 122 then (if 0 ≤ x6 then (if x6 < (x3.length : Int) then (if ((rd_T32 x3 x6).f0) = 1 then (leatworklaw03_LexLongest.l0 k x0 x3 (wrap64 (x6 + 1))) else (some false)) else (none)) else (none)) else (if (bt x0 x7) ≥ 65 then (if (bt x0 x7) ≤ 90 then (if 0 ≤ x6 then (if x6 < (x3.length : Int) then (if ((rd_T32 x3 x6).f0) = 1 then (leatworklaw03_LexLongest.l0 k x0 x3 (wrap64 (x6 + 1))) else (some false)) else (none)) else (none)) else (if 0 ≤ x6 then (if x6 < (x3.length : Int) then (if ((rd_T32 x3 x6).f0) = 1 then (leatworklaw03_LexLongest.l0 k x0 x3 (wrap64 (x6 + 1))) else (if (bt x0 x7) = 95 then (some false) else (leatworklaw03_LexLongest.l0 k x0 x3 (wrap64 (x6 + 1))))) else (none)) else (none))) else (if 0 ≤ x6 then (if x6 < (x3.length : Int) then (if ((rd_T32 x3 x6).f0) = 1 then (leatworklaw03_LexLongest.l0 k x0 x3 (wrap64 (x6 + 1))) else (if (bt x0 x7) = 95 then (some false) else (leatworklaw03_LexLongest.l0 k x0 x3 (wrap64 (x6 + 1))))) else (none)) else (none)))) else (if (bt x0 x7) ≥ 65 then (if (bt x0 x7) ≤ 90 then (if 0 ≤ x6 then (if x6 < (x3.length : Int) then (if ((rd_T32 x3 x6).f0) = 1 then (leatworklaw03_LexLongest.l0 k x0 x3 (wrap64 (x6 + 1))) else (some false)) else (none)) else (none)) else (if 0 ≤ x6 then (if x6 < (x3.length : Int) then (if ((rd_T32 x3 x6).f0) = 1 then (leatworklaw03_LexLongest.l0 k x0 x3 (wrap64 (x6 + 1))) else (if (bt x0 x7) = 95 then (some false) else (leatworklaw03_LexLongest.l0 k x0 x3 (wrap64 (x6 + 1))))) else (none)) else (none))) else (if 0 ≤ x6 then (if x6 < (x3.length : Int) then (if ((rd_T32 x3 x6).f0) = 1 then (leatworklaw03_LexLongest.l0 k x0 x3 (wrap64 (x6 + 1))) else (if (bt x0 x7) = 95 then (some false) else (leatworklaw03_LexLongest.l0 k x0 x3 (wrap64 (x6 + 1))))) else (none)) else (none))))) else (none)) else (none))
end
def leatworklaw03_LexLongest.f (k : Nat) (a0 : ByteArray) : Option (Bool) := if (a0.size : Int) > 1000 then ((leatworklaw03_alive.f k).bind fun t286 => (some t286)) else ((lex_Scan.f k a0).bind fun bt287 => (if bt287.2.2 = 0 then (leatworklaw03_LexLongest.l0 k a0 bt287.1 0) else ((leatworklaw03_alive.f k).bind fun t292 => (some t292))))
theorem leatworklaw03_LexLongest.mono_l : ∀ k, (∀ y0 y1 y2, LeO (leatworklaw03_LexLongest.l0 k y0 y1 y2) (leatworklaw03_LexLongest.l0 (k + 1) y0 y1 y2)) ∧ (∀ y0 y1 y2 y3 y4, LeO (leatworklaw03_LexLongest.j1 k y0 y1 y2 y3 y4) (leatworklaw03_LexLongest.j1 (k + 1) y0 y1 y2 y3 y4))
  | 0 => ⟨fun _ _ _ r h => by simp [leatworklaw03_LexLongest.l0] at h, fun _ _ _ _ _ r h => by simp [leatworklaw03_LexLongest.j1] at h⟩
  | k + 1 => by
    obtain ⟨ih0, ih1⟩ := leatworklaw03_LexLongest.mono_l k
    refine ⟨?_, ?_⟩
    · intro y0 y1 y2
      unfold leatworklaw03_LexLongest.l0
      repeat' first
      | (with_reducible exact ih0 _ _ _)
      | (with_reducible exact ih1 _ _ _ _ _)
      | (with_reducible exact leatworklaw03_alive.mono _)
      | (with_reducible exact lex_Scan.mono _ _)
      | (with_reducible exact LeO.refl _)
      | (with_reducible exact LeO.none _)
      | (with_reducible refine LeO.ite ?_ ?_)
      | (with_reducible refine LeO.bind ?_ (fun _ => ?_))
      | exact ih0 _ _ _
      | exact ih1 _ _ _ _ _
      | exact leatworklaw03_alive.mono _
      | exact lex_Scan.mono _ _
      | exact LeO.none _
      | refine LeO.ite ?_ ?_
      | refine LeO.bind ?_ (fun _ => ?_)
    · intro y0 y1 y2 y3 y4
      unfold leatworklaw03_LexLongest.j1
      repeat' first
      | (with_reducible exact ih0 _ _ _)
      | (with_reducible exact ih1 _ _ _ _ _)
      | (with_reducible exact leatworklaw03_alive.mono _)
      | (with_reducible exact lex_Scan.mono _ _)
      | (with_reducible exact LeO.refl _)
      | (with_reducible exact LeO.none _)
      | (with_reducible refine LeO.ite ?_ ?_)
      | (with_reducible refine LeO.bind ?_ (fun _ => ?_))
      | exact ih0 _ _ _
      | exact ih1 _ _ _ _ _
      | exact leatworklaw03_alive.mono _
      | exact lex_Scan.mono _ _
      | exact LeO.none _
      | refine LeO.ite ?_ ?_
      | refine LeO.bind ?_ (fun _ => ?_)
theorem leatworklaw03_LexLongest.mono : ∀ a0 k, LeO (leatworklaw03_LexLongest.f k a0) (leatworklaw03_LexLongest.f (k + 1) a0) := by
  intro a0 k
  obtain ⟨ih0, ih1⟩ := leatworklaw03_LexLongest.mono_l k
  unfold leatworklaw03_LexLongest.f
  repeat' first
      | (with_reducible exact ih0 _ _ _)
      | (with_reducible exact ih1 _ _ _ _ _)
      | (with_reducible exact leatworklaw03_alive.mono _)
      | (with_reducible exact lex_Scan.mono _ _)
      | (with_reducible exact LeO.refl _)
      | (with_reducible exact LeO.none _)
      | (with_reducible refine LeO.ite ?_ ?_)
      | (with_reducible refine LeO.bind ?_ (fun _ => ?_))
      | exact ih0 _ _ _
      | exact ih1 _ _ _ _ _
      | exact leatworklaw03_alive.mono _
      | exact lex_Scan.mono _ _
      | exact LeO.none _
      | refine LeO.ite ?_ ?_
      | refine LeO.bind ?_ (fun _ => ?_)
def leatworklaw03_LexLongest.T9 : Bool × List (List Nat × List Nat) := (true, [([], []), ([], []), ([0, 1], [0, 1]), ([2], [2]), ([3], [3]), ([], []), ([], []), ([], []), ([6, 7], [6, 7]), ([8], [8]), ([5, 9], [5, 9]), ([4, 10], [4, 10]), ([11, 10, 0, 1, 2, 3, 4, 5, 6, 7, 8, 9, 10, 11], [11])])
def leatworklaw03_LexLongest.B9 : List Nat := [0, 0, 3, 7, 15, 0, 0, 0, 192, 448, 992, 2047, 4095]
theorem leatworklaw03_LexLongest.tab9 : rtab .any (opsOf Tryd.f7 9) = leatworklaw03_LexLongest.T9 := by kernel_rfl
theorem leatworklaw03_LexLongest.bits9 : waitsOk leatworklaw03_LexLongest.T9.2 leatworklaw03_LexLongest.B9 = true := by kernel_rfl
set_option maxHeartbeats 8000000 in
set_option maxRecDepth 100000 in
theorem leatworklaw03_LexLongest.calls (k : Nat) (a0 : ByteArray) (r : Bool) (w : World) (hG : Glob w) (h : leatworklaw03_LexLongest.f k a0 = some r) :
    Calls Tryd.prog 7 #[.string a0] w fun e w' => e = .returned (.bool r) ∧ Below w.heap.size w w' := by
  have hu32 := Tryd.underlying32
  have HG := Aside0.mk hG
  clear hG
  have HB := Aside0.mk (Below.refl w.heap.size w)
  have H : (if (a0.size : Int) > 1000 then ((leatworklaw03_alive.f k).bind fun t286 => (some t286)) else ((lex_Scan.f k a0).bind fun bt287 => (if bt287.2.2 = 0 then (leatworklaw03_LexLongest.l0 k a0 bt287.1 0) else ((leatworklaw03_alive.f k).bind fun t292 => (some t292))))) = some r := h
  clear h
  by_cases c2 : (a0.size : Int) > 1000
  · rw [if_pos c2] at H
    have c2b0 : decide (1000 < (a0.size : Int)) = true := decide_eq_true c2
    have c2b1 : decide (1000 < a0.size) = true := decide_eq_true (by omega)
    clear c2
    replace H := Option.bind_eq_some_iff.mp H
    obtain ⟨t286, A30, H⟩ := H
    replace H : (some t286) = some r := H
    have A3 := Aside0.mk A30
    clear A30
    obtain rfl := Option.some.inj H
    go_enter Tryd.func7, Tryd.ntmps7
    go_wp2_with (first | ((with_reducible refine gate_callee (f := 14) rfl ?_); refine goesL_ (some 14) rfl rfl Tryd.func14 (by kernel_rfl) rfl #[] rfl (by (try simp only [List.map_toArray, List.map_cons, List.map_nil]); first | done | rfl | (simp only [List.length_drop, List.length_take]; rfl)) ?_; (with_reducible refine (leatworklaw03_alive.calls k  t286 _ (Glob.mono HG.out (by repeat (first | (with_reducible first | exact HB.out | apply below_alloc | apply pw_below_drewN | apply below_drew1) | exact HB.out))) A3.out).mono ?_); rintro e w4 ⟨rfl, hb⟩; refine ⟨_, rfl, ?_⟩; have n0_ := Aside0.mk (below_step (by repeat (first | (with_reducible first | exact HB.out | apply below_alloc | apply pw_below_drewN | apply below_drew1) | exact HB.out)) hb); clear HB; have HB := n0_; clear n0_; (try clear hb); (try clear hb2); (try clear hk); (try clear hi)))
    go_ret
    exact ⟨by first | rfl | (simp [errW_none, errW_some] <;> rfl) | (simp [*, errW_none, errW_some] <;> rfl), by repeat (first | (with_reducible first | exact HB.out | apply below_alloc | apply pw_below_drewN | apply below_drew1) | exact HB.out)⟩
  · rw [if_neg c2] at H
    have c2b0 : decide (1000 < (a0.size : Int)) = false := decide_eq_false c2
    have c2b1 : decide (1000 < a0.size) = false := decide_eq_false (by omega)
    clear c2
    replace H := Option.bind_eq_some_iff.mp H
    obtain ⟨⟨t287, t288, t289⟩, A50, H⟩ := H
    replace H : (if t289 = 0 then (leatworklaw03_LexLongest.l0 k a0 t287 0) else ((leatworklaw03_alive.f k).bind fun t292 => (some t292))) = some r := H
    have A5 := Aside0.mk A50
    clear A50
    by_cases c6 : t289 = 0
    · rw [if_pos c6] at H
      have c6b0 : (t289 == 0) = true := beq_iff_eq.mpr c6
      have c6b1 : (t289 != 0) = false := bne_eq_false_iff_eq.mpr c6
      clear c6
      have H' := Aside0.mk H
      clear H
      go_enter Tryd.func7, Tryd.ntmps7
      go_wp2_with (first | ((with_reducible refine gate_callee (f := 15) rfl ?_); refine goesL_ (some 17) rfl rfl Tryd.func15 (by kernel_rfl) rfl #[.string a0] rfl (by (try simp only [List.map_toArray, List.map_cons, List.map_nil]); first | done | rfl | (simp only [List.length_drop, List.length_take]; rfl)) ?_; (with_reducible refine (lex_Scan.calls k a0 t287 t288 t289 _ (Glob.mono HG.out (by repeat (first | (with_reducible first | exact HB.out | apply below_alloc | apply pw_below_drewN | apply below_drew1) | exact HB.out))) A5.out).mono ?_); rintro e w7 ⟨v290, rfl, ho0, hb⟩; refine ⟨_, rfl, ?_⟩; have n0_ := Aside0.mk (Kd.R_lower ho0 (below_size (by repeat (first | (with_reducible first | exact HB.out | apply below_alloc | apply pw_below_drewN | apply below_drew1) | exact HB.out)))); have n1_ := Aside0.mk (below_step (by repeat (first | (with_reducible first | exact HB.out | apply below_alloc | apply pw_below_drewN | apply below_drew1) | exact HB.out)) hb); clear HB; have HO291 := n0_; have HB := n1_; clear n0_ n1_; (try clear hb); (try clear hb2); (try clear hk); (try clear hi); (try clear ho0)))
      go_loopg [6] k (fun kq v6 w' => ∃ (x6_1 : Int), v6 = .int .i64 x6_1 ∧ Aside0 (leatworklaw03_LexLongest.l0 kq a0 t287 x6_1 = some r) ∧ Aside0 (kq ≤ k) ∧ Aside0 (Kd.R k32 32 w' w.heap.size (fun _ => True) v290 t287) ∧ Aside0 (Below w.heap.size w w'))
      case atStart => exact ⟨(0), (by first | rfl | (simp; done) | (simp [*]; done)), H', ⟨Nat.le_refl _⟩, ⟨by (with_reducible repeat (first | apply Kd.R_alloc | apply Kd.R_drewN | apply Kd.R_drew)); exact HO291.out⟩, ⟨by repeat (first | (with_reducible first | exact HB.out | apply below_alloc | apply pw_below_drewN | apply below_drew1) | exact HB.out)⟩⟩
      case round =>
        clear H'
        try clear c1
        try clear c2
        try clear c2b0
        try clear c2b1
        try clear p2
        try clear c6
        try clear c6b0
        try clear c6b1
        try clear c7
        obtain ⟨x6_1, rfl, HA, HK1, HO_3, HB⟩ := hrel
        cases gk with
        | zero => exact absurd HA.out (by simp [leatworklaw03_LexLongest.l0])
        | succ k1 =>
          have H := HA.out
          clear HA
          simp only [leatworklaw03_LexLongest.l0] at H
          by_cases c8 : x6_1 < (t287.length : Int)
          · rw [if_pos c8] at H
            have c8b0 : decide (x6_1 < (t287.length : Int)) = true := decide_eq_true c8
            clear c8
            by_cases c9 : 0 ≤ x6_1
            · rw [if_pos c9] at H
              have c9b0 : decide (0 ≤ x6_1) = true := decide_eq_true c9
              clear c9
              replace H := Option.bind_eq_some_iff.mp H
              obtain ⟨t296, A100, H⟩ := H
              replace H : (if (wrap64 (((rd_T32 t287 x6_1).f2) + t296)) ≥ (a0.size : Int) then (leatworklaw03_LexLongest.j1 k1 a0 t287 x6_1 (wrap64 (((rd_T32 t287 x6_1).f2) + t296)) true) else (if ((rd_T32 t287 x6_1).f0) = 5 then (leatworklaw03_LexLongest.j1 k1 a0 t287 x6_1 (wrap64 (((rd_T32 t287 x6_1).f2) + t296)) true) else (if 0 ≤ ((rd_T32 t287 x6_1).f2) then (if ((rd_T32 t287 x6_1).f2) < (a0.size : Int) then (leatworklaw03_LexLongest.j1 k1 a0 t287 x6_1 (wrap64 (((rd_T32 t287 x6_1).f2) + t296)) ((bt a0 ((rd_T32 t287 x6_1).f2)) == 39)) else (none)) else (none)))) = some r := H
              have A10 := Aside0.mk A100
              clear A100
              have HC11 := Aside0.mk H
              clear H
              obtain ⟨Ao12, co12, eo12⟩ := Kd.R_slice HO_3.out
              subst eo12
              try go_wp2
              have n0_ := Aside0.mk (Kd.R_drew HO_3.out)
              have n1_ := Aside0.mk (below_drew1 HB.out)
              clear HO_3
              clear HB
              have HO_3 := n0_
              have HB := n1_
              clear n0_ n1_
              have p294 : 0 ≤ (x6_1 : Int) := of_decide_eq_true (by first | (with_reducible assumption) | assumption)
              have q294 : x6_1 < (t287.length : Int) := of_decide_eq_true (by first | (with_reducible assumption) | assumption)
              obtain ⟨ad294, e294, hx294_0, hx294_1, hx294_2⟩ := at_T32 (Kd.R_reads' HO_3.out).2.2 x6_1 p294 q294
              cases e294
              replace p294 := eq_true p294
              replace q294 := eq_true q294
              have p295 : 0 ≤ (x6_1 : Int) := of_decide_eq_true (by first | (with_reducible assumption) | assumption)
              have q295 : x6_1 < (t287.length : Int) := of_decide_eq_true (by first | (with_reducible assumption) | assumption)
              obtain ⟨ad295, e295, hx295_0, hx295_1, hx295_2⟩ := at_T32 (Kd.R_reads' HO_3.out).2.2 x6_1 p295 q295
              obtain rfl : ad294 = ad295 := (by injection e295)
              replace p295 := eq_true p295
              replace q295 := eq_true q295
              refine start_ (n := 13) (S := fun w' => w'.cell? (ad294.add ((x6_1).toNat * 3)) = some (.int .i64 ((rd_T32 t287 x6_1).f0)) ∧ w'.cell? ⟨(ad294.add ((x6_1).toNat * 3)).block, (ad294.add ((x6_1).toNat * 3)).off + 1, none⟩ = some (.string ((rd_T32 t287 x6_1).f1)) ∧ w'.cell? ⟨(ad294.add ((x6_1).toNat * 3)).block, (ad294.add ((x6_1).toNat * 3)).off + 2, none⟩ = some (.int .i64 ((rd_T32 t287 x6_1).f2)) ∧ w'.cell? (ad294.add ((x6_1).toNat * 3)) = some (.int .i64 ((rd_T32 t287 x6_1).f0)) ∧ w'.cell? ⟨(ad294.add ((x6_1).toNat * 3)).block, (ad294.add ((x6_1).toNat * 3)).off + 1, none⟩ = some (.string ((rd_T32 t287 x6_1).f1)) ∧ w'.cell? ⟨(ad294.add ((x6_1).toNat * 3)).block, (ad294.add ((x6_1).toNat * 3)).off + 2, none⟩ = some (.int .i64 ((rd_T32 t287 x6_1).f2))) (ds := []) #[false, false, false, false, false, false, false, false, false, false, false, false, false] (by kernel_rfl) rfl rfl ⟨hx294_0, hx294_1, hx294_2, hx295_0, hx295_1, hx295_2⟩ (fun hHeld => ?_); refine with_tabW leatworklaw03_LexLongest.tab9 leatworklaw03_LexLongest.bits9 (fun HT_ HW_ => ?_)
              generalize wr.drew = w13 at HO_3 HB hx294_0 hx294_1 hx294_2 hx295_0 hx295_1 hx295_2 hHeld ⊢
              refine pure_ (i := 0) (N := some 30) (v := ?_) (a' := ?_) #[true, false, false, false, false, false, false, false, false, false, false, false, false] rfl rfl (any_of HT_.out (by kernel_rfl)) (fun _ _ _ h => h) (Or.inl ⟨by rfl, ?_⟩) ?_ ?_
              rotate_left
              · intro w'
                go_simp
                with_reducible rfl
              rotate_left
              · simp only [Act.put, List.setIfInBounds_toArray, List.set_cons_zero, List.set_cons_succ, i64_w, i32_w]
                rfl
              refine pure_ (i := 1) (N := some 31) (v := ?_) (a' := ?_) #[true, true, false, false, false, false, false, false, false, false, false, false, false] rfl rfl (any_of HT_.out (by kernel_rfl)) (fun _ _ _ h => h) (Or.inl ⟨by rfl, ?_⟩) ?_ ?_
              rotate_left
              · intro w'
                go_simp
                with_reducible rfl
              rotate_left
              · simp only [Act.put, List.setIfInBounds_toArray, List.set_cons_zero, List.set_cons_succ, i64_w, i32_w]
                rfl
              refine pure_ (i := 2) (N := some 32) (v := ?_) (a' := ?_) #[true, true, true, false, false, false, false, false, false, false, false, false, false] rfl rfl (any_of HT_.out (by kernel_rfl)) (fun _ _ _ h => h) (Or.inl ⟨by rfl, ?_⟩) ?_ ?_
              rotate_left
              · intro w'
                go_simp
                with_reducible rfl
              rotate_left
              · simp only [Act.put, List.setIfInBounds_toArray, List.set_cons_zero, List.set_cons_succ, i64_w, i32_w]
                rfl
              refine pure_ (i := 3) (N := some 33) (v := ?_) (a' := ?_) #[true, true, true, true, false, false, false, false, false, false, false, false, false] rfl rfl (any_of HT_.out (by kernel_rfl)) (fun _ _ _ h => h) (Or.inl ⟨by rfl, ?_⟩) ?_ ?_
              rotate_left
              · intro w'
                go_simp
                with_reducible rfl
              rotate_left
              · simp only [Act.put, List.setIfInBounds_toArray, List.set_cons_zero, List.set_cons_succ, i64_w, i32_w]
                rfl
              refine pure_ (i := 5) (N := some 35) (v := ?_) (a' := ?_) #[true, true, true, true, false, true, false, false, false, false, false, false, false] rfl rfl (any_of HT_.out (by kernel_rfl)) (fun _ _ _ h => h) (Or.inl ⟨by rfl, ?_⟩) ?_ ?_
              rotate_left
              · intro w'
                go_simp
                with_reducible rfl
              rotate_left
              · simp only [Act.put, List.setIfInBounds_toArray, List.set_cons_zero, List.set_cons_succ, i64_w, i32_w]
                rfl
              refine pure_ (i := 6) (N := some 36) (v := ?_) (a' := ?_) #[true, true, true, true, false, true, true, false, false, false, false, false, false] rfl rfl (any_of HT_.out (by kernel_rfl)) (fun _ _ _ h => h) (Or.inl ⟨by rfl, ?_⟩) ?_ ?_
              rotate_left
              · intro w'
                go_simp
                with_reducible rfl
              rotate_left
              · simp only [Act.put, List.setIfInBounds_toArray, List.set_cons_zero, List.set_cons_succ, i64_w, i32_w]
                rfl
              refine pure_ (i := 7) (N := some 37) (v := ?_) (a' := ?_) #[true, true, true, true, false, true, true, true, false, false, false, false, false] rfl rfl (any_of HT_.out (by kernel_rfl)) (fun _ _ _ h => h) (Or.inl ⟨by rfl, ?_⟩) ?_ ?_
              rotate_left
              · intro w'
                go_simp
                with_reducible rfl
              rotate_left
              · simp only [Act.put, List.setIfInBounds_toArray, List.set_cons_zero, List.set_cons_succ, i64_w, i32_w]
                rfl
              refine pure_ (i := 8) (N := some 38) (v := ?_) (a' := ?_) #[true, true, true, true, false, true, true, true, true, false, false, false, false] rfl rfl (any_of HT_.out (by kernel_rfl)) (fun _ _ _ h => h) (Or.inl ⟨by rfl, ?_⟩) ?_ ?_
              rotate_left
              · intro w'
                go_simp
                with_reducible rfl
              rotate_left
              · simp only [Act.put, List.setIfInBounds_toArray, List.set_cons_zero, List.set_cons_succ, i64_w, i32_w]
                rfl
              refine take_ (i := 4) (N := some 34) (v := ?_) (a' := ?_) #[true, true, true, true, true, true, true, true, true, false, false, false, false] rfl rfl (take_ofW HT_.out HW_.out (by kernel_rfl)) (fun _ _ _ h => h) (Or.inl ⟨by rfl, ?_⟩) hHeld ?_ ?_
              rotate_left
              · rintro w' ⟨s0, s1, s2, s3, s4, s5⟩
                go_simp
                with_reducible rfl
              rotate_left
              · simp only [Act.put, List.setIfInBounds_toArray, List.set_cons_zero, List.set_cons_succ, i64_w, i32_w]
                rfl
              refine take_ (i := 9) (N := some 39) (v := ?_) (a' := ?_) #[true, true, true, true, true, true, true, true, true, true, false, false, false] rfl rfl (take_ofW HT_.out HW_.out (by kernel_rfl)) (fun _ _ _ h => h) (Or.inl ⟨by rfl, ?_⟩) hHeld ?_ ?_
              rotate_left
              · rintro w' ⟨s0, s1, s2, s3, s4, s5⟩
                go_simp
                with_reducible rfl
              rotate_left
              · simp only [Act.put, List.setIfInBounds_toArray, List.set_cons_zero, List.set_cons_succ, i64_w, i32_w]
                rfl
              refine one_ (i := 10) (N := some 40) #[true, true, true, true, true, true, true, true, true, true, true, false, false] rfl rfl (one_of HT_.out (by kernel_rfl)) (by decide) (fun K hK => ?_)
              refine goes_ Tryd.func21 (by kernel_rfl) rfl #[.string a0, .agg #[.int .i64 ((rd_T32 t287 x6_1).f0), .string ((rd_T32 t287 x6_1).f1), .int .i64 ((rd_T32 t287 x6_1).f2)]] (by rfl) rfl rfl (by (try simp only [List.map_toArray, List.map_cons, List.map_nil]); first | done | rfl | (simp only [List.length_drop, List.length_take]; rfl)) ?_
              with_reducible refine (leatworklaw03_size.calls a0 ((rd_T32 t287 x6_1).f0) ((rd_T32 t287 x6_1).f1) ((rd_T32 t287 x6_1).f2) t296 _ A10.out).mono ?_
              rintro e w14 ⟨rfl, hb⟩
              have HS0_ := (hb.cell (World.block_lt_of_cell? _ _ (hHeld.1))).trans (hHeld.1)
              have HS1_ := (hb.cell (World.block_lt_of_cell? _ _ (hHeld.2.1))).trans (hHeld.2.1)
              have HS2_ := (hb.cell (World.block_lt_of_cell? _ _ (hHeld.2.2.1))).trans (hHeld.2.2.1)
              have HS3_ := (hb.cell (World.block_lt_of_cell? _ _ (hHeld.2.2.2.1))).trans (hHeld.2.2.2.1)
              have HS4_ := (hb.cell (World.block_lt_of_cell? _ _ (hHeld.2.2.2.2.1))).trans (hHeld.2.2.2.2.1)
              have HS5_ := (hb.cell (World.block_lt_of_cell? _ _ (hHeld.2.2.2.2.2))).trans (hHeld.2.2.2.2.2)
              refine ⟨_, rfl, ?_⟩
              have n0_ := Aside0.mk (Kd.R_below (by (with_reducible repeat (first | apply Kd.R_alloc | apply Kd.R_drewN | apply Kd.R_drew)); exact HO_3.out) hb)
              have n1_ := Aside0.mk (below_step (by repeat (first | (with_reducible first | exact HB.out | apply below_alloc | apply pw_below_drewN | apply below_drew1) | exact HB.out)) hb)
              clear HO_3
              clear HB
              have HO_3 := n0_
              have HB := n1_
              clear n0_ n1_
              (try clear hb)
              (try clear hb2)
              (try clear hk)
              (try clear hi)
              refine hK.out _ _ ⟨HS0_, HS1_, HS2_, HS3_, HS4_, HS5_⟩ (fun hHeld => ?_)
              clear hK K
              refine norm_ (a' := ?_) ?_ ?_
              rotate_left
              · show Act.put _ (some 40) _ = _
                simp only [Act.put, List.setIfInBounds_toArray, List.set_cons_zero, List.set_cons_succ, i64_w, i32_w]
                rfl
              refine pure_ (i := 11) (N := some 41) (v := ?_) (a' := ?_) #[true, true, true, true, true, true, true, true, true, true, true, true, false] rfl rfl (any_of HT_.out (by kernel_rfl)) (fun _ _ _ h => h) (Or.inl ⟨by rfl, ?_⟩) ?_ ?_
              rotate_left
              · intro w'
                go_simp
                with_reducible rfl
              rotate_left
              · simp only [Act.put, List.setIfInBounds_toArray, List.set_cons_zero, List.set_cons_succ, i64_w, i32_w]
                rfl
              refine pure_ (i := 12) (N := some 7) (v := ?_) (a' := ?_) #[true, true, true, true, true, true, true, true, true, true, true, true, true] rfl rfl (any_of HT_.out (by kernel_rfl)) (fun _ _ _ h => h) (Or.inl ⟨by rfl, ?_⟩) ?_ ?_
              rotate_left
              · intro w'
                go_simp
                with_reducible rfl
              rotate_left
              · simp only [Act.put, List.setIfInBounds_toArray, List.set_cons_zero, List.set_cons_succ, i64_w, i32_w]
                rfl
              refine done_ (done_of HT_.out (by kernel_rfl)) ?_
              go_upto_region 10 with (fail)
              go_cut [63] (fun v63 wc => ∃ (kq : Nat) (x63_10 : Bool), v63 = .bool x63_10 ∧ Aside0 (leatworklaw03_LexLongest.j1 kq a0 t287 x6_1 (wrap64 (((rd_T32 t287 x6_1).f2) + t296)) x63_10 = some r) ∧ Aside0 (kq ≤ k1) ∧ Aside0 (Kd.R k32 32 wc w.heap.size (fun _ => True) (.slice (some ad294) t287.length co12) t287) ∧ Aside0 (Below w.heap.size w wc))
              case first =>
                have H := HC11.out
                clear HC11
                by_cases c15 : (wrap64 (((rd_T32 t287 x6_1).f2) + t296)) ≥ (a0.size : Int)
                · rw [if_pos c15] at H
                  have c15b0 : decide ((a0.size : Int) ≤ (wrap64 (((rd_T32 t287 x6_1).f2) + t296))) = true := decide_eq_true c15
                  clear c15
                  (first | rw [c15b0] | (simp only [i64_w, i32_w]; rw [c15b0]) | skip)
                  have H' := Aside0.mk H
                  clear H
                  go_wp2
                  go_meet
                  case rel => exact ⟨_, (true), (by first | rfl | (simp; done) | (simp [*]; done)), H', ⟨by have := HK1.out; first | omega | exact Nat.le_refl _⟩, ⟨by (with_reducible repeat (first | apply Kd.R_alloc | apply Kd.R_drewN | apply Kd.R_drew)); exact HO_3.out⟩, ⟨by repeat (first | (with_reducible first | exact HB.out | apply below_alloc | apply pw_below_drewN | apply below_drew1) | exact HB.out)⟩⟩
                · rw [if_neg c15] at H
                  have c15b0 : decide ((a0.size : Int) ≤ (wrap64 (((rd_T32 t287 x6_1).f2) + t296))) = false := decide_eq_false c15
                  clear c15
                  (first | rw [c15b0] | (simp only [i64_w, i32_w]; rw [c15b0]) | skip)
                  by_cases c16 : ((rd_T32 t287 x6_1).f0) = 5
                  · rw [if_pos c16] at H
                    have c16b0 : (((rd_T32 t287 x6_1).f0) == 5) = true := beq_iff_eq.mpr c16
                    have c16b1 : (((rd_T32 t287 x6_1).f0) != 5) = false := bne_eq_false_iff_eq.mpr c16
                    clear c16
                    have H' := Aside0.mk H
                    clear H
                    have p297 : 0 ≤ (x6_1 : Int) := of_decide_eq_true (by first | (with_reducible assumption) | assumption)
                    have q297 : x6_1 < (t287.length : Int) := of_decide_eq_true (by first | (with_reducible assumption) | assumption)
                    obtain ⟨ad297, e297, hx297_0, hx297_1, hx297_2⟩ := at_T32 (Kd.R_reads' HO_3.out).2.2 x6_1 p297 q297
                    obtain rfl : ad294 = ad297 := (by injection e297)
                    replace p297 := eq_true p297
                    replace q297 := eq_true q297
                    go_wp2
                    go_meet
                    case rel => exact ⟨_, (true), (by first | rfl | (simp; done) | (simp [*]; done)), H', ⟨by have := HK1.out; first | omega | exact Nat.le_refl _⟩, ⟨by (with_reducible repeat (first | apply Kd.R_alloc | apply Kd.R_drewN | apply Kd.R_drew)); exact HO_3.out⟩, ⟨by repeat (first | (with_reducible first | exact HB.out | apply below_alloc | apply pw_below_drewN | apply below_drew1) | exact HB.out)⟩⟩
                  · rw [if_neg c16] at H
                    have c16b0 : (((rd_T32 t287 x6_1).f0) == 5) = false := beq_eq_false_iff_ne.mpr c16
                    have c16b1 : (((rd_T32 t287 x6_1).f0) != 5) = true := bne_iff_ne.mpr c16
                    by_cases c17 : 0 ≤ ((rd_T32 t287 x6_1).f2)
                    · rw [if_pos c17] at H
                      have c17b0 : decide (0 ≤ ((rd_T32 t287 x6_1).f2)) = true := decide_eq_true c17
                      clear c17
                      by_cases c18 : ((rd_T32 t287 x6_1).f2) < (a0.size : Int)
                      · rw [if_pos c18] at H
                        have c18b0 : decide (((rd_T32 t287 x6_1).f2) < (a0.size : Int)) = true := decide_eq_true c18
                        clear c18
                        have H' := Aside0.mk H
                        clear H
                        have p297 : 0 ≤ (x6_1 : Int) := of_decide_eq_true (by first | (with_reducible assumption) | assumption)
                        have q297 : x6_1 < (t287.length : Int) := of_decide_eq_true (by first | (with_reducible assumption) | assumption)
                        obtain ⟨ad297, e297, hx297_0, hx297_1, hx297_2⟩ := at_T32 (Kd.R_reads' HO_3.out).2.2 x6_1 p297 q297
                        obtain rfl : ad294 = ad297 := (by injection e297)
                        replace p297 := eq_true p297
                        replace q297 := eq_true q297
                        have p298 : 0 ≤ (x6_1 : Int) := of_decide_eq_true (by first | (with_reducible assumption) | assumption)
                        have q298 : x6_1 < (t287.length : Int) := of_decide_eq_true (by first | (with_reducible assumption) | assumption)
                        obtain ⟨ad298, e298, hx298_0, hx298_1, hx298_2⟩ := at_T32 (Kd.R_reads' HO_3.out).2.2 x6_1 p298 q298
                        obtain rfl : ad294 = ad298 := (by injection e298)
                        replace p298 := eq_true p298
                        replace q298 := eq_true q298
                        have p19 : 0 ≤ (((rd_T32 t287 x6_1).f2) : Int) := of_decide_eq_true (by first | (with_reducible assumption) | assumption)
                        have q19 : ((rd_T32 t287 x6_1).f2) < (a0.size : Int) := of_decide_eq_true (by first | (with_reducible assumption) | assumption)
                        have hx19 := bt_at a0 ((rd_T32 t287 x6_1).f2)
                        replace p19 := eq_true p19
                        replace q19 := eq_true q19
                        go_wp2
                        go_meet
                        case rel => exact ⟨_, (((bt a0 ((rd_T32 t287 x6_1).f2)) == 39)), (by first | rfl | (simp; done) | (simp [*]; done)), H', ⟨by have := HK1.out; first | omega | exact Nat.le_refl _⟩, ⟨by (with_reducible repeat (first | apply Kd.R_alloc | apply Kd.R_drewN | apply Kd.R_drew)); exact HO_3.out⟩, ⟨by repeat (first | (with_reducible first | exact HB.out | apply below_alloc | apply pw_below_drewN | apply below_drew1) | exact HB.out)⟩⟩
                      · rw [if_neg c18] at H
                        exact absurd H (by simp)
                    · rw [if_neg c17] at H
                      exact absurd H (by simp)
              case rest =>
                clear HC11
                try clear c1
                try clear p1
                try clear q1
                try clear hx1
                try clear c2
                try clear c2b0
                try clear c2b1
                try clear p2
                try clear q2
                try clear hx2
                try clear c6
                try clear c6b0
                try clear c6b1
                try clear p6
                try clear c7
                try clear c8
                try clear c8b0
                try clear c9
                try clear c9b0
                try clear c14
                try clear c15
                try clear c15b0
                try clear c16
                try clear c16b0
                try clear c16b1
                try clear c17
                try clear c17b0
                try clear c18
                try clear c18b0
                try clear p19
                try clear q19
                try clear hx19
                try clear hx294_0
                try clear hx294_1
                try clear hx294_2
                try clear hx295_0
                try clear hx295_1
                try clear hx295_2
                try clear hx297_0
                try clear hx297_1
                try clear hx297_2
                try clear hx298_0
                try clear hx298_1
                try clear hx298_2
                try clear p19
                try clear p2
                try clear p294
                try clear p295
                try clear p297
                try clear p298
                try clear q19
                try clear q294
                try clear q295
                try clear q297
                try clear q298
                obtain ⟨kq, x63_10, rfl, HA, HJ10, HO_3, HB⟩ := hcut
                cases kq with
                | zero => exact absurd HA.out (by simp [leatworklaw03_LexLongest.j1])
                | succ kj10 =>
                  have H := HA.out
                  clear HA
                  simp only [leatworklaw03_LexLongest.j1] at H
                  by_cases c20 : x63_10 = true
                  · subst c20
                    have H1 : (leatworklaw03_LexLongest.l0 kj10 a0 t287 (wrap64 (x6_1 + 1))) = some r := by rw [if_pos rfl] at H; exact H
                    clear H
                    have H := H1
                    clear H1
                    have H' := Aside0.mk H
                    clear H
                    go_wp2
                    go_roundg kj10
                    case measure => have := HK1.out; have := HJ10.out; omega
                    case rel => exact ⟨(wrap64 (x6_1 + 1)), (by first | rfl | (simp; done) | (simp [*]; done)), H', ⟨by have := HK1.out; have := HJ10.out; omega⟩, ⟨by (with_reducible repeat (first | apply Kd.R_alloc | apply Kd.R_drewN | apply Kd.R_drew)); exact HO_3.out⟩, ⟨by repeat (first | (with_reducible first | exact HB.out | apply below_alloc | apply pw_below_drewN | apply below_drew1) | exact HB.out)⟩⟩
                  · replace c20 := Bool.eq_false_iff.mpr c20
                    subst c20
                    have H1 : (if 0 ≤ (wrap64 (((rd_T32 t287 x6_1).f2) + t296)) then (if (wrap64 (((rd_T32 t287 x6_1).f2) + t296)) < (a0.size : Int) then (if (bt a0 (wrap64 (((rd_T32 t287 x6_1).f2) + t296))) ≥ 48 then (if (bt a0 (wrap64 (((rd_T32 t287 x6_1).f2) + t296))) ≤ 57 then (if 0 ≤ x6_1 then (if x6_1 < (t287.length : Int) then (if ((rd_T32 t287 x6_1).f0) = 1 then (some false) else (some false)) else (none)) else (none)) else (if (bt a0 (wrap64 (((rd_T32 t287 x6_1).f2) + t296))) ≥ 97 then (if (bt a0 (wrap64 (((rd_T32 t287 x6_1).f2) + t296))) ≤ 122 then (if 0 ≤ x6_1 then (if x6_1 < (t287.length : Int) then (if ((rd_T32 t287 x6_1).f0) = 1 then (leatworklaw03_LexLongest.l0 kj10 a0 t287 (wrap64 (x6_1 + 1))) else (some false)) else (none)) else (none)) else (if (bt a0 (wrap64 (((rd_T32 t287 x6_1).f2) + t296))) ≥ 65 then (if (bt a0 (wrap64 (((rd_T32 t287 x6_1).f2) + t296))) ≤ 90 then (if 0 ≤ x6_1 then (if x6_1 < (t287.length : Int) then (if ((rd_T32 t287 x6_1).f0) = 1 then (leatworklaw03_LexLongest.l0 kj10 a0 t287 (wrap64 (x6_1 + 1))) else (some false)) else (none)) else (none)) else (if 0 ≤ x6_1 then (if x6_1 < (t287.length : Int) then (if ((rd_T32 t287 x6_1).f0) = 1 then (leatworklaw03_LexLongest.l0 kj10 a0 t287 (wrap64 (x6_1 + 1))) else (if (bt a0 (wrap64 (((rd_T32 t287 x6_1).f2) + t296))) = 95 then (some false) else (leatworklaw03_LexLongest.l0 kj10 a0 t287 (wrap64 (x6_1 + 1))))) else (none)) else (none))) else (if 0 ≤ x6_1 then (if x6_1 < (t287.length : Int) then (if ((rd_T32 t287 x6_1).f0) = 1 then (leatworklaw03_LexLongest.l0 kj10 a0 t287 (wrap64 (x6_1 + 1))) else (if (bt a0 (wrap64 (((rd_T32 t287 x6_1).f2) + t296))) = 95 then (some false) else (leatworklaw03_LexLongest.l0 kj10 a0 t287 (wrap64 (x6_1 + 1))))) else (none)) else (none)))) else (if (bt a0 (wrap64 (((rd_T32 t287 x6_1).f2) + t296))) ≥ 65 then (if (bt a0 (wrap64 (((rd_T32 t287 x6_1).f2) + t296))) ≤ 90 then (if 0 ≤ x6_1 then (if x6_1 < (t287.length : Int) then (if ((rd_T32 t287 x6_1).f0) = 1 then (leatworklaw03_LexLongest.l0 kj10 a0 t287 (wrap64 (x6_1 + 1))) else (some false)) else (none)) else (none)) else (if 0 ≤ x6_1 then (if x6_1 < (t287.length : Int) then (if ((rd_T32 t287 x6_1).f0) = 1 then (leatworklaw03_LexLongest.l0 kj10 a0 t287 (wrap64 (x6_1 + 1))) else (if (bt a0 (wrap64 (((rd_T32 t287 x6_1).f2) + t296))) = 95 then (some false) else (leatworklaw03_LexLongest.l0 kj10 a0 t287 (wrap64 (x6_1 + 1))))) else (none)) else (none))) else (if 0 ≤ x6_1 then (if x6_1 < (t287.length : Int) then (if ((rd_T32 t287 x6_1).f0) = 1 then (leatworklaw03_LexLongest.l0 kj10 a0 t287 (wrap64 (x6_1 + 1))) else (if (bt a0 (wrap64 (((rd_T32 t287 x6_1).f2) + t296))) = 95 then (some false) else (leatworklaw03_LexLongest.l0 kj10 a0 t287 (wrap64 (x6_1 + 1))))) else (none)) else (none))))) else (if (bt a0 (wrap64 (((rd_T32 t287 x6_1).f2) + t296))) ≥ 97 then (if (bt a0 (wrap64 (((rd_T32 t287 x6_1).f2) + t296))) ≤ 122 then (if 0 ≤ x6_1 then (if x6_1 < (t287.length : Int) then (if ((rd_T32 t287 x6_1).f0) = 1 then (leatworklaw03_LexLongest.l0 kj10 a0 t287 (wrap64 (x6_1 + 1))) else (some false)) else (none)) else (none)) else (if (bt a0 (wrap64 (((rd_T32 t287 x6_1).f2) + t296))) ≥ 65 then (if (bt a0 (wrap64 (((rd_T32 t287 x6_1).f2) + t296))) ≤ 90 then (if 0 ≤ x6_1 then (if x6_1 < (t287.length : Int) then (if ((rd_T32 t287 x6_1).f0) = 1 then (leatworklaw03_LexLongest.l0 kj10 a0 t287 (wrap64 (x6_1 + 1))) else (some false)) else (none)) else (none)) else (if 0 ≤ x6_1 then (if x6_1 < (t287.length : Int) then (if ((rd_T32 t287 x6_1).f0) = 1 then (leatworklaw03_LexLongest.l0 kj10 a0 t287 (wrap64 (x6_1 + 1))) else (if (bt a0 (wrap64 (((rd_T32 t287 x6_1).f2) + t296))) = 95 then (some false) else (leatworklaw03_LexLongest.l0 kj10 a0 t287 (wrap64 (x6_1 + 1))))) else (none)) else (none))) else (if 0 ≤ x6_1 then (if x6_1 < (t287.length : Int) then (if ((rd_T32 t287 x6_1).f0) = 1 then (leatworklaw03_LexLongest.l0 kj10 a0 t287 (wrap64 (x6_1 + 1))) else (if (bt a0 (wrap64 (((rd_T32 t287 x6_1).f2) + t296))) = 95 then (some false) else (leatworklaw03_LexLongest.l0 kj10 a0 t287 (wrap64 (x6_1 + 1))))) else (none)) else (none)))) else (if (bt a0 (wrap64 (((rd_T32 t287 x6_1).f2) + t296))) ≥ 65 then (if (bt a0 (wrap64 (((rd_T32 t287 x6_1).f2) + t296))) ≤ 90 then (if 0 ≤ x6_1 then (if x6_1 < (t287.length : Int) then (if ((rd_T32 t287 x6_1).f0) = 1 then (leatworklaw03_LexLongest.l0 kj10 a0 t287 (wrap64 (x6_1 + 1))) else (some false)) else (none)) else (none)) else (if 0 ≤ x6_1 then (if x6_1 < (t287.length : Int) then (if ((rd_T32 t287 x6_1).f0) = 1 then (leatworklaw03_LexLongest.l0 kj10 a0 t287 (wrap64 (x6_1 + 1))) else (if (bt a0 (wrap64 (((rd_T32 t287 x6_1).f2) + t296))) = 95 then (some false) else (leatworklaw03_LexLongest.l0 kj10 a0 t287 (wrap64 (x6_1 + 1))))) else (none)) else (none))) else (if 0 ≤ x6_1 then (if x6_1 < (t287.length : Int) then (if ((rd_T32 t287 x6_1).f0) = 1 then (leatworklaw03_LexLongest.l0 kj10 a0 t287 (wrap64 (x6_1 + 1))) else (if (bt a0 (wrap64 (((rd_T32 t287 x6_1).f2) + t296))) = 95 then (some false) else (leatworklaw03_LexLongest.l0 kj10 a0 t287 (wrap64 (x6_1 + 1))))) else (none)) else (none))))) else (none)) else (none)) = some r := by rw [if_neg (show ¬ (false = true) by decide)] at H; exact H
                    clear H
                    have H := H1
                    clear H1
                    obtain ⟨ji21, hji21⟩ : ∃ j_ : Int, (wrap64 (((rd_T32 t287 x6_1).f2) + t296)) = j_ := ⟨_, rfl⟩
                    replace H : (if 0 ≤ (ji21) then (if (ji21) < (a0.size : Int) then (if (bt a0 (ji21)) ≥ 48 then (if (bt a0 (ji21)) ≤ 57 then (if 0 ≤ x6_1 then (if x6_1 < (t287.length : Int) then (if ((rd_T32 t287 x6_1).f0) = 1 then (some false) else (some false)) else (none)) else (none)) else (if (bt a0 (ji21)) ≥ 97 then (if (bt a0 (ji21)) ≤ 122 then (if 0 ≤ x6_1 then (if x6_1 < (t287.length : Int) then (if ((rd_T32 t287 x6_1).f0) = 1 then (leatworklaw03_LexLongest.l0 kj10 a0 t287 (wrap64 (x6_1 + 1))) else (some false)) else (none)) else (none)) else (if (bt a0 (ji21)) ≥ 65 then (if (bt a0 (ji21)) ≤ 90 then (if 0 ≤ x6_1 then (if x6_1 < (t287.length : Int) then (if ((rd_T32 t287 x6_1).f0) = 1 then (leatworklaw03_LexLongest.l0 kj10 a0 t287 (wrap64 (x6_1 + 1))) else (some false)) else (none)) else (none)) else (if 0 ≤ x6_1 then (if x6_1 < (t287.length : Int) then (if ((rd_T32 t287 x6_1).f0) = 1 then (leatworklaw03_LexLongest.l0 kj10 a0 t287 (wrap64 (x6_1 + 1))) else (if (bt a0 (ji21)) = 95 then (some false) else (leatworklaw03_LexLongest.l0 kj10 a0 t287 (wrap64 (x6_1 + 1))))) else (none)) else (none))) else (if 0 ≤ x6_1 then (if x6_1 < (t287.length : Int) then (if ((rd_T32 t287 x6_1).f0) = 1 then (leatworklaw03_LexLongest.l0 kj10 a0 t287 (wrap64 (x6_1 + 1))) else (if (bt a0 (ji21)) = 95 then (some false) else (leatworklaw03_LexLongest.l0 kj10 a0 t287 (wrap64 (x6_1 + 1))))) else (none)) else (none)))) else (if (bt a0 (ji21)) ≥ 65 then (if (bt a0 (ji21)) ≤ 90 then (if 0 ≤ x6_1 then (if x6_1 < (t287.length : Int) then (if ((rd_T32 t287 x6_1).f0) = 1 then (leatworklaw03_LexLongest.l0 kj10 a0 t287 (wrap64 (x6_1 + 1))) else (some false)) else (none)) else (none)) else (if 0 ≤ x6_1 then (if x6_1 < (t287.length : Int) then (if ((rd_T32 t287 x6_1).f0) = 1 then (leatworklaw03_LexLongest.l0 kj10 a0 t287 (wrap64 (x6_1 + 1))) else (if (bt a0 (ji21)) = 95 then (some false) else (leatworklaw03_LexLongest.l0 kj10 a0 t287 (wrap64 (x6_1 + 1))))) else (none)) else (none))) else (if 0 ≤ x6_1 then (if x6_1 < (t287.length : Int) then (if ((rd_T32 t287 x6_1).f0) = 1 then (leatworklaw03_LexLongest.l0 kj10 a0 t287 (wrap64 (x6_1 + 1))) else (if (bt a0 (ji21)) = 95 then (some false) else (leatworklaw03_LexLongest.l0 kj10 a0 t287 (wrap64 (x6_1 + 1))))) else (none)) else (none))))) else (if (bt a0 (ji21)) ≥ 97 then (if (bt a0 (ji21)) ≤ 122 then (if 0 ≤ x6_1 then (if x6_1 < (t287.length : Int) then (if ((rd_T32 t287 x6_1).f0) = 1 then (leatworklaw03_LexLongest.l0 kj10 a0 t287 (wrap64 (x6_1 + 1))) else (some false)) else (none)) else (none)) else (if (bt a0 (ji21)) ≥ 65 then (if (bt a0 (ji21)) ≤ 90 then (if 0 ≤ x6_1 then (if x6_1 < (t287.length : Int) then (if ((rd_T32 t287 x6_1).f0) = 1 then (leatworklaw03_LexLongest.l0 kj10 a0 t287 (wrap64 (x6_1 + 1))) else (some false)) else (none)) else (none)) else (if 0 ≤ x6_1 then (if x6_1 < (t287.length : Int) then (if ((rd_T32 t287 x6_1).f0) = 1 then (leatworklaw03_LexLongest.l0 kj10 a0 t287 (wrap64 (x6_1 + 1))) else (if (bt a0 (ji21)) = 95 then (some false) else (leatworklaw03_LexLongest.l0 kj10 a0 t287 (wrap64 (x6_1 + 1))))) else (none)) else (none))) else (if 0 ≤ x6_1 then (if x6_1 < (t287.length : Int) then (if ((rd_T32 t287 x6_1).f0) = 1 then (leatworklaw03_LexLongest.l0 kj10 a0 t287 (wrap64 (x6_1 + 1))) else (if (bt a0 (ji21)) = 95 then (some false) else (leatworklaw03_LexLongest.l0 kj10 a0 t287 (wrap64 (x6_1 + 1))))) else (none)) else (none)))) else (if (bt a0 (ji21)) ≥ 65 then (if (bt a0 (ji21)) ≤ 90 then (if 0 ≤ x6_1 then (if x6_1 < (t287.length : Int) then (if ((rd_T32 t287 x6_1).f0) = 1 then (leatworklaw03_LexLongest.l0 kj10 a0 t287 (wrap64 (x6_1 + 1))) else (some false)) else (none)) else (none)) else (if 0 ≤ x6_1 then (if x6_1 < (t287.length : Int) then (if ((rd_T32 t287 x6_1).f0) = 1 then (leatworklaw03_LexLongest.l0 kj10 a0 t287 (wrap64 (x6_1 + 1))) else (if (bt a0 (ji21)) = 95 then (some false) else (leatworklaw03_LexLongest.l0 kj10 a0 t287 (wrap64 (x6_1 + 1))))) else (none)) else (none))) else (if 0 ≤ x6_1 then (if x6_1 < (t287.length : Int) then (if ((rd_T32 t287 x6_1).f0) = 1 then (leatworklaw03_LexLongest.l0 kj10 a0 t287 (wrap64 (x6_1 + 1))) else (if (bt a0 (ji21)) = 95 then (some false) else (leatworklaw03_LexLongest.l0 kj10 a0 t287 (wrap64 (x6_1 + 1))))) else (none)) else (none))))) else (none)) else (none)) = some r := by first | (rw [hji21] at H; exact H) | (simp only [hji21] at H ⊢; exact H)
                    have hji21w : (IntKind.i64.wrap (((rd_T32 t287 x6_1).f2) + t296)) = ji21 := (i64_w _).trans hji21
                    by_cases c22 : 0 ≤ (ji21)
                    · rw [if_pos c22] at H
                      have c22b0 : decide (0 ≤ (ji21)) = true := decide_eq_true c22
                      clear c22
                      by_cases c23 : (ji21) < (a0.size : Int)
                      · rw [if_pos c23] at H
                        have c23b0 : decide ((ji21) < (a0.size : Int)) = true := decide_eq_true c23
                        clear c23
                        by_cases c25 : (bt a0 (ji21)) ≥ 48
                        · rw [if_pos c25] at H
                          have c25b0 : decide (48 ≤ (bt a0 (ji21))) = true := decide_eq_true c25
                          clear c25
                          by_cases c26 : (bt a0 (ji21)) ≤ 57
                          · rw [if_pos c26] at H
                            have c26b0 : decide ((bt a0 (ji21)) ≤ 57) = true := decide_eq_true c26
                            clear c26
                            by_cases c27 : 0 ≤ x6_1
                            · rw [if_pos c27] at H
                              have c27b0 : decide (0 ≤ x6_1) = true := decide_eq_true c27
                              clear c27
                              by_cases c28 : x6_1 < (t287.length : Int)
                              · rw [if_pos c28] at H
                                have c28b0 : decide (x6_1 < (t287.length : Int)) = true := decide_eq_true c28
                                clear c28
                                by_cases c29 : ((rd_T32 t287 x6_1).f0) = 1
                                · rw [if_pos c29] at H
                                  have c29b0 : (((rd_T32 t287 x6_1).f0) == 1) = true := beq_iff_eq.mpr c29
                                  have c29b1 : (((rd_T32 t287 x6_1).f0) != 1) = false := bne_eq_false_iff_eq.mpr c29
                                  clear c29
                                  obtain rfl := Option.some.inj H
                                  have p24 : 0 ≤ ((ji21) : Int) := of_decide_eq_true (by first | (with_reducible assumption) | assumption)
                                  have q24 : (ji21) < (a0.size : Int) := of_decide_eq_true (by first | (with_reducible assumption) | assumption)
                                  have hx24 := bt_at a0 (ji21)
                                  replace p24 := eq_true p24
                                  replace q24 := eq_true q24
                                  have p299 : 0 ≤ (x6_1 : Int) := of_decide_eq_true (by first | (with_reducible assumption) | assumption)
                                  have q299 : x6_1 < (t287.length : Int) := of_decide_eq_true (by first | (with_reducible assumption) | assumption)
                                  obtain ⟨ad299, e299, hx299_0, hx299_1, hx299_2⟩ := at_T32 (Kd.R_reads' HO_3.out).2.2 x6_1 p299 q299
                                  obtain rfl : ad294 = ad299 := (by injection e299)
                                  replace p299 := eq_true p299
                                  replace q299 := eq_true q299
                                  go_wp2
                                  go_ret
                                  exact ⟨by first | rfl | (simp [errW_none, errW_some] <;> rfl) | (simp only [← hji21]; first | rfl | (simp [errW_none, errW_some] <;> rfl)) | (simp [*, errW_none, errW_some] <;> rfl), by repeat (first | (with_reducible first | exact HB.out | apply below_alloc | apply pw_below_drewN | apply below_drew1) | exact HB.out)⟩
                                · rw [if_neg c29] at H
                                  have c29b0 : (((rd_T32 t287 x6_1).f0) == 1) = false := beq_eq_false_iff_ne.mpr c29
                                  have c29b1 : (((rd_T32 t287 x6_1).f0) != 1) = true := bne_iff_ne.mpr c29
                                  obtain rfl := Option.some.inj H
                                  have p24 : 0 ≤ ((ji21) : Int) := of_decide_eq_true (by first | (with_reducible assumption) | assumption)
                                  have q24 : (ji21) < (a0.size : Int) := of_decide_eq_true (by first | (with_reducible assumption) | assumption)
                                  have hx24 := bt_at a0 (ji21)
                                  replace p24 := eq_true p24
                                  replace q24 := eq_true q24
                                  have p299 : 0 ≤ (x6_1 : Int) := of_decide_eq_true (by first | (with_reducible assumption) | assumption)
                                  have q299 : x6_1 < (t287.length : Int) := of_decide_eq_true (by first | (with_reducible assumption) | assumption)
                                  obtain ⟨ad299, e299, hx299_0, hx299_1, hx299_2⟩ := at_T32 (Kd.R_reads' HO_3.out).2.2 x6_1 p299 q299
                                  obtain rfl : ad294 = ad299 := (by injection e299)
                                  replace p299 := eq_true p299
                                  replace q299 := eq_true q299
                                  have p300 : 0 ≤ (x6_1 : Int) := of_decide_eq_true (by first | (with_reducible assumption) | assumption)
                                  have q300 : x6_1 < (t287.length : Int) := of_decide_eq_true (by first | (with_reducible assumption) | assumption)
                                  obtain ⟨ad300, e300, hx300_0, hx300_1, hx300_2⟩ := at_T32 (Kd.R_reads' HO_3.out).2.2 x6_1 p300 q300
                                  obtain rfl : ad294 = ad300 := (by injection e300)
                                  replace p300 := eq_true p300
                                  replace q300 := eq_true q300
                                  go_wp2
                                  go_ret
                                  exact ⟨by first | rfl | (simp [errW_none, errW_some] <;> rfl) | (simp only [← hji21]; first | rfl | (simp [errW_none, errW_some] <;> rfl)) | (simp [*, errW_none, errW_some] <;> rfl), by repeat (first | (with_reducible first | exact HB.out | apply below_alloc | apply pw_below_drewN | apply below_drew1) | exact HB.out)⟩
                              · rw [if_neg c28] at H
                                exact absurd H (by simp)
                            · rw [if_neg c27] at H
                              exact absurd H (by simp)
                          · rw [if_neg c26] at H
                            have c26b0 : decide ((bt a0 (ji21)) ≤ 57) = false := decide_eq_false c26
                            clear c26
                            by_cases c30 : (bt a0 (ji21)) ≥ 97
                            · rw [if_pos c30] at H
                              have c30b0 : decide (97 ≤ (bt a0 (ji21))) = true := decide_eq_true c30
                              clear c30
                              by_cases c31 : (bt a0 (ji21)) ≤ 122
                              · rw [if_pos c31] at H
                                have c31b0 : decide ((bt a0 (ji21)) ≤ 122) = true := decide_eq_true c31
                                clear c31
                                by_cases c32 : 0 ≤ x6_1
                                · rw [if_pos c32] at H
                                  have c32b0 : decide (0 ≤ x6_1) = true := decide_eq_true c32
                                  clear c32
                                  by_cases c33 : x6_1 < (t287.length : Int)
                                  · rw [if_pos c33] at H
                                    have c33b0 : decide (x6_1 < (t287.length : Int)) = true := decide_eq_true c33
                                    clear c33
                                    by_cases c34 : ((rd_T32 t287 x6_1).f0) = 1
                                    · rw [if_pos c34] at H
                                      have c34b0 : (((rd_T32 t287 x6_1).f0) == 1) = true := beq_iff_eq.mpr c34
                                      have c34b1 : (((rd_T32 t287 x6_1).f0) != 1) = false := bne_eq_false_iff_eq.mpr c34
                                      clear c34
                                      have H' := Aside0.mk H
                                      clear H
                                      have p24 : 0 ≤ ((ji21) : Int) := of_decide_eq_true (by first | (with_reducible assumption) | assumption)
                                      have q24 : (ji21) < (a0.size : Int) := of_decide_eq_true (by first | (with_reducible assumption) | assumption)
                                      have hx24 := bt_at a0 (ji21)
                                      replace p24 := eq_true p24
                                      replace q24 := eq_true q24
                                      have p301 : 0 ≤ (x6_1 : Int) := of_decide_eq_true (by first | (with_reducible assumption) | assumption)
                                      have q301 : x6_1 < (t287.length : Int) := of_decide_eq_true (by first | (with_reducible assumption) | assumption)
                                      obtain ⟨ad301, e301, hx301_0, hx301_1, hx301_2⟩ := at_T32 (Kd.R_reads' HO_3.out).2.2 x6_1 p301 q301
                                      obtain rfl : ad294 = ad301 := (by injection e301)
                                      replace p301 := eq_true p301
                                      replace q301 := eq_true q301
                                      have p302 : 0 ≤ (x6_1 : Int) := of_decide_eq_true (by first | (with_reducible assumption) | assumption)
                                      have q302 : x6_1 < (t287.length : Int) := of_decide_eq_true (by first | (with_reducible assumption) | assumption)
                                      obtain ⟨ad302, e302, hx302_0, hx302_1, hx302_2⟩ := at_T32 (Kd.R_reads' HO_3.out).2.2 x6_1 p302 q302
                                      obtain rfl : ad294 = ad302 := (by injection e302)
                                      replace p302 := eq_true p302
                                      replace q302 := eq_true q302
                                      go_wp2
                                      go_roundg kj10
                                      case measure => have := HK1.out; have := HJ10.out; omega
                                      case rel => exact ⟨(wrap64 (x6_1 + 1)), (by first | rfl | (simp; done) | (simp [*]; done)), H', ⟨by have := HK1.out; have := HJ10.out; omega⟩, ⟨by (with_reducible repeat (first | apply Kd.R_alloc | apply Kd.R_drewN | apply Kd.R_drew)); exact HO_3.out⟩, ⟨by repeat (first | (with_reducible first | exact HB.out | apply below_alloc | apply pw_below_drewN | apply below_drew1) | exact HB.out)⟩⟩
                                    · rw [if_neg c34] at H
                                      have c34b0 : (((rd_T32 t287 x6_1).f0) == 1) = false := beq_eq_false_iff_ne.mpr c34
                                      have c34b1 : (((rd_T32 t287 x6_1).f0) != 1) = true := bne_iff_ne.mpr c34
                                      obtain rfl := Option.some.inj H
                                      have p24 : 0 ≤ ((ji21) : Int) := of_decide_eq_true (by first | (with_reducible assumption) | assumption)
                                      have q24 : (ji21) < (a0.size : Int) := of_decide_eq_true (by first | (with_reducible assumption) | assumption)
                                      have hx24 := bt_at a0 (ji21)
                                      replace p24 := eq_true p24
                                      replace q24 := eq_true q24
                                      have p301 : 0 ≤ (x6_1 : Int) := of_decide_eq_true (by first | (with_reducible assumption) | assumption)
                                      have q301 : x6_1 < (t287.length : Int) := of_decide_eq_true (by first | (with_reducible assumption) | assumption)
                                      obtain ⟨ad301, e301, hx301_0, hx301_1, hx301_2⟩ := at_T32 (Kd.R_reads' HO_3.out).2.2 x6_1 p301 q301
                                      obtain rfl : ad294 = ad301 := (by injection e301)
                                      replace p301 := eq_true p301
                                      replace q301 := eq_true q301
                                      have p303 : 0 ≤ (x6_1 : Int) := of_decide_eq_true (by first | (with_reducible assumption) | assumption)
                                      have q303 : x6_1 < (t287.length : Int) := of_decide_eq_true (by first | (with_reducible assumption) | assumption)
                                      obtain ⟨ad303, e303, hx303_0, hx303_1, hx303_2⟩ := at_T32 (Kd.R_reads' HO_3.out).2.2 x6_1 p303 q303
                                      obtain rfl : ad294 = ad303 := (by injection e303)
                                      replace p303 := eq_true p303
                                      replace q303 := eq_true q303
                                      go_wp2
                                      go_ret
                                      exact ⟨by first | rfl | (simp [errW_none, errW_some] <;> rfl) | (simp only [← hji21]; first | rfl | (simp [errW_none, errW_some] <;> rfl)) | (simp [*, errW_none, errW_some] <;> rfl), by repeat (first | (with_reducible first | exact HB.out | apply below_alloc | apply pw_below_drewN | apply below_drew1) | exact HB.out)⟩
                                  · rw [if_neg c33] at H
                                    exact absurd H (by simp)
                                · rw [if_neg c32] at H
                                  exact absurd H (by simp)
                              · rw [if_neg c31] at H
                                have c31b0 : decide ((bt a0 (ji21)) ≤ 122) = false := decide_eq_false c31
                                clear c31
                                by_cases c35 : (bt a0 (ji21)) ≥ 65
                                · rw [if_pos c35] at H
                                  have c35b0 : decide (65 ≤ (bt a0 (ji21))) = true := decide_eq_true c35
                                  clear c35
                                  by_cases c36 : (bt a0 (ji21)) ≤ 90
                                  · rw [if_pos c36] at H
                                    have c36b0 : decide ((bt a0 (ji21)) ≤ 90) = true := decide_eq_true c36
                                    clear c36
                                    by_cases c37 : 0 ≤ x6_1
                                    · rw [if_pos c37] at H
                                      have c37b0 : decide (0 ≤ x6_1) = true := decide_eq_true c37
                                      clear c37
                                      by_cases c38 : x6_1 < (t287.length : Int)
                                      · rw [if_pos c38] at H
                                        have c38b0 : decide (x6_1 < (t287.length : Int)) = true := decide_eq_true c38
                                        clear c38
                                        by_cases c39 : ((rd_T32 t287 x6_1).f0) = 1
                                        · rw [if_pos c39] at H
                                          have c39b0 : (((rd_T32 t287 x6_1).f0) == 1) = true := beq_iff_eq.mpr c39
                                          have c39b1 : (((rd_T32 t287 x6_1).f0) != 1) = false := bne_eq_false_iff_eq.mpr c39
                                          clear c39
                                          have H' := Aside0.mk H
                                          clear H
                                          have p24 : 0 ≤ ((ji21) : Int) := of_decide_eq_true (by first | (with_reducible assumption) | assumption)
                                          have q24 : (ji21) < (a0.size : Int) := of_decide_eq_true (by first | (with_reducible assumption) | assumption)
                                          have hx24 := bt_at a0 (ji21)
                                          replace p24 := eq_true p24
                                          replace q24 := eq_true q24
                                          have p304 : 0 ≤ (x6_1 : Int) := of_decide_eq_true (by first | (with_reducible assumption) | assumption)
                                          have q304 : x6_1 < (t287.length : Int) := of_decide_eq_true (by first | (with_reducible assumption) | assumption)
                                          obtain ⟨ad304, e304, hx304_0, hx304_1, hx304_2⟩ := at_T32 (Kd.R_reads' HO_3.out).2.2 x6_1 p304 q304
                                          obtain rfl : ad294 = ad304 := (by injection e304)
                                          replace p304 := eq_true p304
                                          replace q304 := eq_true q304
                                          have p305 : 0 ≤ (x6_1 : Int) := of_decide_eq_true (by first | (with_reducible assumption) | assumption)
                                          have q305 : x6_1 < (t287.length : Int) := of_decide_eq_true (by first | (with_reducible assumption) | assumption)
                                          obtain ⟨ad305, e305, hx305_0, hx305_1, hx305_2⟩ := at_T32 (Kd.R_reads' HO_3.out).2.2 x6_1 p305 q305
                                          obtain rfl : ad294 = ad305 := (by injection e305)
                                          replace p305 := eq_true p305
                                          replace q305 := eq_true q305
                                          go_wp2
                                          go_roundg kj10
                                          case measure => have := HK1.out; have := HJ10.out; omega
                                          case rel => exact ⟨(wrap64 (x6_1 + 1)), (by first | rfl | (simp; done) | (simp [*]; done)), H', ⟨by have := HK1.out; have := HJ10.out; omega⟩, ⟨by (with_reducible repeat (first | apply Kd.R_alloc | apply Kd.R_drewN | apply Kd.R_drew)); exact HO_3.out⟩, ⟨by repeat (first | (with_reducible first | exact HB.out | apply below_alloc | apply pw_below_drewN | apply below_drew1) | exact HB.out)⟩⟩
                                        · rw [if_neg c39] at H
                                          have c39b0 : (((rd_T32 t287 x6_1).f0) == 1) = false := beq_eq_false_iff_ne.mpr c39
                                          have c39b1 : (((rd_T32 t287 x6_1).f0) != 1) = true := bne_iff_ne.mpr c39
                                          obtain rfl := Option.some.inj H
                                          have p24 : 0 ≤ ((ji21) : Int) := of_decide_eq_true (by first | (with_reducible assumption) | assumption)
                                          have q24 : (ji21) < (a0.size : Int) := of_decide_eq_true (by first | (with_reducible assumption) | assumption)
                                          have hx24 := bt_at a0 (ji21)
                                          replace p24 := eq_true p24
                                          replace q24 := eq_true q24
                                          have p304 : 0 ≤ (x6_1 : Int) := of_decide_eq_true (by first | (with_reducible assumption) | assumption)
                                          have q304 : x6_1 < (t287.length : Int) := of_decide_eq_true (by first | (with_reducible assumption) | assumption)
                                          obtain ⟨ad304, e304, hx304_0, hx304_1, hx304_2⟩ := at_T32 (Kd.R_reads' HO_3.out).2.2 x6_1 p304 q304
                                          obtain rfl : ad294 = ad304 := (by injection e304)
                                          replace p304 := eq_true p304
                                          replace q304 := eq_true q304
                                          have p306 : 0 ≤ (x6_1 : Int) := of_decide_eq_true (by first | (with_reducible assumption) | assumption)
                                          have q306 : x6_1 < (t287.length : Int) := of_decide_eq_true (by first | (with_reducible assumption) | assumption)
                                          obtain ⟨ad306, e306, hx306_0, hx306_1, hx306_2⟩ := at_T32 (Kd.R_reads' HO_3.out).2.2 x6_1 p306 q306
                                          obtain rfl : ad294 = ad306 := (by injection e306)
                                          replace p306 := eq_true p306
                                          replace q306 := eq_true q306
                                          go_wp2
                                          go_ret
                                          exact ⟨by first | rfl | (simp [errW_none, errW_some] <;> rfl) | (simp only [← hji21]; first | rfl | (simp [errW_none, errW_some] <;> rfl)) | (simp [*, errW_none, errW_some] <;> rfl), by repeat (first | (with_reducible first | exact HB.out | apply below_alloc | apply pw_below_drewN | apply below_drew1) | exact HB.out)⟩
                                      · rw [if_neg c38] at H
                                        exact absurd H (by simp)
                                    · rw [if_neg c37] at H
                                      exact absurd H (by simp)
                                  · rw [if_neg c36] at H
                                    have c36b0 : decide ((bt a0 (ji21)) ≤ 90) = false := decide_eq_false c36
                                    clear c36
                                    by_cases c40 : 0 ≤ x6_1
                                    · rw [if_pos c40] at H
                                      have c40b0 : decide (0 ≤ x6_1) = true := decide_eq_true c40
                                      clear c40
                                      by_cases c41 : x6_1 < (t287.length : Int)
                                      · rw [if_pos c41] at H
                                        have c41b0 : decide (x6_1 < (t287.length : Int)) = true := decide_eq_true c41
                                        clear c41
                                        by_cases c42 : ((rd_T32 t287 x6_1).f0) = 1
                                        · rw [if_pos c42] at H
                                          have c42b0 : (((rd_T32 t287 x6_1).f0) == 1) = true := beq_iff_eq.mpr c42
                                          have c42b1 : (((rd_T32 t287 x6_1).f0) != 1) = false := bne_eq_false_iff_eq.mpr c42
                                          clear c42
                                          have H' := Aside0.mk H
                                          clear H
                                          have p24 : 0 ≤ ((ji21) : Int) := of_decide_eq_true (by first | (with_reducible assumption) | assumption)
                                          have q24 : (ji21) < (a0.size : Int) := of_decide_eq_true (by first | (with_reducible assumption) | assumption)
                                          have hx24 := bt_at a0 (ji21)
                                          replace p24 := eq_true p24
                                          replace q24 := eq_true q24
                                          have p307 : 0 ≤ (x6_1 : Int) := of_decide_eq_true (by first | (with_reducible assumption) | assumption)
                                          have q307 : x6_1 < (t287.length : Int) := of_decide_eq_true (by first | (with_reducible assumption) | assumption)
                                          obtain ⟨ad307, e307, hx307_0, hx307_1, hx307_2⟩ := at_T32 (Kd.R_reads' HO_3.out).2.2 x6_1 p307 q307
                                          obtain rfl : ad294 = ad307 := (by injection e307)
                                          replace p307 := eq_true p307
                                          replace q307 := eq_true q307
                                          have p308 : 0 ≤ (x6_1 : Int) := of_decide_eq_true (by first | (with_reducible assumption) | assumption)
                                          have q308 : x6_1 < (t287.length : Int) := of_decide_eq_true (by first | (with_reducible assumption) | assumption)
                                          obtain ⟨ad308, e308, hx308_0, hx308_1, hx308_2⟩ := at_T32 (Kd.R_reads' HO_3.out).2.2 x6_1 p308 q308
                                          obtain rfl : ad294 = ad308 := (by injection e308)
                                          replace p308 := eq_true p308
                                          replace q308 := eq_true q308
                                          go_wp2
                                          go_roundg kj10
                                          case measure => have := HK1.out; have := HJ10.out; omega
                                          case rel => exact ⟨(wrap64 (x6_1 + 1)), (by first | rfl | (simp; done) | (simp [*]; done)), H', ⟨by have := HK1.out; have := HJ10.out; omega⟩, ⟨by (with_reducible repeat (first | apply Kd.R_alloc | apply Kd.R_drewN | apply Kd.R_drew)); exact HO_3.out⟩, ⟨by repeat (first | (with_reducible first | exact HB.out | apply below_alloc | apply pw_below_drewN | apply below_drew1) | exact HB.out)⟩⟩
                                        · rw [if_neg c42] at H
                                          have c42b0 : (((rd_T32 t287 x6_1).f0) == 1) = false := beq_eq_false_iff_ne.mpr c42
                                          have c42b1 : (((rd_T32 t287 x6_1).f0) != 1) = true := bne_iff_ne.mpr c42
                                          by_cases c43 : (bt a0 (ji21)) = 95
                                          · rw [if_pos c43] at H
                                            have c43b0 : ((bt a0 (ji21)) == 95) = true := beq_iff_eq.mpr c43
                                            have c43b1 : ((bt a0 (ji21)) != 95) = false := bne_eq_false_iff_eq.mpr c43
                                            clear c43
                                            obtain rfl := Option.some.inj H
                                            have p24 : 0 ≤ ((ji21) : Int) := of_decide_eq_true (by first | (with_reducible assumption) | assumption)
                                            have q24 : (ji21) < (a0.size : Int) := of_decide_eq_true (by first | (with_reducible assumption) | assumption)
                                            have hx24 := bt_at a0 (ji21)
                                            replace p24 := eq_true p24
                                            replace q24 := eq_true q24
                                            have p307 : 0 ≤ (x6_1 : Int) := of_decide_eq_true (by first | (with_reducible assumption) | assumption)
                                            have q307 : x6_1 < (t287.length : Int) := of_decide_eq_true (by first | (with_reducible assumption) | assumption)
                                            obtain ⟨ad307, e307, hx307_0, hx307_1, hx307_2⟩ := at_T32 (Kd.R_reads' HO_3.out).2.2 x6_1 p307 q307
                                            obtain rfl : ad294 = ad307 := (by injection e307)
                                            replace p307 := eq_true p307
                                            replace q307 := eq_true q307
                                            have p309 : 0 ≤ (x6_1 : Int) := of_decide_eq_true (by first | (with_reducible assumption) | assumption)
                                            have q309 : x6_1 < (t287.length : Int) := of_decide_eq_true (by first | (with_reducible assumption) | assumption)
                                            obtain ⟨ad309, e309, hx309_0, hx309_1, hx309_2⟩ := at_T32 (Kd.R_reads' HO_3.out).2.2 x6_1 p309 q309
                                            obtain rfl : ad294 = ad309 := (by injection e309)
                                            replace p309 := eq_true p309
                                            replace q309 := eq_true q309
                                            go_wp2
                                            go_ret
                                            exact ⟨by first | rfl | (simp [errW_none, errW_some] <;> rfl) | (simp only [← hji21]; first | rfl | (simp [errW_none, errW_some] <;> rfl)) | (simp [*, errW_none, errW_some] <;> rfl), by repeat (first | (with_reducible first | exact HB.out | apply below_alloc | apply pw_below_drewN | apply below_drew1) | exact HB.out)⟩
                                          · rw [if_neg c43] at H
                                            have c43b0 : ((bt a0 (ji21)) == 95) = false := beq_eq_false_iff_ne.mpr c43
                                            have c43b1 : ((bt a0 (ji21)) != 95) = true := bne_iff_ne.mpr c43
                                            have H' := Aside0.mk H
                                            clear H
                                            have p24 : 0 ≤ ((ji21) : Int) := of_decide_eq_true (by first | (with_reducible assumption) | assumption)
                                            have q24 : (ji21) < (a0.size : Int) := of_decide_eq_true (by first | (with_reducible assumption) | assumption)
                                            have hx24 := bt_at a0 (ji21)
                                            replace p24 := eq_true p24
                                            replace q24 := eq_true q24
                                            have p307 : 0 ≤ (x6_1 : Int) := of_decide_eq_true (by first | (with_reducible assumption) | assumption)
                                            have q307 : x6_1 < (t287.length : Int) := of_decide_eq_true (by first | (with_reducible assumption) | assumption)
                                            obtain ⟨ad307, e307, hx307_0, hx307_1, hx307_2⟩ := at_T32 (Kd.R_reads' HO_3.out).2.2 x6_1 p307 q307
                                            obtain rfl : ad294 = ad307 := (by injection e307)
                                            replace p307 := eq_true p307
                                            replace q307 := eq_true q307
                                            have p309 : 0 ≤ (x6_1 : Int) := of_decide_eq_true (by first | (with_reducible assumption) | assumption)
                                            have q309 : x6_1 < (t287.length : Int) := of_decide_eq_true (by first | (with_reducible assumption) | assumption)
                                            obtain ⟨ad309, e309, hx309_0, hx309_1, hx309_2⟩ := at_T32 (Kd.R_reads' HO_3.out).2.2 x6_1 p309 q309
                                            obtain rfl : ad294 = ad309 := (by injection e309)
                                            replace p309 := eq_true p309
                                            replace q309 := eq_true q309
                                            go_wp2
                                            go_roundg kj10
                                            case measure => have := HK1.out; have := HJ10.out; omega
                                            case rel => exact ⟨(wrap64 (x6_1 + 1)), (by first | rfl | (simp; done) | (simp [*]; done)), H', ⟨by have := HK1.out; have := HJ10.out; omega⟩, ⟨by (with_reducible repeat (first | apply Kd.R_alloc | apply Kd.R_drewN | apply Kd.R_drew)); exact HO_3.out⟩, ⟨by repeat (first | (with_reducible first | exact HB.out | apply below_alloc | apply pw_below_drewN | apply below_drew1) | exact HB.out)⟩⟩
                                      · rw [if_neg c41] at H
                                        exact absurd H (by simp)
                                    · rw [if_neg c40] at H
                                      exact absurd H (by simp)
                                · rw [if_neg c35] at H
                                  have c35b0 : decide (65 ≤ (bt a0 (ji21))) = false := decide_eq_false c35
                                  clear c35
                                  by_cases c44 : 0 ≤ x6_1
                                  · rw [if_pos c44] at H
                                    have c44b0 : decide (0 ≤ x6_1) = true := decide_eq_true c44
                                    clear c44
                                    by_cases c45 : x6_1 < (t287.length : Int)
                                    · rw [if_pos c45] at H
                                      have c45b0 : decide (x6_1 < (t287.length : Int)) = true := decide_eq_true c45
                                      clear c45
                                      by_cases c46 : ((rd_T32 t287 x6_1).f0) = 1
                                      · rw [if_pos c46] at H
                                        have c46b0 : (((rd_T32 t287 x6_1).f0) == 1) = true := beq_iff_eq.mpr c46
                                        have c46b1 : (((rd_T32 t287 x6_1).f0) != 1) = false := bne_eq_false_iff_eq.mpr c46
                                        clear c46
                                        have H' := Aside0.mk H
                                        clear H
                                        have p24 : 0 ≤ ((ji21) : Int) := of_decide_eq_true (by first | (with_reducible assumption) | assumption)
                                        have q24 : (ji21) < (a0.size : Int) := of_decide_eq_true (by first | (with_reducible assumption) | assumption)
                                        have hx24 := bt_at a0 (ji21)
                                        replace p24 := eq_true p24
                                        replace q24 := eq_true q24
                                        have p310 : 0 ≤ (x6_1 : Int) := of_decide_eq_true (by first | (with_reducible assumption) | assumption)
                                        have q310 : x6_1 < (t287.length : Int) := of_decide_eq_true (by first | (with_reducible assumption) | assumption)
                                        obtain ⟨ad310, e310, hx310_0, hx310_1, hx310_2⟩ := at_T32 (Kd.R_reads' HO_3.out).2.2 x6_1 p310 q310
                                        obtain rfl : ad294 = ad310 := (by injection e310)
                                        replace p310 := eq_true p310
                                        replace q310 := eq_true q310
                                        have p311 : 0 ≤ (x6_1 : Int) := of_decide_eq_true (by first | (with_reducible assumption) | assumption)
                                        have q311 : x6_1 < (t287.length : Int) := of_decide_eq_true (by first | (with_reducible assumption) | assumption)
                                        obtain ⟨ad311, e311, hx311_0, hx311_1, hx311_2⟩ := at_T32 (Kd.R_reads' HO_3.out).2.2 x6_1 p311 q311
                                        obtain rfl : ad294 = ad311 := (by injection e311)
                                        replace p311 := eq_true p311
                                        replace q311 := eq_true q311
                                        go_wp2
                                        go_roundg kj10
                                        case measure => have := HK1.out; have := HJ10.out; omega
                                        case rel => exact ⟨(wrap64 (x6_1 + 1)), (by first | rfl | (simp; done) | (simp [*]; done)), H', ⟨by have := HK1.out; have := HJ10.out; omega⟩, ⟨by (with_reducible repeat (first | apply Kd.R_alloc | apply Kd.R_drewN | apply Kd.R_drew)); exact HO_3.out⟩, ⟨by repeat (first | (with_reducible first | exact HB.out | apply below_alloc | apply pw_below_drewN | apply below_drew1) | exact HB.out)⟩⟩
                                      · rw [if_neg c46] at H
                                        have c46b0 : (((rd_T32 t287 x6_1).f0) == 1) = false := beq_eq_false_iff_ne.mpr c46
                                        have c46b1 : (((rd_T32 t287 x6_1).f0) != 1) = true := bne_iff_ne.mpr c46
                                        by_cases c47 : (bt a0 (ji21)) = 95
                                        · rw [if_pos c47] at H
                                          have c47b0 : ((bt a0 (ji21)) == 95) = true := beq_iff_eq.mpr c47
                                          have c47b1 : ((bt a0 (ji21)) != 95) = false := bne_eq_false_iff_eq.mpr c47
                                          clear c47
                                          obtain rfl := Option.some.inj H
                                          have p24 : 0 ≤ ((ji21) : Int) := of_decide_eq_true (by first | (with_reducible assumption) | assumption)
                                          have q24 : (ji21) < (a0.size : Int) := of_decide_eq_true (by first | (with_reducible assumption) | assumption)
                                          have hx24 := bt_at a0 (ji21)
                                          replace p24 := eq_true p24
                                          replace q24 := eq_true q24
                                          have p310 : 0 ≤ (x6_1 : Int) := of_decide_eq_true (by first | (with_reducible assumption) | assumption)
                                          have q310 : x6_1 < (t287.length : Int) := of_decide_eq_true (by first | (with_reducible assumption) | assumption)
                                          obtain ⟨ad310, e310, hx310_0, hx310_1, hx310_2⟩ := at_T32 (Kd.R_reads' HO_3.out).2.2 x6_1 p310 q310
                                          obtain rfl : ad294 = ad310 := (by injection e310)
                                          replace p310 := eq_true p310
                                          replace q310 := eq_true q310
                                          have p312 : 0 ≤ (x6_1 : Int) := of_decide_eq_true (by first | (with_reducible assumption) | assumption)
                                          have q312 : x6_1 < (t287.length : Int) := of_decide_eq_true (by first | (with_reducible assumption) | assumption)
                                          obtain ⟨ad312, e312, hx312_0, hx312_1, hx312_2⟩ := at_T32 (Kd.R_reads' HO_3.out).2.2 x6_1 p312 q312
                                          obtain rfl : ad294 = ad312 := (by injection e312)
                                          replace p312 := eq_true p312
                                          replace q312 := eq_true q312
                                          go_wp2
                                          go_ret
                                          exact ⟨by first | rfl | (simp [errW_none, errW_some] <;> rfl) | (simp only [← hji21]; first | rfl | (simp [errW_none, errW_some] <;> rfl)) | (simp [*, errW_none, errW_some] <;> rfl), by repeat (first | (with_reducible first | exact HB.out | apply below_alloc | apply pw_below_drewN | apply below_drew1) | exact HB.out)⟩
                                        · rw [if_neg c47] at H
                                          have c47b0 : ((bt a0 (ji21)) == 95) = false := beq_eq_false_iff_ne.mpr c47
                                          have c47b1 : ((bt a0 (ji21)) != 95) = true := bne_iff_ne.mpr c47
                                          have H' := Aside0.mk H
                                          clear H
                                          have p24 : 0 ≤ ((ji21) : Int) := of_decide_eq_true (by first | (with_reducible assumption) | assumption)
                                          have q24 : (ji21) < (a0.size : Int) := of_decide_eq_true (by first | (with_reducible assumption) | assumption)
                                          have hx24 := bt_at a0 (ji21)
                                          replace p24 := eq_true p24
                                          replace q24 := eq_true q24
                                          have p310 : 0 ≤ (x6_1 : Int) := of_decide_eq_true (by first | (with_reducible assumption) | assumption)
                                          have q310 : x6_1 < (t287.length : Int) := of_decide_eq_true (by first | (with_reducible assumption) | assumption)
                                          obtain ⟨ad310, e310, hx310_0, hx310_1, hx310_2⟩ := at_T32 (Kd.R_reads' HO_3.out).2.2 x6_1 p310 q310
                                          obtain rfl : ad294 = ad310 := (by injection e310)
                                          replace p310 := eq_true p310
                                          replace q310 := eq_true q310
                                          have p312 : 0 ≤ (x6_1 : Int) := of_decide_eq_true (by first | (with_reducible assumption) | assumption)
                                          have q312 : x6_1 < (t287.length : Int) := of_decide_eq_true (by first | (with_reducible assumption) | assumption)
                                          obtain ⟨ad312, e312, hx312_0, hx312_1, hx312_2⟩ := at_T32 (Kd.R_reads' HO_3.out).2.2 x6_1 p312 q312
                                          obtain rfl : ad294 = ad312 := (by injection e312)
                                          replace p312 := eq_true p312
                                          replace q312 := eq_true q312
                                          go_wp2
                                          go_roundg kj10
                                          case measure => have := HK1.out; have := HJ10.out; omega
                                          case rel => exact ⟨(wrap64 (x6_1 + 1)), (by first | rfl | (simp; done) | (simp [*]; done)), H', ⟨by have := HK1.out; have := HJ10.out; omega⟩, ⟨by (with_reducible repeat (first | apply Kd.R_alloc | apply Kd.R_drewN | apply Kd.R_drew)); exact HO_3.out⟩, ⟨by repeat (first | (with_reducible first | exact HB.out | apply below_alloc | apply pw_below_drewN | apply below_drew1) | exact HB.out)⟩⟩
                                    · rw [if_neg c45] at H
                                      exact absurd H (by simp)
                                  · rw [if_neg c44] at H
                                    exact absurd H (by simp)
                            · rw [if_neg c30] at H
                              have c30b0 : decide (97 ≤ (bt a0 (ji21))) = false := decide_eq_false c30
                              clear c30
                              by_cases c48 : (bt a0 (ji21)) ≥ 65
                              · rw [if_pos c48] at H
                                have c48b0 : decide (65 ≤ (bt a0 (ji21))) = true := decide_eq_true c48
                                clear c48
                                by_cases c49 : (bt a0 (ji21)) ≤ 90
                                · rw [if_pos c49] at H
                                  have c49b0 : decide ((bt a0 (ji21)) ≤ 90) = true := decide_eq_true c49
                                  clear c49
                                  by_cases c50 : 0 ≤ x6_1
                                  · rw [if_pos c50] at H
                                    have c50b0 : decide (0 ≤ x6_1) = true := decide_eq_true c50
                                    clear c50
                                    by_cases c51 : x6_1 < (t287.length : Int)
                                    · rw [if_pos c51] at H
                                      have c51b0 : decide (x6_1 < (t287.length : Int)) = true := decide_eq_true c51
                                      clear c51
                                      by_cases c52 : ((rd_T32 t287 x6_1).f0) = 1
                                      · rw [if_pos c52] at H
                                        have c52b0 : (((rd_T32 t287 x6_1).f0) == 1) = true := beq_iff_eq.mpr c52
                                        have c52b1 : (((rd_T32 t287 x6_1).f0) != 1) = false := bne_eq_false_iff_eq.mpr c52
                                        clear c52
                                        have H' := Aside0.mk H
                                        clear H
                                        have p24 : 0 ≤ ((ji21) : Int) := of_decide_eq_true (by first | (with_reducible assumption) | assumption)
                                        have q24 : (ji21) < (a0.size : Int) := of_decide_eq_true (by first | (with_reducible assumption) | assumption)
                                        have hx24 := bt_at a0 (ji21)
                                        replace p24 := eq_true p24
                                        replace q24 := eq_true q24
                                        have p313 : 0 ≤ (x6_1 : Int) := of_decide_eq_true (by first | (with_reducible assumption) | assumption)
                                        have q313 : x6_1 < (t287.length : Int) := of_decide_eq_true (by first | (with_reducible assumption) | assumption)
                                        obtain ⟨ad313, e313, hx313_0, hx313_1, hx313_2⟩ := at_T32 (Kd.R_reads' HO_3.out).2.2 x6_1 p313 q313
                                        obtain rfl : ad294 = ad313 := (by injection e313)
                                        replace p313 := eq_true p313
                                        replace q313 := eq_true q313
                                        have p314 : 0 ≤ (x6_1 : Int) := of_decide_eq_true (by first | (with_reducible assumption) | assumption)
                                        have q314 : x6_1 < (t287.length : Int) := of_decide_eq_true (by first | (with_reducible assumption) | assumption)
                                        obtain ⟨ad314, e314, hx314_0, hx314_1, hx314_2⟩ := at_T32 (Kd.R_reads' HO_3.out).2.2 x6_1 p314 q314
                                        obtain rfl : ad294 = ad314 := (by injection e314)
                                        replace p314 := eq_true p314
                                        replace q314 := eq_true q314
                                        go_wp2
                                        go_roundg kj10
                                        case measure => have := HK1.out; have := HJ10.out; omega
                                        case rel => exact ⟨(wrap64 (x6_1 + 1)), (by first | rfl | (simp; done) | (simp [*]; done)), H', ⟨by have := HK1.out; have := HJ10.out; omega⟩, ⟨by (with_reducible repeat (first | apply Kd.R_alloc | apply Kd.R_drewN | apply Kd.R_drew)); exact HO_3.out⟩, ⟨by repeat (first | (with_reducible first | exact HB.out | apply below_alloc | apply pw_below_drewN | apply below_drew1) | exact HB.out)⟩⟩
                                      · rw [if_neg c52] at H
                                        have c52b0 : (((rd_T32 t287 x6_1).f0) == 1) = false := beq_eq_false_iff_ne.mpr c52
                                        have c52b1 : (((rd_T32 t287 x6_1).f0) != 1) = true := bne_iff_ne.mpr c52
                                        obtain rfl := Option.some.inj H
                                        have p24 : 0 ≤ ((ji21) : Int) := of_decide_eq_true (by first | (with_reducible assumption) | assumption)
                                        have q24 : (ji21) < (a0.size : Int) := of_decide_eq_true (by first | (with_reducible assumption) | assumption)
                                        have hx24 := bt_at a0 (ji21)
                                        replace p24 := eq_true p24
                                        replace q24 := eq_true q24
                                        have p313 : 0 ≤ (x6_1 : Int) := of_decide_eq_true (by first | (with_reducible assumption) | assumption)
                                        have q313 : x6_1 < (t287.length : Int) := of_decide_eq_true (by first | (with_reducible assumption) | assumption)
                                        obtain ⟨ad313, e313, hx313_0, hx313_1, hx313_2⟩ := at_T32 (Kd.R_reads' HO_3.out).2.2 x6_1 p313 q313
                                        obtain rfl : ad294 = ad313 := (by injection e313)
                                        replace p313 := eq_true p313
                                        replace q313 := eq_true q313
                                        have p315 : 0 ≤ (x6_1 : Int) := of_decide_eq_true (by first | (with_reducible assumption) | assumption)
                                        have q315 : x6_1 < (t287.length : Int) := of_decide_eq_true (by first | (with_reducible assumption) | assumption)
                                        obtain ⟨ad315, e315, hx315_0, hx315_1, hx315_2⟩ := at_T32 (Kd.R_reads' HO_3.out).2.2 x6_1 p315 q315
                                        obtain rfl : ad294 = ad315 := (by injection e315)
                                        replace p315 := eq_true p315
                                        replace q315 := eq_true q315
                                        go_wp2
                                        go_ret
                                        exact ⟨by first | rfl | (simp [errW_none, errW_some] <;> rfl) | (simp only [← hji21]; first | rfl | (simp [errW_none, errW_some] <;> rfl)) | (simp [*, errW_none, errW_some] <;> rfl), by repeat (first | (with_reducible first | exact HB.out | apply below_alloc | apply pw_below_drewN | apply below_drew1) | exact HB.out)⟩
                                    · rw [if_neg c51] at H
                                      exact absurd H (by simp)
                                  · rw [if_neg c50] at H
                                    exact absurd H (by simp)
                                · rw [if_neg c49] at H
                                  have c49b0 : decide ((bt a0 (ji21)) ≤ 90) = false := decide_eq_false c49
                                  clear c49
                                  by_cases c53 : 0 ≤ x6_1
                                  · rw [if_pos c53] at H
                                    have c53b0 : decide (0 ≤ x6_1) = true := decide_eq_true c53
                                    clear c53
                                    by_cases c54 : x6_1 < (t287.length : Int)
                                    · rw [if_pos c54] at H
                                      have c54b0 : decide (x6_1 < (t287.length : Int)) = true := decide_eq_true c54
                                      clear c54
                                      by_cases c55 : ((rd_T32 t287 x6_1).f0) = 1
                                      · rw [if_pos c55] at H
                                        have c55b0 : (((rd_T32 t287 x6_1).f0) == 1) = true := beq_iff_eq.mpr c55
                                        have c55b1 : (((rd_T32 t287 x6_1).f0) != 1) = false := bne_eq_false_iff_eq.mpr c55
                                        clear c55
                                        have H' := Aside0.mk H
                                        clear H
                                        have p24 : 0 ≤ ((ji21) : Int) := of_decide_eq_true (by first | (with_reducible assumption) | assumption)
                                        have q24 : (ji21) < (a0.size : Int) := of_decide_eq_true (by first | (with_reducible assumption) | assumption)
                                        have hx24 := bt_at a0 (ji21)
                                        replace p24 := eq_true p24
                                        replace q24 := eq_true q24
                                        have p316 : 0 ≤ (x6_1 : Int) := of_decide_eq_true (by first | (with_reducible assumption) | assumption)
                                        have q316 : x6_1 < (t287.length : Int) := of_decide_eq_true (by first | (with_reducible assumption) | assumption)
                                        obtain ⟨ad316, e316, hx316_0, hx316_1, hx316_2⟩ := at_T32 (Kd.R_reads' HO_3.out).2.2 x6_1 p316 q316
                                        obtain rfl : ad294 = ad316 := (by injection e316)
                                        replace p316 := eq_true p316
                                        replace q316 := eq_true q316
                                        have p317 : 0 ≤ (x6_1 : Int) := of_decide_eq_true (by first | (with_reducible assumption) | assumption)
                                        have q317 : x6_1 < (t287.length : Int) := of_decide_eq_true (by first | (with_reducible assumption) | assumption)
                                        obtain ⟨ad317, e317, hx317_0, hx317_1, hx317_2⟩ := at_T32 (Kd.R_reads' HO_3.out).2.2 x6_1 p317 q317
                                        obtain rfl : ad294 = ad317 := (by injection e317)
                                        replace p317 := eq_true p317
                                        replace q317 := eq_true q317
                                        go_wp2
                                        go_roundg kj10
                                        case measure => have := HK1.out; have := HJ10.out; omega
                                        case rel => exact ⟨(wrap64 (x6_1 + 1)), (by first | rfl | (simp; done) | (simp [*]; done)), H', ⟨by have := HK1.out; have := HJ10.out; omega⟩, ⟨by (with_reducible repeat (first | apply Kd.R_alloc | apply Kd.R_drewN | apply Kd.R_drew)); exact HO_3.out⟩, ⟨by repeat (first | (with_reducible first | exact HB.out | apply below_alloc | apply pw_below_drewN | apply below_drew1) | exact HB.out)⟩⟩
                                      · rw [if_neg c55] at H
                                        have c55b0 : (((rd_T32 t287 x6_1).f0) == 1) = false := beq_eq_false_iff_ne.mpr c55
                                        have c55b1 : (((rd_T32 t287 x6_1).f0) != 1) = true := bne_iff_ne.mpr c55
                                        by_cases c56 : (bt a0 (ji21)) = 95
                                        · rw [if_pos c56] at H
                                          have c56b0 : ((bt a0 (ji21)) == 95) = true := beq_iff_eq.mpr c56
                                          have c56b1 : ((bt a0 (ji21)) != 95) = false := bne_eq_false_iff_eq.mpr c56
                                          clear c56
                                          obtain rfl := Option.some.inj H
                                          have p24 : 0 ≤ ((ji21) : Int) := of_decide_eq_true (by first | (with_reducible assumption) | assumption)
                                          have q24 : (ji21) < (a0.size : Int) := of_decide_eq_true (by first | (with_reducible assumption) | assumption)
                                          have hx24 := bt_at a0 (ji21)
                                          replace p24 := eq_true p24
                                          replace q24 := eq_true q24
                                          have p316 : 0 ≤ (x6_1 : Int) := of_decide_eq_true (by first | (with_reducible assumption) | assumption)
                                          have q316 : x6_1 < (t287.length : Int) := of_decide_eq_true (by first | (with_reducible assumption) | assumption)
                                          obtain ⟨ad316, e316, hx316_0, hx316_1, hx316_2⟩ := at_T32 (Kd.R_reads' HO_3.out).2.2 x6_1 p316 q316
                                          obtain rfl : ad294 = ad316 := (by injection e316)
                                          replace p316 := eq_true p316
                                          replace q316 := eq_true q316
                                          have p318 : 0 ≤ (x6_1 : Int) := of_decide_eq_true (by first | (with_reducible assumption) | assumption)
                                          have q318 : x6_1 < (t287.length : Int) := of_decide_eq_true (by first | (with_reducible assumption) | assumption)
                                          obtain ⟨ad318, e318, hx318_0, hx318_1, hx318_2⟩ := at_T32 (Kd.R_reads' HO_3.out).2.2 x6_1 p318 q318
                                          obtain rfl : ad294 = ad318 := (by injection e318)
                                          replace p318 := eq_true p318
                                          replace q318 := eq_true q318
                                          go_wp2
                                          go_ret
                                          exact ⟨by first | rfl | (simp [errW_none, errW_some] <;> rfl) | (simp only [← hji21]; first | rfl | (simp [errW_none, errW_some] <;> rfl)) | (simp [*, errW_none, errW_some] <;> rfl), by repeat (first | (with_reducible first | exact HB.out | apply below_alloc | apply pw_below_drewN | apply below_drew1) | exact HB.out)⟩
                                        · rw [if_neg c56] at H
                                          have c56b0 : ((bt a0 (ji21)) == 95) = false := beq_eq_false_iff_ne.mpr c56
                                          have c56b1 : ((bt a0 (ji21)) != 95) = true := bne_iff_ne.mpr c56
                                          have H' := Aside0.mk H
                                          clear H
                                          have p24 : 0 ≤ ((ji21) : Int) := of_decide_eq_true (by first | (with_reducible assumption) | assumption)
                                          have q24 : (ji21) < (a0.size : Int) := of_decide_eq_true (by first | (with_reducible assumption) | assumption)
                                          have hx24 := bt_at a0 (ji21)
                                          replace p24 := eq_true p24
                                          replace q24 := eq_true q24
                                          have p316 : 0 ≤ (x6_1 : Int) := of_decide_eq_true (by first | (with_reducible assumption) | assumption)
                                          have q316 : x6_1 < (t287.length : Int) := of_decide_eq_true (by first | (with_reducible assumption) | assumption)
                                          obtain ⟨ad316, e316, hx316_0, hx316_1, hx316_2⟩ := at_T32 (Kd.R_reads' HO_3.out).2.2 x6_1 p316 q316
                                          obtain rfl : ad294 = ad316 := (by injection e316)
                                          replace p316 := eq_true p316
                                          replace q316 := eq_true q316
                                          have p318 : 0 ≤ (x6_1 : Int) := of_decide_eq_true (by first | (with_reducible assumption) | assumption)
                                          have q318 : x6_1 < (t287.length : Int) := of_decide_eq_true (by first | (with_reducible assumption) | assumption)
                                          obtain ⟨ad318, e318, hx318_0, hx318_1, hx318_2⟩ := at_T32 (Kd.R_reads' HO_3.out).2.2 x6_1 p318 q318
                                          obtain rfl : ad294 = ad318 := (by injection e318)
                                          replace p318 := eq_true p318
                                          replace q318 := eq_true q318
                                          go_wp2
                                          go_roundg kj10
                                          case measure => have := HK1.out; have := HJ10.out; omega
                                          case rel => exact ⟨(wrap64 (x6_1 + 1)), (by first | rfl | (simp; done) | (simp [*]; done)), H', ⟨by have := HK1.out; have := HJ10.out; omega⟩, ⟨by (with_reducible repeat (first | apply Kd.R_alloc | apply Kd.R_drewN | apply Kd.R_drew)); exact HO_3.out⟩, ⟨by repeat (first | (with_reducible first | exact HB.out | apply below_alloc | apply pw_below_drewN | apply below_drew1) | exact HB.out)⟩⟩
                                    · rw [if_neg c54] at H
                                      exact absurd H (by simp)
                                  · rw [if_neg c53] at H
                                    exact absurd H (by simp)
                              · rw [if_neg c48] at H
                                have c48b0 : decide (65 ≤ (bt a0 (ji21))) = false := decide_eq_false c48
                                clear c48
                                by_cases c57 : 0 ≤ x6_1
                                · rw [if_pos c57] at H
                                  have c57b0 : decide (0 ≤ x6_1) = true := decide_eq_true c57
                                  clear c57
                                  by_cases c58 : x6_1 < (t287.length : Int)
                                  · rw [if_pos c58] at H
                                    have c58b0 : decide (x6_1 < (t287.length : Int)) = true := decide_eq_true c58
                                    clear c58
                                    by_cases c59 : ((rd_T32 t287 x6_1).f0) = 1
                                    · rw [if_pos c59] at H
                                      have c59b0 : (((rd_T32 t287 x6_1).f0) == 1) = true := beq_iff_eq.mpr c59
                                      have c59b1 : (((rd_T32 t287 x6_1).f0) != 1) = false := bne_eq_false_iff_eq.mpr c59
                                      clear c59
                                      have H' := Aside0.mk H
                                      clear H
                                      have p24 : 0 ≤ ((ji21) : Int) := of_decide_eq_true (by first | (with_reducible assumption) | assumption)
                                      have q24 : (ji21) < (a0.size : Int) := of_decide_eq_true (by first | (with_reducible assumption) | assumption)
                                      have hx24 := bt_at a0 (ji21)
                                      replace p24 := eq_true p24
                                      replace q24 := eq_true q24
                                      have p319 : 0 ≤ (x6_1 : Int) := of_decide_eq_true (by first | (with_reducible assumption) | assumption)
                                      have q319 : x6_1 < (t287.length : Int) := of_decide_eq_true (by first | (with_reducible assumption) | assumption)
                                      obtain ⟨ad319, e319, hx319_0, hx319_1, hx319_2⟩ := at_T32 (Kd.R_reads' HO_3.out).2.2 x6_1 p319 q319
                                      obtain rfl : ad294 = ad319 := (by injection e319)
                                      replace p319 := eq_true p319
                                      replace q319 := eq_true q319
                                      have p320 : 0 ≤ (x6_1 : Int) := of_decide_eq_true (by first | (with_reducible assumption) | assumption)
                                      have q320 : x6_1 < (t287.length : Int) := of_decide_eq_true (by first | (with_reducible assumption) | assumption)
                                      obtain ⟨ad320, e320, hx320_0, hx320_1, hx320_2⟩ := at_T32 (Kd.R_reads' HO_3.out).2.2 x6_1 p320 q320
                                      obtain rfl : ad294 = ad320 := (by injection e320)
                                      replace p320 := eq_true p320
                                      replace q320 := eq_true q320
                                      go_wp2
                                      go_roundg kj10
                                      case measure => have := HK1.out; have := HJ10.out; omega
                                      case rel => exact ⟨(wrap64 (x6_1 + 1)), (by first | rfl | (simp; done) | (simp [*]; done)), H', ⟨by have := HK1.out; have := HJ10.out; omega⟩, ⟨by (with_reducible repeat (first | apply Kd.R_alloc | apply Kd.R_drewN | apply Kd.R_drew)); exact HO_3.out⟩, ⟨by repeat (first | (with_reducible first | exact HB.out | apply below_alloc | apply pw_below_drewN | apply below_drew1) | exact HB.out)⟩⟩
                                    · rw [if_neg c59] at H
                                      have c59b0 : (((rd_T32 t287 x6_1).f0) == 1) = false := beq_eq_false_iff_ne.mpr c59
                                      have c59b1 : (((rd_T32 t287 x6_1).f0) != 1) = true := bne_iff_ne.mpr c59
                                      by_cases c60 : (bt a0 (ji21)) = 95
                                      · rw [if_pos c60] at H
                                        have c60b0 : ((bt a0 (ji21)) == 95) = true := beq_iff_eq.mpr c60
                                        have c60b1 : ((bt a0 (ji21)) != 95) = false := bne_eq_false_iff_eq.mpr c60
                                        clear c60
                                        obtain rfl := Option.some.inj H
                                        have p24 : 0 ≤ ((ji21) : Int) := of_decide_eq_true (by first | (with_reducible assumption) | assumption)
                                        have q24 : (ji21) < (a0.size : Int) := of_decide_eq_true (by first | (with_reducible assumption) | assumption)
                                        have hx24 := bt_at a0 (ji21)
                                        replace p24 := eq_true p24
                                        replace q24 := eq_true q24
                                        have p319 : 0 ≤ (x6_1 : Int) := of_decide_eq_true (by first | (with_reducible assumption) | assumption)
                                        have q319 : x6_1 < (t287.length : Int) := of_decide_eq_true (by first | (with_reducible assumption) | assumption)
                                        obtain ⟨ad319, e319, hx319_0, hx319_1, hx319_2⟩ := at_T32 (Kd.R_reads' HO_3.out).2.2 x6_1 p319 q319
                                        obtain rfl : ad294 = ad319 := (by injection e319)
                                        replace p319 := eq_true p319
                                        replace q319 := eq_true q319
                                        have p321 : 0 ≤ (x6_1 : Int) := of_decide_eq_true (by first | (with_reducible assumption) | assumption)
                                        have q321 : x6_1 < (t287.length : Int) := of_decide_eq_true (by first | (with_reducible assumption) | assumption)
                                        obtain ⟨ad321, e321, hx321_0, hx321_1, hx321_2⟩ := at_T32 (Kd.R_reads' HO_3.out).2.2 x6_1 p321 q321
                                        obtain rfl : ad294 = ad321 := (by injection e321)
                                        replace p321 := eq_true p321
                                        replace q321 := eq_true q321
                                        go_wp2
                                        go_ret
                                        exact ⟨by first | rfl | (simp [errW_none, errW_some] <;> rfl) | (simp only [← hji21]; first | rfl | (simp [errW_none, errW_some] <;> rfl)) | (simp [*, errW_none, errW_some] <;> rfl), by repeat (first | (with_reducible first | exact HB.out | apply below_alloc | apply pw_below_drewN | apply below_drew1) | exact HB.out)⟩
                                      · rw [if_neg c60] at H
                                        have c60b0 : ((bt a0 (ji21)) == 95) = false := beq_eq_false_iff_ne.mpr c60
                                        have c60b1 : ((bt a0 (ji21)) != 95) = true := bne_iff_ne.mpr c60
                                        have H' := Aside0.mk H
                                        clear H
                                        have p24 : 0 ≤ ((ji21) : Int) := of_decide_eq_true (by first | (with_reducible assumption) | assumption)
                                        have q24 : (ji21) < (a0.size : Int) := of_decide_eq_true (by first | (with_reducible assumption) | assumption)
                                        have hx24 := bt_at a0 (ji21)
                                        replace p24 := eq_true p24
                                        replace q24 := eq_true q24
                                        have p319 : 0 ≤ (x6_1 : Int) := of_decide_eq_true (by first | (with_reducible assumption) | assumption)
                                        have q319 : x6_1 < (t287.length : Int) := of_decide_eq_true (by first | (with_reducible assumption) | assumption)
                                        obtain ⟨ad319, e319, hx319_0, hx319_1, hx319_2⟩ := at_T32 (Kd.R_reads' HO_3.out).2.2 x6_1 p319 q319
                                        obtain rfl : ad294 = ad319 := (by injection e319)
                                        replace p319 := eq_true p319
                                        replace q319 := eq_true q319
                                        have p321 : 0 ≤ (x6_1 : Int) := of_decide_eq_true (by first | (with_reducible assumption) | assumption)
                                        have q321 : x6_1 < (t287.length : Int) := of_decide_eq_true (by first | (with_reducible assumption) | assumption)
                                        obtain ⟨ad321, e321, hx321_0, hx321_1, hx321_2⟩ := at_T32 (Kd.R_reads' HO_3.out).2.2 x6_1 p321 q321
                                        obtain rfl : ad294 = ad321 := (by injection e321)
                                        replace p321 := eq_true p321
                                        replace q321 := eq_true q321
                                        go_wp2
                                        go_roundg kj10
                                        case measure => have := HK1.out; have := HJ10.out; omega
                                        case rel => exact ⟨(wrap64 (x6_1 + 1)), (by first | rfl | (simp; done) | (simp [*]; done)), H', ⟨by have := HK1.out; have := HJ10.out; omega⟩, ⟨by (with_reducible repeat (first | apply Kd.R_alloc | apply Kd.R_drewN | apply Kd.R_drew)); exact HO_3.out⟩, ⟨by repeat (first | (with_reducible first | exact HB.out | apply below_alloc | apply pw_below_drewN | apply below_drew1) | exact HB.out)⟩⟩
                                  · rw [if_neg c58] at H
                                    exact absurd H (by simp)
                                · rw [if_neg c57] at H
                                  exact absurd H (by simp)
                        · rw [if_neg c25] at H
                          have c25b0 : decide (48 ≤ (bt a0 (ji21))) = false := decide_eq_false c25
                          clear c25
                          by_cases c61 : (bt a0 (ji21)) ≥ 97
                          · rw [if_pos c61] at H
                            have c61b0 : decide (97 ≤ (bt a0 (ji21))) = true := decide_eq_true c61
                            clear c61
                            by_cases c62 : (bt a0 (ji21)) ≤ 122
                            · rw [if_pos c62] at H
                              have c62b0 : decide ((bt a0 (ji21)) ≤ 122) = true := decide_eq_true c62
                              clear c62
                              by_cases c63 : 0 ≤ x6_1
                              · rw [if_pos c63] at H
                                have c63b0 : decide (0 ≤ x6_1) = true := decide_eq_true c63
                                clear c63
                                by_cases c64 : x6_1 < (t287.length : Int)
                                · rw [if_pos c64] at H
                                  have c64b0 : decide (x6_1 < (t287.length : Int)) = true := decide_eq_true c64
                                  clear c64
                                  by_cases c65 : ((rd_T32 t287 x6_1).f0) = 1
                                  · rw [if_pos c65] at H
                                    have c65b0 : (((rd_T32 t287 x6_1).f0) == 1) = true := beq_iff_eq.mpr c65
                                    have c65b1 : (((rd_T32 t287 x6_1).f0) != 1) = false := bne_eq_false_iff_eq.mpr c65
                                    clear c65
                                    have H' := Aside0.mk H
                                    clear H
                                    have p24 : 0 ≤ ((ji21) : Int) := of_decide_eq_true (by first | (with_reducible assumption) | assumption)
                                    have q24 : (ji21) < (a0.size : Int) := of_decide_eq_true (by first | (with_reducible assumption) | assumption)
                                    have hx24 := bt_at a0 (ji21)
                                    replace p24 := eq_true p24
                                    replace q24 := eq_true q24
                                    have p322 : 0 ≤ (x6_1 : Int) := of_decide_eq_true (by first | (with_reducible assumption) | assumption)
                                    have q322 : x6_1 < (t287.length : Int) := of_decide_eq_true (by first | (with_reducible assumption) | assumption)
                                    obtain ⟨ad322, e322, hx322_0, hx322_1, hx322_2⟩ := at_T32 (Kd.R_reads' HO_3.out).2.2 x6_1 p322 q322
                                    obtain rfl : ad294 = ad322 := (by injection e322)
                                    replace p322 := eq_true p322
                                    replace q322 := eq_true q322
                                    have p323 : 0 ≤ (x6_1 : Int) := of_decide_eq_true (by first | (with_reducible assumption) | assumption)
                                    have q323 : x6_1 < (t287.length : Int) := of_decide_eq_true (by first | (with_reducible assumption) | assumption)
                                    obtain ⟨ad323, e323, hx323_0, hx323_1, hx323_2⟩ := at_T32 (Kd.R_reads' HO_3.out).2.2 x6_1 p323 q323
                                    obtain rfl : ad294 = ad323 := (by injection e323)
                                    replace p323 := eq_true p323
                                    replace q323 := eq_true q323
                                    go_wp2
                                    go_roundg kj10
                                    case measure => have := HK1.out; have := HJ10.out; omega
                                    case rel => exact ⟨(wrap64 (x6_1 + 1)), (by first | rfl | (simp; done) | (simp [*]; done)), H', ⟨by have := HK1.out; have := HJ10.out; omega⟩, ⟨by (with_reducible repeat (first | apply Kd.R_alloc | apply Kd.R_drewN | apply Kd.R_drew)); exact HO_3.out⟩, ⟨by repeat (first | (with_reducible first | exact HB.out | apply below_alloc | apply pw_below_drewN | apply below_drew1) | exact HB.out)⟩⟩
                                  · rw [if_neg c65] at H
                                    have c65b0 : (((rd_T32 t287 x6_1).f0) == 1) = false := beq_eq_false_iff_ne.mpr c65
                                    have c65b1 : (((rd_T32 t287 x6_1).f0) != 1) = true := bne_iff_ne.mpr c65
                                    obtain rfl := Option.some.inj H
                                    have p24 : 0 ≤ ((ji21) : Int) := of_decide_eq_true (by first | (with_reducible assumption) | assumption)
                                    have q24 : (ji21) < (a0.size : Int) := of_decide_eq_true (by first | (with_reducible assumption) | assumption)
                                    have hx24 := bt_at a0 (ji21)
                                    replace p24 := eq_true p24
                                    replace q24 := eq_true q24
                                    have p322 : 0 ≤ (x6_1 : Int) := of_decide_eq_true (by first | (with_reducible assumption) | assumption)
                                    have q322 : x6_1 < (t287.length : Int) := of_decide_eq_true (by first | (with_reducible assumption) | assumption)
                                    obtain ⟨ad322, e322, hx322_0, hx322_1, hx322_2⟩ := at_T32 (Kd.R_reads' HO_3.out).2.2 x6_1 p322 q322
                                    obtain rfl : ad294 = ad322 := (by injection e322)
                                    replace p322 := eq_true p322
                                    replace q322 := eq_true q322
                                    have p324 : 0 ≤ (x6_1 : Int) := of_decide_eq_true (by first | (with_reducible assumption) | assumption)
                                    have q324 : x6_1 < (t287.length : Int) := of_decide_eq_true (by first | (with_reducible assumption) | assumption)
                                    obtain ⟨ad324, e324, hx324_0, hx324_1, hx324_2⟩ := at_T32 (Kd.R_reads' HO_3.out).2.2 x6_1 p324 q324
                                    obtain rfl : ad294 = ad324 := (by injection e324)
                                    replace p324 := eq_true p324
                                    replace q324 := eq_true q324
                                    go_wp2
                                    go_ret
                                    exact ⟨by first | rfl | (simp [errW_none, errW_some] <;> rfl) | (simp only [← hji21]; first | rfl | (simp [errW_none, errW_some] <;> rfl)) | (simp [*, errW_none, errW_some] <;> rfl), by repeat (first | (with_reducible first | exact HB.out | apply below_alloc | apply pw_below_drewN | apply below_drew1) | exact HB.out)⟩
                                · rw [if_neg c64] at H
                                  exact absurd H (by simp)
                              · rw [if_neg c63] at H
                                exact absurd H (by simp)
                            · rw [if_neg c62] at H
                              have c62b0 : decide ((bt a0 (ji21)) ≤ 122) = false := decide_eq_false c62
                              clear c62
                              by_cases c66 : (bt a0 (ji21)) ≥ 65
                              · rw [if_pos c66] at H
                                have c66b0 : decide (65 ≤ (bt a0 (ji21))) = true := decide_eq_true c66
                                clear c66
                                by_cases c67 : (bt a0 (ji21)) ≤ 90
                                · rw [if_pos c67] at H
                                  have c67b0 : decide ((bt a0 (ji21)) ≤ 90) = true := decide_eq_true c67
                                  clear c67
                                  by_cases c68 : 0 ≤ x6_1
                                  · rw [if_pos c68] at H
                                    have c68b0 : decide (0 ≤ x6_1) = true := decide_eq_true c68
                                    clear c68
                                    by_cases c69 : x6_1 < (t287.length : Int)
                                    · rw [if_pos c69] at H
                                      have c69b0 : decide (x6_1 < (t287.length : Int)) = true := decide_eq_true c69
                                      clear c69
                                      by_cases c70 : ((rd_T32 t287 x6_1).f0) = 1
                                      · rw [if_pos c70] at H
                                        have c70b0 : (((rd_T32 t287 x6_1).f0) == 1) = true := beq_iff_eq.mpr c70
                                        have c70b1 : (((rd_T32 t287 x6_1).f0) != 1) = false := bne_eq_false_iff_eq.mpr c70
                                        clear c70
                                        have H' := Aside0.mk H
                                        clear H
                                        have p24 : 0 ≤ ((ji21) : Int) := of_decide_eq_true (by first | (with_reducible assumption) | assumption)
                                        have q24 : (ji21) < (a0.size : Int) := of_decide_eq_true (by first | (with_reducible assumption) | assumption)
                                        have hx24 := bt_at a0 (ji21)
                                        replace p24 := eq_true p24
                                        replace q24 := eq_true q24
                                        have p325 : 0 ≤ (x6_1 : Int) := of_decide_eq_true (by first | (with_reducible assumption) | assumption)
                                        have q325 : x6_1 < (t287.length : Int) := of_decide_eq_true (by first | (with_reducible assumption) | assumption)
                                        obtain ⟨ad325, e325, hx325_0, hx325_1, hx325_2⟩ := at_T32 (Kd.R_reads' HO_3.out).2.2 x6_1 p325 q325
                                        obtain rfl : ad294 = ad325 := (by injection e325)
                                        replace p325 := eq_true p325
                                        replace q325 := eq_true q325
                                        have p326 : 0 ≤ (x6_1 : Int) := of_decide_eq_true (by first | (with_reducible assumption) | assumption)
                                        have q326 : x6_1 < (t287.length : Int) := of_decide_eq_true (by first | (with_reducible assumption) | assumption)
                                        obtain ⟨ad326, e326, hx326_0, hx326_1, hx326_2⟩ := at_T32 (Kd.R_reads' HO_3.out).2.2 x6_1 p326 q326
                                        obtain rfl : ad294 = ad326 := (by injection e326)
                                        replace p326 := eq_true p326
                                        replace q326 := eq_true q326
                                        go_wp2
                                        go_roundg kj10
                                        case measure => have := HK1.out; have := HJ10.out; omega
                                        case rel => exact ⟨(wrap64 (x6_1 + 1)), (by first | rfl | (simp; done) | (simp [*]; done)), H', ⟨by have := HK1.out; have := HJ10.out; omega⟩, ⟨by (with_reducible repeat (first | apply Kd.R_alloc | apply Kd.R_drewN | apply Kd.R_drew)); exact HO_3.out⟩, ⟨by repeat (first | (with_reducible first | exact HB.out | apply below_alloc | apply pw_below_drewN | apply below_drew1) | exact HB.out)⟩⟩
                                      · rw [if_neg c70] at H
                                        have c70b0 : (((rd_T32 t287 x6_1).f0) == 1) = false := beq_eq_false_iff_ne.mpr c70
                                        have c70b1 : (((rd_T32 t287 x6_1).f0) != 1) = true := bne_iff_ne.mpr c70
                                        obtain rfl := Option.some.inj H
                                        have p24 : 0 ≤ ((ji21) : Int) := of_decide_eq_true (by first | (with_reducible assumption) | assumption)
                                        have q24 : (ji21) < (a0.size : Int) := of_decide_eq_true (by first | (with_reducible assumption) | assumption)
                                        have hx24 := bt_at a0 (ji21)
                                        replace p24 := eq_true p24
                                        replace q24 := eq_true q24
                                        have p325 : 0 ≤ (x6_1 : Int) := of_decide_eq_true (by first | (with_reducible assumption) | assumption)
                                        have q325 : x6_1 < (t287.length : Int) := of_decide_eq_true (by first | (with_reducible assumption) | assumption)
                                        obtain ⟨ad325, e325, hx325_0, hx325_1, hx325_2⟩ := at_T32 (Kd.R_reads' HO_3.out).2.2 x6_1 p325 q325
                                        obtain rfl : ad294 = ad325 := (by injection e325)
                                        replace p325 := eq_true p325
                                        replace q325 := eq_true q325
                                        have p327 : 0 ≤ (x6_1 : Int) := of_decide_eq_true (by first | (with_reducible assumption) | assumption)
                                        have q327 : x6_1 < (t287.length : Int) := of_decide_eq_true (by first | (with_reducible assumption) | assumption)
                                        obtain ⟨ad327, e327, hx327_0, hx327_1, hx327_2⟩ := at_T32 (Kd.R_reads' HO_3.out).2.2 x6_1 p327 q327
                                        obtain rfl : ad294 = ad327 := (by injection e327)
                                        replace p327 := eq_true p327
                                        replace q327 := eq_true q327
                                        go_wp2
                                        go_ret
                                        exact ⟨by first | rfl | (simp [errW_none, errW_some] <;> rfl) | (simp only [← hji21]; first | rfl | (simp [errW_none, errW_some] <;> rfl)) | (simp [*, errW_none, errW_some] <;> rfl), by repeat (first | (with_reducible first | exact HB.out | apply below_alloc | apply pw_below_drewN | apply below_drew1) | exact HB.out)⟩
                                    · rw [if_neg c69] at H
                                      exact absurd H (by simp)
                                  · rw [if_neg c68] at H
                                    exact absurd H (by simp)
                                · rw [if_neg c67] at H
                                  have c67b0 : decide ((bt a0 (ji21)) ≤ 90) = false := decide_eq_false c67
                                  clear c67
                                  by_cases c71 : 0 ≤ x6_1
                                  · rw [if_pos c71] at H
                                    have c71b0 : decide (0 ≤ x6_1) = true := decide_eq_true c71
                                    clear c71
                                    by_cases c72 : x6_1 < (t287.length : Int)
                                    · rw [if_pos c72] at H
                                      have c72b0 : decide (x6_1 < (t287.length : Int)) = true := decide_eq_true c72
                                      clear c72
                                      by_cases c73 : ((rd_T32 t287 x6_1).f0) = 1
                                      · rw [if_pos c73] at H
                                        have c73b0 : (((rd_T32 t287 x6_1).f0) == 1) = true := beq_iff_eq.mpr c73
                                        have c73b1 : (((rd_T32 t287 x6_1).f0) != 1) = false := bne_eq_false_iff_eq.mpr c73
                                        clear c73
                                        have H' := Aside0.mk H
                                        clear H
                                        have p24 : 0 ≤ ((ji21) : Int) := of_decide_eq_true (by first | (with_reducible assumption) | assumption)
                                        have q24 : (ji21) < (a0.size : Int) := of_decide_eq_true (by first | (with_reducible assumption) | assumption)
                                        have hx24 := bt_at a0 (ji21)
                                        replace p24 := eq_true p24
                                        replace q24 := eq_true q24
                                        have p328 : 0 ≤ (x6_1 : Int) := of_decide_eq_true (by first | (with_reducible assumption) | assumption)
                                        have q328 : x6_1 < (t287.length : Int) := of_decide_eq_true (by first | (with_reducible assumption) | assumption)
                                        obtain ⟨ad328, e328, hx328_0, hx328_1, hx328_2⟩ := at_T32 (Kd.R_reads' HO_3.out).2.2 x6_1 p328 q328
                                        obtain rfl : ad294 = ad328 := (by injection e328)
                                        replace p328 := eq_true p328
                                        replace q328 := eq_true q328
                                        have p329 : 0 ≤ (x6_1 : Int) := of_decide_eq_true (by first | (with_reducible assumption) | assumption)
                                        have q329 : x6_1 < (t287.length : Int) := of_decide_eq_true (by first | (with_reducible assumption) | assumption)
                                        obtain ⟨ad329, e329, hx329_0, hx329_1, hx329_2⟩ := at_T32 (Kd.R_reads' HO_3.out).2.2 x6_1 p329 q329
                                        obtain rfl : ad294 = ad329 := (by injection e329)
                                        replace p329 := eq_true p329
                                        replace q329 := eq_true q329
                                        go_wp2
                                        go_roundg kj10
                                        case measure => have := HK1.out; have := HJ10.out; omega
                                        case rel => exact ⟨(wrap64 (x6_1 + 1)), (by first | rfl | (simp; done) | (simp [*]; done)), H', ⟨by have := HK1.out; have := HJ10.out; omega⟩, ⟨by (with_reducible repeat (first | apply Kd.R_alloc | apply Kd.R_drewN | apply Kd.R_drew)); exact HO_3.out⟩, ⟨by repeat (first | (with_reducible first | exact HB.out | apply below_alloc | apply pw_below_drewN | apply below_drew1) | exact HB.out)⟩⟩
                                      · rw [if_neg c73] at H
                                        have c73b0 : (((rd_T32 t287 x6_1).f0) == 1) = false := beq_eq_false_iff_ne.mpr c73
                                        have c73b1 : (((rd_T32 t287 x6_1).f0) != 1) = true := bne_iff_ne.mpr c73
                                        by_cases c74 : (bt a0 (ji21)) = 95
                                        · rw [if_pos c74] at H
                                          have c74b0 : ((bt a0 (ji21)) == 95) = true := beq_iff_eq.mpr c74
                                          have c74b1 : ((bt a0 (ji21)) != 95) = false := bne_eq_false_iff_eq.mpr c74
                                          clear c74
                                          obtain rfl := Option.some.inj H
                                          have p24 : 0 ≤ ((ji21) : Int) := of_decide_eq_true (by first | (with_reducible assumption) | assumption)
                                          have q24 : (ji21) < (a0.size : Int) := of_decide_eq_true (by first | (with_reducible assumption) | assumption)
                                          have hx24 := bt_at a0 (ji21)
                                          replace p24 := eq_true p24
                                          replace q24 := eq_true q24
                                          have p328 : 0 ≤ (x6_1 : Int) := of_decide_eq_true (by first | (with_reducible assumption) | assumption)
                                          have q328 : x6_1 < (t287.length : Int) := of_decide_eq_true (by first | (with_reducible assumption) | assumption)
                                          obtain ⟨ad328, e328, hx328_0, hx328_1, hx328_2⟩ := at_T32 (Kd.R_reads' HO_3.out).2.2 x6_1 p328 q328
                                          obtain rfl : ad294 = ad328 := (by injection e328)
                                          replace p328 := eq_true p328
                                          replace q328 := eq_true q328
                                          have p330 : 0 ≤ (x6_1 : Int) := of_decide_eq_true (by first | (with_reducible assumption) | assumption)
                                          have q330 : x6_1 < (t287.length : Int) := of_decide_eq_true (by first | (with_reducible assumption) | assumption)
                                          obtain ⟨ad330, e330, hx330_0, hx330_1, hx330_2⟩ := at_T32 (Kd.R_reads' HO_3.out).2.2 x6_1 p330 q330
                                          obtain rfl : ad294 = ad330 := (by injection e330)
                                          replace p330 := eq_true p330
                                          replace q330 := eq_true q330
                                          go_wp2
                                          go_ret
                                          exact ⟨by first | rfl | (simp [errW_none, errW_some] <;> rfl) | (simp only [← hji21]; first | rfl | (simp [errW_none, errW_some] <;> rfl)) | (simp [*, errW_none, errW_some] <;> rfl), by repeat (first | (with_reducible first | exact HB.out | apply below_alloc | apply pw_below_drewN | apply below_drew1) | exact HB.out)⟩
                                        · rw [if_neg c74] at H
                                          have c74b0 : ((bt a0 (ji21)) == 95) = false := beq_eq_false_iff_ne.mpr c74
                                          have c74b1 : ((bt a0 (ji21)) != 95) = true := bne_iff_ne.mpr c74
                                          have H' := Aside0.mk H
                                          clear H
                                          have p24 : 0 ≤ ((ji21) : Int) := of_decide_eq_true (by first | (with_reducible assumption) | assumption)
                                          have q24 : (ji21) < (a0.size : Int) := of_decide_eq_true (by first | (with_reducible assumption) | assumption)
                                          have hx24 := bt_at a0 (ji21)
                                          replace p24 := eq_true p24
                                          replace q24 := eq_true q24
                                          have p328 : 0 ≤ (x6_1 : Int) := of_decide_eq_true (by first | (with_reducible assumption) | assumption)
                                          have q328 : x6_1 < (t287.length : Int) := of_decide_eq_true (by first | (with_reducible assumption) | assumption)
                                          obtain ⟨ad328, e328, hx328_0, hx328_1, hx328_2⟩ := at_T32 (Kd.R_reads' HO_3.out).2.2 x6_1 p328 q328
                                          obtain rfl : ad294 = ad328 := (by injection e328)
                                          replace p328 := eq_true p328
                                          replace q328 := eq_true q328
                                          have p330 : 0 ≤ (x6_1 : Int) := of_decide_eq_true (by first | (with_reducible assumption) | assumption)
                                          have q330 : x6_1 < (t287.length : Int) := of_decide_eq_true (by first | (with_reducible assumption) | assumption)
                                          obtain ⟨ad330, e330, hx330_0, hx330_1, hx330_2⟩ := at_T32 (Kd.R_reads' HO_3.out).2.2 x6_1 p330 q330
                                          obtain rfl : ad294 = ad330 := (by injection e330)
                                          replace p330 := eq_true p330
                                          replace q330 := eq_true q330
                                          go_wp2
                                          go_roundg kj10
                                          case measure => have := HK1.out; have := HJ10.out; omega
                                          case rel => exact ⟨(wrap64 (x6_1 + 1)), (by first | rfl | (simp; done) | (simp [*]; done)), H', ⟨by have := HK1.out; have := HJ10.out; omega⟩, ⟨by (with_reducible repeat (first | apply Kd.R_alloc | apply Kd.R_drewN | apply Kd.R_drew)); exact HO_3.out⟩, ⟨by repeat (first | (with_reducible first | exact HB.out | apply below_alloc | apply pw_below_drewN | apply below_drew1) | exact HB.out)⟩⟩
                                    · rw [if_neg c72] at H
                                      exact absurd H (by simp)
                                  · rw [if_neg c71] at H
                                    exact absurd H (by simp)
                              · rw [if_neg c66] at H
                                have c66b0 : decide (65 ≤ (bt a0 (ji21))) = false := decide_eq_false c66
                                clear c66
                                by_cases c75 : 0 ≤ x6_1
                                · rw [if_pos c75] at H
                                  have c75b0 : decide (0 ≤ x6_1) = true := decide_eq_true c75
                                  clear c75
                                  by_cases c76 : x6_1 < (t287.length : Int)
                                  · rw [if_pos c76] at H
                                    have c76b0 : decide (x6_1 < (t287.length : Int)) = true := decide_eq_true c76
                                    clear c76
                                    by_cases c77 : ((rd_T32 t287 x6_1).f0) = 1
                                    · rw [if_pos c77] at H
                                      have c77b0 : (((rd_T32 t287 x6_1).f0) == 1) = true := beq_iff_eq.mpr c77
                                      have c77b1 : (((rd_T32 t287 x6_1).f0) != 1) = false := bne_eq_false_iff_eq.mpr c77
                                      clear c77
                                      have H' := Aside0.mk H
                                      clear H
                                      have p24 : 0 ≤ ((ji21) : Int) := of_decide_eq_true (by first | (with_reducible assumption) | assumption)
                                      have q24 : (ji21) < (a0.size : Int) := of_decide_eq_true (by first | (with_reducible assumption) | assumption)
                                      have hx24 := bt_at a0 (ji21)
                                      replace p24 := eq_true p24
                                      replace q24 := eq_true q24
                                      have p331 : 0 ≤ (x6_1 : Int) := of_decide_eq_true (by first | (with_reducible assumption) | assumption)
                                      have q331 : x6_1 < (t287.length : Int) := of_decide_eq_true (by first | (with_reducible assumption) | assumption)
                                      obtain ⟨ad331, e331, hx331_0, hx331_1, hx331_2⟩ := at_T32 (Kd.R_reads' HO_3.out).2.2 x6_1 p331 q331
                                      obtain rfl : ad294 = ad331 := (by injection e331)
                                      replace p331 := eq_true p331
                                      replace q331 := eq_true q331
                                      have p332 : 0 ≤ (x6_1 : Int) := of_decide_eq_true (by first | (with_reducible assumption) | assumption)
                                      have q332 : x6_1 < (t287.length : Int) := of_decide_eq_true (by first | (with_reducible assumption) | assumption)
                                      obtain ⟨ad332, e332, hx332_0, hx332_1, hx332_2⟩ := at_T32 (Kd.R_reads' HO_3.out).2.2 x6_1 p332 q332
                                      obtain rfl : ad294 = ad332 := (by injection e332)
                                      replace p332 := eq_true p332
                                      replace q332 := eq_true q332
                                      go_wp2
                                      go_roundg kj10
                                      case measure => have := HK1.out; have := HJ10.out; omega
                                      case rel => exact ⟨(wrap64 (x6_1 + 1)), (by first | rfl | (simp; done) | (simp [*]; done)), H', ⟨by have := HK1.out; have := HJ10.out; omega⟩, ⟨by (with_reducible repeat (first | apply Kd.R_alloc | apply Kd.R_drewN | apply Kd.R_drew)); exact HO_3.out⟩, ⟨by repeat (first | (with_reducible first | exact HB.out | apply below_alloc | apply pw_below_drewN | apply below_drew1) | exact HB.out)⟩⟩
                                    · rw [if_neg c77] at H
                                      have c77b0 : (((rd_T32 t287 x6_1).f0) == 1) = false := beq_eq_false_iff_ne.mpr c77
                                      have c77b1 : (((rd_T32 t287 x6_1).f0) != 1) = true := bne_iff_ne.mpr c77
                                      by_cases c78 : (bt a0 (ji21)) = 95
                                      · rw [if_pos c78] at H
                                        have c78b0 : ((bt a0 (ji21)) == 95) = true := beq_iff_eq.mpr c78
                                        have c78b1 : ((bt a0 (ji21)) != 95) = false := bne_eq_false_iff_eq.mpr c78
                                        clear c78
                                        obtain rfl := Option.some.inj H
                                        have p24 : 0 ≤ ((ji21) : Int) := of_decide_eq_true (by first | (with_reducible assumption) | assumption)
                                        have q24 : (ji21) < (a0.size : Int) := of_decide_eq_true (by first | (with_reducible assumption) | assumption)
                                        have hx24 := bt_at a0 (ji21)
                                        replace p24 := eq_true p24
                                        replace q24 := eq_true q24
                                        have p331 : 0 ≤ (x6_1 : Int) := of_decide_eq_true (by first | (with_reducible assumption) | assumption)
                                        have q331 : x6_1 < (t287.length : Int) := of_decide_eq_true (by first | (with_reducible assumption) | assumption)
                                        obtain ⟨ad331, e331, hx331_0, hx331_1, hx331_2⟩ := at_T32 (Kd.R_reads' HO_3.out).2.2 x6_1 p331 q331
                                        obtain rfl : ad294 = ad331 := (by injection e331)
                                        replace p331 := eq_true p331
                                        replace q331 := eq_true q331
                                        have p333 : 0 ≤ (x6_1 : Int) := of_decide_eq_true (by first | (with_reducible assumption) | assumption)
                                        have q333 : x6_1 < (t287.length : Int) := of_decide_eq_true (by first | (with_reducible assumption) | assumption)
                                        obtain ⟨ad333, e333, hx333_0, hx333_1, hx333_2⟩ := at_T32 (Kd.R_reads' HO_3.out).2.2 x6_1 p333 q333
                                        obtain rfl : ad294 = ad333 := (by injection e333)
                                        replace p333 := eq_true p333
                                        replace q333 := eq_true q333
                                        go_wp2
                                        go_ret
                                        exact ⟨by first | rfl | (simp [errW_none, errW_some] <;> rfl) | (simp only [← hji21]; first | rfl | (simp [errW_none, errW_some] <;> rfl)) | (simp [*, errW_none, errW_some] <;> rfl), by repeat (first | (with_reducible first | exact HB.out | apply below_alloc | apply pw_below_drewN | apply below_drew1) | exact HB.out)⟩
                                      · rw [if_neg c78] at H
                                        have c78b0 : ((bt a0 (ji21)) == 95) = false := beq_eq_false_iff_ne.mpr c78
                                        have c78b1 : ((bt a0 (ji21)) != 95) = true := bne_iff_ne.mpr c78
                                        have H' := Aside0.mk H
                                        clear H
                                        have p24 : 0 ≤ ((ji21) : Int) := of_decide_eq_true (by first | (with_reducible assumption) | assumption)
                                        have q24 : (ji21) < (a0.size : Int) := of_decide_eq_true (by first | (with_reducible assumption) | assumption)
                                        have hx24 := bt_at a0 (ji21)
                                        replace p24 := eq_true p24
                                        replace q24 := eq_true q24
                                        have p331 : 0 ≤ (x6_1 : Int) := of_decide_eq_true (by first | (with_reducible assumption) | assumption)
                                        have q331 : x6_1 < (t287.length : Int) := of_decide_eq_true (by first | (with_reducible assumption) | assumption)
                                        obtain ⟨ad331, e331, hx331_0, hx331_1, hx331_2⟩ := at_T32 (Kd.R_reads' HO_3.out).2.2 x6_1 p331 q331
                                        obtain rfl : ad294 = ad331 := (by injection e331)
                                        replace p331 := eq_true p331
                                        replace q331 := eq_true q331
                                        have p333 : 0 ≤ (x6_1 : Int) := of_decide_eq_true (by first | (with_reducible assumption) | assumption)
                                        have q333 : x6_1 < (t287.length : Int) := of_decide_eq_true (by first | (with_reducible assumption) | assumption)
                                        obtain ⟨ad333, e333, hx333_0, hx333_1, hx333_2⟩ := at_T32 (Kd.R_reads' HO_3.out).2.2 x6_1 p333 q333
                                        obtain rfl : ad294 = ad333 := (by injection e333)
                                        replace p333 := eq_true p333
                                        replace q333 := eq_true q333
                                        go_wp2
                                        go_roundg kj10
                                        case measure => have := HK1.out; have := HJ10.out; omega
                                        case rel => exact ⟨(wrap64 (x6_1 + 1)), (by first | rfl | (simp; done) | (simp [*]; done)), H', ⟨by have := HK1.out; have := HJ10.out; omega⟩, ⟨by (with_reducible repeat (first | apply Kd.R_alloc | apply Kd.R_drewN | apply Kd.R_drew)); exact HO_3.out⟩, ⟨by repeat (first | (with_reducible first | exact HB.out | apply below_alloc | apply pw_below_drewN | apply below_drew1) | exact HB.out)⟩⟩
                                  · rw [if_neg c76] at H
                                    exact absurd H (by simp)
                                · rw [if_neg c75] at H
                                  exact absurd H (by simp)
                          · rw [if_neg c61] at H
                            have c61b0 : decide (97 ≤ (bt a0 (ji21))) = false := decide_eq_false c61
                            clear c61
                            by_cases c79 : (bt a0 (ji21)) ≥ 65
                            · rw [if_pos c79] at H
                              have c79b0 : decide (65 ≤ (bt a0 (ji21))) = true := decide_eq_true c79
                              clear c79
                              by_cases c80 : (bt a0 (ji21)) ≤ 90
                              · rw [if_pos c80] at H
                                have c80b0 : decide ((bt a0 (ji21)) ≤ 90) = true := decide_eq_true c80
                                clear c80
                                by_cases c81 : 0 ≤ x6_1
                                · rw [if_pos c81] at H
                                  have c81b0 : decide (0 ≤ x6_1) = true := decide_eq_true c81
                                  clear c81
                                  by_cases c82 : x6_1 < (t287.length : Int)
                                  · rw [if_pos c82] at H
                                    have c82b0 : decide (x6_1 < (t287.length : Int)) = true := decide_eq_true c82
                                    clear c82
                                    by_cases c83 : ((rd_T32 t287 x6_1).f0) = 1
                                    · rw [if_pos c83] at H
                                      have c83b0 : (((rd_T32 t287 x6_1).f0) == 1) = true := beq_iff_eq.mpr c83
                                      have c83b1 : (((rd_T32 t287 x6_1).f0) != 1) = false := bne_eq_false_iff_eq.mpr c83
                                      clear c83
                                      have H' := Aside0.mk H
                                      clear H
                                      have p24 : 0 ≤ ((ji21) : Int) := of_decide_eq_true (by first | (with_reducible assumption) | assumption)
                                      have q24 : (ji21) < (a0.size : Int) := of_decide_eq_true (by first | (with_reducible assumption) | assumption)
                                      have hx24 := bt_at a0 (ji21)
                                      replace p24 := eq_true p24
                                      replace q24 := eq_true q24
                                      have p334 : 0 ≤ (x6_1 : Int) := of_decide_eq_true (by first | (with_reducible assumption) | assumption)
                                      have q334 : x6_1 < (t287.length : Int) := of_decide_eq_true (by first | (with_reducible assumption) | assumption)
                                      obtain ⟨ad334, e334, hx334_0, hx334_1, hx334_2⟩ := at_T32 (Kd.R_reads' HO_3.out).2.2 x6_1 p334 q334
                                      obtain rfl : ad294 = ad334 := (by injection e334)
                                      replace p334 := eq_true p334
                                      replace q334 := eq_true q334
                                      have p335 : 0 ≤ (x6_1 : Int) := of_decide_eq_true (by first | (with_reducible assumption) | assumption)
                                      have q335 : x6_1 < (t287.length : Int) := of_decide_eq_true (by first | (with_reducible assumption) | assumption)
                                      obtain ⟨ad335, e335, hx335_0, hx335_1, hx335_2⟩ := at_T32 (Kd.R_reads' HO_3.out).2.2 x6_1 p335 q335
                                      obtain rfl : ad294 = ad335 := (by injection e335)
                                      replace p335 := eq_true p335
                                      replace q335 := eq_true q335
                                      go_wp2
                                      go_roundg kj10
                                      case measure => have := HK1.out; have := HJ10.out; omega
                                      case rel => exact ⟨(wrap64 (x6_1 + 1)), (by first | rfl | (simp; done) | (simp [*]; done)), H', ⟨by have := HK1.out; have := HJ10.out; omega⟩, ⟨by (with_reducible repeat (first | apply Kd.R_alloc | apply Kd.R_drewN | apply Kd.R_drew)); exact HO_3.out⟩, ⟨by repeat (first | (with_reducible first | exact HB.out | apply below_alloc | apply pw_below_drewN | apply below_drew1) | exact HB.out)⟩⟩
                                    · rw [if_neg c83] at H
                                      have c83b0 : (((rd_T32 t287 x6_1).f0) == 1) = false := beq_eq_false_iff_ne.mpr c83
                                      have c83b1 : (((rd_T32 t287 x6_1).f0) != 1) = true := bne_iff_ne.mpr c83
                                      obtain rfl := Option.some.inj H
                                      have p24 : 0 ≤ ((ji21) : Int) := of_decide_eq_true (by first | (with_reducible assumption) | assumption)
                                      have q24 : (ji21) < (a0.size : Int) := of_decide_eq_true (by first | (with_reducible assumption) | assumption)
                                      have hx24 := bt_at a0 (ji21)
                                      replace p24 := eq_true p24
                                      replace q24 := eq_true q24
                                      have p334 : 0 ≤ (x6_1 : Int) := of_decide_eq_true (by first | (with_reducible assumption) | assumption)
                                      have q334 : x6_1 < (t287.length : Int) := of_decide_eq_true (by first | (with_reducible assumption) | assumption)
                                      obtain ⟨ad334, e334, hx334_0, hx334_1, hx334_2⟩ := at_T32 (Kd.R_reads' HO_3.out).2.2 x6_1 p334 q334
                                      obtain rfl : ad294 = ad334 := (by injection e334)
                                      replace p334 := eq_true p334
                                      replace q334 := eq_true q334
                                      have p336 : 0 ≤ (x6_1 : Int) := of_decide_eq_true (by first | (with_reducible assumption) | assumption)
                                      have q336 : x6_1 < (t287.length : Int) := of_decide_eq_true (by first | (with_reducible assumption) | assumption)
                                      obtain ⟨ad336, e336, hx336_0, hx336_1, hx336_2⟩ := at_T32 (Kd.R_reads' HO_3.out).2.2 x6_1 p336 q336
                                      obtain rfl : ad294 = ad336 := (by injection e336)
                                      replace p336 := eq_true p336
                                      replace q336 := eq_true q336
                                      go_wp2
                                      go_ret
                                      exact ⟨by first | rfl | (simp [errW_none, errW_some] <;> rfl) | (simp only [← hji21]; first | rfl | (simp [errW_none, errW_some] <;> rfl)) | (simp [*, errW_none, errW_some] <;> rfl), by repeat (first | (with_reducible first | exact HB.out | apply below_alloc | apply pw_below_drewN | apply below_drew1) | exact HB.out)⟩
                                  · rw [if_neg c82] at H
                                    exact absurd H (by simp)
                                · rw [if_neg c81] at H
                                  exact absurd H (by simp)
                              · rw [if_neg c80] at H
                                have c80b0 : decide ((bt a0 (ji21)) ≤ 90) = false := decide_eq_false c80
                                clear c80
                                by_cases c84 : 0 ≤ x6_1
                                · rw [if_pos c84] at H
                                  have c84b0 : decide (0 ≤ x6_1) = true := decide_eq_true c84
                                  clear c84
                                  by_cases c85 : x6_1 < (t287.length : Int)
                                  · rw [if_pos c85] at H
                                    have c85b0 : decide (x6_1 < (t287.length : Int)) = true := decide_eq_true c85
                                    clear c85
                                    by_cases c86 : ((rd_T32 t287 x6_1).f0) = 1
                                    · rw [if_pos c86] at H
                                      have c86b0 : (((rd_T32 t287 x6_1).f0) == 1) = true := beq_iff_eq.mpr c86
                                      have c86b1 : (((rd_T32 t287 x6_1).f0) != 1) = false := bne_eq_false_iff_eq.mpr c86
                                      clear c86
                                      have H' := Aside0.mk H
                                      clear H
                                      have p24 : 0 ≤ ((ji21) : Int) := of_decide_eq_true (by first | (with_reducible assumption) | assumption)
                                      have q24 : (ji21) < (a0.size : Int) := of_decide_eq_true (by first | (with_reducible assumption) | assumption)
                                      have hx24 := bt_at a0 (ji21)
                                      replace p24 := eq_true p24
                                      replace q24 := eq_true q24
                                      have p337 : 0 ≤ (x6_1 : Int) := of_decide_eq_true (by first | (with_reducible assumption) | assumption)
                                      have q337 : x6_1 < (t287.length : Int) := of_decide_eq_true (by first | (with_reducible assumption) | assumption)
                                      obtain ⟨ad337, e337, hx337_0, hx337_1, hx337_2⟩ := at_T32 (Kd.R_reads' HO_3.out).2.2 x6_1 p337 q337
                                      obtain rfl : ad294 = ad337 := (by injection e337)
                                      replace p337 := eq_true p337
                                      replace q337 := eq_true q337
                                      have p338 : 0 ≤ (x6_1 : Int) := of_decide_eq_true (by first | (with_reducible assumption) | assumption)
                                      have q338 : x6_1 < (t287.length : Int) := of_decide_eq_true (by first | (with_reducible assumption) | assumption)
                                      obtain ⟨ad338, e338, hx338_0, hx338_1, hx338_2⟩ := at_T32 (Kd.R_reads' HO_3.out).2.2 x6_1 p338 q338
                                      obtain rfl : ad294 = ad338 := (by injection e338)
                                      replace p338 := eq_true p338
                                      replace q338 := eq_true q338
                                      go_wp2
                                      go_roundg kj10
                                      case measure => have := HK1.out; have := HJ10.out; omega
                                      case rel => exact ⟨(wrap64 (x6_1 + 1)), (by first | rfl | (simp; done) | (simp [*]; done)), H', ⟨by have := HK1.out; have := HJ10.out; omega⟩, ⟨by (with_reducible repeat (first | apply Kd.R_alloc | apply Kd.R_drewN | apply Kd.R_drew)); exact HO_3.out⟩, ⟨by repeat (first | (with_reducible first | exact HB.out | apply below_alloc | apply pw_below_drewN | apply below_drew1) | exact HB.out)⟩⟩
                                    · rw [if_neg c86] at H
                                      have c86b0 : (((rd_T32 t287 x6_1).f0) == 1) = false := beq_eq_false_iff_ne.mpr c86
                                      have c86b1 : (((rd_T32 t287 x6_1).f0) != 1) = true := bne_iff_ne.mpr c86
                                      by_cases c87 : (bt a0 (ji21)) = 95
                                      · rw [if_pos c87] at H
                                        have c87b0 : ((bt a0 (ji21)) == 95) = true := beq_iff_eq.mpr c87
                                        have c87b1 : ((bt a0 (ji21)) != 95) = false := bne_eq_false_iff_eq.mpr c87
                                        clear c87
                                        obtain rfl := Option.some.inj H
                                        have p24 : 0 ≤ ((ji21) : Int) := of_decide_eq_true (by first | (with_reducible assumption) | assumption)
                                        have q24 : (ji21) < (a0.size : Int) := of_decide_eq_true (by first | (with_reducible assumption) | assumption)
                                        have hx24 := bt_at a0 (ji21)
                                        replace p24 := eq_true p24
                                        replace q24 := eq_true q24
                                        have p337 : 0 ≤ (x6_1 : Int) := of_decide_eq_true (by first | (with_reducible assumption) | assumption)
                                        have q337 : x6_1 < (t287.length : Int) := of_decide_eq_true (by first | (with_reducible assumption) | assumption)
                                        obtain ⟨ad337, e337, hx337_0, hx337_1, hx337_2⟩ := at_T32 (Kd.R_reads' HO_3.out).2.2 x6_1 p337 q337
                                        obtain rfl : ad294 = ad337 := (by injection e337)
                                        replace p337 := eq_true p337
                                        replace q337 := eq_true q337
                                        have p339 : 0 ≤ (x6_1 : Int) := of_decide_eq_true (by first | (with_reducible assumption) | assumption)
                                        have q339 : x6_1 < (t287.length : Int) := of_decide_eq_true (by first | (with_reducible assumption) | assumption)
                                        obtain ⟨ad339, e339, hx339_0, hx339_1, hx339_2⟩ := at_T32 (Kd.R_reads' HO_3.out).2.2 x6_1 p339 q339
                                        obtain rfl : ad294 = ad339 := (by injection e339)
                                        replace p339 := eq_true p339
                                        replace q339 := eq_true q339
                                        go_wp2
                                        go_ret
                                        exact ⟨by first | rfl | (simp [errW_none, errW_some] <;> rfl) | (simp only [← hji21]; first | rfl | (simp [errW_none, errW_some] <;> rfl)) | (simp [*, errW_none, errW_some] <;> rfl), by repeat (first | (with_reducible first | exact HB.out | apply below_alloc | apply pw_below_drewN | apply below_drew1) | exact HB.out)⟩
                                      · rw [if_neg c87] at H
                                        have c87b0 : ((bt a0 (ji21)) == 95) = false := beq_eq_false_iff_ne.mpr c87
                                        have c87b1 : ((bt a0 (ji21)) != 95) = true := bne_iff_ne.mpr c87
                                        have H' := Aside0.mk H
                                        clear H
                                        have p24 : 0 ≤ ((ji21) : Int) := of_decide_eq_true (by first | (with_reducible assumption) | assumption)
                                        have q24 : (ji21) < (a0.size : Int) := of_decide_eq_true (by first | (with_reducible assumption) | assumption)
                                        have hx24 := bt_at a0 (ji21)
                                        replace p24 := eq_true p24
                                        replace q24 := eq_true q24
                                        have p337 : 0 ≤ (x6_1 : Int) := of_decide_eq_true (by first | (with_reducible assumption) | assumption)
                                        have q337 : x6_1 < (t287.length : Int) := of_decide_eq_true (by first | (with_reducible assumption) | assumption)
                                        obtain ⟨ad337, e337, hx337_0, hx337_1, hx337_2⟩ := at_T32 (Kd.R_reads' HO_3.out).2.2 x6_1 p337 q337
                                        obtain rfl : ad294 = ad337 := (by injection e337)
                                        replace p337 := eq_true p337
                                        replace q337 := eq_true q337
                                        have p339 : 0 ≤ (x6_1 : Int) := of_decide_eq_true (by first | (with_reducible assumption) | assumption)
                                        have q339 : x6_1 < (t287.length : Int) := of_decide_eq_true (by first | (with_reducible assumption) | assumption)
                                        obtain ⟨ad339, e339, hx339_0, hx339_1, hx339_2⟩ := at_T32 (Kd.R_reads' HO_3.out).2.2 x6_1 p339 q339
                                        obtain rfl : ad294 = ad339 := (by injection e339)
                                        replace p339 := eq_true p339
                                        replace q339 := eq_true q339
                                        go_wp2
                                        go_roundg kj10
                                        case measure => have := HK1.out; have := HJ10.out; omega
                                        case rel => exact ⟨(wrap64 (x6_1 + 1)), (by first | rfl | (simp; done) | (simp [*]; done)), H', ⟨by have := HK1.out; have := HJ10.out; omega⟩, ⟨by (with_reducible repeat (first | apply Kd.R_alloc | apply Kd.R_drewN | apply Kd.R_drew)); exact HO_3.out⟩, ⟨by repeat (first | (with_reducible first | exact HB.out | apply below_alloc | apply pw_below_drewN | apply below_drew1) | exact HB.out)⟩⟩
                                  · rw [if_neg c85] at H
                                    exact absurd H (by simp)
                                · rw [if_neg c84] at H
                                  exact absurd H (by simp)
                            · rw [if_neg c79] at H
                              have c79b0 : decide (65 ≤ (bt a0 (ji21))) = false := decide_eq_false c79
                              clear c79
                              by_cases c88 : 0 ≤ x6_1
                              · rw [if_pos c88] at H
                                have c88b0 : decide (0 ≤ x6_1) = true := decide_eq_true c88
                                clear c88
                                by_cases c89 : x6_1 < (t287.length : Int)
                                · rw [if_pos c89] at H
                                  have c89b0 : decide (x6_1 < (t287.length : Int)) = true := decide_eq_true c89
                                  clear c89
                                  by_cases c90 : ((rd_T32 t287 x6_1).f0) = 1
                                  · rw [if_pos c90] at H
                                    have c90b0 : (((rd_T32 t287 x6_1).f0) == 1) = true := beq_iff_eq.mpr c90
                                    have c90b1 : (((rd_T32 t287 x6_1).f0) != 1) = false := bne_eq_false_iff_eq.mpr c90
                                    clear c90
                                    have H' := Aside0.mk H
                                    clear H
                                    have p24 : 0 ≤ ((ji21) : Int) := of_decide_eq_true (by first | (with_reducible assumption) | assumption)
                                    have q24 : (ji21) < (a0.size : Int) := of_decide_eq_true (by first | (with_reducible assumption) | assumption)
                                    have hx24 := bt_at a0 (ji21)
                                    replace p24 := eq_true p24
                                    replace q24 := eq_true q24
                                    have p340 : 0 ≤ (x6_1 : Int) := of_decide_eq_true (by first | (with_reducible assumption) | assumption)
                                    have q340 : x6_1 < (t287.length : Int) := of_decide_eq_true (by first | (with_reducible assumption) | assumption)
                                    obtain ⟨ad340, e340, hx340_0, hx340_1, hx340_2⟩ := at_T32 (Kd.R_reads' HO_3.out).2.2 x6_1 p340 q340
                                    obtain rfl : ad294 = ad340 := (by injection e340)
                                    replace p340 := eq_true p340
                                    replace q340 := eq_true q340
                                    have p341 : 0 ≤ (x6_1 : Int) := of_decide_eq_true (by first | (with_reducible assumption) | assumption)
                                    have q341 : x6_1 < (t287.length : Int) := of_decide_eq_true (by first | (with_reducible assumption) | assumption)
                                    obtain ⟨ad341, e341, hx341_0, hx341_1, hx341_2⟩ := at_T32 (Kd.R_reads' HO_3.out).2.2 x6_1 p341 q341
                                    obtain rfl : ad294 = ad341 := (by injection e341)
                                    replace p341 := eq_true p341
                                    replace q341 := eq_true q341
                                    go_wp2
                                    go_roundg kj10
                                    case measure => have := HK1.out; have := HJ10.out; omega
                                    case rel => exact ⟨(wrap64 (x6_1 + 1)), (by first | rfl | (simp; done) | (simp [*]; done)), H', ⟨by have := HK1.out; have := HJ10.out; omega⟩, ⟨by (with_reducible repeat (first | apply Kd.R_alloc | apply Kd.R_drewN | apply Kd.R_drew)); exact HO_3.out⟩, ⟨by repeat (first | (with_reducible first | exact HB.out | apply below_alloc | apply pw_below_drewN | apply below_drew1) | exact HB.out)⟩⟩
                                  · rw [if_neg c90] at H
                                    have c90b0 : (((rd_T32 t287 x6_1).f0) == 1) = false := beq_eq_false_iff_ne.mpr c90
                                    have c90b1 : (((rd_T32 t287 x6_1).f0) != 1) = true := bne_iff_ne.mpr c90
                                    by_cases c91 : (bt a0 (ji21)) = 95
                                    · rw [if_pos c91] at H
                                      have c91b0 : ((bt a0 (ji21)) == 95) = true := beq_iff_eq.mpr c91
                                      have c91b1 : ((bt a0 (ji21)) != 95) = false := bne_eq_false_iff_eq.mpr c91
                                      clear c91
                                      obtain rfl := Option.some.inj H
                                      have p24 : 0 ≤ ((ji21) : Int) := of_decide_eq_true (by first | (with_reducible assumption) | assumption)
                                      have q24 : (ji21) < (a0.size : Int) := of_decide_eq_true (by first | (with_reducible assumption) | assumption)
                                      have hx24 := bt_at a0 (ji21)
                                      replace p24 := eq_true p24
                                      replace q24 := eq_true q24
                                      have p340 : 0 ≤ (x6_1 : Int) := of_decide_eq_true (by first | (with_reducible assumption) | assumption)
                                      have q340 : x6_1 < (t287.length : Int) := of_decide_eq_true (by first | (with_reducible assumption) | assumption)
                                      obtain ⟨ad340, e340, hx340_0, hx340_1, hx340_2⟩ := at_T32 (Kd.R_reads' HO_3.out).2.2 x6_1 p340 q340
                                      obtain rfl : ad294 = ad340 := (by injection e340)
                                      replace p340 := eq_true p340
                                      replace q340 := eq_true q340
                                      have p342 : 0 ≤ (x6_1 : Int) := of_decide_eq_true (by first | (with_reducible assumption) | assumption)
                                      have q342 : x6_1 < (t287.length : Int) := of_decide_eq_true (by first | (with_reducible assumption) | assumption)
                                      obtain ⟨ad342, e342, hx342_0, hx342_1, hx342_2⟩ := at_T32 (Kd.R_reads' HO_3.out).2.2 x6_1 p342 q342
                                      obtain rfl : ad294 = ad342 := (by injection e342)
                                      replace p342 := eq_true p342
                                      replace q342 := eq_true q342
                                      go_wp2
                                      go_ret
                                      exact ⟨by first | rfl | (simp [errW_none, errW_some] <;> rfl) | (simp only [← hji21]; first | rfl | (simp [errW_none, errW_some] <;> rfl)) | (simp [*, errW_none, errW_some] <;> rfl), by repeat (first | (with_reducible first | exact HB.out | apply below_alloc | apply pw_below_drewN | apply below_drew1) | exact HB.out)⟩
                                    · rw [if_neg c91] at H
                                      have c91b0 : ((bt a0 (ji21)) == 95) = false := beq_eq_false_iff_ne.mpr c91
                                      have c91b1 : ((bt a0 (ji21)) != 95) = true := bne_iff_ne.mpr c91
                                      have H' := Aside0.mk H
                                      clear H
                                      have p24 : 0 ≤ ((ji21) : Int) := of_decide_eq_true (by first | (with_reducible assumption) | assumption)
                                      have q24 : (ji21) < (a0.size : Int) := of_decide_eq_true (by first | (with_reducible assumption) | assumption)
                                      have hx24 := bt_at a0 (ji21)
                                      replace p24 := eq_true p24
                                      replace q24 := eq_true q24
                                      have p340 : 0 ≤ (x6_1 : Int) := of_decide_eq_true (by first | (with_reducible assumption) | assumption)
                                      have q340 : x6_1 < (t287.length : Int) := of_decide_eq_true (by first | (with_reducible assumption) | assumption)
                                      obtain ⟨ad340, e340, hx340_0, hx340_1, hx340_2⟩ := at_T32 (Kd.R_reads' HO_3.out).2.2 x6_1 p340 q340
                                      obtain rfl : ad294 = ad340 := (by injection e340)
                                      replace p340 := eq_true p340
                                      replace q340 := eq_true q340
                                      have p342 : 0 ≤ (x6_1 : Int) := of_decide_eq_true (by first | (with_reducible assumption) | assumption)
                                      have q342 : x6_1 < (t287.length : Int) := of_decide_eq_true (by first | (with_reducible assumption) | assumption)
                                      obtain ⟨ad342, e342, hx342_0, hx342_1, hx342_2⟩ := at_T32 (Kd.R_reads' HO_3.out).2.2 x6_1 p342 q342
                                      obtain rfl : ad294 = ad342 := (by injection e342)
                                      replace p342 := eq_true p342
                                      replace q342 := eq_true q342
                                      go_wp2
                                      go_roundg kj10
                                      case measure => have := HK1.out; have := HJ10.out; omega
                                      case rel => exact ⟨(wrap64 (x6_1 + 1)), (by first | rfl | (simp; done) | (simp [*]; done)), H', ⟨by have := HK1.out; have := HJ10.out; omega⟩, ⟨by (with_reducible repeat (first | apply Kd.R_alloc | apply Kd.R_drewN | apply Kd.R_drew)); exact HO_3.out⟩, ⟨by repeat (first | (with_reducible first | exact HB.out | apply below_alloc | apply pw_below_drewN | apply below_drew1) | exact HB.out)⟩⟩
                                · rw [if_neg c89] at H
                                  exact absurd H (by simp)
                              · rw [if_neg c88] at H
                                exact absurd H (by simp)
                      · rw [if_neg c23] at H
                        exact absurd H (by simp)
                    · rw [if_neg c22] at H
                      exact absurd H (by simp)
            · rw [if_neg c9] at H
              exact absurd H (by simp)
          · rw [if_neg c8] at H
            have c8b0 : decide (x6_1 < (t287.length : Int)) = false := decide_eq_false c8
            clear c8
            replace H := Option.bind_eq_some_iff.mp H
            obtain ⟨t293, A920, H⟩ := H
            replace H : (some t293) = some r := H
            have A92 := Aside0.mk A920
            clear A920
            obtain rfl := Option.some.inj H
            obtain ⟨Ao93, co93, eo93⟩ := Kd.R_slice HO_3.out
            subst eo93
            go_wp2_with (first | ((with_reducible refine gate_callee (f := 14) rfl ?_); refine goesL_ (some 114) rfl rfl Tryd.func14 (by kernel_rfl) rfl #[] rfl (by (try simp only [List.map_toArray, List.map_cons, List.map_nil]); first | done | rfl | (simp only [List.length_drop, List.length_take]; rfl)) ?_; (with_reducible refine (leatworklaw03_alive.calls k1  t293 _ (Glob.mono HG.out (by repeat (first | (with_reducible first | exact HB.out | apply below_alloc | apply pw_below_drewN | apply below_drew1) | exact HB.out))) A92.out).mono ?_); rintro e w94 ⟨rfl, hb⟩; refine ⟨_, rfl, ?_⟩; have n0_ := Aside0.mk (Kd.R_below (by (with_reducible repeat (first | apply Kd.R_alloc | apply Kd.R_drewN | apply Kd.R_drew)); exact HO_3.out) hb); have n1_ := Aside0.mk (below_step (by repeat (first | (with_reducible first | exact HB.out | apply below_alloc | apply pw_below_drewN | apply below_drew1) | exact HB.out)) hb); clear HO_3; clear HB; have HO_3 := n0_; have HB := n1_; clear n0_ n1_; (try clear hb); (try clear hb2); (try clear hk); (try clear hi)))
            go_ret
            exact ⟨by first | rfl | (simp [errW_none, errW_some] <;> rfl) | (simp [*, errW_none, errW_some] <;> rfl), by repeat (first | (with_reducible first | exact HB.out | apply below_alloc | apply pw_below_drewN | apply below_drew1) | exact HB.out)⟩
    · rw [if_neg c6] at H
      have c6b0 : (t289 == 0) = false := beq_eq_false_iff_ne.mpr c6
      have c6b1 : (t289 != 0) = true := bne_iff_ne.mpr c6
      replace H := Option.bind_eq_some_iff.mp H
      obtain ⟨t292, A950, H⟩ := H
      replace H : (some t292) = some r := H
      have A95 := Aside0.mk A950
      clear A950
      obtain rfl := Option.some.inj H
      go_enter Tryd.func7, Tryd.ntmps7
      go_wp2_with (first | ((with_reducible refine gate_callee (f := 15) rfl ?_); refine goesL_ (some 17) rfl rfl Tryd.func15 (by kernel_rfl) rfl #[.string a0] rfl (by (try simp only [List.map_toArray, List.map_cons, List.map_nil]); first | done | rfl | (simp only [List.length_drop, List.length_take]; rfl)) ?_; (with_reducible refine (lex_Scan.calls k a0 t287 t288 t289 _ (Glob.mono HG.out (by repeat (first | (with_reducible first | exact HB.out | apply below_alloc | apply pw_below_drewN | apply below_drew1) | exact HB.out))) A5.out).mono ?_); rintro e w96 ⟨v290, rfl, ho0, hb⟩; refine ⟨_, rfl, ?_⟩; have n0_ := Aside0.mk (Kd.R_lower ho0 (below_size (by repeat (first | (with_reducible first | exact HB.out | apply below_alloc | apply pw_below_drewN | apply below_drew1) | exact HB.out)))); have n1_ := Aside0.mk (below_step (by repeat (first | (with_reducible first | exact HB.out | apply below_alloc | apply pw_below_drewN | apply below_drew1) | exact HB.out)) hb); clear HB; have HO291 := n0_; have HB := n1_; clear n0_ n1_; (try clear hb); (try clear hb2); (try clear hk); (try clear hi); (try clear ho0)) | ((with_reducible refine gate_callee (f := 14) rfl ?_); refine goesL_ (some 23) rfl rfl Tryd.func14 (by kernel_rfl) rfl #[] rfl (by (try simp only [List.map_toArray, List.map_cons, List.map_nil]); first | done | rfl | (simp only [List.length_drop, List.length_take]; rfl)) ?_; (with_reducible refine (leatworklaw03_alive.calls k  t292 _ (Glob.mono HG.out (by repeat (first | (with_reducible first | exact HB.out | apply below_alloc | apply pw_below_drewN | apply below_drew1) | exact HB.out))) A95.out).mono ?_); rintro e w97 ⟨rfl, hb⟩; refine ⟨_, rfl, ?_⟩; have n0_ := Aside0.mk (Kd.R_below (by (with_reducible repeat (first | apply Kd.R_alloc | apply Kd.R_drewN | apply Kd.R_drew)); exact HO291.out) hb); have n1_ := Aside0.mk (below_step (by repeat (first | (with_reducible first | exact HB.out | apply below_alloc | apply pw_below_drewN | apply below_drew1) | exact HB.out)) hb); clear HO291; clear HB; have HO291 := n0_; have HB := n1_; clear n0_ n1_; (try clear hb); (try clear hb2); (try clear hk); (try clear hi)))
      go_ret
      exact ⟨by first | rfl | (simp [errW_none, errW_some] <;> rfl) | (simp [*, errW_none, errW_some] <;> rfl), by repeat (first | (with_reducible first | exact HB.out | apply below_alloc | apply pw_below_drewN | apply below_drew1) | exact HB.out)⟩

/-- THE ONE PURE STATEMENT of leatworklaw03_LexLongest: yours. -/
def leatworklaw03_LexLongest.Pure : Prop := ∀ (a0 : ByteArray), a0.size ≤ 140737488351232 → ∃ k, leatworklaw03_LexLongest.f k a0 = some true
theorem leatworklaw03_LexLongest.walk (P : leatworklaw03_LexLongest.Pure) (a0 : ByteArray) (w : World) (w0 : a0.size ≤ 140737488351232) (hG : Glob w) :
    Calls Tryd.prog 7 #[.string a0] w fun e w' => e = .returned (.bool true) ∧ Below w.heap.size w w' := by
  obtain ⟨k, h⟩ := P a0 w0
  refine (leatworklaw03_LexLongest.calls k a0 true w hG h).mono ?_
  rintro e w' ⟨rfl, hd⟩
  exact ⟨rfl, hd⟩

end Go.Proofs.YtakcnogmljbaiaaDoor.PLex
