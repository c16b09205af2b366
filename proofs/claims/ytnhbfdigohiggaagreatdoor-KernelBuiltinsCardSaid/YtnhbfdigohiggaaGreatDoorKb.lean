/-
  KernelBuiltins, in the abstract machine: it returns true.
-/
import Derived.Test.YtnhbfdigohiggaaGreatDoorAl
import Derived.Test.YtnhbfdigohiggaaGreatDoorRefC
namespace Go.Proofs.YtnhbfdigohiggaaGreatDoor.Ref
open Go
set_option linter.unusedVariables false
set_option maxRecDepth 100000
theorem run_21 : acall2 X F Hs (drawer X) Tf 1000 60 21 [] [] = some (.ret rBui, []) := by kernel_rfl
noncomputable def Tk : Tab := tany 16 [] (.v (.bool true)) (tany 21 [] rBui Tf)
theorem Tk_ok : Tk.Ok X := tany_ok hG0 (tany_ok hG0 Tf_ok rfl (acall2_ok hX hF (drawer_ok hX) Tf_ok 60 _ _ _ _ _ run_21)) rfl ct_alive
noncomputable def C5 : Tab := acall2 X F Hs (drawer X) Tk 1000 60
theorem C5_ok : C5.Ok X := acall2_ok hX hF (drawer_ok hX) Tk_ok 60
noncomputable def c5 : Code := Tryz.f5.body.getD .skip
noncomputable def s5 (n : Int) : ASt := ⟨29, enterS 0 [.v (.int .u8 n)], [], 0⟩
noncomputable def n5 (c : Code) (S : ASt) : ASt := nx X C5 (drawer X) (Hs 5) 1000 c S
/-- The state in front of the index, the index being z. -/
noncomputable def q5 (n z : Int) : ASt :=
  let S := nl X C5 ((Hs 5).op 4) (cOps (cHd (cTl (cTl (cTl c5))))) 0 ((cOps (cHd (cTl (cTl (cTl c5))))).toList.take 5) (n5 (cHd (cTl (cTl c5))) (n5 (cHd (cTl c5)) (n5 (cHd c5) (s5 n))))
  { S with slots := (16, .d (.v (.int .i64 z))) :: S.slots }
theorem rest5 (n : Int) (z : Nat) (hz : z < 10) : AL X (cOps (cHd (cTl (cTl (cTl c5))))) (((cOps (cHd (cTl (cTl (cTl c5))))).toList.drop 5).drop 1) (Ks X (cTl (cTl (cTl (cTl c5)))) (KF X [.tmp 2] 0 (fun r bs => r = .ret (.v (.bool true)) ∧ bs = []))) (q5 n z) := by
  have h : ∀ z : Nat, z = 0 ∨ z = 1 ∨ z = 2 ∨ z = 3 ∨ z = 4 ∨ z = 5 ∨ z = 6 ∨ z = 7 ∨ z = 8 ∨ z = 9 ∨ 10 ≤ z := by omega
  have go : ∀ y : Int, runL X C5 ((Hs 5).op 4) (cOps (cHd (cTl (cTl (cTl c5))))) 6 (((cOps (cHd (cTl (cTl (cTl c5))))).toList.drop 5).drop 1) (q5 n y) = some (.normal, nl X C5 ((Hs 5).op 4) (cOps (cHd (cTl (cTl (cTl c5))))) 6 (((cOps (cHd (cTl (cTl (cTl c5))))).toList.drop 5).drop 1) (q5 n y)) →
      bd (arun X C5 (drawer X) (Hs 5) 1000 (cTl (cTl (cTl (cTl c5)))) (nl X C5 ((Hs 5).op 4) (cOps (cHd (cTl (cTl (cTl c5))))) 6 (((cOps (cHd (cTl (cTl (cTl c5))))).toList.drop 5).drop 1) (q5 n y))) (fun q => finF X [.tmp 2] 0 q) = some (.ret (.v (.bool true)), []) →
      AL X (cOps (cHd (cTl (cTl (cTl c5))))) (((cOps (cHd (cTl (cTl (cTl c5))))).toList.drop 5).drop 1) (Ks X (cTl (cTl (cTl (cTl c5)))) (KF X [.tmp 2] 0 (fun r bs => r = .ret (.v (.bool true)) ∧ bs = []))) (q5 n y) := fun y h1 h2 =>
    al_rest hX C5_ok (H := (Hs 5).op 4) (e := .normal) 6 h1 (awp_end hX C5_ok (drawer_ok hX) (H := Hs 5) (N := 1000) h2 ⟨rfl, rfl⟩)
  rcases h z with rfl | rfl | rfl | rfl | rfl | rfl | rfl | rfl | rfl | rfl | h
  · exact go 0 (by kernel_rfl) (by kernel_rfl)
  · exact go 1 (by kernel_rfl) (by kernel_rfl)
  · exact go 2 (by kernel_rfl) (by kernel_rfl)
  · exact go 3 (by kernel_rfl) (by kernel_rfl)
  · exact go 4 (by kernel_rfl) (by kernel_rfl)
  · exact go 5 (by kernel_rfl) (by kernel_rfl)
  · exact go 6 (by kernel_rfl) (by kernel_rfl)
  · exact go 7 (by kernel_rfl) (by kernel_rfl)
  · exact go 8 (by kernel_rfl) (by kernel_rfl)
  · exact go 9 (by kernel_rfl) (by kernel_rfl)
  · exact absurd hz (by omega)
theorem ct_5 (n : Int) (h0 : 0 ≤ n) (h1 : n < 256) : CT X 5 [.v (.int .u8 n)] [] (fun r bs => r = .ret (.v (.bool true)) ∧ bs = []) := by
  refine ct_code hX hF (fn := Tryz.f5) (c := c5) (by kernel_rfl) (by kernel_rfl) ?_
  show AWP X c5 (KF X [.tmp 2] 0 _) (s5 n)
  refine awp_st hX C5_ok (drawer_ok hX) (H := Hs 5) (N := 1000) (by kernel_rfl) (by kernel_rfl) ?_
  refine awp_st hX C5_ok (drawer_ok hX) (H := Hs 5) (N := 1000) (by kernel_rfl) (by kernel_rfl) ?_
  refine awp_st hX C5_ok (drawer_ok hX) (H := Hs 5) (N := 1000) (by kernel_rfl) (by kernel_rfl) ?_
  refine awp_sq (by kernel_rfl) ?_
  refine awp_cut hX C5_ok (H := (Hs 5).op 4) 5 (by kernel_rfl) (by kernel_rfl) ?_
  refine al_cut hX C5_ok (H := (Hs 5).op 4) (S' := q5 n ((IntKind.i64.wrap n).tmod 10)) 5 1 (by kernel_rfl) ?_
  have e : (IntKind.i64.wrap n).tmod 10 = ((n.toNat % 10 : Nat) : Int) := by
    have ew : IntKind.i64.wrap n = n := by
      simp only [IntKind.wrap, IntKind.bits, IntKind.signed]
      simp
      omega
    rw [ew, Int.tmod_eq_emod_of_nonneg h0]; omega
  rw [e]
  exact rest5 n _ (by omega)
end Go.Proofs.YtnhbfdigohiggaaGreatDoor.Ref
