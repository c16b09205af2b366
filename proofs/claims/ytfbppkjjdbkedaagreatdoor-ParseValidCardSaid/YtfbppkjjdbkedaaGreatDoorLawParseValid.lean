/-
  The statement ParseValid: for every input the law returns true, and its arguments read behind the call as before; the listed package-level variables hold what the program's text lays (tied). The row and the tied card; written by a program of ours (mklaw.py).
-/
import Derived.Test.YtfbppkjjdbkedaaGreatDoorRows
import Derived.Test.YtfbppkjjdbkedaaGreatDoorVv
import Derived.Test.YtfbppkjjdbkedaaGreatDoorEo
import Derived.Test.YtfbppkjjdbkedaaGreatDoorAl
import Derived.WalkKit
import Derived.OpenShut
import Derived.ShutString
import Derived.ChangeOld
import Derived.SizedLaws
import Derived.Stop.Joined
import Derived.SevenTiedAt
import Derived.Test.YtfbppkjjdbkedaaGreatDoorCards
import Derived.Test.YtfbppkjjdbkedaaGreatDoorTie
namespace Go.Proofs.YtfbppkjjdbkedaaGreatDoor.parseValid
open Go.ChangeShapes Go.WideShapes Go.ChangeAt Go.RowKit Go.Proofs.YtfbppkjjdbkedaaGreatDoor.Ref
set_option linter.unusedVariables false
theorem own : ownKnob Tryz.prog.godebug = none := by kernel_rfl
theorem func : Tryz.prog.funcs[5]? = some Tryz.f5 := k5.1
theorem prms : Tryz.f5.params = #[26] := by kernel_rfl
set_option maxRecDepth 100000 in
theorem lifted (os : Os) (started : os.Started) (H : Type) (enc : TypeId × Value → H) :
    ReturnsInHanded {} Tryz.checked os 5 .any (fun w args => (Rows.parseValidSpec.pre enc Tryz.prog Tryz.f5 Rows.parseValidRow.domain false w args ∧ laidMetH Tryz.prog laidAll w) ∧ sizedMet enc Tryz.prog Tryz.f5 (OpenSpec.ofChange Rows.parseValidSpec) false w args) (Rows.parseValidSpec.post enc Tryz.prog Tryz.f5 false true false false) := by
  refine returnsInHanded_of_change_and (C := Tryz.checked) (X := fun w _ => laidMetH Tryz.prog laidAll w) (fun _ _ _ hh h => h.of_heap hh) own started (by kernel_rfl) func
    (ChangeSpec.witness_shaped (enc := enc) (C := Tryz.checked) (os := os) (X := fun w _ => laidMetH Tryz.prog laidAll w) false (World.doorLaid Tryz.prog 400 os) #[.agg #[.string ⟨#[]⟩, .string ⟨#[]⟩, .int .i64 0, .slice none 0 0]] 8 rfl (door_shaped os _) (by kernel_rfl) (by kernel_rfl) (by kernel_rfl) (door_met os _)) ?_
  intro W base args ds gs before hval0 hW hcnd hsz0 hL _
  have hsz : (DataW.weightsEach Tryz.prog (Tryz.f5.params.toList ++ Rows.parseValidSpec.plain.varTypes Tryz.prog) (ds ++ gs)).all (· ≤ reachBytes) = true := hsz0
  have hval : ∀ (j : Nat) t v, Tryz.f5.params[j]? = some t → args[j]? = some v → Value.okWide Tryz.prog W .any base t v := hval0
  have hW' := hW
  obtain ⟨p, q, hA0, hV, rfl, hfz, hnd⟩ := hW
  have hA : DataW.TrodAll enc Tryz.prog W 0 (fun _ => true) true Tryz.f5.params.toList args.toList ds p := hA0
  rw [prms] at hA hval hsz
  obtain ⟨rfl, rfl⟩ := trodVars_none hV
  have hlenD : ds.length = [26].length := trodAll_len hA
  have hw : ∀ x ∈ DataW.weightsEach Tryz.prog [26] ds, x ≤ reachBytes := fun x hx => by
    have := List.all_eq_true.1 hsz x (weightsEach_app (show ds.length = (#[26] : Array TypeId).toList.length from hlenD) hx)
    simpa using this
  obtain ⟨a1, a2, a3, a4⟩ := open_args (β := fun _ => none) hX famG _ _ _ _ (by decide) (fun j t v h1 h2 => hval j t v (by simpa using h1) (by simpa using h2)) hw hA
  have a5 := relVV_more (inPs_lt hA) _ _ _ a1
  have hc : CT X 5 (toDf Tryz.prog [26] ds) [] (fun r b => r = .ret (.v (.bool true)) ∧ b = []) := by
    obtain ⟨d0, rfl⟩ := len_is1 hlenD
    obtain ⟨x, e, ht⟩ := sh_syn _ (a3 0 26 _ rfl rfl)
    show CT X 5 [toD Tryz.prog 26 d0] [] _
    have e : toD Tryz.prog 26 d0 = eSyn x := e
    rw [e]; exact (ce_ParseValid x ht ct_alive).2
  have hh := calls_of_ct hc a5 (glob_of hL)
  rw [Array.toArray_toList] at hh
  refine hh.mono fun e W' ⟨he, bel⟩ => ?_
  subst he
  obtain ⟨d0, rfl⟩ := len_is1 hlenD
  exact ⟨_, rfl, _, _, _, [], _, [], hW', trodAll_mk1 (shut_bool und_bool _), args_stay laidOut bel (by kernel_rfl) hA, rfl, bel.frame _, fun h => by cases h⟩
theorem facts : joinedFacts Tryz.prog 5 Tryz.f5 Rows.parseValidSpec Rows.parseValidRow = true := by kernel_rfl
theorem named : Tryz.prog.funcNamed Rows.parseValidRow.func = some 5 := by kernel_rfl
theorem inst : Tryz.f5.isInstance Tryz.prog Rows.parseValidRow.origin Rows.parseValidRow.targs := of_decide_eq_true (by kernel_rfl)
theorem wrap : Tryz.f5.isWrapper Tryz.prog Rows.parseValidRow.wrapper Rows.parseValidRow.mainSum := by unfold Func.isWrapper; first | (rw [if_pos (by decide +kernel)]; kernel_rfl) | (rw [if_neg (by decide +kernel)]; exact ⟨rfl, rfl⟩)
theorem over : Rows.parseValidRow.holds Tryz.pinned (OpenSpec.ofChange Rows.parseValidSpec) :=
  OpenClaim.holds_of_wide 5 Tryz.f5 rfl rfl rfl rfl rfl rfl rfl ⟨rfl, rfl, rfl, rfl, rfl⟩ rfl rfl rfl rfl rfl named func facts inst wrap
    (fun os started H enc _ => lifted os started H enc)
theorem proved : Rows.ParseValidSaid := over
/-- No parameter wants a stand-in. -/
theorem plain (f : FuncId) (fn : Func) (hf : Tryz.pinned.checked.prog.funcNamed "leatwork/leatworklaw04.ParseValid" = some f) (hfn : Tryz.pinned.checked.prog.funcs[f]? = some fn) :
    true = Tryz.pinned.checked.prog.looks [] ∧ ∀ (j : Nat) t, fn.params[j]? = some t → Tryz.pinned.checked.prog.wantsStandIn t = false := by
  obtain rfl : f = 5 := Option.some.inj ((show Tryz.prog.funcNamed "leatwork/leatworklaw04.ParseValid" = some 5 by kernel_rfl).symm.trans hf) |>.symm
  obtain rfl : fn = Tryz.f5 := (Option.some.inj (func.symm.trans hfn)).symm
  refine ⟨by kernel_rfl, fun j t ht => ?_⟩
  rw [prms] at ht
  have hm : t ∈ [26] := by
    have := Array.mem_of_getElem? ht
    simpa using this
  have hall : ([26].all fun u => !Tryz.prog.wantsStandIn u) = true := by kernel_rfl
  exact (show Tryz.prog.wantsStandIn t = false by simpa using List.all_eq_true.1 hall t hm)
/-- The card. -/
theorem card : Rows.ParseValidCardSaid :=
  Claim7.holds_tied_plain_at .later [] _ _ _ _ proved (fun _ h => by cases h) (by kernel_rfl) (fun _ h => by cases h) parseValid_row_tie rfl ⟨rfl, rfl⟩ (by kernel_rfl) rfl plain (by kernel_rfl)
#print axioms card
end Go.Proofs.YtfbppkjjdbkedaaGreatDoor.parseValid
namespace Go.Proofs.YtfbppkjjdbkedaaGreatDoor
/-- The card, under a short name, for the claim. -/
theorem parseValid_card : Rows.ParseValidCardSaid := parseValid.card
end Go.Proofs.YtfbppkjjdbkedaaGreatDoor
