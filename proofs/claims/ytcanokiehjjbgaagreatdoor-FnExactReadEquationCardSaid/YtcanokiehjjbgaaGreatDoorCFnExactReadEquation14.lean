/-
  The program's ReadEquation returns what the reference's returns, leaves its arguments as they were, and its result is its own: for all arguments, without a condition.
-/
import Derived.Test.YtcanokiehjjbgaaGreatDoorCards
import Derived.Test.YtcanokiehjjbgaaGreatDoorTie
import Derived.WalkKit
import Derived.ProofKit
import Derived.OpenShut
import Derived.ShutString
import Derived.ChangeOld
import Derived.Below
import Derived.SizedLaws
import Derived.Deep.DeepHandedRow
import Derived.Deep.DeepWitnessRowRef
import Derived.Lib.LaidU8
import Derived.LaidSub
import Derived.Lib.LaidTab
import Derived.Stop.LaidErr
import Derived.Shelf.Vars
import Derived.JoinedCond
import Derived.Laws.StructEq
import Derived.Test.YtcanokiehjjbgaaGreatDoorCFnExactReadEquation0
import Derived.Test.YtcanokiehjjbgaaGreatDoorCFnExactReadEquation1
import Derived.Test.YtcanokiehjjbgaaGreatDoorCFnExactReadEquation2
import Derived.Test.YtcanokiehjjbgaaGreatDoorCFnExactReadEquation3
import Derived.Test.YtcanokiehjjbgaaGreatDoorCFnExactReadEquation4
import Derived.Test.YtcanokiehjjbgaaGreatDoorCFnExactReadEquation5
import Derived.Test.YtcanokiehjjbgaaGreatDoorCFnExactReadEquation6
import Derived.Test.YtcanokiehjjbgaaGreatDoorCFnExactReadEquation7
import Derived.Test.YtcanokiehjjbgaaGreatDoorCFnExactReadEquation8
import Derived.Test.YtcanokiehjjbgaaGreatDoorCFnExactReadEquation9
import Derived.Test.YtcanokiehjjbgaaGreatDoorCFnExactReadEquation10
import Derived.Test.YtcanokiehjjbgaaGreatDoorCFnExactReadEquation11
import Derived.Test.YtcanokiehjjbgaaGreatDoorCFnExactReadEquation12
import Derived.Test.YtcanokiehjjbgaaGreatDoorCFnExactReadEquation13
namespace Go.Proofs.YtcanokiehjjbgaaGreatDoor.fnExactReadEquation
open Go.ChangeShapes Go.WideShapes Go.ChangeAt Go.RowKit Go.Proofs.YtcanokiehjjbgaaGreatDoor.Open Go.Proofs.YtcanokiehjjbgaaGreatDoor.P Go.Proofs.YtcanokiehjjbgaaGreatDoorW.PrintWords
open Go.ChangeMaps (open_string shut_string)
set_option linter.unusedVariables false
set_option maxRecDepth 100000 in
theorem said : Rows.FnExactReadEquationSaid :=
 OpenClaim.holds_of_cond 4 Tryz.f4 rfl rfl rfl rfl rfl rfl rfl ⟨rfl, rfl, rfl, rfl, rfl⟩ rfl rfl rfl rfl rfl (by kernel_rfl) Tryz.func4 closed
  (of_decide_eq_true (by kernel_rfl)) (by unfold Func.isWrapper; first | (rw [if_pos (by decide +kernel)]; kernel_rfl) | (rw [if_neg (by decide +kernel)]; exact ⟨rfl, rfl⟩))
  (fun os started H enc _ F => by rw [OpenClaim.pre_eq_preRow]; exact lifted os started H enc F)
theorem plain (f : FuncId) (fn : Func) (hf : Tryz.pinned.checked.prog.funcNamed "loop.example/g00653/laws.FnExactReadEquation" = some f) (hfn : Tryz.pinned.checked.prog.funcs[f]? = some fn) :
  false = Tryz.pinned.checked.prog.looks [] ∧ ∀ (j : Nat) t, fn.params[j]? = some t → Tryz.pinned.checked.prog.wantsStandIn t = false := by
 obtain rfl : f = 4 := Option.some.inj ((show Tryz.prog.funcNamed "loop.example/g00653/laws.FnExactReadEquation" = some 4 by kernel_rfl).symm.trans hf) |>.symm
 obtain rfl : fn = Tryz.f4 := (Option.some.inj (Tryz.func4.symm.trans hfn)).symm
 refine ⟨by kernel_rfl, fun j t ht => ?_⟩
 rw [Tryz.params4] at ht
 have hm := Array.mem_of_getElem? ht
 simp only [List.mem_toArray, List.mem_cons, List.not_mem_nil, or_false] at hm
 rcases hm with rfl | rfl
 ·exact (show Tryz.prog.wantsStandIn 24 = false by kernel_rfl)
 ·exact (show Tryz.prog.wantsStandIn 9 = false by kernel_rfl)
theorem goes : false = OpenClaim.goesBy Rows.fnExactReadEquationRow Tryz.pinned.checked.prog := by kernel_rfl
theorem proved : Rows.FnExactReadEquationCardSaid :=
 Claim7.holds_tied_plain_at .later [] _ _ _ _ said (fun _ h => by cases h) (by kernel_rfl) (fun _ h => by cases h) fnExactReadEquation_row_tie rfl ⟨rfl, rfl⟩ (by kernel_rfl) rfl plain goes
end Go.Proofs.YtcanokiehjjbgaaGreatDoor.fnExactReadEquation
namespace Go.Proofs.YtcanokiehjjbgaaGreatDoor
theorem fnExactReadEquation_holds : Rows.FnExactReadEquationCardSaid := fnExactReadEquation.proved
end Go.Proofs.YtcanokiehjjbgaaGreatDoor
