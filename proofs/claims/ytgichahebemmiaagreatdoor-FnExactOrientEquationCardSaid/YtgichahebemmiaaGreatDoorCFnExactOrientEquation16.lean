/-
  The program's OrientEquation returns what the reference's returns, leaves its arguments as they were, and its result is its own: for all arguments, without a condition.
-/
import Derived.Test.YtgichahebemmiaaGreatDoorCards
import Derived.Test.YtgichahebemmiaaGreatDoorTie
import Derived.WalkKit
import Derived.ProofKit
import Derived.OpenShut
import Derived.ShutString
import Derived.ChangeOld
import Derived.Below
import Derived.SizedLaws
import Derived.Deep.DeepHandedRow
import Derived.Deep.DeepWitnessRowRef
import Derived.Lib.LaidU8
import Derived.LaidSub
import Derived.Lib.LaidTab
import Derived.Stop.LaidErr
import Derived.Shelf.Vars
import Derived.JoinedCond
import Derived.Laws.StructEq
import Derived.Test.YtgichahebemmiaaGreatDoorCFnExactOrientEquation0
import Derived.Test.YtgichahebemmiaaGreatDoorCFnExactOrientEquation1
import Derived.Test.YtgichahebemmiaaGreatDoorCFnExactOrientEquation2
import Derived.Test.YtgichahebemmiaaGreatDoorCFnExactOrientEquation3
import Derived.Test.YtgichahebemmiaaGreatDoorCFnExactOrientEquation4
import Derived.Test.YtgichahebemmiaaGreatDoorCFnExactOrientEquation5
import Derived.Test.YtgichahebemmiaaGreatDoorCFnExactOrientEquation6
import Derived.Test.YtgichahebemmiaaGreatDoorCFnExactOrientEquation7
import Derived.Test.YtgichahebemmiaaGreatDoorCFnExactOrientEquation8
import Derived.Test.YtgichahebemmiaaGreatDoorCFnExactOrientEquation9
import Derived.Test.YtgichahebemmiaaGreatDoorCFnExactOrientEquation10
import Derived.Test.YtgichahebemmiaaGreatDoorCFnExactOrientEquation11
import Derived.Test.YtgichahebemmiaaGreatDoorCFnExactOrientEquation12
import Derived.Test.YtgichahebemmiaaGreatDoorCFnExactOrientEquation13
import Derived.Test.YtgichahebemmiaaGreatDoorCFnExactOrientEquation14
import Derived.Test.YtgichahebemmiaaGreatDoorCFnExactOrientEquation15
namespace Go.Proofs.YtgichahebemmiaaGreatDoor.fnExactOrientEquation
open Go.ChangeShapes Go.WideShapes Go.ChangeAt Go.RowKit Go.Proofs.YtgichahebemmiaaGreatDoor.Open Go.Proofs.YtgichahebemmiaaGreatDoor.P Go.Proofs.YtgichahebemmiaaGreatDoorW.PrintWords
open Go.ChangeMaps (open_string shut_string)
set_option linter.unusedVariables false
set_option maxRecDepth 100000 in
theorem said : Rows.FnExactOrientEquationSaid :=
 OpenClaim.holds_of_cond 3 Tryz.f3 rfl rfl rfl rfl rfl rfl rfl ⟨rfl, rfl, rfl, rfl, rfl⟩ rfl rfl rfl rfl rfl (by kernel_rfl) Tryz.func3 closed
  (of_decide_eq_true (by kernel_rfl)) (by unfold Func.isWrapper; first | (rw [if_pos (by decide +kernel)]; kernel_rfl) | (rw [if_neg (by decide +kernel)]; exact ⟨rfl, rfl⟩))
  (fun os started H enc _ F => by rw [OpenClaim.pre_eq_preRow]; exact lifted os started H enc F)
theorem plain (f : FuncId) (fn : Func) (hf : Tryz.pinned.checked.prog.funcNamed "loop.example/g00653/laws.FnExactOrientEquation" = some f) (hfn : Tryz.pinned.checked.prog.funcs[f]? = some fn) :
  false = Tryz.pinned.checked.prog.looks [] ∧ ∀ (j : Nat) t, fn.params[j]? = some t → Tryz.pinned.checked.prog.wantsStandIn t = false := by
 obtain rfl : f = 3 := Option.some.inj ((show Tryz.prog.funcNamed "loop.example/g00653/laws.FnExactOrientEquation" = some 3 by kernel_rfl).symm.trans hf) |>.symm
 obtain rfl : fn = Tryz.f3 := (Option.some.inj (Tryz.func3.symm.trans hfn)).symm
 refine ⟨by kernel_rfl, fun j t ht => ?_⟩
 rw [Tryz.params3] at ht
 have hm := Array.mem_of_getElem? ht
 simp only [List.mem_toArray, List.mem_cons, List.not_mem_nil, or_false] at hm
 rcases hm with rfl | rfl | rfl
 ·exact (show Tryz.prog.wantsStandIn 24 = false by kernel_rfl)
 ·exact (show Tryz.prog.wantsStandIn 25 = false by kernel_rfl)
 ·exact (show Tryz.prog.wantsStandIn 27 = false by kernel_rfl)
theorem goes : false = OpenClaim.goesBy Rows.fnExactOrientEquationRow Tryz.pinned.checked.prog := by kernel_rfl
theorem proved : Rows.FnExactOrientEquationCardSaid :=
 Claim7.holds_tied_plain_at .later [] _ _ _ _ said (fun _ h => by cases h) (by kernel_rfl) (fun _ h => by cases h) fnExactOrientEquation_row_tie rfl ⟨rfl, rfl⟩ (by kernel_rfl) rfl plain goes
end Go.Proofs.YtgichahebemmiaaGreatDoor.fnExactOrientEquation
namespace Go.Proofs.YtgichahebemmiaaGreatDoor
theorem fnExactOrientEquation_holds : Rows.FnExactOrientEquationCardSaid := fnExactOrientEquation.proved
end Go.Proofs.YtgichahebemmiaaGreatDoor
