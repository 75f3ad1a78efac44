/-
  The program's EquationText returns what the reference's returns and leaves its arguments as they were: for all arguments, without a condition.
-/
import Derived.Test.YtnlpbmakdiaaoaaGreatDoorCards
import Derived.Test.YtnlpbmakdiaaoaaGreatDoorTie
import Derived.WalkKit
import Derived.ProofKit
import Derived.OpenShut
import Derived.ShutString
import Derived.ChangeOld
import Derived.Below
import Derived.SizedLaws
import Derived.Deep.DeepHandedRow
import Derived.Deep.DeepWitnessRowRef
import Derived.Lib.LaidU8
import Derived.LaidSub
import Derived.Lib.LaidTab
import Derived.Stop.LaidErr
import Derived.JoinedCond
import Derived.Laws.StructEq
import Derived.Test.YtnlpbmakdiaaoaaGreatDoorCFnExactEquationText0
import Derived.Test.YtnlpbmakdiaaoaaGreatDoorCFnExactEquationText1
import Derived.Test.YtnlpbmakdiaaoaaGreatDoorCFnExactEquationText2
import Derived.Test.YtnlpbmakdiaaoaaGreatDoorCFnExactEquationText3
import Derived.Test.YtnlpbmakdiaaoaaGreatDoorCFnExactEquationText4
import Derived.Test.YtnlpbmakdiaaoaaGreatDoorCFnExactEquationText5
import Derived.Test.YtnlpbmakdiaaoaaGreatDoorCFnExactEquationText6
import Derived.Test.YtnlpbmakdiaaoaaGreatDoorCFnExactEquationText7
import Derived.Test.YtnlpbmakdiaaoaaGreatDoorCFnExactEquationText8
import Derived.Test.YtnlpbmakdiaaoaaGreatDoorCFnExactEquationText9
import Derived.Test.YtnlpbmakdiaaoaaGreatDoorCFnExactEquationText10
import Derived.Test.YtnlpbmakdiaaoaaGreatDoorCFnExactEquationText11
namespace Go.Proofs.YtnlpbmakdiaaoaaGreatDoor.fnExactEquationText
open Go.ChangeShapes Go.WideShapes Go.ChangeAt Go.RowKit Go.Proofs.YtnlpbmakdiaaoaaGreatDoor.Open Go.Proofs.YtnlpbmakdiaaoaaGreatDoor.P Go.Proofs.YtnlpbmakdiaaoaaGreatDoorW.PrintWords
open Go.ChangeMaps (open_string shut_string)
set_option linter.unusedVariables false
set_option maxRecDepth 100000 in
theorem said : Rows.FnExactEquationTextSaid :=
  OpenClaim.holds_of_cond 5 Tryz.f5 rfl rfl rfl rfl rfl rfl rfl ⟨rfl, rfl, rfl, rfl, rfl⟩ rfl rfl rfl rfl rfl (by kernel_rfl) Tryz.func5 closed
    (of_decide_eq_true (by kernel_rfl)) (by unfold Func.isWrapper; first | (rw [if_pos (by decide +kernel)]; kernel_rfl) | (rw [if_neg (by decide +kernel)]; exact ⟨rfl, rfl⟩))
    (fun os started H enc _ F => by rw [OpenClaim.pre_eq_preRow]; exact lifted os started H enc F)
theorem plain (f : FuncId) (fn : Func) (hf : Tryz.pinned.checked.prog.funcNamed "loop.example/g00653/laws.FnExactEquationText" = some f) (hfn : Tryz.pinned.checked.prog.funcs[f]? = some fn) :
    false = Tryz.pinned.checked.prog.looks [] ∧ ∀ (j : Nat) t, fn.params[j]? = some t → Tryz.pinned.checked.prog.wantsStandIn t = false := by
  obtain rfl : f = 5 := Option.some.inj ((show Tryz.prog.funcNamed "loop.example/g00653/laws.FnExactEquationText" = some 5 by kernel_rfl).symm.trans hf) |>.symm
  obtain rfl : fn = Tryz.f5 := (Option.some.inj (Tryz.func5.symm.trans hfn)).symm
  refine ⟨by kernel_rfl, fun j t ht => ?_⟩
  rw [Tryz.params5] at ht
  have hm := Array.mem_of_getElem? ht
  simp only [List.mem_toArray, List.mem_cons, List.not_mem_nil, or_false] at hm
  rcases hm with rfl | rfl
  · exact (show Tryz.prog.wantsStandIn 24 = false by kernel_rfl)
  · exact (show Tryz.prog.wantsStandIn 56 = false by kernel_rfl)
theorem goes : false = OpenClaim.goesBy Rows.fnExactEquationTextRow Tryz.pinned.checked.prog := by kernel_rfl
theorem proved : Rows.FnExactEquationTextCardSaid :=
  Claim7.holds_tied_plain_at .later [] _ _ _ _ said (fun _ h => by cases h) (by kernel_rfl) (fun _ h => by cases h) fnExactEquationText_row_tie rfl ⟨rfl, rfl⟩ (by kernel_rfl) rfl plain goes
end Go.Proofs.YtnlpbmakdiaaoaaGreatDoor.fnExactEquationText
namespace Go.Proofs.YtnlpbmakdiaaoaaGreatDoor
theorem fnExactEquationText_holds : Rows.FnExactEquationTextCardSaid := fnExactEquationText.proved
end Go.Proofs.YtnlpbmakdiaaoaaGreatDoor
