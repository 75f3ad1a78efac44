/-
  The program's ReadTerm returns what the reference's returns, leaves its arguments as they were, and its result is its own: for all arguments, without a condition.
-/
import Derived.Test.YtnlpbmakdiaaoaaDoorCards
import Derived.Test.YtnlpbmakdiaaoaaDoorTie
import Derived.WalkKit
import Derived.ProofKit
import Derived.OpenShut
import Derived.ShutString
import Derived.ChangeOld
import Derived.Below
import Derived.SizedLaws
import Derived.Deep.DeepHandedRow
import Derived.Deep.DeepWitnessRowRef
import Derived.Lib.LaidU8
import Derived.LaidSub
import Derived.Lib.LaidTab
import Derived.Stop.LaidErr
import Derived.JoinedCond
import Derived.Laws.StructEq
import Derived.Test.YtnlpbmakdiaaoaaDoorCFnExactReadTerm0
import Derived.Test.YtnlpbmakdiaaoaaDoorCFnExactReadTerm1
import Derived.Test.YtnlpbmakdiaaoaaDoorCFnExactReadTerm2
import Derived.Test.YtnlpbmakdiaaoaaDoorCFnExactReadTerm3
import Derived.Test.YtnlpbmakdiaaoaaDoorCFnExactReadTerm4
import Derived.Test.YtnlpbmakdiaaoaaDoorCFnExactReadTerm5
import Derived.Test.YtnlpbmakdiaaoaaDoorCFnExactReadTerm6
import Derived.Test.YtnlpbmakdiaaoaaDoorCFnExactReadTerm7
import Derived.Test.YtnlpbmakdiaaoaaDoorCFnExactReadTerm8
import Derived.Test.YtnlpbmakdiaaoaaDoorCFnExactReadTerm9
import Derived.Test.YtnlpbmakdiaaoaaDoorCFnExactReadTerm10
namespace Go.Proofs.YtnlpbmakdiaaoaaDoor.fnExactReadTerm
open Go.ChangeShapes Go.WideShapes Go.ChangeAt Go.RowKit Go.Proofs.YtnlpbmakdiaaoaaDoor.Open Go.Proofs.YtnlpbmakdiaaoaaDoor.P Go.Proofs.YtnlpbmakdiaaoaaDoorW.PrintWords
open Go.ChangeMaps (open_string shut_string)
set_option linter.unusedVariables false
set_option maxRecDepth 100000 in
theorem said : Rows.FnExactReadTermSaid :=
  OpenClaim.holds_of_cond 5 Tryd.f5 rfl rfl rfl rfl rfl rfl rfl ⟨rfl, rfl, rfl, rfl, rfl⟩ rfl rfl rfl rfl rfl (by kernel_rfl) Tryd.func5 closed
    (of_decide_eq_true (by kernel_rfl)) (by unfold Func.isWrapper; first | (rw [if_pos (by decide +kernel)]; kernel_rfl) | (rw [if_neg (by decide +kernel)]; exact ⟨rfl, rfl⟩))
    (fun os started H enc _ F => by rw [OpenClaim.pre_eq_preRow]; exact lifted os started H enc F)
theorem plain (f : FuncId) (fn : Func) (hf : Tryd.pinned.checked.prog.funcNamed "loop.example/g00653/laws.FnExactReadTerm" = some f) (hfn : Tryd.pinned.checked.prog.funcs[f]? = some fn) :
    false = Tryd.pinned.checked.prog.looks [] ∧ ∀ (j : Nat) t, fn.params[j]? = some t → Tryd.pinned.checked.prog.wantsStandIn t = false := by
  obtain rfl : f = 5 := Option.some.inj ((show Tryd.prog.funcNamed "loop.example/g00653/laws.FnExactReadTerm" = some 5 by kernel_rfl).symm.trans hf) |>.symm
  obtain rfl : fn = Tryd.f5 := (Option.some.inj (Tryd.func5.symm.trans hfn)).symm
  refine ⟨by kernel_rfl, fun j t ht => ?_⟩
  rw [Tryd.params5] at ht
  have hm := Array.mem_of_getElem? ht
  simp only [List.mem_toArray, List.mem_cons, List.not_mem_nil, or_false] at hm
  rcases hm with rfl | rfl
  · exact (show Tryd.prog.wantsStandIn 24 = false by kernel_rfl)
  · exact (show Tryd.prog.wantsStandIn 9 = false by kernel_rfl)
theorem goes : false = OpenClaim.goesBy Rows.fnExactReadTermRow Tryd.pinned.checked.prog := by kernel_rfl
theorem proved : Rows.FnExactReadTermCardSaid :=
  Claim7.holds_tied_plain_at .later [] _ _ _ _ said (fun _ h => by cases h) (by kernel_rfl) (fun _ h => by cases h) fnExactReadTerm_row_tie rfl ⟨rfl, rfl⟩ (by kernel_rfl) rfl plain goes
end Go.Proofs.YtnlpbmakdiaaoaaDoor.fnExactReadTerm
namespace Go.Proofs.YtnlpbmakdiaaoaaDoor
theorem fnExactReadTerm_holds : Rows.FnExactReadTermCardSaid := fnExactReadTerm.proved
end Go.Proofs.YtnlpbmakdiaaoaaDoor
