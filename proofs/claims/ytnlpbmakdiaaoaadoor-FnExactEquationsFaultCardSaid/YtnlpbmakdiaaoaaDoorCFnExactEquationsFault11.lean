/-
  The program's EquationsFault returns what the reference's returns and leaves its arguments as they were: for all arguments, without a condition.
-/
import Derived.Test.YtnlpbmakdiaaoaaDoorCards
import Derived.Test.YtnlpbmakdiaaoaaDoorTie
import Derived.WalkKit
import Derived.ProofKit
import Derived.OpenShut
import Derived.ShutString
import Derived.ChangeOld
import Derived.Below
import Derived.SizedLaws
import Derived.Deep.DeepHandedRow
import Derived.Deep.DeepWitnessRowRef
import Derived.Lib.LaidU8
import Derived.LaidSub
import Derived.Lib.LaidTab
import Derived.Stop.LaidErr
import Derived.JoinedCond
import Derived.Laws.StructEq
import Derived.Test.YtnlpbmakdiaaoaaDoorCFnExactEquationsFault0
import Derived.Test.YtnlpbmakdiaaoaaDoorCFnExactEquationsFault1
import Derived.Test.YtnlpbmakdiaaoaaDoorCFnExactEquationsFault2
import Derived.Test.YtnlpbmakdiaaoaaDoorCFnExactEquationsFault3
import Derived.Test.YtnlpbmakdiaaoaaDoorCFnExactEquationsFault4
import Derived.Test.YtnlpbmakdiaaoaaDoorCFnExactEquationsFault5
import Derived.Test.YtnlpbmakdiaaoaaDoorCFnExactEquationsFault6
import Derived.Test.YtnlpbmakdiaaoaaDoorCFnExactEquationsFault7
import Derived.Test.YtnlpbmakdiaaoaaDoorCFnExactEquationsFault8
import Derived.Test.YtnlpbmakdiaaoaaDoorCFnExactEquationsFault9
import Derived.Test.YtnlpbmakdiaaoaaDoorCFnExactEquationsFault10
namespace Go.Proofs.YtnlpbmakdiaaoaaDoor.fnExactEquationsFault
open Go.ChangeShapes Go.WideShapes Go.ChangeAt Go.RowKit Go.Proofs.YtnlpbmakdiaaoaaDoor.Open Go.Proofs.YtnlpbmakdiaaoaaDoor.P Go.Proofs.YtnlpbmakdiaaoaaDoorW.PrintWords
open Go.ChangeMaps (open_string shut_string)
set_option linter.unusedVariables false
set_option maxRecDepth 100000 in
theorem said : Rows.FnExactEquationsFaultSaid :=
  OpenClaim.holds_of_cond 6 Tryd.f6 rfl rfl rfl rfl rfl rfl rfl ⟨rfl, rfl, rfl, rfl, rfl⟩ rfl rfl rfl rfl rfl (by kernel_rfl) Tryd.func6 closed
    (of_decide_eq_true (by kernel_rfl)) (by unfold Func.isWrapper; first | (rw [if_pos (by decide +kernel)]; kernel_rfl) | (rw [if_neg (by decide +kernel)]; exact ⟨rfl, rfl⟩))
    (fun os started H enc _ F => by rw [OpenClaim.pre_eq_preRow]; exact lifted os started H enc F)
theorem plain (f : FuncId) (fn : Func) (hf : Tryd.pinned.checked.prog.funcNamed "loop.example/g00653/laws.FnExactEquationsFault" = some f) (hfn : Tryd.pinned.checked.prog.funcs[f]? = some fn) :
    false = Tryd.pinned.checked.prog.looks [] ∧ ∀ (j : Nat) t, fn.params[j]? = some t → Tryd.pinned.checked.prog.wantsStandIn t = false := by
  obtain rfl : f = 6 := Option.some.inj ((show Tryd.prog.funcNamed "loop.example/g00653/laws.FnExactEquationsFault" = some 6 by kernel_rfl).symm.trans hf) |>.symm
  obtain rfl : fn = Tryd.f6 := (Option.some.inj (Tryd.func6.symm.trans hfn)).symm
  refine ⟨by kernel_rfl, fun j t ht => ?_⟩
  rw [Tryd.params6] at ht
  have hm := Array.mem_of_getElem? ht
  simp only [List.mem_toArray, List.mem_cons, List.not_mem_nil, or_false] at hm
  rcases hm with rfl | rfl
  · exact (show Tryd.prog.wantsStandIn 24 = false by kernel_rfl)
  · exact (show Tryd.prog.wantsStandIn 65 = false by kernel_rfl)
theorem goes : false = OpenClaim.goesBy Rows.fnExactEquationsFaultRow Tryd.pinned.checked.prog := by kernel_rfl
theorem proved : Rows.FnExactEquationsFaultCardSaid :=
  Claim7.holds_tied_plain_at .later [] _ _ _ _ said (fun _ h => by cases h) (by kernel_rfl) (fun _ h => by cases h) fnExactEquationsFault_row_tie rfl ⟨rfl, rfl⟩ (by kernel_rfl) rfl plain goes
end Go.Proofs.YtnlpbmakdiaaoaaDoor.fnExactEquationsFault
namespace Go.Proofs.YtnlpbmakdiaaoaaDoor
theorem fnExactEquationsFault_holds : Rows.FnExactEquationsFaultCardSaid := fnExactEquationsFault.proved
end Go.Proofs.YtnlpbmakdiaaoaaDoor
