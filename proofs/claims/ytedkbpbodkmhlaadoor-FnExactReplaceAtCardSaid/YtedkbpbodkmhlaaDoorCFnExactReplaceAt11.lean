/-
  The program's ReplaceAt returns what the reference's returns, leaves its arguments as they were, and its result is its own: for all arguments, without a condition.
-/
import Derived.Test.YtedkbpbodkmhlaaDoorCards
import Derived.Test.YtedkbpbodkmhlaaDoorTie
import Derived.WalkKit
import Derived.ProofKit
import Derived.OpenShut
import Derived.ShutString
import Derived.ChangeOld
import Derived.Below
import Derived.SizedLaws
import Derived.Deep.DeepHandedRow
import Derived.Deep.DeepWitnessRowRef
import Derived.Lib.LaidU8
import Derived.LaidSub
import Derived.Lib.LaidTab
import Derived.Stop.LaidErr
import Derived.JoinedCond
import Derived.Laws.StructEq
import Derived.Test.YtedkbpbodkmhlaaDoorCFnExactReplaceAt0
import Derived.Test.YtedkbpbodkmhlaaDoorCFnExactReplaceAt1
import Derived.Test.YtedkbpbodkmhlaaDoorCFnExactReplaceAt2
import Derived.Test.YtedkbpbodkmhlaaDoorCFnExactReplaceAt3
import Derived.Test.YtedkbpbodkmhlaaDoorCFnExactReplaceAt4
import Derived.Test.YtedkbpbodkmhlaaDoorCFnExactReplaceAt5
import Derived.Test.YtedkbpbodkmhlaaDoorCFnExactReplaceAt6
import Derived.Test.YtedkbpbodkmhlaaDoorCFnExactReplaceAt7
import Derived.Test.YtedkbpbodkmhlaaDoorCFnExactReplaceAt8
import Derived.Test.YtedkbpbodkmhlaaDoorCFnExactReplaceAt9
import Derived.Test.YtedkbpbodkmhlaaDoorCFnExactReplaceAt10
namespace Go.Proofs.YtedkbpbodkmhlaaDoor.fnExactReplaceAt
open Go.ChangeShapes Go.WideShapes Go.ChangeAt Go.RowKit Go.Proofs.YtedkbpbodkmhlaaDoor.Open Go.Proofs.YtedkbpbodkmhlaaDoor.P Go.Proofs.YtedkbpbodkmhlaaDoorW.PrintWords
open Go.ChangeMaps (open_string shut_string)
set_option linter.unusedVariables false
set_option maxRecDepth 100000 in
theorem said : Rows.FnExactReplaceAtSaid :=
  OpenClaim.holds_of_cond 10 Tryd.f10 rfl rfl rfl rfl rfl rfl rfl ⟨rfl, rfl, rfl, rfl, rfl⟩ rfl rfl rfl rfl rfl (by kernel_rfl) Tryd.func10 closed
    (of_decide_eq_true (by kernel_rfl)) (by unfold Func.isWrapper; first | (rw [if_pos (by decide +kernel)]; kernel_rfl) | (rw [if_neg (by decide +kernel)]; exact ⟨rfl, rfl⟩))
    (fun os started H enc _ F => by rw [OpenClaim.pre_eq_preRow]; exact lifted os started H enc F)
theorem plain (f : FuncId) (fn : Func) (hf : Tryd.pinned.checked.prog.funcNamed "loop.example/g00653/laws.FnExactReplaceAt" = some f) (hfn : Tryd.pinned.checked.prog.funcs[f]? = some fn) :
    true = Tryd.pinned.checked.prog.looks [] ∧ ∀ (j : Nat) t, fn.params[j]? = some t → Tryd.pinned.checked.prog.wantsStandIn t = false := by
  obtain rfl : f = 10 := Option.some.inj ((show Tryd.prog.funcNamed "loop.example/g00653/laws.FnExactReplaceAt" = some 10 by kernel_rfl).symm.trans hf) |>.symm
  obtain rfl : fn = Tryd.f10 := (Option.some.inj (Tryd.func10.symm.trans hfn)).symm
  refine ⟨by kernel_rfl, fun j t ht => ?_⟩
  rw [Tryd.params10] at ht
  have hm := Array.mem_of_getElem? ht
  simp only [List.mem_toArray, List.mem_cons, List.not_mem_nil, or_false] at hm
  rcases hm with rfl | rfl | rfl | rfl
  · exact (show Tryd.prog.wantsStandIn 34 = false by kernel_rfl)
  · exact (show Tryd.prog.wantsStandIn 52 = false by kernel_rfl)
  · exact (show Tryd.prog.wantsStandIn 2 = false by kernel_rfl)
  · exact (show Tryd.prog.wantsStandIn 52 = false by kernel_rfl)
theorem goes : false = OpenClaim.goesBy Rows.fnExactReplaceAtRow Tryd.pinned.checked.prog := by kernel_rfl
theorem proved : Rows.FnExactReplaceAtCardSaid :=
  Claim7.holds_tied_plain_at .later [] _ _ _ _ said (fun _ h => by cases h) (by kernel_rfl) (fun _ h => by cases h) fnExactReplaceAt_row_tie rfl ⟨rfl, rfl⟩ (by kernel_rfl) rfl plain goes
end Go.Proofs.YtedkbpbodkmhlaaDoor.fnExactReplaceAt
namespace Go.Proofs.YtedkbpbodkmhlaaDoor
theorem fnExactReplaceAt_holds : Rows.FnExactReplaceAtCardSaid := fnExactReplaceAt.proved
end Go.Proofs.YtedkbpbodkmhlaaDoor
