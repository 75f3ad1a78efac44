/-
  The program's CompareTerms returns what the reference's returns and leaves its arguments as they were: for all arguments, without a condition.
-/
import Derived.Test.YtgichahebemmiaaDoorCards
import Derived.Test.YtgichahebemmiaaDoorTie
import Derived.WalkKit
import Derived.ProofKit
import Derived.OpenShut
import Derived.ShutString
import Derived.ChangeOld
import Derived.Below
import Derived.SizedLaws
import Derived.Deep.DeepHandedRow
import Derived.Deep.DeepWitnessRowRef
import Derived.Lib.LaidU8
import Derived.LaidSub
import Derived.Lib.LaidTab
import Derived.Stop.LaidErr
import Derived.Shelf.Vars
import Derived.JoinedCond
import Derived.Laws.StructEq
import Derived.Test.YtgichahebemmiaaDoorCFnExactCompareTerms0
import Derived.Test.YtgichahebemmiaaDoorCFnExactCompareTerms1
import Derived.Test.YtgichahebemmiaaDoorCFnExactCompareTerms2
import Derived.Test.YtgichahebemmiaaDoorCFnExactCompareTerms3
import Derived.Test.YtgichahebemmiaaDoorCFnExactCompareTerms4
import Derived.Test.YtgichahebemmiaaDoorCFnExactCompareTerms5
import Derived.Test.YtgichahebemmiaaDoorCFnExactCompareTerms6
import Derived.Test.YtgichahebemmiaaDoorCFnExactCompareTerms7
import Derived.Test.YtgichahebemmiaaDoorCFnExactCompareTerms8
import Derived.Test.YtgichahebemmiaaDoorCFnExactCompareTerms9
import Derived.Test.YtgichahebemmiaaDoorCFnExactCompareTerms10
import Derived.Test.YtgichahebemmiaaDoorCFnExactCompareTerms11
import Derived.Test.YtgichahebemmiaaDoorCFnExactCompareTerms12
import Derived.Test.YtgichahebemmiaaDoorCFnExactCompareTerms13
namespace Go.Proofs.YtgichahebemmiaaDoor.fnExactCompareTerms
open Go.ChangeShapes Go.WideShapes Go.ChangeAt Go.RowKit Go.Proofs.YtgichahebemmiaaDoor.Open Go.Proofs.YtgichahebemmiaaDoor.P Go.Proofs.YtgichahebemmiaaDoorW.PrintWords
open Go.ChangeMaps (open_string shut_string)
set_option linter.unusedVariables false
set_option maxRecDepth 100000 in
theorem said : Rows.FnExactCompareTermsSaid :=
 OpenClaim.holds_of_cond 3 Tryd.f3 rfl rfl rfl rfl rfl rfl rfl ⟨rfl, rfl, rfl, rfl, rfl⟩ rfl rfl rfl rfl rfl (by kernel_rfl) Tryd.func3 closed
  (of_decide_eq_true (by kernel_rfl)) (by unfold Func.isWrapper; first | (rw [if_pos (by decide +kernel)]; kernel_rfl) | (rw [if_neg (by decide +kernel)]; exact ⟨rfl, rfl⟩))
  (fun os started H enc _ F => by rw [OpenClaim.pre_eq_preRow]; exact lifted os started H enc F)
theorem plain (f : FuncId) (fn : Func) (hf : Tryd.pinned.checked.prog.funcNamed "loop.example/g00653/laws.FnExactCompareTerms" = some f) (hfn : Tryd.pinned.checked.prog.funcs[f]? = some fn) :
  false = Tryd.pinned.checked.prog.looks [] ∧ ∀ (j : Nat) t, fn.params[j]? = some t → Tryd.pinned.checked.prog.wantsStandIn t = false := by
 obtain rfl : f = 3 := Option.some.inj ((show Tryd.prog.funcNamed "loop.example/g00653/laws.FnExactCompareTerms" = some 3 by kernel_rfl).symm.trans hf) |>.symm
 obtain rfl : fn = Tryd.f3 := (Option.some.inj (Tryd.func3.symm.trans hfn)).symm
 refine ⟨by kernel_rfl, fun j t ht => ?_⟩
 rw [Tryd.params3] at ht
 have hm := Array.mem_of_getElem? ht
 simp only [List.mem_toArray, List.mem_cons, List.not_mem_nil, or_false] at hm
 rcases hm with rfl | rfl | rfl | rfl
 ·exact (show Tryd.prog.wantsStandIn 24 = false by kernel_rfl)
 ·exact (show Tryd.prog.wantsStandIn 25 = false by kernel_rfl)
 ·exact (show Tryd.prog.wantsStandIn 25 = false by kernel_rfl)
 ·exact (show Tryd.prog.wantsStandIn 25 = false by kernel_rfl)
theorem goes : false = OpenClaim.goesBy Rows.fnExactCompareTermsRow Tryd.pinned.checked.prog := by kernel_rfl
theorem proved : Rows.FnExactCompareTermsCardSaid :=
 Claim7.holds_tied_plain_at .later [] _ _ _ _ said (fun _ h => by cases h) (by kernel_rfl) (fun _ h => by cases h) fnExactCompareTerms_row_tie rfl ⟨rfl, rfl⟩ (by kernel_rfl) rfl plain goes
end Go.Proofs.YtgichahebemmiaaDoor.fnExactCompareTerms
namespace Go.Proofs.YtgichahebemmiaaDoor
theorem fnExactCompareTerms_holds : Rows.FnExactCompareTermsCardSaid := fnExactCompareTerms.proved
end Go.Proofs.YtgichahebemmiaaDoor
