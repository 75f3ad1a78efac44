/-
  A number is read back from its text, and has one text alone: for all draws, without a condition.
-/
import Derived.Test.YtedkbpbodkmhlaaDoorCards
import Derived.Test.YtedkbpbodkmhlaaDoorTie
import Derived.WalkKit
import Derived.ProofKit
import Derived.OpenShut
import Derived.ShutString
import Derived.ChangeOld
import Derived.Below
import Derived.SizedLaws
import Derived.Deep.DeepHandedRow
import Derived.Deep.DeepWitnessRowRef
import Derived.Lib.LaidU8
import Derived.LaidSub
import Derived.Lib.LaidTab
import Derived.Stop.LaidErr
import Derived.JoinedCond
import Derived.Lib.SlTrimSet
import Derived.Lib.Strings
import Derived.Test.YtedkbpbodkmhlaaDoorCFnNumbers0
import Derived.Test.YtedkbpbodkmhlaaDoorCFnNumbers1
import Derived.Test.YtedkbpbodkmhlaaDoorCFnNumbers2
import Derived.Test.YtedkbpbodkmhlaaDoorCFnNumbers3
import Derived.Test.YtedkbpbodkmhlaaDoorCFnNumbers4
import Derived.Test.YtedkbpbodkmhlaaDoorCFnNumbers5
import Derived.Test.YtedkbpbodkmhlaaDoorCFnNumbers6
namespace Go.Proofs.YtedkbpbodkmhlaaDoor.fnNumbers
open Go.ChangeShapes Go.WideShapes Go.ChangeAt Go.RowKit Go.Proofs.YtedkbpbodkmhlaaDoor.Open Go.Proofs.YtedkbpbodkmhlaaDoor.P Go.Proofs.YtedkbpbodkmhlaaDoorW.PrintWords
open Go.ChangeMaps (open_string shut_string)
set_option linter.unusedVariables false
set_option maxRecDepth 100000 in
theorem said : Rows.FnNumbersSaid :=
  OpenClaim.holds_of_cond 6 Tryd.f6 rfl rfl rfl rfl rfl rfl rfl ⟨rfl, rfl, rfl, rfl, rfl⟩ rfl rfl rfl rfl rfl (by kernel_rfl) Tryd.func6 closed
    (of_decide_eq_true (by kernel_rfl)) (by unfold Func.isWrapper; first | (rw [if_pos (by decide +kernel)]; kernel_rfl) | (rw [if_neg (by decide +kernel)]; exact ⟨rfl, rfl⟩))
    (fun os started H enc _ F => by rw [OpenClaim.pre_eq_preRow]; exact lifted os started H enc F)
theorem plain (f : FuncId) (fn : Func) (hf : Tryd.pinned.checked.prog.funcNamed "loop.example/g00653/laws.FnNumbers" = some f) (hfn : Tryd.pinned.checked.prog.funcs[f]? = some fn) :
    true = Tryd.pinned.checked.prog.looks [] ∧ ∀ (j : Nat) t, fn.params[j]? = some t → Tryd.pinned.checked.prog.wantsStandIn t = false := by
  obtain rfl : f = 6 := Option.some.inj ((show Tryd.prog.funcNamed "loop.example/g00653/laws.FnNumbers" = some 6 by kernel_rfl).symm.trans hf) |>.symm
  obtain rfl : fn = Tryd.f6 := (Option.some.inj (Tryd.func6.symm.trans hfn)).symm
  refine ⟨by kernel_rfl, fun j t ht => ?_⟩
  rw [Tryd.params6] at ht
  have hm := Array.mem_of_getElem? ht
  simp only [List.mem_toArray, List.mem_cons, List.not_mem_nil, or_false] at hm
  rcases hm with rfl
  · exact (show Tryd.prog.wantsStandIn 36 = false by kernel_rfl)
theorem goes : false = OpenClaim.goesBy Rows.fnNumbersRow Tryd.pinned.checked.prog := by kernel_rfl
theorem proved : Rows.FnNumbersCardSaid :=
  Claim7.holds_tied_plain_at .later [] _ _ _ _ said (fun _ h => by cases h) (by kernel_rfl) (fun _ h => by cases h) fnNumbers_row_tie rfl ⟨rfl, rfl⟩ (by kernel_rfl) rfl plain goes
end Go.Proofs.YtedkbpbodkmhlaaDoor.fnNumbers
namespace Go.Proofs.YtedkbpbodkmhlaaDoor
theorem fnNumbers_holds : Rows.FnNumbersCardSaid := fnNumbers.proved
end Go.Proofs.YtedkbpbodkmhlaaDoor
