/-
  What was put at a place of a term is there, and putting the old term back restores the term: for all draws, without a condition.
-/
import Derived.Test.YtedkbpbodkmhlaaDoorCards
import Derived.Test.YtedkbpbodkmhlaaDoorTie
import Derived.WalkKit
import Derived.ProofKit
import Derived.OpenShut
import Derived.ShutString
import Derived.ChangeOld
import Derived.Below
import Derived.SizedLaws
import Derived.Deep.DeepHandedRow
import Derived.Deep.DeepWitnessRowRef
import Derived.Lib.LaidU8
import Derived.LaidSub
import Derived.Lib.LaidTab
import Derived.Stop.LaidErr
import Derived.JoinedCond
import Derived.Laws.StructEq
import Derived.Test.YtedkbpbodkmhlaaDoorCFnReplaces0
import Derived.Test.YtedkbpbodkmhlaaDoorCFnReplaces1
import Derived.Test.YtedkbpbodkmhlaaDoorCFnReplaces2
import Derived.Test.YtedkbpbodkmhlaaDoorCFnReplaces3
import Derived.Test.YtedkbpbodkmhlaaDoorCFnReplaces4
import Derived.Test.YtedkbpbodkmhlaaDoorCFnReplaces5
import Derived.Test.YtedkbpbodkmhlaaDoorCFnReplaces6
import Derived.Test.YtedkbpbodkmhlaaDoorCFnReplaces7
import Derived.Test.YtedkbpbodkmhlaaDoorCFnReplaces8
import Derived.Test.YtedkbpbodkmhlaaDoorCFnReplaces9
import Derived.Test.YtedkbpbodkmhlaaDoorCFnReplaces10
import Derived.Test.YtedkbpbodkmhlaaDoorCFnReplaces11
import Derived.Test.YtedkbpbodkmhlaaDoorCFnReplaces12
import Derived.Test.YtedkbpbodkmhlaaDoorCFnReplaces13
import Derived.Test.YtedkbpbodkmhlaaDoorCFnReplaces14
namespace Go.Proofs.YtedkbpbodkmhlaaDoor.fnReplaces
open Go.ChangeShapes Go.WideShapes Go.ChangeAt Go.RowKit Go.Proofs.YtedkbpbodkmhlaaDoor.Open Go.Proofs.YtedkbpbodkmhlaaDoor.P Go.Proofs.YtedkbpbodkmhlaaDoorW.PrintWords
open Go.ChangeMaps (open_string shut_string)
set_option linter.unusedVariables false
set_option maxRecDepth 100000 in
theorem said : Rows.FnReplacesSaid :=
 OpenClaim.holds_of_cond 11 Tryd.f11 rfl rfl rfl rfl rfl rfl rfl ⟨rfl, rfl, rfl, rfl, rfl⟩ rfl rfl rfl rfl rfl (by kernel_rfl) Tryd.func11 closed
  (of_decide_eq_true (by kernel_rfl)) (by unfold Func.isWrapper; first | (rw [if_pos (by decide +kernel)]; kernel_rfl) | (rw [if_neg (by decide +kernel)]; exact ⟨rfl, rfl⟩))
  (fun os started H enc _ F => by rw [OpenClaim.pre_eq_preRow]; exact lifted os started H enc F)
theorem plain (f : FuncId) (fn : Func) (hf : Tryd.pinned.checked.prog.funcNamed "loop.example/g00653/laws.FnReplaces" = some f) (hfn : Tryd.pinned.checked.prog.funcs[f]? = some fn) :
  true = Tryd.pinned.checked.prog.looks [] ∧ ∀ (j : Nat) t, fn.params[j]? = some t → Tryd.pinned.checked.prog.wantsStandIn t = false := by
 obtain rfl : f = 11 := Option.some.inj ((show Tryd.prog.funcNamed "loop.example/g00653/laws.FnReplaces" = some 11 by kernel_rfl).symm.trans hf) |>.symm
 obtain rfl : fn = Tryd.f11 := (Option.some.inj (Tryd.func11.symm.trans hfn)).symm
 refine ⟨by kernel_rfl, fun j t ht => ?_⟩
 rw [Tryd.params11] at ht
 have hm := Array.mem_of_getElem? ht
 simp only [List.mem_toArray, List.mem_cons, List.not_mem_nil, or_false] at hm
 rcases hm with rfl
 ·exact (show Tryd.prog.wantsStandIn 36 = false by kernel_rfl)
theorem goes : false = OpenClaim.goesBy Rows.fnReplacesRow Tryd.pinned.checked.prog := by kernel_rfl
theorem proved : Rows.FnReplacesCardSaid :=
 Claim7.holds_tied_plain_at .later [] _ _ _ _ said (fun _ h => by cases h) (by kernel_rfl) (fun _ h => by cases h) fnReplaces_row_tie rfl ⟨rfl, rfl⟩ (by kernel_rfl) rfl plain goes
end Go.Proofs.YtedkbpbodkmhlaaDoor.fnReplaces
namespace Go.Proofs.YtedkbpbodkmhlaaDoor
theorem fnReplaces_holds : Rows.FnReplacesCardSaid := fnReplaces.proved
end Go.Proofs.YtedkbpbodkmhlaaDoor
