/-
  At the signature, the precedence and the symbol that any code draws: the program raises the symbol as the reference does, the raised precedence has no fault, and its rank changes with that of one other symbol alone: for all codes, without a condition.
-/
import Derived.Test.YtedkbpbodkmhlaaDoorCards
import Derived.Test.YtedkbpbodkmhlaaDoorTie
import Derived.WalkKit
import Derived.ProofKit
import Derived.OpenShut
import Derived.ShutString
import Derived.ChangeOld
import Derived.Below
import Derived.SizedLaws
import Derived.Deep.DeepHandedRow
import Derived.Deep.DeepWitnessRowRef
import Derived.Lib.LaidU8
import Derived.LaidSub
import Derived.Lib.LaidTab
import Derived.Stop.LaidErr
import Derived.JoinedCond
import Derived.Test.YtedkbpbodkmhlaaDoorCFnRanks0
import Derived.Test.YtedkbpbodkmhlaaDoorCFnRanks1
import Derived.Test.YtedkbpbodkmhlaaDoorCFnRanks2
import Derived.Test.YtedkbpbodkmhlaaDoorCFnRanks3
import Derived.Test.YtedkbpbodkmhlaaDoorCFnRanks4
import Derived.Test.YtedkbpbodkmhlaaDoorCFnRanks5
import Derived.Test.YtedkbpbodkmhlaaDoorCFnRanks6
import Derived.Test.YtedkbpbodkmhlaaDoorCFnRanks7
import Derived.Test.YtedkbpbodkmhlaaDoorCFnRanks8
import Derived.Test.YtedkbpbodkmhlaaDoorCFnRanks9
import Derived.Test.YtedkbpbodkmhlaaDoorCFnRanks10
import Derived.Test.YtedkbpbodkmhlaaDoorCFnRanks11
namespace Go.Proofs.YtedkbpbodkmhlaaDoor.fnRanks
open Go.ChangeShapes Go.WideShapes Go.ChangeAt Go.RowKit Go.Proofs.YtedkbpbodkmhlaaDoor.Open Go.Proofs.YtedkbpbodkmhlaaDoor.P Go.Proofs.YtedkbpbodkmhlaaDoorW.PrintWords
open Go.ChangeMaps (open_string shut_string)
set_option linter.unusedVariables false
set_option maxRecDepth 100000 in
theorem said : Rows.FnRanksSaid :=
 OpenClaim.holds_of_cond 7 Tryd.f7 rfl rfl rfl rfl rfl rfl rfl ⟨rfl, rfl, rfl, rfl, rfl⟩ rfl rfl rfl rfl rfl (by kernel_rfl) Tryd.func7 closed
  (of_decide_eq_true (by kernel_rfl)) (by unfold Func.isWrapper; first | (rw [if_pos (by decide +kernel)]; kernel_rfl) | (rw [if_neg (by decide +kernel)]; exact ⟨rfl, rfl⟩))
  (fun os started H enc _ F => by rw [OpenClaim.pre_eq_preRow]; exact lifted os started H enc F)
theorem plain (f : FuncId) (fn : Func) (hf : Tryd.pinned.checked.prog.funcNamed "loop.example/g00653/laws.FnRanks" = some f) (hfn : Tryd.pinned.checked.prog.funcs[f]? = some fn) :
  true = Tryd.pinned.checked.prog.looks [] ∧ ∀ (j : Nat) t, fn.params[j]? = some t → Tryd.pinned.checked.prog.wantsStandIn t = false := by
 obtain rfl : f = 7 := Option.some.inj ((show Tryd.prog.funcNamed "loop.example/g00653/laws.FnRanks" = some 7 by kernel_rfl).symm.trans hf) |>.symm
 obtain rfl : fn = Tryd.f7 := (Option.some.inj (Tryd.func7.symm.trans hfn)).symm
 refine ⟨by kernel_rfl, fun j t ht => ?_⟩
 rw [Tryd.params7] at ht
 have hm := Array.mem_of_getElem? ht
 simp only [List.mem_toArray, List.mem_cons, List.not_mem_nil, or_false] at hm
 rcases hm with rfl
 ·exact (show Tryd.prog.wantsStandIn 36 = false by kernel_rfl)
theorem goes : false = OpenClaim.goesBy Rows.fnRanksRow Tryd.pinned.checked.prog := by kernel_rfl
theorem proved : Rows.FnRanksCardSaid :=
 Claim7.holds_tied_plain_at .later [] _ _ _ _ said (fun _ h => by cases h) (by kernel_rfl) (fun _ h => by cases h) fnRanks_row_tie rfl ⟨rfl, rfl⟩ (by kernel_rfl) rfl plain goes
end Go.Proofs.YtedkbpbodkmhlaaDoor.fnRanks
namespace Go.Proofs.YtedkbpbodkmhlaaDoor
theorem fnRanks_holds : Rows.FnRanksCardSaid := fnRanks.proved
end Go.Proofs.YtedkbpbodkmhlaaDoor
