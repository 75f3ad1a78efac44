/-
  A plain equation is its own plain form, and shifting all variables does not change the plain form: for all draws, without a condition.
-/
import Derived.Test.YtbdpnkpienpnaaaGreatDoorCards
import Derived.Test.YtbdpnkpienpnaaaGreatDoorTie
import Derived.WalkKit
import Derived.ProofKit
import Derived.OpenShut
import Derived.ShutString
import Derived.ChangeOld
import Derived.Below
import Derived.SizedLaws
import Derived.Deep.DeepHandedRow
import Derived.Deep.DeepWitnessRowRef
import Derived.Lib.LaidU8
import Derived.LaidSub
import Derived.Lib.LaidTab
import Derived.Stop.LaidErr
import Derived.Shelf.Vars
import Derived.JoinedCond
import Derived.Laws.StructEq
import Derived.Test.YtbdpnkpienpnaaaGreatDoorCFnPlain0
import Derived.Test.YtbdpnkpienpnaaaGreatDoorCFnPlain1
import Derived.Test.YtbdpnkpienpnaaaGreatDoorCFnPlain2
import Derived.Test.YtbdpnkpienpnaaaGreatDoorCFnPlain3
import Derived.Test.YtbdpnkpienpnaaaGreatDoorCFnPlain4
import Derived.Test.YtbdpnkpienpnaaaGreatDoorCFnPlain5
import Derived.Test.YtbdpnkpienpnaaaGreatDoorCFnPlain6
import Derived.Test.YtbdpnkpienpnaaaGreatDoorCFnPlain7
import Derived.Test.YtbdpnkpienpnaaaGreatDoorCFnPlain8
import Derived.Test.YtbdpnkpienpnaaaGreatDoorCFnPlain9
import Derived.Test.YtbdpnkpienpnaaaGreatDoorCFnPlain10
import Derived.Test.YtbdpnkpienpnaaaGreatDoorCFnPlain11
import Derived.Test.YtbdpnkpienpnaaaGreatDoorCFnPlain12
import Derived.Test.YtbdpnkpienpnaaaGreatDoorCFnPlain13
import Derived.Test.YtbdpnkpienpnaaaGreatDoorCFnPlain14
import Derived.Test.YtbdpnkpienpnaaaGreatDoorCFnPlain15
import Derived.Test.YtbdpnkpienpnaaaGreatDoorCFnPlain16
import Derived.Test.YtbdpnkpienpnaaaGreatDoorCFnPlain17
import Derived.Test.YtbdpnkpienpnaaaGreatDoorCFnPlain18
namespace Go.Proofs.YtbdpnkpienpnaaaGreatDoor.fnPlain
open Go.ChangeShapes Go.WideShapes Go.ChangeAt Go.RowKit Go.Proofs.YtbdpnkpienpnaaaGreatDoor.Open Go.Proofs.YtbdpnkpienpnaaaGreatDoor.P Go.Proofs.YtbdpnkpienpnaaaGreatDoorW.PrintWords
open Go.ChangeMaps (open_string shut_string)
set_option linter.unusedVariables false
set_option maxRecDepth 100000 in
theorem said : Rows.FnPlainSaid :=
 OpenClaim.holds_of_cond 3 Tryz.f3 rfl rfl rfl rfl rfl rfl rfl ⟨rfl, rfl, rfl, rfl, rfl⟩ rfl rfl rfl rfl rfl (by kernel_rfl) Tryz.func3 closed
  (of_decide_eq_true (by kernel_rfl)) (by unfold Func.isWrapper; first | (rw [if_pos (by decide +kernel)]; kernel_rfl) | (rw [if_neg (by decide +kernel)]; exact ⟨rfl, rfl⟩))
  (fun os started H enc _ F => by rw [OpenClaim.pre_eq_preRow]; exact lifted os started H enc F)
theorem plain (f : FuncId) (fn : Func) (hf : Tryz.pinned.checked.prog.funcNamed "loop.example/g00653/laws.FnPlain" = some f) (hfn : Tryz.pinned.checked.prog.funcs[f]? = some fn) :
  false = Tryz.pinned.checked.prog.looks [] ∧ ∀ (j : Nat) t, fn.params[j]? = some t → Tryz.pinned.checked.prog.wantsStandIn t = false := by
 obtain rfl : f = 3 := Option.some.inj ((show Tryz.prog.funcNamed "loop.example/g00653/laws.FnPlain" = some 3 by kernel_rfl).symm.trans hf) |>.symm
 obtain rfl : fn = Tryz.f3 := (Option.some.inj (Tryz.func3.symm.trans hfn)).symm
 refine ⟨by kernel_rfl, fun j t ht => ?_⟩
 rw [Tryz.params3] at ht
 have hm := Array.mem_of_getElem? ht
 simp only [List.mem_toArray, List.mem_cons, List.not_mem_nil, or_false] at hm
 rcases hm with rfl
 ·exact (show Tryz.prog.wantsStandIn 22 = false by kernel_rfl)
theorem goes : false = OpenClaim.goesBy Rows.fnPlainRow Tryz.pinned.checked.prog := by kernel_rfl
theorem proved : Rows.FnPlainCardSaid :=
 Claim7.holds_tied_plain_at .later [] _ _ _ _ said (fun _ h => by cases h) (by kernel_rfl) (fun _ h => by cases h) fnPlain_row_tie rfl ⟨rfl, rfl⟩ (by kernel_rfl) rfl plain goes
end Go.Proofs.YtbdpnkpienpnaaaGreatDoor.fnPlain
namespace Go.Proofs.YtbdpnkpienpnaaaGreatDoor
theorem fnPlain_holds : Rows.FnPlainCardSaid := fnPlain.proved
end Go.Proofs.YtbdpnkpienpnaaaGreatDoor
