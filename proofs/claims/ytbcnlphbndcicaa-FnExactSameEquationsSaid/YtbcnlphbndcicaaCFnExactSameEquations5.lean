/-
  The program's SameEquations returns what the reference's SameEquations returns and leaves both lists as they were: for all lists of equations, without a condition.
-/
import Derived.Test.YtbcnlphbndcicaaRows
import Derived.WalkKit
import Derived.ProofKit
import Derived.OpenShut
import Derived.ShutString
import Derived.ChangeOld
import Derived.Below
import Derived.SizedLaws
import Derived.Deep.DeepHandedRow
import Derived.Deep.DeepWitnessRowRef
import Derived.Lib.LaidU8
import Derived.JoinedCond
import Derived.Laws.StructEq
import Derived.Test.YtbcnlphbndcicaaCFnExactSameEquations0
import Derived.Test.YtbcnlphbndcicaaCFnExactSameEquations1
import Derived.Test.YtbcnlphbndcicaaCFnExactSameEquations2
import Derived.Test.YtbcnlphbndcicaaCFnExactSameEquations3
import Derived.Test.YtbcnlphbndcicaaCFnExactSameEquations4
namespace Go.Proofs.Ytbcnlphbndcicaa.fnExactSameEquations
open Go.ChangeShapes Go.WideShapes Go.ChangeAt Go.RowKit Go.Proofs.Ytbcnlphbndcicaa.Open Go.Proofs.Ytbcnlphbndcicaa.P Go.Proofs.YtbcnlphbndcicaaW.PrintWords
open Go.ChangeMaps (open_string shut_string)
set_option linter.unusedVariables false
theorem own : ownKnob Try.prog.godebug = none := by kernel_rfl
theorem laidOut : laidOutB Try.prog = true := by kernel_rfl
set_option maxRecDepth 100000 in
theorem contract (H : Type) (enc : TypeId × Value → H) (W : World) (base : Nat) (args : Array Value) (ds gs : List (DataW H)) (before : List MemPlace)
    (hval0 : ∀ (j : Nat) t v, Try.f5.params[j]? = some t → args[j]? = some v → Value.okWide Try.prog W .any base t v)
    (hW : DataW.Whole enc Try.prog Try.f5.params.toList Rows.fnExactSameEquationsSpec.vars false W args.toList ds gs before) :
    Calls Try.prog 5 args W fun e W' => ∃ v, e = .returned v ∧ Rows.fnExactSameEquationsSpec.post enc Try.prog Try.f5 false true false false W args v W' := by
  have hval : ∀ (j : Nat) t v, Try.f5.params[j]? = some t → args[j]? = some v → Value.okWide Try.prog W .any base t v := hval0
  have hW' := hW
  obtain ⟨p, q, hA0, hV, rfl, hfz, hnd⟩ := hW
  have hA : DataW.TrodAll enc Try.prog W 0 (fun _ => true) true Try.f5.params.toList args.toList ds p := hA0
  rw [Try.params5] at hA hval
  obtain ⟨v0, vs0, d0, ds0, p0, q0, hargs, rfl, rfl, h0, r0⟩ := trodAll_cons hA
  obtain ⟨v1, vs1, d1, ds1, p1, q1, rfl, rfl, rfl, h1, r1⟩ := trodAll_cons r0
  obtain ⟨rfl, rfl, rfl⟩ := trodAll_nil r1
  obtain rfl : args = #[v0, v1] := by cases args; simp_all
  obtain ⟨rfl, rfl⟩ := trodVars_none hV
  have k0 := h0
  have lt0 : ∀ x ∈ p0, x.block < W.heap.size := by obtain ⟨m, hm⟩ := k0; exact DataW.trod_lt m _ _ _ hm
  obtain ⟨A0, c0, l0, rfl, hc0, hr0, w0⟩ := arg_slice Try.underlying39 (hval 0 39 v0 rfl rfl) h0 (Opens.slice_ (d := k62) Try.underlying39 (by kernel_rfl) (Opens.iso_ (Opens.struct2 Try.underlying62 rfl rfl (by kernel_rfl) (Opens.slice_ (d := (Kd.int .i64)) Try.underlying30 (by kernel_rfl) (Opens.int_ Try.underlying2)) (Opens.slice_ (d := (Kd.int .i64)) Try.underlying30 (by kernel_rfl) (Opens.int_ Try.underlying2))) (fun x : S62 => (x.f0, x.f1)) (fun a => (⟨a.1, a.2⟩ : S62)) (fun _ => rfl)))
  have k1 := h1
  have lt1 : ∀ x ∈ p1, x.block < W.heap.size := by obtain ⟨m, hm⟩ := k1; exact DataW.trod_lt m _ _ _ hm
  obtain ⟨A1, c1, l1, rfl, hc1, hr1, w1⟩ := arg_slice Try.underlying39 (hval 1 39 v1 rfl rfl) h1 (Opens.slice_ (d := k62) Try.underlying39 (by kernel_rfl) (Opens.iso_ (Opens.struct2 Try.underlying62 rfl rfl (by kernel_rfl) (Opens.slice_ (d := (Kd.int .i64)) Try.underlying30 (by kernel_rfl) (Opens.int_ Try.underlying2)) (Opens.slice_ (d := (Kd.int .i64)) Try.underlying30 (by kernel_rfl) (Opens.int_ Try.underlying2))) (fun x : S62 => (x.f0, x.f1)) (fun a => (⟨a.1, a.2⟩ : S62)) (fun _ => rfl)))
  clear hA0 hval0
  obtain ⟨k, hk⟩ := Pure.FnExactSameEquations l0 l1 w0 w1
  refine (laws_FnExactSameEquations.calls k A0 c0 l0 A1 c1 l1 true W hr0 hc0 hr1 hc1 hk).mono fun e W' ⟨he, bel0⟩ => ?_
  have bel : Below W.heap.size W W' := bel0
  subst he
  exact ⟨_, rfl, _, _, _, [], _, [], hW', trodAll_mk1 (shut_bool Try.underlying4 _), (trodAll_cons_mk (Below.trod laidOut (by kernel_rfl) (of_decide_eq_true (by kernel_rfl)) k0 bel lt0) (trodAll_cons_mk (Below.trod laidOut (by kernel_rfl) (of_decide_eq_true (by kernel_rfl)) k1 bel lt1) trodAll_mk0)), rfl, bel.frame _, fun h => by cases h⟩
set_option maxRecDepth 100000 in
theorem lifted (os : Os) (started : os.Started) (H : Type) (enc : TypeId × Value → H) :
    ReturnsInHanded {} Try.checked os 5 .any (Rows.fnExactSameEquationsSpec.pre6 enc Try.prog Try.f5 Rows.fnExactSameEquationsRow.domain false) (Rows.fnExactSameEquationsSpec.post enc Try.prog Try.f5 false true false false) := by
  refine returnsInHanded_of_change_sized (C := Try.checked) own started (by kernel_rfl) Try.func5
    (ChangeSpec.witness6 (enc := enc) (C := Try.checked) false ⟨#[], #[.slice none 0 0, .slice none 0 0], []⟩ 8 (by kernel_rfl) (by kernel_rfl) (by kernel_rfl) (by kernel_rfl)) ?_
  intro W base args ds gs before hval hW _ _ _
  exact contract H enc W base args ds gs before hval hW
theorem over : Rows.fnExactSameEquationsRow.holds Try.pinned (OpenSpec.ofChange Rows.fnExactSameEquationsSpec) :=
  OpenClaim.holds_of_wide 5 Try.f5 rfl rfl rfl rfl rfl rfl rfl ⟨rfl, rfl, rfl, rfl, rfl⟩ rfl rfl rfl rfl rfl (by kernel_rfl) Try.func5 (by kernel_rfl)
    (of_decide_eq_true (by kernel_rfl)) (by unfold Func.isWrapper; first | (rw [if_pos (by decide +kernel)]; kernel_rfl) | (rw [if_neg (by decide +kernel)]; exact ⟨rfl, rfl⟩))
    (fun os started H enc _ => lifted os started H enc)
theorem proved : Rows.FnExactSameEquationsSaid := over
end Go.Proofs.Ytbcnlphbndcicaa.fnExactSameEquations
namespace Go.Proofs.Ytbcnlphbndcicaa
theorem fnExactSameEquations_holds : Rows.FnExactSameEquationsSaid := fnExactSameEquations.proved
end Go.Proofs.Ytbcnlphbndcicaa
