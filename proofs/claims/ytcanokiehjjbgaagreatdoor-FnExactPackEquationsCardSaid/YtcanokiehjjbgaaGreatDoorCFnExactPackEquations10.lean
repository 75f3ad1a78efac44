/- A part of the proof of the law FnExactPackEquations. -/
import Derived.Test.YtcanokiehjjbgaaGreatDoorCards
import Derived.Test.YtcanokiehjjbgaaGreatDoorTie
import Derived.WalkKit
import Derived.ProofKit
import Derived.OpenShut
import Derived.ShutString
import Derived.ChangeOld
import Derived.Below
import Derived.SizedLaws
import Derived.Deep.DeepHandedRow
import Derived.Deep.DeepWitnessRowRef
import Derived.Lib.LaidU8
import Derived.LaidSub
import Derived.Lib.LaidTab
import Derived.Stop.LaidErr
import Derived.Shelf.Vars
import Derived.JoinedCond
import Derived.Laws.StructEq
import Derived.Test.YtcanokiehjjbgaaGreatDoorCFnExactPackEquations0
import Derived.Test.YtcanokiehjjbgaaGreatDoorCFnExactPackEquations1
import Derived.Test.YtcanokiehjjbgaaGreatDoorCFnExactPackEquations2
import Derived.Test.YtcanokiehjjbgaaGreatDoorCFnExactPackEquations3
import Derived.Test.YtcanokiehjjbgaaGreatDoorCFnExactPackEquations4
import Derived.Test.YtcanokiehjjbgaaGreatDoorCFnExactPackEquations5
import Derived.Test.YtcanokiehjjbgaaGreatDoorCFnExactPackEquations6
import Derived.Test.YtcanokiehjjbgaaGreatDoorCFnExactPackEquations7
import Derived.Test.YtcanokiehjjbgaaGreatDoorCFnExactPackEquations8
import Derived.Test.YtcanokiehjjbgaaGreatDoorCFnExactPackEquations9
namespace Go.Proofs.YtcanokiehjjbgaaGreatDoor.fnExactPackEquations
open Go.ChangeShapes Go.WideShapes Go.ChangeAt Go.RowKit Go.Proofs.YtcanokiehjjbgaaGreatDoor.Open Go.Proofs.YtcanokiehjjbgaaGreatDoor.P Go.Proofs.YtcanokiehjjbgaaGreatDoorW.PrintWords
open Go.ChangeMaps (open_string shut_string)
set_option linter.unusedVariables false
theorem own : ownKnob Tryz.prog.godebug = none := by kernel_rfl
theorem laidOut : laidOutB Tryz.prog = true := by kernel_rfl
set_option maxRecDepth 100000 in
theorem contract (H : Type) (enc : TypeId × Value → H) (W : World) (base : Nat) (args : Array Value) (ds gs : List (DataW H)) (before : List MemPlace)
    (hval0 : ∀ (j : Nat) t v, Tryz.f3.params[j]? = some t → args[j]? = some v → Value.okWide Tryz.prog W .any base t v)
    (hW : DataW.Whole enc Tryz.prog Tryz.f3.params.toList Rows.fnExactPackEquationsSpec.vars false W args.toList ds gs before) (hL : laidMetH Tryz.prog Rows.fnExactPackEquationsRow.laid W) (hsh : W.ShapedOpen Tryz.prog) :
    Calls Tryz.prog 3 args W fun e W' => ∃ v, e = .returned v ∧ Rows.fnExactPackEquationsSpec.post enc Tryz.prog Tryz.f3 false true false false W args v W' := by
  have hval : ∀ (j : Nat) t v, Tryz.f3.params[j]? = some t → args[j]? = some v → Value.okWide Tryz.prog W .any base t v := hval0
  have hW' := hW
  obtain ⟨p, q, hA0, hV, rfl, hfz, hnd⟩ := hW
  have hA : DataW.TrodAll enc Tryz.prog W 0 (fun _ => true) true Tryz.f3.params.toList args.toList ds p := hA0
  rw [Tryz.params3] at hA hval
  obtain ⟨v0, vs0, d0, ds0, p0, q0, hargs, rfl, rfl, h0, r0⟩ := trodAll_cons hA
  obtain ⟨v1, vs1, d1, ds1, p1, q1, rfl, rfl, rfl, h1, r1⟩ := trodAll_cons r0
  obtain ⟨rfl, rfl, rfl⟩ := trodAll_nil r1
  obtain rfl : args = #[v0, v1] := by cases args; simp_all
  obtain ⟨rfl, rfl⟩ := trodVars_none hV
  have k0 := h0
  have lt0 : ∀ x ∈ p0, x.block < W.heap.size := by obtain ⟨m, hm⟩ := k0; exact DataW.trod_lt m _ _ _ hm
  obtain ⟨A0, c0, l0, rfl, hc0, hr0, w0⟩ := arg_struct1 Tryz.underlying24 (hval 0 24 v0 rfl rfl) h0 (Opens.struct1 Tryz.underlying24 rfl (by kernel_rfl) (Opens.slice_ (d := k122) Tryz.underlying22 (by kernel_rfl) (Opens.iso_ (Opens.struct2 Tryz.underlying122 rfl rfl (by kernel_rfl) (Opens.string_ Tryz.underlying9) (Opens.int_ Tryz.underlying2)) (fun x : S122 => (x.f0, x.f1)) (fun a => (⟨a.1, a.2⟩ : S122)) (fun _ => rfl))))
  have k1 := h1
  have lt1 : ∀ x ∈ p1, x.block < W.heap.size := by obtain ⟨m, hm⟩ := k1; exact DataW.trod_lt m _ _ _ hm
  obtain ⟨A1, c1, l1, rfl, hc1, hr1, w1⟩ := arg_slice Tryz.underlying25 (hval 1 25 v1 rfl rfl) h1 (Opens.slice_ (d := k73) Tryz.underlying25 (by kernel_rfl) (Opens.iso_ (Opens.struct2 Tryz.underlying73 rfl rfl (by kernel_rfl) (Opens.slice_ (d := (Kd.int .i64)) Tryz.underlying45 (by kernel_rfl) (Opens.int_ Tryz.underlying2)) (Opens.slice_ (d := (Kd.int .i64)) Tryz.underlying45 (by kernel_rfl) (Opens.int_ Tryz.underlying2))) (fun x : S73 => (x.f0, x.f1)) (fun a => (⟨a.1, a.2⟩ : S73)) (fun _ => rfl)))
  clear hA0 hval0
  obtain ⟨k, hk⟩ := Pure.FnExactPackEquations l0 l1 w0 w1
  refine (laws_FnExactPackEquations.calls k A0 c0 l0 A1 c1 l1 true W hr0 hc0 hr1 hc1 hk).mono fun e W' ⟨he, bel0⟩ => ?_
  have bel : Below W.heap.size W W' := bel0
  subst he
  exact ⟨_, rfl, _, _, _, [], _, [], hW', trodAll_mk1 (shut_bool Tryz.underlying4 _), (trodAll_cons_mk (Below.trod laidOut (by kernel_rfl) (of_decide_eq_true (by kernel_rfl)) k0 bel lt0) (trodAll_cons_mk (Below.trod laidOut (by kernel_rfl) (of_decide_eq_true (by kernel_rfl)) k1 bel lt1) trodAll_mk0)), rfl, bel.frame _, fun h => by cases h⟩
noncomputable def laidWorld (os : Os) : World :=
  let w0 := World.holding Tryz.prog os ⟨#[], #[], []⟩
  let put (h : Array Obj) (g : Nat) (cs : Array Value) : Array Obj := h.modify g fun
    | .cells _ t frozen => .cells cs t frozen
    | o => o
  let h0 := put w0.heap 2 ((List.range 16).flatMap fun i => [Value.int .u8 (Lib.accLo i), Value.int .u8 (Lib.accHi i)]).toArray
  let h1 := put h0 1 (Lib.firstTab.map fun z => Value.int .u8 z).toArray
  { w0 with heap := h1 }
set_option maxRecDepth 100000 in
theorem laid_met (os : Os) : laidMet Tryz.prog Rows.fnExactPackEquationsRow.laid ((laidWorld os).forCall (fun _ _ => 0) ⟨#[], #[.agg #[.slice none 0 0], .slice none 0 0], []⟩).memory :=
  laidMet_of_run' 8 (by kernel_rfl) (by kernel_rfl)
set_option maxRecDepth 100000 in
theorem reads (os : Os) {H : Type} (enc : TypeId × Value → H) : ∃ places, DataW.whole enc Tryz.prog ((laidWorld os).forCall (fun _ _ => 0) ⟨#[], #[.agg #[.slice none 0 0], .slice none 0 0], []⟩).memory Tryz.f3.params.toList Rows.fnExactPackEquationsSpec.vars false (#[.agg #[.slice none 0 0], .slice none 0 0] : Array Value).toList 8 = some ([.agg [.nil], .nil], [], places) :=
  ⟨[], by kernel_rfl⟩
set_option maxRecDepth 100000 in
theorem lifted (os : Os) (started : os.Started) (H : Type) (enc : TypeId × Value → H) (F : Stop.Interp) :
    ReturnsInHanded {} Tryz.checked os 3 .any ((OpenSpec.ofChange Rows.fnExactPackEquationsSpec).preRow enc Tryz.prog Tryz.f3 Rows.fnExactPackEquationsRow.domain false Rows.fnExactPackEquationsRow.laid) (((OpenSpec.ofChange Rows.fnExactPackEquationsSpec).at F).post enc Tryz.prog Tryz.f3 false true false false) := by
  obtain ⟨places, hx⟩ := reads os enc
  refine returnsInHanded_of_row (C := Tryz.checked) (s := OpenSpec.ofChange Rows.fnExactPackEquationsSpec) own started (by kernel_rfl) Tryz.func3
    (witness_row_at (enc := enc) (C := Tryz.checked) false (laidWorld os) #[.agg #[.slice none 0 0], .slice none 0 0] rfl (by kernel_rfl) (by kernel_rfl) (by kernel_rfl)
      (OpenSpec.preRow_of_cond 8 hx (by kernel_rfl) (fun k hk => by cases hk) (by kernel_rfl) (laid_met os))) ?_
  intro W base args ds gs before hval hW _ _ _ hL hsh _
  exact contract H enc W base args ds gs before hval hW hL hsh
end Go.Proofs.YtcanokiehjjbgaaGreatDoor.fnExactPackEquations
