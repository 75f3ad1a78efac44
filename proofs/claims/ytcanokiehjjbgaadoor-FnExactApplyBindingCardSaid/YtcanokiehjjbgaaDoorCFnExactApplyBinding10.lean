/- A part of the proof of the law FnExactApplyBinding. -/
import Derived.Test.YtcanokiehjjbgaaDoorCards
import Derived.Test.YtcanokiehjjbgaaDoorTie
import Derived.WalkKit
import Derived.ProofKit
import Derived.OpenShut
import Derived.ShutString
import Derived.ChangeOld
import Derived.Below
import Derived.SizedLaws
import Derived.Deep.DeepHandedRow
import Derived.Deep.DeepWitnessRowRef
import Derived.Lib.LaidU8
import Derived.LaidSub
import Derived.Lib.LaidTab
import Derived.Stop.LaidErr
import Derived.Shelf.Vars
import Derived.JoinedCond
import Derived.Laws.StructEq
import Derived.Test.YtcanokiehjjbgaaDoorCFnExactApplyBinding0
import Derived.Test.YtcanokiehjjbgaaDoorCFnExactApplyBinding1
import Derived.Test.YtcanokiehjjbgaaDoorCFnExactApplyBinding2
import Derived.Test.YtcanokiehjjbgaaDoorCFnExactApplyBinding3
import Derived.Test.YtcanokiehjjbgaaDoorCFnExactApplyBinding4
import Derived.Test.YtcanokiehjjbgaaDoorCFnExactApplyBinding5
import Derived.Test.YtcanokiehjjbgaaDoorCFnExactApplyBinding6
import Derived.Test.YtcanokiehjjbgaaDoorCFnExactApplyBinding7
import Derived.Test.YtcanokiehjjbgaaDoorCFnExactApplyBinding8
import Derived.Test.YtcanokiehjjbgaaDoorCFnExactApplyBinding9
namespace Go.Proofs.YtcanokiehjjbgaaDoor.fnExactApplyBinding
open Go.ChangeShapes Go.WideShapes Go.ChangeAt Go.RowKit Go.Proofs.YtcanokiehjjbgaaDoor.Open Go.Proofs.YtcanokiehjjbgaaDoor.P Go.Proofs.YtcanokiehjjbgaaDoorW.PrintWords
open Go.ChangeMaps (open_string shut_string)
set_option linter.unusedVariables false
theorem own : ownKnob Tryd.prog.godebug = none := by kernel_rfl
theorem laidOut : laidOutB Tryd.prog = true := by kernel_rfl
set_option maxRecDepth 100000 in
theorem contract (H : Type) (enc : TypeId × Value → H) (W : World) (base : Nat) (args : Array Value) (ds gs : List (DataW H)) (before : List MemPlace)
    (hval0 : ∀ (j : Nat) t v, Tryd.f5.params[j]? = some t → args[j]? = some v → Value.okWide Tryd.prog W .any base t v)
    (hW : DataW.Whole enc Tryd.prog Tryd.f5.params.toList Rows.fnExactApplyBindingSpec.vars false W args.toList ds gs before) (hL : laidMetH Tryd.prog Rows.fnExactApplyBindingRow.laid W) (hsh : W.ShapedOpen Tryd.prog) :
    Calls Tryd.prog 5 args W fun e W' => ∃ v, e = .returned v ∧ Rows.fnExactApplyBindingSpec.post enc Tryd.prog Tryd.f5 false true false false W args v W' := by
  have hval : ∀ (j : Nat) t v, Tryd.f5.params[j]? = some t → args[j]? = some v → Value.okWide Tryd.prog W .any base t v := hval0
  have hW' := hW
  obtain ⟨p, q, hA0, hV, rfl, hfz, hnd⟩ := hW
  have hA : DataW.TrodAll enc Tryd.prog W 0 (fun _ => true) true Tryd.f5.params.toList args.toList ds p := hA0
  rw [Tryd.params5] at hA hval
  obtain ⟨v0, vs0, d0, ds0, p0, q0, hargs, rfl, rfl, h0, r0⟩ := trodAll_cons hA
  obtain ⟨v1, vs1, d1, ds1, p1, q1, rfl, rfl, rfl, h1, r1⟩ := trodAll_cons r0
  obtain ⟨v2, vs2, d2, ds2, p2, q2, rfl, rfl, rfl, h2, r2⟩ := trodAll_cons r1
  obtain ⟨rfl, rfl, rfl⟩ := trodAll_nil r2
  obtain rfl : args = #[v0, v1, v2] := by cases args; simp_all
  obtain ⟨rfl, rfl⟩ := trodVars_none hV
  have k0 := h0
  have lt0 : ∀ x ∈ p0, x.block < W.heap.size := by obtain ⟨m, hm⟩ := k0; exact DataW.trod_lt m _ _ _ hm
  obtain ⟨A0, c0, l0, rfl, hc0, hr0, w0⟩ := arg_struct1 Tryd.underlying42 (hval 0 42 v0 rfl rfl) h0 (Opens.struct1 Tryd.underlying42 rfl (by kernel_rfl) (Opens.slice_ (d := k123) Tryd.underlying40 (by kernel_rfl) (Opens.iso_ (Opens.struct2 Tryd.underlying123 rfl rfl (by kernel_rfl) (Opens.string_ Tryd.underlying9) (Opens.int_ Tryd.underlying2)) (fun x : S123 => (x.f0, x.f1)) (fun a => (⟨a.1, a.2⟩ : S123)) (fun _ => rfl))))
  have k1 := h1
  have lt1 : ∀ x ∈ p1, x.block < W.heap.size := by obtain ⟨m, hm⟩ := k1; exact DataW.trod_lt m _ _ _ hm
  obtain ⟨A1, c1, l1, B1, e1, m1, rfl, ⟨hc1, hr1⟩, ⟨hd1, hs1⟩, w1⟩ := arg_struct2 Tryd.underlying62 (hval 1 62 v1 rfl rfl) h1 (Opens.struct2 Tryd.underlying62 rfl rfl (by kernel_rfl) (Opens.slice_ (d := (Kd.int .i64)) Tryd.underlying27 (by kernel_rfl) (Opens.int_ Tryd.underlying2)) (Opens.slice_ (d := (Kd.slice 2 (Kd.int .i64))) Tryd.underlying60 (by kernel_rfl) (Opens.slice_ (d := (Kd.int .i64)) Tryd.underlying27 (by kernel_rfl) (Opens.int_ Tryd.underlying2))))
  have k2 := h2
  have lt2 : ∀ x ∈ p2, x.block < W.heap.size := by obtain ⟨m, hm⟩ := k2; exact DataW.trod_lt m _ _ _ hm
  obtain ⟨A2, c2, l2, rfl, hc2, hr2, w2⟩ := arg_slice Tryd.underlying27 (hval 2 27 v2 rfl rfl) h2 (Opens.slice_ (d := (Kd.int .i64)) Tryd.underlying27 (by kernel_rfl) (Opens.int_ Tryd.underlying2))
  clear hA0 hval0
  obtain ⟨k, hk⟩ := Pure.FnExactApplyBinding l0 l1 m1 l2 w0 w1.1 w1.2 w2
  refine (laws_FnExactApplyBinding.calls k A0 c0 l0 A1 c1 l1 B1 e1 m1 A2 c2 l2 true W hr0 hc0 hr1 hc1 hs1 hd1 hr2 hc2 hk).mono fun e W' ⟨he, bel0⟩ => ?_
  have bel : Below W.heap.size W W' := bel0
  subst he
  exact ⟨_, rfl, _, _, _, [], _, [], hW', trodAll_mk1 (shut_bool Tryd.underlying4 _), (trodAll_cons_mk (Below.trod laidOut (by kernel_rfl) (of_decide_eq_true (by kernel_rfl)) k0 bel lt0) (trodAll_cons_mk (Below.trod laidOut (by kernel_rfl) (of_decide_eq_true (by kernel_rfl)) k1 bel lt1) (trodAll_cons_mk (Below.trod laidOut (by kernel_rfl) (of_decide_eq_true (by kernel_rfl)) k2 bel lt2) trodAll_mk0))), rfl, bel.frame _, fun h => by cases h⟩
noncomputable def laidWorld (os : Os) : World :=
  let w0 := World.holding Tryd.prog os ⟨#[], #[], []⟩
  let put (h : Array Obj) (g : Nat) (cs : Array Value) : Array Obj := h.modify g fun
    | .cells _ t frozen => .cells cs t frozen
    | o => o
  let h0 := put w0.heap 1 ((List.range 16).flatMap fun i => [Value.int .u8 (Lib.accLo i), Value.int .u8 (Lib.accHi i)]).toArray
  let h1 := put h0 0 (Lib.firstTab.map fun z => Value.int .u8 z).toArray
  { w0 with heap := h1 }
set_option maxRecDepth 100000 in
theorem laid_met (os : Os) : laidMet Tryd.prog Rows.fnExactApplyBindingRow.laid ((laidWorld os).forCall (fun _ _ => 0) ⟨#[], #[.agg #[.slice none 0 0], .agg #[.slice none 0 0, .slice none 0 0], .slice none 0 0], []⟩).memory :=
  laidMet_of_run' 8 (by kernel_rfl) (by kernel_rfl)
set_option maxRecDepth 100000 in
theorem reads (os : Os) {H : Type} (enc : TypeId × Value → H) : ∃ places, DataW.whole enc Tryd.prog ((laidWorld os).forCall (fun _ _ => 0) ⟨#[], #[.agg #[.slice none 0 0], .agg #[.slice none 0 0, .slice none 0 0], .slice none 0 0], []⟩).memory Tryd.f5.params.toList Rows.fnExactApplyBindingSpec.vars false (#[.agg #[.slice none 0 0], .agg #[.slice none 0 0, .slice none 0 0], .slice none 0 0] : Array Value).toList 8 = some ([.agg [.nil], .agg [.nil, .nil], .nil], [], places) :=
  ⟨[], by kernel_rfl⟩
set_option maxRecDepth 100000 in
theorem lifted (os : Os) (started : os.Started) (H : Type) (enc : TypeId × Value → H) (F : Stop.Interp) :
    ReturnsInHanded {} Tryd.checked os 5 .any ((OpenSpec.ofChange Rows.fnExactApplyBindingSpec).preRow enc Tryd.prog Tryd.f5 Rows.fnExactApplyBindingRow.domain false Rows.fnExactApplyBindingRow.laid) (((OpenSpec.ofChange Rows.fnExactApplyBindingSpec).at F).post enc Tryd.prog Tryd.f5 false true false false) := by
  obtain ⟨places, hx⟩ := reads os enc
  refine returnsInHanded_of_row (C := Tryd.checked) (s := OpenSpec.ofChange Rows.fnExactApplyBindingSpec) own started (by kernel_rfl) Tryd.func5
    (witness_row_at (enc := enc) (C := Tryd.checked) false (laidWorld os) #[.agg #[.slice none 0 0], .agg #[.slice none 0 0, .slice none 0 0], .slice none 0 0] rfl (by kernel_rfl) (by kernel_rfl) (by kernel_rfl)
      (OpenSpec.preRow_of_cond 8 hx (by kernel_rfl) (fun k hk => by cases hk) (by kernel_rfl) (laid_met os))) ?_
  intro W base args ds gs before hval hW _ _ _ hL hsh _
  exact contract H enc W base args ds gs before hval hW hL hsh
end Go.Proofs.YtcanokiehjjbgaaDoor.fnExactApplyBinding
