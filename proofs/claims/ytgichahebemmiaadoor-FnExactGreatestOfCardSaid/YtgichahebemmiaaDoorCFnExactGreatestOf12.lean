/- A part of the proof of the law FnExactGreatestOf. -/
import Derived.Test.YtgichahebemmiaaDoorCards
import Derived.Test.YtgichahebemmiaaDoorTie
import Derived.WalkKit
import Derived.ProofKit
import Derived.OpenShut
import Derived.ShutString
import Derived.ChangeOld
import Derived.Below
import Derived.SizedLaws
import Derived.Deep.DeepHandedRow
import Derived.Deep.DeepWitnessRowRef
import Derived.Lib.LaidU8
import Derived.LaidSub
import Derived.Lib.LaidTab
import Derived.Stop.LaidErr
import Derived.Shelf.Vars
import Derived.JoinedCond
import Derived.Laws.StructEq
import Derived.Test.YtgichahebemmiaaDoorCFnExactGreatestOf0
import Derived.Test.YtgichahebemmiaaDoorCFnExactGreatestOf1
import Derived.Test.YtgichahebemmiaaDoorCFnExactGreatestOf2
import Derived.Test.YtgichahebemmiaaDoorCFnExactGreatestOf3
import Derived.Test.YtgichahebemmiaaDoorCFnExactGreatestOf4
import Derived.Test.YtgichahebemmiaaDoorCFnExactGreatestOf5
import Derived.Test.YtgichahebemmiaaDoorCFnExactGreatestOf6
import Derived.Test.YtgichahebemmiaaDoorCFnExactGreatestOf7
import Derived.Test.YtgichahebemmiaaDoorCFnExactGreatestOf8
import Derived.Test.YtgichahebemmiaaDoorCFnExactGreatestOf9
import Derived.Test.YtgichahebemmiaaDoorCFnExactGreatestOf10
import Derived.Test.YtgichahebemmiaaDoorCFnExactGreatestOf11
namespace Go.Proofs.YtgichahebemmiaaDoor.fnExactGreatestOf
open Go.ChangeShapes Go.WideShapes Go.ChangeAt Go.RowKit Go.Proofs.YtgichahebemmiaaDoor.Open Go.Proofs.YtgichahebemmiaaDoor.P Go.Proofs.YtgichahebemmiaaDoorW.PrintWords
open Go.ChangeMaps (open_string shut_string)
set_option linter.unusedVariables false
theorem own : ownKnob Tryd.prog.godebug = none := by kernel_rfl
theorem As7 : laidOutB Tryd.prog = true := by kernel_rfl
set_option maxRecDepth 100000 in
theorem contract (H : Type) (enc : TypeId × Value → H) (W : World) (base : Nat) (args : Array Value) (ds gs : List (DataW H)) (before : List MemPlace)
  (hval0 : ∀ (j : Nat) t v, Tryd.f4.params[j]? = some t → args[j]? = some v → Value.okWide Tryd.prog W .any base t v)
  (hW : DataW.Whole enc Tryd.prog Tryd.f4.params.toList Rows.fnExactGreatestOfSpec.vars false W args.toList ds gs before) (hL : laidMetH Tryd.prog Rows.fnExactGreatestOfRow.laid W) (hsh : W.ShapedOpen Tryd.prog) :
  Calls Tryd.prog 4 args W fun e W' => ∃ v, e = .returned v ∧ Rows.fnExactGreatestOfSpec.post enc Tryd.prog Tryd.f4 false true false false W args v W' := by
 have hval : ∀ (j : Nat) t v, Tryd.f4.params[j]? = some t → args[j]? = some v → Value.okWide Tryd.prog W .any base t v := hval0
 have hW' := hW
 obtain ⟨p, q, hA0, hV, rfl, hfz, hnd⟩ := hW
 have hA : DataW.TrodAll enc Tryd.prog W 0 (fun _ => true) true Tryd.f4.params.toList args.toList ds p := hA0
 rw [Tryd.params4] at hA hval
 obtain ⟨v0, vs0, d0, ds0, p0, q0, hargs, rfl, rfl, h0, r0⟩ := trodAll_cons hA
 obtain ⟨v1, vs1, d1, ds1, p1, q1, rfl, rfl, rfl, h1, r1⟩ := trodAll_cons r0
 obtain ⟨v2, vs2, d2, ds2, p2, q2, rfl, rfl, rfl, h2, r2⟩ := trodAll_cons r1
 obtain ⟨rfl, rfl, rfl⟩ := trodAll_nil r2
 obtain rfl : args = #[v0, v1, v2] := by cases args; simp_all
 obtain ⟨rfl, rfl⟩ := trodVars_none hV
 have k0 := h0
 have lt0 : ∀ x ∈ p0, x.block < W.heap.size := by obtain ⟨m, hm⟩ := k0; exact DataW.trod_lt m _ _ _ hm
 obtain ⟨A0, c0, l0, rfl, hc0, hr0, w0⟩ := arg_struct1 Tryd.underlying24 (hval 0 24 v0 rfl rfl) h0 (Ah3.struct1 Tryd.underlying24 rfl (by kernel_rfl) (Ah3.slice_ (d := k61) Tryd.underlying22 (by kernel_rfl) (Ah3.iso_ (Ah3.struct2 Tryd.underlying61 rfl rfl (by kernel_rfl) (Ah3.string_ Tryd.underlying9) (Ah3.int_ Tryd.underlying2)) (fun x : S61 => (x.f0, x.f1)) (fun a => (⟨a.1, a.2⟩ : S61)) (fun _ => rfl))))
 have k1 := h1
 have lt1 : ∀ x ∈ p1, x.block < W.heap.size := by obtain ⟨m, hm⟩ := k1; exact DataW.trod_lt m _ _ _ hm
 obtain ⟨A1, c1, l1, rfl, hc1, hr1, w1⟩ := arg_slice Tryd.underlying25 (hval 1 25 v1 rfl rfl) h1 (Ah3.slice_ (d := (Kd.int .i64)) Tryd.underlying25 (by kernel_rfl) (Ah3.int_ Tryd.underlying2))
 have k2 := h2
 have lt2 : ∀ x ∈ p2, x.block < W.heap.size := by obtain ⟨m, hm⟩ := k2; exact DataW.trod_lt m _ _ _ hm
 obtain ⟨A2, c2, l2, rfl, hc2, hr2, w2⟩ := arg_slice Tryd.underlying39 (hval 2 39 v2 rfl rfl) h2 (Ah3.slice_ (d := (Kd.slice 2 (Kd.int .i64))) Tryd.underlying39 (by kernel_rfl) (Ah3.slice_ (d := (Kd.int .i64)) Tryd.underlying25 (by kernel_rfl) (Ah3.int_ Tryd.underlying2)))
 clear hA0 hval0
 obtain ⟨k, hk⟩ := Pure.FnExactGreatestOf l0 l1 l2 w0 w1 w2
 refine (laws_FnExactGreatestOf.calls k A0 c0 l0 A1 c1 l1 A2 c2 l2 true W hr0 hc0 hr1 hc1 hr2 hc2 hk).mono fun e W' ⟨he, bel0⟩ => ?_
 have bel : Below W.heap.size W W' := bel0
 subst he
 exact ⟨_, rfl, _, _, _, [], _, [], hW', trodAll_mk1 (shut_bool Tryd.underlying4 _), (trodAll_cons_mk (Below.trod As7 (by kernel_rfl) (of_decide_eq_true (by kernel_rfl)) k0 bel lt0) (trodAll_cons_mk (Below.trod As7 (by kernel_rfl) (of_decide_eq_true (by kernel_rfl)) k1 bel lt1) (trodAll_cons_mk (Below.trod As7 (by kernel_rfl) (of_decide_eq_true (by kernel_rfl)) k2 bel lt2) trodAll_mk0))), rfl, bel.frame _, fun h => by cases h⟩
noncomputable def Ap3 (os : Os) : World :=
 let w0 := World.holding Tryd.prog os ⟨#[], #[], []⟩
 let put (h : Array Obj) (g : Nat) (cs : Array Value) : Array Obj := h.modify g fun
  | .cells _ t frozen => .cells cs t frozen
  | o => o
 let h0 := put w0.heap 1 ((List.range 16).flatMap fun i => [Value.int .u8 (Lib.accLo i), Value.int .u8 (Lib.accHi i)]).toArray
 let h1 := put h0 0 (Lib.firstTab.map fun z => Value.int .u8 z).toArray
 { w0 with heap := h1 }
set_option maxRecDepth 100000 in
theorem laid_met (os : Os) : laidMet Tryd.prog Rows.fnExactGreatestOfRow.laid ((Ap3 os).forCall (fun _ _ => 0) ⟨#[], #[.agg #[.slice none 0 0], .slice none 0 0, .slice none 0 0], []⟩).memory :=
 laidMet_of_run' 8 (by kernel_rfl) (by kernel_rfl)
set_option maxRecDepth 100000 in
theorem reads (os : Os) {H : Type} (enc : TypeId × Value → H) : ∃ places, DataW.whole enc Tryd.prog ((Ap3 os).forCall (fun _ _ => 0) ⟨#[], #[.agg #[.slice none 0 0], .slice none 0 0, .slice none 0 0], []⟩).memory Tryd.f4.params.toList Rows.fnExactGreatestOfSpec.vars false (#[.agg #[.slice none 0 0], .slice none 0 0, .slice none 0 0] : Array Value).toList 8 = some ([.agg [.nil], .nil, .nil], [], places) :=
 ⟨[], by kernel_rfl⟩
set_option maxRecDepth 100000 in
theorem lifted (os : Os) (started : os.Started) (H : Type) (enc : TypeId × Value → H) (F : Stop.Interp) :
  ReturnsInHanded {} Tryd.checked os 4 .any ((OpenSpec.ofChange Rows.fnExactGreatestOfSpec).preRow enc Tryd.prog Tryd.f4 Rows.fnExactGreatestOfRow.domain false Rows.fnExactGreatestOfRow.laid) (((OpenSpec.ofChange Rows.fnExactGreatestOfSpec).at F).post enc Tryd.prog Tryd.f4 false true false false) := by
 obtain ⟨places, hx⟩ := reads os enc
 refine returnsInHanded_of_row (C := Tryd.checked) (s := OpenSpec.ofChange Rows.fnExactGreatestOfSpec) own started (by kernel_rfl) Tryd.func4
  (witness_row_at (enc := enc) (C := Tryd.checked) false (Ap3 os) #[.agg #[.slice none 0 0], .slice none 0 0, .slice none 0 0] rfl (by kernel_rfl) (by kernel_rfl) (by kernel_rfl)
   (OpenSpec.preRow_of_cond 8 hx (by kernel_rfl) (fun k hk => by cases hk) (by kernel_rfl) (laid_met os))) ?_
 intro W base args ds gs before hval hW _ _ _ hL hsh _
 exact contract H enc W base args ds gs before hval hW hL hsh
end Go.Proofs.YtgichahebemmiaaDoor.fnExactGreatestOf
