/- A part of the proof of the law FnPlain. -/
import Derived.Laws.StructEq
import Derived.Test.YtbdpnkpienpnaaaGreatDoorCFnPlain0
import Derived.Test.YtbdpnkpienpnaaaGreatDoorCFnPlain1
import Derived.Test.YtbdpnkpienpnaaaGreatDoorCFnPlain2
import Derived.Test.YtbdpnkpienpnaaaGreatDoorCFnPlain3
import Derived.Test.YtbdpnkpienpnaaaGreatDoorCFnPlain5
import Derived.Test.YtbdpnkpienpnaaaGreatDoorCFnPlain7
import Derived.Test.YtbdpnkpienpnaaaGreatDoorCFnPlain8
import Derived.Test.YtbdpnkpienpnaaaGreatDoorCFnPlain9
import Derived.Test.YtbdpnkpienpnaaaGreatDoorCFnPlain10
import Derived.Test.YtbdpnkpienpnaaaGreatDoorCFnPlain20
namespace Go.Proofs.YtbdpnkpienpnaaaGreatDoor.P
open Go.RowKit Go.Proofs.YtbdpnkpienpnaaaGreatDoorW.PrintWords Go.Proofs.YtbdpnkpienpnaaaGreatDoorW.PrintLast Go.Proofs.YtbdpnkpienpnaaaGreatDoorW.PrintMore
attribute [local go_sem] Ae7 Ae6 Af7 Af8 Ad8 Ad9 Ae2 Ae4   -- for this text's walks alone
set_option linter.unusedVariables false
set_option linter.unusedSimpArgs false
def spec_l4Plain.l0 : Nat → List (S29) → List Int → List Int → Int → Option (List Int × List Int × Bool)
 | 0, _, _, _, _ => none
 | k + 1, x0, x4, x5, x6 => if x6 < (x4.length : Int) then (if 0 ≤ x6 then (if (rd x4 x6) ≥ 0 then (spec_l4Plain.l0 k x0 x4 x5 (wrap64 (x6 + 1))) else ((spec_l2Rank.f k x5 (rd x4 x6)).bind fun t404 => (if t404 < 0 then (if x5.length < 17592186044416 then (spec_l4Plain.l0 k x0 (x4.set (x6 : Int).toNat (wrap64 ((-1) - (x5.length : Int)))) (x5 ++ [rd x4 x6]) (wrap64 (x6 + 1))) else (none)) else (spec_l4Plain.l0 k x0 (x4.set (x6 : Int).toNat (wrap64 ((-1) - t404))) x5 (wrap64 (x6 + 1)))))) else (none)) else (if (x5.length : Int) > 6 then (some (([] : List Int), ([] : List Int), false)) else (if 0 < (x0.length : Int) then (if 0 ≤ (((Ab0 x0 0).f0).length : Int) then (if (((Ab0 x0 0).f0).length : Int) ≤ (x4.length : Int) then ((spec_l1Ints.f (x4.take ((((Ab0 x0 0).f0).length : Int) : Int).toNat)).bind fun t417 => ((spec_l1Ints.f (x4.drop ((((Ab0 x0 0).f0).length : Int) : Int).toNat)).bind fun t424 => (some (t417, t424, true)))) else (none)) else (none)) else (none)))
def spec_l4Plain.f (k : Nat) (l0 : List (S29)) : Option (List Int × List Int × Bool) := if 0 < (l0.length : Int) then ((spec_l1Ints.f ((Ab0 l0 0).f0)).bind fun t391 => (if t391.length + ((Ab0 l0 0).f1).length < 17592186044416 then (spec_l4Plain.l0 k l0 (t391 ++ ((Ab0 l0 0).f1)) (([] : List Int)) 0) else (none))) else (none)
def spec_l4Plain.T1 : Bool × List (List Nat × List Nat) := (true, [([], []), ([0], [0]), ([1], [1]), ([2], [2]), ([3], [3]), ([], []), ([5], [5]), ([6], [6]), ([7], [7]), ([4, 8, 4], [4, 8]), ([9, 9, 0, 1, 2, 3, 4, 5, 6, 7, 8, 9], [9])])
def spec_l4Plain.B1 : List Nat := [0, 1, 3, 7, 15, 0, 32, 96, 224, 511, 1023]
theorem spec_l4Plain.tab1 : Am6 .any (Ar3 Tryz.f32 1) = spec_l4Plain.T1 := by kernel_rfl
theorem spec_l4Plain.bits1 : Ai2 spec_l4Plain.T1.2 spec_l4Plain.B1 = true := by kernel_rfl
def spec_l4Plain.T15 : Bool × List (List Nat × List Nat) := (true, [([], []), ([], []), ([0, 1], [0, 1]), ([2], [2]), ([], []), ([], []), ([4, 5], [4, 5]), ([6, 3], [6]), ([3, 7], [3, 7]), ([8, 7, 0, 1, 2, 3, 4, 5, 6, 7, 8], [8]), ([9, 0, 1, 2, 3, 4, 5, 6, 7, 8, 9], [])])
def spec_l4Plain.B15 : List Nat := [0, 0, 3, 7, 0, 0, 48, 127, 255, 511, 1023]
theorem spec_l4Plain.tab15 : Am6 .any (Ar3 Tryz.f32 15) = spec_l4Plain.T15 := by kernel_rfl
theorem spec_l4Plain.bits15 : Ai2 spec_l4Plain.T15.2 spec_l4Plain.B15 = true := by kernel_rfl
set_option maxHeartbeats 8000000 in
set_option maxRecDepth 100000 in
theorem spec_l4Plain.calls (k : Nat) (A0 : Option Addr) (l0 : List (S29)) (r1 : List Int) (r2 : List Int) (r3 : Bool) (w : World) (hr0 : Kd.C k29 w A0 l0.length l0) (h : spec_l4Plain.f k l0 = some (r1, r2, r3)) :
  Calls Tryz.prog 32 #[.pointer A0] w fun e w' => ∃ v0_ v1_ : Value, e = .returned (.tuple #[.agg #[v0_, v1_], .bool r3]) ∧ Kd.R (Kd.int .i64) 2 w' w.heap.size (fun k_ => some k_ ≠ (v1_ : Value).ownBlock) v0_ r1 ∧ Kd.R (Kd.int .i64) 2 w' w.heap.size (fun k_ => some k_ ≠ (v0_ : Value).ownBlock) v1_ r2 ∧ Below w.heap.size w w' := by
 have hu29 := Tryz.underlying29
 have HR0 := am hr0
 clear hr0
 have HB := am (Below.refl w.heap.size w)
 have H : (if 0 < (l0.length : Int) then ((spec_l1Ints.f ((Ab0 l0 0).f0)).bind fun t391 => (if t391.length + ((Ab0 l0 0).f1).length < 17592186044416 then (spec_l4Plain.l0 k l0 (t391 ++ ((Ab0 l0 0).f1)) (([] : List Int)) 0) else (none))) else (none)) = some (r1, r2, r3) := h
 clear h
 obtain ⟨c2, H⟩ := ifs H
 have c2b0 : decide (0 < (l0.length : Int)) = true := decide_eq_true c2
 have c2b1 : decide (0 < l0.length) = true := decide_eq_true (by omega)
 clear c2
 obtain ⟨t391, A3, H⟩ := ob H
 try dsimp only at H
 obtain ⟨c4, H⟩ := ifs H
 have LMc4 := am c4
 clear c4
 obtain ⟨y396, hy396⟩ : ∃ y_ : List Int, y_ = (t391 ++ ((Ab0 l0 0).f1)) := ⟨_, rfl⟩
 replace H : (spec_l4Plain.l0 k l0 y396 (([] : List Int)) 0) = some (r1, r2, r3) := by first | (rw [hy396]; with_reducible exact H) | (have H2_ := (Option.bind_some _ _).symm.trans H; rw [hy396]; with_reducible exact H2_) | (have H2_ := (Option.bind_some _ _).symm.trans H; with_reducible exact H2_) | with_reducible exact H | (rw [hy396]; exact H) | exact H
 have Ny396 := am hy396
 clear hy396
 obtain ⟨y399, hy399⟩ : ∃ y_ : List Int, y_ = (([] : List Int)) := ⟨_, rfl⟩
 replace H : (spec_l4Plain.l0 k l0 y396 y399 0) = some (r1, r2, r3) := by first | (rw [hy399]; with_reducible exact H) | (have H2_ := (Option.bind_some _ _).symm.trans H; rw [hy399]; with_reducible exact H2_) | (have H2_ := (Option.bind_some _ _).symm.trans H; with_reducible exact H2_) | with_reducible exact H | (rw [hy399]; exact H) | exact H
 have Ny399 := am hy399
 clear hy399
 have H' := am H
 clear H
 go_enter Tryz.func32, Tryz.ntmps32
 try go_wp2_with (first | (refine bx 2 rfl #[.slice none 0 0, .slice none 0 0] 29 ?_; intro gb388 hg w5 hbox hb; have BK388 := am (hbox); have GW388 := am (bz hg (hq HB.out)); replace HB := sb HB hb; have GE388 := GW388; clear hb hbox hg))
 replace BK388 := am (Ad0 BK388.out)
 replace HB := am (Ab3 HB.out)
 have p389 : 0 ≤ (0 : Int) := (by omega)
 have q389 : 0 < (l0.length : Int) := od
 obtain ⟨ad389, A389_0, c389_0, A389_1, c389_1, e389, hx389_0, hx389_1, hl389_0, hi389_0, hl389_1, hi389_1⟩ := Af0 HR0.out 0 p389 q389
 have hw389_1 := hx389_1
 (try rw [show ((0 : Int)).toNat = 0 from rfl] at hw389_1)
 (try rw [show 0 * 2 = 0 from rfl] at hw389_1)
 (try rw [Addr.add_zero'] at hw389_1)
 have hw389_0 := hx389_0
 (try rw [show ((0 : Int)).toNat = 0 from rfl] at hw389_0)
 (try rw [show 0 * 2 = 0 from rfl] at hw389_0)
 (try rw [Addr.add_zero'] at hw389_0)
 cases e389
 have qi389 : (0 < l0.length) = True := eq_true (by omega)
 (try rw [show ((0 : Int)).toNat = 0 from rfl] at hx389_0)
 (try rw [show 0 * 2 = 0 from rfl] at hx389_0)
 (try rw [Addr.add_zero'] at hx389_0)
 (try rw [show ((0 : Int)).toNat = 0 from rfl] at hx389_1)
 (try rw [show 0 * 2 = 0 from rfl] at hx389_1)
 (try rw [Addr.add_zero'] at hx389_1)
 replace hx389_0 := cz HB.out hx389_0
 replace hx389_1 := cz HB.out hx389_1
 have HR389_0 := am hi389_0
 have HC389_0 := am hl389_0
 clear hi389_0 hl389_0
 have HR389_1 := am hi389_1
 have HC389_1 := am hl389_1
 clear hi389_1 hl389_1
 replace p389 := eq_true p389
 replace q389 := eq_true q389
 have p390 : 0 ≤ (0 : Int) := (by omega)
 have q390 : 0 < (l0.length : Int) := od
 obtain ⟨ad390, A390_0, c390_0, A390_1, c390_1, e390, hx390_0, hx390_1, hl390_0, hi390_0, hl390_1, hi390_1⟩ := Af0 HR0.out 0 p390 q390
 have hw390_1 := hx390_1
 (try rw [show ((0 : Int)).toNat = 0 from rfl] at hw390_1)
 (try rw [show 0 * 2 = 0 from rfl] at hw390_1)
 (try rw [Addr.add_zero'] at hw390_1)
 have hw390_0 := hx390_0
 (try rw [show ((0 : Int)).toNat = 0 from rfl] at hw390_0)
 (try rw [show 0 * 2 = 0 from rfl] at hw390_0)
 (try rw [Addr.add_zero'] at hw390_0)
 obtain rfl : ad389 = ad390 := (by injection e390)
 have qi390 : (0 < l0.length) = True := eq_true (by omega)
 (try rw [show ((0 : Int)).toNat = 0 from rfl] at hx390_0)
 (try rw [show 0 * 2 = 0 from rfl] at hx390_0)
 (try rw [Addr.add_zero'] at hx390_0)
 (try rw [show ((0 : Int)).toNat = 0 from rfl] at hx390_1)
 (try rw [show 0 * 2 = 0 from rfl] at hx390_1)
 (try rw [Addr.add_zero'] at hx390_1)
 replace hx390_0 := cz HB.out hx390_0
 replace hx390_1 := cz HB.out hx390_1
 have HR390_0 := am hi390_0
 have HC390_0 := am hl390_0
 clear hi390_0 hl390_0
 have HR390_1 := am hi390_1
 have HC390_1 := am hl390_1
 clear hi390_1 hl390_1
 replace p390 := eq_true p390
 replace q390 := eq_true q390
 have ea_ := Option.some.inj (hx389_0.symm.trans hx390_0)
 injection ea_ with ea_ en_ ec_
 subst ea_
 subst ec_
 clear en_
 have ea_ := Option.some.inj (hx389_1.symm.trans hx390_1)
 injection ea_ with ea_ en_ ec_
 subst ea_
 subst ec_
 clear en_
 have p394 : 0 ≤ (0 : Int) := (by omega)
 have q394 : 0 < (l0.length : Int) := od
 obtain ⟨ad394, A394_0, c394_0, A394_1, c394_1, e394, hx394_0, hx394_1, hl394_0, hi394_0, hl394_1, hi394_1⟩ := Af0 HR0.out 0 p394 q394
 have hw394_1 := hx394_1
 (try rw [show ((0 : Int)).toNat = 0 from rfl] at hw394_1)
 (try rw [show 0 * 2 = 0 from rfl] at hw394_1)
 (try rw [Addr.add_zero'] at hw394_1)
 have hw394_0 := hx394_0
 (try rw [show ((0 : Int)).toNat = 0 from rfl] at hw394_0)
 (try rw [show 0 * 2 = 0 from rfl] at hw394_0)
 (try rw [Addr.add_zero'] at hw394_0)
 obtain rfl : ad389 = ad394 := (by injection e394)
 have qi394 : (0 < l0.length) = True := eq_true (by omega)
 (try rw [show ((0 : Int)).toNat = 0 from rfl] at hx394_0)
 (try rw [show 0 * 2 = 0 from rfl] at hx394_0)
 (try rw [Addr.add_zero'] at hx394_0)
 (try rw [show ((0 : Int)).toNat = 0 from rfl] at hx394_1)
 (try rw [show 0 * 2 = 0 from rfl] at hx394_1)
 (try rw [Addr.add_zero'] at hx394_1)
 replace hx394_0 := cz HB.out hx394_0
 replace hx394_1 := cz HB.out hx394_1
 have HR394_0 := am hi394_0
 have HC394_0 := am hl394_0
 clear hi394_0 hl394_0
 have HR394_1 := am hi394_1
 have HC394_1 := am hl394_1
 clear hi394_1 hl394_1
 replace p394 := eq_true p394
 replace q394 := eq_true q394
 have ea_ := Option.some.inj (hx389_0.symm.trans hx394_0)
 injection ea_ with ea_ en_ ec_
 subst ea_
 subst ec_
 clear en_
 have ea_ := Option.some.inj (hx389_1.symm.trans hx394_1)
 injection ea_ with ea_ en_ ec_
 subst ea_
 subst ec_
 clear en_
 have p395 : 0 ≤ (0 : Int) := (by omega)
 have q395 : 0 < (l0.length : Int) := od
 obtain ⟨ad395, A395_0, c395_0, A395_1, c395_1, e395, hx395_0, hx395_1, hl395_0, hi395_0, hl395_1, hi395_1⟩ := Af0 HR0.out 0 p395 q395
 have hw395_1 := hx395_1
 (try rw [show ((0 : Int)).toNat = 0 from rfl] at hw395_1)
 (try rw [show 0 * 2 = 0 from rfl] at hw395_1)
 (try rw [Addr.add_zero'] at hw395_1)
 have hw395_0 := hx395_0
 (try rw [show ((0 : Int)).toNat = 0 from rfl] at hw395_0)
 (try rw [show 0 * 2 = 0 from rfl] at hw395_0)
 (try rw [Addr.add_zero'] at hw395_0)
 obtain rfl : ad389 = ad395 := (by injection e395)
 have qi395 : (0 < l0.length) = True := eq_true (by omega)
 (try rw [show ((0 : Int)).toNat = 0 from rfl] at hx395_0)
 (try rw [show 0 * 2 = 0 from rfl] at hx395_0)
 (try rw [Addr.add_zero'] at hx395_0)
 (try rw [show ((0 : Int)).toNat = 0 from rfl] at hx395_1)
 (try rw [show 0 * 2 = 0 from rfl] at hx395_1)
 (try rw [Addr.add_zero'] at hx395_1)
 replace hx395_0 := cz HB.out hx395_0
 replace hx395_1 := cz HB.out hx395_1
 have HR395_0 := am hi395_0
 have HC395_0 := am hl395_0
 clear hi395_0 hl395_0
 have HR395_1 := am hi395_1
 have HC395_1 := am hl395_1
 clear hi395_1 hl395_1
 replace p395 := eq_true p395
 replace q395 := eq_true q395
 have ea_ := Option.some.inj (hx389_0.symm.trans hx395_0)
 injection ea_ with ea_ en_ ec_
 subst ea_
 subst ec_
 clear en_
 have ea_ := Option.some.inj (hx389_1.symm.trans hx395_1)
 injection ea_ with ea_ en_ ec_
 subst ea_
 subst ec_
 clear en_
 refine Ak0 (n := 11) (S := fun w' => w'.cell? ad389 = some (.slice A389_0 ((Ab0 l0 0).f0).length c389_0) ∧ w'.cell? ⟨ad389.block, ad389.off + 1, none⟩ = some (.slice A389_1 ((Ab0 l0 0).f1).length c389_1) ∧ w'.cell? ad389 = some (.slice A389_0 ((Ab0 l0 0).f0).length c389_0) ∧ w'.cell? ⟨ad389.block, ad389.off + 1, none⟩ = some (.slice A389_1 ((Ab0 l0 0).f1).length c389_1) ∧ w'.cell? ad389 = some (.slice A389_0 ((Ab0 l0 0).f0).length c389_0) ∧ w'.cell? ⟨ad389.block, ad389.off + 1, none⟩ = some (.slice A389_1 ((Ab0 l0 0).f1).length c389_1) ∧ w'.cell? ad389 = some (.slice A389_0 ((Ab0 l0 0).f0).length c389_0) ∧ w'.cell? ⟨ad389.block, ad389.off + 1, none⟩ = some (.slice A389_1 ((Ab0 l0 0).f1).length c389_1)) (ds := []) #[false, false, false, false, false, false, false, false, false, false, false] (by kernel_rfl) rfl rfl ⟨(cz HB.out hw389_0), (cz HB.out hw389_1), (cz HB.out hw390_0), (cz HB.out hw390_1), (cz HB.out hw394_0), (cz HB.out hw394_1), (cz HB.out hw395_0), (cz HB.out hw395_1)⟩ (fun hHeld => ?_); refine Af6 spec_l4Plain.tab1 spec_l4Plain.bits1 (fun HT_ HW_ => ?_)
 generalize w5.drew = w6 at BK388 HB HR389_0 HR389_1 HR390_0 HR390_1 HR394_0 HR394_1 HR395_0 HR395_1 hx389_0 hx389_1 hx390_0 hx390_1 hx394_0 hx394_1 hx395_0 hx395_1 hHeld ⊢
 refine pu 0 9 rfl rfl HT_ ?_
 refine pu 1 10 rfl rfl HT_ ?_
 refine pu 2 11 rfl rfl HT_ ?_
 refine pu 5 14 rfl rfl HT_ ?_
 refine pu 6 15 rfl rfl HT_ ?_
 refine pu 7 16 rfl rfl HT_ ?_
 refine tk 3 12 rfl rfl HT_ HW_ hHeld ?_
 refine tk 8 17 rfl rfl HT_ HW_ hHeld ?_
 refine on_ 4 (some 13) rfl rfl HT_ (fun K hK => ?_)
 refine gs Tryz.func67 #[.slice A389_0 ((Ab0 l0 0).f0).length c389_0] ?_
 refine (spec_l1Ints.calls _ _ ((Ab0 l0 0).f0) t391 _ (cq (Kd.C_below HR390_0.out HB.out)) HC390_0.out A3.out).mono ?_
 rintro e w7 ⟨v392, rfl, ho0, hb⟩
 refine ⟨_, rfl, ?_⟩
 have HO393 := am (Kd.R_lower ho0 (Aa8 (hs HB.out)))
 replace BK388 := bb BK388 hb
 replace HB := sb HB hb
 (try clear hb)
 (try clear hk)
 (try clear ho0)
 refine hK.out _ _ ⟨(cz HB.out hw389_0), (cz HB.out hw389_1), (cz HB.out hw390_0), (cz HB.out hw390_1), (cz HB.out hw394_0), (cz HB.out hw394_1), (cz HB.out hw395_0), (cz HB.out hw395_1)⟩ (fun hHeld => ?_)
 clear hK K
 refine nr (some 13) ?_
 refine on_ 9 (some 18) rfl rfl HT_ (fun K hK => ?_)
 refine Kd.R_append_rows_step (Kd.int .i64) (w0 := w) w.heap.size (by rfl) (.tmp 13) (.tmp 17) 27 2 (.int .i64 0) 8 rfl Tryz.underlying27 An3 rfl (by decide) (by omega) v392 t391 ((Ab0 l0 0).f1) _ _ _ (fun _ => True) (fun _ => False) rfl rfl ?aO ?aR (fun _ _ h => h) (fun _ h => h.elim) ?aF ?aB ?aS ?aL ?_
 (case aR => exact cq (Kd.C_below HR395_1.out HB.out))
 (case aB => exact (hs HB.out))
 (case aF => exact (fun _ _ => trivial))
 (case aO => exact (rq HO393.out))
 (case aS => exact (Aa8 (hs HB.out)))
 (case aL => have := LMc4.out; omega)
 intro v397 w8 ho hb hg hat
 rw [← Ny396.out] at ho
 replace BK388 := am (Ac9 (bq BK388.out) hg (Kd.R_ne HO393.out BK388.out (by decide)))
 replace HB := am (hb)
 have HO398 := am (ho)
 clear HO393
 clear ho hb hg hat
 refine hK.out _ _ ⟨(cz HB.out hw389_0), (cz HB.out hw389_1), (cz HB.out hw390_0), (cz HB.out hw390_1), (cz HB.out hw394_0), (cz HB.out hw394_1), (cz HB.out hw395_0), (cz HB.out hw395_1)⟩ (fun hHeld => ?_)
 clear hK K
 refine nr (some 18) ?_
 refine pu 10 4 rfl rfl HT_ ?_
 refine Am5 (Ai6 HT_.out (by kernel_rfl)) ?_
 try go_wp2_with (first | (refine rl 19 rfl 2 [] ?_; intro v400 w9 ho10 hb hg_ hnew_; clear hg_ hnew_; (first | rw [← Ny399.out] at ho10 | (simp only [Int.reduceToNat] at ho10; rw [← Ny399.out] at ho10)); have HO401 := am (Kd.R_lower (Kd.R_new' ho10 (Kd.R_lt (rq HO398.out))) (Aa8 (hs HB.out))); replace HO398 := am (Kd.R_elder' (rq HO398.out) (Kd.R_base ho10) hb); replace BK388 := bb BK388 hb; replace HB := sb HB hb; clear hb ho10))
 go_loopg [5, 6] k (fun kq v5 v6 w' => ∃ (x4_1 : List Int) (x5_1 : List Int) (x6_1 : Int), v6 = .int .i64 x6_1 ∧ Aside0 (spec_l4Plain.l0 kq l0 x4_1 x5_1 x6_1 = some (r1, r2, r3)) ∧ Aside0 (kq ≤ k) ∧ Aside0 (Kd.R (Kd.int .i64) 2 w' w.heap.size (fun k_ => some k_ ≠ (v5 : Value).ownBlock) v397 x4_1) ∧ Aside0 (Kd.R (Kd.int .i64) 2 w' w.heap.size (fun k_ => some k_ ≠ (v397 : Value).ownBlock) v5 x5_1) ∧ Aside0 (w'.heap[gb388]? = some (.cells #[(.slice none 0 0), (.slice none 0 0)] 29 (0, 0))) ∧ Aside0 (Below w.heap.size w w'))
 case atStart => exact ⟨(y396), (y399), (0), et, H', ⟨Nat.le_refl _⟩, ⟨rq (Kd.R_mono HO398.out (fun _ hk => hk.2))⟩, ⟨rq (Kd.R_mono HO401.out (fun _ hk => hk.2))⟩, ⟨by refine bq ?_; exact BK388.out⟩, ⟨hs HB.out⟩⟩
 case round =>
  clear H'
  try clear c2; try clear c2b0; try clear c2b1; try clear c4; try clear hx389_0; try clear hx389_1; try clear hx390_0; try clear hx390_1; try clear hx394_0; try clear hx394_1; try clear hx395_0; try clear hx395_1; try clear p389; try clear p390; try clear p394; try clear p395; try clear q389; try clear q390; try clear q394; try clear q395
  obtain ⟨x4_1, x5_1, x6_1, rfl, HA, HK1, HO_4, HO_5, BK388, HB⟩ := hrel
  cases gk with
  | zero => exact absurd HA.out (by simp [spec_l4Plain.l0])
  | succ k1 =>
   have H := HA.out
   clear HA
   simp only [spec_l4Plain.l0] at H
   by_cases c11 : x6_1 < (x4_1.length : Int)
   ·rw [if_pos c11] at H
    have c11b0 : decide (x6_1 < (x4_1.length : Int)) = true := decide_eq_true c11
    clear c11
    obtain ⟨c12b0, H⟩ := ife H
    by_cases c13 : (rd x4_1 x6_1) ≥ 0
    ·rw [if_pos c13] at H
     have c13b0 : decide (0 ≤ (rd x4_1 x6_1)) = true := decide_eq_true c13
     clear c13
     have H' := am H
     clear H
     obtain ⟨Ao14, co14, eo14⟩ := Kd.R_slice HO_4.out
     subst eo14
     have p402 : 0 ≤ (x6_1 : Int) := od
     have q402 : x6_1 < (x4_1.length : Int) := od
     obtain ⟨ad402, e402, hx402_0⟩ := Kd.at_int (Kd.R_reads' HO_4.out).2.2 x6_1 p402 q402
     cases e402
     replace p402 := eq_true p402
     replace q402 := eq_true q402
     go_wp2
     go_roundg k1
     case measure => have := HK1.out; omega
     case rel => exact ⟨(x4_1), (x5_1), (wrap64 (x6_1 + 1)), et, H', ⟨by have := HK1.out; omega⟩, ⟨rq HO_4.out⟩, ⟨rq HO_5.out⟩, ⟨by refine bq ?_; exact BK388.out⟩, ⟨hs HB.out⟩⟩
    ·rw [if_neg c13] at H
     have c13b0 : decide (0 ≤ (rd x4_1 x6_1)) = false := decide_eq_false c13
     clear c13
     obtain ⟨t404, A15, H⟩ := ob H
     try dsimp only at H
     by_cases c16 : t404 < 0
     ·rw [if_pos c16] at H
      have c16b0 : decide (t404 < 0) = true := decide_eq_true c16
      clear c16
      obtain ⟨c17, H⟩ := ifs H
      have LMc17 := am c17
      clear c17
      obtain ⟨y406, hy406⟩ : ∃ y_ : List Int, y_ = (x5_1 ++ [rd x4_1 x6_1]) := ⟨_, rfl⟩
      replace H : (spec_l4Plain.l0 k1 l0 (x4_1.set (x6_1 : Int).toNat (wrap64 ((-1) - (x5_1.length : Int)))) y406 (wrap64 (x6_1 + 1))) = some (r1, r2, r3) := by first | (rw [hy406]; with_reducible exact H) | (have H2_ := (Option.bind_some _ _).symm.trans H; rw [hy406]; with_reducible exact H2_) | (have H2_ := (Option.bind_some _ _).symm.trans H; with_reducible exact H2_) | with_reducible exact H | (rw [hy406]; exact H) | exact H
      have Ny406 := am hy406
      clear hy406
      obtain ⟨y409, hy409⟩ : ∃ y_ : List Int, y_ = (x4_1.set (x6_1 : Int).toNat (wrap64 ((-1) - (x5_1.length : Int)))) := ⟨_, rfl⟩
      replace H : (spec_l4Plain.l0 k1 l0 y409 y406 (wrap64 (x6_1 + 1))) = some (r1, r2, r3) := by first | (rw [hy409]; with_reducible exact H) | (have H2_ := (Option.bind_some _ _).symm.trans H; rw [hy409]; with_reducible exact H2_) | (have H2_ := (Option.bind_some _ _).symm.trans H; with_reducible exact H2_) | with_reducible exact H | (rw [hy409]; exact H) | exact H
      have Ny409 := am hy409
      clear hy409
      have H' := am H
      clear H
      obtain ⟨Ao19, co19, eo19⟩ := Kd.R_slice HO_4.out
      subst eo19
      have p402 : 0 ≤ (x6_1 : Int) := od
      have q402 : x6_1 < (x4_1.length : Int) := od
      obtain ⟨ad402, e402, hx402_0⟩ := Kd.at_int (Kd.R_reads' HO_4.out).2.2 x6_1 p402 q402
      cases e402
      replace p402 := eq_true p402
      replace q402 := eq_true q402
      have p403 : 0 ≤ (x6_1 : Int) := od
      have q403 : x6_1 < (x4_1.length : Int) := od
      obtain ⟨ad403, e403, hx403_0⟩ := Kd.at_int (Kd.R_reads' HO_4.out).2.2 x6_1 p403 q403
      obtain rfl : ad402 = ad403 := (by injection e403)
      replace p403 := eq_true p403
      replace q403 := eq_true q403
      obtain ⟨Ao20, co20, eo20⟩ := Kd.R_slice HO_5.out
      subst eo20
      go_wp2_with (first | (refine gl (some 36) Tryz.func68 rfl #[.slice Ao20 x5_1.length co20, .int .i64 (rd x4_1 x6_1)] ?_; refine (spec_l2Rank.calls k1 _ _ x5_1 (rd x4_1 x6_1) t404 _ (cq (Kd.R_reads' HO_5.out).2.2) ((Kd.R_reads' HO_5.out).2.1) A15.out).mono ?_; rintro e w' ⟨rfl, ⟨nd, rfl⟩⟩; refine ⟨_, rfl, ?_⟩; (try (rw [Ae1 wr]; generalize hq_ : World.drewN wr _ = wr; have n0_ : Aside0 (Kd.R (Kd.int .i64) 2 wr w.heap.size (fun k_ => some k_ ≠ (.slice Ao20 x5_1.length co20 : Value).ownBlock) (.slice (some ad402) x4_1.length co19) x4_1) := ⟨by rw [← hq_]; exact (rq HO_4.out)⟩; have n1_ : Aside0 (Kd.R (Kd.int .i64) 2 wr w.heap.size (fun k_ => some k_ ≠ (.slice (some ad402) x4_1.length co19 : Value).ownBlock) (.slice Ao20 x5_1.length co20) x5_1) := ⟨by rw [← hq_]; exact (rq HO_5.out)⟩; have n2_ : Aside0 (wr.heap[gb388]? = some (.cells #[.slice none 0 0, .slice none 0 0] 29 (0, 0))) := ⟨by rw [← hq_]; exact (bq BK388.out)⟩; have n3_ : Aside0 (Below w.heap.size w wr) := ⟨by rw [← hq_]; exact (hs HB.out)⟩; clear HO_4 HO_5 BK388 HB hq_; have HO_4 := n0_; have HO_5 := n1_; have BK388 := n2_; have HB := n3_; clear n0_ n1_ n2_ n3_)); have p405 : 0 ≤ (x6_1 : Int) := od; have q405 : x6_1 < (x4_1.length : Int) := od; obtain ⟨ad405, e405, hx405_0⟩ := Kd.at_int (Kd.R_reads' HO_4.out).2.2 x6_1 p405 q405; obtain rfl : ad402 = ad405 := (by injection e405); replace p405 := eq_true p405; replace q405 := eq_true q405) | ((with_reducible refine Ae8 (b := .append) (xs := #[.tmp 41, .tmp 46]) rfl ?_); at_builtin; refine Kd.R_append (Kd.int .i64) (w0 := w) w.heap.size rfl (.tmp 41) (.tmp 46) 27 2 (.int .i64 0) 8 rfl Tryz.underlying27 An3 rfl (by decide) (by omega) (.slice Ao20 x5_1.length co20) x5_1 (rd x4_1 x6_1) [.int .i64 (rd x4_1 x6_1)] (fun k_ => some k_ ≠ (.slice (some ad402) x4_1.length co19 : Value).ownBlock) (fun _ => False) rfl rfl ?aP (fun _ hk => hk.elim) ?aF ?aO ?aB ?aS ?aL ?_; (case aP => exact rfl); (case aB => exact (hs HB.out)); (case aF => exact (fun k_ hk => Kd.fresh' (Kd.R_lt (rq HO_4.out)) k_ hk)); (case aO => exact (rq HO_5.out)); (case aS => exact (Aa8 (hs HB.out))); (case aL => have := LMc17.out; omega); intro v407 w21 ho hb hg hat; rw [← Ny406.out] at ho; replace HO_4 := am (Kd.R_after (ok := (fun _ => True)) (rq (Kd.R_mono HO_4.out (fun _ hk => ⟨trivial, hk⟩))) hg hat); replace BK388 := am (Ac9 (bq BK388.out) hg (Kd.R_ne HO_5.out BK388.out (by decide))); replace HB := am (hb); have HO408 := am (ho); clear HO_5; clear ho hb hg hat; have p18 : 0 ≤ (x6_1 : Int) := od; have q18 : (x6_1 : Int) < ((x4_1.length : Int) : Int) := od; obtain ⟨go18, co18, eo18, gb18, gl18, cl18, HG18⟩ := Kd.R_form HO_4.out (by omega); (first | cases eo18 | (injection eo18 with ea_ en_ ec_; (first | subst ea_ | (injection ea_ with ea_; subst ea_)); subst ec_; clear en_)); have GB18 := am gb18; have GG18 := am HG18; clear gb18 gl18 HG18; (first | simp only [Af5] at hx402_0 | skip); (first | simp only [Af5] at hx403_0 | skip); (first | simp only [Af5] at hx405_0 | skip); obtain ⟨hx18_0, hf18_0⟩ := Kd.R_celln 0 HO_4.out (x6_1 : Int) p18 q18; replace p18 := eq_true p18; replace q18 := eq_true q18; have n_ := am (Kd.R_mono (ok' := (fun k_ => some k_ ≠ (v407 : Value).ownBlock)) HO_4.out (fun k_ hk => hk.2)); clear HO_4; have HO_4 := n_; clear n_; obtain ⟨hy22_, hz22_⟩ := Kd.R_celln 0 HO_4.out (x6_1 : Int) od od; have HP22 := Kd.R_putg HO_4.out (x6_1 : Int) (wrap64 ((-1) - (x5_1.length : Int)))) | ((with_reducible refine Ah9 (t := 2) (p := 52) rfl ?_); refine Ah0 (t := 2) (p := 52) (v := ?vo_w23) (w1 := (w21.setCell ⟨go18, (x6_1 : Int).toNat, none⟩ (.int .i64 (wrap64 ((-1) - (x5_1.length : Int)))))) ?hg ?ho ?hn ?hr ?_; (case ho => rfl); (case hg => rfl); (case hn => rfl); (case hr => first | (go_simp; done) | (go_simp; rfl)); intro w23 hw; have hg : w21.grownBy w23 (some go18) := (by rw [hw]; exact HP22.2); have hp_ : Kd.R (Kd.int .i64) 2 w23 w.heap.size (fun k_ => some k_ ≠ (v407 : Value).ownBlock) (.slice (some ⟨go18, 0, none⟩) x4_1.length co19) y409 := (by rw [hw, Ny409.out]; exact HP22.1); clear HP22; replace BK388 := am (Ac9 (bq BK388.out) hg (Kd.R_ne HO_4.out BK388.out (by decide))); replace HO_4 := am (hp_); replace HO408 := am (Kd.R_after (v := (.slice (some ⟨go18, 0, none⟩) x4_1.length co19)) (v1 := (.slice (some ⟨go18, 0, none⟩) x4_1.length co19)) (ok := (fun _ => True)) (rq (Kd.R_mono HO408.out (fun _ hk => ⟨trivial, hk⟩))) hg (.inl rfl)); replace HB := am ((by rw [hw]; exact Ac2 (HB.out) GB18.out : Below w.heap.size w w23)); clear hg hw hp_))
      go_roundg k1
      case measure => have := HK1.out; omega
      case rel => exact ⟨(y409), (y406), (wrap64 (x6_1 + 1)), et, H', ⟨by have := HK1.out; omega⟩, ⟨rq HO_4.out⟩, ⟨rq (Kd.R_mono HO408.out (fun _ hk => hk.2))⟩, ⟨by refine bq ?_; exact BK388.out⟩, ⟨hs HB.out⟩⟩
     ·rw [if_neg c16] at H
      have c16b0 : decide (t404 < 0) = false := decide_eq_false c16
      clear c16
      obtain ⟨y410, hy410⟩ : ∃ y_ : List Int, y_ = (x4_1.set (x6_1 : Int).toNat (wrap64 ((-1) - t404))) := ⟨_, rfl⟩
      replace H : (spec_l4Plain.l0 k1 l0 y410 x5_1 (wrap64 (x6_1 + 1))) = some (r1, r2, r3) := by first | (rw [hy410]; with_reducible exact H) | (have H2_ := (Option.bind_some _ _).symm.trans H; rw [hy410]; with_reducible exact H2_) | (have H2_ := (Option.bind_some _ _).symm.trans H; with_reducible exact H2_) | with_reducible exact H | (rw [hy410]; exact H) | exact H
      have Ny410 := am hy410
      clear hy410
      have H' := am H
      clear H
      obtain ⟨Ao25, co25, eo25⟩ := Kd.R_slice HO_4.out
      subst eo25
      have p402 : 0 ≤ (x6_1 : Int) := od
      have q402 : x6_1 < (x4_1.length : Int) := od
      obtain ⟨ad402, e402, hx402_0⟩ := Kd.at_int (Kd.R_reads' HO_4.out).2.2 x6_1 p402 q402
      cases e402
      replace p402 := eq_true p402
      replace q402 := eq_true q402
      have p403 : 0 ≤ (x6_1 : Int) := od
      have q403 : x6_1 < (x4_1.length : Int) := od
      obtain ⟨ad403, e403, hx403_0⟩ := Kd.at_int (Kd.R_reads' HO_4.out).2.2 x6_1 p403 q403
      obtain rfl : ad402 = ad403 := (by injection e403)
      replace p403 := eq_true p403
      replace q403 := eq_true q403
      obtain ⟨Ao26, co26, eo26⟩ := Kd.R_slice HO_5.out
      subst eo26
      go_wp2_with (first | (refine gl (some 36) Tryz.func68 rfl #[.slice Ao26 x5_1.length co26, .int .i64 (rd x4_1 x6_1)] ?_; refine (spec_l2Rank.calls k1 _ _ x5_1 (rd x4_1 x6_1) t404 _ (cq (Kd.R_reads' HO_5.out).2.2) ((Kd.R_reads' HO_5.out).2.1) A15.out).mono ?_; rintro e w' ⟨rfl, ⟨nd, rfl⟩⟩; refine ⟨_, rfl, ?_⟩; (try (rw [Ae1 wr]; generalize hq_ : World.drewN wr _ = wr; have n0_ : Aside0 (Kd.R (Kd.int .i64) 2 wr w.heap.size (fun k_ => some k_ ≠ (.slice Ao26 x5_1.length co26 : Value).ownBlock) (.slice (some ad402) x4_1.length co25) x4_1) := ⟨by rw [← hq_]; exact (rq HO_4.out)⟩; have n1_ : Aside0 (Kd.R (Kd.int .i64) 2 wr w.heap.size (fun k_ => some k_ ≠ (.slice (some ad402) x4_1.length co25 : Value).ownBlock) (.slice Ao26 x5_1.length co26) x5_1) := ⟨by rw [← hq_]; exact (rq HO_5.out)⟩; have n2_ : Aside0 (wr.heap[gb388]? = some (.cells #[.slice none 0 0, .slice none 0 0] 29 (0, 0))) := ⟨by rw [← hq_]; exact (bq BK388.out)⟩; have n3_ : Aside0 (Below w.heap.size w wr) := ⟨by rw [← hq_]; exact (hs HB.out)⟩; clear HO_4 HO_5 BK388 HB hq_; have HO_4 := n0_; have HO_5 := n1_; have BK388 := n2_; have HB := n3_; clear n0_ n1_ n2_ n3_)); have p24 : 0 ≤ (x6_1 : Int) := od; have q24 : (x6_1 : Int) < ((x4_1.length : Int) : Int) := od; obtain ⟨go24, co24, eo24, gb24, gl24, cl24, HG24⟩ := Kd.R_form HO_4.out (by omega); (first | cases eo24 | (injection eo24 with ea_ en_ ec_; (first | subst ea_ | (injection ea_ with ea_; subst ea_)); subst ec_; clear en_)); have GB24 := am gb24; have GG24 := am HG24; clear gb24 gl24 HG24; (first | simp only [Af5] at hx402_0 | skip); (first | simp only [Af5] at hx403_0 | skip); obtain ⟨hx24_0, hf24_0⟩ := Kd.R_celln 0 HO_4.out (x6_1 : Int) p24 q24; replace p24 := eq_true p24; replace q24 := eq_true q24; obtain ⟨hy27_, hz27_⟩ := Kd.R_celln 0 HO_4.out (x6_1 : Int) od od; have HP27 := Kd.R_putg HO_4.out (x6_1 : Int) (wrap64 ((-1) - t404))) | ((with_reducible refine Ah9 (t := 2) (p := 52) rfl ?_); refine Ah0 (t := 2) (p := 52) (v := ?vo_w28) (w1 := (wr.setCell ⟨go24, (x6_1 : Int).toNat, none⟩ (.int .i64 (wrap64 ((-1) - t404))))) ?hg ?ho ?hn ?hr ?_; (case ho => rfl); (case hg => rfl); (case hn => rfl); (case hr => first | (go_simp; done) | (go_simp; rfl)); intro w28 hw; have hg : wr.grownBy w28 (some go24) := (by rw [hw]; exact HP27.2); have hp_ : Kd.R (Kd.int .i64) 2 w28 w.heap.size (fun k_ => some k_ ≠ (.slice Ao26 x5_1.length co26 : Value).ownBlock) (.slice (some ⟨go24, 0, none⟩) x4_1.length co25) y410 := (by rw [hw, Ny410.out]; exact HP27.1); clear HP27; replace HO_5 := am (Kd.R_after (v := (.slice (some ⟨go24, 0, none⟩) x4_1.length co25)) (v1 := (.slice (some ⟨go24, 0, none⟩) x4_1.length co25)) (ok := (fun _ => True)) (rq (Kd.R_mono HO_5.out (fun _ hk => ⟨trivial, hk⟩))) hg (.inl rfl)); replace BK388 := am (Ac9 (bq BK388.out) hg (Kd.R_ne HO_4.out BK388.out (by decide))); replace HO_4 := am (hp_); replace HB := am ((by rw [hw]; exact Ac2 (HB.out) GB24.out : Below w.heap.size w w28)); clear hg hw hp_))
      go_roundg k1
      case measure => have := HK1.out; omega
      case rel => exact ⟨(y410), (x5_1), (wrap64 (x6_1 + 1)), et, H', ⟨by have := HK1.out; omega⟩, ⟨rq HO_4.out⟩, ⟨rq (Kd.R_mono HO_5.out (fun _ hk => hk.2))⟩, ⟨by refine bq ?_; exact BK388.out⟩, ⟨hs HB.out⟩⟩
   ·rw [if_neg c11] at H
    have c11b0 : decide (x6_1 < (x4_1.length : Int)) = false := decide_eq_false c11
    clear c11
    by_cases c29 : (x5_1.length : Int) > 6
    ·rw [if_pos c29] at H
     have c29b0 : decide (6 < (x5_1.length : Int)) = true := decide_eq_true c29
     have c29b1 : decide (6 < x5_1.length) = true := decide_eq_true (by omega)
     clear c29
     simp only [Option.some.injEq, Prod.mk.injEq] at H
     obtain ⟨rfl, rfl, rfl⟩ := H
     obtain ⟨Ao30, co30, eo30⟩ := Kd.R_slice HO_4.out
     subst eo30
     obtain ⟨Ao31, co31, eo31⟩ := Kd.R_slice HO_5.out
     subst eo31
     have hcz32_0 : wr.cell? ⟨gb388, 0, none⟩ = some (.slice none 0 0) := (Aa0 BK388.out 0).trans rfl
     have hcz32_1 : wr.cell? ⟨gb388, 1, none⟩ = some (.slice none 0 0) := (Aa0 BK388.out 1).trans rfl
     have hfz32_0 := Aa1 BK388.out 0
     have hfz32_1 := Aa1 BK388.out 1
     go_wp2
     refine bodyPost_ret (Ap5 rfl _ _ gb388 29 #[.slice none 0 0, .slice none 0 0] (0, 0) _ rfl (by refine bq ?_; refine Aa6 (cs := #[.slice none 0 0, .slice none 0 0]) ?_ 1 _ rfl; refine bq ?_; refine Aa6 (cs := #[.slice none 0 0, .slice none 0 0]) ?_ 0 _ rfl; refine bq ?_; exact BK388.out) Tryz.underlying29 rfl (by kernel_rfl)) rfl ?_
     exact ⟨_, _, er, by first | exact Kd.R_nil _ _ _ _ _ | exact Kd.N_nil _ _ _ _ _ | exact Kd.V_nil _ _ _ _ _ | exact Kd.Q_nil _ _ _ _ _ | exact Kd.S_nil _ _ _ _ _, by first | exact Kd.R_nil _ _ _ _ _ | exact Kd.N_nil _ _ _ _ _ | exact Kd.V_nil _ _ _ _ _ | exact Kd.Q_nil _ _ _ _ _ | exact Kd.S_nil _ _ _ _ _, hs HB.out⟩
    ·rw [if_neg c29] at H
     have c29b0 : decide (6 < (x5_1.length : Int)) = false := decide_eq_false c29
     have c29b1 : decide (6 < x5_1.length) = false := decide_eq_false (by omega)
     clear c29
     obtain ⟨c33, H⟩ := ifs H
     have c33b0 : decide (0 < (l0.length : Int)) = true := decide_eq_true c33
     have c33b1 : decide (0 < l0.length) = true := decide_eq_true (by omega)
     clear c33
     obtain ⟨c34b0, c34b1, H⟩ := ifd H
     obtain ⟨c35b0, c35b1, H⟩ := ifd H
     obtain ⟨y413, hy413⟩ : ∃ y_ : List Int, y_ = (x4_1.take ((((Ab0 l0 0).f0).length : Int) : Int).toNat) := ⟨_, rfl⟩
     replace H : ((spec_l1Ints.f y413).bind fun t417 => ((spec_l1Ints.f (x4_1.drop ((((Ab0 l0 0).f0).length : Int) : Int).toNat)).bind fun t424 => (some (t417, t424, true)))) = some (r1, r2, r3) := by first | (rw [hy413]; with_reducible exact H) | (have H2_ := (Option.bind_some _ _).symm.trans H; rw [hy413]; with_reducible exact H2_) | (have H2_ := (Option.bind_some _ _).symm.trans H; with_reducible exact H2_) | with_reducible exact H | (rw [hy413]; exact H) | exact H
     have Ny413 := am hy413
     clear hy413
     obtain ⟨t417, A36, H⟩ := ob H
     try dsimp only at H
     have c37b0 := eq_true (of_decide_eq_true (by first | (with_reducible assumption) | assumption) : 0 ≤ (((Ab0 l0 0).f0).length : Int))
     have c38b0 := eq_true (of_decide_eq_true (by first | (with_reducible assumption) | assumption) : (((Ab0 l0 0).f0).length : Int) ≤ (x4_1.length : Int))
     obtain ⟨y420, hy420⟩ : ∃ y_ : List Int, y_ = (x4_1.drop ((((Ab0 l0 0).f0).length : Int) : Int).toNat) := ⟨_, rfl⟩
     replace H : ((spec_l1Ints.f y420).bind fun t424 => (some (t417, t424, true))) = some (r1, r2, r3) := by first | (rw [hy420]; with_reducible exact H) | (have H2_ := (Option.bind_some _ _).symm.trans H; rw [hy420]; with_reducible exact H2_) | (have H2_ := (Option.bind_some _ _).symm.trans H; with_reducible exact H2_) | with_reducible exact H | (rw [hy420]; exact H) | exact H
     have Ny420 := am hy420
     clear hy420
     obtain ⟨t424, A39, H⟩ := ob H
     try dsimp only at H
     simp only [Option.some.injEq, Prod.mk.injEq] at H
     obtain ⟨rfl, rfl, rfl⟩ := H
     obtain ⟨Ao40, co40, eo40⟩ := Kd.R_slice HO_4.out
     subst eo40
     obtain ⟨Ao41, co41, eo41⟩ := Kd.R_slice HO_5.out
     subst eo41
     have p411 : 0 ≤ (0 : Int) := (by omega)
     have q411 : 0 < (l0.length : Int) := od
     obtain ⟨ad411, A411_0, c411_0, A411_1, c411_1, e411, hx411_0, hx411_1, hl411_0, hi411_0, hl411_1, hi411_1⟩ := Af0 HR0.out 0 p411 q411
     obtain rfl : ad389 = ad411 := (by injection e411)
     have qi411 : (0 < l0.length) = True := eq_true (by omega)
     (try rw [show ((0 : Int)).toNat = 0 from rfl] at hx411_0)
     (try rw [show 0 * 2 = 0 from rfl] at hx411_0)
     (try rw [Addr.add_zero'] at hx411_0)
     (try rw [show ((0 : Int)).toNat = 0 from rfl] at hx411_1)
     (try rw [show 0 * 2 = 0 from rfl] at hx411_1)
     (try rw [Addr.add_zero'] at hx411_1)
     replace hx411_0 := cz HB.out hx411_0
     replace hx411_1 := cz HB.out hx411_1
     have HR411_0 := am hi411_0
     have HC411_0 := am hl411_0
     clear hi411_0 hl411_0
     have HR411_1 := am hi411_1
     have HC411_1 := am hl411_1
     clear hi411_1 hl411_1
     replace p411 := eq_true p411
     replace q411 := eq_true q411
     have p412 : 0 ≤ (0 : Int) := (by omega)
     have q412 : 0 < (l0.length : Int) := od
     obtain ⟨ad412, A412_0, c412_0, A412_1, c412_1, e412, hx412_0, hx412_1, hl412_0, hi412_0, hl412_1, hi412_1⟩ := Af0 HR0.out 0 p412 q412
     obtain rfl : ad389 = ad412 := (by injection e412)
     have qi412 : (0 < l0.length) = True := eq_true (by omega)
     (try rw [show ((0 : Int)).toNat = 0 from rfl] at hx412_0)
     (try rw [show 0 * 2 = 0 from rfl] at hx412_0)
     (try rw [Addr.add_zero'] at hx412_0)
     (try rw [show ((0 : Int)).toNat = 0 from rfl] at hx412_1)
     (try rw [show 0 * 2 = 0 from rfl] at hx412_1)
     (try rw [Addr.add_zero'] at hx412_1)
     replace hx412_0 := cz HB.out hx412_0
     replace hx412_1 := cz HB.out hx412_1
     have HR412_0 := am hi412_0
     have HC412_0 := am hl412_0
     clear hi412_0 hl412_0
     have HR412_1 := am hi412_1
     have HC412_1 := am hl412_1
     clear hi412_1 hl412_1
     replace p412 := eq_true p412
     replace q412 := eq_true q412
     have ea_ := Option.some.inj (hx411_0.symm.trans hx412_0)
     injection ea_ with ea_ en_ ec_
     subst ea_
     subst ec_
     clear en_
     have ea_ := Option.some.inj (hx411_1.symm.trans hx412_1)
     injection ea_ with ea_ en_ ec_
     subst ea_
     subst ec_
     clear en_
     try go_wp2
     replace HO_4 := am (Kd.R_drew HO_4.out)
     replace HO_5 := am (Kd.R_drew HO_5.out)
     replace BK388 := am (Ad0 BK388.out)
     replace HB := am (Ab3 HB.out)
     have q43 : ((((Ab0 l0 0).f0).length : Int) : Int) ≤ ((x4_1.length : Int) : Int) := od
     obtain ⟨i043, hi043, _, hsz43, _⟩ := info_parts An3
     have hroom43 : x4_1.length ≤ co40 := (Kd.R_reads' HO_4.out).2.1
     have hC43 : Kd.C (Kd.int .i64) _ Ao40 x4_1.length x4_1 := (Kd.R_reads' HO_4.out).2.2
     have hcut43 := cut_to (P := Tryz.prog) 27 2 .i64 Tryz.underlying27 hi043 Ao40 x4_1.length co40 (((Ab0 l0 0).f0).length : Int) od q43 hroom43
     have hr43 := Kd.C_take (m := ((((Ab0 l0 0).f0).length : Int) : Int).toNat) hC43 (by omega)
     have hy43 : y413.length = ((((Ab0 l0 0).f0).length : Int) : Int).toNat := (by rw [Ny413.out, List.length_take]; omega)
     rw [← Ny413.out] at hr43
     rw [← hy43] at hcut43
     have HR416 := am hr43
     have HC416 := am (show y413.length ≤ co40 from by omega)
     clear hr43 hC43 hroom43 hi043 hsz43
     have KY43 := am hy43
     clear hy43
     have KL43 := am (show ((((Ab0 l0 0).f0).length : Int) : Int).toNat ≤ x4_1.length from by omega)
     replace q43 := eq_true q43
     have q44 : ((((Ab0 l0 0).f0).length : Int) : Int) ≤ ((x4_1.length : Int) : Int) := od
     obtain ⟨i044, hi044, _, hsz44, _⟩ := info_parts An3
     have hroom44 : x4_1.length ≤ co40 := (Kd.R_reads' HO_4.out).2.1
     have hC44 : Kd.C (Kd.int .i64) _ Ao40 x4_1.length x4_1 := (Kd.R_reads' HO_4.out).2.2
     have q044 : (0 : Int) ≤ ((((Ab0 l0 0).f0).length : Int) : Int) := od
     have hcut44 := cut_from (P := Tryz.prog) 27 2 .i64 Tryz.underlying27 hi044 1 hsz44 Ao40 x4_1.length co40 (((Ab0 l0 0).f0).length : Int) q044 q44
     have hr44 := Kd.C_drop (m := ((((Ab0 l0 0).f0).length : Int) : Int).toNat) (c := co40) hC44 (by omega) hroom44
     obtain ⟨A44, hA44⟩ : ∃ Az_, Az_ = (if co40 = ((((Ab0 l0 0).f0).length : Int) : Int).toNat then Ao40 else (Ao40 : Option Addr).map (·.add (((((Ab0 l0 0).f0).length : Int) : Int).toNat * 1))) := ⟨_, rfl⟩
     obtain ⟨c44, hc44⟩ : ∃ cz_, cz_ = co40 - ((((Ab0 l0 0).f0).length : Int) : Int).toNat := ⟨_, rfl⟩
     have hy44 : y420.length = x4_1.length - ((((Ab0 l0 0).f0).length : Int) : Int).toNat := (by rw [Ny420.out, List.length_drop] <;> omega)
     rw [show (x4_1).drop ((((Ab0 l0 0).f0).length : Int) : Int).toNat = y420 from Ny420.out.symm] at hr44
     replace hr44 : Kd.C (Kd.int .i64) _ A44 y420.length y420 := (by rw [hA44]; exact hr44)
     rw [← hy44, ← hA44, ← hc44] at hcut44
     have HR423 := am hr44
     have HC423 := am (show y420.length ≤ c44 from by rw [hy44, hc44]; exact Nat.sub_le_sub_right hroom44 _)
     clear hr44 hC44 hroom44 hi044 hsz44 hc44
     have KY44 := am hy44
     have KA44 := am hA44
     clear hy44 hA44
     have KL44 := am (show ((((Ab0 l0 0).f0).length : Int) : Int).toNat ≤ x4_1.length from by omega)
     replace q44 := eq_true q44
     refine Ak0 (n := 11) (S := fun w' => True) (ds := []) #[false, false, false, false, false, false, false, false, false, false, false] (by kernel_rfl) rfl rfl trivial (fun hHeld => ?_); refine Af6 spec_l4Plain.tab15 spec_l4Plain.bits15 (fun HT_ HW_ => ?_)
     generalize wr.drew = w42 at HO_4 HO_5 BK388 HB HR416 HR423 hHeld ⊢
     refine pu 0 62 rfl rfl HT_ ?_
     refine pu 1 63 rfl rfl HT_ ?_
     refine pu 2 64 rfl rfl HT_ ?_
     refine pu 4 66 rfl rfl HT_ ?_
     refine pu 5 67 rfl rfl HT_ ?_
     refine pu 6 68 rfl rfl HT_ ?_
     refine on_ 3 (some 65) rfl rfl HT_ (fun K hK => ?_)
     refine gs Tryz.func67 #[.slice Ao40 y413.length co40] ?_
     refine (spec_l1Ints.calls _ _ y413 t417 _ (cq (cq HR416.out)) HC416.out A36.out).mono ?_
     rintro e w45 ⟨v418, rfl, ho0, hb⟩
     refine ⟨_, rfl, ?_⟩
     have HO419 := am (Kd.R_lower (Kd.R_new' (Kd.R_new' ho0 (Kd.R_lt (rq HO_4.out))) (Kd.R_lt (rq HO_5.out))) (Aa8 (hs HB.out)))
     replace HO_4 := am (Kd.R_elder' (rq HO_4.out) (Kd.R_base ho0) hb)
     replace HO_5 := am (Kd.R_elder' (rq HO_5.out) (Kd.R_base ho0) hb)
     replace BK388 := bb BK388 hb
     replace HR416 := am (Kd.C_below (cq HR416.out) hb)
     replace HR423 := am (Kd.C_below (cq HR423.out) hb)
     replace HB := sb HB hb
     (try clear hb)
     (try clear hk)
     (try clear ho0)
     refine hK.out _ _ trivial (fun hHeld => ?_)
     clear hK K
     refine nr (some 65) ?_
     refine on_ 7 (some 69) rfl rfl HT_ (fun K hK => ?_)
     refine gs Tryz.func67 #[.slice A44 y420.length c44] ?_
     refine (spec_l1Ints.calls _ _ y420 t424 _ (cq (cq HR423.out)) HC423.out A39.out).mono ?_
     rintro e w46 ⟨v425, rfl, ho0, hb⟩
     refine ⟨_, rfl, ?_⟩
     have HO426 := am (Kd.R_lower (Kd.R_new' (Kd.R_new' (Kd.R_new' ho0 (Kd.R_lt (rq HO_4.out))) (Kd.R_lt (rq HO_5.out))) (Kd.R_lt (rq HO419.out))) (Aa8 (hs HB.out)))
     replace HO_4 := am (Kd.R_elder' (rq HO_4.out) (Kd.R_base ho0) hb)
     replace HO_5 := am (Kd.R_elder' (rq HO_5.out) (Kd.R_base ho0) hb)
     replace HO419 := am (Kd.R_elder' (rq HO419.out) (Kd.R_base ho0) hb)
     replace BK388 := bb BK388 hb
     replace HR416 := am (Kd.C_below (cq HR416.out) hb)
     replace HR423 := am (Kd.C_below (cq HR423.out) hb)
     replace HB := sb HB hb
     (try clear hb)
     (try clear hk)
     (try clear ho0)
     obtain ⟨Ao47, co47, eo47⟩ := Kd.R_slice HO426.out
     (first | subst eo47 | (injection eo47 with f1_ f2_ f3_; have f4_ := f1_.symm; have f5_ := f3_.symm; clear f1_ f2_ f3_; subst f4_; subst f5_))
     obtain ⟨Ao48, co48, eo48⟩ := Kd.R_slice HO419.out
     (first | subst eo48 | (injection eo48 with f1_ f2_ f3_; have f4_ := f1_.symm; have f5_ := f3_.symm; clear f1_ f2_ f3_; subst f4_; subst f5_))
     refine hK.out _ _ trivial (fun hHeld => ?_)
     clear hK K
     refine nr (some 69) ?_
     refine pu 8 70 rfl rfl HT_ ?_
     refine on_ 9 none rfl rfl HT_ (fun K hK => ?_)
     have hs49 : w46.cell? ⟨gb388, 0, none⟩ = some (.slice none 0 0) := (Aa0 BK388.out 0).trans rfl
     have hfs49 := Aa1 BK388.out 0
     have hs50 : w46.cell? ⟨gb388, 1, none⟩ = some (.slice none 0 0) := (Aa0 BK388.out 1).trans rfl
     have hfs50 := Aa1 BK388.out 1
     refine At8 (w1 := ?_) (by rfl) rfl ?_ ?_
     rotate_left
     ·go_simp
      rfl
     refine hK.out _ _ trivial (fun hHeld => ?_)
     clear hK K
     refine pu 10 3 rfl rfl HT_ ?_
     refine Am5 (Ai6 HT_.out (by kernel_rfl)) ?_
     try go_wp2
     refine bodyPost_ret (Ap5 rfl _ _ gb388 29 #[.slice Ao48 t417.length co48, .slice Ao47 t424.length co47] (0, 0) _ rfl (by refine bq ?_; refine Aa6 (cs := #[.slice Ao48 t417.length co48, .slice none 0 0]) ?_ 1 _ rfl; refine bq ?_; refine Aa6 (cs := #[.slice none 0 0, .slice none 0 0]) ?_ 0 _ rfl; refine bq ?_; exact BK388.out) Tryz.underlying29 rfl (by kernel_rfl)) rfl ?_
     exact ⟨_, _, er, rq (Kd.R_mono (Kd.R_far (p := ⟨gb388, 1, none⟩) (Kd.R_far (p := ⟨gb388, 0, none⟩) (Kd.R_types HO419.out BK388.out (by decide)) (fun _ hk => hk.2) (.slice Ao48 t417.length co48)) (fun _ hk => hk.2) (.slice Ao47 t424.length co47)) (fun _ hk => hk.1.2)), rq (Kd.R_mono (Kd.R_far (p := ⟨gb388, 1, none⟩) (Kd.R_far (p := ⟨gb388, 0, none⟩) (Kd.R_types HO426.out BK388.out (by decide)) (fun _ hk => hk.2) (.slice Ao48 t417.length co48)) (fun _ hk => hk.2) (.slice Ao47 t424.length co47)) (fun _ hk => hk.1.2)), hs HB.out⟩
end Go.Proofs.YtbdpnkpienpnaaaGreatDoor.P
