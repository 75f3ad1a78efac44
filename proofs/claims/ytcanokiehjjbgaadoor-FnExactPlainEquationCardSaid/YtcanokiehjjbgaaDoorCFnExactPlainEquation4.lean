/- A part of the proof of the law FnExactPlainEquation. -/
import Derived.Laws.StructEq
import Derived.Test.YtcanokiehjjbgaaDoorCFnExactPlainEquation0
import Derived.Test.YtcanokiehjjbgaaDoorCFnExactPlainEquation1
import Derived.Test.YtcanokiehjjbgaaDoorCFnExactPlainEquation2
import Derived.Test.YtcanokiehjjbgaaDoorCFnExactPlainEquation3
import Derived.Test.YtcanokiehjjbgaaDoorCFnExactPlainEquation13
namespace Go.Proofs.YtcanokiehjjbgaaDoor.P
open Go.RowKit Go.Proofs.YtcanokiehjjbgaaDoorW.PrintWords Go.Proofs.YtcanokiehjjbgaaDoorW.PrintLast Go.Proofs.YtcanokiehjjbgaaDoorW.PrintMore
attribute [local go_sem] max2_int min2_int max_two min_two max_three min_three max_four min_four   -- for this text's walks alone
set_option linter.unusedVariables false
set_option linter.unusedSimpArgs false
def spec_l4Plain.l0 : Nat → List (S47) → List Int → List Int → Int → Option (List Int × List Int × Bool)
  | 0, _, _, _, _ => none
  | k + 1, x0, x4, x5, x6 => if x6 < (x4.length : Int) then (if 0 ≤ x6 then (if (rd x4 x6) ≥ 0 then (spec_l4Plain.l0 k x0 x4 x5 (wrap64 (x6 + 1))) else ((spec_l2Rank.f k x5 (rd x4 x6)).bind fun t542 => (if t542 < 0 then (if x5.length < 17592186044416 then (spec_l4Plain.l0 k x0 (x4.set (x6 : Int).toNat (wrap64 ((-1) - (x5.length : Int)))) (x5 ++ [rd x4 x6]) (wrap64 (x6 + 1))) else (none)) else (spec_l4Plain.l0 k x0 (x4.set (x6 : Int).toNat (wrap64 ((-1) - t542))) x5 (wrap64 (x6 + 1)))))) else (none)) else (if (x5.length : Int) > 6 then (some (([] : List Int), ([] : List Int), false)) else (if 0 < (x0.length : Int) then (if 0 ≤ (((rd_T47 x0 0).f0).length : Int) then (if (((rd_T47 x0 0).f0).length : Int) ≤ (x4.length : Int) then ((spec_l1Ints.f (x4.take ((((rd_T47 x0 0).f0).length : Int) : Int).toNat)).bind fun t555 => ((spec_l1Ints.f (x4.drop ((((rd_T47 x0 0).f0).length : Int) : Int).toNat)).bind fun t562 => (some (t555, t562, true)))) else (none)) else (none)) else (none)))
def spec_l4Plain.f (k : Nat) (l0 : List (S47)) : Option (List Int × List Int × Bool) := if 0 < (l0.length : Int) then ((spec_l1Ints.f ((rd_T47 l0 0).f0)).bind fun t529 => (if t529.length + ((rd_T47 l0 0).f1).length < 17592186044416 then (spec_l4Plain.l0 k l0 (t529 ++ ((rd_T47 l0 0).f1)) (([] : List Int)) 0) else (none))) else (none)
def spec_l4Plain.T1 : Bool × List (List Nat × List Nat) := (true, [([], []), ([0], [0]), ([1], [1]), ([2], [2]), ([3], [3]), ([], []), ([5], [5]), ([6], [6]), ([7], [7]), ([4, 8, 4], [4, 8]), ([9, 9, 0, 1, 2, 3, 4, 5, 6, 7, 8, 9], [9])])
def spec_l4Plain.B1 : List Nat := [0, 1, 3, 7, 15, 0, 32, 96, 224, 511, 1023]
theorem spec_l4Plain.tab1 : rtab .any (opsOf Tryd.f58 1) = spec_l4Plain.T1 := by kernel_rfl
theorem spec_l4Plain.bits1 : waitsOk spec_l4Plain.T1.2 spec_l4Plain.B1 = true := by kernel_rfl
def spec_l4Plain.T15 : Bool × List (List Nat × List Nat) := (true, [([], []), ([], []), ([0, 1], [0, 1]), ([2], [2]), ([], []), ([], []), ([4, 5], [4, 5]), ([6, 3], [6]), ([3, 7], [3, 7]), ([8, 7, 0, 1, 2, 3, 4, 5, 6, 7, 8], [8]), ([9, 0, 1, 2, 3, 4, 5, 6, 7, 8, 9], [])])
def spec_l4Plain.B15 : List Nat := [0, 0, 3, 7, 0, 0, 48, 127, 255, 511, 1023]
theorem spec_l4Plain.tab15 : rtab .any (opsOf Tryd.f58 15) = spec_l4Plain.T15 := by kernel_rfl
theorem spec_l4Plain.bits15 : waitsOk spec_l4Plain.T15.2 spec_l4Plain.B15 = true := by kernel_rfl
set_option maxHeartbeats 8000000 in
set_option maxRecDepth 100000 in
theorem spec_l4Plain.calls (k : Nat) (A0 : Option Addr) (l0 : List (S47)) (r1 : List Int) (r2 : List Int) (r3 : Bool) (w : World) (hr0 : Kd.C k47 w A0 l0.length l0) (h : spec_l4Plain.f k l0 = some (r1, r2, r3)) :
    Calls Tryd.prog 58 #[.pointer A0] w fun e w' => ∃ v0_ v1_ : Value, e = .returned (.tuple #[.agg #[v0_, v1_], .bool r3]) ∧ Kd.R (Kd.int .i64) 2 w' w.heap.size (fun k_ => some k_ ≠ (v1_ : Value).ownBlock) v0_ r1 ∧ Kd.R (Kd.int .i64) 2 w' w.heap.size (fun k_ => some k_ ≠ (v0_ : Value).ownBlock) v1_ r2 ∧ Below w.heap.size w w' := by
  have hu47 := Tryd.underlying47
  have HR0 := am hr0
  clear hr0
  have HB := am (Below.refl w.heap.size w)
  have H : (if 0 < (l0.length : Int) then ((spec_l1Ints.f ((rd_T47 l0 0).f0)).bind fun t529 => (if t529.length + ((rd_T47 l0 0).f1).length < 17592186044416 then (spec_l4Plain.l0 k l0 (t529 ++ ((rd_T47 l0 0).f1)) (([] : List Int)) 0) else (none))) else (none)) = some (r1, r2, r3) := h
  clear h
  by_cases c2 : 0 < (l0.length : Int)
  · rw [if_pos c2] at H
    have c2b0 : decide (0 < (l0.length : Int)) = true := decide_eq_true c2
    have c2b1 : decide (0 < l0.length) = true := decide_eq_true (by omega)
    clear c2
    replace H := Option.bind_eq_some_iff.mp H
    obtain ⟨t529, A30, H⟩ := H
    replace H : (if t529.length + ((rd_T47 l0 0).f1).length < 17592186044416 then (spec_l4Plain.l0 k l0 (t529 ++ ((rd_T47 l0 0).f1)) (([] : List Int)) 0) else (none)) = some (r1, r2, r3) := H
    have A3 := am A30
    clear A30
    by_cases c4 : t529.length + ((rd_T47 l0 0).f1).length < 17592186044416
    · rw [if_pos c4] at H
      have LMc4 := am c4
      clear c4
      obtain ⟨y534, hy534⟩ : ∃ y_ : List Int, y_ = (t529 ++ ((rd_T47 l0 0).f1)) := ⟨_, rfl⟩
      replace H : (spec_l4Plain.l0 k l0 y534 (([] : List Int)) 0) = some (r1, r2, r3) := by first | (rw [hy534]; with_reducible exact H) | (have H2_ := (Option.bind_some _ _).symm.trans H; rw [hy534]; with_reducible exact H2_) | (have H2_ := (Option.bind_some _ _).symm.trans H; with_reducible exact H2_) | with_reducible exact H | (rw [hy534]; exact H) | exact H
      have Ny534 := am hy534
      clear hy534
      obtain ⟨y537, hy537⟩ : ∃ y_ : List Int, y_ = (([] : List Int)) := ⟨_, rfl⟩
      replace H : (spec_l4Plain.l0 k l0 y534 y537 0) = some (r1, r2, r3) := by first | (rw [hy537]; with_reducible exact H) | (have H2_ := (Option.bind_some _ _).symm.trans H; rw [hy537]; with_reducible exact H2_) | (have H2_ := (Option.bind_some _ _).symm.trans H; with_reducible exact H2_) | with_reducible exact H | (rw [hy537]; exact H) | exact H
      have Ny537 := am hy537
      clear hy537
      have H' := am H
      clear H
      go_enter Tryd.func58, Tryd.ntmps58
      try go_wp2_with (first | ((with_reducible refine gate_dst (N := 2) rfl ?_); refine box_event ?hg (N := 2) ?hd (cs := #[.slice none 0 0, .slice none 0 0]) (t := 47) ?hr ?_; (case hd => rfl); (case hg => rfl); (case hr => first | (go_simp; done) | (go_simp; rfl)); intro gb526 hg w5 hbox hb; have n0_ := am (below_step (hq HB.out) hb); have n1_ := am (hbox); have n2_ := am (bz hg (hq HB.out)); have n3_ := n2_; clear HB; revert n0_ n1_ n2_ n3_; intro HB BK526 GW526 GE526; clear hb hbox hg))
      have n0_ := am (blk_drew BK526.out)
      have n1_ := am (below_drew1 HB.out)
      clear BK526 HB; revert n0_ n1_; intro BK526 HB
      have p527 : 0 ≤ (0 : Int) := (by omega)
      have q527 : 0 < (l0.length : Int) := of_decide_eq_true (by first | (with_reducible assumption) | assumption)
      obtain ⟨ad527, A527_0, c527_0, A527_1, c527_1, e527, hx527_0, hx527_1, hl527_0, hi527_0, hl527_1, hi527_1⟩ := at_T47 HR0.out 0 p527 q527
      have hw527_1 := hx527_1
      (try rw [show ((0 : Int)).toNat = 0 from rfl] at hw527_1)
      (try rw [show 0 * 2 = 0 from rfl] at hw527_1)
      (try rw [Addr.add_zero'] at hw527_1)
      have hw527_0 := hx527_0
      (try rw [show ((0 : Int)).toNat = 0 from rfl] at hw527_0)
      (try rw [show 0 * 2 = 0 from rfl] at hw527_0)
      (try rw [Addr.add_zero'] at hw527_0)
      cases e527
      have qi527 : (0 < l0.length) = True := eq_true (by omega)
      (try rw [show ((0 : Int)).toNat = 0 from rfl] at hx527_0)
      (try rw [show 0 * 2 = 0 from rfl] at hx527_0)
      (try rw [Addr.add_zero'] at hx527_0)
      (try rw [show ((0 : Int)).toNat = 0 from rfl] at hx527_1)
      (try rw [show 0 * 2 = 0 from rfl] at hx527_1)
      (try rw [Addr.add_zero'] at hx527_1)
      replace hx527_0 := (HB.out.cell (World.block_lt_of_cell? w _ hx527_0)).trans hx527_0
      replace hx527_1 := (HB.out.cell (World.block_lt_of_cell? w _ hx527_1)).trans hx527_1
      have HR527_0 := am hi527_0
      have HC527_0 := am hl527_0
      clear hi527_0 hl527_0
      have HR527_1 := am hi527_1
      have HC527_1 := am hl527_1
      clear hi527_1 hl527_1
      replace p527 := eq_true p527
      replace q527 := eq_true q527
      have p528 : 0 ≤ (0 : Int) := (by omega)
      have q528 : 0 < (l0.length : Int) := of_decide_eq_true (by first | (with_reducible assumption) | assumption)
      obtain ⟨ad528, A528_0, c528_0, A528_1, c528_1, e528, hx528_0, hx528_1, hl528_0, hi528_0, hl528_1, hi528_1⟩ := at_T47 HR0.out 0 p528 q528
      have hw528_1 := hx528_1
      (try rw [show ((0 : Int)).toNat = 0 from rfl] at hw528_1)
      (try rw [show 0 * 2 = 0 from rfl] at hw528_1)
      (try rw [Addr.add_zero'] at hw528_1)
      have hw528_0 := hx528_0
      (try rw [show ((0 : Int)).toNat = 0 from rfl] at hw528_0)
      (try rw [show 0 * 2 = 0 from rfl] at hw528_0)
      (try rw [Addr.add_zero'] at hw528_0)
      obtain rfl : ad527 = ad528 := (by injection e528)
      have qi528 : (0 < l0.length) = True := eq_true (by omega)
      (try rw [show ((0 : Int)).toNat = 0 from rfl] at hx528_0)
      (try rw [show 0 * 2 = 0 from rfl] at hx528_0)
      (try rw [Addr.add_zero'] at hx528_0)
      (try rw [show ((0 : Int)).toNat = 0 from rfl] at hx528_1)
      (try rw [show 0 * 2 = 0 from rfl] at hx528_1)
      (try rw [Addr.add_zero'] at hx528_1)
      replace hx528_0 := (HB.out.cell (World.block_lt_of_cell? w _ hx528_0)).trans hx528_0
      replace hx528_1 := (HB.out.cell (World.block_lt_of_cell? w _ hx528_1)).trans hx528_1
      have HR528_0 := am hi528_0
      have HC528_0 := am hl528_0
      clear hi528_0 hl528_0
      have HR528_1 := am hi528_1
      have HC528_1 := am hl528_1
      clear hi528_1 hl528_1
      replace p528 := eq_true p528
      replace q528 := eq_true q528
      have ea_ := Option.some.inj (hx527_0.symm.trans hx528_0)
      injection ea_ with ea_ en_ ec_
      subst ea_
      subst ec_
      clear en_
      have ea_ := Option.some.inj (hx527_1.symm.trans hx528_1)
      injection ea_ with ea_ en_ ec_
      subst ea_
      subst ec_
      clear en_
      have p532 : 0 ≤ (0 : Int) := (by omega)
      have q532 : 0 < (l0.length : Int) := of_decide_eq_true (by first | (with_reducible assumption) | assumption)
      obtain ⟨ad532, A532_0, c532_0, A532_1, c532_1, e532, hx532_0, hx532_1, hl532_0, hi532_0, hl532_1, hi532_1⟩ := at_T47 HR0.out 0 p532 q532
      have hw532_1 := hx532_1
      (try rw [show ((0 : Int)).toNat = 0 from rfl] at hw532_1)
      (try rw [show 0 * 2 = 0 from rfl] at hw532_1)
      (try rw [Addr.add_zero'] at hw532_1)
      have hw532_0 := hx532_0
      (try rw [show ((0 : Int)).toNat = 0 from rfl] at hw532_0)
      (try rw [show 0 * 2 = 0 from rfl] at hw532_0)
      (try rw [Addr.add_zero'] at hw532_0)
      obtain rfl : ad527 = ad532 := (by injection e532)
      have qi532 : (0 < l0.length) = True := eq_true (by omega)
      (try rw [show ((0 : Int)).toNat = 0 from rfl] at hx532_0)
      (try rw [show 0 * 2 = 0 from rfl] at hx532_0)
      (try rw [Addr.add_zero'] at hx532_0)
      (try rw [show ((0 : Int)).toNat = 0 from rfl] at hx532_1)
      (try rw [show 0 * 2 = 0 from rfl] at hx532_1)
      (try rw [Addr.add_zero'] at hx532_1)
      replace hx532_0 := (HB.out.cell (World.block_lt_of_cell? w _ hx532_0)).trans hx532_0
      replace hx532_1 := (HB.out.cell (World.block_lt_of_cell? w _ hx532_1)).trans hx532_1
      have HR532_0 := am hi532_0
      have HC532_0 := am hl532_0
      clear hi532_0 hl532_0
      have HR532_1 := am hi532_1
      have HC532_1 := am hl532_1
      clear hi532_1 hl532_1
      replace p532 := eq_true p532
      replace q532 := eq_true q532
      have ea_ := Option.some.inj (hx527_0.symm.trans hx532_0)
      injection ea_ with ea_ en_ ec_
      subst ea_
      subst ec_
      clear en_
      have ea_ := Option.some.inj (hx527_1.symm.trans hx532_1)
      injection ea_ with ea_ en_ ec_
      subst ea_
      subst ec_
      clear en_
      have p533 : 0 ≤ (0 : Int) := (by omega)
      have q533 : 0 < (l0.length : Int) := of_decide_eq_true (by first | (with_reducible assumption) | assumption)
      obtain ⟨ad533, A533_0, c533_0, A533_1, c533_1, e533, hx533_0, hx533_1, hl533_0, hi533_0, hl533_1, hi533_1⟩ := at_T47 HR0.out 0 p533 q533
      have hw533_1 := hx533_1
      (try rw [show ((0 : Int)).toNat = 0 from rfl] at hw533_1)
      (try rw [show 0 * 2 = 0 from rfl] at hw533_1)
      (try rw [Addr.add_zero'] at hw533_1)
      have hw533_0 := hx533_0
      (try rw [show ((0 : Int)).toNat = 0 from rfl] at hw533_0)
      (try rw [show 0 * 2 = 0 from rfl] at hw533_0)
      (try rw [Addr.add_zero'] at hw533_0)
      obtain rfl : ad527 = ad533 := (by injection e533)
      have qi533 : (0 < l0.length) = True := eq_true (by omega)
      (try rw [show ((0 : Int)).toNat = 0 from rfl] at hx533_0)
      (try rw [show 0 * 2 = 0 from rfl] at hx533_0)
      (try rw [Addr.add_zero'] at hx533_0)
      (try rw [show ((0 : Int)).toNat = 0 from rfl] at hx533_1)
      (try rw [show 0 * 2 = 0 from rfl] at hx533_1)
      (try rw [Addr.add_zero'] at hx533_1)
      replace hx533_0 := (HB.out.cell (World.block_lt_of_cell? w _ hx533_0)).trans hx533_0
      replace hx533_1 := (HB.out.cell (World.block_lt_of_cell? w _ hx533_1)).trans hx533_1
      have HR533_0 := am hi533_0
      have HC533_0 := am hl533_0
      clear hi533_0 hl533_0
      have HR533_1 := am hi533_1
      have HC533_1 := am hl533_1
      clear hi533_1 hl533_1
      replace p533 := eq_true p533
      replace q533 := eq_true q533
      have ea_ := Option.some.inj (hx527_0.symm.trans hx533_0)
      injection ea_ with ea_ en_ ec_
      subst ea_
      subst ec_
      clear en_
      have ea_ := Option.some.inj (hx527_1.symm.trans hx533_1)
      injection ea_ with ea_ en_ ec_
      subst ea_
      subst ec_
      clear en_
      refine start_ (n := 11) (S := fun w' => w'.cell? ad527 = some (.slice A527_0 ((rd_T47 l0 0).f0).length c527_0) ∧ w'.cell? ⟨ad527.block, ad527.off + 1, none⟩ = some (.slice A527_1 ((rd_T47 l0 0).f1).length c527_1) ∧ w'.cell? ad527 = some (.slice A527_0 ((rd_T47 l0 0).f0).length c527_0) ∧ w'.cell? ⟨ad527.block, ad527.off + 1, none⟩ = some (.slice A527_1 ((rd_T47 l0 0).f1).length c527_1) ∧ w'.cell? ad527 = some (.slice A527_0 ((rd_T47 l0 0).f0).length c527_0) ∧ w'.cell? ⟨ad527.block, ad527.off + 1, none⟩ = some (.slice A527_1 ((rd_T47 l0 0).f1).length c527_1) ∧ w'.cell? ad527 = some (.slice A527_0 ((rd_T47 l0 0).f0).length c527_0) ∧ w'.cell? ⟨ad527.block, ad527.off + 1, none⟩ = some (.slice A527_1 ((rd_T47 l0 0).f1).length c527_1)) (ds := []) #[false, false, false, false, false, false, false, false, false, false, false] (by kernel_rfl) rfl rfl ⟨((HB.out.cell (World.block_lt_of_cell? w _ hw527_0)).trans hw527_0), ((HB.out.cell (World.block_lt_of_cell? w _ hw527_1)).trans hw527_1), ((HB.out.cell (World.block_lt_of_cell? w _ hw528_0)).trans hw528_0), ((HB.out.cell (World.block_lt_of_cell? w _ hw528_1)).trans hw528_1), ((HB.out.cell (World.block_lt_of_cell? w _ hw532_0)).trans hw532_0), ((HB.out.cell (World.block_lt_of_cell? w _ hw532_1)).trans hw532_1), ((HB.out.cell (World.block_lt_of_cell? w _ hw533_0)).trans hw533_0), ((HB.out.cell (World.block_lt_of_cell? w _ hw533_1)).trans hw533_1)⟩ (fun hHeld => ?_); refine with_tabW spec_l4Plain.tab1 spec_l4Plain.bits1 (fun HT_ HW_ => ?_)
      generalize w5.drew = w6 at BK526 HB HR527_0 HR527_1 HR528_0 HR528_1 HR532_0 HR532_1 HR533_0 HR533_1 hx527_0 hx527_1 hx528_0 hx528_1 hx532_0 hx532_1 hx533_0 hx533_1 hHeld ⊢
      refine pure_ (i := 0) (N := some 9) (v := ?_) (a' := ?_) #[true, false, false, false, false, false, false, false, false, false, false] rfl rfl (any_of HT_.out (by kernel_rfl)) (fun _ _ _ h => h) (Or.inl ⟨by rfl, ?_⟩) ?_ ?_
      rotate_left
      · intro w'
        go_simp
        with_reducible rfl
      rotate_left
      · simp only [Act.put, lsp, i64_w, i32_w]
        rfl
      refine pure_ (i := 1) (N := some 10) (v := ?_) (a' := ?_) #[true, true, false, false, false, false, false, false, false, false, false] rfl rfl (any_of HT_.out (by kernel_rfl)) (fun _ _ _ h => h) (Or.inl ⟨by rfl, ?_⟩) ?_ ?_
      rotate_left
      · intro w'
        go_simp
        with_reducible rfl
      rotate_left
      · simp only [Act.put, lsp, i64_w, i32_w]
        rfl
      refine pure_ (i := 2) (N := some 11) (v := ?_) (a' := ?_) #[true, true, true, false, false, false, false, false, false, false, false] rfl rfl (any_of HT_.out (by kernel_rfl)) (fun _ _ _ h => h) (Or.inl ⟨by rfl, ?_⟩) ?_ ?_
      rotate_left
      · intro w'
        go_simp
        with_reducible rfl
      rotate_left
      · simp only [Act.put, lsp, i64_w, i32_w]
        rfl
      refine pure_ (i := 5) (N := some 14) (v := ?_) (a' := ?_) #[true, true, true, false, false, true, false, false, false, false, false] rfl rfl (any_of HT_.out (by kernel_rfl)) (fun _ _ _ h => h) (Or.inl ⟨by rfl, ?_⟩) ?_ ?_
      rotate_left
      · intro w'
        go_simp
        with_reducible rfl
      rotate_left
      · simp only [Act.put, lsp, i64_w, i32_w]
        rfl
      refine pure_ (i := 6) (N := some 15) (v := ?_) (a' := ?_) #[true, true, true, false, false, true, true, false, false, false, false] rfl rfl (any_of HT_.out (by kernel_rfl)) (fun _ _ _ h => h) (Or.inl ⟨by rfl, ?_⟩) ?_ ?_
      rotate_left
      · intro w'
        go_simp
        with_reducible rfl
      rotate_left
      · simp only [Act.put, lsp, i64_w, i32_w]
        rfl
      refine pure_ (i := 7) (N := some 16) (v := ?_) (a' := ?_) #[true, true, true, false, false, true, true, true, false, false, false] rfl rfl (any_of HT_.out (by kernel_rfl)) (fun _ _ _ h => h) (Or.inl ⟨by rfl, ?_⟩) ?_ ?_
      rotate_left
      · intro w'
        go_simp
        with_reducible rfl
      rotate_left
      · simp only [Act.put, lsp, i64_w, i32_w]
        rfl
      refine take_ (i := 3) (N := some 12) (v := ?_) (a' := ?_) #[true, true, true, true, false, true, true, true, false, false, false] rfl rfl (take_ofW HT_.out HW_.out (by kernel_rfl)) (fun _ _ _ h => h) (Or.inl ⟨by rfl, ?_⟩) hHeld ?_ ?_
      rotate_left
      · rintro w' ⟨s0, s1, s2, s3, s4, s5, s6, s7⟩
        go_simp
        with_reducible rfl
      rotate_left
      · simp only [Act.put, lsp, i64_w, i32_w]
        rfl
      refine take_ (i := 8) (N := some 17) (v := ?_) (a' := ?_) #[true, true, true, true, false, true, true, true, true, false, false] rfl rfl (take_ofW HT_.out HW_.out (by kernel_rfl)) (fun _ _ _ h => h) (Or.inl ⟨by rfl, ?_⟩) hHeld ?_ ?_
      rotate_left
      · rintro w' ⟨s0, s1, s2, s3, s4, s5, s6, s7⟩
        go_simp
        with_reducible rfl
      rotate_left
      · simp only [Act.put, lsp, i64_w, i32_w]
        rfl
      refine one_ (i := 4) (N := some 13) #[true, true, true, true, true, true, true, true, true, false, false] rfl rfl (one_of HT_.out (by kernel_rfl)) (by decide) (fun K hK => ?_)
      refine goes_ Tryd.func94 (by kernel_rfl) rfl #[.slice A527_0 ((rd_T47 l0 0).f0).length c527_0] (by rfl) rfl rfl el ?_
      with_reducible refine (spec_l1Ints.calls _ _ ((rd_T47 l0 0).f0) t529 _ ?side1 ?side2 A3.out).mono ?_
      (case side1 => exact cq (Kd.C_below HR528_0.out HB.out))
      (case side2 => exact HC528_0.out)
      rintro e w7 ⟨v530, rfl, ho0, hb⟩
      refine ⟨_, rfl, ?_⟩
      have n0_ := am (Kd.R_lower ho0 (below_size (hs HB.out)))
      have n1_ := am (blk_below (bq BK526.out) hb)
      have n2_ := am (below_step (hs HB.out) hb)
      clear BK526 HB; revert n0_ n1_ n2_; intro HO531 BK526 HB
      (try clear hb)
      (try clear hb2)
      (try clear hgw)
      (try clear hk)
      (try clear hi)
      (try clear ho0)
      refine hK.out _ _ ⟨((HB.out.cell (World.block_lt_of_cell? w _ hw527_0)).trans hw527_0), ((HB.out.cell (World.block_lt_of_cell? w _ hw527_1)).trans hw527_1), ((HB.out.cell (World.block_lt_of_cell? w _ hw528_0)).trans hw528_0), ((HB.out.cell (World.block_lt_of_cell? w _ hw528_1)).trans hw528_1), ((HB.out.cell (World.block_lt_of_cell? w _ hw532_0)).trans hw532_0), ((HB.out.cell (World.block_lt_of_cell? w _ hw532_1)).trans hw532_1), ((HB.out.cell (World.block_lt_of_cell? w _ hw533_0)).trans hw533_0), ((HB.out.cell (World.block_lt_of_cell? w _ hw533_1)).trans hw533_1)⟩ (fun hHeld => ?_)
      clear hK K
      refine norm_ (a' := ?_) ?_ ?_
      rotate_left
      · show Act.put _ (some 13) _ = _
        simp only [Act.put, lsp, i64_w, i32_w]
        rfl
      refine one_ (i := 9) (N := some 18) #[true, true, true, true, true, true, true, true, true, true, false] rfl rfl (one_of HT_.out (by kernel_rfl)) (by decide) (fun K hK => ?_)
      refine Kd.R_append_rows_step (Kd.int .i64) (w0 := w) w.heap.size (by rfl) (.tmp 13) (.tmp 17) 27 2 (.int .i64 0) 8 rfl Tryd.underlying27 info2 rfl (by decide) (by omega) v530 t529 ((rd_T47 l0 0).f1) _ _ _ (fun _ => True) (fun _ => False) rfl rfl ?aO ?aR (fun _ _ h => h) (fun _ h => h.elim) ?aF ?aB ?aS ?aL ?_
      (case aR => exact cq (Kd.C_below HR533_1.out HB.out))
      (case aB => exact (hs HB.out))
      (case aF => exact (fun _ _ => trivial))
      (case aO => exact (rq HO531.out))
      (case aS => exact (below_size (hs HB.out)))
      (case aL => have := LMc4.out; omega)
      intro v535 w8 ho hb hg hat
      rw [← Ny534.out] at ho
      have n0_ := am (blk_grown (bq BK526.out) hg (Kd.R_ne HO531.out BK526.out (by decide)))
      have n1_ := am (hb)
      have n2_ := am (ho)
      clear BK526 HB HO531; revert n0_ n1_ n2_; intro BK526 HB HO536
      clear ho hb hg hat
      refine hK.out _ _ ⟨((HB.out.cell (World.block_lt_of_cell? w _ hw527_0)).trans hw527_0), ((HB.out.cell (World.block_lt_of_cell? w _ hw527_1)).trans hw527_1), ((HB.out.cell (World.block_lt_of_cell? w _ hw528_0)).trans hw528_0), ((HB.out.cell (World.block_lt_of_cell? w _ hw528_1)).trans hw528_1), ((HB.out.cell (World.block_lt_of_cell? w _ hw532_0)).trans hw532_0), ((HB.out.cell (World.block_lt_of_cell? w _ hw532_1)).trans hw532_1), ((HB.out.cell (World.block_lt_of_cell? w _ hw533_0)).trans hw533_0), ((HB.out.cell (World.block_lt_of_cell? w _ hw533_1)).trans hw533_1)⟩ (fun hHeld => ?_)
      clear hK K
      refine norm_ (a' := ?_) ?_ ?_
      rotate_left
      · show Act.put _ (some 18) _ = _
        simp only [Act.put, lsp, i64_w, i32_w]
        rfl
      refine pure_ (i := 10) (N := some 4) (v := ?_) (a' := ?_) #[true, true, true, true, true, true, true, true, true, true, true] rfl rfl (any_of HT_.out (by kernel_rfl)) (fun _ _ _ h => h) (Or.inl ⟨by rfl, ?_⟩) ?_ ?_
      rotate_left
      · intro w'
        go_simp
        with_reducible rfl
      rotate_left
      · simp only [Act.put, lsp, i64_w, i32_w]
        rfl
      refine done_ (done_of HT_.out (by kernel_rfl)) ?_
      try go_wp2_with (first | ((with_reducible refine gate_dst (N := 19) rfl ?_); refine Kd.R_lit (Kd.int .i64) _ 2 ?hg (N := 19) ?hd (xs := ([] : List Int)) (inner := []) (ok := fun _ => True) (okp := fun _ => True) ?hr ?hp (fun _ hk => hk) trivial (Below.refl _ _) (Nat.le_refl _) (by simp) ?_; (case hd => rfl); (case hg => rfl); (case hr => first | (go_simp; done) | (go_simp; rfl)); (case hp => exact (Reps.none _ _)); intro v538 w9 ho10 hb hg_ hnew_; clear hg_ hnew_; (first | rw [← Ny537.out] at ho10 | (simp only [Int.reduceToNat] at ho10; rw [← Ny537.out] at ho10)); have n0_ := am (Kd.R_elder' (rq HO536.out) (Kd.R_base ho10) hb); have n1_ := am (Kd.R_lower (Kd.R_new' ho10 (Kd.R_lt (rq HO536.out))) (below_size (hs HB.out))); have n2_ := am (blk_below (bq BK526.out) hb); have n3_ := am (below_step (hs HB.out) hb); clear HO536 BK526 HB; revert n0_ n1_ n2_ n3_; intro HO536 HO539 BK526 HB; clear hb ho10))
      go_loopg [5, 6] k (fun kq v5 v6 w' => ∃ (x4_1 : List Int) (x5_1 : List Int) (x6_1 : Int), v6 = .int .i64 x6_1 ∧ Aside0 (spec_l4Plain.l0 kq l0 x4_1 x5_1 x6_1 = some (r1, r2, r3)) ∧ Aside0 (kq ≤ k) ∧ Aside0 (Kd.R (Kd.int .i64) 2 w' w.heap.size (fun k_ => some k_ ≠ (v5 : Value).ownBlock) v535 x4_1) ∧ Aside0 (Kd.R (Kd.int .i64) 2 w' w.heap.size (fun k_ => some k_ ≠ (v535 : Value).ownBlock) v5 x5_1) ∧ Aside0 (w'.heap[gb526]? = some (.cells #[(.slice none 0 0), (.slice none 0 0)] 47 (0, 0))) ∧ Aside0 (Below w.heap.size w w'))
      case atStart => exact ⟨(y534), (y537), (0), (by first | rfl | (simp; done) | (simp [*]; done)), H', ⟨Nat.le_refl _⟩, ⟨by (with_reducible repeat (first | apply Kd.R_alloc | apply Kd.R_drewN | apply Kd.R_drew)); exact Kd.R_mono HO536.out (fun _ hk => hk.2)⟩, ⟨by (with_reducible repeat (first | apply Kd.R_alloc | apply Kd.R_drewN | apply Kd.R_drew)); exact Kd.R_mono HO539.out (fun _ hk => hk.2)⟩, ⟨by refine bq ?_; exact BK526.out⟩, ⟨by exact hs HB.out⟩⟩
      case round =>
        clear H'
        try clear c2; try clear c2b0; try clear c2b1; try clear p2; try clear c4; try clear c5; try clear p5; try clear q5; try clear hx5; try clear qi5; try clear c9; try clear hx527_0; try clear hx527_1; try clear hx528_0; try clear hx528_1; try clear hx532_0; try clear hx532_1; try clear hx533_0; try clear hx533_1; try clear p527; try clear p528; try clear p532; try clear p533; try clear q527; try clear q528; try clear q532; try clear q533
        obtain ⟨x4_1, x5_1, x6_1, rfl, HA, HK1, HO_4, HO_5, BK526, HB⟩ := hrel
        cases gk with
        | zero => exact absurd HA.out (by simp [spec_l4Plain.l0])
        | succ k1 =>
          have H := HA.out
          clear HA
          simp only [spec_l4Plain.l0] at H
          by_cases c11 : x6_1 < (x4_1.length : Int)
          · rw [if_pos c11] at H
            have c11b0 : decide (x6_1 < (x4_1.length : Int)) = true := decide_eq_true c11
            clear c11
            by_cases c12 : 0 ≤ x6_1
            · rw [if_pos c12] at H
              have c12b0 : decide (0 ≤ x6_1) = true := decide_eq_true c12
              clear c12
              by_cases c13 : (rd x4_1 x6_1) ≥ 0
              · rw [if_pos c13] at H
                have c13b0 : decide (0 ≤ (rd x4_1 x6_1)) = true := decide_eq_true c13
                clear c13
                have H' := am H
                clear H
                obtain ⟨Ao14, co14, eo14⟩ := Kd.R_slice HO_4.out
                subst eo14
                have p540 : 0 ≤ (x6_1 : Int) := of_decide_eq_true (by first | (with_reducible assumption) | assumption)
                have q540 : x6_1 < (x4_1.length : Int) := of_decide_eq_true (by first | (with_reducible assumption) | assumption)
                obtain ⟨ad540, e540, hx540_0⟩ := Kd.at_int (Kd.R_reads' HO_4.out).2.2 x6_1 p540 q540
                cases e540
                replace p540 := eq_true p540
                replace q540 := eq_true q540
                go_wp2
                go_roundg k1
                case measure => have := HK1.out; omega
                case rel => exact ⟨(x4_1), (x5_1), (wrap64 (x6_1 + 1)), (by first | rfl | (simp; done) | (simp [*]; done)), H', ⟨by have := HK1.out; omega⟩, ⟨by (with_reducible repeat (first | apply Kd.R_alloc | apply Kd.R_drewN | apply Kd.R_drew)); exact HO_4.out⟩, ⟨by (with_reducible repeat (first | apply Kd.R_alloc | apply Kd.R_drewN | apply Kd.R_drew)); exact HO_5.out⟩, ⟨by refine bq ?_; exact BK526.out⟩, ⟨by exact hs HB.out⟩⟩
              · rw [if_neg c13] at H
                have c13b0 : decide (0 ≤ (rd x4_1 x6_1)) = false := decide_eq_false c13
                clear c13
                replace H := Option.bind_eq_some_iff.mp H
                obtain ⟨t542, A150, H⟩ := H
                replace H : (if t542 < 0 then (if x5_1.length < 17592186044416 then (spec_l4Plain.l0 k1 l0 (x4_1.set (x6_1 : Int).toNat (wrap64 ((-1) - (x5_1.length : Int)))) (x5_1 ++ [rd x4_1 x6_1]) (wrap64 (x6_1 + 1))) else (none)) else (spec_l4Plain.l0 k1 l0 (x4_1.set (x6_1 : Int).toNat (wrap64 ((-1) - t542))) x5_1 (wrap64 (x6_1 + 1)))) = some (r1, r2, r3) := H
                have A15 := am A150
                clear A150
                by_cases c16 : t542 < 0
                · rw [if_pos c16] at H
                  have c16b0 : decide (t542 < 0) = true := decide_eq_true c16
                  clear c16
                  by_cases c17 : x5_1.length < 17592186044416
                  · rw [if_pos c17] at H
                    have LMc17 := am c17
                    clear c17
                    obtain ⟨y544, hy544⟩ : ∃ y_ : List Int, y_ = (x5_1 ++ [rd x4_1 x6_1]) := ⟨_, rfl⟩
                    replace H : (spec_l4Plain.l0 k1 l0 (x4_1.set (x6_1 : Int).toNat (wrap64 ((-1) - (x5_1.length : Int)))) y544 (wrap64 (x6_1 + 1))) = some (r1, r2, r3) := by first | (rw [hy544]; with_reducible exact H) | (have H2_ := (Option.bind_some _ _).symm.trans H; rw [hy544]; with_reducible exact H2_) | (have H2_ := (Option.bind_some _ _).symm.trans H; with_reducible exact H2_) | with_reducible exact H | (rw [hy544]; exact H) | exact H
                    have Ny544 := am hy544
                    clear hy544
                    obtain ⟨y547, hy547⟩ : ∃ y_ : List Int, y_ = (x4_1.set (x6_1 : Int).toNat (wrap64 ((-1) - (x5_1.length : Int)))) := ⟨_, rfl⟩
                    replace H : (spec_l4Plain.l0 k1 l0 y547 y544 (wrap64 (x6_1 + 1))) = some (r1, r2, r3) := by first | (rw [hy547]; with_reducible exact H) | (have H2_ := (Option.bind_some _ _).symm.trans H; rw [hy547]; with_reducible exact H2_) | (have H2_ := (Option.bind_some _ _).symm.trans H; with_reducible exact H2_) | with_reducible exact H | (rw [hy547]; exact H) | exact H
                    have Ny547 := am hy547
                    clear hy547
                    have H' := am H
                    clear H
                    obtain ⟨Ao19, co19, eo19⟩ := Kd.R_slice HO_4.out
                    subst eo19
                    have p540 : 0 ≤ (x6_1 : Int) := of_decide_eq_true (by first | (with_reducible assumption) | assumption)
                    have q540 : x6_1 < (x4_1.length : Int) := of_decide_eq_true (by first | (with_reducible assumption) | assumption)
                    obtain ⟨ad540, e540, hx540_0⟩ := Kd.at_int (Kd.R_reads' HO_4.out).2.2 x6_1 p540 q540
                    cases e540
                    replace p540 := eq_true p540
                    replace q540 := eq_true q540
                    have p541 : 0 ≤ (x6_1 : Int) := of_decide_eq_true (by first | (with_reducible assumption) | assumption)
                    have q541 : x6_1 < (x4_1.length : Int) := of_decide_eq_true (by first | (with_reducible assumption) | assumption)
                    obtain ⟨ad541, e541, hx541_0⟩ := Kd.at_int (Kd.R_reads' HO_4.out).2.2 x6_1 p541 q541
                    obtain rfl : ad540 = ad541 := (by injection e541)
                    replace p541 := eq_true p541
                    replace q541 := eq_true q541
                    obtain ⟨Ao20, co20, eo20⟩ := Kd.R_slice HO_5.out
                    subst eo20
                    go_wp2_with (first | ((with_reducible refine gate_callee (f := 95) rfl ?_); refine goesL_ (some 36) rfl rfl Tryd.func95 (by kernel_rfl) rfl #[.slice Ao20 x5_1.length co20, .int .i64 (rd x4_1 x6_1)] rfl el ?_; (with_reducible refine (spec_l2Rank.calls k1 _ _ x5_1 (rd x4_1 x6_1) t542 _ ?side1 ?side2 A15.out).mono ?_); (case side1 => repeat (first | exact (Kd.R_reads' HO_5.out).2.2 | (with_reducible refine Kd.C_alloc ?_ _) | (with_reducible refine Kd.C_drewN ?_ _) | (with_reducible refine Kd.C_drew ?_))); (case side2 => exact (Kd.R_reads' HO_5.out).2.1); rintro e w' ⟨rfl, ⟨nd, rfl⟩⟩; refine ⟨_, rfl, ?_⟩; (try (rw [drewN_self wr]; generalize hq_ : World.drewN wr _ = wr; have n0_ : Aside0 (Kd.R (Kd.int .i64) 2 wr w.heap.size (fun k_ => some k_ ≠ (.slice Ao20 x5_1.length co20 : Value).ownBlock) (.slice (some ad540) x4_1.length co19) x4_1) := ⟨by rw [← hq_]; exact (rq HO_4.out)⟩; have n1_ : Aside0 (Kd.R (Kd.int .i64) 2 wr w.heap.size (fun k_ => some k_ ≠ (.slice (some ad540) x4_1.length co19 : Value).ownBlock) (.slice Ao20 x5_1.length co20) x5_1) := ⟨by rw [← hq_]; exact (rq HO_5.out)⟩; have n2_ : Aside0 (wr.heap[gb526]? = some (.cells #[.slice none 0 0, .slice none 0 0] 47 (0, 0))) := ⟨by rw [← hq_]; exact (bq BK526.out)⟩; have n3_ : Aside0 (Below w.heap.size w wr) := ⟨by rw [← hq_]; exact (hs HB.out)⟩; clear HO_4 HO_5 BK526 HB hq_; have HO_4 := n0_; have HO_5 := n1_; have BK526 := n2_; have HB := n3_; clear n0_ n1_ n2_ n3_)); have p543 : 0 ≤ (x6_1 : Int) := of_decide_eq_true (by first | (with_reducible assumption) | assumption); have q543 : x6_1 < (x4_1.length : Int) := of_decide_eq_true (by first | (with_reducible assumption) | assumption); obtain ⟨ad543, e543, hx543_0⟩ := Kd.at_int (Kd.R_reads' HO_4.out).2.2 x6_1 p543 q543; obtain rfl : ad540 = ad543 := (by injection e543); replace p543 := eq_true p543; replace q543 := eq_true q543) | ((with_reducible refine gate_builtin (b := .append) (xs := #[.tmp 41, .tmp 46]) rfl ?_); at_builtin; refine Kd.R_append (Kd.int .i64) (w0 := w) w.heap.size rfl (.tmp 41) (.tmp 46) 27 2 (.int .i64 0) 8 rfl Tryd.underlying27 info2 rfl (by decide) (by omega) (.slice Ao20 x5_1.length co20) x5_1 (rd x4_1 x6_1) [.int .i64 (rd x4_1 x6_1)] (fun k_ => some k_ ≠ (.slice (some ad540) x4_1.length co19 : Value).ownBlock) (fun _ => False) rfl rfl ?aP (fun _ hk => hk.elim) ?aF ?aO ?aB ?aS ?aL ?_; (case aP => exact rfl); (case aB => exact (hs HB.out)); (case aF => exact (fun k_ hk => Kd.fresh' (Kd.R_lt (rq HO_4.out)) k_ hk)); (case aO => exact (rq HO_5.out)); (case aS => exact (below_size (hs HB.out))); (case aL => have := LMc17.out; omega); intro v545 w21 ho hb hg hat; rw [← Ny544.out] at ho; have n0_ := am (Kd.R_after (ok := (fun _ => True)) (rq (Kd.R_mono HO_4.out (fun _ hk => ⟨trivial, hk⟩))) hg hat); have n1_ := am (blk_grown (bq BK526.out) hg (Kd.R_ne HO_5.out BK526.out (by decide))); have n2_ := am (hb); have n3_ := am (ho); clear HO_4 BK526 HB HO_5; revert n0_ n1_ n2_ n3_; intro HO_4 BK526 HB HO546; clear ho hb hg hat; have p18 : 0 ≤ (x6_1 : Int) := of_decide_eq_true (by first | (with_reducible assumption) | assumption); have q18 : (x6_1 : Int) < ((x4_1.length : Int) : Int) := of_decide_eq_true (by first | (with_reducible assumption) | assumption); obtain ⟨go18, co18, eo18, gb18, gl18, cl18, HG18⟩ := Kd.R_form HO_4.out (by omega); (first | cases eo18 | (injection eo18 with ea_ en_ ec_; (first | subst ea_ | (injection ea_ with ea_; subst ea_)); subst ec_; clear en_)); have GB18 := am gb18; have GG18 := am HG18; clear gb18 gl18 HG18; (first | simp only [add_plain] at hx540_0 | skip); (first | simp only [add_plain] at hx541_0 | skip); (first | simp only [add_plain] at hx543_0 | skip); obtain ⟨hx18_0, hf18_0⟩ := Kd.R_celln 0 HO_4.out (x6_1 : Int) p18 q18; replace p18 := eq_true p18; replace q18 := eq_true q18; have n_ := am (Kd.R_mono (ok' := (fun k_ => some k_ ≠ (v545 : Value).ownBlock)) HO_4.out (fun k_ hk => hk.2)); clear HO_4; have HO_4 := n_; clear n_; obtain ⟨hy22_, hz22_⟩ := Kd.R_celln 0 HO_4.out (x6_1 : Int) (of_decide_eq_true (by first | (with_reducible assumption) | assumption)) (of_decide_eq_true (by first | (with_reducible assumption) | assumption)); have HP22 := Kd.R_putg HO_4.out (x6_1 : Int) (wrap64 ((-1) - (x5_1.length : Int)))) | ((with_reducible refine gate_store (t := 2) (p := 52) rfl ?_); refine store_event (t := 2) (p := 52) (v := ?vo_w23) (w1 := (w21.setCell ⟨go18, (x6_1 : Int).toNat, none⟩ (.int .i64 (wrap64 ((-1) - (x5_1.length : Int)))))) ?hg ?ho ?hn ?hr ?_; (case ho => rfl); (case hg => rfl); (case hn => rfl); (case hr => first | (go_simp; done) | (go_simp; rfl)); intro w23 hw; have hg : w21.grownBy w23 (some go18) := (by rw [hw]; exact HP22.2); have hp_ : Kd.R (Kd.int .i64) 2 w23 w.heap.size (fun k_ => some k_ ≠ (v545 : Value).ownBlock) (.slice (some ⟨go18, 0, none⟩) x4_1.length co19) y547 := (by rw [hw, Ny547.out]; exact HP22.1); clear HP22; have n0_ := am (hp_); have n1_ := am (blk_grown (bq BK526.out) hg (Kd.R_ne HO_4.out BK526.out (by decide))); have n2_ := am (Kd.R_after (v := (.slice (some ⟨go18, 0, none⟩) x4_1.length co19)) (v1 := (.slice (some ⟨go18, 0, none⟩) x4_1.length co19)) (ok := (fun _ => True)) (rq (Kd.R_mono HO546.out (fun _ hk => ⟨trivial, hk⟩))) hg (.inl rfl)); have n3_ := am ((by rw [hw]; exact below_set (HB.out) GB18.out : Below w.heap.size w w23)); clear HO_4 BK526 HO546 HB; revert n0_ n1_ n2_ n3_; intro HO_4 BK526 HO546 HB; clear hg hw hp_))
                    go_roundg k1
                    case measure => have := HK1.out; omega
                    case rel => exact ⟨(y547), (y544), (wrap64 (x6_1 + 1)), (by first | rfl | (simp; done) | (simp [*]; done)), H', ⟨by have := HK1.out; omega⟩, ⟨by (with_reducible repeat (first | apply Kd.R_alloc | apply Kd.R_drewN | apply Kd.R_drew)); exact HO_4.out⟩, ⟨by (with_reducible repeat (first | apply Kd.R_alloc | apply Kd.R_drewN | apply Kd.R_drew)); exact Kd.R_mono HO546.out (fun _ hk => hk.2)⟩, ⟨by refine bq ?_; exact BK526.out⟩, ⟨by exact hs HB.out⟩⟩
                  · rw [if_neg c17] at H
                    exact absurd H (by simp)
                · rw [if_neg c16] at H
                  have c16b0 : decide (t542 < 0) = false := decide_eq_false c16
                  clear c16
                  obtain ⟨y548, hy548⟩ : ∃ y_ : List Int, y_ = (x4_1.set (x6_1 : Int).toNat (wrap64 ((-1) - t542))) := ⟨_, rfl⟩
                  replace H : (spec_l4Plain.l0 k1 l0 y548 x5_1 (wrap64 (x6_1 + 1))) = some (r1, r2, r3) := by first | (rw [hy548]; with_reducible exact H) | (have H2_ := (Option.bind_some _ _).symm.trans H; rw [hy548]; with_reducible exact H2_) | (have H2_ := (Option.bind_some _ _).symm.trans H; with_reducible exact H2_) | with_reducible exact H | (rw [hy548]; exact H) | exact H
                  have Ny548 := am hy548
                  clear hy548
                  have H' := am H
                  clear H
                  obtain ⟨Ao25, co25, eo25⟩ := Kd.R_slice HO_4.out
                  subst eo25
                  have p540 : 0 ≤ (x6_1 : Int) := of_decide_eq_true (by first | (with_reducible assumption) | assumption)
                  have q540 : x6_1 < (x4_1.length : Int) := of_decide_eq_true (by first | (with_reducible assumption) | assumption)
                  obtain ⟨ad540, e540, hx540_0⟩ := Kd.at_int (Kd.R_reads' HO_4.out).2.2 x6_1 p540 q540
                  cases e540
                  replace p540 := eq_true p540
                  replace q540 := eq_true q540
                  have p541 : 0 ≤ (x6_1 : Int) := of_decide_eq_true (by first | (with_reducible assumption) | assumption)
                  have q541 : x6_1 < (x4_1.length : Int) := of_decide_eq_true (by first | (with_reducible assumption) | assumption)
                  obtain ⟨ad541, e541, hx541_0⟩ := Kd.at_int (Kd.R_reads' HO_4.out).2.2 x6_1 p541 q541
                  obtain rfl : ad540 = ad541 := (by injection e541)
                  replace p541 := eq_true p541
                  replace q541 := eq_true q541
                  obtain ⟨Ao26, co26, eo26⟩ := Kd.R_slice HO_5.out
                  subst eo26
                  go_wp2_with (first | ((with_reducible refine gate_callee (f := 95) rfl ?_); refine goesL_ (some 36) rfl rfl Tryd.func95 (by kernel_rfl) rfl #[.slice Ao26 x5_1.length co26, .int .i64 (rd x4_1 x6_1)] rfl el ?_; (with_reducible refine (spec_l2Rank.calls k1 _ _ x5_1 (rd x4_1 x6_1) t542 _ ?side1 ?side2 A15.out).mono ?_); (case side1 => repeat (first | exact (Kd.R_reads' HO_5.out).2.2 | (with_reducible refine Kd.C_alloc ?_ _) | (with_reducible refine Kd.C_drewN ?_ _) | (with_reducible refine Kd.C_drew ?_))); (case side2 => exact (Kd.R_reads' HO_5.out).2.1); rintro e w' ⟨rfl, ⟨nd, rfl⟩⟩; refine ⟨_, rfl, ?_⟩; (try (rw [drewN_self wr]; generalize hq_ : World.drewN wr _ = wr; have n0_ : Aside0 (Kd.R (Kd.int .i64) 2 wr w.heap.size (fun k_ => some k_ ≠ (.slice Ao26 x5_1.length co26 : Value).ownBlock) (.slice (some ad540) x4_1.length co25) x4_1) := ⟨by rw [← hq_]; exact (rq HO_4.out)⟩; have n1_ : Aside0 (Kd.R (Kd.int .i64) 2 wr w.heap.size (fun k_ => some k_ ≠ (.slice (some ad540) x4_1.length co25 : Value).ownBlock) (.slice Ao26 x5_1.length co26) x5_1) := ⟨by rw [← hq_]; exact (rq HO_5.out)⟩; have n2_ : Aside0 (wr.heap[gb526]? = some (.cells #[.slice none 0 0, .slice none 0 0] 47 (0, 0))) := ⟨by rw [← hq_]; exact (bq BK526.out)⟩; have n3_ : Aside0 (Below w.heap.size w wr) := ⟨by rw [← hq_]; exact (hs HB.out)⟩; clear HO_4 HO_5 BK526 HB hq_; have HO_4 := n0_; have HO_5 := n1_; have BK526 := n2_; have HB := n3_; clear n0_ n1_ n2_ n3_)); have p24 : 0 ≤ (x6_1 : Int) := of_decide_eq_true (by first | (with_reducible assumption) | assumption); have q24 : (x6_1 : Int) < ((x4_1.length : Int) : Int) := of_decide_eq_true (by first | (with_reducible assumption) | assumption); obtain ⟨go24, co24, eo24, gb24, gl24, cl24, HG24⟩ := Kd.R_form HO_4.out (by omega); (first | cases eo24 | (injection eo24 with ea_ en_ ec_; (first | subst ea_ | (injection ea_ with ea_; subst ea_)); subst ec_; clear en_)); have GB24 := am gb24; have GG24 := am HG24; clear gb24 gl24 HG24; (first | simp only [add_plain] at hx540_0 | skip); (first | simp only [add_plain] at hx541_0 | skip); obtain ⟨hx24_0, hf24_0⟩ := Kd.R_celln 0 HO_4.out (x6_1 : Int) p24 q24; replace p24 := eq_true p24; replace q24 := eq_true q24; obtain ⟨hy27_, hz27_⟩ := Kd.R_celln 0 HO_4.out (x6_1 : Int) (of_decide_eq_true (by first | (with_reducible assumption) | assumption)) (of_decide_eq_true (by first | (with_reducible assumption) | assumption)); have HP27 := Kd.R_putg HO_4.out (x6_1 : Int) (wrap64 ((-1) - t542))) | ((with_reducible refine gate_store (t := 2) (p := 52) rfl ?_); refine store_event (t := 2) (p := 52) (v := ?vo_w28) (w1 := (wr.setCell ⟨go24, (x6_1 : Int).toNat, none⟩ (.int .i64 (wrap64 ((-1) - t542))))) ?hg ?ho ?hn ?hr ?_; (case ho => rfl); (case hg => rfl); (case hn => rfl); (case hr => first | (go_simp; done) | (go_simp; rfl)); intro w28 hw; have hg : wr.grownBy w28 (some go24) := (by rw [hw]; exact HP27.2); have hp_ : Kd.R (Kd.int .i64) 2 w28 w.heap.size (fun k_ => some k_ ≠ (.slice Ao26 x5_1.length co26 : Value).ownBlock) (.slice (some ⟨go24, 0, none⟩) x4_1.length co25) y548 := (by rw [hw, Ny548.out]; exact HP27.1); clear HP27; have n0_ := am (hp_); have n1_ := am (Kd.R_after (v := (.slice (some ⟨go24, 0, none⟩) x4_1.length co25)) (v1 := (.slice (some ⟨go24, 0, none⟩) x4_1.length co25)) (ok := (fun _ => True)) (rq (Kd.R_mono HO_5.out (fun _ hk => ⟨trivial, hk⟩))) hg (.inl rfl)); have n2_ := am (blk_grown (bq BK526.out) hg (Kd.R_ne HO_4.out BK526.out (by decide))); have n3_ := am ((by rw [hw]; exact below_set (HB.out) GB24.out : Below w.heap.size w w28)); clear HO_4 HO_5 BK526 HB; revert n0_ n1_ n2_ n3_; intro HO_4 HO_5 BK526 HB; clear hg hw hp_))
                  go_roundg k1
                  case measure => have := HK1.out; omega
                  case rel => exact ⟨(y548), (x5_1), (wrap64 (x6_1 + 1)), (by first | rfl | (simp; done) | (simp [*]; done)), H', ⟨by have := HK1.out; omega⟩, ⟨by (with_reducible repeat (first | apply Kd.R_alloc | apply Kd.R_drewN | apply Kd.R_drew)); exact HO_4.out⟩, ⟨by (with_reducible repeat (first | apply Kd.R_alloc | apply Kd.R_drewN | apply Kd.R_drew)); exact Kd.R_mono HO_5.out (fun _ hk => hk.2)⟩, ⟨by refine bq ?_; exact BK526.out⟩, ⟨by exact hs HB.out⟩⟩
            · rw [if_neg c12] at H
              exact absurd H (by simp)
          · rw [if_neg c11] at H
            have c11b0 : decide (x6_1 < (x4_1.length : Int)) = false := decide_eq_false c11
            clear c11
            by_cases c29 : (x5_1.length : Int) > 6
            · rw [if_pos c29] at H
              have c29b0 : decide (6 < (x5_1.length : Int)) = true := decide_eq_true c29
              have c29b1 : decide (6 < x5_1.length) = true := decide_eq_true (by omega)
              clear c29
              simp only [Option.some.injEq, Prod.mk.injEq] at H
              obtain ⟨rfl, rfl, rfl⟩ := H
              obtain ⟨Ao30, co30, eo30⟩ := Kd.R_slice HO_4.out
              subst eo30
              obtain ⟨Ao31, co31, eo31⟩ := Kd.R_slice HO_5.out
              subst eo31
              have hcz32_0 : wr.cell? ⟨gb526, 0, none⟩ = some (.slice none 0 0) := (blk_cell BK526.out 0).trans rfl
              have hcz32_1 : wr.cell? ⟨gb526, 1, none⟩ = some (.slice none 0 0) := (blk_cell BK526.out 1).trans rfl
              have hfz32_0 := blk_frozen BK526.out 0
              have hfz32_1 := blk_frozen BK526.out 1
              go_wp2
              refine bodyPost_ret (results_ct rfl _ _ gb526 47 #[.slice none 0 0, .slice none 0 0] (0, 0) _ rfl (by refine bq ?_; refine blk_put (cs := #[.slice none 0 0, .slice none 0 0]) ?_ 1 _ rfl; refine bq ?_; refine blk_put (cs := #[.slice none 0 0, .slice none 0 0]) ?_ 0 _ rfl; refine bq ?_; exact BK526.out) Tryd.underlying47 rfl (by kernel_rfl)) rfl ?_
              exact ⟨_, _, by first | rfl | (simp [errW_none, errW_some] <;> rfl) | (simp [*, errW_none, errW_some] <;> rfl), by first | exact Kd.R_nil _ _ _ _ _ | exact Kd.N_nil _ _ _ _ _ | exact Kd.V_nil _ _ _ _ _ | exact Kd.Q_nil _ _ _ _ _ | exact Kd.S_nil _ _ _ _ _, by first | exact Kd.R_nil _ _ _ _ _ | exact Kd.N_nil _ _ _ _ _ | exact Kd.V_nil _ _ _ _ _ | exact Kd.Q_nil _ _ _ _ _ | exact Kd.S_nil _ _ _ _ _, by exact hs HB.out⟩
            · rw [if_neg c29] at H
              have c29b0 : decide (6 < (x5_1.length : Int)) = false := decide_eq_false c29
              have c29b1 : decide (6 < x5_1.length) = false := decide_eq_false (by omega)
              clear c29
              by_cases c33 : 0 < (l0.length : Int)
              · rw [if_pos c33] at H
                have c33b0 : decide (0 < (l0.length : Int)) = true := decide_eq_true c33
                have c33b1 : decide (0 < l0.length) = true := decide_eq_true (by omega)
                clear c33
                by_cases c34 : 0 ≤ (((rd_T47 l0 0).f0).length : Int)
                · rw [if_pos c34] at H
                  have c34b0 := eq_true c34
                  have c34b1 : decide (0 ≤ (((rd_T47 l0 0).f0).length : Int)) = true := decide_eq_true c34
                  clear c34
                  by_cases c35 : (((rd_T47 l0 0).f0).length : Int) ≤ (x4_1.length : Int)
                  · rw [if_pos c35] at H
                    have c35b0 := eq_true c35
                    have c35b1 : decide ((((rd_T47 l0 0).f0).length : Int) ≤ (x4_1.length : Int)) = true := decide_eq_true c35
                    clear c35
                    obtain ⟨y551, hy551⟩ : ∃ y_ : List Int, y_ = (x4_1.take ((((rd_T47 l0 0).f0).length : Int) : Int).toNat) := ⟨_, rfl⟩
                    replace H : ((spec_l1Ints.f y551).bind fun t555 => ((spec_l1Ints.f (x4_1.drop ((((rd_T47 l0 0).f0).length : Int) : Int).toNat)).bind fun t562 => (some (t555, t562, true)))) = some (r1, r2, r3) := by first | (rw [hy551]; with_reducible exact H) | (have H2_ := (Option.bind_some _ _).symm.trans H; rw [hy551]; with_reducible exact H2_) | (have H2_ := (Option.bind_some _ _).symm.trans H; with_reducible exact H2_) | with_reducible exact H | (rw [hy551]; exact H) | exact H
                    have Ny551 := am hy551
                    clear hy551
                    replace H := Option.bind_eq_some_iff.mp H
                    obtain ⟨t555, A360, H⟩ := H
                    replace H : ((spec_l1Ints.f (x4_1.drop ((((rd_T47 l0 0).f0).length : Int) : Int).toNat)).bind fun t562 => (some (t555, t562, true))) = some (r1, r2, r3) := H
                    have A36 := am A360
                    clear A360
                    have c37b0 := eq_true (of_decide_eq_true (by first | (with_reducible assumption) | assumption) : 0 ≤ (((rd_T47 l0 0).f0).length : Int))
                    have c38b0 := eq_true (of_decide_eq_true (by first | (with_reducible assumption) | assumption) : (((rd_T47 l0 0).f0).length : Int) ≤ (x4_1.length : Int))
                    obtain ⟨y558, hy558⟩ : ∃ y_ : List Int, y_ = (x4_1.drop ((((rd_T47 l0 0).f0).length : Int) : Int).toNat) := ⟨_, rfl⟩
                    replace H : ((spec_l1Ints.f y558).bind fun t562 => (some (t555, t562, true))) = some (r1, r2, r3) := by first | (rw [hy558]; with_reducible exact H) | (have H2_ := (Option.bind_some _ _).symm.trans H; rw [hy558]; with_reducible exact H2_) | (have H2_ := (Option.bind_some _ _).symm.trans H; with_reducible exact H2_) | with_reducible exact H | (rw [hy558]; exact H) | exact H
                    have Ny558 := am hy558
                    clear hy558
                    replace H := Option.bind_eq_some_iff.mp H
                    obtain ⟨t562, A390, H⟩ := H
                    replace H : (some (t555, t562, true)) = some (r1, r2, r3) := H
                    have A39 := am A390
                    clear A390
                    simp only [Option.some.injEq, Prod.mk.injEq] at H
                    obtain ⟨rfl, rfl, rfl⟩ := H
                    obtain ⟨Ao40, co40, eo40⟩ := Kd.R_slice HO_4.out
                    subst eo40
                    obtain ⟨Ao41, co41, eo41⟩ := Kd.R_slice HO_5.out
                    subst eo41
                    have p549 : 0 ≤ (0 : Int) := (by omega)
                    have q549 : 0 < (l0.length : Int) := of_decide_eq_true (by first | (with_reducible assumption) | assumption)
                    obtain ⟨ad549, A549_0, c549_0, A549_1, c549_1, e549, hx549_0, hx549_1, hl549_0, hi549_0, hl549_1, hi549_1⟩ := at_T47 HR0.out 0 p549 q549
                    obtain rfl : ad527 = ad549 := (by injection e549)
                    have qi549 : (0 < l0.length) = True := eq_true (by omega)
                    (try rw [show ((0 : Int)).toNat = 0 from rfl] at hx549_0)
                    (try rw [show 0 * 2 = 0 from rfl] at hx549_0)
                    (try rw [Addr.add_zero'] at hx549_0)
                    (try rw [show ((0 : Int)).toNat = 0 from rfl] at hx549_1)
                    (try rw [show 0 * 2 = 0 from rfl] at hx549_1)
                    (try rw [Addr.add_zero'] at hx549_1)
                    replace hx549_0 := (HB.out.cell (World.block_lt_of_cell? w _ hx549_0)).trans hx549_0
                    replace hx549_1 := (HB.out.cell (World.block_lt_of_cell? w _ hx549_1)).trans hx549_1
                    have HR549_0 := am hi549_0
                    have HC549_0 := am hl549_0
                    clear hi549_0 hl549_0
                    have HR549_1 := am hi549_1
                    have HC549_1 := am hl549_1
                    clear hi549_1 hl549_1
                    replace p549 := eq_true p549
                    replace q549 := eq_true q549
                    have p550 : 0 ≤ (0 : Int) := (by omega)
                    have q550 : 0 < (l0.length : Int) := of_decide_eq_true (by first | (with_reducible assumption) | assumption)
                    obtain ⟨ad550, A550_0, c550_0, A550_1, c550_1, e550, hx550_0, hx550_1, hl550_0, hi550_0, hl550_1, hi550_1⟩ := at_T47 HR0.out 0 p550 q550
                    obtain rfl : ad527 = ad550 := (by injection e550)
                    have qi550 : (0 < l0.length) = True := eq_true (by omega)
                    (try rw [show ((0 : Int)).toNat = 0 from rfl] at hx550_0)
                    (try rw [show 0 * 2 = 0 from rfl] at hx550_0)
                    (try rw [Addr.add_zero'] at hx550_0)
                    (try rw [show ((0 : Int)).toNat = 0 from rfl] at hx550_1)
                    (try rw [show 0 * 2 = 0 from rfl] at hx550_1)
                    (try rw [Addr.add_zero'] at hx550_1)
                    replace hx550_0 := (HB.out.cell (World.block_lt_of_cell? w _ hx550_0)).trans hx550_0
                    replace hx550_1 := (HB.out.cell (World.block_lt_of_cell? w _ hx550_1)).trans hx550_1
                    have HR550_0 := am hi550_0
                    have HC550_0 := am hl550_0
                    clear hi550_0 hl550_0
                    have HR550_1 := am hi550_1
                    have HC550_1 := am hl550_1
                    clear hi550_1 hl550_1
                    replace p550 := eq_true p550
                    replace q550 := eq_true q550
                    have ea_ := Option.some.inj (hx549_0.symm.trans hx550_0)
                    injection ea_ with ea_ en_ ec_
                    subst ea_
                    subst ec_
                    clear en_
                    have ea_ := Option.some.inj (hx549_1.symm.trans hx550_1)
                    injection ea_ with ea_ en_ ec_
                    subst ea_
                    subst ec_
                    clear en_
                    try go_wp2
                    have n0_ := am (Kd.R_drew HO_4.out)
                    have n1_ := am (Kd.R_drew HO_5.out)
                    have n2_ := am (blk_drew BK526.out)
                    have n3_ := am (below_drew1 HB.out)
                    clear HO_4 HO_5 BK526 HB; revert n0_ n1_ n2_ n3_; intro HO_4 HO_5 BK526 HB
                    have q43 : ((((rd_T47 l0 0).f0).length : Int) : Int) ≤ ((x4_1.length : Int) : Int) := of_decide_eq_true (by first | (with_reducible assumption) | assumption)
                    obtain ⟨i043, hi043, _, hsz43, _⟩ := info_parts info2
                    have hroom43 : x4_1.length ≤ co40 := (Kd.R_reads' HO_4.out).2.1
                    have hC43 : Kd.C (Kd.int .i64) _ Ao40 x4_1.length x4_1 := (Kd.R_reads' HO_4.out).2.2
                    have hcut43 := cut_to (P := Tryd.prog) 27 2 .i64 Tryd.underlying27 hi043 Ao40 x4_1.length co40 (((rd_T47 l0 0).f0).length : Int) (of_decide_eq_true (by first | (with_reducible assumption) | assumption)) q43 hroom43
                    have hr43 := Kd.C_take (m := ((((rd_T47 l0 0).f0).length : Int) : Int).toNat) hC43 (by omega)
                    have hy43 : y551.length = ((((rd_T47 l0 0).f0).length : Int) : Int).toNat := (by rw [Ny551.out, List.length_take]; omega)
                    rw [← Ny551.out] at hr43
                    rw [← hy43] at hcut43
                    have HR554 := am hr43
                    have HC554 := am (show y551.length ≤ co40 from by omega)
                    clear hr43 hC43 hroom43 hi043 hsz43
                    have KY43 := am hy43
                    clear hy43
                    have KL43 := am (show ((((rd_T47 l0 0).f0).length : Int) : Int).toNat ≤ x4_1.length from by omega)
                    replace q43 := eq_true q43
                    have q44 : ((((rd_T47 l0 0).f0).length : Int) : Int) ≤ ((x4_1.length : Int) : Int) := of_decide_eq_true (by first | (with_reducible assumption) | assumption)
                    obtain ⟨i044, hi044, _, hsz44, _⟩ := info_parts info2
                    have hroom44 : x4_1.length ≤ co40 := (Kd.R_reads' HO_4.out).2.1
                    have hC44 : Kd.C (Kd.int .i64) _ Ao40 x4_1.length x4_1 := (Kd.R_reads' HO_4.out).2.2
                    have q044 : (0 : Int) ≤ ((((rd_T47 l0 0).f0).length : Int) : Int) := of_decide_eq_true (by first | (with_reducible assumption) | assumption)
                    have hcut44 := cut_from (P := Tryd.prog) 27 2 .i64 Tryd.underlying27 hi044 1 hsz44 Ao40 x4_1.length co40 (((rd_T47 l0 0).f0).length : Int) q044 q44
                    have hr44 := Kd.C_drop (m := ((((rd_T47 l0 0).f0).length : Int) : Int).toNat) (c := co40) hC44 (by omega) hroom44
                    obtain ⟨A44, hA44⟩ : ∃ Az_, Az_ = (if co40 = ((((rd_T47 l0 0).f0).length : Int) : Int).toNat then Ao40 else (Ao40 : Option Addr).map (·.add (((((rd_T47 l0 0).f0).length : Int) : Int).toNat * 1))) := ⟨_, rfl⟩
                    obtain ⟨c44, hc44⟩ : ∃ cz_, cz_ = co40 - ((((rd_T47 l0 0).f0).length : Int) : Int).toNat := ⟨_, rfl⟩
                    have hy44 : y558.length = x4_1.length - ((((rd_T47 l0 0).f0).length : Int) : Int).toNat := (by rw [Ny558.out, List.length_drop] <;> omega)
                    rw [show (x4_1).drop ((((rd_T47 l0 0).f0).length : Int) : Int).toNat = y558 from Ny558.out.symm] at hr44
                    replace hr44 : Kd.C (Kd.int .i64) _ A44 y558.length y558 := (by rw [hA44]; exact hr44)
                    rw [← hy44, ← hA44, ← hc44] at hcut44
                    have HR561 := am hr44
                    have HC561 := am (show y558.length ≤ c44 from by rw [hy44, hc44]; exact Nat.sub_le_sub_right hroom44 _)
                    clear hr44 hC44 hroom44 hi044 hsz44 hc44
                    have KY44 := am hy44
                    have KA44 := am hA44
                    clear hy44 hA44
                    have KL44 := am (show ((((rd_T47 l0 0).f0).length : Int) : Int).toNat ≤ x4_1.length from by omega)
                    replace q44 := eq_true q44
                    refine start_ (n := 11) (S := fun w' => True) (ds := []) #[false, false, false, false, false, false, false, false, false, false, false] (by kernel_rfl) rfl rfl trivial (fun hHeld => ?_); refine with_tabW spec_l4Plain.tab15 spec_l4Plain.bits15 (fun HT_ HW_ => ?_)
                    generalize wr.drew = w42 at HO_4 HO_5 BK526 HB HR554 HR561 hHeld ⊢
                    refine pure_ (i := 0) (N := some 62) (v := ?_) (a' := ?_) #[true, false, false, false, false, false, false, false, false, false, false] rfl rfl (any_of HT_.out (by kernel_rfl)) (fun _ _ _ h => h) (Or.inl ⟨by rfl, ?_⟩) ?_ ?_
                    rotate_left
                    · intro w'
                      go_simp
                      with_reducible rfl
                    rotate_left
                    · simp only [Act.put, lsp, i64_w, i32_w]
                      rfl
                    refine pure_ (i := 1) (N := some 63) (v := ?_) (a' := ?_) #[true, true, false, false, false, false, false, false, false, false, false] rfl rfl (any_of HT_.out (by kernel_rfl)) (fun _ _ _ h => h) (Or.inl ⟨by rfl, ?_⟩) ?_ ?_
                    rotate_left
                    · intro w'
                      go_simp
                      with_reducible rfl
                    rotate_left
                    · simp only [Act.put, lsp, i64_w, i32_w]
                      rfl
                    refine pure_ (i := 2) (N := some 64) (v := ?_) (a' := ?_) #[true, true, true, false, false, false, false, false, false, false, false] rfl rfl (any_of HT_.out (by kernel_rfl)) (fun _ _ _ h => h) (Or.inl ⟨by rfl, ?_⟩) ?_ ?_
                    rotate_left
                    · intro w'
                      go_simp
                      with_reducible rfl
                    rotate_left
                    · simp only [Act.put, lsp, i64_w, i32_w]
                      rfl
                    refine pure_ (i := 4) (N := some 66) (v := ?_) (a' := ?_) #[true, true, true, false, true, false, false, false, false, false, false] rfl rfl (any_of HT_.out (by kernel_rfl)) (fun _ _ _ h => h) (Or.inl ⟨by rfl, ?_⟩) ?_ ?_
                    rotate_left
                    · intro w'
                      go_simp
                      with_reducible rfl
                    rotate_left
                    · simp only [Act.put, lsp, i64_w, i32_w]
                      rfl
                    refine pure_ (i := 5) (N := some 67) (v := ?_) (a' := ?_) #[true, true, true, false, true, true, false, false, false, false, false] rfl rfl (any_of HT_.out (by kernel_rfl)) (fun _ _ _ h => h) (Or.inl ⟨by rfl, ?_⟩) ?_ ?_
                    rotate_left
                    · intro w'
                      go_simp
                      with_reducible rfl
                    rotate_left
                    · simp only [Act.put, lsp, i64_w, i32_w]
                      rfl
                    refine pure_ (i := 6) (N := some 68) (v := ?_) (a' := ?_) #[true, true, true, false, true, true, true, false, false, false, false] rfl rfl (any_of HT_.out (by kernel_rfl)) (fun _ _ _ h => h) (Or.inl ⟨by rfl, ?_⟩) ?_ ?_
                    rotate_left
                    · intro w'
                      go_simp
                      with_reducible rfl
                    rotate_left
                    · simp only [Act.put, lsp, i64_w, i32_w]
                      rfl
                    refine one_ (i := 3) (N := some 65) #[true, true, true, true, true, true, true, false, false, false, false] rfl rfl (one_of HT_.out (by kernel_rfl)) (by decide) (fun K hK => ?_)
                    refine goes_ Tryd.func94 (by kernel_rfl) rfl #[.slice Ao40 y551.length co40] (by rfl) rfl rfl el ?_
                    with_reducible refine (spec_l1Ints.calls _ _ y551 t555 _ ?side1 ?side2 A36.out).mono ?_
                    (case side1 => repeat (first | exact (cq HR554.out) | (with_reducible refine Kd.C_alloc ?_ _) | (with_reducible refine Kd.C_drewN ?_ _) | (with_reducible refine Kd.C_drew ?_)))
                    (case side2 => exact HC554.out)
                    rintro e w45 ⟨v556, rfl, ho0, hb⟩
                    refine ⟨_, rfl, ?_⟩
                    have n0_ := am (Kd.R_elder' (rq HO_4.out) (Kd.R_base ho0) hb)
                    have n1_ := am (Kd.R_elder' (rq HO_5.out) (Kd.R_base ho0) hb)
                    have n2_ := am (Kd.R_lower (Kd.R_new' (Kd.R_new' ho0 (Kd.R_lt (rq HO_4.out))) (Kd.R_lt (rq HO_5.out))) (below_size (hs HB.out)))
                    have n3_ := am (blk_below (bq BK526.out) hb)
                    have n4_ := am (Kd.C_below (cq HR554.out) hb)
                    have n5_ := am (Kd.C_below (cq HR561.out) hb)
                    have n6_ := am (below_step (hs HB.out) hb)
                    clear HO_4 HO_5 BK526 HR554 HR561 HB; revert n0_ n1_ n2_ n3_ n4_ n5_ n6_; intro HO_4 HO_5 HO557 BK526 HR554 HR561 HB
                    (try clear hb)
                    (try clear hb2)
                    (try clear hgw)
                    (try clear hk)
                    (try clear hi)
                    (try clear ho0)
                    refine hK.out _ _ trivial (fun hHeld => ?_)
                    clear hK K
                    refine norm_ (a' := ?_) ?_ ?_
                    rotate_left
                    · show Act.put _ (some 65) _ = _
                      simp only [Act.put, lsp, i64_w, i32_w]
                      rfl
                    refine one_ (i := 7) (N := some 69) #[true, true, true, true, true, true, true, true, false, false, false] rfl rfl (one_of HT_.out (by kernel_rfl)) (by decide) (fun K hK => ?_)
                    refine goes_ Tryd.func94 (by kernel_rfl) rfl #[.slice A44 y558.length c44] (by rfl) rfl rfl el ?_
                    with_reducible refine (spec_l1Ints.calls _ _ y558 t562 _ ?side1 ?side2 A39.out).mono ?_
                    (case side1 => repeat (first | exact (cq HR561.out) | (with_reducible refine Kd.C_alloc ?_ _) | (with_reducible refine Kd.C_drewN ?_ _) | (with_reducible refine Kd.C_drew ?_)))
                    (case side2 => exact HC561.out)
                    rintro e w46 ⟨v563, rfl, ho0, hb⟩
                    refine ⟨_, rfl, ?_⟩
                    have n0_ := am (Kd.R_elder' (rq HO_4.out) (Kd.R_base ho0) hb)
                    have n1_ := am (Kd.R_elder' (rq HO_5.out) (Kd.R_base ho0) hb)
                    have n2_ := am (Kd.R_elder' (rq HO557.out) (Kd.R_base ho0) hb)
                    have n3_ := am (Kd.R_lower (Kd.R_new' (Kd.R_new' (Kd.R_new' ho0 (Kd.R_lt (rq HO_4.out))) (Kd.R_lt (rq HO_5.out))) (Kd.R_lt (rq HO557.out))) (below_size (hs HB.out)))
                    have n4_ := am (blk_below (bq BK526.out) hb)
                    have n5_ := am (Kd.C_below (cq HR554.out) hb)
                    have n6_ := am (Kd.C_below (cq HR561.out) hb)
                    have n7_ := am (below_step (hs HB.out) hb)
                    clear HO_4 HO_5 HO557 BK526 HR554 HR561 HB; revert n0_ n1_ n2_ n3_ n4_ n5_ n6_ n7_; intro HO_4 HO_5 HO557 HO564 BK526 HR554 HR561 HB
                    (try clear hb)
                    (try clear hb2)
                    (try clear hgw)
                    (try clear hk)
                    (try clear hi)
                    (try clear ho0)
                    obtain ⟨Ao47, co47, eo47⟩ := Kd.R_slice HO564.out
                    (first | subst eo47 | (injection eo47 with f1_ f2_ f3_; have f4_ := f1_.symm; have f5_ := f3_.symm; clear f1_ f2_ f3_; subst f4_; subst f5_))
                    obtain ⟨Ao48, co48, eo48⟩ := Kd.R_slice HO557.out
                    (first | subst eo48 | (injection eo48 with f1_ f2_ f3_; have f4_ := f1_.symm; have f5_ := f3_.symm; clear f1_ f2_ f3_; subst f4_; subst f5_))
                    refine hK.out _ _ trivial (fun hHeld => ?_)
                    clear hK K
                    refine norm_ (a' := ?_) ?_ ?_
                    rotate_left
                    · show Act.put _ (some 69) _ = _
                      simp only [Act.put, lsp, i64_w, i32_w]
                      rfl
                    refine pure_ (i := 8) (N := some 70) (v := ?_) (a' := ?_) #[true, true, true, true, true, true, true, true, true, false, false] rfl rfl (any_of HT_.out (by kernel_rfl)) (fun _ _ _ h => h) (Or.inl ⟨by rfl, ?_⟩) ?_ ?_
                    rotate_left
                    · intro w'
                      go_simp
                      with_reducible rfl
                    rotate_left
                    · simp only [Act.put, lsp, i64_w, i32_w]
                      rfl
                    refine one_ (i := 9) (N := none) #[true, true, true, true, true, true, true, true, true, true, false] rfl rfl (one_of HT_.out (by kernel_rfl)) (by decide) (fun K hK => ?_)
                    have hs49 : w46.cell? ⟨gb526, 0, none⟩ = some (.slice none 0 0) := (blk_cell BK526.out 0).trans rfl
                    have hfs49 := blk_frozen BK526.out 0
                    have hs50 : w46.cell? ⟨gb526, 1, none⟩ = some (.slice none 0 0) := (blk_cell BK526.out 1).trans rfl
                    have hfs50 := blk_frozen BK526.out 1
                    refine skip_ (w1 := ?_) (by rfl) rfl ?_ ?_
                    rotate_left
                    · go_simp
                      rfl
                    refine hK.out _ _ trivial (fun hHeld => ?_)
                    clear hK K
                    refine pure_ (i := 10) (N := some 3) (v := ?_) (a' := ?_) #[true, true, true, true, true, true, true, true, true, true, true] rfl rfl (any_of HT_.out (by kernel_rfl)) (fun _ _ _ h => h) (Or.inl ⟨by rfl, ?_⟩) ?_ ?_
                    rotate_left
                    · intro w'
                      go_simp
                      with_reducible rfl
                    rotate_left
                    · simp only [Act.put, lsp, i64_w, i32_w]
                      rfl
                    refine done_ (done_of HT_.out (by kernel_rfl)) ?_
                    try go_wp2
                    refine bodyPost_ret (results_ct rfl _ _ gb526 47 #[.slice Ao48 t555.length co48, .slice Ao47 t562.length co47] (0, 0) _ rfl (by refine bq ?_; refine blk_put (cs := #[.slice Ao48 t555.length co48, .slice none 0 0]) ?_ 1 _ rfl; refine bq ?_; refine blk_put (cs := #[.slice none 0 0, .slice none 0 0]) ?_ 0 _ rfl; refine bq ?_; exact BK526.out) Tryd.underlying47 rfl (by kernel_rfl)) rfl ?_
                    exact ⟨_, _, by first | rfl | (simp [errW_none, errW_some] <;> rfl) | (simp [*, errW_none, errW_some] <;> rfl), by (with_reducible repeat (first | apply Kd.R_alloc | apply Kd.R_drewN | apply Kd.R_drew)); exact Kd.R_mono (Kd.R_far (p := ⟨gb526, 1, none⟩) (Kd.R_far (p := ⟨gb526, 0, none⟩) (Kd.R_types HO557.out BK526.out (by decide)) (fun _ hk => hk.2) (.slice Ao48 t555.length co48)) (fun _ hk => hk.2) (.slice Ao47 t562.length co47)) (fun _ hk => hk.1.2), by (with_reducible repeat (first | apply Kd.R_alloc | apply Kd.R_drewN | apply Kd.R_drew)); exact Kd.R_mono (Kd.R_far (p := ⟨gb526, 1, none⟩) (Kd.R_far (p := ⟨gb526, 0, none⟩) (Kd.R_types HO564.out BK526.out (by decide)) (fun _ hk => hk.2) (.slice Ao48 t555.length co48)) (fun _ hk => hk.2) (.slice Ao47 t562.length co47)) (fun _ hk => hk.1.2), by exact hs HB.out⟩
                  · rw [if_neg c35] at H
                    exact absurd H (by simp)
                · rw [if_neg c34] at H
                  exact absurd H (by simp)
              · rw [if_neg c33] at H
                exact absurd H (by simp)
    · rw [if_neg c4] at H
      exact absurd H (by simp)
  · rw [if_neg c2] at H
    exact absurd H (by simp)
end Go.Proofs.YtcanokiehjjbgaaDoor.P
namespace Go.Proofs.YtcanokiehjjbgaaDoor.P
open Go.RowKit Go.Proofs.YtcanokiehjjbgaaDoorW.PrintWords Go.Proofs.YtcanokiehjjbgaaDoorW.PrintLast Go.Proofs.YtcanokiehjjbgaaDoorW.PrintMore
attribute [local go_sem] max2_int min2_int max_two min_two max_three min_three max_four min_four   -- for this text's walks alone
set_option linter.unusedVariables false
set_option linter.unusedSimpArgs false
def laws_eqInt64S.l0 : Nat → List Int → List Int → Int → Option (Bool)
  | 0, _, _, _ => none
  | k + 1, x0, x1, x5 => if x5 < (x0.length : Int) then (if 0 ≤ x5 then (if x5 < (x1.length : Int) then (if (rd x0 x5) = (rd x1 x5) then (laws_eqInt64S.l0 k x0 x1 (wrap64 (x5 + 1))) else (some false)) else (none)) else (none)) else (some true)
def laws_eqInt64S.f (k : Nat) (l0 : List Int) (l1 : List Int) : Option (Bool) := if (l0.length : Int) = (l1.length : Int) then (laws_eqInt64S.l0 k l0 l1 0) else (some false)
set_option maxHeartbeats 8000000 in
set_option maxRecDepth 100000 in
theorem laws_eqInt64S.calls (k : Nat) (A0 : Option Addr) (c0 : Nat) (l0 : List Int) (A1 : Option Addr) (c1 : Nat) (l1 : List Int) (r : Bool) (w : World) (hr0 : Kd.C (Kd.int .i64) w A0 l0.length l0) (hc0 : l0.length ≤ c0) (hr1 : Kd.C (Kd.int .i64) w A1 l1.length l1) (hc1 : l1.length ≤ c1) (h : laws_eqInt64S.f k l0 l1 = some r) :
    Calls Tryd.prog 37 #[.slice A0 l0.length c0, .slice A1 l1.length c1] w fun e w' => e = .returned (.bool r) ∧ Drawn0 w w' := by
  have HR0 := am hr0
  have HC0 := am hc0
  clear hr0 hc0
  have HR1 := am hr1
  have HC1 := am hc1
  clear hr1 hc1
  have H : (if (l0.length : Int) = (l1.length : Int) then (laws_eqInt64S.l0 k l0 l1 0) else (some false)) = some r := h
  clear h
  by_cases c3 : (l0.length : Int) = (l1.length : Int)
  · rw [if_pos c3] at H
    have c3b0 : ((l0.length : Int) == (l1.length : Int)) = true := beq_iff_eq.mpr c3
    have c3b1 : ((l0.length : Int) != (l1.length : Int)) = false := bne_eq_false_iff_eq.mpr c3
    have c3b2 : (l0.length == l1.length) = true := by first | simpa using c3 | (simp at c3 ⊢; omega)
    clear c3
    have H' := am H
    clear H
    go_enter Tryd.func37, Tryd.ntmps37
    go_wp2
    repeat (go_quiet (fail); try go_wp2)
    go_loopg [5] k (fun kq v5 w' => ∃ (x5_1 : Int), v5 = .int .i64 x5_1 ∧ Aside0 (laws_eqInt64S.l0 kq l0 l1 x5_1 = some r) ∧ Aside0 (kq ≤ k) ∧ Drawn0 w w')
    case atStart => exact ⟨(0), (by first | rfl | (simp; done) | (simp [*]; done)), H', ⟨Nat.le_refl _⟩, by repeat (first | exact Drawn0.refl _ | apply Drawn0.step)⟩
    case round =>
      clear H'
      try clear c1; try clear p2; try clear c3; try clear c3b0; try clear c3b1; try clear c3b2
      obtain ⟨x5_1, rfl, HA, HK1, ⟨m1, rfl⟩⟩ := hrel
      cases gk with
      | zero => exact absurd HA.out (by simp [laws_eqInt64S.l0])
      | succ k1 =>
        have H := HA.out
        clear HA
        simp only [laws_eqInt64S.l0] at H
        by_cases c4 : x5_1 < (l0.length : Int)
        · rw [if_pos c4] at H
          have c4b0 : decide (x5_1 < (l0.length : Int)) = true := decide_eq_true c4
          clear c4
          by_cases c5 : 0 ≤ x5_1
          · rw [if_pos c5] at H
            have c5b0 : decide (0 ≤ x5_1) = true := decide_eq_true c5
            clear c5
            by_cases c6 : x5_1 < (l1.length : Int)
            · rw [if_pos c6] at H
              have c6b0 : decide (x5_1 < (l1.length : Int)) = true := decide_eq_true c6
              clear c6
              by_cases c7 : (rd l0 x5_1) = (rd l1 x5_1)
              · rw [if_pos c7] at H
                have c7b0 : ((rd l0 x5_1) == (rd l1 x5_1)) = true := beq_iff_eq.mpr c7
                have c7b1 : ((rd l0 x5_1) != (rd l1 x5_1)) = false := bne_eq_false_iff_eq.mpr c7
                clear c7
                have H' := am H
                clear H
                have p637 : 0 ≤ (x5_1 : Int) := of_decide_eq_true (by first | (with_reducible assumption) | assumption)
                have q637 : x5_1 < (l0.length : Int) := of_decide_eq_true (by first | (with_reducible assumption) | assumption)
                obtain ⟨ad637, e637, hx637_0⟩ := Kd.at_int HR0.out x5_1 p637 q637
                cases e637
                replace p637 := eq_true p637
                replace q637 := eq_true q637
                have p638 : 0 ≤ (x5_1 : Int) := of_decide_eq_true (by first | (with_reducible assumption) | assumption)
                have q638 : x5_1 < (l1.length : Int) := of_decide_eq_true (by first | (with_reducible assumption) | assumption)
                obtain ⟨ad638, e638, hx638_0⟩ := Kd.at_int HR1.out x5_1 p638 q638
                cases e638
                replace p638 := eq_true p638
                replace q638 := eq_true q638
                go_wp2
                repeat (go_quiet (fail); try go_wp2)
                go_roundg k1
                case measure => have := HK1.out; omega
                case rel => exact ⟨(wrap64 (x5_1 + 1)), (by first | rfl | (simp; done) | (simp [*]; done)), H', ⟨by have := HK1.out; omega⟩, by repeat (first | exact Drawn0.refl _ | apply Drawn0.step)⟩
              · rw [if_neg c7] at H
                have c7b0 : ((rd l0 x5_1) == (rd l1 x5_1)) = false := beq_eq_false_iff_ne.mpr c7
                have c7b1 : ((rd l0 x5_1) != (rd l1 x5_1)) = true := bne_iff_ne.mpr c7
                obtain rfl := Option.some.inj H
                have p637 : 0 ≤ (x5_1 : Int) := of_decide_eq_true (by first | (with_reducible assumption) | assumption)
                have q637 : x5_1 < (l0.length : Int) := of_decide_eq_true (by first | (with_reducible assumption) | assumption)
                obtain ⟨ad637, e637, hx637_0⟩ := Kd.at_int HR0.out x5_1 p637 q637
                cases e637
                replace p637 := eq_true p637
                replace q637 := eq_true q637
                have p638 : 0 ≤ (x5_1 : Int) := of_decide_eq_true (by first | (with_reducible assumption) | assumption)
                have q638 : x5_1 < (l1.length : Int) := of_decide_eq_true (by first | (with_reducible assumption) | assumption)
                obtain ⟨ad638, e638, hx638_0⟩ := Kd.at_int HR1.out x5_1 p638 q638
                cases e638
                replace p638 := eq_true p638
                replace q638 := eq_true q638
                go_wp2
                repeat (go_quiet (fail); try go_wp2)
                go_ret
                exact ⟨by first | rfl | (simp; done) | (simp [*]; done), by repeat (first | exact Drawn0.refl _ | apply Drawn0.step)⟩
            · rw [if_neg c6] at H
              exact absurd H (by simp)
          · rw [if_neg c5] at H
            exact absurd H (by simp)
        · rw [if_neg c4] at H
          have c4b0 : decide (x5_1 < (l0.length : Int)) = false := decide_eq_false c4
          clear c4
          obtain rfl := Option.some.inj H
          go_wp2
          repeat (go_quiet (fail); try go_wp2)
          go_ret
          exact ⟨by first | rfl | (simp; done) | (simp [*]; done), by repeat (first | exact Drawn0.refl _ | apply Drawn0.step)⟩
  · rw [if_neg c3] at H
    have c3b0 : ((l0.length : Int) == (l1.length : Int)) = false := beq_eq_false_iff_ne.mpr c3
    have c3b1 : ((l0.length : Int) != (l1.length : Int)) = true := bne_iff_ne.mpr c3
    have c3b2 : (l0.length == l1.length) = false := by first | simpa using c3 | (simp at c3 ⊢; omega)
    obtain rfl := Option.some.inj H
    go_enter Tryd.func37, Tryd.ntmps37
    go_wp2
    repeat (go_quiet (fail); try go_wp2)
    go_ret
    exact ⟨by first | rfl | (simp; done) | (simp [*]; done), by repeat (first | exact Drawn0.refl _ | apply Drawn0.step)⟩
def laws_eqEquation.f (k : Nat) (l0_0 : List Int) (l0_1 : List Int) (l1_0 : List Int) (l1_1 : List Int) : Option (Bool) := (laws_eqInt64S.f k l0_0 l1_0).bind fun t641 => (if t641 = true then ((laws_eqInt64S.f k l0_1 l1_1).bind fun t642 => (if t642 = true then (some true) else (some false))) else (some false))
set_option maxHeartbeats 8000000 in
set_option maxRecDepth 100000 in
theorem laws_eqEquation.calls (k : Nat) (A0_0 : Option Addr) (c0_0 : Nat) (l0_0 : List Int) (A0_1 : Option Addr) (c0_1 : Nat) (l0_1 : List Int) (A1_0 : Option Addr) (c1_0 : Nat) (l1_0 : List Int) (A1_1 : Option Addr) (c1_1 : Nat) (l1_1 : List Int) (r : Bool) (w : World) (hr0_0 : Kd.C (Kd.int .i64) w A0_0 l0_0.length l0_0) (hc0_0 : l0_0.length ≤ c0_0) (hr0_1 : Kd.C (Kd.int .i64) w A0_1 l0_1.length l0_1) (hc0_1 : l0_1.length ≤ c0_1) (hr1_0 : Kd.C (Kd.int .i64) w A1_0 l1_0.length l1_0) (hc1_0 : l1_0.length ≤ c1_0) (hr1_1 : Kd.C (Kd.int .i64) w A1_1 l1_1.length l1_1) (hc1_1 : l1_1.length ≤ c1_1) (h : laws_eqEquation.f k l0_0 l0_1 l1_0 l1_1 = some r) :
    Calls Tryd.prog 25 #[.agg #[.slice A0_0 l0_0.length c0_0, .slice A0_1 l0_1.length c0_1], .agg #[.slice A1_0 l1_0.length c1_0, .slice A1_1 l1_1.length c1_1]] w fun e w' => e = .returned (.bool r) ∧ Below w.heap.size w w' := by
  have hu47 := Tryd.underlying47
  have HR0_0 := am hr0_0
  have HC0_0 := am hc0_0
  clear hr0_0 hc0_0
  have HR0_1 := am hr0_1
  have HC0_1 := am hc0_1
  clear hr0_1 hc0_1
  have HR1_0 := am hr1_0
  have HC1_0 := am hc1_0
  clear hr1_0 hc1_0
  have HR1_1 := am hr1_1
  have HC1_1 := am hc1_1
  clear hr1_1 hc1_1
  have HB := am (Below.refl w.heap.size w)
  have H : ((laws_eqInt64S.f k l0_0 l1_0).bind fun t641 => (if t641 = true then ((laws_eqInt64S.f k l0_1 l1_1).bind fun t642 => (if t642 = true then (some true) else (some false))) else (some false))) = some r := h
  clear h
  replace H := Option.bind_eq_some_iff.mp H
  obtain ⟨t641, A30, H⟩ := H
  replace H : (if t641 = true then ((laws_eqInt64S.f k l0_1 l1_1).bind fun t642 => (if t642 = true then (some true) else (some false))) else (some false)) = some r := H
  have A3 := am A30
  clear A30
  by_cases c4 : t641 = true
  · subst c4
    have H1 : ((laws_eqInt64S.f k l0_1 l1_1).bind fun t642 => (if t642 = true then (some true) else (some false))) = some r := by rw [if_pos rfl] at H; exact H
    clear H
    have H := H1
    clear H1
    replace H := Option.bind_eq_some_iff.mp H
    obtain ⟨t642, A50, H⟩ := H
    replace H : (if t642 = true then (some true) else (some false)) = some r := H
    have A5 := am A50
    clear A50
    by_cases c6 : t642 = true
    · subst c6
      have H1 : (some true) = some r := by rw [if_pos rfl] at H; exact H
      clear H
      have H := H1
      clear H1
      obtain rfl := Option.some.inj H
      go_enter Tryd.func25, Tryd.ntmps25
      go_wp2_with (first | ((with_reducible refine gate_dst (N := 2) rfl ?_); refine box_event ?hg (N := 2) ?hd (cs := #[.slice A0_0 l0_0.length c0_0, .slice A0_1 l0_1.length c0_1]) (t := 47) ?hr ?_; (case hd => rfl); (case hg => rfl); (case hr => first | (go_simp; done) | (go_simp; rfl)); intro gb639 hg w7 hbox hb; have n0_ := am (below_step (hq HB.out) hb); have n1_ := am (hbox); have n2_ := am (bz hg (hq HB.out)); have n3_ := n2_; clear HB; revert n0_ n1_ n2_ n3_; intro HB BK639 GW639 GE639; clear hb hbox hg) | ((with_reducible refine gate_dst (N := 3) rfl ?_); refine box_event ?hg (N := 3) ?hd (cs := #[.slice A1_0 l1_0.length c1_0, .slice A1_1 l1_1.length c1_1]) (t := 47) ?hr ?_; (case hd => rfl); (case hg => rfl); (case hr => first | (go_simp; done) | (go_simp; rfl)); intro gb640 hg w8 hbox hb; have n0_ := am (blk_below (bq BK639.out) hb); have n1_ := am (below_step (hs HB.out) hb); have n2_ := am (hbox); have n3_ := am (bz hg (hs HB.out)); have n4_ := n3_; have n5_ := am ((by rw [hg]; exact Nat.ne_of_lt (blk_lt (bq BK639.out)) : gb639 ≠ gb640)); have n6_ := am ((by rw [hg]; exact Nat.ne_of_gt (blk_lt (bq BK639.out)) : gb640 ≠ gb639)); clear BK639 HB; revert n0_ n1_ n2_ n3_ n4_ n5_ n6_; intro BK639 HB BK640 GW640 GE640 NB639_640 NB640_639; clear hb hbox hg; have hnb9 := NB639_640.out; have hnc9 := NB640_639.out; have hcz10_0 : w8.cell? ⟨gb639, 0, none⟩ = some (.slice A0_0 l0_0.length c0_0) := (blk_cell BK639.out 0).trans rfl; have hcz10_1 : w8.cell? ⟨gb639, 1, none⟩ = some (.slice A0_1 l0_1.length c0_1) := (blk_cell BK639.out 1).trans rfl; have hfz10_0 := blk_frozen BK639.out 0; have hfz10_1 := blk_frozen BK639.out 1; have hcz11_0 : w8.cell? ⟨gb640, 0, none⟩ = some (.slice A1_0 l1_0.length c1_0) := (blk_cell BK640.out 0).trans rfl; have hcz11_1 : w8.cell? ⟨gb640, 1, none⟩ = some (.slice A1_1 l1_1.length c1_1) := (blk_cell BK640.out 1).trans rfl; have hfz11_0 := blk_frozen BK640.out 0; have hfz11_1 := blk_frozen BK640.out 1) | ((with_reducible refine gate_callee (f := 37) rfl ?_); refine goesL_ (some 9) rfl rfl Tryd.func37 (by kernel_rfl) rfl #[.slice A0_0 l0_0.length c0_0, .slice A1_0 l1_0.length c1_0] rfl el ?_; (with_reducible refine (laws_eqInt64S.calls k _ _ l0_0 _ _ l1_0 true _ ?side1 ?side2 ?side3 ?side4 A3.out).mono ?_); (case side1 => exact cq (Kd.C_below HR0_0.out HB.out)); (case side2 => exact HC0_0.out); (case side3 => exact cq (Kd.C_below HR1_0.out HB.out)); (case side4 => exact HC1_0.out); rintro e w' ⟨rfl, ⟨nd, rfl⟩⟩; refine ⟨_, rfl, ?_⟩) | ((with_reducible refine gate_callee (f := 37) rfl ?_); refine goesL_ (some 15) rfl rfl Tryd.func37 (by kernel_rfl) rfl #[.slice A0_1 l0_1.length c0_1, .slice A1_1 l1_1.length c1_1] rfl el ?_; (with_reducible refine (laws_eqInt64S.calls k _ _ l0_1 _ _ l1_1 true _ ?side1 ?side2 ?side3 ?side4 A5.out).mono ?_); (case side1 => repeat (first | exact (Kd.C_below HR0_1.out (hs HB.out)) | (with_reducible refine Kd.C_alloc ?_ _) | (with_reducible refine Kd.C_drewN ?_ _) | (with_reducible refine Kd.C_drew ?_))); (case side2 => exact HC0_1.out); (case side3 => repeat (first | exact (Kd.C_below HR1_1.out (hs HB.out)) | (with_reducible refine Kd.C_alloc ?_ _) | (with_reducible refine Kd.C_drewN ?_ _) | (with_reducible refine Kd.C_drew ?_))); (case side4 => exact HC1_1.out); rintro e w' ⟨rfl, ⟨nd, rfl⟩⟩; refine ⟨_, rfl, ?_⟩))
      go_ret
      exact ⟨by first | rfl | (simp [errW_none, errW_some] <;> rfl) | (simp [*, errW_none, errW_some] <;> rfl), by exact hs HB.out⟩
    · replace c6 := Bool.eq_false_iff.mpr c6
      subst c6
      have H1 : (some false) = some r := by rw [if_neg (show ¬ (false = true) by decide)] at H; exact H
      clear H
      have H := H1
      clear H1
      obtain rfl := Option.some.inj H
      go_enter Tryd.func25, Tryd.ntmps25
      go_wp2_with (first | ((with_reducible refine gate_dst (N := 2) rfl ?_); refine box_event ?hg (N := 2) ?hd (cs := #[.slice A0_0 l0_0.length c0_0, .slice A0_1 l0_1.length c0_1]) (t := 47) ?hr ?_; (case hd => rfl); (case hg => rfl); (case hr => first | (go_simp; done) | (go_simp; rfl)); intro gb639 hg w12 hbox hb; have n0_ := am (below_step (hq HB.out) hb); have n1_ := am (hbox); have n2_ := am (bz hg (hq HB.out)); have n3_ := n2_; clear HB; revert n0_ n1_ n2_ n3_; intro HB BK639 GW639 GE639; clear hb hbox hg) | ((with_reducible refine gate_dst (N := 3) rfl ?_); refine box_event ?hg (N := 3) ?hd (cs := #[.slice A1_0 l1_0.length c1_0, .slice A1_1 l1_1.length c1_1]) (t := 47) ?hr ?_; (case hd => rfl); (case hg => rfl); (case hr => first | (go_simp; done) | (go_simp; rfl)); intro gb640 hg w13 hbox hb; have n0_ := am (blk_below (bq BK639.out) hb); have n1_ := am (below_step (hs HB.out) hb); have n2_ := am (hbox); have n3_ := am (bz hg (hs HB.out)); have n4_ := n3_; have n5_ := am ((by rw [hg]; exact Nat.ne_of_lt (blk_lt (bq BK639.out)) : gb639 ≠ gb640)); have n6_ := am ((by rw [hg]; exact Nat.ne_of_gt (blk_lt (bq BK639.out)) : gb640 ≠ gb639)); clear BK639 HB; revert n0_ n1_ n2_ n3_ n4_ n5_ n6_; intro BK639 HB BK640 GW640 GE640 NB639_640 NB640_639; clear hb hbox hg; have hnb14 := NB639_640.out; have hnc14 := NB640_639.out; have hcz15_0 : w13.cell? ⟨gb639, 0, none⟩ = some (.slice A0_0 l0_0.length c0_0) := (blk_cell BK639.out 0).trans rfl; have hcz15_1 : w13.cell? ⟨gb639, 1, none⟩ = some (.slice A0_1 l0_1.length c0_1) := (blk_cell BK639.out 1).trans rfl; have hfz15_0 := blk_frozen BK639.out 0; have hfz15_1 := blk_frozen BK639.out 1; have hcz16_0 : w13.cell? ⟨gb640, 0, none⟩ = some (.slice A1_0 l1_0.length c1_0) := (blk_cell BK640.out 0).trans rfl; have hcz16_1 : w13.cell? ⟨gb640, 1, none⟩ = some (.slice A1_1 l1_1.length c1_1) := (blk_cell BK640.out 1).trans rfl; have hfz16_0 := blk_frozen BK640.out 0; have hfz16_1 := blk_frozen BK640.out 1) | ((with_reducible refine gate_callee (f := 37) rfl ?_); refine goesL_ (some 9) rfl rfl Tryd.func37 (by kernel_rfl) rfl #[.slice A0_0 l0_0.length c0_0, .slice A1_0 l1_0.length c1_0] rfl el ?_; (with_reducible refine (laws_eqInt64S.calls k _ _ l0_0 _ _ l1_0 true _ ?side1 ?side2 ?side3 ?side4 A3.out).mono ?_); (case side1 => exact cq (Kd.C_below HR0_0.out HB.out)); (case side2 => exact HC0_0.out); (case side3 => exact cq (Kd.C_below HR1_0.out HB.out)); (case side4 => exact HC1_0.out); rintro e w' ⟨rfl, ⟨nd, rfl⟩⟩; refine ⟨_, rfl, ?_⟩) | ((with_reducible refine gate_callee (f := 37) rfl ?_); refine goesL_ (some 15) rfl rfl Tryd.func37 (by kernel_rfl) rfl #[.slice A0_1 l0_1.length c0_1, .slice A1_1 l1_1.length c1_1] rfl el ?_; (with_reducible refine (laws_eqInt64S.calls k _ _ l0_1 _ _ l1_1 false _ ?side1 ?side2 ?side3 ?side4 A5.out).mono ?_); (case side1 => repeat (first | exact (Kd.C_below HR0_1.out (hs HB.out)) | (with_reducible refine Kd.C_alloc ?_ _) | (with_reducible refine Kd.C_drewN ?_ _) | (with_reducible refine Kd.C_drew ?_))); (case side2 => exact HC0_1.out); (case side3 => repeat (first | exact (Kd.C_below HR1_1.out (hs HB.out)) | (with_reducible refine Kd.C_alloc ?_ _) | (with_reducible refine Kd.C_drewN ?_ _) | (with_reducible refine Kd.C_drew ?_))); (case side4 => exact HC1_1.out); rintro e w' ⟨rfl, ⟨nd, rfl⟩⟩; refine ⟨_, rfl, ?_⟩))
      go_ret
      exact ⟨by first | rfl | (simp [errW_none, errW_some] <;> rfl) | (simp [*, errW_none, errW_some] <;> rfl), by exact hs HB.out⟩
  · replace c4 := Bool.eq_false_iff.mpr c4
    subst c4
    have H1 : (some false) = some r := by rw [if_neg (show ¬ (false = true) by decide)] at H; exact H
    clear H
    have H := H1
    clear H1
    obtain rfl := Option.some.inj H
    go_enter Tryd.func25, Tryd.ntmps25
    go_wp2_with (first | ((with_reducible refine gate_dst (N := 2) rfl ?_); refine box_event ?hg (N := 2) ?hd (cs := #[.slice A0_0 l0_0.length c0_0, .slice A0_1 l0_1.length c0_1]) (t := 47) ?hr ?_; (case hd => rfl); (case hg => rfl); (case hr => first | (go_simp; done) | (go_simp; rfl)); intro gb639 hg w17 hbox hb; have n0_ := am (below_step (hq HB.out) hb); have n1_ := am (hbox); have n2_ := am (bz hg (hq HB.out)); have n3_ := n2_; clear HB; revert n0_ n1_ n2_ n3_; intro HB BK639 GW639 GE639; clear hb hbox hg) | ((with_reducible refine gate_dst (N := 3) rfl ?_); refine box_event ?hg (N := 3) ?hd (cs := #[.slice A1_0 l1_0.length c1_0, .slice A1_1 l1_1.length c1_1]) (t := 47) ?hr ?_; (case hd => rfl); (case hg => rfl); (case hr => first | (go_simp; done) | (go_simp; rfl)); intro gb640 hg w18 hbox hb; have n0_ := am (blk_below (bq BK639.out) hb); have n1_ := am (below_step (hs HB.out) hb); have n2_ := am (hbox); have n3_ := am (bz hg (hs HB.out)); have n4_ := n3_; have n5_ := am ((by rw [hg]; exact Nat.ne_of_lt (blk_lt (bq BK639.out)) : gb639 ≠ gb640)); have n6_ := am ((by rw [hg]; exact Nat.ne_of_gt (blk_lt (bq BK639.out)) : gb640 ≠ gb639)); clear BK639 HB; revert n0_ n1_ n2_ n3_ n4_ n5_ n6_; intro BK639 HB BK640 GW640 GE640 NB639_640 NB640_639; clear hb hbox hg; have hnb19 := NB639_640.out; have hnc19 := NB640_639.out; have hcz20_0 : w18.cell? ⟨gb639, 0, none⟩ = some (.slice A0_0 l0_0.length c0_0) := (blk_cell BK639.out 0).trans rfl; have hcz20_1 : w18.cell? ⟨gb639, 1, none⟩ = some (.slice A0_1 l0_1.length c0_1) := (blk_cell BK639.out 1).trans rfl; have hfz20_0 := blk_frozen BK639.out 0; have hfz20_1 := blk_frozen BK639.out 1; have hcz21_0 : w18.cell? ⟨gb640, 0, none⟩ = some (.slice A1_0 l1_0.length c1_0) := (blk_cell BK640.out 0).trans rfl; have hcz21_1 : w18.cell? ⟨gb640, 1, none⟩ = some (.slice A1_1 l1_1.length c1_1) := (blk_cell BK640.out 1).trans rfl; have hfz21_0 := blk_frozen BK640.out 0; have hfz21_1 := blk_frozen BK640.out 1) | ((with_reducible refine gate_callee (f := 37) rfl ?_); refine goesL_ (some 9) rfl rfl Tryd.func37 (by kernel_rfl) rfl #[.slice A0_0 l0_0.length c0_0, .slice A1_0 l1_0.length c1_0] rfl el ?_; (with_reducible refine (laws_eqInt64S.calls k _ _ l0_0 _ _ l1_0 false _ ?side1 ?side2 ?side3 ?side4 A3.out).mono ?_); (case side1 => exact cq (Kd.C_below HR0_0.out HB.out)); (case side2 => exact HC0_0.out); (case side3 => exact cq (Kd.C_below HR1_0.out HB.out)); (case side4 => exact HC1_0.out); rintro e w' ⟨rfl, ⟨nd, rfl⟩⟩; refine ⟨_, rfl, ?_⟩))
    go_ret
    exact ⟨by first | rfl | (simp [errW_none, errW_some] <;> rfl) | (simp [*, errW_none, errW_some] <;> rfl), by exact hs HB.out⟩
def laws_eqEquationResult.f (k : Nat) (a0_0 : Int) (l0_1 : List Int) (l0_2 : List Int) (a1_0 : Int) (l1_1 : List Int) (l1_2 : List Int) : Option (Bool) := if a0_0 = a1_0 then ((laws_eqEquation.f k l0_1 l0_2 l1_1 l1_2).bind fun t645 => (if t645 = true then (some true) else (some false))) else (some false)
set_option maxHeartbeats 8000000 in
set_option maxRecDepth 100000 in
theorem laws_eqEquationResult.calls (k : Nat) (a0_0 : Int) (A0_1 : Option Addr) (c0_1 : Nat) (l0_1 : List Int) (A0_2 : Option Addr) (c0_2 : Nat) (l0_2 : List Int) (a1_0 : Int) (A1_1 : Option Addr) (c1_1 : Nat) (l1_1 : List Int) (A1_2 : Option Addr) (c1_2 : Nat) (l1_2 : List Int) (r : Bool) (w : World) (hr0_1 : Kd.C (Kd.int .i64) w A0_1 l0_1.length l0_1) (hc0_1 : l0_1.length ≤ c0_1) (hr0_2 : Kd.C (Kd.int .i64) w A0_2 l0_2.length l0_2) (hc0_2 : l0_2.length ≤ c0_2) (hr1_1 : Kd.C (Kd.int .i64) w A1_1 l1_1.length l1_1) (hc1_1 : l1_1.length ≤ c1_1) (hr1_2 : Kd.C (Kd.int .i64) w A1_2 l1_2.length l1_2) (hc1_2 : l1_2.length ≤ c1_2) (h : laws_eqEquationResult.f k a0_0 l0_1 l0_2 a1_0 l1_1 l1_2 = some r) :
    Calls Tryd.prog 23 #[.agg #[.int .i64 a0_0, .slice A0_1 l0_1.length c0_1, .slice A0_2 l0_2.length c0_2], .agg #[.int .i64 a1_0, .slice A1_1 l1_1.length c1_1, .slice A1_2 l1_2.length c1_2]] w fun e w' => e = .returned (.bool r) ∧ Below w.heap.size w w' := by
  have hu49 := Tryd.underlying49
  have hu47 := Tryd.underlying47
  have HR0_1 := am hr0_1
  have HC0_1 := am hc0_1
  clear hr0_1 hc0_1
  have HR0_2 := am hr0_2
  have HC0_2 := am hc0_2
  clear hr0_2 hc0_2
  have HR1_1 := am hr1_1
  have HC1_1 := am hc1_1
  clear hr1_1 hc1_1
  have HR1_2 := am hr1_2
  have HC1_2 := am hc1_2
  clear hr1_2 hc1_2
  have HB := am (Below.refl w.heap.size w)
  have H : (if a0_0 = a1_0 then ((laws_eqEquation.f k l0_1 l0_2 l1_1 l1_2).bind fun t645 => (if t645 = true then (some true) else (some false))) else (some false)) = some r := h
  clear h
  by_cases c3 : a0_0 = a1_0
  · rw [if_pos c3] at H
    have c3b0 : (a0_0 == a1_0) = true := beq_iff_eq.mpr c3
    have c3b1 : (a0_0 != a1_0) = false := bne_eq_false_iff_eq.mpr c3
    clear c3
    replace H := Option.bind_eq_some_iff.mp H
    obtain ⟨t645, A40, H⟩ := H
    replace H : (if t645 = true then (some true) else (some false)) = some r := H
    have A4 := am A40
    clear A40
    by_cases c5 : t645 = true
    · subst c5
      have H1 : (some true) = some r := by rw [if_pos rfl] at H; exact H
      clear H
      have H := H1
      clear H1
      obtain rfl := Option.some.inj H
      go_enter Tryd.func23, Tryd.ntmps23
      go_wp2_with (first | ((with_reducible refine gate_dst (N := 2) rfl ?_); refine box_event ?hg (N := 2) ?hd (cs := #[.int .i64 a0_0, .slice A0_1 l0_1.length c0_1, .slice A0_2 l0_2.length c0_2]) (t := 49) ?hr ?_; (case hd => rfl); (case hg => rfl); (case hr => first | (go_simp; done) | (go_simp; rfl)); intro gb643 hg w6 hbox hb; have n0_ := am (below_step (hq HB.out) hb); have n1_ := am (hbox); have n2_ := am (bz hg (hq HB.out)); have n3_ := n2_; clear HB; revert n0_ n1_ n2_ n3_; intro HB BK643 GW643 GE643; clear hb hbox hg) | ((with_reducible refine gate_dst (N := 3) rfl ?_); refine box_event ?hg (N := 3) ?hd (cs := #[.int .i64 a1_0, .slice A1_1 l1_1.length c1_1, .slice A1_2 l1_2.length c1_2]) (t := 49) ?hr ?_; (case hd => rfl); (case hg => rfl); (case hr => first | (go_simp; done) | (go_simp; rfl)); intro gb644 hg w7 hbox hb; have n0_ := am (blk_below (bq BK643.out) hb); have n1_ := am (below_step (hs HB.out) hb); have n2_ := am (hbox); have n3_ := am (bz hg (hs HB.out)); have n4_ := n3_; have n5_ := am ((by rw [hg]; exact Nat.ne_of_lt (blk_lt (bq BK643.out)) : gb643 ≠ gb644)); have n6_ := am ((by rw [hg]; exact Nat.ne_of_gt (blk_lt (bq BK643.out)) : gb644 ≠ gb643)); clear BK643 HB; revert n0_ n1_ n2_ n3_ n4_ n5_ n6_; intro BK643 HB BK644 GW644 GE644 NB643_644 NB644_643; clear hb hbox hg; have hnb8 := NB643_644.out; have hnc8 := NB644_643.out; have hcz9_0 : w7.cell? ⟨gb643, 0, none⟩ = some (.int .i64 a0_0) := (blk_cell BK643.out 0).trans rfl; have hcz9_1 : w7.cell? ⟨gb643, 1, none⟩ = some (.slice A0_1 l0_1.length c0_1) := (blk_cell BK643.out 1).trans rfl; have hcz9_2 : w7.cell? ⟨gb643, 2, none⟩ = some (.slice A0_2 l0_2.length c0_2) := (blk_cell BK643.out 2).trans rfl; have hfz9_0 := blk_frozen BK643.out 0; have hfz9_1 := blk_frozen BK643.out 1; have hfz9_2 := blk_frozen BK643.out 2; have hcz10_0 : w7.cell? ⟨gb644, 0, none⟩ = some (.int .i64 a1_0) := (blk_cell BK644.out 0).trans rfl; have hcz10_1 : w7.cell? ⟨gb644, 1, none⟩ = some (.slice A1_1 l1_1.length c1_1) := (blk_cell BK644.out 1).trans rfl; have hcz10_2 : w7.cell? ⟨gb644, 2, none⟩ = some (.slice A1_2 l1_2.length c1_2) := (blk_cell BK644.out 2).trans rfl; have hfz10_0 := blk_frozen BK644.out 0; have hfz10_1 := blk_frozen BK644.out 1; have hfz10_2 := blk_frozen BK644.out 2) | ((with_reducible refine gate_callee (f := 25) rfl ?_); refine goesL_ (some 14) rfl rfl Tryd.func25 (by kernel_rfl) rfl #[.agg #[.slice A0_1 l0_1.length c0_1, .slice A0_2 l0_2.length c0_2], .agg #[.slice A1_1 l1_1.length c1_1, .slice A1_2 l1_2.length c1_2]] rfl el ?_; (with_reducible refine (laws_eqEquation.calls k _ _ l0_1 _ _ l0_2 _ _ l1_1 _ _ l1_2 true _ ?side1 ?side2 ?side3 ?side4 ?side5 ?side6 ?side7 ?side8 A4.out).mono ?_); (case side1 => exact cq (Kd.C_below HR0_1.out HB.out)); (case side2 => exact HC0_1.out); (case side3 => exact cq (Kd.C_below HR0_2.out HB.out)); (case side4 => exact HC0_2.out); (case side5 => exact cq (Kd.C_below HR1_1.out HB.out)); (case side6 => exact HC1_1.out); (case side7 => exact cq (Kd.C_below HR1_2.out HB.out)); (case side8 => exact HC1_2.out); rintro e w11 ⟨rfl, hb⟩; refine ⟨_, rfl, ?_⟩; have n0_ := am (blk_below (bq BK643.out) hb); have n1_ := am (blk_below (bq BK644.out) hb); have n2_ := am (below_step (hs HB.out) hb); clear BK643 BK644 HB; revert n0_ n1_ n2_; intro BK643 BK644 HB; (try clear hb); (try clear hb2); (try clear hgw); (try clear hk); (try clear hi)))
      go_ret
      exact ⟨by first | rfl | (simp [errW_none, errW_some] <;> rfl) | (simp [*, errW_none, errW_some] <;> rfl), by exact hs HB.out⟩
    · replace c5 := Bool.eq_false_iff.mpr c5
      subst c5
      have H1 : (some false) = some r := by rw [if_neg (show ¬ (false = true) by decide)] at H; exact H
      clear H
      have H := H1
      clear H1
      obtain rfl := Option.some.inj H
      go_enter Tryd.func23, Tryd.ntmps23
      go_wp2_with (first | ((with_reducible refine gate_dst (N := 2) rfl ?_); refine box_event ?hg (N := 2) ?hd (cs := #[.int .i64 a0_0, .slice A0_1 l0_1.length c0_1, .slice A0_2 l0_2.length c0_2]) (t := 49) ?hr ?_; (case hd => rfl); (case hg => rfl); (case hr => first | (go_simp; done) | (go_simp; rfl)); intro gb643 hg w12 hbox hb; have n0_ := am (below_step (hq HB.out) hb); have n1_ := am (hbox); have n2_ := am (bz hg (hq HB.out)); have n3_ := n2_; clear HB; revert n0_ n1_ n2_ n3_; intro HB BK643 GW643 GE643; clear hb hbox hg) | ((with_reducible refine gate_dst (N := 3) rfl ?_); refine box_event ?hg (N := 3) ?hd (cs := #[.int .i64 a1_0, .slice A1_1 l1_1.length c1_1, .slice A1_2 l1_2.length c1_2]) (t := 49) ?hr ?_; (case hd => rfl); (case hg => rfl); (case hr => first | (go_simp; done) | (go_simp; rfl)); intro gb644 hg w13 hbox hb; have n0_ := am (blk_below (bq BK643.out) hb); have n1_ := am (below_step (hs HB.out) hb); have n2_ := am (hbox); have n3_ := am (bz hg (hs HB.out)); have n4_ := n3_; have n5_ := am ((by rw [hg]; exact Nat.ne_of_lt (blk_lt (bq BK643.out)) : gb643 ≠ gb644)); have n6_ := am ((by rw [hg]; exact Nat.ne_of_gt (blk_lt (bq BK643.out)) : gb644 ≠ gb643)); clear BK643 HB; revert n0_ n1_ n2_ n3_ n4_ n5_ n6_; intro BK643 HB BK644 GW644 GE644 NB643_644 NB644_643; clear hb hbox hg; have hnb14 := NB643_644.out; have hnc14 := NB644_643.out; have hcz15_0 : w13.cell? ⟨gb643, 0, none⟩ = some (.int .i64 a0_0) := (blk_cell BK643.out 0).trans rfl; have hcz15_1 : w13.cell? ⟨gb643, 1, none⟩ = some (.slice A0_1 l0_1.length c0_1) := (blk_cell BK643.out 1).trans rfl; have hcz15_2 : w13.cell? ⟨gb643, 2, none⟩ = some (.slice A0_2 l0_2.length c0_2) := (blk_cell BK643.out 2).trans rfl; have hfz15_0 := blk_frozen BK643.out 0; have hfz15_1 := blk_frozen BK643.out 1; have hfz15_2 := blk_frozen BK643.out 2; have hcz16_0 : w13.cell? ⟨gb644, 0, none⟩ = some (.int .i64 a1_0) := (blk_cell BK644.out 0).trans rfl; have hcz16_1 : w13.cell? ⟨gb644, 1, none⟩ = some (.slice A1_1 l1_1.length c1_1) := (blk_cell BK644.out 1).trans rfl; have hcz16_2 : w13.cell? ⟨gb644, 2, none⟩ = some (.slice A1_2 l1_2.length c1_2) := (blk_cell BK644.out 2).trans rfl; have hfz16_0 := blk_frozen BK644.out 0; have hfz16_1 := blk_frozen BK644.out 1; have hfz16_2 := blk_frozen BK644.out 2) | ((with_reducible refine gate_callee (f := 25) rfl ?_); refine goesL_ (some 14) rfl rfl Tryd.func25 (by kernel_rfl) rfl #[.agg #[.slice A0_1 l0_1.length c0_1, .slice A0_2 l0_2.length c0_2], .agg #[.slice A1_1 l1_1.length c1_1, .slice A1_2 l1_2.length c1_2]] rfl el ?_; (with_reducible refine (laws_eqEquation.calls k _ _ l0_1 _ _ l0_2 _ _ l1_1 _ _ l1_2 false _ ?side1 ?side2 ?side3 ?side4 ?side5 ?side6 ?side7 ?side8 A4.out).mono ?_); (case side1 => exact cq (Kd.C_below HR0_1.out HB.out)); (case side2 => exact HC0_1.out); (case side3 => exact cq (Kd.C_below HR0_2.out HB.out)); (case side4 => exact HC0_2.out); (case side5 => exact cq (Kd.C_below HR1_1.out HB.out)); (case side6 => exact HC1_1.out); (case side7 => exact cq (Kd.C_below HR1_2.out HB.out)); (case side8 => exact HC1_2.out); rintro e w17 ⟨rfl, hb⟩; refine ⟨_, rfl, ?_⟩; have n0_ := am (blk_below (bq BK643.out) hb); have n1_ := am (blk_below (bq BK644.out) hb); have n2_ := am (below_step (hs HB.out) hb); clear BK643 BK644 HB; revert n0_ n1_ n2_; intro BK643 BK644 HB; (try clear hb); (try clear hb2); (try clear hgw); (try clear hk); (try clear hi)))
      go_ret
      exact ⟨by first | rfl | (simp [errW_none, errW_some] <;> rfl) | (simp [*, errW_none, errW_some] <;> rfl), by exact hs HB.out⟩
  · rw [if_neg c3] at H
    have c3b0 : (a0_0 == a1_0) = false := beq_eq_false_iff_ne.mpr c3
    have c3b1 : (a0_0 != a1_0) = true := bne_iff_ne.mpr c3
    obtain rfl := Option.some.inj H
    go_enter Tryd.func23, Tryd.ntmps23
    go_wp2_with (first | ((with_reducible refine gate_dst (N := 2) rfl ?_); refine box_event ?hg (N := 2) ?hd (cs := #[.int .i64 a0_0, .slice A0_1 l0_1.length c0_1, .slice A0_2 l0_2.length c0_2]) (t := 49) ?hr ?_; (case hd => rfl); (case hg => rfl); (case hr => first | (go_simp; done) | (go_simp; rfl)); intro gb643 hg w18 hbox hb; have n0_ := am (below_step (hq HB.out) hb); have n1_ := am (hbox); have n2_ := am (bz hg (hq HB.out)); have n3_ := n2_; clear HB; revert n0_ n1_ n2_ n3_; intro HB BK643 GW643 GE643; clear hb hbox hg) | ((with_reducible refine gate_dst (N := 3) rfl ?_); refine box_event ?hg (N := 3) ?hd (cs := #[.int .i64 a1_0, .slice A1_1 l1_1.length c1_1, .slice A1_2 l1_2.length c1_2]) (t := 49) ?hr ?_; (case hd => rfl); (case hg => rfl); (case hr => first | (go_simp; done) | (go_simp; rfl)); intro gb644 hg w19 hbox hb; have n0_ := am (blk_below (bq BK643.out) hb); have n1_ := am (below_step (hs HB.out) hb); have n2_ := am (hbox); have n3_ := am (bz hg (hs HB.out)); have n4_ := n3_; have n5_ := am ((by rw [hg]; exact Nat.ne_of_lt (blk_lt (bq BK643.out)) : gb643 ≠ gb644)); have n6_ := am ((by rw [hg]; exact Nat.ne_of_gt (blk_lt (bq BK643.out)) : gb644 ≠ gb643)); clear BK643 HB; revert n0_ n1_ n2_ n3_ n4_ n5_ n6_; intro BK643 HB BK644 GW644 GE644 NB643_644 NB644_643; clear hb hbox hg; have hnb20 := NB643_644.out; have hnc20 := NB644_643.out; have hcz21_0 : w19.cell? ⟨gb643, 0, none⟩ = some (.int .i64 a0_0) := (blk_cell BK643.out 0).trans rfl; have hcz21_1 : w19.cell? ⟨gb643, 1, none⟩ = some (.slice A0_1 l0_1.length c0_1) := (blk_cell BK643.out 1).trans rfl; have hcz21_2 : w19.cell? ⟨gb643, 2, none⟩ = some (.slice A0_2 l0_2.length c0_2) := (blk_cell BK643.out 2).trans rfl; have hfz21_0 := blk_frozen BK643.out 0; have hfz21_1 := blk_frozen BK643.out 1; have hfz21_2 := blk_frozen BK643.out 2; have hcz22_0 : w19.cell? ⟨gb644, 0, none⟩ = some (.int .i64 a1_0) := (blk_cell BK644.out 0).trans rfl; have hcz22_1 : w19.cell? ⟨gb644, 1, none⟩ = some (.slice A1_1 l1_1.length c1_1) := (blk_cell BK644.out 1).trans rfl; have hcz22_2 : w19.cell? ⟨gb644, 2, none⟩ = some (.slice A1_2 l1_2.length c1_2) := (blk_cell BK644.out 2).trans rfl; have hfz22_0 := blk_frozen BK644.out 0; have hfz22_1 := blk_frozen BK644.out 1; have hfz22_2 := blk_frozen BK644.out 2))
    go_ret
    exact ⟨by first | rfl | (simp [errW_none, errW_some] <;> rfl) | (simp [*, errW_none, errW_some] <;> rfl), by exact hs HB.out⟩
def laws_eqSymbol.f (a0_0 : ByteArray) (a0_1 : Int) (a1_0 : ByteArray) (a1_1 : Int) : Option (Bool) := if a0_0.toList = a1_0.toList then (if a0_1 = a1_1 then (some true) else (some false)) else (some false)
set_option maxHeartbeats 8000000 in
set_option maxRecDepth 100000 in
theorem laws_eqSymbol.calls (a0_0 : ByteArray) (a0_1 : Int) (a1_0 : ByteArray) (a1_1 : Int) (r : Bool) (w : World) (h : laws_eqSymbol.f a0_0 a0_1 a1_0 a1_1 = some r) :
    Calls Tryd.prog 101 #[.agg #[.string a0_0, .int .i64 a0_1], .agg #[.string a1_0, .int .i64 a1_1]] w fun e w' => e = .returned (.bool r) ∧ Below w.heap.size w w' := by
  have hu110 := Tryd.underlying110
  have HB := am (Below.refl w.heap.size w)
  have H : (if a0_0.toList = a1_0.toList then (if a0_1 = a1_1 then (some true) else (some false)) else (some false)) = some r := h
  clear h
  by_cases c3 : a0_0.toList = a1_0.toList
  · rw [if_pos c3] at H
    have c3b0 : (a0_0.toList == a1_0.toList) = true := beq_iff_eq.mpr c3
    have c3b1 : (a0_0.toList != a1_0.toList) = false := bne_eq_false_iff_eq.mpr c3
    clear c3
    by_cases c4 : a0_1 = a1_1
    · rw [if_pos c4] at H
      have c4b0 : (a0_1 == a1_1) = true := beq_iff_eq.mpr c4
      have c4b1 : (a0_1 != a1_1) = false := bne_eq_false_iff_eq.mpr c4
      clear c4
      obtain rfl := Option.some.inj H
      go_enter Tryd.func101, Tryd.ntmps101
      go_wp2_with (first | ((with_reducible refine gate_dst (N := 2) rfl ?_); refine box_event ?hg (N := 2) ?hd (cs := #[.string a0_0, .int .i64 a0_1]) (t := 110) ?hr ?_; (case hd => rfl); (case hg => rfl); (case hr => first | (go_simp; done) | (go_simp; rfl)); intro gb646 hg w5 hbox hb; have n0_ := am (below_step (hq HB.out) hb); have n1_ := am (hbox); have n2_ := am (bz hg (hq HB.out)); have n3_ := n2_; clear HB; revert n0_ n1_ n2_ n3_; intro HB BK646 GW646 GE646; clear hb hbox hg) | ((with_reducible refine gate_dst (N := 3) rfl ?_); refine box_event ?hg (N := 3) ?hd (cs := #[.string a1_0, .int .i64 a1_1]) (t := 110) ?hr ?_; (case hd => rfl); (case hg => rfl); (case hr => first | (go_simp; done) | (go_simp; rfl)); intro gb647 hg w6 hbox hb; have n0_ := am (blk_below (bq BK646.out) hb); have n1_ := am (below_step (hs HB.out) hb); have n2_ := am (hbox); have n3_ := am (bz hg (hs HB.out)); have n4_ := n3_; have n5_ := am ((by rw [hg]; exact Nat.ne_of_lt (blk_lt (bq BK646.out)) : gb646 ≠ gb647)); have n6_ := am ((by rw [hg]; exact Nat.ne_of_gt (blk_lt (bq BK646.out)) : gb647 ≠ gb646)); clear BK646 HB; revert n0_ n1_ n2_ n3_ n4_ n5_ n6_; intro BK646 HB BK647 GW647 GE647 NB646_647 NB647_646; clear hb hbox hg; have hnb7 := NB646_647.out; have hnc7 := NB647_646.out; have hcz8_0 : w6.cell? ⟨gb646, 0, none⟩ = some (.string a0_0) := (blk_cell BK646.out 0).trans rfl; have hcz8_1 : w6.cell? ⟨gb646, 1, none⟩ = some (.int .i64 a0_1) := (blk_cell BK646.out 1).trans rfl; have hfz8_0 := blk_frozen BK646.out 0; have hfz8_1 := blk_frozen BK646.out 1; have hcz9_0 : w6.cell? ⟨gb647, 0, none⟩ = some (.string a1_0) := (blk_cell BK647.out 0).trans rfl; have hcz9_1 : w6.cell? ⟨gb647, 1, none⟩ = some (.int .i64 a1_1) := (blk_cell BK647.out 1).trans rfl; have hfz9_0 := blk_frozen BK647.out 0; have hfz9_1 := blk_frozen BK647.out 1))
      go_ret
      exact ⟨by first | rfl | (simp [errW_none, errW_some] <;> rfl) | (simp [*, errW_none, errW_some] <;> rfl), by exact hs HB.out⟩
    · rw [if_neg c4] at H
      have c4b0 : (a0_1 == a1_1) = false := beq_eq_false_iff_ne.mpr c4
      have c4b1 : (a0_1 != a1_1) = true := bne_iff_ne.mpr c4
      obtain rfl := Option.some.inj H
      go_enter Tryd.func101, Tryd.ntmps101
      go_wp2_with (first | ((with_reducible refine gate_dst (N := 2) rfl ?_); refine box_event ?hg (N := 2) ?hd (cs := #[.string a0_0, .int .i64 a0_1]) (t := 110) ?hr ?_; (case hd => rfl); (case hg => rfl); (case hr => first | (go_simp; done) | (go_simp; rfl)); intro gb646 hg w10 hbox hb; have n0_ := am (below_step (hq HB.out) hb); have n1_ := am (hbox); have n2_ := am (bz hg (hq HB.out)); have n3_ := n2_; clear HB; revert n0_ n1_ n2_ n3_; intro HB BK646 GW646 GE646; clear hb hbox hg) | ((with_reducible refine gate_dst (N := 3) rfl ?_); refine box_event ?hg (N := 3) ?hd (cs := #[.string a1_0, .int .i64 a1_1]) (t := 110) ?hr ?_; (case hd => rfl); (case hg => rfl); (case hr => first | (go_simp; done) | (go_simp; rfl)); intro gb647 hg w11 hbox hb; have n0_ := am (blk_below (bq BK646.out) hb); have n1_ := am (below_step (hs HB.out) hb); have n2_ := am (hbox); have n3_ := am (bz hg (hs HB.out)); have n4_ := n3_; have n5_ := am ((by rw [hg]; exact Nat.ne_of_lt (blk_lt (bq BK646.out)) : gb646 ≠ gb647)); have n6_ := am ((by rw [hg]; exact Nat.ne_of_gt (blk_lt (bq BK646.out)) : gb647 ≠ gb646)); clear BK646 HB; revert n0_ n1_ n2_ n3_ n4_ n5_ n6_; intro BK646 HB BK647 GW647 GE647 NB646_647 NB647_646; clear hb hbox hg; have hnb12 := NB646_647.out; have hnc12 := NB647_646.out; have hcz13_0 : w11.cell? ⟨gb646, 0, none⟩ = some (.string a0_0) := (blk_cell BK646.out 0).trans rfl; have hcz13_1 : w11.cell? ⟨gb646, 1, none⟩ = some (.int .i64 a0_1) := (blk_cell BK646.out 1).trans rfl; have hfz13_0 := blk_frozen BK646.out 0; have hfz13_1 := blk_frozen BK646.out 1; have hcz14_0 : w11.cell? ⟨gb647, 0, none⟩ = some (.string a1_0) := (blk_cell BK647.out 0).trans rfl; have hcz14_1 : w11.cell? ⟨gb647, 1, none⟩ = some (.int .i64 a1_1) := (blk_cell BK647.out 1).trans rfl; have hfz14_0 := blk_frozen BK647.out 0; have hfz14_1 := blk_frozen BK647.out 1))
      go_ret
      exact ⟨by first | rfl | (simp [errW_none, errW_some] <;> rfl) | (simp [*, errW_none, errW_some] <;> rfl), by exact hs HB.out⟩
  · rw [if_neg c3] at H
    have c3b0 : (a0_0.toList == a1_0.toList) = false := beq_eq_false_iff_ne.mpr c3
    have c3b1 : (a0_0.toList != a1_0.toList) = true := bne_iff_ne.mpr c3
    obtain rfl := Option.some.inj H
    go_enter Tryd.func101, Tryd.ntmps101
    go_wp2_with (first | ((with_reducible refine gate_dst (N := 2) rfl ?_); refine box_event ?hg (N := 2) ?hd (cs := #[.string a0_0, .int .i64 a0_1]) (t := 110) ?hr ?_; (case hd => rfl); (case hg => rfl); (case hr => first | (go_simp; done) | (go_simp; rfl)); intro gb646 hg w15 hbox hb; have n0_ := am (below_step (hq HB.out) hb); have n1_ := am (hbox); have n2_ := am (bz hg (hq HB.out)); have n3_ := n2_; clear HB; revert n0_ n1_ n2_ n3_; intro HB BK646 GW646 GE646; clear hb hbox hg) | ((with_reducible refine gate_dst (N := 3) rfl ?_); refine box_event ?hg (N := 3) ?hd (cs := #[.string a1_0, .int .i64 a1_1]) (t := 110) ?hr ?_; (case hd => rfl); (case hg => rfl); (case hr => first | (go_simp; done) | (go_simp; rfl)); intro gb647 hg w16 hbox hb; have n0_ := am (blk_below (bq BK646.out) hb); have n1_ := am (below_step (hs HB.out) hb); have n2_ := am (hbox); have n3_ := am (bz hg (hs HB.out)); have n4_ := n3_; have n5_ := am ((by rw [hg]; exact Nat.ne_of_lt (blk_lt (bq BK646.out)) : gb646 ≠ gb647)); have n6_ := am ((by rw [hg]; exact Nat.ne_of_gt (blk_lt (bq BK646.out)) : gb647 ≠ gb646)); clear BK646 HB; revert n0_ n1_ n2_ n3_ n4_ n5_ n6_; intro BK646 HB BK647 GW647 GE647 NB646_647 NB647_646; clear hb hbox hg; have hnb17 := NB646_647.out; have hnc17 := NB647_646.out; have hcz18_0 : w16.cell? ⟨gb646, 0, none⟩ = some (.string a0_0) := (blk_cell BK646.out 0).trans rfl; have hcz18_1 : w16.cell? ⟨gb646, 1, none⟩ = some (.int .i64 a0_1) := (blk_cell BK646.out 1).trans rfl; have hfz18_0 := blk_frozen BK646.out 0; have hfz18_1 := blk_frozen BK646.out 1; have hcz19_0 : w16.cell? ⟨gb647, 0, none⟩ = some (.string a1_0) := (blk_cell BK647.out 0).trans rfl; have hcz19_1 : w16.cell? ⟨gb647, 1, none⟩ = some (.int .i64 a1_1) := (blk_cell BK647.out 1).trans rfl; have hfz19_0 := blk_frozen BK647.out 0; have hfz19_1 := blk_frozen BK647.out 1))
    go_ret
    exact ⟨by first | rfl | (simp [errW_none, errW_some] <;> rfl) | (simp [*, errW_none, errW_some] <;> rfl), by exact hs HB.out⟩
def laws_eqSymbolS.l0 : Nat → List (S110) → List (S110) → Int → Option (Bool)
  | 0, _, _, _ => none
  | k + 1, x0, x1, x5 => if x5 < (x0.length : Int) then (if 0 ≤ x5 then (if x5 < (x1.length : Int) then ((laws_eqSymbol.f ((rd_T110 x0 x5).f0) ((rd_T110 x0 x5).f1) ((rd_T110 x1 x5).f0) ((rd_T110 x1 x5).f1)).bind fun t650 => (if t650 = true then (laws_eqSymbolS.l0 k x0 x1 (wrap64 (x5 + 1))) else (some false))) else (none)) else (none)) else (some true)
def laws_eqSymbolS.f (k : Nat) (l0 : List (S110)) (l1 : List (S110)) : Option (Bool) := if (l0.length : Int) = (l1.length : Int) then (laws_eqSymbolS.l0 k l0 l1 0) else (some false)
def laws_eqSymbolS.T6 : Bool × List (List Nat × List Nat) := (true, [([], []), ([], []), ([0, 1], [0, 1]), ([2], [2]), ([], []), ([], []), ([4, 5], [4, 5]), ([6], [6]), ([3, 7], [3, 7]), ([8], [8])])
def laws_eqSymbolS.B6 : List Nat := [0, 0, 3, 7, 0, 0, 48, 112, 255, 511]
theorem laws_eqSymbolS.tab6 : rtab .any (opsOf Tryd.f62 6) = laws_eqSymbolS.T6 := by kernel_rfl
theorem laws_eqSymbolS.bits6 : waitsOk laws_eqSymbolS.T6.2 laws_eqSymbolS.B6 = true := by kernel_rfl
set_option maxHeartbeats 8000000 in
set_option maxRecDepth 100000 in
theorem laws_eqSymbolS.calls (k : Nat) (A0 : Option Addr) (c0 : Nat) (l0 : List (S110)) (A1 : Option Addr) (c1 : Nat) (l1 : List (S110)) (r : Bool) (w : World) (hr0 : Kd.C k110 w A0 l0.length l0) (hc0 : l0.length ≤ c0) (hr1 : Kd.C k110 w A1 l1.length l1) (hc1 : l1.length ≤ c1) (h : laws_eqSymbolS.f k l0 l1 = some r) :
    Calls Tryd.prog 62 #[.slice A0 l0.length c0, .slice A1 l1.length c1] w fun e w' => e = .returned (.bool r) ∧ Below w.heap.size w w' := by
  have hu110 := Tryd.underlying110
  have HR0 := am hr0
  have HC0 := am hc0
  clear hr0 hc0
  have HR1 := am hr1
  have HC1 := am hc1
  clear hr1 hc1
  have HB := am (Below.refl w.heap.size w)
  have H : (if (l0.length : Int) = (l1.length : Int) then (laws_eqSymbolS.l0 k l0 l1 0) else (some false)) = some r := h
  clear h
  by_cases c3 : (l0.length : Int) = (l1.length : Int)
  · rw [if_pos c3] at H
    have c3b0 : ((l0.length : Int) == (l1.length : Int)) = true := beq_iff_eq.mpr c3
    have c3b1 : ((l0.length : Int) != (l1.length : Int)) = false := bne_eq_false_iff_eq.mpr c3
    have c3b2 : (l0.length == l1.length) = true := by first | simpa using c3 | (simp at c3 ⊢; omega)
    clear c3
    have H' := am H
    clear H
    go_enter Tryd.func62, Tryd.ntmps62
    go_wp2
    go_loopg [5] k (fun kq v5 w' => ∃ (x5_1 : Int), v5 = .int .i64 x5_1 ∧ Aside0 (laws_eqSymbolS.l0 kq l0 l1 x5_1 = some r) ∧ Aside0 (kq ≤ k) ∧ Aside0 (Below w.heap.size w w'))
    case atStart => exact ⟨(0), (by first | rfl | (simp; done) | (simp [*]; done)), H', ⟨Nat.le_refl _⟩, ⟨by exact hq HB.out⟩⟩
    case round =>
      clear H'
      try clear c1; try clear p2; try clear c3; try clear c3b0; try clear c3b1; try clear c3b2
      obtain ⟨x5_1, rfl, HA, HK1, HB⟩ := hrel
      cases gk with
      | zero => exact absurd HA.out (by simp [laws_eqSymbolS.l0])
      | succ k1 =>
        have H := HA.out
        clear HA
        simp only [laws_eqSymbolS.l0] at H
        by_cases c4 : x5_1 < (l0.length : Int)
        · rw [if_pos c4] at H
          have c4b0 : decide (x5_1 < (l0.length : Int)) = true := decide_eq_true c4
          clear c4
          by_cases c5 : 0 ≤ x5_1
          · rw [if_pos c5] at H
            have c5b0 : decide (0 ≤ x5_1) = true := decide_eq_true c5
            clear c5
            by_cases c6 : x5_1 < (l1.length : Int)
            · rw [if_pos c6] at H
              have c6b0 : decide (x5_1 < (l1.length : Int)) = true := decide_eq_true c6
              clear c6
              replace H := Option.bind_eq_some_iff.mp H
              obtain ⟨t650, A70, H⟩ := H
              replace H : (if t650 = true then (laws_eqSymbolS.l0 k1 l0 l1 (wrap64 (x5_1 + 1))) else (some false)) = some r := H
              have A7 := am A70
              clear A70
              by_cases c8 : t650 = true
              · subst c8
                have H1 : (laws_eqSymbolS.l0 k1 l0 l1 (wrap64 (x5_1 + 1))) = some r := by rw [if_pos rfl] at H; exact H
                clear H
                have H := H1
                clear H1
                have H' := am H
                clear H
                try go_wp2
                have n0_ := am (below_drew1 HB.out)
                clear HB; revert n0_; intro HB
                have p648 : 0 ≤ (x5_1 : Int) := of_decide_eq_true (by first | (with_reducible assumption) | assumption)
                have q648 : x5_1 < (l0.length : Int) := of_decide_eq_true (by first | (with_reducible assumption) | assumption)
                obtain ⟨ad648, e648, hx648_0, hx648_1⟩ := at_T110 HR0.out x5_1 p648 q648
                have hw648_1 := hx648_1
                have hw648_0 := hx648_0
                cases e648
                replace hx648_0 := (HB.out.cell (World.block_lt_of_cell? w _ hx648_0)).trans hx648_0
                replace hx648_1 := (HB.out.cell (World.block_lt_of_cell? w _ hx648_1)).trans hx648_1
                replace p648 := eq_true p648
                replace q648 := eq_true q648
                have p649 : 0 ≤ (x5_1 : Int) := of_decide_eq_true (by first | (with_reducible assumption) | assumption)
                have q649 : x5_1 < (l1.length : Int) := of_decide_eq_true (by first | (with_reducible assumption) | assumption)
                obtain ⟨ad649, e649, hx649_0, hx649_1⟩ := at_T110 HR1.out x5_1 p649 q649
                have hw649_1 := hx649_1
                have hw649_0 := hx649_0
                cases e649
                replace hx649_0 := (HB.out.cell (World.block_lt_of_cell? w _ hx649_0)).trans hx649_0
                replace hx649_1 := (HB.out.cell (World.block_lt_of_cell? w _ hx649_1)).trans hx649_1
                replace p649 := eq_true p649
                replace q649 := eq_true q649
                refine start_ (n := 10) (S := fun w' => w'.cell? (ad648.add ((x5_1).toNat * 2)) = some (.string ((rd_T110 l0 x5_1).f0)) ∧ w'.cell? ⟨(ad648.add ((x5_1).toNat * 2)).block, (ad648.add ((x5_1).toNat * 2)).off + 1, none⟩ = some (.int .i64 ((rd_T110 l0 x5_1).f1)) ∧ w'.cell? (ad649.add ((x5_1).toNat * 2)) = some (.string ((rd_T110 l1 x5_1).f0)) ∧ w'.cell? ⟨(ad649.add ((x5_1).toNat * 2)).block, (ad649.add ((x5_1).toNat * 2)).off + 1, none⟩ = some (.int .i64 ((rd_T110 l1 x5_1).f1))) (ds := []) #[false, false, false, false, false, false, false, false, false, false] (by kernel_rfl) rfl rfl ⟨((HB.out.cell (World.block_lt_of_cell? w _ hw648_0)).trans hw648_0), ((HB.out.cell (World.block_lt_of_cell? w _ hw648_1)).trans hw648_1), ((HB.out.cell (World.block_lt_of_cell? w _ hw649_0)).trans hw649_0), ((HB.out.cell (World.block_lt_of_cell? w _ hw649_1)).trans hw649_1)⟩ (fun hHeld => ?_); refine with_tabW laws_eqSymbolS.tab6 laws_eqSymbolS.bits6 (fun HT_ HW_ => ?_)
                generalize wr.drew = w9 at HB hx648_0 hx648_1 hx649_0 hx649_1 hHeld ⊢
                refine pure_ (i := 0) (N := some 17) (v := ?_) (a' := ?_) #[true, false, false, false, false, false, false, false, false, false] rfl rfl (any_of HT_.out (by kernel_rfl)) (fun _ _ _ h => h) (Or.inl ⟨by rfl, ?_⟩) ?_ ?_
                rotate_left
                · intro w'
                  go_simp
                  with_reducible rfl
                rotate_left
                · simp only [Act.put, lsp, i64_w, i32_w]
                  rfl
                refine pure_ (i := 1) (N := some 18) (v := ?_) (a' := ?_) #[true, true, false, false, false, false, false, false, false, false] rfl rfl (any_of HT_.out (by kernel_rfl)) (fun _ _ _ h => h) (Or.inl ⟨by rfl, ?_⟩) ?_ ?_
                rotate_left
                · intro w'
                  go_simp
                  with_reducible rfl
                rotate_left
                · simp only [Act.put, lsp, i64_w, i32_w]
                  rfl
                refine pure_ (i := 2) (N := some 19) (v := ?_) (a' := ?_) #[true, true, true, false, false, false, false, false, false, false] rfl rfl (any_of HT_.out (by kernel_rfl)) (fun _ _ _ h => h) (Or.inl ⟨by rfl, ?_⟩) ?_ ?_
                rotate_left
                · intro w'
                  go_simp
                  with_reducible rfl
                rotate_left
                · simp only [Act.put, lsp, i64_w, i32_w]
                  rfl
                refine pure_ (i := 4) (N := some 21) (v := ?_) (a' := ?_) #[true, true, true, false, true, false, false, false, false, false] rfl rfl (any_of HT_.out (by kernel_rfl)) (fun _ _ _ h => h) (Or.inl ⟨by rfl, ?_⟩) ?_ ?_
                rotate_left
                · intro w'
                  go_simp
                  with_reducible rfl
                rotate_left
                · simp only [Act.put, lsp, i64_w, i32_w]
                  rfl
                refine pure_ (i := 5) (N := some 22) (v := ?_) (a' := ?_) #[true, true, true, false, true, true, false, false, false, false] rfl rfl (any_of HT_.out (by kernel_rfl)) (fun _ _ _ h => h) (Or.inl ⟨by rfl, ?_⟩) ?_ ?_
                rotate_left
                · intro w'
                  go_simp
                  with_reducible rfl
                rotate_left
                · simp only [Act.put, lsp, i64_w, i32_w]
                  rfl
                refine pure_ (i := 6) (N := some 23) (v := ?_) (a' := ?_) #[true, true, true, false, true, true, true, false, false, false] rfl rfl (any_of HT_.out (by kernel_rfl)) (fun _ _ _ h => h) (Or.inl ⟨by rfl, ?_⟩) ?_ ?_
                rotate_left
                · intro w'
                  go_simp
                  with_reducible rfl
                rotate_left
                · simp only [Act.put, lsp, i64_w, i32_w]
                  rfl
                refine take_ (i := 3) (N := some 20) (v := ?_) (a' := ?_) #[true, true, true, true, true, true, true, false, false, false] rfl rfl (take_ofW HT_.out HW_.out (by kernel_rfl)) (fun _ _ _ h => h) (Or.inl ⟨by rfl, ?_⟩) hHeld ?_ ?_
                rotate_left
                · rintro w' ⟨s0, s1, s2, s3⟩
                  go_simp
                  with_reducible rfl
                rotate_left
                · simp only [Act.put, lsp, i64_w, i32_w]
                  rfl
                refine take_ (i := 7) (N := some 24) (v := ?_) (a' := ?_) #[true, true, true, true, true, true, true, true, false, false] rfl rfl (take_ofW HT_.out HW_.out (by kernel_rfl)) (fun _ _ _ h => h) (Or.inl ⟨by rfl, ?_⟩) hHeld ?_ ?_
                rotate_left
                · rintro w' ⟨s0, s1, s2, s3⟩
                  go_simp
                  with_reducible rfl
                rotate_left
                · simp only [Act.put, lsp, i64_w, i32_w]
                  rfl
                refine one_ (i := 8) (N := some 25) #[true, true, true, true, true, true, true, true, true, false] rfl rfl (one_of HT_.out (by kernel_rfl)) (by decide) (fun K hK => ?_)
                refine goes_ Tryd.func101 (by kernel_rfl) rfl #[.agg #[.string ((rd_T110 l0 x5_1).f0), .int .i64 ((rd_T110 l0 x5_1).f1)], .agg #[.string ((rd_T110 l1 x5_1).f0), .int .i64 ((rd_T110 l1 x5_1).f1)]] (by rfl) rfl rfl el ?_
                with_reducible refine (laws_eqSymbol.calls ((rd_T110 l0 x5_1).f0) ((rd_T110 l0 x5_1).f1) ((rd_T110 l1 x5_1).f0) ((rd_T110 l1 x5_1).f1) true _ A7.out).mono ?_
                rintro e w10 ⟨rfl, hb⟩
                refine ⟨_, rfl, ?_⟩
                have n0_ := am (below_step (hq HB.out) hb)
                clear HB; revert n0_; intro HB
                (try clear hb)
                (try clear hb2)
                (try clear hgw)
                (try clear hk)
                (try clear hi)
                refine hK.out _ _ ⟨((HB.out.cell (World.block_lt_of_cell? w _ hw648_0)).trans hw648_0), ((HB.out.cell (World.block_lt_of_cell? w _ hw648_1)).trans hw648_1), ((HB.out.cell (World.block_lt_of_cell? w _ hw649_0)).trans hw649_0), ((HB.out.cell (World.block_lt_of_cell? w _ hw649_1)).trans hw649_1)⟩ (fun hHeld => ?_)
                clear hK K
                refine norm_ (a' := ?_) ?_ ?_
                rotate_left
                · show Act.put _ (some 25) _ = _
                  simp only [Act.put, lsp, i64_w, i32_w]
                  rfl
                refine pure_ (i := 9) (N := some 26) (v := ?_) (a' := ?_) #[true, true, true, true, true, true, true, true, true, true] rfl rfl (any_of HT_.out (by kernel_rfl)) (fun _ _ _ h => h) (Or.inl ⟨by rfl, ?_⟩) ?_ ?_
                rotate_left
                · intro w'
                  go_simp
                  with_reducible rfl
                rotate_left
                · simp only [Act.put, lsp, i64_w, i32_w]
                  rfl
                refine done_ (done_of HT_.out (by kernel_rfl)) ?_
                try go_wp2
                go_roundg k1
                case measure => have := HK1.out; omega
                case rel => exact ⟨(wrap64 (x5_1 + 1)), (by first | rfl | (simp; done) | (simp [*]; done)), H', ⟨by have := HK1.out; omega⟩, ⟨by exact hq HB.out⟩⟩
              · replace c8 := Bool.eq_false_iff.mpr c8
                subst c8
                have H1 : (some false) = some r := by rw [if_neg (show ¬ (false = true) by decide)] at H; exact H
                clear H
                have H := H1
                clear H1
                obtain rfl := Option.some.inj H
                try go_wp2
                have n0_ := am (below_drew1 HB.out)
                clear HB; revert n0_; intro HB
                have p648 : 0 ≤ (x5_1 : Int) := of_decide_eq_true (by first | (with_reducible assumption) | assumption)
                have q648 : x5_1 < (l0.length : Int) := of_decide_eq_true (by first | (with_reducible assumption) | assumption)
                obtain ⟨ad648, e648, hx648_0, hx648_1⟩ := at_T110 HR0.out x5_1 p648 q648
                have hw648_1 := hx648_1
                have hw648_0 := hx648_0
                cases e648
                replace hx648_0 := (HB.out.cell (World.block_lt_of_cell? w _ hx648_0)).trans hx648_0
                replace hx648_1 := (HB.out.cell (World.block_lt_of_cell? w _ hx648_1)).trans hx648_1
                replace p648 := eq_true p648
                replace q648 := eq_true q648
                have p649 : 0 ≤ (x5_1 : Int) := of_decide_eq_true (by first | (with_reducible assumption) | assumption)
                have q649 : x5_1 < (l1.length : Int) := of_decide_eq_true (by first | (with_reducible assumption) | assumption)
                obtain ⟨ad649, e649, hx649_0, hx649_1⟩ := at_T110 HR1.out x5_1 p649 q649
                have hw649_1 := hx649_1
                have hw649_0 := hx649_0
                cases e649
                replace hx649_0 := (HB.out.cell (World.block_lt_of_cell? w _ hx649_0)).trans hx649_0
                replace hx649_1 := (HB.out.cell (World.block_lt_of_cell? w _ hx649_1)).trans hx649_1
                replace p649 := eq_true p649
                replace q649 := eq_true q649
                refine start_ (n := 10) (S := fun w' => w'.cell? (ad648.add ((x5_1).toNat * 2)) = some (.string ((rd_T110 l0 x5_1).f0)) ∧ w'.cell? ⟨(ad648.add ((x5_1).toNat * 2)).block, (ad648.add ((x5_1).toNat * 2)).off + 1, none⟩ = some (.int .i64 ((rd_T110 l0 x5_1).f1)) ∧ w'.cell? (ad649.add ((x5_1).toNat * 2)) = some (.string ((rd_T110 l1 x5_1).f0)) ∧ w'.cell? ⟨(ad649.add ((x5_1).toNat * 2)).block, (ad649.add ((x5_1).toNat * 2)).off + 1, none⟩ = some (.int .i64 ((rd_T110 l1 x5_1).f1))) (ds := []) #[false, false, false, false, false, false, false, false, false, false] (by kernel_rfl) rfl rfl ⟨((HB.out.cell (World.block_lt_of_cell? w _ hw648_0)).trans hw648_0), ((HB.out.cell (World.block_lt_of_cell? w _ hw648_1)).trans hw648_1), ((HB.out.cell (World.block_lt_of_cell? w _ hw649_0)).trans hw649_0), ((HB.out.cell (World.block_lt_of_cell? w _ hw649_1)).trans hw649_1)⟩ (fun hHeld => ?_); refine with_tabW laws_eqSymbolS.tab6 laws_eqSymbolS.bits6 (fun HT_ HW_ => ?_)
                generalize wr.drew = w11 at HB hx648_0 hx648_1 hx649_0 hx649_1 hHeld ⊢
                refine pure_ (i := 0) (N := some 17) (v := ?_) (a' := ?_) #[true, false, false, false, false, false, false, false, false, false] rfl rfl (any_of HT_.out (by kernel_rfl)) (fun _ _ _ h => h) (Or.inl ⟨by rfl, ?_⟩) ?_ ?_
                rotate_left
                · intro w'
                  go_simp
                  with_reducible rfl
                rotate_left
                · simp only [Act.put, lsp, i64_w, i32_w]
                  rfl
                refine pure_ (i := 1) (N := some 18) (v := ?_) (a' := ?_) #[true, true, false, false, false, false, false, false, false, false] rfl rfl (any_of HT_.out (by kernel_rfl)) (fun _ _ _ h => h) (Or.inl ⟨by rfl, ?_⟩) ?_ ?_
                rotate_left
                · intro w'
                  go_simp
                  with_reducible rfl
                rotate_left
                · simp only [Act.put, lsp, i64_w, i32_w]
                  rfl
                refine pure_ (i := 2) (N := some 19) (v := ?_) (a' := ?_) #[true, true, true, false, false, false, false, false, false, false] rfl rfl (any_of HT_.out (by kernel_rfl)) (fun _ _ _ h => h) (Or.inl ⟨by rfl, ?_⟩) ?_ ?_
                rotate_left
                · intro w'
                  go_simp
                  with_reducible rfl
                rotate_left
                · simp only [Act.put, lsp, i64_w, i32_w]
                  rfl
                refine pure_ (i := 4) (N := some 21) (v := ?_) (a' := ?_) #[true, true, true, false, true, false, false, false, false, false] rfl rfl (any_of HT_.out (by kernel_rfl)) (fun _ _ _ h => h) (Or.inl ⟨by rfl, ?_⟩) ?_ ?_
                rotate_left
                · intro w'
                  go_simp
                  with_reducible rfl
                rotate_left
                · simp only [Act.put, lsp, i64_w, i32_w]
                  rfl
                refine pure_ (i := 5) (N := some 22) (v := ?_) (a' := ?_) #[true, true, true, false, true, true, false, false, false, false] rfl rfl (any_of HT_.out (by kernel_rfl)) (fun _ _ _ h => h) (Or.inl ⟨by rfl, ?_⟩) ?_ ?_
                rotate_left
                · intro w'
                  go_simp
                  with_reducible rfl
                rotate_left
                · simp only [Act.put, lsp, i64_w, i32_w]
                  rfl
                refine pure_ (i := 6) (N := some 23) (v := ?_) (a' := ?_) #[true, true, true, false, true, true, true, false, false, false] rfl rfl (any_of HT_.out (by kernel_rfl)) (fun _ _ _ h => h) (Or.inl ⟨by rfl, ?_⟩) ?_ ?_
                rotate_left
                · intro w'
                  go_simp
                  with_reducible rfl
                rotate_left
                · simp only [Act.put, lsp, i64_w, i32_w]
                  rfl
                refine take_ (i := 3) (N := some 20) (v := ?_) (a' := ?_) #[true, true, true, true, true, true, true, false, false, false] rfl rfl (take_ofW HT_.out HW_.out (by kernel_rfl)) (fun _ _ _ h => h) (Or.inl ⟨by rfl, ?_⟩) hHeld ?_ ?_
                rotate_left
                · rintro w' ⟨s0, s1, s2, s3⟩
                  go_simp
                  with_reducible rfl
                rotate_left
                · simp only [Act.put, lsp, i64_w, i32_w]
                  rfl
                refine take_ (i := 7) (N := some 24) (v := ?_) (a' := ?_) #[true, true, true, true, true, true, true, true, false, false] rfl rfl (take_ofW HT_.out HW_.out (by kernel_rfl)) (fun _ _ _ h => h) (Or.inl ⟨by rfl, ?_⟩) hHeld ?_ ?_
                rotate_left
                · rintro w' ⟨s0, s1, s2, s3⟩
                  go_simp
                  with_reducible rfl
                rotate_left
                · simp only [Act.put, lsp, i64_w, i32_w]
                  rfl
                refine one_ (i := 8) (N := some 25) #[true, true, true, true, true, true, true, true, true, false] rfl rfl (one_of HT_.out (by kernel_rfl)) (by decide) (fun K hK => ?_)
                refine goes_ Tryd.func101 (by kernel_rfl) rfl #[.agg #[.string ((rd_T110 l0 x5_1).f0), .int .i64 ((rd_T110 l0 x5_1).f1)], .agg #[.string ((rd_T110 l1 x5_1).f0), .int .i64 ((rd_T110 l1 x5_1).f1)]] (by rfl) rfl rfl el ?_
                with_reducible refine (laws_eqSymbol.calls ((rd_T110 l0 x5_1).f0) ((rd_T110 l0 x5_1).f1) ((rd_T110 l1 x5_1).f0) ((rd_T110 l1 x5_1).f1) false _ A7.out).mono ?_
                rintro e w12 ⟨rfl, hb⟩
                refine ⟨_, rfl, ?_⟩
                have n0_ := am (below_step (hq HB.out) hb)
                clear HB; revert n0_; intro HB
                (try clear hb)
                (try clear hb2)
                (try clear hgw)
                (try clear hk)
                (try clear hi)
                refine hK.out _ _ ⟨((HB.out.cell (World.block_lt_of_cell? w _ hw648_0)).trans hw648_0), ((HB.out.cell (World.block_lt_of_cell? w _ hw648_1)).trans hw648_1), ((HB.out.cell (World.block_lt_of_cell? w _ hw649_0)).trans hw649_0), ((HB.out.cell (World.block_lt_of_cell? w _ hw649_1)).trans hw649_1)⟩ (fun hHeld => ?_)
                clear hK K
                refine norm_ (a' := ?_) ?_ ?_
                rotate_left
                · show Act.put _ (some 25) _ = _
                  simp only [Act.put, lsp, i64_w, i32_w]
                  rfl
                refine pure_ (i := 9) (N := some 26) (v := ?_) (a' := ?_) #[true, true, true, true, true, true, true, true, true, true] rfl rfl (any_of HT_.out (by kernel_rfl)) (fun _ _ _ h => h) (Or.inl ⟨by rfl, ?_⟩) ?_ ?_
                rotate_left
                · intro w'
                  go_simp
                  with_reducible rfl
                rotate_left
                · simp only [Act.put, lsp, i64_w, i32_w]
                  rfl
                refine done_ (done_of HT_.out (by kernel_rfl)) ?_
                try go_wp2
                go_ret
                exact ⟨by first | rfl | (simp [errW_none, errW_some] <;> rfl) | (simp [*, errW_none, errW_some] <;> rfl), by exact hq HB.out⟩
            · rw [if_neg c6] at H
              exact absurd H (by simp)
          · rw [if_neg c5] at H
            exact absurd H (by simp)
        · rw [if_neg c4] at H
          have c4b0 : decide (x5_1 < (l0.length : Int)) = false := decide_eq_false c4
          clear c4
          obtain rfl := Option.some.inj H
          go_wp2
          go_ret
          exact ⟨by first | rfl | (simp [errW_none, errW_some] <;> rfl) | (simp [*, errW_none, errW_some] <;> rfl), by exact hq HB.out⟩
  · rw [if_neg c3] at H
    have c3b0 : ((l0.length : Int) == (l1.length : Int)) = false := beq_eq_false_iff_ne.mpr c3
    have c3b1 : ((l0.length : Int) != (l1.length : Int)) = true := bne_iff_ne.mpr c3
    have c3b2 : (l0.length == l1.length) = false := by first | simpa using c3 | (simp at c3 ⊢; omega)
    obtain rfl := Option.some.inj H
    go_enter Tryd.func62, Tryd.ntmps62
    go_wp2
    go_ret
    exact ⟨by first | rfl | (simp [errW_none, errW_some] <;> rfl) | (simp [*, errW_none, errW_some] <;> rfl), by exact hq HB.out⟩
def laws_eqSignature.f (k : Nat) (l0_0 : List (S110)) (l1_0 : List (S110)) : Option (Bool) := (laws_eqSymbolS.f k l0_0 l1_0).bind fun t653 => (if t653 = true then (some true) else (some false))
set_option maxHeartbeats 8000000 in
set_option maxRecDepth 100000 in
theorem laws_eqSignature.calls (k : Nat) (A0_0 : Option Addr) (c0_0 : Nat) (l0_0 : List (S110)) (A1_0 : Option Addr) (c1_0 : Nat) (l1_0 : List (S110)) (r : Bool) (w : World) (hr0_0 : Kd.C k110 w A0_0 l0_0.length l0_0) (hc0_0 : l0_0.length ≤ c0_0) (hr1_0 : Kd.C k110 w A1_0 l1_0.length l1_0) (hc1_0 : l1_0.length ≤ c1_0) (h : laws_eqSignature.f k l0_0 l1_0 = some r) :
    Calls Tryd.prog 24 #[.agg #[.slice A0_0 l0_0.length c0_0], .agg #[.slice A1_0 l1_0.length c1_0]] w fun e w' => e = .returned (.bool r) ∧ Below w.heap.size w w' := by
  have hu26 := Tryd.underlying26
  have HR0_0 := am hr0_0
  have HC0_0 := am hc0_0
  clear hr0_0 hc0_0
  have HR1_0 := am hr1_0
  have HC1_0 := am hc1_0
  clear hr1_0 hc1_0
  have HB := am (Below.refl w.heap.size w)
  have H : ((laws_eqSymbolS.f k l0_0 l1_0).bind fun t653 => (if t653 = true then (some true) else (some false))) = some r := h
  clear h
  replace H := Option.bind_eq_some_iff.mp H
  obtain ⟨t653, A30, H⟩ := H
  replace H : (if t653 = true then (some true) else (some false)) = some r := H
  have A3 := am A30
  clear A30
  by_cases c4 : t653 = true
  · subst c4
    have H1 : (some true) = some r := by rw [if_pos rfl] at H; exact H
    clear H
    have H := H1
    clear H1
    obtain rfl := Option.some.inj H
    go_enter Tryd.func24, Tryd.ntmps24
    go_wp2_with (first | ((with_reducible refine gate_dst (N := 2) rfl ?_); refine box_event ?hg (N := 2) ?hd (cs := #[.slice A0_0 l0_0.length c0_0]) (t := 26) ?hr ?_; (case hd => rfl); (case hg => rfl); (case hr => first | (go_simp; done) | (go_simp; rfl)); intro gb651 hg w5 hbox hb; have n0_ := am (below_step (hq HB.out) hb); have n1_ := am (hbox); have n2_ := am (bz hg (hq HB.out)); have n3_ := n2_; clear HB; revert n0_ n1_ n2_ n3_; intro HB BK651 GW651 GE651; clear hb hbox hg) | ((with_reducible refine gate_dst (N := 3) rfl ?_); refine box_event ?hg (N := 3) ?hd (cs := #[.slice A1_0 l1_0.length c1_0]) (t := 26) ?hr ?_; (case hd => rfl); (case hg => rfl); (case hr => first | (go_simp; done) | (go_simp; rfl)); intro gb652 hg w6 hbox hb; have n0_ := am (blk_below (bq BK651.out) hb); have n1_ := am (below_step (hs HB.out) hb); have n2_ := am (hbox); have n3_ := am (bz hg (hs HB.out)); have n4_ := n3_; have n5_ := am ((by rw [hg]; exact Nat.ne_of_lt (blk_lt (bq BK651.out)) : gb651 ≠ gb652)); have n6_ := am ((by rw [hg]; exact Nat.ne_of_gt (blk_lt (bq BK651.out)) : gb652 ≠ gb651)); clear BK651 HB; revert n0_ n1_ n2_ n3_ n4_ n5_ n6_; intro BK651 HB BK652 GW652 GE652 NB651_652 NB652_651; clear hb hbox hg; have hnb7 := NB651_652.out; have hnc7 := NB652_651.out; have hcz8_0 : w6.cell? ⟨gb651, 0, none⟩ = some (.slice A0_0 l0_0.length c0_0) := (blk_cell BK651.out 0).trans rfl; have hfz8_0 := blk_frozen BK651.out 0; have hcz9_0 : w6.cell? ⟨gb652, 0, none⟩ = some (.slice A1_0 l1_0.length c1_0) := (blk_cell BK652.out 0).trans rfl; have hfz9_0 := blk_frozen BK652.out 0) | ((with_reducible refine gate_callee (f := 62) rfl ?_); refine goesL_ (some 9) rfl rfl Tryd.func62 (by kernel_rfl) rfl #[.slice A0_0 l0_0.length c0_0, .slice A1_0 l1_0.length c1_0] rfl el ?_; (with_reducible refine (laws_eqSymbolS.calls k _ _ l0_0 _ _ l1_0 true _ ?side1 ?side2 ?side3 ?side4 A3.out).mono ?_); (case side1 => exact cq (Kd.C_below HR0_0.out HB.out)); (case side2 => exact HC0_0.out); (case side3 => exact cq (Kd.C_below HR1_0.out HB.out)); (case side4 => exact HC1_0.out); rintro e w10 ⟨rfl, hb⟩; refine ⟨_, rfl, ?_⟩; have n0_ := am (blk_below (bq BK651.out) hb); have n1_ := am (blk_below (bq BK652.out) hb); have n2_ := am (below_step (hs HB.out) hb); clear BK651 BK652 HB; revert n0_ n1_ n2_; intro BK651 BK652 HB; (try clear hb); (try clear hb2); (try clear hgw); (try clear hk); (try clear hi)))
    go_ret
    exact ⟨by first | rfl | (simp [errW_none, errW_some] <;> rfl) | (simp [*, errW_none, errW_some] <;> rfl), by exact hs HB.out⟩
  · replace c4 := Bool.eq_false_iff.mpr c4
    subst c4
    have H1 : (some false) = some r := by rw [if_neg (show ¬ (false = true) by decide)] at H; exact H
    clear H
    have H := H1
    clear H1
    obtain rfl := Option.some.inj H
    go_enter Tryd.func24, Tryd.ntmps24
    go_wp2_with (first | ((with_reducible refine gate_dst (N := 2) rfl ?_); refine box_event ?hg (N := 2) ?hd (cs := #[.slice A0_0 l0_0.length c0_0]) (t := 26) ?hr ?_; (case hd => rfl); (case hg => rfl); (case hr => first | (go_simp; done) | (go_simp; rfl)); intro gb651 hg w11 hbox hb; have n0_ := am (below_step (hq HB.out) hb); have n1_ := am (hbox); have n2_ := am (bz hg (hq HB.out)); have n3_ := n2_; clear HB; revert n0_ n1_ n2_ n3_; intro HB BK651 GW651 GE651; clear hb hbox hg) | ((with_reducible refine gate_dst (N := 3) rfl ?_); refine box_event ?hg (N := 3) ?hd (cs := #[.slice A1_0 l1_0.length c1_0]) (t := 26) ?hr ?_; (case hd => rfl); (case hg => rfl); (case hr => first | (go_simp; done) | (go_simp; rfl)); intro gb652 hg w12 hbox hb; have n0_ := am (blk_below (bq BK651.out) hb); have n1_ := am (below_step (hs HB.out) hb); have n2_ := am (hbox); have n3_ := am (bz hg (hs HB.out)); have n4_ := n3_; have n5_ := am ((by rw [hg]; exact Nat.ne_of_lt (blk_lt (bq BK651.out)) : gb651 ≠ gb652)); have n6_ := am ((by rw [hg]; exact Nat.ne_of_gt (blk_lt (bq BK651.out)) : gb652 ≠ gb651)); clear BK651 HB; revert n0_ n1_ n2_ n3_ n4_ n5_ n6_; intro BK651 HB BK652 GW652 GE652 NB651_652 NB652_651; clear hb hbox hg; have hnb13 := NB651_652.out; have hnc13 := NB652_651.out; have hcz14_0 : w12.cell? ⟨gb651, 0, none⟩ = some (.slice A0_0 l0_0.length c0_0) := (blk_cell BK651.out 0).trans rfl; have hfz14_0 := blk_frozen BK651.out 0; have hcz15_0 : w12.cell? ⟨gb652, 0, none⟩ = some (.slice A1_0 l1_0.length c1_0) := (blk_cell BK652.out 0).trans rfl; have hfz15_0 := blk_frozen BK652.out 0) | ((with_reducible refine gate_callee (f := 62) rfl ?_); refine goesL_ (some 9) rfl rfl Tryd.func62 (by kernel_rfl) rfl #[.slice A0_0 l0_0.length c0_0, .slice A1_0 l1_0.length c1_0] rfl el ?_; (with_reducible refine (laws_eqSymbolS.calls k _ _ l0_0 _ _ l1_0 false _ ?side1 ?side2 ?side3 ?side4 A3.out).mono ?_); (case side1 => exact cq (Kd.C_below HR0_0.out HB.out)); (case side2 => exact HC0_0.out); (case side3 => exact cq (Kd.C_below HR1_0.out HB.out)); (case side4 => exact HC1_0.out); rintro e w16 ⟨rfl, hb⟩; refine ⟨_, rfl, ?_⟩; have n0_ := am (blk_below (bq BK651.out) hb); have n1_ := am (blk_below (bq BK652.out) hb); have n2_ := am (below_step (hs HB.out) hb); clear BK651 BK652 HB; revert n0_ n1_ n2_; intro BK651 BK652 HB; (try clear hb); (try clear hb2); (try clear hgw); (try clear hk); (try clear hi)))
    go_ret
    exact ⟨by first | rfl | (simp [errW_none, errW_some] <;> rfl) | (simp [*, errW_none, errW_some] <;> rfl), by exact hs HB.out⟩
def laws_markText.l0 : Nat → Int → ByteArray → Option (ByteArray)
  | 0, _, _ => none
  | k + 1, x0, x3 => if x0 > 0 then ((some (([(wrap64 (48 + (Int.tmod x0 10))) % 256] : List Int) : List Int)).bind fun y654 => (if (strOfNums y654).size + x3.size ≤ 9223372036854775807 then (laws_markText.l0 k (wrap64 (Int.tdiv x0 10)) ((strOfNums y654) ++ x3)) else (none))) else (if 1 + x3.size ≤ 9223372036854775807 then (some ((⟨#[109]⟩ : ByteArray) ++ x3)) else (none))
def laws_markText.f (k : Nat) (a0 : Int) : Option (ByteArray) := if a0 ≤ 0 then (some (⟨#[109, 48]⟩ : ByteArray)) else (laws_markText.l0 k a0 (⟨#[]⟩ : ByteArray))
set_option maxHeartbeats 8000000 in
set_option maxRecDepth 100000 in
theorem laws_markText.calls (k : Nat) (a0 : Int) (r : ByteArray) (w : World) (h : laws_markText.f k a0 = some r) :
    Calls Tryd.prog 102 #[.int .i64 a0] w fun e w' => e = .returned (.string r) ∧ Below w.heap.size w w' := by
  have HB := am (Below.refl w.heap.size w)
  have H : (if a0 ≤ 0 then (some (⟨#[109, 48]⟩ : ByteArray)) else (laws_markText.l0 k a0 (⟨#[]⟩ : ByteArray))) = some r := h
  clear h
  by_cases c2 : a0 ≤ 0
  · rw [if_pos c2] at H
    have c2b0 : decide (a0 ≤ 0) = true := decide_eq_true c2
    clear c2
    obtain rfl := Option.some.inj H
    go_enter Tryd.func102, Tryd.ntmps102
    go_wp2
    go_ret
    exact ⟨by first | rfl | (simp [errW_none, errW_some] <;> rfl) | (simp [*, errW_none, errW_some] <;> rfl), by exact hq HB.out⟩
  · rw [if_neg c2] at H
    have c2b0 : decide (a0 ≤ 0) = false := decide_eq_false c2
    clear c2
    have H' := am H
    clear H
    go_enter Tryd.func102, Tryd.ntmps102
    go_wp2
    go_loopg [0, 3] k (fun kq v0 v3 w' => ∃ (x0_1 : Int) (x3_1 : ByteArray), v0 = .int .i64 x0_1 ∧ v3 = .string x3_1 ∧ Aside0 (laws_markText.l0 kq x0_1 x3_1 = some r) ∧ Aside0 (kq ≤ k) ∧ Aside0 (Below w.heap.size w w'))
    case atStart => exact ⟨(a0), ((⟨#[]⟩ : ByteArray)), (by first | rfl | (simp; done) | (simp [*]; done)), (by first | rfl | (simp; done) | (simp [*]; done)), H', ⟨Nat.le_refl _⟩, ⟨by exact hq HB.out⟩⟩
    case round =>
      clear H'
      try clear c1; try clear c2; try clear c2b0; try clear p2
      obtain ⟨x0_1, x3_1, rfl, rfl, HA, HK1, HB⟩ := hrel
      cases gk with
      | zero => exact absurd HA.out (by simp [laws_markText.l0])
      | succ k1 =>
        have H := HA.out
        clear HA
        simp only [laws_markText.l0] at H
        by_cases c3 : x0_1 > 0
        · rw [if_pos c3] at H
          have c3b0 : decide (0 < x0_1) = true := decide_eq_true c3
          clear c3
          obtain ⟨y654, hy654⟩ : ∃ y_ : List Int, y_ = (([(wrap64 (48 + (Int.tmod x0_1 10))) % 256] : List Int)) := ⟨_, rfl⟩
          replace H : (if (strOfNums y654).size + x3_1.size ≤ 9223372036854775807 then (laws_markText.l0 k1 (wrap64 (Int.tdiv x0_1 10)) ((strOfNums y654) ++ x3_1)) else (none)) = some r := by first | (rw [hy654]; with_reducible exact H) | (have H2_ := (Option.bind_some _ _).symm.trans H; rw [hy654]; with_reducible exact H2_) | (have H2_ := (Option.bind_some _ _).symm.trans H; with_reducible exact H2_) | with_reducible exact H | (rw [hy654]; exact H) | exact H
          have Ny654 := am hy654
          clear hy654
          by_cases c4 : (strOfNums y654).size + x3_1.size ≤ 9223372036854775807
          · rw [if_pos c4] at H
            have c4b0 := eq_true c4
            have c4b1 : decide ((strOfNums y654).size + x3_1.size ≤ 9223372036854775807) = true := decide_eq_true c4
            try have c4b2 : (9223372036854775807 < (strOfNums y654).size + x3_1.size) = False := eq_false (Nat.not_lt.2 c4)
            have H' := am H
            clear H
            go_wp2_with (first | ((with_reducible refine gate_dst (N := 12) rfl ?_); refine Kd.R_lit (Kd.int .u8) _ 5 ?hg (N := 12) ?hd (xs := ([(wrap64 (48 + (Int.tmod x0_1 10))) % 256] : List Int)) (inner := [.int .u8 ((wrap64 (48 + (Int.tmod x0_1 10))) % 256)]) (ok := fun _ => True) (okp := fun _ => True) ?hr ?hp (fun _ hk => hk) trivial (Below.refl _ _) (Nat.le_refl _) (by simp) ?_; (case hd => rfl); (case hg => rfl); (case hr => first | (go_simp; done) | (go_simp; rfl)); (case hp => exact (Reps.one (show Kd.M (Kd.int .u8) _ _ _ ((wrap64 (48 + (Int.tmod x0_1 10))) % 256) [.int .u8 ((wrap64 (48 + (Int.tmod x0_1 10))) % 256)] from rfl) (Reps.none _ _))); intro v655 w5 ho6 hb hg_ hnew_; clear hg_ hnew_; (first | rw [← Ny654.out] at ho6 | (simp only [Int.reduceToNat] at ho6; rw [← Ny654.out] at ho6)); have n0_ := am (Kd.R_lower ho6 (below_size (hq HB.out))); have n1_ := am (below_step (hq HB.out) hb); clear HB; revert n0_ n1_; intro HO656 HB; clear hb ho6; have hcv7 := own_string (P := Tryd.prog) Tryd.underlying22 Tryd.underlying5 Tryd.underlying9 (Kd.own_of_R HO656.out)))
            go_roundg k1
            case measure => have := HK1.out; omega
            case rel => exact ⟨(wrap64 (Int.tdiv x0_1 10)), ((strOfNums y654) ++ x3_1), (by first | rfl | (simp; done) | (simp [*]; done)), (by first | rfl | (simp; done) | (simp [*]; done)), H', ⟨by have := HK1.out; omega⟩, ⟨by exact hq HB.out⟩⟩
          · rw [if_neg c4] at H
            exact absurd H (by simp)
        · rw [if_neg c3] at H
          have c3b0 : decide (0 < x0_1) = false := decide_eq_false c3
          clear c3
          by_cases c8 : 1 + x3_1.size ≤ 9223372036854775807
          · rw [if_pos c8] at H
            have c8b0 := eq_true c8
            have c8b1 : decide (1 + x3_1.size ≤ 9223372036854775807) = true := decide_eq_true c8
            try have c8b2 : (9223372036854775807 < 1 + x3_1.size) = False := eq_false (Nat.not_lt.2 c8)
            obtain rfl := Option.some.inj H
            go_wp2
            go_ret
            exact ⟨by first | rfl | (simp [errW_none, errW_some] <;> rfl) | (simp [*, errW_none, errW_some] <;> rfl), by exact hq HB.out⟩
          · rw [if_neg c8] at H
            exact absurd H (by simp)
end Go.Proofs.YtcanokiehjjbgaaDoor.P
