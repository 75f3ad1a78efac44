/- A part of the proof of the law FnExactGreatestOf. -/
import Derived.Laws.StructEq
import Derived.Test.YtgichahebemmiaaDoorCFnExactGreatestOf0
import Derived.Test.YtgichahebemmiaaDoorCFnExactGreatestOf1
import Derived.Test.YtgichahebemmiaaDoorCFnExactGreatestOf2
import Derived.Test.YtgichahebemmiaaDoorCFnExactGreatestOf15
namespace Go.Proofs.YtgichahebemmiaaDoor.P
open Go.RowKit Go.Proofs.YtgichahebemmiaaDoorW.PrintWords Go.Proofs.YtgichahebemmiaaDoorW.PrintLast Go.Proofs.YtgichahebemmiaaDoorW.PrintMore
attribute [local go_sem] Ae6 Ae5 Af7 Af8 Ad9 Ad8 Ae4 Ae3   -- for this text's walks alone
set_option linter.unusedVariables false
set_option linter.unusedSimpArgs false
def spec_l7Starts.l0 : Nat → List (S32) → List Int → Int → List Int → Int → Int → Option (List Int)
 | 0, _, _, _, _, _, _ => none
 | k + 1, x0, x1, x2, x7, x8, x9 => if 0 < (x0.length : Int) then (if 0 ≤ x2 then (if x2 < (x1.length : Int) then (if 0 ≤ (rd x1 x2) then (if (rd x1 x2) < (((Ad2 x0 0).f0).length : Int) then (if x9 < ((Ab4 ((Ad2 x0 0).f0) (rd x1 x2)).f1) then (if x7.length < 17592186044416 then ((spec_l3End.f k x0 x1 x8).bind fun t148 => (spec_l7Starts.l0 k x0 x1 x2 (x7 ++ [x8]) t148 (wrap64 (x9 + 1)))) else (none)) else (some x7)) else (none)) else (none)) else (none)) else (none)) else (none)
def spec_l7Starts.f (k : Nat) (l0 : List (S32)) (l1 : List Int) (a2 : Int) : Option (List Int) := spec_l7Starts.l0 k l0 l1 a2 (([] : List Int)) (wrap64 (a2 + 1)) 0
set_option maxHeartbeats 8000000 in
set_option maxRecDepth 100000 in
theorem spec_l7Starts.calls (k : Nat) (A0 : Option Addr) (l0 : List (S32)) (A1 : Option Addr) (c1 : Nat) (l1 : List Int) (a2 : Int) (r : List Int) (w : World) (hr0 : Kd.C k32 w A0 l0.length l0) (hr1 : Kd.C (Kd.int .i64) w A1 l1.length l1) (hc1 : l1.length ≤ c1) (h : spec_l7Starts.f k l0 l1 a2 = some r) :
  Calls Tryd.prog 73 #[.pointer A0, .slice A1 l1.length c1, .int .i64 a2] w fun e w' => ∃ v0_ : Value, e = .returned (v0_) ∧ Kd.R (Kd.int .i64) 2 w' w.heap.size (fun _ => True) v0_ r ∧ Below w.heap.size w w' := by
 have HR0 := am hr0
 clear hr0
 have HR1 := am hr1
 have HC1 := am hc1
 clear hr1 hc1
 have HB := am (Below.refl w.heap.size w)
 have H : (spec_l7Starts.l0 k l0 l1 a2 (([] : List Int)) (wrap64 (a2 + 1)) 0) = some r := h
 clear h
 obtain ⟨y138, hy138⟩ : ∃ y_ : List Int, y_ = (([] : List Int)) := ⟨_, rfl⟩
 replace H : (spec_l7Starts.l0 k l0 l1 a2 y138 (wrap64 (a2 + 1)) 0) = some r := by first | (rw [hy138]; with_reducible exact H) | (have H2_ := (Option.bind_some _ _).symm.trans H; rw [hy138]; with_reducible exact H2_) | (have H2_ := (Option.bind_some _ _).symm.trans H; with_reducible exact H2_) | with_reducible exact H | (rw [hy138]; exact H) | exact H
 have Ny138 := am hy138
 clear hy138
 have H' := am H
 clear H
 go_enter Tryd.func73, Tryd.ntmps73
 go_wp2_with (first | ((with_reducible refine Ab6 (N := 10) rfl ?_); refine Kd.R_lit (Kd.int .i64) _ 2 ?hg (N := 10) ?hd (xs := ([] : List Int)) (inner := []) (ok := fun _ => True) (okp := fun _ => True) ?hr ?hp (fun _ hk => hk) trivial (Below.refl _ _) (Nat.le_refl _) (by simp) ?_; (case hd => rfl); (case hg => rfl); (case hr => first | (go_simp; done) | (go_simp; rfl)); (case hp => exact (Ah6.none _ _)); intro v139 w4 ho5 hb hg_ hnew_; clear hg_ hnew_; (first | rw [← Ny138.out] at ho5 | (simp only [Int.reduceToNat] at ho5; rw [← Ny138.out] at ho5)); have n0_ := am (Kd.R_lower ho5 (Ac3 (hq HB.out))); have n1_ := am (Aa2 (hq HB.out) hb); clear HB; revert n0_ n1_; intro HO140 HB; clear hb ho5))
 repeat (go_quiet (first | ((with_reducible refine Ab6 (N := 10) rfl ?_); refine Kd.R_lit (Kd.int .i64) _ 2 ?hg (N := 10) ?hd (xs := ([] : List Int)) (inner := []) (ok := fun _ => True) (okp := fun _ => True) ?hr ?hp (fun _ hk => hk) trivial (Below.refl _ _) (Nat.le_refl _) (by simp) ?_; (case hd => rfl); (case hg => rfl); (case hr => first | (go_simp; done) | (go_simp; rfl)); (case hp => exact (Ah6.none _ _)); intro v139 w4 ho5 hb hg_ hnew_; clear hg_ hnew_; (first | rw [← Ny138.out] at ho5 | (simp only [Int.reduceToNat] at ho5; rw [← Ny138.out] at ho5)); have n0_ := am (Kd.R_lower ho5 (Ac3 (hq HB.out))); have n1_ := am (Aa2 (hq HB.out) hb); clear HB; revert n0_ n1_; intro HO140 HB; clear hb ho5)); try go_wp2_with (first | ((with_reducible refine Ab6 (N := 10) rfl ?_); refine Kd.R_lit (Kd.int .i64) _ 2 ?hg (N := 10) ?hd (xs := ([] : List Int)) (inner := []) (ok := fun _ => True) (okp := fun _ => True) ?hr ?hp (fun _ hk => hk) trivial (Below.refl _ _) (Nat.le_refl _) (by simp) ?_; (case hd => rfl); (case hg => rfl); (case hr => first | (go_simp; done) | (go_simp; rfl)); (case hp => exact (Ah6.none _ _)); intro v139 w4 ho5 hb hg_ hnew_; clear hg_ hnew_; (first | rw [← Ny138.out] at ho5 | (simp only [Int.reduceToNat] at ho5; rw [← Ny138.out] at ho5)); have n0_ := am (Kd.R_lower ho5 (Ac3 (hq HB.out))); have n1_ := am (Aa2 (hq HB.out) hb); clear HB; revert n0_ n1_; intro HO140 HB; clear hb ho5)))
 go_loopg [7, 8, 9] k (fun kq v7 v8 v9 w' => ∃ (x7_1 : List Int) (x8_1 : Int) (x9_1 : Int), v8 = .int .i64 x8_1 ∧ v9 = .int .i64 x9_1 ∧ Aside0 (spec_l7Starts.l0 kq l0 l1 a2 x7_1 x8_1 x9_1 = some r) ∧ Aside0 (kq ≤ k) ∧ Aside0 (Kd.R (Kd.int .i64) 2 w' w.heap.size (fun _ => True) v7 x7_1) ∧ Aside0 (Below w.heap.size w w'))
 case atStart => exact ⟨(y138), (wrap64 (a2 + 1)), (0), (by first | rfl | (simp; done) | (simp [*]; done)), (by first | rfl | (simp; done) | (simp [*]; done)), H', ⟨Nat.le_refl _⟩, ⟨by (with_reducible repeat (first | apply Kd.R_alloc | apply Kd.R_drewN | apply Kd.R_drew)); exact HO140.out⟩, ⟨by exact hq HB.out⟩⟩
 case round =>
  clear H'
  try clear c1; try clear p2
  obtain ⟨x7_1, x8_1, x9_1, rfl, rfl, HA, HK1, HO_7, HB⟩ := hrel
  cases gk with
  | zero => exact absurd HA.out (by simp [spec_l7Starts.l0])
  | succ k1 =>
   have H := HA.out
   clear HA
   simp only [spec_l7Starts.l0] at H
   by_cases c6 : 0 < (l0.length : Int)
   ·rw [if_pos c6] at H
    have c6b0 : decide (0 < (l0.length : Int)) = true := decide_eq_true c6
    have c6b1 : decide (0 < l0.length) = true := decide_eq_true (by omega)
    clear c6
    by_cases c7 : 0 ≤ a2
    ·rw [if_pos c7] at H
     have c7b0 : decide (0 ≤ a2) = true := decide_eq_true c7
     clear c7
     by_cases c8 : a2 < (l1.length : Int)
     ·rw [if_pos c8] at H
      have c8b0 : decide (a2 < (l1.length : Int)) = true := decide_eq_true c8
      clear c8
      by_cases c9 : 0 ≤ (rd l1 a2)
      ·rw [if_pos c9] at H
       have c9b0 : decide (0 ≤ (rd l1 a2)) = true := decide_eq_true c9
       clear c9
       by_cases c10 : (rd l1 a2) < (((Ad2 l0 0).f0).length : Int)
       ·rw [if_pos c10] at H
        have c10b0 : decide ((rd l1 a2) < (((Ad2 l0 0).f0).length : Int)) = true := decide_eq_true c10
        clear c10
        by_cases c11 : x9_1 < ((Ab4 ((Ad2 l0 0).f0) (rd l1 a2)).f1)
        ·rw [if_pos c11] at H
         have c11b0 : decide (x9_1 < ((Ab4 ((Ad2 l0 0).f0) (rd l1 a2)).f1)) = true := decide_eq_true c11
         clear c11
         by_cases c12 : x7_1.length < 17592186044416
         ·rw [if_pos c12] at H
          have LMc12 := am c12
          clear c12
          obtain ⟨y145, hy145⟩ : ∃ y_ : List Int, y_ = (x7_1 ++ [x8_1]) := ⟨_, rfl⟩
          replace H : ((spec_l3End.f k1 l0 l1 x8_1).bind fun t148 => (spec_l7Starts.l0 k1 l0 l1 a2 y145 t148 (wrap64 (x9_1 + 1)))) = some r := by first | (rw [hy145]; with_reducible exact H) | (have H2_ := (Option.bind_some _ _).symm.trans H; rw [hy145]; with_reducible exact H2_) | (have H2_ := (Option.bind_some _ _).symm.trans H; with_reducible exact H2_) | with_reducible exact H | (rw [hy145]; exact H) | exact H
          have Ny145 := am hy145
          clear hy145
          replace H := Option.bind_eq_some_iff.mp H
          obtain ⟨t148, A130, H⟩ := H
          replace H : (spec_l7Starts.l0 k1 l0 l1 a2 y145 t148 (wrap64 (x9_1 + 1))) = some r := H
          have A13 := am A130
          clear A130
          have H' := am H
          clear H
          have p141 : 0 ≤ (0 : Int) := (by omega)
          have q141 : 0 < (l0.length : Int) := of_decide_eq_true (by first | (with_reducible assumption) | assumption)
          obtain ⟨ad141, A141_0, c141_0, e141, hx141_0, hl141_0, hi141_0⟩ := Ah7 HR0.out 0 p141 q141
          cases e141
          have qi141 : (0 < l0.length) = True := eq_true (by omega)
          (try rw [show ((0 : Int)).toNat = 0 from rfl] at hx141_0)
          (try rw [Addr.add_zero'] at hx141_0)
          replace hx141_0 := (HB.out.cell (World.block_lt_of_cell? w _ hx141_0)).trans hx141_0
          have HR141_0 := am hi141_0
          have HC141_0 := am hl141_0
          clear hi141_0 hl141_0
          replace p141 := eq_true p141
          replace q141 := eq_true q141
          have p142 : 0 ≤ (0 : Int) := (by omega)
          have q142 : 0 < (l0.length : Int) := of_decide_eq_true (by first | (with_reducible assumption) | assumption)
          obtain ⟨ad142, A142_0, c142_0, e142, hx142_0, hl142_0, hi142_0⟩ := Ah7 HR0.out 0 p142 q142
          obtain rfl : ad141 = ad142 := (by injection e142)
          have qi142 : (0 < l0.length) = True := eq_true (by omega)
          (try rw [show ((0 : Int)).toNat = 0 from rfl] at hx142_0)
          (try rw [Addr.add_zero'] at hx142_0)
          replace hx142_0 := (HB.out.cell (World.block_lt_of_cell? w _ hx142_0)).trans hx142_0
          have HR142_0 := am hi142_0
          have HC142_0 := am hl142_0
          clear hi142_0 hl142_0
          replace p142 := eq_true p142
          replace q142 := eq_true q142
          have ea_ := Option.some.inj (hx141_0.symm.trans hx142_0)
          injection ea_ with ea_ en_ ec_
          subst ea_
          subst ec_
          clear en_
          have p143 : 0 ≤ (a2 : Int) := of_decide_eq_true (by first | (with_reducible assumption) | assumption)
          have q143 : a2 < (l1.length : Int) := of_decide_eq_true (by first | (with_reducible assumption) | assumption)
          obtain ⟨ad143, e143, hx143_0⟩ := Kd.at_int HR1.out a2 p143 q143
          cases e143
          replace hx143_0 := (HB.out.cell (World.block_lt_of_cell? w _ hx143_0)).trans hx143_0
          replace p143 := eq_true p143
          replace q143 := eq_true q143
          have p144 : 0 ≤ ((rd l1 a2) : Int) := of_decide_eq_true (by first | (with_reducible assumption) | assumption)
          have q144 : (rd l1 a2) < (((Ad2 l0 0).f0).length : Int) := of_decide_eq_true (by first | (with_reducible assumption) | assumption)
          obtain ⟨ad144, e144, hx144_0, hx144_1⟩ := Ae7 HR142_0.out (rd l1 a2) p144 q144
          cases e144
          replace hx144_0 := (HB.out.cell (World.block_lt_of_cell? w _ hx144_0)).trans hx144_0
          replace hx144_1 := (HB.out.cell (World.block_lt_of_cell? w _ hx144_1)).trans hx144_1
          replace p144 := eq_true p144
          replace q144 := eq_true q144
          go_wp2_with (first | ((with_reducible refine Aj4 (b := .append) (xs := #[.tmp 28, .tmp 30]) rfl ?_); at_builtin; refine Kd.R_append (Kd.int .i64) (w0 := w) w.heap.size rfl (.tmp 28) (.tmp 30) 25 2 (.int .i64 0) 8 rfl Tryd.underlying25 Aq3 rfl (by decide) (by omega) u7 x7_1 x8_1 [.int .i64 x8_1] (fun _ => True) (fun _ => False) rfl rfl ?aP (fun _ hk => hk.elim) ?aF ?aO ?aB ?aS ?aL ?_; (case aP => exact rfl); (case aB => exact (hq HB.out)); (case aF => exact (fun _ _ => trivial)); (case aO => exact (rq HO_7.out)); (case aS => exact (Ac3 (hq HB.out))); (case aL => have := LMc12.out; omega); intro v146 w14 ho hb hg hat; rw [← Ny145.out] at ho; have n0_ := am (hb); have n1_ := am (ho); clear HB HO_7; revert n0_ n1_; intro HB HO147; clear ho hb hg hat) | (go_at_call 37; (with_reducible refine (spec_l3End.calls k1 _ l0 _ _ l1 x8_1 t148 _ ?side1 ?side2 ?side3 A13.out).mono ?_); (case side1 => exact cq (Kd.C_below HR0.out HB.out)); (case side2 => exact cq (Kd.C_below HR1.out HB.out)); (case side3 => exact HC1.out); rintro e w15 ⟨rfl, hb⟩; have n0_ := am (Kd.R_below (rq HO147.out) hb); have n1_ := am (Aa2 (hq HB.out) hb); clear HO147 HB; revert n0_ n1_; intro HO147 HB; (try clear hb); (try clear hb2); (try clear hgw); (try clear hk); (try clear hi)))
          repeat (go_quiet (first | ((with_reducible refine Aj4 (b := .append) (xs := #[.tmp 28, .tmp 30]) rfl ?_); at_builtin; refine Kd.R_append (Kd.int .i64) (w0 := w) w.heap.size rfl (.tmp 28) (.tmp 30) 25 2 (.int .i64 0) 8 rfl Tryd.underlying25 Aq3 rfl (by decide) (by omega) u7 x7_1 x8_1 [.int .i64 x8_1] (fun _ => True) (fun _ => False) rfl rfl ?aP (fun _ hk => hk.elim) ?aF ?aO ?aB ?aS ?aL ?_; (case aP => exact rfl); (case aB => exact (hq HB.out)); (case aF => exact (fun _ _ => trivial)); (case aO => exact (rq HO_7.out)); (case aS => exact (Ac3 (hq HB.out))); (case aL => have := LMc12.out; omega); intro v146 w14 ho hb hg hat; rw [← Ny145.out] at ho; have n0_ := am (hb); have n1_ := am (ho); clear HB HO_7; revert n0_ n1_; intro HB HO147; clear ho hb hg hat) | (go_at_call 37; (with_reducible refine (spec_l3End.calls k1 _ l0 _ _ l1 x8_1 t148 _ ?side1 ?side2 ?side3 A13.out).mono ?_); (case side1 => exact cq (Kd.C_below HR0.out HB.out)); (case side2 => exact cq (Kd.C_below HR1.out HB.out)); (case side3 => exact HC1.out); rintro e w15 ⟨rfl, hb⟩; have n0_ := am (Kd.R_below (rq HO147.out) hb); have n1_ := am (Aa2 (hq HB.out) hb); clear HO147 HB; revert n0_ n1_; intro HO147 HB; (try clear hb); (try clear hb2); (try clear hgw); (try clear hk); (try clear hi))); try go_wp2_with (first | ((with_reducible refine Aj4 (b := .append) (xs := #[.tmp 28, .tmp 30]) rfl ?_); at_builtin; refine Kd.R_append (Kd.int .i64) (w0 := w) w.heap.size rfl (.tmp 28) (.tmp 30) 25 2 (.int .i64 0) 8 rfl Tryd.underlying25 Aq3 rfl (by decide) (by omega) u7 x7_1 x8_1 [.int .i64 x8_1] (fun _ => True) (fun _ => False) rfl rfl ?aP (fun _ hk => hk.elim) ?aF ?aO ?aB ?aS ?aL ?_; (case aP => exact rfl); (case aB => exact (hq HB.out)); (case aF => exact (fun _ _ => trivial)); (case aO => exact (rq HO_7.out)); (case aS => exact (Ac3 (hq HB.out))); (case aL => have := LMc12.out; omega); intro v146 w14 ho hb hg hat; rw [← Ny145.out] at ho; have n0_ := am (hb); have n1_ := am (ho); clear HB HO_7; revert n0_ n1_; intro HB HO147; clear ho hb hg hat) | (go_at_call 37; (with_reducible refine (spec_l3End.calls k1 _ l0 _ _ l1 x8_1 t148 _ ?side1 ?side2 ?side3 A13.out).mono ?_); (case side1 => exact cq (Kd.C_below HR0.out HB.out)); (case side2 => exact cq (Kd.C_below HR1.out HB.out)); (case side3 => exact HC1.out); rintro e w15 ⟨rfl, hb⟩; have n0_ := am (Kd.R_below (rq HO147.out) hb); have n1_ := am (Aa2 (hq HB.out) hb); clear HO147 HB; revert n0_ n1_; intro HO147 HB; (try clear hb); (try clear hb2); (try clear hgw); (try clear hk); (try clear hi))))
          go_roundg k1
          case measure => have := HK1.out; omega
          case rel => exact ⟨(y145), (t148), (wrap64 (x9_1 + 1)), (by first | rfl | (simp; done) | (simp [*]; done)), (by first | rfl | (simp; done) | (simp [*]; done)), H', ⟨by have := HK1.out; omega⟩, ⟨by (with_reducible repeat (first | apply Kd.R_alloc | apply Kd.R_drewN | apply Kd.R_drew)); exact HO147.out⟩, ⟨by exact hq HB.out⟩⟩
         ·rw [if_neg c12] at H
          exact absurd H (by simp)
        ·rw [if_neg c11] at H
         have c11b0 : decide (x9_1 < ((Ab4 ((Ad2 l0 0).f0) (rd l1 a2)).f1)) = false := decide_eq_false c11
         clear c11
         obtain rfl := Option.some.inj H
         have p141 : 0 ≤ (0 : Int) := (by omega)
         have q141 : 0 < (l0.length : Int) := of_decide_eq_true (by first | (with_reducible assumption) | assumption)
         obtain ⟨ad141, A141_0, c141_0, e141, hx141_0, hl141_0, hi141_0⟩ := Ah7 HR0.out 0 p141 q141
         cases e141
         have qi141 : (0 < l0.length) = True := eq_true (by omega)
         (try rw [show ((0 : Int)).toNat = 0 from rfl] at hx141_0)
         (try rw [Addr.add_zero'] at hx141_0)
         replace hx141_0 := (HB.out.cell (World.block_lt_of_cell? w _ hx141_0)).trans hx141_0
         have HR141_0 := am hi141_0
         have HC141_0 := am hl141_0
         clear hi141_0 hl141_0
         replace p141 := eq_true p141
         replace q141 := eq_true q141
         have p142 : 0 ≤ (0 : Int) := (by omega)
         have q142 : 0 < (l0.length : Int) := of_decide_eq_true (by first | (with_reducible assumption) | assumption)
         obtain ⟨ad142, A142_0, c142_0, e142, hx142_0, hl142_0, hi142_0⟩ := Ah7 HR0.out 0 p142 q142
         obtain rfl : ad141 = ad142 := (by injection e142)
         have qi142 : (0 < l0.length) = True := eq_true (by omega)
         (try rw [show ((0 : Int)).toNat = 0 from rfl] at hx142_0)
         (try rw [Addr.add_zero'] at hx142_0)
         replace hx142_0 := (HB.out.cell (World.block_lt_of_cell? w _ hx142_0)).trans hx142_0
         have HR142_0 := am hi142_0
         have HC142_0 := am hl142_0
         clear hi142_0 hl142_0
         replace p142 := eq_true p142
         replace q142 := eq_true q142
         have ea_ := Option.some.inj (hx141_0.symm.trans hx142_0)
         injection ea_ with ea_ en_ ec_
         subst ea_
         subst ec_
         clear en_
         have p143 : 0 ≤ (a2 : Int) := of_decide_eq_true (by first | (with_reducible assumption) | assumption)
         have q143 : a2 < (l1.length : Int) := of_decide_eq_true (by first | (with_reducible assumption) | assumption)
         obtain ⟨ad143, e143, hx143_0⟩ := Kd.at_int HR1.out a2 p143 q143
         cases e143
         replace hx143_0 := (HB.out.cell (World.block_lt_of_cell? w _ hx143_0)).trans hx143_0
         replace p143 := eq_true p143
         replace q143 := eq_true q143
         have p144 : 0 ≤ ((rd l1 a2) : Int) := of_decide_eq_true (by first | (with_reducible assumption) | assumption)
         have q144 : (rd l1 a2) < (((Ad2 l0 0).f0).length : Int) := of_decide_eq_true (by first | (with_reducible assumption) | assumption)
         obtain ⟨ad144, e144, hx144_0, hx144_1⟩ := Ae7 HR142_0.out (rd l1 a2) p144 q144
         cases e144
         replace hx144_0 := (HB.out.cell (World.block_lt_of_cell? w _ hx144_0)).trans hx144_0
         replace hx144_1 := (HB.out.cell (World.block_lt_of_cell? w _ hx144_1)).trans hx144_1
         replace p144 := eq_true p144
         replace q144 := eq_true q144
         go_wp2
         repeat (go_quiet (fail); try go_wp2)
         go_ret
         exact ⟨_, by first | rfl | (simp [Aa0, Aa1] <;> rfl) | (simp [*, Aa0, Aa1] <;> rfl), by (with_reducible repeat (first | apply Kd.R_alloc | apply Kd.R_drewN | apply Kd.R_drew)); exact HO_7.out, by exact hq HB.out⟩
       ·rw [if_neg c10] at H
        exact absurd H (by simp)
      ·rw [if_neg c9] at H
       exact absurd H (by simp)
     ·rw [if_neg c8] at H
      exact absurd H (by simp)
    ·rw [if_neg c7] at H
     exact absurd H (by simp)
   ·rw [if_neg c6] at H
    exact absurd H (by simp)
def spec_l1Same.l0 : Nat → List Int → List Int → Int → Option (Bool)
 | 0, _, _, _ => none
 | k + 1, x0, x1, x5 => if x5 < (x0.length : Int) then (if 0 ≤ x5 then (if x5 < (x1.length : Int) then (if (rd x0 x5) = (rd x1 x5) then (spec_l1Same.l0 k x0 x1 (wrap64 (x5 + 1))) else (some false)) else (none)) else (none)) else (some true)
def spec_l1Same.f (k : Nat) (l0 : List Int) (l1 : List Int) : Option (Bool) := if (l0.length : Int) = (l1.length : Int) then (spec_l1Same.l0 k l0 l1 0) else (some false)
set_option maxHeartbeats 8000000 in
set_option maxRecDepth 100000 in
theorem spec_l1Same.calls (k : Nat) (A0 : Option Addr) (c0 : Nat) (l0 : List Int) (A1 : Option Addr) (c1 : Nat) (l1 : List Int) (r : Bool) (w : World) (hr0 : Kd.C (Kd.int .i64) w A0 l0.length l0) (hc0 : l0.length ≤ c0) (hr1 : Kd.C (Kd.int .i64) w A1 l1.length l1) (hc1 : l1.length ≤ c1) (h : spec_l1Same.f k l0 l1 = some r) :
  Calls Tryd.prog 38 #[.slice A0 l0.length c0, .slice A1 l1.length c1] w fun e w' => e = .returned (.bool r) ∧ Below w.heap.size w w' := by
 have HR0 := am hr0
 have HC0 := am hc0
 clear hr0 hc0
 have HR1 := am hr1
 have HC1 := am hc1
 clear hr1 hc1
 have HB := am (Below.refl w.heap.size w)
 have H : (if (l0.length : Int) = (l1.length : Int) then (spec_l1Same.l0 k l0 l1 0) else (some false)) = some r := h
 clear h
 by_cases c3 : (l0.length : Int) = (l1.length : Int)
 ·rw [if_pos c3] at H
  have c3b0 : ((l0.length : Int) == (l1.length : Int)) = true := beq_iff_eq.mpr c3
  have c3b1 : ((l0.length : Int) != (l1.length : Int)) = false := bne_eq_false_iff_eq.mpr c3
  have c3b2 : (l0.length == l1.length) = true := by first | simpa using c3 | (simp at c3 ⊢; omega)
  clear c3
  have H' := am H
  clear H
  go_enter Tryd.func38, Tryd.ntmps38
  go_wp2
  repeat (go_quiet (fail); try go_wp2)
  go_loopg [5] k (fun kq v5 w' => ∃ (x5_1 : Int), v5 = .int .i64 x5_1 ∧ Aside0 (spec_l1Same.l0 kq l0 l1 x5_1 = some r) ∧ Aside0 (kq ≤ k) ∧ Aside0 (Below w.heap.size w w'))
  case atStart => exact ⟨(0), (by first | rfl | (simp; done) | (simp [*]; done)), H', ⟨Nat.le_refl _⟩, ⟨by exact hq HB.out⟩⟩
  case round =>
   clear H'
   try clear c1; try clear p2; try clear c3; try clear c3b0; try clear c3b1; try clear c3b2
   obtain ⟨x5_1, rfl, HA, HK1, HB⟩ := hrel
   cases gk with
   | zero => exact absurd HA.out (by simp [spec_l1Same.l0])
   | succ k1 =>
    have H := HA.out
    clear HA
    simp only [spec_l1Same.l0] at H
    by_cases c4 : x5_1 < (l0.length : Int)
    ·rw [if_pos c4] at H
     have c4b0 : decide (x5_1 < (l0.length : Int)) = true := decide_eq_true c4
     clear c4
     by_cases c5 : 0 ≤ x5_1
     ·rw [if_pos c5] at H
      have c5b0 : decide (0 ≤ x5_1) = true := decide_eq_true c5
      clear c5
      by_cases c6 : x5_1 < (l1.length : Int)
      ·rw [if_pos c6] at H
       have c6b0 : decide (x5_1 < (l1.length : Int)) = true := decide_eq_true c6
       clear c6
       by_cases c7 : (rd l0 x5_1) = (rd l1 x5_1)
       ·rw [if_pos c7] at H
        have c7b0 : ((rd l0 x5_1) == (rd l1 x5_1)) = true := beq_iff_eq.mpr c7
        have c7b1 : ((rd l0 x5_1) != (rd l1 x5_1)) = false := bne_eq_false_iff_eq.mpr c7
        clear c7
        have H' := am H
        clear H
        have p149 : 0 ≤ (x5_1 : Int) := of_decide_eq_true (by first | (with_reducible assumption) | assumption)
        have q149 : x5_1 < (l0.length : Int) := of_decide_eq_true (by first | (with_reducible assumption) | assumption)
        obtain ⟨ad149, e149, hx149_0⟩ := Kd.at_int HR0.out x5_1 p149 q149
        cases e149
        replace hx149_0 := (HB.out.cell (World.block_lt_of_cell? w _ hx149_0)).trans hx149_0
        replace p149 := eq_true p149
        replace q149 := eq_true q149
        have p150 : 0 ≤ (x5_1 : Int) := of_decide_eq_true (by first | (with_reducible assumption) | assumption)
        have q150 : x5_1 < (l1.length : Int) := of_decide_eq_true (by first | (with_reducible assumption) | assumption)
        obtain ⟨ad150, e150, hx150_0⟩ := Kd.at_int HR1.out x5_1 p150 q150
        cases e150
        replace hx150_0 := (HB.out.cell (World.block_lt_of_cell? w _ hx150_0)).trans hx150_0
        replace p150 := eq_true p150
        replace q150 := eq_true q150
        go_wp2
        repeat (go_quiet (fail); try go_wp2)
        go_roundg k1
        case measure => have := HK1.out; omega
        case rel => exact ⟨(wrap64 (x5_1 + 1)), (by first | rfl | (simp; done) | (simp [*]; done)), H', ⟨by have := HK1.out; omega⟩, ⟨by exact hq HB.out⟩⟩
       ·rw [if_neg c7] at H
        have c7b0 : ((rd l0 x5_1) == (rd l1 x5_1)) = false := beq_eq_false_iff_ne.mpr c7
        have c7b1 : ((rd l0 x5_1) != (rd l1 x5_1)) = true := bne_iff_ne.mpr c7
        obtain rfl := Option.some.inj H
        have p149 : 0 ≤ (x5_1 : Int) := of_decide_eq_true (by first | (with_reducible assumption) | assumption)
        have q149 : x5_1 < (l0.length : Int) := of_decide_eq_true (by first | (with_reducible assumption) | assumption)
        obtain ⟨ad149, e149, hx149_0⟩ := Kd.at_int HR0.out x5_1 p149 q149
        cases e149
        replace hx149_0 := (HB.out.cell (World.block_lt_of_cell? w _ hx149_0)).trans hx149_0
        replace p149 := eq_true p149
        replace q149 := eq_true q149
        have p150 : 0 ≤ (x5_1 : Int) := of_decide_eq_true (by first | (with_reducible assumption) | assumption)
        have q150 : x5_1 < (l1.length : Int) := of_decide_eq_true (by first | (with_reducible assumption) | assumption)
        obtain ⟨ad150, e150, hx150_0⟩ := Kd.at_int HR1.out x5_1 p150 q150
        cases e150
        replace hx150_0 := (HB.out.cell (World.block_lt_of_cell? w _ hx150_0)).trans hx150_0
        replace p150 := eq_true p150
        replace q150 := eq_true q150
        go_wp2
        repeat (go_quiet (fail); try go_wp2)
        go_ret
        exact ⟨by first | rfl | (simp [Aa0, Aa1] <;> rfl) | (simp [*, Aa0, Aa1] <;> rfl), by exact hq HB.out⟩
      ·rw [if_neg c6] at H
       exact absurd H (by simp)
     ·rw [if_neg c5] at H
      exact absurd H (by simp)
    ·rw [if_neg c4] at H
     have c4b0 : decide (x5_1 < (l0.length : Int)) = false := decide_eq_false c4
     clear c4
     obtain rfl := Option.some.inj H
     go_wp2
     repeat (go_quiet (fail); try go_wp2)
     go_ret
     exact ⟨by first | rfl | (simp [Aa0, Aa1] <;> rfl) | (simp [*, Aa0, Aa1] <;> rfl), by exact hq HB.out⟩
 ·rw [if_neg c3] at H
  have c3b0 : ((l0.length : Int) == (l1.length : Int)) = false := beq_eq_false_iff_ne.mpr c3
  have c3b1 : ((l0.length : Int) != (l1.length : Int)) = true := bne_iff_ne.mpr c3
  have c3b2 : (l0.length == l1.length) = false := by first | simpa using c3 | (simp at c3 ⊢; omega)
  obtain rfl := Option.some.inj H
  go_enter Tryd.func38, Tryd.ntmps38
  go_wp2
  repeat (go_quiet (fail); try go_wp2)
  go_ret
  exact ⟨by first | rfl | (simp [Aa0, Aa1] <;> rfl) | (simp [*, Aa0, Aa1] <;> rfl), by exact hq HB.out⟩
def spec_l7Equal.f (k : Nat) (l0 : List (S32)) (l1 : List Int) (a2 : Int) (l3 : List Int) (a4 : Int) : Option (Bool) := (spec_l3End.f k l0 l1 a2).bind fun t151 => (if 0 ≤ a2 then (if a2 ≤ t151 then (if t151 ≤ (l1.length : Int) then ((spec_l3End.f k l0 l3 a4).bind fun t153 => (if 0 ≤ a4 then (if a4 ≤ t153 then (if t153 ≤ (l3.length : Int) then ((spec_l1Same.f k ((l1.take (t151 : Int).toNat).drop (a2 : Int).toNat) ((l3.take (t153 : Int).toNat).drop (a4 : Int).toNat)).bind fun t155 => (some t155)) else (none)) else (none)) else (none))) else (none)) else (none)) else (none))
def spec_l7Equal.T1 : Bool × List (List Nat × List Nat) := (true, [([], []), ([], []), ([], []), ([], []), ([], []), ([2, 3, 4], [2, 3, 4]), ([0, 1, 5], [0, 1, 5]), ([], []), ([], []), ([], []), ([], []), ([], []), ([9, 10, 11, 5], [9, 10, 11]), ([7, 8, 12], [7, 8, 12]), ([6, 13, 12], [6, 13]), ([14, 14, 0, 1, 2, 3, 4, 5, 6, 7, 8, 9, 10, 11, 12, 13, 14], [14])])
def spec_l7Equal.B1 : List Nat := [0, 0, 0, 0, 0, 28, 63, 0, 0, 0, 0, 0, 3644, 8124, 16383, 32767]
theorem spec_l7Equal.tab1 : Al0 .any (Am0 Tryd.f74 1) = spec_l7Equal.T1 := by kernel_rfl
theorem spec_l7Equal.bits1 : Ag2 spec_l7Equal.T1.2 spec_l7Equal.B1 = true := by kernel_rfl
set_option maxHeartbeats 8000000 in
set_option maxRecDepth 100000 in
theorem spec_l7Equal.calls (k : Nat) (A0 : Option Addr) (l0 : List (S32)) (A1 : Option Addr) (c1 : Nat) (l1 : List Int) (a2 : Int) (A3 : Option Addr) (c3 : Nat) (l3 : List Int) (a4 : Int) (r : Bool) (w : World) (hr0 : Kd.C k32 w A0 l0.length l0) (hr1 : Kd.C (Kd.int .i64) w A1 l1.length l1) (hc1 : l1.length ≤ c1) (hr3 : Kd.C (Kd.int .i64) w A3 l3.length l3) (hc3 : l3.length ≤ c3) (h : spec_l7Equal.f k l0 l1 a2 l3 a4 = some r) :
  Calls Tryd.prog 74 #[.pointer A0, .slice A1 l1.length c1, .int .i64 a2, .slice A3 l3.length c3, .int .i64 a4] w fun e w' => e = .returned (.bool r) ∧ Below w.heap.size w w' := by
 have HR0 := am hr0
 clear hr0
 have HR1 := am hr1
 have HC1 := am hc1
 clear hr1 hc1
 have HR3 := am hr3
 have HC3 := am hc3
 clear hr3 hc3
 have HB := am (Below.refl w.heap.size w)
 have H : ((spec_l3End.f k l0 l1 a2).bind fun t151 => (if 0 ≤ a2 then (if a2 ≤ t151 then (if t151 ≤ (l1.length : Int) then ((spec_l3End.f k l0 l3 a4).bind fun t153 => (if 0 ≤ a4 then (if a4 ≤ t153 then (if t153 ≤ (l3.length : Int) then ((spec_l1Same.f k ((l1.take (t151 : Int).toNat).drop (a2 : Int).toNat) ((l3.take (t153 : Int).toNat).drop (a4 : Int).toNat)).bind fun t155 => (some t155)) else (none)) else (none)) else (none))) else (none)) else (none)) else (none))) = some r := h
 clear h
 replace H := Option.bind_eq_some_iff.mp H
 obtain ⟨t151, A60, H⟩ := H
 replace H : (if 0 ≤ a2 then (if a2 ≤ t151 then (if t151 ≤ (l1.length : Int) then ((spec_l3End.f k l0 l3 a4).bind fun t153 => (if 0 ≤ a4 then (if a4 ≤ t153 then (if t153 ≤ (l3.length : Int) then ((spec_l1Same.f k ((l1.take (t151 : Int).toNat).drop (a2 : Int).toNat) ((l3.take (t153 : Int).toNat).drop (a4 : Int).toNat)).bind fun t155 => (some t155)) else (none)) else (none)) else (none))) else (none)) else (none)) else (none)) = some r := H
 have A6 := am A60
 clear A60
 by_cases c7 : 0 ≤ a2
 ·rw [if_pos c7] at H
  have c7b0 := eq_true c7
  have c7b1 : decide (0 ≤ a2) = true := decide_eq_true c7
  clear c7
  by_cases c8 : a2 ≤ t151
  ·rw [if_pos c8] at H
   have c8b0 := eq_true c8
   have c8b1 : decide (a2 ≤ t151) = true := decide_eq_true c8
   clear c8
   by_cases c9 : t151 ≤ (l1.length : Int)
   ·rw [if_pos c9] at H
    have c9b0 := eq_true c9
    have c9b1 : decide (t151 ≤ (l1.length : Int)) = true := decide_eq_true c9
    clear c9
    replace H := Option.bind_eq_some_iff.mp H
    obtain ⟨t153, A100, H⟩ := H
    replace H : (if 0 ≤ a4 then (if a4 ≤ t153 then (if t153 ≤ (l3.length : Int) then ((spec_l1Same.f k ((l1.take (t151 : Int).toNat).drop (a2 : Int).toNat) ((l3.take (t153 : Int).toNat).drop (a4 : Int).toNat)).bind fun t155 => (some t155)) else (none)) else (none)) else (none)) = some r := H
    have A10 := am A100
    clear A100
    by_cases c11 : 0 ≤ a4
    ·rw [if_pos c11] at H
     have c11b0 := eq_true c11
     have c11b1 : decide (0 ≤ a4) = true := decide_eq_true c11
     clear c11
     by_cases c12 : a4 ≤ t153
     ·rw [if_pos c12] at H
      have c12b0 := eq_true c12
      have c12b1 : decide (a4 ≤ t153) = true := decide_eq_true c12
      clear c12
      by_cases c13 : t153 ≤ (l3.length : Int)
      ·rw [if_pos c13] at H
       have c13b0 := eq_true c13
       have c13b1 : decide (t153 ≤ (l3.length : Int)) = true := decide_eq_true c13
       clear c13
       replace H := Option.bind_eq_some_iff.mp H
       obtain ⟨t155, A140, H⟩ := H
       replace H : (some t155) = some r := H
       have A14 := am A140
       clear A140
       obtain rfl := Option.some.inj H
       go_enter Tryd.func74, Tryd.ntmps74
       try go_wp2
       have n0_ := am (Ac2 HB.out)
       clear HB; revert n0_; intro HB
       refine Ae9 (n := 16) (S := fun w' => True) (ds := []) #[false, false, false, false, false, false, false, false, false, false, false, false, false, false, false, false] (by kernel_rfl) rfl rfl trivial (fun hHeld => ?_); refine Ad1 spec_l7Equal.tab1 spec_l7Equal.bits1 (fun HT_ HW_ => ?_)
       generalize w.drew = w15 at HB hHeld ⊢
       refine Ab2 (i := 0) (N := some 11) (v := ?_) (a' := ?_) #[true, false, false, false, false, false, false, false, false, false, false, false, false, false, false, false] rfl rfl (Aa9 HT_.out (by kernel_rfl)) (fun _ _ _ h => h) (Or.inl ⟨by rfl, ?_⟩) ?_ ?_
       rotate_left
       ·intro w'
        go_simp
        with_reducible rfl
       rotate_left
       ·simp only [Act.put, lsp, Aa8, Ab0]
        rfl
       refine Ab2 (i := 1) (N := some 12) (v := ?_) (a' := ?_) #[true, true, false, false, false, false, false, false, false, false, false, false, false, false, false, false] rfl rfl (Aa9 HT_.out (by kernel_rfl)) (fun _ _ _ h => h) (Or.inl ⟨by rfl, ?_⟩) ?_ ?_
       rotate_left
       ·intro w'
        go_simp
        with_reducible rfl
       rotate_left
       ·simp only [Act.put, lsp, Aa8, Ab0]
        rfl
       refine Ab2 (i := 2) (N := some 13) (v := ?_) (a' := ?_) #[true, true, true, false, false, false, false, false, false, false, false, false, false, false, false, false] rfl rfl (Aa9 HT_.out (by kernel_rfl)) (fun _ _ _ h => h) (Or.inl ⟨by rfl, ?_⟩) ?_ ?_
       rotate_left
       ·intro w'
        go_simp
        with_reducible rfl
       rotate_left
       ·simp only [Act.put, lsp, Aa8, Ab0]
        rfl
       refine Ab2 (i := 3) (N := some 14) (v := ?_) (a' := ?_) #[true, true, true, true, false, false, false, false, false, false, false, false, false, false, false, false] rfl rfl (Aa9 HT_.out (by kernel_rfl)) (fun _ _ _ h => h) (Or.inl ⟨by rfl, ?_⟩) ?_ ?_
       rotate_left
       ·intro w'
        go_simp
        with_reducible rfl
       rotate_left
       ·simp only [Act.put, lsp, Aa8, Ab0]
        rfl
       refine Ab2 (i := 4) (N := some 15) (v := ?_) (a' := ?_) #[true, true, true, true, true, false, false, false, false, false, false, false, false, false, false, false] rfl rfl (Aa9 HT_.out (by kernel_rfl)) (fun _ _ _ h => h) (Or.inl ⟨by rfl, ?_⟩) ?_ ?_
       rotate_left
       ·intro w'
        go_simp
        with_reducible rfl
       rotate_left
       ·simp only [Act.put, lsp, Aa8, Ab0]
        rfl
       refine Ab2 (i := 7) (N := some 18) (v := ?_) (a' := ?_) #[true, true, true, true, true, false, false, true, false, false, false, false, false, false, false, false] rfl rfl (Aa9 HT_.out (by kernel_rfl)) (fun _ _ _ h => h) (Or.inl ⟨by rfl, ?_⟩) ?_ ?_
       rotate_left
       ·intro w'
        go_simp
        with_reducible rfl
       rotate_left
       ·simp only [Act.put, lsp, Aa8, Ab0]
        rfl
       refine Ab2 (i := 8) (N := some 19) (v := ?_) (a' := ?_) #[true, true, true, true, true, false, false, true, true, false, false, false, false, false, false, false] rfl rfl (Aa9 HT_.out (by kernel_rfl)) (fun _ _ _ h => h) (Or.inl ⟨by rfl, ?_⟩) ?_ ?_
       rotate_left
       ·intro w'
        go_simp
        with_reducible rfl
       rotate_left
       ·simp only [Act.put, lsp, Aa8, Ab0]
        rfl
       refine Ab2 (i := 9) (N := some 20) (v := ?_) (a' := ?_) #[true, true, true, true, true, false, false, true, true, true, false, false, false, false, false, false] rfl rfl (Aa9 HT_.out (by kernel_rfl)) (fun _ _ _ h => h) (Or.inl ⟨by rfl, ?_⟩) ?_ ?_
       rotate_left
       ·intro w'
        go_simp
        with_reducible rfl
       rotate_left
       ·simp only [Act.put, lsp, Aa8, Ab0]
        rfl
       refine Ab2 (i := 10) (N := some 21) (v := ?_) (a' := ?_) #[true, true, true, true, true, false, false, true, true, true, true, false, false, false, false, false] rfl rfl (Aa9 HT_.out (by kernel_rfl)) (fun _ _ _ h => h) (Or.inl ⟨by rfl, ?_⟩) ?_ ?_
       rotate_left
       ·intro w'
        go_simp
        with_reducible rfl
       rotate_left
       ·simp only [Act.put, lsp, Aa8, Ab0]
        rfl
       refine Ab2 (i := 11) (N := some 22) (v := ?_) (a' := ?_) #[true, true, true, true, true, false, false, true, true, true, true, true, false, false, false, false] rfl rfl (Aa9 HT_.out (by kernel_rfl)) (fun _ _ _ h => h) (Or.inl ⟨by rfl, ?_⟩) ?_ ?_
       rotate_left
       ·intro w'
        go_simp
        with_reducible rfl
       rotate_left
       ·simp only [Act.put, lsp, Aa8, Ab0]
        rfl
       refine Al7 (i := 5) (N := some 16) #[true, true, true, true, true, true, false, true, true, true, true, true, false, false, false, false] rfl rfl (Af4 HT_.out (by kernel_rfl)) (by decide) (fun K hK => ?_)
       refine Ah1 Tryd.func37 (by kernel_rfl) rfl #[.pointer A0, .slice A1 l1.length c1, .int .i64 a2] (by rfl) rfl rfl el ?_
       with_reducible refine (spec_l3End.calls k _ l0 _ _ l1 a2 t151 _ ?side1 ?side2 ?side3 A6.out).mono ?_
       (case side1 => exact cq (Kd.C_below HR0.out HB.out))
       (case side2 => exact cq (Kd.C_below HR1.out HB.out))
       (case side3 => exact HC1.out)
       rintro e w16 ⟨rfl, hb⟩
       refine ⟨_, rfl, ?_⟩
       have n0_ := am (Aa2 (hq HB.out) hb)
       clear HB; revert n0_; intro HB
       (try clear hb)
       (try clear hb2)
       (try clear hgw)
       (try clear hk)
       (try clear hi)
       obtain ⟨i017, hi017, _, hsz17, _⟩ := info_parts Aq3
       obtain ⟨A17, hcut17, hA17, hC17⟩ := Al2 (P := Tryd.prog) (Value.int .i64) 0 25 2 .i64 .i64 Tryd.underlying25 hi017 hsz17 A1 c1 l1 a2 t151 (of_decide_eq_true (by first | (with_reducible assumption) | assumption)) (by first | omega | exact of_decide_eq_true (by first | (with_reducible assumption) | assumption)) (of_decide_eq_true (by first | (with_reducible assumption) | assumption)) HC1.out
       have HR152 := am (Kd.C_of_reads (h1 := fun _ => rfl) (hA17 _ (Kd.reads_of_C HR1.out)))
       have HC152 := am hC17
       clear hA17 hC17 hi017 hsz17
       refine hK.out _ _ trivial (fun hHeld => ?_)
       clear hK K
       refine Ah0 (a' := ?_) ?_ ?_
       rotate_left
       ·show Act.put _ (some 16) _ = _
        simp only [Act.put, lsp, Aa8, Ab0]
        rfl
       refine Ab2 (i := 6) (N := some 17) (v := ?_) (a' := ?_) #[true, true, true, true, true, true, true, true, true, true, true, true, false, false, false, false] rfl rfl (Aa9 HT_.out (by kernel_rfl)) (fun _ _ _ h => h) (Or.inl ⟨by rfl, ?_⟩) ?_ ?_
       rotate_left
       ·intro w'
        go_simp
        with_reducible rfl
       rotate_left
       ·simp only [Act.put, lsp, Aa8, Ab0]
        rfl
       refine Al7 (i := 12) (N := some 23) #[true, true, true, true, true, true, true, true, true, true, true, true, true, false, false, false] rfl rfl (Af4 HT_.out (by kernel_rfl)) (by decide) (fun K hK => ?_)
       refine Ah1 Tryd.func37 (by kernel_rfl) rfl #[.pointer A0, .slice A3 l3.length c3, .int .i64 a4] (by rfl) rfl rfl el ?_
       with_reducible refine (spec_l3End.calls k _ l0 _ _ l3 a4 t153 _ ?side1 ?side2 ?side3 A10.out).mono ?_
       (case side1 => exact cq (Kd.C_below HR0.out HB.out))
       (case side2 => exact cq (Kd.C_below HR3.out HB.out))
       (case side3 => exact HC3.out)
       rintro e w18 ⟨rfl, hb⟩
       refine ⟨_, rfl, ?_⟩
       have n0_ := am (Aa2 (hq HB.out) hb)
       clear HB; revert n0_; intro HB
       (try clear hb)
       (try clear hb2)
       (try clear hgw)
       (try clear hk)
       (try clear hi)
       obtain ⟨i019, hi019, _, hsz19, _⟩ := info_parts Aq3
       obtain ⟨A19, hcut19, hA19, hC19⟩ := Al2 (P := Tryd.prog) (Value.int .i64) 0 25 2 .i64 .i64 Tryd.underlying25 hi019 hsz19 A3 c3 l3 a4 t153 (of_decide_eq_true (by first | (with_reducible assumption) | assumption)) (by first | omega | exact of_decide_eq_true (by first | (with_reducible assumption) | assumption)) (of_decide_eq_true (by first | (with_reducible assumption) | assumption)) HC3.out
       have HR154 := am (Kd.C_of_reads (h1 := fun _ => rfl) (hA19 _ (Kd.reads_of_C HR3.out)))
       have HC154 := am hC19
       clear hA19 hC19 hi019 hsz19
       refine hK.out _ _ trivial (fun hHeld => ?_)
       clear hK K
       refine Ah0 (a' := ?_) ?_ ?_
       rotate_left
       ·show Act.put _ (some 23) _ = _
        simp only [Act.put, lsp, Aa8, Ab0]
        rfl
       refine Ab2 (i := 13) (N := some 24) (v := ?_) (a' := ?_) #[true, true, true, true, true, true, true, true, true, true, true, true, true, true, false, false] rfl rfl (Aa9 HT_.out (by kernel_rfl)) (fun _ _ _ h => h) (Or.inl ⟨by rfl, ?_⟩) ?_ ?_
       rotate_left
       ·intro w'
        go_simp
        with_reducible rfl
       rotate_left
       ·simp only [Act.put, lsp, Aa8, Ab0]
        rfl
       refine Al7 (i := 14) (N := some 25) #[true, true, true, true, true, true, true, true, true, true, true, true, true, true, true, false] rfl rfl (Af4 HT_.out (by kernel_rfl)) (by decide) (fun K hK => ?_)
       refine Ah1 Tryd.func38 (by kernel_rfl) rfl #[.slice A17 ((l1.take (t151 : Int).toNat).drop (a2 : Int).toNat).length (c1 - a2.toNat), .slice A19 ((l3.take (t153 : Int).toNat).drop (a4 : Int).toNat).length (c3 - a4.toNat)] (by rfl) rfl rfl (by (try simp only [List.map_toArray, List.map_cons, List.map_nil]); first | done | (rw [show ((l1.take (t151 : Int).toNat).drop (a2 : Int).toNat).length = (t151.toNat - a2.toNat) from (by rw [List.length_drop, List.length_take]; have h_ : (t151 : Int) ≤ (l1.length : Int) := of_decide_eq_true (by first | (with_reducible assumption) | assumption); omega), show ((l3.take (t153 : Int).toNat).drop (a4 : Int).toNat).length = (t153.toNat - a4.toNat) from (by rw [List.length_drop, List.length_take]; have h_ : (t153 : Int) ≤ (l3.length : Int) := of_decide_eq_true (by first | (with_reducible assumption) | assumption); omega)] <;> rfl) | (rw [show ((l1.take (t151 : Int).toNat).drop (a2 : Int).toNat).length = (t151.toNat - a2.toNat) from (by rw [List.length_drop, List.length_take]; have h_ : (t151 : Int) ≤ (l1.length : Int) := of_decide_eq_true (by first | (with_reducible assumption) | assumption); omega)] <;> rfl) | (rw [show ((l3.take (t153 : Int).toNat).drop (a4 : Int).toNat).length = (t153.toNat - a4.toNat) from (by rw [List.length_drop, List.length_take]; have h_ : (t153 : Int) ≤ (l3.length : Int) := of_decide_eq_true (by first | (with_reducible assumption) | assumption); omega)] <;> rfl) | rfl | (simp only [List.length_drop, List.length_take]; rfl)) ?_
       with_reducible refine (spec_l1Same.calls k _ _ ((l1.take (t151 : Int).toNat).drop (a2 : Int).toNat) _ _ ((l3.take (t153 : Int).toNat).drop (a4 : Int).toNat) t155 _ ?side1 ?side2 ?side3 ?side4 A14.out).mono ?_
       (case side1 => exact cq (Kd.C_below HR152.out HB.out))
       (case side2 => exact HC152.out)
       (case side3 => exact cq (Kd.C_below HR154.out HB.out))
       (case side4 => exact HC154.out)
       rintro e w20 ⟨rfl, hb⟩
       refine ⟨_, rfl, ?_⟩
       have n0_ := am (Aa2 (hq HB.out) hb)
       clear HB; revert n0_; intro HB
       (try clear hb)
       (try clear hb2)
       (try clear hgw)
       (try clear hk)
       (try clear hi)
       refine hK.out _ _ trivial (fun hHeld => ?_)
       clear hK K
       refine Ah0 (a' := ?_) ?_ ?_
       rotate_left
       ·show Act.put _ (some 25) _ = _
        simp only [Act.put, lsp, Aa8, Ab0]
        rfl
       refine Ab2 (i := 15) (N := some 10) (v := ?_) (a' := ?_) #[true, true, true, true, true, true, true, true, true, true, true, true, true, true, true, true] rfl rfl (Aa9 HT_.out (by kernel_rfl)) (fun _ _ _ h => h) (Or.inl ⟨by rfl, ?_⟩) ?_ ?_
       rotate_left
       ·intro w'
        go_simp
        with_reducible rfl
       rotate_left
       ·simp only [Act.put, lsp, Aa8, Ab0]
        rfl
       refine Ah2 (Ae1 HT_.out (by kernel_rfl)) ?_
       try go_wp2
       go_ret
       exact ⟨by first | rfl | (simp [Aa0, Aa1] <;> rfl) | (simp [*, Aa0, Aa1] <;> rfl), by exact hq HB.out⟩
      ·rw [if_neg c13] at H
       exact absurd H (by simp)
     ·rw [if_neg c12] at H
      exact absurd H (by simp)
    ·rw [if_neg c11] at H
     exact absurd H (by simp)
   ·rw [if_neg c9] at H
    exact absurd H (by simp)
  ·rw [if_neg c8] at H
   exact absurd H (by simp)
 ·rw [if_neg c7] at H
  exact absurd H (by simp)
def spec_l2Rank.l0 : Nat → List Int → Int → Int → Option (Int)
 | 0, _, _, _ => none
 | k + 1, x0, x1, x5 => if x5 < (x0.length : Int) then (if 0 ≤ x5 then (if (rd x0 x5) = x1 then (some x5) else (spec_l2Rank.l0 k x0 x1 (wrap64 (x5 + 1)))) else (none)) else (some (-1))
def spec_l2Rank.f (k : Nat) (l0 : List Int) (a1 : Int) : Option (Int) := spec_l2Rank.l0 k l0 a1 0
set_option maxHeartbeats 8000000 in
set_option maxRecDepth 100000 in
theorem spec_l2Rank.calls (k : Nat) (A0 : Option Addr) (c0 : Nat) (l0 : List Int) (a1 : Int) (r : Int) (w : World) (hr0 : Kd.C (Kd.int .i64) w A0 l0.length l0) (hc0 : l0.length ≤ c0) (h : spec_l2Rank.f k l0 a1 = some r) :
  Calls Tryd.prog 75 #[.slice A0 l0.length c0, .int .i64 a1] w fun e w' => e = .returned (.int .i64 r) ∧ Drawn0 w w' := by
 have HR0 := am hr0
 have HC0 := am hc0
 clear hr0 hc0
 have H : (spec_l2Rank.l0 k l0 a1 0) = some r := h
 clear h
 have H' := am H
 clear H
 go_enter Tryd.func75, Tryd.ntmps75
 go_wp2
 go_loopg [5] k (fun kq v5 w' => ∃ (x5_1 : Int), v5 = .int .i64 x5_1 ∧ Aside0 (spec_l2Rank.l0 kq l0 a1 x5_1 = some r) ∧ Aside0 (kq ≤ k) ∧ Drawn0 w w')
 case atStart => exact ⟨(0), (by first | rfl | (simp; done) | (simp [*]; done)), H', ⟨Nat.le_refl _⟩, by repeat (first | exact Drawn0.refl _ | apply Drawn0.step)⟩
 case round =>
  clear H'
  try clear p2
  obtain ⟨x5_1, rfl, HA, HK1, ⟨m1, rfl⟩⟩ := hrel
  cases gk with
  | zero => exact absurd HA.out (by simp [spec_l2Rank.l0])
  | succ k1 =>
   have H := HA.out
   clear HA
   simp only [spec_l2Rank.l0] at H
   by_cases c3 : x5_1 < (l0.length : Int)
   ·rw [if_pos c3] at H
    have c3b0 : decide (x5_1 < (l0.length : Int)) = true := decide_eq_true c3
    clear c3
    by_cases c4 : 0 ≤ x5_1
    ·rw [if_pos c4] at H
     have c4b0 : decide (0 ≤ x5_1) = true := decide_eq_true c4
     clear c4
     by_cases c5 : (rd l0 x5_1) = a1
     ·rw [if_pos c5] at H
      have c5b0 : ((rd l0 x5_1) == a1) = true := beq_iff_eq.mpr c5
      have c5b1 : ((rd l0 x5_1) != a1) = false := bne_eq_false_iff_eq.mpr c5
      clear c5
      obtain rfl := Option.some.inj H
      have p156 : 0 ≤ (x5_1 : Int) := of_decide_eq_true (by first | (with_reducible assumption) | assumption)
      have q156 : x5_1 < (l0.length : Int) := of_decide_eq_true (by first | (with_reducible assumption) | assumption)
      obtain ⟨ad156, e156, hx156_0⟩ := Kd.at_int HR0.out x5_1 p156 q156
      cases e156
      replace p156 := eq_true p156
      replace q156 := eq_true q156
      go_wp2
      go_ret
      exact ⟨by first | rfl | (simp; done) | (simp [*]; done), by repeat (first | exact Drawn0.refl _ | apply Drawn0.step)⟩
     ·rw [if_neg c5] at H
      have c5b0 : ((rd l0 x5_1) == a1) = false := beq_eq_false_iff_ne.mpr c5
      have c5b1 : ((rd l0 x5_1) != a1) = true := bne_iff_ne.mpr c5
      have H' := am H
      clear H
      have p156 : 0 ≤ (x5_1 : Int) := of_decide_eq_true (by first | (with_reducible assumption) | assumption)
      have q156 : x5_1 < (l0.length : Int) := of_decide_eq_true (by first | (with_reducible assumption) | assumption)
      obtain ⟨ad156, e156, hx156_0⟩ := Kd.at_int HR0.out x5_1 p156 q156
      cases e156
      replace p156 := eq_true p156
      replace q156 := eq_true q156
      go_wp2
      go_roundg k1
      case measure => have := HK1.out; omega
      case rel => exact ⟨(wrap64 (x5_1 + 1)), (by first | rfl | (simp; done) | (simp [*]; done)), H', ⟨by have := HK1.out; omega⟩, by repeat (first | exact Drawn0.refl _ | apply Drawn0.step)⟩
    ·rw [if_neg c4] at H
     exact absurd H (by simp)
   ·rw [if_neg c3] at H
    have c3b0 : decide (x5_1 < (l0.length : Int)) = false := decide_eq_false c3
    clear c3
    obtain rfl := Option.some.inj H
    go_wp2
    go_ret
    exact ⟨by first | rfl | (simp; done) | (simp [*]; done), by repeat (first | exact Drawn0.refl _ | apply Drawn0.step)⟩
end Go.Proofs.YtgichahebemmiaaDoor.P
