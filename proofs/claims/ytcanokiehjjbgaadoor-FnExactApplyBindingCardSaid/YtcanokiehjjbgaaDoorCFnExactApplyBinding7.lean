/- A part of the proof of the law FnExactApplyBinding. -/
import Derived.Laws.StructEq
import Derived.Test.YtcanokiehjjbgaaDoorCFnExactApplyBinding0
import Derived.Test.YtcanokiehjjbgaaDoorCFnExactApplyBinding1
import Derived.Test.YtcanokiehjjbgaaDoorCFnExactApplyBinding2
import Derived.Test.YtcanokiehjjbgaaDoorCFnExactApplyBinding3
import Derived.Test.YtcanokiehjjbgaaDoorCFnExactApplyBinding4
import Derived.Test.YtcanokiehjjbgaaDoorCFnExactApplyBinding5
import Derived.Test.YtcanokiehjjbgaaDoorCFnExactApplyBinding6
import Derived.Test.YtcanokiehjjbgaaDoorCFnExactApplyBinding13
namespace Go.Proofs.YtcanokiehjjbgaaDoor.P
open Go.RowKit Go.Proofs.YtcanokiehjjbgaaDoorW.PrintWords Go.Proofs.YtcanokiehjjbgaaDoorW.PrintLast Go.Proofs.YtcanokiehjjbgaaDoorW.PrintMore
attribute [local go_sem] max2_int min2_int max_two min_two max_three min_three max_four min_four   -- for this text's walks alone
set_option linter.unusedVariables false
set_option linter.unusedSimpArgs false
def impl_fitting.f (l0 : List Int) : Option (Int × List Int) := if (l0.length : Int) > 24 then (some (2, ([] : List Int))) else (some (0, l0))
set_option maxHeartbeats 8000000 in
set_option maxRecDepth 100000 in
theorem impl_fitting.calls (P0_ : Nat → Prop) (u9000_ : Value) (l0 : List Int) (r1 : Int) (r2 : List Int) (w0 w : World) (hB : Below w0.heap.size w0 w) (ho0 : Kd.R (Kd.int .i64) 2 w w0.heap.size P0_ u9000_ l0) (h : impl_fitting.f l0 = some (r1, r2)) :
    Calls Tryd.prog 70 #[u9000_] w fun e w' => ∃ v1_ : Value, e = .returned (.agg #[.int .i64 r1, v1_]) ∧ Kd.R (Kd.int .i64) 2 w' w0.heap.size (fun k_ => (P0_ k_ ∨ w.heap.size ≤ k_)) v1_ r2 ∧ Below w0.heap.size w0 w' ∧ Kept w w' (fun k_ => P0_ k_) := by
  have hu65 := Tryd.underlying65
  have HO0 := am (show Kd.R (Kd.int .i64) 2 w w0.heap.size (fun k_ => (P0_ k_ ∨ w.heap.size ≤ k_)) u9000_ l0 from Kd.R_mono ho0 (fun k_ hk => (.inl hk)))
  have HK := am (Kept.refl w (fun k_ => P0_ k_))
  have HW0 := am hB.size
  have HB := am hB
  clear hB
  have H : (if (l0.length : Int) > 24 then (some (2, ([] : List Int))) else (some (0, l0))) = some (r1, r2) := h
  clear h
  by_cases c2 : (l0.length : Int) > 24
  · rw [if_pos c2] at H
    have c2b0 : decide (24 < (l0.length : Int)) = true := decide_eq_true c2
    have c2b1 : decide (24 < l0.length) = true := decide_eq_true (by omega)
    clear c2
    simp only [Option.some.injEq, Prod.mk.injEq] at H
    obtain ⟨rfl, rfl⟩ := H
    go_enter Tryd.func70, Tryd.ntmps70
    go_wp2_with (first | ((with_reducible refine gate_dst (N := 2) rfl ?_); refine box_event ?hg (N := 2) ?hd (cs := #[.int .i64 0, .slice none 0 0]) (t := 65) ?hr ?_; (case hd => rfl); (case hg => rfl); (case hr => first | (go_simp; done) | (go_simp; rfl)); intro gb824 hg w3 hbox hb; have n0_ := am (Kd.R_below (rq HO0.out) hb); have n1_ := am (Kept.below (S := (fun k_ => P0_ k_)) (by repeat (first | (with_reducible first | exact HK.out | apply Kept.alloc | apply Kept.drewN | apply Kept.drew) | exact HK.out)) hb); have n2_ := am (below_step (hq HB.out) hb); have n3_ := am (hbox); have n4_ := am ((by rw [hg]; exact (by first | exact HK.out.1 | exact (show Kept w _ (fun k_ => P0_ k_) from by repeat (first | (with_reducible first | exact HK.out | apply Kept.alloc | apply Kept.drewN | apply Kept.drew) | exact HK.out)).1) : w.heap.size ≤ gb824)); have n5_ := am (bz hg (hq HB.out)); clear HO0 HK HB; revert n0_ n1_ n2_ n3_ n4_ n5_; intro HO0 HK HB BK824 GW824 GE824; clear hb hbox hg; obtain ⟨Ao4, co4, eo4⟩ := Kd.R_slice HO0.out; subst eo4; have hcz5_0 : w3.cell? ⟨gb824, 0, none⟩ = some (.int .i64 0) := (blk_cell BK824.out 0).trans rfl; have hcz5_1 : w3.cell? ⟨gb824, 1, none⟩ = some (.slice none 0 0) := (blk_cell BK824.out 1).trans rfl; have hfz5_0 := blk_frozen BK824.out 0; have hfz5_1 := blk_frozen BK824.out 1))
    refine bodyPost_ret (results_cell_row rfl _ _ gb824 65 #[.int .i64 2, .slice none 0 0] (0, 0) _ rfl (by refine bq ?_; refine blk_put (cs := #[.int .i64 2, .slice none 0 0]) ?_ 1 _ rfl; refine bq ?_; refine blk_put (cs := #[.int .i64 0, .slice none 0 0]) ?_ 0 _ rfl; refine bq ?_; exact BK824.out) Tryd.underlying65 rfl (by kernel_rfl)) rfl ?_
    exact ⟨_, by first | rfl | (simp [errW_none, errW_some] <;> rfl) | (simp [*, errW_none, errW_some] <;> rfl), by first | exact Kd.R_nil _ _ _ _ _ | exact Kd.N_nil _ _ _ _ _ | exact Kd.V_nil _ _ _ _ _ | exact Kd.Q_nil _ _ _ _ _ | exact Kd.S_nil _ _ _ _ _, by exact hs HB.out, by repeat (first | (with_reducible first | exact HK.out | apply Kept.alloc | apply Kept.drewN | apply Kept.drew | refine Kept.setCell ?_ (.inr GW824.out) _) | exact HK.out)⟩
  · rw [if_neg c2] at H
    have c2b0 : decide (24 < (l0.length : Int)) = false := decide_eq_false c2
    have c2b1 : decide (24 < l0.length) = false := decide_eq_false (by omega)
    clear c2
    simp only [Option.some.injEq, Prod.mk.injEq] at H
    obtain ⟨rfl, rfl⟩ := H
    go_enter Tryd.func70, Tryd.ntmps70
    go_wp2_with (first | ((with_reducible refine gate_dst (N := 2) rfl ?_); refine box_event ?hg (N := 2) ?hd (cs := #[.int .i64 0, .slice none 0 0]) (t := 65) ?hr ?_; (case hd => rfl); (case hg => rfl); (case hr => first | (go_simp; done) | (go_simp; rfl)); intro gb824 hg w6 hbox hb; have n0_ := am (Kd.R_below (rq HO0.out) hb); have n1_ := am (Kept.below (S := (fun k_ => P0_ k_)) (by repeat (first | (with_reducible first | exact HK.out | apply Kept.alloc | apply Kept.drewN | apply Kept.drew) | exact HK.out)) hb); have n2_ := am (below_step (hq HB.out) hb); have n3_ := am (hbox); have n4_ := am ((by rw [hg]; exact (by first | exact HK.out.1 | exact (show Kept w _ (fun k_ => P0_ k_) from by repeat (first | (with_reducible first | exact HK.out | apply Kept.alloc | apply Kept.drewN | apply Kept.drew) | exact HK.out)).1) : w.heap.size ≤ gb824)); have n5_ := am (bz hg (hq HB.out)); clear HO0 HK HB; revert n0_ n1_ n2_ n3_ n4_ n5_; intro HO0 HK HB BK824 GW824 GE824; clear hb hbox hg; obtain ⟨Ao7, co7, eo7⟩ := Kd.R_slice HO0.out; subst eo7; have hcz8_0 : w6.cell? ⟨gb824, 0, none⟩ = some (.int .i64 0) := (blk_cell BK824.out 0).trans rfl; have hcz8_1 : w6.cell? ⟨gb824, 1, none⟩ = some (.slice none 0 0) := (blk_cell BK824.out 1).trans rfl; have hfz8_0 := blk_frozen BK824.out 0; have hfz8_1 := blk_frozen BK824.out 1))
    refine bodyPost_ret (results_cell_row rfl _ _ gb824 65 #[.int .i64 0, .slice Ao7 l0.length co7] (0, 0) _ rfl (by refine bq ?_; refine blk_put (cs := #[.int .i64 0, .slice none 0 0]) ?_ 1 _ rfl; refine bq ?_; refine blk_put (cs := #[.int .i64 0, .slice none 0 0]) ?_ 0 _ rfl; refine bq ?_; exact BK824.out) Tryd.underlying65 rfl (by kernel_rfl)) rfl ?_
    exact ⟨_, by first | rfl | (simp [errW_none, errW_some] <;> rfl) | (simp [*, errW_none, errW_some] <;> rfl), by (with_reducible repeat (first | apply Kd.R_alloc | apply Kd.R_drewN | apply Kd.R_drew)); exact Kd.R_mono (Kd.R_far (p := ⟨gb824, 1, none⟩) (Kd.R_far (p := ⟨gb824, 0, none⟩) (Kd.R_types HO0.out BK824.out (by decide)) (fun _ hk => hk.2) (.int .i64 0)) (fun _ hk => hk.2) (.slice Ao7 l0.length co7)) (fun _ hk => hk.1), by exact hs HB.out, by repeat (first | (with_reducible first | exact HK.out | apply Kept.alloc | apply Kept.drewN | apply Kept.drew | refine Kept.setCell ?_ (.inr GW824.out) _) | exact HK.out)⟩
def impl_Binding_of.f (k : Nat) (l0_0 : List Int) (l0_1 : List (List Int)) (a1 : Int) : Option (List Int × Bool) := (slices_Index_int64_int64.f k l0_0 a1).bind fun t826 => (if t826 < 0 then (some (([] : List Int), false)) else (if 0 ≤ t826 then (if t826 < (l0_1.length : Int) then (some (rd_L6 l0_1 t826, true)) else (none)) else (none)))
set_option maxHeartbeats 8000000 in
set_option maxRecDepth 100000 in
theorem impl_Binding_of.calls (k : Nat) (A0_0 : Option Addr) (c0_0 : Nat) (l0_0 : List Int) (P0_1_ : Nat → Prop) (A0_1 : Option Addr) (c0_1 : Nat) (l0_1 : List (List Int)) (a1 : Int) (r1 : List Int) (r2 : Bool) (w : World) (hr0_0 : Kd.C (Kd.int .i64) w A0_0 l0_0.length l0_0) (hc0_0 : l0_0.length ≤ c0_0) (hs0_1 : Kd.V (Kd.slice 2 (Kd.int .i64)) 27 w w.heap.size (fun k_ => P0_1_ k_) (.slice A0_1 l0_1.length c0_1) l0_1) (h : impl_Binding_of.f k l0_0 l0_1 a1 = some (r1, r2)) :
    Calls Tryd.prog 105 #[.agg #[.slice A0_0 l0_0.length c0_0, .slice A0_1 l0_1.length c0_1], .int .i64 a1] w fun e w' => ∃ v0_ : Value, e = .returned (.tuple #[v0_, .bool r2]) ∧ Kd.V (Kd.int .i64) 2 w' w.heap.size (fun k_ => (P0_1_ k_ ∨ w.heap.size ≤ k_)) v0_ r1 ∧ Below w.heap.size w w' := by
  have hu67 := Tryd.underlying67
  have HR0_0 := am hr0_0
  have HC0_0 := am hc0_0
  clear hr0_0 hc0_0
  have HO0_1 := am (show Kd.V (Kd.slice 2 (Kd.int .i64)) 27 w w.heap.size (fun k_ => (P0_1_ k_ ∨ w.heap.size ≤ k_)) (.slice A0_1 l0_1.length c0_1) l0_1 from Kd.V_mono hs0_1 (fun k_ hk => .inl hk))
  have HB := am (Below.refl w.heap.size w)
  have H : ((slices_Index_int64_int64.f k l0_0 a1).bind fun t826 => (if t826 < 0 then (some (([] : List Int), false)) else (if 0 ≤ t826 then (if t826 < (l0_1.length : Int) then (some (rd_L6 l0_1 t826, true)) else (none)) else (none)))) = some (r1, r2) := h
  clear h
  replace H := Option.bind_eq_some_iff.mp H
  obtain ⟨t826, A30, H⟩ := H
  replace H : (if t826 < 0 then (some (([] : List Int), false)) else (if 0 ≤ t826 then (if t826 < (l0_1.length : Int) then (some (rd_L6 l0_1 t826, true)) else (none)) else (none))) = some (r1, r2) := H
  have A3 := am A30
  clear A30
  by_cases c4 : t826 < 0
  · rw [if_pos c4] at H
    have c4b0 : decide (t826 < 0) = true := decide_eq_true c4
    clear c4
    simp only [Option.some.injEq, Prod.mk.injEq] at H
    obtain ⟨rfl, rfl⟩ := H
    go_enter Tryd.func105, Tryd.ntmps105
    go_wp2_with (first | ((with_reducible refine gate_dst (N := 2) rfl ?_); refine box_event ?hg (N := 2) ?hd (cs := #[.slice A0_0 l0_0.length c0_0, .slice A0_1 l0_1.length c0_1]) (t := 67) ?hr ?_; (case hd => rfl); (case hg => rfl); (case hr => first | (go_simp; done) | (go_simp; rfl)); intro gb825 hg w5 hbox hb; have n0_ := am (Kd.V_below (Kd.V_elderB (by (with_reducible repeat (first | apply Kd.V_alloc | apply Kd.V_drewN | apply Kd.V_drew)); exact HO0_1.out) gb825 (Nat.le_of_eq hg.symm)) hb); have n1_ := am (below_step (hq HB.out) hb); have n2_ := am (hbox); have n3_ := am (bz hg (hq HB.out)); have n4_ := n3_; clear HO0_1 HB; revert n0_ n1_ n2_ n3_ n4_; intro HO0_1 HB BK825 GW825 GE825; clear hb hbox hg; have hcz6_0 : w5.cell? ⟨gb825, 0, none⟩ = some (.slice A0_0 l0_0.length c0_0) := (blk_cell BK825.out 0).trans rfl; have hcz6_1 : w5.cell? ⟨gb825, 1, none⟩ = some (.slice A0_1 l0_1.length c0_1) := (blk_cell BK825.out 1).trans rfl; have hfz6_0 := blk_frozen BK825.out 0; have hfz6_1 := blk_frozen BK825.out 1) | ((with_reducible refine gate_callee (f := 100) rfl ?_); refine goesL_ (some 10) rfl rfl Tryd.func100 (by kernel_rfl) rfl #[.slice A0_0 l0_0.length c0_0, .int .i64 a1] rfl el ?_; (with_reducible refine (slices_Index_int64_int64.calls k _ _ l0_0 a1 t826 _ ?side1 ?side2 A3.out).mono ?_); (case side1 => exact cq (Kd.C_below HR0_0.out HB.out)); (case side2 => exact HC0_0.out); rintro e w' ⟨rfl, ⟨nd, rfl⟩⟩; refine ⟨_, rfl, ?_⟩))
    go_ret2
    exact ⟨_, by first | rfl | (simp [errW_none, errW_some] <;> rfl) | (simp [*, errW_none, errW_some] <;> rfl), Kd.V_mono (Kd.R_V (ok := fun k_ => w.heap.size ≤ k_) (base := w.heap.size) (by first | exact Kd.R_nil _ _ _ _ _ | exact Kd.N_nil _ _ _ _ _ | exact Kd.V_nil _ _ _ _ _ | exact Kd.Q_nil _ _ _ _ _ | exact Kd.S_nil _ _ _ _ _)) (fun k_ hk => by first | exact ⟨(.inr (hk.1)), hk.2⟩ | exact (.inr (hk))), by exact hs HB.out⟩
  · rw [if_neg c4] at H
    have c4b0 : decide (t826 < 0) = false := decide_eq_false c4
    clear c4
    by_cases c7 : 0 ≤ t826
    · rw [if_pos c7] at H
      have c7b0 : decide (0 ≤ t826) = true := decide_eq_true c7
      clear c7
      by_cases c8 : t826 < (l0_1.length : Int)
      · rw [if_pos c8] at H
        have c8b0 : decide (t826 < (l0_1.length : Int)) = true := decide_eq_true c8
        clear c8
        simp only [Option.some.injEq, Prod.mk.injEq] at H
        obtain ⟨rfl, rfl⟩ := H
        go_enter Tryd.func105, Tryd.ntmps105
        go_wp2_with (first | ((with_reducible refine gate_dst (N := 2) rfl ?_); refine box_event ?hg (N := 2) ?hd (cs := #[.slice A0_0 l0_0.length c0_0, .slice A0_1 l0_1.length c0_1]) (t := 67) ?hr ?_; (case hd => rfl); (case hg => rfl); (case hr => first | (go_simp; done) | (go_simp; rfl)); intro gb825 hg w9 hbox hb; have n0_ := am (Kd.V_below (Kd.V_elderB (by (with_reducible repeat (first | apply Kd.V_alloc | apply Kd.V_drewN | apply Kd.V_drew)); exact HO0_1.out) gb825 (Nat.le_of_eq hg.symm)) hb); have n1_ := am (below_step (hq HB.out) hb); have n2_ := am (hbox); have n3_ := am (bz hg (hq HB.out)); have n4_ := n3_; clear HO0_1 HB; revert n0_ n1_ n2_ n3_ n4_; intro HO0_1 HB BK825 GW825 GE825; clear hb hbox hg; have hcz10_0 : w9.cell? ⟨gb825, 0, none⟩ = some (.slice A0_0 l0_0.length c0_0) := (blk_cell BK825.out 0).trans rfl; have hcz10_1 : w9.cell? ⟨gb825, 1, none⟩ = some (.slice A0_1 l0_1.length c0_1) := (blk_cell BK825.out 1).trans rfl; have hfz10_0 := blk_frozen BK825.out 0; have hfz10_1 := blk_frozen BK825.out 1) | ((with_reducible refine gate_callee (f := 100) rfl ?_); refine goesL_ (some 10) rfl rfl Tryd.func100 (by kernel_rfl) rfl #[.slice A0_0 l0_0.length c0_0, .int .i64 a1] rfl el ?_; (with_reducible refine (slices_Index_int64_int64.calls k _ _ l0_0 a1 t826 _ ?side1 ?side2 A3.out).mono ?_); (case side1 => exact cq (Kd.C_below HR0_0.out HB.out)); (case side2 => exact HC0_0.out); rintro e w' ⟨rfl, ⟨nd, rfl⟩⟩; refine ⟨_, rfl, ?_⟩; have p827 : 0 ≤ (t826 : Int) := of_decide_eq_true (by first | (with_reducible assumption) | assumption); have q827 : t826 < (l0_1.length : Int) := of_decide_eq_true (by first | (with_reducible assumption) | assumption); obtain ⟨ad827, A827_0, c827_0, e827, hx827_0, hl827_0, hi827_0⟩ := at_L6 (Kd.V_reads' HO0_1.out).2.2 t826 p827 q827; cases e827; obtain ⟨ce827, hce827, hMe827, hcc827⟩ := Kd.V_get HO0_1.out [] t826 p827 (by first | exact q827 | exact of_decide_eq_true (by first | (with_reducible assumption) | assumption) | (have e_ := (Kd.V_reads' HO0_1.out).1; omega)); obtain ⟨ua827_0, uc827_0, rfl, ul827_0, ge827_0⟩ := Kd.FK_slice_open hMe827; have hv827_0 := hcc827 0 _ rfl; rw [Nat.add_zero, show ((Kd.slice 2 (Kd.int .i64))).sz = 1 from rfl, Nat.mul_one] at hv827_0; replace hv827_0 := Option.some.inj (hv827_0.symm.trans hx827_0); injection hv827_0 with hva_ hvn_ hvc_; rw [hva_] at ge827_0; rw [hvc_] at ul827_0; have HL827_0 := am (show Kd.V (Kd.int .i64) 2 _ w.heap.size _ _ (rd_L6 l0_1 t826) from Kd.V_mk ul827_0 ge827_0); clear hva_ hvn_ hvc_ ge827_0 ul827_0; clear hcc827 hce827; have HR827_0 := am hi827_0; have HC827_0 := am hl827_0; clear hi827_0 hl827_0; replace p827 := eq_true p827; replace q827 := eq_true q827))
        go_ret2
        exact ⟨_, by first | rfl | (simp [errW_none, errW_some] <;> rfl) | (simp [*, errW_none, errW_some] <;> rfl), by (with_reducible repeat (first | apply Kd.V_alloc | apply Kd.V_drewN | apply Kd.V_drew)); exact Kd.V_mono HL827_0.out (fun _ hk => hk.1), by exact hs HB.out⟩
      · rw [if_neg c8] at H
        exact absurd H (by simp)
    · rw [if_neg c7] at H
      exact absurd H (by simp)
def impl_Binding_applied.l0 : Nat → List Int → List Int → Int → Int → List Int → List (List Int) → Option (List Int)
  | 0, _, _, _, _, _, _ => none
  | k + 1, x5, x11, x12, x13, x829000, x829001 => if x13 < x12 then (if 0 ≤ x13 then (if x13 < (x11.length : Int) then ((impl_Binding_of.f k x829000 x829001 (wrap64 ((-1) - (rd x11 x13)))).bind fun bt833 => (if bt833.2 = true then (if x5.length + bt833.1.length < 17592186044416 then (impl_Binding_applied.l0 k (x5 ++ bt833.1) x11 x12 (wrap64 (x13 + 1)) x829000 x829001) else (none)) else (if x5.length < 17592186044416 then (impl_Binding_applied.l0 k (x5 ++ [rd x11 x13]) x11 x12 (wrap64 (x13 + 1)) x829000 x829001) else (none)))) else (none)) else (none)) else (some x5)
def impl_Binding_applied.f (k : Nat) (l0_0 : List Int) (l0_1 : List (List Int)) (l1 : List Int) : Option (List Int) := impl_Binding_applied.l0 k (([] : List Int)) l1 (l1.length : Int) 0 l0_0 l0_1
set_option maxHeartbeats 8000000 in
set_option maxRecDepth 100000 in
theorem impl_Binding_applied.calls (k : Nat) (A0_0 : Option Addr) (c0_0 : Nat) (l0_0 : List Int) (A0_1 : Option Addr) (c0_1 : Nat) (l0_1 : List (List Int)) (A1 : Option Addr) (c1 : Nat) (l1 : List Int) (r : List Int) (w : World) (hr0_0 : Kd.C (Kd.int .i64) w A0_0 l0_0.length l0_0) (hc0_0 : l0_0.length ≤ c0_0) (hr0_1 : Kd.C (Kd.slice 2 (Kd.int .i64)) w A0_1 l0_1.length l0_1) (hc0_1 : l0_1.length ≤ c0_1) (hr1 : Kd.C (Kd.int .i64) w A1 l1.length l1) (hc1 : l1.length ≤ c1) (h : impl_Binding_applied.f k l0_0 l0_1 l1 = some r) :
    Calls Tryd.prog 71 #[.agg #[.slice A0_0 l0_0.length c0_0, .slice A0_1 l0_1.length c0_1], .slice A1 l1.length c1] w fun e w' => ∃ v0_ : Value, e = .returned (v0_) ∧ Kd.R (Kd.int .i64) 2 w' w.heap.size (fun _ => True) v0_ r ∧ Below w.heap.size w w' := by
  have hu67 := Tryd.underlying67
  have HR0_0 := am hr0_0
  have HC0_0 := am hc0_0
  clear hr0_0 hc0_0
  have HR0_1 := am hr0_1
  have HC0_1 := am hc0_1
  clear hr0_1 hc0_1
  have HR1 := am hr1
  have HC1 := am hc1
  clear hr1 hc1
  have HB := am (Below.refl w.heap.size w)
  have H : (impl_Binding_applied.l0 k (([] : List Int)) l1 (l1.length : Int) 0 l0_0 l0_1) = some r := h
  clear h
  obtain ⟨y829, hy829⟩ : ∃ y_ : List Int, y_ = (([] : List Int)) := ⟨_, rfl⟩
  replace H : (impl_Binding_applied.l0 k y829 l1 (l1.length : Int) 0 l0_0 l0_1) = some r := by first | (rw [hy829]; with_reducible exact H) | (have H2_ := (Option.bind_some _ _).symm.trans H; rw [hy829]; with_reducible exact H2_) | (have H2_ := (Option.bind_some _ _).symm.trans H; with_reducible exact H2_) | with_reducible exact H | (rw [hy829]; exact H) | exact H
  have Ny829 := am hy829
  clear hy829
  have H' := am H
  clear H
  go_enter Tryd.func71, Tryd.ntmps71
  go_wp2_with (first | ((with_reducible refine gate_dst (N := 2) rfl ?_); refine box_event ?hg (N := 2) ?hd (cs := #[.slice A0_0 l0_0.length c0_0, .slice A0_1 l0_1.length c0_1]) (t := 67) ?hr ?_; (case hd => rfl); (case hg => rfl); (case hr => first | (go_simp; done) | (go_simp; rfl)); intro gb828 hg w3 hbox hb; have n0_ := am (below_step (hq HB.out) hb); have n1_ := am (hbox); have n2_ := am (bz hg (hq HB.out)); have n3_ := n2_; clear HB; revert n0_ n1_ n2_ n3_; intro HB BK828 GW828 GE828; clear hb hbox hg) | ((with_reducible refine gate_dst (N := 10) rfl ?_); refine Kd.R_lit (Kd.int .i64) _ 2 ?hg (N := 10) ?hd (xs := ([] : List Int)) (inner := []) (ok := fun _ => True) (okp := fun _ => True) ?hr ?hp (fun _ hk => hk) trivial (Below.refl _ _) (Nat.le_refl _) (by simp) ?_; (case hd => rfl); (case hg => rfl); (case hr => first | (go_simp; done) | (go_simp; rfl)); (case hp => exact (Reps.none _ _)); intro v830 w4 ho5 hb hg_ hnew_; clear hg_ hnew_; (first | rw [← Ny829.out] at ho5 | (simp only [Int.reduceToNat] at ho5; rw [← Ny829.out] at ho5)); have n0_ := am (Kd.R_lower ho5 (below_size (hs HB.out))); have n1_ := am (blk_below (bq BK828.out) hb); have n2_ := am (below_step (hs HB.out) hb); clear BK828 HB; revert n0_ n1_ n2_; intro HO831 BK828 HB; clear hb ho5))
  go_loopg [5, 13] k (fun kq v5 v13 w' => ∃ (x5_1 : List Int) (x13_1 : Int), v13 = .int .i64 x13_1 ∧ Aside0 (impl_Binding_applied.l0 kq x5_1 l1 (l1.length : Int) x13_1 l0_0 l0_1 = some r) ∧ Aside0 (kq ≤ k) ∧ Aside0 (Kd.R (Kd.int .i64) 2 w' w.heap.size (fun _ => True) v5 x5_1) ∧ Aside0 (w'.heap[gb828]? = some (.cells #[(.slice A0_0 l0_0.length c0_0), (.slice A0_1 l0_1.length c0_1)] 67 (0, 0))) ∧ Aside0 (Below w.heap.size w w'))
  case atStart => exact ⟨(y829), (0), (by first | rfl | (simp; done) | (simp [*]; done)), H', ⟨Nat.le_refl _⟩, ⟨by (with_reducible repeat (first | apply Kd.R_alloc | apply Kd.R_drewN | apply Kd.R_drew)); exact HO831.out⟩, ⟨by refine bq ?_; exact BK828.out⟩, ⟨by exact hs HB.out⟩⟩
  case round =>
    clear H'
    try clear c1; try clear p2
    obtain ⟨x5_1, x13_1, rfl, HA, HK1, HO_5, BK828, HB⟩ := hrel
    cases gk with
    | zero => exact absurd HA.out (by simp [impl_Binding_applied.l0])
    | succ k1 =>
      have H := HA.out
      clear HA
      simp only [impl_Binding_applied.l0] at H
      by_cases c6 : x13_1 < (l1.length : Int)
      · rw [if_pos c6] at H
        have c6b0 : decide (x13_1 < (l1.length : Int)) = true := decide_eq_true c6
        clear c6
        by_cases c7 : 0 ≤ x13_1
        · rw [if_pos c7] at H
          have c7b0 : decide (0 ≤ x13_1) = true := decide_eq_true c7
          clear c7
          by_cases c8 : x13_1 < (l1.length : Int)
          · rw [if_pos c8] at H
            have c8b0 : decide (x13_1 < (l1.length : Int)) = true := decide_eq_true c8
            clear c8
            replace H := Option.bind_eq_some_iff.mp H
            obtain ⟨⟨t833, t836⟩, A90, H⟩ := H
            replace H : (if t836 = true then (if x5_1.length + t833.length < 17592186044416 then (impl_Binding_applied.l0 k1 (x5_1 ++ t833) l1 (l1.length : Int) (wrap64 (x13_1 + 1)) l0_0 l0_1) else (none)) else (if x5_1.length < 17592186044416 then (impl_Binding_applied.l0 k1 (x5_1 ++ [rd l1 x13_1]) l1 (l1.length : Int) (wrap64 (x13_1 + 1)) l0_0 l0_1) else (none))) = some r := H
            have A9 := am A90
            clear A90
            by_cases c10 : t836 = true
            · subst c10
              have H1 : (if x5_1.length + t833.length < 17592186044416 then (impl_Binding_applied.l0 k1 (x5_1 ++ t833) l1 (l1.length : Int) (wrap64 (x13_1 + 1)) l0_0 l0_1) else (none)) = some r := by rw [if_pos rfl] at H; exact H
              clear H
              have H := H1
              clear H1
              by_cases c11 : x5_1.length + t833.length < 17592186044416
              · rw [if_pos c11] at H
                have LMc11 := am c11
                clear c11
                obtain ⟨y837, hy837⟩ : ∃ y_ : List Int, y_ = (x5_1 ++ t833) := ⟨_, rfl⟩
                replace H : (impl_Binding_applied.l0 k1 y837 l1 (l1.length : Int) (wrap64 (x13_1 + 1)) l0_0 l0_1) = some r := by first | (rw [hy837]; with_reducible exact H) | (have H2_ := (Option.bind_some _ _).symm.trans H; rw [hy837]; with_reducible exact H2_) | (have H2_ := (Option.bind_some _ _).symm.trans H; with_reducible exact H2_) | with_reducible exact H | (rw [hy837]; exact H) | exact H
                have Ny837 := am hy837
                clear hy837
                have H' := am H
                clear H
                have p832 : 0 ≤ (x13_1 : Int) := of_decide_eq_true (by first | (with_reducible assumption) | assumption)
                have q832 : x13_1 < (l1.length : Int) := of_decide_eq_true (by first | (with_reducible assumption) | assumption)
                obtain ⟨ad832, e832, hx832_0⟩ := Kd.at_int HR1.out x13_1 p832 q832
                cases e832
                replace hx832_0 := (HB.out.cell (World.block_lt_of_cell? w _ hx832_0)).trans hx832_0
                replace p832 := eq_true p832
                replace q832 := eq_true q832
                have hcz12_0 : wr.cell? ⟨gb828, 0, none⟩ = some (.slice A0_0 l0_0.length c0_0) := (blk_cell BK828.out 0).trans rfl
                have hcz12_1 : wr.cell? ⟨gb828, 1, none⟩ = some (.slice A0_1 l0_1.length c0_1) := (blk_cell BK828.out 1).trans rfl
                have hfz12_0 := blk_frozen BK828.out 0
                have hfz12_1 := blk_frozen BK828.out 1
                go_wp2_with (first | ((with_reducible refine gate_callee (f := 105) rfl ?_); refine goesL_ (some 21) rfl rfl Tryd.func105 (by kernel_rfl) rfl #[.agg #[.slice A0_0 l0_0.length c0_0, .slice A0_1 l0_1.length c0_1], .int .i64 (wrap64 ((-1) - (rd l1 x13_1)))] rfl el ?_; (with_reducible refine (impl_Binding_of.calls k1 _ _ l0_0 (fun k_ => k_ < w.heap.size) _ _ l0_1 (wrap64 ((-1) - (rd l1 x13_1))) t833 true _ ?side1 ?side2 ?side3 A9.out).mono ?_); (case side1 => exact cq (Kd.C_below HR0_0.out HB.out)); (case side2 => exact HC0_0.out); (case side3 => exact Kd.V_mk HC0_1.out (Kd.F_below (Kd.C_F (Kd.heap_slice 2 (Kd.heap_int .i64)) HR0_1.out) (hs HB.out))); rintro e w13 ⟨v834, rfl, ho0, hb⟩; refine ⟨_, rfl, ?_⟩; have n0_ := am (Kd.R_below (rq HO_5.out) hb); have n1_ := am (Kd.V_lower (Kd.V_mono (ok' := fun k_ => some k_ ≠ (u5 : Value).ownBlock ∧ k_ ≠ gb828) ho0 (fun k_ hk_ => ⟨Or.elim hk_ (fun hs_ => fun e_ => Nat.not_le.2 hs_ (Kd.R_base HO_5.out k_ e_.symm)) (fun hn_ => (Kd.fresh' (Kd.R_lt (rq HO_5.out)) k_ hn_)), Or.elim hk_ (fun hs_ => fun e_ => Nat.not_le.2 hs_ (by rw [e_]; exact GW828.out)) (fun hn_ => (Kd.freshB (bq BK828.out) k_ hn_))⟩)) (below_size (hs HB.out))); have n2_ := am (blk_below (bq BK828.out) hb); have n3_ := am (below_step (hs HB.out) hb); clear HO_5 BK828 HB; revert n0_ n1_ n2_ n3_; intro HO_5 HO835 BK828 HB; (try clear hb); (try clear hb2); (try clear hgw); (try clear hk); (try clear hi); (try clear ho0); obtain ⟨Ao15, co15, eo15⟩ := Kd.V_slice HO835.out; subst eo15) | ((with_reducible refine gate_builtin (b := .append) (xs := #[.tmp 25, .tmp 26]) rfl ?_); at_builtin; refine Kd.R_append_rows (Kd.int .i64) (w0 := w) w.heap.size rfl (.tmp 25) (.tmp 26) 27 2 (.int .i64 0) 8 rfl Tryd.underlying27 info2 rfl (by decide) (by omega) u5 x5_1 t833 _ _ _ (fun _ => True) (fun _ => False) rfl rfl ?aO ?aR (fun _ _ h => h) (fun _ h => h.elim) ?aF ?aB ?aS ?aL ?_; (case aR => repeat (first | exact (Kd.V_reads' HO835.out).2.2 | (with_reducible refine Kd.C_alloc ?_ _) | (with_reducible refine Kd.C_drewN ?_ _) | (with_reducible refine Kd.C_drew ?_))); (case aB => exact (hs HB.out)); (case aF => exact (fun _ _ => trivial)); (case aO => exact (rq HO_5.out)); (case aS => exact (below_size (hs HB.out))); (case aL => have := LMc11.out; omega); intro v838 w14 ho hb hg hat; rw [← Ny837.out] at ho; have n0_ := am (blk_grown (bq BK828.out) hg (Kd.R_ne HO_5.out BK828.out (by decide))); have n1_ := am (Kd.V_afterv (ok := (fun k_ => k_ ≠ gb828)) (by (with_reducible repeat (first | apply Kd.V_alloc | apply Kd.V_drewN | apply Kd.V_drew)); exact Kd.V_mono HO835.out (fun _ hk => by first | exact ⟨hk.2, hk.1⟩ | exact ⟨hk.1, hk.2⟩ | trivial)) hg hat); have n2_ := am (hb); have n3_ := am (ho); clear BK828 HO835 HB HO_5; revert n0_ n1_ n2_ n3_; intro BK828 HO835 HB HO839; clear ho hb hg hat))
                go_roundg k1
                case measure => have := HK1.out; omega
                case rel => exact ⟨(y837), (wrap64 (x13_1 + 1)), (by first | rfl | (simp; done) | (simp [*]; done)), H', ⟨by have := HK1.out; omega⟩, ⟨by (with_reducible repeat (first | apply Kd.R_alloc | apply Kd.R_drewN | apply Kd.R_drew)); exact HO839.out⟩, ⟨by refine bq ?_; exact BK828.out⟩, ⟨by exact hs HB.out⟩⟩
              · rw [if_neg c11] at H
                exact absurd H (by simp)
            · replace c10 := Bool.eq_false_iff.mpr c10
              subst c10
              have H1 : (if x5_1.length < 17592186044416 then (impl_Binding_applied.l0 k1 (x5_1 ++ [rd l1 x13_1]) l1 (l1.length : Int) (wrap64 (x13_1 + 1)) l0_0 l0_1) else (none)) = some r := by rw [if_neg (show ¬ (false = true) by decide)] at H; exact H
              clear H
              have H := H1
              clear H1
              by_cases c16 : x5_1.length < 17592186044416
              · rw [if_pos c16] at H
                have LMc16 := am c16
                clear c16
                obtain ⟨y840, hy840⟩ : ∃ y_ : List Int, y_ = (x5_1 ++ [rd l1 x13_1]) := ⟨_, rfl⟩
                replace H : (impl_Binding_applied.l0 k1 y840 l1 (l1.length : Int) (wrap64 (x13_1 + 1)) l0_0 l0_1) = some r := by first | (rw [hy840]; with_reducible exact H) | (have H2_ := (Option.bind_some _ _).symm.trans H; rw [hy840]; with_reducible exact H2_) | (have H2_ := (Option.bind_some _ _).symm.trans H; with_reducible exact H2_) | with_reducible exact H | (rw [hy840]; exact H) | exact H
                have Ny840 := am hy840
                clear hy840
                have H' := am H
                clear H
                have p832 : 0 ≤ (x13_1 : Int) := of_decide_eq_true (by first | (with_reducible assumption) | assumption)
                have q832 : x13_1 < (l1.length : Int) := of_decide_eq_true (by first | (with_reducible assumption) | assumption)
                obtain ⟨ad832, e832, hx832_0⟩ := Kd.at_int HR1.out x13_1 p832 q832
                cases e832
                replace hx832_0 := (HB.out.cell (World.block_lt_of_cell? w _ hx832_0)).trans hx832_0
                replace p832 := eq_true p832
                replace q832 := eq_true q832
                have hcz17_0 : wr.cell? ⟨gb828, 0, none⟩ = some (.slice A0_0 l0_0.length c0_0) := (blk_cell BK828.out 0).trans rfl
                have hcz17_1 : wr.cell? ⟨gb828, 1, none⟩ = some (.slice A0_1 l0_1.length c0_1) := (blk_cell BK828.out 1).trans rfl
                have hfz17_0 := blk_frozen BK828.out 0
                have hfz17_1 := blk_frozen BK828.out 1
                go_wp2_with (first | ((with_reducible refine gate_callee (f := 105) rfl ?_); refine goesL_ (some 21) rfl rfl Tryd.func105 (by kernel_rfl) rfl #[.agg #[.slice A0_0 l0_0.length c0_0, .slice A0_1 l0_1.length c0_1], .int .i64 (wrap64 ((-1) - (rd l1 x13_1)))] rfl el ?_; (with_reducible refine (impl_Binding_of.calls k1 _ _ l0_0 (fun k_ => k_ < w.heap.size) _ _ l0_1 (wrap64 ((-1) - (rd l1 x13_1))) t833 false _ ?side1 ?side2 ?side3 A9.out).mono ?_); (case side1 => exact cq (Kd.C_below HR0_0.out HB.out)); (case side2 => exact HC0_0.out); (case side3 => exact Kd.V_mk HC0_1.out (Kd.F_below (Kd.C_F (Kd.heap_slice 2 (Kd.heap_int .i64)) HR0_1.out) (hs HB.out))); rintro e w18 ⟨v834, rfl, ho0, hb⟩; refine ⟨_, rfl, ?_⟩; have n0_ := am (Kd.R_below (rq HO_5.out) hb); have n1_ := am (Kd.V_lower (Kd.V_mono (ok' := fun k_ => some k_ ≠ (u5 : Value).ownBlock ∧ k_ ≠ gb828) ho0 (fun k_ hk_ => ⟨Or.elim hk_ (fun hs_ => fun e_ => Nat.not_le.2 hs_ (Kd.R_base HO_5.out k_ e_.symm)) (fun hn_ => (Kd.fresh' (Kd.R_lt (rq HO_5.out)) k_ hn_)), Or.elim hk_ (fun hs_ => fun e_ => Nat.not_le.2 hs_ (by rw [e_]; exact GW828.out)) (fun hn_ => (Kd.freshB (bq BK828.out) k_ hn_))⟩)) (below_size (hs HB.out))); have n2_ := am (blk_below (bq BK828.out) hb); have n3_ := am (below_step (hs HB.out) hb); clear HO_5 BK828 HB; revert n0_ n1_ n2_ n3_; intro HO_5 HO835 BK828 HB; (try clear hb); (try clear hb2); (try clear hgw); (try clear hk); (try clear hi); (try clear ho0)) | ((with_reducible refine gate_builtin (b := .append) (xs := #[.tmp 28, .tmp 30]) rfl ?_); at_builtin; refine Kd.R_append (Kd.int .i64) (w0 := w) w.heap.size rfl (.tmp 28) (.tmp 30) 27 2 (.int .i64 0) 8 rfl Tryd.underlying27 info2 rfl (by decide) (by omega) u5 x5_1 (rd l1 x13_1) [.int .i64 (rd l1 x13_1)] (fun _ => True) (fun _ => False) rfl rfl ?aP (fun _ hk => hk.elim) ?aF ?aO ?aB ?aS ?aL ?_; (case aP => exact rfl); (case aB => exact (hs HB.out)); (case aF => exact (fun _ _ => trivial)); (case aO => exact (rq HO_5.out)); (case aS => exact (below_size (hs HB.out))); (case aL => have := LMc16.out; omega); intro v841 w19 ho hb hg hat; rw [← Ny840.out] at ho; have n0_ := am (blk_grown (bq BK828.out) hg (Kd.R_ne HO_5.out BK828.out (by decide))); have n1_ := am (Kd.V_afterv (ok := (fun k_ => k_ ≠ gb828)) (by (with_reducible repeat (first | apply Kd.V_alloc | apply Kd.V_drewN | apply Kd.V_drew)); exact Kd.V_mono HO835.out (fun _ hk => by first | exact ⟨hk.2, hk.1⟩ | exact ⟨hk.1, hk.2⟩ | trivial)) hg hat); have n2_ := am (hb); have n3_ := am (ho); clear BK828 HO835 HB HO_5; revert n0_ n1_ n2_ n3_; intro BK828 HO835 HB HO842; clear ho hb hg hat))
                go_roundg k1
                case measure => have := HK1.out; omega
                case rel => exact ⟨(y840), (wrap64 (x13_1 + 1)), (by first | rfl | (simp; done) | (simp [*]; done)), H', ⟨by have := HK1.out; omega⟩, ⟨by (with_reducible repeat (first | apply Kd.R_alloc | apply Kd.R_drewN | apply Kd.R_drew)); exact HO842.out⟩, ⟨by refine bq ?_; exact BK828.out⟩, ⟨by exact hs HB.out⟩⟩
              · rw [if_neg c16] at H
                exact absurd H (by simp)
          · rw [if_neg c8] at H
            exact absurd H (by simp)
        · rw [if_neg c7] at H
          exact absurd H (by simp)
      · rw [if_neg c6] at H
        have c6b0 : decide (x13_1 < (l1.length : Int)) = false := decide_eq_false c6
        clear c6
        obtain rfl := Option.some.inj H
        go_wp2
        go_ret
        exact ⟨_, by first | rfl | (simp [errW_none, errW_some] <;> rfl) | (simp [*, errW_none, errW_some] <;> rfl), by (with_reducible repeat (first | apply Kd.R_alloc | apply Kd.R_drewN | apply Kd.R_drew)); exact HO_5.out, by exact hs HB.out⟩
def impl_ApplyBinding.f (k : Nat) (l0_0 : List (S110)) (l1_0 : List Int) (l1_1 : List (List Int)) (l2 : List Int) : Option (Int × List Int) := (impl_BindingFault.f k l0_0 l1_0 l1_1).bind fun t846 => ((impl_TermFault.f k l0_0 l2).bind fun t847 => ((impl_firstCode.f k (([t846, t847] : List Int))).bind fun t851 => (if t851 = 0 then ((impl_Binding_applied.f k l1_0 l1_1 l2).bind fun t852 => ((impl_fitting.f t852).bind fun bt855 => (some (bt855.1, bt855.2)))) else (some (t851, ([] : List Int))))))
def impl_ApplyBinding.T1 : Bool × List (List Nat × List Nat) := (true, [([], []), ([], []), ([0, 1], [0, 1]), ([], []), ([], []), ([3, 4, 2], [3, 4]), ([2, 5], [2, 5]), ([6, 5], [6]), ([7, 7, 0, 1, 2, 3, 4, 5, 6, 7], [7])])
def impl_ApplyBinding.B1 : List Nat := [0, 0, 3, 0, 0, 31, 63, 127, 255]
theorem impl_ApplyBinding.tab1 : rtab .any (opsOf Tryd.f34 1) = impl_ApplyBinding.T1 := by kernel_rfl
theorem impl_ApplyBinding.bits1 : waitsOk impl_ApplyBinding.T1.2 impl_ApplyBinding.B1 = true := by kernel_rfl
set_option maxHeartbeats 8000000 in
set_option maxRecDepth 100000 in
theorem impl_ApplyBinding.calls (k : Nat) (A0_0 : Option Addr) (c0_0 : Nat) (l0_0 : List (S110)) (A1_0 : Option Addr) (c1_0 : Nat) (l1_0 : List Int) (A1_1 : Option Addr) (c1_1 : Nat) (l1_1 : List (List Int)) (A2 : Option Addr) (c2 : Nat) (l2 : List Int) (r1 : Int) (r2 : List Int) (w : World) (hr0_0 : Kd.C k110 w A0_0 l0_0.length l0_0) (hc0_0 : l0_0.length ≤ c0_0) (hr1_0 : Kd.C (Kd.int .i64) w A1_0 l1_0.length l1_0) (hc1_0 : l1_0.length ≤ c1_0) (hr1_1 : Kd.C (Kd.slice 2 (Kd.int .i64)) w A1_1 l1_1.length l1_1) (hc1_1 : l1_1.length ≤ c1_1) (hr2 : Kd.C (Kd.int .i64) w A2 l2.length l2) (hc2 : l2.length ≤ c2) (h : impl_ApplyBinding.f k l0_0 l1_0 l1_1 l2 = some (r1, r2)) :
    Calls Tryd.prog 34 #[.agg #[.slice A0_0 l0_0.length c0_0], .agg #[.slice A1_0 l1_0.length c1_0, .slice A1_1 l1_1.length c1_1], .slice A2 l2.length c2] w fun e w' => ∃ v1_ : Value, e = .returned (.agg #[.int .i64 r1, v1_]) ∧ Kd.R (Kd.int .i64) 2 w' w.heap.size (fun _ => True) v1_ r2 ∧ Below w.heap.size w w' := by
  have hu26 := Tryd.underlying26
  have hu67 := Tryd.underlying67
  have hu65 := Tryd.underlying65
  have HR0_0 := am hr0_0
  have HC0_0 := am hc0_0
  clear hr0_0 hc0_0
  have HR1_0 := am hr1_0
  have HC1_0 := am hc1_0
  clear hr1_0 hc1_0
  have HR1_1 := am hr1_1
  have HC1_1 := am hc1_1
  clear hr1_1 hc1_1
  have HR2 := am hr2
  have HC2 := am hc2
  clear hr2 hc2
  have HB := am (Below.refl w.heap.size w)
  have H : ((impl_BindingFault.f k l0_0 l1_0 l1_1).bind fun t846 => ((impl_TermFault.f k l0_0 l2).bind fun t847 => ((impl_firstCode.f k (([t846, t847] : List Int))).bind fun t851 => (if t851 = 0 then ((impl_Binding_applied.f k l1_0 l1_1 l2).bind fun t852 => ((impl_fitting.f t852).bind fun bt855 => (some (bt855.1, bt855.2)))) else (some (t851, ([] : List Int))))))) = some (r1, r2) := h
  clear h
  replace H := Option.bind_eq_some_iff.mp H
  obtain ⟨t846, A40, H⟩ := H
  replace H : ((impl_TermFault.f k l0_0 l2).bind fun t847 => ((impl_firstCode.f k (([t846, t847] : List Int))).bind fun t851 => (if t851 = 0 then ((impl_Binding_applied.f k l1_0 l1_1 l2).bind fun t852 => ((impl_fitting.f t852).bind fun bt855 => (some (bt855.1, bt855.2)))) else (some (t851, ([] : List Int)))))) = some (r1, r2) := H
  have A4 := am A40
  clear A40
  replace H := Option.bind_eq_some_iff.mp H
  obtain ⟨t847, A50, H⟩ := H
  replace H : ((impl_firstCode.f k (([t846, t847] : List Int))).bind fun t851 => (if t851 = 0 then ((impl_Binding_applied.f k l1_0 l1_1 l2).bind fun t852 => ((impl_fitting.f t852).bind fun bt855 => (some (bt855.1, bt855.2)))) else (some (t851, ([] : List Int))))) = some (r1, r2) := H
  have A5 := am A50
  clear A50
  obtain ⟨y848, hy848⟩ : ∃ y_ : List Int, y_ = (([t846, t847] : List Int)) := ⟨_, rfl⟩
  replace H : ((impl_firstCode.f k y848).bind fun t851 => (if t851 = 0 then ((impl_Binding_applied.f k l1_0 l1_1 l2).bind fun t852 => ((impl_fitting.f t852).bind fun bt855 => (some (bt855.1, bt855.2)))) else (some (t851, ([] : List Int))))) = some (r1, r2) := by first | (rw [hy848]; with_reducible exact H) | (have H2_ := (Option.bind_some _ _).symm.trans H; rw [hy848]; with_reducible exact H2_) | (have H2_ := (Option.bind_some _ _).symm.trans H; with_reducible exact H2_) | with_reducible exact H | (rw [hy848]; exact H) | exact H
  have Ny848 := am hy848
  clear hy848
  replace H := Option.bind_eq_some_iff.mp H
  obtain ⟨t851, A60, H⟩ := H
  replace H : (if t851 = 0 then ((impl_Binding_applied.f k l1_0 l1_1 l2).bind fun t852 => ((impl_fitting.f t852).bind fun bt855 => (some (bt855.1, bt855.2)))) else (some (t851, ([] : List Int)))) = some (r1, r2) := H
  have A6 := am A60
  clear A60
  by_cases c7 : t851 = 0
  · rw [if_pos c7] at H
    have c7b0 : (t851 == 0) = true := beq_iff_eq.mpr c7
    have c7b1 : (t851 != 0) = false := bne_eq_false_iff_eq.mpr c7
    clear c7
    replace H := Option.bind_eq_some_iff.mp H
    obtain ⟨t852, A80, H⟩ := H
    replace H : ((impl_fitting.f t852).bind fun bt855 => (some (bt855.1, bt855.2))) = some (r1, r2) := H
    have A8 := am A80
    clear A80
    replace H := Option.bind_eq_some_iff.mp H
    obtain ⟨⟨t855, t856⟩, A90, H⟩ := H
    replace H : (some (t855, t856)) = some (r1, r2) := H
    have A9 := am A90
    clear A90
    simp only [Option.some.injEq, Prod.mk.injEq] at H
    obtain ⟨rfl, rfl⟩ := H
    go_enter Tryd.func34, Tryd.ntmps34
    try go_wp2_with (first | ((with_reducible refine gate_dst (N := 3) rfl ?_); refine box_event ?hg (N := 3) ?hd (cs := #[.slice A0_0 l0_0.length c0_0]) (t := 26) ?hr ?_; (case hd => rfl); (case hg => rfl); (case hr => first | (go_simp; done) | (go_simp; rfl)); intro gb843 hg w10 hbox hb; have n0_ := am (below_step (hq HB.out) hb); have n1_ := am (hbox); have n2_ := am (bz hg (hq HB.out)); have n3_ := n2_; clear HB; revert n0_ n1_ n2_ n3_; intro HB BK843 GW843 GE843; clear hb hbox hg) | ((with_reducible refine gate_dst (N := 4) rfl ?_); refine box_event ?hg (N := 4) ?hd (cs := #[.slice A1_0 l1_0.length c1_0, .slice A1_1 l1_1.length c1_1]) (t := 67) ?hr ?_; (case hd => rfl); (case hg => rfl); (case hr => first | (go_simp; done) | (go_simp; rfl)); intro gb844 hg w11 hbox hb; have n0_ := am (blk_below (bq BK843.out) hb); have n1_ := am (below_step (hs HB.out) hb); have n2_ := am (hbox); have n3_ := am (bz hg (hs HB.out)); have n4_ := n3_; have n5_ := am ((by rw [hg]; exact Nat.ne_of_lt (blk_lt (bq BK843.out)) : gb843 ≠ gb844)); have n6_ := am ((by rw [hg]; exact Nat.ne_of_gt (blk_lt (bq BK843.out)) : gb844 ≠ gb843)); clear BK843 HB; revert n0_ n1_ n2_ n3_ n4_ n5_ n6_; intro BK843 HB BK844 GW844 GE844 NB843_844 NB844_843; clear hb hbox hg) | ((with_reducible refine gate_dst (N := 6) rfl ?_); refine box_event ?hg (N := 6) ?hd (cs := #[.int .i64 0, .slice none 0 0]) (t := 65) ?hr ?_; (case hd => rfl); (case hg => rfl); (case hr => first | (go_simp; done) | (go_simp; rfl)); intro gb845 hg w12 hbox hb; have n0_ := am (blk_below (bq BK843.out) hb); have n1_ := am (blk_below (bq BK844.out) hb); have n2_ := am (below_step (hs HB.out) hb); have n3_ := am (hbox); have n4_ := am (bz hg (hs HB.out)); have n5_ := n4_; have n6_ := am ((by rw [hg]; exact Nat.ne_of_lt (blk_lt (bq BK843.out)) : gb843 ≠ gb845)); have n7_ := am ((by rw [hg]; exact Nat.ne_of_gt (blk_lt (bq BK843.out)) : gb845 ≠ gb843)); have n8_ := am ((by rw [hg]; exact Nat.ne_of_lt (blk_lt (bq BK844.out)) : gb844 ≠ gb845)); have n9_ := am ((by rw [hg]; exact Nat.ne_of_gt (blk_lt (bq BK844.out)) : gb845 ≠ gb844)); clear BK843 BK844 HB; revert n0_ n1_ n2_ n3_ n4_ n5_ n6_ n7_ n8_ n9_; intro BK843 BK844 HB BK845 GW845 GE845 NB843_845 NB845_843 NB844_845 NB845_844; clear hb hbox hg))
    have n0_ := am (blk_drew BK843.out)
    have n1_ := am (blk_drew BK844.out)
    have n2_ := am (blk_drew BK845.out)
    have n3_ := am (below_drew1 HB.out)
    clear BK843 BK844 BK845 HB; revert n0_ n1_ n2_ n3_; intro BK843 BK844 BK845 HB
    refine start_ (n := 9) (S := fun w' => w'.cell? ⟨gb843, 0, none⟩ = some (.slice A0_0 l0_0.length c0_0) ∧ w'.cell? ⟨gb844, 0, none⟩ = some (.slice A1_0 l1_0.length c1_0) ∧ w'.cell? ⟨gb844, 1, none⟩ = some (.slice A1_1 l1_1.length c1_1)) (ds := []) #[false, false, false, false, false, false, false, false, false] (by kernel_rfl) rfl rfl ⟨(blk_cell BK843.out 0).trans rfl, (blk_cell BK844.out 0).trans rfl, (blk_cell BK844.out 1).trans rfl⟩ (fun hHeld => ?_); refine with_tabW impl_ApplyBinding.tab1 impl_ApplyBinding.bits1 (fun HT_ HW_ => ?_)
    generalize w12.drew = w13 at BK843 BK844 BK845 HB hHeld ⊢
    refine pure_ (i := 4) (N := some 12) (v := ?_) (a' := ?_) #[false, false, false, false, true, false, false, false, false] rfl rfl (any_of HT_.out (by kernel_rfl)) (fun _ _ _ h => h) (Or.inl ⟨by rfl, ?_⟩) ?_ ?_
    rotate_left
    · intro w'
      go_simp
      with_reducible rfl
    rotate_left
    · simp only [Act.put, lsp, i64_w, i32_w]
      rfl
    refine take_ (i := 0) (N := some 8) (v := ?_) (a' := ?_) #[true, false, false, false, true, false, false, false, false] rfl rfl (take_ofW HT_.out HW_.out (by kernel_rfl)) (fun _ _ _ h => h) (Or.inl ⟨by rfl, ?_⟩) hHeld ?_ ?_
    rotate_left
    · rintro w' ⟨s0, s1, s2⟩
      go_simp
      with_reducible rfl
    rotate_left
    · simp only [Act.put, lsp, i64_w, i32_w]
      rfl
    refine take_ (i := 1) (N := some 9) (v := ?_) (a' := ?_) #[true, true, false, false, true, false, false, false, false] rfl rfl (take_ofW HT_.out HW_.out (by kernel_rfl)) (fun _ _ _ h => h) (Or.inl ⟨by rfl, ?_⟩) hHeld ?_ ?_
    rotate_left
    · rintro w' ⟨s0, s1, s2⟩
      go_simp
      with_reducible rfl
    rotate_left
    · simp only [Act.put, lsp, i64_w, i32_w]
      rfl
    refine take_ (i := 3) (N := some 11) (v := ?_) (a' := ?_) #[true, true, false, true, true, false, false, false, false] rfl rfl (take_ofW HT_.out HW_.out (by kernel_rfl)) (fun _ _ _ h => h) (Or.inl ⟨by rfl, ?_⟩) hHeld ?_ ?_
    rotate_left
    · rintro w' ⟨s0, s1, s2⟩
      go_simp
      with_reducible rfl
    rotate_left
    · simp only [Act.put, lsp, i64_w, i32_w]
      rfl
    refine one_ (i := 2) (N := some 10) #[true, true, true, true, true, false, false, false, false] rfl rfl (one_of HT_.out (by kernel_rfl)) (by decide) (fun K hK => ?_)
    refine goes_ Tryd.func69 (by kernel_rfl) rfl #[.agg #[.slice A0_0 l0_0.length c0_0], .agg #[.slice A1_0 l1_0.length c1_0, .slice A1_1 l1_1.length c1_1]] (by rfl) rfl rfl el ?_
    with_reducible refine (impl_BindingFault.calls k _ _ l0_0 _ _ l1_0 _ _ l1_1 t846 _ ?side1 ?side2 ?side3 ?side4 ?side5 ?side6 A4.out).mono ?_
    (case side1 => exact cq (Kd.C_below HR0_0.out HB.out))
    (case side2 => exact HC0_0.out)
    (case side3 => exact cq (Kd.C_below HR1_0.out HB.out))
    (case side4 => exact HC1_0.out)
    (case side5 => exact cq (Kd.C_below HR1_1.out HB.out))
    (case side6 => exact HC1_1.out)
    rintro e w14 ⟨rfl, hb⟩
    refine ⟨_, rfl, ?_⟩
    have n0_ := am (blk_below (bq BK843.out) hb)
    have n1_ := am (blk_below (bq BK844.out) hb)
    have n2_ := am (blk_below (bq BK845.out) hb)
    have n3_ := am (below_step (hs HB.out) hb)
    clear BK843 BK844 BK845 HB; revert n0_ n1_ n2_ n3_; intro BK843 BK844 BK845 HB
    (try clear hb)
    (try clear hb2)
    (try clear hgw)
    (try clear hk)
    (try clear hi)
    refine hK.out _ _ ⟨(blk_cell BK843.out 0).trans rfl, (blk_cell BK844.out 0).trans rfl, (blk_cell BK844.out 1).trans rfl⟩ (fun hHeld => ?_)
    clear hK K
    refine norm_ (a' := ?_) ?_ ?_
    rotate_left
    · show Act.put _ (some 10) _ = _
      simp only [Act.put, lsp, i64_w, i32_w]
      rfl
    refine one_ (i := 5) (N := some 13) #[true, true, true, true, true, true, false, false, false] rfl rfl (one_of HT_.out (by kernel_rfl)) (by decide) (fun K hK => ?_)
    refine goes_ Tryd.func10 (by kernel_rfl) rfl #[.agg #[.slice A0_0 l0_0.length c0_0], .slice A2 l2.length c2] (by rfl) rfl rfl el ?_
    with_reducible refine (impl_TermFault.calls k _ _ l0_0 _ _ l2 t847 _ ?side1 ?side2 ?side3 ?side4 A5.out).mono ?_
    (case side1 => exact cq (Kd.C_below HR0_0.out HB.out))
    (case side2 => exact HC0_0.out)
    (case side3 => exact cq (Kd.C_below HR2.out HB.out))
    (case side4 => exact HC2.out)
    rintro e w15 ⟨rfl, hb⟩
    refine ⟨_, rfl, ?_⟩
    have n0_ := am (blk_below (bq BK843.out) hb)
    have n1_ := am (blk_below (bq BK844.out) hb)
    have n2_ := am (blk_below (bq BK845.out) hb)
    have n3_ := am (below_step (hs HB.out) hb)
    clear BK843 BK844 BK845 HB; revert n0_ n1_ n2_ n3_; intro BK843 BK844 BK845 HB
    (try clear hb)
    (try clear hb2)
    (try clear hgw)
    (try clear hk)
    (try clear hi)
    refine hK.out _ _ ⟨(blk_cell BK843.out 0).trans rfl, (blk_cell BK844.out 0).trans rfl, (blk_cell BK844.out 1).trans rfl⟩ (fun hHeld => ?_)
    clear hK K
    refine norm_ (a' := ?_) ?_ ?_
    rotate_left
    · show Act.put _ (some 13) _ = _
      simp only [Act.put, lsp, i64_w, i32_w]
      rfl
    refine one_ (i := 6) (N := some 14) #[true, true, true, true, true, true, true, false, false] rfl rfl (one_of HT_.out (by kernel_rfl)) (by decide) (fun K hK => ?_)
    refine Kd.R_lit_step (Kd.int .i64) _ 2 ?hg (N := 14) ?hd (xs := ([t846, t847] : List Int)) (inner := [.int .i64 t846, .int .i64 t847]) (ok := fun _ => True) (okp := fun _ => True) ?hr ?hp (fun _ hk => hk) trivial (Below.refl _ _) (Nat.le_refl _) (by simp) ?_; (case hd => rfl); (case hg => rfl); (case hr => first | (go_simp; done) | (go_simp; rfl)); (case hp => exact (Reps.one (show Kd.M (Kd.int .i64) _ _ _ t846 [.int .i64 t846] from rfl) (Reps.one (show Kd.M (Kd.int .i64) _ _ _ t847 [.int .i64 t847] from rfl) (Reps.none _ _))))
    intro v849 w16 ho17 hb hg_ hnew_
    clear hg_ hnew_
    (first | rw [← Ny848.out] at ho17 | (simp only [Int.reduceToNat] at ho17; rw [← Ny848.out] at ho17))
    have n0_ := am (Kd.R_lower ho17 (below_size (hs HB.out)))
    have n1_ := am (blk_below (bq BK843.out) hb)
    have n2_ := am (blk_below (bq BK844.out) hb)
    have n3_ := am (blk_below (bq BK845.out) hb)
    have n4_ := am (below_step (hs HB.out) hb)
    clear BK843 BK844 BK845 HB; revert n0_ n1_ n2_ n3_ n4_; intro HO850 BK843 BK844 BK845 HB
    clear hb ho17
    obtain ⟨Ao18, co18, eo18⟩ := Kd.R_slice HO850.out
    (first | subst eo18 | (injection eo18 with f1_ f2_ f3_; have f4_ := f1_.symm; have f5_ := f3_.symm; clear f1_ f2_ f3_; subst f4_; subst f5_))
    refine hK.out _ _ ⟨(blk_cell BK843.out 0).trans rfl, (blk_cell BK844.out 0).trans rfl, (blk_cell BK844.out 1).trans rfl⟩ (fun hHeld => ?_)
    clear hK K
    refine norm_ (a' := ?_) ?_ ?_
    rotate_left
    · show Act.put _ (some 14) _ = _
      simp only [Act.put, lsp, i64_w, i32_w]
      rfl
    refine one_ (i := 7) (N := some 15) #[true, true, true, true, true, true, true, true, false] rfl rfl (one_of HT_.out (by kernel_rfl)) (by decide) (fun K hK => ?_)
    refine goes_ Tryd.func60 (by kernel_rfl) rfl #[.slice Ao18 y848.length co18] (by rfl) rfl rfl el ?_
    with_reducible refine (impl_firstCode.calls k _ _ y848 t851 _ ?side1 ?side2 A6.out).mono ?_
    (case side1 => repeat (first | exact (Kd.R_reads' HO850.out).2.2 | (with_reducible refine Kd.C_alloc ?_ _) | (with_reducible refine Kd.C_drewN ?_ _) | (with_reducible refine Kd.C_drew ?_)))
    (case side2 => exact (Kd.R_reads' HO850.out).2.1)
    rintro e w19 ⟨rfl, hb⟩
    refine ⟨_, rfl, ?_⟩
    have n0_ := am (Kd.R_below (rq HO850.out) hb)
    have n1_ := am (blk_below (bq BK843.out) hb)
    have n2_ := am (blk_below (bq BK844.out) hb)
    have n3_ := am (blk_below (bq BK845.out) hb)
    have n4_ := am (below_step (hs HB.out) hb)
    clear HO850 BK843 BK844 BK845 HB; revert n0_ n1_ n2_ n3_ n4_; intro HO850 BK843 BK844 BK845 HB
    (try clear hb)
    (try clear hb2)
    (try clear hgw)
    (try clear hk)
    (try clear hi)
    refine hK.out _ _ ⟨(blk_cell BK843.out 0).trans rfl, (blk_cell BK844.out 0).trans rfl, (blk_cell BK844.out 1).trans rfl⟩ (fun hHeld => ?_)
    clear hK K
    refine norm_ (a' := ?_) ?_ ?_
    rotate_left
    · show Act.put _ (some 15) _ = _
      simp only [Act.put, lsp, i64_w, i32_w]
      rfl
    refine pure_ (i := 8) (N := some 7) (v := ?_) (a' := ?_) #[true, true, true, true, true, true, true, true, true] rfl rfl (any_of HT_.out (by kernel_rfl)) (fun _ _ _ h => h) (Or.inl ⟨by rfl, ?_⟩) ?_ ?_
    rotate_left
    · intro w'
      go_simp
      with_reducible rfl
    rotate_left
    · simp only [Act.put, lsp, i64_w, i32_w]
      rfl
    refine done_ (done_of HT_.out (by kernel_rfl)) ?_
    have hnb20 := NB844_843.out
    have hnc20 := NB843_844.out
    have hnb21 := NB844_845.out
    have hnc21 := NB845_844.out
    have hcz22_0 : w19.cell? ⟨gb844, 0, none⟩ = some (.slice A1_0 l1_0.length c1_0) := (blk_cell BK844.out 0).trans rfl
    have hcz22_1 : w19.cell? ⟨gb844, 1, none⟩ = some (.slice A1_1 l1_1.length c1_1) := (blk_cell BK844.out 1).trans rfl
    have hfz22_0 := blk_frozen BK844.out 0
    have hfz22_1 := blk_frozen BK844.out 1
    try go_wp2_with (first | ((with_reducible refine gate_callee (f := 71) rfl ?_); refine goesL_ (some 22) rfl rfl Tryd.func71 (by kernel_rfl) rfl #[.agg #[.slice A1_0 l1_0.length c1_0, .slice A1_1 l1_1.length c1_1], .slice A2 l2.length c2] rfl el ?_; (with_reducible refine (impl_Binding_applied.calls k _ _ l1_0 _ _ l1_1 _ _ l2 t852 _ ?side1 ?side2 ?side3 ?side4 ?side5 ?side6 A8.out).mono ?_); (case side1 => exact cq (Kd.C_below HR1_0.out HB.out)); (case side2 => exact HC1_0.out); (case side3 => exact cq (Kd.C_below HR1_1.out HB.out)); (case side4 => exact HC1_1.out); (case side5 => exact cq (Kd.C_below HR2.out HB.out)); (case side6 => exact HC2.out); rintro e w23 ⟨v853, rfl, ho0, hb⟩; refine ⟨_, rfl, ?_⟩; have n0_ := am (Kd.R_elder' (rq HO850.out) (Kd.R_base ho0) hb); have n1_ := am (Kd.R_lower (Kd.R_new' ho0 (Kd.R_lt (rq HO850.out))) (below_size (hs HB.out))); have n2_ := am (blk_below (bq BK843.out) hb); have n3_ := am (blk_below (bq BK844.out) hb); have n4_ := am (blk_below (bq BK845.out) hb); have n5_ := am (below_step (hs HB.out) hb); clear HO850 BK843 BK844 BK845 HB; revert n0_ n1_ n2_ n3_ n4_ n5_; intro HO850 HO854 BK843 BK844 BK845 HB; (try clear hb); (try clear hb2); (try clear hgw); (try clear hk); (try clear hi); (try clear ho0); obtain ⟨Ao24, co24, eo24⟩ := Kd.R_slice HO854.out; subst eo24) | ((with_reducible refine gate_callee (f := 70) rfl ?_); refine goesL_ (some 23) rfl rfl Tryd.func70 (by kernel_rfl) rfl #[.slice Ao24 t852.length co24] rfl el ?_; (with_reducible refine (impl_fitting.calls (fun k_ => some k_ = (.slice Ao24 t852.length co24 : Value).ownBlock) (.slice Ao24 t852.length co24) t852 t855 t856 w _ ?side1 ?side2 A9.out).mono ?_); (case side1 => exact hs HB.out); (case side2 => exact Kd.R_tight rfl HO854.out); rintro e w25 ⟨v857, rfl, ho0, hb, hkp⟩; refine ⟨_, rfl, ?_⟩; have n0_ := am (blk_keptF BK843.out (fun h_ => by refine bq ?_; exact h_) hkp (fun hs_ => (fun e_ => (Kd.R_ne HO854.out BK843.out (by decide)) e_) hs_)); have n1_ := am (blk_keptF BK844.out (fun h_ => by refine bq ?_; exact h_) hkp (fun hs_ => (fun e_ => (Kd.R_ne HO854.out BK844.out (by decide)) e_) hs_)); have n2_ := am (blk_keptF BK845.out (fun h_ => by refine bq ?_; exact h_) hkp (fun hs_ => (fun e_ => (Kd.R_ne HO854.out BK845.out (by decide)) e_) hs_)); have n3_ := am (Kd.R_mono (ok' := fun k_ => some k_ ≠ (v857 : Value).ownBlock) (Kd.R_keptB (HO850.out) hkp (fun k_ hk_ hs_ => (hk_.2) hs_)) (fun k_ hk_ => fun e_ => Or.elim (ho0.1 k_ e_.symm) (fun hs_ => hk_.2.1 hs_) (fun hn_ => Nat.not_le.2 hk_.2.2 hn_))); have n4_ := am (Kd.R_mono (ok' := fun k_ => some k_ ≠ (.slice Ao18 y848.length co18 : Value).ownBlock) ho0 (fun k_ hk_ => Or.elim hk_ (fun hs_ => fun e_ => (((HO850.out).1 k_ e_.symm).2) hs_) (fun hn_ => (Kd.fresh' (Kd.R_lt (rq HO850.out)) k_ hn_)))); have n5_ := am (hb); clear BK843 BK844 BK845 HO850 HB HO854; revert n0_ n1_ n2_ n3_ n4_ n5_; intro BK843 BK844 BK845 HO850 HO858 HB; (try clear hb); (try clear hkp); (try clear ho0); have hnb26 := NB845_843.out; have hnc26 := NB843_845.out; have hcz27_0 : w25.cell? ⟨gb845, 0, none⟩ = some (.int .i64 0) := (blk_cell BK845.out 0).trans rfl; have hcz27_1 : w25.cell? ⟨gb845, 1, none⟩ = some (.slice none 0 0) := (blk_cell BK845.out 1).trans rfl; have hfz27_0 := blk_frozen BK845.out 0; have hfz27_1 := blk_frozen BK845.out 1; obtain ⟨Ao28, co28, eo28⟩ := Kd.R_slice HO858.out; subst eo28))
    refine bodyPost_ret (results_cell_row rfl _ _ gb845 65 #[.int .i64 t855, .slice Ao28 t856.length co28] (0, 0) _ rfl (by refine bq ?_; refine blk_put (cs := #[.int .i64 t855, .slice none 0 0]) ?_ 1 _ rfl; refine bq ?_; refine blk_put (cs := #[.int .i64 0, .slice none 0 0]) ?_ 0 _ rfl; refine bq ?_; exact BK845.out) Tryd.underlying65 rfl (by kernel_rfl)) rfl ?_
    exact ⟨_, by first | rfl | (simp [errW_none, errW_some] <;> rfl) | (simp [*, errW_none, errW_some] <;> rfl), by (with_reducible repeat (first | apply Kd.R_alloc | apply Kd.R_drewN | apply Kd.R_drew)); exact Kd.R_mono (Kd.R_far (p := ⟨gb845, 1, none⟩) (Kd.R_far (p := ⟨gb845, 0, none⟩) (Kd.R_types HO858.out BK845.out (by decide)) (fun _ hk => hk.2) (.int .i64 t855)) (fun _ hk => hk.2) (.slice Ao28 t856.length co28)) (fun _ hk => trivial), by exact hs HB.out⟩
  · rw [if_neg c7] at H
    have c7b0 : (t851 == 0) = false := beq_eq_false_iff_ne.mpr c7
    have c7b1 : (t851 != 0) = true := bne_iff_ne.mpr c7
    simp only [Option.some.injEq, Prod.mk.injEq] at H
    obtain ⟨rfl, rfl⟩ := H
    go_enter Tryd.func34, Tryd.ntmps34
    try go_wp2_with (first | ((with_reducible refine gate_dst (N := 3) rfl ?_); refine box_event ?hg (N := 3) ?hd (cs := #[.slice A0_0 l0_0.length c0_0]) (t := 26) ?hr ?_; (case hd => rfl); (case hg => rfl); (case hr => first | (go_simp; done) | (go_simp; rfl)); intro gb843 hg w29 hbox hb; have n0_ := am (below_step (hq HB.out) hb); have n1_ := am (hbox); have n2_ := am (bz hg (hq HB.out)); have n3_ := n2_; clear HB; revert n0_ n1_ n2_ n3_; intro HB BK843 GW843 GE843; clear hb hbox hg) | ((with_reducible refine gate_dst (N := 4) rfl ?_); refine box_event ?hg (N := 4) ?hd (cs := #[.slice A1_0 l1_0.length c1_0, .slice A1_1 l1_1.length c1_1]) (t := 67) ?hr ?_; (case hd => rfl); (case hg => rfl); (case hr => first | (go_simp; done) | (go_simp; rfl)); intro gb844 hg w30 hbox hb; have n0_ := am (blk_below (bq BK843.out) hb); have n1_ := am (below_step (hs HB.out) hb); have n2_ := am (hbox); have n3_ := am (bz hg (hs HB.out)); have n4_ := n3_; have n5_ := am ((by rw [hg]; exact Nat.ne_of_lt (blk_lt (bq BK843.out)) : gb843 ≠ gb844)); have n6_ := am ((by rw [hg]; exact Nat.ne_of_gt (blk_lt (bq BK843.out)) : gb844 ≠ gb843)); clear BK843 HB; revert n0_ n1_ n2_ n3_ n4_ n5_ n6_; intro BK843 HB BK844 GW844 GE844 NB843_844 NB844_843; clear hb hbox hg) | ((with_reducible refine gate_dst (N := 6) rfl ?_); refine box_event ?hg (N := 6) ?hd (cs := #[.int .i64 0, .slice none 0 0]) (t := 65) ?hr ?_; (case hd => rfl); (case hg => rfl); (case hr => first | (go_simp; done) | (go_simp; rfl)); intro gb845 hg w31 hbox hb; have n0_ := am (blk_below (bq BK843.out) hb); have n1_ := am (blk_below (bq BK844.out) hb); have n2_ := am (below_step (hs HB.out) hb); have n3_ := am (hbox); have n4_ := am (bz hg (hs HB.out)); have n5_ := n4_; have n6_ := am ((by rw [hg]; exact Nat.ne_of_lt (blk_lt (bq BK843.out)) : gb843 ≠ gb845)); have n7_ := am ((by rw [hg]; exact Nat.ne_of_gt (blk_lt (bq BK843.out)) : gb845 ≠ gb843)); have n8_ := am ((by rw [hg]; exact Nat.ne_of_lt (blk_lt (bq BK844.out)) : gb844 ≠ gb845)); have n9_ := am ((by rw [hg]; exact Nat.ne_of_gt (blk_lt (bq BK844.out)) : gb845 ≠ gb844)); clear BK843 BK844 HB; revert n0_ n1_ n2_ n3_ n4_ n5_ n6_ n7_ n8_ n9_; intro BK843 BK844 HB BK845 GW845 GE845 NB843_845 NB845_843 NB844_845 NB845_844; clear hb hbox hg))
    have n0_ := am (blk_drew BK843.out)
    have n1_ := am (blk_drew BK844.out)
    have n2_ := am (blk_drew BK845.out)
    have n3_ := am (below_drew1 HB.out)
    clear BK843 BK844 BK845 HB; revert n0_ n1_ n2_ n3_; intro BK843 BK844 BK845 HB
    refine start_ (n := 9) (S := fun w' => w'.cell? ⟨gb843, 0, none⟩ = some (.slice A0_0 l0_0.length c0_0) ∧ w'.cell? ⟨gb844, 0, none⟩ = some (.slice A1_0 l1_0.length c1_0) ∧ w'.cell? ⟨gb844, 1, none⟩ = some (.slice A1_1 l1_1.length c1_1)) (ds := []) #[false, false, false, false, false, false, false, false, false] (by kernel_rfl) rfl rfl ⟨(blk_cell BK843.out 0).trans rfl, (blk_cell BK844.out 0).trans rfl, (blk_cell BK844.out 1).trans rfl⟩ (fun hHeld => ?_); refine with_tabW impl_ApplyBinding.tab1 impl_ApplyBinding.bits1 (fun HT_ HW_ => ?_)
    generalize w31.drew = w32 at BK843 BK844 BK845 HB hHeld ⊢
    refine pure_ (i := 4) (N := some 12) (v := ?_) (a' := ?_) #[false, false, false, false, true, false, false, false, false] rfl rfl (any_of HT_.out (by kernel_rfl)) (fun _ _ _ h => h) (Or.inl ⟨by rfl, ?_⟩) ?_ ?_
    rotate_left
    · intro w'
      go_simp
      with_reducible rfl
    rotate_left
    · simp only [Act.put, lsp, i64_w, i32_w]
      rfl
    refine take_ (i := 0) (N := some 8) (v := ?_) (a' := ?_) #[true, false, false, false, true, false, false, false, false] rfl rfl (take_ofW HT_.out HW_.out (by kernel_rfl)) (fun _ _ _ h => h) (Or.inl ⟨by rfl, ?_⟩) hHeld ?_ ?_
    rotate_left
    · rintro w' ⟨s0, s1, s2⟩
      go_simp
      with_reducible rfl
    rotate_left
    · simp only [Act.put, lsp, i64_w, i32_w]
      rfl
    refine take_ (i := 1) (N := some 9) (v := ?_) (a' := ?_) #[true, true, false, false, true, false, false, false, false] rfl rfl (take_ofW HT_.out HW_.out (by kernel_rfl)) (fun _ _ _ h => h) (Or.inl ⟨by rfl, ?_⟩) hHeld ?_ ?_
    rotate_left
    · rintro w' ⟨s0, s1, s2⟩
      go_simp
      with_reducible rfl
    rotate_left
    · simp only [Act.put, lsp, i64_w, i32_w]
      rfl
    refine take_ (i := 3) (N := some 11) (v := ?_) (a' := ?_) #[true, true, false, true, true, false, false, false, false] rfl rfl (take_ofW HT_.out HW_.out (by kernel_rfl)) (fun _ _ _ h => h) (Or.inl ⟨by rfl, ?_⟩) hHeld ?_ ?_
    rotate_left
    · rintro w' ⟨s0, s1, s2⟩
      go_simp
      with_reducible rfl
    rotate_left
    · simp only [Act.put, lsp, i64_w, i32_w]
      rfl
    refine one_ (i := 2) (N := some 10) #[true, true, true, true, true, false, false, false, false] rfl rfl (one_of HT_.out (by kernel_rfl)) (by decide) (fun K hK => ?_)
    refine goes_ Tryd.func69 (by kernel_rfl) rfl #[.agg #[.slice A0_0 l0_0.length c0_0], .agg #[.slice A1_0 l1_0.length c1_0, .slice A1_1 l1_1.length c1_1]] (by rfl) rfl rfl el ?_
    with_reducible refine (impl_BindingFault.calls k _ _ l0_0 _ _ l1_0 _ _ l1_1 t846 _ ?side1 ?side2 ?side3 ?side4 ?side5 ?side6 A4.out).mono ?_
    (case side1 => exact cq (Kd.C_below HR0_0.out HB.out))
    (case side2 => exact HC0_0.out)
    (case side3 => exact cq (Kd.C_below HR1_0.out HB.out))
    (case side4 => exact HC1_0.out)
    (case side5 => exact cq (Kd.C_below HR1_1.out HB.out))
    (case side6 => exact HC1_1.out)
    rintro e w33 ⟨rfl, hb⟩
    refine ⟨_, rfl, ?_⟩
    have n0_ := am (blk_below (bq BK843.out) hb)
    have n1_ := am (blk_below (bq BK844.out) hb)
    have n2_ := am (blk_below (bq BK845.out) hb)
    have n3_ := am (below_step (hs HB.out) hb)
    clear BK843 BK844 BK845 HB; revert n0_ n1_ n2_ n3_; intro BK843 BK844 BK845 HB
    (try clear hb)
    (try clear hb2)
    (try clear hgw)
    (try clear hk)
    (try clear hi)
    refine hK.out _ _ ⟨(blk_cell BK843.out 0).trans rfl, (blk_cell BK844.out 0).trans rfl, (blk_cell BK844.out 1).trans rfl⟩ (fun hHeld => ?_)
    clear hK K
    refine norm_ (a' := ?_) ?_ ?_
    rotate_left
    · show Act.put _ (some 10) _ = _
      simp only [Act.put, lsp, i64_w, i32_w]
      rfl
    refine one_ (i := 5) (N := some 13) #[true, true, true, true, true, true, false, false, false] rfl rfl (one_of HT_.out (by kernel_rfl)) (by decide) (fun K hK => ?_)
    refine goes_ Tryd.func10 (by kernel_rfl) rfl #[.agg #[.slice A0_0 l0_0.length c0_0], .slice A2 l2.length c2] (by rfl) rfl rfl el ?_
    with_reducible refine (impl_TermFault.calls k _ _ l0_0 _ _ l2 t847 _ ?side1 ?side2 ?side3 ?side4 A5.out).mono ?_
    (case side1 => exact cq (Kd.C_below HR0_0.out HB.out))
    (case side2 => exact HC0_0.out)
    (case side3 => exact cq (Kd.C_below HR2.out HB.out))
    (case side4 => exact HC2.out)
    rintro e w34 ⟨rfl, hb⟩
    refine ⟨_, rfl, ?_⟩
    have n0_ := am (blk_below (bq BK843.out) hb)
    have n1_ := am (blk_below (bq BK844.out) hb)
    have n2_ := am (blk_below (bq BK845.out) hb)
    have n3_ := am (below_step (hs HB.out) hb)
    clear BK843 BK844 BK845 HB; revert n0_ n1_ n2_ n3_; intro BK843 BK844 BK845 HB
    (try clear hb)
    (try clear hb2)
    (try clear hgw)
    (try clear hk)
    (try clear hi)
    refine hK.out _ _ ⟨(blk_cell BK843.out 0).trans rfl, (blk_cell BK844.out 0).trans rfl, (blk_cell BK844.out 1).trans rfl⟩ (fun hHeld => ?_)
    clear hK K
    refine norm_ (a' := ?_) ?_ ?_
    rotate_left
    · show Act.put _ (some 13) _ = _
      simp only [Act.put, lsp, i64_w, i32_w]
      rfl
    refine one_ (i := 6) (N := some 14) #[true, true, true, true, true, true, true, false, false] rfl rfl (one_of HT_.out (by kernel_rfl)) (by decide) (fun K hK => ?_)
    refine Kd.R_lit_step (Kd.int .i64) _ 2 ?hg (N := 14) ?hd (xs := ([t846, t847] : List Int)) (inner := [.int .i64 t846, .int .i64 t847]) (ok := fun _ => True) (okp := fun _ => True) ?hr ?hp (fun _ hk => hk) trivial (Below.refl _ _) (Nat.le_refl _) (by simp) ?_; (case hd => rfl); (case hg => rfl); (case hr => first | (go_simp; done) | (go_simp; rfl)); (case hp => exact (Reps.one (show Kd.M (Kd.int .i64) _ _ _ t846 [.int .i64 t846] from rfl) (Reps.one (show Kd.M (Kd.int .i64) _ _ _ t847 [.int .i64 t847] from rfl) (Reps.none _ _))))
    intro v849 w35 ho36 hb hg_ hnew_
    clear hg_ hnew_
    (first | rw [← Ny848.out] at ho36 | (simp only [Int.reduceToNat] at ho36; rw [← Ny848.out] at ho36))
    have n0_ := am (Kd.R_lower ho36 (below_size (hs HB.out)))
    have n1_ := am (blk_below (bq BK843.out) hb)
    have n2_ := am (blk_below (bq BK844.out) hb)
    have n3_ := am (blk_below (bq BK845.out) hb)
    have n4_ := am (below_step (hs HB.out) hb)
    clear BK843 BK844 BK845 HB; revert n0_ n1_ n2_ n3_ n4_; intro HO850 BK843 BK844 BK845 HB
    clear hb ho36
    obtain ⟨Ao37, co37, eo37⟩ := Kd.R_slice HO850.out
    (first | subst eo37 | (injection eo37 with f1_ f2_ f3_; have f4_ := f1_.symm; have f5_ := f3_.symm; clear f1_ f2_ f3_; subst f4_; subst f5_))
    refine hK.out _ _ ⟨(blk_cell BK843.out 0).trans rfl, (blk_cell BK844.out 0).trans rfl, (blk_cell BK844.out 1).trans rfl⟩ (fun hHeld => ?_)
    clear hK K
    refine norm_ (a' := ?_) ?_ ?_
    rotate_left
    · show Act.put _ (some 14) _ = _
      simp only [Act.put, lsp, i64_w, i32_w]
      rfl
    refine one_ (i := 7) (N := some 15) #[true, true, true, true, true, true, true, true, false] rfl rfl (one_of HT_.out (by kernel_rfl)) (by decide) (fun K hK => ?_)
    refine goes_ Tryd.func60 (by kernel_rfl) rfl #[.slice Ao37 y848.length co37] (by rfl) rfl rfl el ?_
    with_reducible refine (impl_firstCode.calls k _ _ y848 t851 _ ?side1 ?side2 A6.out).mono ?_
    (case side1 => repeat (first | exact (Kd.R_reads' HO850.out).2.2 | (with_reducible refine Kd.C_alloc ?_ _) | (with_reducible refine Kd.C_drewN ?_ _) | (with_reducible refine Kd.C_drew ?_)))
    (case side2 => exact (Kd.R_reads' HO850.out).2.1)
    rintro e w38 ⟨rfl, hb⟩
    refine ⟨_, rfl, ?_⟩
    have n0_ := am (Kd.R_below (rq HO850.out) hb)
    have n1_ := am (blk_below (bq BK843.out) hb)
    have n2_ := am (blk_below (bq BK844.out) hb)
    have n3_ := am (blk_below (bq BK845.out) hb)
    have n4_ := am (below_step (hs HB.out) hb)
    clear HO850 BK843 BK844 BK845 HB; revert n0_ n1_ n2_ n3_ n4_; intro HO850 BK843 BK844 BK845 HB
    (try clear hb)
    (try clear hb2)
    (try clear hgw)
    (try clear hk)
    (try clear hi)
    refine hK.out _ _ ⟨(blk_cell BK843.out 0).trans rfl, (blk_cell BK844.out 0).trans rfl, (blk_cell BK844.out 1).trans rfl⟩ (fun hHeld => ?_)
    clear hK K
    refine norm_ (a' := ?_) ?_ ?_
    rotate_left
    · show Act.put _ (some 15) _ = _
      simp only [Act.put, lsp, i64_w, i32_w]
      rfl
    refine pure_ (i := 8) (N := some 7) (v := ?_) (a' := ?_) #[true, true, true, true, true, true, true, true, true] rfl rfl (any_of HT_.out (by kernel_rfl)) (fun _ _ _ h => h) (Or.inl ⟨by rfl, ?_⟩) ?_ ?_
    rotate_left
    · intro w'
      go_simp
      with_reducible rfl
    rotate_left
    · simp only [Act.put, lsp, i64_w, i32_w]
      rfl
    refine done_ (done_of HT_.out (by kernel_rfl)) ?_
    have hnb39 := NB845_843.out
    have hnc39 := NB843_845.out
    have hnb40 := NB845_844.out
    have hnc40 := NB844_845.out
    have hcz41_0 : w38.cell? ⟨gb845, 0, none⟩ = some (.int .i64 0) := (blk_cell BK845.out 0).trans rfl
    have hcz41_1 : w38.cell? ⟨gb845, 1, none⟩ = some (.slice none 0 0) := (blk_cell BK845.out 1).trans rfl
    have hfz41_0 := blk_frozen BK845.out 0
    have hfz41_1 := blk_frozen BK845.out 1
    try go_wp2
    refine bodyPost_ret (results_cell_row rfl _ _ gb845 65 #[.int .i64 t851, .slice none 0 0] (0, 0) _ rfl (by refine bq ?_; refine blk_put (cs := #[.int .i64 t851, .slice none 0 0]) ?_ 1 _ rfl; refine bq ?_; refine blk_put (cs := #[.int .i64 0, .slice none 0 0]) ?_ 0 _ rfl; refine bq ?_; exact BK845.out) Tryd.underlying65 rfl (by kernel_rfl)) rfl ?_
    exact ⟨_, by first | rfl | (simp [errW_none, errW_some] <;> rfl) | (simp [*, errW_none, errW_some] <;> rfl), by first | exact Kd.R_nil _ _ _ _ _ | exact Kd.N_nil _ _ _ _ _ | exact Kd.V_nil _ _ _ _ _ | exact Kd.Q_nil _ _ _ _ _ | exact Kd.S_nil _ _ _ _ _, by exact hs HB.out⟩
def laws_eqTermResult.f (k : Nat) (a0_0 : Int) (l0_1 : List Int) (a1_0 : Int) (l1_1 : List Int) : Option (Bool) := if a0_0 = a1_0 then ((laws_eqInt64S.f k l0_1 l1_1).bind fun t861 => (if t861 = true then (some true) else (some false))) else (some false)
set_option maxHeartbeats 8000000 in
set_option maxRecDepth 100000 in
theorem laws_eqTermResult.calls (k : Nat) (a0_0 : Int) (A0_1 : Option Addr) (c0_1 : Nat) (l0_1 : List Int) (a1_0 : Int) (A1_1 : Option Addr) (c1_1 : Nat) (l1_1 : List Int) (r : Bool) (w : World) (hr0_1 : Kd.C (Kd.int .i64) w A0_1 l0_1.length l0_1) (hc0_1 : l0_1.length ≤ c0_1) (hr1_1 : Kd.C (Kd.int .i64) w A1_1 l1_1.length l1_1) (hc1_1 : l1_1.length ≤ c1_1) (h : laws_eqTermResult.f k a0_0 l0_1 a1_0 l1_1 = some r) :
    Calls Tryd.prog 35 #[.agg #[.int .i64 a0_0, .slice A0_1 l0_1.length c0_1], .agg #[.int .i64 a1_0, .slice A1_1 l1_1.length c1_1]] w fun e w' => e = .returned (.bool r) ∧ Below w.heap.size w w' := by
  have hu65 := Tryd.underlying65
  have HR0_1 := am hr0_1
  have HC0_1 := am hc0_1
  clear hr0_1 hc0_1
  have HR1_1 := am hr1_1
  have HC1_1 := am hc1_1
  clear hr1_1 hc1_1
  have HB := am (Below.refl w.heap.size w)
  have H : (if a0_0 = a1_0 then ((laws_eqInt64S.f k l0_1 l1_1).bind fun t861 => (if t861 = true then (some true) else (some false))) else (some false)) = some r := h
  clear h
  by_cases c3 : a0_0 = a1_0
  · rw [if_pos c3] at H
    have c3b0 : (a0_0 == a1_0) = true := beq_iff_eq.mpr c3
    have c3b1 : (a0_0 != a1_0) = false := bne_eq_false_iff_eq.mpr c3
    clear c3
    replace H := Option.bind_eq_some_iff.mp H
    obtain ⟨t861, A40, H⟩ := H
    replace H : (if t861 = true then (some true) else (some false)) = some r := H
    have A4 := am A40
    clear A40
    by_cases c5 : t861 = true
    · subst c5
      have H1 : (some true) = some r := by rw [if_pos rfl] at H; exact H
      clear H
      have H := H1
      clear H1
      obtain rfl := Option.some.inj H
      go_enter Tryd.func35, Tryd.ntmps35
      go_wp2_with (first | ((with_reducible refine gate_dst (N := 2) rfl ?_); refine box_event ?hg (N := 2) ?hd (cs := #[.int .i64 a0_0, .slice A0_1 l0_1.length c0_1]) (t := 65) ?hr ?_; (case hd => rfl); (case hg => rfl); (case hr => first | (go_simp; done) | (go_simp; rfl)); intro gb859 hg w6 hbox hb; have n0_ := am (below_step (hq HB.out) hb); have n1_ := am (hbox); have n2_ := am (bz hg (hq HB.out)); have n3_ := n2_; clear HB; revert n0_ n1_ n2_ n3_; intro HB BK859 GW859 GE859; clear hb hbox hg) | ((with_reducible refine gate_dst (N := 3) rfl ?_); refine box_event ?hg (N := 3) ?hd (cs := #[.int .i64 a1_0, .slice A1_1 l1_1.length c1_1]) (t := 65) ?hr ?_; (case hd => rfl); (case hg => rfl); (case hr => first | (go_simp; done) | (go_simp; rfl)); intro gb860 hg w7 hbox hb; have n0_ := am (blk_below (bq BK859.out) hb); have n1_ := am (below_step (hs HB.out) hb); have n2_ := am (hbox); have n3_ := am (bz hg (hs HB.out)); have n4_ := n3_; have n5_ := am ((by rw [hg]; exact Nat.ne_of_lt (blk_lt (bq BK859.out)) : gb859 ≠ gb860)); have n6_ := am ((by rw [hg]; exact Nat.ne_of_gt (blk_lt (bq BK859.out)) : gb860 ≠ gb859)); clear BK859 HB; revert n0_ n1_ n2_ n3_ n4_ n5_ n6_; intro BK859 HB BK860 GW860 GE860 NB859_860 NB860_859; clear hb hbox hg; have hnb8 := NB859_860.out; have hnc8 := NB860_859.out; have hcz9_0 : w7.cell? ⟨gb859, 0, none⟩ = some (.int .i64 a0_0) := (blk_cell BK859.out 0).trans rfl; have hcz9_1 : w7.cell? ⟨gb859, 1, none⟩ = some (.slice A0_1 l0_1.length c0_1) := (blk_cell BK859.out 1).trans rfl; have hfz9_0 := blk_frozen BK859.out 0; have hfz9_1 := blk_frozen BK859.out 1; have hcz10_0 : w7.cell? ⟨gb860, 0, none⟩ = some (.int .i64 a1_0) := (blk_cell BK860.out 0).trans rfl; have hcz10_1 : w7.cell? ⟨gb860, 1, none⟩ = some (.slice A1_1 l1_1.length c1_1) := (blk_cell BK860.out 1).trans rfl; have hfz10_0 := blk_frozen BK860.out 0; have hfz10_1 := blk_frozen BK860.out 1) | ((with_reducible refine gate_callee (f := 37) rfl ?_); refine goesL_ (some 14) rfl rfl Tryd.func37 (by kernel_rfl) rfl #[.slice A0_1 l0_1.length c0_1, .slice A1_1 l1_1.length c1_1] rfl el ?_; (with_reducible refine (laws_eqInt64S.calls k _ _ l0_1 _ _ l1_1 true _ ?side1 ?side2 ?side3 ?side4 A4.out).mono ?_); (case side1 => exact cq (Kd.C_below HR0_1.out HB.out)); (case side2 => exact HC0_1.out); (case side3 => exact cq (Kd.C_below HR1_1.out HB.out)); (case side4 => exact HC1_1.out); rintro e w' ⟨rfl, ⟨nd, rfl⟩⟩; refine ⟨_, rfl, ?_⟩))
      go_ret
      exact ⟨by first | rfl | (simp [errW_none, errW_some] <;> rfl) | (simp [*, errW_none, errW_some] <;> rfl), by exact hs HB.out⟩
    · replace c5 := Bool.eq_false_iff.mpr c5
      subst c5
      have H1 : (some false) = some r := by rw [if_neg (show ¬ (false = true) by decide)] at H; exact H
      clear H
      have H := H1
      clear H1
      obtain rfl := Option.some.inj H
      go_enter Tryd.func35, Tryd.ntmps35
      go_wp2_with (first | ((with_reducible refine gate_dst (N := 2) rfl ?_); refine box_event ?hg (N := 2) ?hd (cs := #[.int .i64 a0_0, .slice A0_1 l0_1.length c0_1]) (t := 65) ?hr ?_; (case hd => rfl); (case hg => rfl); (case hr => first | (go_simp; done) | (go_simp; rfl)); intro gb859 hg w11 hbox hb; have n0_ := am (below_step (hq HB.out) hb); have n1_ := am (hbox); have n2_ := am (bz hg (hq HB.out)); have n3_ := n2_; clear HB; revert n0_ n1_ n2_ n3_; intro HB BK859 GW859 GE859; clear hb hbox hg) | ((with_reducible refine gate_dst (N := 3) rfl ?_); refine box_event ?hg (N := 3) ?hd (cs := #[.int .i64 a1_0, .slice A1_1 l1_1.length c1_1]) (t := 65) ?hr ?_; (case hd => rfl); (case hg => rfl); (case hr => first | (go_simp; done) | (go_simp; rfl)); intro gb860 hg w12 hbox hb; have n0_ := am (blk_below (bq BK859.out) hb); have n1_ := am (below_step (hs HB.out) hb); have n2_ := am (hbox); have n3_ := am (bz hg (hs HB.out)); have n4_ := n3_; have n5_ := am ((by rw [hg]; exact Nat.ne_of_lt (blk_lt (bq BK859.out)) : gb859 ≠ gb860)); have n6_ := am ((by rw [hg]; exact Nat.ne_of_gt (blk_lt (bq BK859.out)) : gb860 ≠ gb859)); clear BK859 HB; revert n0_ n1_ n2_ n3_ n4_ n5_ n6_; intro BK859 HB BK860 GW860 GE860 NB859_860 NB860_859; clear hb hbox hg; have hnb13 := NB859_860.out; have hnc13 := NB860_859.out; have hcz14_0 : w12.cell? ⟨gb859, 0, none⟩ = some (.int .i64 a0_0) := (blk_cell BK859.out 0).trans rfl; have hcz14_1 : w12.cell? ⟨gb859, 1, none⟩ = some (.slice A0_1 l0_1.length c0_1) := (blk_cell BK859.out 1).trans rfl; have hfz14_0 := blk_frozen BK859.out 0; have hfz14_1 := blk_frozen BK859.out 1; have hcz15_0 : w12.cell? ⟨gb860, 0, none⟩ = some (.int .i64 a1_0) := (blk_cell BK860.out 0).trans rfl; have hcz15_1 : w12.cell? ⟨gb860, 1, none⟩ = some (.slice A1_1 l1_1.length c1_1) := (blk_cell BK860.out 1).trans rfl; have hfz15_0 := blk_frozen BK860.out 0; have hfz15_1 := blk_frozen BK860.out 1) | ((with_reducible refine gate_callee (f := 37) rfl ?_); refine goesL_ (some 14) rfl rfl Tryd.func37 (by kernel_rfl) rfl #[.slice A0_1 l0_1.length c0_1, .slice A1_1 l1_1.length c1_1] rfl el ?_; (with_reducible refine (laws_eqInt64S.calls k _ _ l0_1 _ _ l1_1 false _ ?side1 ?side2 ?side3 ?side4 A4.out).mono ?_); (case side1 => exact cq (Kd.C_below HR0_1.out HB.out)); (case side2 => exact HC0_1.out); (case side3 => exact cq (Kd.C_below HR1_1.out HB.out)); (case side4 => exact HC1_1.out); rintro e w' ⟨rfl, ⟨nd, rfl⟩⟩; refine ⟨_, rfl, ?_⟩))
      go_ret
      exact ⟨by first | rfl | (simp [errW_none, errW_some] <;> rfl) | (simp [*, errW_none, errW_some] <;> rfl), by exact hs HB.out⟩
  · rw [if_neg c3] at H
    have c3b0 : (a0_0 == a1_0) = false := beq_eq_false_iff_ne.mpr c3
    have c3b1 : (a0_0 != a1_0) = true := bne_iff_ne.mpr c3
    obtain rfl := Option.some.inj H
    go_enter Tryd.func35, Tryd.ntmps35
    go_wp2_with (first | ((with_reducible refine gate_dst (N := 2) rfl ?_); refine box_event ?hg (N := 2) ?hd (cs := #[.int .i64 a0_0, .slice A0_1 l0_1.length c0_1]) (t := 65) ?hr ?_; (case hd => rfl); (case hg => rfl); (case hr => first | (go_simp; done) | (go_simp; rfl)); intro gb859 hg w16 hbox hb; have n0_ := am (below_step (hq HB.out) hb); have n1_ := am (hbox); have n2_ := am (bz hg (hq HB.out)); have n3_ := n2_; clear HB; revert n0_ n1_ n2_ n3_; intro HB BK859 GW859 GE859; clear hb hbox hg) | ((with_reducible refine gate_dst (N := 3) rfl ?_); refine box_event ?hg (N := 3) ?hd (cs := #[.int .i64 a1_0, .slice A1_1 l1_1.length c1_1]) (t := 65) ?hr ?_; (case hd => rfl); (case hg => rfl); (case hr => first | (go_simp; done) | (go_simp; rfl)); intro gb860 hg w17 hbox hb; have n0_ := am (blk_below (bq BK859.out) hb); have n1_ := am (below_step (hs HB.out) hb); have n2_ := am (hbox); have n3_ := am (bz hg (hs HB.out)); have n4_ := n3_; have n5_ := am ((by rw [hg]; exact Nat.ne_of_lt (blk_lt (bq BK859.out)) : gb859 ≠ gb860)); have n6_ := am ((by rw [hg]; exact Nat.ne_of_gt (blk_lt (bq BK859.out)) : gb860 ≠ gb859)); clear BK859 HB; revert n0_ n1_ n2_ n3_ n4_ n5_ n6_; intro BK859 HB BK860 GW860 GE860 NB859_860 NB860_859; clear hb hbox hg; have hnb18 := NB859_860.out; have hnc18 := NB860_859.out; have hcz19_0 : w17.cell? ⟨gb859, 0, none⟩ = some (.int .i64 a0_0) := (blk_cell BK859.out 0).trans rfl; have hcz19_1 : w17.cell? ⟨gb859, 1, none⟩ = some (.slice A0_1 l0_1.length c0_1) := (blk_cell BK859.out 1).trans rfl; have hfz19_0 := blk_frozen BK859.out 0; have hfz19_1 := blk_frozen BK859.out 1; have hcz20_0 : w17.cell? ⟨gb860, 0, none⟩ = some (.int .i64 a1_0) := (blk_cell BK860.out 0).trans rfl; have hcz20_1 : w17.cell? ⟨gb860, 1, none⟩ = some (.slice A1_1 l1_1.length c1_1) := (blk_cell BK860.out 1).trans rfl; have hfz20_0 := blk_frozen BK860.out 0; have hfz20_1 := blk_frozen BK860.out 1))
    go_ret
    exact ⟨by first | rfl | (simp [errW_none, errW_some] <;> rfl) | (simp [*, errW_none, errW_some] <;> rfl), by exact hs HB.out⟩
end Go.Proofs.YtcanokiehjjbgaaDoor.P
namespace Go.Proofs.YtcanokiehjjbgaaDoor.P
open Go.RowKit Go.Proofs.YtcanokiehjjbgaaDoorW.PrintWords Go.Proofs.YtcanokiehjjbgaaDoorW.PrintLast Go.Proofs.YtcanokiehjjbgaaDoorW.PrintMore
attribute [local go_sem] max2_int min2_int max_two min_two max_three min_three max_four min_four   -- for this text's walks alone
set_option linter.unusedVariables false
set_option linter.unusedSimpArgs false
def laws_eqInt64SS.l0 : Nat → List (List Int) → List (List Int) → Int → Option (Bool)
  | 0, _, _, _ => none
  | k + 1, x0, x1, x5 => if x5 < (x0.length : Int) then (if 0 ≤ x5 then (if x5 < (x1.length : Int) then ((laws_eqInt64S.f k (rd_L6 x0 x5) (rd_L6 x1 x5)).bind fun t864 => (if t864 = true then (laws_eqInt64SS.l0 k x0 x1 (wrap64 (x5 + 1))) else (some false))) else (none)) else (none)) else (some true)
def laws_eqInt64SS.f (k : Nat) (l0 : List (List Int)) (l1 : List (List Int)) : Option (Bool) := if (l0.length : Int) = (l1.length : Int) then (laws_eqInt64SS.l0 k l0 l1 0) else (some false)
set_option maxHeartbeats 8000000 in
set_option maxRecDepth 100000 in
theorem laws_eqInt64SS.calls (k : Nat) (A0 : Option Addr) (c0 : Nat) (l0 : List (List Int)) (A1 : Option Addr) (c1 : Nat) (l1 : List (List Int)) (r : Bool) (w : World) (hr0 : Kd.C (Kd.slice 2 (Kd.int .i64)) w A0 l0.length l0) (hc0 : l0.length ≤ c0) (hr1 : Kd.C (Kd.slice 2 (Kd.int .i64)) w A1 l1.length l1) (hc1 : l1.length ≤ c1) (h : laws_eqInt64SS.f k l0 l1 = some r) :
    Calls Tryd.prog 72 #[.slice A0 l0.length c0, .slice A1 l1.length c1] w fun e w' => e = .returned (.bool r) ∧ Drawn0 w w' := by
  have HR0 := am hr0
  have HC0 := am hc0
  clear hr0 hc0
  have HR1 := am hr1
  have HC1 := am hc1
  clear hr1 hc1
  have H : (if (l0.length : Int) = (l1.length : Int) then (laws_eqInt64SS.l0 k l0 l1 0) else (some false)) = some r := h
  clear h
  by_cases c3 : (l0.length : Int) = (l1.length : Int)
  · rw [if_pos c3] at H
    have c3b0 : ((l0.length : Int) == (l1.length : Int)) = true := beq_iff_eq.mpr c3
    have c3b1 : ((l0.length : Int) != (l1.length : Int)) = false := bne_eq_false_iff_eq.mpr c3
    have c3b2 : (l0.length == l1.length) = true := by first | simpa using c3 | (simp at c3 ⊢; omega)
    clear c3
    have H' := am H
    clear H
    go_enter Tryd.func72, Tryd.ntmps72
    go_wp2
    repeat (go_quiet (fail); try go_wp2)
    go_loopg [5] k (fun kq v5 w' => ∃ (x5_1 : Int), v5 = .int .i64 x5_1 ∧ Aside0 (laws_eqInt64SS.l0 kq l0 l1 x5_1 = some r) ∧ Aside0 (kq ≤ k) ∧ Drawn0 w w')
    case atStart => exact ⟨(0), (by first | rfl | (simp; done) | (simp [*]; done)), H', ⟨Nat.le_refl _⟩, by repeat (first | exact Drawn0.refl _ | apply Drawn0.step)⟩
    case round =>
      clear H'
      try clear c1; try clear p2; try clear c3; try clear c3b0; try clear c3b1; try clear c3b2
      obtain ⟨x5_1, rfl, HA, HK1, ⟨m1, rfl⟩⟩ := hrel
      cases gk with
      | zero => exact absurd HA.out (by simp [laws_eqInt64SS.l0])
      | succ k1 =>
        have H := HA.out
        clear HA
        simp only [laws_eqInt64SS.l0] at H
        by_cases c4 : x5_1 < (l0.length : Int)
        · rw [if_pos c4] at H
          have c4b0 : decide (x5_1 < (l0.length : Int)) = true := decide_eq_true c4
          clear c4
          by_cases c5 : 0 ≤ x5_1
          · rw [if_pos c5] at H
            have c5b0 : decide (0 ≤ x5_1) = true := decide_eq_true c5
            clear c5
            by_cases c6 : x5_1 < (l1.length : Int)
            · rw [if_pos c6] at H
              have c6b0 : decide (x5_1 < (l1.length : Int)) = true := decide_eq_true c6
              clear c6
              replace H := Option.bind_eq_some_iff.mp H
              obtain ⟨t864, A70, H⟩ := H
              replace H : (if t864 = true then (laws_eqInt64SS.l0 k1 l0 l1 (wrap64 (x5_1 + 1))) else (some false)) = some r := H
              have A7 := am A70
              clear A70
              by_cases c8 : t864 = true
              · subst c8
                have H1 : (laws_eqInt64SS.l0 k1 l0 l1 (wrap64 (x5_1 + 1))) = some r := by rw [if_pos rfl] at H; exact H
                clear H
                have H := H1
                clear H1
                have H' := am H
                clear H
                have p862 : 0 ≤ (x5_1 : Int) := of_decide_eq_true (by first | (with_reducible assumption) | assumption)
                have q862 : x5_1 < (l0.length : Int) := of_decide_eq_true (by first | (with_reducible assumption) | assumption)
                obtain ⟨ad862, A862_0, c862_0, e862, hx862_0, hl862_0, hi862_0⟩ := at_L6 HR0.out x5_1 p862 q862
                cases e862
                have HR862_0 := am hi862_0
                have HC862_0 := am hl862_0
                clear hi862_0 hl862_0
                replace p862 := eq_true p862
                replace q862 := eq_true q862
                have p863 : 0 ≤ (x5_1 : Int) := of_decide_eq_true (by first | (with_reducible assumption) | assumption)
                have q863 : x5_1 < (l1.length : Int) := of_decide_eq_true (by first | (with_reducible assumption) | assumption)
                obtain ⟨ad863, A863_0, c863_0, e863, hx863_0, hl863_0, hi863_0⟩ := at_L6 HR1.out x5_1 p863 q863
                cases e863
                have HR863_0 := am hi863_0
                have HC863_0 := am hl863_0
                clear hi863_0 hl863_0
                replace p863 := eq_true p863
                replace q863 := eq_true q863
                go_wp2_with (first | (go_at_call 37; (with_reducible refine (laws_eqInt64S.calls k1 _ _ (rd_L6 l0 x5_1) _ _ (rd_L6 l1 x5_1) true _ ?side1 ?side2 ?side3 ?side4 A7.out).mono ?_); (case side1 => exact cq HR862_0.out); (case side2 => exact HC862_0.out); (case side3 => exact cq HR863_0.out); (case side4 => exact HC863_0.out); rintro e w' ⟨rfl, ⟨nd, rfl⟩⟩; (try first | exact ⟨rfl, _, World.drewN_drewN _ _ _⟩ | exact ⟨rfl, _, Eq.trans (World.drewN_drewN _ _ _) (congrArg (World.drewN _) (Nat.add_assoc _ _ _))⟩)))
                repeat (go_quiet (first | (go_at_call 37; (with_reducible refine (laws_eqInt64S.calls k1 _ _ (rd_L6 l0 x5_1) _ _ (rd_L6 l1 x5_1) true _ ?side1 ?side2 ?side3 ?side4 A7.out).mono ?_); (case side1 => exact cq HR862_0.out); (case side2 => exact HC862_0.out); (case side3 => exact cq HR863_0.out); (case side4 => exact HC863_0.out); rintro e w' ⟨rfl, ⟨nd, rfl⟩⟩; (try first | exact ⟨rfl, _, World.drewN_drewN _ _ _⟩ | exact ⟨rfl, _, Eq.trans (World.drewN_drewN _ _ _) (congrArg (World.drewN _) (Nat.add_assoc _ _ _))⟩))); try go_wp2_with (first | (go_at_call 37; (with_reducible refine (laws_eqInt64S.calls k1 _ _ (rd_L6 l0 x5_1) _ _ (rd_L6 l1 x5_1) true _ ?side1 ?side2 ?side3 ?side4 A7.out).mono ?_); (case side1 => exact cq HR862_0.out); (case side2 => exact HC862_0.out); (case side3 => exact cq HR863_0.out); (case side4 => exact HC863_0.out); rintro e w' ⟨rfl, ⟨nd, rfl⟩⟩; (try first | exact ⟨rfl, _, World.drewN_drewN _ _ _⟩ | exact ⟨rfl, _, Eq.trans (World.drewN_drewN _ _ _) (congrArg (World.drewN _) (Nat.add_assoc _ _ _))⟩))))
                go_roundg k1
                case measure => have := HK1.out; omega
                case rel => exact ⟨(wrap64 (x5_1 + 1)), (by first | rfl | (simp; done) | (simp [*]; done)), H', ⟨by have := HK1.out; omega⟩, by repeat (first | exact Drawn0.refl _ | apply Drawn0.step)⟩
              · replace c8 := Bool.eq_false_iff.mpr c8
                subst c8
                have H1 : (some false) = some r := by rw [if_neg (show ¬ (false = true) by decide)] at H; exact H
                clear H
                have H := H1
                clear H1
                obtain rfl := Option.some.inj H
                have p862 : 0 ≤ (x5_1 : Int) := of_decide_eq_true (by first | (with_reducible assumption) | assumption)
                have q862 : x5_1 < (l0.length : Int) := of_decide_eq_true (by first | (with_reducible assumption) | assumption)
                obtain ⟨ad862, A862_0, c862_0, e862, hx862_0, hl862_0, hi862_0⟩ := at_L6 HR0.out x5_1 p862 q862
                cases e862
                have HR862_0 := am hi862_0
                have HC862_0 := am hl862_0
                clear hi862_0 hl862_0
                replace p862 := eq_true p862
                replace q862 := eq_true q862
                have p863 : 0 ≤ (x5_1 : Int) := of_decide_eq_true (by first | (with_reducible assumption) | assumption)
                have q863 : x5_1 < (l1.length : Int) := of_decide_eq_true (by first | (with_reducible assumption) | assumption)
                obtain ⟨ad863, A863_0, c863_0, e863, hx863_0, hl863_0, hi863_0⟩ := at_L6 HR1.out x5_1 p863 q863
                cases e863
                have HR863_0 := am hi863_0
                have HC863_0 := am hl863_0
                clear hi863_0 hl863_0
                replace p863 := eq_true p863
                replace q863 := eq_true q863
                go_wp2_with (first | (go_at_call 37; (with_reducible refine (laws_eqInt64S.calls k1 _ _ (rd_L6 l0 x5_1) _ _ (rd_L6 l1 x5_1) false _ ?side1 ?side2 ?side3 ?side4 A7.out).mono ?_); (case side1 => exact cq HR862_0.out); (case side2 => exact HC862_0.out); (case side3 => exact cq HR863_0.out); (case side4 => exact HC863_0.out); rintro e w' ⟨rfl, ⟨nd, rfl⟩⟩; (try first | exact ⟨rfl, _, World.drewN_drewN _ _ _⟩ | exact ⟨rfl, _, Eq.trans (World.drewN_drewN _ _ _) (congrArg (World.drewN _) (Nat.add_assoc _ _ _))⟩)))
                repeat (go_quiet (first | (go_at_call 37; (with_reducible refine (laws_eqInt64S.calls k1 _ _ (rd_L6 l0 x5_1) _ _ (rd_L6 l1 x5_1) false _ ?side1 ?side2 ?side3 ?side4 A7.out).mono ?_); (case side1 => exact cq HR862_0.out); (case side2 => exact HC862_0.out); (case side3 => exact cq HR863_0.out); (case side4 => exact HC863_0.out); rintro e w' ⟨rfl, ⟨nd, rfl⟩⟩; (try first | exact ⟨rfl, _, World.drewN_drewN _ _ _⟩ | exact ⟨rfl, _, Eq.trans (World.drewN_drewN _ _ _) (congrArg (World.drewN _) (Nat.add_assoc _ _ _))⟩))); try go_wp2_with (first | (go_at_call 37; (with_reducible refine (laws_eqInt64S.calls k1 _ _ (rd_L6 l0 x5_1) _ _ (rd_L6 l1 x5_1) false _ ?side1 ?side2 ?side3 ?side4 A7.out).mono ?_); (case side1 => exact cq HR862_0.out); (case side2 => exact HC862_0.out); (case side3 => exact cq HR863_0.out); (case side4 => exact HC863_0.out); rintro e w' ⟨rfl, ⟨nd, rfl⟩⟩; (try first | exact ⟨rfl, _, World.drewN_drewN _ _ _⟩ | exact ⟨rfl, _, Eq.trans (World.drewN_drewN _ _ _) (congrArg (World.drewN _) (Nat.add_assoc _ _ _))⟩))))
                go_ret
                exact ⟨by first | rfl | (simp; done) | (simp [*]; done), by repeat (first | exact Drawn0.refl _ | apply Drawn0.step)⟩
            · rw [if_neg c6] at H
              exact absurd H (by simp)
          · rw [if_neg c5] at H
            exact absurd H (by simp)
        · rw [if_neg c4] at H
          have c4b0 : decide (x5_1 < (l0.length : Int)) = false := decide_eq_false c4
          clear c4
          obtain rfl := Option.some.inj H
          go_wp2
          repeat (go_quiet (fail); try go_wp2)
          go_ret
          exact ⟨by first | rfl | (simp; done) | (simp [*]; done), by repeat (first | exact Drawn0.refl _ | apply Drawn0.step)⟩
  · rw [if_neg c3] at H
    have c3b0 : ((l0.length : Int) == (l1.length : Int)) = false := beq_eq_false_iff_ne.mpr c3
    have c3b1 : ((l0.length : Int) != (l1.length : Int)) = true := bne_iff_ne.mpr c3
    have c3b2 : (l0.length == l1.length) = false := by first | simpa using c3 | (simp at c3 ⊢; omega)
    obtain rfl := Option.some.inj H
    go_enter Tryd.func72, Tryd.ntmps72
    go_wp2
    repeat (go_quiet (fail); try go_wp2)
    go_ret
    exact ⟨by first | rfl | (simp; done) | (simp [*]; done), by repeat (first | exact Drawn0.refl _ | apply Drawn0.step)⟩
def laws_eqBinding.f (k : Nat) (l0_0 : List Int) (l0_1 : List (List Int)) (l1_0 : List Int) (l1_1 : List (List Int)) : Option (Bool) := (laws_eqInt64S.f k l0_0 l1_0).bind fun t867 => (if t867 = true then ((laws_eqInt64SS.f k l0_1 l1_1).bind fun t868 => (if t868 = true then (some true) else (some false))) else (some false))
set_option maxHeartbeats 8000000 in
set_option maxRecDepth 100000 in
theorem laws_eqBinding.calls (k : Nat) (A0_0 : Option Addr) (c0_0 : Nat) (l0_0 : List Int) (A0_1 : Option Addr) (c0_1 : Nat) (l0_1 : List (List Int)) (A1_0 : Option Addr) (c1_0 : Nat) (l1_0 : List Int) (A1_1 : Option Addr) (c1_1 : Nat) (l1_1 : List (List Int)) (r : Bool) (w : World) (hr0_0 : Kd.C (Kd.int .i64) w A0_0 l0_0.length l0_0) (hc0_0 : l0_0.length ≤ c0_0) (hr0_1 : Kd.C (Kd.slice 2 (Kd.int .i64)) w A0_1 l0_1.length l0_1) (hc0_1 : l0_1.length ≤ c0_1) (hr1_0 : Kd.C (Kd.int .i64) w A1_0 l1_0.length l1_0) (hc1_0 : l1_0.length ≤ c1_0) (hr1_1 : Kd.C (Kd.slice 2 (Kd.int .i64)) w A1_1 l1_1.length l1_1) (hc1_1 : l1_1.length ≤ c1_1) (h : laws_eqBinding.f k l0_0 l0_1 l1_0 l1_1 = some r) :
    Calls Tryd.prog 36 #[.agg #[.slice A0_0 l0_0.length c0_0, .slice A0_1 l0_1.length c0_1], .agg #[.slice A1_0 l1_0.length c1_0, .slice A1_1 l1_1.length c1_1]] w fun e w' => e = .returned (.bool r) ∧ Below w.heap.size w w' := by
  have hu67 := Tryd.underlying67
  have HR0_0 := am hr0_0
  have HC0_0 := am hc0_0
  clear hr0_0 hc0_0
  have HR0_1 := am hr0_1
  have HC0_1 := am hc0_1
  clear hr0_1 hc0_1
  have HR1_0 := am hr1_0
  have HC1_0 := am hc1_0
  clear hr1_0 hc1_0
  have HR1_1 := am hr1_1
  have HC1_1 := am hc1_1
  clear hr1_1 hc1_1
  have HB := am (Below.refl w.heap.size w)
  have H : ((laws_eqInt64S.f k l0_0 l1_0).bind fun t867 => (if t867 = true then ((laws_eqInt64SS.f k l0_1 l1_1).bind fun t868 => (if t868 = true then (some true) else (some false))) else (some false))) = some r := h
  clear h
  replace H := Option.bind_eq_some_iff.mp H
  obtain ⟨t867, A30, H⟩ := H
  replace H : (if t867 = true then ((laws_eqInt64SS.f k l0_1 l1_1).bind fun t868 => (if t868 = true then (some true) else (some false))) else (some false)) = some r := H
  have A3 := am A30
  clear A30
  by_cases c4 : t867 = true
  · subst c4
    have H1 : ((laws_eqInt64SS.f k l0_1 l1_1).bind fun t868 => (if t868 = true then (some true) else (some false))) = some r := by rw [if_pos rfl] at H; exact H
    clear H
    have H := H1
    clear H1
    replace H := Option.bind_eq_some_iff.mp H
    obtain ⟨t868, A50, H⟩ := H
    replace H : (if t868 = true then (some true) else (some false)) = some r := H
    have A5 := am A50
    clear A50
    by_cases c6 : t868 = true
    · subst c6
      have H1 : (some true) = some r := by rw [if_pos rfl] at H; exact H
      clear H
      have H := H1
      clear H1
      obtain rfl := Option.some.inj H
      go_enter Tryd.func36, Tryd.ntmps36
      go_wp2_with (first | ((with_reducible refine gate_dst (N := 2) rfl ?_); refine box_event ?hg (N := 2) ?hd (cs := #[.slice A0_0 l0_0.length c0_0, .slice A0_1 l0_1.length c0_1]) (t := 67) ?hr ?_; (case hd => rfl); (case hg => rfl); (case hr => first | (go_simp; done) | (go_simp; rfl)); intro gb865 hg w7 hbox hb; have n0_ := am (below_step (hq HB.out) hb); have n1_ := am (hbox); have n2_ := am (bz hg (hq HB.out)); have n3_ := n2_; clear HB; revert n0_ n1_ n2_ n3_; intro HB BK865 GW865 GE865; clear hb hbox hg) | ((with_reducible refine gate_dst (N := 3) rfl ?_); refine box_event ?hg (N := 3) ?hd (cs := #[.slice A1_0 l1_0.length c1_0, .slice A1_1 l1_1.length c1_1]) (t := 67) ?hr ?_; (case hd => rfl); (case hg => rfl); (case hr => first | (go_simp; done) | (go_simp; rfl)); intro gb866 hg w8 hbox hb; have n0_ := am (blk_below (bq BK865.out) hb); have n1_ := am (below_step (hs HB.out) hb); have n2_ := am (hbox); have n3_ := am (bz hg (hs HB.out)); have n4_ := n3_; have n5_ := am ((by rw [hg]; exact Nat.ne_of_lt (blk_lt (bq BK865.out)) : gb865 ≠ gb866)); have n6_ := am ((by rw [hg]; exact Nat.ne_of_gt (blk_lt (bq BK865.out)) : gb866 ≠ gb865)); clear BK865 HB; revert n0_ n1_ n2_ n3_ n4_ n5_ n6_; intro BK865 HB BK866 GW866 GE866 NB865_866 NB866_865; clear hb hbox hg; have hnb9 := NB865_866.out; have hnc9 := NB866_865.out; have hcz10_0 : w8.cell? ⟨gb865, 0, none⟩ = some (.slice A0_0 l0_0.length c0_0) := (blk_cell BK865.out 0).trans rfl; have hcz10_1 : w8.cell? ⟨gb865, 1, none⟩ = some (.slice A0_1 l0_1.length c0_1) := (blk_cell BK865.out 1).trans rfl; have hfz10_0 := blk_frozen BK865.out 0; have hfz10_1 := blk_frozen BK865.out 1; have hcz11_0 : w8.cell? ⟨gb866, 0, none⟩ = some (.slice A1_0 l1_0.length c1_0) := (blk_cell BK866.out 0).trans rfl; have hcz11_1 : w8.cell? ⟨gb866, 1, none⟩ = some (.slice A1_1 l1_1.length c1_1) := (blk_cell BK866.out 1).trans rfl; have hfz11_0 := blk_frozen BK866.out 0; have hfz11_1 := blk_frozen BK866.out 1) | ((with_reducible refine gate_callee (f := 37) rfl ?_); refine goesL_ (some 9) rfl rfl Tryd.func37 (by kernel_rfl) rfl #[.slice A0_0 l0_0.length c0_0, .slice A1_0 l1_0.length c1_0] rfl el ?_; (with_reducible refine (laws_eqInt64S.calls k _ _ l0_0 _ _ l1_0 true _ ?side1 ?side2 ?side3 ?side4 A3.out).mono ?_); (case side1 => exact cq (Kd.C_below HR0_0.out HB.out)); (case side2 => exact HC0_0.out); (case side3 => exact cq (Kd.C_below HR1_0.out HB.out)); (case side4 => exact HC1_0.out); rintro e w' ⟨rfl, ⟨nd, rfl⟩⟩; refine ⟨_, rfl, ?_⟩) | ((with_reducible refine gate_callee (f := 72) rfl ?_); refine goesL_ (some 15) rfl rfl Tryd.func72 (by kernel_rfl) rfl #[.slice A0_1 l0_1.length c0_1, .slice A1_1 l1_1.length c1_1] rfl el ?_; (with_reducible refine (laws_eqInt64SS.calls k _ _ l0_1 _ _ l1_1 true _ ?side1 ?side2 ?side3 ?side4 A5.out).mono ?_); (case side1 => repeat (first | exact (Kd.C_below HR0_1.out (hs HB.out)) | (with_reducible refine Kd.C_alloc ?_ _) | (with_reducible refine Kd.C_drewN ?_ _) | (with_reducible refine Kd.C_drew ?_))); (case side2 => exact HC0_1.out); (case side3 => repeat (first | exact (Kd.C_below HR1_1.out (hs HB.out)) | (with_reducible refine Kd.C_alloc ?_ _) | (with_reducible refine Kd.C_drewN ?_ _) | (with_reducible refine Kd.C_drew ?_))); (case side4 => exact HC1_1.out); rintro e w' ⟨rfl, ⟨nd, rfl⟩⟩; refine ⟨_, rfl, ?_⟩))
      go_ret
      exact ⟨by first | rfl | (simp [errW_none, errW_some] <;> rfl) | (simp [*, errW_none, errW_some] <;> rfl), by exact hs HB.out⟩
    · replace c6 := Bool.eq_false_iff.mpr c6
      subst c6
      have H1 : (some false) = some r := by rw [if_neg (show ¬ (false = true) by decide)] at H; exact H
      clear H
      have H := H1
      clear H1
      obtain rfl := Option.some.inj H
      go_enter Tryd.func36, Tryd.ntmps36
      go_wp2_with (first | ((with_reducible refine gate_dst (N := 2) rfl ?_); refine box_event ?hg (N := 2) ?hd (cs := #[.slice A0_0 l0_0.length c0_0, .slice A0_1 l0_1.length c0_1]) (t := 67) ?hr ?_; (case hd => rfl); (case hg => rfl); (case hr => first | (go_simp; done) | (go_simp; rfl)); intro gb865 hg w12 hbox hb; have n0_ := am (below_step (hq HB.out) hb); have n1_ := am (hbox); have n2_ := am (bz hg (hq HB.out)); have n3_ := n2_; clear HB; revert n0_ n1_ n2_ n3_; intro HB BK865 GW865 GE865; clear hb hbox hg) | ((with_reducible refine gate_dst (N := 3) rfl ?_); refine box_event ?hg (N := 3) ?hd (cs := #[.slice A1_0 l1_0.length c1_0, .slice A1_1 l1_1.length c1_1]) (t := 67) ?hr ?_; (case hd => rfl); (case hg => rfl); (case hr => first | (go_simp; done) | (go_simp; rfl)); intro gb866 hg w13 hbox hb; have n0_ := am (blk_below (bq BK865.out) hb); have n1_ := am (below_step (hs HB.out) hb); have n2_ := am (hbox); have n3_ := am (bz hg (hs HB.out)); have n4_ := n3_; have n5_ := am ((by rw [hg]; exact Nat.ne_of_lt (blk_lt (bq BK865.out)) : gb865 ≠ gb866)); have n6_ := am ((by rw [hg]; exact Nat.ne_of_gt (blk_lt (bq BK865.out)) : gb866 ≠ gb865)); clear BK865 HB; revert n0_ n1_ n2_ n3_ n4_ n5_ n6_; intro BK865 HB BK866 GW866 GE866 NB865_866 NB866_865; clear hb hbox hg; have hnb14 := NB865_866.out; have hnc14 := NB866_865.out; have hcz15_0 : w13.cell? ⟨gb865, 0, none⟩ = some (.slice A0_0 l0_0.length c0_0) := (blk_cell BK865.out 0).trans rfl; have hcz15_1 : w13.cell? ⟨gb865, 1, none⟩ = some (.slice A0_1 l0_1.length c0_1) := (blk_cell BK865.out 1).trans rfl; have hfz15_0 := blk_frozen BK865.out 0; have hfz15_1 := blk_frozen BK865.out 1; have hcz16_0 : w13.cell? ⟨gb866, 0, none⟩ = some (.slice A1_0 l1_0.length c1_0) := (blk_cell BK866.out 0).trans rfl; have hcz16_1 : w13.cell? ⟨gb866, 1, none⟩ = some (.slice A1_1 l1_1.length c1_1) := (blk_cell BK866.out 1).trans rfl; have hfz16_0 := blk_frozen BK866.out 0; have hfz16_1 := blk_frozen BK866.out 1) | ((with_reducible refine gate_callee (f := 37) rfl ?_); refine goesL_ (some 9) rfl rfl Tryd.func37 (by kernel_rfl) rfl #[.slice A0_0 l0_0.length c0_0, .slice A1_0 l1_0.length c1_0] rfl el ?_; (with_reducible refine (laws_eqInt64S.calls k _ _ l0_0 _ _ l1_0 true _ ?side1 ?side2 ?side3 ?side4 A3.out).mono ?_); (case side1 => exact cq (Kd.C_below HR0_0.out HB.out)); (case side2 => exact HC0_0.out); (case side3 => exact cq (Kd.C_below HR1_0.out HB.out)); (case side4 => exact HC1_0.out); rintro e w' ⟨rfl, ⟨nd, rfl⟩⟩; refine ⟨_, rfl, ?_⟩) | ((with_reducible refine gate_callee (f := 72) rfl ?_); refine goesL_ (some 15) rfl rfl Tryd.func72 (by kernel_rfl) rfl #[.slice A0_1 l0_1.length c0_1, .slice A1_1 l1_1.length c1_1] rfl el ?_; (with_reducible refine (laws_eqInt64SS.calls k _ _ l0_1 _ _ l1_1 false _ ?side1 ?side2 ?side3 ?side4 A5.out).mono ?_); (case side1 => repeat (first | exact (Kd.C_below HR0_1.out (hs HB.out)) | (with_reducible refine Kd.C_alloc ?_ _) | (with_reducible refine Kd.C_drewN ?_ _) | (with_reducible refine Kd.C_drew ?_))); (case side2 => exact HC0_1.out); (case side3 => repeat (first | exact (Kd.C_below HR1_1.out (hs HB.out)) | (with_reducible refine Kd.C_alloc ?_ _) | (with_reducible refine Kd.C_drewN ?_ _) | (with_reducible refine Kd.C_drew ?_))); (case side4 => exact HC1_1.out); rintro e w' ⟨rfl, ⟨nd, rfl⟩⟩; refine ⟨_, rfl, ?_⟩))
      go_ret
      exact ⟨by first | rfl | (simp [errW_none, errW_some] <;> rfl) | (simp [*, errW_none, errW_some] <;> rfl), by exact hs HB.out⟩
  · replace c4 := Bool.eq_false_iff.mpr c4
    subst c4
    have H1 : (some false) = some r := by rw [if_neg (show ¬ (false = true) by decide)] at H; exact H
    clear H
    have H := H1
    clear H1
    obtain rfl := Option.some.inj H
    go_enter Tryd.func36, Tryd.ntmps36
    go_wp2_with (first | ((with_reducible refine gate_dst (N := 2) rfl ?_); refine box_event ?hg (N := 2) ?hd (cs := #[.slice A0_0 l0_0.length c0_0, .slice A0_1 l0_1.length c0_1]) (t := 67) ?hr ?_; (case hd => rfl); (case hg => rfl); (case hr => first | (go_simp; done) | (go_simp; rfl)); intro gb865 hg w17 hbox hb; have n0_ := am (below_step (hq HB.out) hb); have n1_ := am (hbox); have n2_ := am (bz hg (hq HB.out)); have n3_ := n2_; clear HB; revert n0_ n1_ n2_ n3_; intro HB BK865 GW865 GE865; clear hb hbox hg) | ((with_reducible refine gate_dst (N := 3) rfl ?_); refine box_event ?hg (N := 3) ?hd (cs := #[.slice A1_0 l1_0.length c1_0, .slice A1_1 l1_1.length c1_1]) (t := 67) ?hr ?_; (case hd => rfl); (case hg => rfl); (case hr => first | (go_simp; done) | (go_simp; rfl)); intro gb866 hg w18 hbox hb; have n0_ := am (blk_below (bq BK865.out) hb); have n1_ := am (below_step (hs HB.out) hb); have n2_ := am (hbox); have n3_ := am (bz hg (hs HB.out)); have n4_ := n3_; have n5_ := am ((by rw [hg]; exact Nat.ne_of_lt (blk_lt (bq BK865.out)) : gb865 ≠ gb866)); have n6_ := am ((by rw [hg]; exact Nat.ne_of_gt (blk_lt (bq BK865.out)) : gb866 ≠ gb865)); clear BK865 HB; revert n0_ n1_ n2_ n3_ n4_ n5_ n6_; intro BK865 HB BK866 GW866 GE866 NB865_866 NB866_865; clear hb hbox hg; have hnb19 := NB865_866.out; have hnc19 := NB866_865.out; have hcz20_0 : w18.cell? ⟨gb865, 0, none⟩ = some (.slice A0_0 l0_0.length c0_0) := (blk_cell BK865.out 0).trans rfl; have hcz20_1 : w18.cell? ⟨gb865, 1, none⟩ = some (.slice A0_1 l0_1.length c0_1) := (blk_cell BK865.out 1).trans rfl; have hfz20_0 := blk_frozen BK865.out 0; have hfz20_1 := blk_frozen BK865.out 1; have hcz21_0 : w18.cell? ⟨gb866, 0, none⟩ = some (.slice A1_0 l1_0.length c1_0) := (blk_cell BK866.out 0).trans rfl; have hcz21_1 : w18.cell? ⟨gb866, 1, none⟩ = some (.slice A1_1 l1_1.length c1_1) := (blk_cell BK866.out 1).trans rfl; have hfz21_0 := blk_frozen BK866.out 0; have hfz21_1 := blk_frozen BK866.out 1) | ((with_reducible refine gate_callee (f := 37) rfl ?_); refine goesL_ (some 9) rfl rfl Tryd.func37 (by kernel_rfl) rfl #[.slice A0_0 l0_0.length c0_0, .slice A1_0 l1_0.length c1_0] rfl el ?_; (with_reducible refine (laws_eqInt64S.calls k _ _ l0_0 _ _ l1_0 false _ ?side1 ?side2 ?side3 ?side4 A3.out).mono ?_); (case side1 => exact cq (Kd.C_below HR0_0.out HB.out)); (case side2 => exact HC0_0.out); (case side3 => exact cq (Kd.C_below HR1_0.out HB.out)); (case side4 => exact HC1_0.out); rintro e w' ⟨rfl, ⟨nd, rfl⟩⟩; refine ⟨_, rfl, ?_⟩))
    go_ret
    exact ⟨by first | rfl | (simp [errW_none, errW_some] <;> rfl) | (simp [*, errW_none, errW_some] <;> rfl), by exact hs HB.out⟩
def Shp (w : World) (base e : Nat) (u : Value) (n : Nat) : Prop := (u = .slice none 0 0 ∧ n = 0) ∨ ∃ (g cap : Nat) (cur : Array Value), u = .slice (some ⟨g, 0, none⟩) n cap ∧ base ≤ g ∧ w.heap[g]? = some (.cells cur e (0, 0)) ∧ n ≤ cur.size
structure Mk (S : Nat → Prop) (w w' : World) : Prop where
  size : w'.heap.size = w.heap.size
  far : ∀ k, ¬ S k → w'.heap[k]? = w.heap[k]?
  cells : ∀ (k : Nat) (cur : Array Value) (e : Nat) (fz : Nat × Nat), w.heap[k]? = some (.cells cur e fz) → ∃ cur' : Array Value, w'.heap[k]? = some (.cells cur' e fz) ∧ cur'.size = cur.size
theorem Mk.refl (S : Nat → Prop) (w : World) : Mk S w w := ⟨rfl, fun _ _ => rfl, fun _ cur _ _ h => ⟨cur, h, rfl⟩⟩
theorem Mk.trans {S S' : Nat → Prop} {w w' w2 : World} (h : Mk S w w') (k : Mk S' w' w2) (hs : ∀ k, S' k → S k) : Mk S w w2 := by
  refine ⟨k.size.trans h.size, fun i hi => (k.far i (fun hk => hi (hs i hk))).trans (h.far i hi), fun i cur e fz hc => ?_⟩
  obtain ⟨c1, h1, s1⟩ := h.cells i cur e fz hc
  obtain ⟨c2, h2, s2⟩ := k.cells i c1 e fz h1
  exact ⟨c2, h2, s2.trans s1⟩
theorem Mk.set {S : Nat → Prop} {w w' : World} (h : Mk S w w') {g : Nat} (hg : S g) (j : Nat) (v : Value) : Mk S w (w'.setCell ⟨g, j, none⟩ v) := by
  refine h.trans (S' := fun k => k = g) ⟨by simp [World.setCell], fun k hk => Below.heap_setCell _ _ _ _ hk, fun k cur e fz hc => ?_⟩ (fun k hk => by rw [hk]; exact hg)
  by_cases hk : k = g
  · subst hk
    refine ⟨cur.setIfInBounds j v, ?_, by simp⟩
    simp [World.setCell, Array.getElem?_modify, hc]
  · exact ⟨cur, (Below.heap_setCell w' ⟨g, j, none⟩ v k hk).trans hc, rfl⟩
theorem Mk.shp {S : Nat → Prop} {w w' : World} (h : Mk S w w') {base e : Nat} {u : Value} {n : Nat} (hu : Shp w base e u n) : Shp w' base e u n := by
  rcases hu with hu | ⟨g, cap, cur, hu, hb, hg, hn⟩
  · exact .inl hu
  · obtain ⟨c1, h1, s1⟩ := h.cells g cur e (0, 0) hg
    exact .inr ⟨g, cap, c1, hu, hb, h1, by omega⟩
theorem Mk.kept {S : Nat → Prop} {w w' : World} (h : Mk S w w') : Kept w w' S := ⟨Nat.le_of_eq h.size.symm, fun i _ hn => h.far i hn⟩
theorem Shp.of_R {α : Type} {d : Kd α} {e base : Nat} {w : World} {ok : Nat → Prop} {u : Value} {xs : List α} (hs : 0 < d.sz) (h : d.R e w base ok u xs) : Shp w base e u xs.length := by
  obtain ⟨inner, ho⟩ := Kd.R_own h
  rcases ho.2 with hu | ⟨g, cap, cur, he, hb, hg, hn, _, hc, _⟩
  · exact .inl hu
  · refine .inr ⟨g, cap, cur, he, hb, hg, ?_⟩
    have := Nat.le_mul_of_pos_right cap hs
    omega
theorem Shp.slice {w : World} {base e : Nat} {u : Value} {n : Nat} (h : Shp w base e u n) : ∃ A c, u = .slice A n c := by
  rcases h with ⟨rfl, rfl⟩ | ⟨g, cap, cur, rfl, _⟩
  · exact ⟨_, _, rfl⟩
  · exact ⟨_, _, rfl⟩
theorem Shp.cell {w : World} {base e : Nat} {u : Value} {n : Nat} (h : Shp w base e u n) (i : Int) (h0 : 0 ≤ i) (h1 : i < n) : ∃ g c x, u = .slice (some ⟨g, 0, none⟩) n c ∧ base ≤ g ∧ w.cell? ⟨g, i.toNat, none⟩ = some x ∧ w.frozen? ⟨g, i.toNat, none⟩ = false := by
  rcases h with ⟨rfl, rfl⟩ | ⟨g, cap, cur, rfl, hb, hg, hn⟩
  · omega
  · have hi : i.toNat < cur.size := by omega
    exact ⟨g, cap, cur[i.toNat], rfl, hb, by simp [World.cell?, hg, hi], by simp [World.frozen?, hg]⟩
def markW : Nat → Int → Int → Int → Option Int
  | 0, _, _, _ => none
  | k + 1, n, x1, x5 => if x5 < n then (if 0 ≤ x5 then markW k n (wrap64 (x1 + 1)) (wrap64 (x5 + 1)) else none) else some x1
set_option maxHeartbeats 8000000 in
set_option maxRecDepth 100000 in
theorem laws_markInt64S.callsW (k : Nat) (u9000_ : Value) (n : Nat) (a1 r1 : Int) (w0 w : World) (hB : Below w0.heap.size w0 w) (hu : Shp w w0.heap.size 2 u9000_ n) (h : markW k n a1 0 = some r1) :
    Calls Tryd.prog 39 #[u9000_, .int .i64 a1] w fun e w' => e = .returned (.int .i64 r1) ∧ Below w0.heap.size w0 w' ∧ Mk (fun k_ => some k_ = u9000_.ownBlock) w w' := by
  have HB := am hB
  have HM := am (Mk.refl (fun k_ => some k_ = u9000_.ownBlock) w)
  have HU := am hu
  clear hB hu
  have H' := am h
  clear h
  go_enter Tryd.func39, Tryd.ntmps39
  go_wp2
  go_loopg [1, 5] k (fun kq v1 v5 w' => ∃ (x1_1 : Int) (x5_1 : Int), v1 = .int .i64 x1_1 ∧ v5 = .int .i64 x5_1 ∧ Aside0 (markW kq n x1_1 x5_1 = some r1) ∧ Aside0 (kq ≤ k) ∧ Aside0 (Shp w' w0.heap.size 2 u9000_ n) ∧ Aside0 (Mk (fun k_ => some k_ = u9000_.ownBlock) w w') ∧ Aside0 (Below w0.heap.size w0 w'))
  case atStart => exact ⟨a1, 0, rfl, rfl, H', ⟨Nat.le_refl _⟩, HU, HM, HB⟩
  case round =>
    clear H' HU HM HB
    obtain ⟨x1_1, x5_1, rfl, rfl, HA, HK1, HU, HM, HB⟩ := hrel
    cases gk with
    | zero => exact absurd HA.out (by simp [markW])
    | succ k1 =>
      have H := HA.out
      clear HA
      simp only [markW] at H
      by_cases c3 : x5_1 < (n : Int)
      · rw [if_pos c3] at H
        have c3b0 : decide (x5_1 < (n : Int)) = true := decide_eq_true c3
        by_cases c4 : 0 ≤ x5_1
        · rw [if_pos c4] at H
          have c4b0 : decide (0 ≤ x5_1) = true := decide_eq_true c4
          have H' := am H
          clear H
          obtain ⟨go5, co5, xo5, rfl, hgo5, hx5_0, hf5_0⟩ := Shp.cell HU.out x5_1 c4 c3
          have GB5 := am hgo5
          clear hgo5
          have p5 := eq_true c4
          have q5 := eq_true c3
          clear c3 c4
          go_wp2_with (first | ((with_reducible refine gate_store (t := 2) (p := 15) rfl ?_); refine store_event (t := 2) (p := 15) (v := ?vo_w8) (w1 := (wr.setCell ⟨go5, (x5_1 : Int).toNat, none⟩ (.int .i64 x1_1))) ?hg ?ho ?hn ?hr ?_; (case ho => rfl); (case hg => rfl); (case hn => rfl); (case hr => first | (go_simp; done) | (go_simp; rfl)); intro w8 hw; have n0_ := am (show Below w0.heap.size w0 w8 by rw [hw]; exact below_set (HB.out) GB5.out); have n1_ := am (show Mk (fun k_ => some k_ = (Value.slice (some ⟨go5, 0, none⟩) n co5).ownBlock) w w8 by rw [hw]; exact HM.out.set rfl _ _); have n2_ := am (show Shp w8 w0.heap.size 2 (Value.slice (some ⟨go5, 0, none⟩) n co5) n by rw [hw]; exact ((Mk.refl (fun k_ => k_ = go5) wr).set rfl _ _).shp HU.out); clear HB HM HU; have HB := n0_; have HM := n1_; have HU := n2_; clear n0_ n1_ n2_; clear hw))
          go_roundg k1
          case measure => have := HK1.out; omega
          case rel => exact ⟨(wrap64 (x1_1 + 1)), (wrap64 (x5_1 + 1)), (by first | rfl | (simp; done) | (simp [*]; done)), (by first | rfl | (simp; done) | (simp [*]; done)), H', ⟨by have := HK1.out; omega⟩, HU, HM, HB⟩
        · rw [if_neg c4] at H
          exact absurd H (by simp)
      · rw [if_neg c3] at H
        have c3b0 : decide (x5_1 < (n : Int)) = false := decide_eq_false c3
        clear c3
        simp only [Option.some.injEq] at H
        obtain rfl := H
        obtain ⟨Ao9, co9, eo9⟩ := Shp.slice HU.out
        subst eo9
        go_wp2
        go_ret
        exact ⟨rfl, HB.out, HM.out⟩
def WkRows (w : World) (base e : Nat) (P : Nat → Prop) (u : Value) (n m : Nat) (len : Nat → Nat) : Prop := (∃ A c, u = .slice A n c) ∧ ∀ q, q < m → ∃ (g c : Nat) (v : Value), u = .slice (some ⟨g, 0, none⟩) n c ∧ w.cell? ⟨g, q, none⟩ = some v ∧ Shp w base e v (len q) ∧ ∀ k, v.ownBlock = some k → P k ∧ k ≠ g
theorem WkRows.step {w w' : World} {base e : Nat} {P : Nat → Prop} {u v : Value} {n g c : Nat} {m : Nat} {len : Nat → Nat} (h : WkRows w base e P u n m len) (hu : u = .slice (some ⟨g, 0, none⟩) n c) (hv : ∀ k, v.ownBlock = some k → k ≠ g) (hm : Mk (fun k => some k = v.ownBlock) w w') : WkRows w' base e P u n m len := by
  refine ⟨h.1, fun q hq => ?_⟩
  obtain ⟨g', c', v', hu', hc, hs, hp⟩ := h.2 q hq
  obtain ⟨rfl, rfl⟩ : g' = g ∧ c' = c := by
    rw [hu] at hu'
    injection hu' with h1 _ h3
    injection h1 with h1
    injection h1 with h1
    exact ⟨h1.symm, h3.symm⟩
  refine ⟨g', c', v', hu', ?_, hm.shp hs, hp⟩
  rw [World.cell?_of_block (hm.far g' (fun hk => hv g' hk.symm rfl))]
  exact hc
theorem Shp.below {w w' : World} {base e : Nat} {u : Value} {n : Nat} (h : Shp w base e u n) (hb : Below w.heap.size w w') : Shp w' base e u n := by
  rcases h with hu | ⟨g, cap, cur, hu, hbs, hg, hn⟩
  · exact .inl hu
  · exact .inr ⟨g, cap, cur, hu, hbs, (hb.block g (blk_lt hg)).trans hg, hn⟩
theorem WkRows.below {w w' : World} {base e : Nat} {P : Nat → Prop} {u : Value} {n : Nat} {m : Nat} {len : Nat → Nat} (h : WkRows w base e P u n m len) (hb : Below w.heap.size w w') : WkRows w' base e P u n m len := by
  refine ⟨h.1, fun q hq => ?_⟩
  obtain ⟨g, c, v, hu, hc, hs, hp⟩ := h.2 q hq
  exact ⟨g, c, v, hu, (World.cell?_of_block (hb.block g (World.block_lt_of_cell? w _ hc))).trans hc, hs.below hb, hp⟩
theorem WkRows.stepN {w w' : World} {base e : Nat} {P : Nat → Prop} {u v : Value} {n : Nat} {m : Nat} {len : Nat → Nat} (h : WkRows w base e P u n m len) (hv : ∀ k0 k1, v.ownBlock = some k0 → u.ownBlock = some k1 → k0 ≠ k1) (hm : Mk (fun k => some k = v.ownBlock) w w') : WkRows w' base e P u n m len := by
  refine ⟨h.1, fun q hq => ?_⟩
  obtain ⟨g, c, x, hu, hc, hs, hp⟩ := h.2 q hq
  refine ⟨g, c, x, hu, ?_, hm.shp hs, hp⟩
  rw [World.cell?_of_block (hm.far g (fun hk => hv g g hk.symm (by rw [hu]; rfl) rfl))]
  exact hc
theorem WkRows.of_SS {w : World} {base e T : Nat} {P : Nat → Prop} {u : Value} {xs : List (List Int)} (h : Kd.R (Kd.slice e (Kd.int .i64)) T w base P u xs) : WkRows w base e P u xs.length xs.length (fun q => (xs.getD q []).length) := by
  refine ⟨Kd.R_slice h, fun q hq => ?_⟩
  obtain ⟨hok, inner, hown, hreps⟩ := h
  rcases hown.2 with ⟨_, hn⟩ | ⟨g, cap, cur, rfl, hb, hg, hn, hc, hsz, htk⟩
  · omega
  · obtain ⟨v, hv, hR⟩ := hreps.2 q xs[q] (List.getElem?_eq_getElem hq)
    refine ⟨g, cap, v, rfl, ?_, ?_, fun k hk => ?_⟩
    · have h1 : inner[q]? = some v := by
        have := congrArg (·[0]?) hv
        simpa [Kd.slice, List.getElem?_take, List.getElem?_drop] using this
      rw [← htk] at h1
      have h2 : cur.toList[q]? = some v := by
        rw [List.getElem?_take] at h1
        split at h1
        · exact h1
        · cases h1
      simp only [World.cell?, hg]
      simpa using h2
    · have := Shp.of_R (by decide) hR
      show Shp w base e v (xs.getD q []).length
      rw [show xs.getD q [] = xs[q] by simp [hq]]
      exact this
    · have := hR.1 k hk
      exact ⟨this.1, fun he => this.2 (by rw [he]; rfl)⟩
def laws_markInt64SS.l0 : Nat → List (List Int) → Int → Int → Option Int
  | 0, _, _, _ => none
  | k + 1, x0, x1, x5 => if x5 < (x0.length : Int) then (if 0 ≤ x5 then (markW k (x0.getD x5.toNat []).length x1 0).bind fun y => laws_markInt64SS.l0 k x0 y (wrap64 (x5 + 1)) else none) else some x1
def laws_markInt64SS.f (k : Nat) (l0 : List (List Int)) (a1 : Int) : Option Int := laws_markInt64SS.l0 k l0 a1 0
set_option maxHeartbeats 8000000 in
set_option maxRecDepth 100000 in
theorem laws_markInt64SS.callsWk (k : Nat) (P0_ : Nat → Prop) (u9000_ : Value) (l0 : List (List Int)) (a1 : Int) (r : Int) (w0 w : World) (hB : Below w0.heap.size w0 w) (hU : WkRows w w0.heap.size 2 P0_ u9000_ l0.length l0.length (fun q => (l0.getD q []).length)) (h : laws_markInt64SS.f k l0 a1 = some r) :
    Calls Tryd.prog 73 #[u9000_, .int .i64 a1] w fun e w' => e = .returned (.int .i64 r) ∧ Below w0.heap.size w0 w' ∧ Kept w w' (fun k_ => P0_ k_) := by
  have HB := am hB
  have HM := am (Mk.refl (fun k_ => P0_ k_) w)
  have HU := am hU
  clear hB hU
  have H' := am (show laws_markInt64SS.l0 k l0 a1 0 = some r from h)
  clear h
  go_enter Tryd.func73, Tryd.ntmps73
  go_wp2
  go_loopg [1, 5] k (fun kq v1 v5 w' => ∃ (x1_1 : Int) (x5_1 : Int), v1 = .int .i64 x1_1 ∧ v5 = .int .i64 x5_1 ∧ Aside0 (laws_markInt64SS.l0 kq l0 x1_1 x5_1 = some r) ∧ Aside0 (kq ≤ k) ∧ Aside0 (WkRows w' w0.heap.size 2 P0_ u9000_ l0.length l0.length (fun q => (l0.getD q []).length)) ∧ Aside0 (Mk (fun k_ => P0_ k_) w w') ∧ Aside0 (Below w0.heap.size w0 w'))
  case atStart => exact ⟨a1, 0, rfl, rfl, H', ⟨Nat.le_refl _⟩, HU, HM, HB⟩
  case round =>
    clear H' HU HM HB
    obtain ⟨x1_1, x5_1, rfl, rfl, HA, HK1, HU, HM, HB⟩ := hrel
    cases gk with
    | zero => exact absurd HA.out (by simp [laws_markInt64SS.l0])
    | succ k1 =>
      have H := HA.out
      clear HA
      simp only [laws_markInt64SS.l0] at H
      by_cases c3 : x5_1 < (l0.length : Int)
      · rw [if_pos c3] at H
        have c3b0 : decide (x5_1 < (l0.length : Int)) = true := decide_eq_true c3
        by_cases c4 : 0 ≤ x5_1
        · rw [if_pos c4] at H
          have c4b0 : decide (0 ≤ x5_1) = true := decide_eq_true c4
          obtain ⟨y_, A30, H⟩ := Option.bind_eq_some_iff.mp H
          obtain ⟨row_, hrow_⟩ : ∃ z_ : List Int, z_ = l0.getD x5_1.toNat [] := ⟨_, rfl⟩
          rw [← hrow_] at A30
          have A3 := am A30
          have H' := am H
          clear H A30
          obtain ⟨go5, co5, v5_, rfl, hx5_0, hs5, hp5⟩ := HU.out.2 x5_1.toNat (by omega)
          replace hs5 : Shp _ _ _ _ (l0.getD x5_1.toNat []).length := hs5
          rw [← hrow_] at hs5
          have HS5 := am hs5
          have HP5 := am hp5
          clear hs5 hp5 hrow_
          obtain ⟨A5_, c5_, e5_⟩ := Shp.slice HS5.out
          subst e5_
          have p5 := eq_true c4
          have q5 := eq_true c3
          clear c3 c4
          go_wp2_with (first | ((with_reducible refine gate_callee (f := 39) rfl ?_); refine goesL_ _ rfl rfl Tryd.func39 (by kernel_rfl) rfl #[.slice A5_ row_.length c5_, .int .i64 x1_1] rfl (by (try simp only [List.map_toArray, List.map_cons, List.map_nil]); first | done | rfl) ?_; (with_reducible refine (laws_markInt64S.callsW k1 (.slice A5_ row_.length c5_) row_.length x1_1 y_ w0 _ ?side1 ?side2 A3.out).mono ?_); (case side1 => exact HB.out); (case side2 => exact HS5.out); rintro e w7 ⟨rfl, hb, hm⟩; refine ⟨_, rfl, ?_⟩; have n0_ := am hb; have n1_ := am (HM.out.trans hm (fun k_ hk_ => (HP5.out k_ hk_.symm).1)); have n2_ := am (HU.out.step rfl (fun k_ hk_ => (HP5.out k_ hk_).2) hm); clear HB HM HU; have HB := n0_; have HM := n1_; have HU := n2_; clear n0_ n1_ n2_; clear hb hm))
          go_roundg k1
          case measure => have := HK1.out; omega
          case rel => exact ⟨y_, (wrap64 (x5_1 + 1)), (by first | rfl | (simp; done) | (simp [*]; done)), (by first | rfl | (simp; done) | (simp [*]; done)), H', ⟨by have := HK1.out; omega⟩, HU, HM, HB⟩
        · rw [if_neg c4] at H
          exact absurd H (by simp)
      · rw [if_neg c3] at H
        have c3b0 : decide (x5_1 < (l0.length : Int)) = false := decide_eq_false c3
        clear c3
        simp only [Option.some.injEq] at H
        obtain rfl := H
        obtain ⟨Ao9, co9, eo9⟩ := HU.out.1
        subst eo9
        go_wp2
        go_ret
        exact ⟨rfl, HB.out, HM.out.kept⟩
def laws_markBinding.f (k : Nat) (l0_0 : List Int) (l0_1 : List (List Int)) (a1 : Int) : Option Int := (markW k l0_0.length a1 0).bind fun b => laws_markInt64SS.f k l0_1 b
set_option maxHeartbeats 8000000 in
set_option maxRecDepth 100000 in
theorem laws_markBinding.calls (k : Nat) (P0_0_ : Nat → Prop) (u9000_ : Value) (l0_0 : List Int) (P0_1_ : Nat → Prop) (u9001_ : Value) (l0_1 : List (List Int)) (a1 : Int) (r : Int) (w0 w : World) (hB : Below w0.heap.size w0 w) (ho0_0 : Kd.R (Kd.int .i64) 2 w w0.heap.size P0_0_ u9000_ l0_0) (ho0_1 : Kd.R (Kd.slice 2 (Kd.int .i64)) 27 w w0.heap.size P0_1_ u9001_ l0_1) (h : laws_markBinding.f k l0_0 l0_1 a1 = some r) :
    Calls Tryd.prog 38 #[.agg #[u9000_, u9001_], .int .i64 a1] w fun e w' => e = .returned (.int .i64 r) ∧ Below w0.heap.size w0 w' ∧ Kept w w' (fun k_ => P0_0_ k_ ∨ P0_1_ k_) := by
  have hu67 := Tryd.underlying67
  have HB := am hB
  have HS := am (Shp.of_R (by decide) ho0_0)
  have HU := am (WkRows.of_SS ho0_1)
  have HV := am ho0_0.1
  have HK := am (Kept.refl w (fun k_ => P0_0_ k_ ∨ P0_1_ k_))
  have HT0 := Kd.R_typed ho0_0
  have HT1 := Kd.R_typed ho0_1
  have HN := am (show ∀ k0 k1, u9000_.ownBlock = some k0 → u9001_.ownBlock = some k1 → k0 ≠ k1 from fun k0 k1 h0 h1 e => by
    obtain ⟨c0, e0⟩ := HT0 k0 h0
    obtain ⟨c1, e1⟩ := HT1 k1 h1
    subst e
    rw [e0] at e1
    injection e1 with e1
    injection e1 with _ e1
    exact absurd e1 (by decide))
  have HL0 := am (Kd.R_lt ho0_0)
  clear HT0 HT1
  obtain ⟨Ao4, co4, eo4⟩ := Kd.R_slice ho0_0
  obtain ⟨Ao5, co5, eo5⟩ := Kd.R_slice ho0_1
  subst eo4 eo5
  clear hB ho0_0 ho0_1
  obtain ⟨y_, A30, H⟩ := Option.bind_eq_some_iff.mp h
  have A3 := am A30
  have A4 := am H
  clear h A30 H
  go_enter Tryd.func38, Tryd.ntmps38
  go_wp2_with (first | ((with_reducible refine gate_dst (N := 2) rfl ?_); refine box_event ?hg (N := 2) ?hd (cs := #[.slice Ao4 l0_0.length co4, .slice Ao5 l0_1.length co5]) (t := 67) ?hr ?_; (case hd => rfl); (case hg => rfl); (case hr => first | (go_simp; done) | (go_simp; rfl)); intro gb1 hg w5 hbox hb; have n0_ := am (HS.out.below hb); have n1_ := am (HU.out.below hb); have n2_ := am (HK.out.below hb); have n3_ := am (below_step HB.out hb); have BK1 := am hbox; have HG1 := am (show ∀ k0, (Value.slice Ao4 l0_0.length co4).ownBlock = some k0 → k0 ≠ gb1 from fun k0 hk => by rw [hg]; exact Nat.ne_of_lt (HL0.out k0 hk)); have hcz6_0 : w5.cell? ⟨gb1, 0, none⟩ = some (.slice Ao4 l0_0.length co4) := (blk_cell hbox 0).trans rfl; have hcz6_1 : w5.cell? ⟨gb1, 1, none⟩ = some (.slice Ao5 l0_1.length co5) := (blk_cell hbox 1).trans rfl; have hfz6_0 := blk_frozen hbox 0; have hfz6_1 := blk_frozen hbox 1; clear HS HU HK HB hb hbox hg; have HS := n0_; have HU := n1_; have HK := n2_; have HB := n3_; clear n0_ n1_ n2_ n3_) | ((with_reducible refine gate_callee (f := 39) rfl ?_); refine goesL_ _ rfl rfl Tryd.func39 (by kernel_rfl) rfl #[.slice Ao4 l0_0.length co4, .int .i64 a1] rfl (by (try simp only [List.map_toArray, List.map_cons, List.map_nil]); first | done | rfl) ?_; (with_reducible refine (laws_markInt64S.callsW k (.slice Ao4 l0_0.length co4) l0_0.length a1 y_ w0 _ ?side1 ?side2 A3.out).mono ?_); (case side1 => exact HB.out); (case side2 => exact HS.out); rintro e w7 ⟨rfl, hb, hm⟩; refine ⟨_, rfl, ?_⟩; have n1_ := am (HU.out.stepN (v := .slice Ao4 l0_0.length co4) (fun k0 k1 h0 h1 => HN.out k0 k1 h0 h1) hm); have n2_ := am (HK.out.then_ hm.kept (fun k_ hk_ => .inl (.inl (HV.out k_ hk_.symm)))); have n3_ := am hb; have BK2 := am ((hm.far gb1 (fun hk => HG1.out gb1 hk.symm rfl)).trans BK1.out); clear HU HK HB HS hb hm hcz6_0 hcz6_1 hfz6_0 hfz6_1; have hcz7_0 : w7.cell? ⟨gb1, 0, none⟩ = some (.slice Ao4 l0_0.length co4) := (blk_cell BK2.out 0).trans rfl; have hcz7_1 : w7.cell? ⟨gb1, 1, none⟩ = some (.slice Ao5 l0_1.length co5) := (blk_cell BK2.out 1).trans rfl; have HU := n1_; have HK := n2_; have HB := n3_; clear n1_ n2_ n3_) | ((with_reducible refine gate_callee (f := 73) rfl ?_); refine goesL_ _ rfl rfl Tryd.func73 (by kernel_rfl) rfl #[.slice Ao5 l0_1.length co5, .int .i64 y_] rfl (by (try simp only [List.map_toArray, List.map_cons, List.map_nil]); first | done | rfl) ?_; (with_reducible refine (laws_markInt64SS.callsWk k P0_1_ (.slice Ao5 l0_1.length co5) l0_1 y_ r w0 _ ?side1 ?side2 A4.out).mono ?_); (case side1 => exact HB.out); (case side2 => exact HU.out); rintro e w8 ⟨rfl, hb, hk⟩; refine ⟨_, rfl, ?_⟩; have n2_ := am (HK.out.then_ hk (fun k_ hk_ => .inl (.inr hk_))); have n3_ := am hb; clear HK HB hb hk; have HK := n2_; have HB := n3_; clear n2_ n3_))
  go_ret
  exact ⟨rfl, HB.out, HK.out⟩
def laws_markTermResult.f (k : Nat) (a0_0 : Int) (l0_1 : List Int) (a1 : Int) : Option (Int × List Int) := (laws_markInt64S.f k l0_1 a1).bind fun bt870 => (some (bt870.1, bt870.2))
set_option maxHeartbeats 8000000 in
set_option maxRecDepth 100000 in
theorem laws_markTermResult.calls (k : Nat) (a0_0 : Int) (P0_1_ : Nat → Prop) (u9000_ : Value) (l0_1 : List Int) (a1 : Int) (r1 : Int) (r2 : List Int) (w0 w : World) (hB : Below w0.heap.size w0 w) (ho0_1 : Kd.R (Kd.int .i64) 2 w w0.heap.size P0_1_ u9000_ l0_1) (h : laws_markTermResult.f k a0_0 l0_1 a1 = some (r1, r2)) :
    Calls Tryd.prog 40 #[.agg #[.int .i64 a0_0, u9000_], .int .i64 a1] w fun e w' => e = .returned (.int .i64 r1) ∧ Kd.R (Kd.int .i64) 2 w' w0.heap.size (fun k_ => (P0_1_ k_ ∨ w.heap.size ≤ k_)) u9000_ r2 ∧ Below w0.heap.size w0 w' ∧ Kept w w' (fun k_ => P0_1_ k_) := by
  have hu65 := Tryd.underlying65
  have HO0_1 := am (show Kd.R (Kd.int .i64) 2 w w0.heap.size (fun k_ => (P0_1_ k_ ∨ w.heap.size ≤ k_)) u9000_ l0_1 from Kd.R_mono ho0_1 (fun k_ hk => (.inl hk)))
  have HK := am (Kept.refl w (fun k_ => P0_1_ k_))
  have HW0 := am hB.size
  have HB := am hB
  clear hB
  have H : ((laws_markInt64S.f k l0_1 a1).bind fun bt870 => (some (bt870.1, bt870.2))) = some (r1, r2) := h
  clear h
  replace H := Option.bind_eq_some_iff.mp H
  obtain ⟨⟨t870, t871⟩, A30, H⟩ := H
  replace H : (some (t870, t871)) = some (r1, r2) := H
  have A3 := am A30
  clear A30
  simp only [Option.some.injEq, Prod.mk.injEq] at H
  obtain ⟨rfl, rfl⟩ := H
  obtain ⟨Ao4, co4, eo4⟩ := Kd.R_slice HO0_1.out
  subst eo4
  go_enter Tryd.func40, Tryd.ntmps40
  go_wp2_with (first | ((with_reducible refine gate_dst (N := 2) rfl ?_); refine box_event ?hg (N := 2) ?hd (cs := #[.int .i64 a0_0, .slice Ao4 l0_1.length co4]) (t := 65) ?hr ?_; (case hd => rfl); (case hg => rfl); (case hr => first | (go_simp; done) | (go_simp; rfl)); intro gb869 hg w5 hbox hb; have n0_ := am (Kd.R_below (rq HO0_1.out) hb); have n1_ := am (Kept.below (S := (fun k_ => P0_1_ k_)) (by repeat (first | (with_reducible first | exact HK.out | apply Kept.alloc | apply Kept.drewN | apply Kept.drew) | exact HK.out)) hb); have n2_ := am (below_step (hq HB.out) hb); have n3_ := am (hbox); have n4_ := am ((by rw [hg]; exact (by first | exact HK.out.1 | exact (show Kept w _ (fun k_ => P0_1_ k_) from by repeat (first | (with_reducible first | exact HK.out | apply Kept.alloc | apply Kept.drewN | apply Kept.drew) | exact HK.out)).1) : w.heap.size ≤ gb869)); have n5_ := am (bz hg (hq HB.out)); clear HO0_1 HK HB; revert n0_ n1_ n2_ n3_ n4_ n5_; intro HO0_1 HK HB BK869 GW869 GE869; clear hb hbox hg; have hcz6_0 : w5.cell? ⟨gb869, 0, none⟩ = some (.int .i64 a0_0) := (blk_cell BK869.out 0).trans rfl; have hcz6_1 : w5.cell? ⟨gb869, 1, none⟩ = some (.slice Ao4 l0_1.length co4) := (blk_cell BK869.out 1).trans rfl; have hfz6_0 := blk_frozen BK869.out 0; have hfz6_1 := blk_frozen BK869.out 1) | ((with_reducible refine gate_callee (f := 39) rfl ?_); refine goesL_ (some 8) rfl rfl Tryd.func39 (by kernel_rfl) rfl #[.slice Ao4 l0_1.length co4, .int .i64 a1] rfl el ?_; (with_reducible refine (laws_markInt64S.calls k (fun k_ => some k_ = (.slice Ao4 l0_1.length co4 : Value).ownBlock) (.slice Ao4 l0_1.length co4) l0_1 a1 t870 t871 w0 _ ?side1 ?side2 A3.out).mono ?_); (case side1 => exact hs HB.out); (case side2 => exact Kd.R_tight rfl HO0_1.out); rintro e w7 ⟨rfl, hy0, hb, hkp⟩; refine ⟨_, rfl, ?_⟩; have n0_ := am (Kd.R_reok rfl hy0 (fun k_ e_ => HO0_1.out.1 k_ e_)); have n1_ := am (blk_keptF BK869.out (fun h_ => by refine bq ?_; exact h_) hkp (fun hs_ => (fun e_ => (Kd.R_ne HO0_1.out BK869.out (by decide)) e_) hs_)); have n2_ := am (Kept.then_ (S := (fun k_ => P0_1_ k_)) (by repeat (first | (with_reducible first | exact HK.out | apply Kept.alloc | apply Kept.drewN | apply Kept.drew | refine Kept.setCell ?_ (.inr GW869.out) _) | exact HK.out)) hkp (fun k_ hs_ => (fun e_ => (HO0_1.out.1 k_ e_.symm)) hs_)); have n3_ := am (hb); clear HO0_1 BK869 HK HB; revert n0_ n1_ n2_ n3_; intro HO0_1 BK869 HK HB; (try clear hb); (try clear hkp); (try clear hy0)))
  go_ret
  exact ⟨by first | rfl | (simp [errW_none, errW_some] <;> rfl) | (simp [*, errW_none, errW_some] <;> rfl), by (with_reducible repeat (first | apply Kd.R_alloc | apply Kd.R_drewN | apply Kd.R_drew)); exact HO0_1.out, by exact hs HB.out, by repeat (first | (with_reducible first | exact HK.out | apply Kept.alloc | apply Kept.drewN | apply Kept.drew | refine Kept.setCell ?_ (.inr GW869.out) _) | exact HK.out)⟩
def laws_heldTermResult.f (k : Nat) (a0_0 : Int) (l0_1 : List Int) (a1 : Int) : Option (Int) := (laws_heldInt64S.f k l0_1 a1).bind fun t873 => (if t873 < 0 then (some (-1)) else (some t873))
set_option maxHeartbeats 8000000 in
set_option maxRecDepth 100000 in
theorem laws_heldTermResult.calls (k : Nat) (a0_0 : Int) (A0_1 : Option Addr) (c0_1 : Nat) (l0_1 : List Int) (a1 : Int) (r : Int) (w : World) (hr0_1 : Kd.C (Kd.int .i64) w A0_1 l0_1.length l0_1) (hc0_1 : l0_1.length ≤ c0_1) (h : laws_heldTermResult.f k a0_0 l0_1 a1 = some r) :
    Calls Tryd.prog 41 #[.agg #[.int .i64 a0_0, .slice A0_1 l0_1.length c0_1], .int .i64 a1] w fun e w' => e = .returned (.int .i64 r) ∧ Below w.heap.size w w' := by
  have hu65 := Tryd.underlying65
  have HR0_1 := am hr0_1
  have HC0_1 := am hc0_1
  clear hr0_1 hc0_1
  have HB := am (Below.refl w.heap.size w)
  have H : ((laws_heldInt64S.f k l0_1 a1).bind fun t873 => (if t873 < 0 then (some (-1)) else (some t873))) = some r := h
  clear h
  replace H := Option.bind_eq_some_iff.mp H
  obtain ⟨t873, A30, H⟩ := H
  replace H : (if t873 < 0 then (some (-1)) else (some t873)) = some r := H
  have A3 := am A30
  clear A30
  by_cases c4 : t873 < 0
  · rw [if_pos c4] at H
    have c4b0 : decide (t873 < 0) = true := decide_eq_true c4
    clear c4
    obtain rfl := Option.some.inj H
    go_enter Tryd.func41, Tryd.ntmps41
    go_wp2_with (first | ((with_reducible refine gate_dst (N := 2) rfl ?_); refine box_event ?hg (N := 2) ?hd (cs := #[.int .i64 a0_0, .slice A0_1 l0_1.length c0_1]) (t := 65) ?hr ?_; (case hd => rfl); (case hg => rfl); (case hr => first | (go_simp; done) | (go_simp; rfl)); intro gb872 hg w5 hbox hb; have n0_ := am (below_step (hq HB.out) hb); have n1_ := am (hbox); have n2_ := am (bz hg (hq HB.out)); have n3_ := n2_; clear HB; revert n0_ n1_ n2_ n3_; intro HB BK872 GW872 GE872; clear hb hbox hg; have hcz6_0 : w5.cell? ⟨gb872, 0, none⟩ = some (.int .i64 a0_0) := (blk_cell BK872.out 0).trans rfl; have hcz6_1 : w5.cell? ⟨gb872, 1, none⟩ = some (.slice A0_1 l0_1.length c0_1) := (blk_cell BK872.out 1).trans rfl; have hfz6_0 := blk_frozen BK872.out 0; have hfz6_1 := blk_frozen BK872.out 1) | ((with_reducible refine gate_callee (f := 74) rfl ?_); refine goesL_ (some 8) rfl rfl Tryd.func74 (by kernel_rfl) rfl #[.slice A0_1 l0_1.length c0_1, .int .i64 a1] rfl el ?_; (with_reducible refine (laws_heldInt64S.calls k _ _ l0_1 a1 t873 _ ?side1 ?side2 A3.out).mono ?_); (case side1 => exact cq (Kd.C_below HR0_1.out HB.out)); (case side2 => exact HC0_1.out); rintro e w' ⟨rfl, ⟨nd, rfl⟩⟩; refine ⟨_, rfl, ?_⟩))
    go_ret
    exact ⟨by first | rfl | (simp [errW_none, errW_some] <;> rfl) | (simp [*, errW_none, errW_some] <;> rfl), by exact hs HB.out⟩
  · rw [if_neg c4] at H
    have c4b0 : decide (t873 < 0) = false := decide_eq_false c4
    clear c4
    obtain rfl := Option.some.inj H
    go_enter Tryd.func41, Tryd.ntmps41
    go_wp2_with (first | ((with_reducible refine gate_dst (N := 2) rfl ?_); refine box_event ?hg (N := 2) ?hd (cs := #[.int .i64 a0_0, .slice A0_1 l0_1.length c0_1]) (t := 65) ?hr ?_; (case hd => rfl); (case hg => rfl); (case hr => first | (go_simp; done) | (go_simp; rfl)); intro gb872 hg w7 hbox hb; have n0_ := am (below_step (hq HB.out) hb); have n1_ := am (hbox); have n2_ := am (bz hg (hq HB.out)); have n3_ := n2_; clear HB; revert n0_ n1_ n2_ n3_; intro HB BK872 GW872 GE872; clear hb hbox hg; have hcz8_0 : w7.cell? ⟨gb872, 0, none⟩ = some (.int .i64 a0_0) := (blk_cell BK872.out 0).trans rfl; have hcz8_1 : w7.cell? ⟨gb872, 1, none⟩ = some (.slice A0_1 l0_1.length c0_1) := (blk_cell BK872.out 1).trans rfl; have hfz8_0 := blk_frozen BK872.out 0; have hfz8_1 := blk_frozen BK872.out 1) | ((with_reducible refine gate_callee (f := 74) rfl ?_); refine goesL_ (some 8) rfl rfl Tryd.func74 (by kernel_rfl) rfl #[.slice A0_1 l0_1.length c0_1, .int .i64 a1] rfl el ?_; (with_reducible refine (laws_heldInt64S.calls k _ _ l0_1 a1 t873 _ ?side1 ?side2 A3.out).mono ?_); (case side1 => exact cq (Kd.C_below HR0_1.out HB.out)); (case side2 => exact HC0_1.out); rintro e w' ⟨rfl, ⟨nd, rfl⟩⟩; refine ⟨_, rfl, ?_⟩))
    go_ret
    exact ⟨by first | rfl | (simp [errW_none, errW_some] <;> rfl) | (simp [*, errW_none, errW_some] <;> rfl), by exact hs HB.out⟩
end Go.Proofs.YtcanokiehjjbgaaDoor.P
