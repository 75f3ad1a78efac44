/- A part of the proof of the law FnExactPlainEquation. -/
import Derived.Laws.StructEq
import Derived.Test.YtcanokiehjjbgaaDoorCFnExactPlainEquation0
import Derived.Test.YtcanokiehjjbgaaDoorCFnExactPlainEquation1
import Derived.Test.YtcanokiehjjbgaaDoorCFnExactPlainEquation2
import Derived.Test.YtcanokiehjjbgaaDoorCFnExactPlainEquation3
import Derived.Test.YtcanokiehjjbgaaDoorCFnExactPlainEquation4
import Derived.Test.YtcanokiehjjbgaaDoorCFnExactPlainEquation13
namespace Go.Proofs.YtcanokiehjjbgaaDoor.P
open Go.RowKit Go.Proofs.YtcanokiehjjbgaaDoorW.PrintWords Go.Proofs.YtcanokiehjjbgaaDoorW.PrintLast Go.Proofs.YtcanokiehjjbgaaDoorW.PrintMore
attribute [local go_sem] max2_int min2_int max_two min_two max_three min_three max_four min_four   -- for this text's walks alone
set_option linter.unusedVariables false
set_option linter.unusedSimpArgs false
def spec_PlainEquation.f (k : Nat) (l0_0 : List (S110)) (l1_0 : List Int) (l1_1 : List Int) : Option (Int × List Int × List Int) := (spec_TermFault.f k l0_0 l1_0).bind fun t568 => (if t568 = 0 then ((spec_l3Fault.f k [(⟨l0_0⟩ : S26)] l1_1).bind fun t569 => (if t569 = 0 then ((spec_l4Plain.f k [(⟨l1_0, l1_1⟩ : S47)]).bind fun bt570 => (if bt570.2.2 = true then (some (0, bt570.1, bt570.2.1)) else (some (2, ([] : List Int), ([] : List Int))))) else (some (t569, ([] : List Int), ([] : List Int))))) else (some (t568, ([] : List Int), ([] : List Int))))
set_option maxHeartbeats 8000000 in
set_option maxRecDepth 100000 in
theorem spec_PlainEquation.calls (k : Nat) (A0_0 : Option Addr) (c0_0 : Nat) (l0_0 : List (S110)) (A1_0 : Option Addr) (c1_0 : Nat) (l1_0 : List Int) (A1_1 : Option Addr) (c1_1 : Nat) (l1_1 : List Int) (r1 : Int) (r2 : List Int) (r3 : List Int) (w : World) (hr0_0 : Kd.C k110 w A0_0 l0_0.length l0_0) (hc0_0 : l0_0.length ≤ c0_0) (hr1_0 : Kd.C (Kd.int .i64) w A1_0 l1_0.length l1_0) (hc1_0 : l1_0.length ≤ c1_0) (hr1_1 : Kd.C (Kd.int .i64) w A1_1 l1_1.length l1_1) (hc1_1 : l1_1.length ≤ c1_1) (h : spec_PlainEquation.f k l0_0 l1_0 l1_1 = some (r1, r2, r3)) :
    Calls Tryd.prog 19 #[.agg #[.slice A0_0 l0_0.length c0_0], .agg #[.slice A1_0 l1_0.length c1_0, .slice A1_1 l1_1.length c1_1]] w fun e w' => ∃ v1_ v2_ : Value, e = .returned (.agg #[.int .i64 r1, v1_, v2_]) ∧ Kd.R (Kd.int .i64) 2 w' w.heap.size (fun k_ => some k_ ≠ (v2_ : Value).ownBlock) v1_ r2 ∧ Kd.R (Kd.int .i64) 2 w' w.heap.size (fun k_ => some k_ ≠ (v1_ : Value).ownBlock) v2_ r3 ∧ Below w.heap.size w w' := by
  have hu26 := Tryd.underlying26
  have hu47 := Tryd.underlying47
  have hu49 := Tryd.underlying49
  have HR0_0 := am hr0_0
  have HC0_0 := am hc0_0
  clear hr0_0 hc0_0
  have HR1_0 := am hr1_0
  have HC1_0 := am hc1_0
  clear hr1_0 hc1_0
  have HR1_1 := am hr1_1
  have HC1_1 := am hc1_1
  clear hr1_1 hc1_1
  have HB := am (Below.refl w.heap.size w)
  have H : ((spec_TermFault.f k l0_0 l1_0).bind fun t568 => (if t568 = 0 then ((spec_l3Fault.f k [(⟨l0_0⟩ : S26)] l1_1).bind fun t569 => (if t569 = 0 then ((spec_l4Plain.f k [(⟨l1_0, l1_1⟩ : S47)]).bind fun bt570 => (if bt570.2.2 = true then (some (0, bt570.1, bt570.2.1)) else (some (2, ([] : List Int), ([] : List Int))))) else (some (t569, ([] : List Int), ([] : List Int))))) else (some (t568, ([] : List Int), ([] : List Int))))) = some (r1, r2, r3) := h
  clear h
  replace H := Option.bind_eq_some_iff.mp H
  obtain ⟨t568, A30, H⟩ := H
  replace H : (if t568 = 0 then ((spec_l3Fault.f k [(⟨l0_0⟩ : S26)] l1_1).bind fun t569 => (if t569 = 0 then ((spec_l4Plain.f k [(⟨l1_0, l1_1⟩ : S47)]).bind fun bt570 => (if bt570.2.2 = true then (some (0, bt570.1, bt570.2.1)) else (some (2, ([] : List Int), ([] : List Int))))) else (some (t569, ([] : List Int), ([] : List Int))))) else (some (t568, ([] : List Int), ([] : List Int)))) = some (r1, r2, r3) := H
  have A3 := am A30
  clear A30
  by_cases c4 : t568 = 0
  · rw [if_pos c4] at H
    have c4b0 : (t568 == 0) = true := beq_iff_eq.mpr c4
    have c4b1 : (t568 != 0) = false := bne_eq_false_iff_eq.mpr c4
    clear c4
    replace H := Option.bind_eq_some_iff.mp H
    obtain ⟨t569, A50, H⟩ := H
    replace H : (if t569 = 0 then ((spec_l4Plain.f k [(⟨l1_0, l1_1⟩ : S47)]).bind fun bt570 => (if bt570.2.2 = true then (some (0, bt570.1, bt570.2.1)) else (some (2, ([] : List Int), ([] : List Int))))) else (some (t569, ([] : List Int), ([] : List Int)))) = some (r1, r2, r3) := H
    have A5 := am A50
    clear A50
    by_cases c6 : t569 = 0
    · rw [if_pos c6] at H
      have c6b0 : (t569 == 0) = true := beq_iff_eq.mpr c6
      have c6b1 : (t569 != 0) = false := bne_eq_false_iff_eq.mpr c6
      clear c6
      replace H := Option.bind_eq_some_iff.mp H
      obtain ⟨⟨t570, t573, t576⟩, A70, H⟩ := H
      replace H : (if t576 = true then (some (0, t570, t573)) else (some (2, ([] : List Int), ([] : List Int)))) = some (r1, r2, r3) := H
      have A7 := am A70
      clear A70
      by_cases c8 : t576 = true
      · subst c8
        have H1 : (some (0, t570, t573)) = some (r1, r2, r3) := by rw [if_pos rfl] at H; exact H
        clear H
        have H := H1
        clear H1
        simp only [Option.some.injEq, Prod.mk.injEq] at H
        obtain ⟨rfl, rfl, rfl⟩ := H
        go_enter Tryd.func19, Tryd.ntmps19
        go_wp2_with (first | ((with_reducible refine gate_dst (N := 2) rfl ?_); refine box_event ?hg (N := 2) ?hd (cs := #[.slice A0_0 l0_0.length c0_0]) (t := 26) ?hr ?_; (case hd => rfl); (case hg => rfl); (case hr => first | (go_simp; done) | (go_simp; rfl)); intro gb565 hg w9 hbox hb; have n0_ := am (below_step (hq HB.out) hb); have n1_ := am (hbox); have n2_ := am (bz hg (hq HB.out)); have n3_ := n2_; clear HB; revert n0_ n1_ n2_ n3_; intro HB BK565 GW565 GE565; clear hb hbox hg) | ((with_reducible refine gate_dst (N := 3) rfl ?_); refine box_event ?hg (N := 3) ?hd (cs := #[.slice A1_0 l1_0.length c1_0, .slice A1_1 l1_1.length c1_1]) (t := 47) ?hr ?_; (case hd => rfl); (case hg => rfl); (case hr => first | (go_simp; done) | (go_simp; rfl)); intro gb566 hg w10 hbox hb; have n0_ := am (blk_below (bq BK565.out) hb); have n1_ := am (below_step (hs HB.out) hb); have n2_ := am (hbox); have n3_ := am (bz hg (hs HB.out)); have n4_ := n3_; have n5_ := am ((by rw [hg]; exact Nat.ne_of_lt (blk_lt (bq BK565.out)) : gb565 ≠ gb566)); have n6_ := am ((by rw [hg]; exact Nat.ne_of_gt (blk_lt (bq BK565.out)) : gb566 ≠ gb565)); clear BK565 HB; revert n0_ n1_ n2_ n3_ n4_ n5_ n6_; intro BK565 HB BK566 GW566 GE566 NB565_566 NB566_565; clear hb hbox hg) | ((with_reducible refine gate_dst (N := 4) rfl ?_); refine box_event ?hg (N := 4) ?hd (cs := #[.int .i64 0, .slice none 0 0, .slice none 0 0]) (t := 49) ?hr ?_; (case hd => rfl); (case hg => rfl); (case hr => first | (go_simp; done) | (go_simp; rfl)); intro gb567 hg w11 hbox hb; have n0_ := am (blk_below (bq BK565.out) hb); have n1_ := am (blk_below (bq BK566.out) hb); have n2_ := am (below_step (hs HB.out) hb); have n3_ := am (hbox); have n4_ := am (bz hg (hs HB.out)); have n5_ := n4_; have n6_ := am ((by rw [hg]; exact Nat.ne_of_lt (blk_lt (bq BK565.out)) : gb565 ≠ gb567)); have n7_ := am ((by rw [hg]; exact Nat.ne_of_gt (blk_lt (bq BK565.out)) : gb567 ≠ gb565)); have n8_ := am ((by rw [hg]; exact Nat.ne_of_lt (blk_lt (bq BK566.out)) : gb566 ≠ gb567)); have n9_ := am ((by rw [hg]; exact Nat.ne_of_gt (blk_lt (bq BK566.out)) : gb567 ≠ gb566)); clear BK565 BK566 HB; revert n0_ n1_ n2_ n3_ n4_ n5_ n6_ n7_ n8_ n9_; intro BK565 BK566 HB BK567 GW567 GE567 NB565_567 NB567_565 NB566_567 NB567_566; clear hb hbox hg; have hnb12 := NB565_566.out; have hnc12 := NB566_565.out; have hnb13 := NB565_567.out; have hnc13 := NB567_565.out; have hcz14_0 : w11.cell? ⟨gb565, 0, none⟩ = some (.slice A0_0 l0_0.length c0_0) := (blk_cell BK565.out 0).trans rfl; have hfz14_0 := blk_frozen BK565.out 0; have hnb15 := NB566_567.out; have hnc15 := NB567_566.out; have hcz16_0 : w11.cell? ⟨gb566, 0, none⟩ = some (.slice A1_0 l1_0.length c1_0) := (blk_cell BK566.out 0).trans rfl; have hcz16_1 : w11.cell? ⟨gb566, 1, none⟩ = some (.slice A1_1 l1_1.length c1_1) := (blk_cell BK566.out 1).trans rfl; have hfz16_0 := blk_frozen BK566.out 0; have hfz16_1 := blk_frozen BK566.out 1) | ((with_reducible refine gate_callee (f := 9) rfl ?_); refine goesL_ (some 12) rfl rfl Tryd.func9 (by kernel_rfl) rfl #[.agg #[.slice A0_0 l0_0.length c0_0], .slice A1_0 l1_0.length c1_0] rfl el ?_; (with_reducible refine (spec_TermFault.calls k _ _ l0_0 _ _ l1_0 t568 _ ?side1 ?side2 ?side3 ?side4 A3.out).mono ?_); (case side1 => exact cq (Kd.C_below HR0_0.out HB.out)); (case side2 => exact HC0_0.out); (case side3 => exact cq (Kd.C_below HR1_0.out HB.out)); (case side4 => exact HC1_0.out); rintro e w17 ⟨rfl, hb⟩; refine ⟨_, rfl, ?_⟩; have n0_ := am (blk_below (bq BK565.out) hb); have n1_ := am (blk_below (bq BK566.out) hb); have n2_ := am (blk_below (bq BK567.out) hb); have n3_ := am (below_step (hs HB.out) hb); clear BK565 BK566 BK567 HB; revert n0_ n1_ n2_ n3_; intro BK565 BK566 BK567 HB; (try clear hb); (try clear hb2); (try clear hgw); (try clear hk); (try clear hi); have hcz18_0 : w17.cell? ⟨gb566, 0, none⟩ = some (.slice A1_0 l1_0.length c1_0) := (blk_cell BK566.out 0).trans rfl; have hcz18_1 : w17.cell? ⟨gb566, 1, none⟩ = some (.slice A1_1 l1_1.length c1_1) := (blk_cell BK566.out 1).trans rfl; have hfz18_0 := blk_frozen BK566.out 0; have hfz18_1 := blk_frozen BK566.out 1) | ((with_reducible refine gate_callee (f := 45) rfl ?_); refine goesL_ (some 19) rfl rfl Tryd.func45 (by kernel_rfl) rfl #[.pointer (some ⟨gb565, 0, none⟩), .slice A1_1 l1_1.length c1_1] rfl el ?_; (with_reducible refine (spec_l3Fault.calls k _ [(⟨l0_0⟩ : S26)] _ _ l1_1 t569 _ ?side1 ?side2 ?side3 A5.out).mono ?_); (case side1 => exact k26_box (bq BK565.out) (cq (Kd.C_below HR0_0.out HB.out)) (by exact HC0_0.out)); (case side2 => exact cq (Kd.C_below HR1_1.out HB.out)); (case side3 => exact HC1_1.out); rintro e w' ⟨rfl, ⟨nd, rfl⟩⟩; refine ⟨_, rfl, ?_⟩; (try (rw [drewN_self w17]; generalize hq_ : World.drewN w17 _ = w17; have n0_ : Aside0 (w17.heap[gb565]? = some (.cells #[.slice A0_0 l0_0.length c0_0] 26 (0, 0))) := ⟨by rw [← hq_]; exact (bq BK565.out)⟩; have n1_ : Aside0 (w17.heap[gb566]? = some (.cells #[.slice A1_0 l1_0.length c1_0, .slice A1_1 l1_1.length c1_1] 47 (0, 0))) := ⟨by rw [← hq_]; exact (bq BK566.out)⟩; have n2_ : Aside0 (w17.heap[gb567]? = some (.cells #[.int .i64 0, .slice none 0 0, .slice none 0 0] 49 (0, 0))) := ⟨by rw [← hq_]; exact (bq BK567.out)⟩; have n3_ : Aside0 (Below w.heap.size w w17) := ⟨by rw [← hq_]; exact (hs HB.out)⟩; clear BK565 BK566 BK567 HB hq_; have BK565 := n0_; have BK566 := n1_; have BK567 := n2_; have HB := n3_; clear n0_ n1_ n2_ n3_))) | ((with_reducible refine gate_callee (f := 58) rfl ?_); refine goesL_ (some 25) rfl rfl Tryd.func58 (by kernel_rfl) rfl #[.pointer (some ⟨gb566, 0, none⟩)] rfl el ?_; (with_reducible refine (spec_l4Plain.calls k _ [(⟨l1_0, l1_1⟩ : S47)] t570 t573 true _ ?side1 A7.out).mono ?_); (case side1 => exact k47_box (bq BK566.out) (cq (Kd.C_below HR1_0.out HB.out)) (by exact HC1_0.out) (cq (Kd.C_below HR1_1.out HB.out)) (by exact HC1_1.out)); rintro e w19 ⟨v571, v574, rfl, ho0, ho1, hb⟩; refine ⟨_, rfl, ?_⟩; have n0_ := am (Kd.R_lower ho0 (below_size (hs HB.out))); have n1_ := am (Kd.R_lower ho1 (below_size (hs HB.out))); have n2_ := am (blk_below (bq BK565.out) hb); have n3_ := am (blk_below (bq BK566.out) hb); have n4_ := am (blk_below (bq BK567.out) hb); have n5_ := am (below_step (hs HB.out) hb); clear BK565 BK566 BK567 HB; revert n0_ n1_ n2_ n3_ n4_ n5_; intro HO572 HO575 BK565 BK566 BK567 HB; (try clear hb); (try clear hb2); (try clear hgw); (try clear hk); (try clear hi); (try clear ho0); (try clear ho1)) | ((with_reducible refine gate_dst (N := 7) rfl ?_); refine box_event ?hg (N := 7) ?hd (cs := #[.slice none 0 0, .slice none 0 0]) (t := 47) ?hr ?_; (case hd => rfl); (case hg => rfl); (case hr => first | (go_simp; done) | (go_simp; rfl)); intro gb577 hg w20 hbox hb; have n0_ := am (Kd.R_below (rq HO572.out) hb); have n1_ := am (Kd.R_below (rq HO575.out) hb); have n2_ := am (blk_below (bq BK565.out) hb); have n3_ := am (blk_below (bq BK566.out) hb); have n4_ := am (blk_below (bq BK567.out) hb); have n5_ := am (below_step (hs HB.out) hb); have n6_ := am (hbox); have n7_ := am (bz hg (hs HB.out)); have n8_ := n7_; have n9_ := am ((by rw [hg]; exact Nat.ne_of_lt (blk_lt (bq BK565.out)) : gb565 ≠ gb577)); have n10_ := am ((by rw [hg]; exact Nat.ne_of_gt (blk_lt (bq BK565.out)) : gb577 ≠ gb565)); have n11_ := am ((by rw [hg]; exact Nat.ne_of_lt (blk_lt (bq BK566.out)) : gb566 ≠ gb577)); have n12_ := am ((by rw [hg]; exact Nat.ne_of_gt (blk_lt (bq BK566.out)) : gb577 ≠ gb566)); have n13_ := am ((by rw [hg]; exact Nat.ne_of_lt (blk_lt (bq BK567.out)) : gb567 ≠ gb577)); have n14_ := am ((by rw [hg]; exact Nat.ne_of_gt (blk_lt (bq BK567.out)) : gb577 ≠ gb567)); clear HO572 HO575 BK565 BK566 BK567 HB; revert n0_ n1_ n2_ n3_ n4_ n5_ n6_ n7_ n8_ n9_ n10_ n11_ n12_ n13_ n14_; intro HO572 HO575 BK565 BK566 BK567 HB BK577 GW577 GE577 NB565_577 NB577_565 NB566_577 NB577_566 NB567_577 NB577_567; clear hb hbox hg; obtain ⟨Ao21, co21, eo21⟩ := Kd.R_slice HO572.out; subst eo21; have hnb22 := NB577_565.out; have hnc22 := NB565_577.out; have hnb23 := NB577_566.out; have hnc23 := NB566_577.out; have hnb24 := NB577_567.out; have hnc24 := NB567_577.out; have hcz25_0 : w20.cell? ⟨gb577, 0, none⟩ = some (.slice none 0 0) := (blk_cell BK577.out 0).trans rfl; have hcz25_1 : w20.cell? ⟨gb577, 1, none⟩ = some (.slice none 0 0) := (blk_cell BK577.out 1).trans rfl; have hfz25_0 := blk_frozen BK577.out 0; have hfz25_1 := blk_frozen BK577.out 1; obtain ⟨Ao26, co26, eo26⟩ := Kd.R_slice HO575.out; subst eo26; have hcz27_0 : w20.cell? ⟨gb567, 0, none⟩ = some (.int .i64 0) := (blk_cell BK567.out 0).trans rfl; have hcz27_1 : w20.cell? ⟨gb567, 1, none⟩ = some (.slice none 0 0) := (blk_cell BK567.out 1).trans rfl; have hcz27_2 : w20.cell? ⟨gb567, 2, none⟩ = some (.slice none 0 0) := (blk_cell BK567.out 2).trans rfl; have hfz27_0 := blk_frozen BK567.out 0; have hfz27_1 := blk_frozen BK567.out 1; have hfz27_2 := blk_frozen BK567.out 2))
        refine bodyPost_ret (results_cell_row rfl _ _ gb567 49 #[.int .i64 0, .slice Ao21 t570.length co21, .slice Ao26 t573.length co26] (0, 0) _ rfl (by refine bq ?_; refine blk_put (cs := #[.int .i64 0, .slice Ao21 t570.length co21, .slice none 0 0]) ?_ 2 _ rfl; refine bq ?_; refine blk_put (cs := #[.int .i64 0, .slice none 0 0, .slice none 0 0]) ?_ 1 _ rfl; refine bq ?_; refine blk_put (cs := #[.int .i64 0, .slice none 0 0, .slice none 0 0]) ?_ 0 _ rfl; refine bq ?_; refine blk_far ?_ NB567_577.out _; refine bq ?_; refine blk_far ?_ NB567_577.out _; refine bq ?_; exact BK567.out) Tryd.underlying49 rfl (by kernel_rfl)) rfl ?_
        exact ⟨_, _, by first | rfl | (simp [errW_none, errW_some] <;> rfl) | (simp [*, errW_none, errW_some] <;> rfl), by (with_reducible repeat (first | apply Kd.R_alloc | apply Kd.R_drewN | apply Kd.R_drew)); exact Kd.R_mono (Kd.R_far (p := ⟨gb567, 2, none⟩) (Kd.R_far (p := ⟨gb567, 1, none⟩) (Kd.R_far (p := ⟨gb567, 0, none⟩) (Kd.R_far (p := ⟨gb577, 1, none⟩) (Kd.R_far (p := ⟨gb577, 0, none⟩) (Kd.R_types (Kd.R_types HO572.out BK577.out (by decide)) BK567.out (by decide)) (fun _ hk => hk.1.2) (.slice Ao21 t570.length co21)) (fun _ hk => hk.1.2) (.slice Ao26 t573.length co26)) (fun _ hk => hk.2) (.int .i64 0)) (fun _ hk => hk.2) (.slice Ao21 t570.length co21)) (fun _ hk => hk.2) (.slice Ao26 t573.length co26)) (fun _ hk => hk.1.1), by (with_reducible repeat (first | apply Kd.R_alloc | apply Kd.R_drewN | apply Kd.R_drew)); exact Kd.R_mono (Kd.R_far (p := ⟨gb567, 2, none⟩) (Kd.R_far (p := ⟨gb567, 1, none⟩) (Kd.R_far (p := ⟨gb567, 0, none⟩) (Kd.R_far (p := ⟨gb577, 1, none⟩) (Kd.R_far (p := ⟨gb577, 0, none⟩) (Kd.R_types (Kd.R_types HO575.out BK577.out (by decide)) BK567.out (by decide)) (fun _ hk => hk.1.2) (.slice Ao21 t570.length co21)) (fun _ hk => hk.1.2) (.slice Ao26 t573.length co26)) (fun _ hk => hk.2) (.int .i64 0)) (fun _ hk => hk.2) (.slice Ao21 t570.length co21)) (fun _ hk => hk.2) (.slice Ao26 t573.length co26)) (fun _ hk => hk.1.1), by exact hs HB.out⟩
      · replace c8 := Bool.eq_false_iff.mpr c8
        subst c8
        have H1 : (some (2, ([] : List Int), ([] : List Int))) = some (r1, r2, r3) := by rw [if_neg (show ¬ (false = true) by decide)] at H; exact H
        clear H
        have H := H1
        clear H1
        simp only [Option.some.injEq, Prod.mk.injEq] at H
        obtain ⟨rfl, rfl, rfl⟩ := H
        go_enter Tryd.func19, Tryd.ntmps19
        go_wp2_with (first | ((with_reducible refine gate_dst (N := 2) rfl ?_); refine box_event ?hg (N := 2) ?hd (cs := #[.slice A0_0 l0_0.length c0_0]) (t := 26) ?hr ?_; (case hd => rfl); (case hg => rfl); (case hr => first | (go_simp; done) | (go_simp; rfl)); intro gb565 hg w28 hbox hb; have n0_ := am (below_step (hq HB.out) hb); have n1_ := am (hbox); have n2_ := am (bz hg (hq HB.out)); have n3_ := n2_; clear HB; revert n0_ n1_ n2_ n3_; intro HB BK565 GW565 GE565; clear hb hbox hg) | ((with_reducible refine gate_dst (N := 3) rfl ?_); refine box_event ?hg (N := 3) ?hd (cs := #[.slice A1_0 l1_0.length c1_0, .slice A1_1 l1_1.length c1_1]) (t := 47) ?hr ?_; (case hd => rfl); (case hg => rfl); (case hr => first | (go_simp; done) | (go_simp; rfl)); intro gb566 hg w29 hbox hb; have n0_ := am (blk_below (bq BK565.out) hb); have n1_ := am (below_step (hs HB.out) hb); have n2_ := am (hbox); have n3_ := am (bz hg (hs HB.out)); have n4_ := n3_; have n5_ := am ((by rw [hg]; exact Nat.ne_of_lt (blk_lt (bq BK565.out)) : gb565 ≠ gb566)); have n6_ := am ((by rw [hg]; exact Nat.ne_of_gt (blk_lt (bq BK565.out)) : gb566 ≠ gb565)); clear BK565 HB; revert n0_ n1_ n2_ n3_ n4_ n5_ n6_; intro BK565 HB BK566 GW566 GE566 NB565_566 NB566_565; clear hb hbox hg) | ((with_reducible refine gate_dst (N := 4) rfl ?_); refine box_event ?hg (N := 4) ?hd (cs := #[.int .i64 0, .slice none 0 0, .slice none 0 0]) (t := 49) ?hr ?_; (case hd => rfl); (case hg => rfl); (case hr => first | (go_simp; done) | (go_simp; rfl)); intro gb567 hg w30 hbox hb; have n0_ := am (blk_below (bq BK565.out) hb); have n1_ := am (blk_below (bq BK566.out) hb); have n2_ := am (below_step (hs HB.out) hb); have n3_ := am (hbox); have n4_ := am (bz hg (hs HB.out)); have n5_ := n4_; have n6_ := am ((by rw [hg]; exact Nat.ne_of_lt (blk_lt (bq BK565.out)) : gb565 ≠ gb567)); have n7_ := am ((by rw [hg]; exact Nat.ne_of_gt (blk_lt (bq BK565.out)) : gb567 ≠ gb565)); have n8_ := am ((by rw [hg]; exact Nat.ne_of_lt (blk_lt (bq BK566.out)) : gb566 ≠ gb567)); have n9_ := am ((by rw [hg]; exact Nat.ne_of_gt (blk_lt (bq BK566.out)) : gb567 ≠ gb566)); clear BK565 BK566 HB; revert n0_ n1_ n2_ n3_ n4_ n5_ n6_ n7_ n8_ n9_; intro BK565 BK566 HB BK567 GW567 GE567 NB565_567 NB567_565 NB566_567 NB567_566; clear hb hbox hg; have hnb31 := NB565_566.out; have hnc31 := NB566_565.out; have hnb32 := NB565_567.out; have hnc32 := NB567_565.out; have hcz33_0 : w30.cell? ⟨gb565, 0, none⟩ = some (.slice A0_0 l0_0.length c0_0) := (blk_cell BK565.out 0).trans rfl; have hfz33_0 := blk_frozen BK565.out 0; have hnb34 := NB566_567.out; have hnc34 := NB567_566.out; have hcz35_0 : w30.cell? ⟨gb566, 0, none⟩ = some (.slice A1_0 l1_0.length c1_0) := (blk_cell BK566.out 0).trans rfl; have hcz35_1 : w30.cell? ⟨gb566, 1, none⟩ = some (.slice A1_1 l1_1.length c1_1) := (blk_cell BK566.out 1).trans rfl; have hfz35_0 := blk_frozen BK566.out 0; have hfz35_1 := blk_frozen BK566.out 1) | ((with_reducible refine gate_callee (f := 9) rfl ?_); refine goesL_ (some 12) rfl rfl Tryd.func9 (by kernel_rfl) rfl #[.agg #[.slice A0_0 l0_0.length c0_0], .slice A1_0 l1_0.length c1_0] rfl el ?_; (with_reducible refine (spec_TermFault.calls k _ _ l0_0 _ _ l1_0 t568 _ ?side1 ?side2 ?side3 ?side4 A3.out).mono ?_); (case side1 => exact cq (Kd.C_below HR0_0.out HB.out)); (case side2 => exact HC0_0.out); (case side3 => exact cq (Kd.C_below HR1_0.out HB.out)); (case side4 => exact HC1_0.out); rintro e w36 ⟨rfl, hb⟩; refine ⟨_, rfl, ?_⟩; have n0_ := am (blk_below (bq BK565.out) hb); have n1_ := am (blk_below (bq BK566.out) hb); have n2_ := am (blk_below (bq BK567.out) hb); have n3_ := am (below_step (hs HB.out) hb); clear BK565 BK566 BK567 HB; revert n0_ n1_ n2_ n3_; intro BK565 BK566 BK567 HB; (try clear hb); (try clear hb2); (try clear hgw); (try clear hk); (try clear hi); have hcz37_0 : w36.cell? ⟨gb566, 0, none⟩ = some (.slice A1_0 l1_0.length c1_0) := (blk_cell BK566.out 0).trans rfl; have hcz37_1 : w36.cell? ⟨gb566, 1, none⟩ = some (.slice A1_1 l1_1.length c1_1) := (blk_cell BK566.out 1).trans rfl; have hfz37_0 := blk_frozen BK566.out 0; have hfz37_1 := blk_frozen BK566.out 1) | ((with_reducible refine gate_callee (f := 45) rfl ?_); refine goesL_ (some 19) rfl rfl Tryd.func45 (by kernel_rfl) rfl #[.pointer (some ⟨gb565, 0, none⟩), .slice A1_1 l1_1.length c1_1] rfl el ?_; (with_reducible refine (spec_l3Fault.calls k _ [(⟨l0_0⟩ : S26)] _ _ l1_1 t569 _ ?side1 ?side2 ?side3 A5.out).mono ?_); (case side1 => exact k26_box (bq BK565.out) (cq (Kd.C_below HR0_0.out HB.out)) (by exact HC0_0.out)); (case side2 => exact cq (Kd.C_below HR1_1.out HB.out)); (case side3 => exact HC1_1.out); rintro e w' ⟨rfl, ⟨nd, rfl⟩⟩; refine ⟨_, rfl, ?_⟩; (try (rw [drewN_self w36]; generalize hq_ : World.drewN w36 _ = w36; have n0_ : Aside0 (w36.heap[gb565]? = some (.cells #[.slice A0_0 l0_0.length c0_0] 26 (0, 0))) := ⟨by rw [← hq_]; exact (bq BK565.out)⟩; have n1_ : Aside0 (w36.heap[gb566]? = some (.cells #[.slice A1_0 l1_0.length c1_0, .slice A1_1 l1_1.length c1_1] 47 (0, 0))) := ⟨by rw [← hq_]; exact (bq BK566.out)⟩; have n2_ : Aside0 (w36.heap[gb567]? = some (.cells #[.int .i64 0, .slice none 0 0, .slice none 0 0] 49 (0, 0))) := ⟨by rw [← hq_]; exact (bq BK567.out)⟩; have n3_ : Aside0 (Below w.heap.size w w36) := ⟨by rw [← hq_]; exact (hs HB.out)⟩; clear BK565 BK566 BK567 HB hq_; have BK565 := n0_; have BK566 := n1_; have BK567 := n2_; have HB := n3_; clear n0_ n1_ n2_ n3_))) | ((with_reducible refine gate_callee (f := 58) rfl ?_); refine goesL_ (some 25) rfl rfl Tryd.func58 (by kernel_rfl) rfl #[.pointer (some ⟨gb566, 0, none⟩)] rfl el ?_; (with_reducible refine (spec_l4Plain.calls k _ [(⟨l1_0, l1_1⟩ : S47)] t570 t573 false _ ?side1 A7.out).mono ?_); (case side1 => exact k47_box (bq BK566.out) (cq (Kd.C_below HR1_0.out HB.out)) (by exact HC1_0.out) (cq (Kd.C_below HR1_1.out HB.out)) (by exact HC1_1.out)); rintro e w38 ⟨v571, v574, rfl, ho0, ho1, hb⟩; refine ⟨_, rfl, ?_⟩; have n0_ := am (Kd.R_lower ho0 (below_size (hs HB.out))); have n1_ := am (Kd.R_lower ho1 (below_size (hs HB.out))); have n2_ := am (blk_below (bq BK565.out) hb); have n3_ := am (blk_below (bq BK566.out) hb); have n4_ := am (blk_below (bq BK567.out) hb); have n5_ := am (below_step (hs HB.out) hb); clear BK565 BK566 BK567 HB; revert n0_ n1_ n2_ n3_ n4_ n5_; intro HO572 HO575 BK565 BK566 BK567 HB; (try clear hb); (try clear hb2); (try clear hgw); (try clear hk); (try clear hi); (try clear ho0); (try clear ho1)) | ((with_reducible refine gate_dst (N := 7) rfl ?_); refine box_event ?hg (N := 7) ?hd (cs := #[.slice none 0 0, .slice none 0 0]) (t := 47) ?hr ?_; (case hd => rfl); (case hg => rfl); (case hr => first | (go_simp; done) | (go_simp; rfl)); intro gb577 hg w39 hbox hb; have n0_ := am (Kd.R_below (rq HO572.out) hb); have n1_ := am (Kd.R_below (rq HO575.out) hb); have n2_ := am (blk_below (bq BK565.out) hb); have n3_ := am (blk_below (bq BK566.out) hb); have n4_ := am (blk_below (bq BK567.out) hb); have n5_ := am (below_step (hs HB.out) hb); have n6_ := am (hbox); have n7_ := am (bz hg (hs HB.out)); have n8_ := n7_; have n9_ := am ((by rw [hg]; exact Nat.ne_of_lt (blk_lt (bq BK565.out)) : gb565 ≠ gb577)); have n10_ := am ((by rw [hg]; exact Nat.ne_of_gt (blk_lt (bq BK565.out)) : gb577 ≠ gb565)); have n11_ := am ((by rw [hg]; exact Nat.ne_of_lt (blk_lt (bq BK566.out)) : gb566 ≠ gb577)); have n12_ := am ((by rw [hg]; exact Nat.ne_of_gt (blk_lt (bq BK566.out)) : gb577 ≠ gb566)); have n13_ := am ((by rw [hg]; exact Nat.ne_of_lt (blk_lt (bq BK567.out)) : gb567 ≠ gb577)); have n14_ := am ((by rw [hg]; exact Nat.ne_of_gt (blk_lt (bq BK567.out)) : gb577 ≠ gb567)); clear HO572 HO575 BK565 BK566 BK567 HB; revert n0_ n1_ n2_ n3_ n4_ n5_ n6_ n7_ n8_ n9_ n10_ n11_ n12_ n13_ n14_; intro HO572 HO575 BK565 BK566 BK567 HB BK577 GW577 GE577 NB565_577 NB577_565 NB566_577 NB577_566 NB567_577 NB577_567; clear hb hbox hg; obtain ⟨Ao40, co40, eo40⟩ := Kd.R_slice HO572.out; subst eo40; have hnb41 := NB577_565.out; have hnc41 := NB565_577.out; have hnb42 := NB577_566.out; have hnc42 := NB566_577.out; have hnb43 := NB577_567.out; have hnc43 := NB567_577.out; have hcz44_0 : w39.cell? ⟨gb577, 0, none⟩ = some (.slice none 0 0) := (blk_cell BK577.out 0).trans rfl; have hcz44_1 : w39.cell? ⟨gb577, 1, none⟩ = some (.slice none 0 0) := (blk_cell BK577.out 1).trans rfl; have hfz44_0 := blk_frozen BK577.out 0; have hfz44_1 := blk_frozen BK577.out 1; obtain ⟨Ao45, co45, eo45⟩ := Kd.R_slice HO575.out; subst eo45; have hcz46_0 : w39.cell? ⟨gb567, 0, none⟩ = some (.int .i64 0) := (blk_cell BK567.out 0).trans rfl; have hcz46_1 : w39.cell? ⟨gb567, 1, none⟩ = some (.slice none 0 0) := (blk_cell BK567.out 1).trans rfl; have hcz46_2 : w39.cell? ⟨gb567, 2, none⟩ = some (.slice none 0 0) := (blk_cell BK567.out 2).trans rfl; have hfz46_0 := blk_frozen BK567.out 0; have hfz46_1 := blk_frozen BK567.out 1; have hfz46_2 := blk_frozen BK567.out 2))
        refine bodyPost_ret (results_cell_row rfl _ _ gb567 49 #[.int .i64 2, .slice none 0 0, .slice none 0 0] (0, 0) _ rfl (by refine bq ?_; refine blk_put (cs := #[.int .i64 2, .slice none 0 0, .slice none 0 0]) ?_ 2 _ rfl; refine bq ?_; refine blk_put (cs := #[.int .i64 2, .slice none 0 0, .slice none 0 0]) ?_ 1 _ rfl; refine bq ?_; refine blk_put (cs := #[.int .i64 0, .slice none 0 0, .slice none 0 0]) ?_ 0 _ rfl; refine bq ?_; refine blk_far ?_ NB567_577.out _; refine bq ?_; refine blk_far ?_ NB567_577.out _; refine bq ?_; exact BK567.out) Tryd.underlying49 rfl (by kernel_rfl)) rfl ?_
        exact ⟨_, _, by first | rfl | (simp [errW_none, errW_some] <;> rfl) | (simp [*, errW_none, errW_some] <;> rfl), by first | exact Kd.R_nil _ _ _ _ _ | exact Kd.N_nil _ _ _ _ _ | exact Kd.V_nil _ _ _ _ _ | exact Kd.Q_nil _ _ _ _ _ | exact Kd.S_nil _ _ _ _ _, by first | exact Kd.R_nil _ _ _ _ _ | exact Kd.N_nil _ _ _ _ _ | exact Kd.V_nil _ _ _ _ _ | exact Kd.Q_nil _ _ _ _ _ | exact Kd.S_nil _ _ _ _ _, by exact hs HB.out⟩
    · rw [if_neg c6] at H
      have c6b0 : (t569 == 0) = false := beq_eq_false_iff_ne.mpr c6
      have c6b1 : (t569 != 0) = true := bne_iff_ne.mpr c6
      simp only [Option.some.injEq, Prod.mk.injEq] at H
      obtain ⟨rfl, rfl, rfl⟩ := H
      go_enter Tryd.func19, Tryd.ntmps19
      go_wp2_with (first | ((with_reducible refine gate_dst (N := 2) rfl ?_); refine box_event ?hg (N := 2) ?hd (cs := #[.slice A0_0 l0_0.length c0_0]) (t := 26) ?hr ?_; (case hd => rfl); (case hg => rfl); (case hr => first | (go_simp; done) | (go_simp; rfl)); intro gb565 hg w47 hbox hb; have n0_ := am (below_step (hq HB.out) hb); have n1_ := am (hbox); have n2_ := am (bz hg (hq HB.out)); have n3_ := n2_; clear HB; revert n0_ n1_ n2_ n3_; intro HB BK565 GW565 GE565; clear hb hbox hg) | ((with_reducible refine gate_dst (N := 3) rfl ?_); refine box_event ?hg (N := 3) ?hd (cs := #[.slice A1_0 l1_0.length c1_0, .slice A1_1 l1_1.length c1_1]) (t := 47) ?hr ?_; (case hd => rfl); (case hg => rfl); (case hr => first | (go_simp; done) | (go_simp; rfl)); intro gb566 hg w48 hbox hb; have n0_ := am (blk_below (bq BK565.out) hb); have n1_ := am (below_step (hs HB.out) hb); have n2_ := am (hbox); have n3_ := am (bz hg (hs HB.out)); have n4_ := n3_; have n5_ := am ((by rw [hg]; exact Nat.ne_of_lt (blk_lt (bq BK565.out)) : gb565 ≠ gb566)); have n6_ := am ((by rw [hg]; exact Nat.ne_of_gt (blk_lt (bq BK565.out)) : gb566 ≠ gb565)); clear BK565 HB; revert n0_ n1_ n2_ n3_ n4_ n5_ n6_; intro BK565 HB BK566 GW566 GE566 NB565_566 NB566_565; clear hb hbox hg) | ((with_reducible refine gate_dst (N := 4) rfl ?_); refine box_event ?hg (N := 4) ?hd (cs := #[.int .i64 0, .slice none 0 0, .slice none 0 0]) (t := 49) ?hr ?_; (case hd => rfl); (case hg => rfl); (case hr => first | (go_simp; done) | (go_simp; rfl)); intro gb567 hg w49 hbox hb; have n0_ := am (blk_below (bq BK565.out) hb); have n1_ := am (blk_below (bq BK566.out) hb); have n2_ := am (below_step (hs HB.out) hb); have n3_ := am (hbox); have n4_ := am (bz hg (hs HB.out)); have n5_ := n4_; have n6_ := am ((by rw [hg]; exact Nat.ne_of_lt (blk_lt (bq BK565.out)) : gb565 ≠ gb567)); have n7_ := am ((by rw [hg]; exact Nat.ne_of_gt (blk_lt (bq BK565.out)) : gb567 ≠ gb565)); have n8_ := am ((by rw [hg]; exact Nat.ne_of_lt (blk_lt (bq BK566.out)) : gb566 ≠ gb567)); have n9_ := am ((by rw [hg]; exact Nat.ne_of_gt (blk_lt (bq BK566.out)) : gb567 ≠ gb566)); clear BK565 BK566 HB; revert n0_ n1_ n2_ n3_ n4_ n5_ n6_ n7_ n8_ n9_; intro BK565 BK566 HB BK567 GW567 GE567 NB565_567 NB567_565 NB566_567 NB567_566; clear hb hbox hg; have hnb50 := NB565_566.out; have hnc50 := NB566_565.out; have hnb51 := NB565_567.out; have hnc51 := NB567_565.out; have hcz52_0 : w49.cell? ⟨gb565, 0, none⟩ = some (.slice A0_0 l0_0.length c0_0) := (blk_cell BK565.out 0).trans rfl; have hfz52_0 := blk_frozen BK565.out 0; have hnb53 := NB566_567.out; have hnc53 := NB567_566.out; have hcz54_0 : w49.cell? ⟨gb566, 0, none⟩ = some (.slice A1_0 l1_0.length c1_0) := (blk_cell BK566.out 0).trans rfl; have hcz54_1 : w49.cell? ⟨gb566, 1, none⟩ = some (.slice A1_1 l1_1.length c1_1) := (blk_cell BK566.out 1).trans rfl; have hfz54_0 := blk_frozen BK566.out 0; have hfz54_1 := blk_frozen BK566.out 1) | ((with_reducible refine gate_callee (f := 9) rfl ?_); refine goesL_ (some 12) rfl rfl Tryd.func9 (by kernel_rfl) rfl #[.agg #[.slice A0_0 l0_0.length c0_0], .slice A1_0 l1_0.length c1_0] rfl el ?_; (with_reducible refine (spec_TermFault.calls k _ _ l0_0 _ _ l1_0 t568 _ ?side1 ?side2 ?side3 ?side4 A3.out).mono ?_); (case side1 => exact cq (Kd.C_below HR0_0.out HB.out)); (case side2 => exact HC0_0.out); (case side3 => exact cq (Kd.C_below HR1_0.out HB.out)); (case side4 => exact HC1_0.out); rintro e w55 ⟨rfl, hb⟩; refine ⟨_, rfl, ?_⟩; have n0_ := am (blk_below (bq BK565.out) hb); have n1_ := am (blk_below (bq BK566.out) hb); have n2_ := am (blk_below (bq BK567.out) hb); have n3_ := am (below_step (hs HB.out) hb); clear BK565 BK566 BK567 HB; revert n0_ n1_ n2_ n3_; intro BK565 BK566 BK567 HB; (try clear hb); (try clear hb2); (try clear hgw); (try clear hk); (try clear hi); have hcz56_0 : w55.cell? ⟨gb566, 0, none⟩ = some (.slice A1_0 l1_0.length c1_0) := (blk_cell BK566.out 0).trans rfl; have hcz56_1 : w55.cell? ⟨gb566, 1, none⟩ = some (.slice A1_1 l1_1.length c1_1) := (blk_cell BK566.out 1).trans rfl; have hfz56_0 := blk_frozen BK566.out 0; have hfz56_1 := blk_frozen BK566.out 1) | ((with_reducible refine gate_callee (f := 45) rfl ?_); refine goesL_ (some 19) rfl rfl Tryd.func45 (by kernel_rfl) rfl #[.pointer (some ⟨gb565, 0, none⟩), .slice A1_1 l1_1.length c1_1] rfl el ?_; (with_reducible refine (spec_l3Fault.calls k _ [(⟨l0_0⟩ : S26)] _ _ l1_1 t569 _ ?side1 ?side2 ?side3 A5.out).mono ?_); (case side1 => exact k26_box (bq BK565.out) (cq (Kd.C_below HR0_0.out HB.out)) (by exact HC0_0.out)); (case side2 => exact cq (Kd.C_below HR1_1.out HB.out)); (case side3 => exact HC1_1.out); rintro e w' ⟨rfl, ⟨nd, rfl⟩⟩; refine ⟨_, rfl, ?_⟩; (try (rw [drewN_self w55]; generalize hq_ : World.drewN w55 _ = w55; have n0_ : Aside0 (w55.heap[gb565]? = some (.cells #[.slice A0_0 l0_0.length c0_0] 26 (0, 0))) := ⟨by rw [← hq_]; exact (bq BK565.out)⟩; have n1_ : Aside0 (w55.heap[gb566]? = some (.cells #[.slice A1_0 l1_0.length c1_0, .slice A1_1 l1_1.length c1_1] 47 (0, 0))) := ⟨by rw [← hq_]; exact (bq BK566.out)⟩; have n2_ : Aside0 (w55.heap[gb567]? = some (.cells #[.int .i64 0, .slice none 0 0, .slice none 0 0] 49 (0, 0))) := ⟨by rw [← hq_]; exact (bq BK567.out)⟩; have n3_ : Aside0 (Below w.heap.size w w55) := ⟨by rw [← hq_]; exact (hs HB.out)⟩; clear BK565 BK566 BK567 HB hq_; have BK565 := n0_; have BK566 := n1_; have BK567 := n2_; have HB := n3_; clear n0_ n1_ n2_ n3_)); have hcz57_0 : w55.cell? ⟨gb567, 0, none⟩ = some (.int .i64 0) := (blk_cell BK567.out 0).trans rfl; have hcz57_1 : w55.cell? ⟨gb567, 1, none⟩ = some (.slice none 0 0) := (blk_cell BK567.out 1).trans rfl; have hcz57_2 : w55.cell? ⟨gb567, 2, none⟩ = some (.slice none 0 0) := (blk_cell BK567.out 2).trans rfl; have hfz57_0 := blk_frozen BK567.out 0; have hfz57_1 := blk_frozen BK567.out 1; have hfz57_2 := blk_frozen BK567.out 2))
      refine bodyPost_ret (results_cell_row rfl _ _ gb567 49 #[.int .i64 t569, .slice none 0 0, .slice none 0 0] (0, 0) _ rfl (by refine bq ?_; refine blk_put (cs := #[.int .i64 t569, .slice none 0 0, .slice none 0 0]) ?_ 2 _ rfl; refine bq ?_; refine blk_put (cs := #[.int .i64 t569, .slice none 0 0, .slice none 0 0]) ?_ 1 _ rfl; refine bq ?_; refine blk_put (cs := #[.int .i64 0, .slice none 0 0, .slice none 0 0]) ?_ 0 _ rfl; refine bq ?_; exact BK567.out) Tryd.underlying49 rfl (by kernel_rfl)) rfl ?_
      exact ⟨_, _, by first | rfl | (simp [errW_none, errW_some] <;> rfl) | (simp [*, errW_none, errW_some] <;> rfl), by first | exact Kd.R_nil _ _ _ _ _ | exact Kd.N_nil _ _ _ _ _ | exact Kd.V_nil _ _ _ _ _ | exact Kd.Q_nil _ _ _ _ _ | exact Kd.S_nil _ _ _ _ _, by first | exact Kd.R_nil _ _ _ _ _ | exact Kd.N_nil _ _ _ _ _ | exact Kd.V_nil _ _ _ _ _ | exact Kd.Q_nil _ _ _ _ _ | exact Kd.S_nil _ _ _ _ _, by exact hs HB.out⟩
  · rw [if_neg c4] at H
    have c4b0 : (t568 == 0) = false := beq_eq_false_iff_ne.mpr c4
    have c4b1 : (t568 != 0) = true := bne_iff_ne.mpr c4
    simp only [Option.some.injEq, Prod.mk.injEq] at H
    obtain ⟨rfl, rfl, rfl⟩ := H
    go_enter Tryd.func19, Tryd.ntmps19
    go_wp2_with (first | ((with_reducible refine gate_dst (N := 2) rfl ?_); refine box_event ?hg (N := 2) ?hd (cs := #[.slice A0_0 l0_0.length c0_0]) (t := 26) ?hr ?_; (case hd => rfl); (case hg => rfl); (case hr => first | (go_simp; done) | (go_simp; rfl)); intro gb565 hg w58 hbox hb; have n0_ := am (below_step (hq HB.out) hb); have n1_ := am (hbox); have n2_ := am (bz hg (hq HB.out)); have n3_ := n2_; clear HB; revert n0_ n1_ n2_ n3_; intro HB BK565 GW565 GE565; clear hb hbox hg) | ((with_reducible refine gate_dst (N := 3) rfl ?_); refine box_event ?hg (N := 3) ?hd (cs := #[.slice A1_0 l1_0.length c1_0, .slice A1_1 l1_1.length c1_1]) (t := 47) ?hr ?_; (case hd => rfl); (case hg => rfl); (case hr => first | (go_simp; done) | (go_simp; rfl)); intro gb566 hg w59 hbox hb; have n0_ := am (blk_below (bq BK565.out) hb); have n1_ := am (below_step (hs HB.out) hb); have n2_ := am (hbox); have n3_ := am (bz hg (hs HB.out)); have n4_ := n3_; have n5_ := am ((by rw [hg]; exact Nat.ne_of_lt (blk_lt (bq BK565.out)) : gb565 ≠ gb566)); have n6_ := am ((by rw [hg]; exact Nat.ne_of_gt (blk_lt (bq BK565.out)) : gb566 ≠ gb565)); clear BK565 HB; revert n0_ n1_ n2_ n3_ n4_ n5_ n6_; intro BK565 HB BK566 GW566 GE566 NB565_566 NB566_565; clear hb hbox hg) | ((with_reducible refine gate_dst (N := 4) rfl ?_); refine box_event ?hg (N := 4) ?hd (cs := #[.int .i64 0, .slice none 0 0, .slice none 0 0]) (t := 49) ?hr ?_; (case hd => rfl); (case hg => rfl); (case hr => first | (go_simp; done) | (go_simp; rfl)); intro gb567 hg w60 hbox hb; have n0_ := am (blk_below (bq BK565.out) hb); have n1_ := am (blk_below (bq BK566.out) hb); have n2_ := am (below_step (hs HB.out) hb); have n3_ := am (hbox); have n4_ := am (bz hg (hs HB.out)); have n5_ := n4_; have n6_ := am ((by rw [hg]; exact Nat.ne_of_lt (blk_lt (bq BK565.out)) : gb565 ≠ gb567)); have n7_ := am ((by rw [hg]; exact Nat.ne_of_gt (blk_lt (bq BK565.out)) : gb567 ≠ gb565)); have n8_ := am ((by rw [hg]; exact Nat.ne_of_lt (blk_lt (bq BK566.out)) : gb566 ≠ gb567)); have n9_ := am ((by rw [hg]; exact Nat.ne_of_gt (blk_lt (bq BK566.out)) : gb567 ≠ gb566)); clear BK565 BK566 HB; revert n0_ n1_ n2_ n3_ n4_ n5_ n6_ n7_ n8_ n9_; intro BK565 BK566 HB BK567 GW567 GE567 NB565_567 NB567_565 NB566_567 NB567_566; clear hb hbox hg; have hnb61 := NB565_566.out; have hnc61 := NB566_565.out; have hnb62 := NB565_567.out; have hnc62 := NB567_565.out; have hcz63_0 : w60.cell? ⟨gb565, 0, none⟩ = some (.slice A0_0 l0_0.length c0_0) := (blk_cell BK565.out 0).trans rfl; have hfz63_0 := blk_frozen BK565.out 0; have hnb64 := NB566_567.out; have hnc64 := NB567_566.out; have hcz65_0 : w60.cell? ⟨gb566, 0, none⟩ = some (.slice A1_0 l1_0.length c1_0) := (blk_cell BK566.out 0).trans rfl; have hcz65_1 : w60.cell? ⟨gb566, 1, none⟩ = some (.slice A1_1 l1_1.length c1_1) := (blk_cell BK566.out 1).trans rfl; have hfz65_0 := blk_frozen BK566.out 0; have hfz65_1 := blk_frozen BK566.out 1) | ((with_reducible refine gate_callee (f := 9) rfl ?_); refine goesL_ (some 12) rfl rfl Tryd.func9 (by kernel_rfl) rfl #[.agg #[.slice A0_0 l0_0.length c0_0], .slice A1_0 l1_0.length c1_0] rfl el ?_; (with_reducible refine (spec_TermFault.calls k _ _ l0_0 _ _ l1_0 t568 _ ?side1 ?side2 ?side3 ?side4 A3.out).mono ?_); (case side1 => exact cq (Kd.C_below HR0_0.out HB.out)); (case side2 => exact HC0_0.out); (case side3 => exact cq (Kd.C_below HR1_0.out HB.out)); (case side4 => exact HC1_0.out); rintro e w66 ⟨rfl, hb⟩; refine ⟨_, rfl, ?_⟩; have n0_ := am (blk_below (bq BK565.out) hb); have n1_ := am (blk_below (bq BK566.out) hb); have n2_ := am (blk_below (bq BK567.out) hb); have n3_ := am (below_step (hs HB.out) hb); clear BK565 BK566 BK567 HB; revert n0_ n1_ n2_ n3_; intro BK565 BK566 BK567 HB; (try clear hb); (try clear hb2); (try clear hgw); (try clear hk); (try clear hi); have hcz67_0 : w66.cell? ⟨gb567, 0, none⟩ = some (.int .i64 0) := (blk_cell BK567.out 0).trans rfl; have hcz67_1 : w66.cell? ⟨gb567, 1, none⟩ = some (.slice none 0 0) := (blk_cell BK567.out 1).trans rfl; have hcz67_2 : w66.cell? ⟨gb567, 2, none⟩ = some (.slice none 0 0) := (blk_cell BK567.out 2).trans rfl; have hfz67_0 := blk_frozen BK567.out 0; have hfz67_1 := blk_frozen BK567.out 1; have hfz67_2 := blk_frozen BK567.out 2))
    refine bodyPost_ret (results_cell_row rfl _ _ gb567 49 #[.int .i64 t568, .slice none 0 0, .slice none 0 0] (0, 0) _ rfl (by refine bq ?_; refine blk_put (cs := #[.int .i64 t568, .slice none 0 0, .slice none 0 0]) ?_ 2 _ rfl; refine bq ?_; refine blk_put (cs := #[.int .i64 t568, .slice none 0 0, .slice none 0 0]) ?_ 1 _ rfl; refine bq ?_; refine blk_put (cs := #[.int .i64 0, .slice none 0 0, .slice none 0 0]) ?_ 0 _ rfl; refine bq ?_; exact BK567.out) Tryd.underlying49 rfl (by kernel_rfl)) rfl ?_
    exact ⟨_, _, by first | rfl | (simp [errW_none, errW_some] <;> rfl) | (simp [*, errW_none, errW_some] <;> rfl), by first | exact Kd.R_nil _ _ _ _ _ | exact Kd.N_nil _ _ _ _ _ | exact Kd.V_nil _ _ _ _ _ | exact Kd.Q_nil _ _ _ _ _ | exact Kd.S_nil _ _ _ _ _, by first | exact Kd.R_nil _ _ _ _ _ | exact Kd.N_nil _ _ _ _ _ | exact Kd.V_nil _ _ _ _ _ | exact Kd.Q_nil _ _ _ _ _ | exact Kd.S_nil _ _ _ _ _, by exact hs HB.out⟩
def laws_toSymbol.f (a0_0 : ByteArray) (a0_1 : Int) : Option (ByteArray × Int) := some (a0_0, a0_1)
set_option maxHeartbeats 8000000 in
set_option maxRecDepth 100000 in
theorem laws_toSymbol.calls (a0_0 : ByteArray) (a0_1 : Int) (r1 : ByteArray) (r2 : Int) (w : World) (h : laws_toSymbol.f a0_0 a0_1 = some (r1, r2)) :
    Calls Tryd.prog 96 #[.agg #[.string a0_0, .int .i64 a0_1]] w fun e w' => e = .returned (.agg #[.string r1, .int .i64 r2]) ∧ Below w.heap.size w w' := by
  have hu123 := Tryd.underlying123
  have hu110 := Tryd.underlying110
  have HB := am (Below.refl w.heap.size w)
  have H : (some (a0_0, a0_1)) = some (r1, r2) := h
  clear h
  simp only [Option.some.injEq, Prod.mk.injEq] at H
  obtain ⟨rfl, rfl⟩ := H
  go_enter Tryd.func96, Tryd.ntmps96
  go_wp2_with (first | ((with_reducible refine gate_dst (N := 1) rfl ?_); refine box_event ?hg (N := 1) ?hd (cs := #[.string a0_0, .int .i64 a0_1]) (t := 123) ?hr ?_; (case hd => rfl); (case hg => rfl); (case hr => first | (go_simp; done) | (go_simp; rfl)); intro gb578 hg w2 hbox hb; have n0_ := am (below_step (hq HB.out) hb); have n1_ := am (hbox); have n2_ := am (bz hg (hq HB.out)); have n3_ := n2_; clear HB; revert n0_ n1_ n2_ n3_; intro HB BK578 GW578 GE578; clear hb hbox hg) | ((with_reducible refine gate_dst (N := 2) rfl ?_); refine box_event ?hg (N := 2) ?hd (cs := #[.string (⟨#[]⟩ : ByteArray), .int .i64 0]) (t := 110) ?hr ?_; (case hd => rfl); (case hg => rfl); (case hr => first | (go_simp; done) | (go_simp; rfl)); intro gb579 hg w3 hbox hb; have n0_ := am (blk_below (bq BK578.out) hb); have n1_ := am (below_step (hs HB.out) hb); have n2_ := am (hbox); have n3_ := am (bz hg (hs HB.out)); have n4_ := n3_; have n5_ := am ((by rw [hg]; exact Nat.ne_of_lt (blk_lt (bq BK578.out)) : gb578 ≠ gb579)); have n6_ := am ((by rw [hg]; exact Nat.ne_of_gt (blk_lt (bq BK578.out)) : gb579 ≠ gb578)); clear BK578 HB; revert n0_ n1_ n2_ n3_ n4_ n5_ n6_; intro BK578 HB BK579 GW579 GE579 NB578_579 NB579_578; clear hb hbox hg) | ((with_reducible refine gate_dst (N := 3) rfl ?_); refine box_event ?hg (N := 3) ?hd (cs := #[.string (⟨#[]⟩ : ByteArray), .int .i64 0]) (t := 110) ?hr ?_; (case hd => rfl); (case hg => rfl); (case hr => first | (go_simp; done) | (go_simp; rfl)); intro gb580 hg w4 hbox hb; have n0_ := am (blk_below (bq BK578.out) hb); have n1_ := am (blk_below (bq BK579.out) hb); have n2_ := am (below_step (hs HB.out) hb); have n3_ := am (hbox); have n4_ := am (bz hg (hs HB.out)); have n5_ := n4_; have n6_ := am ((by rw [hg]; exact Nat.ne_of_lt (blk_lt (bq BK578.out)) : gb578 ≠ gb580)); have n7_ := am ((by rw [hg]; exact Nat.ne_of_gt (blk_lt (bq BK578.out)) : gb580 ≠ gb578)); have n8_ := am ((by rw [hg]; exact Nat.ne_of_lt (blk_lt (bq BK579.out)) : gb579 ≠ gb580)); have n9_ := am ((by rw [hg]; exact Nat.ne_of_gt (blk_lt (bq BK579.out)) : gb580 ≠ gb579)); clear BK578 BK579 HB; revert n0_ n1_ n2_ n3_ n4_ n5_ n6_ n7_ n8_ n9_; intro BK578 BK579 HB BK580 GW580 GE580 NB578_580 NB580_578 NB579_580 NB580_579; clear hb hbox hg; have hnb5 := NB578_579.out; have hnc5 := NB579_578.out; have hnb6 := NB578_580.out; have hnc6 := NB580_578.out; have hcz7_0 : w4.cell? ⟨gb578, 0, none⟩ = some (.string a0_0) := (blk_cell BK578.out 0).trans rfl; have hcz7_1 : w4.cell? ⟨gb578, 1, none⟩ = some (.int .i64 a0_1) := (blk_cell BK578.out 1).trans rfl; have hfz7_0 := blk_frozen BK578.out 0; have hfz7_1 := blk_frozen BK578.out 1; have hnb8 := NB580_579.out; have hnc8 := NB579_580.out; have hcz9_0 : w4.cell? ⟨gb580, 0, none⟩ = some (.string (⟨#[]⟩ : ByteArray)) := (blk_cell BK580.out 0).trans rfl; have hcz9_1 : w4.cell? ⟨gb580, 1, none⟩ = some (.int .i64 0) := (blk_cell BK580.out 1).trans rfl; have hfz9_0 := blk_frozen BK580.out 0; have hfz9_1 := blk_frozen BK580.out 1; have hcz10_0 : w4.cell? ⟨gb579, 0, none⟩ = some (.string (⟨#[]⟩ : ByteArray)) := (blk_cell BK579.out 0).trans rfl; have hcz10_1 : w4.cell? ⟨gb579, 1, none⟩ = some (.int .i64 0) := (blk_cell BK579.out 1).trans rfl; have hfz10_0 := blk_frozen BK579.out 0; have hfz10_1 := blk_frozen BK579.out 1))
  refine bodyPost_ret (results_cell_row rfl _ _ gb579 110 #[.string a0_0, .int .i64 a0_1] (0, 0) _ rfl (by refine bq ?_; refine blk_put (cs := #[.string a0_0, .int .i64 0]) ?_ 1 _ rfl; refine bq ?_; refine blk_put (cs := #[.string (⟨#[]⟩ : ByteArray), .int .i64 0]) ?_ 0 _ rfl; refine bq ?_; refine blk_far ?_ NB579_580.out _; refine bq ?_; refine blk_far ?_ NB579_580.out _; refine bq ?_; exact BK579.out) Tryd.underlying110 rfl (by kernel_rfl)) rfl ?_
  exact ⟨by first | rfl | (simp [errW_none, errW_some] <;> rfl) | (simp [*, errW_none, errW_some] <;> rfl), by exact hs HB.out⟩
def laws_toSymbolS.l0 : Nat → List (S123) → List (S110) → Int → Option ((List (S110)))
  | 0, _, _, _ => none
  | k + 1, x0, x3, x4 => if x4 < (x0.length : Int) then (if 0 ≤ x4 then ((laws_toSymbol.f ((rd_T123 x0 x4).f0) ((rd_T123 x0 x4).f1)).bind fun bt585 => (if x4 < (x3.length : Int) then (laws_toSymbolS.l0 k x0 (x3.set (x4 : Int).toNat (⟨bt585.1, bt585.2⟩ : S110)) (wrap64 (x4 + 1))) else (none))) else (none)) else (some x3)
def laws_toSymbolS.f (k : Nat) (l0 : List (S123)) : Option ((List (S110))) := if 0 ≤ (l0.length : Int) then (if ((l0.length : Int) : Int).toNat ≤ 11728124029610 then (laws_toSymbolS.l0 k l0 (List.replicate ((l0.length : Int) : Int).toNat z110) 0) else (none)) else (none)
set_option maxHeartbeats 8000000 in
set_option maxRecDepth 100000 in
theorem laws_toSymbolS.calls (k : Nat) (A0 : Option Addr) (c0 : Nat) (l0 : List (S123)) (r : List (S110)) (w : World) (hr0 : Kd.C k123 w A0 l0.length l0) (hc0 : l0.length ≤ c0) (h : laws_toSymbolS.f k l0 = some r) :
    Calls Tryd.prog 59 #[.slice A0 l0.length c0] w fun e w' => ∃ v0_ : Value, e = .returned (v0_) ∧ Kd.R k110 110 w' w.heap.size (fun _ => True) v0_ r ∧ Below w.heap.size w w' := by
  have hu123 := Tryd.underlying123
  have hu110 := Tryd.underlying110
  have HR0 := am hr0
  have HC0 := am hc0
  clear hr0 hc0
  have HB := am (Below.refl w.heap.size w)
  have H : (if 0 ≤ (l0.length : Int) then (if ((l0.length : Int) : Int).toNat ≤ 11728124029610 then (laws_toSymbolS.l0 k l0 (List.replicate ((l0.length : Int) : Int).toNat z110) 0) else (none)) else (none)) = some r := h
  clear h
  by_cases c2 : 0 ≤ (l0.length : Int)
  · rw [if_pos c2] at H
    have c2b0 := eq_true c2
    have c2b1 : decide (0 ≤ (l0.length : Int)) = true := decide_eq_true c2
    clear c2
    by_cases c3 : ((l0.length : Int) : Int).toNat ≤ 11728124029610
    · rw [if_pos c3] at H
      have c3b0 := eq_true c3
      have c3b1 : decide (((l0.length : Int) : Int).toNat ≤ 11728124029610) = true := decide_eq_true c3
      clear c3
      obtain ⟨y581, hy581⟩ : ∃ y_ : List (S110), y_ = (List.replicate ((l0.length : Int) : Int).toNat z110) := ⟨_, rfl⟩
      replace H : (laws_toSymbolS.l0 k l0 y581 0) = some r := by first | (rw [hy581]; with_reducible exact H) | (have H2_ := (Option.bind_some _ _).symm.trans H; rw [hy581]; with_reducible exact H2_) | (have H2_ := (Option.bind_some _ _).symm.trans H; with_reducible exact H2_) | with_reducible exact H | (rw [hy581]; exact H) | exact H
      have Ny581 := am hy581
      clear hy581
      have H' := am H
      clear H
      go_enter Tryd.func59, Tryd.ntmps59
      go_wp2_with (first | ((with_reducible refine gate_dst (N := 7) rfl ?_); refine Kd.R_make k110 _ 110 rfl (N := 7) rfl 24 _ _ rfl (l0.length : Int) rfl rfl Tryd.underlying24 (.agg #[(.string ⟨#[]⟩), (.int .i64 0)]) 24 info110 rfl (by decide) (by omega) z110 (ok := fun _ => True) (okp := fun _ => True) (k110_mkM _ _ _ z110 ) (fun _ hk => hk) trivial (of_decide_eq_true (by first | (with_reducible assumption) | assumption)) (Nat.le_trans (Nat.mul_le_mul_right _ (of_decide_eq_true (by first | (with_reducible assumption) | assumption) : (l0.length : Int).toNat ≤ 11728124029610)) (by omega)) (Below.refl _ _) (Nat.le_refl _) ?_; intro v582 w4 ho5 hb hg_ hnew_; clear hg_ hnew_; (first | rw [← Ny581.out] at ho5 | (simp only [Int.reduceToNat] at ho5; rw [← Ny581.out] at ho5)); have n0_ := am (Kd.R_lower ho5 (below_size (hq HB.out))); have n1_ := am (below_step (hq HB.out) hb); clear HB; revert n0_ n1_; intro HO583 HB; clear hb ho5))
      go_loopg [4] k (fun kq v4 w' => ∃ (x3_1 : List (S110)) (x4_1 : Int), v4 = .int .i64 x4_1 ∧ Aside0 (laws_toSymbolS.l0 kq l0 x3_1 x4_1 = some r) ∧ Aside0 (kq ≤ k) ∧ Aside0 (Kd.R k110 110 w' w.heap.size (fun _ => True) v582 x3_1) ∧ Aside0 (Below w.heap.size w w'))
      case atStart => exact ⟨(y581), (0), (by first | rfl | (simp; done) | (simp [*]; done)), H', ⟨Nat.le_refl _⟩, ⟨by (with_reducible repeat (first | apply Kd.R_alloc | apply Kd.R_drewN | apply Kd.R_drew)); exact HO583.out⟩, ⟨by exact hq HB.out⟩⟩
      case round =>
        clear H'
        try clear c2; try clear c2b0; try clear c2b1; try clear p2; try clear c3; try clear c3b0; try clear c3b1; try clear c5
        obtain ⟨x3_1, x4_1, rfl, HA, HK1, HO_3, HB⟩ := hrel
        cases gk with
        | zero => exact absurd HA.out (by simp [laws_toSymbolS.l0])
        | succ k1 =>
          have H := HA.out
          clear HA
          simp only [laws_toSymbolS.l0] at H
          by_cases c6 : x4_1 < (l0.length : Int)
          · rw [if_pos c6] at H
            have c6b0 : decide (x4_1 < (l0.length : Int)) = true := decide_eq_true c6
            clear c6
            by_cases c7 : 0 ≤ x4_1
            · rw [if_pos c7] at H
              have c7b0 : decide (0 ≤ x4_1) = true := decide_eq_true c7
              clear c7
              replace H := Option.bind_eq_some_iff.mp H
              obtain ⟨⟨t585, t586⟩, A80, H⟩ := H
              replace H : (if x4_1 < (x3_1.length : Int) then (laws_toSymbolS.l0 k1 l0 (x3_1.set (x4_1 : Int).toNat (⟨t585, t586⟩ : S110)) (wrap64 (x4_1 + 1))) else (none)) = some r := H
              have A8 := am A80
              clear A80
              by_cases c9 : x4_1 < (x3_1.length : Int)
              · rw [if_pos c9] at H
                have c9b0 : decide (x4_1 < (x3_1.length : Int)) = true := decide_eq_true c9
                clear c9
                obtain ⟨y587, hy587⟩ : ∃ y_ : List (S110), y_ = (x3_1.set (x4_1 : Int).toNat (⟨t585, t586⟩ : S110)) := ⟨_, rfl⟩
                replace H : (laws_toSymbolS.l0 k1 l0 y587 (wrap64 (x4_1 + 1))) = some r := by first | (rw [hy587]; with_reducible exact H) | (have H2_ := (Option.bind_some _ _).symm.trans H; rw [hy587]; with_reducible exact H2_) | (have H2_ := (Option.bind_some _ _).symm.trans H; with_reducible exact H2_) | with_reducible exact H | (rw [hy587]; exact H) | exact H
                have Ny587 := am hy587
                clear hy587
                have H' := am H
                clear H
                have p584 : 0 ≤ (x4_1 : Int) := of_decide_eq_true (by first | (with_reducible assumption) | assumption)
                have q584 : x4_1 < (l0.length : Int) := of_decide_eq_true (by first | (with_reducible assumption) | assumption)
                obtain ⟨ad584, e584, hx584_0, hx584_1⟩ := at_T123 HR0.out x4_1 p584 q584
                cases e584
                replace hx584_0 := (HB.out.cell (World.block_lt_of_cell? w _ hx584_0)).trans hx584_0
                replace hx584_1 := (HB.out.cell (World.block_lt_of_cell? w _ hx584_1)).trans hx584_1
                replace p584 := eq_true p584
                replace q584 := eq_true q584
                go_wp2_with (first | ((with_reducible refine gate_callee (f := 96) rfl ?_); refine goesL_ (some 20) rfl rfl Tryd.func96 (by kernel_rfl) rfl #[.agg #[.string ((rd_T123 l0 x4_1).f0), .int .i64 ((rd_T123 l0 x4_1).f1)]] rfl el ?_; (with_reducible refine (laws_toSymbol.calls ((rd_T123 l0 x4_1).f0) ((rd_T123 l0 x4_1).f1) t585 t586 _ A8.out).mono ?_); rintro e w11 ⟨rfl, hb⟩; refine ⟨_, rfl, ?_⟩; have n0_ := am (Kd.R_below (rq HO_3.out) hb); have n1_ := am (below_step (hq HB.out) hb); clear HO_3 HB; revert n0_ n1_; intro HO_3 HB; (try clear hb); (try clear hb2); (try clear hgw); (try clear hk); (try clear hi); have p10 : 0 ≤ (x4_1 : Int) := of_decide_eq_true (by first | (with_reducible assumption) | assumption); have q10 : (x4_1 : Int) < ((x3_1.length : Int) : Int) := of_decide_eq_true (by first | (with_reducible assumption) | assumption); obtain ⟨go10, co10, eo10, gb10, gl10, cl10, HG10⟩ := Kd.R_form HO_3.out (by omega); (first | cases eo10 | (injection eo10 with ea_ en_ ec_; (first | subst ea_ | (injection ea_ with ea_; subst ea_)); subst ec_; clear en_)); have GB10 := am gb10; have GG10 := am HG10; clear gb10 gl10 HG10; obtain ⟨ce10, hcl10, hM10, hcc10, hfr10⟩ := Kd.R_elem HO_3.out z110 (x4_1 : Int) p10 q10; obtain rfl := k110_openM hM10; have hx10_0 : w11.cell? ⟨go10, (x4_1 : Int).toNat * 2, none⟩ = some (.string ((rd_T110 x3_1 x4_1).f0)) := hcc10 0 _ rfl; have hx10_1 : w11.cell? ⟨go10, (x4_1 : Int).toNat * 2 + 1, none⟩ = some (.int .i64 ((rd_T110 x3_1 x4_1).f1)) := hcc10 1 _ rfl; have hf10_0 : w11.frozen? ⟨go10, (x4_1 : Int).toNat * 2, none⟩ = false := hfr10 0; have hf10_1 : w11.frozen? ⟨go10, (x4_1 : Int).toNat * 2 + 1, none⟩ = false := hfr10 1; clear hcl10 hcc10 hfr10; (try clear hM10); replace p10 := eq_true p10; replace q10 := eq_true q10; have HX12 := am (show Kd.R k110 110 w11 w.heap.size (fun _ => True) (.slice (some ⟨go10, 0, none⟩) x3_1.length co10) x3_1 from (rq HO_3.out)); obtain ⟨ce12, hcl12, hM12, hcc12, hfr12⟩ := Kd.R_elem HX12.out z110 (x4_1 : Int) (of_decide_eq_true (by first | (with_reducible assumption) | assumption)) (by have h_ : (x4_1 : Int) < ((x3_1.length : Int) : Int) := of_decide_eq_true (by first | (with_reducible assumption) | assumption); first | exact h_ | (have e_ := (Kd.R_reads' HO_3.out).1; omega) | simpa using h_); obtain rfl := k110_openM hM12; have HP12 := Kd.R_seg HX12.out (x4_1 : Int) (of_decide_eq_true (by first | (with_reducible assumption) | assumption)) (by have h_ : (x4_1 : Int) < ((x3_1.length : Int) : Int) := of_decide_eq_true (by first | (with_reducible assumption) | assumption); first | exact h_ | (have e_ := (Kd.R_reads' HO_3.out).1; omega) | simpa using h_) (seg := [.string t585, .int .i64 t586]) (j := 0) hcl12 hcc12 (show 2 ≤ 2 from by decide) (x' := (⟨t585, t586⟩ : S110)) (k110_mkM _ _ _ (⟨t585, t586⟩ : S110) ) (fun _ hk => hk); have hx12_0 := hcc12 0 _ rfl; (try simp only [show (k110).sz = 2 from rfl, Nat.mul_one, Nat.add_zero] at hx12_0); have hf12_0 := hfr12 0; (try simp only [show (k110).sz = 2 from rfl, Nat.mul_one, Nat.add_zero] at hf12_0); have hx12_1 := hcc12 1 _ rfl; (try simp only [show (k110).sz = 2 from rfl, Nat.mul_one, Nat.add_zero] at hx12_1); have hf12_1 := hfr12 1; (try simp only [show (k110).sz = 2 from rfl, Nat.mul_one, Nat.add_zero] at hf12_1); clear hcl12 hcc12 hfr12; (try clear hM12)) | ((with_reducible refine gate_store (t := 110) (p := 21) rfl ?_); refine store_event (t := 110) (p := 21) (v := ?vo_w13) (w1 := ((w11.setCell ⟨go10, (x4_1 : Int).toNat * 2, none⟩ (.string t585)).setCell ⟨go10, (x4_1 : Int).toNat * 2 + 1, none⟩ (.int .i64 t586))) ?hg ?ho ?hn ?hr ?_; (case ho => rfl); (case hg => rfl); (case hn => rfl); (case hr => first | (go_simp; done) | (go_simp; rfl)); intro w13 hw; have hg : w11.grownBy w13 (some go10) := (by rw [hw]; exact HP12.2); have hp_ : Kd.R k110 110 w13 w.heap.size (fun _ => True) (.slice (some ⟨go10, 0, none⟩) x3_1.length co10) y587 := (by rw [hw, Ny587.out]; exact HP12.1); clear HP12; have n0_ := am (hp_); have n1_ := am ((by rw [hw]; exact below_set (below_set (HB.out) GB10.out) GB10.out : Below w.heap.size w w13)); clear HO_3 HB; revert n0_ n1_; intro HO_3 HB; clear hg hw hp_))
                go_roundg k1
                case measure => have := HK1.out; omega
                case rel => exact ⟨(y587), (wrap64 (x4_1 + 1)), (by first | rfl | (simp; done) | (simp [*]; done)), H', ⟨by have := HK1.out; omega⟩, ⟨by (with_reducible repeat (first | apply Kd.R_alloc | apply Kd.R_drewN | apply Kd.R_drew)); exact HO_3.out⟩, ⟨by exact hq HB.out⟩⟩
              · rw [if_neg c9] at H
                exact absurd H (by simp)
            · rw [if_neg c7] at H
              exact absurd H (by simp)
          · rw [if_neg c6] at H
            have c6b0 : decide (x4_1 < (l0.length : Int)) = false := decide_eq_false c6
            clear c6
            obtain rfl := Option.some.inj H
            go_wp2
            go_ret
            exact ⟨_, by first | rfl | (simp [errW_none, errW_some] <;> rfl) | (simp [*, errW_none, errW_some] <;> rfl), by (with_reducible repeat (first | apply Kd.R_alloc | apply Kd.R_drewN | apply Kd.R_drew)); exact HO_3.out, by exact hq HB.out⟩
    · rw [if_neg c3] at H
      exact absurd H (by simp)
  · rw [if_neg c2] at H
    exact absurd H (by simp)
def laws_toSignature.f (k : Nat) (l0_0 : List (S123)) : Option ((List (S110))) := (laws_toSymbolS.f k l0_0).bind fun t591 => (some t591)
set_option maxHeartbeats 8000000 in
set_option maxRecDepth 100000 in
theorem laws_toSignature.calls (k : Nat) (A0_0 : Option Addr) (c0_0 : Nat) (l0_0 : List (S123)) (r : List (S110)) (w : World) (hr0_0 : Kd.C k123 w A0_0 l0_0.length l0_0) (hc0_0 : l0_0.length ≤ c0_0) (h : laws_toSignature.f k l0_0 = some r) :
    Calls Tryd.prog 20 #[.agg #[.slice A0_0 l0_0.length c0_0]] w fun e w' => ∃ v0_ : Value, e = .returned (.agg #[v0_]) ∧ Kd.R k110 110 w' w.heap.size (fun _ => True) v0_ r ∧ Below w.heap.size w w' := by
  have hu42 := Tryd.underlying42
  have hu26 := Tryd.underlying26
  have HR0_0 := am hr0_0
  have HC0_0 := am hc0_0
  clear hr0_0 hc0_0
  have HB := am (Below.refl w.heap.size w)
  have H : ((laws_toSymbolS.f k l0_0).bind fun t591 => (some t591)) = some r := h
  clear h
  replace H := Option.bind_eq_some_iff.mp H
  obtain ⟨t591, A20, H⟩ := H
  replace H : (some t591) = some r := H
  have A2 := am A20
  clear A20
  obtain rfl := Option.some.inj H
  go_enter Tryd.func20, Tryd.ntmps20
  go_wp2_with (first | ((with_reducible refine gate_dst (N := 1) rfl ?_); refine box_event ?hg (N := 1) ?hd (cs := #[.slice A0_0 l0_0.length c0_0]) (t := 42) ?hr ?_; (case hd => rfl); (case hg => rfl); (case hr => first | (go_simp; done) | (go_simp; rfl)); intro gb588 hg w3 hbox hb; have n0_ := am (below_step (hq HB.out) hb); have n1_ := am (hbox); have n2_ := am (bz hg (hq HB.out)); have n3_ := n2_; clear HB; revert n0_ n1_ n2_ n3_; intro HB BK588 GW588 GE588; clear hb hbox hg) | ((with_reducible refine gate_dst (N := 2) rfl ?_); refine box_event ?hg (N := 2) ?hd (cs := #[.slice none 0 0]) (t := 26) ?hr ?_; (case hd => rfl); (case hg => rfl); (case hr => first | (go_simp; done) | (go_simp; rfl)); intro gb589 hg w4 hbox hb; have n0_ := am (blk_below (bq BK588.out) hb); have n1_ := am (below_step (hs HB.out) hb); have n2_ := am (hbox); have n3_ := am (bz hg (hs HB.out)); have n4_ := n3_; have n5_ := am ((by rw [hg]; exact Nat.ne_of_lt (blk_lt (bq BK588.out)) : gb588 ≠ gb589)); have n6_ := am ((by rw [hg]; exact Nat.ne_of_gt (blk_lt (bq BK588.out)) : gb589 ≠ gb588)); clear BK588 HB; revert n0_ n1_ n2_ n3_ n4_ n5_ n6_; intro BK588 HB BK589 GW589 GE589 NB588_589 NB589_588; clear hb hbox hg) | ((with_reducible refine gate_dst (N := 3) rfl ?_); refine box_event ?hg (N := 3) ?hd (cs := #[.slice none 0 0]) (t := 26) ?hr ?_; (case hd => rfl); (case hg => rfl); (case hr => first | (go_simp; done) | (go_simp; rfl)); intro gb590 hg w5 hbox hb; have n0_ := am (blk_below (bq BK588.out) hb); have n1_ := am (blk_below (bq BK589.out) hb); have n2_ := am (below_step (hs HB.out) hb); have n3_ := am (hbox); have n4_ := am (bz hg (hs HB.out)); have n5_ := n4_; have n6_ := am ((by rw [hg]; exact Nat.ne_of_lt (blk_lt (bq BK588.out)) : gb588 ≠ gb590)); have n7_ := am ((by rw [hg]; exact Nat.ne_of_gt (blk_lt (bq BK588.out)) : gb590 ≠ gb588)); have n8_ := am ((by rw [hg]; exact Nat.ne_of_lt (blk_lt (bq BK589.out)) : gb589 ≠ gb590)); have n9_ := am ((by rw [hg]; exact Nat.ne_of_gt (blk_lt (bq BK589.out)) : gb590 ≠ gb589)); clear BK588 BK589 HB; revert n0_ n1_ n2_ n3_ n4_ n5_ n6_ n7_ n8_ n9_; intro BK588 BK589 HB BK590 GW590 GE590 NB588_590 NB590_588 NB589_590 NB590_589; clear hb hbox hg; have hnb6 := NB588_589.out; have hnc6 := NB589_588.out; have hnb7 := NB588_590.out; have hnc7 := NB590_588.out; have hcz8_0 : w5.cell? ⟨gb588, 0, none⟩ = some (.slice A0_0 l0_0.length c0_0) := (blk_cell BK588.out 0).trans rfl; have hfz8_0 := blk_frozen BK588.out 0) | ((with_reducible refine gate_callee (f := 59) rfl ?_); refine goesL_ (some 6) rfl rfl Tryd.func59 (by kernel_rfl) rfl #[.slice A0_0 l0_0.length c0_0] rfl el ?_; (with_reducible refine (laws_toSymbolS.calls k _ _ l0_0 t591 _ ?side1 ?side2 A2.out).mono ?_); (case side1 => exact cq (Kd.C_below HR0_0.out HB.out)); (case side2 => exact HC0_0.out); rintro e w9 ⟨v592, rfl, ho0, hb⟩; refine ⟨_, rfl, ?_⟩; have n0_ := am (Kd.R_lower ho0 (below_size (hs HB.out))); have n1_ := am (blk_below (bq BK588.out) hb); have n2_ := am (blk_below (bq BK589.out) hb); have n3_ := am (blk_below (bq BK590.out) hb); have n4_ := am (below_step (hs HB.out) hb); clear BK588 BK589 BK590 HB; revert n0_ n1_ n2_ n3_ n4_; intro HO593 BK588 BK589 BK590 HB; (try clear hb); (try clear hb2); (try clear hgw); (try clear hk); (try clear hi); (try clear ho0); obtain ⟨Ao10, co10, eo10⟩ := Kd.R_slice HO593.out; subst eo10; have hnb11 := NB590_589.out; have hnc11 := NB589_590.out; have hcz12_0 : w9.cell? ⟨gb590, 0, none⟩ = some (.slice none 0 0) := (blk_cell BK590.out 0).trans rfl; have hfz12_0 := blk_frozen BK590.out 0; have hcz13_0 : w9.cell? ⟨gb589, 0, none⟩ = some (.slice none 0 0) := (blk_cell BK589.out 0).trans rfl; have hfz13_0 := blk_frozen BK589.out 0))
  refine bodyPost_ret (results_cell_row rfl _ _ gb589 26 #[.slice Ao10 t591.length co10] (0, 0) _ rfl (by refine bq ?_; refine blk_put (cs := #[.slice none 0 0]) ?_ 0 _ rfl; refine bq ?_; refine blk_far ?_ NB589_590.out _; refine bq ?_; exact BK589.out) Tryd.underlying26 rfl (by kernel_rfl)) rfl ?_
  exact ⟨_, by first | rfl | (simp [errW_none, errW_some] <;> rfl) | (simp [*, errW_none, errW_some] <;> rfl), by (with_reducible repeat (first | apply Kd.R_alloc | apply Kd.R_drewN | apply Kd.R_drew)); exact Kd.R_mono (Kd.R_far (p := ⟨gb589, 0, none⟩) (Kd.R_far (p := ⟨gb590, 0, none⟩) (Kd.R_types (Kd.R_types HO593.out BK590.out (by decide)) BK589.out (by decide)) (fun _ hk => hk.1.2) (.slice Ao10 t591.length co10)) (fun _ hk => hk.2) (.slice Ao10 t591.length co10)) (fun _ hk => trivial), by exact hs HB.out⟩
def laws_toInt64S.l0 : Nat → List Int → List Int → Int → Option (List Int)
  | 0, _, _, _ => none
  | k + 1, x0, x3, x4 => if x4 < (x0.length : Int) then (if 0 ≤ x4 then (if x4 < (x3.length : Int) then (laws_toInt64S.l0 k x0 (x3.set (x4 : Int).toNat (rd x0 x4)) (wrap64 (x4 + 1))) else (none)) else (none)) else (some x3)
def laws_toInt64S.f (k : Nat) (l0 : List Int) : Option (List Int) := if 0 ≤ (l0.length : Int) then (if ((l0.length : Int) : Int).toNat ≤ 35184372088832 then (laws_toInt64S.l0 k l0 (List.replicate ((l0.length : Int) : Int).toNat 0) 0) else (none)) else (none)
set_option maxHeartbeats 8000000 in
set_option maxRecDepth 100000 in
theorem laws_toInt64S.calls (k : Nat) (A0 : Option Addr) (c0 : Nat) (l0 : List Int) (r : List Int) (w : World) (hr0 : Kd.C (Kd.int .i64) w A0 l0.length l0) (hc0 : l0.length ≤ c0) (h : laws_toInt64S.f k l0 = some r) :
    Calls Tryd.prog 33 #[.slice A0 l0.length c0] w fun e w' => ∃ v0_ : Value, e = .returned (v0_) ∧ Kd.R (Kd.int .i64) 2 w' w.heap.size (fun _ => True) v0_ r ∧ Below w.heap.size w w' := by
  have HR0 := am hr0
  have HC0 := am hc0
  clear hr0 hc0
  have HB := am (Below.refl w.heap.size w)
  have H : (if 0 ≤ (l0.length : Int) then (if ((l0.length : Int) : Int).toNat ≤ 35184372088832 then (laws_toInt64S.l0 k l0 (List.replicate ((l0.length : Int) : Int).toNat 0) 0) else (none)) else (none)) = some r := h
  clear h
  by_cases c2 : 0 ≤ (l0.length : Int)
  · rw [if_pos c2] at H
    have c2b0 := eq_true c2
    have c2b1 : decide (0 ≤ (l0.length : Int)) = true := decide_eq_true c2
    clear c2
    by_cases c3 : ((l0.length : Int) : Int).toNat ≤ 35184372088832
    · rw [if_pos c3] at H
      have c3b0 := eq_true c3
      have c3b1 : decide (((l0.length : Int) : Int).toNat ≤ 35184372088832) = true := decide_eq_true c3
      clear c3
      obtain ⟨y594, hy594⟩ : ∃ y_ : List Int, y_ = (List.replicate ((l0.length : Int) : Int).toNat 0) := ⟨_, rfl⟩
      replace H : (laws_toInt64S.l0 k l0 y594 0) = some r := by first | (rw [hy594]; with_reducible exact H) | (have H2_ := (Option.bind_some _ _).symm.trans H; rw [hy594]; with_reducible exact H2_) | (have H2_ := (Option.bind_some _ _).symm.trans H; with_reducible exact H2_) | with_reducible exact H | (rw [hy594]; exact H) | exact H
      have Ny594 := am hy594
      clear hy594
      have H' := am H
      clear H
      go_enter Tryd.func33, Tryd.ntmps33
      go_wp2_with (first | ((with_reducible refine gate_dst (N := 7) rfl ?_); refine Kd.R_make (Kd.int .i64) _ 2 rfl (N := 7) rfl 27 _ _ rfl (l0.length : Int) rfl rfl Tryd.underlying27 (.int .i64 0) 8 info2 rfl (by decide) (by omega) 0 (ok := fun _ => True) (okp := fun _ => True) rfl (fun _ hk => hk) trivial (of_decide_eq_true (by first | (with_reducible assumption) | assumption)) (Nat.le_trans (Nat.mul_le_mul_right _ (of_decide_eq_true (by first | (with_reducible assumption) | assumption) : (l0.length : Int).toNat ≤ 35184372088832)) (by omega)) (Below.refl _ _) (Nat.le_refl _) ?_; intro v595 w4 ho5 hb hg_ hnew_; clear hg_ hnew_; (first | rw [← Ny594.out] at ho5 | (simp only [Int.reduceToNat] at ho5; rw [← Ny594.out] at ho5)); have n0_ := am (Kd.R_lower ho5 (below_size (hq HB.out))); have n1_ := am (below_step (hq HB.out) hb); clear HB; revert n0_ n1_; intro HO596 HB; clear hb ho5))
      go_loopg [4] k (fun kq v4 w' => ∃ (x3_1 : List Int) (x4_1 : Int), v4 = .int .i64 x4_1 ∧ Aside0 (laws_toInt64S.l0 kq l0 x3_1 x4_1 = some r) ∧ Aside0 (kq ≤ k) ∧ Aside0 (Kd.R (Kd.int .i64) 2 w' w.heap.size (fun _ => True) v595 x3_1) ∧ Aside0 (Below w.heap.size w w'))
      case atStart => exact ⟨(y594), (0), (by first | rfl | (simp; done) | (simp [*]; done)), H', ⟨Nat.le_refl _⟩, ⟨by (with_reducible repeat (first | apply Kd.R_alloc | apply Kd.R_drewN | apply Kd.R_drew)); exact HO596.out⟩, ⟨by exact hq HB.out⟩⟩
      case round =>
        clear H'
        try clear c2; try clear c2b0; try clear c2b1; try clear p2; try clear c3; try clear c3b0; try clear c3b1
        obtain ⟨x3_1, x4_1, rfl, HA, HK1, HO_3, HB⟩ := hrel
        cases gk with
        | zero => exact absurd HA.out (by simp [laws_toInt64S.l0])
        | succ k1 =>
          have H := HA.out
          clear HA
          simp only [laws_toInt64S.l0] at H
          by_cases c6 : x4_1 < (l0.length : Int)
          · rw [if_pos c6] at H
            have c6b0 : decide (x4_1 < (l0.length : Int)) = true := decide_eq_true c6
            clear c6
            by_cases c7 : 0 ≤ x4_1
            · rw [if_pos c7] at H
              have c7b0 : decide (0 ≤ x4_1) = true := decide_eq_true c7
              clear c7
              by_cases c8 : x4_1 < (x3_1.length : Int)
              · rw [if_pos c8] at H
                have c8b0 : decide (x4_1 < (x3_1.length : Int)) = true := decide_eq_true c8
                clear c8
                obtain ⟨y598, hy598⟩ : ∃ y_ : List Int, y_ = (x3_1.set (x4_1 : Int).toNat (rd l0 x4_1)) := ⟨_, rfl⟩
                replace H : (laws_toInt64S.l0 k1 l0 y598 (wrap64 (x4_1 + 1))) = some r := by first | (rw [hy598]; with_reducible exact H) | (have H2_ := (Option.bind_some _ _).symm.trans H; rw [hy598]; with_reducible exact H2_) | (have H2_ := (Option.bind_some _ _).symm.trans H; with_reducible exact H2_) | with_reducible exact H | (rw [hy598]; exact H) | exact H
                have Ny598 := am hy598
                clear hy598
                have H' := am H
                clear H
                have p597 : 0 ≤ (x4_1 : Int) := of_decide_eq_true (by first | (with_reducible assumption) | assumption)
                have q597 : x4_1 < (l0.length : Int) := of_decide_eq_true (by first | (with_reducible assumption) | assumption)
                obtain ⟨ad597, e597, hx597_0⟩ := Kd.at_int HR0.out x4_1 p597 q597
                cases e597
                replace hx597_0 := (HB.out.cell (World.block_lt_of_cell? w _ hx597_0)).trans hx597_0
                replace p597 := eq_true p597
                replace q597 := eq_true q597
                have p9 : 0 ≤ (x4_1 : Int) := of_decide_eq_true (by first | (with_reducible assumption) | assumption)
                have q9 : (x4_1 : Int) < ((x3_1.length : Int) : Int) := of_decide_eq_true (by first | (with_reducible assumption) | assumption)
                obtain ⟨go9, co9, eo9, gb9, gl9, cl9, HG9⟩ := Kd.R_form HO_3.out (by omega)
                (first | cases eo9 | (injection eo9 with ea_ en_ ec_; (first | subst ea_ | (injection ea_ with ea_; subst ea_)); subst ec_; clear en_))
                have GB9 := am gb9
                have GG9 := am HG9
                clear gb9 gl9 HG9
                obtain ⟨hx9_0, hf9_0⟩ := Kd.R_celln 0 HO_3.out (x4_1 : Int) p9 q9
                replace p9 := eq_true p9
                replace q9 := eq_true q9
                have HP10 := Kd.R_putg HO_3.out (x4_1 : Int) (rd l0 x4_1)
                go_wp2_with (first | ((with_reducible refine gate_store (t := 2) (p := 20) rfl ?_); refine store_event (t := 2) (p := 20) (v := ?vo_w11) (w1 := (wr.setCell ⟨go9, (x4_1 : Int).toNat, none⟩ (.int .i64 (rd l0 x4_1)))) ?hg ?ho ?hn ?hr ?_; (case ho => rfl); (case hg => rfl); (case hn => rfl); (case hr => first | (go_simp; done) | (go_simp; rfl)); intro w11 hw; have hg : wr.grownBy w11 (some go9) := (by rw [hw]; exact HP10.2); have hp_ : Kd.R (Kd.int .i64) 2 w11 w.heap.size (fun _ => True) (.slice (some ⟨go9, 0, none⟩) x3_1.length co9) y598 := (by rw [hw, Ny598.out]; exact HP10.1); clear HP10; have n0_ := am (hp_); have n1_ := am ((by rw [hw]; exact below_set (HB.out) GB9.out : Below w.heap.size w w11)); clear HO_3 HB; revert n0_ n1_; intro HO_3 HB; clear hg hw hp_))
                go_roundg k1
                case measure => have := HK1.out; omega
                case rel => exact ⟨(y598), (wrap64 (x4_1 + 1)), (by first | rfl | (simp; done) | (simp [*]; done)), H', ⟨by have := HK1.out; omega⟩, ⟨by (with_reducible repeat (first | apply Kd.R_alloc | apply Kd.R_drewN | apply Kd.R_drew)); exact HO_3.out⟩, ⟨by exact hq HB.out⟩⟩
              · rw [if_neg c8] at H
                exact absurd H (by simp)
            · rw [if_neg c7] at H
              exact absurd H (by simp)
          · rw [if_neg c6] at H
            have c6b0 : decide (x4_1 < (l0.length : Int)) = false := decide_eq_false c6
            clear c6
            obtain rfl := Option.some.inj H
            go_wp2
            go_ret
            exact ⟨_, by first | rfl | (simp [errW_none, errW_some] <;> rfl) | (simp [*, errW_none, errW_some] <;> rfl), by (with_reducible repeat (first | apply Kd.R_alloc | apply Kd.R_drewN | apply Kd.R_drew)); exact HO_3.out, by exact hq HB.out⟩
    · rw [if_neg c3] at H
      exact absurd H (by simp)
  · rw [if_neg c2] at H
    exact absurd H (by simp)
def laws_toEquation.f (k : Nat) (l0_0 : List Int) (l0_1 : List Int) : Option (List Int × List Int) := (laws_toInt64S.f k l0_0).bind fun t602 => ((laws_toInt64S.f k l0_1).bind fun t605 => (some (t602, t605)))
set_option maxHeartbeats 8000000 in
set_option maxRecDepth 100000 in
theorem laws_toEquation.calls (k : Nat) (A0_0 : Option Addr) (c0_0 : Nat) (l0_0 : List Int) (A0_1 : Option Addr) (c0_1 : Nat) (l0_1 : List Int) (r1 : List Int) (r2 : List Int) (w : World) (hr0_0 : Kd.C (Kd.int .i64) w A0_0 l0_0.length l0_0) (hc0_0 : l0_0.length ≤ c0_0) (hr0_1 : Kd.C (Kd.int .i64) w A0_1 l0_1.length l0_1) (hc0_1 : l0_1.length ≤ c0_1) (h : laws_toEquation.f k l0_0 l0_1 = some (r1, r2)) :
    Calls Tryd.prog 21 #[.agg #[.slice A0_0 l0_0.length c0_0, .slice A0_1 l0_1.length c0_1]] w fun e w' => ∃ v0_ v1_ : Value, e = .returned (.agg #[v0_, v1_]) ∧ Kd.R (Kd.int .i64) 2 w' w.heap.size (fun k_ => some k_ ≠ (v1_ : Value).ownBlock) v0_ r1 ∧ Kd.R (Kd.int .i64) 2 w' w.heap.size (fun k_ => some k_ ≠ (v0_ : Value).ownBlock) v1_ r2 ∧ Below w.heap.size w w' := by
  have hu44 := Tryd.underlying44
  have hu47 := Tryd.underlying47
  have HR0_0 := am hr0_0
  have HC0_0 := am hc0_0
  clear hr0_0 hc0_0
  have HR0_1 := am hr0_1
  have HC0_1 := am hc0_1
  clear hr0_1 hc0_1
  have HB := am (Below.refl w.heap.size w)
  have H : ((laws_toInt64S.f k l0_0).bind fun t602 => ((laws_toInt64S.f k l0_1).bind fun t605 => (some (t602, t605)))) = some (r1, r2) := h
  clear h
  replace H := Option.bind_eq_some_iff.mp H
  obtain ⟨t602, A20, H⟩ := H
  replace H : ((laws_toInt64S.f k l0_1).bind fun t605 => (some (t602, t605))) = some (r1, r2) := H
  have A2 := am A20
  clear A20
  replace H := Option.bind_eq_some_iff.mp H
  obtain ⟨t605, A30, H⟩ := H
  replace H : (some (t602, t605)) = some (r1, r2) := H
  have A3 := am A30
  clear A30
  simp only [Option.some.injEq, Prod.mk.injEq] at H
  obtain ⟨rfl, rfl⟩ := H
  go_enter Tryd.func21, Tryd.ntmps21
  go_wp2_with (first | ((with_reducible refine gate_dst (N := 1) rfl ?_); refine box_event ?hg (N := 1) ?hd (cs := #[.slice A0_0 l0_0.length c0_0, .slice A0_1 l0_1.length c0_1]) (t := 44) ?hr ?_; (case hd => rfl); (case hg => rfl); (case hr => first | (go_simp; done) | (go_simp; rfl)); intro gb599 hg w4 hbox hb; have n0_ := am (below_step (hq HB.out) hb); have n1_ := am (hbox); have n2_ := am (bz hg (hq HB.out)); have n3_ := n2_; clear HB; revert n0_ n1_ n2_ n3_; intro HB BK599 GW599 GE599; clear hb hbox hg) | ((with_reducible refine gate_dst (N := 2) rfl ?_); refine box_event ?hg (N := 2) ?hd (cs := #[.slice none 0 0, .slice none 0 0]) (t := 47) ?hr ?_; (case hd => rfl); (case hg => rfl); (case hr => first | (go_simp; done) | (go_simp; rfl)); intro gb600 hg w5 hbox hb; have n0_ := am (blk_below (bq BK599.out) hb); have n1_ := am (below_step (hs HB.out) hb); have n2_ := am (hbox); have n3_ := am (bz hg (hs HB.out)); have n4_ := n3_; have n5_ := am ((by rw [hg]; exact Nat.ne_of_lt (blk_lt (bq BK599.out)) : gb599 ≠ gb600)); have n6_ := am ((by rw [hg]; exact Nat.ne_of_gt (blk_lt (bq BK599.out)) : gb600 ≠ gb599)); clear BK599 HB; revert n0_ n1_ n2_ n3_ n4_ n5_ n6_; intro BK599 HB BK600 GW600 GE600 NB599_600 NB600_599; clear hb hbox hg) | ((with_reducible refine gate_dst (N := 3) rfl ?_); refine box_event ?hg (N := 3) ?hd (cs := #[.slice none 0 0, .slice none 0 0]) (t := 47) ?hr ?_; (case hd => rfl); (case hg => rfl); (case hr => first | (go_simp; done) | (go_simp; rfl)); intro gb601 hg w6 hbox hb; have n0_ := am (blk_below (bq BK599.out) hb); have n1_ := am (blk_below (bq BK600.out) hb); have n2_ := am (below_step (hs HB.out) hb); have n3_ := am (hbox); have n4_ := am (bz hg (hs HB.out)); have n5_ := n4_; have n6_ := am ((by rw [hg]; exact Nat.ne_of_lt (blk_lt (bq BK599.out)) : gb599 ≠ gb601)); have n7_ := am ((by rw [hg]; exact Nat.ne_of_gt (blk_lt (bq BK599.out)) : gb601 ≠ gb599)); have n8_ := am ((by rw [hg]; exact Nat.ne_of_lt (blk_lt (bq BK600.out)) : gb600 ≠ gb601)); have n9_ := am ((by rw [hg]; exact Nat.ne_of_gt (blk_lt (bq BK600.out)) : gb601 ≠ gb600)); clear BK599 BK600 HB; revert n0_ n1_ n2_ n3_ n4_ n5_ n6_ n7_ n8_ n9_; intro BK599 BK600 HB BK601 GW601 GE601 NB599_601 NB601_599 NB600_601 NB601_600; clear hb hbox hg; have hnb7 := NB599_600.out; have hnc7 := NB600_599.out; have hnb8 := NB599_601.out; have hnc8 := NB601_599.out; have hcz9_0 : w6.cell? ⟨gb599, 0, none⟩ = some (.slice A0_0 l0_0.length c0_0) := (blk_cell BK599.out 0).trans rfl; have hcz9_1 : w6.cell? ⟨gb599, 1, none⟩ = some (.slice A0_1 l0_1.length c0_1) := (blk_cell BK599.out 1).trans rfl; have hfz9_0 := blk_frozen BK599.out 0; have hfz9_1 := blk_frozen BK599.out 1) | ((with_reducible refine gate_callee (f := 33) rfl ?_); refine goesL_ (some 6) rfl rfl Tryd.func33 (by kernel_rfl) rfl #[.slice A0_0 l0_0.length c0_0] rfl el ?_; (with_reducible refine (laws_toInt64S.calls k _ _ l0_0 t602 _ ?side1 ?side2 A2.out).mono ?_); (case side1 => exact cq (Kd.C_below HR0_0.out HB.out)); (case side2 => exact HC0_0.out); rintro e w10 ⟨v603, rfl, ho0, hb⟩; refine ⟨_, rfl, ?_⟩; have n0_ := am (Kd.R_lower ho0 (below_size (hs HB.out))); have n1_ := am (blk_below (bq BK599.out) hb); have n2_ := am (blk_below (bq BK600.out) hb); have n3_ := am (blk_below (bq BK601.out) hb); have n4_ := am (below_step (hs HB.out) hb); clear BK599 BK600 BK601 HB; revert n0_ n1_ n2_ n3_ n4_; intro HO604 BK599 BK600 BK601 HB; (try clear hb); (try clear hb2); (try clear hgw); (try clear hk); (try clear hi); (try clear ho0); obtain ⟨Ao11, co11, eo11⟩ := Kd.R_slice HO604.out; subst eo11; have hnb12 := NB601_600.out; have hnc12 := NB600_601.out; have hcz13_0 : w10.cell? ⟨gb601, 0, none⟩ = some (.slice none 0 0) := (blk_cell BK601.out 0).trans rfl; have hcz13_1 : w10.cell? ⟨gb601, 1, none⟩ = some (.slice none 0 0) := (blk_cell BK601.out 1).trans rfl; have hfz13_0 := blk_frozen BK601.out 0; have hfz13_1 := blk_frozen BK601.out 1; have hcz14_0 : w10.cell? ⟨gb599, 0, none⟩ = some (.slice A0_0 l0_0.length c0_0) := (blk_cell BK599.out 0).trans rfl; have hcz14_1 : w10.cell? ⟨gb599, 1, none⟩ = some (.slice A0_1 l0_1.length c0_1) := (blk_cell BK599.out 1).trans rfl; have hfz14_0 := blk_frozen BK599.out 0; have hfz14_1 := blk_frozen BK599.out 1) | ((with_reducible refine gate_callee (f := 33) rfl ?_); refine goesL_ (some 10) rfl rfl Tryd.func33 (by kernel_rfl) rfl #[.slice A0_1 l0_1.length c0_1] rfl el ?_; (with_reducible refine (laws_toInt64S.calls k _ _ l0_1 t605 _ ?side1 ?side2 A3.out).mono ?_); (case side1 => exact Kd.C_below HR0_1.out (hs HB.out)); (case side2 => exact HC0_1.out); rintro e w15 ⟨v606, rfl, ho0, hb⟩; refine ⟨_, rfl, ?_⟩; have n0_ := am (Kd.R_elder' (rq ((Kd.R_mono (Kd.R_far (p := ⟨gb601, 0, none⟩) (Kd.R_types HO604.out BK601.out (by decide)) (fun _ hk => hk.2) (.slice Ao11 t602.length co11)) (fun _ h_ => h_.1)))) (Kd.R_base ho0) hb); have n1_ := am (Kd.R_lower (Kd.R_new' ho0 (Kd.R_lt (rq ((Kd.R_mono (Kd.R_far (p := ⟨gb601, 0, none⟩) (Kd.R_types HO604.out BK601.out (by decide)) (fun _ hk => hk.2) (.slice Ao11 t602.length co11)) (fun _ h_ => h_.1)))))) (below_size (hs HB.out))); have n2_ := am (blk_below (g := gb599) (o := .cells #[.slice A0_0 l0_0.length c0_0, .slice A0_1 l0_1.length c0_1] 44 (0, 0)) (by refine bq ?_; refine blk_far ?_ NB599_601.out _; refine bq ?_; exact BK599.out) hb); have n3_ := am (blk_below (g := gb600) (o := .cells #[.slice none 0 0, .slice none 0 0] 47 (0, 0)) (by refine bq ?_; refine blk_far ?_ NB600_601.out _; refine bq ?_; exact BK600.out) hb); have n4_ := am (blk_below (g := gb601) (o := .cells #[.slice Ao11 t602.length co11, .slice none 0 0] 47 (0, 0)) (by refine bq ?_; refine blk_put (cs := #[.slice none 0 0, .slice none 0 0]) ?_ 0 _ rfl; refine bq ?_; exact BK601.out) hb); have n5_ := am (below_step (hs HB.out) hb); clear HO604 BK599 BK600 BK601 HB; revert n0_ n1_ n2_ n3_ n4_ n5_; intro HO604 HO607 BK599 BK600 BK601 HB; (try clear hb); (try clear hb2); (try clear hgw); (try clear hk); (try clear hi); (try clear ho0); obtain ⟨Ao16, co16, eo16⟩ := Kd.R_slice HO607.out; subst eo16; have hcz17_0 : w15.cell? ⟨gb601, 0, none⟩ = some (.slice Ao11 t602.length co11) := (blk_cell BK601.out 0).trans rfl; have hcz17_1 : w15.cell? ⟨gb601, 1, none⟩ = some (.slice none 0 0) := (blk_cell BK601.out 1).trans rfl; have hfz17_0 := blk_frozen BK601.out 0; have hfz17_1 := blk_frozen BK601.out 1; have hcz18_0 : w15.cell? ⟨gb600, 0, none⟩ = some (.slice none 0 0) := (blk_cell BK600.out 0).trans rfl; have hcz18_1 : w15.cell? ⟨gb600, 1, none⟩ = some (.slice none 0 0) := (blk_cell BK600.out 1).trans rfl; have hfz18_0 := blk_frozen BK600.out 0; have hfz18_1 := blk_frozen BK600.out 1))
  refine bodyPost_ret (results_cell_row rfl _ _ gb600 47 #[.slice Ao11 t602.length co11, .slice Ao16 t605.length co16] (0, 0) _ rfl (by refine bq ?_; refine blk_put (cs := #[.slice Ao11 t602.length co11, .slice none 0 0]) ?_ 1 _ rfl; refine bq ?_; refine blk_put (cs := #[.slice none 0 0, .slice none 0 0]) ?_ 0 _ rfl; refine bq ?_; refine blk_far ?_ NB600_601.out _; refine bq ?_; exact BK600.out) Tryd.underlying47 rfl (by kernel_rfl)) rfl ?_
  exact ⟨_, _, by first | rfl | (simp [errW_none, errW_some] <;> rfl) | (simp [*, errW_none, errW_some] <;> rfl), by (with_reducible repeat (first | apply Kd.R_alloc | apply Kd.R_drewN | apply Kd.R_drew)); exact Kd.R_mono (Kd.R_far (p := ⟨gb600, 1, none⟩) (Kd.R_far (p := ⟨gb600, 0, none⟩) (Kd.R_far (p := ⟨gb601, 1, none⟩) (Kd.R_types (Kd.R_types HO604.out BK601.out (by decide)) BK600.out (by decide)) (fun _ hk => hk.1.2) (.slice Ao16 t605.length co16)) (fun _ hk => hk.2) (.slice Ao11 t602.length co11)) (fun _ hk => hk.2) (.slice Ao16 t605.length co16)) (fun _ hk => hk.1.1.2), by (with_reducible repeat (first | apply Kd.R_alloc | apply Kd.R_drewN | apply Kd.R_drew)); exact Kd.R_mono (Kd.R_far (p := ⟨gb600, 1, none⟩) (Kd.R_far (p := ⟨gb600, 0, none⟩) (Kd.R_far (p := ⟨gb601, 1, none⟩) (Kd.R_types (Kd.R_types HO607.out BK601.out (by decide)) BK600.out (by decide)) (fun _ hk => hk.1.2) (.slice Ao16 t605.length co16)) (fun _ hk => hk.2) (.slice Ao11 t602.length co11)) (fun _ hk => hk.2) (.slice Ao16 t605.length co16)) (fun _ hk => hk.1.1.2), by exact hs HB.out⟩
def cmp_Or_int64.l0 : Nat → Int → List Int → Int → Int → Option (Int)
  | 0, _, _, _, _ => none
  | k + 1, x3, x6, x7, x8 => if x8 < x7 then (if 0 ≤ x8 then (if x8 < (x6.length : Int) then (if (rd x6 x8) = x3 then (cmp_Or_int64.l0 k x3 x6 x7 (wrap64 (x8 + 1))) else (some (rd x6 x8))) else (none)) else (none)) else (some x3)
def cmp_Or_int64.f (k : Nat) (l0 : List Int) : Option (Int) := cmp_Or_int64.l0 k 0 l0 (l0.length : Int) 0
set_option maxHeartbeats 8000000 in
set_option maxRecDepth 100000 in
theorem cmp_Or_int64.calls (k : Nat) (A0 : Option Addr) (c0 : Nat) (l0 : List Int) (r : Int) (w : World) (hr0 : Kd.C (Kd.int .i64) w A0 l0.length l0) (hc0 : l0.length ≤ c0) (h : cmp_Or_int64.f k l0 = some r) :
    Calls Tryd.prog 97 #[.slice A0 l0.length c0] w fun e w' => e = .returned (.int .i64 r) ∧ Drawn0 w w' := by
  have HR0 := am hr0
  have HC0 := am hc0
  clear hr0 hc0
  have H : (cmp_Or_int64.l0 k 0 l0 (l0.length : Int) 0) = some r := h
  clear h
  have H' := am H
  clear H
  go_enter Tryd.func97, Tryd.ntmps97
  go_wp2
  go_loopg [8] k (fun kq v8 w' => ∃ (x8_1 : Int), v8 = .int .i64 x8_1 ∧ Aside0 (cmp_Or_int64.l0 kq 0 l0 (l0.length : Int) x8_1 = some r) ∧ Aside0 (kq ≤ k) ∧ Drawn0 w w')
  case atStart => exact ⟨(0), (by first | rfl | (simp; done) | (simp [*]; done)), H', ⟨Nat.le_refl _⟩, by repeat (first | exact Drawn0.refl _ | apply Drawn0.step)⟩
  case round =>
    clear H'
    obtain ⟨x8_1, rfl, HA, HK1, ⟨m1, rfl⟩⟩ := hrel
    cases gk with
    | zero => exact absurd HA.out (by simp [cmp_Or_int64.l0])
    | succ k1 =>
      have H := HA.out
      clear HA
      simp only [cmp_Or_int64.l0] at H
      by_cases c2 : x8_1 < (l0.length : Int)
      · rw [if_pos c2] at H
        have c2b0 : decide (x8_1 < (l0.length : Int)) = true := decide_eq_true c2
        clear c2
        by_cases c3 : 0 ≤ x8_1
        · rw [if_pos c3] at H
          have c3b0 : decide (0 ≤ x8_1) = true := decide_eq_true c3
          clear c3
          by_cases c4 : x8_1 < (l0.length : Int)
          · rw [if_pos c4] at H
            have c4b0 : decide (x8_1 < (l0.length : Int)) = true := decide_eq_true c4
            clear c4
            by_cases c5 : (rd l0 x8_1) = 0
            · rw [if_pos c5] at H
              have c5b0 : ((rd l0 x8_1) == 0) = true := beq_iff_eq.mpr c5
              have c5b1 : ((rd l0 x8_1) != 0) = false := bne_eq_false_iff_eq.mpr c5
              clear c5
              have H' := am H
              clear H
              have p608 : 0 ≤ (x8_1 : Int) := of_decide_eq_true (by first | (with_reducible assumption) | assumption)
              have q608 : x8_1 < (l0.length : Int) := of_decide_eq_true (by first | (with_reducible assumption) | assumption)
              obtain ⟨ad608, e608, hx608_0⟩ := Kd.at_int HR0.out x8_1 p608 q608
              cases e608
              replace p608 := eq_true p608
              replace q608 := eq_true q608
              go_wp2
              go_roundg k1
              case measure => have := HK1.out; omega
              case rel => exact ⟨(wrap64 (x8_1 + 1)), (by first | rfl | (simp; done) | (simp [*]; done)), H', ⟨by have := HK1.out; omega⟩, by repeat (first | exact Drawn0.refl _ | apply Drawn0.step)⟩
            · rw [if_neg c5] at H
              have c5b0 : ((rd l0 x8_1) == 0) = false := beq_eq_false_iff_ne.mpr c5
              have c5b1 : ((rd l0 x8_1) != 0) = true := bne_iff_ne.mpr c5
              obtain rfl := Option.some.inj H
              have p608 : 0 ≤ (x8_1 : Int) := of_decide_eq_true (by first | (with_reducible assumption) | assumption)
              have q608 : x8_1 < (l0.length : Int) := of_decide_eq_true (by first | (with_reducible assumption) | assumption)
              obtain ⟨ad608, e608, hx608_0⟩ := Kd.at_int HR0.out x8_1 p608 q608
              cases e608
              replace p608 := eq_true p608
              replace q608 := eq_true q608
              go_wp2
              go_ret
              exact ⟨by first | rfl | (simp; done) | (simp [*]; done), by repeat (first | exact Drawn0.refl _ | apply Drawn0.step)⟩
          · rw [if_neg c4] at H
            exact absurd H (by simp)
        · rw [if_neg c3] at H
          exact absurd H (by simp)
      · rw [if_neg c2] at H
        have c2b0 : decide (x8_1 < (l0.length : Int)) = false := decide_eq_false c2
        clear c2
        obtain rfl := Option.some.inj H
        go_wp2
        go_ret
        exact ⟨by first | rfl | (simp; done) | (simp [*]; done), by repeat (first | exact Drawn0.refl _ | apply Drawn0.step)⟩
def impl_firstCode.f (k : Nat) (l0 : List Int) : Option (Int) := (cmp_Or_int64.f k l0).bind fun t609 => (some t609)
set_option maxHeartbeats 8000000 in
set_option maxRecDepth 100000 in
theorem impl_firstCode.calls (k : Nat) (A0 : Option Addr) (c0 : Nat) (l0 : List Int) (r : Int) (w : World) (hr0 : Kd.C (Kd.int .i64) w A0 l0.length l0) (hc0 : l0.length ≤ c0) (h : impl_firstCode.f k l0 = some r) :
    Calls Tryd.prog 60 #[.slice A0 l0.length c0] w fun e w' => e = .returned (.int .i64 r) ∧ Below w.heap.size w w' := by
  have HR0 := am hr0
  have HC0 := am hc0
  clear hr0 hc0
  have HB := am (Below.refl w.heap.size w)
  have H : ((cmp_Or_int64.f k l0).bind fun t609 => (some t609)) = some r := h
  clear h
  replace H := Option.bind_eq_some_iff.mp H
  obtain ⟨t609, A20, H⟩ := H
  replace H : (some t609) = some r := H
  have A2 := am A20
  clear A20
  obtain rfl := Option.some.inj H
  go_enter Tryd.func60, Tryd.ntmps60
  go_wp2_with (first | ((with_reducible refine gate_callee (f := 97) rfl ?_); refine goesL_ (some 4) rfl rfl Tryd.func97 (by kernel_rfl) rfl #[.slice A0 l0.length c0] rfl el ?_; (with_reducible refine (cmp_Or_int64.calls k _ _ l0 t609 _ ?side1 ?side2 A2.out).mono ?_); (case side1 => exact cq HR0.out); (case side2 => exact HC0.out); rintro e w' ⟨rfl, ⟨nd, rfl⟩⟩; refine ⟨_, rfl, ?_⟩))
  go_ret
  exact ⟨by first | rfl | (simp [errW_none, errW_some] <;> rfl) | (simp [*, errW_none, errW_some] <;> rfl), by exact hq HB.out⟩
def slices_Clone_int64_int64.f (l0 : List Int) : Option (List Int) := if l0.length < 17592186044416 then some l0 else none
set_option maxHeartbeats 8000000 in
set_option maxRecDepth 100000 in
theorem slices_Clone_int64_int64.calls (A0 : Option Addr) (c0 : Nat) (l0 : List Int) (r : List Int) (w : World) (hr0 : Kd.C (Kd.int .i64) w A0 l0.length l0) (hc0 : l0.length ≤ c0) (h : slices_Clone_int64_int64.f l0 = some r) :
    Calls Tryd.prog 116 #[.slice A0 l0.length c0] w fun e w' => ∃ v0_ : Value, e = .returned (v0_) ∧ Kd.R (Kd.int .i64) 2 w' w.heap.size (fun _ => True) v0_ r ∧ Below w.heap.size w w' := by
  unfold slices_Clone_int64_int64.f at h
  by_cases c2 : l0.length < 17592186044416
  case neg => rw [if_neg c2] at h; cases h
  rw [if_pos c2] at h
  obtain rfl := Option.some.inj h
  have q_ : ∀ (w : World) (a : Option Addr) (n c n' c' : Nat), (binOp .eql 27 (.slice a n c) (.slice none n' c')).run Tryd.prog w = .ok (.bool a.isNone) w := fun w a n c n' c' => Lib.run_eql_slice_nil w _ _ a n c n' c' Tryd.underlying27
  cases A0 with
  | none =>
    have h0 : l0 = [] := by
      rcases Nat.eq_zero_or_pos l0.length with h | h
      · exact List.eq_nil_of_length_eq_zero h
      · obtain ⟨ad, e, _⟩ := hr0.2.2 h
        cases e
    subst h0
    go_enter Tryd.func116, Tryd.ntmps116
    go_wp2
    go_ret
    exact ⟨_, rfl, Kd.R_nil _ _ _ _ _, Below.refl _ _⟩
  | some ad =>
    have HR0 := am hr0
    have HC0 := am hc0
    clear hr0 hc0 h
    have HB := am (Below.refl w.heap.size w)
    have LMc2 := am c2
    clear c2
    obtain ⟨y0_, hy0_⟩ : ∃ y_ : List Int, y_ = ([] : List Int) := ⟨_, rfl⟩
    have Ny0_ := am hy0_
    clear hy0_
    obtain ⟨y1_, hy1_⟩ : ∃ y_ : List Int, y_ = y0_ ++ l0 := ⟨_, rfl⟩
    have Ny1_ := am hy1_
    have Nz_ := am (show y1_ = l0 by rw [hy1_, Ny0_.out]; rfl)
    clear hy1_
    go_enter Tryd.func116, Tryd.ntmps116
    go_wp2_with (first | ((with_reducible refine gate_dst (N := 5) rfl ?_); refine Kd.R_lit (Kd.int .i64) _ 2 ?hg (N := 5) ?hd (xs := ([] : List Int)) (inner := []) (ok := fun _ => True) (okp := fun _ => True) ?hr ?hp (fun _ hk => hk) trivial (Below.refl _ _) (Nat.le_refl _) (by simp) ?_; (case hd => rfl); (case hg => rfl); (case hr => first | (go_simp; done) | (go_simp; rfl)); (case hp => exact (Reps.none _ _)); intro v467 w3 ho4 hb hg_ hnew_; clear hg_ hnew_; (first | rw [← Ny0_.out] at ho4 | (simp only [Int.reduceToNat] at ho4; rw [← Ny0_.out] at ho4)); have n0_ := am (Kd.R_lower ho4 (below_size (hq HB.out))); have n1_ := am (below_step (hq HB.out) hb); clear HB; revert n0_ n1_; intro HO468 HB; clear hb ho4) | ((with_reducible refine gate_builtin (b := .append) (xs := #[.tmp 5, .tmp 6]) rfl ?_); at_builtin; refine Kd.R_append_rows (Kd.int .i64) (w0 := w) w.heap.size rfl (.tmp 5) (.tmp 6) 27 2 (.int .i64 0) 8 rfl Tryd.underlying27 info2 rfl (by decide) (by omega) v467 y0_ l0 _ _ _ (fun _ => True) (fun _ => False) rfl rfl ?aO ?aR (fun _ _ h => h) (fun _ h => h.elim) ?aF ?aB ?aS ?aL ?_; (case aR => exact cq (Kd.C_below HR0.out HB.out)); (case aB => exact (hq HB.out)); (case aF => exact (fun _ _ => trivial)); (case aO => exact (rq HO468.out)); (case aS => exact (below_size (hq HB.out))); (case aL => have := LMc2.out; rw [Ny0_.out, List.length_nil]; omega); intro v470 w5 ho hb hg hat; rw [← Ny1_.out] at ho; have n0_ := am (hb); have n1_ := am (ho); clear HB HO468; revert n0_ n1_; intro HB HO471; clear ho hb hg hat))
    go_ret
    exact ⟨_, rfl, by rw [← Nz_.out]; (with_reducible repeat (first | apply Kd.R_alloc | apply Kd.R_drewN | apply Kd.R_drew)); exact HO471.out, by exact hq HB.out⟩
def impl_ownEquation.f (l0_0 : List Int) (l0_1 : List Int) : Option (List Int × List Int) := (slices_Clone_int64_int64.f l0_0).bind fun t612 => ((slices_Clone_int64_int64.f l0_1).bind fun t615 => (some (t612, t615)))
def impl_ownEquation.T1 : Bool × List (List Nat × List Nat) := (true, [([], []), ([0], [0]), ([1], [1]), ([], []), ([3], [3]), ([4, 2], [4]), ([2, 5], [2, 5]), ([6, 5, 0, 1, 2, 3, 4, 5, 6], [6])])
def impl_ownEquation.B1 : List Nat := [0, 1, 3, 0, 8, 31, 63, 127]
theorem impl_ownEquation.tab1 : rtab .any (opsOf Tryd.f98 1) = impl_ownEquation.T1 := by kernel_rfl
theorem impl_ownEquation.bits1 : waitsOk impl_ownEquation.T1.2 impl_ownEquation.B1 = true := by kernel_rfl
set_option maxHeartbeats 8000000 in
set_option maxRecDepth 100000 in
theorem impl_ownEquation.calls (A0_0 : Option Addr) (c0_0 : Nat) (l0_0 : List Int) (A0_1 : Option Addr) (c0_1 : Nat) (l0_1 : List Int) (r1 : List Int) (r2 : List Int) (w : World) (hr0_0 : Kd.C (Kd.int .i64) w A0_0 l0_0.length l0_0) (hc0_0 : l0_0.length ≤ c0_0) (hr0_1 : Kd.C (Kd.int .i64) w A0_1 l0_1.length l0_1) (hc0_1 : l0_1.length ≤ c0_1) (h : impl_ownEquation.f l0_0 l0_1 = some (r1, r2)) :
    Calls Tryd.prog 98 #[.agg #[.slice A0_0 l0_0.length c0_0, .slice A0_1 l0_1.length c0_1]] w fun e w' => ∃ v0_ v1_ : Value, e = .returned (.agg #[v0_, v1_]) ∧ Kd.R (Kd.int .i64) 2 w' w.heap.size (fun k_ => some k_ ≠ (v1_ : Value).ownBlock) v0_ r1 ∧ Kd.R (Kd.int .i64) 2 w' w.heap.size (fun k_ => some k_ ≠ (v0_ : Value).ownBlock) v1_ r2 ∧ Below w.heap.size w w' := by
  have hu47 := Tryd.underlying47
  have HR0_0 := am hr0_0
  have HC0_0 := am hc0_0
  clear hr0_0 hc0_0
  have HR0_1 := am hr0_1
  have HC0_1 := am hc0_1
  clear hr0_1 hc0_1
  have HB := am (Below.refl w.heap.size w)
  have H : ((slices_Clone_int64_int64.f l0_0).bind fun t612 => ((slices_Clone_int64_int64.f l0_1).bind fun t615 => (some (t612, t615)))) = some (r1, r2) := h
  clear h
  replace H := Option.bind_eq_some_iff.mp H
  obtain ⟨t612, A20, H⟩ := H
  replace H : ((slices_Clone_int64_int64.f l0_1).bind fun t615 => (some (t612, t615))) = some (r1, r2) := H
  have A2 := am A20
  clear A20
  replace H := Option.bind_eq_some_iff.mp H
  obtain ⟨t615, A30, H⟩ := H
  replace H : (some (t612, t615)) = some (r1, r2) := H
  have A3 := am A30
  clear A30
  simp only [Option.some.injEq, Prod.mk.injEq] at H
  obtain ⟨rfl, rfl⟩ := H
  go_enter Tryd.func98, Tryd.ntmps98
  try go_wp2_with (first | ((with_reducible refine gate_dst (N := 1) rfl ?_); refine box_event ?hg (N := 1) ?hd (cs := #[.slice A0_0 l0_0.length c0_0, .slice A0_1 l0_1.length c0_1]) (t := 47) ?hr ?_; (case hd => rfl); (case hg => rfl); (case hr => first | (go_simp; done) | (go_simp; rfl)); intro gb610 hg w4 hbox hb; have n0_ := am (below_step (hq HB.out) hb); have n1_ := am (hbox); have n2_ := am (bz hg (hq HB.out)); have n3_ := n2_; clear HB; revert n0_ n1_ n2_ n3_; intro HB BK610 GW610 GE610; clear hb hbox hg) | ((with_reducible refine gate_dst (N := 2) rfl ?_); refine box_event ?hg (N := 2) ?hd (cs := #[.slice none 0 0, .slice none 0 0]) (t := 47) ?hr ?_; (case hd => rfl); (case hg => rfl); (case hr => first | (go_simp; done) | (go_simp; rfl)); intro gb611 hg w5 hbox hb; have n0_ := am (blk_below (bq BK610.out) hb); have n1_ := am (below_step (hs HB.out) hb); have n2_ := am (hbox); have n3_ := am (bz hg (hs HB.out)); have n4_ := n3_; have n5_ := am ((by rw [hg]; exact Nat.ne_of_lt (blk_lt (bq BK610.out)) : gb610 ≠ gb611)); have n6_ := am ((by rw [hg]; exact Nat.ne_of_gt (blk_lt (bq BK610.out)) : gb611 ≠ gb610)); clear BK610 HB; revert n0_ n1_ n2_ n3_ n4_ n5_ n6_; intro BK610 HB BK611 GW611 GE611 NB610_611 NB611_610; clear hb hbox hg))
  have n0_ := am (blk_drew BK610.out)
  have n1_ := am (blk_drew BK611.out)
  have n2_ := am (below_drew1 HB.out)
  clear BK610 BK611 HB; revert n0_ n1_ n2_; intro BK610 BK611 HB
  refine start_ (n := 8) (S := fun w' => w'.cell? ⟨gb610, 0, none⟩ = some (.slice A0_0 l0_0.length c0_0) ∧ w'.cell? ⟨gb610, 1, none⟩ = some (.slice A0_1 l0_1.length c0_1)) (ds := []) #[false, false, false, false, false, false, false, false] (by kernel_rfl) rfl rfl ⟨(blk_cell BK610.out 0).trans rfl, (blk_cell BK610.out 1).trans rfl⟩ (fun hHeld => ?_); refine with_tabW impl_ownEquation.tab1 impl_ownEquation.bits1 (fun HT_ HW_ => ?_)
  generalize w5.drew = w6 at BK610 BK611 HB hHeld ⊢
  refine pure_ (i := 0) (N := some 3) (v := ?_) (a' := ?_) #[true, false, false, false, false, false, false, false] rfl rfl (any_of HT_.out (by kernel_rfl)) (fun _ _ _ h => h) (Or.inl ⟨by rfl, ?_⟩) ?_ ?_
  rotate_left
  · intro w'
    go_simp
    with_reducible rfl
  rotate_left
  · simp only [Act.put, lsp, i64_w, i32_w]
    rfl
  refine pure_ (i := 3) (N := some 6) (v := ?_) (a' := ?_) #[true, false, false, true, false, false, false, false] rfl rfl (any_of HT_.out (by kernel_rfl)) (fun _ _ _ h => h) (Or.inl ⟨by rfl, ?_⟩) ?_ ?_
  rotate_left
  · intro w'
    go_simp
    with_reducible rfl
  rotate_left
  · simp only [Act.put, lsp, i64_w, i32_w]
    rfl
  refine take_ (i := 1) (N := some 4) (v := ?_) (a' := ?_) #[true, true, false, true, false, false, false, false] rfl rfl (take_ofW HT_.out HW_.out (by kernel_rfl)) (fun _ _ _ h => h) (Or.inl ⟨by rfl, ?_⟩) hHeld ?_ ?_
  rotate_left
  · rintro w' ⟨s0, s1⟩
    go_simp
    with_reducible rfl
  rotate_left
  · simp only [Act.put, lsp, i64_w, i32_w]
    rfl
  refine take_ (i := 4) (N := some 7) (v := ?_) (a' := ?_) #[true, true, false, true, true, false, false, false] rfl rfl (take_ofW HT_.out HW_.out (by kernel_rfl)) (fun _ _ _ h => h) (Or.inl ⟨by rfl, ?_⟩) hHeld ?_ ?_
  rotate_left
  · rintro w' ⟨s0, s1⟩
    go_simp
    with_reducible rfl
  rotate_left
  · simp only [Act.put, lsp, i64_w, i32_w]
    rfl
  refine one_ (i := 2) (N := some 5) #[true, true, true, true, true, false, false, false] rfl rfl (one_of HT_.out (by kernel_rfl)) (by decide) (fun K hK => ?_)
  refine goes_ Tryd.func116 (by kernel_rfl) rfl #[.slice A0_0 l0_0.length c0_0] (by rfl) rfl rfl el ?_
  with_reducible refine (slices_Clone_int64_int64.calls _ _ l0_0 t612 _ ?side1 ?side2 A2.out).mono ?_
  (case side1 => exact cq (Kd.C_below HR0_0.out HB.out))
  (case side2 => exact HC0_0.out)
  rintro e w7 ⟨v613, rfl, ho0, hb⟩
  refine ⟨_, rfl, ?_⟩
  have n0_ := am (Kd.R_lower ho0 (below_size (hs HB.out)))
  have n1_ := am (blk_below (bq BK610.out) hb)
  have n2_ := am (blk_below (bq BK611.out) hb)
  have n3_ := am (below_step (hs HB.out) hb)
  clear BK610 BK611 HB; revert n0_ n1_ n2_ n3_; intro HO614 BK610 BK611 HB
  (try clear hb)
  (try clear hb2)
  (try clear hgw)
  (try clear hk)
  (try clear hi)
  (try clear ho0)
  refine hK.out _ _ ⟨(blk_cell BK610.out 0).trans rfl, (blk_cell BK610.out 1).trans rfl⟩ (fun hHeld => ?_)
  clear hK K
  refine norm_ (a' := ?_) ?_ ?_
  rotate_left
  · show Act.put _ (some 5) _ = _
    simp only [Act.put, lsp, i64_w, i32_w]
    rfl
  refine one_ (i := 5) (N := some 8) #[true, true, true, true, true, true, false, false] rfl rfl (one_of HT_.out (by kernel_rfl)) (by decide) (fun K hK => ?_)
  refine goes_ Tryd.func116 (by kernel_rfl) rfl #[.slice A0_1 l0_1.length c0_1] (by rfl) rfl rfl el ?_
  with_reducible refine (slices_Clone_int64_int64.calls _ _ l0_1 t615 _ ?side1 ?side2 A3.out).mono ?_
  (case side1 => exact cq (Kd.C_below HR0_1.out HB.out))
  (case side2 => exact HC0_1.out)
  rintro e w8 ⟨v616, rfl, ho0, hb⟩
  refine ⟨_, rfl, ?_⟩
  have n0_ := am (Kd.R_elder' (rq HO614.out) (Kd.R_base ho0) hb)
  have n1_ := am (Kd.R_lower (Kd.R_new' ho0 (Kd.R_lt (rq HO614.out))) (below_size (hs HB.out)))
  have n2_ := am (blk_below (bq BK610.out) hb)
  have n3_ := am (blk_below (bq BK611.out) hb)
  have n4_ := am (below_step (hs HB.out) hb)
  clear HO614 BK610 BK611 HB; revert n0_ n1_ n2_ n3_ n4_; intro HO614 HO617 BK610 BK611 HB
  (try clear hb)
  (try clear hb2)
  (try clear hgw)
  (try clear hk)
  (try clear hi)
  (try clear ho0)
  obtain ⟨Ao9, co9, eo9⟩ := Kd.R_slice HO617.out
  (first | subst eo9 | (injection eo9 with f1_ f2_ f3_; have f4_ := f1_.symm; have f5_ := f3_.symm; clear f1_ f2_ f3_; subst f4_; subst f5_))
  obtain ⟨Ao10, co10, eo10⟩ := Kd.R_slice HO614.out
  (first | subst eo10 | (injection eo10 with f1_ f2_ f3_; have f4_ := f1_.symm; have f5_ := f3_.symm; clear f1_ f2_ f3_; subst f4_; subst f5_))
  refine hK.out _ _ ⟨(blk_cell BK610.out 0).trans rfl, (blk_cell BK610.out 1).trans rfl⟩ (fun hHeld => ?_)
  clear hK K
  refine norm_ (a' := ?_) ?_ ?_
  rotate_left
  · show Act.put _ (some 8) _ = _
    simp only [Act.put, lsp, i64_w, i32_w]
    rfl
  refine pure_ (i := 6) (N := some 9) (v := ?_) (a' := ?_) #[true, true, true, true, true, true, true, false] rfl rfl (any_of HT_.out (by kernel_rfl)) (fun _ _ _ h => h) (Or.inl ⟨by rfl, ?_⟩) ?_ ?_
  rotate_left
  · intro w'
    go_simp
    with_reducible rfl
  rotate_left
  · simp only [Act.put, lsp, i64_w, i32_w]
    rfl
  refine one_ (i := 7) (N := none) #[true, true, true, true, true, true, true, true] rfl rfl (one_of HT_.out (by kernel_rfl)) (by decide) (fun K hK => ?_)
  have hs11 : w8.cell? ⟨gb611, 0, none⟩ = some (.slice none 0 0) := (blk_cell BK611.out 0).trans rfl
  have hfs11 := blk_frozen BK611.out 0
  have hns11_0 := NB610_611.out
  have hms11_0 := NB611_610.out
  have hs12 : w8.cell? ⟨gb611, 1, none⟩ = some (.slice none 0 0) := (blk_cell BK611.out 1).trans rfl
  have hfs12 := blk_frozen BK611.out 1
  have hns12_0 := NB610_611.out
  have hms12_0 := NB611_610.out
  refine skip_ (w1 := ?_) (by rfl) rfl ?_ ?_
  rotate_left
  · go_simp
    rfl
  refine hK.out _ _ ⟨((cell_far (p := ⟨gb611, _, none⟩) NB610_611.out _).trans (((cell_far (p := ⟨gb611, _, none⟩) NB610_611.out _).trans (hHeld.1)))), ((cell_far (p := ⟨gb611, _, none⟩) NB610_611.out _).trans (((cell_far (p := ⟨gb611, _, none⟩) NB610_611.out _).trans (hHeld.2))))⟩ (fun hHeld => ?_)
  clear hK K
  refine done_ (done_of HT_.out (by kernel_rfl)) ?_
  try go_wp2
  refine bodyPost_ret (results_cell_row rfl _ _ gb611 47 #[.slice Ao10 t612.length co10, .slice Ao9 t615.length co9] (0, 0) _ rfl (by refine bq ?_; refine blk_put (cs := #[.slice Ao10 t612.length co10, .slice none 0 0]) ?_ 1 _ rfl; refine bq ?_; refine blk_put (cs := #[.slice none 0 0, .slice none 0 0]) ?_ 0 _ rfl; refine bq ?_; exact BK611.out) Tryd.underlying47 rfl (by kernel_rfl)) rfl ?_
  exact ⟨_, _, by first | rfl | (simp [errW_none, errW_some] <;> rfl) | (simp [*, errW_none, errW_some] <;> rfl), by (with_reducible repeat (first | apply Kd.R_alloc | apply Kd.R_drewN | apply Kd.R_drew)); exact Kd.R_mono (Kd.R_far (p := ⟨gb611, 1, none⟩) (Kd.R_far (p := ⟨gb611, 0, none⟩) (Kd.R_types HO614.out BK611.out (by decide)) (fun _ hk => hk.2) (.slice Ao10 t612.length co10)) (fun _ hk => hk.2) (.slice Ao9 t615.length co9)) (fun _ hk => hk.1.2), by (with_reducible repeat (first | apply Kd.R_alloc | apply Kd.R_drewN | apply Kd.R_drew)); exact Kd.R_mono (Kd.R_far (p := ⟨gb611, 1, none⟩) (Kd.R_far (p := ⟨gb611, 0, none⟩) (Kd.R_types HO617.out BK611.out (by decide)) (fun _ hk => hk.2) (.slice Ao10 t612.length co10)) (fun _ hk => hk.2) (.slice Ao9 t615.length co9)) (fun _ hk => hk.1.2), by exact hs HB.out⟩
end Go.Proofs.YtcanokiehjjbgaaDoor.P
