/- A part of the proof of the law FnReplaces. -/
import Derived.Laws.StructEq
import Derived.Test.YtedkbpbodkmhlaaDoorCFnReplaces0
import Derived.Test.YtedkbpbodkmhlaaDoorCFnReplaces1
import Derived.Test.YtedkbpbodkmhlaaDoorCFnReplaces2
import Derived.Test.YtedkbpbodkmhlaaDoorCFnReplaces3
import Derived.Test.YtedkbpbodkmhlaaDoorCFnReplaces16
namespace Go.Proofs.YtedkbpbodkmhlaaDoor.P
open Go.RowKit Go.Proofs.YtedkbpbodkmhlaaDoorW.PrintWords Go.Proofs.YtedkbpbodkmhlaaDoorW.PrintLast Go.Proofs.YtedkbpbodkmhlaaDoorW.PrintMore
attribute [local go_sem] max2_int min2_int max_two min_two max_three min_three max_four min_four   -- for this text's walks alone
set_option linter.unusedVariables false
set_option linter.unusedSimpArgs false
def impl_TermFault.j0 : Nat → List Int → Bool → List (S99) → Option (Int)
 | 0, _, _, _ => none
 | k + 1, x1, x18, x697000 => if x18 = true then (some 2) else ((slices_ContainsFunc_int64_int64_impl_TermFault_1.f k x1 [(⟨x697000⟩ : S42)]).bind fun t698 => (if t698 = true then (some 3) else ((impl_endOf.f k x697000 x1 0).bind fun t699 => (if t699 = (x1.length : Int) then (some 0) else (some 1)))))
def impl_TermFault.f (k : Nat) (l0_0 : List (S99)) (l1 : List Int) : Option (Int) := (impl_SignatureFault.f k l0_0).bind fun t697 => (if t697 = 0 then (if (l1.length : Int) < 1 then (impl_TermFault.j0 k l1 true l0_0) else (impl_TermFault.j0 k l1 (decide ((l1.length : Int) > 24)) l0_0)) else (some t697))
set_option maxHeartbeats 8000000 in
set_option maxRecDepth 100000 in
theorem impl_TermFault.calls (k : Nat) (A0_0 : Option Addr) (c0_0 : Nat) (l0_0 : List (S99)) (A1 : Option Addr) (c1 : Nat) (l1 : List Int) (r : Int) (w : World) (hr0_0 : Kd.C k99 w A0_0 l0_0.length l0_0) (hc0_0 : l0_0.length ≤ c0_0) (hr1 : Kd.C (Kd.int .i64) w A1 l1.length l1) (hc1 : l1.length ≤ c1) (h : impl_TermFault.f k l0_0 l1 = some r) :
  Calls Tryd.prog 58 #[.agg #[.slice A0_0 l0_0.length c0_0], .slice A1 l1.length c1] w fun e w' => e = .returned (.int .i64 r) ∧ Below w.heap.size w w' := by
 have hu42 := Tryd.underlying42
 have HR0_0 := am hr0_0
 have HC0_0 := am hc0_0
 clear hr0_0 hc0_0
 have HR1 := am hr1
 have HC1 := am hc1
 clear hr1 hc1
 have HB := am (Below.refl w.heap.size w)
 have H : ((impl_SignatureFault.f k l0_0).bind fun t697 => (if t697 = 0 then (if (l1.length : Int) < 1 then (impl_TermFault.j0 k l1 true l0_0) else (impl_TermFault.j0 k l1 (decide ((l1.length : Int) > 24)) l0_0)) else (some t697))) = some r := h
 clear h
 replace H := Option.bind_eq_some_iff.mp H
 obtain ⟨t697, A30, H⟩ := H
 replace H : (if t697 = 0 then (if (l1.length : Int) < 1 then (impl_TermFault.j0 k l1 true l0_0) else (impl_TermFault.j0 k l1 (decide ((l1.length : Int) > 24)) l0_0)) else (some t697)) = some r := H
 have A3 := am A30
 clear A30
 by_cases c4 : t697 = 0
 ·rw [if_pos c4] at H
  have c4b0 : (t697 == 0) = true := beq_iff_eq.mpr c4
  have c4b1 : (t697 != 0) = false := bne_eq_false_iff_eq.mpr c4
  clear c4
  have HC5 := am H
  clear H
  go_enter Tryd.func58, Tryd.ntmps58
  go_upto_region 4 with (first | ((with_reducible refine gate_dst (N := 2) rfl ?_); (try (refine gate_guard (by rfl) ?_; dsimp only)); refine box_event ?hg (N := 2) ?hd (cs := #[.slice A0_0 l0_0.length c0_0]) (t := 42) ?hr ?_; (case hd => rfl); (case hg => rfl); (case hr => first | (go_simp; done) | (go_simp; rfl)); intro gb696 hg w6 hbox hb; have n0_ := am (below_step (hq HB.out) hb); have n1_ := am (hbox); have n2_ := am (bz hg (hq HB.out)); have n3_ := n2_; clear HB; revert n0_ n1_ n2_ n3_; intro HB BK696 GW696 GE696; clear hb hbox hg; have hcz7_0 : w6.cell? ⟨gb696, 0, none⟩ = some (.slice A0_0 l0_0.length c0_0) := (blk_cell BK696.out 0).trans rfl; have hfz7_0 := blk_frozen BK696.out 0) | ((with_reducible refine gate_callee (f := 77) rfl ?_); refine goesL_ (some 7) rfl rfl Tryd.func77 (by kernel_rfl) rfl #[.agg #[.slice A0_0 l0_0.length c0_0]] rfl el ?_; (with_reducible refine (impl_SignatureFault.calls k _ _ l0_0 t697 _ ?side1 ?side2 A3.out).mono ?_); (case side1 => exact cq (Kd.C_below HR0_0.out HB.out)); (case side2 => exact HC0_0.out); rintro e w8 ⟨rfl, hb⟩; refine ⟨_, rfl, ?_⟩; have n0_ := am (blk_below (bq BK696.out) hb); have n1_ := am (below_step (hs HB.out) hb); clear BK696 HB; revert n0_ n1_; intro BK696 HB; (try clear hb); (try clear hb2); (try clear hgw); (try clear hk); (try clear hi)))
  (try simp only [Act.put, lsp])
  go_cut [18] (fun v18 wc => ∃ (kq : Nat) (x18_4 : Bool), v18 = .bool x18_4 ∧ Aside0 (impl_TermFault.j0 kq l1 x18_4 l0_0 = some r) ∧ Aside0 (kq ≤ k) ∧ Aside0 (wc.heap[gb696]? = some (.cells #[(.slice A0_0 l0_0.length c0_0)] 42 (0, 0))) ∧ Aside0 (Below w.heap.size w wc))
  case first =>
   have H := HC5.out
   clear HC5
   by_cases c9 : (l1.length : Int) < 1
   ·rw [if_pos c9] at H
    have c9b0 : decide ((l1.length : Int) < 1) = true := decide_eq_true c9
    have c9b1 : decide (l1.length < 1) = true := decide_eq_true (by omega)
    clear c9
    (first | rw [c9b0] | (simp only [i64_w, i32_w]; rw [c9b0]) | skip)
    have H' := am H
    clear H
    go_wp2
    go_meet
    case rel => exact ⟨_, (true), (by first | rfl | (simp; done) | (simp [*]; done)), H', ⟨by first | omega | exact Nat.le_refl _⟩, ⟨by refine bq ?_; exact BK696.out⟩, ⟨by exact hs HB.out⟩⟩
   ·rw [if_neg c9] at H
    have c9b0 : decide ((l1.length : Int) < 1) = false := decide_eq_false c9
    have c9b1 : decide (l1.length < 1) = false := decide_eq_false (by omega)
    clear c9
    (first | rw [c9b0] | (simp only [i64_w, i32_w]; rw [c9b0]) | skip)
    have H' := am H
    clear H
    go_wp2
    go_meet
    case rel => exact ⟨_, (decide ((l1.length : Int) > 24)), (by first | rfl | (simp; done) | (simp [*]; done)), H', ⟨by first | omega | exact Nat.le_refl _⟩, ⟨by refine bq ?_; exact BK696.out⟩, ⟨by exact hs HB.out⟩⟩
  case rest =>
   clear HC5
   try clear c1
   try clear p2
   try clear c4
   try clear c4b0
   try clear c4b1
   try clear c5
   try clear c7
   try clear c9
   try clear c9b0
   try clear c9b1
   try clear hcz7_0
   try clear hfz7_0
   obtain ⟨kq, x18_4, rfl, HA, HJ4, BK696, HB⟩ := hcut
   cases kq with
   | zero => exact absurd HA.out (by simp [impl_TermFault.j0])
   | succ kj4 =>
    have H := HA.out
    clear HA
    simp only [impl_TermFault.j0] at H
    by_cases c10 : x18_4 = true
    ·subst c10
     have H1 : (some 2) = some r := by rw [if_pos rfl] at H; exact H
     clear H
     have H := H1
     clear H1
     obtain rfl := Option.some.inj H
     go_wp2
     go_ret
     exact ⟨by first | rfl | (simp [errW_none, errW_some] <;> rfl) | (simp [*, errW_none, errW_some] <;> rfl), by exact hs HB.out⟩
    ·replace c10 := Bool.eq_false_iff.mpr c10
     subst c10
     have H1 : ((slices_ContainsFunc_int64_int64_impl_TermFault_1.f kj4 l1 [(⟨l0_0⟩ : S42)]).bind fun t698 => (if t698 = true then (some 3) else ((impl_endOf.f kj4 l0_0 l1 0).bind fun t699 => (if t699 = (l1.length : Int) then (some 0) else (some 1))))) = some r := by rw [if_neg (show ¬ (false = true) by decide)] at H; exact H
     clear H
     have H := H1
     clear H1
     replace H := Option.bind_eq_some_iff.mp H
     obtain ⟨t698, A110, H⟩ := H
     replace H : (if t698 = true then (some 3) else ((impl_endOf.f kj4 l0_0 l1 0).bind fun t699 => (if t699 = (l1.length : Int) then (some 0) else (some 1)))) = some r := H
     have A11 := am A110
     clear A110
     by_cases c12 : t698 = true
     ·subst c12
      have H1 : (some 3) = some r := by rw [if_pos rfl] at H; exact H
      clear H
      have H := H1
      clear H1
      obtain rfl := Option.some.inj H
      go_wp2_with (first | ((with_reducible refine gate_callee (f := 92) rfl ?_); refine goesL_ (some 21) rfl rfl Tryd.func92 (by kernel_rfl) rfl #[.slice A1 l1.length c1, .func (.func 115) #[] #[.pointer (some ⟨gb696, 0, none⟩)]] rfl el ?_; (with_reducible refine (slices_ContainsFunc_int64_int64_impl_TermFault_1.calls kj4 _ _ l1 _ [(⟨l0_0⟩ : S42)] true _ ?side1 ?side2 ?side3 A11.out).mono ?_); (case side1 => exact cq (Kd.C_below HR1.out HB.out)); (case side2 => exact HC1.out); (case side3 => exact k42_box (bq BK696.out) (cq (Kd.C_below HR0_0.out HB.out)) (by exact HC0_0.out)); rintro e w13 ⟨rfl, hb⟩; refine ⟨_, rfl, ?_⟩; have n0_ := am (blk_below (bq BK696.out) hb); have n1_ := am (below_step (hs HB.out) hb); clear BK696 HB; revert n0_ n1_; intro BK696 HB; (try clear hb); (try clear hb2); (try clear hgw); (try clear hk); (try clear hi)))
      go_ret
      exact ⟨by first | rfl | (simp [errW_none, errW_some] <;> rfl) | (simp [*, errW_none, errW_some] <;> rfl), by exact hs HB.out⟩
     ·replace c12 := Bool.eq_false_iff.mpr c12
      subst c12
      have H1 : ((impl_endOf.f kj4 l0_0 l1 0).bind fun t699 => (if t699 = (l1.length : Int) then (some 0) else (some 1))) = some r := by rw [if_neg (show ¬ (false = true) by decide)] at H; exact H
      clear H
      have H := H1
      clear H1
      replace H := Option.bind_eq_some_iff.mp H
      obtain ⟨t699, A140, H⟩ := H
      replace H : (if t699 = (l1.length : Int) then (some 0) else (some 1)) = some r := H
      have A14 := am A140
      clear A140
      by_cases c15 : t699 = (l1.length : Int)
      ·rw [if_pos c15] at H
       have c15b0 : (t699 == (l1.length : Int)) = true := beq_iff_eq.mpr c15
       have c15b1 : (t699 != (l1.length : Int)) = false := bne_eq_false_iff_eq.mpr c15
       clear c15
       obtain rfl := Option.some.inj H
       go_wp2_with (first | ((with_reducible refine gate_callee (f := 92) rfl ?_); refine goesL_ (some 21) rfl rfl Tryd.func92 (by kernel_rfl) rfl #[.slice A1 l1.length c1, .func (.func 115) #[] #[.pointer (some ⟨gb696, 0, none⟩)]] rfl el ?_; (with_reducible refine (slices_ContainsFunc_int64_int64_impl_TermFault_1.calls kj4 _ _ l1 _ [(⟨l0_0⟩ : S42)] false _ ?side1 ?side2 ?side3 A11.out).mono ?_); (case side1 => exact cq (Kd.C_below HR1.out HB.out)); (case side2 => exact HC1.out); (case side3 => exact k42_box (bq BK696.out) (cq (Kd.C_below HR0_0.out HB.out)) (by exact HC0_0.out)); rintro e w16 ⟨rfl, hb⟩; refine ⟨_, rfl, ?_⟩; have n0_ := am (blk_below (bq BK696.out) hb); have n1_ := am (below_step (hs HB.out) hb); clear BK696 HB; revert n0_ n1_; intro BK696 HB; (try clear hb); (try clear hb2); (try clear hgw); (try clear hk); (try clear hi); have hcz17_0 : w16.cell? ⟨gb696, 0, none⟩ = some (.slice A0_0 l0_0.length c0_0) := (blk_cell BK696.out 0).trans rfl; have hfz17_0 := blk_frozen BK696.out 0) | ((with_reducible refine gate_callee (f := 117) rfl ?_); refine goesL_ (some 24) rfl rfl Tryd.func117 (by kernel_rfl) rfl #[.agg #[.slice A0_0 l0_0.length c0_0], .slice A1 l1.length c1, .int .i64 0] rfl el ?_; (with_reducible refine (impl_endOf.calls kj4 _ _ l0_0 _ _ l1 0 t699 _ ?side1 ?side2 ?side3 ?side4 A14.out).mono ?_); (case side1 => exact cq (Kd.C_below HR0_0.out HB.out)); (case side2 => exact HC0_0.out); (case side3 => exact cq (Kd.C_below HR1.out HB.out)); (case side4 => exact HC1.out); rintro e w18 ⟨rfl, hb⟩; refine ⟨_, rfl, ?_⟩; have n0_ := am (blk_below (bq BK696.out) hb); have n1_ := am (below_step (hs HB.out) hb); clear BK696 HB; revert n0_ n1_; intro BK696 HB; (try clear hb); (try clear hb2); (try clear hgw); (try clear hk); (try clear hi)))
       go_ret
       exact ⟨by first | rfl | (simp [errW_none, errW_some] <;> rfl) | (simp [*, errW_none, errW_some] <;> rfl), by exact hs HB.out⟩
      ·rw [if_neg c15] at H
       have c15b0 : (t699 == (l1.length : Int)) = false := beq_eq_false_iff_ne.mpr c15
       have c15b1 : (t699 != (l1.length : Int)) = true := bne_iff_ne.mpr c15
       obtain rfl := Option.some.inj H
       go_wp2_with (first | ((with_reducible refine gate_callee (f := 92) rfl ?_); refine goesL_ (some 21) rfl rfl Tryd.func92 (by kernel_rfl) rfl #[.slice A1 l1.length c1, .func (.func 115) #[] #[.pointer (some ⟨gb696, 0, none⟩)]] rfl el ?_; (with_reducible refine (slices_ContainsFunc_int64_int64_impl_TermFault_1.calls kj4 _ _ l1 _ [(⟨l0_0⟩ : S42)] false _ ?side1 ?side2 ?side3 A11.out).mono ?_); (case side1 => exact cq (Kd.C_below HR1.out HB.out)); (case side2 => exact HC1.out); (case side3 => exact k42_box (bq BK696.out) (cq (Kd.C_below HR0_0.out HB.out)) (by exact HC0_0.out)); rintro e w19 ⟨rfl, hb⟩; refine ⟨_, rfl, ?_⟩; have n0_ := am (blk_below (bq BK696.out) hb); have n1_ := am (below_step (hs HB.out) hb); clear BK696 HB; revert n0_ n1_; intro BK696 HB; (try clear hb); (try clear hb2); (try clear hgw); (try clear hk); (try clear hi); have hcz20_0 : w19.cell? ⟨gb696, 0, none⟩ = some (.slice A0_0 l0_0.length c0_0) := (blk_cell BK696.out 0).trans rfl; have hfz20_0 := blk_frozen BK696.out 0) | ((with_reducible refine gate_callee (f := 117) rfl ?_); refine goesL_ (some 24) rfl rfl Tryd.func117 (by kernel_rfl) rfl #[.agg #[.slice A0_0 l0_0.length c0_0], .slice A1 l1.length c1, .int .i64 0] rfl el ?_; (with_reducible refine (impl_endOf.calls kj4 _ _ l0_0 _ _ l1 0 t699 _ ?side1 ?side2 ?side3 ?side4 A14.out).mono ?_); (case side1 => exact cq (Kd.C_below HR0_0.out HB.out)); (case side2 => exact HC0_0.out); (case side3 => exact cq (Kd.C_below HR1.out HB.out)); (case side4 => exact HC1.out); rintro e w21 ⟨rfl, hb⟩; refine ⟨_, rfl, ?_⟩; have n0_ := am (blk_below (bq BK696.out) hb); have n1_ := am (below_step (hs HB.out) hb); clear BK696 HB; revert n0_ n1_; intro BK696 HB; (try clear hb); (try clear hb2); (try clear hgw); (try clear hk); (try clear hi)))
       go_ret
       exact ⟨by first | rfl | (simp [errW_none, errW_some] <;> rfl) | (simp [*, errW_none, errW_some] <;> rfl), by exact hs HB.out⟩
 ·rw [if_neg c4] at H
  have c4b0 : (t697 == 0) = false := beq_eq_false_iff_ne.mpr c4
  have c4b1 : (t697 != 0) = true := bne_iff_ne.mpr c4
  obtain rfl := Option.some.inj H
  go_enter Tryd.func58, Tryd.ntmps58
  go_wp2_with (first | ((with_reducible refine gate_dst (N := 2) rfl ?_); (try (refine gate_guard (by rfl) ?_; dsimp only)); refine box_event ?hg (N := 2) ?hd (cs := #[.slice A0_0 l0_0.length c0_0]) (t := 42) ?hr ?_; (case hd => rfl); (case hg => rfl); (case hr => first | (go_simp; done) | (go_simp; rfl)); intro gb696 hg w22 hbox hb; have n0_ := am (below_step (hq HB.out) hb); have n1_ := am (hbox); have n2_ := am (bz hg (hq HB.out)); have n3_ := n2_; clear HB; revert n0_ n1_ n2_ n3_; intro HB BK696 GW696 GE696; clear hb hbox hg; have hcz23_0 : w22.cell? ⟨gb696, 0, none⟩ = some (.slice A0_0 l0_0.length c0_0) := (blk_cell BK696.out 0).trans rfl; have hfz23_0 := blk_frozen BK696.out 0) | ((with_reducible refine gate_callee (f := 77) rfl ?_); refine goesL_ (some 7) rfl rfl Tryd.func77 (by kernel_rfl) rfl #[.agg #[.slice A0_0 l0_0.length c0_0]] rfl el ?_; (with_reducible refine (impl_SignatureFault.calls k _ _ l0_0 t697 _ ?side1 ?side2 A3.out).mono ?_); (case side1 => exact cq (Kd.C_below HR0_0.out HB.out)); (case side2 => exact HC0_0.out); rintro e w24 ⟨rfl, hb⟩; refine ⟨_, rfl, ?_⟩; have n0_ := am (blk_below (bq BK696.out) hb); have n1_ := am (below_step (hs HB.out) hb); clear BK696 HB; revert n0_ n1_; intro BK696 HB; (try clear hb); (try clear hb2); (try clear hgw); (try clear hk); (try clear hi)))
  go_ret
  exact ⟨by first | rfl | (simp [errW_none, errW_some] <;> rfl) | (simp [*, errW_none, errW_some] <;> rfl), by exact hs HB.out⟩
def spec_l3Place.f (l0 : List Int) (a1 : Int) : Option (Bool) := (spec_l1In.f a1 0 (wrap64 ((l0.length : Int) - 1))).bind fun t776 => (some t776)
set_option maxHeartbeats 8000000 in
set_option maxRecDepth 100000 in
theorem spec_l3Place.calls (A0 : Option Addr) (c0 : Nat) (l0 : List Int) (a1 : Int) (r : Bool) (w : World) (hr0 : Kd.C (Kd.int .i64) w A0 l0.length l0) (hc0 : l0.length ≤ c0) (h : spec_l3Place.f l0 a1 = some r) :
  Calls Tryd.prog 104 #[.slice A0 l0.length c0, .int .i64 a1] w fun e w' => e = .returned (.bool r) ∧ Drawn0 w w' := by
 have HR0 := am hr0
 have HC0 := am hc0
 clear hr0 hc0
 have H : ((spec_l1In.f a1 0 (wrap64 ((l0.length : Int) - 1))).bind fun t776 => (some t776)) = some r := h
 clear h
 replace H := Option.bind_eq_some_iff.mp H
 obtain ⟨t776, A30, H⟩ := H
 replace H : (some t776) = some r := H
 have A3 := am A30
 clear A30
 obtain rfl := Option.some.inj H
 go_enter Tryd.func104, Tryd.ntmps104
 go_wp2_with (first | ((with_reducible refine gate_callee (f := 68) rfl ?_); refine goesL_ (some 9) rfl rfl Tryd.func68 (by kernel_rfl) rfl #[.int .i64 a1, .int .i64 0, .int .i64 (wrap64 ((l0.length : Int) - 1))] rfl el ?_; (with_reducible refine (spec_l1In.calls a1 0 (wrap64 ((l0.length : Int) - 1)) t776 _ A3.out).mono ?_); rintro e w' ⟨rfl, ⟨nd, rfl⟩⟩; refine ⟨_, rfl, ?_⟩))
 go_ret
 exact ⟨by first | rfl | (simp; done) | (simp [*]; done), by repeat (first | exact Drawn0.refl _ | apply Drawn0.step)⟩
def spec_l3Replace.f (k : Nat) (l0 : List (S42)) (l1 : List Int) (a2 : Int) (l3 : List Int) : Option (List Int) := if 0 ≤ a2 then (if a2 ≤ (l1.length : Int) then ((spec_l1Ints.f (l1.take (a2 : Int).toNat)).bind fun t778 => (if t778.length + l3.length < 17592186044416 then ((some (t778 ++ l3 : List Int)).bind fun y781 => ((spec_l3End.f k l0 l1 a2).bind fun t784 => (if 0 ≤ t784 then (if t784 ≤ (l1.length : Int) then (if y781.length + (l1.drop (t784 : Int).toNat).length < 17592186044416 then (some (y781 ++ (l1.drop (t784 : Int).toNat))) else (none)) else (none)) else (none)))) else (none))) else (none)) else (none)
set_option maxHeartbeats 8000000 in
set_option maxRecDepth 100000 in
theorem spec_l3Replace.calls (k : Nat) (A0 : Option Addr) (l0 : List (S42)) (A1 : Option Addr) (c1 : Nat) (l1 : List Int) (a2 : Int) (A3 : Option Addr) (c3 : Nat) (l3 : List Int) (r : List Int) (w : World) (hr0 : Kd.C k42 w A0 l0.length l0) (hr1 : Kd.C (Kd.int .i64) w A1 l1.length l1) (hc1 : l1.length ≤ c1) (hr3 : Kd.C (Kd.int .i64) w A3 l3.length l3) (hc3 : l3.length ≤ c3) (h : spec_l3Replace.f k l0 l1 a2 l3 = some r) :
  Calls Tryd.prog 105 #[.pointer A0, .slice A1 l1.length c1, .int .i64 a2, .slice A3 l3.length c3] w fun e w' => ∃ v0_ : Value, e = .returned (v0_) ∧ Kd.R (Kd.int .i64) 2 w' w.heap.size (fun _ => True) v0_ r ∧ Below w.heap.size w w' := by
 have HR0 := am hr0
 clear hr0
 have HR1 := am hr1
 have HC1 := am hc1
 clear hr1 hc1
 have HR3 := am hr3
 have HC3 := am hc3
 clear hr3 hc3
 have HB := am (Below.refl w.heap.size w)
 have H : (if 0 ≤ a2 then (if a2 ≤ (l1.length : Int) then ((spec_l1Ints.f (l1.take (a2 : Int).toNat)).bind fun t778 => (if t778.length + l3.length < 17592186044416 then ((some (t778 ++ l3 : List Int)).bind fun y781 => ((spec_l3End.f k l0 l1 a2).bind fun t784 => (if 0 ≤ t784 then (if t784 ≤ (l1.length : Int) then (if y781.length + (l1.drop (t784 : Int).toNat).length < 17592186044416 then (some (y781 ++ (l1.drop (t784 : Int).toNat))) else (none)) else (none)) else (none)))) else (none))) else (none)) else (none)) = some r := h
 clear h
 by_cases c5 : 0 ≤ a2
 ·rw [if_pos c5] at H
  have c5b0 := eq_true c5
  have c5b1 : decide (0 ≤ a2) = true := decide_eq_true c5
  clear c5
  by_cases c6 : a2 ≤ (l1.length : Int)
  ·rw [if_pos c6] at H
   have c6b0 := eq_true c6
   have c6b1 : decide (a2 ≤ (l1.length : Int)) = true := decide_eq_true c6
   clear c6
   replace H := Option.bind_eq_some_iff.mp H
   obtain ⟨t778, A70, H⟩ := H
   replace H : (if t778.length + l3.length < 17592186044416 then ((some (t778 ++ l3 : List Int)).bind fun y781 => ((spec_l3End.f k l0 l1 a2).bind fun t784 => (if 0 ≤ t784 then (if t784 ≤ (l1.length : Int) then (if y781.length + (l1.drop (t784 : Int).toNat).length < 17592186044416 then (some (y781 ++ (l1.drop (t784 : Int).toNat))) else (none)) else (none)) else (none)))) else (none)) = some r := H
   have A7 := am A70
   clear A70
   by_cases c8 : t778.length + l3.length < 17592186044416
   ·rw [if_pos c8] at H
    have LMc8 := am c8
    clear c8
    obtain ⟨y781, hy781⟩ : ∃ y_ : List Int, y_ = (t778 ++ l3) := ⟨_, rfl⟩
    replace H : ((spec_l3End.f k l0 l1 a2).bind fun t784 => (if 0 ≤ t784 then (if t784 ≤ (l1.length : Int) then (if y781.length + (l1.drop (t784 : Int).toNat).length < 17592186044416 then (some (y781 ++ (l1.drop (t784 : Int).toNat))) else (none)) else (none)) else (none))) = some r := by first | (rw [hy781]; with_reducible exact H) | (have H2_ := (Option.bind_some _ _).symm.trans H; rw [hy781]; with_reducible exact H2_) | (have H2_ := (Option.bind_some _ _).symm.trans H; with_reducible exact H2_) | with_reducible exact H | (rw [hy781]; exact H) | exact H
    have Ny781 := am hy781
    clear hy781
    replace H := Option.bind_eq_some_iff.mp H
    obtain ⟨t784, A90, H⟩ := H
    replace H : (if 0 ≤ t784 then (if t784 ≤ (l1.length : Int) then (if y781.length + (l1.drop (t784 : Int).toNat).length < 17592186044416 then (some (y781 ++ (l1.drop (t784 : Int).toNat))) else (none)) else (none)) else (none)) = some r := H
    have A9 := am A90
    clear A90
    by_cases c10 : 0 ≤ t784
    ·rw [if_pos c10] at H
     have c10b0 := eq_true c10
     have c10b1 : decide (0 ≤ t784) = true := decide_eq_true c10
     clear c10
     by_cases c11 : t784 ≤ (l1.length : Int)
     ·rw [if_pos c11] at H
      have c11b0 := eq_true c11
      have c11b1 : decide (t784 ≤ (l1.length : Int)) = true := decide_eq_true c11
      clear c11
      by_cases c12 : y781.length + (l1.drop (t784 : Int).toNat).length < 17592186044416
      ·rw [if_pos c12] at H
       have LMc12 := am c12
       clear c12
       obtain ⟨y786, hy786⟩ : ∃ y_ : List Int, y_ = (y781 ++ (l1.drop (t784 : Int).toNat)) := ⟨_, rfl⟩
       replace H : (some y786) = some r := by first | (rw [hy786]; with_reducible exact H) | (have H2_ := (Option.bind_some _ _).symm.trans H; rw [hy786]; with_reducible exact H2_) | (have H2_ := (Option.bind_some _ _).symm.trans H; with_reducible exact H2_) | with_reducible exact H | (rw [hy786]; exact H) | exact H
       have Ny786 := am hy786
       clear hy786
       obtain rfl := Option.some.inj H
       obtain ⟨i013, hi013, _, hsz13, _⟩ := info_parts info2
       obtain ⟨hcut13, hA13, hC13⟩ := print_take_of (P := Tryd.prog) (Value.int .i64) 0 52 2 .i64 Tryd.underlying52 hi013 hsz13 A1 c1 l1 a2 (of_decide_eq_true (by first | (with_reducible assumption) | assumption)) (of_decide_eq_true (by first | (with_reducible assumption) | assumption)) HC1.out
       have HR777 := am (Kd.C_of_reads (h1 := fun _ => rfl) (hA13 _ (Kd.reads_of_C HR1.out)))
       have HC777 := am hC13
       clear hA13 hC13 hi013 hsz13
       go_enter Tryd.func105, Tryd.ntmps105
       go_wp2_with (first | ((with_reducible refine gate_callee (f := 91) rfl ?_); refine goesL_ (some 13) rfl rfl Tryd.func91 (by kernel_rfl) rfl #[.slice A1 (l1.take (a2 : Int).toNat).length c1] rfl (by (try simp only [List.map_toArray, List.map_cons, List.map_nil]); first | done | (rw [show (l1.take (a2 : Int).toNat).length = a2.toNat from (by rw [List.length_take]; have h_ : (a2 : Int) ≤ (l1.length : Int) := of_decide_eq_true (by first | (with_reducible assumption) | assumption); omega)] <;> rfl) | rfl | (simp only [List.length_drop, List.length_take]; rfl)) ?_; (with_reducible refine (spec_l1Ints.calls _ _ (l1.take (a2 : Int).toNat) t778 _ ?side1 ?side2 A7.out).mono ?_); (case side1 => exact cq HR777.out); (case side2 => exact HC777.out); rintro e w14 ⟨v779, rfl, ho0, hb⟩; refine ⟨_, rfl, ?_⟩; have n0_ := am (Kd.R_lower ho0 (below_size (hq HB.out))); have n1_ := am (below_step (hq HB.out) hb); clear HB; revert n0_ n1_; intro HO780 HB; (try clear hb); (try clear hb2); (try clear hgw); (try clear hk); (try clear hi); (try clear ho0)) | ((with_reducible refine gate_builtin (b := .append) (xs := #[.tmp 14, .tmp 15]) rfl ?_); at_builtin; refine Kd.R_append_rows (Kd.int .i64) (w0 := w) w.heap.size rfl (.tmp 14) (.tmp 15) 52 2 (.int .i64 0) 8 rfl Tryd.underlying52 info2 rfl (by decide) (by omega) v779 t778 l3 _ _ _ (fun _ => True) (fun _ => False) rfl rfl ?aO ?aR (fun _ _ h => h) (fun _ h => h.elim) ?aF ?aB ?aS ?aL ?_; (case aR => exact cq (Kd.C_below HR3.out HB.out)); (case aB => exact (hq HB.out)); (case aF => exact (fun _ _ => trivial)); (case aO => exact (rq HO780.out)); (case aS => exact (below_size (hq HB.out))); (case aL => have := LMc8.out; omega); intro v782 w15 ho hb hg hat; rw [← Ny781.out] at ho; have n0_ := am (hb); have n1_ := am (ho); clear HB HO780; revert n0_ n1_; intro HB HO783; clear ho hb hg hat) | ((with_reducible refine gate_callee (f := 143) rfl ?_); refine goesL_ (some 22) rfl rfl Tryd.func143 (by kernel_rfl) rfl #[.pointer A0, .slice A1 l1.length c1, .int .i64 a2] rfl el ?_; (with_reducible refine (spec_l3End.calls k _ l0 _ _ l1 a2 t784 _ ?side1 ?side2 ?side3 A9.out).mono ?_); (case side1 => exact cq (Kd.C_below HR0.out HB.out)); (case side2 => exact cq (Kd.C_below HR1.out HB.out)); (case side3 => exact HC1.out); rintro e w' ⟨rfl, ⟨nd, rfl⟩⟩; refine ⟨_, rfl, ?_⟩; obtain ⟨i016, hi016, _, hsz16, _⟩ := info_parts info2; obtain ⟨A16, hcut16, hA16, hC16⟩ := print_drop_of (P := Tryd.prog) (Value.int .i64) 0 52 2 .i64 Tryd.underlying52 hi016 hsz16 A1 c1 l1 t784 (of_decide_eq_true (by first | (with_reducible assumption) | assumption)) (of_decide_eq_true (by first | (with_reducible assumption) | assumption)) HC1.out; have HR785 := am (Kd.C_of_reads (h1 := fun _ => rfl) (hA16 _ (Kd.reads_of_C HR1.out))); have HC785 := am hC16; clear hA16 hC16 hi016 hsz16) | ((with_reducible refine gate_builtin (b := .append) (xs := #[.tmp 17, .tmp 23]) rfl ?_); at_builtin; refine Kd.R_append_rows (Kd.int .i64) (w0 := w) w.heap.size rfl (.tmp 17) (.tmp 23) 52 2 (.int .i64 0) 8 rfl Tryd.underlying52 info2 rfl (by decide) (by omega) v782 y781 (l1.drop (t784 : Int).toNat) _ _ _ (fun _ => True) (fun _ => False) rfl rfl ?aO ?aR (fun _ _ h => h) (fun _ h => h.elim) ?aF ?aB ?aS ?aL ?_; (case aR => first | (rw [← show (l1.drop (t784 : Int).toNat).length = (l1.length - t784.toNat) from List.length_drop]; repeat (first | exact (Kd.C_below HR785.out (hq HB.out)) | (with_reducible refine Kd.C_alloc ?_ _) | (with_reducible refine Kd.C_drewN ?_ _) | (with_reducible refine Kd.C_drew ?_))) | (repeat (first | exact (Kd.C_below HR785.out (hq HB.out)) | (with_reducible refine Kd.C_alloc ?_ _) | (with_reducible refine Kd.C_drewN ?_ _) | (with_reducible refine Kd.C_drew ?_)))); (case aB => exact (hq HB.out)); (case aF => exact (fun _ _ => trivial)); (case aO => exact (rq HO783.out)); (case aS => exact (below_size (hq HB.out))); (case aL => have := LMc12.out; have hlx_ := (show (l1.drop (t784 : Int).toNat).length = (l1.length - t784.toNat) from List.length_drop); omega); intro v787 w17 ho hb hg hat; rw [← Ny786.out] at ho; have n0_ := am (hb); have n1_ := am (ho); clear HB HO783; revert n0_ n1_; intro HB HO788; clear ho hb hg hat))
       go_ret
       exact ⟨_, by first | rfl | (simp [errW_none, errW_some] <;> rfl) | (simp [*, errW_none, errW_some] <;> rfl), by (with_reducible repeat (first | apply Kd.R_alloc | apply Kd.R_drewN | apply Kd.R_drew)); exact HO788.out, by exact hq HB.out⟩
      ·rw [if_neg c12] at H
       exact absurd H (by simp)
     ·rw [if_neg c11] at H
      exact absurd H (by simp)
    ·rw [if_neg c10] at H
     exact absurd H (by simp)
   ·rw [if_neg c8] at H
    exact absurd H (by simp)
  ·rw [if_neg c6] at H
   exact absurd H (by simp)
 ·rw [if_neg c5] at H
  exact absurd H (by simp)
def spec_ReplaceAt.f (k : Nat) (l0_0 : List (S99)) (l1 : List Int) (a2 : Int) (l3 : List Int) : Option (Int × List Int) := (spec_TermFault.f k l0_0 l1).bind fun t791 => (if t791 = 0 then ((spec_l3Place.f l1 a2).bind fun t792 => (if t792 = true then ((spec_l3Fault.f k [(⟨l0_0⟩ : S42)] l3).bind fun t793 => (if t793 = 0 then ((spec_l3Replace.f k [(⟨l0_0⟩ : S42)] l1 a2 l3).bind fun t794 => (if (t794.length : Int) > 24 then (some (2, ([] : List Int))) else (some (0, t794)))) else (some (t793, ([] : List Int))))) else (some (3, ([] : List Int))))) else (some (t791, ([] : List Int))))
set_option maxHeartbeats 8000000 in
set_option maxRecDepth 100000 in
theorem spec_ReplaceAt.calls (k : Nat) (A0_0 : Option Addr) (c0_0 : Nat) (l0_0 : List (S99)) (A1 : Option Addr) (c1 : Nat) (l1 : List Int) (a2 : Int) (A3 : Option Addr) (c3 : Nat) (l3 : List Int) (r1 : Int) (r2 : List Int) (w : World) (hr0_0 : Kd.C k99 w A0_0 l0_0.length l0_0) (hc0_0 : l0_0.length ≤ c0_0) (hr1 : Kd.C (Kd.int .i64) w A1 l1.length l1) (hc1 : l1.length ≤ c1) (hr3 : Kd.C (Kd.int .i64) w A3 l3.length l3) (hc3 : l3.length ≤ c3) (h : spec_ReplaceAt.f k l0_0 l1 a2 l3 = some (r1, r2)) :
  Calls Tryd.prog 51 #[.agg #[.slice A0_0 l0_0.length c0_0], .slice A1 l1.length c1, .int .i64 a2, .slice A3 l3.length c3] w fun e w' => ∃ v1_ : Value, e = .returned (.agg #[.int .i64 r1, v1_]) ∧ Kd.R (Kd.int .i64) 2 w' w.heap.size (fun _ => True) v1_ r2 ∧ Below w.heap.size w w' := by
 have hu42 := Tryd.underlying42
 have hu67 := Tryd.underlying67
 have HR0_0 := am hr0_0
 have HC0_0 := am hc0_0
 clear hr0_0 hc0_0
 have HR1 := am hr1
 have HC1 := am hc1
 clear hr1 hc1
 have HR3 := am hr3
 have HC3 := am hc3
 clear hr3 hc3
 have HB := am (Below.refl w.heap.size w)
 have H : ((spec_TermFault.f k l0_0 l1).bind fun t791 => (if t791 = 0 then ((spec_l3Place.f l1 a2).bind fun t792 => (if t792 = true then ((spec_l3Fault.f k [(⟨l0_0⟩ : S42)] l3).bind fun t793 => (if t793 = 0 then ((spec_l3Replace.f k [(⟨l0_0⟩ : S42)] l1 a2 l3).bind fun t794 => (if (t794.length : Int) > 24 then (some (2, ([] : List Int))) else (some (0, t794)))) else (some (t793, ([] : List Int))))) else (some (3, ([] : List Int))))) else (some (t791, ([] : List Int))))) = some (r1, r2) := h
 clear h
 replace H := Option.bind_eq_some_iff.mp H
 obtain ⟨t791, A50, H⟩ := H
 replace H : (if t791 = 0 then ((spec_l3Place.f l1 a2).bind fun t792 => (if t792 = true then ((spec_l3Fault.f k [(⟨l0_0⟩ : S42)] l3).bind fun t793 => (if t793 = 0 then ((spec_l3Replace.f k [(⟨l0_0⟩ : S42)] l1 a2 l3).bind fun t794 => (if (t794.length : Int) > 24 then (some (2, ([] : List Int))) else (some (0, t794)))) else (some (t793, ([] : List Int))))) else (some (3, ([] : List Int))))) else (some (t791, ([] : List Int)))) = some (r1, r2) := H
 have A5 := am A50
 clear A50
 by_cases c6 : t791 = 0
 ·rw [if_pos c6] at H
  have c6b0 : (t791 == 0) = true := beq_iff_eq.mpr c6
  have c6b1 : (t791 != 0) = false := bne_eq_false_iff_eq.mpr c6
  clear c6
  replace H := Option.bind_eq_some_iff.mp H
  obtain ⟨t792, A70, H⟩ := H
  replace H : (if t792 = true then ((spec_l3Fault.f k [(⟨l0_0⟩ : S42)] l3).bind fun t793 => (if t793 = 0 then ((spec_l3Replace.f k [(⟨l0_0⟩ : S42)] l1 a2 l3).bind fun t794 => (if (t794.length : Int) > 24 then (some (2, ([] : List Int))) else (some (0, t794)))) else (some (t793, ([] : List Int))))) else (some (3, ([] : List Int)))) = some (r1, r2) := H
  have A7 := am A70
  clear A70
  by_cases c8 : t792 = true
  ·subst c8
   have H1 : ((spec_l3Fault.f k [(⟨l0_0⟩ : S42)] l3).bind fun t793 => (if t793 = 0 then ((spec_l3Replace.f k [(⟨l0_0⟩ : S42)] l1 a2 l3).bind fun t794 => (if (t794.length : Int) > 24 then (some (2, ([] : List Int))) else (some (0, t794)))) else (some (t793, ([] : List Int))))) = some (r1, r2) := by rw [if_pos rfl] at H; exact H
   clear H
   have H := H1
   clear H1
   replace H := Option.bind_eq_some_iff.mp H
   obtain ⟨t793, A90, H⟩ := H
   replace H : (if t793 = 0 then ((spec_l3Replace.f k [(⟨l0_0⟩ : S42)] l1 a2 l3).bind fun t794 => (if (t794.length : Int) > 24 then (some (2, ([] : List Int))) else (some (0, t794)))) else (some (t793, ([] : List Int)))) = some (r1, r2) := H
   have A9 := am A90
   clear A90
   by_cases c10 : t793 = 0
   ·rw [if_pos c10] at H
    have c10b0 : (t793 == 0) = true := beq_iff_eq.mpr c10
    have c10b1 : (t793 != 0) = false := bne_eq_false_iff_eq.mpr c10
    clear c10
    replace H := Option.bind_eq_some_iff.mp H
    obtain ⟨t794, A110, H⟩ := H
    replace H : (if (t794.length : Int) > 24 then (some (2, ([] : List Int))) else (some (0, t794))) = some (r1, r2) := H
    have A11 := am A110
    clear A110
    by_cases c12 : (t794.length : Int) > 24
    ·rw [if_pos c12] at H
     have c12b0 : decide (24 < (t794.length : Int)) = true := decide_eq_true c12
     have c12b1 : decide (24 < t794.length) = true := decide_eq_true (by omega)
     clear c12
     simp only [Option.some.injEq, Prod.mk.injEq] at H
     obtain ⟨rfl, rfl⟩ := H
     go_enter Tryd.func51, Tryd.ntmps51
     go_wp2_with (first | ((with_reducible refine gate_dst (N := 4) rfl ?_); refine box_event ?hg (N := 4) ?hd (cs := #[.slice A0_0 l0_0.length c0_0]) (t := 42) ?hr ?_; (case hd => rfl); (case hg => rfl); (case hr => first | (go_simp; done) | (go_simp; rfl)); intro gb789 hg w13 hbox hb; have n0_ := am (below_step (hq HB.out) hb); have n1_ := am (hbox); have n2_ := am (bz hg (hq HB.out)); have n3_ := n2_; clear HB; revert n0_ n1_ n2_ n3_; intro HB BK789 GW789 GE789; clear hb hbox hg) | ((with_reducible refine gate_dst (N := 8) rfl ?_); refine box_event ?hg (N := 8) ?hd (cs := #[.int .i64 0, .slice none 0 0]) (t := 67) ?hr ?_; (case hd => rfl); (case hg => rfl); (case hr => first | (go_simp; done) | (go_simp; rfl)); intro gb790 hg w14 hbox hb; have n0_ := am (blk_below (bq BK789.out) hb); have n1_ := am (below_step (hs HB.out) hb); have n2_ := am (hbox); have n3_ := am (bz hg (hs HB.out)); have n4_ := n3_; have n5_ := am ((by rw [hg]; exact Nat.ne_of_lt (blk_lt (bq BK789.out)) : gb789 ≠ gb790)); have n6_ := am ((by rw [hg]; exact Nat.ne_of_gt (blk_lt (bq BK789.out)) : gb790 ≠ gb789)); clear BK789 HB; revert n0_ n1_ n2_ n3_ n4_ n5_ n6_; intro BK789 HB BK790 GW790 GE790 NB789_790 NB790_789; clear hb hbox hg; have hnb15 := NB789_790.out; have hnc15 := NB790_789.out; have hcz16_0 : w14.cell? ⟨gb789, 0, none⟩ = some (.slice A0_0 l0_0.length c0_0) := (blk_cell BK789.out 0).trans rfl; have hfz16_0 := blk_frozen BK789.out 0) | ((with_reducible refine gate_callee (f := 99) rfl ?_); refine goesL_ (some 14) rfl rfl Tryd.func99 (by kernel_rfl) rfl #[.agg #[.slice A0_0 l0_0.length c0_0], .slice A1 l1.length c1] rfl el ?_; (with_reducible refine (spec_TermFault.calls k _ _ l0_0 _ _ l1 t791 _ ?side1 ?side2 ?side3 ?side4 A5.out).mono ?_); (case side1 => exact cq (Kd.C_below HR0_0.out HB.out)); (case side2 => exact HC0_0.out); (case side3 => exact cq (Kd.C_below HR1.out HB.out)); (case side4 => exact HC1.out); rintro e w17 ⟨rfl, hb⟩; refine ⟨_, rfl, ?_⟩; have n0_ := am (blk_below (bq BK789.out) hb); have n1_ := am (blk_below (bq BK790.out) hb); have n2_ := am (below_step (hs HB.out) hb); clear BK789 BK790 HB; revert n0_ n1_ n2_; intro BK789 BK790 HB; (try clear hb); (try clear hb2); (try clear hgw); (try clear hk); (try clear hi)) | ((with_reducible refine gate_callee (f := 104) rfl ?_); refine goesL_ (some 21) rfl rfl Tryd.func104 (by kernel_rfl) rfl #[.slice A1 l1.length c1, .int .i64 a2] rfl el ?_; (with_reducible refine (spec_l3Place.calls _ _ l1 a2 true _ ?side1 ?side2 A7.out).mono ?_); (case side1 => exact cq (Kd.C_below HR1.out HB.out)); (case side2 => exact HC1.out); rintro e w' ⟨rfl, ⟨nd, rfl⟩⟩; refine ⟨_, rfl, ?_⟩; (try (rw [drewN_self w17]; generalize hq_ : World.drewN w17 _ = w17; have n0_ : Aside0 (w17.heap[gb789]? = some (.cells #[.slice A0_0 l0_0.length c0_0] 42 (0, 0))) := ⟨by rw [← hq_]; exact (bq BK789.out)⟩; have n1_ : Aside0 (w17.heap[gb790]? = some (.cells #[.int .i64 0, .slice none 0 0] 67 (0, 0))) := ⟨by rw [← hq_]; exact (bq BK790.out)⟩; have n2_ : Aside0 (Below w.heap.size w w17) := ⟨by rw [← hq_]; exact (hs HB.out)⟩; clear BK789 BK790 HB hq_; have BK789 := n0_; have BK790 := n1_; have HB := n2_; clear n0_ n1_ n2_))) | ((with_reducible refine gate_callee (f := 101) rfl ?_); refine goesL_ (some 25) rfl rfl Tryd.func101 (by kernel_rfl) rfl #[.pointer (some ⟨gb789, 0, none⟩), .slice A3 l3.length c3] rfl el ?_; (with_reducible refine (spec_l3Fault.calls k _ [(⟨l0_0⟩ : S42)] _ _ l3 t793 _ ?side1 ?side2 ?side3 A9.out).mono ?_); (case side1 => exact k42_box (bq BK789.out) (cq (Kd.C_below HR0_0.out HB.out)) (by exact HC0_0.out)); (case side2 => exact cq (Kd.C_below HR3.out HB.out)); (case side3 => exact HC3.out); rintro e w' ⟨rfl, ⟨nd, rfl⟩⟩; refine ⟨_, rfl, ?_⟩; (try (rw [drewN_self w17]; generalize hq_ : World.drewN w17 _ = w17; have n0_ : Aside0 (w17.heap[gb789]? = some (.cells #[.slice A0_0 l0_0.length c0_0] 42 (0, 0))) := ⟨by rw [← hq_]; exact (bq BK789.out)⟩; have n1_ : Aside0 (w17.heap[gb790]? = some (.cells #[.int .i64 0, .slice none 0 0] 67 (0, 0))) := ⟨by rw [← hq_]; exact (bq BK790.out)⟩; have n2_ : Aside0 (Below w.heap.size w w17) := ⟨by rw [← hq_]; exact (hs HB.out)⟩; clear BK789 BK790 HB hq_; have BK789 := n0_; have BK790 := n1_; have HB := n2_; clear n0_ n1_ n2_))) | ((with_reducible refine gate_callee (f := 105) rfl ?_); refine goesL_ (some 33) rfl rfl Tryd.func105 (by kernel_rfl) rfl #[.pointer (some ⟨gb789, 0, none⟩), .slice A1 l1.length c1, .int .i64 a2, .slice A3 l3.length c3] rfl el ?_; (with_reducible refine (spec_l3Replace.calls k _ [(⟨l0_0⟩ : S42)] _ _ l1 a2 _ _ l3 t794 _ ?side1 ?side2 ?side3 ?side4 ?side5 A11.out).mono ?_); (case side1 => exact k42_box (bq BK789.out) (cq (Kd.C_below HR0_0.out HB.out)) (by exact HC0_0.out)); (case side2 => exact cq (Kd.C_below HR1.out HB.out)); (case side3 => exact HC1.out); (case side4 => exact cq (Kd.C_below HR3.out HB.out)); (case side5 => exact HC3.out); rintro e w18 ⟨v795, rfl, ho0, hb⟩; refine ⟨_, rfl, ?_⟩; have n0_ := am (Kd.R_lower ho0 (below_size (hs HB.out))); have n1_ := am (blk_below (bq BK789.out) hb); have n2_ := am (blk_below (bq BK790.out) hb); have n3_ := am (below_step (hs HB.out) hb); clear BK789 BK790 HB; revert n0_ n1_ n2_ n3_; intro HO796 BK789 BK790 HB; (try clear hb); (try clear hb2); (try clear hgw); (try clear hk); (try clear hi); (try clear ho0); obtain ⟨Ao19, co19, eo19⟩ := Kd.R_slice HO796.out; subst eo19; have hcz20_0 : w18.cell? ⟨gb790, 0, none⟩ = some (.int .i64 0) := (blk_cell BK790.out 0).trans rfl; have hcz20_1 : w18.cell? ⟨gb790, 1, none⟩ = some (.slice none 0 0) := (blk_cell BK790.out 1).trans rfl; have hfz20_0 := blk_frozen BK790.out 0; have hfz20_1 := blk_frozen BK790.out 1))
     refine bodyPost_ret (results_cell_row rfl _ _ gb790 67 #[.int .i64 2, .slice none 0 0] (0, 0) _ rfl (by refine bq ?_; refine blk_put (cs := #[.int .i64 2, .slice none 0 0]) ?_ 1 _ rfl; refine bq ?_; refine blk_put (cs := #[.int .i64 0, .slice none 0 0]) ?_ 0 _ rfl; refine bq ?_; exact BK790.out) Tryd.underlying67 rfl (by kernel_rfl)) rfl ?_
     exact ⟨_, by first | rfl | (simp [errW_none, errW_some] <;> rfl) | (simp [*, errW_none, errW_some] <;> rfl), by first | exact Kd.R_nil _ _ _ _ _ | exact Kd.N_nil _ _ _ _ _ | exact Kd.V_nil _ _ _ _ _ | exact Kd.Q_nil _ _ _ _ _ | exact Kd.S_nil _ _ _ _ _, by exact hs HB.out⟩
    ·rw [if_neg c12] at H
     have c12b0 : decide (24 < (t794.length : Int)) = false := decide_eq_false c12
     have c12b1 : decide (24 < t794.length) = false := decide_eq_false (by omega)
     clear c12
     simp only [Option.some.injEq, Prod.mk.injEq] at H
     obtain ⟨rfl, rfl⟩ := H
     go_enter Tryd.func51, Tryd.ntmps51
     go_wp2_with (first | ((with_reducible refine gate_dst (N := 4) rfl ?_); refine box_event ?hg (N := 4) ?hd (cs := #[.slice A0_0 l0_0.length c0_0]) (t := 42) ?hr ?_; (case hd => rfl); (case hg => rfl); (case hr => first | (go_simp; done) | (go_simp; rfl)); intro gb789 hg w21 hbox hb; have n0_ := am (below_step (hq HB.out) hb); have n1_ := am (hbox); have n2_ := am (bz hg (hq HB.out)); have n3_ := n2_; clear HB; revert n0_ n1_ n2_ n3_; intro HB BK789 GW789 GE789; clear hb hbox hg) | ((with_reducible refine gate_dst (N := 8) rfl ?_); refine box_event ?hg (N := 8) ?hd (cs := #[.int .i64 0, .slice none 0 0]) (t := 67) ?hr ?_; (case hd => rfl); (case hg => rfl); (case hr => first | (go_simp; done) | (go_simp; rfl)); intro gb790 hg w22 hbox hb; have n0_ := am (blk_below (bq BK789.out) hb); have n1_ := am (below_step (hs HB.out) hb); have n2_ := am (hbox); have n3_ := am (bz hg (hs HB.out)); have n4_ := n3_; have n5_ := am ((by rw [hg]; exact Nat.ne_of_lt (blk_lt (bq BK789.out)) : gb789 ≠ gb790)); have n6_ := am ((by rw [hg]; exact Nat.ne_of_gt (blk_lt (bq BK789.out)) : gb790 ≠ gb789)); clear BK789 HB; revert n0_ n1_ n2_ n3_ n4_ n5_ n6_; intro BK789 HB BK790 GW790 GE790 NB789_790 NB790_789; clear hb hbox hg; have hnb23 := NB789_790.out; have hnc23 := NB790_789.out; have hcz24_0 : w22.cell? ⟨gb789, 0, none⟩ = some (.slice A0_0 l0_0.length c0_0) := (blk_cell BK789.out 0).trans rfl; have hfz24_0 := blk_frozen BK789.out 0) | ((with_reducible refine gate_callee (f := 99) rfl ?_); refine goesL_ (some 14) rfl rfl Tryd.func99 (by kernel_rfl) rfl #[.agg #[.slice A0_0 l0_0.length c0_0], .slice A1 l1.length c1] rfl el ?_; (with_reducible refine (spec_TermFault.calls k _ _ l0_0 _ _ l1 t791 _ ?side1 ?side2 ?side3 ?side4 A5.out).mono ?_); (case side1 => exact cq (Kd.C_below HR0_0.out HB.out)); (case side2 => exact HC0_0.out); (case side3 => exact cq (Kd.C_below HR1.out HB.out)); (case side4 => exact HC1.out); rintro e w25 ⟨rfl, hb⟩; refine ⟨_, rfl, ?_⟩; have n0_ := am (blk_below (bq BK789.out) hb); have n1_ := am (blk_below (bq BK790.out) hb); have n2_ := am (below_step (hs HB.out) hb); clear BK789 BK790 HB; revert n0_ n1_ n2_; intro BK789 BK790 HB; (try clear hb); (try clear hb2); (try clear hgw); (try clear hk); (try clear hi)) | ((with_reducible refine gate_callee (f := 104) rfl ?_); refine goesL_ (some 21) rfl rfl Tryd.func104 (by kernel_rfl) rfl #[.slice A1 l1.length c1, .int .i64 a2] rfl el ?_; (with_reducible refine (spec_l3Place.calls _ _ l1 a2 true _ ?side1 ?side2 A7.out).mono ?_); (case side1 => exact cq (Kd.C_below HR1.out HB.out)); (case side2 => exact HC1.out); rintro e w' ⟨rfl, ⟨nd, rfl⟩⟩; refine ⟨_, rfl, ?_⟩; (try (rw [drewN_self w25]; generalize hq_ : World.drewN w25 _ = w25; have n0_ : Aside0 (w25.heap[gb789]? = some (.cells #[.slice A0_0 l0_0.length c0_0] 42 (0, 0))) := ⟨by rw [← hq_]; exact (bq BK789.out)⟩; have n1_ : Aside0 (w25.heap[gb790]? = some (.cells #[.int .i64 0, .slice none 0 0] 67 (0, 0))) := ⟨by rw [← hq_]; exact (bq BK790.out)⟩; have n2_ : Aside0 (Below w.heap.size w w25) := ⟨by rw [← hq_]; exact (hs HB.out)⟩; clear BK789 BK790 HB hq_; have BK789 := n0_; have BK790 := n1_; have HB := n2_; clear n0_ n1_ n2_))) | ((with_reducible refine gate_callee (f := 101) rfl ?_); refine goesL_ (some 25) rfl rfl Tryd.func101 (by kernel_rfl) rfl #[.pointer (some ⟨gb789, 0, none⟩), .slice A3 l3.length c3] rfl el ?_; (with_reducible refine (spec_l3Fault.calls k _ [(⟨l0_0⟩ : S42)] _ _ l3 t793 _ ?side1 ?side2 ?side3 A9.out).mono ?_); (case side1 => exact k42_box (bq BK789.out) (cq (Kd.C_below HR0_0.out HB.out)) (by exact HC0_0.out)); (case side2 => exact cq (Kd.C_below HR3.out HB.out)); (case side3 => exact HC3.out); rintro e w' ⟨rfl, ⟨nd, rfl⟩⟩; refine ⟨_, rfl, ?_⟩; (try (rw [drewN_self w25]; generalize hq_ : World.drewN w25 _ = w25; have n0_ : Aside0 (w25.heap[gb789]? = some (.cells #[.slice A0_0 l0_0.length c0_0] 42 (0, 0))) := ⟨by rw [← hq_]; exact (bq BK789.out)⟩; have n1_ : Aside0 (w25.heap[gb790]? = some (.cells #[.int .i64 0, .slice none 0 0] 67 (0, 0))) := ⟨by rw [← hq_]; exact (bq BK790.out)⟩; have n2_ : Aside0 (Below w.heap.size w w25) := ⟨by rw [← hq_]; exact (hs HB.out)⟩; clear BK789 BK790 HB hq_; have BK789 := n0_; have BK790 := n1_; have HB := n2_; clear n0_ n1_ n2_))) | ((with_reducible refine gate_callee (f := 105) rfl ?_); refine goesL_ (some 33) rfl rfl Tryd.func105 (by kernel_rfl) rfl #[.pointer (some ⟨gb789, 0, none⟩), .slice A1 l1.length c1, .int .i64 a2, .slice A3 l3.length c3] rfl el ?_; (with_reducible refine (spec_l3Replace.calls k _ [(⟨l0_0⟩ : S42)] _ _ l1 a2 _ _ l3 t794 _ ?side1 ?side2 ?side3 ?side4 ?side5 A11.out).mono ?_); (case side1 => exact k42_box (bq BK789.out) (cq (Kd.C_below HR0_0.out HB.out)) (by exact HC0_0.out)); (case side2 => exact cq (Kd.C_below HR1.out HB.out)); (case side3 => exact HC1.out); (case side4 => exact cq (Kd.C_below HR3.out HB.out)); (case side5 => exact HC3.out); rintro e w26 ⟨v795, rfl, ho0, hb⟩; refine ⟨_, rfl, ?_⟩; have n0_ := am (Kd.R_lower ho0 (below_size (hs HB.out))); have n1_ := am (blk_below (bq BK789.out) hb); have n2_ := am (blk_below (bq BK790.out) hb); have n3_ := am (below_step (hs HB.out) hb); clear BK789 BK790 HB; revert n0_ n1_ n2_ n3_; intro HO796 BK789 BK790 HB; (try clear hb); (try clear hb2); (try clear hgw); (try clear hk); (try clear hi); (try clear ho0); obtain ⟨Ao27, co27, eo27⟩ := Kd.R_slice HO796.out; subst eo27; have hcz28_0 : w26.cell? ⟨gb790, 0, none⟩ = some (.int .i64 0) := (blk_cell BK790.out 0).trans rfl; have hcz28_1 : w26.cell? ⟨gb790, 1, none⟩ = some (.slice none 0 0) := (blk_cell BK790.out 1).trans rfl; have hfz28_0 := blk_frozen BK790.out 0; have hfz28_1 := blk_frozen BK790.out 1))
     refine bodyPost_ret (results_cell_row rfl _ _ gb790 67 #[.int .i64 0, .slice Ao27 t794.length co27] (0, 0) _ rfl (by refine bq ?_; refine blk_put (cs := #[.int .i64 0, .slice none 0 0]) ?_ 1 _ rfl; refine bq ?_; refine blk_put (cs := #[.int .i64 0, .slice none 0 0]) ?_ 0 _ rfl; refine bq ?_; exact BK790.out) Tryd.underlying67 rfl (by kernel_rfl)) rfl ?_
     exact ⟨_, by first | rfl | (simp [errW_none, errW_some] <;> rfl) | (simp [*, errW_none, errW_some] <;> rfl), by (with_reducible repeat (first | apply Kd.R_alloc | apply Kd.R_drewN | apply Kd.R_drew)); exact Kd.R_mono (Kd.R_far (p := ⟨gb790, 1, none⟩) (Kd.R_far (p := ⟨gb790, 0, none⟩) (Kd.R_types HO796.out BK790.out (by decide)) (fun _ hk => hk.2) (.int .i64 0)) (fun _ hk => hk.2) (.slice Ao27 t794.length co27)) (fun _ hk => trivial), by exact hs HB.out⟩
   ·rw [if_neg c10] at H
    have c10b0 : (t793 == 0) = false := beq_eq_false_iff_ne.mpr c10
    have c10b1 : (t793 != 0) = true := bne_iff_ne.mpr c10
    simp only [Option.some.injEq, Prod.mk.injEq] at H
    obtain ⟨rfl, rfl⟩ := H
    go_enter Tryd.func51, Tryd.ntmps51
    go_wp2_with (first | ((with_reducible refine gate_dst (N := 4) rfl ?_); refine box_event ?hg (N := 4) ?hd (cs := #[.slice A0_0 l0_0.length c0_0]) (t := 42) ?hr ?_; (case hd => rfl); (case hg => rfl); (case hr => first | (go_simp; done) | (go_simp; rfl)); intro gb789 hg w29 hbox hb; have n0_ := am (below_step (hq HB.out) hb); have n1_ := am (hbox); have n2_ := am (bz hg (hq HB.out)); have n3_ := n2_; clear HB; revert n0_ n1_ n2_ n3_; intro HB BK789 GW789 GE789; clear hb hbox hg) | ((with_reducible refine gate_dst (N := 8) rfl ?_); refine box_event ?hg (N := 8) ?hd (cs := #[.int .i64 0, .slice none 0 0]) (t := 67) ?hr ?_; (case hd => rfl); (case hg => rfl); (case hr => first | (go_simp; done) | (go_simp; rfl)); intro gb790 hg w30 hbox hb; have n0_ := am (blk_below (bq BK789.out) hb); have n1_ := am (below_step (hs HB.out) hb); have n2_ := am (hbox); have n3_ := am (bz hg (hs HB.out)); have n4_ := n3_; have n5_ := am ((by rw [hg]; exact Nat.ne_of_lt (blk_lt (bq BK789.out)) : gb789 ≠ gb790)); have n6_ := am ((by rw [hg]; exact Nat.ne_of_gt (blk_lt (bq BK789.out)) : gb790 ≠ gb789)); clear BK789 HB; revert n0_ n1_ n2_ n3_ n4_ n5_ n6_; intro BK789 HB BK790 GW790 GE790 NB789_790 NB790_789; clear hb hbox hg; have hnb31 := NB789_790.out; have hnc31 := NB790_789.out; have hcz32_0 : w30.cell? ⟨gb789, 0, none⟩ = some (.slice A0_0 l0_0.length c0_0) := (blk_cell BK789.out 0).trans rfl; have hfz32_0 := blk_frozen BK789.out 0) | ((with_reducible refine gate_callee (f := 99) rfl ?_); refine goesL_ (some 14) rfl rfl Tryd.func99 (by kernel_rfl) rfl #[.agg #[.slice A0_0 l0_0.length c0_0], .slice A1 l1.length c1] rfl el ?_; (with_reducible refine (spec_TermFault.calls k _ _ l0_0 _ _ l1 t791 _ ?side1 ?side2 ?side3 ?side4 A5.out).mono ?_); (case side1 => exact cq (Kd.C_below HR0_0.out HB.out)); (case side2 => exact HC0_0.out); (case side3 => exact cq (Kd.C_below HR1.out HB.out)); (case side4 => exact HC1.out); rintro e w33 ⟨rfl, hb⟩; refine ⟨_, rfl, ?_⟩; have n0_ := am (blk_below (bq BK789.out) hb); have n1_ := am (blk_below (bq BK790.out) hb); have n2_ := am (below_step (hs HB.out) hb); clear BK789 BK790 HB; revert n0_ n1_ n2_; intro BK789 BK790 HB; (try clear hb); (try clear hb2); (try clear hgw); (try clear hk); (try clear hi)) | ((with_reducible refine gate_callee (f := 104) rfl ?_); refine goesL_ (some 21) rfl rfl Tryd.func104 (by kernel_rfl) rfl #[.slice A1 l1.length c1, .int .i64 a2] rfl el ?_; (with_reducible refine (spec_l3Place.calls _ _ l1 a2 true _ ?side1 ?side2 A7.out).mono ?_); (case side1 => exact cq (Kd.C_below HR1.out HB.out)); (case side2 => exact HC1.out); rintro e w' ⟨rfl, ⟨nd, rfl⟩⟩; refine ⟨_, rfl, ?_⟩; (try (rw [drewN_self w33]; generalize hq_ : World.drewN w33 _ = w33; have n0_ : Aside0 (w33.heap[gb789]? = some (.cells #[.slice A0_0 l0_0.length c0_0] 42 (0, 0))) := ⟨by rw [← hq_]; exact (bq BK789.out)⟩; have n1_ : Aside0 (w33.heap[gb790]? = some (.cells #[.int .i64 0, .slice none 0 0] 67 (0, 0))) := ⟨by rw [← hq_]; exact (bq BK790.out)⟩; have n2_ : Aside0 (Below w.heap.size w w33) := ⟨by rw [← hq_]; exact (hs HB.out)⟩; clear BK789 BK790 HB hq_; have BK789 := n0_; have BK790 := n1_; have HB := n2_; clear n0_ n1_ n2_))) | ((with_reducible refine gate_callee (f := 101) rfl ?_); refine goesL_ (some 25) rfl rfl Tryd.func101 (by kernel_rfl) rfl #[.pointer (some ⟨gb789, 0, none⟩), .slice A3 l3.length c3] rfl el ?_; (with_reducible refine (spec_l3Fault.calls k _ [(⟨l0_0⟩ : S42)] _ _ l3 t793 _ ?side1 ?side2 ?side3 A9.out).mono ?_); (case side1 => exact k42_box (bq BK789.out) (cq (Kd.C_below HR0_0.out HB.out)) (by exact HC0_0.out)); (case side2 => exact cq (Kd.C_below HR3.out HB.out)); (case side3 => exact HC3.out); rintro e w' ⟨rfl, ⟨nd, rfl⟩⟩; refine ⟨_, rfl, ?_⟩; (try (rw [drewN_self w33]; generalize hq_ : World.drewN w33 _ = w33; have n0_ : Aside0 (w33.heap[gb789]? = some (.cells #[.slice A0_0 l0_0.length c0_0] 42 (0, 0))) := ⟨by rw [← hq_]; exact (bq BK789.out)⟩; have n1_ : Aside0 (w33.heap[gb790]? = some (.cells #[.int .i64 0, .slice none 0 0] 67 (0, 0))) := ⟨by rw [← hq_]; exact (bq BK790.out)⟩; have n2_ : Aside0 (Below w.heap.size w w33) := ⟨by rw [← hq_]; exact (hs HB.out)⟩; clear BK789 BK790 HB hq_; have BK789 := n0_; have BK790 := n1_; have HB := n2_; clear n0_ n1_ n2_)); have hcz34_0 : w33.cell? ⟨gb790, 0, none⟩ = some (.int .i64 0) := (blk_cell BK790.out 0).trans rfl; have hcz34_1 : w33.cell? ⟨gb790, 1, none⟩ = some (.slice none 0 0) := (blk_cell BK790.out 1).trans rfl; have hfz34_0 := blk_frozen BK790.out 0; have hfz34_1 := blk_frozen BK790.out 1))
    refine bodyPost_ret (results_cell_row rfl _ _ gb790 67 #[.int .i64 t793, .slice none 0 0] (0, 0) _ rfl (by refine bq ?_; refine blk_put (cs := #[.int .i64 t793, .slice none 0 0]) ?_ 1 _ rfl; refine bq ?_; refine blk_put (cs := #[.int .i64 0, .slice none 0 0]) ?_ 0 _ rfl; refine bq ?_; exact BK790.out) Tryd.underlying67 rfl (by kernel_rfl)) rfl ?_
    exact ⟨_, by first | rfl | (simp [errW_none, errW_some] <;> rfl) | (simp [*, errW_none, errW_some] <;> rfl), by first | exact Kd.R_nil _ _ _ _ _ | exact Kd.N_nil _ _ _ _ _ | exact Kd.V_nil _ _ _ _ _ | exact Kd.Q_nil _ _ _ _ _ | exact Kd.S_nil _ _ _ _ _, by exact hs HB.out⟩
  ·replace c8 := Bool.eq_false_iff.mpr c8
   subst c8
   have H1 : (some (3, ([] : List Int))) = some (r1, r2) := by rw [if_neg (show ¬ (false = true) by decide)] at H; exact H
   clear H
   have H := H1
   clear H1
   simp only [Option.some.injEq, Prod.mk.injEq] at H
   obtain ⟨rfl, rfl⟩ := H
   go_enter Tryd.func51, Tryd.ntmps51
   go_wp2_with (first | ((with_reducible refine gate_dst (N := 4) rfl ?_); refine box_event ?hg (N := 4) ?hd (cs := #[.slice A0_0 l0_0.length c0_0]) (t := 42) ?hr ?_; (case hd => rfl); (case hg => rfl); (case hr => first | (go_simp; done) | (go_simp; rfl)); intro gb789 hg w35 hbox hb; have n0_ := am (below_step (hq HB.out) hb); have n1_ := am (hbox); have n2_ := am (bz hg (hq HB.out)); have n3_ := n2_; clear HB; revert n0_ n1_ n2_ n3_; intro HB BK789 GW789 GE789; clear hb hbox hg) | ((with_reducible refine gate_dst (N := 8) rfl ?_); refine box_event ?hg (N := 8) ?hd (cs := #[.int .i64 0, .slice none 0 0]) (t := 67) ?hr ?_; (case hd => rfl); (case hg => rfl); (case hr => first | (go_simp; done) | (go_simp; rfl)); intro gb790 hg w36 hbox hb; have n0_ := am (blk_below (bq BK789.out) hb); have n1_ := am (below_step (hs HB.out) hb); have n2_ := am (hbox); have n3_ := am (bz hg (hs HB.out)); have n4_ := n3_; have n5_ := am ((by rw [hg]; exact Nat.ne_of_lt (blk_lt (bq BK789.out)) : gb789 ≠ gb790)); have n6_ := am ((by rw [hg]; exact Nat.ne_of_gt (blk_lt (bq BK789.out)) : gb790 ≠ gb789)); clear BK789 HB; revert n0_ n1_ n2_ n3_ n4_ n5_ n6_; intro BK789 HB BK790 GW790 GE790 NB789_790 NB790_789; clear hb hbox hg; have hnb37 := NB789_790.out; have hnc37 := NB790_789.out; have hcz38_0 : w36.cell? ⟨gb789, 0, none⟩ = some (.slice A0_0 l0_0.length c0_0) := (blk_cell BK789.out 0).trans rfl; have hfz38_0 := blk_frozen BK789.out 0) | ((with_reducible refine gate_callee (f := 99) rfl ?_); refine goesL_ (some 14) rfl rfl Tryd.func99 (by kernel_rfl) rfl #[.agg #[.slice A0_0 l0_0.length c0_0], .slice A1 l1.length c1] rfl el ?_; (with_reducible refine (spec_TermFault.calls k _ _ l0_0 _ _ l1 t791 _ ?side1 ?side2 ?side3 ?side4 A5.out).mono ?_); (case side1 => exact cq (Kd.C_below HR0_0.out HB.out)); (case side2 => exact HC0_0.out); (case side3 => exact cq (Kd.C_below HR1.out HB.out)); (case side4 => exact HC1.out); rintro e w39 ⟨rfl, hb⟩; refine ⟨_, rfl, ?_⟩; have n0_ := am (blk_below (bq BK789.out) hb); have n1_ := am (blk_below (bq BK790.out) hb); have n2_ := am (below_step (hs HB.out) hb); clear BK789 BK790 HB; revert n0_ n1_ n2_; intro BK789 BK790 HB; (try clear hb); (try clear hb2); (try clear hgw); (try clear hk); (try clear hi)) | ((with_reducible refine gate_callee (f := 104) rfl ?_); refine goesL_ (some 21) rfl rfl Tryd.func104 (by kernel_rfl) rfl #[.slice A1 l1.length c1, .int .i64 a2] rfl el ?_; (with_reducible refine (spec_l3Place.calls _ _ l1 a2 false _ ?side1 ?side2 A7.out).mono ?_); (case side1 => exact cq (Kd.C_below HR1.out HB.out)); (case side2 => exact HC1.out); rintro e w' ⟨rfl, ⟨nd, rfl⟩⟩; refine ⟨_, rfl, ?_⟩; (try (rw [drewN_self w39]; generalize hq_ : World.drewN w39 _ = w39; have n0_ : Aside0 (w39.heap[gb789]? = some (.cells #[.slice A0_0 l0_0.length c0_0] 42 (0, 0))) := ⟨by rw [← hq_]; exact (bq BK789.out)⟩; have n1_ : Aside0 (w39.heap[gb790]? = some (.cells #[.int .i64 0, .slice none 0 0] 67 (0, 0))) := ⟨by rw [← hq_]; exact (bq BK790.out)⟩; have n2_ : Aside0 (Below w.heap.size w w39) := ⟨by rw [← hq_]; exact (hs HB.out)⟩; clear BK789 BK790 HB hq_; have BK789 := n0_; have BK790 := n1_; have HB := n2_; clear n0_ n1_ n2_)); have hcz40_0 : w39.cell? ⟨gb790, 0, none⟩ = some (.int .i64 0) := (blk_cell BK790.out 0).trans rfl; have hcz40_1 : w39.cell? ⟨gb790, 1, none⟩ = some (.slice none 0 0) := (blk_cell BK790.out 1).trans rfl; have hfz40_0 := blk_frozen BK790.out 0; have hfz40_1 := blk_frozen BK790.out 1))
   refine bodyPost_ret (results_cell_row rfl _ _ gb790 67 #[.int .i64 3, .slice none 0 0] (0, 0) _ rfl (by refine bq ?_; refine blk_put (cs := #[.int .i64 3, .slice none 0 0]) ?_ 1 _ rfl; refine bq ?_; refine blk_put (cs := #[.int .i64 0, .slice none 0 0]) ?_ 0 _ rfl; refine bq ?_; exact BK790.out) Tryd.underlying67 rfl (by kernel_rfl)) rfl ?_
   exact ⟨_, by first | rfl | (simp [errW_none, errW_some] <;> rfl) | (simp [*, errW_none, errW_some] <;> rfl), by first | exact Kd.R_nil _ _ _ _ _ | exact Kd.N_nil _ _ _ _ _ | exact Kd.V_nil _ _ _ _ _ | exact Kd.Q_nil _ _ _ _ _ | exact Kd.S_nil _ _ _ _ _, by exact hs HB.out⟩
 ·rw [if_neg c6] at H
  have c6b0 : (t791 == 0) = false := beq_eq_false_iff_ne.mpr c6
  have c6b1 : (t791 != 0) = true := bne_iff_ne.mpr c6
  simp only [Option.some.injEq, Prod.mk.injEq] at H
  obtain ⟨rfl, rfl⟩ := H
  go_enter Tryd.func51, Tryd.ntmps51
  go_wp2_with (first | ((with_reducible refine gate_dst (N := 4) rfl ?_); refine box_event ?hg (N := 4) ?hd (cs := #[.slice A0_0 l0_0.length c0_0]) (t := 42) ?hr ?_; (case hd => rfl); (case hg => rfl); (case hr => first | (go_simp; done) | (go_simp; rfl)); intro gb789 hg w41 hbox hb; have n0_ := am (below_step (hq HB.out) hb); have n1_ := am (hbox); have n2_ := am (bz hg (hq HB.out)); have n3_ := n2_; clear HB; revert n0_ n1_ n2_ n3_; intro HB BK789 GW789 GE789; clear hb hbox hg) | ((with_reducible refine gate_dst (N := 8) rfl ?_); refine box_event ?hg (N := 8) ?hd (cs := #[.int .i64 0, .slice none 0 0]) (t := 67) ?hr ?_; (case hd => rfl); (case hg => rfl); (case hr => first | (go_simp; done) | (go_simp; rfl)); intro gb790 hg w42 hbox hb; have n0_ := am (blk_below (bq BK789.out) hb); have n1_ := am (below_step (hs HB.out) hb); have n2_ := am (hbox); have n3_ := am (bz hg (hs HB.out)); have n4_ := n3_; have n5_ := am ((by rw [hg]; exact Nat.ne_of_lt (blk_lt (bq BK789.out)) : gb789 ≠ gb790)); have n6_ := am ((by rw [hg]; exact Nat.ne_of_gt (blk_lt (bq BK789.out)) : gb790 ≠ gb789)); clear BK789 HB; revert n0_ n1_ n2_ n3_ n4_ n5_ n6_; intro BK789 HB BK790 GW790 GE790 NB789_790 NB790_789; clear hb hbox hg; have hnb43 := NB789_790.out; have hnc43 := NB790_789.out; have hcz44_0 : w42.cell? ⟨gb789, 0, none⟩ = some (.slice A0_0 l0_0.length c0_0) := (blk_cell BK789.out 0).trans rfl; have hfz44_0 := blk_frozen BK789.out 0) | ((with_reducible refine gate_callee (f := 99) rfl ?_); refine goesL_ (some 14) rfl rfl Tryd.func99 (by kernel_rfl) rfl #[.agg #[.slice A0_0 l0_0.length c0_0], .slice A1 l1.length c1] rfl el ?_; (with_reducible refine (spec_TermFault.calls k _ _ l0_0 _ _ l1 t791 _ ?side1 ?side2 ?side3 ?side4 A5.out).mono ?_); (case side1 => exact cq (Kd.C_below HR0_0.out HB.out)); (case side2 => exact HC0_0.out); (case side3 => exact cq (Kd.C_below HR1.out HB.out)); (case side4 => exact HC1.out); rintro e w45 ⟨rfl, hb⟩; refine ⟨_, rfl, ?_⟩; have n0_ := am (blk_below (bq BK789.out) hb); have n1_ := am (blk_below (bq BK790.out) hb); have n2_ := am (below_step (hs HB.out) hb); clear BK789 BK790 HB; revert n0_ n1_ n2_; intro BK789 BK790 HB; (try clear hb); (try clear hb2); (try clear hgw); (try clear hk); (try clear hi); have hcz46_0 : w45.cell? ⟨gb790, 0, none⟩ = some (.int .i64 0) := (blk_cell BK790.out 0).trans rfl; have hcz46_1 : w45.cell? ⟨gb790, 1, none⟩ = some (.slice none 0 0) := (blk_cell BK790.out 1).trans rfl; have hfz46_0 := blk_frozen BK790.out 0; have hfz46_1 := blk_frozen BK790.out 1))
  refine bodyPost_ret (results_cell_row rfl _ _ gb790 67 #[.int .i64 t791, .slice none 0 0] (0, 0) _ rfl (by refine bq ?_; refine blk_put (cs := #[.int .i64 t791, .slice none 0 0]) ?_ 1 _ rfl; refine bq ?_; refine blk_put (cs := #[.int .i64 0, .slice none 0 0]) ?_ 0 _ rfl; refine bq ?_; exact BK790.out) Tryd.underlying67 rfl (by kernel_rfl)) rfl ?_
  exact ⟨_, by first | rfl | (simp [errW_none, errW_some] <;> rfl) | (simp [*, errW_none, errW_some] <;> rfl), by first | exact Kd.R_nil _ _ _ _ _ | exact Kd.N_nil _ _ _ _ _ | exact Kd.V_nil _ _ _ _ _ | exact Kd.Q_nil _ _ _ _ _ | exact Kd.S_nil _ _ _ _ _, by exact hs HB.out⟩
end Go.Proofs.YtedkbpbodkmhlaaDoor.P
namespace Go.Proofs.YtedkbpbodkmhlaaDoor.P
open Go.RowKit Go.Proofs.YtedkbpbodkmhlaaDoorW.PrintWords Go.Proofs.YtedkbpbodkmhlaaDoorW.PrintLast Go.Proofs.YtedkbpbodkmhlaaDoorW.PrintMore
attribute [local go_sem] max2_int min2_int max_two min_two max_three min_three max_four min_four   -- for this text's walks alone
set_option linter.unusedVariables false
set_option linter.unusedSimpArgs false
def cmp_Or_int64.l0 : Nat → Int → List Int → Int → Int → Option (Int)
 | 0, _, _, _, _ => none
 | k + 1, x3, x6, x7, x8 => if x8 < x7 then (if 0 ≤ x8 then (if x8 < (x6.length : Int) then (if (rd x6 x8) = x3 then (cmp_Or_int64.l0 k x3 x6 x7 (wrap64 (x8 + 1))) else (some (rd x6 x8))) else (none)) else (none)) else (some x3)
def cmp_Or_int64.f (k : Nat) (l0 : List Int) : Option (Int) := cmp_Or_int64.l0 k 0 l0 (l0.length : Int) 0
set_option maxHeartbeats 8000000 in
set_option maxRecDepth 100000 in
theorem cmp_Or_int64.calls (k : Nat) (A0 : Option Addr) (c0 : Nat) (l0 : List Int) (r : Int) (w : World) (hr0 : Kd.C (Kd.int .i64) w A0 l0.length l0) (hc0 : l0.length ≤ c0) (h : cmp_Or_int64.f k l0 = some r) :
  Calls Tryd.prog 144 #[.slice A0 l0.length c0] w fun e w' => e = .returned (.int .i64 r) ∧ Drawn0 w w' := by
 have HR0 := am hr0
 have HC0 := am hc0
 clear hr0 hc0
 have H : (cmp_Or_int64.l0 k 0 l0 (l0.length : Int) 0) = some r := h
 clear h
 have H' := am H
 clear H
 go_enter Tryd.func144, Tryd.ntmps144
 go_wp2
 go_loopg [8] k (fun kq v8 w' => ∃ (x8_1 : Int), v8 = .int .i64 x8_1 ∧ Aside0 (cmp_Or_int64.l0 kq 0 l0 (l0.length : Int) x8_1 = some r) ∧ Aside0 (kq ≤ k) ∧ Drawn0 w w')
 case atStart => exact ⟨(0), (by first | rfl | (simp; done) | (simp [*]; done)), H', ⟨Nat.le_refl _⟩, by repeat (first | exact Drawn0.refl _ | apply Drawn0.step)⟩
 case round =>
  clear H'
  try clear c1
  obtain ⟨x8_1, rfl, HA, HK1, ⟨m1, rfl⟩⟩ := hrel
  cases gk with
  | zero => exact absurd HA.out (by simp [cmp_Or_int64.l0])
  | succ k1 =>
   have H := HA.out
   clear HA
   simp only [cmp_Or_int64.l0] at H
   by_cases c2 : x8_1 < (l0.length : Int)
   ·rw [if_pos c2] at H
    have c2b0 : decide (x8_1 < (l0.length : Int)) = true := decide_eq_true c2
    clear c2
    by_cases c3 : 0 ≤ x8_1
    ·rw [if_pos c3] at H
     have c3b0 : decide (0 ≤ x8_1) = true := decide_eq_true c3
     clear c3
     by_cases c4 : x8_1 < (l0.length : Int)
     ·rw [if_pos c4] at H
      have c4b0 : decide (x8_1 < (l0.length : Int)) = true := decide_eq_true c4
      clear c4
      by_cases c5 : (rd l0 x8_1) = 0
      ·rw [if_pos c5] at H
       have c5b0 : ((rd l0 x8_1) == 0) = true := beq_iff_eq.mpr c5
       have c5b1 : ((rd l0 x8_1) != 0) = false := bne_eq_false_iff_eq.mpr c5
       clear c5
       have H' := am H
       clear H
       have p797 : 0 ≤ (x8_1 : Int) := of_decide_eq_true (by first | (with_reducible assumption) | assumption)
       have q797 : x8_1 < (l0.length : Int) := of_decide_eq_true (by first | (with_reducible assumption) | assumption)
       obtain ⟨ad797, e797, hx797_0⟩ := Kd.at_int HR0.out x8_1 p797 q797
       cases e797
       replace p797 := eq_true p797
       replace q797 := eq_true q797
       go_wp2
       go_roundg k1
       case measure => have := HK1.out; omega
       case rel => exact ⟨(wrap64 (x8_1 + 1)), (by first | rfl | (simp; done) | (simp [*]; done)), H', ⟨by have := HK1.out; omega⟩, by repeat (first | exact Drawn0.refl _ | apply Drawn0.step)⟩
      ·rw [if_neg c5] at H
       have c5b0 : ((rd l0 x8_1) == 0) = false := beq_eq_false_iff_ne.mpr c5
       have c5b1 : ((rd l0 x8_1) != 0) = true := bne_iff_ne.mpr c5
       obtain rfl := Option.some.inj H
       have p797 : 0 ≤ (x8_1 : Int) := of_decide_eq_true (by first | (with_reducible assumption) | assumption)
       have q797 : x8_1 < (l0.length : Int) := of_decide_eq_true (by first | (with_reducible assumption) | assumption)
       obtain ⟨ad797, e797, hx797_0⟩ := Kd.at_int HR0.out x8_1 p797 q797
       cases e797
       replace p797 := eq_true p797
       replace q797 := eq_true q797
       go_wp2
       go_ret
       exact ⟨by first | rfl | (simp; done) | (simp [*]; done), by repeat (first | exact Drawn0.refl _ | apply Drawn0.step)⟩
     ·rw [if_neg c4] at H
      exact absurd H (by simp)
    ·rw [if_neg c3] at H
     exact absurd H (by simp)
   ·rw [if_neg c2] at H
    have c2b0 : decide (x8_1 < (l0.length : Int)) = false := decide_eq_false c2
    clear c2
    obtain rfl := Option.some.inj H
    go_wp2
    go_ret
    exact ⟨by first | rfl | (simp; done) | (simp [*]; done), by repeat (first | exact Drawn0.refl _ | apply Drawn0.step)⟩
def impl_firstCode.f (k : Nat) (l0 : List Int) : Option (Int) := (cmp_Or_int64.f k l0).bind fun t798 => (some t798)
set_option maxHeartbeats 8000000 in
set_option maxRecDepth 100000 in
theorem impl_firstCode.calls (k : Nat) (A0 : Option Addr) (c0 : Nat) (l0 : List Int) (r : Int) (w : World) (hr0 : Kd.C (Kd.int .i64) w A0 l0.length l0) (hc0 : l0.length ≤ c0) (h : impl_firstCode.f k l0 = some r) :
  Calls Tryd.prog 106 #[.slice A0 l0.length c0] w fun e w' => e = .returned (.int .i64 r) ∧ Below w.heap.size w w' := by
 have HR0 := am hr0
 have HC0 := am hc0
 clear hr0 hc0
 have HB := am (Below.refl w.heap.size w)
 have H : ((cmp_Or_int64.f k l0).bind fun t798 => (some t798)) = some r := h
 clear h
 replace H := Option.bind_eq_some_iff.mp H
 obtain ⟨t798, A20, H⟩ := H
 replace H : (some t798) = some r := H
 have A2 := am A20
 clear A20
 obtain rfl := Option.some.inj H
 go_enter Tryd.func106, Tryd.ntmps106
 go_wp2_with (first | ((with_reducible refine gate_callee (f := 144) rfl ?_); refine goesL_ (some 4) rfl rfl Tryd.func144 (by kernel_rfl) rfl #[.slice A0 l0.length c0] rfl el ?_; (with_reducible refine (cmp_Or_int64.calls k _ _ l0 t798 _ ?side1 ?side2 A2.out).mono ?_); (case side1 => exact cq HR0.out); (case side2 => exact HC0.out); rintro e w' ⟨rfl, ⟨nd, rfl⟩⟩; refine ⟨_, rfl, ?_⟩))
 go_ret
 exact ⟨by first | rfl | (simp [errW_none, errW_some] <;> rfl) | (simp [*, errW_none, errW_some] <;> rfl), by exact hq HB.out⟩
def impl_placeFault.f (k : Nat) (l0_0 : List (S99)) (l1 : List Int) (a2 : Int) : Option (Int) := (impl_TermFault.f k l0_0 l1).bind fun t800 => (if t800 = 0 then ((impl_within.f a2 0 (wrap64 ((l1.length : Int) - 1))).bind fun t801 => (if t801 = true then (some 0) else (some 3))) else (some t800))
set_option maxHeartbeats 8000000 in
set_option maxRecDepth 100000 in
theorem impl_placeFault.calls (k : Nat) (A0_0 : Option Addr) (c0_0 : Nat) (l0_0 : List (S99)) (A1 : Option Addr) (c1 : Nat) (l1 : List Int) (a2 : Int) (r : Int) (w : World) (hr0_0 : Kd.C k99 w A0_0 l0_0.length l0_0) (hc0_0 : l0_0.length ≤ c0_0) (hr1 : Kd.C (Kd.int .i64) w A1 l1.length l1) (hc1 : l1.length ≤ c1) (h : impl_placeFault.f k l0_0 l1 a2 = some r) :
  Calls Tryd.prog 107 #[.agg #[.slice A0_0 l0_0.length c0_0], .slice A1 l1.length c1, .int .i64 a2] w fun e w' => e = .returned (.int .i64 r) ∧ Below w.heap.size w w' := by
 have hu42 := Tryd.underlying42
 have HR0_0 := am hr0_0
 have HC0_0 := am hc0_0
 clear hr0_0 hc0_0
 have HR1 := am hr1
 have HC1 := am hc1
 clear hr1 hc1
 have HB := am (Below.refl w.heap.size w)
 have H : ((impl_TermFault.f k l0_0 l1).bind fun t800 => (if t800 = 0 then ((impl_within.f a2 0 (wrap64 ((l1.length : Int) - 1))).bind fun t801 => (if t801 = true then (some 0) else (some 3))) else (some t800))) = some r := h
 clear h
 replace H := Option.bind_eq_some_iff.mp H
 obtain ⟨t800, A40, H⟩ := H
 replace H : (if t800 = 0 then ((impl_within.f a2 0 (wrap64 ((l1.length : Int) - 1))).bind fun t801 => (if t801 = true then (some 0) else (some 3))) else (some t800)) = some r := H
 have A4 := am A40
 clear A40
 by_cases c5 : t800 = 0
 ·rw [if_pos c5] at H
  have c5b0 : (t800 == 0) = true := beq_iff_eq.mpr c5
  have c5b1 : (t800 != 0) = false := bne_eq_false_iff_eq.mpr c5
  clear c5
  replace H := Option.bind_eq_some_iff.mp H
  obtain ⟨t801, A60, H⟩ := H
  replace H : (if t801 = true then (some 0) else (some 3)) = some r := H
  have A6 := am A60
  clear A60
  by_cases c7 : t801 = true
  ·subst c7
   have H1 : (some 0) = some r := by rw [if_pos rfl] at H; exact H
   clear H
   have H := H1
   clear H1
   obtain rfl := Option.some.inj H
   go_enter Tryd.func107, Tryd.ntmps107
   go_wp2_with (first | ((with_reducible refine gate_dst (N := 3) rfl ?_); refine box_event ?hg (N := 3) ?hd (cs := #[.slice A0_0 l0_0.length c0_0]) (t := 42) ?hr ?_; (case hd => rfl); (case hg => rfl); (case hr => first | (go_simp; done) | (go_simp; rfl)); intro gb799 hg w8 hbox hb; have n0_ := am (below_step (hq HB.out) hb); have n1_ := am (hbox); have n2_ := am (bz hg (hq HB.out)); have n3_ := n2_; clear HB; revert n0_ n1_ n2_ n3_; intro HB BK799 GW799 GE799; clear hb hbox hg; have hcz9_0 : w8.cell? ⟨gb799, 0, none⟩ = some (.slice A0_0 l0_0.length c0_0) := (blk_cell BK799.out 0).trans rfl; have hfz9_0 := blk_frozen BK799.out 0) | ((with_reducible refine gate_callee (f := 58) rfl ?_); refine goesL_ (some 10) rfl rfl Tryd.func58 (by kernel_rfl) rfl #[.agg #[.slice A0_0 l0_0.length c0_0], .slice A1 l1.length c1] rfl el ?_; (with_reducible refine (impl_TermFault.calls k _ _ l0_0 _ _ l1 t800 _ ?side1 ?side2 ?side3 ?side4 A4.out).mono ?_); (case side1 => exact cq (Kd.C_below HR0_0.out HB.out)); (case side2 => exact HC0_0.out); (case side3 => exact cq (Kd.C_below HR1.out HB.out)); (case side4 => exact HC1.out); rintro e w10 ⟨rfl, hb⟩; refine ⟨_, rfl, ?_⟩; have n0_ := am (blk_below (bq BK799.out) hb); have n1_ := am (below_step (hs HB.out) hb); clear BK799 HB; revert n0_ n1_; intro BK799 HB; (try clear hb); (try clear hb2); (try clear hgw); (try clear hk); (try clear hi)) | ((with_reducible refine gate_callee (f := 70) rfl ?_); refine goesL_ (some 18) rfl rfl Tryd.func70 (by kernel_rfl) rfl #[.int .i64 a2, .int .i64 0, .int .i64 (wrap64 ((l1.length : Int) - 1))] rfl el ?_; (with_reducible refine (impl_within.calls a2 0 (wrap64 ((l1.length : Int) - 1)) true _ A6.out).mono ?_); rintro e w' ⟨rfl, ⟨nd, rfl⟩⟩; refine ⟨_, rfl, ?_⟩))
   go_ret
   exact ⟨by first | rfl | (simp [errW_none, errW_some] <;> rfl) | (simp [*, errW_none, errW_some] <;> rfl), by exact hs HB.out⟩
  ·replace c7 := Bool.eq_false_iff.mpr c7
   subst c7
   have H1 : (some 3) = some r := by rw [if_neg (show ¬ (false = true) by decide)] at H; exact H
   clear H
   have H := H1
   clear H1
   obtain rfl := Option.some.inj H
   go_enter Tryd.func107, Tryd.ntmps107
   go_wp2_with (first | ((with_reducible refine gate_dst (N := 3) rfl ?_); refine box_event ?hg (N := 3) ?hd (cs := #[.slice A0_0 l0_0.length c0_0]) (t := 42) ?hr ?_; (case hd => rfl); (case hg => rfl); (case hr => first | (go_simp; done) | (go_simp; rfl)); intro gb799 hg w11 hbox hb; have n0_ := am (below_step (hq HB.out) hb); have n1_ := am (hbox); have n2_ := am (bz hg (hq HB.out)); have n3_ := n2_; clear HB; revert n0_ n1_ n2_ n3_; intro HB BK799 GW799 GE799; clear hb hbox hg; have hcz12_0 : w11.cell? ⟨gb799, 0, none⟩ = some (.slice A0_0 l0_0.length c0_0) := (blk_cell BK799.out 0).trans rfl; have hfz12_0 := blk_frozen BK799.out 0) | ((with_reducible refine gate_callee (f := 58) rfl ?_); refine goesL_ (some 10) rfl rfl Tryd.func58 (by kernel_rfl) rfl #[.agg #[.slice A0_0 l0_0.length c0_0], .slice A1 l1.length c1] rfl el ?_; (with_reducible refine (impl_TermFault.calls k _ _ l0_0 _ _ l1 t800 _ ?side1 ?side2 ?side3 ?side4 A4.out).mono ?_); (case side1 => exact cq (Kd.C_below HR0_0.out HB.out)); (case side2 => exact HC0_0.out); (case side3 => exact cq (Kd.C_below HR1.out HB.out)); (case side4 => exact HC1.out); rintro e w13 ⟨rfl, hb⟩; refine ⟨_, rfl, ?_⟩; have n0_ := am (blk_below (bq BK799.out) hb); have n1_ := am (below_step (hs HB.out) hb); clear BK799 HB; revert n0_ n1_; intro BK799 HB; (try clear hb); (try clear hb2); (try clear hgw); (try clear hk); (try clear hi)) | ((with_reducible refine gate_callee (f := 70) rfl ?_); refine goesL_ (some 18) rfl rfl Tryd.func70 (by kernel_rfl) rfl #[.int .i64 a2, .int .i64 0, .int .i64 (wrap64 ((l1.length : Int) - 1))] rfl el ?_; (with_reducible refine (impl_within.calls a2 0 (wrap64 ((l1.length : Int) - 1)) false _ A6.out).mono ?_); rintro e w' ⟨rfl, ⟨nd, rfl⟩⟩; refine ⟨_, rfl, ?_⟩))
   go_ret
   exact ⟨by first | rfl | (simp [errW_none, errW_some] <;> rfl) | (simp [*, errW_none, errW_some] <;> rfl), by exact hs HB.out⟩
 ·rw [if_neg c5] at H
  have c5b0 : (t800 == 0) = false := beq_eq_false_iff_ne.mpr c5
  have c5b1 : (t800 != 0) = true := bne_iff_ne.mpr c5
  obtain rfl := Option.some.inj H
  go_enter Tryd.func107, Tryd.ntmps107
  go_wp2_with (first | ((with_reducible refine gate_dst (N := 3) rfl ?_); refine box_event ?hg (N := 3) ?hd (cs := #[.slice A0_0 l0_0.length c0_0]) (t := 42) ?hr ?_; (case hd => rfl); (case hg => rfl); (case hr => first | (go_simp; done) | (go_simp; rfl)); intro gb799 hg w14 hbox hb; have n0_ := am (below_step (hq HB.out) hb); have n1_ := am (hbox); have n2_ := am (bz hg (hq HB.out)); have n3_ := n2_; clear HB; revert n0_ n1_ n2_ n3_; intro HB BK799 GW799 GE799; clear hb hbox hg; have hcz15_0 : w14.cell? ⟨gb799, 0, none⟩ = some (.slice A0_0 l0_0.length c0_0) := (blk_cell BK799.out 0).trans rfl; have hfz15_0 := blk_frozen BK799.out 0) | ((with_reducible refine gate_callee (f := 58) rfl ?_); refine goesL_ (some 10) rfl rfl Tryd.func58 (by kernel_rfl) rfl #[.agg #[.slice A0_0 l0_0.length c0_0], .slice A1 l1.length c1] rfl el ?_; (with_reducible refine (impl_TermFault.calls k _ _ l0_0 _ _ l1 t800 _ ?side1 ?side2 ?side3 ?side4 A4.out).mono ?_); (case side1 => exact cq (Kd.C_below HR0_0.out HB.out)); (case side2 => exact HC0_0.out); (case side3 => exact cq (Kd.C_below HR1.out HB.out)); (case side4 => exact HC1.out); rintro e w16 ⟨rfl, hb⟩; refine ⟨_, rfl, ?_⟩; have n0_ := am (blk_below (bq BK799.out) hb); have n1_ := am (below_step (hs HB.out) hb); clear BK799 HB; revert n0_ n1_; intro BK799 HB; (try clear hb); (try clear hb2); (try clear hgw); (try clear hk); (try clear hi)))
  go_ret
  exact ⟨by first | rfl | (simp [errW_none, errW_some] <;> rfl) | (simp [*, errW_none, errW_some] <;> rfl), by exact hs HB.out⟩
def impl_fitting.f (l0 : List Int) : Option (Int × List Int) := if (l0.length : Int) > 24 then (some (2, ([] : List Int))) else (some (0, l0))
set_option maxHeartbeats 8000000 in
set_option maxRecDepth 100000 in
theorem impl_fitting.calls (P0_ : Nat → Prop) (u9000_ : Value) (l0 : List Int) (r1 : Int) (r2 : List Int) (w0 w : World) (hB : Below w0.heap.size w0 w) (ho0 : Kd.R (Kd.int .i64) 2 w w0.heap.size P0_ u9000_ l0) (h : impl_fitting.f l0 = some (r1, r2)) :
  Calls Tryd.prog 108 #[u9000_] w fun e w' => ∃ v1_ : Value, e = .returned (.agg #[.int .i64 r1, v1_]) ∧ Kd.R (Kd.int .i64) 2 w' w0.heap.size (fun k_ => (P0_ k_ ∨ w.heap.size ≤ k_)) v1_ r2 ∧ Below w0.heap.size w0 w' ∧ Kept w w' (fun k_ => P0_ k_) := by
 have hu67 := Tryd.underlying67
 have HO0 := am (show Kd.R (Kd.int .i64) 2 w w0.heap.size (fun k_ => (P0_ k_ ∨ w.heap.size ≤ k_)) u9000_ l0 from Kd.R_mono ho0 (fun k_ hk => (.inl hk)))
 have HK := am (Kept.refl w (fun k_ => P0_ k_))
 have HW0 := am hB.size
 have HB := am hB
 clear hB
 have H : (if (l0.length : Int) > 24 then (some (2, ([] : List Int))) else (some (0, l0))) = some (r1, r2) := h
 clear h
 by_cases c2 : (l0.length : Int) > 24
 ·rw [if_pos c2] at H
  have c2b0 : decide (24 < (l0.length : Int)) = true := decide_eq_true c2
  have c2b1 : decide (24 < l0.length) = true := decide_eq_true (by omega)
  clear c2
  simp only [Option.some.injEq, Prod.mk.injEq] at H
  obtain ⟨rfl, rfl⟩ := H
  go_enter Tryd.func108, Tryd.ntmps108
  go_wp2_with (first | ((with_reducible refine gate_dst (N := 2) rfl ?_); refine box_event ?hg (N := 2) ?hd (cs := #[.int .i64 0, .slice none 0 0]) (t := 67) ?hr ?_; (case hd => rfl); (case hg => rfl); (case hr => first | (go_simp; done) | (go_simp; rfl)); intro gb802 hg w3 hbox hb; have n0_ := am (Kd.R_below (rq HO0.out) hb); have n1_ := am (Kept.below (S := (fun k_ => P0_ k_)) (by repeat (first | (with_reducible first | exact HK.out | apply Kept.alloc | apply Kept.drewN | apply Kept.drew) | exact HK.out)) hb); have n2_ := am (below_step (hq HB.out) hb); have n3_ := am (hbox); have n4_ := am ((by rw [hg]; exact (by first | exact HK.out.1 | exact (show Kept w _ (fun k_ => P0_ k_) from by repeat (first | (with_reducible first | exact HK.out | apply Kept.alloc | apply Kept.drewN | apply Kept.drew) | exact HK.out)).1) : w.heap.size ≤ gb802)); have n5_ := am (bz hg (hq HB.out)); clear HO0 HK HB; revert n0_ n1_ n2_ n3_ n4_ n5_; intro HO0 HK HB BK802 GW802 GE802; clear hb hbox hg; obtain ⟨Ao4, co4, eo4⟩ := Kd.R_slice HO0.out; subst eo4; have hcz5_0 : w3.cell? ⟨gb802, 0, none⟩ = some (.int .i64 0) := (blk_cell BK802.out 0).trans rfl; have hcz5_1 : w3.cell? ⟨gb802, 1, none⟩ = some (.slice none 0 0) := (blk_cell BK802.out 1).trans rfl; have hfz5_0 := blk_frozen BK802.out 0; have hfz5_1 := blk_frozen BK802.out 1))
  refine bodyPost_ret (results_cell_row rfl _ _ gb802 67 #[.int .i64 2, .slice none 0 0] (0, 0) _ rfl (by refine bq ?_; refine blk_put (cs := #[.int .i64 2, .slice none 0 0]) ?_ 1 _ rfl; refine bq ?_; refine blk_put (cs := #[.int .i64 0, .slice none 0 0]) ?_ 0 _ rfl; refine bq ?_; exact BK802.out) Tryd.underlying67 rfl (by kernel_rfl)) rfl ?_
  exact ⟨_, by first | rfl | (simp [errW_none, errW_some] <;> rfl) | (simp [*, errW_none, errW_some] <;> rfl), by first | exact Kd.R_nil _ _ _ _ _ | exact Kd.N_nil _ _ _ _ _ | exact Kd.V_nil _ _ _ _ _ | exact Kd.Q_nil _ _ _ _ _ | exact Kd.S_nil _ _ _ _ _, by exact hs HB.out, by repeat (first | (with_reducible first | exact HK.out | apply Kept.alloc | apply Kept.drewN | apply Kept.drew | refine Kept.setCell ?_ (.inr GW802.out) _) | exact HK.out)⟩
 ·rw [if_neg c2] at H
  have c2b0 : decide (24 < (l0.length : Int)) = false := decide_eq_false c2
  have c2b1 : decide (24 < l0.length) = false := decide_eq_false (by omega)
  clear c2
  simp only [Option.some.injEq, Prod.mk.injEq] at H
  obtain ⟨rfl, rfl⟩ := H
  go_enter Tryd.func108, Tryd.ntmps108
  go_wp2_with (first | ((with_reducible refine gate_dst (N := 2) rfl ?_); refine box_event ?hg (N := 2) ?hd (cs := #[.int .i64 0, .slice none 0 0]) (t := 67) ?hr ?_; (case hd => rfl); (case hg => rfl); (case hr => first | (go_simp; done) | (go_simp; rfl)); intro gb802 hg w6 hbox hb; have n0_ := am (Kd.R_below (rq HO0.out) hb); have n1_ := am (Kept.below (S := (fun k_ => P0_ k_)) (by repeat (first | (with_reducible first | exact HK.out | apply Kept.alloc | apply Kept.drewN | apply Kept.drew) | exact HK.out)) hb); have n2_ := am (below_step (hq HB.out) hb); have n3_ := am (hbox); have n4_ := am ((by rw [hg]; exact (by first | exact HK.out.1 | exact (show Kept w _ (fun k_ => P0_ k_) from by repeat (first | (with_reducible first | exact HK.out | apply Kept.alloc | apply Kept.drewN | apply Kept.drew) | exact HK.out)).1) : w.heap.size ≤ gb802)); have n5_ := am (bz hg (hq HB.out)); clear HO0 HK HB; revert n0_ n1_ n2_ n3_ n4_ n5_; intro HO0 HK HB BK802 GW802 GE802; clear hb hbox hg; obtain ⟨Ao7, co7, eo7⟩ := Kd.R_slice HO0.out; subst eo7; have hcz8_0 : w6.cell? ⟨gb802, 0, none⟩ = some (.int .i64 0) := (blk_cell BK802.out 0).trans rfl; have hcz8_1 : w6.cell? ⟨gb802, 1, none⟩ = some (.slice none 0 0) := (blk_cell BK802.out 1).trans rfl; have hfz8_0 := blk_frozen BK802.out 0; have hfz8_1 := blk_frozen BK802.out 1))
  refine bodyPost_ret (results_cell_row rfl _ _ gb802 67 #[.int .i64 0, .slice Ao7 l0.length co7] (0, 0) _ rfl (by refine bq ?_; refine blk_put (cs := #[.int .i64 0, .slice none 0 0]) ?_ 1 _ rfl; refine bq ?_; refine blk_put (cs := #[.int .i64 0, .slice none 0 0]) ?_ 0 _ rfl; refine bq ?_; exact BK802.out) Tryd.underlying67 rfl (by kernel_rfl)) rfl ?_
  exact ⟨_, by first | rfl | (simp [errW_none, errW_some] <;> rfl) | (simp [*, errW_none, errW_some] <;> rfl), by (with_reducible repeat (first | apply Kd.R_alloc | apply Kd.R_drewN | apply Kd.R_drew)); exact Kd.R_mono (Kd.R_far (p := ⟨gb802, 1, none⟩) (Kd.R_far (p := ⟨gb802, 0, none⟩) (Kd.R_types HO0.out BK802.out (by decide)) (fun _ hk => hk.2) (.int .i64 0)) (fun _ hk => hk.2) (.slice Ao7 l0.length co7)) (fun _ hk => hk.1), by exact hs HB.out, by repeat (first | (with_reducible first | exact HK.out | apply Kept.alloc | apply Kept.drewN | apply Kept.drew | refine Kept.setCell ?_ (.inr GW802.out) _) | exact HK.out)⟩
def impl_replaced.f (k : Nat) (l0_0 : List (S99)) (l1 : List Int) (a2 : Int) (l3 : List Int) : Option (List Int) := if 0 ≤ a2 then (if a2 ≤ (l1.length : Int) then ((slices_Clone_int64_int64.f (l1.take (a2 : Int).toNat)).bind fun t805 => (if t805.length + l3.length < 17592186044416 then ((some (t805 ++ l3 : List Int)).bind fun y808 => ((impl_endOf.f k l0_0 l1 a2).bind fun t811 => (if 0 ≤ t811 then (if t811 ≤ (l1.length : Int) then (if y808.length + (l1.drop (t811 : Int).toNat).length < 17592186044416 then (some (y808 ++ (l1.drop (t811 : Int).toNat))) else (none)) else (none)) else (none)))) else (none))) else (none)) else (none)
set_option maxHeartbeats 8000000 in
set_option maxRecDepth 100000 in
theorem impl_replaced.calls (k : Nat) (A0_0 : Option Addr) (c0_0 : Nat) (l0_0 : List (S99)) (A1 : Option Addr) (c1 : Nat) (l1 : List Int) (a2 : Int) (A3 : Option Addr) (c3 : Nat) (l3 : List Int) (r : List Int) (w : World) (hr0_0 : Kd.C k99 w A0_0 l0_0.length l0_0) (hc0_0 : l0_0.length ≤ c0_0) (hr1 : Kd.C (Kd.int .i64) w A1 l1.length l1) (hc1 : l1.length ≤ c1) (hr3 : Kd.C (Kd.int .i64) w A3 l3.length l3) (hc3 : l3.length ≤ c3) (h : impl_replaced.f k l0_0 l1 a2 l3 = some r) :
  Calls Tryd.prog 109 #[.agg #[.slice A0_0 l0_0.length c0_0], .slice A1 l1.length c1, .int .i64 a2, .slice A3 l3.length c3] w fun e w' => ∃ v0_ : Value, e = .returned (v0_) ∧ Kd.R (Kd.int .i64) 2 w' w.heap.size (fun _ => True) v0_ r ∧ Below w.heap.size w w' := by
 have hu42 := Tryd.underlying42
 have HR0_0 := am hr0_0
 have HC0_0 := am hc0_0
 clear hr0_0 hc0_0
 have HR1 := am hr1
 have HC1 := am hc1
 clear hr1 hc1
 have HR3 := am hr3
 have HC3 := am hc3
 clear hr3 hc3
 have HB := am (Below.refl w.heap.size w)
 have H : (if 0 ≤ a2 then (if a2 ≤ (l1.length : Int) then ((slices_Clone_int64_int64.f (l1.take (a2 : Int).toNat)).bind fun t805 => (if t805.length + l3.length < 17592186044416 then ((some (t805 ++ l3 : List Int)).bind fun y808 => ((impl_endOf.f k l0_0 l1 a2).bind fun t811 => (if 0 ≤ t811 then (if t811 ≤ (l1.length : Int) then (if y808.length + (l1.drop (t811 : Int).toNat).length < 17592186044416 then (some (y808 ++ (l1.drop (t811 : Int).toNat))) else (none)) else (none)) else (none)))) else (none))) else (none)) else (none)) = some r := h
 clear h
 by_cases c5 : 0 ≤ a2
 ·rw [if_pos c5] at H
  have c5b0 := eq_true c5
  have c5b1 : decide (0 ≤ a2) = true := decide_eq_true c5
  clear c5
  by_cases c6 : a2 ≤ (l1.length : Int)
  ·rw [if_pos c6] at H
   have c6b0 := eq_true c6
   have c6b1 : decide (a2 ≤ (l1.length : Int)) = true := decide_eq_true c6
   clear c6
   replace H := Option.bind_eq_some_iff.mp H
   obtain ⟨t805, A70, H⟩ := H
   replace H : (if t805.length + l3.length < 17592186044416 then ((some (t805 ++ l3 : List Int)).bind fun y808 => ((impl_endOf.f k l0_0 l1 a2).bind fun t811 => (if 0 ≤ t811 then (if t811 ≤ (l1.length : Int) then (if y808.length + (l1.drop (t811 : Int).toNat).length < 17592186044416 then (some (y808 ++ (l1.drop (t811 : Int).toNat))) else (none)) else (none)) else (none)))) else (none)) = some r := H
   have A7 := am A70
   clear A70
   by_cases c8 : t805.length + l3.length < 17592186044416
   ·rw [if_pos c8] at H
    have LMc8 := am c8
    clear c8
    obtain ⟨y808, hy808⟩ : ∃ y_ : List Int, y_ = (t805 ++ l3) := ⟨_, rfl⟩
    replace H : ((impl_endOf.f k l0_0 l1 a2).bind fun t811 => (if 0 ≤ t811 then (if t811 ≤ (l1.length : Int) then (if y808.length + (l1.drop (t811 : Int).toNat).length < 17592186044416 then (some (y808 ++ (l1.drop (t811 : Int).toNat))) else (none)) else (none)) else (none))) = some r := by first | (rw [hy808]; with_reducible exact H) | (have H2_ := (Option.bind_some _ _).symm.trans H; rw [hy808]; with_reducible exact H2_) | (have H2_ := (Option.bind_some _ _).symm.trans H; with_reducible exact H2_) | with_reducible exact H | (rw [hy808]; exact H) | exact H
    have Ny808 := am hy808
    clear hy808
    replace H := Option.bind_eq_some_iff.mp H
    obtain ⟨t811, A90, H⟩ := H
    replace H : (if 0 ≤ t811 then (if t811 ≤ (l1.length : Int) then (if y808.length + (l1.drop (t811 : Int).toNat).length < 17592186044416 then (some (y808 ++ (l1.drop (t811 : Int).toNat))) else (none)) else (none)) else (none)) = some r := H
    have A9 := am A90
    clear A90
    by_cases c10 : 0 ≤ t811
    ·rw [if_pos c10] at H
     have c10b0 := eq_true c10
     have c10b1 : decide (0 ≤ t811) = true := decide_eq_true c10
     clear c10
     by_cases c11 : t811 ≤ (l1.length : Int)
     ·rw [if_pos c11] at H
      have c11b0 := eq_true c11
      have c11b1 : decide (t811 ≤ (l1.length : Int)) = true := decide_eq_true c11
      clear c11
      by_cases c12 : y808.length + (l1.drop (t811 : Int).toNat).length < 17592186044416
      ·rw [if_pos c12] at H
       have LMc12 := am c12
       clear c12
       obtain ⟨y813, hy813⟩ : ∃ y_ : List Int, y_ = (y808 ++ (l1.drop (t811 : Int).toNat)) := ⟨_, rfl⟩
       replace H : (some y813) = some r := by first | (rw [hy813]; with_reducible exact H) | (have H2_ := (Option.bind_some _ _).symm.trans H; rw [hy813]; with_reducible exact H2_) | (have H2_ := (Option.bind_some _ _).symm.trans H; with_reducible exact H2_) | with_reducible exact H | (rw [hy813]; exact H) | exact H
       have Ny813 := am hy813
       clear hy813
       obtain rfl := Option.some.inj H
       go_enter Tryd.func109, Tryd.ntmps109
       go_wp2_with (first | ((with_reducible refine gate_dst (N := 4) rfl ?_); refine box_event ?hg (N := 4) ?hd (cs := #[.slice A0_0 l0_0.length c0_0]) (t := 42) ?hr ?_; (case hd => rfl); (case hg => rfl); (case hr => first | (go_simp; done) | (go_simp; rfl)); intro gb803 hg w13 hbox hb; have n0_ := am (below_step (hq HB.out) hb); have n1_ := am (hbox); have n2_ := am (bz hg (hq HB.out)); have n3_ := n2_; clear HB; revert n0_ n1_ n2_ n3_; intro HB BK803 GW803 GE803; clear hb hbox hg; obtain ⟨i014, hi014, _, hsz14, _⟩ := info_parts info2; obtain ⟨hcut14, hA14, hC14⟩ := print_take_of (P := Tryd.prog) (Value.int .i64) 0 52 2 .i64 Tryd.underlying52 hi014 hsz14 A1 c1 l1 a2 (of_decide_eq_true (by first | (with_reducible assumption) | assumption)) (of_decide_eq_true (by first | (with_reducible assumption) | assumption)) HC1.out; have HR804 := am (Kd.C_of_reads (h1 := fun _ => rfl) (hA14 _ (Kd.reads_of_C HR1.out))); have HC804 := am hC14; clear hA14 hC14 hi014 hsz14) | ((with_reducible refine gate_callee (f := 88) rfl ?_); refine goesL_ (some 13) rfl rfl Tryd.func88 (by kernel_rfl) rfl #[.slice A1 (l1.take (a2 : Int).toNat).length c1] rfl (by (try simp only [List.map_toArray, List.map_cons, List.map_nil]); first | done | (rw [show (l1.take (a2 : Int).toNat).length = a2.toNat from (by rw [List.length_take]; have h_ : (a2 : Int) ≤ (l1.length : Int) := of_decide_eq_true (by first | (with_reducible assumption) | assumption); omega)] <;> rfl) | rfl | (simp only [List.length_drop, List.length_take]; rfl)) ?_; (with_reducible refine (slices_Clone_int64_int64.calls _ _ (l1.take (a2 : Int).toNat) t805 _ ?side1 ?side2 A7.out).mono ?_); (case side1 => exact cq (Kd.C_below HR804.out HB.out)); (case side2 => exact HC804.out); rintro e w15 ⟨v806, rfl, ho0, hb⟩; refine ⟨_, rfl, ?_⟩; have n0_ := am (Kd.R_lower ho0 (below_size (hs HB.out))); have n1_ := am (blk_below (bq BK803.out) hb); have n2_ := am (below_step (hs HB.out) hb); clear BK803 HB; revert n0_ n1_ n2_; intro HO807 BK803 HB; (try clear hb); (try clear hb2); (try clear hgw); (try clear hk); (try clear hi); (try clear ho0)) | ((with_reducible refine gate_builtin (b := .append) (xs := #[.tmp 13, .tmp 14]) rfl ?_); at_builtin; refine Kd.R_append_rows (Kd.int .i64) (w0 := w) w.heap.size rfl (.tmp 13) (.tmp 14) 52 2 (.int .i64 0) 8 rfl Tryd.underlying52 info2 rfl (by decide) (by omega) v806 t805 l3 _ _ _ (fun _ => True) (fun _ => False) rfl rfl ?aO ?aR (fun _ _ h => h) (fun _ h => h.elim) ?aF ?aB ?aS ?aL ?_; (case aR => exact cq (Kd.C_below HR3.out HB.out)); (case aB => exact (hs HB.out)); (case aF => exact (fun _ _ => trivial)); (case aO => exact (rq HO807.out)); (case aS => exact (below_size (hs HB.out))); (case aL => have := LMc8.out; omega); intro v809 w16 ho hb hg hat; rw [← Ny808.out] at ho; have n0_ := am (blk_grown (bq BK803.out) hg (Kd.R_ne HO807.out BK803.out (by decide))); have n1_ := am (hb); have n2_ := am (ho); clear BK803 HB HO807; revert n0_ n1_ n2_; intro BK803 HB HO810; clear ho hb hg hat; have hcz17_0 : w16.cell? ⟨gb803, 0, none⟩ = some (.slice A0_0 l0_0.length c0_0) := (blk_cell BK803.out 0).trans rfl; have hfz17_0 := blk_frozen BK803.out 0) | ((with_reducible refine gate_callee (f := 117) rfl ?_); refine goesL_ (some 21) rfl rfl Tryd.func117 (by kernel_rfl) rfl #[.agg #[.slice A0_0 l0_0.length c0_0], .slice A1 l1.length c1, .int .i64 a2] rfl el ?_; (with_reducible refine (impl_endOf.calls k _ _ l0_0 _ _ l1 a2 t811 _ ?side1 ?side2 ?side3 ?side4 A9.out).mono ?_); (case side1 => exact cq (Kd.C_below HR0_0.out HB.out)); (case side2 => exact HC0_0.out); (case side3 => exact cq (Kd.C_below HR1.out HB.out)); (case side4 => exact HC1.out); rintro e w18 ⟨rfl, hb⟩; refine ⟨_, rfl, ?_⟩; have n0_ := am (Kd.R_below (rq HO810.out) hb); have n1_ := am (blk_below (bq BK803.out) hb); have n2_ := am (below_step (hs HB.out) hb); clear HO810 BK803 HB; revert n0_ n1_ n2_; intro HO810 BK803 HB; (try clear hb); (try clear hb2); (try clear hgw); (try clear hk); (try clear hi); obtain ⟨i019, hi019, _, hsz19, _⟩ := info_parts info2; obtain ⟨A19, hcut19, hA19, hC19⟩ := print_drop_of (P := Tryd.prog) (Value.int .i64) 0 52 2 .i64 Tryd.underlying52 hi019 hsz19 A1 c1 l1 t811 (of_decide_eq_true (by first | (with_reducible assumption) | assumption)) (of_decide_eq_true (by first | (with_reducible assumption) | assumption)) HC1.out; have HR812 := am (Kd.C_of_reads (h1 := fun _ => rfl) (hA19 _ (Kd.reads_of_C HR1.out))); have HC812 := am hC19; clear hA19 hC19 hi019 hsz19) | ((with_reducible refine gate_builtin (b := .append) (xs := #[.tmp 16, .tmp 22]) rfl ?_); at_builtin; refine Kd.R_append_rows (Kd.int .i64) (w0 := w) w.heap.size rfl (.tmp 16) (.tmp 22) 52 2 (.int .i64 0) 8 rfl Tryd.underlying52 info2 rfl (by decide) (by omega) v809 y808 (l1.drop (t811 : Int).toNat) _ _ _ (fun _ => True) (fun _ => False) rfl rfl ?aO ?aR (fun _ _ h => h) (fun _ h => h.elim) ?aF ?aB ?aS ?aL ?_; (case aR => first | (rw [← show (l1.drop (t811 : Int).toNat).length = (l1.length - t811.toNat) from List.length_drop]; exact cq (Kd.C_below HR812.out HB.out)) | (exact cq (Kd.C_below HR812.out HB.out))); (case aB => exact (hs HB.out)); (case aF => exact (fun _ _ => trivial)); (case aO => exact (rq HO810.out)); (case aS => exact (below_size (hs HB.out))); (case aL => have := LMc12.out; have hlx_ := (show (l1.drop (t811 : Int).toNat).length = (l1.length - t811.toNat) from List.length_drop); omega); intro v814 w20 ho hb hg hat; rw [← Ny813.out] at ho; have n0_ := am (blk_grown (bq BK803.out) hg (Kd.R_ne HO810.out BK803.out (by decide))); have n1_ := am (hb); have n2_ := am (ho); clear BK803 HB HO810; revert n0_ n1_ n2_; intro BK803 HB HO815; clear ho hb hg hat))
       go_ret
       exact ⟨_, by first | rfl | (simp [errW_none, errW_some] <;> rfl) | (simp [*, errW_none, errW_some] <;> rfl), by (with_reducible repeat (first | apply Kd.R_alloc | apply Kd.R_drewN | apply Kd.R_drew)); exact HO815.out, by exact hs HB.out⟩
      ·rw [if_neg c12] at H
       exact absurd H (by simp)
     ·rw [if_neg c11] at H
      exact absurd H (by simp)
    ·rw [if_neg c10] at H
     exact absurd H (by simp)
   ·rw [if_neg c8] at H
    exact absurd H (by simp)
  ·rw [if_neg c6] at H
   exact absurd H (by simp)
 ·rw [if_neg c5] at H
  exact absurd H (by simp)
def impl_ReplaceAt.f (k : Nat) (l0_0 : List (S99)) (l1 : List Int) (a2 : Int) (l3 : List Int) : Option (Int × List Int) := (impl_placeFault.f k l0_0 l1 a2).bind fun t818 => ((impl_TermFault.f k l0_0 l3).bind fun t819 => ((impl_firstCode.f k (([t818, t819] : List Int))).bind fun t823 => (if t823 = 0 then ((impl_replaced.f k l0_0 l1 a2 l3).bind fun t824 => ((impl_fitting.f t824).bind fun bt827 => (some (bt827.1, bt827.2)))) else (some (t823, ([] : List Int))))))
def impl_ReplaceAt.T1 : Bool × List (List Nat × List Nat) := (true, [([], []), ([], []), ([], []), ([0, 1, 2], [0, 1, 2]), ([], []), ([], []), ([4, 5, 3], [4, 5]), ([3, 6], [3, 6]), ([7, 6], [7]), ([8, 8, 0, 1, 2, 3, 4, 5, 6, 7, 8], [8])])
def impl_ReplaceAt.B1 : List Nat := [0, 0, 0, 7, 0, 0, 63, 127, 255, 511]
theorem impl_ReplaceAt.tab1 : rtab .any (opsOf Tryd.f52 1) = impl_ReplaceAt.T1 := by kernel_rfl
theorem impl_ReplaceAt.bits1 : waitsOk impl_ReplaceAt.T1.2 impl_ReplaceAt.B1 = true := by kernel_rfl
set_option maxHeartbeats 8000000 in
set_option maxRecDepth 100000 in
theorem impl_ReplaceAt.calls (k : Nat) (A0_0 : Option Addr) (c0_0 : Nat) (l0_0 : List (S99)) (A1 : Option Addr) (c1 : Nat) (l1 : List Int) (a2 : Int) (A3 : Option Addr) (c3 : Nat) (l3 : List Int) (r1 : Int) (r2 : List Int) (w : World) (hr0_0 : Kd.C k99 w A0_0 l0_0.length l0_0) (hc0_0 : l0_0.length ≤ c0_0) (hr1 : Kd.C (Kd.int .i64) w A1 l1.length l1) (hc1 : l1.length ≤ c1) (hr3 : Kd.C (Kd.int .i64) w A3 l3.length l3) (hc3 : l3.length ≤ c3) (h : impl_ReplaceAt.f k l0_0 l1 a2 l3 = some (r1, r2)) :
  Calls Tryd.prog 52 #[.agg #[.slice A0_0 l0_0.length c0_0], .slice A1 l1.length c1, .int .i64 a2, .slice A3 l3.length c3] w fun e w' => ∃ v1_ : Value, e = .returned (.agg #[.int .i64 r1, v1_]) ∧ Kd.R (Kd.int .i64) 2 w' w.heap.size (fun _ => True) v1_ r2 ∧ Below w.heap.size w w' := by
 have hu42 := Tryd.underlying42
 have hu67 := Tryd.underlying67
 have HR0_0 := am hr0_0
 have HC0_0 := am hc0_0
 clear hr0_0 hc0_0
 have HR1 := am hr1
 have HC1 := am hc1
 clear hr1 hc1
 have HR3 := am hr3
 have HC3 := am hc3
 clear hr3 hc3
 have HB := am (Below.refl w.heap.size w)
 have H : ((impl_placeFault.f k l0_0 l1 a2).bind fun t818 => ((impl_TermFault.f k l0_0 l3).bind fun t819 => ((impl_firstCode.f k (([t818, t819] : List Int))).bind fun t823 => (if t823 = 0 then ((impl_replaced.f k l0_0 l1 a2 l3).bind fun t824 => ((impl_fitting.f t824).bind fun bt827 => (some (bt827.1, bt827.2)))) else (some (t823, ([] : List Int))))))) = some (r1, r2) := h
 clear h
 replace H := Option.bind_eq_some_iff.mp H
 obtain ⟨t818, A50, H⟩ := H
 replace H : ((impl_TermFault.f k l0_0 l3).bind fun t819 => ((impl_firstCode.f k (([t818, t819] : List Int))).bind fun t823 => (if t823 = 0 then ((impl_replaced.f k l0_0 l1 a2 l3).bind fun t824 => ((impl_fitting.f t824).bind fun bt827 => (some (bt827.1, bt827.2)))) else (some (t823, ([] : List Int)))))) = some (r1, r2) := H
 have A5 := am A50
 clear A50
 replace H := Option.bind_eq_some_iff.mp H
 obtain ⟨t819, A60, H⟩ := H
 replace H : ((impl_firstCode.f k (([t818, t819] : List Int))).bind fun t823 => (if t823 = 0 then ((impl_replaced.f k l0_0 l1 a2 l3).bind fun t824 => ((impl_fitting.f t824).bind fun bt827 => (some (bt827.1, bt827.2)))) else (some (t823, ([] : List Int))))) = some (r1, r2) := H
 have A6 := am A60
 clear A60
 obtain ⟨y820, hy820⟩ : ∃ y_ : List Int, y_ = (([t818, t819] : List Int)) := ⟨_, rfl⟩
 replace H : ((impl_firstCode.f k y820).bind fun t823 => (if t823 = 0 then ((impl_replaced.f k l0_0 l1 a2 l3).bind fun t824 => ((impl_fitting.f t824).bind fun bt827 => (some (bt827.1, bt827.2)))) else (some (t823, ([] : List Int))))) = some (r1, r2) := by first | (rw [hy820]; with_reducible exact H) | (have H2_ := (Option.bind_some _ _).symm.trans H; rw [hy820]; with_reducible exact H2_) | (have H2_ := (Option.bind_some _ _).symm.trans H; with_reducible exact H2_) | with_reducible exact H | (rw [hy820]; exact H) | exact H
 have Ny820 := am hy820
 clear hy820
 replace H := Option.bind_eq_some_iff.mp H
 obtain ⟨t823, A70, H⟩ := H
 replace H : (if t823 = 0 then ((impl_replaced.f k l0_0 l1 a2 l3).bind fun t824 => ((impl_fitting.f t824).bind fun bt827 => (some (bt827.1, bt827.2)))) else (some (t823, ([] : List Int)))) = some (r1, r2) := H
 have A7 := am A70
 clear A70
 by_cases c8 : t823 = 0
 ·rw [if_pos c8] at H
  have c8b0 : (t823 == 0) = true := beq_iff_eq.mpr c8
  have c8b1 : (t823 != 0) = false := bne_eq_false_iff_eq.mpr c8
  clear c8
  replace H := Option.bind_eq_some_iff.mp H
  obtain ⟨t824, A90, H⟩ := H
  replace H : ((impl_fitting.f t824).bind fun bt827 => (some (bt827.1, bt827.2))) = some (r1, r2) := H
  have A9 := am A90
  clear A90
  replace H := Option.bind_eq_some_iff.mp H
  obtain ⟨⟨t827, t828⟩, A100, H⟩ := H
  replace H : (some (t827, t828)) = some (r1, r2) := H
  have A10 := am A100
  clear A100
  simp only [Option.some.injEq, Prod.mk.injEq] at H
  obtain ⟨rfl, rfl⟩ := H
  go_enter Tryd.func52, Tryd.ntmps52
  try go_wp2_with (first | ((with_reducible refine gate_dst (N := 4) rfl ?_); refine box_event ?hg (N := 4) ?hd (cs := #[.slice A0_0 l0_0.length c0_0]) (t := 42) ?hr ?_; (case hd => rfl); (case hg => rfl); (case hr => first | (go_simp; done) | (go_simp; rfl)); intro gb816 hg w11 hbox hb; have n0_ := am (below_step (hq HB.out) hb); have n1_ := am (hbox); have n2_ := am (bz hg (hq HB.out)); have n3_ := n2_; clear HB; revert n0_ n1_ n2_ n3_; intro HB BK816 GW816 GE816; clear hb hbox hg) | ((with_reducible refine gate_dst (N := 8) rfl ?_); refine box_event ?hg (N := 8) ?hd (cs := #[.int .i64 0, .slice none 0 0]) (t := 67) ?hr ?_; (case hd => rfl); (case hg => rfl); (case hr => first | (go_simp; done) | (go_simp; rfl)); intro gb817 hg w12 hbox hb; have n0_ := am (blk_below (bq BK816.out) hb); have n1_ := am (below_step (hs HB.out) hb); have n2_ := am (hbox); have n3_ := am (bz hg (hs HB.out)); have n4_ := n3_; have n5_ := am ((by rw [hg]; exact Nat.ne_of_lt (blk_lt (bq BK816.out)) : gb816 ≠ gb817)); have n6_ := am ((by rw [hg]; exact Nat.ne_of_gt (blk_lt (bq BK816.out)) : gb817 ≠ gb816)); clear BK816 HB; revert n0_ n1_ n2_ n3_ n4_ n5_ n6_; intro BK816 HB BK817 GW817 GE817 NB816_817 NB817_816; clear hb hbox hg))
  have n0_ := am (blk_drew BK816.out)
  have n1_ := am (blk_drew BK817.out)
  have n2_ := am (below_drew1 HB.out)
  clear BK816
  clear BK817
  clear HB
  have BK816 := n0_
  have BK817 := n1_
  have HB := n2_
  clear n0_ n1_ n2_
  refine start_ (n := 10) (S := fun w' => w'.cell? ⟨gb816, 0, none⟩ = some (.slice A0_0 l0_0.length c0_0)) (ds := []) #[false, false, false, false, false, false, false, false, false, false] (by kernel_rfl) rfl rfl ((blk_cell BK816.out 0).trans rfl) (fun hHeld => ?_); refine with_tabW impl_ReplaceAt.tab1 impl_ReplaceAt.bits1 (fun HT_ HW_ => ?_)
  generalize w12.drew = w13 at BK816 BK817 HB hHeld ⊢
  refine pure_ (i := 1) (N := some 11) (v := ?_) (a' := ?_) #[false, true, false, false, false, false, false, false, false, false] rfl rfl (any_of HT_.out (by kernel_rfl)) (fun _ _ _ h => h) (Or.inl ⟨by rfl, ?_⟩) ?_ ?_
  rotate_left
  ·intro w'
   go_simp
   with_reducible rfl
  rotate_left
  ·simp only [Act.put, lsp, i64_w, i32_w]
   rfl
  refine pure_ (i := 2) (N := some 12) (v := ?_) (a' := ?_) #[false, true, true, false, false, false, false, false, false, false] rfl rfl (any_of HT_.out (by kernel_rfl)) (fun _ _ _ h => h) (Or.inl ⟨by rfl, ?_⟩) ?_ ?_
  rotate_left
  ·intro w'
   go_simp
   with_reducible rfl
  rotate_left
  ·simp only [Act.put, lsp, i64_w, i32_w]
   rfl
  refine pure_ (i := 5) (N := some 15) (v := ?_) (a' := ?_) #[false, true, true, false, false, true, false, false, false, false] rfl rfl (any_of HT_.out (by kernel_rfl)) (fun _ _ _ h => h) (Or.inl ⟨by rfl, ?_⟩) ?_ ?_
  rotate_left
  ·intro w'
   go_simp
   with_reducible rfl
  rotate_left
  ·simp only [Act.put, lsp, i64_w, i32_w]
   rfl
  refine take_ (i := 0) (N := some 10) (v := ?_) (a' := ?_) #[true, true, true, false, false, true, false, false, false, false] rfl rfl (take_ofW HT_.out HW_.out (by kernel_rfl)) (fun _ _ _ h => h) (Or.inl ⟨by rfl, ?_⟩) hHeld ?_ ?_
  rotate_left
  ·intro w' s0
   go_simp
   with_reducible rfl
  rotate_left
  ·simp only [Act.put, lsp, i64_w, i32_w]
   rfl
  refine take_ (i := 4) (N := some 14) (v := ?_) (a' := ?_) #[true, true, true, false, true, true, false, false, false, false] rfl rfl (take_ofW HT_.out HW_.out (by kernel_rfl)) (fun _ _ _ h => h) (Or.inl ⟨by rfl, ?_⟩) hHeld ?_ ?_
  rotate_left
  ·intro w' s0
   go_simp
   with_reducible rfl
  rotate_left
  ·simp only [Act.put, lsp, i64_w, i32_w]
   rfl
  refine one_ (i := 3) (N := some 13) #[true, true, true, true, true, true, false, false, false, false] rfl rfl (one_of HT_.out (by kernel_rfl)) (by decide) (fun K hK => ?_)
  refine goes_ Tryd.func107 (by kernel_rfl) rfl #[.agg #[.slice A0_0 l0_0.length c0_0], .slice A1 l1.length c1, .int .i64 a2] (by rfl) rfl rfl el ?_
  with_reducible refine (impl_placeFault.calls k _ _ l0_0 _ _ l1 a2 t818 _ ?side1 ?side2 ?side3 ?side4 A5.out).mono ?_
  (case side1 => exact cq (Kd.C_below HR0_0.out HB.out))
  (case side2 => exact HC0_0.out)
  (case side3 => exact cq (Kd.C_below HR1.out HB.out))
  (case side4 => exact HC1.out)
  rintro e w14 ⟨rfl, hb⟩
  refine ⟨_, rfl, ?_⟩
  have n0_ := am (blk_below (bq BK816.out) hb)
  have n1_ := am (blk_below (bq BK817.out) hb)
  have n2_ := am (below_step (hs HB.out) hb)
  clear BK816
  clear BK817
  clear HB
  have BK816 := n0_
  have BK817 := n1_
  have HB := n2_
  clear n0_ n1_ n2_
  (try clear hb)
  (try clear hb2)
  (try clear hgw)
  (try clear hk)
  (try clear hi)
  refine hK.out _ _ ((blk_cell BK816.out 0).trans rfl) (fun hHeld => ?_)
  clear hK K
  refine norm_ (a' := ?_) ?_ ?_
  rotate_left
  ·show Act.put _ (some 13) _ = _
   simp only [Act.put, lsp, i64_w, i32_w]
   rfl
  refine one_ (i := 6) (N := some 16) #[true, true, true, true, true, true, true, false, false, false] rfl rfl (one_of HT_.out (by kernel_rfl)) (by decide) (fun K hK => ?_)
  refine goes_ Tryd.func58 (by kernel_rfl) rfl #[.agg #[.slice A0_0 l0_0.length c0_0], .slice A3 l3.length c3] (by rfl) rfl rfl el ?_
  with_reducible refine (impl_TermFault.calls k _ _ l0_0 _ _ l3 t819 _ ?side1 ?side2 ?side3 ?side4 A6.out).mono ?_
  (case side1 => exact cq (Kd.C_below HR0_0.out HB.out))
  (case side2 => exact HC0_0.out)
  (case side3 => exact cq (Kd.C_below HR3.out HB.out))
  (case side4 => exact HC3.out)
  rintro e w15 ⟨rfl, hb⟩
  refine ⟨_, rfl, ?_⟩
  have n0_ := am (blk_below (bq BK816.out) hb)
  have n1_ := am (blk_below (bq BK817.out) hb)
  have n2_ := am (below_step (hs HB.out) hb)
  clear BK816
  clear BK817
  clear HB
  have BK816 := n0_
  have BK817 := n1_
  have HB := n2_
  clear n0_ n1_ n2_
  (try clear hb)
  (try clear hb2)
  (try clear hgw)
  (try clear hk)
  (try clear hi)
  refine hK.out _ _ ((blk_cell BK816.out 0).trans rfl) (fun hHeld => ?_)
  clear hK K
  refine norm_ (a' := ?_) ?_ ?_
  rotate_left
  ·show Act.put _ (some 16) _ = _
   simp only [Act.put, lsp, i64_w, i32_w]
   rfl
  refine one_ (i := 7) (N := some 17) #[true, true, true, true, true, true, true, true, false, false] rfl rfl (one_of HT_.out (by kernel_rfl)) (by decide) (fun K hK => ?_)
  refine Kd.R_lit_step (Kd.int .i64) _ 2 ?hg (N := 17) ?hd (xs := ([t818, t819] : List Int)) (inner := [.int .i64 t818, .int .i64 t819]) (ok := fun _ => True) (okp := fun _ => True) ?hr ?hp (fun _ hk => hk) trivial (Below.refl _ _) (Nat.le_refl _) (by simp) ?_; (case hd => rfl); (case hg => rfl); (case hr => first | (go_simp; done) | (go_simp; rfl)); (case hp => exact (Reps.one (show Kd.M (Kd.int .i64) _ _ _ t818 [.int .i64 t818] from rfl) (Reps.one (show Kd.M (Kd.int .i64) _ _ _ t819 [.int .i64 t819] from rfl) (Reps.none _ _))))
  intro v821 w16 ho17 hb hg_ hnew_
  clear hg_ hnew_
  (first | rw [← Ny820.out] at ho17 | (simp only [Int.reduceToNat] at ho17; rw [← Ny820.out] at ho17))
  have n0_ := am (Kd.R_lower ho17 (below_size (hs HB.out)))
  have n1_ := am (blk_below (bq BK816.out) hb)
  have n2_ := am (blk_below (bq BK817.out) hb)
  have n3_ := am (below_step (hs HB.out) hb)
  clear BK816
  clear BK817
  clear HB
  have HO822 := n0_
  have BK816 := n1_
  have BK817 := n2_
  have HB := n3_
  clear n0_ n1_ n2_ n3_
  clear hb ho17
  obtain ⟨Ao18, co18, eo18⟩ := Kd.R_slice HO822.out
  (first | subst eo18 | (injection eo18 with f1_ f2_ f3_; have f4_ := f1_.symm; have f5_ := f3_.symm; clear f1_ f2_ f3_; subst f4_; subst f5_))
  refine hK.out _ _ ((blk_cell BK816.out 0).trans rfl) (fun hHeld => ?_)
  clear hK K
  refine norm_ (a' := ?_) ?_ ?_
  rotate_left
  ·show Act.put _ (some 17) _ = _
   simp only [Act.put, lsp, i64_w, i32_w]
   rfl
  refine one_ (i := 8) (N := some 18) #[true, true, true, true, true, true, true, true, true, false] rfl rfl (one_of HT_.out (by kernel_rfl)) (by decide) (fun K hK => ?_)
  refine goes_ Tryd.func106 (by kernel_rfl) rfl #[.slice Ao18 y820.length co18] (by rfl) rfl rfl el ?_
  with_reducible refine (impl_firstCode.calls k _ _ y820 t823 _ ?side1 ?side2 A7.out).mono ?_
  (case side1 => repeat (first | exact (Kd.R_reads' HO822.out).2.2 | (with_reducible refine Kd.C_alloc ?_ _) | (with_reducible refine Kd.C_drewN ?_ _) | (with_reducible refine Kd.C_drew ?_)))
  (case side2 => exact (Kd.R_reads' HO822.out).2.1)
  rintro e w19 ⟨rfl, hb⟩
  refine ⟨_, rfl, ?_⟩
  have n0_ := am (Kd.R_below (rq HO822.out) hb)
  have n1_ := am (blk_below (bq BK816.out) hb)
  have n2_ := am (blk_below (bq BK817.out) hb)
  have n3_ := am (below_step (hs HB.out) hb)
  clear HO822
  clear BK816
  clear BK817
  clear HB
  have HO822 := n0_
  have BK816 := n1_
  have BK817 := n2_
  have HB := n3_
  clear n0_ n1_ n2_ n3_
  (try clear hb)
  (try clear hb2)
  (try clear hgw)
  (try clear hk)
  (try clear hi)
  refine hK.out _ _ ((blk_cell BK816.out 0).trans rfl) (fun hHeld => ?_)
  clear hK K
  refine norm_ (a' := ?_) ?_ ?_
  rotate_left
  ·show Act.put _ (some 18) _ = _
   simp only [Act.put, lsp, i64_w, i32_w]
   rfl
  refine pure_ (i := 9) (N := some 9) (v := ?_) (a' := ?_) #[true, true, true, true, true, true, true, true, true, true] rfl rfl (any_of HT_.out (by kernel_rfl)) (fun _ _ _ h => h) (Or.inl ⟨by rfl, ?_⟩) ?_ ?_
  rotate_left
  ·intro w'
   go_simp
   with_reducible rfl
  rotate_left
  ·simp only [Act.put, lsp, i64_w, i32_w]
   rfl
  refine done_ (done_of HT_.out (by kernel_rfl)) ?_
  have hnb20 := NB816_817.out
  have hnc20 := NB817_816.out
  have hcz21_0 : w19.cell? ⟨gb816, 0, none⟩ = some (.slice A0_0 l0_0.length c0_0) := (blk_cell BK816.out 0).trans rfl
  have hfz21_0 := blk_frozen BK816.out 0
  try go_wp2_with (first | ((with_reducible refine gate_callee (f := 109) rfl ?_); refine goesL_ (some 27) rfl rfl Tryd.func109 (by kernel_rfl) rfl #[.agg #[.slice A0_0 l0_0.length c0_0], .slice A1 l1.length c1, .int .i64 a2, .slice A3 l3.length c3] rfl el ?_; (with_reducible refine (impl_replaced.calls k _ _ l0_0 _ _ l1 a2 _ _ l3 t824 _ ?side1 ?side2 ?side3 ?side4 ?side5 ?side6 A9.out).mono ?_); (case side1 => exact cq (Kd.C_below HR0_0.out HB.out)); (case side2 => exact HC0_0.out); (case side3 => exact cq (Kd.C_below HR1.out HB.out)); (case side4 => exact HC1.out); (case side5 => exact cq (Kd.C_below HR3.out HB.out)); (case side6 => exact HC3.out); rintro e w22 ⟨v825, rfl, ho0, hb⟩; refine ⟨_, rfl, ?_⟩; have n0_ := am (Kd.R_elder' (rq HO822.out) (Kd.R_base ho0) hb); have n1_ := am (Kd.R_lower (Kd.R_new' ho0 (Kd.R_lt (rq HO822.out))) (below_size (hs HB.out))); have n2_ := am (blk_below (bq BK816.out) hb); have n3_ := am (blk_below (bq BK817.out) hb); have n4_ := am (below_step (hs HB.out) hb); clear HO822 BK816 BK817 HB; revert n0_ n1_ n2_ n3_ n4_; intro HO822 HO826 BK816 BK817 HB; (try clear hb); (try clear hb2); (try clear hgw); (try clear hk); (try clear hi); (try clear ho0); obtain ⟨Ao23, co23, eo23⟩ := Kd.R_slice HO826.out; subst eo23) | ((with_reducible refine gate_callee (f := 108) rfl ?_); refine goesL_ (some 28) rfl rfl Tryd.func108 (by kernel_rfl) rfl #[.slice Ao23 t824.length co23] rfl el ?_; (with_reducible refine (impl_fitting.calls (fun k_ => some k_ = (.slice Ao23 t824.length co23 : Value).ownBlock) (.slice Ao23 t824.length co23) t824 t827 t828 w _ ?side1 ?side2 A10.out).mono ?_); (case side1 => exact hs HB.out); (case side2 => exact Kd.R_tight rfl HO826.out); rintro e w24 ⟨v829, rfl, ho0, hb, hkp⟩; refine ⟨_, rfl, ?_⟩; have n0_ := am (blk_keptF BK816.out (fun h_ => by refine bq ?_; exact h_) hkp (fun hs_ => (fun e_ => (Kd.R_ne HO826.out BK816.out (by decide)) e_) hs_)); have n1_ := am (blk_keptF BK817.out (fun h_ => by refine bq ?_; exact h_) hkp (fun hs_ => (fun e_ => (Kd.R_ne HO826.out BK817.out (by decide)) e_) hs_)); have n2_ := am (Kd.R_mono (ok' := fun k_ => some k_ ≠ (v829 : Value).ownBlock) (Kd.R_keptB (HO822.out) hkp (fun k_ hk_ hs_ => (hk_.2) hs_)) (fun k_ hk_ => fun e_ => Or.elim (ho0.1 k_ e_.symm) (fun hs_ => hk_.2.1 hs_) (fun hn_ => Nat.not_le.2 hk_.2.2 hn_))); have n3_ := am (Kd.R_mono (ok' := fun k_ => some k_ ≠ (.slice Ao18 y820.length co18 : Value).ownBlock) ho0 (fun k_ hk_ => Or.elim hk_ (fun hs_ => fun e_ => (((HO822.out).1 k_ e_.symm).2) hs_) (fun hn_ => (Kd.fresh' (Kd.R_lt (rq HO822.out)) k_ hn_)))); have n4_ := am (hb); clear BK816 BK817 HO822 HB HO826; revert n0_ n1_ n2_ n3_ n4_; intro BK816 BK817 HO822 HO830 HB; (try clear hb); (try clear hkp); (try clear ho0); have hcz25_0 : w24.cell? ⟨gb817, 0, none⟩ = some (.int .i64 0) := (blk_cell BK817.out 0).trans rfl; have hcz25_1 : w24.cell? ⟨gb817, 1, none⟩ = some (.slice none 0 0) := (blk_cell BK817.out 1).trans rfl; have hfz25_0 := blk_frozen BK817.out 0; have hfz25_1 := blk_frozen BK817.out 1; obtain ⟨Ao26, co26, eo26⟩ := Kd.R_slice HO830.out; subst eo26))
  refine bodyPost_ret (results_cell_row rfl _ _ gb817 67 #[.int .i64 t827, .slice Ao26 t828.length co26] (0, 0) _ rfl (by refine bq ?_; refine blk_put (cs := #[.int .i64 t827, .slice none 0 0]) ?_ 1 _ rfl; refine bq ?_; refine blk_put (cs := #[.int .i64 0, .slice none 0 0]) ?_ 0 _ rfl; refine bq ?_; exact BK817.out) Tryd.underlying67 rfl (by kernel_rfl)) rfl ?_
  exact ⟨_, by first | rfl | (simp [errW_none, errW_some] <;> rfl) | (simp [*, errW_none, errW_some] <;> rfl), by (with_reducible repeat (first | apply Kd.R_alloc | apply Kd.R_drewN | apply Kd.R_drew)); exact Kd.R_mono (Kd.R_far (p := ⟨gb817, 1, none⟩) (Kd.R_far (p := ⟨gb817, 0, none⟩) (Kd.R_types HO830.out BK817.out (by decide)) (fun _ hk => hk.2) (.int .i64 t827)) (fun _ hk => hk.2) (.slice Ao26 t828.length co26)) (fun _ hk => trivial), by exact hs HB.out⟩
 ·rw [if_neg c8] at H
  have c8b0 : (t823 == 0) = false := beq_eq_false_iff_ne.mpr c8
  have c8b1 : (t823 != 0) = true := bne_iff_ne.mpr c8
  simp only [Option.some.injEq, Prod.mk.injEq] at H
  obtain ⟨rfl, rfl⟩ := H
  go_enter Tryd.func52, Tryd.ntmps52
  try go_wp2_with (first | ((with_reducible refine gate_dst (N := 4) rfl ?_); refine box_event ?hg (N := 4) ?hd (cs := #[.slice A0_0 l0_0.length c0_0]) (t := 42) ?hr ?_; (case hd => rfl); (case hg => rfl); (case hr => first | (go_simp; done) | (go_simp; rfl)); intro gb816 hg w27 hbox hb; have n0_ := am (below_step (hq HB.out) hb); have n1_ := am (hbox); have n2_ := am (bz hg (hq HB.out)); have n3_ := n2_; clear HB; revert n0_ n1_ n2_ n3_; intro HB BK816 GW816 GE816; clear hb hbox hg) | ((with_reducible refine gate_dst (N := 8) rfl ?_); refine box_event ?hg (N := 8) ?hd (cs := #[.int .i64 0, .slice none 0 0]) (t := 67) ?hr ?_; (case hd => rfl); (case hg => rfl); (case hr => first | (go_simp; done) | (go_simp; rfl)); intro gb817 hg w28 hbox hb; have n0_ := am (blk_below (bq BK816.out) hb); have n1_ := am (below_step (hs HB.out) hb); have n2_ := am (hbox); have n3_ := am (bz hg (hs HB.out)); have n4_ := n3_; have n5_ := am ((by rw [hg]; exact Nat.ne_of_lt (blk_lt (bq BK816.out)) : gb816 ≠ gb817)); have n6_ := am ((by rw [hg]; exact Nat.ne_of_gt (blk_lt (bq BK816.out)) : gb817 ≠ gb816)); clear BK816 HB; revert n0_ n1_ n2_ n3_ n4_ n5_ n6_; intro BK816 HB BK817 GW817 GE817 NB816_817 NB817_816; clear hb hbox hg))
  have n0_ := am (blk_drew BK816.out)
  have n1_ := am (blk_drew BK817.out)
  have n2_ := am (below_drew1 HB.out)
  clear BK816
  clear BK817
  clear HB
  have BK816 := n0_
  have BK817 := n1_
  have HB := n2_
  clear n0_ n1_ n2_
  refine start_ (n := 10) (S := fun w' => w'.cell? ⟨gb816, 0, none⟩ = some (.slice A0_0 l0_0.length c0_0)) (ds := []) #[false, false, false, false, false, false, false, false, false, false] (by kernel_rfl) rfl rfl ((blk_cell BK816.out 0).trans rfl) (fun hHeld => ?_); refine with_tabW impl_ReplaceAt.tab1 impl_ReplaceAt.bits1 (fun HT_ HW_ => ?_)
  generalize w28.drew = w29 at BK816 BK817 HB hHeld ⊢
  refine pure_ (i := 1) (N := some 11) (v := ?_) (a' := ?_) #[false, true, false, false, false, false, false, false, false, false] rfl rfl (any_of HT_.out (by kernel_rfl)) (fun _ _ _ h => h) (Or.inl ⟨by rfl, ?_⟩) ?_ ?_
  rotate_left
  ·intro w'
   go_simp
   with_reducible rfl
  rotate_left
  ·simp only [Act.put, lsp, i64_w, i32_w]
   rfl
  refine pure_ (i := 2) (N := some 12) (v := ?_) (a' := ?_) #[false, true, true, false, false, false, false, false, false, false] rfl rfl (any_of HT_.out (by kernel_rfl)) (fun _ _ _ h => h) (Or.inl ⟨by rfl, ?_⟩) ?_ ?_
  rotate_left
  ·intro w'
   go_simp
   with_reducible rfl
  rotate_left
  ·simp only [Act.put, lsp, i64_w, i32_w]
   rfl
  refine pure_ (i := 5) (N := some 15) (v := ?_) (a' := ?_) #[false, true, true, false, false, true, false, false, false, false] rfl rfl (any_of HT_.out (by kernel_rfl)) (fun _ _ _ h => h) (Or.inl ⟨by rfl, ?_⟩) ?_ ?_
  rotate_left
  ·intro w'
   go_simp
   with_reducible rfl
  rotate_left
  ·simp only [Act.put, lsp, i64_w, i32_w]
   rfl
  refine take_ (i := 0) (N := some 10) (v := ?_) (a' := ?_) #[true, true, true, false, false, true, false, false, false, false] rfl rfl (take_ofW HT_.out HW_.out (by kernel_rfl)) (fun _ _ _ h => h) (Or.inl ⟨by rfl, ?_⟩) hHeld ?_ ?_
  rotate_left
  ·intro w' s0
   go_simp
   with_reducible rfl
  rotate_left
  ·simp only [Act.put, lsp, i64_w, i32_w]
   rfl
  refine take_ (i := 4) (N := some 14) (v := ?_) (a' := ?_) #[true, true, true, false, true, true, false, false, false, false] rfl rfl (take_ofW HT_.out HW_.out (by kernel_rfl)) (fun _ _ _ h => h) (Or.inl ⟨by rfl, ?_⟩) hHeld ?_ ?_
  rotate_left
  ·intro w' s0
   go_simp
   with_reducible rfl
  rotate_left
  ·simp only [Act.put, lsp, i64_w, i32_w]
   rfl
  refine one_ (i := 3) (N := some 13) #[true, true, true, true, true, true, false, false, false, false] rfl rfl (one_of HT_.out (by kernel_rfl)) (by decide) (fun K hK => ?_)
  refine goes_ Tryd.func107 (by kernel_rfl) rfl #[.agg #[.slice A0_0 l0_0.length c0_0], .slice A1 l1.length c1, .int .i64 a2] (by rfl) rfl rfl el ?_
  with_reducible refine (impl_placeFault.calls k _ _ l0_0 _ _ l1 a2 t818 _ ?side1 ?side2 ?side3 ?side4 A5.out).mono ?_
  (case side1 => exact cq (Kd.C_below HR0_0.out HB.out))
  (case side2 => exact HC0_0.out)
  (case side3 => exact cq (Kd.C_below HR1.out HB.out))
  (case side4 => exact HC1.out)
  rintro e w30 ⟨rfl, hb⟩
  refine ⟨_, rfl, ?_⟩
  have n0_ := am (blk_below (bq BK816.out) hb)
  have n1_ := am (blk_below (bq BK817.out) hb)
  have n2_ := am (below_step (hs HB.out) hb)
  clear BK816
  clear BK817
  clear HB
  have BK816 := n0_
  have BK817 := n1_
  have HB := n2_
  clear n0_ n1_ n2_
  (try clear hb)
  (try clear hb2)
  (try clear hgw)
  (try clear hk)
  (try clear hi)
  refine hK.out _ _ ((blk_cell BK816.out 0).trans rfl) (fun hHeld => ?_)
  clear hK K
  refine norm_ (a' := ?_) ?_ ?_
  rotate_left
  ·show Act.put _ (some 13) _ = _
   simp only [Act.put, lsp, i64_w, i32_w]
   rfl
  refine one_ (i := 6) (N := some 16) #[true, true, true, true, true, true, true, false, false, false] rfl rfl (one_of HT_.out (by kernel_rfl)) (by decide) (fun K hK => ?_)
  refine goes_ Tryd.func58 (by kernel_rfl) rfl #[.agg #[.slice A0_0 l0_0.length c0_0], .slice A3 l3.length c3] (by rfl) rfl rfl el ?_
  with_reducible refine (impl_TermFault.calls k _ _ l0_0 _ _ l3 t819 _ ?side1 ?side2 ?side3 ?side4 A6.out).mono ?_
  (case side1 => exact cq (Kd.C_below HR0_0.out HB.out))
  (case side2 => exact HC0_0.out)
  (case side3 => exact cq (Kd.C_below HR3.out HB.out))
  (case side4 => exact HC3.out)
  rintro e w31 ⟨rfl, hb⟩
  refine ⟨_, rfl, ?_⟩
  have n0_ := am (blk_below (bq BK816.out) hb)
  have n1_ := am (blk_below (bq BK817.out) hb)
  have n2_ := am (below_step (hs HB.out) hb)
  clear BK816
  clear BK817
  clear HB
  have BK816 := n0_
  have BK817 := n1_
  have HB := n2_
  clear n0_ n1_ n2_
  (try clear hb)
  (try clear hb2)
  (try clear hgw)
  (try clear hk)
  (try clear hi)
  refine hK.out _ _ ((blk_cell BK816.out 0).trans rfl) (fun hHeld => ?_)
  clear hK K
  refine norm_ (a' := ?_) ?_ ?_
  rotate_left
  ·show Act.put _ (some 16) _ = _
   simp only [Act.put, lsp, i64_w, i32_w]
   rfl
  refine one_ (i := 7) (N := some 17) #[true, true, true, true, true, true, true, true, false, false] rfl rfl (one_of HT_.out (by kernel_rfl)) (by decide) (fun K hK => ?_)
  refine Kd.R_lit_step (Kd.int .i64) _ 2 ?hg (N := 17) ?hd (xs := ([t818, t819] : List Int)) (inner := [.int .i64 t818, .int .i64 t819]) (ok := fun _ => True) (okp := fun _ => True) ?hr ?hp (fun _ hk => hk) trivial (Below.refl _ _) (Nat.le_refl _) (by simp) ?_; (case hd => rfl); (case hg => rfl); (case hr => first | (go_simp; done) | (go_simp; rfl)); (case hp => exact (Reps.one (show Kd.M (Kd.int .i64) _ _ _ t818 [.int .i64 t818] from rfl) (Reps.one (show Kd.M (Kd.int .i64) _ _ _ t819 [.int .i64 t819] from rfl) (Reps.none _ _))))
  intro v821 w32 ho33 hb hg_ hnew_
  clear hg_ hnew_
  (first | rw [← Ny820.out] at ho33 | (simp only [Int.reduceToNat] at ho33; rw [← Ny820.out] at ho33))
  have n0_ := am (Kd.R_lower ho33 (below_size (hs HB.out)))
  have n1_ := am (blk_below (bq BK816.out) hb)
  have n2_ := am (blk_below (bq BK817.out) hb)
  have n3_ := am (below_step (hs HB.out) hb)
  clear BK816
  clear BK817
  clear HB
  have HO822 := n0_
  have BK816 := n1_
  have BK817 := n2_
  have HB := n3_
  clear n0_ n1_ n2_ n3_
  clear hb ho33
  obtain ⟨Ao34, co34, eo34⟩ := Kd.R_slice HO822.out
  (first | subst eo34 | (injection eo34 with f1_ f2_ f3_; have f4_ := f1_.symm; have f5_ := f3_.symm; clear f1_ f2_ f3_; subst f4_; subst f5_))
  refine hK.out _ _ ((blk_cell BK816.out 0).trans rfl) (fun hHeld => ?_)
  clear hK K
  refine norm_ (a' := ?_) ?_ ?_
  rotate_left
  ·show Act.put _ (some 17) _ = _
   simp only [Act.put, lsp, i64_w, i32_w]
   rfl
  refine one_ (i := 8) (N := some 18) #[true, true, true, true, true, true, true, true, true, false] rfl rfl (one_of HT_.out (by kernel_rfl)) (by decide) (fun K hK => ?_)
  refine goes_ Tryd.func106 (by kernel_rfl) rfl #[.slice Ao34 y820.length co34] (by rfl) rfl rfl el ?_
  with_reducible refine (impl_firstCode.calls k _ _ y820 t823 _ ?side1 ?side2 A7.out).mono ?_
  (case side1 => repeat (first | exact (Kd.R_reads' HO822.out).2.2 | (with_reducible refine Kd.C_alloc ?_ _) | (with_reducible refine Kd.C_drewN ?_ _) | (with_reducible refine Kd.C_drew ?_)))
  (case side2 => exact (Kd.R_reads' HO822.out).2.1)
  rintro e w35 ⟨rfl, hb⟩
  refine ⟨_, rfl, ?_⟩
  have n0_ := am (Kd.R_below (rq HO822.out) hb)
  have n1_ := am (blk_below (bq BK816.out) hb)
  have n2_ := am (blk_below (bq BK817.out) hb)
  have n3_ := am (below_step (hs HB.out) hb)
  clear HO822
  clear BK816
  clear BK817
  clear HB
  have HO822 := n0_
  have BK816 := n1_
  have BK817 := n2_
  have HB := n3_
  clear n0_ n1_ n2_ n3_
  (try clear hb)
  (try clear hb2)
  (try clear hgw)
  (try clear hk)
  (try clear hi)
  refine hK.out _ _ ((blk_cell BK816.out 0).trans rfl) (fun hHeld => ?_)
  clear hK K
  refine norm_ (a' := ?_) ?_ ?_
  rotate_left
  ·show Act.put _ (some 18) _ = _
   simp only [Act.put, lsp, i64_w, i32_w]
   rfl
  refine pure_ (i := 9) (N := some 9) (v := ?_) (a' := ?_) #[true, true, true, true, true, true, true, true, true, true] rfl rfl (any_of HT_.out (by kernel_rfl)) (fun _ _ _ h => h) (Or.inl ⟨by rfl, ?_⟩) ?_ ?_
  rotate_left
  ·intro w'
   go_simp
   with_reducible rfl
  rotate_left
  ·simp only [Act.put, lsp, i64_w, i32_w]
   rfl
  refine done_ (done_of HT_.out (by kernel_rfl)) ?_
  have hnb36 := NB817_816.out
  have hnc36 := NB816_817.out
  have hcz37_0 : w35.cell? ⟨gb817, 0, none⟩ = some (.int .i64 0) := (blk_cell BK817.out 0).trans rfl
  have hcz37_1 : w35.cell? ⟨gb817, 1, none⟩ = some (.slice none 0 0) := (blk_cell BK817.out 1).trans rfl
  have hfz37_0 := blk_frozen BK817.out 0
  have hfz37_1 := blk_frozen BK817.out 1
  try go_wp2
  refine bodyPost_ret (results_cell_row rfl _ _ gb817 67 #[.int .i64 t823, .slice none 0 0] (0, 0) _ rfl (by refine bq ?_; refine blk_put (cs := #[.int .i64 t823, .slice none 0 0]) ?_ 1 _ rfl; refine bq ?_; refine blk_put (cs := #[.int .i64 0, .slice none 0 0]) ?_ 0 _ rfl; refine bq ?_; exact BK817.out) Tryd.underlying67 rfl (by kernel_rfl)) rfl ?_
  exact ⟨_, by first | rfl | (simp [errW_none, errW_some] <;> rfl) | (simp [*, errW_none, errW_some] <;> rfl), by first | exact Kd.R_nil _ _ _ _ _ | exact Kd.N_nil _ _ _ _ _ | exact Kd.V_nil _ _ _ _ _ | exact Kd.Q_nil _ _ _ _ _ | exact Kd.S_nil _ _ _ _ _, by exact hs HB.out⟩
end Go.Proofs.YtedkbpbodkmhlaaDoor.P
