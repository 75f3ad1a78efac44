/- A part of the proof of the law FnExactCompareTerms. -/
import Derived.Laws.StructEq
import Derived.Test.YtgichahebemmiaaDoorCFnExactCompareTerms0
import Derived.Test.YtgichahebemmiaaDoorCFnExactCompareTerms1
import Derived.Test.YtgichahebemmiaaDoorCFnExactCompareTerms2
import Derived.Test.YtgichahebemmiaaDoorCFnExactCompareTerms5
import Derived.Test.YtgichahebemmiaaDoorCFnExactCompareTerms6
import Derived.Test.YtgichahebemmiaaDoorCFnExactCompareTerms15
namespace Go.Proofs.YtgichahebemmiaaDoor.P
open Go.RowKit Go.Proofs.YtgichahebemmiaaDoorW.PrintWords Go.Proofs.YtgichahebemmiaaDoorW.PrintLast Go.Proofs.YtgichahebemmiaaDoorW.PrintMore
attribute [local go_sem] max2_int min2_int max_two min_two max_three min_three max_four min_four   -- for this text's walks alone
set_option linter.unusedVariables false
set_option linter.unusedSimpArgs false
def impl_TermFault.j0 : Nat → List Int → Bool → List (S65) → Option (Int)
 | 0, _, _, _ => none
 | k + 1, x1, x18, x279000 => if x18 = true then (some 2) else ((slices_ContainsFunc_int64_int64_impl_TermFault_1.f k x1 [(⟨x279000⟩ : S32)]).bind fun t280 => (if t280 = true then (some 3) else ((impl_endOf.f k x279000 x1 0).bind fun t281 => (if t281 = (x1.length : Int) then (some 0) else (some 1)))))
def impl_TermFault.f (k : Nat) (l0_0 : List (S65)) (l1 : List Int) : Option (Int) := (impl_SignatureFault.f k l0_0).bind fun t279 => (if t279 = 0 then (if (l1.length : Int) < 1 then (impl_TermFault.j0 k l1 true l0_0) else (impl_TermFault.j0 k l1 (decide ((l1.length : Int) > 24)) l0_0)) else (some t279))
set_option maxHeartbeats 8000000 in
set_option maxRecDepth 100000 in
theorem impl_TermFault.calls (k : Nat) (A0_0 : Option Addr) (c0_0 : Nat) (l0_0 : List (S65)) (A1 : Option Addr) (c1 : Nat) (l1 : List Int) (r : Int) (w : World) (hr0_0 : Kd.C k65 w A0_0 l0_0.length l0_0) (hc0_0 : l0_0.length ≤ c0_0) (hr1 : Kd.C (Kd.int .i64) w A1 l1.length l1) (hc1 : l1.length ≤ c1) (h : impl_TermFault.f k l0_0 l1 = some r) :
  Calls Tryd.prog 25 #[.agg #[.slice A0_0 l0_0.length c0_0], .slice A1 l1.length c1] w fun e w' => e = .returned (.int .i64 r) ∧ Below w.heap.size w w' := by
 have hu32 := Tryd.underlying32
 have HR0_0 := am hr0_0
 have HC0_0 := am hc0_0
 clear hr0_0 hc0_0
 have HR1 := am hr1
 have HC1 := am hc1
 clear hr1 hc1
 have HB := am (Below.refl w.heap.size w)
 have H : ((impl_SignatureFault.f k l0_0).bind fun t279 => (if t279 = 0 then (if (l1.length : Int) < 1 then (impl_TermFault.j0 k l1 true l0_0) else (impl_TermFault.j0 k l1 (decide ((l1.length : Int) > 24)) l0_0)) else (some t279))) = some r := h
 clear h
 replace H := Option.bind_eq_some_iff.mp H
 obtain ⟨t279, A30, H⟩ := H
 replace H : (if t279 = 0 then (if (l1.length : Int) < 1 then (impl_TermFault.j0 k l1 true l0_0) else (impl_TermFault.j0 k l1 (decide ((l1.length : Int) > 24)) l0_0)) else (some t279)) = some r := H
 have A3 := am A30
 clear A30
 by_cases c4 : t279 = 0
 ·rw [if_pos c4] at H
  have c4b0 : (t279 == 0) = true := beq_iff_eq.mpr c4
  have c4b1 : (t279 != 0) = false := bne_eq_false_iff_eq.mpr c4
  clear c4
  have HC5 := am H
  clear H
  go_enter Tryd.func25, Tryd.ntmps25
  go_upto_region 4 with (first | ((with_reducible refine gate_dst (N := 2) rfl ?_); (try (refine gate_guard (by rfl) ?_; dsimp only)); refine box_event ?hg (N := 2) ?hd (cs := #[.slice A0_0 l0_0.length c0_0]) (t := 32) ?hr ?_; (case hd => rfl); (case hg => rfl); (case hr => first | (go_simp; done) | (go_simp; rfl)); intro gb278 hg w6 hbox hb; have n0_ := am (below_step (hq HB.out) hb); have n1_ := am (hbox); have n2_ := am (bz hg (hq HB.out)); have n3_ := n2_; clear HB; revert n0_ n1_ n2_ n3_; intro HB BK278 GW278 GE278; clear hb hbox hg; have hcz7_0 : w6.cell? ⟨gb278, 0, none⟩ = some (.slice A0_0 l0_0.length c0_0) := (blk_cell BK278.out 0).trans rfl; have hfz7_0 := blk_frozen BK278.out 0) | ((with_reducible refine gate_callee (f := 41) rfl ?_); refine goesL_ (some 7) rfl rfl Tryd.func41 (by kernel_rfl) rfl #[.agg #[.slice A0_0 l0_0.length c0_0]] rfl el ?_; (with_reducible refine (impl_SignatureFault.calls k _ _ l0_0 t279 _ ?side1 ?side2 A3.out).mono ?_); (case side1 => exact cq (Kd.C_below HR0_0.out HB.out)); (case side2 => exact HC0_0.out); rintro e w8 ⟨rfl, hb⟩; refine ⟨_, rfl, ?_⟩; have n0_ := am (blk_below (bq BK278.out) hb); have n1_ := am (below_step (hs HB.out) hb); clear BK278 HB; revert n0_ n1_; intro BK278 HB; (try clear hb); (try clear hb2); (try clear hgw); (try clear hk); (try clear hi)))
  (try simp only [Act.put, lsp])
  go_cut [18] (fun v18 wc => ∃ (kq : Nat) (x18_4 : Bool), v18 = .bool x18_4 ∧ Aside0 (impl_TermFault.j0 kq l1 x18_4 l0_0 = some r) ∧ Aside0 (kq ≤ k) ∧ Aside0 (wc.heap[gb278]? = some (.cells #[(.slice A0_0 l0_0.length c0_0)] 32 (0, 0))) ∧ Aside0 (Below w.heap.size w wc))
  case first =>
   have H := HC5.out
   clear HC5
   by_cases c9 : (l1.length : Int) < 1
   ·rw [if_pos c9] at H
    have c9b0 : decide ((l1.length : Int) < 1) = true := decide_eq_true c9
    have c9b1 : decide (l1.length < 1) = true := decide_eq_true (by omega)
    clear c9
    (first | rw [c9b0] | (simp only [i64_w, i32_w]; rw [c9b0]) | skip)
    have H' := am H
    clear H
    go_wp2
    go_meet
    case rel => exact ⟨_, (true), (by first | rfl | (simp; done) | (simp [*]; done)), H', ⟨by first | omega | exact Nat.le_refl _⟩, ⟨by refine bq ?_; exact BK278.out⟩, ⟨by exact hs HB.out⟩⟩
   ·rw [if_neg c9] at H
    have c9b0 : decide ((l1.length : Int) < 1) = false := decide_eq_false c9
    have c9b1 : decide (l1.length < 1) = false := decide_eq_false (by omega)
    clear c9
    (first | rw [c9b0] | (simp only [i64_w, i32_w]; rw [c9b0]) | skip)
    have H' := am H
    clear H
    go_wp2
    go_meet
    case rel => exact ⟨_, (decide ((l1.length : Int) > 24)), (by first | rfl | (simp; done) | (simp [*]; done)), H', ⟨by first | omega | exact Nat.le_refl _⟩, ⟨by refine bq ?_; exact BK278.out⟩, ⟨by exact hs HB.out⟩⟩
  case rest =>
   clear HC5
   try clear c1; try clear c2; try clear p2; try clear c4; try clear c4b0; try clear c4b1; try clear c9; try clear c9b0; try clear c9b1; try clear hcz7_0; try clear hfz7_0
   obtain ⟨kq, x18_4, rfl, HA, HJ4, BK278, HB⟩ := hcut
   cases kq with
   | zero => exact absurd HA.out (by simp [impl_TermFault.j0])
   | succ kj4 =>
    have H := HA.out
    clear HA
    simp only [impl_TermFault.j0] at H
    by_cases c10 : x18_4 = true
    ·subst c10
     have H1 : (some 2) = some r := by rw [if_pos rfl] at H; exact H
     clear H
     have H := H1
     clear H1
     obtain rfl := Option.some.inj H
     go_wp2
     go_ret
     exact ⟨by first | rfl | (simp [errW_none, errW_some] <;> rfl) | (simp [*, errW_none, errW_some] <;> rfl), by exact hs HB.out⟩
    ·replace c10 := Bool.eq_false_iff.mpr c10
     subst c10
     have H1 : ((slices_ContainsFunc_int64_int64_impl_TermFault_1.f kj4 l1 [(⟨l0_0⟩ : S32)]).bind fun t280 => (if t280 = true then (some 3) else ((impl_endOf.f kj4 l0_0 l1 0).bind fun t281 => (if t281 = (l1.length : Int) then (some 0) else (some 1))))) = some r := by rw [if_neg (show ¬ (false = true) by decide)] at H; exact H
     clear H
     have H := H1
     clear H1
     replace H := Option.bind_eq_some_iff.mp H
     obtain ⟨t280, A110, H⟩ := H
     replace H : (if t280 = true then (some 3) else ((impl_endOf.f kj4 l0_0 l1 0).bind fun t281 => (if t281 = (l1.length : Int) then (some 0) else (some 1)))) = some r := H
     have A11 := am A110
     clear A110
     by_cases c12 : t280 = true
     ·subst c12
      have H1 : (some 3) = some r := by rw [if_pos rfl] at H; exact H
      clear H
      have H := H1
      clear H1
      obtain rfl := Option.some.inj H
      go_wp2_with (first | ((with_reducible refine gate_callee (f := 42) rfl ?_); refine goesL_ (some 21) rfl rfl Tryd.func42 (by kernel_rfl) rfl #[.slice A1 l1.length c1, .func (.func 46) #[] #[.pointer (some ⟨gb278, 0, none⟩)]] rfl el ?_; (with_reducible refine (slices_ContainsFunc_int64_int64_impl_TermFault_1.calls kj4 _ _ l1 _ [(⟨l0_0⟩ : S32)] true _ ?side1 ?side2 ?side3 A11.out).mono ?_); (case side1 => exact cq (Kd.C_below HR1.out HB.out)); (case side2 => exact HC1.out); (case side3 => exact k32_box (bq BK278.out) (cq (Kd.C_below HR0_0.out HB.out)) (by exact HC0_0.out)); rintro e w13 ⟨rfl, hb⟩; refine ⟨_, rfl, ?_⟩; have n0_ := am (blk_below (bq BK278.out) hb); have n1_ := am (below_step (hs HB.out) hb); clear BK278 HB; revert n0_ n1_; intro BK278 HB; (try clear hb); (try clear hb2); (try clear hgw); (try clear hk); (try clear hi)))
      go_ret
      exact ⟨by first | rfl | (simp [errW_none, errW_some] <;> rfl) | (simp [*, errW_none, errW_some] <;> rfl), by exact hs HB.out⟩
     ·replace c12 := Bool.eq_false_iff.mpr c12
      subst c12
      have H1 : ((impl_endOf.f kj4 l0_0 l1 0).bind fun t281 => (if t281 = (l1.length : Int) then (some 0) else (some 1))) = some r := by rw [if_neg (show ¬ (false = true) by decide)] at H; exact H
      clear H
      have H := H1
      clear H1
      replace H := Option.bind_eq_some_iff.mp H
      obtain ⟨t281, A140, H⟩ := H
      replace H : (if t281 = (l1.length : Int) then (some 0) else (some 1)) = some r := H
      have A14 := am A140
      clear A140
      by_cases c15 : t281 = (l1.length : Int)
      ·rw [if_pos c15] at H
       have c15b0 : (t281 == (l1.length : Int)) = true := beq_iff_eq.mpr c15
       have c15b1 : (t281 != (l1.length : Int)) = false := bne_eq_false_iff_eq.mpr c15
       clear c15
       obtain rfl := Option.some.inj H
       go_wp2_with (first | ((with_reducible refine gate_callee (f := 42) rfl ?_); refine goesL_ (some 21) rfl rfl Tryd.func42 (by kernel_rfl) rfl #[.slice A1 l1.length c1, .func (.func 46) #[] #[.pointer (some ⟨gb278, 0, none⟩)]] rfl el ?_; (with_reducible refine (slices_ContainsFunc_int64_int64_impl_TermFault_1.calls kj4 _ _ l1 _ [(⟨l0_0⟩ : S32)] false _ ?side1 ?side2 ?side3 A11.out).mono ?_); (case side1 => exact cq (Kd.C_below HR1.out HB.out)); (case side2 => exact HC1.out); (case side3 => exact k32_box (bq BK278.out) (cq (Kd.C_below HR0_0.out HB.out)) (by exact HC0_0.out)); rintro e w16 ⟨rfl, hb⟩; refine ⟨_, rfl, ?_⟩; have n0_ := am (blk_below (bq BK278.out) hb); have n1_ := am (below_step (hs HB.out) hb); clear BK278 HB; revert n0_ n1_; intro BK278 HB; (try clear hb); (try clear hb2); (try clear hgw); (try clear hk); (try clear hi); have hcz17_0 : w16.cell? ⟨gb278, 0, none⟩ = some (.slice A0_0 l0_0.length c0_0) := (blk_cell BK278.out 0).trans rfl; have hfz17_0 := blk_frozen BK278.out 0) | ((with_reducible refine gate_callee (f := 48) rfl ?_); refine goesL_ (some 24) rfl rfl Tryd.func48 (by kernel_rfl) rfl #[.agg #[.slice A0_0 l0_0.length c0_0], .slice A1 l1.length c1, .int .i64 0] rfl el ?_; (with_reducible refine (impl_endOf.calls kj4 _ _ l0_0 _ _ l1 0 t281 _ ?side1 ?side2 ?side3 ?side4 A14.out).mono ?_); (case side1 => exact cq (Kd.C_below HR0_0.out HB.out)); (case side2 => exact HC0_0.out); (case side3 => exact cq (Kd.C_below HR1.out HB.out)); (case side4 => exact HC1.out); rintro e w18 ⟨rfl, hb⟩; refine ⟨_, rfl, ?_⟩; have n0_ := am (blk_below (bq BK278.out) hb); have n1_ := am (below_step (hs HB.out) hb); clear BK278 HB; revert n0_ n1_; intro BK278 HB; (try clear hb); (try clear hb2); (try clear hgw); (try clear hk); (try clear hi)))
       go_ret
       exact ⟨by first | rfl | (simp [errW_none, errW_some] <;> rfl) | (simp [*, errW_none, errW_some] <;> rfl), by exact hs HB.out⟩
      ·rw [if_neg c15] at H
       have c15b0 : (t281 == (l1.length : Int)) = false := beq_eq_false_iff_ne.mpr c15
       have c15b1 : (t281 != (l1.length : Int)) = true := bne_iff_ne.mpr c15
       obtain rfl := Option.some.inj H
       go_wp2_with (first | ((with_reducible refine gate_callee (f := 42) rfl ?_); refine goesL_ (some 21) rfl rfl Tryd.func42 (by kernel_rfl) rfl #[.slice A1 l1.length c1, .func (.func 46) #[] #[.pointer (some ⟨gb278, 0, none⟩)]] rfl el ?_; (with_reducible refine (slices_ContainsFunc_int64_int64_impl_TermFault_1.calls kj4 _ _ l1 _ [(⟨l0_0⟩ : S32)] false _ ?side1 ?side2 ?side3 A11.out).mono ?_); (case side1 => exact cq (Kd.C_below HR1.out HB.out)); (case side2 => exact HC1.out); (case side3 => exact k32_box (bq BK278.out) (cq (Kd.C_below HR0_0.out HB.out)) (by exact HC0_0.out)); rintro e w19 ⟨rfl, hb⟩; refine ⟨_, rfl, ?_⟩; have n0_ := am (blk_below (bq BK278.out) hb); have n1_ := am (below_step (hs HB.out) hb); clear BK278 HB; revert n0_ n1_; intro BK278 HB; (try clear hb); (try clear hb2); (try clear hgw); (try clear hk); (try clear hi); have hcz20_0 : w19.cell? ⟨gb278, 0, none⟩ = some (.slice A0_0 l0_0.length c0_0) := (blk_cell BK278.out 0).trans rfl; have hfz20_0 := blk_frozen BK278.out 0) | ((with_reducible refine gate_callee (f := 48) rfl ?_); refine goesL_ (some 24) rfl rfl Tryd.func48 (by kernel_rfl) rfl #[.agg #[.slice A0_0 l0_0.length c0_0], .slice A1 l1.length c1, .int .i64 0] rfl el ?_; (with_reducible refine (impl_endOf.calls kj4 _ _ l0_0 _ _ l1 0 t281 _ ?side1 ?side2 ?side3 ?side4 A14.out).mono ?_); (case side1 => exact cq (Kd.C_below HR0_0.out HB.out)); (case side2 => exact HC0_0.out); (case side3 => exact cq (Kd.C_below HR1.out HB.out)); (case side4 => exact HC1.out); rintro e w21 ⟨rfl, hb⟩; refine ⟨_, rfl, ?_⟩; have n0_ := am (blk_below (bq BK278.out) hb); have n1_ := am (below_step (hs HB.out) hb); clear BK278 HB; revert n0_ n1_; intro BK278 HB; (try clear hb); (try clear hb2); (try clear hgw); (try clear hk); (try clear hi)))
       go_ret
       exact ⟨by first | rfl | (simp [errW_none, errW_some] <;> rfl) | (simp [*, errW_none, errW_some] <;> rfl), by exact hs HB.out⟩
 ·rw [if_neg c4] at H
  have c4b0 : (t279 == 0) = false := beq_eq_false_iff_ne.mpr c4
  have c4b1 : (t279 != 0) = true := bne_iff_ne.mpr c4
  obtain rfl := Option.some.inj H
  go_enter Tryd.func25, Tryd.ntmps25
  go_wp2_with (first | ((with_reducible refine gate_dst (N := 2) rfl ?_); (try (refine gate_guard (by rfl) ?_; dsimp only)); refine box_event ?hg (N := 2) ?hd (cs := #[.slice A0_0 l0_0.length c0_0]) (t := 32) ?hr ?_; (case hd => rfl); (case hg => rfl); (case hr => first | (go_simp; done) | (go_simp; rfl)); intro gb278 hg w22 hbox hb; have n0_ := am (below_step (hq HB.out) hb); have n1_ := am (hbox); have n2_ := am (bz hg (hq HB.out)); have n3_ := n2_; clear HB; revert n0_ n1_ n2_ n3_; intro HB BK278 GW278 GE278; clear hb hbox hg; have hcz23_0 : w22.cell? ⟨gb278, 0, none⟩ = some (.slice A0_0 l0_0.length c0_0) := (blk_cell BK278.out 0).trans rfl; have hfz23_0 := blk_frozen BK278.out 0) | ((with_reducible refine gate_callee (f := 41) rfl ?_); refine goesL_ (some 7) rfl rfl Tryd.func41 (by kernel_rfl) rfl #[.agg #[.slice A0_0 l0_0.length c0_0]] rfl el ?_; (with_reducible refine (impl_SignatureFault.calls k _ _ l0_0 t279 _ ?side1 ?side2 A3.out).mono ?_); (case side1 => exact cq (Kd.C_below HR0_0.out HB.out)); (case side2 => exact HC0_0.out); rintro e w24 ⟨rfl, hb⟩; refine ⟨_, rfl, ?_⟩; have n0_ := am (blk_below (bq BK278.out) hb); have n1_ := am (below_step (hs HB.out) hb); clear BK278 HB; revert n0_ n1_; intro BK278 HB; (try clear hb); (try clear hb2); (try clear hgw); (try clear hk); (try clear hi)))
  go_ret
  exact ⟨by first | rfl | (simp [errW_none, errW_some] <;> rfl) | (simp [*, errW_none, errW_some] <;> rfl), by exact hs HB.out⟩
def impl_subterm.f (k : Nat) (l0_0 : List (S65)) (l1 : List Int) (a2 : Int) : Option (List Int) := (impl_endOf.f k l0_0 l1 a2).bind fun t283 => (if 0 ≤ a2 then (if a2 ≤ t283 then (if t283 ≤ (l1.length : Int) then (some ((l1.take (t283 : Int).toNat).drop (a2 : Int).toNat)) else (none)) else (none)) else (none))
theorem impl_subterm.mono : ∀ a0 a1 a2 k, LeO (impl_subterm.f k a0 a1 a2) (impl_subterm.f (k + 1) a0 a1 a2) := by
 intro a0 a1 a2 k
 unfold impl_subterm.f
 repeat' first
   | (with_reducible exact impl_endOf.mono _ _ _ _)
   | (with_reducible exact LeO.refl _)
   | (with_reducible exact LeO.none _)
   | (with_reducible refine LeO.ite ?_ ?_)
   | (with_reducible refine LeO.bind ?_ (fun _ => ?_))
   | exact impl_endOf.mono _ _ _ _
   | exact LeO.none _
   | refine LeO.ite ?_ ?_
   | refine LeO.bind ?_ (fun _ => ?_)
set_option maxHeartbeats 8000000 in
set_option maxRecDepth 100000 in
theorem impl_subterm.calls (k : Nat) (A0_0 : Option Addr) (c0_0 : Nat) (l0_0 : List (S65)) (P1_ : Nat → Prop) (A1 : Option Addr) (c1 : Nat) (l1 : List Int) (a2 : Int) (r : List Int) (w : World) (hr0_0 : Kd.C k65 w A0_0 l0_0.length l0_0) (hc0_0 : l0_0.length ≤ c0_0) (hs1 : Kd.V (Kd.int .i64) 2 w w.heap.size (fun k_ => P1_ k_) (.slice A1 l1.length c1) l1) (h : impl_subterm.f k l0_0 l1 a2 = some r) :
  Calls Tryd.prog 76 #[.agg #[.slice A0_0 l0_0.length c0_0], .slice A1 l1.length c1, .int .i64 a2] w fun e w' => ∃ v0_ : Value, e = .returned (v0_) ∧ Kd.V (Kd.int .i64) 2 w' w.heap.size (fun k_ => (P1_ k_ ∨ w.heap.size ≤ k_)) v0_ r ∧ Below w.heap.size w w' := by
 have hu32 := Tryd.underlying32
 have HR0_0 := am hr0_0
 have HC0_0 := am hc0_0
 clear hr0_0 hc0_0
 have HO1 := am (show Kd.V (Kd.int .i64) 2 w w.heap.size (fun k_ => (P1_ k_ ∨ w.heap.size ≤ k_)) (.slice A1 l1.length c1) l1 from Kd.V_mono hs1 (fun k_ hk => .inl hk))
 have HB := am (Below.refl w.heap.size w)
 have H : ((impl_endOf.f k l0_0 l1 a2).bind fun t283 => (if 0 ≤ a2 then (if a2 ≤ t283 then (if t283 ≤ (l1.length : Int) then (some ((l1.take (t283 : Int).toNat).drop (a2 : Int).toNat)) else (none)) else (none)) else (none))) = some r := h
 clear h
 replace H := Option.bind_eq_some_iff.mp H
 obtain ⟨t283, A40, H⟩ := H
 replace H : (if 0 ≤ a2 then (if a2 ≤ t283 then (if t283 ≤ (l1.length : Int) then (some ((l1.take (t283 : Int).toNat).drop (a2 : Int).toNat)) else (none)) else (none)) else (none)) = some r := H
 have A4 := am A40
 clear A40
 by_cases c5 : 0 ≤ a2
 ·rw [if_pos c5] at H
  have c5b0 := eq_true c5
  have c5b1 : decide (0 ≤ a2) = true := decide_eq_true c5
  clear c5
  by_cases c6 : a2 ≤ t283
  ·rw [if_pos c6] at H
   have c6b0 := eq_true c6
   have c6b1 : decide (a2 ≤ t283) = true := decide_eq_true c6
   clear c6
   by_cases c7 : t283 ≤ (l1.length : Int)
   ·rw [if_pos c7] at H
    have c7b0 := eq_true c7
    have c7b1 : decide (t283 ≤ (l1.length : Int)) = true := decide_eq_true c7
    clear c7
    obtain ⟨y284, hy284⟩ : ∃ y_ : List Int, y_ = ((l1.take (t283 : Int).toNat).drop (a2 : Int).toNat) := ⟨_, rfl⟩
    replace H : (some y284) = some r := by first | (rw [hy284]; with_reducible exact H) | (have H2_ := (Option.bind_some _ _).symm.trans H; rw [hy284]; with_reducible exact H2_) | (have H2_ := (Option.bind_some _ _).symm.trans H; with_reducible exact H2_) | with_reducible exact H | (rw [hy284]; exact H) | exact H
    have Ny284 := am hy284
    clear hy284
    obtain rfl := Option.some.inj H
    go_enter Tryd.func76, Tryd.ntmps76
    go_wp2_with (first | ((with_reducible refine gate_dst (N := 3) rfl ?_); refine box_event ?hg (N := 3) ?hd (cs := #[.slice A0_0 l0_0.length c0_0]) (t := 32) ?hr ?_; (case hd => rfl); (case hg => rfl); (case hr => first | (go_simp; done) | (go_simp; rfl)); intro gb282 hg w8 hbox hb; have n0_ := am (Kd.V_below (Kd.V_elderB (by (with_reducible repeat (first | apply Kd.V_alloc | apply Kd.V_drewN | apply Kd.V_drew)); exact HO1.out) gb282 (Nat.le_of_eq hg.symm)) hb); have n1_ := am (below_step (hq HB.out) hb); have n2_ := am (hbox); have n3_ := am (bz hg (hq HB.out)); have n4_ := n3_; clear HO1 HB; revert n0_ n1_ n2_ n3_ n4_; intro HO1 HB BK282 GW282 GE282; clear hb hbox hg; have hcz9_0 : w8.cell? ⟨gb282, 0, none⟩ = some (.slice A0_0 l0_0.length c0_0) := (blk_cell BK282.out 0).trans rfl; have hfz9_0 := blk_frozen BK282.out 0) | ((with_reducible refine gate_callee (f := 48) rfl ?_); refine goesL_ (some 12) rfl rfl Tryd.func48 (by kernel_rfl) rfl #[.agg #[.slice A0_0 l0_0.length c0_0], .slice A1 l1.length c1, .int .i64 a2] rfl el ?_; (with_reducible refine (impl_endOf.calls k _ _ l0_0 _ _ l1 a2 t283 _ ?side1 ?side2 ?side3 ?side4 A4.out).mono ?_); (case side1 => exact cq (Kd.C_below HR0_0.out HB.out)); (case side2 => exact HC0_0.out); (case side3 => repeat (first | exact (Kd.V_reads' HO1.out).2.2 | (with_reducible refine Kd.C_alloc ?_ _) | (with_reducible refine Kd.C_drewN ?_ _) | (with_reducible refine Kd.C_drew ?_))); (case side4 => exact (Kd.V_reads' HO1.out).2.1); rintro e w10 ⟨rfl, hb⟩; refine ⟨_, rfl, ?_⟩; have n0_ := am (Kd.V_below (by (with_reducible repeat (first | apply Kd.V_alloc | apply Kd.V_drewN | apply Kd.V_drew)); exact HO1.out) hb); have n1_ := am (blk_below (bq BK282.out) hb); have n2_ := am (below_step (hs HB.out) hb); clear HO1 BK282 HB; revert n0_ n1_ n2_; intro HO1 BK282 HB; (try clear hb); (try clear hb2); (try clear hgw); (try clear hk); (try clear hi); have q11 : (t283 : Int) ≤ ((l1.length : Int) : Int) := of_decide_eq_true (by first | (with_reducible assumption) | assumption); obtain ⟨i011, hi011, _, hsz11, _⟩ := info_parts info2; have hroom11 : l1.length ≤ c1 := (Kd.V_reads' HO1.out).2.1; have hC11 : Kd.F (Kd.int .i64) _ _ A1 l1.length l1 := (Kd.V_at (base := w.heap.size) HO1.out).2.2; have ql11 : (a2 : Int) ≤ (t283 : Int) := of_decide_eq_true (by first | (with_reducible assumption) | assumption); have q011 : (0 : Int) ≤ (a2 : Int) := of_decide_eq_true (by first | (with_reducible assumption) | assumption); have hcut11 := cut_mid (P := Tryd.prog) 25 2 .i64 .i64 Tryd.underlying25 hi011 1 hsz11 A1 l1.length c1 a2 t283 q011 ql11 q11 hroom11; have hr11 := Kd.F_mid (lo := (a2 : Int).toNat) (hi := (t283 : Int).toNat) (c := c1) hC11 (by omega) (by omega) hroom11; obtain ⟨A11, hA11⟩ : ∃ Az_, Az_ = (if c1 = (a2 : Int).toNat then A1 else (A1 : Option Addr).map (·.add ((a2 : Int).toNat * 1))) := ⟨_, rfl⟩; obtain ⟨c11, hc11⟩ : ∃ cz_, cz_ = c1 - (a2 : Int).toNat := ⟨_, rfl⟩; have hy11 : y284.length = (t283 : Int).toNat - (a2 : Int).toNat := (by rw [Ny284.out, List.length_drop, List.length_take] <;> omega); rw [show ((l1).take (t283 : Int).toNat).drop (a2 : Int).toNat = y284 from Ny284.out.symm] at hr11; replace hr11 : Kd.F (Kd.int .i64) _ _ A11 y284.length y284 := (by rw [hA11]; exact hr11); rw [← hy11, ← hA11, ← hc11] at hcut11; have HO288 := am (show Kd.V (Kd.int .i64) 2 _ w.heap.size _ (.slice A11 y284.length c11) y284 from Kd.V_mk (by rw [hy11, hc11]; exact Nat.sub_le_sub_right (Nat.le_trans (by omega) hroom11) _) hr11); have HC288 := am (show y284.length ≤ c11 from by rw [hy11, hc11]; exact Nat.sub_le_sub_right (Nat.le_trans (by omega) hroom11) _); clear hr11 hC11 hroom11 hi011 hsz11 hc11; have KY11 := am hy11; have KA11 := am hA11; clear hy11 hA11; replace q11 := eq_true q11))
    go_ret
    exact ⟨_, by first | rfl | (simp [errW_none, errW_some] <;> rfl) | (simp [*, errW_none, errW_some] <;> rfl), by (with_reducible repeat (first | apply Kd.V_alloc | apply Kd.V_drewN | apply Kd.V_drew)); exact Kd.V_mono HO288.out (fun _ hk => hk.1), by exact hs HB.out⟩
   ·rw [if_neg c7] at H
    exact absurd H (by simp)
  ·rw [if_neg c6] at H
   exact absurd H (by simp)
 ·rw [if_neg c5] at H
  exact absurd H (by simp)
def impl_argumentsOf.l0 : Nat → List Int → List Int → Int → Int → Int → List (S65) → Option (List Int)
 | 0, _, _, _, _, _, _ => none
 | k + 1, x1, x7, x8, x17, x18, x290000 => if x18 < x17 then (if x7.length < 17592186044416 then ((impl_endOf.f k x290000 x1 x8).bind fun t298 => (impl_argumentsOf.l0 k x1 (x7 ++ [x8]) t298 x17 (wrap64 (x18 + 1)) x290000)) else (none)) else (some x7)
def impl_argumentsOf.f (k : Nat) (l0_0 : List (S65)) (l1 : List Int) (a2 : Int) : Option (List Int) := if 0 ≤ a2 then (if a2 < (l1.length : Int) then ((impl_arityOf.f l0_0 (rd l1 a2)).bind fun t294 => (impl_argumentsOf.l0 k l1 (([] : List Int)) (wrap64 (a2 + 1)) t294 0 l0_0)) else (none)) else (none)
theorem impl_argumentsOf.mono_l : ∀ k, (∀ y0 y1 y2 y3 y4 y5, LeO (impl_argumentsOf.l0 k y0 y1 y2 y3 y4 y5) (impl_argumentsOf.l0 (k + 1) y0 y1 y2 y3 y4 y5))
 | 0 => fun _ _ _ _ _ _ r h => by simp [impl_argumentsOf.l0] at h
 | k + 1 => by
  have ih0 := impl_argumentsOf.mono_l k
  ·intro y0 y1 y2 y3 y4 y5
   unfold impl_argumentsOf.l0
   repeat' first
   | (with_reducible exact ih0 _ _ _ _ _ _)
   | (with_reducible exact impl_endOf.mono _ _ _ _)
   | (with_reducible exact LeO.refl _)
   | (with_reducible exact LeO.none _)
   | (with_reducible refine LeO.ite ?_ ?_)
   | (with_reducible refine LeO.bind ?_ (fun _ => ?_))
   | exact ih0 _ _ _ _ _ _
   | exact impl_endOf.mono _ _ _ _
   | exact LeO.none _
   | refine LeO.ite ?_ ?_
   | refine LeO.bind ?_ (fun _ => ?_)
theorem impl_argumentsOf.mono : ∀ a0 a1 a2 k, LeO (impl_argumentsOf.f k a0 a1 a2) (impl_argumentsOf.f (k + 1) a0 a1 a2) := by
 intro a0 a1 a2 k
 have ih0 := impl_argumentsOf.mono_l k
 unfold impl_argumentsOf.f
 repeat' first
   | (with_reducible exact ih0 _ _ _ _ _ _)
   | (with_reducible exact impl_endOf.mono _ _ _ _)
   | (with_reducible exact LeO.refl _)
   | (with_reducible exact LeO.none _)
   | (with_reducible refine LeO.ite ?_ ?_)
   | (with_reducible refine LeO.bind ?_ (fun _ => ?_))
   | exact ih0 _ _ _ _ _ _
   | exact impl_endOf.mono _ _ _ _
   | exact LeO.none _
   | refine LeO.ite ?_ ?_
   | refine LeO.bind ?_ (fun _ => ?_)
set_option maxHeartbeats 8000000 in
set_option maxRecDepth 100000 in
theorem impl_argumentsOf.calls (k : Nat) (A0_0 : Option Addr) (c0_0 : Nat) (l0_0 : List (S65)) (A1 : Option Addr) (c1 : Nat) (l1 : List Int) (a2 : Int) (r : List Int) (w : World) (hr0_0 : Kd.C k65 w A0_0 l0_0.length l0_0) (hc0_0 : l0_0.length ≤ c0_0) (hr1 : Kd.C (Kd.int .i64) w A1 l1.length l1) (hc1 : l1.length ≤ c1) (h : impl_argumentsOf.f k l0_0 l1 a2 = some r) :
  Calls Tryd.prog 77 #[.agg #[.slice A0_0 l0_0.length c0_0], .slice A1 l1.length c1, .int .i64 a2] w fun e w' => ∃ v0_ : Value, e = .returned (v0_) ∧ Kd.R (Kd.int .i64) 3 w' w.heap.size (fun _ => True) v0_ r ∧ Below w.heap.size w w' := by
 have hu32 := Tryd.underlying32
 have HR0_0 := am hr0_0
 have HC0_0 := am hc0_0
 clear hr0_0 hc0_0
 have HR1 := am hr1
 have HC1 := am hc1
 clear hr1 hc1
 have HB := am (Below.refl w.heap.size w)
 have H : (if 0 ≤ a2 then (if a2 < (l1.length : Int) then ((impl_arityOf.f l0_0 (rd l1 a2)).bind fun t294 => (impl_argumentsOf.l0 k l1 (([] : List Int)) (wrap64 (a2 + 1)) t294 0 l0_0)) else (none)) else (none)) = some r := h
 clear h
 obtain ⟨y290, hy290⟩ : ∃ y_ : List Int, y_ = (([] : List Int)) := ⟨_, rfl⟩
 replace H : (if 0 ≤ a2 then (if a2 < (l1.length : Int) then ((impl_arityOf.f l0_0 (rd l1 a2)).bind fun t294 => (impl_argumentsOf.l0 k l1 y290 (wrap64 (a2 + 1)) t294 0 l0_0)) else (none)) else (none)) = some r := by first | (rw [hy290]; with_reducible exact H) | (have H2_ := (Option.bind_some _ _).symm.trans H; rw [hy290]; with_reducible exact H2_) | (have H2_ := (Option.bind_some _ _).symm.trans H; with_reducible exact H2_) | with_reducible exact H | (rw [hy290]; exact H) | exact H
 have Ny290 := am hy290
 clear hy290
 by_cases c4 : 0 ≤ a2
 ·rw [if_pos c4] at H
  have c4b0 : decide (0 ≤ a2) = true := decide_eq_true c4
  clear c4
  by_cases c5 : a2 < (l1.length : Int)
  ·rw [if_pos c5] at H
   have c5b0 : decide (a2 < (l1.length : Int)) = true := decide_eq_true c5
   clear c5
   replace H := Option.bind_eq_some_iff.mp H
   obtain ⟨t294, A60, H⟩ := H
   replace H : (impl_argumentsOf.l0 k l1 y290 (wrap64 (a2 + 1)) t294 0 l0_0) = some r := H
   have A6 := am A60
   clear A60
   have H' := am H
   clear H
   go_enter Tryd.func77, Tryd.ntmps77
   try go_wp2_with (first | ((with_reducible refine gate_dst (N := 3) rfl ?_); refine box_event ?hg (N := 3) ?hd (cs := #[.slice A0_0 l0_0.length c0_0]) (t := 32) ?hr ?_; (case hd => rfl); (case hg => rfl); (case hr => first | (go_simp; done) | (go_simp; rfl)); intro gb289 hg w7 hbox hb; have n0_ := am (below_step (hq HB.out) hb); have n1_ := am (hbox); have n2_ := am (bz hg (hq HB.out)); have n3_ := n2_; clear HB; revert n0_ n1_ n2_ n3_; intro HB BK289 GW289 GE289; clear hb hbox hg) | ((with_reducible refine gate_dst (N := 9) rfl ?_); refine Kd.R_lit (Kd.int .i64) _ 3 ?hg (N := 9) ?hd (xs := ([] : List Int)) (inner := []) (ok := fun _ => True) (okp := fun _ => True) ?hr ?hp (fun _ hk => hk) trivial (Below.refl _ _) (Nat.le_refl _) (by simp) ?_; (case hd => rfl); (case hg => rfl); (case hr => first | (go_simp; done) | (go_simp; rfl)); (case hp => exact (Reps.none _ _)); intro v291 w8 ho9 hb hg_ hnew_; clear hg_ hnew_; (first | rw [← Ny290.out] at ho9 | (simp only [Int.reduceToNat] at ho9; rw [← Ny290.out] at ho9)); have n0_ := am (Kd.R_lower ho9 (below_size (hs HB.out))); have n1_ := am (blk_below (bq BK289.out) hb); have n2_ := am (below_step (hs HB.out) hb); clear BK289 HB; revert n0_ n1_ n2_; intro HO292 BK289 HB; clear hb ho9))
   have n0_ := am (Kd.R_drew HO292.out)
   have n1_ := am (blk_drew BK289.out)
   have n2_ := am (below_drew1 HB.out)
   clear HO292 BK289 HB; revert n0_ n1_ n2_; intro HO292 BK289 HB
   have p293 : 0 ≤ (a2 : Int) := of_decide_eq_true (by first | (with_reducible assumption) | assumption)
   have q293 : a2 < (l1.length : Int) := of_decide_eq_true (by first | (with_reducible assumption) | assumption)
   obtain ⟨ad293, e293, hx293_0⟩ := Kd.at_int HR1.out a2 p293 q293
   have hw293_0 := hx293_0
   cases e293
   replace hx293_0 := (HB.out.cell (World.block_lt_of_cell? w _ hx293_0)).trans hx293_0
   replace p293 := eq_true p293
   replace q293 := eq_true q293
   refine start_ (n := 7) (S := fun w' => w'.cell? ⟨gb289, 0, none⟩ = some (.slice A0_0 l0_0.length c0_0) ∧ w'.cell? (ad293.add (a2).toNat) = some (.int .i64 (rd l1 a2))) (ds := []) #[false, false, false, false, false, false, false] (by kernel_rfl) rfl rfl ⟨(blk_cell BK289.out 0).trans rfl, ((HB.out.cell (World.block_lt_of_cell? w _ hw293_0)).trans hw293_0)⟩ (fun hHeld => ?_)
   generalize w8.drew = w10 at HO292 BK289 HB hx293_0 hHeld ⊢
   refine pure_ (i := 1) (N := some 13) (v := ?_) (a' := ?_) #[false, true, false, false, false, false, false] rfl rfl (by kernel_rfl) (fun _ _ _ h => h) (Or.inl ⟨by rfl, ?_⟩) ?_ ?_
   rotate_left
   ·intro w'
    go_simp
    with_reducible rfl
   rotate_left
   ·simp only [Act.put, lsp, i64_w, i32_w]
    rfl
   refine pure_ (i := 2) (N := some 14) (v := ?_) (a' := ?_) #[false, true, true, false, false, false, false] rfl rfl (by kernel_rfl) (fun _ _ _ h => h) (Or.inl ⟨by rfl, ?_⟩) ?_ ?_
   rotate_left
   ·intro w'
    go_simp
    with_reducible rfl
   rotate_left
   ·simp only [Act.put, lsp, i64_w, i32_w]
    rfl
   refine pure_ (i := 3) (N := some 15) (v := ?_) (a' := ?_) #[false, true, true, true, false, false, false] rfl rfl (by kernel_rfl) (fun _ _ _ h => h) (Or.inl ⟨by rfl, ?_⟩) ?_ ?_
   rotate_left
   ·intro w'
    go_simp
    with_reducible rfl
   rotate_left
   ·simp only [Act.put, lsp, i64_w, i32_w]
    rfl
   refine pure_ (i := 6) (N := some 18) (v := ?_) (a' := ?_) #[false, true, true, true, false, false, true] rfl rfl (by kernel_rfl) (fun _ _ _ h => h) (Or.inl ⟨by rfl, ?_⟩) ?_ ?_
   rotate_left
   ·intro w'
    go_simp
    with_reducible rfl
   rotate_left
   ·simp only [Act.put, lsp, i64_w, i32_w]
    rfl
   refine take_ (i := 0) (N := some 12) (v := ?_) (a' := ?_) #[true, true, true, true, false, false, true] rfl rfl (by kernel_rfl) (fun _ _ _ h => h) (Or.inl ⟨by rfl, ?_⟩) hHeld ?_ ?_
   rotate_left
   ·rintro w' ⟨s0, s1⟩
    go_simp
    with_reducible rfl
   rotate_left
   ·simp only [Act.put, lsp, i64_w, i32_w]
    rfl
   refine take_ (i := 4) (N := some 16) (v := ?_) (a' := ?_) #[true, true, true, true, true, false, true] rfl rfl (by kernel_rfl) (fun _ _ _ h => h) (Or.inl ⟨by rfl, ?_⟩) hHeld ?_ ?_
   rotate_left
   ·rintro w' ⟨s0, s1⟩
    go_simp
    with_reducible rfl
   rotate_left
   ·simp only [Act.put, lsp, i64_w, i32_w]
    rfl
   refine one_ (i := 5) (N := some 17) #[true, true, true, true, true, true, true] rfl rfl (by kernel_rfl) (by decide) (fun K hK => ?_)
   refine goes_ Tryd.func65 (by kernel_rfl) rfl #[.agg #[.slice A0_0 l0_0.length c0_0], .int .i64 (rd l1 a2)] (by rfl) rfl rfl el ?_
   with_reducible refine (impl_arityOf.calls _ _ l0_0 (rd l1 a2) t294 _ ?side1 ?side2 A6.out).mono ?_
   (case side1 => exact cq (Kd.C_below HR0_0.out HB.out))
   (case side2 => exact HC0_0.out)
   rintro e w11 ⟨rfl, hb⟩
   refine ⟨_, rfl, ?_⟩
   have n0_ := am (Kd.R_below (rq HO292.out) hb)
   have n1_ := am (blk_below (bq BK289.out) hb)
   have n2_ := am (below_step (hs HB.out) hb)
   clear HO292 BK289 HB; revert n0_ n1_ n2_; intro HO292 BK289 HB
   (try clear hb)
   (try clear hb2)
   (try clear hgw)
   (try clear hk)
   (try clear hi)
   refine hK.out _ _ ⟨(blk_cell BK289.out 0).trans rfl, ((HB.out.cell (World.block_lt_of_cell? w _ hw293_0)).trans hw293_0)⟩ (fun hHeld => ?_)
   clear hK K
   refine norm_ (a' := ?_) ?_ ?_
   rotate_left
   ·show Act.put _ (some 17) _ = _
    simp only [Act.put, lsp, i64_w, i32_w]
    rfl
   refine done_ (by kernel_rfl) ?_
   try go_wp2
   go_loopg [7, 8, 18] k (fun kq v7 v8 v18 w' => ∃ (x7_1 : List Int) (x8_1 : Int) (x18_1 : Int), v8 = .int .i64 x8_1 ∧ v18 = .int .i64 x18_1 ∧ Aside0 (impl_argumentsOf.l0 kq l1 x7_1 x8_1 t294 x18_1 l0_0 = some r) ∧ Aside0 (kq ≤ k) ∧ Aside0 (Kd.R (Kd.int .i64) 3 w' w.heap.size (fun _ => True) v7 x7_1) ∧ Aside0 (w'.heap[gb289]? = some (.cells #[(.slice A0_0 l0_0.length c0_0)] 32 (0, 0))) ∧ Aside0 (Below w.heap.size w w'))
   case atStart => exact ⟨(y290), (wrap64 (a2 + 1)), (0), (by first | rfl | (simp; done) | (simp [*]; done)), (by first | rfl | (simp; done) | (simp [*]; done)), H', ⟨Nat.le_refl _⟩, ⟨by (with_reducible repeat (first | apply Kd.R_alloc | apply Kd.R_drewN | apply Kd.R_drew)); exact HO292.out⟩, ⟨by refine bq ?_; exact BK289.out⟩, ⟨by exact hs HB.out⟩⟩
   case round =>
    clear H'
    try clear c1; try clear p2; try clear q2; try clear hx2; try clear c4; try clear c4b0; try clear c5; try clear c5b0; try clear c6; try clear p6; try clear c7; try clear hx293_0; try clear p293; try clear q293
    obtain ⟨x7_1, x8_1, x18_1, rfl, rfl, HA, HK1, HO_7, BK289, HB⟩ := hrel
    cases gk with
    | zero => exact absurd HA.out (by simp [impl_argumentsOf.l0])
    | succ k1 =>
     have H := HA.out
     clear HA
     simp only [impl_argumentsOf.l0] at H
     by_cases c12 : x18_1 < t294
     ·rw [if_pos c12] at H
      have c12b0 : decide (x18_1 < t294) = true := decide_eq_true c12
      clear c12
      by_cases c13 : x7_1.length < 17592186044416
      ·rw [if_pos c13] at H
       have LMc13 := am c13
       clear c13
       obtain ⟨y295, hy295⟩ : ∃ y_ : List Int, y_ = (x7_1 ++ [x8_1]) := ⟨_, rfl⟩
       replace H : ((impl_endOf.f k1 l0_0 l1 x8_1).bind fun t298 => (impl_argumentsOf.l0 k1 l1 y295 t298 t294 (wrap64 (x18_1 + 1)) l0_0)) = some r := by first | (rw [hy295]; with_reducible exact H) | (have H2_ := (Option.bind_some _ _).symm.trans H; rw [hy295]; with_reducible exact H2_) | (have H2_ := (Option.bind_some _ _).symm.trans H; with_reducible exact H2_) | with_reducible exact H | (rw [hy295]; exact H) | exact H
       have Ny295 := am hy295
       clear hy295
       replace H := Option.bind_eq_some_iff.mp H
       obtain ⟨t298, A140, H⟩ := H
       replace H : (impl_argumentsOf.l0 k1 l1 y295 t298 t294 (wrap64 (x18_1 + 1)) l0_0) = some r := H
       have A14 := am A140
       clear A140
       have H' := am H
       clear H
       go_wp2_with (first | ((with_reducible refine gate_builtin (b := .append) (xs := #[.tmp 20, .tmp 22]) rfl ?_); at_builtin; refine Kd.R_append (Kd.int .i64) (w0 := w) w.heap.size rfl (.tmp 20) (.tmp 22) 98 3 (.int .i64 0) 8 rfl Tryd.underlying98 info3 rfl (by decide) (by omega) u7 x7_1 x8_1 [.int .i64 x8_1] (fun _ => True) (fun _ => False) rfl rfl ?aP (fun _ hk => hk.elim) ?aF ?aO ?aB ?aS ?aL ?_; (case aP => exact rfl); (case aB => exact (hs HB.out)); (case aF => exact (fun _ _ => trivial)); (case aO => exact (rq HO_7.out)); (case aS => exact (below_size (hs HB.out))); (case aL => have := LMc13.out; omega); intro v296 w15 ho hb hg hat; rw [← Ny295.out] at ho; have n0_ := am (blk_grown (bq BK289.out) hg (Kd.R_ne HO_7.out BK289.out (by decide))); have n1_ := am (hb); have n2_ := am (ho); clear BK289 HB HO_7; revert n0_ n1_ n2_; intro BK289 HB HO297; clear ho hb hg hat; have hcz16_0 : w15.cell? ⟨gb289, 0, none⟩ = some (.slice A0_0 l0_0.length c0_0) := (blk_cell BK289.out 0).trans rfl; have hfz16_0 := blk_frozen BK289.out 0) | ((with_reducible refine gate_callee (f := 48) rfl ?_); refine goesL_ (some 27) rfl rfl Tryd.func48 (by kernel_rfl) rfl #[.agg #[.slice A0_0 l0_0.length c0_0], .slice (some ad293) l1.length c1, .int .i64 x8_1] rfl el ?_; (with_reducible refine (impl_endOf.calls k1 _ _ l0_0 _ _ l1 x8_1 t298 _ ?side1 ?side2 ?side3 ?side4 A14.out).mono ?_); (case side1 => exact cq (Kd.C_below HR0_0.out HB.out)); (case side2 => exact HC0_0.out); (case side3 => exact cq (Kd.C_below HR1.out HB.out)); (case side4 => exact HC1.out); rintro e w17 ⟨rfl, hb⟩; refine ⟨_, rfl, ?_⟩; have n0_ := am (Kd.R_below (rq HO297.out) hb); have n1_ := am (blk_below (bq BK289.out) hb); have n2_ := am (below_step (hs HB.out) hb); clear HO297 BK289 HB; revert n0_ n1_ n2_; intro HO297 BK289 HB; (try clear hb); (try clear hb2); (try clear hgw); (try clear hk); (try clear hi)))
       go_roundg k1
       case measure => have := HK1.out; omega
       case rel => exact ⟨(y295), (t298), (wrap64 (x18_1 + 1)), (by first | rfl | (simp; done) | (simp [*]; done)), (by first | rfl | (simp; done) | (simp [*]; done)), H', ⟨by have := HK1.out; omega⟩, ⟨by (with_reducible repeat (first | apply Kd.R_alloc | apply Kd.R_drewN | apply Kd.R_drew)); exact HO297.out⟩, ⟨by refine bq ?_; exact BK289.out⟩, ⟨by exact hs HB.out⟩⟩
      ·rw [if_neg c13] at H
       exact absurd H (by simp)
     ·rw [if_neg c12] at H
      have c12b0 : decide (x18_1 < t294) = false := decide_eq_false c12
      clear c12
      obtain rfl := Option.some.inj H
      go_wp2
      go_ret
      exact ⟨_, by first | rfl | (simp [errW_none, errW_some] <;> rfl) | (simp [*, errW_none, errW_some] <;> rfl), by (with_reducible repeat (first | apply Kd.R_alloc | apply Kd.R_drewN | apply Kd.R_drew)); exact HO_7.out, by exact hs HB.out⟩
  ·rw [if_neg c5] at H
   exact absurd H (by simp)
 ·rw [if_neg c4] at H
  exact absurd H (by simp)
def slices_Equal_int64_int64.l0 : Nat → List Int → List Int → Int → Int → Option (Bool)
 | 0, _, _, _, _ => none
 | k + 1, x0, x1, x12, x13 => if x13 < x12 then (if 0 ≤ x13 then (if x13 < (x0.length : Int) then (if x13 < (x1.length : Int) then (if (rd x0 x13) = (rd x1 x13) then (slices_Equal_int64_int64.l0 k x0 x1 x12 (wrap64 (x13 + 1))) else (some false)) else (none)) else (none)) else (none)) else (some true)
def slices_Equal_int64_int64.f (k : Nat) (l0 : List Int) (l1 : List Int) : Option (Bool) := if (l0.length : Int) = (l1.length : Int) then (slices_Equal_int64_int64.l0 k l0 l1 (l0.length : Int) 0) else (some false)
theorem slices_Equal_int64_int64.mono_l : ∀ k, (∀ y0 y1 y2 y3, LeO (slices_Equal_int64_int64.l0 k y0 y1 y2 y3) (slices_Equal_int64_int64.l0 (k + 1) y0 y1 y2 y3))
 | 0 => fun _ _ _ _ r h => by simp [slices_Equal_int64_int64.l0] at h
 | k + 1 => by
  have ih0 := slices_Equal_int64_int64.mono_l k
  ·intro y0 y1 y2 y3
   unfold slices_Equal_int64_int64.l0
   repeat' first
   | (with_reducible exact ih0 _ _ _ _)
   | (with_reducible exact LeO.refl _)
   | (with_reducible exact LeO.none _)
   | (with_reducible refine LeO.ite ?_ ?_)
   | (with_reducible refine LeO.bind ?_ (fun _ => ?_))
   | exact ih0 _ _ _ _
   | exact LeO.none _
   | refine LeO.ite ?_ ?_
   | refine LeO.bind ?_ (fun _ => ?_)
theorem slices_Equal_int64_int64.mono : ∀ a0 a1 k, LeO (slices_Equal_int64_int64.f k a0 a1) (slices_Equal_int64_int64.f (k + 1) a0 a1) := by
 intro a0 a1 k
 have ih0 := slices_Equal_int64_int64.mono_l k
 unfold slices_Equal_int64_int64.f
 repeat' first
   | (with_reducible exact ih0 _ _ _ _)
   | (with_reducible exact LeO.refl _)
   | (with_reducible exact LeO.none _)
   | (with_reducible refine LeO.ite ?_ ?_)
   | (with_reducible refine LeO.bind ?_ (fun _ => ?_))
   | exact ih0 _ _ _ _
   | exact LeO.none _
   | refine LeO.ite ?_ ?_
   | refine LeO.bind ?_ (fun _ => ?_)
set_option maxHeartbeats 8000000 in
set_option maxRecDepth 100000 in
theorem slices_Equal_int64_int64.calls (k : Nat) (A0 : Option Addr) (c0 : Nat) (l0 : List Int) (A1 : Option Addr) (c1 : Nat) (l1 : List Int) (r : Bool) (w : World) (hr0 : Kd.C (Kd.int .i64) w A0 l0.length l0) (hc0 : l0.length ≤ c0) (hr1 : Kd.C (Kd.int .i64) w A1 l1.length l1) (hc1 : l1.length ≤ c1) (h : slices_Equal_int64_int64.f k l0 l1 = some r) :
  Calls Tryd.prog 49 #[.slice A0 l0.length c0, .slice A1 l1.length c1] w fun e w' => e = .returned (.bool r) ∧ Drawn0 w w' := by
 have HR0 := am hr0
 have HC0 := am hc0
 clear hr0 hc0
 have HR1 := am hr1
 have HC1 := am hc1
 clear hr1 hc1
 have H : (if (l0.length : Int) = (l1.length : Int) then (slices_Equal_int64_int64.l0 k l0 l1 (l0.length : Int) 0) else (some false)) = some r := h
 clear h
 by_cases c3 : (l0.length : Int) = (l1.length : Int)
 ·rw [if_pos c3] at H
  have c3b0 : ((l0.length : Int) == (l1.length : Int)) = true := beq_iff_eq.mpr c3
  have c3b1 : ((l0.length : Int) != (l1.length : Int)) = false := bne_eq_false_iff_eq.mpr c3
  have c3b2 : (l0.length == l1.length) = true := by first | simpa using c3 | (simp at c3 ⊢; omega)
  clear c3
  have H' := am H
  clear H
  go_enter Tryd.func49, Tryd.ntmps49
  go_wp2
  repeat (go_quiet (fail); try go_wp2)
  go_loopg [13] k (fun kq v13 w' => ∃ (x13_1 : Int), v13 = .int .i64 x13_1 ∧ Aside0 (slices_Equal_int64_int64.l0 kq l0 l1 (l0.length : Int) x13_1 = some r) ∧ Aside0 (kq ≤ k) ∧ Drawn0 w w')
  case atStart => exact ⟨(0), (by first | rfl | (simp; done) | (simp [*]; done)), H', ⟨Nat.le_refl _⟩, by repeat (first | exact Drawn0.refl _ | apply Drawn0.step)⟩
  case round =>
   clear H'
   try clear c1; try clear p2; try clear c3; try clear c3b0; try clear c3b1; try clear c3b2
   obtain ⟨x13_1, rfl, HA, HK1, ⟨m1, rfl⟩⟩ := hrel
   cases gk with
   | zero => exact absurd HA.out (by simp [slices_Equal_int64_int64.l0])
   | succ k1 =>
    have H := HA.out
    clear HA
    simp only [slices_Equal_int64_int64.l0] at H
    by_cases c4 : x13_1 < (l0.length : Int)
    ·rw [if_pos c4] at H
     have c4b0 : decide (x13_1 < (l0.length : Int)) = true := decide_eq_true c4
     clear c4
     by_cases c5 : 0 ≤ x13_1
     ·rw [if_pos c5] at H
      have c5b0 : decide (0 ≤ x13_1) = true := decide_eq_true c5
      clear c5
      by_cases c6 : x13_1 < (l0.length : Int)
      ·rw [if_pos c6] at H
       have c6b0 : decide (x13_1 < (l0.length : Int)) = true := decide_eq_true c6
       clear c6
       by_cases c7 : x13_1 < (l1.length : Int)
       ·rw [if_pos c7] at H
        have c7b0 : decide (x13_1 < (l1.length : Int)) = true := decide_eq_true c7
        clear c7
        by_cases c8 : (rd l0 x13_1) = (rd l1 x13_1)
        ·rw [if_pos c8] at H
         have c8b0 : ((rd l0 x13_1) == (rd l1 x13_1)) = true := beq_iff_eq.mpr c8
         have c8b1 : ((rd l0 x13_1) != (rd l1 x13_1)) = false := bne_eq_false_iff_eq.mpr c8
         clear c8
         have H' := am H
         clear H
         have p299 : 0 ≤ (x13_1 : Int) := of_decide_eq_true (by first | (with_reducible assumption) | assumption)
         have q299 : x13_1 < (l0.length : Int) := of_decide_eq_true (by first | (with_reducible assumption) | assumption)
         obtain ⟨ad299, e299, hx299_0⟩ := Kd.at_int HR0.out x13_1 p299 q299
         cases e299
         replace p299 := eq_true p299
         replace q299 := eq_true q299
         have p300 : 0 ≤ (x13_1 : Int) := of_decide_eq_true (by first | (with_reducible assumption) | assumption)
         have q300 : x13_1 < (l1.length : Int) := of_decide_eq_true (by first | (with_reducible assumption) | assumption)
         obtain ⟨ad300, e300, hx300_0⟩ := Kd.at_int HR1.out x13_1 p300 q300
         cases e300
         replace p300 := eq_true p300
         replace q300 := eq_true q300
         go_wp2
         repeat (go_quiet (fail); try go_wp2)
         go_roundg k1
         case measure => have := HK1.out; omega
         case rel => exact ⟨(wrap64 (x13_1 + 1)), (by first | rfl | (simp; done) | (simp [*]; done)), H', ⟨by have := HK1.out; omega⟩, by repeat (first | exact Drawn0.refl _ | apply Drawn0.step)⟩
        ·rw [if_neg c8] at H
         have c8b0 : ((rd l0 x13_1) == (rd l1 x13_1)) = false := beq_eq_false_iff_ne.mpr c8
         have c8b1 : ((rd l0 x13_1) != (rd l1 x13_1)) = true := bne_iff_ne.mpr c8
         obtain rfl := Option.some.inj H
         have p299 : 0 ≤ (x13_1 : Int) := of_decide_eq_true (by first | (with_reducible assumption) | assumption)
         have q299 : x13_1 < (l0.length : Int) := of_decide_eq_true (by first | (with_reducible assumption) | assumption)
         obtain ⟨ad299, e299, hx299_0⟩ := Kd.at_int HR0.out x13_1 p299 q299
         cases e299
         replace p299 := eq_true p299
         replace q299 := eq_true q299
         have p300 : 0 ≤ (x13_1 : Int) := of_decide_eq_true (by first | (with_reducible assumption) | assumption)
         have q300 : x13_1 < (l1.length : Int) := of_decide_eq_true (by first | (with_reducible assumption) | assumption)
         obtain ⟨ad300, e300, hx300_0⟩ := Kd.at_int HR1.out x13_1 p300 q300
         cases e300
         replace p300 := eq_true p300
         replace q300 := eq_true q300
         go_wp2
         repeat (go_quiet (fail); try go_wp2)
         go_ret
         exact ⟨by first | rfl | (simp; done) | (simp [*]; done), by repeat (first | exact Drawn0.refl _ | apply Drawn0.step)⟩
       ·rw [if_neg c7] at H
        exact absurd H (by simp)
      ·rw [if_neg c6] at H
       exact absurd H (by simp)
     ·rw [if_neg c5] at H
      exact absurd H (by simp)
    ·rw [if_neg c4] at H
     have c4b0 : decide (x13_1 < (l0.length : Int)) = false := decide_eq_false c4
     clear c4
     obtain rfl := Option.some.inj H
     go_wp2
     repeat (go_quiet (fail); try go_wp2)
     go_ret
     exact ⟨by first | rfl | (simp; done) | (simp [*]; done), by repeat (first | exact Drawn0.refl _ | apply Drawn0.step)⟩
 ·rw [if_neg c3] at H
  have c3b0 : ((l0.length : Int) == (l1.length : Int)) = false := beq_eq_false_iff_ne.mpr c3
  have c3b1 : ((l0.length : Int) != (l1.length : Int)) = true := bne_iff_ne.mpr c3
  have c3b2 : (l0.length == l1.length) = false := by first | simpa using c3 | (simp at c3 ⊢; omega)
  obtain rfl := Option.some.inj H
  go_enter Tryd.func49, Tryd.ntmps49
  go_wp2
  repeat (go_quiet (fail); try go_wp2)
  go_ret
  exact ⟨by first | rfl | (simp; done) | (simp [*]; done), by repeat (first | exact Drawn0.refl _ | apply Drawn0.step)⟩
end Go.Proofs.YtgichahebemmiaaDoor.P
namespace Go.Proofs.YtgichahebemmiaaDoor.P
open Go.RowKit Go.Proofs.YtgichahebemmiaaDoorW.PrintWords Go.Proofs.YtgichahebemmiaaDoorW.PrintLast Go.Proofs.YtgichahebemmiaaDoorW.PrintMore
attribute [local go_sem] max2_int min2_int max_two min_two max_three min_three max_four min_four   -- for this text's walks alone
set_option linter.unusedVariables false
set_option linter.unusedSimpArgs false
def impl_comparer_same.f (k : Nat) (l0 : List (S79)) (a1 : Int) (a2 : Int) : Option (Bool) := if 0 < (l0.length : Int) then ((impl_subterm.f k ((rd_T79 l0 0).f0.f0) ((rd_T79 l0 0).f2) a1).bind fun t305 => ((impl_subterm.f k ((rd_T79 l0 0).f0.f0) ((rd_T79 l0 0).f3) a2).bind fun t312 => ((slices_Equal_int64_int64.f k t305 t312).bind fun t315 => (some t315)))) else (none)
theorem impl_comparer_same.mono : ∀ a0 a1 a2 k, LeO (impl_comparer_same.f k a0 a1 a2) (impl_comparer_same.f (k + 1) a0 a1 a2) := by
 intro a0 a1 a2 k
 unfold impl_comparer_same.f
 repeat' first
   | (with_reducible exact impl_subterm.mono _ _ _ _)
   | (with_reducible exact slices_Equal_int64_int64.mono _ _ _)
   | (with_reducible exact LeO.refl _)
   | (with_reducible exact LeO.none _)
   | (with_reducible refine LeO.ite ?_ ?_)
   | (with_reducible refine LeO.bind ?_ (fun _ => ?_))
   | exact impl_subterm.mono _ _ _ _
   | exact slices_Equal_int64_int64.mono _ _ _
   | exact LeO.none _
   | refine LeO.ite ?_ ?_
   | refine LeO.bind ?_ (fun _ => ?_)
def impl_comparer_same.T1 : Bool × List (List Nat × List Nat) := (true, [([], []), ([0], [0]), ([1], [1]), ([2], [2]), ([], []), ([4], [4]), ([5], [5]), ([6], [6]), ([], []), ([3, 7, 8], [3, 7, 8]), ([], []), ([10], [10]), ([11], [11]), ([12], [12]), ([], []), ([14], [14]), ([15], [15]), ([16], [16]), ([], []), ([13, 17, 18, 9], [13, 17, 18]), ([9, 19, 19], [9, 19]), ([20, 20, 0, 1, 2, 3, 4, 5, 6, 7, 8, 9, 10, 11, 12, 13, 14, 15, 16, 17, 18, 19, 20], [20])])
def impl_comparer_same.B1 : List Nat := [0, 1, 3, 7, 0, 16, 48, 112, 0, 511, 0, 1024, 3072, 7168, 0, 16384, 49152, 114688, 0, 524287, 1048575, 2097151]
theorem impl_comparer_same.tab1 : rtab .any (opsOf Tryd.f78 1) = impl_comparer_same.T1 := by kernel_rfl
theorem impl_comparer_same.bits1 : waitsOk impl_comparer_same.T1.2 impl_comparer_same.B1 = true := by kernel_rfl
set_option maxHeartbeats 8000000 in
set_option maxRecDepth 100000 in
theorem impl_comparer_same.calls (k : Nat) (A0 : Option Addr) (l0 : List (S79)) (a1 : Int) (a2 : Int) (r : Bool) (w : World) (hr0 : Kd.C k79 w A0 l0.length l0) (h : impl_comparer_same.f k l0 a1 a2 = some r) :
  Calls Tryd.prog 78 #[.pointer A0, .int .i64 a1, .int .i64 a2] w fun e w' => e = .returned (.bool r) ∧ Below w.heap.size w w' := by
 have hu32 := Tryd.underlying32
 have HR0 := am hr0
 clear hr0
 have HB := am (Below.refl w.heap.size w)
 have H : (if 0 < (l0.length : Int) then ((impl_subterm.f k ((rd_T79 l0 0).f0.f0) ((rd_T79 l0 0).f2) a1).bind fun t305 => ((impl_subterm.f k ((rd_T79 l0 0).f0.f0) ((rd_T79 l0 0).f3) a2).bind fun t312 => ((slices_Equal_int64_int64.f k t305 t312).bind fun t315 => (some t315)))) else (none)) = some r := h
 clear h
 by_cases c4 : 0 < (l0.length : Int)
 ·rw [if_pos c4] at H
  have c4b0 : decide (0 < (l0.length : Int)) = true := decide_eq_true c4
  have c4b1 : decide (0 < l0.length) = true := decide_eq_true (by omega)
  clear c4
  replace H := Option.bind_eq_some_iff.mp H
  obtain ⟨t305, A50, H⟩ := H
  replace H : ((impl_subterm.f k ((rd_T79 l0 0).f0.f0) ((rd_T79 l0 0).f3) a2).bind fun t312 => ((slices_Equal_int64_int64.f k t305 t312).bind fun t315 => (some t315))) = some r := H
  have A5 := am A50
  clear A50
  replace H := Option.bind_eq_some_iff.mp H
  obtain ⟨t312, A60, H⟩ := H
  replace H : ((slices_Equal_int64_int64.f k t305 t312).bind fun t315 => (some t315)) = some r := H
  have A6 := am A60
  clear A60
  replace H := Option.bind_eq_some_iff.mp H
  obtain ⟨t315, A70, H⟩ := H
  replace H : (some t315) = some r := H
  have A7 := am A70
  clear A70
  obtain rfl := Option.some.inj H
  go_enter Tryd.func78, Tryd.ntmps78
  try go_wp2
  have n0_ := am (below_drew1 HB.out)
  clear HB; revert n0_; intro HB
  have p301 : 0 ≤ (0 : Int) := (by omega)
  have q301 : 0 < (l0.length : Int) := of_decide_eq_true (by first | (with_reducible assumption) | assumption)
  obtain ⟨ad301, A301_0, c301_0, A301_1, c301_1, A301_2, c301_2, A301_3, c301_3, e301, hx301_0, hx301_1, hx301_2, hx301_3, hx301_4, hl301_0, hi301_0, hl301_1, hi301_1, hl301_2, hi301_2, hl301_3, hi301_3⟩ := at_T79 HR0.out 0 p301 q301
  have hw301_4 := hx301_4
  (try rw [show ((0 : Int)).toNat = 0 from rfl] at hw301_4)
  (try rw [show 0 * 5 = 0 from rfl] at hw301_4)
  (try rw [Addr.add_zero'] at hw301_4)
  have hw301_3 := hx301_3
  (try rw [show ((0 : Int)).toNat = 0 from rfl] at hw301_3)
  (try rw [show 0 * 5 = 0 from rfl] at hw301_3)
  (try rw [Addr.add_zero'] at hw301_3)
  have hw301_2 := hx301_2
  (try rw [show ((0 : Int)).toNat = 0 from rfl] at hw301_2)
  (try rw [show 0 * 5 = 0 from rfl] at hw301_2)
  (try rw [Addr.add_zero'] at hw301_2)
  have hw301_1 := hx301_1
  (try rw [show ((0 : Int)).toNat = 0 from rfl] at hw301_1)
  (try rw [show 0 * 5 = 0 from rfl] at hw301_1)
  (try rw [Addr.add_zero'] at hw301_1)
  have hw301_0 := hx301_0
  (try rw [show ((0 : Int)).toNat = 0 from rfl] at hw301_0)
  (try rw [show 0 * 5 = 0 from rfl] at hw301_0)
  (try rw [Addr.add_zero'] at hw301_0)
  cases e301
  have qi301 : (0 < l0.length) = True := eq_true (by omega)
  (try rw [show ((0 : Int)).toNat = 0 from rfl] at hx301_0)
  (try rw [show 0 * 5 = 0 from rfl] at hx301_0)
  (try rw [Addr.add_zero'] at hx301_0)
  (try rw [show ((0 : Int)).toNat = 0 from rfl] at hx301_1)
  (try rw [show 0 * 5 = 0 from rfl] at hx301_1)
  (try rw [Addr.add_zero'] at hx301_1)
  (try rw [show ((0 : Int)).toNat = 0 from rfl] at hx301_2)
  (try rw [show 0 * 5 = 0 from rfl] at hx301_2)
  (try rw [Addr.add_zero'] at hx301_2)
  (try rw [show ((0 : Int)).toNat = 0 from rfl] at hx301_3)
  (try rw [show 0 * 5 = 0 from rfl] at hx301_3)
  (try rw [Addr.add_zero'] at hx301_3)
  (try rw [show ((0 : Int)).toNat = 0 from rfl] at hx301_4)
  (try rw [show 0 * 5 = 0 from rfl] at hx301_4)
  (try rw [Addr.add_zero'] at hx301_4)
  replace hx301_0 := (HB.out.cell (World.block_lt_of_cell? w _ hx301_0)).trans hx301_0
  replace hx301_1 := (HB.out.cell (World.block_lt_of_cell? w _ hx301_1)).trans hx301_1
  replace hx301_2 := (HB.out.cell (World.block_lt_of_cell? w _ hx301_2)).trans hx301_2
  replace hx301_3 := (HB.out.cell (World.block_lt_of_cell? w _ hx301_3)).trans hx301_3
  replace hx301_4 := (HB.out.cell (World.block_lt_of_cell? w _ hx301_4)).trans hx301_4
  have HR301_0 := am hi301_0
  have HC301_0 := am hl301_0
  clear hi301_0 hl301_0
  have HR301_1 := am hi301_1
  have HC301_1 := am hl301_1
  clear hi301_1 hl301_1
  have HR301_2 := am hi301_2
  have HC301_2 := am hl301_2
  clear hi301_2 hl301_2
  have HR301_3 := am hi301_3
  have HC301_3 := am hl301_3
  clear hi301_3 hl301_3
  replace p301 := eq_true p301
  replace q301 := eq_true q301
  have p302 : 0 ≤ (0 : Int) := (by omega)
  have q302 : 0 < (l0.length : Int) := of_decide_eq_true (by first | (with_reducible assumption) | assumption)
  obtain ⟨ad302, A302_0, c302_0, A302_1, c302_1, A302_2, c302_2, A302_3, c302_3, e302, hx302_0, hx302_1, hx302_2, hx302_3, hx302_4, hl302_0, hi302_0, hl302_1, hi302_1, hl302_2, hi302_2, hl302_3, hi302_3⟩ := at_T79 HR0.out 0 p302 q302
  have hw302_4 := hx302_4
  (try rw [show ((0 : Int)).toNat = 0 from rfl] at hw302_4)
  (try rw [show 0 * 5 = 0 from rfl] at hw302_4)
  (try rw [Addr.add_zero'] at hw302_4)
  have hw302_3 := hx302_3
  (try rw [show ((0 : Int)).toNat = 0 from rfl] at hw302_3)
  (try rw [show 0 * 5 = 0 from rfl] at hw302_3)
  (try rw [Addr.add_zero'] at hw302_3)
  have hw302_2 := hx302_2
  (try rw [show ((0 : Int)).toNat = 0 from rfl] at hw302_2)
  (try rw [show 0 * 5 = 0 from rfl] at hw302_2)
  (try rw [Addr.add_zero'] at hw302_2)
  have hw302_1 := hx302_1
  (try rw [show ((0 : Int)).toNat = 0 from rfl] at hw302_1)
  (try rw [show 0 * 5 = 0 from rfl] at hw302_1)
  (try rw [Addr.add_zero'] at hw302_1)
  have hw302_0 := hx302_0
  (try rw [show ((0 : Int)).toNat = 0 from rfl] at hw302_0)
  (try rw [show 0 * 5 = 0 from rfl] at hw302_0)
  (try rw [Addr.add_zero'] at hw302_0)
  obtain rfl : ad301 = ad302 := (by injection e302)
  have qi302 : (0 < l0.length) = True := eq_true (by omega)
  (try rw [show ((0 : Int)).toNat = 0 from rfl] at hx302_0)
  (try rw [show 0 * 5 = 0 from rfl] at hx302_0)
  (try rw [Addr.add_zero'] at hx302_0)
  (try rw [show ((0 : Int)).toNat = 0 from rfl] at hx302_1)
  (try rw [show 0 * 5 = 0 from rfl] at hx302_1)
  (try rw [Addr.add_zero'] at hx302_1)
  (try rw [show ((0 : Int)).toNat = 0 from rfl] at hx302_2)
  (try rw [show 0 * 5 = 0 from rfl] at hx302_2)
  (try rw [Addr.add_zero'] at hx302_2)
  (try rw [show ((0 : Int)).toNat = 0 from rfl] at hx302_3)
  (try rw [show 0 * 5 = 0 from rfl] at hx302_3)
  (try rw [Addr.add_zero'] at hx302_3)
  (try rw [show ((0 : Int)).toNat = 0 from rfl] at hx302_4)
  (try rw [show 0 * 5 = 0 from rfl] at hx302_4)
  (try rw [Addr.add_zero'] at hx302_4)
  replace hx302_0 := (HB.out.cell (World.block_lt_of_cell? w _ hx302_0)).trans hx302_0
  replace hx302_1 := (HB.out.cell (World.block_lt_of_cell? w _ hx302_1)).trans hx302_1
  replace hx302_2 := (HB.out.cell (World.block_lt_of_cell? w _ hx302_2)).trans hx302_2
  replace hx302_3 := (HB.out.cell (World.block_lt_of_cell? w _ hx302_3)).trans hx302_3
  replace hx302_4 := (HB.out.cell (World.block_lt_of_cell? w _ hx302_4)).trans hx302_4
  have HR302_0 := am hi302_0
  have HC302_0 := am hl302_0
  clear hi302_0 hl302_0
  have HR302_1 := am hi302_1
  have HC302_1 := am hl302_1
  clear hi302_1 hl302_1
  have HR302_2 := am hi302_2
  have HC302_2 := am hl302_2
  clear hi302_2 hl302_2
  have HR302_3 := am hi302_3
  have HC302_3 := am hl302_3
  clear hi302_3 hl302_3
  replace p302 := eq_true p302
  replace q302 := eq_true q302
  have ea_ := Option.some.inj (hx301_0.symm.trans hx302_0)
  injection ea_ with ea_ en_ ec_
  subst ea_
  subst ec_
  clear en_
  have ea_ := Option.some.inj (hx301_1.symm.trans hx302_1)
  injection ea_ with ea_ en_ ec_
  subst ea_
  subst ec_
  clear en_
  have ea_ := Option.some.inj (hx301_2.symm.trans hx302_2)
  injection ea_ with ea_ en_ ec_
  subst ea_
  subst ec_
  clear en_
  have ea_ := Option.some.inj (hx301_3.symm.trans hx302_3)
  injection ea_ with ea_ en_ ec_
  subst ea_
  subst ec_
  clear en_
  have p303 : 0 ≤ (0 : Int) := (by omega)
  have q303 : 0 < (l0.length : Int) := of_decide_eq_true (by first | (with_reducible assumption) | assumption)
  obtain ⟨ad303, A303_0, c303_0, A303_1, c303_1, A303_2, c303_2, A303_3, c303_3, e303, hx303_0, hx303_1, hx303_2, hx303_3, hx303_4, hl303_0, hi303_0, hl303_1, hi303_1, hl303_2, hi303_2, hl303_3, hi303_3⟩ := at_T79 HR0.out 0 p303 q303
  have hw303_4 := hx303_4
  (try rw [show ((0 : Int)).toNat = 0 from rfl] at hw303_4)
  (try rw [show 0 * 5 = 0 from rfl] at hw303_4)
  (try rw [Addr.add_zero'] at hw303_4)
  have hw303_3 := hx303_3
  (try rw [show ((0 : Int)).toNat = 0 from rfl] at hw303_3)
  (try rw [show 0 * 5 = 0 from rfl] at hw303_3)
  (try rw [Addr.add_zero'] at hw303_3)
  have hw303_2 := hx303_2
  (try rw [show ((0 : Int)).toNat = 0 from rfl] at hw303_2)
  (try rw [show 0 * 5 = 0 from rfl] at hw303_2)
  (try rw [Addr.add_zero'] at hw303_2)
  have hw303_1 := hx303_1
  (try rw [show ((0 : Int)).toNat = 0 from rfl] at hw303_1)
  (try rw [show 0 * 5 = 0 from rfl] at hw303_1)
  (try rw [Addr.add_zero'] at hw303_1)
  have hw303_0 := hx303_0
  (try rw [show ((0 : Int)).toNat = 0 from rfl] at hw303_0)
  (try rw [show 0 * 5 = 0 from rfl] at hw303_0)
  (try rw [Addr.add_zero'] at hw303_0)
  obtain rfl : ad301 = ad303 := (by injection e303)
  have qi303 : (0 < l0.length) = True := eq_true (by omega)
  (try rw [show ((0 : Int)).toNat = 0 from rfl] at hx303_0)
  (try rw [show 0 * 5 = 0 from rfl] at hx303_0)
  (try rw [Addr.add_zero'] at hx303_0)
  (try rw [show ((0 : Int)).toNat = 0 from rfl] at hx303_1)
  (try rw [show 0 * 5 = 0 from rfl] at hx303_1)
  (try rw [Addr.add_zero'] at hx303_1)
  (try rw [show ((0 : Int)).toNat = 0 from rfl] at hx303_2)
  (try rw [show 0 * 5 = 0 from rfl] at hx303_2)
  (try rw [Addr.add_zero'] at hx303_2)
  (try rw [show ((0 : Int)).toNat = 0 from rfl] at hx303_3)
  (try rw [show 0 * 5 = 0 from rfl] at hx303_3)
  (try rw [Addr.add_zero'] at hx303_3)
  (try rw [show ((0 : Int)).toNat = 0 from rfl] at hx303_4)
  (try rw [show 0 * 5 = 0 from rfl] at hx303_4)
  (try rw [Addr.add_zero'] at hx303_4)
  replace hx303_0 := (HB.out.cell (World.block_lt_of_cell? w _ hx303_0)).trans hx303_0
  replace hx303_1 := (HB.out.cell (World.block_lt_of_cell? w _ hx303_1)).trans hx303_1
  replace hx303_2 := (HB.out.cell (World.block_lt_of_cell? w _ hx303_2)).trans hx303_2
  replace hx303_3 := (HB.out.cell (World.block_lt_of_cell? w _ hx303_3)).trans hx303_3
  replace hx303_4 := (HB.out.cell (World.block_lt_of_cell? w _ hx303_4)).trans hx303_4
  have HR303_0 := am hi303_0
  have HC303_0 := am hl303_0
  clear hi303_0 hl303_0
  have HR303_1 := am hi303_1
  have HC303_1 := am hl303_1
  clear hi303_1 hl303_1
  have HR303_2 := am hi303_2
  have HC303_2 := am hl303_2
  clear hi303_2 hl303_2
  have HR303_3 := am hi303_3
  have HC303_3 := am hl303_3
  clear hi303_3 hl303_3
  replace p303 := eq_true p303
  replace q303 := eq_true q303
  have ea_ := Option.some.inj (hx301_0.symm.trans hx303_0)
  injection ea_ with ea_ en_ ec_
  subst ea_
  subst ec_
  clear en_
  have ea_ := Option.some.inj (hx301_1.symm.trans hx303_1)
  injection ea_ with ea_ en_ ec_
  subst ea_
  subst ec_
  clear en_
  have ea_ := Option.some.inj (hx301_2.symm.trans hx303_2)
  injection ea_ with ea_ en_ ec_
  subst ea_
  subst ec_
  clear en_
  have ea_ := Option.some.inj (hx301_3.symm.trans hx303_3)
  injection ea_ with ea_ en_ ec_
  subst ea_
  subst ec_
  clear en_
  have p304 : 0 ≤ (0 : Int) := (by omega)
  have q304 : 0 < (l0.length : Int) := of_decide_eq_true (by first | (with_reducible assumption) | assumption)
  obtain ⟨ad304, A304_0, c304_0, A304_1, c304_1, A304_2, c304_2, A304_3, c304_3, e304, hx304_0, hx304_1, hx304_2, hx304_3, hx304_4, hl304_0, hi304_0, hl304_1, hi304_1, hl304_2, hi304_2, hl304_3, hi304_3⟩ := at_T79 HR0.out 0 p304 q304
  have hw304_4 := hx304_4
  (try rw [show ((0 : Int)).toNat = 0 from rfl] at hw304_4)
  (try rw [show 0 * 5 = 0 from rfl] at hw304_4)
  (try rw [Addr.add_zero'] at hw304_4)
  have hw304_3 := hx304_3
  (try rw [show ((0 : Int)).toNat = 0 from rfl] at hw304_3)
  (try rw [show 0 * 5 = 0 from rfl] at hw304_3)
  (try rw [Addr.add_zero'] at hw304_3)
  have hw304_2 := hx304_2
  (try rw [show ((0 : Int)).toNat = 0 from rfl] at hw304_2)
  (try rw [show 0 * 5 = 0 from rfl] at hw304_2)
  (try rw [Addr.add_zero'] at hw304_2)
  have hw304_1 := hx304_1
  (try rw [show ((0 : Int)).toNat = 0 from rfl] at hw304_1)
  (try rw [show 0 * 5 = 0 from rfl] at hw304_1)
  (try rw [Addr.add_zero'] at hw304_1)
  have hw304_0 := hx304_0
  (try rw [show ((0 : Int)).toNat = 0 from rfl] at hw304_0)
  (try rw [show 0 * 5 = 0 from rfl] at hw304_0)
  (try rw [Addr.add_zero'] at hw304_0)
  obtain rfl : ad301 = ad304 := (by injection e304)
  have qi304 : (0 < l0.length) = True := eq_true (by omega)
  (try rw [show ((0 : Int)).toNat = 0 from rfl] at hx304_0)
  (try rw [show 0 * 5 = 0 from rfl] at hx304_0)
  (try rw [Addr.add_zero'] at hx304_0)
  (try rw [show ((0 : Int)).toNat = 0 from rfl] at hx304_1)
  (try rw [show 0 * 5 = 0 from rfl] at hx304_1)
  (try rw [Addr.add_zero'] at hx304_1)
  (try rw [show ((0 : Int)).toNat = 0 from rfl] at hx304_2)
  (try rw [show 0 * 5 = 0 from rfl] at hx304_2)
  (try rw [Addr.add_zero'] at hx304_2)
  (try rw [show ((0 : Int)).toNat = 0 from rfl] at hx304_3)
  (try rw [show 0 * 5 = 0 from rfl] at hx304_3)
  (try rw [Addr.add_zero'] at hx304_3)
  (try rw [show ((0 : Int)).toNat = 0 from rfl] at hx304_4)
  (try rw [show 0 * 5 = 0 from rfl] at hx304_4)
  (try rw [Addr.add_zero'] at hx304_4)
  replace hx304_0 := (HB.out.cell (World.block_lt_of_cell? w _ hx304_0)).trans hx304_0
  replace hx304_1 := (HB.out.cell (World.block_lt_of_cell? w _ hx304_1)).trans hx304_1
  replace hx304_2 := (HB.out.cell (World.block_lt_of_cell? w _ hx304_2)).trans hx304_2
  replace hx304_3 := (HB.out.cell (World.block_lt_of_cell? w _ hx304_3)).trans hx304_3
  replace hx304_4 := (HB.out.cell (World.block_lt_of_cell? w _ hx304_4)).trans hx304_4
  have HR304_0 := am hi304_0
  have HC304_0 := am hl304_0
  clear hi304_0 hl304_0
  have HR304_1 := am hi304_1
  have HC304_1 := am hl304_1
  clear hi304_1 hl304_1
  have HR304_2 := am hi304_2
  have HC304_2 := am hl304_2
  clear hi304_2 hl304_2
  have HR304_3 := am hi304_3
  have HC304_3 := am hl304_3
  clear hi304_3 hl304_3
  replace p304 := eq_true p304
  replace q304 := eq_true q304
  have ea_ := Option.some.inj (hx301_0.symm.trans hx304_0)
  injection ea_ with ea_ en_ ec_
  subst ea_
  subst ec_
  clear en_
  have ea_ := Option.some.inj (hx301_1.symm.trans hx304_1)
  injection ea_ with ea_ en_ ec_
  subst ea_
  subst ec_
  clear en_
  have ea_ := Option.some.inj (hx301_2.symm.trans hx304_2)
  injection ea_ with ea_ en_ ec_
  subst ea_
  subst ec_
  clear en_
  have ea_ := Option.some.inj (hx301_3.symm.trans hx304_3)
  injection ea_ with ea_ en_ ec_
  subst ea_
  subst ec_
  clear en_
  have p308 : 0 ≤ (0 : Int) := (by omega)
  have q308 : 0 < (l0.length : Int) := of_decide_eq_true (by first | (with_reducible assumption) | assumption)
  obtain ⟨ad308, A308_0, c308_0, A308_1, c308_1, A308_2, c308_2, A308_3, c308_3, e308, hx308_0, hx308_1, hx308_2, hx308_3, hx308_4, hl308_0, hi308_0, hl308_1, hi308_1, hl308_2, hi308_2, hl308_3, hi308_3⟩ := at_T79 HR0.out 0 p308 q308
  have hw308_4 := hx308_4
  (try rw [show ((0 : Int)).toNat = 0 from rfl] at hw308_4)
  (try rw [show 0 * 5 = 0 from rfl] at hw308_4)
  (try rw [Addr.add_zero'] at hw308_4)
  have hw308_3 := hx308_3
  (try rw [show ((0 : Int)).toNat = 0 from rfl] at hw308_3)
  (try rw [show 0 * 5 = 0 from rfl] at hw308_3)
  (try rw [Addr.add_zero'] at hw308_3)
  have hw308_2 := hx308_2
  (try rw [show ((0 : Int)).toNat = 0 from rfl] at hw308_2)
  (try rw [show 0 * 5 = 0 from rfl] at hw308_2)
  (try rw [Addr.add_zero'] at hw308_2)
  have hw308_1 := hx308_1
  (try rw [show ((0 : Int)).toNat = 0 from rfl] at hw308_1)
  (try rw [show 0 * 5 = 0 from rfl] at hw308_1)
  (try rw [Addr.add_zero'] at hw308_1)
  have hw308_0 := hx308_0
  (try rw [show ((0 : Int)).toNat = 0 from rfl] at hw308_0)
  (try rw [show 0 * 5 = 0 from rfl] at hw308_0)
  (try rw [Addr.add_zero'] at hw308_0)
  obtain rfl : ad301 = ad308 := (by injection e308)
  have qi308 : (0 < l0.length) = True := eq_true (by omega)
  (try rw [show ((0 : Int)).toNat = 0 from rfl] at hx308_0)
  (try rw [show 0 * 5 = 0 from rfl] at hx308_0)
  (try rw [Addr.add_zero'] at hx308_0)
  (try rw [show ((0 : Int)).toNat = 0 from rfl] at hx308_1)
  (try rw [show 0 * 5 = 0 from rfl] at hx308_1)
  (try rw [Addr.add_zero'] at hx308_1)
  (try rw [show ((0 : Int)).toNat = 0 from rfl] at hx308_2)
  (try rw [show 0 * 5 = 0 from rfl] at hx308_2)
  (try rw [Addr.add_zero'] at hx308_2)
  (try rw [show ((0 : Int)).toNat = 0 from rfl] at hx308_3)
  (try rw [show 0 * 5 = 0 from rfl] at hx308_3)
  (try rw [Addr.add_zero'] at hx308_3)
  (try rw [show ((0 : Int)).toNat = 0 from rfl] at hx308_4)
  (try rw [show 0 * 5 = 0 from rfl] at hx308_4)
  (try rw [Addr.add_zero'] at hx308_4)
  replace hx308_0 := (HB.out.cell (World.block_lt_of_cell? w _ hx308_0)).trans hx308_0
  replace hx308_1 := (HB.out.cell (World.block_lt_of_cell? w _ hx308_1)).trans hx308_1
  replace hx308_2 := (HB.out.cell (World.block_lt_of_cell? w _ hx308_2)).trans hx308_2
  replace hx308_3 := (HB.out.cell (World.block_lt_of_cell? w _ hx308_3)).trans hx308_3
  replace hx308_4 := (HB.out.cell (World.block_lt_of_cell? w _ hx308_4)).trans hx308_4
  have HR308_0 := am hi308_0
  have HC308_0 := am hl308_0
  clear hi308_0 hl308_0
  have HR308_1 := am hi308_1
  have HC308_1 := am hl308_1
  clear hi308_1 hl308_1
  have HR308_2 := am hi308_2
  have HC308_2 := am hl308_2
  clear hi308_2 hl308_2
  have HR308_3 := am hi308_3
  have HC308_3 := am hl308_3
  clear hi308_3 hl308_3
  replace p308 := eq_true p308
  replace q308 := eq_true q308
  have ea_ := Option.some.inj (hx301_0.symm.trans hx308_0)
  injection ea_ with ea_ en_ ec_
  subst ea_
  subst ec_
  clear en_
  have ea_ := Option.some.inj (hx301_1.symm.trans hx308_1)
  injection ea_ with ea_ en_ ec_
  subst ea_
  subst ec_
  clear en_
  have ea_ := Option.some.inj (hx301_2.symm.trans hx308_2)
  injection ea_ with ea_ en_ ec_
  subst ea_
  subst ec_
  clear en_
  have ea_ := Option.some.inj (hx301_3.symm.trans hx308_3)
  injection ea_ with ea_ en_ ec_
  subst ea_
  subst ec_
  clear en_
  have p309 : 0 ≤ (0 : Int) := (by omega)
  have q309 : 0 < (l0.length : Int) := of_decide_eq_true (by first | (with_reducible assumption) | assumption)
  obtain ⟨ad309, A309_0, c309_0, A309_1, c309_1, A309_2, c309_2, A309_3, c309_3, e309, hx309_0, hx309_1, hx309_2, hx309_3, hx309_4, hl309_0, hi309_0, hl309_1, hi309_1, hl309_2, hi309_2, hl309_3, hi309_3⟩ := at_T79 HR0.out 0 p309 q309
  have hw309_4 := hx309_4
  (try rw [show ((0 : Int)).toNat = 0 from rfl] at hw309_4)
  (try rw [show 0 * 5 = 0 from rfl] at hw309_4)
  (try rw [Addr.add_zero'] at hw309_4)
  have hw309_3 := hx309_3
  (try rw [show ((0 : Int)).toNat = 0 from rfl] at hw309_3)
  (try rw [show 0 * 5 = 0 from rfl] at hw309_3)
  (try rw [Addr.add_zero'] at hw309_3)
  have hw309_2 := hx309_2
  (try rw [show ((0 : Int)).toNat = 0 from rfl] at hw309_2)
  (try rw [show 0 * 5 = 0 from rfl] at hw309_2)
  (try rw [Addr.add_zero'] at hw309_2)
  have hw309_1 := hx309_1
  (try rw [show ((0 : Int)).toNat = 0 from rfl] at hw309_1)
  (try rw [show 0 * 5 = 0 from rfl] at hw309_1)
  (try rw [Addr.add_zero'] at hw309_1)
  have hw309_0 := hx309_0
  (try rw [show ((0 : Int)).toNat = 0 from rfl] at hw309_0)
  (try rw [show 0 * 5 = 0 from rfl] at hw309_0)
  (try rw [Addr.add_zero'] at hw309_0)
  obtain rfl : ad301 = ad309 := (by injection e309)
  have qi309 : (0 < l0.length) = True := eq_true (by omega)
  (try rw [show ((0 : Int)).toNat = 0 from rfl] at hx309_0)
  (try rw [show 0 * 5 = 0 from rfl] at hx309_0)
  (try rw [Addr.add_zero'] at hx309_0)
  (try rw [show ((0 : Int)).toNat = 0 from rfl] at hx309_1)
  (try rw [show 0 * 5 = 0 from rfl] at hx309_1)
  (try rw [Addr.add_zero'] at hx309_1)
  (try rw [show ((0 : Int)).toNat = 0 from rfl] at hx309_2)
  (try rw [show 0 * 5 = 0 from rfl] at hx309_2)
  (try rw [Addr.add_zero'] at hx309_2)
  (try rw [show ((0 : Int)).toNat = 0 from rfl] at hx309_3)
  (try rw [show 0 * 5 = 0 from rfl] at hx309_3)
  (try rw [Addr.add_zero'] at hx309_3)
  (try rw [show ((0 : Int)).toNat = 0 from rfl] at hx309_4)
  (try rw [show 0 * 5 = 0 from rfl] at hx309_4)
  (try rw [Addr.add_zero'] at hx309_4)
  replace hx309_0 := (HB.out.cell (World.block_lt_of_cell? w _ hx309_0)).trans hx309_0
  replace hx309_1 := (HB.out.cell (World.block_lt_of_cell? w _ hx309_1)).trans hx309_1
  replace hx309_2 := (HB.out.cell (World.block_lt_of_cell? w _ hx309_2)).trans hx309_2
  replace hx309_3 := (HB.out.cell (World.block_lt_of_cell? w _ hx309_3)).trans hx309_3
  replace hx309_4 := (HB.out.cell (World.block_lt_of_cell? w _ hx309_4)).trans hx309_4
  have HR309_0 := am hi309_0
  have HC309_0 := am hl309_0
  clear hi309_0 hl309_0
  have HR309_1 := am hi309_1
  have HC309_1 := am hl309_1
  clear hi309_1 hl309_1
  have HR309_2 := am hi309_2
  have HC309_2 := am hl309_2
  clear hi309_2 hl309_2
  have HR309_3 := am hi309_3
  have HC309_3 := am hl309_3
  clear hi309_3 hl309_3
  replace p309 := eq_true p309
  replace q309 := eq_true q309
  have ea_ := Option.some.inj (hx301_0.symm.trans hx309_0)
  injection ea_ with ea_ en_ ec_
  subst ea_
  subst ec_
  clear en_
  have ea_ := Option.some.inj (hx301_1.symm.trans hx309_1)
  injection ea_ with ea_ en_ ec_
  subst ea_
  subst ec_
  clear en_
  have ea_ := Option.some.inj (hx301_2.symm.trans hx309_2)
  injection ea_ with ea_ en_ ec_
  subst ea_
  subst ec_
  clear en_
  have ea_ := Option.some.inj (hx301_3.symm.trans hx309_3)
  injection ea_ with ea_ en_ ec_
  subst ea_
  subst ec_
  clear en_
  have p310 : 0 ≤ (0 : Int) := (by omega)
  have q310 : 0 < (l0.length : Int) := of_decide_eq_true (by first | (with_reducible assumption) | assumption)
  obtain ⟨ad310, A310_0, c310_0, A310_1, c310_1, A310_2, c310_2, A310_3, c310_3, e310, hx310_0, hx310_1, hx310_2, hx310_3, hx310_4, hl310_0, hi310_0, hl310_1, hi310_1, hl310_2, hi310_2, hl310_3, hi310_3⟩ := at_T79 HR0.out 0 p310 q310
  have hw310_4 := hx310_4
  (try rw [show ((0 : Int)).toNat = 0 from rfl] at hw310_4)
  (try rw [show 0 * 5 = 0 from rfl] at hw310_4)
  (try rw [Addr.add_zero'] at hw310_4)
  have hw310_3 := hx310_3
  (try rw [show ((0 : Int)).toNat = 0 from rfl] at hw310_3)
  (try rw [show 0 * 5 = 0 from rfl] at hw310_3)
  (try rw [Addr.add_zero'] at hw310_3)
  have hw310_2 := hx310_2
  (try rw [show ((0 : Int)).toNat = 0 from rfl] at hw310_2)
  (try rw [show 0 * 5 = 0 from rfl] at hw310_2)
  (try rw [Addr.add_zero'] at hw310_2)
  have hw310_1 := hx310_1
  (try rw [show ((0 : Int)).toNat = 0 from rfl] at hw310_1)
  (try rw [show 0 * 5 = 0 from rfl] at hw310_1)
  (try rw [Addr.add_zero'] at hw310_1)
  have hw310_0 := hx310_0
  (try rw [show ((0 : Int)).toNat = 0 from rfl] at hw310_0)
  (try rw [show 0 * 5 = 0 from rfl] at hw310_0)
  (try rw [Addr.add_zero'] at hw310_0)
  obtain rfl : ad301 = ad310 := (by injection e310)
  have qi310 : (0 < l0.length) = True := eq_true (by omega)
  (try rw [show ((0 : Int)).toNat = 0 from rfl] at hx310_0)
  (try rw [show 0 * 5 = 0 from rfl] at hx310_0)
  (try rw [Addr.add_zero'] at hx310_0)
  (try rw [show ((0 : Int)).toNat = 0 from rfl] at hx310_1)
  (try rw [show 0 * 5 = 0 from rfl] at hx310_1)
  (try rw [Addr.add_zero'] at hx310_1)
  (try rw [show ((0 : Int)).toNat = 0 from rfl] at hx310_2)
  (try rw [show 0 * 5 = 0 from rfl] at hx310_2)
  (try rw [Addr.add_zero'] at hx310_2)
  (try rw [show ((0 : Int)).toNat = 0 from rfl] at hx310_3)
  (try rw [show 0 * 5 = 0 from rfl] at hx310_3)
  (try rw [Addr.add_zero'] at hx310_3)
  (try rw [show ((0 : Int)).toNat = 0 from rfl] at hx310_4)
  (try rw [show 0 * 5 = 0 from rfl] at hx310_4)
  (try rw [Addr.add_zero'] at hx310_4)
  replace hx310_0 := (HB.out.cell (World.block_lt_of_cell? w _ hx310_0)).trans hx310_0
  replace hx310_1 := (HB.out.cell (World.block_lt_of_cell? w _ hx310_1)).trans hx310_1
  replace hx310_2 := (HB.out.cell (World.block_lt_of_cell? w _ hx310_2)).trans hx310_2
  replace hx310_3 := (HB.out.cell (World.block_lt_of_cell? w _ hx310_3)).trans hx310_3
  replace hx310_4 := (HB.out.cell (World.block_lt_of_cell? w _ hx310_4)).trans hx310_4
  have HR310_0 := am hi310_0
  have HC310_0 := am hl310_0
  clear hi310_0 hl310_0
  have HR310_1 := am hi310_1
  have HC310_1 := am hl310_1
  clear hi310_1 hl310_1
  have HR310_2 := am hi310_2
  have HC310_2 := am hl310_2
  clear hi310_2 hl310_2
  have HR310_3 := am hi310_3
  have HC310_3 := am hl310_3
  clear hi310_3 hl310_3
  replace p310 := eq_true p310
  replace q310 := eq_true q310
  have ea_ := Option.some.inj (hx301_0.symm.trans hx310_0)
  injection ea_ with ea_ en_ ec_
  subst ea_
  subst ec_
  clear en_
  have ea_ := Option.some.inj (hx301_1.symm.trans hx310_1)
  injection ea_ with ea_ en_ ec_
  subst ea_
  subst ec_
  clear en_
  have ea_ := Option.some.inj (hx301_2.symm.trans hx310_2)
  injection ea_ with ea_ en_ ec_
  subst ea_
  subst ec_
  clear en_
  have ea_ := Option.some.inj (hx301_3.symm.trans hx310_3)
  injection ea_ with ea_ en_ ec_
  subst ea_
  subst ec_
  clear en_
  have p311 : 0 ≤ (0 : Int) := (by omega)
  have q311 : 0 < (l0.length : Int) := of_decide_eq_true (by first | (with_reducible assumption) | assumption)
  obtain ⟨ad311, A311_0, c311_0, A311_1, c311_1, A311_2, c311_2, A311_3, c311_3, e311, hx311_0, hx311_1, hx311_2, hx311_3, hx311_4, hl311_0, hi311_0, hl311_1, hi311_1, hl311_2, hi311_2, hl311_3, hi311_3⟩ := at_T79 HR0.out 0 p311 q311
  have hw311_4 := hx311_4
  (try rw [show ((0 : Int)).toNat = 0 from rfl] at hw311_4)
  (try rw [show 0 * 5 = 0 from rfl] at hw311_4)
  (try rw [Addr.add_zero'] at hw311_4)
  have hw311_3 := hx311_3
  (try rw [show ((0 : Int)).toNat = 0 from rfl] at hw311_3)
  (try rw [show 0 * 5 = 0 from rfl] at hw311_3)
  (try rw [Addr.add_zero'] at hw311_3)
  have hw311_2 := hx311_2
  (try rw [show ((0 : Int)).toNat = 0 from rfl] at hw311_2)
  (try rw [show 0 * 5 = 0 from rfl] at hw311_2)
  (try rw [Addr.add_zero'] at hw311_2)
  have hw311_1 := hx311_1
  (try rw [show ((0 : Int)).toNat = 0 from rfl] at hw311_1)
  (try rw [show 0 * 5 = 0 from rfl] at hw311_1)
  (try rw [Addr.add_zero'] at hw311_1)
  have hw311_0 := hx311_0
  (try rw [show ((0 : Int)).toNat = 0 from rfl] at hw311_0)
  (try rw [show 0 * 5 = 0 from rfl] at hw311_0)
  (try rw [Addr.add_zero'] at hw311_0)
  obtain rfl : ad301 = ad311 := (by injection e311)
  have qi311 : (0 < l0.length) = True := eq_true (by omega)
  (try rw [show ((0 : Int)).toNat = 0 from rfl] at hx311_0)
  (try rw [show 0 * 5 = 0 from rfl] at hx311_0)
  (try rw [Addr.add_zero'] at hx311_0)
  (try rw [show ((0 : Int)).toNat = 0 from rfl] at hx311_1)
  (try rw [show 0 * 5 = 0 from rfl] at hx311_1)
  (try rw [Addr.add_zero'] at hx311_1)
  (try rw [show ((0 : Int)).toNat = 0 from rfl] at hx311_2)
  (try rw [show 0 * 5 = 0 from rfl] at hx311_2)
  (try rw [Addr.add_zero'] at hx311_2)
  (try rw [show ((0 : Int)).toNat = 0 from rfl] at hx311_3)
  (try rw [show 0 * 5 = 0 from rfl] at hx311_3)
  (try rw [Addr.add_zero'] at hx311_3)
  (try rw [show ((0 : Int)).toNat = 0 from rfl] at hx311_4)
  (try rw [show 0 * 5 = 0 from rfl] at hx311_4)
  (try rw [Addr.add_zero'] at hx311_4)
  replace hx311_0 := (HB.out.cell (World.block_lt_of_cell? w _ hx311_0)).trans hx311_0
  replace hx311_1 := (HB.out.cell (World.block_lt_of_cell? w _ hx311_1)).trans hx311_1
  replace hx311_2 := (HB.out.cell (World.block_lt_of_cell? w _ hx311_2)).trans hx311_2
  replace hx311_3 := (HB.out.cell (World.block_lt_of_cell? w _ hx311_3)).trans hx311_3
  replace hx311_4 := (HB.out.cell (World.block_lt_of_cell? w _ hx311_4)).trans hx311_4
  have HR311_0 := am hi311_0
  have HC311_0 := am hl311_0
  clear hi311_0 hl311_0
  have HR311_1 := am hi311_1
  have HC311_1 := am hl311_1
  clear hi311_1 hl311_1
  have HR311_2 := am hi311_2
  have HC311_2 := am hl311_2
  clear hi311_2 hl311_2
  have HR311_3 := am hi311_3
  have HC311_3 := am hl311_3
  clear hi311_3 hl311_3
  replace p311 := eq_true p311
  replace q311 := eq_true q311
  have ea_ := Option.some.inj (hx301_0.symm.trans hx311_0)
  injection ea_ with ea_ en_ ec_
  subst ea_
  subst ec_
  clear en_
  have ea_ := Option.some.inj (hx301_1.symm.trans hx311_1)
  injection ea_ with ea_ en_ ec_
  subst ea_
  subst ec_
  clear en_
  have ea_ := Option.some.inj (hx301_2.symm.trans hx311_2)
  injection ea_ with ea_ en_ ec_
  subst ea_
  subst ec_
  clear en_
  have ea_ := Option.some.inj (hx301_3.symm.trans hx311_3)
  injection ea_ with ea_ en_ ec_
  subst ea_
  subst ec_
  clear en_
  refine start_ (n := 22) (S := fun w' => w'.cell? ad301 = some (.slice A301_0 ((rd_T79 l0 0).f0.f0).length c301_0) ∧ w'.cell? ⟨ad301.block, ad301.off + 1, none⟩ = some (.slice A301_1 ((rd_T79 l0 0).f1).length c301_1) ∧ w'.cell? ⟨ad301.block, ad301.off + 2, none⟩ = some (.slice A301_2 ((rd_T79 l0 0).f2).length c301_2) ∧ w'.cell? ⟨ad301.block, ad301.off + 3, none⟩ = some (.slice A301_3 ((rd_T79 l0 0).f3).length c301_3) ∧ w'.cell? ⟨ad301.block, ad301.off + 4, none⟩ = some (.map (some ((rd_T79 l0 0).f4).toNat)) ∧ w'.cell? ad301 = some (.slice A301_0 ((rd_T79 l0 0).f0.f0).length c301_0) ∧ w'.cell? ⟨ad301.block, ad301.off + 1, none⟩ = some (.slice A301_1 ((rd_T79 l0 0).f1).length c301_1) ∧ w'.cell? ⟨ad301.block, ad301.off + 2, none⟩ = some (.slice A301_2 ((rd_T79 l0 0).f2).length c301_2) ∧ w'.cell? ⟨ad301.block, ad301.off + 3, none⟩ = some (.slice A301_3 ((rd_T79 l0 0).f3).length c301_3) ∧ w'.cell? ⟨ad301.block, ad301.off + 4, none⟩ = some (.map (some ((rd_T79 l0 0).f4).toNat)) ∧ w'.cell? ad301 = some (.slice A301_0 ((rd_T79 l0 0).f0.f0).length c301_0) ∧ w'.cell? ⟨ad301.block, ad301.off + 1, none⟩ = some (.slice A301_1 ((rd_T79 l0 0).f1).length c301_1) ∧ w'.cell? ⟨ad301.block, ad301.off + 2, none⟩ = some (.slice A301_2 ((rd_T79 l0 0).f2).length c301_2) ∧ w'.cell? ⟨ad301.block, ad301.off + 3, none⟩ = some (.slice A301_3 ((rd_T79 l0 0).f3).length c301_3) ∧ w'.cell? ⟨ad301.block, ad301.off + 4, none⟩ = some (.map (some ((rd_T79 l0 0).f4).toNat)) ∧ w'.cell? ad301 = some (.slice A301_0 ((rd_T79 l0 0).f0.f0).length c301_0) ∧ w'.cell? ⟨ad301.block, ad301.off + 1, none⟩ = some (.slice A301_1 ((rd_T79 l0 0).f1).length c301_1) ∧ w'.cell? ⟨ad301.block, ad301.off + 2, none⟩ = some (.slice A301_2 ((rd_T79 l0 0).f2).length c301_2) ∧ w'.cell? ⟨ad301.block, ad301.off + 3, none⟩ = some (.slice A301_3 ((rd_T79 l0 0).f3).length c301_3) ∧ w'.cell? ⟨ad301.block, ad301.off + 4, none⟩ = some (.map (some ((rd_T79 l0 0).f4).toNat)) ∧ w'.cell? ad301 = some (.slice A301_0 ((rd_T79 l0 0).f0.f0).length c301_0) ∧ w'.cell? ⟨ad301.block, ad301.off + 1, none⟩ = some (.slice A301_1 ((rd_T79 l0 0).f1).length c301_1) ∧ w'.cell? ⟨ad301.block, ad301.off + 2, none⟩ = some (.slice A301_2 ((rd_T79 l0 0).f2).length c301_2) ∧ w'.cell? ⟨ad301.block, ad301.off + 3, none⟩ = some (.slice A301_3 ((rd_T79 l0 0).f3).length c301_3) ∧ w'.cell? ⟨ad301.block, ad301.off + 4, none⟩ = some (.map (some ((rd_T79 l0 0).f4).toNat)) ∧ w'.cell? ad301 = some (.slice A301_0 ((rd_T79 l0 0).f0.f0).length c301_0) ∧ w'.cell? ⟨ad301.block, ad301.off + 1, none⟩ = some (.slice A301_1 ((rd_T79 l0 0).f1).length c301_1) ∧ w'.cell? ⟨ad301.block, ad301.off + 2, none⟩ = some (.slice A301_2 ((rd_T79 l0 0).f2).length c301_2) ∧ w'.cell? ⟨ad301.block, ad301.off + 3, none⟩ = some (.slice A301_3 ((rd_T79 l0 0).f3).length c301_3) ∧ w'.cell? ⟨ad301.block, ad301.off + 4, none⟩ = some (.map (some ((rd_T79 l0 0).f4).toNat)) ∧ w'.cell? ad301 = some (.slice A301_0 ((rd_T79 l0 0).f0.f0).length c301_0) ∧ w'.cell? ⟨ad301.block, ad301.off + 1, none⟩ = some (.slice A301_1 ((rd_T79 l0 0).f1).length c301_1) ∧ w'.cell? ⟨ad301.block, ad301.off + 2, none⟩ = some (.slice A301_2 ((rd_T79 l0 0).f2).length c301_2) ∧ w'.cell? ⟨ad301.block, ad301.off + 3, none⟩ = some (.slice A301_3 ((rd_T79 l0 0).f3).length c301_3) ∧ w'.cell? ⟨ad301.block, ad301.off + 4, none⟩ = some (.map (some ((rd_T79 l0 0).f4).toNat)) ∧ w'.cell? ad301 = some (.slice A301_0 ((rd_T79 l0 0).f0.f0).length c301_0) ∧ w'.cell? ⟨ad301.block, ad301.off + 1, none⟩ = some (.slice A301_1 ((rd_T79 l0 0).f1).length c301_1) ∧ w'.cell? ⟨ad301.block, ad301.off + 2, none⟩ = some (.slice A301_2 ((rd_T79 l0 0).f2).length c301_2) ∧ w'.cell? ⟨ad301.block, ad301.off + 3, none⟩ = some (.slice A301_3 ((rd_T79 l0 0).f3).length c301_3) ∧ w'.cell? ⟨ad301.block, ad301.off + 4, none⟩ = some (.map (some ((rd_T79 l0 0).f4).toNat))) (ds := []) #[false, false, false, false, false, false, false, false, false, false, false, false, false, false, false, false, false, false, false, false, false, false] (by kernel_rfl) rfl rfl ⟨((HB.out.cell (World.block_lt_of_cell? w _ hw301_0)).trans hw301_0), ((HB.out.cell (World.block_lt_of_cell? w _ hw301_1)).trans hw301_1), ((HB.out.cell (World.block_lt_of_cell? w _ hw301_2)).trans hw301_2), ((HB.out.cell (World.block_lt_of_cell? w _ hw301_3)).trans hw301_3), ((HB.out.cell (World.block_lt_of_cell? w _ hw301_4)).trans hw301_4), ((HB.out.cell (World.block_lt_of_cell? w _ hw302_0)).trans hw302_0), ((HB.out.cell (World.block_lt_of_cell? w _ hw302_1)).trans hw302_1), ((HB.out.cell (World.block_lt_of_cell? w _ hw302_2)).trans hw302_2), ((HB.out.cell (World.block_lt_of_cell? w _ hw302_3)).trans hw302_3), ((HB.out.cell (World.block_lt_of_cell? w _ hw302_4)).trans hw302_4), ((HB.out.cell (World.block_lt_of_cell? w _ hw303_0)).trans hw303_0), ((HB.out.cell (World.block_lt_of_cell? w _ hw303_1)).trans hw303_1), ((HB.out.cell (World.block_lt_of_cell? w _ hw303_2)).trans hw303_2), ((HB.out.cell (World.block_lt_of_cell? w _ hw303_3)).trans hw303_3), ((HB.out.cell (World.block_lt_of_cell? w _ hw303_4)).trans hw303_4), ((HB.out.cell (World.block_lt_of_cell? w _ hw304_0)).trans hw304_0), ((HB.out.cell (World.block_lt_of_cell? w _ hw304_1)).trans hw304_1), ((HB.out.cell (World.block_lt_of_cell? w _ hw304_2)).trans hw304_2), ((HB.out.cell (World.block_lt_of_cell? w _ hw304_3)).trans hw304_3), ((HB.out.cell (World.block_lt_of_cell? w _ hw304_4)).trans hw304_4), ((HB.out.cell (World.block_lt_of_cell? w _ hw308_0)).trans hw308_0), ((HB.out.cell (World.block_lt_of_cell? w _ hw308_1)).trans hw308_1), ((HB.out.cell (World.block_lt_of_cell? w _ hw308_2)).trans hw308_2), ((HB.out.cell (World.block_lt_of_cell? w _ hw308_3)).trans hw308_3), ((HB.out.cell (World.block_lt_of_cell? w _ hw308_4)).trans hw308_4), ((HB.out.cell (World.block_lt_of_cell? w _ hw309_0)).trans hw309_0), ((HB.out.cell (World.block_lt_of_cell? w _ hw309_1)).trans hw309_1), ((HB.out.cell (World.block_lt_of_cell? w _ hw309_2)).trans hw309_2), ((HB.out.cell (World.block_lt_of_cell? w _ hw309_3)).trans hw309_3), ((HB.out.cell (World.block_lt_of_cell? w _ hw309_4)).trans hw309_4), ((HB.out.cell (World.block_lt_of_cell? w _ hw310_0)).trans hw310_0), ((HB.out.cell (World.block_lt_of_cell? w _ hw310_1)).trans hw310_1), ((HB.out.cell (World.block_lt_of_cell? w _ hw310_2)).trans hw310_2), ((HB.out.cell (World.block_lt_of_cell? w _ hw310_3)).trans hw310_3), ((HB.out.cell (World.block_lt_of_cell? w _ hw310_4)).trans hw310_4), ((HB.out.cell (World.block_lt_of_cell? w _ hw311_0)).trans hw311_0), ((HB.out.cell (World.block_lt_of_cell? w _ hw311_1)).trans hw311_1), ((HB.out.cell (World.block_lt_of_cell? w _ hw311_2)).trans hw311_2), ((HB.out.cell (World.block_lt_of_cell? w _ hw311_3)).trans hw311_3), ((HB.out.cell (World.block_lt_of_cell? w _ hw311_4)).trans hw311_4)⟩ (fun hHeld => ?_); refine with_tabW impl_comparer_same.tab1 impl_comparer_same.bits1 (fun HT_ HW_ => ?_)
  generalize w.drew = w8 at HB HR301_0 HR301_1 HR301_2 HR301_3 HR302_0 HR302_1 HR302_2 HR302_3 HR303_0 HR303_1 HR303_2 HR303_3 HR304_0 HR304_1 HR304_2 HR304_3 HR308_0 HR308_1 HR308_2 HR308_3 HR309_0 HR309_1 HR309_2 HR309_3 HR310_0 HR310_1 HR310_2 HR310_3 HR311_0 HR311_1 HR311_2 HR311_3 hx301_0 hx301_1 hx301_2 hx301_3 hx301_4 hx302_0 hx302_1 hx302_2 hx302_3 hx302_4 hx303_0 hx303_1 hx303_2 hx303_3 hx303_4 hx304_0 hx304_1 hx304_2 hx304_3 hx304_4 hx308_0 hx308_1 hx308_2 hx308_3 hx308_4 hx309_0 hx309_1 hx309_2 hx309_3 hx309_4 hx310_0 hx310_1 hx310_2 hx310_3 hx310_4 hx311_0 hx311_1 hx311_2 hx311_3 hx311_4 hHeld ⊢
  refine pure_ (i := 0) (N := some 7) (v := ?_) (a' := ?_) #[true, false, false, false, false, false, false, false, false, false, false, false, false, false, false, false, false, false, false, false, false, false] rfl rfl (any_of HT_.out (by kernel_rfl)) (fun _ _ _ h => h) (Or.inl ⟨by rfl, ?_⟩) ?_ ?_
  rotate_left
  ·intro w'
   go_simp
   with_reducible rfl
  rotate_left
  ·simp only [Act.put, lsp, i64_w, i32_w]
   rfl
  refine pure_ (i := 1) (N := some 8) (v := ?_) (a' := ?_) #[true, true, false, false, false, false, false, false, false, false, false, false, false, false, false, false, false, false, false, false, false, false] rfl rfl (any_of HT_.out (by kernel_rfl)) (fun _ _ _ h => h) (Or.inl ⟨by rfl, ?_⟩) ?_ ?_
  rotate_left
  ·intro w'
   go_simp
   with_reducible rfl
  rotate_left
  ·simp only [Act.put, lsp, i64_w, i32_w]
   rfl
  refine pure_ (i := 2) (N := some 9) (v := ?_) (a' := ?_) #[true, true, true, false, false, false, false, false, false, false, false, false, false, false, false, false, false, false, false, false, false, false] rfl rfl (any_of HT_.out (by kernel_rfl)) (fun _ _ _ h => h) (Or.inl ⟨by rfl, ?_⟩) ?_ ?_
  rotate_left
  ·intro w'
   go_simp
   with_reducible rfl
  rotate_left
  ·simp only [Act.put, lsp, i64_w, i32_w]
   rfl
  refine pure_ (i := 4) (N := some 11) (v := ?_) (a' := ?_) #[true, true, true, false, true, false, false, false, false, false, false, false, false, false, false, false, false, false, false, false, false, false] rfl rfl (any_of HT_.out (by kernel_rfl)) (fun _ _ _ h => h) (Or.inl ⟨by rfl, ?_⟩) ?_ ?_
  rotate_left
  ·intro w'
   go_simp
   with_reducible rfl
  rotate_left
  ·simp only [Act.put, lsp, i64_w, i32_w]
   rfl
  refine pure_ (i := 5) (N := some 12) (v := ?_) (a' := ?_) #[true, true, true, false, true, true, false, false, false, false, false, false, false, false, false, false, false, false, false, false, false, false] rfl rfl (any_of HT_.out (by kernel_rfl)) (fun _ _ _ h => h) (Or.inl ⟨by rfl, ?_⟩) ?_ ?_
  rotate_left
  ·intro w'
   go_simp
   with_reducible rfl
  rotate_left
  ·simp only [Act.put, lsp, i64_w, i32_w]
   rfl
  refine pure_ (i := 6) (N := some 13) (v := ?_) (a' := ?_) #[true, true, true, false, true, true, true, false, false, false, false, false, false, false, false, false, false, false, false, false, false, false] rfl rfl (any_of HT_.out (by kernel_rfl)) (fun _ _ _ h => h) (Or.inl ⟨by rfl, ?_⟩) ?_ ?_
  rotate_left
  ·intro w'
   go_simp
   with_reducible rfl
  rotate_left
  ·simp only [Act.put, lsp, i64_w, i32_w]
   rfl
  refine pure_ (i := 8) (N := some 15) (v := ?_) (a' := ?_) #[true, true, true, false, true, true, true, false, true, false, false, false, false, false, false, false, false, false, false, false, false, false] rfl rfl (any_of HT_.out (by kernel_rfl)) (fun _ _ _ h => h) (Or.inl ⟨by rfl, ?_⟩) ?_ ?_
  rotate_left
  ·intro w'
   go_simp
   with_reducible rfl
  rotate_left
  ·simp only [Act.put, lsp, i64_w, i32_w]
   rfl
  refine pure_ (i := 10) (N := some 17) (v := ?_) (a' := ?_) #[true, true, true, false, true, true, true, false, true, false, true, false, false, false, false, false, false, false, false, false, false, false] rfl rfl (any_of HT_.out (by kernel_rfl)) (fun _ _ _ h => h) (Or.inl ⟨by rfl, ?_⟩) ?_ ?_
  rotate_left
  ·intro w'
   go_simp
   with_reducible rfl
  rotate_left
  ·simp only [Act.put, lsp, i64_w, i32_w]
   rfl
  refine pure_ (i := 11) (N := some 18) (v := ?_) (a' := ?_) #[true, true, true, false, true, true, true, false, true, false, true, true, false, false, false, false, false, false, false, false, false, false] rfl rfl (any_of HT_.out (by kernel_rfl)) (fun _ _ _ h => h) (Or.inl ⟨by rfl, ?_⟩) ?_ ?_
  rotate_left
  ·intro w'
   go_simp
   with_reducible rfl
  rotate_left
  ·simp only [Act.put, lsp, i64_w, i32_w]
   rfl
  refine pure_ (i := 12) (N := some 19) (v := ?_) (a' := ?_) #[true, true, true, false, true, true, true, false, true, false, true, true, true, false, false, false, false, false, false, false, false, false] rfl rfl (any_of HT_.out (by kernel_rfl)) (fun _ _ _ h => h) (Or.inl ⟨by rfl, ?_⟩) ?_ ?_
  rotate_left
  ·intro w'
   go_simp
   with_reducible rfl
  rotate_left
  ·simp only [Act.put, lsp, i64_w, i32_w]
   rfl
  refine pure_ (i := 14) (N := some 21) (v := ?_) (a' := ?_) #[true, true, true, false, true, true, true, false, true, false, true, true, true, false, true, false, false, false, false, false, false, false] rfl rfl (any_of HT_.out (by kernel_rfl)) (fun _ _ _ h => h) (Or.inl ⟨by rfl, ?_⟩) ?_ ?_
  rotate_left
  ·intro w'
   go_simp
   with_reducible rfl
  rotate_left
  ·simp only [Act.put, lsp, i64_w, i32_w]
   rfl
  refine pure_ (i := 15) (N := some 22) (v := ?_) (a' := ?_) #[true, true, true, false, true, true, true, false, true, false, true, true, true, false, true, true, false, false, false, false, false, false] rfl rfl (any_of HT_.out (by kernel_rfl)) (fun _ _ _ h => h) (Or.inl ⟨by rfl, ?_⟩) ?_ ?_
  rotate_left
  ·intro w'
   go_simp
   with_reducible rfl
  rotate_left
  ·simp only [Act.put, lsp, i64_w, i32_w]
   rfl
  refine pure_ (i := 16) (N := some 23) (v := ?_) (a' := ?_) #[true, true, true, false, true, true, true, false, true, false, true, true, true, false, true, true, true, false, false, false, false, false] rfl rfl (any_of HT_.out (by kernel_rfl)) (fun _ _ _ h => h) (Or.inl ⟨by rfl, ?_⟩) ?_ ?_
  rotate_left
  ·intro w'
   go_simp
   with_reducible rfl
  rotate_left
  ·simp only [Act.put, lsp, i64_w, i32_w]
   rfl
  refine pure_ (i := 18) (N := some 25) (v := ?_) (a' := ?_) #[true, true, true, false, true, true, true, false, true, false, true, true, true, false, true, true, true, false, true, false, false, false] rfl rfl (any_of HT_.out (by kernel_rfl)) (fun _ _ _ h => h) (Or.inl ⟨by rfl, ?_⟩) ?_ ?_
  rotate_left
  ·intro w'
   go_simp
   with_reducible rfl
  rotate_left
  ·simp only [Act.put, lsp, i64_w, i32_w]
   rfl
  refine take_ (i := 3) (N := some 10) (v := ?_) (a' := ?_) #[true, true, true, true, true, true, true, false, true, false, true, true, true, false, true, true, true, false, true, false, false, false] rfl rfl (take_ofW HT_.out HW_.out (by kernel_rfl)) (fun _ _ _ h => h) (Or.inl ⟨by rfl, ?_⟩) hHeld ?_ ?_
  rotate_left
  ·rintro w' ⟨s0, s1, s2, s3, s4, s5, s6, s7, s8, s9, s10, s11, s12, s13, s14, s15, s16, s17, s18, s19, s20, s21, s22, s23, s24, s25, s26, s27, s28, s29, s30, s31, s32, s33, s34, s35, s36, s37, s38, s39⟩
   go_simp
   with_reducible rfl
  rotate_left
  ·simp only [Act.put, lsp, i64_w, i32_w]
   rfl
  refine take_ (i := 7) (N := some 14) (v := ?_) (a' := ?_) #[true, true, true, true, true, true, true, true, true, false, true, true, true, false, true, true, true, false, true, false, false, false] rfl rfl (take_ofW HT_.out HW_.out (by kernel_rfl)) (fun _ _ _ h => h) (Or.inl ⟨by rfl, ?_⟩) hHeld ?_ ?_
  rotate_left
  ·rintro w' ⟨s0, s1, s2, s3, s4, s5, s6, s7, s8, s9, s10, s11, s12, s13, s14, s15, s16, s17, s18, s19, s20, s21, s22, s23, s24, s25, s26, s27, s28, s29, s30, s31, s32, s33, s34, s35, s36, s37, s38, s39⟩
   go_simp
   with_reducible rfl
  rotate_left
  ·simp only [Act.put, lsp, i64_w, i32_w]
   rfl
  refine take_ (i := 13) (N := some 20) (v := ?_) (a' := ?_) #[true, true, true, true, true, true, true, true, true, false, true, true, true, true, true, true, true, false, true, false, false, false] rfl rfl (take_ofW HT_.out HW_.out (by kernel_rfl)) (fun _ _ _ h => h) (Or.inl ⟨by rfl, ?_⟩) hHeld ?_ ?_
  rotate_left
  ·rintro w' ⟨s0, s1, s2, s3, s4, s5, s6, s7, s8, s9, s10, s11, s12, s13, s14, s15, s16, s17, s18, s19, s20, s21, s22, s23, s24, s25, s26, s27, s28, s29, s30, s31, s32, s33, s34, s35, s36, s37, s38, s39⟩
   go_simp
   with_reducible rfl
  rotate_left
  ·simp only [Act.put, lsp, i64_w, i32_w]
   rfl
  refine take_ (i := 17) (N := some 24) (v := ?_) (a' := ?_) #[true, true, true, true, true, true, true, true, true, false, true, true, true, true, true, true, true, true, true, false, false, false] rfl rfl (take_ofW HT_.out HW_.out (by kernel_rfl)) (fun _ _ _ h => h) (Or.inl ⟨by rfl, ?_⟩) hHeld ?_ ?_
  rotate_left
  ·rintro w' ⟨s0, s1, s2, s3, s4, s5, s6, s7, s8, s9, s10, s11, s12, s13, s14, s15, s16, s17, s18, s19, s20, s21, s22, s23, s24, s25, s26, s27, s28, s29, s30, s31, s32, s33, s34, s35, s36, s37, s38, s39⟩
   go_simp
   with_reducible rfl
  rotate_left
  ·simp only [Act.put, lsp, i64_w, i32_w]
   rfl
  refine one_ (i := 9) (N := some 16) #[true, true, true, true, true, true, true, true, true, true, true, true, true, true, true, true, true, true, true, false, false, false] rfl rfl (one_of HT_.out (by kernel_rfl)) (by decide) (fun K hK => ?_)
  refine goes_ Tryd.func76 (by kernel_rfl) rfl #[.agg #[.slice A301_0 ((rd_T79 l0 0).f0.f0).length c301_0], .slice A301_2 ((rd_T79 l0 0).f2).length c301_2, .int .i64 a1] (by rfl) rfl rfl el ?_
  with_reducible refine (impl_subterm.calls k _ _ ((rd_T79 l0 0).f0.f0) (fun k_ => k_ < w.heap.size) _ _ ((rd_T79 l0 0).f2) a1 t305 _ ?side1 ?side2 ?side3 A5.out).mono ?_
  (case side1 => exact cq (Kd.C_below HR302_0.out HB.out))
  (case side2 => exact HC302_0.out)
  (case side3 => exact Kd.V_mk HC304_2.out (Kd.F_below (Kd.C_F (Kd.heap_int .i64) HR304_2.out) (hq HB.out)))
  rintro e w9 ⟨v306, rfl, ho0, hb⟩
  refine ⟨_, rfl, ?_⟩
  have n0_ := am (Kd.V_lower (Kd.V_mono (ok' := fun k_ => True) ho0 (fun k_ hk_ => trivial)) (below_size (hq HB.out)))
  have n1_ := am (below_step (hq HB.out) hb)
  clear HB; revert n0_ n1_; intro HO307 HB
  (try clear hb)
  (try clear hb2)
  (try clear hgw)
  (try clear hk)
  (try clear hi)
  (try clear ho0)
  refine hK.out _ _ ⟨((HB.out.cell (World.block_lt_of_cell? w _ hw301_0)).trans hw301_0), ((HB.out.cell (World.block_lt_of_cell? w _ hw301_1)).trans hw301_1), ((HB.out.cell (World.block_lt_of_cell? w _ hw301_2)).trans hw301_2), ((HB.out.cell (World.block_lt_of_cell? w _ hw301_3)).trans hw301_3), ((HB.out.cell (World.block_lt_of_cell? w _ hw301_4)).trans hw301_4), ((HB.out.cell (World.block_lt_of_cell? w _ hw302_0)).trans hw302_0), ((HB.out.cell (World.block_lt_of_cell? w _ hw302_1)).trans hw302_1), ((HB.out.cell (World.block_lt_of_cell? w _ hw302_2)).trans hw302_2), ((HB.out.cell (World.block_lt_of_cell? w _ hw302_3)).trans hw302_3), ((HB.out.cell (World.block_lt_of_cell? w _ hw302_4)).trans hw302_4), ((HB.out.cell (World.block_lt_of_cell? w _ hw303_0)).trans hw303_0), ((HB.out.cell (World.block_lt_of_cell? w _ hw303_1)).trans hw303_1), ((HB.out.cell (World.block_lt_of_cell? w _ hw303_2)).trans hw303_2), ((HB.out.cell (World.block_lt_of_cell? w _ hw303_3)).trans hw303_3), ((HB.out.cell (World.block_lt_of_cell? w _ hw303_4)).trans hw303_4), ((HB.out.cell (World.block_lt_of_cell? w _ hw304_0)).trans hw304_0), ((HB.out.cell (World.block_lt_of_cell? w _ hw304_1)).trans hw304_1), ((HB.out.cell (World.block_lt_of_cell? w _ hw304_2)).trans hw304_2), ((HB.out.cell (World.block_lt_of_cell? w _ hw304_3)).trans hw304_3), ((HB.out.cell (World.block_lt_of_cell? w _ hw304_4)).trans hw304_4), ((HB.out.cell (World.block_lt_of_cell? w _ hw308_0)).trans hw308_0), ((HB.out.cell (World.block_lt_of_cell? w _ hw308_1)).trans hw308_1), ((HB.out.cell (World.block_lt_of_cell? w _ hw308_2)).trans hw308_2), ((HB.out.cell (World.block_lt_of_cell? w _ hw308_3)).trans hw308_3), ((HB.out.cell (World.block_lt_of_cell? w _ hw308_4)).trans hw308_4), ((HB.out.cell (World.block_lt_of_cell? w _ hw309_0)).trans hw309_0), ((HB.out.cell (World.block_lt_of_cell? w _ hw309_1)).trans hw309_1), ((HB.out.cell (World.block_lt_of_cell? w _ hw309_2)).trans hw309_2), ((HB.out.cell (World.block_lt_of_cell? w _ hw309_3)).trans hw309_3), ((HB.out.cell (World.block_lt_of_cell? w _ hw309_4)).trans hw309_4), ((HB.out.cell (World.block_lt_of_cell? w _ hw310_0)).trans hw310_0), ((HB.out.cell (World.block_lt_of_cell? w _ hw310_1)).trans hw310_1), ((HB.out.cell (World.block_lt_of_cell? w _ hw310_2)).trans hw310_2), ((HB.out.cell (World.block_lt_of_cell? w _ hw310_3)).trans hw310_3), ((HB.out.cell (World.block_lt_of_cell? w _ hw310_4)).trans hw310_4), ((HB.out.cell (World.block_lt_of_cell? w _ hw311_0)).trans hw311_0), ((HB.out.cell (World.block_lt_of_cell? w _ hw311_1)).trans hw311_1), ((HB.out.cell (World.block_lt_of_cell? w _ hw311_2)).trans hw311_2), ((HB.out.cell (World.block_lt_of_cell? w _ hw311_3)).trans hw311_3), ((HB.out.cell (World.block_lt_of_cell? w _ hw311_4)).trans hw311_4)⟩ (fun hHeld => ?_)
  clear hK K
  refine norm_ (a' := ?_) ?_ ?_
  rotate_left
  ·show Act.put _ (some 16) _ = _
   simp only [Act.put, lsp, i64_w, i32_w]
   rfl
  refine one_ (i := 19) (N := some 26) #[true, true, true, true, true, true, true, true, true, true, true, true, true, true, true, true, true, true, true, true, false, false] rfl rfl (one_of HT_.out (by kernel_rfl)) (by decide) (fun K hK => ?_)
  refine goes_ Tryd.func76 (by kernel_rfl) rfl #[.agg #[.slice A301_0 ((rd_T79 l0 0).f0.f0).length c301_0], .slice A301_3 ((rd_T79 l0 0).f3).length c301_3, .int .i64 a2] (by rfl) rfl rfl el ?_
  with_reducible refine (impl_subterm.calls k _ _ ((rd_T79 l0 0).f0.f0) (fun k_ => k_ < w.heap.size) _ _ ((rd_T79 l0 0).f3) a2 t312 _ ?side1 ?side2 ?side3 A6.out).mono ?_
  (case side1 => exact cq (Kd.C_below HR309_0.out HB.out))
  (case side2 => exact HC309_0.out)
  (case side3 => exact Kd.V_mk HC311_3.out (Kd.F_below (Kd.C_F (Kd.heap_int .i64) HR311_3.out) (hq HB.out)))
  rintro e w10 ⟨v313, rfl, ho0, hb⟩
  refine ⟨_, rfl, ?_⟩
  have n0_ := am (Kd.V_below (by (with_reducible repeat (first | apply Kd.V_alloc | apply Kd.V_drewN | apply Kd.V_drew)); exact HO307.out) hb)
  have n1_ := am (Kd.V_lower (Kd.V_mono (ok' := fun k_ => True) ho0 (fun k_ hk_ => trivial)) (below_size (hq HB.out)))
  have n2_ := am (below_step (hq HB.out) hb)
  clear HO307 HB; revert n0_ n1_ n2_; intro HO307 HO314 HB
  (try clear hb)
  (try clear hb2)
  (try clear hgw)
  (try clear hk)
  (try clear hi)
  (try clear ho0)
  obtain ⟨Ao11, co11, eo11⟩ := Kd.V_slice HO307.out
  (first | subst eo11 | (injection eo11 with f1_ f2_ f3_; have f4_ := f1_.symm; have f5_ := f3_.symm; clear f1_ f2_ f3_; subst f4_; subst f5_))
  obtain ⟨Ao12, co12, eo12⟩ := Kd.V_slice HO314.out
  (first | subst eo12 | (injection eo12 with f1_ f2_ f3_; have f4_ := f1_.symm; have f5_ := f3_.symm; clear f1_ f2_ f3_; subst f4_; subst f5_))
  refine hK.out _ _ ⟨((HB.out.cell (World.block_lt_of_cell? w _ hw301_0)).trans hw301_0), ((HB.out.cell (World.block_lt_of_cell? w _ hw301_1)).trans hw301_1), ((HB.out.cell (World.block_lt_of_cell? w _ hw301_2)).trans hw301_2), ((HB.out.cell (World.block_lt_of_cell? w _ hw301_3)).trans hw301_3), ((HB.out.cell (World.block_lt_of_cell? w _ hw301_4)).trans hw301_4), ((HB.out.cell (World.block_lt_of_cell? w _ hw302_0)).trans hw302_0), ((HB.out.cell (World.block_lt_of_cell? w _ hw302_1)).trans hw302_1), ((HB.out.cell (World.block_lt_of_cell? w _ hw302_2)).trans hw302_2), ((HB.out.cell (World.block_lt_of_cell? w _ hw302_3)).trans hw302_3), ((HB.out.cell (World.block_lt_of_cell? w _ hw302_4)).trans hw302_4), ((HB.out.cell (World.block_lt_of_cell? w _ hw303_0)).trans hw303_0), ((HB.out.cell (World.block_lt_of_cell? w _ hw303_1)).trans hw303_1), ((HB.out.cell (World.block_lt_of_cell? w _ hw303_2)).trans hw303_2), ((HB.out.cell (World.block_lt_of_cell? w _ hw303_3)).trans hw303_3), ((HB.out.cell (World.block_lt_of_cell? w _ hw303_4)).trans hw303_4), ((HB.out.cell (World.block_lt_of_cell? w _ hw304_0)).trans hw304_0), ((HB.out.cell (World.block_lt_of_cell? w _ hw304_1)).trans hw304_1), ((HB.out.cell (World.block_lt_of_cell? w _ hw304_2)).trans hw304_2), ((HB.out.cell (World.block_lt_of_cell? w _ hw304_3)).trans hw304_3), ((HB.out.cell (World.block_lt_of_cell? w _ hw304_4)).trans hw304_4), ((HB.out.cell (World.block_lt_of_cell? w _ hw308_0)).trans hw308_0), ((HB.out.cell (World.block_lt_of_cell? w _ hw308_1)).trans hw308_1), ((HB.out.cell (World.block_lt_of_cell? w _ hw308_2)).trans hw308_2), ((HB.out.cell (World.block_lt_of_cell? w _ hw308_3)).trans hw308_3), ((HB.out.cell (World.block_lt_of_cell? w _ hw308_4)).trans hw308_4), ((HB.out.cell (World.block_lt_of_cell? w _ hw309_0)).trans hw309_0), ((HB.out.cell (World.block_lt_of_cell? w _ hw309_1)).trans hw309_1), ((HB.out.cell (World.block_lt_of_cell? w _ hw309_2)).trans hw309_2), ((HB.out.cell (World.block_lt_of_cell? w _ hw309_3)).trans hw309_3), ((HB.out.cell (World.block_lt_of_cell? w _ hw309_4)).trans hw309_4), ((HB.out.cell (World.block_lt_of_cell? w _ hw310_0)).trans hw310_0), ((HB.out.cell (World.block_lt_of_cell? w _ hw310_1)).trans hw310_1), ((HB.out.cell (World.block_lt_of_cell? w _ hw310_2)).trans hw310_2), ((HB.out.cell (World.block_lt_of_cell? w _ hw310_3)).trans hw310_3), ((HB.out.cell (World.block_lt_of_cell? w _ hw310_4)).trans hw310_4), ((HB.out.cell (World.block_lt_of_cell? w _ hw311_0)).trans hw311_0), ((HB.out.cell (World.block_lt_of_cell? w _ hw311_1)).trans hw311_1), ((HB.out.cell (World.block_lt_of_cell? w _ hw311_2)).trans hw311_2), ((HB.out.cell (World.block_lt_of_cell? w _ hw311_3)).trans hw311_3), ((HB.out.cell (World.block_lt_of_cell? w _ hw311_4)).trans hw311_4)⟩ (fun hHeld => ?_)
  clear hK K
  refine norm_ (a' := ?_) ?_ ?_
  rotate_left
  ·show Act.put _ (some 26) _ = _
   simp only [Act.put, lsp, i64_w, i32_w]
   rfl
  refine one_ (i := 20) (N := some 27) #[true, true, true, true, true, true, true, true, true, true, true, true, true, true, true, true, true, true, true, true, true, false] rfl rfl (one_of HT_.out (by kernel_rfl)) (by decide) (fun K hK => ?_)
  refine goes_ Tryd.func49 (by kernel_rfl) rfl #[.slice Ao11 t305.length co11, .slice Ao12 t312.length co12] (by rfl) rfl rfl el ?_
  with_reducible refine (slices_Equal_int64_int64.calls k _ _ t305 _ _ t312 t315 _ ?side1 ?side2 ?side3 ?side4 A7.out).mono ?_
  (case side1 => repeat (first | exact (Kd.V_reads' HO307.out).2.2 | (with_reducible refine Kd.C_alloc ?_ _) | (with_reducible refine Kd.C_drewN ?_ _) | (with_reducible refine Kd.C_drew ?_)))
  (case side2 => exact (Kd.V_reads' HO307.out).2.1)
  (case side3 => repeat (first | exact (Kd.V_reads' HO314.out).2.2 | (with_reducible refine Kd.C_alloc ?_ _) | (with_reducible refine Kd.C_drewN ?_ _) | (with_reducible refine Kd.C_drew ?_)))
  (case side4 => exact (Kd.V_reads' HO314.out).2.1)
  rintro e w' ⟨rfl, ⟨nd, rfl⟩⟩
  refine ⟨_, rfl, ?_⟩
  refine hK.out _ _ ⟨((HB.out.cell (World.block_lt_of_cell? w _ hw301_0)).trans hw301_0), ((HB.out.cell (World.block_lt_of_cell? w _ hw301_1)).trans hw301_1), ((HB.out.cell (World.block_lt_of_cell? w _ hw301_2)).trans hw301_2), ((HB.out.cell (World.block_lt_of_cell? w _ hw301_3)).trans hw301_3), ((HB.out.cell (World.block_lt_of_cell? w _ hw301_4)).trans hw301_4), ((HB.out.cell (World.block_lt_of_cell? w _ hw302_0)).trans hw302_0), ((HB.out.cell (World.block_lt_of_cell? w _ hw302_1)).trans hw302_1), ((HB.out.cell (World.block_lt_of_cell? w _ hw302_2)).trans hw302_2), ((HB.out.cell (World.block_lt_of_cell? w _ hw302_3)).trans hw302_3), ((HB.out.cell (World.block_lt_of_cell? w _ hw302_4)).trans hw302_4), ((HB.out.cell (World.block_lt_of_cell? w _ hw303_0)).trans hw303_0), ((HB.out.cell (World.block_lt_of_cell? w _ hw303_1)).trans hw303_1), ((HB.out.cell (World.block_lt_of_cell? w _ hw303_2)).trans hw303_2), ((HB.out.cell (World.block_lt_of_cell? w _ hw303_3)).trans hw303_3), ((HB.out.cell (World.block_lt_of_cell? w _ hw303_4)).trans hw303_4), ((HB.out.cell (World.block_lt_of_cell? w _ hw304_0)).trans hw304_0), ((HB.out.cell (World.block_lt_of_cell? w _ hw304_1)).trans hw304_1), ((HB.out.cell (World.block_lt_of_cell? w _ hw304_2)).trans hw304_2), ((HB.out.cell (World.block_lt_of_cell? w _ hw304_3)).trans hw304_3), ((HB.out.cell (World.block_lt_of_cell? w _ hw304_4)).trans hw304_4), ((HB.out.cell (World.block_lt_of_cell? w _ hw308_0)).trans hw308_0), ((HB.out.cell (World.block_lt_of_cell? w _ hw308_1)).trans hw308_1), ((HB.out.cell (World.block_lt_of_cell? w _ hw308_2)).trans hw308_2), ((HB.out.cell (World.block_lt_of_cell? w _ hw308_3)).trans hw308_3), ((HB.out.cell (World.block_lt_of_cell? w _ hw308_4)).trans hw308_4), ((HB.out.cell (World.block_lt_of_cell? w _ hw309_0)).trans hw309_0), ((HB.out.cell (World.block_lt_of_cell? w _ hw309_1)).trans hw309_1), ((HB.out.cell (World.block_lt_of_cell? w _ hw309_2)).trans hw309_2), ((HB.out.cell (World.block_lt_of_cell? w _ hw309_3)).trans hw309_3), ((HB.out.cell (World.block_lt_of_cell? w _ hw309_4)).trans hw309_4), ((HB.out.cell (World.block_lt_of_cell? w _ hw310_0)).trans hw310_0), ((HB.out.cell (World.block_lt_of_cell? w _ hw310_1)).trans hw310_1), ((HB.out.cell (World.block_lt_of_cell? w _ hw310_2)).trans hw310_2), ((HB.out.cell (World.block_lt_of_cell? w _ hw310_3)).trans hw310_3), ((HB.out.cell (World.block_lt_of_cell? w _ hw310_4)).trans hw310_4), ((HB.out.cell (World.block_lt_of_cell? w _ hw311_0)).trans hw311_0), ((HB.out.cell (World.block_lt_of_cell? w _ hw311_1)).trans hw311_1), ((HB.out.cell (World.block_lt_of_cell? w _ hw311_2)).trans hw311_2), ((HB.out.cell (World.block_lt_of_cell? w _ hw311_3)).trans hw311_3), ((HB.out.cell (World.block_lt_of_cell? w _ hw311_4)).trans hw311_4)⟩ (fun hHeld => ?_)
  clear hK K
  refine norm_ (a' := ?_) ?_ ?_
  rotate_left
  ·show Act.put _ (some 27) _ = _
   simp only [Act.put, lsp, i64_w, i32_w]
   rfl
  refine pure_ (i := 21) (N := some 6) (v := ?_) (a' := ?_) #[true, true, true, true, true, true, true, true, true, true, true, true, true, true, true, true, true, true, true, true, true, true] rfl rfl (any_of HT_.out (by kernel_rfl)) (fun _ _ _ h => h) (Or.inl ⟨by rfl, ?_⟩) ?_ ?_
  rotate_left
  ·intro w'
   go_simp
   with_reducible rfl
  rotate_left
  ·simp only [Act.put, lsp, i64_w, i32_w]
   rfl
  refine done_ (done_of HT_.out (by kernel_rfl)) ?_
  try go_wp2
  go_ret
  exact ⟨by first | rfl | (simp [errW_none, errW_some] <;> rfl) | (simp [*, errW_none, errW_some] <;> rfl), by exact hq HB.out⟩
 ·rw [if_neg c4] at H
  exact absurd H (by simp)
end Go.Proofs.YtgichahebemmiaaDoor.P
