/- A part of the proof of the law FnExactPlainEquation. -/
import Derived.Laws.StructEq
import Derived.Test.YtcanokiehjjbgaaDoorCFnExactPlainEquation0
import Derived.Test.YtcanokiehjjbgaaDoorCFnExactPlainEquation1
import Derived.Test.YtcanokiehjjbgaaDoorCFnExactPlainEquation2
import Derived.Test.YtcanokiehjjbgaaDoorCFnExactPlainEquation13
namespace Go.Proofs.YtcanokiehjjbgaaDoor.P
open Go.RowKit Go.Proofs.YtcanokiehjjbgaaDoorW.PrintWords Go.Proofs.YtcanokiehjjbgaaDoorW.PrintLast Go.Proofs.YtcanokiehjjbgaaDoorW.PrintMore
attribute [local go_sem] max2_int min2_int max_two min_two max_three min_three max_four min_four   -- for this text's walks alone
set_option linter.unusedVariables false
set_option linter.unusedSimpArgs false
def impl_isSymbol.f (l0_0 : List (S110)) (a1 : Int) : Option (Bool) := (impl_within.f a1 0 (wrap64 ((l0_0.length : Int) - 1))).bind fun t335 => (some t335)
set_option maxHeartbeats 8000000 in
set_option maxRecDepth 100000 in
theorem impl_isSymbol.calls (A0_0 : Option Addr) (c0_0 : Nat) (l0_0 : List (S110)) (a1 : Int) (r : Bool) (w : World) (hr0_0 : Kd.C k110 w A0_0 l0_0.length l0_0) (hc0_0 : l0_0.length ≤ c0_0) (h : impl_isSymbol.f l0_0 a1 = some r) :
    Calls Tryd.prog 88 #[.agg #[.slice A0_0 l0_0.length c0_0], .int .i64 a1] w fun e w' => e = .returned (.bool r) ∧ Below w.heap.size w w' := by
  have hu26 := Tryd.underlying26
  have HR0_0 := am hr0_0
  have HC0_0 := am hc0_0
  clear hr0_0 hc0_0
  have HB := am (Below.refl w.heap.size w)
  have H : ((impl_within.f a1 0 (wrap64 ((l0_0.length : Int) - 1))).bind fun t335 => (some t335)) = some r := h
  clear h
  replace H := Option.bind_eq_some_iff.mp H
  obtain ⟨t335, A30, H⟩ := H
  replace H : (some t335) = some r := H
  have A3 := am A30
  clear A30
  obtain rfl := Option.some.inj H
  go_enter Tryd.func88, Tryd.ntmps88
  go_wp2_with (first | ((with_reducible refine gate_dst (N := 2) rfl ?_); refine box_event ?hg (N := 2) ?hd (cs := #[.slice A0_0 l0_0.length c0_0]) (t := 26) ?hr ?_; (case hd => rfl); (case hg => rfl); (case hr => first | (go_simp; done) | (go_simp; rfl)); intro gb334 hg w4 hbox hb; have n0_ := am (below_step (hq HB.out) hb); have n1_ := am (hbox); have n2_ := am (bz hg (hq HB.out)); have n3_ := n2_; clear HB; revert n0_ n1_ n2_ n3_; intro HB BK334 GW334 GE334; clear hb hbox hg; have hcz5_0 : w4.cell? ⟨gb334, 0, none⟩ = some (.slice A0_0 l0_0.length c0_0) := (blk_cell BK334.out 0).trans rfl; have hfz5_0 := blk_frozen BK334.out 0) | ((with_reducible refine gate_callee (f := 83) rfl ?_); refine goesL_ (some 10) rfl rfl Tryd.func83 (by kernel_rfl) rfl #[.int .i64 a1, .int .i64 0, .int .i64 (wrap64 ((l0_0.length : Int) - 1))] rfl el ?_; (with_reducible refine (impl_within.calls a1 0 (wrap64 ((l0_0.length : Int) - 1)) t335 _ A3.out).mono ?_); rintro e w' ⟨rfl, ⟨nd, rfl⟩⟩; refine ⟨_, rfl, ?_⟩))
  go_ret
  exact ⟨by first | rfl | (simp [errW_none, errW_some] <;> rfl) | (simp [*, errW_none, errW_some] <;> rfl), by exact hs HB.out⟩
def impl_isNode.f (l0_0 : List (S110)) (a1 : Int) : Option (Bool) := (impl_isSymbol.f l0_0 a1).bind fun t337 => (if t337 = true then (some true) else ((impl_within.f a1 (-12) (-1)).bind fun t338 => (some t338)))
set_option maxHeartbeats 8000000 in
set_option maxRecDepth 100000 in
theorem impl_isNode.calls (A0_0 : Option Addr) (c0_0 : Nat) (l0_0 : List (S110)) (a1 : Int) (r : Bool) (w : World) (hr0_0 : Kd.C k110 w A0_0 l0_0.length l0_0) (hc0_0 : l0_0.length ≤ c0_0) (h : impl_isNode.f l0_0 a1 = some r) :
    Calls Tryd.prog 49 #[.agg #[.slice A0_0 l0_0.length c0_0], .int .i64 a1] w fun e w' => e = .returned (.bool r) ∧ Below w.heap.size w w' := by
  have hu26 := Tryd.underlying26
  have HR0_0 := am hr0_0
  have HC0_0 := am hc0_0
  clear hr0_0 hc0_0
  have HB := am (Below.refl w.heap.size w)
  have H : ((impl_isSymbol.f l0_0 a1).bind fun t337 => (if t337 = true then (some true) else ((impl_within.f a1 (-12) (-1)).bind fun t338 => (some t338)))) = some r := h
  clear h
  replace H := Option.bind_eq_some_iff.mp H
  obtain ⟨t337, A30, H⟩ := H
  replace H : (if t337 = true then (some true) else ((impl_within.f a1 (-12) (-1)).bind fun t338 => (some t338))) = some r := H
  have A3 := am A30
  clear A30
  by_cases c4 : t337 = true
  · subst c4
    have H1 : (some true) = some r := by rw [if_pos rfl] at H; exact H
    clear H
    have H := H1
    clear H1
    obtain rfl := Option.some.inj H
    go_enter Tryd.func49, Tryd.ntmps49
    go_wp2_with (first | ((with_reducible refine gate_dst (N := 2) rfl ?_); refine box_event ?hg (N := 2) ?hd (cs := #[.slice A0_0 l0_0.length c0_0]) (t := 26) ?hr ?_; (case hd => rfl); (case hg => rfl); (case hr => first | (go_simp; done) | (go_simp; rfl)); intro gb336 hg w5 hbox hb; have n0_ := am (below_step (hq HB.out) hb); have n1_ := am (hbox); have n2_ := am (bz hg (hq HB.out)); have n3_ := n2_; clear HB; revert n0_ n1_ n2_ n3_; intro HB BK336 GW336 GE336; clear hb hbox hg; have hcz6_0 : w5.cell? ⟨gb336, 0, none⟩ = some (.slice A0_0 l0_0.length c0_0) := (blk_cell BK336.out 0).trans rfl; have hfz6_0 := blk_frozen BK336.out 0) | ((with_reducible refine gate_callee (f := 88) rfl ?_); refine goesL_ (some 7) rfl rfl Tryd.func88 (by kernel_rfl) rfl #[.agg #[.slice A0_0 l0_0.length c0_0], .int .i64 a1] rfl el ?_; (with_reducible refine (impl_isSymbol.calls _ _ l0_0 a1 true _ ?side1 ?side2 A3.out).mono ?_); (case side1 => exact cq (Kd.C_below HR0_0.out HB.out)); (case side2 => exact HC0_0.out); rintro e w7 ⟨rfl, hb⟩; refine ⟨_, rfl, ?_⟩; have n0_ := am (blk_below (bq BK336.out) hb); have n1_ := am (below_step (hs HB.out) hb); clear BK336 HB; revert n0_ n1_; intro BK336 HB; (try clear hb); (try clear hb2); (try clear hgw); (try clear hk); (try clear hi)))
    go_ret
    exact ⟨by first | rfl | (simp [errW_none, errW_some] <;> rfl) | (simp [*, errW_none, errW_some] <;> rfl), by exact hs HB.out⟩
  · replace c4 := Bool.eq_false_iff.mpr c4
    subst c4
    have H1 : ((impl_within.f a1 (-12) (-1)).bind fun t338 => (some t338)) = some r := by rw [if_neg (show ¬ (false = true) by decide)] at H; exact H
    clear H
    have H := H1
    clear H1
    replace H := Option.bind_eq_some_iff.mp H
    obtain ⟨t338, A80, H⟩ := H
    replace H : (some t338) = some r := H
    have A8 := am A80
    clear A80
    obtain rfl := Option.some.inj H
    go_enter Tryd.func49, Tryd.ntmps49
    go_wp2_with (first | ((with_reducible refine gate_dst (N := 2) rfl ?_); refine box_event ?hg (N := 2) ?hd (cs := #[.slice A0_0 l0_0.length c0_0]) (t := 26) ?hr ?_; (case hd => rfl); (case hg => rfl); (case hr => first | (go_simp; done) | (go_simp; rfl)); intro gb336 hg w9 hbox hb; have n0_ := am (below_step (hq HB.out) hb); have n1_ := am (hbox); have n2_ := am (bz hg (hq HB.out)); have n3_ := n2_; clear HB; revert n0_ n1_ n2_ n3_; intro HB BK336 GW336 GE336; clear hb hbox hg; have hcz10_0 : w9.cell? ⟨gb336, 0, none⟩ = some (.slice A0_0 l0_0.length c0_0) := (blk_cell BK336.out 0).trans rfl; have hfz10_0 := blk_frozen BK336.out 0) | ((with_reducible refine gate_callee (f := 88) rfl ?_); refine goesL_ (some 7) rfl rfl Tryd.func88 (by kernel_rfl) rfl #[.agg #[.slice A0_0 l0_0.length c0_0], .int .i64 a1] rfl el ?_; (with_reducible refine (impl_isSymbol.calls _ _ l0_0 a1 false _ ?side1 ?side2 A3.out).mono ?_); (case side1 => exact cq (Kd.C_below HR0_0.out HB.out)); (case side2 => exact HC0_0.out); rintro e w11 ⟨rfl, hb⟩; refine ⟨_, rfl, ?_⟩; have n0_ := am (blk_below (bq BK336.out) hb); have n1_ := am (below_step (hs HB.out) hb); clear BK336 HB; revert n0_ n1_; intro BK336 HB; (try clear hb); (try clear hb2); (try clear hgw); (try clear hk); (try clear hi)) | (go_at_call 83; (with_reducible refine (impl_within.calls a1 (-12) (-1) t338 _ A8.out).mono ?_); rintro e w' ⟨rfl, ⟨nd, rfl⟩⟩))
    go_ret
    exact ⟨by first | rfl | (simp [errW_none, errW_some] <;> rfl) | (simp [*, errW_none, errW_some] <;> rfl), by exact hs HB.out⟩
def impl_TermFault_1_with.f (a0 : Int) (l1 : List (S26)) : Option (Bool) := if 0 < (l1.length : Int) then ((impl_isNode.f ((rd_T26 l1 0).f0) a0).bind fun t340 => (some (!t340))) else (none)
set_option maxHeartbeats 8000000 in
set_option maxRecDepth 100000 in
theorem impl_TermFault_1_with.calls (a0 : Int) (A1 : Option Addr) (l1 : List (S26)) (r : Bool) (w : World) (hr1 : Kd.C k26 w A1 l1.length l1) (h : impl_TermFault_1_with.f a0 l1 = some r) :
    Calls Tryd.prog 48 #[.int .i64 a0, .pointer A1] w fun e w' => e = .returned (.bool r) ∧ Below w.heap.size w w' := by
  have hu26 := Tryd.underlying26
  have HR1 := am hr1
  clear hr1
  have HB := am (Below.refl w.heap.size w)
  have H : (if 0 < (l1.length : Int) then ((impl_isNode.f ((rd_T26 l1 0).f0) a0).bind fun t340 => (some (!t340))) else (none)) = some r := h
  clear h
  by_cases c3 : 0 < (l1.length : Int)
  · rw [if_pos c3] at H
    have c3b0 : decide (0 < (l1.length : Int)) = true := decide_eq_true c3
    have c3b1 : decide (0 < l1.length) = true := decide_eq_true (by omega)
    clear c3
    replace H := Option.bind_eq_some_iff.mp H
    obtain ⟨t340, A40, H⟩ := H
    replace H : (some (!t340)) = some r := H
    have A4 := am A40
    clear A40
    obtain rfl := Option.some.inj H
    have p339 : 0 ≤ (0 : Int) := (by omega)
    have q339 : 0 < (l1.length : Int) := of_decide_eq_true (by first | (with_reducible assumption) | assumption)
    obtain ⟨ad339, A339_0, c339_0, e339, hx339_0, hl339_0, hi339_0⟩ := at_T26 HR1.out 0 p339 q339
    cases e339
    have qi339 : (0 < l1.length) = True := eq_true (by omega)
    (try rw [show ((0 : Int)).toNat = 0 from rfl] at hx339_0)
    (try rw [Addr.add_zero'] at hx339_0)
    have HR339_0 := am hi339_0
    have HC339_0 := am hl339_0
    clear hi339_0 hl339_0
    replace p339 := eq_true p339
    replace q339 := eq_true q339
    go_enter Tryd.func48, Tryd.ntmps48
    go_wp2_with (first | ((with_reducible refine gate_callee (f := 49) rfl ?_); refine goesL_ (some 6) rfl rfl Tryd.func49 (by kernel_rfl) rfl #[.agg #[.slice A339_0 ((rd_T26 l1 0).f0).length c339_0], .int .i64 a0] rfl el ?_; (with_reducible refine (impl_isNode.calls _ _ ((rd_T26 l1 0).f0) a0 t340 _ ?side1 ?side2 A4.out).mono ?_); (case side1 => exact cq HR339_0.out); (case side2 => exact HC339_0.out); rintro e w5 ⟨rfl, hb⟩; refine ⟨_, rfl, ?_⟩; have n0_ := am (below_step (hq HB.out) hb); clear HB; revert n0_; intro HB; (try clear hb); (try clear hb2); (try clear hgw); (try clear hk); (try clear hi)))
    go_ret
    exact ⟨by first | rfl | (simp [errW_none, errW_some] <;> rfl) | (simp [*, errW_none, errW_some] <;> rfl), by exact hq HB.out⟩
  · rw [if_neg c3] at H
    exact absurd H (by simp)
def slices_IndexFunc_int64_int64_impl_TermFault_1.l0 : Nat → List Int → Int → Int → List (S26) → Option (Int)
  | 0, _, _, _, _ => none
  | k + 1, x0, x7, x8, x910 => if x8 < x7 then (if 0 ≤ x8 then (if x8 < (x0.length : Int) then ((impl_TermFault_1_with.f (rd x0 x8) x910).bind fun t342 => (if t342 = true then (some x8) else (slices_IndexFunc_int64_int64_impl_TermFault_1.l0 k x0 x7 (wrap64 (x8 + 1)) x910))) else (none)) else (none)) else (some (-1))
def slices_IndexFunc_int64_int64_impl_TermFault_1.f (k : Nat) (l0 : List Int) (l1_0 : List (S26)) : Option (Int) := slices_IndexFunc_int64_int64_impl_TermFault_1.l0 k l0 (l0.length : Int) 0 l1_0
set_option maxHeartbeats 8000000 in
set_option maxRecDepth 100000 in
theorem slices_IndexFunc_int64_int64_impl_TermFault_1.calls (k : Nat) (A0 : Option Addr) (c0 : Nat) (l0 : List Int) (A1_0 : Option Addr) (l1_0 : List (S26)) (r : Int) (w : World) (hr0 : Kd.C (Kd.int .i64) w A0 l0.length l0) (hc0 : l0.length ≤ c0) (hr1_0 : Kd.C k26 w A1_0 l1_0.length l1_0) (h : slices_IndexFunc_int64_int64_impl_TermFault_1.f k l0 l1_0 = some r) :
    Calls Tryd.prog 87 #[.slice A0 l0.length c0, .func (.func 48) #[] #[.pointer A1_0]] w fun e w' => e = .returned (.int .i64 r) ∧ Below w.heap.size w w' := by
  have HR0 := am hr0
  have HC0 := am hc0
  clear hr0 hc0
  have HR1_0 := am hr1_0
  clear hr1_0
  have HB := am (Below.refl w.heap.size w)
  have H : (slices_IndexFunc_int64_int64_impl_TermFault_1.l0 k l0 (l0.length : Int) 0 l1_0) = some r := h
  clear h
  have H' := am H
  clear H
  go_enter Tryd.func87, Tryd.ntmps87
  go_wp2
  go_loopg [8] k (fun kq v8 w' => ∃ (x8_1 : Int), v8 = .int .i64 x8_1 ∧ Aside0 (slices_IndexFunc_int64_int64_impl_TermFault_1.l0 kq l0 (l0.length : Int) x8_1 l1_0 = some r) ∧ Aside0 (kq ≤ k) ∧ Aside0 (Below w.heap.size w w'))
  case atStart => exact ⟨(0), (by first | rfl | (simp; done) | (simp [*]; done)), H', ⟨Nat.le_refl _⟩, ⟨by exact hq HB.out⟩⟩
  case round =>
    clear H'
    try clear p2
    obtain ⟨x8_1, rfl, HA, HK1, HB⟩ := hrel
    cases gk with
    | zero => exact absurd HA.out (by simp [slices_IndexFunc_int64_int64_impl_TermFault_1.l0])
    | succ k1 =>
      have H := HA.out
      clear HA
      simp only [slices_IndexFunc_int64_int64_impl_TermFault_1.l0] at H
      by_cases c3 : x8_1 < (l0.length : Int)
      · rw [if_pos c3] at H
        have c3b0 : decide (x8_1 < (l0.length : Int)) = true := decide_eq_true c3
        clear c3
        by_cases c4 : 0 ≤ x8_1
        · rw [if_pos c4] at H
          have c4b0 : decide (0 ≤ x8_1) = true := decide_eq_true c4
          clear c4
          by_cases c5 : x8_1 < (l0.length : Int)
          · rw [if_pos c5] at H
            have c5b0 : decide (x8_1 < (l0.length : Int)) = true := decide_eq_true c5
            clear c5
            replace H := Option.bind_eq_some_iff.mp H
            obtain ⟨t342, A60, H⟩ := H
            replace H : (if t342 = true then (some x8_1) else (slices_IndexFunc_int64_int64_impl_TermFault_1.l0 k1 l0 (l0.length : Int) (wrap64 (x8_1 + 1)) l1_0)) = some r := H
            have A6 := am A60
            clear A60
            by_cases c7 : t342 = true
            · subst c7
              have H1 : (some x8_1) = some r := by rw [if_pos rfl] at H; exact H
              clear H
              have H := H1
              clear H1
              obtain rfl := Option.some.inj H
              have p341 : 0 ≤ (x8_1 : Int) := of_decide_eq_true (by first | (with_reducible assumption) | assumption)
              have q341 : x8_1 < (l0.length : Int) := of_decide_eq_true (by first | (with_reducible assumption) | assumption)
              obtain ⟨ad341, e341, hx341_0⟩ := Kd.at_int HR0.out x8_1 p341 q341
              cases e341
              replace hx341_0 := (HB.out.cell (World.block_lt_of_cell? w _ hx341_0)).trans hx341_0
              replace p341 := eq_true p341
              replace q341 := eq_true q341
              go_wp2_with (first | ((first | ((with_reducible refine gate_callee (f := 48) rfl ?_); refine goesL_ (some 16) rfl rfl Tryd.func48 (by kernel_rfl) rfl #[.int .i64 (rd l0 x8_1), .pointer A1_0] rfl el ?_) | ((with_reducible refine gate_calleeV _ rfl ?_); refine goesV_ (some 16) rfl rfl Tryd.func48 (by kernel_rfl) rfl #[.int .i64 (rd l0 x8_1), .pointer A1_0] rfl rfl (by first | rfl | (simp <;> first | rfl | exact ⟨rfl, rfl⟩ | exact ⟨rfl, rfl, rfl⟩) | ((try simp only [List.map_toArray, List.map_cons, List.map_nil]); first | done | rfl | (simp only [List.length_drop, List.length_take]; rfl))) ?_)); (with_reducible refine (impl_TermFault_1_with.calls (rd l0 x8_1) _ l1_0 true _ ?side1 A6.out).mono ?_); (case side1 => exact cq (Kd.C_below HR1_0.out HB.out)); rintro e w8 ⟨rfl, hb⟩; refine ⟨_, rfl, ?_⟩; have n0_ := am (below_step (hq HB.out) hb); clear HB; revert n0_; intro HB; (try clear hb); (try clear hb2); (try clear hgw); (try clear hk); (try clear hi)))
              go_ret
              exact ⟨by first | rfl | (simp [errW_none, errW_some] <;> rfl) | (simp [*, errW_none, errW_some] <;> rfl), by exact hq HB.out⟩
            · replace c7 := Bool.eq_false_iff.mpr c7
              subst c7
              have H1 : (slices_IndexFunc_int64_int64_impl_TermFault_1.l0 k1 l0 (l0.length : Int) (wrap64 (x8_1 + 1)) l1_0) = some r := by rw [if_neg (show ¬ (false = true) by decide)] at H; exact H
              clear H
              have H := H1
              clear H1
              have H' := am H
              clear H
              have p341 : 0 ≤ (x8_1 : Int) := of_decide_eq_true (by first | (with_reducible assumption) | assumption)
              have q341 : x8_1 < (l0.length : Int) := of_decide_eq_true (by first | (with_reducible assumption) | assumption)
              obtain ⟨ad341, e341, hx341_0⟩ := Kd.at_int HR0.out x8_1 p341 q341
              cases e341
              replace hx341_0 := (HB.out.cell (World.block_lt_of_cell? w _ hx341_0)).trans hx341_0
              replace p341 := eq_true p341
              replace q341 := eq_true q341
              go_wp2_with (first | ((first | ((with_reducible refine gate_callee (f := 48) rfl ?_); refine goesL_ (some 16) rfl rfl Tryd.func48 (by kernel_rfl) rfl #[.int .i64 (rd l0 x8_1), .pointer A1_0] rfl el ?_) | ((with_reducible refine gate_calleeV _ rfl ?_); refine goesV_ (some 16) rfl rfl Tryd.func48 (by kernel_rfl) rfl #[.int .i64 (rd l0 x8_1), .pointer A1_0] rfl rfl (by first | rfl | (simp <;> first | rfl | exact ⟨rfl, rfl⟩ | exact ⟨rfl, rfl, rfl⟩) | ((try simp only [List.map_toArray, List.map_cons, List.map_nil]); first | done | rfl | (simp only [List.length_drop, List.length_take]; rfl))) ?_)); (with_reducible refine (impl_TermFault_1_with.calls (rd l0 x8_1) _ l1_0 false _ ?side1 A6.out).mono ?_); (case side1 => exact cq (Kd.C_below HR1_0.out HB.out)); rintro e w9 ⟨rfl, hb⟩; refine ⟨_, rfl, ?_⟩; have n0_ := am (below_step (hq HB.out) hb); clear HB; revert n0_; intro HB; (try clear hb); (try clear hb2); (try clear hgw); (try clear hk); (try clear hi)))
              go_roundg k1
              case measure => have := HK1.out; omega
              case rel => exact ⟨(wrap64 (x8_1 + 1)), (by first | rfl | (simp; done) | (simp [*]; done)), H', ⟨by have := HK1.out; omega⟩, ⟨by exact hq HB.out⟩⟩
          · rw [if_neg c5] at H
            exact absurd H (by simp)
        · rw [if_neg c4] at H
          exact absurd H (by simp)
      · rw [if_neg c3] at H
        have c3b0 : decide (x8_1 < (l0.length : Int)) = false := decide_eq_false c3
        clear c3
        obtain rfl := Option.some.inj H
        go_wp2
        go_ret
        exact ⟨by first | rfl | (simp [errW_none, errW_some] <;> rfl) | (simp [*, errW_none, errW_some] <;> rfl), by exact hq HB.out⟩
def slices_ContainsFunc_int64_int64_impl_TermFault_1.f (k : Nat) (l0 : List Int) (l1_0 : List (S26)) : Option (Bool) := (slices_IndexFunc_int64_int64_impl_TermFault_1.f k l0 l1_0).bind fun t343 => (some (decide (t343 ≥ 0)))
set_option maxHeartbeats 8000000 in
set_option maxRecDepth 100000 in
theorem slices_ContainsFunc_int64_int64_impl_TermFault_1.calls (k : Nat) (A0 : Option Addr) (c0 : Nat) (l0 : List Int) (A1_0 : Option Addr) (l1_0 : List (S26)) (r : Bool) (w : World) (hr0 : Kd.C (Kd.int .i64) w A0 l0.length l0) (hc0 : l0.length ≤ c0) (hr1_0 : Kd.C k26 w A1_0 l1_0.length l1_0) (h : slices_ContainsFunc_int64_int64_impl_TermFault_1.f k l0 l1_0 = some r) :
    Calls Tryd.prog 47 #[.slice A0 l0.length c0, .func (.func 48) #[] #[.pointer A1_0]] w fun e w' => e = .returned (.bool r) ∧ Below w.heap.size w w' := by
  have HR0 := am hr0
  have HC0 := am hc0
  clear hr0 hc0
  have HR1_0 := am hr1_0
  clear hr1_0
  have HB := am (Below.refl w.heap.size w)
  have H : ((slices_IndexFunc_int64_int64_impl_TermFault_1.f k l0 l1_0).bind fun t343 => (some (decide (t343 ≥ 0)))) = some r := h
  clear h
  replace H := Option.bind_eq_some_iff.mp H
  obtain ⟨t343, A30, H⟩ := H
  replace H : (some (decide (t343 ≥ 0))) = some r := H
  have A3 := am A30
  clear A30
  obtain rfl := Option.some.inj H
  go_enter Tryd.func47, Tryd.ntmps47
  go_wp2_with (first | ((with_reducible refine gate_callee (f := 87) rfl ?_); refine goesL_ (some 7) rfl rfl Tryd.func87 (by kernel_rfl) rfl #[.slice A0 l0.length c0, .func (.func 48) #[] #[.pointer A1_0]] rfl el ?_; (with_reducible refine (slices_IndexFunc_int64_int64_impl_TermFault_1.calls k _ _ l0 _ l1_0 t343 _ ?side1 ?side2 ?side3 A3.out).mono ?_); (case side1 => exact cq HR0.out); (case side2 => exact HC0.out); (case side3 => exact cq HR1_0.out); rintro e w4 ⟨rfl, hb⟩; refine ⟨_, rfl, ?_⟩; have n0_ := am (below_step (hq HB.out) hb); clear HB; revert n0_; intro HB; (try clear hb); (try clear hb2); (try clear hgw); (try clear hk); (try clear hi)))
  go_ret
  exact ⟨by first | rfl | (simp [errW_none, errW_some] <;> rfl) | (simp [*, errW_none, errW_some] <;> rfl), by exact hq HB.out⟩
def impl_TermFault.j0 : Nat → List Int → Bool → List (S110) → Option (Int)
  | 0, _, _, _ => none
  | k + 1, x1, x18, x345000 => if x18 = true then (some 2) else ((slices_ContainsFunc_int64_int64_impl_TermFault_1.f k x1 [(⟨x345000⟩ : S26)]).bind fun t346 => (if t346 = true then (some 3) else ((impl_endOf.f k x345000 x1 0).bind fun t347 => (if t347 = (x1.length : Int) then (some 0) else (some 1)))))
def impl_TermFault.f (k : Nat) (l0_0 : List (S110)) (l1 : List Int) : Option (Int) := (impl_SignatureFault.f k l0_0).bind fun t345 => (if t345 = 0 then (if (l1.length : Int) < 1 then (impl_TermFault.j0 k l1 true l0_0) else (impl_TermFault.j0 k l1 (decide ((l1.length : Int) > 24)) l0_0)) else (some t345))
set_option maxHeartbeats 8000000 in
set_option maxRecDepth 100000 in
theorem impl_TermFault.calls (k : Nat) (A0_0 : Option Addr) (c0_0 : Nat) (l0_0 : List (S110)) (A1 : Option Addr) (c1 : Nat) (l1 : List Int) (r : Int) (w : World) (hr0_0 : Kd.C k110 w A0_0 l0_0.length l0_0) (hc0_0 : l0_0.length ≤ c0_0) (hr1 : Kd.C (Kd.int .i64) w A1 l1.length l1) (hc1 : l1.length ≤ c1) (h : impl_TermFault.f k l0_0 l1 = some r) :
    Calls Tryd.prog 10 #[.agg #[.slice A0_0 l0_0.length c0_0], .slice A1 l1.length c1] w fun e w' => e = .returned (.int .i64 r) ∧ Below w.heap.size w w' := by
  have hu26 := Tryd.underlying26
  have HR0_0 := am hr0_0
  have HC0_0 := am hc0_0
  clear hr0_0 hc0_0
  have HR1 := am hr1
  have HC1 := am hc1
  clear hr1 hc1
  have HB := am (Below.refl w.heap.size w)
  have H : ((impl_SignatureFault.f k l0_0).bind fun t345 => (if t345 = 0 then (if (l1.length : Int) < 1 then (impl_TermFault.j0 k l1 true l0_0) else (impl_TermFault.j0 k l1 (decide ((l1.length : Int) > 24)) l0_0)) else (some t345))) = some r := h
  clear h
  replace H := Option.bind_eq_some_iff.mp H
  obtain ⟨t345, A30, H⟩ := H
  replace H : (if t345 = 0 then (if (l1.length : Int) < 1 then (impl_TermFault.j0 k l1 true l0_0) else (impl_TermFault.j0 k l1 (decide ((l1.length : Int) > 24)) l0_0)) else (some t345)) = some r := H
  have A3 := am A30
  clear A30
  by_cases c4 : t345 = 0
  · rw [if_pos c4] at H
    have c4b0 : (t345 == 0) = true := beq_iff_eq.mpr c4
    have c4b1 : (t345 != 0) = false := bne_eq_false_iff_eq.mpr c4
    clear c4
    have HC5 := am H
    clear H
    go_enter Tryd.func10, Tryd.ntmps10
    go_upto_region 4 with (first | ((with_reducible refine gate_dst (N := 2) rfl ?_); (try (refine gate_guard (by rfl) ?_; dsimp only)); refine box_event ?hg (N := 2) ?hd (cs := #[.slice A0_0 l0_0.length c0_0]) (t := 26) ?hr ?_; (case hd => rfl); (case hg => rfl); (case hr => first | (go_simp; done) | (go_simp; rfl)); intro gb344 hg w6 hbox hb; have n0_ := am (below_step (hq HB.out) hb); have n1_ := am (hbox); have n2_ := am (bz hg (hq HB.out)); have n3_ := n2_; clear HB; revert n0_ n1_ n2_ n3_; intro HB BK344 GW344 GE344; clear hb hbox hg; have hcz7_0 : w6.cell? ⟨gb344, 0, none⟩ = some (.slice A0_0 l0_0.length c0_0) := (blk_cell BK344.out 0).trans rfl; have hfz7_0 := blk_frozen BK344.out 0) | ((with_reducible refine gate_callee (f := 46) rfl ?_); refine goesL_ (some 7) rfl rfl Tryd.func46 (by kernel_rfl) rfl #[.agg #[.slice A0_0 l0_0.length c0_0]] rfl el ?_; (with_reducible refine (impl_SignatureFault.calls k _ _ l0_0 t345 _ ?side1 ?side2 A3.out).mono ?_); (case side1 => exact cq (Kd.C_below HR0_0.out HB.out)); (case side2 => exact HC0_0.out); rintro e w8 ⟨rfl, hb⟩; refine ⟨_, rfl, ?_⟩; have n0_ := am (blk_below (bq BK344.out) hb); have n1_ := am (below_step (hs HB.out) hb); clear BK344 HB; revert n0_ n1_; intro BK344 HB; (try clear hb); (try clear hb2); (try clear hgw); (try clear hk); (try clear hi)))
    (try simp only [Act.put, lsp])
    go_cut [18] (fun v18 wc => ∃ (kq : Nat) (x18_4 : Bool), v18 = .bool x18_4 ∧ Aside0 (impl_TermFault.j0 kq l1 x18_4 l0_0 = some r) ∧ Aside0 (kq ≤ k) ∧ Aside0 (wc.heap[gb344]? = some (.cells #[(.slice A0_0 l0_0.length c0_0)] 26 (0, 0))) ∧ Aside0 (Below w.heap.size w wc))
    case first =>
      have H := HC5.out
      clear HC5
      by_cases c9 : (l1.length : Int) < 1
      · rw [if_pos c9] at H
        have c9b0 : decide ((l1.length : Int) < 1) = true := decide_eq_true c9
        have c9b1 : decide (l1.length < 1) = true := decide_eq_true (by omega)
        clear c9
        (first | rw [c9b0] | (simp only [i64_w, i32_w]; rw [c9b0]) | skip)
        have H' := am H
        clear H
        go_wp2
        go_meet
        case rel => exact ⟨_, (true), (by first | rfl | (simp; done) | (simp [*]; done)), H', ⟨by first | omega | exact Nat.le_refl _⟩, ⟨by refine bq ?_; exact BK344.out⟩, ⟨by exact hs HB.out⟩⟩
      · rw [if_neg c9] at H
        have c9b0 : decide ((l1.length : Int) < 1) = false := decide_eq_false c9
        have c9b1 : decide (l1.length < 1) = false := decide_eq_false (by omega)
        clear c9
        (first | rw [c9b0] | (simp only [i64_w, i32_w]; rw [c9b0]) | skip)
        have H' := am H
        clear H
        go_wp2
        go_meet
        case rel => exact ⟨_, (decide ((l1.length : Int) > 24)), (by first | rfl | (simp; done) | (simp [*]; done)), H', ⟨by first | omega | exact Nat.le_refl _⟩, ⟨by refine bq ?_; exact BK344.out⟩, ⟨by exact hs HB.out⟩⟩
    case rest =>
      clear HC5
      try clear c1; try clear p2; try clear c4; try clear c4b0; try clear c4b1; try clear c9; try clear c9b0; try clear c9b1; try clear hcz7_0; try clear hfz7_0
      obtain ⟨kq, x18_4, rfl, HA, HJ4, BK344, HB⟩ := hcut
      cases kq with
      | zero => exact absurd HA.out (by simp [impl_TermFault.j0])
      | succ kj4 =>
        have H := HA.out
        clear HA
        simp only [impl_TermFault.j0] at H
        by_cases c10 : x18_4 = true
        · subst c10
          have H1 : (some 2) = some r := by rw [if_pos rfl] at H; exact H
          clear H
          have H := H1
          clear H1
          obtain rfl := Option.some.inj H
          go_wp2
          go_ret
          exact ⟨by first | rfl | (simp [errW_none, errW_some] <;> rfl) | (simp [*, errW_none, errW_some] <;> rfl), by exact hs HB.out⟩
        · replace c10 := Bool.eq_false_iff.mpr c10
          subst c10
          have H1 : ((slices_ContainsFunc_int64_int64_impl_TermFault_1.f kj4 l1 [(⟨l0_0⟩ : S26)]).bind fun t346 => (if t346 = true then (some 3) else ((impl_endOf.f kj4 l0_0 l1 0).bind fun t347 => (if t347 = (l1.length : Int) then (some 0) else (some 1))))) = some r := by rw [if_neg (show ¬ (false = true) by decide)] at H; exact H
          clear H
          have H := H1
          clear H1
          replace H := Option.bind_eq_some_iff.mp H
          obtain ⟨t346, A110, H⟩ := H
          replace H : (if t346 = true then (some 3) else ((impl_endOf.f kj4 l0_0 l1 0).bind fun t347 => (if t347 = (l1.length : Int) then (some 0) else (some 1)))) = some r := H
          have A11 := am A110
          clear A110
          by_cases c12 : t346 = true
          · subst c12
            have H1 : (some 3) = some r := by rw [if_pos rfl] at H; exact H
            clear H
            have H := H1
            clear H1
            obtain rfl := Option.some.inj H
            go_wp2_with (first | ((with_reducible refine gate_callee (f := 47) rfl ?_); refine goesL_ (some 21) rfl rfl Tryd.func47 (by kernel_rfl) rfl #[.slice A1 l1.length c1, .func (.func 48) #[] #[.pointer (some ⟨gb344, 0, none⟩)]] rfl el ?_; (with_reducible refine (slices_ContainsFunc_int64_int64_impl_TermFault_1.calls kj4 _ _ l1 _ [(⟨l0_0⟩ : S26)] true _ ?side1 ?side2 ?side3 A11.out).mono ?_); (case side1 => exact cq (Kd.C_below HR1.out HB.out)); (case side2 => exact HC1.out); (case side3 => exact k26_box (bq BK344.out) (cq (Kd.C_below HR0_0.out HB.out)) (by exact HC0_0.out)); rintro e w13 ⟨rfl, hb⟩; refine ⟨_, rfl, ?_⟩; have n0_ := am (blk_below (bq BK344.out) hb); have n1_ := am (below_step (hs HB.out) hb); clear BK344 HB; revert n0_ n1_; intro BK344 HB; (try clear hb); (try clear hb2); (try clear hgw); (try clear hk); (try clear hi)))
            go_ret
            exact ⟨by first | rfl | (simp [errW_none, errW_some] <;> rfl) | (simp [*, errW_none, errW_some] <;> rfl), by exact hs HB.out⟩
          · replace c12 := Bool.eq_false_iff.mpr c12
            subst c12
            have H1 : ((impl_endOf.f kj4 l0_0 l1 0).bind fun t347 => (if t347 = (l1.length : Int) then (some 0) else (some 1))) = some r := by rw [if_neg (show ¬ (false = true) by decide)] at H; exact H
            clear H
            have H := H1
            clear H1
            replace H := Option.bind_eq_some_iff.mp H
            obtain ⟨t347, A140, H⟩ := H
            replace H : (if t347 = (l1.length : Int) then (some 0) else (some 1)) = some r := H
            have A14 := am A140
            clear A140
            by_cases c15 : t347 = (l1.length : Int)
            · rw [if_pos c15] at H
              have c15b0 : (t347 == (l1.length : Int)) = true := beq_iff_eq.mpr c15
              have c15b1 : (t347 != (l1.length : Int)) = false := bne_eq_false_iff_eq.mpr c15
              clear c15
              obtain rfl := Option.some.inj H
              go_wp2_with (first | ((with_reducible refine gate_callee (f := 47) rfl ?_); refine goesL_ (some 21) rfl rfl Tryd.func47 (by kernel_rfl) rfl #[.slice A1 l1.length c1, .func (.func 48) #[] #[.pointer (some ⟨gb344, 0, none⟩)]] rfl el ?_; (with_reducible refine (slices_ContainsFunc_int64_int64_impl_TermFault_1.calls kj4 _ _ l1 _ [(⟨l0_0⟩ : S26)] false _ ?side1 ?side2 ?side3 A11.out).mono ?_); (case side1 => exact cq (Kd.C_below HR1.out HB.out)); (case side2 => exact HC1.out); (case side3 => exact k26_box (bq BK344.out) (cq (Kd.C_below HR0_0.out HB.out)) (by exact HC0_0.out)); rintro e w16 ⟨rfl, hb⟩; refine ⟨_, rfl, ?_⟩; have n0_ := am (blk_below (bq BK344.out) hb); have n1_ := am (below_step (hs HB.out) hb); clear BK344 HB; revert n0_ n1_; intro BK344 HB; (try clear hb); (try clear hb2); (try clear hgw); (try clear hk); (try clear hi); have hcz17_0 : w16.cell? ⟨gb344, 0, none⟩ = some (.slice A0_0 l0_0.length c0_0) := (blk_cell BK344.out 0).trans rfl; have hfz17_0 := blk_frozen BK344.out 0) | ((with_reducible refine gate_callee (f := 50) rfl ?_); refine goesL_ (some 24) rfl rfl Tryd.func50 (by kernel_rfl) rfl #[.agg #[.slice A0_0 l0_0.length c0_0], .slice A1 l1.length c1, .int .i64 0] rfl el ?_; (with_reducible refine (impl_endOf.calls kj4 _ _ l0_0 _ _ l1 0 t347 _ ?side1 ?side2 ?side3 ?side4 A14.out).mono ?_); (case side1 => exact cq (Kd.C_below HR0_0.out HB.out)); (case side2 => exact HC0_0.out); (case side3 => exact cq (Kd.C_below HR1.out HB.out)); (case side4 => exact HC1.out); rintro e w18 ⟨rfl, hb⟩; refine ⟨_, rfl, ?_⟩; have n0_ := am (blk_below (bq BK344.out) hb); have n1_ := am (below_step (hs HB.out) hb); clear BK344 HB; revert n0_ n1_; intro BK344 HB; (try clear hb); (try clear hb2); (try clear hgw); (try clear hk); (try clear hi)))
              go_ret
              exact ⟨by first | rfl | (simp [errW_none, errW_some] <;> rfl) | (simp [*, errW_none, errW_some] <;> rfl), by exact hs HB.out⟩
            · rw [if_neg c15] at H
              have c15b0 : (t347 == (l1.length : Int)) = false := beq_eq_false_iff_ne.mpr c15
              have c15b1 : (t347 != (l1.length : Int)) = true := bne_iff_ne.mpr c15
              obtain rfl := Option.some.inj H
              go_wp2_with (first | ((with_reducible refine gate_callee (f := 47) rfl ?_); refine goesL_ (some 21) rfl rfl Tryd.func47 (by kernel_rfl) rfl #[.slice A1 l1.length c1, .func (.func 48) #[] #[.pointer (some ⟨gb344, 0, none⟩)]] rfl el ?_; (with_reducible refine (slices_ContainsFunc_int64_int64_impl_TermFault_1.calls kj4 _ _ l1 _ [(⟨l0_0⟩ : S26)] false _ ?side1 ?side2 ?side3 A11.out).mono ?_); (case side1 => exact cq (Kd.C_below HR1.out HB.out)); (case side2 => exact HC1.out); (case side3 => exact k26_box (bq BK344.out) (cq (Kd.C_below HR0_0.out HB.out)) (by exact HC0_0.out)); rintro e w19 ⟨rfl, hb⟩; refine ⟨_, rfl, ?_⟩; have n0_ := am (blk_below (bq BK344.out) hb); have n1_ := am (below_step (hs HB.out) hb); clear BK344 HB; revert n0_ n1_; intro BK344 HB; (try clear hb); (try clear hb2); (try clear hgw); (try clear hk); (try clear hi); have hcz20_0 : w19.cell? ⟨gb344, 0, none⟩ = some (.slice A0_0 l0_0.length c0_0) := (blk_cell BK344.out 0).trans rfl; have hfz20_0 := blk_frozen BK344.out 0) | ((with_reducible refine gate_callee (f := 50) rfl ?_); refine goesL_ (some 24) rfl rfl Tryd.func50 (by kernel_rfl) rfl #[.agg #[.slice A0_0 l0_0.length c0_0], .slice A1 l1.length c1, .int .i64 0] rfl el ?_; (with_reducible refine (impl_endOf.calls kj4 _ _ l0_0 _ _ l1 0 t347 _ ?side1 ?side2 ?side3 ?side4 A14.out).mono ?_); (case side1 => exact cq (Kd.C_below HR0_0.out HB.out)); (case side2 => exact HC0_0.out); (case side3 => exact cq (Kd.C_below HR1.out HB.out)); (case side4 => exact HC1.out); rintro e w21 ⟨rfl, hb⟩; refine ⟨_, rfl, ?_⟩; have n0_ := am (blk_below (bq BK344.out) hb); have n1_ := am (below_step (hs HB.out) hb); clear BK344 HB; revert n0_ n1_; intro BK344 HB; (try clear hb); (try clear hb2); (try clear hgw); (try clear hk); (try clear hi)))
              go_ret
              exact ⟨by first | rfl | (simp [errW_none, errW_some] <;> rfl) | (simp [*, errW_none, errW_some] <;> rfl), by exact hs HB.out⟩
  · rw [if_neg c4] at H
    have c4b0 : (t345 == 0) = false := beq_eq_false_iff_ne.mpr c4
    have c4b1 : (t345 != 0) = true := bne_iff_ne.mpr c4
    obtain rfl := Option.some.inj H
    go_enter Tryd.func10, Tryd.ntmps10
    go_wp2_with (first | ((with_reducible refine gate_dst (N := 2) rfl ?_); (try (refine gate_guard (by rfl) ?_; dsimp only)); refine box_event ?hg (N := 2) ?hd (cs := #[.slice A0_0 l0_0.length c0_0]) (t := 26) ?hr ?_; (case hd => rfl); (case hg => rfl); (case hr => first | (go_simp; done) | (go_simp; rfl)); intro gb344 hg w22 hbox hb; have n0_ := am (below_step (hq HB.out) hb); have n1_ := am (hbox); have n2_ := am (bz hg (hq HB.out)); have n3_ := n2_; clear HB; revert n0_ n1_ n2_ n3_; intro HB BK344 GW344 GE344; clear hb hbox hg; have hcz23_0 : w22.cell? ⟨gb344, 0, none⟩ = some (.slice A0_0 l0_0.length c0_0) := (blk_cell BK344.out 0).trans rfl; have hfz23_0 := blk_frozen BK344.out 0) | ((with_reducible refine gate_callee (f := 46) rfl ?_); refine goesL_ (some 7) rfl rfl Tryd.func46 (by kernel_rfl) rfl #[.agg #[.slice A0_0 l0_0.length c0_0]] rfl el ?_; (with_reducible refine (impl_SignatureFault.calls k _ _ l0_0 t345 _ ?side1 ?side2 A3.out).mono ?_); (case side1 => exact cq (Kd.C_below HR0_0.out HB.out)); (case side2 => exact HC0_0.out); rintro e w24 ⟨rfl, hb⟩; refine ⟨_, rfl, ?_⟩; have n0_ := am (blk_below (bq BK344.out) hb); have n1_ := am (below_step (hs HB.out) hb); clear BK344 HB; revert n0_ n1_; intro BK344 HB; (try clear hb); (try clear hb2); (try clear hgw); (try clear hk); (try clear hi)))
    go_ret
    exact ⟨by first | rfl | (simp [errW_none, errW_some] <;> rfl) | (simp [*, errW_none, errW_some] <;> rfl), by exact hs HB.out⟩
def spec_l2Symbol.f (l0 : List (S26)) (a1 : Int) : Option (Bool) := if 0 < (l0.length : Int) then ((spec_l1In.f a1 0 (wrap64 ((((rd_T26 l0 0).f0).length : Int) - 1))).bind fun t371 => (some t371)) else (none)
set_option maxHeartbeats 8000000 in
set_option maxRecDepth 100000 in
theorem spec_l2Symbol.calls (A0 : Option Addr) (l0 : List (S26)) (a1 : Int) (r : Bool) (w : World) (hr0 : Kd.C k26 w A0 l0.length l0) (h : spec_l2Symbol.f l0 a1 = some r) :
    Calls Tryd.prog 112 #[.pointer A0, .int .i64 a1] w fun e w' => e = .returned (.bool r) ∧ Drawn0 w w' := by
  have HR0 := am hr0
  clear hr0
  have H : (if 0 < (l0.length : Int) then ((spec_l1In.f a1 0 (wrap64 ((((rd_T26 l0 0).f0).length : Int) - 1))).bind fun t371 => (some t371)) else (none)) = some r := h
  clear h
  by_cases c3 : 0 < (l0.length : Int)
  · rw [if_pos c3] at H
    have c3b0 : decide (0 < (l0.length : Int)) = true := decide_eq_true c3
    have c3b1 : decide (0 < l0.length) = true := decide_eq_true (by omega)
    clear c3
    replace H := Option.bind_eq_some_iff.mp H
    obtain ⟨t371, A40, H⟩ := H
    replace H : (some t371) = some r := H
    have A4 := am A40
    clear A40
    obtain rfl := Option.some.inj H
    have p369 : 0 ≤ (0 : Int) := (by omega)
    have q369 : 0 < (l0.length : Int) := of_decide_eq_true (by first | (with_reducible assumption) | assumption)
    obtain ⟨ad369, A369_0, c369_0, e369, hx369_0, hl369_0, hi369_0⟩ := at_T26 HR0.out 0 p369 q369
    cases e369
    have qi369 : (0 < l0.length) = True := eq_true (by omega)
    (try rw [show ((0 : Int)).toNat = 0 from rfl] at hx369_0)
    (try rw [Addr.add_zero'] at hx369_0)
    have HR369_0 := am hi369_0
    have HC369_0 := am hl369_0
    clear hi369_0 hl369_0
    replace p369 := eq_true p369
    replace q369 := eq_true q369
    have p370 : 0 ≤ (0 : Int) := (by omega)
    have q370 : 0 < (l0.length : Int) := of_decide_eq_true (by first | (with_reducible assumption) | assumption)
    obtain ⟨ad370, A370_0, c370_0, e370, hx370_0, hl370_0, hi370_0⟩ := at_T26 HR0.out 0 p370 q370
    obtain rfl : ad369 = ad370 := (by injection e370)
    have qi370 : (0 < l0.length) = True := eq_true (by omega)
    (try rw [show ((0 : Int)).toNat = 0 from rfl] at hx370_0)
    (try rw [Addr.add_zero'] at hx370_0)
    have HR370_0 := am hi370_0
    have HC370_0 := am hl370_0
    clear hi370_0 hl370_0
    replace p370 := eq_true p370
    replace q370 := eq_true q370
    have ea_ := Option.some.inj (hx369_0.symm.trans hx370_0)
    injection ea_ with ea_ en_ ec_
    subst ea_
    subst ec_
    clear en_
    go_enter Tryd.func112, Tryd.ntmps112
    go_wp2_with (first | ((with_reducible refine gate_callee (f := 79) rfl ?_); refine goesL_ (some 12) rfl rfl Tryd.func79 (by kernel_rfl) rfl #[.int .i64 a1, .int .i64 0, .int .i64 (wrap64 ((((rd_T26 l0 0).f0).length : Int) - 1))] rfl el ?_; (with_reducible refine (spec_l1In.calls a1 0 (wrap64 ((((rd_T26 l0 0).f0).length : Int) - 1)) t371 _ A4.out).mono ?_); rintro e w' ⟨rfl, ⟨nd, rfl⟩⟩; refine ⟨_, rfl, ?_⟩))
    go_ret
    exact ⟨by first | rfl | (simp; done) | (simp [*]; done), by repeat (first | exact Drawn0.refl _ | apply Drawn0.step)⟩
  · rw [if_neg c3] at H
    exact absurd H (by simp)
end Go.Proofs.YtcanokiehjjbgaaDoor.P
namespace Go.Proofs.YtcanokiehjjbgaaDoor.P
open Go.RowKit Go.Proofs.YtcanokiehjjbgaaDoorW.PrintWords Go.Proofs.YtcanokiehjjbgaaDoorW.PrintLast Go.Proofs.YtcanokiehjjbgaaDoorW.PrintMore
attribute [local go_sem] max2_int min2_int max_two min_two max_three min_three max_four min_four   -- for this text's walks alone
set_option linter.unusedVariables false
set_option linter.unusedSimpArgs false
def laws_szSymbol.f (a0_0 : ByteArray) (a0_1 : Int) (a1 : Int) : Option (Int) := if (wrap64 (a1 - (a0_0.size : Int))) < 0 then (some (-1)) else (some (wrap64 (a1 - (a0_0.size : Int))))
set_option maxHeartbeats 8000000 in
set_option maxRecDepth 100000 in
theorem laws_szSymbol.calls (a0_0 : ByteArray) (a0_1 : Int) (a1 : Int) (r : Int) (w : World) (h : laws_szSymbol.f a0_0 a0_1 a1 = some r) :
    Calls Tryd.prog 93 #[.agg #[.string a0_0, .int .i64 a0_1], .int .i64 a1] w fun e w' => e = .returned (.int .i64 r) ∧ Below w.heap.size w w' := by
  have hu123 := Tryd.underlying123
  have HB := am (Below.refl w.heap.size w)
  have H : (if (wrap64 (a1 - (a0_0.size : Int))) < 0 then (some (-1)) else (some (wrap64 (a1 - (a0_0.size : Int))))) = some r := h
  clear h
  by_cases c3 : (wrap64 (a1 - (a0_0.size : Int))) < 0
  · rw [if_pos c3] at H
    have c3b0 : decide ((wrap64 (a1 - (a0_0.size : Int))) < 0) = true := decide_eq_true c3
    clear c3
    obtain rfl := Option.some.inj H
    go_enter Tryd.func93, Tryd.ntmps93
    go_wp2_with (first | ((with_reducible refine gate_dst (N := 2) rfl ?_); refine box_event ?hg (N := 2) ?hd (cs := #[.string a0_0, .int .i64 a0_1]) (t := 123) ?hr ?_; (case hd => rfl); (case hg => rfl); (case hr => first | (go_simp; done) | (go_simp; rfl)); intro gb511 hg w4 hbox hb; have n0_ := am (below_step (hq HB.out) hb); have n1_ := am (hbox); have n2_ := am (bz hg (hq HB.out)); have n3_ := n2_; clear HB; revert n0_ n1_ n2_ n3_; intro HB BK511 GW511 GE511; clear hb hbox hg; have hcz5_0 : w4.cell? ⟨gb511, 0, none⟩ = some (.string a0_0) := (blk_cell BK511.out 0).trans rfl; have hcz5_1 : w4.cell? ⟨gb511, 1, none⟩ = some (.int .i64 a0_1) := (blk_cell BK511.out 1).trans rfl; have hfz5_0 := blk_frozen BK511.out 0; have hfz5_1 := blk_frozen BK511.out 1))
    go_ret
    exact ⟨by first | rfl | (simp [errW_none, errW_some] <;> rfl) | (simp [*, errW_none, errW_some] <;> rfl), by exact hs HB.out⟩
  · rw [if_neg c3] at H
    have c3b0 : decide ((wrap64 (a1 - (a0_0.size : Int))) < 0) = false := decide_eq_false c3
    clear c3
    obtain rfl := Option.some.inj H
    go_enter Tryd.func93, Tryd.ntmps93
    go_wp2_with (first | ((with_reducible refine gate_dst (N := 2) rfl ?_); refine box_event ?hg (N := 2) ?hd (cs := #[.string a0_0, .int .i64 a0_1]) (t := 123) ?hr ?_; (case hd => rfl); (case hg => rfl); (case hr => first | (go_simp; done) | (go_simp; rfl)); intro gb511 hg w6 hbox hb; have n0_ := am (below_step (hq HB.out) hb); have n1_ := am (hbox); have n2_ := am (bz hg (hq HB.out)); have n3_ := n2_; clear HB; revert n0_ n1_ n2_ n3_; intro HB BK511 GW511 GE511; clear hb hbox hg; have hcz7_0 : w6.cell? ⟨gb511, 0, none⟩ = some (.string a0_0) := (blk_cell BK511.out 0).trans rfl; have hcz7_1 : w6.cell? ⟨gb511, 1, none⟩ = some (.int .i64 a0_1) := (blk_cell BK511.out 1).trans rfl; have hfz7_0 := blk_frozen BK511.out 0; have hfz7_1 := blk_frozen BK511.out 1))
    go_ret
    exact ⟨by first | rfl | (simp [errW_none, errW_some] <;> rfl) | (simp [*, errW_none, errW_some] <;> rfl), by exact hs HB.out⟩
end Go.Proofs.YtcanokiehjjbgaaDoor.P
namespace Go.Proofs.YtcanokiehjjbgaaDoor.P
open Go.RowKit Go.Proofs.YtcanokiehjjbgaaDoorW.PrintWords Go.Proofs.YtcanokiehjjbgaaDoorW.PrintLast Go.Proofs.YtcanokiehjjbgaaDoorW.PrintMore
attribute [local go_sem] max2_int min2_int max_two min_two max_three min_three max_four min_four   -- for this text's walks alone
set_option linter.unusedVariables false
set_option linter.unusedSimpArgs false
def laws_szSymbolS.l0 : Nat → List (S123) → Int → Int → Option (Int)
  | 0, _, _, _ => none
  | k + 1, x0, x1, x5 => if x5 < (x0.length : Int) then (if 0 ≤ x5 then ((laws_szSymbol.f ((rd_T123 x0 x5).f0) ((rd_T123 x0 x5).f1) x1).bind fun t513 => (if t513 < 0 then (some (-1)) else (laws_szSymbolS.l0 k x0 t513 (wrap64 (x5 + 1))))) else (none)) else (some x1)
def laws_szSymbolS.f (k : Nat) (l0 : List (S123)) (a1 : Int) : Option (Int) := if (wrap64 (a1 - (l0.length : Int))) < 0 then (some (-1)) else (laws_szSymbolS.l0 k l0 (wrap64 (a1 - (l0.length : Int))) 0)
set_option maxHeartbeats 8000000 in
set_option maxRecDepth 100000 in
theorem laws_szSymbolS.calls (k : Nat) (A0 : Option Addr) (c0 : Nat) (l0 : List (S123)) (a1 : Int) (r : Int) (w : World) (hr0 : Kd.C k123 w A0 l0.length l0) (hc0 : l0.length ≤ c0) (h : laws_szSymbolS.f k l0 a1 = some r) :
    Calls Tryd.prog 56 #[.slice A0 l0.length c0, .int .i64 a1] w fun e w' => e = .returned (.int .i64 r) ∧ Below w.heap.size w w' := by
  have hu123 := Tryd.underlying123
  have HR0 := am hr0
  have HC0 := am hc0
  clear hr0 hc0
  have HB := am (Below.refl w.heap.size w)
  have H : (if (wrap64 (a1 - (l0.length : Int))) < 0 then (some (-1)) else (laws_szSymbolS.l0 k l0 (wrap64 (a1 - (l0.length : Int))) 0)) = some r := h
  clear h
  by_cases c3 : (wrap64 (a1 - (l0.length : Int))) < 0
  · rw [if_pos c3] at H
    have c3b0 : decide ((wrap64 (a1 - (l0.length : Int))) < 0) = true := decide_eq_true c3
    clear c3
    obtain rfl := Option.some.inj H
    go_enter Tryd.func56, Tryd.ntmps56
    go_wp2
    go_ret
    exact ⟨by first | rfl | (simp [errW_none, errW_some] <;> rfl) | (simp [*, errW_none, errW_some] <;> rfl), by exact hq HB.out⟩
  · rw [if_neg c3] at H
    have c3b0 : decide ((wrap64 (a1 - (l0.length : Int))) < 0) = false := decide_eq_false c3
    clear c3
    have H' := am H
    clear H
    go_enter Tryd.func56, Tryd.ntmps56
    go_wp2
    go_loopg [1, 5] k (fun kq v1 v5 w' => ∃ (x1_1 : Int) (x5_1 : Int), v1 = .int .i64 x1_1 ∧ v5 = .int .i64 x5_1 ∧ Aside0 (laws_szSymbolS.l0 kq l0 x1_1 x5_1 = some r) ∧ Aside0 (kq ≤ k) ∧ Aside0 (Below w.heap.size w w'))
    case atStart => exact ⟨(wrap64 (a1 - (l0.length : Int))), (0), (by first | rfl | (simp; done) | (simp [*]; done)), (by first | rfl | (simp; done) | (simp [*]; done)), H', ⟨Nat.le_refl _⟩, ⟨by exact hq HB.out⟩⟩
    case round =>
      clear H'
      try clear p2; try clear c3; try clear c3b0
      obtain ⟨x1_1, x5_1, rfl, rfl, HA, HK1, HB⟩ := hrel
      cases gk with
      | zero => exact absurd HA.out (by simp [laws_szSymbolS.l0])
      | succ k1 =>
        have H := HA.out
        clear HA
        simp only [laws_szSymbolS.l0] at H
        by_cases c4 : x5_1 < (l0.length : Int)
        · rw [if_pos c4] at H
          have c4b0 : decide (x5_1 < (l0.length : Int)) = true := decide_eq_true c4
          clear c4
          by_cases c5 : 0 ≤ x5_1
          · rw [if_pos c5] at H
            have c5b0 : decide (0 ≤ x5_1) = true := decide_eq_true c5
            clear c5
            replace H := Option.bind_eq_some_iff.mp H
            obtain ⟨t513, A60, H⟩ := H
            replace H : (if t513 < 0 then (some (-1)) else (laws_szSymbolS.l0 k1 l0 t513 (wrap64 (x5_1 + 1)))) = some r := H
            have A6 := am A60
            clear A60
            by_cases c7 : t513 < 0
            · rw [if_pos c7] at H
              have c7b0 : decide (t513 < 0) = true := decide_eq_true c7
              clear c7
              obtain rfl := Option.some.inj H
              have p512 : 0 ≤ (x5_1 : Int) := of_decide_eq_true (by first | (with_reducible assumption) | assumption)
              have q512 : x5_1 < (l0.length : Int) := of_decide_eq_true (by first | (with_reducible assumption) | assumption)
              obtain ⟨ad512, e512, hx512_0, hx512_1⟩ := at_T123 HR0.out x5_1 p512 q512
              cases e512
              replace hx512_0 := (HB.out.cell (World.block_lt_of_cell? w _ hx512_0)).trans hx512_0
              replace hx512_1 := (HB.out.cell (World.block_lt_of_cell? w _ hx512_1)).trans hx512_1
              replace p512 := eq_true p512
              replace q512 := eq_true q512
              go_wp2_with (first | ((with_reducible refine gate_callee (f := 93) rfl ?_); refine goesL_ (some 23) rfl rfl Tryd.func93 (by kernel_rfl) rfl #[.agg #[.string ((rd_T123 l0 x5_1).f0), .int .i64 ((rd_T123 l0 x5_1).f1)], .int .i64 x1_1] rfl el ?_; (with_reducible refine (laws_szSymbol.calls ((rd_T123 l0 x5_1).f0) ((rd_T123 l0 x5_1).f1) x1_1 t513 _ A6.out).mono ?_); rintro e w8 ⟨rfl, hb⟩; refine ⟨_, rfl, ?_⟩; have n0_ := am (below_step (hq HB.out) hb); clear HB; revert n0_; intro HB; (try clear hb); (try clear hb2); (try clear hgw); (try clear hk); (try clear hi)))
              go_ret
              exact ⟨by first | rfl | (simp [errW_none, errW_some] <;> rfl) | (simp [*, errW_none, errW_some] <;> rfl), by exact hq HB.out⟩
            · rw [if_neg c7] at H
              have c7b0 : decide (t513 < 0) = false := decide_eq_false c7
              clear c7
              have H' := am H
              clear H
              have p512 : 0 ≤ (x5_1 : Int) := of_decide_eq_true (by first | (with_reducible assumption) | assumption)
              have q512 : x5_1 < (l0.length : Int) := of_decide_eq_true (by first | (with_reducible assumption) | assumption)
              obtain ⟨ad512, e512, hx512_0, hx512_1⟩ := at_T123 HR0.out x5_1 p512 q512
              cases e512
              replace hx512_0 := (HB.out.cell (World.block_lt_of_cell? w _ hx512_0)).trans hx512_0
              replace hx512_1 := (HB.out.cell (World.block_lt_of_cell? w _ hx512_1)).trans hx512_1
              replace p512 := eq_true p512
              replace q512 := eq_true q512
              go_wp2_with (first | ((with_reducible refine gate_callee (f := 93) rfl ?_); refine goesL_ (some 23) rfl rfl Tryd.func93 (by kernel_rfl) rfl #[.agg #[.string ((rd_T123 l0 x5_1).f0), .int .i64 ((rd_T123 l0 x5_1).f1)], .int .i64 x1_1] rfl el ?_; (with_reducible refine (laws_szSymbol.calls ((rd_T123 l0 x5_1).f0) ((rd_T123 l0 x5_1).f1) x1_1 t513 _ A6.out).mono ?_); rintro e w9 ⟨rfl, hb⟩; refine ⟨_, rfl, ?_⟩; have n0_ := am (below_step (hq HB.out) hb); clear HB; revert n0_; intro HB; (try clear hb); (try clear hb2); (try clear hgw); (try clear hk); (try clear hi)))
              go_roundg k1
              case measure => have := HK1.out; omega
              case rel => exact ⟨(t513), (wrap64 (x5_1 + 1)), (by first | rfl | (simp; done) | (simp [*]; done)), (by first | rfl | (simp; done) | (simp [*]; done)), H', ⟨by have := HK1.out; omega⟩, ⟨by exact hq HB.out⟩⟩
          · rw [if_neg c5] at H
            exact absurd H (by simp)
        · rw [if_neg c4] at H
          have c4b0 : decide (x5_1 < (l0.length : Int)) = false := decide_eq_false c4
          clear c4
          obtain rfl := Option.some.inj H
          go_wp2
          go_ret
          exact ⟨by first | rfl | (simp [errW_none, errW_some] <;> rfl) | (simp [*, errW_none, errW_some] <;> rfl), by exact hq HB.out⟩
def laws_szSignature.f (k : Nat) (l0_0 : List (S123)) (a1 : Int) : Option (Int) := (laws_szSymbolS.f k l0_0 a1).bind fun t515 => (if t515 < 0 then (some (-1)) else (some t515))
set_option maxHeartbeats 8000000 in
set_option maxRecDepth 100000 in
theorem laws_szSignature.calls (k : Nat) (A0_0 : Option Addr) (c0_0 : Nat) (l0_0 : List (S123)) (a1 : Int) (r : Int) (w : World) (hr0_0 : Kd.C k123 w A0_0 l0_0.length l0_0) (hc0_0 : l0_0.length ≤ c0_0) (h : laws_szSignature.f k l0_0 a1 = some r) :
    Calls Tryd.prog 17 #[.agg #[.slice A0_0 l0_0.length c0_0], .int .i64 a1] w fun e w' => e = .returned (.int .i64 r) ∧ Below w.heap.size w w' := by
  have hu42 := Tryd.underlying42
  have HR0_0 := am hr0_0
  have HC0_0 := am hc0_0
  clear hr0_0 hc0_0
  have HB := am (Below.refl w.heap.size w)
  have H : ((laws_szSymbolS.f k l0_0 a1).bind fun t515 => (if t515 < 0 then (some (-1)) else (some t515))) = some r := h
  clear h
  replace H := Option.bind_eq_some_iff.mp H
  obtain ⟨t515, A30, H⟩ := H
  replace H : (if t515 < 0 then (some (-1)) else (some t515)) = some r := H
  have A3 := am A30
  clear A30
  by_cases c4 : t515 < 0
  · rw [if_pos c4] at H
    have c4b0 : decide (t515 < 0) = true := decide_eq_true c4
    clear c4
    obtain rfl := Option.some.inj H
    go_enter Tryd.func17, Tryd.ntmps17
    go_wp2_with (first | ((with_reducible refine gate_dst (N := 2) rfl ?_); refine box_event ?hg (N := 2) ?hd (cs := #[.slice A0_0 l0_0.length c0_0]) (t := 42) ?hr ?_; (case hd => rfl); (case hg => rfl); (case hr => first | (go_simp; done) | (go_simp; rfl)); intro gb514 hg w5 hbox hb; have n0_ := am (below_step (hq HB.out) hb); have n1_ := am (hbox); have n2_ := am (bz hg (hq HB.out)); have n3_ := n2_; clear HB; revert n0_ n1_ n2_ n3_; intro HB BK514 GW514 GE514; clear hb hbox hg; have hcz6_0 : w5.cell? ⟨gb514, 0, none⟩ = some (.slice A0_0 l0_0.length c0_0) := (blk_cell BK514.out 0).trans rfl; have hfz6_0 := blk_frozen BK514.out 0) | ((with_reducible refine gate_callee (f := 56) rfl ?_); refine goesL_ (some 8) rfl rfl Tryd.func56 (by kernel_rfl) rfl #[.slice A0_0 l0_0.length c0_0, .int .i64 a1] rfl el ?_; (with_reducible refine (laws_szSymbolS.calls k _ _ l0_0 a1 t515 _ ?side1 ?side2 A3.out).mono ?_); (case side1 => exact cq (Kd.C_below HR0_0.out HB.out)); (case side2 => exact HC0_0.out); rintro e w7 ⟨rfl, hb⟩; refine ⟨_, rfl, ?_⟩; have n0_ := am (blk_below (bq BK514.out) hb); have n1_ := am (below_step (hs HB.out) hb); clear BK514 HB; revert n0_ n1_; intro BK514 HB; (try clear hb); (try clear hb2); (try clear hgw); (try clear hk); (try clear hi)))
    go_ret
    exact ⟨by first | rfl | (simp [errW_none, errW_some] <;> rfl) | (simp [*, errW_none, errW_some] <;> rfl), by exact hs HB.out⟩
  · rw [if_neg c4] at H
    have c4b0 : decide (t515 < 0) = false := decide_eq_false c4
    clear c4
    obtain rfl := Option.some.inj H
    go_enter Tryd.func17, Tryd.ntmps17
    go_wp2_with (first | ((with_reducible refine gate_dst (N := 2) rfl ?_); refine box_event ?hg (N := 2) ?hd (cs := #[.slice A0_0 l0_0.length c0_0]) (t := 42) ?hr ?_; (case hd => rfl); (case hg => rfl); (case hr => first | (go_simp; done) | (go_simp; rfl)); intro gb514 hg w8 hbox hb; have n0_ := am (below_step (hq HB.out) hb); have n1_ := am (hbox); have n2_ := am (bz hg (hq HB.out)); have n3_ := n2_; clear HB; revert n0_ n1_ n2_ n3_; intro HB BK514 GW514 GE514; clear hb hbox hg; have hcz9_0 : w8.cell? ⟨gb514, 0, none⟩ = some (.slice A0_0 l0_0.length c0_0) := (blk_cell BK514.out 0).trans rfl; have hfz9_0 := blk_frozen BK514.out 0) | ((with_reducible refine gate_callee (f := 56) rfl ?_); refine goesL_ (some 8) rfl rfl Tryd.func56 (by kernel_rfl) rfl #[.slice A0_0 l0_0.length c0_0, .int .i64 a1] rfl el ?_; (with_reducible refine (laws_szSymbolS.calls k _ _ l0_0 a1 t515 _ ?side1 ?side2 A3.out).mono ?_); (case side1 => exact cq (Kd.C_below HR0_0.out HB.out)); (case side2 => exact HC0_0.out); rintro e w10 ⟨rfl, hb⟩; refine ⟨_, rfl, ?_⟩; have n0_ := am (blk_below (bq BK514.out) hb); have n1_ := am (below_step (hs HB.out) hb); clear BK514 HB; revert n0_ n1_; intro BK514 HB; (try clear hb); (try clear hb2); (try clear hgw); (try clear hk); (try clear hi)))
    go_ret
    exact ⟨by first | rfl | (simp [errW_none, errW_some] <;> rfl) | (simp [*, errW_none, errW_some] <;> rfl), by exact hs HB.out⟩
def laws_szInt64S.f (l0 : List Int) (a1 : Int) : Option (Int) := if (wrap64 (a1 - (l0.length : Int))) < 0 then (some (-1)) else (some (wrap64 (a1 - (l0.length : Int))))
set_option maxHeartbeats 8000000 in
set_option maxRecDepth 100000 in
theorem laws_szInt64S.calls (A0 : Option Addr) (c0 : Nat) (l0 : List Int) (a1 : Int) (r : Int) (w : World) (hr0 : Kd.C (Kd.int .i64) w A0 l0.length l0) (hc0 : l0.length ≤ c0) (h : laws_szInt64S.f l0 a1 = some r) :
    Calls Tryd.prog 57 #[.slice A0 l0.length c0, .int .i64 a1] w fun e w' => e = .returned (.int .i64 r) ∧ Drawn0 w w' := by
  have HR0 := am hr0
  have HC0 := am hc0
  clear hr0 hc0
  have H : (if (wrap64 (a1 - (l0.length : Int))) < 0 then (some (-1)) else (some (wrap64 (a1 - (l0.length : Int))))) = some r := h
  clear h
  by_cases c3 : (wrap64 (a1 - (l0.length : Int))) < 0
  · rw [if_pos c3] at H
    have c3b0 : decide ((wrap64 (a1 - (l0.length : Int))) < 0) = true := decide_eq_true c3
    clear c3
    obtain rfl := Option.some.inj H
    go_enter Tryd.func57, Tryd.ntmps57
    go_wp2
    go_ret
    exact ⟨by first | rfl | (simp; done) | (simp [*]; done), by repeat (first | exact Drawn0.refl _ | apply Drawn0.step)⟩
  · rw [if_neg c3] at H
    have c3b0 : decide ((wrap64 (a1 - (l0.length : Int))) < 0) = false := decide_eq_false c3
    clear c3
    obtain rfl := Option.some.inj H
    go_enter Tryd.func57, Tryd.ntmps57
    go_wp2
    go_ret
    exact ⟨by first | rfl | (simp; done) | (simp [*]; done), by repeat (first | exact Drawn0.refl _ | apply Drawn0.step)⟩
def laws_szEquation.f (l0_0 : List Int) (l0_1 : List Int) (a1 : Int) : Option (Int) := (laws_szInt64S.f l0_0 a1).bind fun t517 => (if t517 < 0 then (some (-1)) else ((laws_szInt64S.f l0_1 t517).bind fun t518 => (if t518 < 0 then (some (-1)) else (some t518))))
set_option maxHeartbeats 8000000 in
set_option maxRecDepth 100000 in
theorem laws_szEquation.calls (A0_0 : Option Addr) (c0_0 : Nat) (l0_0 : List Int) (A0_1 : Option Addr) (c0_1 : Nat) (l0_1 : List Int) (a1 : Int) (r : Int) (w : World) (hr0_0 : Kd.C (Kd.int .i64) w A0_0 l0_0.length l0_0) (hc0_0 : l0_0.length ≤ c0_0) (hr0_1 : Kd.C (Kd.int .i64) w A0_1 l0_1.length l0_1) (hc0_1 : l0_1.length ≤ c0_1) (h : laws_szEquation.f l0_0 l0_1 a1 = some r) :
    Calls Tryd.prog 18 #[.agg #[.slice A0_0 l0_0.length c0_0, .slice A0_1 l0_1.length c0_1], .int .i64 a1] w fun e w' => e = .returned (.int .i64 r) ∧ Below w.heap.size w w' := by
  have hu44 := Tryd.underlying44
  have HR0_0 := am hr0_0
  have HC0_0 := am hc0_0
  clear hr0_0 hc0_0
  have HR0_1 := am hr0_1
  have HC0_1 := am hc0_1
  clear hr0_1 hc0_1
  have HB := am (Below.refl w.heap.size w)
  have H : ((laws_szInt64S.f l0_0 a1).bind fun t517 => (if t517 < 0 then (some (-1)) else ((laws_szInt64S.f l0_1 t517).bind fun t518 => (if t518 < 0 then (some (-1)) else (some t518))))) = some r := h
  clear h
  replace H := Option.bind_eq_some_iff.mp H
  obtain ⟨t517, A30, H⟩ := H
  replace H : (if t517 < 0 then (some (-1)) else ((laws_szInt64S.f l0_1 t517).bind fun t518 => (if t518 < 0 then (some (-1)) else (some t518)))) = some r := H
  have A3 := am A30
  clear A30
  by_cases c4 : t517 < 0
  · rw [if_pos c4] at H
    have c4b0 : decide (t517 < 0) = true := decide_eq_true c4
    clear c4
    obtain rfl := Option.some.inj H
    go_enter Tryd.func18, Tryd.ntmps18
    go_wp2_with (first | ((with_reducible refine gate_dst (N := 2) rfl ?_); refine box_event ?hg (N := 2) ?hd (cs := #[.slice A0_0 l0_0.length c0_0, .slice A0_1 l0_1.length c0_1]) (t := 44) ?hr ?_; (case hd => rfl); (case hg => rfl); (case hr => first | (go_simp; done) | (go_simp; rfl)); intro gb516 hg w5 hbox hb; have n0_ := am (below_step (hq HB.out) hb); have n1_ := am (hbox); have n2_ := am (bz hg (hq HB.out)); have n3_ := n2_; clear HB; revert n0_ n1_ n2_ n3_; intro HB BK516 GW516 GE516; clear hb hbox hg; have hcz6_0 : w5.cell? ⟨gb516, 0, none⟩ = some (.slice A0_0 l0_0.length c0_0) := (blk_cell BK516.out 0).trans rfl; have hcz6_1 : w5.cell? ⟨gb516, 1, none⟩ = some (.slice A0_1 l0_1.length c0_1) := (blk_cell BK516.out 1).trans rfl; have hfz6_0 := blk_frozen BK516.out 0; have hfz6_1 := blk_frozen BK516.out 1) | ((with_reducible refine gate_callee (f := 57) rfl ?_); refine goesL_ (some 8) rfl rfl Tryd.func57 (by kernel_rfl) rfl #[.slice A0_0 l0_0.length c0_0, .int .i64 a1] rfl el ?_; (with_reducible refine (laws_szInt64S.calls _ _ l0_0 a1 t517 _ ?side1 ?side2 A3.out).mono ?_); (case side1 => exact cq (Kd.C_below HR0_0.out HB.out)); (case side2 => exact HC0_0.out); rintro e w' ⟨rfl, ⟨nd, rfl⟩⟩; refine ⟨_, rfl, ?_⟩))
    go_ret
    exact ⟨by first | rfl | (simp [errW_none, errW_some] <;> rfl) | (simp [*, errW_none, errW_some] <;> rfl), by exact hs HB.out⟩
  · rw [if_neg c4] at H
    have c4b0 : decide (t517 < 0) = false := decide_eq_false c4
    clear c4
    replace H := Option.bind_eq_some_iff.mp H
    obtain ⟨t518, A70, H⟩ := H
    replace H : (if t518 < 0 then (some (-1)) else (some t518)) = some r := H
    have A7 := am A70
    clear A70
    by_cases c8 : t518 < 0
    · rw [if_pos c8] at H
      have c8b0 : decide (t518 < 0) = true := decide_eq_true c8
      clear c8
      obtain rfl := Option.some.inj H
      go_enter Tryd.func18, Tryd.ntmps18
      go_wp2_with (first | ((with_reducible refine gate_dst (N := 2) rfl ?_); refine box_event ?hg (N := 2) ?hd (cs := #[.slice A0_0 l0_0.length c0_0, .slice A0_1 l0_1.length c0_1]) (t := 44) ?hr ?_; (case hd => rfl); (case hg => rfl); (case hr => first | (go_simp; done) | (go_simp; rfl)); intro gb516 hg w9 hbox hb; have n0_ := am (below_step (hq HB.out) hb); have n1_ := am (hbox); have n2_ := am (bz hg (hq HB.out)); have n3_ := n2_; clear HB; revert n0_ n1_ n2_ n3_; intro HB BK516 GW516 GE516; clear hb hbox hg; have hcz10_0 : w9.cell? ⟨gb516, 0, none⟩ = some (.slice A0_0 l0_0.length c0_0) := (blk_cell BK516.out 0).trans rfl; have hcz10_1 : w9.cell? ⟨gb516, 1, none⟩ = some (.slice A0_1 l0_1.length c0_1) := (blk_cell BK516.out 1).trans rfl; have hfz10_0 := blk_frozen BK516.out 0; have hfz10_1 := blk_frozen BK516.out 1) | ((with_reducible refine gate_callee (f := 57) rfl ?_); refine goesL_ (some 8) rfl rfl Tryd.func57 (by kernel_rfl) rfl #[.slice A0_0 l0_0.length c0_0, .int .i64 a1] rfl el ?_; (with_reducible refine (laws_szInt64S.calls _ _ l0_0 a1 t517 _ ?side1 ?side2 A3.out).mono ?_); (case side1 => exact cq (Kd.C_below HR0_0.out HB.out)); (case side2 => exact HC0_0.out); rintro e w' ⟨rfl, ⟨nd, rfl⟩⟩; refine ⟨_, rfl, ?_⟩) | ((with_reducible refine gate_callee (f := 57) rfl ?_); refine goesL_ (some 14) rfl rfl Tryd.func57 (by kernel_rfl) rfl #[.slice A0_1 l0_1.length c0_1, .int .i64 t517] rfl el ?_; (with_reducible refine (laws_szInt64S.calls _ _ l0_1 t517 t518 _ ?side1 ?side2 A7.out).mono ?_); (case side1 => repeat (first | exact (Kd.C_below HR0_1.out (hs HB.out)) | (with_reducible refine Kd.C_alloc ?_ _) | (with_reducible refine Kd.C_drewN ?_ _) | (with_reducible refine Kd.C_drew ?_))); (case side2 => exact HC0_1.out); rintro e w' ⟨rfl, ⟨nd, rfl⟩⟩; refine ⟨_, rfl, ?_⟩))
      go_ret
      exact ⟨by first | rfl | (simp [errW_none, errW_some] <;> rfl) | (simp [*, errW_none, errW_some] <;> rfl), by exact hs HB.out⟩
    · rw [if_neg c8] at H
      have c8b0 : decide (t518 < 0) = false := decide_eq_false c8
      clear c8
      obtain rfl := Option.some.inj H
      go_enter Tryd.func18, Tryd.ntmps18
      go_wp2_with (first | ((with_reducible refine gate_dst (N := 2) rfl ?_); refine box_event ?hg (N := 2) ?hd (cs := #[.slice A0_0 l0_0.length c0_0, .slice A0_1 l0_1.length c0_1]) (t := 44) ?hr ?_; (case hd => rfl); (case hg => rfl); (case hr => first | (go_simp; done) | (go_simp; rfl)); intro gb516 hg w11 hbox hb; have n0_ := am (below_step (hq HB.out) hb); have n1_ := am (hbox); have n2_ := am (bz hg (hq HB.out)); have n3_ := n2_; clear HB; revert n0_ n1_ n2_ n3_; intro HB BK516 GW516 GE516; clear hb hbox hg; have hcz12_0 : w11.cell? ⟨gb516, 0, none⟩ = some (.slice A0_0 l0_0.length c0_0) := (blk_cell BK516.out 0).trans rfl; have hcz12_1 : w11.cell? ⟨gb516, 1, none⟩ = some (.slice A0_1 l0_1.length c0_1) := (blk_cell BK516.out 1).trans rfl; have hfz12_0 := blk_frozen BK516.out 0; have hfz12_1 := blk_frozen BK516.out 1) | ((with_reducible refine gate_callee (f := 57) rfl ?_); refine goesL_ (some 8) rfl rfl Tryd.func57 (by kernel_rfl) rfl #[.slice A0_0 l0_0.length c0_0, .int .i64 a1] rfl el ?_; (with_reducible refine (laws_szInt64S.calls _ _ l0_0 a1 t517 _ ?side1 ?side2 A3.out).mono ?_); (case side1 => exact cq (Kd.C_below HR0_0.out HB.out)); (case side2 => exact HC0_0.out); rintro e w' ⟨rfl, ⟨nd, rfl⟩⟩; refine ⟨_, rfl, ?_⟩) | ((with_reducible refine gate_callee (f := 57) rfl ?_); refine goesL_ (some 14) rfl rfl Tryd.func57 (by kernel_rfl) rfl #[.slice A0_1 l0_1.length c0_1, .int .i64 t517] rfl el ?_; (with_reducible refine (laws_szInt64S.calls _ _ l0_1 t517 t518 _ ?side1 ?side2 A7.out).mono ?_); (case side1 => repeat (first | exact (Kd.C_below HR0_1.out (hs HB.out)) | (with_reducible refine Kd.C_alloc ?_ _) | (with_reducible refine Kd.C_drewN ?_ _) | (with_reducible refine Kd.C_drew ?_))); (case side2 => exact HC0_1.out); rintro e w' ⟨rfl, ⟨nd, rfl⟩⟩; refine ⟨_, rfl, ?_⟩))
      go_ret
      exact ⟨by first | rfl | (simp [errW_none, errW_some] <;> rfl) | (simp [*, errW_none, errW_some] <;> rfl), by exact hs HB.out⟩
def spec_l1Ints.f (l0 : List Int) : Option (List Int) := (some (([] : List Int) : List Int)).bind fun y519 => (if y519.length + l0.length < 17592186044416 then (some (y519 ++ l0)) else (none))
set_option maxHeartbeats 8000000 in
set_option maxRecDepth 100000 in
theorem spec_l1Ints.calls (A0 : Option Addr) (c0 : Nat) (l0 : List Int) (r : List Int) (w : World) (hr0 : Kd.C (Kd.int .i64) w A0 l0.length l0) (hc0 : l0.length ≤ c0) (h : spec_l1Ints.f l0 = some r) :
    Calls Tryd.prog 94 #[.slice A0 l0.length c0] w fun e w' => ∃ v0_ : Value, e = .returned (v0_) ∧ Kd.R (Kd.int .i64) 2 w' w.heap.size (fun _ => True) v0_ r ∧ Below w.heap.size w w' := by
  have HR0 := am hr0
  have HC0 := am hc0
  clear hr0 hc0
  have HB := am (Below.refl w.heap.size w)
  have H : ((some (([] : List Int) : List Int)).bind fun y519 => (if y519.length + l0.length < 17592186044416 then (some (y519 ++ l0)) else (none))) = some r := h
  clear h
  obtain ⟨y519, hy519⟩ : ∃ y_ : List Int, y_ = (([] : List Int)) := ⟨_, rfl⟩
  replace H : (if y519.length + l0.length < 17592186044416 then (some (y519 ++ l0)) else (none)) = some r := by first | (rw [hy519]; with_reducible exact H) | (have H2_ := (Option.bind_some _ _).symm.trans H; rw [hy519]; with_reducible exact H2_) | (have H2_ := (Option.bind_some _ _).symm.trans H; with_reducible exact H2_) | with_reducible exact H | (rw [hy519]; exact H) | exact H
  have Ny519 := am hy519
  clear hy519
  by_cases c2 : y519.length + l0.length < 17592186044416
  · rw [if_pos c2] at H
    have LMc2 := am c2
    clear c2
    obtain ⟨y522, hy522⟩ : ∃ y_ : List Int, y_ = (y519 ++ l0) := ⟨_, rfl⟩
    replace H : (some y522) = some r := by first | (rw [hy522]; with_reducible exact H) | (have H2_ := (Option.bind_some _ _).symm.trans H; rw [hy522]; with_reducible exact H2_) | (have H2_ := (Option.bind_some _ _).symm.trans H; with_reducible exact H2_) | with_reducible exact H | (rw [hy522]; exact H) | exact H
    have Ny522 := am hy522
    clear hy522
    obtain rfl := Option.some.inj H
    go_enter Tryd.func94, Tryd.ntmps94
    go_wp2_with (first | ((with_reducible refine gate_dst (N := 3) rfl ?_); refine Kd.R_lit (Kd.int .i64) _ 2 ?hg (N := 3) ?hd (xs := ([] : List Int)) (inner := []) (ok := fun _ => True) (okp := fun _ => True) ?hr ?hp (fun _ hk => hk) trivial (Below.refl _ _) (Nat.le_refl _) (by simp) ?_; (case hd => rfl); (case hg => rfl); (case hr => first | (go_simp; done) | (go_simp; rfl)); (case hp => exact (Reps.none _ _)); intro v520 w3 ho4 hb hg_ hnew_; clear hg_ hnew_; (first | rw [← Ny519.out] at ho4 | (simp only [Int.reduceToNat] at ho4; rw [← Ny519.out] at ho4)); have n0_ := am (Kd.R_lower ho4 (below_size (hq HB.out))); have n1_ := am (below_step (hq HB.out) hb); clear HB; revert n0_ n1_; intro HO521 HB; clear hb ho4) | ((with_reducible refine gate_builtin (b := .append) (xs := #[.tmp 3, .tmp 4]) rfl ?_); at_builtin; refine Kd.R_append_rows (Kd.int .i64) (w0 := w) w.heap.size rfl (.tmp 3) (.tmp 4) 27 2 (.int .i64 0) 8 rfl Tryd.underlying27 info2 rfl (by decide) (by omega) v520 y519 l0 _ _ _ (fun _ => True) (fun _ => False) rfl rfl ?aO ?aR (fun _ _ h => h) (fun _ h => h.elim) ?aF ?aB ?aS ?aL ?_; (case aR => exact cq (Kd.C_below HR0.out HB.out)); (case aB => exact (hq HB.out)); (case aF => exact (fun _ _ => trivial)); (case aO => exact (rq HO521.out)); (case aS => exact (below_size (hq HB.out))); (case aL => have := LMc2.out; omega); intro v523 w5 ho hb hg hat; rw [← Ny522.out] at ho; have n0_ := am (hb); have n1_ := am (ho); clear HB HO521; revert n0_ n1_; intro HB HO524; clear ho hb hg hat))
    go_ret
    exact ⟨_, by first | rfl | (simp [errW_none, errW_some] <;> rfl) | (simp [*, errW_none, errW_some] <;> rfl), by (with_reducible repeat (first | apply Kd.R_alloc | apply Kd.R_drewN | apply Kd.R_drew)); exact HO524.out, by exact hq HB.out⟩
  · rw [if_neg c2] at H
    exact absurd H (by simp)
def spec_l2Rank.l0 : Nat → List Int → Int → Int → Option (Int)
  | 0, _, _, _ => none
  | k + 1, x0, x1, x5 => if x5 < (x0.length : Int) then (if 0 ≤ x5 then (if (rd x0 x5) = x1 then (some x5) else (spec_l2Rank.l0 k x0 x1 (wrap64 (x5 + 1)))) else (none)) else (some (-1))
def spec_l2Rank.f (k : Nat) (l0 : List Int) (a1 : Int) : Option (Int) := spec_l2Rank.l0 k l0 a1 0
set_option maxHeartbeats 8000000 in
set_option maxRecDepth 100000 in
theorem spec_l2Rank.calls (k : Nat) (A0 : Option Addr) (c0 : Nat) (l0 : List Int) (a1 : Int) (r : Int) (w : World) (hr0 : Kd.C (Kd.int .i64) w A0 l0.length l0) (hc0 : l0.length ≤ c0) (h : spec_l2Rank.f k l0 a1 = some r) :
    Calls Tryd.prog 95 #[.slice A0 l0.length c0, .int .i64 a1] w fun e w' => e = .returned (.int .i64 r) ∧ Drawn0 w w' := by
  have HR0 := am hr0
  have HC0 := am hc0
  clear hr0 hc0
  have H : (spec_l2Rank.l0 k l0 a1 0) = some r := h
  clear h
  have H' := am H
  clear H
  go_enter Tryd.func95, Tryd.ntmps95
  go_wp2
  go_loopg [5] k (fun kq v5 w' => ∃ (x5_1 : Int), v5 = .int .i64 x5_1 ∧ Aside0 (spec_l2Rank.l0 kq l0 a1 x5_1 = some r) ∧ Aside0 (kq ≤ k) ∧ Drawn0 w w')
  case atStart => exact ⟨(0), (by first | rfl | (simp; done) | (simp [*]; done)), H', ⟨Nat.le_refl _⟩, by repeat (first | exact Drawn0.refl _ | apply Drawn0.step)⟩
  case round =>
    clear H'
    try clear p2
    obtain ⟨x5_1, rfl, HA, HK1, ⟨m1, rfl⟩⟩ := hrel
    cases gk with
    | zero => exact absurd HA.out (by simp [spec_l2Rank.l0])
    | succ k1 =>
      have H := HA.out
      clear HA
      simp only [spec_l2Rank.l0] at H
      by_cases c3 : x5_1 < (l0.length : Int)
      · rw [if_pos c3] at H
        have c3b0 : decide (x5_1 < (l0.length : Int)) = true := decide_eq_true c3
        clear c3
        by_cases c4 : 0 ≤ x5_1
        · rw [if_pos c4] at H
          have c4b0 : decide (0 ≤ x5_1) = true := decide_eq_true c4
          clear c4
          by_cases c5 : (rd l0 x5_1) = a1
          · rw [if_pos c5] at H
            have c5b0 : ((rd l0 x5_1) == a1) = true := beq_iff_eq.mpr c5
            have c5b1 : ((rd l0 x5_1) != a1) = false := bne_eq_false_iff_eq.mpr c5
            clear c5
            obtain rfl := Option.some.inj H
            have p525 : 0 ≤ (x5_1 : Int) := of_decide_eq_true (by first | (with_reducible assumption) | assumption)
            have q525 : x5_1 < (l0.length : Int) := of_decide_eq_true (by first | (with_reducible assumption) | assumption)
            obtain ⟨ad525, e525, hx525_0⟩ := Kd.at_int HR0.out x5_1 p525 q525
            cases e525
            replace p525 := eq_true p525
            replace q525 := eq_true q525
            go_wp2
            go_ret
            exact ⟨by first | rfl | (simp; done) | (simp [*]; done), by repeat (first | exact Drawn0.refl _ | apply Drawn0.step)⟩
          · rw [if_neg c5] at H
            have c5b0 : ((rd l0 x5_1) == a1) = false := beq_eq_false_iff_ne.mpr c5
            have c5b1 : ((rd l0 x5_1) != a1) = true := bne_iff_ne.mpr c5
            have H' := am H
            clear H
            have p525 : 0 ≤ (x5_1 : Int) := of_decide_eq_true (by first | (with_reducible assumption) | assumption)
            have q525 : x5_1 < (l0.length : Int) := of_decide_eq_true (by first | (with_reducible assumption) | assumption)
            obtain ⟨ad525, e525, hx525_0⟩ := Kd.at_int HR0.out x5_1 p525 q525
            cases e525
            replace p525 := eq_true p525
            replace q525 := eq_true q525
            go_wp2
            go_roundg k1
            case measure => have := HK1.out; omega
            case rel => exact ⟨(wrap64 (x5_1 + 1)), (by first | rfl | (simp; done) | (simp [*]; done)), H', ⟨by have := HK1.out; omega⟩, by repeat (first | exact Drawn0.refl _ | apply Drawn0.step)⟩
        · rw [if_neg c4] at H
          exact absurd H (by simp)
      · rw [if_neg c3] at H
        have c3b0 : decide (x5_1 < (l0.length : Int)) = false := decide_eq_false c3
        clear c3
        obtain rfl := Option.some.inj H
        go_wp2
        go_ret
        exact ⟨by first | rfl | (simp; done) | (simp [*]; done), by repeat (first | exact Drawn0.refl _ | apply Drawn0.step)⟩
end Go.Proofs.YtcanokiehjjbgaaDoor.P
namespace Go.Proofs.YtcanokiehjjbgaaDoor.P
open Go.RowKit Go.Proofs.YtcanokiehjjbgaaDoorW.PrintWords Go.Proofs.YtcanokiehjjbgaaDoorW.PrintLast Go.Proofs.YtcanokiehjjbgaaDoorW.PrintMore
attribute [local go_sem] max2_int min2_int max_two min_two max_three min_three max_four min_four   -- for this text's walks alone
set_option linter.unusedVariables false
set_option linter.unusedSimpArgs false
def spec_l3Node.f (l0 : List (S26)) (a1 : Int) : Option (Bool) := (spec_l2Symbol.f l0 a1).bind fun t372 => (if t372 = true then (some true) else ((spec_l1In.f a1 (-12) (-1)).bind fun t373 => (some t373)))
set_option maxHeartbeats 8000000 in
set_option maxRecDepth 100000 in
theorem spec_l3Node.calls (A0 : Option Addr) (l0 : List (S26)) (a1 : Int) (r : Bool) (w : World) (hr0 : Kd.C k26 w A0 l0.length l0) (h : spec_l3Node.f l0 a1 = some r) :
    Calls Tryd.prog 80 #[.pointer A0, .int .i64 a1] w fun e w' => e = .returned (.bool r) ∧ Drawn0 w w' := by
  have HR0 := am hr0
  clear hr0
  have H : ((spec_l2Symbol.f l0 a1).bind fun t372 => (if t372 = true then (some true) else ((spec_l1In.f a1 (-12) (-1)).bind fun t373 => (some t373)))) = some r := h
  clear h
  replace H := Option.bind_eq_some_iff.mp H
  obtain ⟨t372, A30, H⟩ := H
  replace H : (if t372 = true then (some true) else ((spec_l1In.f a1 (-12) (-1)).bind fun t373 => (some t373))) = some r := H
  have A3 := am A30
  clear A30
  by_cases c4 : t372 = true
  · subst c4
    have H1 : (some true) = some r := by rw [if_pos rfl] at H; exact H
    clear H
    have H := H1
    clear H1
    obtain rfl := Option.some.inj H
    go_enter Tryd.func80, Tryd.ntmps80
    go_wp2_with (first | ((with_reducible refine gate_callee (f := 112) rfl ?_); refine goesL_ (some 7) rfl rfl Tryd.func112 (by kernel_rfl) rfl #[.pointer A0, .int .i64 a1] rfl el ?_; (with_reducible refine (spec_l2Symbol.calls _ l0 a1 true _ ?side1 A3.out).mono ?_); (case side1 => exact cq HR0.out); rintro e w' ⟨rfl, ⟨nd, rfl⟩⟩; refine ⟨_, rfl, ?_⟩))
    go_ret
    exact ⟨by first | rfl | (simp; done) | (simp [*]; done), by repeat (first | exact Drawn0.refl _ | apply Drawn0.step)⟩
  · replace c4 := Bool.eq_false_iff.mpr c4
    subst c4
    have H1 : ((spec_l1In.f a1 (-12) (-1)).bind fun t373 => (some t373)) = some r := by rw [if_neg (show ¬ (false = true) by decide)] at H; exact H
    clear H
    have H := H1
    clear H1
    replace H := Option.bind_eq_some_iff.mp H
    obtain ⟨t373, A50, H⟩ := H
    replace H : (some t373) = some r := H
    have A5 := am A50
    clear A50
    obtain rfl := Option.some.inj H
    go_enter Tryd.func80, Tryd.ntmps80
    go_wp2_with (first | ((with_reducible refine gate_callee (f := 112) rfl ?_); refine goesL_ (some 7) rfl rfl Tryd.func112 (by kernel_rfl) rfl #[.pointer A0, .int .i64 a1] rfl el ?_; (with_reducible refine (spec_l2Symbol.calls _ l0 a1 false _ ?side1 A3.out).mono ?_); (case side1 => exact cq HR0.out); rintro e w' ⟨rfl, ⟨nd, rfl⟩⟩; refine ⟨_, rfl, ?_⟩) | (go_at_call 79; (with_reducible refine (spec_l1In.calls a1 (-12) (-1) t373 _ A5.out).mono ?_); rintro e w' ⟨rfl, ⟨nd, rfl⟩⟩))
    go_ret
    exact ⟨by first | rfl | (simp; done) | (simp [*]; done), by repeat (first | exact Drawn0.refl _ | apply Drawn0.step)⟩
mutual
def spec_l3End.l0 : Nat → List (S26) → List Int → Int → Int → Int → Option (Int)
  | 0, _, _, _, _, _ => none
  | k + 1, x0, x1, x2, x7, x8 => if 0 < (x0.length : Int) then (if 0 ≤ x2 then (if x2 < (x1.length : Int) then (if 0 ≤ (rd x1 x2) then (if (rd x1 x2) < (((rd_T26 x0 0).f0).length : Int) then (if x8 < ((rd_T110 ((rd_T26 x0 0).f0) (rd x1 x2)).f1) then ((spec_l3End.f k x0 x1 x7).bind fun t379 => (if t379 < 0 then (some (-1)) else (spec_l3End.l0 k x0 x1 x2 t379 (wrap64 (x8 + 1))))) else (some x7)) else (none)) else (none)) else (none)) else (none)) else (none)
def spec_l3End.f : Nat → List (S26) → List Int → Int → Option (Int)
  | 0, _, _, _ => none
  | k + 1, l0, l1, a2 => if a2 ≥ (l1.length : Int) then (some (-1)) else (if 0 ≤ a2 then (if a2 < (l1.length : Int) then (if (rd l1 a2) < 0 then (some (wrap64 (a2 + 1))) else (spec_l3End.l0 k l0 l1 a2 (wrap64 (a2 + 1)) 0)) else (none)) else (none))
end
set_option maxHeartbeats 8000000 in
set_option maxRecDepth 100000 in
theorem spec_l3End.calls (k : Nat) : ∀ (A0 : Option Addr) (l0 : List (S26)) (A1 : Option Addr) (c1 : Nat) (l1 : List Int) (a2 : Int) (r : Int) (w : World) (hr0 : Kd.C k26 w A0 l0.length l0) (hr1 : Kd.C (Kd.int .i64) w A1 l1.length l1) (hc1 : l1.length ≤ c1) (h : spec_l3End.f k l0 l1 a2 = some r),
    Calls Tryd.prog 81 #[.pointer A0, .slice A1 l1.length c1, .int .i64 a2] w fun e w' => e = .returned (.int .i64 r) ∧ Drawn0 w w' := by
  induction k using Nat.strongRecOn with
  | _ k ih =>
  intro A0 l0 A1 c1 l1 a2 r w hr0 hr1 hc1 h
  cases k with
  | zero => exact absurd h (by simp [spec_l3End.f])
  | succ k =>
  simp only [spec_l3End.f] at h
  have HR0 := am hr0
  clear hr0
  have HR1 := am hr1
  have HC1 := am hc1
  clear hr1 hc1
  have H : (if a2 ≥ (l1.length : Int) then (some (-1)) else (if 0 ≤ a2 then (if a2 < (l1.length : Int) then (if (rd l1 a2) < 0 then (some (wrap64 (a2 + 1))) else (spec_l3End.l0 k l0 l1 a2 (wrap64 (a2 + 1)) 0)) else (none)) else (none))) = some r := h
  clear h
  by_cases c4 : a2 ≥ (l1.length : Int)
  · rw [if_pos c4] at H
    have c4b0 : decide ((l1.length : Int) ≤ a2) = true := decide_eq_true c4
    clear c4
    obtain rfl := Option.some.inj H
    go_enter Tryd.func81, Tryd.ntmps81
    go_wp2
    repeat (go_quiet (fail); try go_wp2)
    go_ret
    exact ⟨by first | rfl | (simp; done) | (simp [*]; done), by repeat (first | exact Drawn0.refl _ | apply Drawn0.step)⟩
  · rw [if_neg c4] at H
    have c4b0 : decide ((l1.length : Int) ≤ a2) = false := decide_eq_false c4
    clear c4
    by_cases c5 : 0 ≤ a2
    · rw [if_pos c5] at H
      have c5b0 : decide (0 ≤ a2) = true := decide_eq_true c5
      clear c5
      by_cases c6 : a2 < (l1.length : Int)
      · rw [if_pos c6] at H
        have c6b0 : decide (a2 < (l1.length : Int)) = true := decide_eq_true c6
        clear c6
        by_cases c7 : (rd l1 a2) < 0
        · rw [if_pos c7] at H
          have c7b0 : decide ((rd l1 a2) < 0) = true := decide_eq_true c7
          clear c7
          obtain rfl := Option.some.inj H
          have p374 : 0 ≤ (a2 : Int) := of_decide_eq_true (by first | (with_reducible assumption) | assumption)
          have q374 : a2 < (l1.length : Int) := of_decide_eq_true (by first | (with_reducible assumption) | assumption)
          obtain ⟨ad374, e374, hx374_0⟩ := Kd.at_int HR1.out a2 p374 q374
          cases e374
          replace p374 := eq_true p374
          replace q374 := eq_true q374
          go_enter Tryd.func81, Tryd.ntmps81
          go_wp2
          repeat (go_quiet (fail); try go_wp2)
          go_ret
          exact ⟨by first | rfl | (simp; done) | (simp [*]; done), by repeat (first | exact Drawn0.refl _ | apply Drawn0.step)⟩
        · rw [if_neg c7] at H
          have c7b0 : decide ((rd l1 a2) < 0) = false := decide_eq_false c7
          clear c7
          have H' := am H
          clear H
          have p374 : 0 ≤ (a2 : Int) := of_decide_eq_true (by first | (with_reducible assumption) | assumption)
          have q374 : a2 < (l1.length : Int) := of_decide_eq_true (by first | (with_reducible assumption) | assumption)
          obtain ⟨ad374, e374, hx374_0⟩ := Kd.at_int HR1.out a2 p374 q374
          cases e374
          replace p374 := eq_true p374
          replace q374 := eq_true q374
          go_enter Tryd.func81, Tryd.ntmps81
          go_wp2
          repeat (go_quiet (fail); try go_wp2)
          go_loopg [7, 8] k (fun kq v7 v8 w' => ∃ (x7_1 : Int) (x8_1 : Int), v7 = .int .i64 x7_1 ∧ v8 = .int .i64 x8_1 ∧ Aside0 (spec_l3End.l0 kq l0 l1 a2 x7_1 x8_1 = some r) ∧ Aside0 (kq ≤ k) ∧ Drawn0 w w')
          case atStart => exact ⟨(wrap64 (a2 + 1)), (0), (by first | rfl | (simp; done) | (simp [*]; done)), (by first | rfl | (simp; done) | (simp [*]; done)), H', ⟨Nat.le_refl _⟩, by repeat (first | exact Drawn0.refl _ | apply Drawn0.step)⟩
          case round =>
            clear H'
            try clear c1; try clear p2; try clear p3; try clear q3; try clear hx3; try clear c4; try clear c4b0; try clear c5; try clear c5b0; try clear c6; try clear c6b0; try clear p6; try clear c7; try clear c7b0; try clear hx374_0; try clear p374; try clear q374
            obtain ⟨x7_1, x8_1, rfl, rfl, HA, HK1, ⟨m1, rfl⟩⟩ := hrel
            cases gk with
            | zero => exact absurd HA.out (by simp [spec_l3End.l0])
            | succ k1 =>
              have H := HA.out
              clear HA
              simp only [spec_l3End.l0] at H
              by_cases c8 : 0 < (l0.length : Int)
              · rw [if_pos c8] at H
                have c8b0 : decide (0 < (l0.length : Int)) = true := decide_eq_true c8
                have c8b1 : decide (0 < l0.length) = true := decide_eq_true (by omega)
                clear c8
                by_cases c9 : 0 ≤ a2
                · rw [if_pos c9] at H
                  have c9b0 : decide (0 ≤ a2) = true := decide_eq_true c9
                  clear c9
                  by_cases c10 : a2 < (l1.length : Int)
                  · rw [if_pos c10] at H
                    have c10b0 : decide (a2 < (l1.length : Int)) = true := decide_eq_true c10
                    clear c10
                    by_cases c11 : 0 ≤ (rd l1 a2)
                    · rw [if_pos c11] at H
                      have c11b0 : decide (0 ≤ (rd l1 a2)) = true := decide_eq_true c11
                      clear c11
                      by_cases c12 : (rd l1 a2) < (((rd_T26 l0 0).f0).length : Int)
                      · rw [if_pos c12] at H
                        have c12b0 : decide ((rd l1 a2) < (((rd_T26 l0 0).f0).length : Int)) = true := decide_eq_true c12
                        clear c12
                        by_cases c13 : x8_1 < ((rd_T110 ((rd_T26 l0 0).f0) (rd l1 a2)).f1)
                        · rw [if_pos c13] at H
                          have c13b0 : decide (x8_1 < ((rd_T110 ((rd_T26 l0 0).f0) (rd l1 a2)).f1)) = true := decide_eq_true c13
                          clear c13
                          replace H := Option.bind_eq_some_iff.mp H
                          obtain ⟨t379, A140, H⟩ := H
                          replace H : (if t379 < 0 then (some (-1)) else (spec_l3End.l0 k1 l0 l1 a2 t379 (wrap64 (x8_1 + 1)))) = some r := H
                          have A14 := am A140
                          clear A140
                          by_cases c15 : t379 < 0
                          · rw [if_pos c15] at H
                            have c15b0 : decide (t379 < 0) = true := decide_eq_true c15
                            clear c15
                            obtain rfl := Option.some.inj H
                            have p375 : 0 ≤ (0 : Int) := (by omega)
                            have q375 : 0 < (l0.length : Int) := of_decide_eq_true (by first | (with_reducible assumption) | assumption)
                            obtain ⟨ad375, A375_0, c375_0, e375, hx375_0, hl375_0, hi375_0⟩ := at_T26 HR0.out 0 p375 q375
                            cases e375
                            have qi375 : (0 < l0.length) = True := eq_true (by omega)
                            (try rw [show ((0 : Int)).toNat = 0 from rfl] at hx375_0)
                            (try rw [Addr.add_zero'] at hx375_0)
                            have HR375_0 := am hi375_0
                            have HC375_0 := am hl375_0
                            clear hi375_0 hl375_0
                            replace p375 := eq_true p375
                            replace q375 := eq_true q375
                            have p376 : 0 ≤ (0 : Int) := (by omega)
                            have q376 : 0 < (l0.length : Int) := of_decide_eq_true (by first | (with_reducible assumption) | assumption)
                            obtain ⟨ad376, A376_0, c376_0, e376, hx376_0, hl376_0, hi376_0⟩ := at_T26 HR0.out 0 p376 q376
                            obtain rfl : ad375 = ad376 := (by injection e376)
                            have qi376 : (0 < l0.length) = True := eq_true (by omega)
                            (try rw [show ((0 : Int)).toNat = 0 from rfl] at hx376_0)
                            (try rw [Addr.add_zero'] at hx376_0)
                            have HR376_0 := am hi376_0
                            have HC376_0 := am hl376_0
                            clear hi376_0 hl376_0
                            replace p376 := eq_true p376
                            replace q376 := eq_true q376
                            have ea_ := Option.some.inj (hx375_0.symm.trans hx376_0)
                            injection ea_ with ea_ en_ ec_
                            subst ea_
                            subst ec_
                            clear en_
                            have p377 : 0 ≤ (a2 : Int) := of_decide_eq_true (by first | (with_reducible assumption) | assumption)
                            have q377 : a2 < (l1.length : Int) := of_decide_eq_true (by first | (with_reducible assumption) | assumption)
                            obtain ⟨ad377, e377, hx377_0⟩ := Kd.at_int HR1.out a2 p377 q377
                            obtain rfl : ad374 = ad377 := (by injection e377)
                            replace p377 := eq_true p377
                            replace q377 := eq_true q377
                            have p378 : 0 ≤ ((rd l1 a2) : Int) := of_decide_eq_true (by first | (with_reducible assumption) | assumption)
                            have q378 : (rd l1 a2) < (((rd_T26 l0 0).f0).length : Int) := of_decide_eq_true (by first | (with_reducible assumption) | assumption)
                            obtain ⟨ad378, e378, hx378_0, hx378_1⟩ := at_T110 HR376_0.out (rd l1 a2) p378 q378
                            cases e378
                            replace p378 := eq_true p378
                            replace q378 := eq_true q378
                            go_wp2_with (first | (go_at_call 81; (with_reducible refine (ih k1 (by have := HK1.out; omega) _ l0 _ _ l1 x7_1 t379 _ ?side1 ?side2 ?side3 A14.out).mono ?_); (case side1 => exact cq HR0.out); (case side2 => exact cq HR1.out); (case side3 => exact HC1.out); rintro e w' ⟨rfl, ⟨nd, rfl⟩⟩; (try first | exact ⟨rfl, _, World.drewN_drewN _ _ _⟩ | exact ⟨rfl, _, Eq.trans (World.drewN_drewN _ _ _) (congrArg (World.drewN _) (Nat.add_assoc _ _ _))⟩)))
                            repeat (go_quiet (first | (go_at_call 81; (with_reducible refine (ih k1 (by have := HK1.out; omega) _ l0 _ _ l1 x7_1 t379 _ ?side1 ?side2 ?side3 A14.out).mono ?_); (case side1 => exact cq HR0.out); (case side2 => exact cq HR1.out); (case side3 => exact HC1.out); rintro e w' ⟨rfl, ⟨nd, rfl⟩⟩; (try first | exact ⟨rfl, _, World.drewN_drewN _ _ _⟩ | exact ⟨rfl, _, Eq.trans (World.drewN_drewN _ _ _) (congrArg (World.drewN _) (Nat.add_assoc _ _ _))⟩))); try go_wp2_with (first | (go_at_call 81; (with_reducible refine (ih k1 (by have := HK1.out; omega) _ l0 _ _ l1 x7_1 t379 _ ?side1 ?side2 ?side3 A14.out).mono ?_); (case side1 => exact cq HR0.out); (case side2 => exact cq HR1.out); (case side3 => exact HC1.out); rintro e w' ⟨rfl, ⟨nd, rfl⟩⟩; (try first | exact ⟨rfl, _, World.drewN_drewN _ _ _⟩ | exact ⟨rfl, _, Eq.trans (World.drewN_drewN _ _ _) (congrArg (World.drewN _) (Nat.add_assoc _ _ _))⟩))))
                            go_ret
                            exact ⟨by first | rfl | (simp; done) | (simp [*]; done), by repeat (first | exact Drawn0.refl _ | apply Drawn0.step)⟩
                          · rw [if_neg c15] at H
                            have c15b0 : decide (t379 < 0) = false := decide_eq_false c15
                            clear c15
                            have H' := am H
                            clear H
                            have p375 : 0 ≤ (0 : Int) := (by omega)
                            have q375 : 0 < (l0.length : Int) := of_decide_eq_true (by first | (with_reducible assumption) | assumption)
                            obtain ⟨ad375, A375_0, c375_0, e375, hx375_0, hl375_0, hi375_0⟩ := at_T26 HR0.out 0 p375 q375
                            cases e375
                            have qi375 : (0 < l0.length) = True := eq_true (by omega)
                            (try rw [show ((0 : Int)).toNat = 0 from rfl] at hx375_0)
                            (try rw [Addr.add_zero'] at hx375_0)
                            have HR375_0 := am hi375_0
                            have HC375_0 := am hl375_0
                            clear hi375_0 hl375_0
                            replace p375 := eq_true p375
                            replace q375 := eq_true q375
                            have p376 : 0 ≤ (0 : Int) := (by omega)
                            have q376 : 0 < (l0.length : Int) := of_decide_eq_true (by first | (with_reducible assumption) | assumption)
                            obtain ⟨ad376, A376_0, c376_0, e376, hx376_0, hl376_0, hi376_0⟩ := at_T26 HR0.out 0 p376 q376
                            obtain rfl : ad375 = ad376 := (by injection e376)
                            have qi376 : (0 < l0.length) = True := eq_true (by omega)
                            (try rw [show ((0 : Int)).toNat = 0 from rfl] at hx376_0)
                            (try rw [Addr.add_zero'] at hx376_0)
                            have HR376_0 := am hi376_0
                            have HC376_0 := am hl376_0
                            clear hi376_0 hl376_0
                            replace p376 := eq_true p376
                            replace q376 := eq_true q376
                            have ea_ := Option.some.inj (hx375_0.symm.trans hx376_0)
                            injection ea_ with ea_ en_ ec_
                            subst ea_
                            subst ec_
                            clear en_
                            have p377 : 0 ≤ (a2 : Int) := of_decide_eq_true (by first | (with_reducible assumption) | assumption)
                            have q377 : a2 < (l1.length : Int) := of_decide_eq_true (by first | (with_reducible assumption) | assumption)
                            obtain ⟨ad377, e377, hx377_0⟩ := Kd.at_int HR1.out a2 p377 q377
                            obtain rfl : ad374 = ad377 := (by injection e377)
                            replace p377 := eq_true p377
                            replace q377 := eq_true q377
                            have p378 : 0 ≤ ((rd l1 a2) : Int) := of_decide_eq_true (by first | (with_reducible assumption) | assumption)
                            have q378 : (rd l1 a2) < (((rd_T26 l0 0).f0).length : Int) := of_decide_eq_true (by first | (with_reducible assumption) | assumption)
                            obtain ⟨ad378, e378, hx378_0, hx378_1⟩ := at_T110 HR376_0.out (rd l1 a2) p378 q378
                            cases e378
                            replace p378 := eq_true p378
                            replace q378 := eq_true q378
                            go_wp2_with (first | (go_at_call 81; (with_reducible refine (ih k1 (by have := HK1.out; omega) _ l0 _ _ l1 x7_1 t379 _ ?side1 ?side2 ?side3 A14.out).mono ?_); (case side1 => exact cq HR0.out); (case side2 => exact cq HR1.out); (case side3 => exact HC1.out); rintro e w' ⟨rfl, ⟨nd, rfl⟩⟩; (try first | exact ⟨rfl, _, World.drewN_drewN _ _ _⟩ | exact ⟨rfl, _, Eq.trans (World.drewN_drewN _ _ _) (congrArg (World.drewN _) (Nat.add_assoc _ _ _))⟩)))
                            repeat (go_quiet (first | (go_at_call 81; (with_reducible refine (ih k1 (by have := HK1.out; omega) _ l0 _ _ l1 x7_1 t379 _ ?side1 ?side2 ?side3 A14.out).mono ?_); (case side1 => exact cq HR0.out); (case side2 => exact cq HR1.out); (case side3 => exact HC1.out); rintro e w' ⟨rfl, ⟨nd, rfl⟩⟩; (try first | exact ⟨rfl, _, World.drewN_drewN _ _ _⟩ | exact ⟨rfl, _, Eq.trans (World.drewN_drewN _ _ _) (congrArg (World.drewN _) (Nat.add_assoc _ _ _))⟩))); try go_wp2_with (first | (go_at_call 81; (with_reducible refine (ih k1 (by have := HK1.out; omega) _ l0 _ _ l1 x7_1 t379 _ ?side1 ?side2 ?side3 A14.out).mono ?_); (case side1 => exact cq HR0.out); (case side2 => exact cq HR1.out); (case side3 => exact HC1.out); rintro e w' ⟨rfl, ⟨nd, rfl⟩⟩; (try first | exact ⟨rfl, _, World.drewN_drewN _ _ _⟩ | exact ⟨rfl, _, Eq.trans (World.drewN_drewN _ _ _) (congrArg (World.drewN _) (Nat.add_assoc _ _ _))⟩))))
                            go_roundg k1
                            case measure => have := HK1.out; omega
                            case rel => exact ⟨(t379), (wrap64 (x8_1 + 1)), (by first | rfl | (simp; done) | (simp [*]; done)), (by first | rfl | (simp; done) | (simp [*]; done)), H', ⟨by have := HK1.out; omega⟩, by repeat (first | exact Drawn0.refl _ | apply Drawn0.step)⟩
                        · rw [if_neg c13] at H
                          have c13b0 : decide (x8_1 < ((rd_T110 ((rd_T26 l0 0).f0) (rd l1 a2)).f1)) = false := decide_eq_false c13
                          clear c13
                          obtain rfl := Option.some.inj H
                          have p375 : 0 ≤ (0 : Int) := (by omega)
                          have q375 : 0 < (l0.length : Int) := of_decide_eq_true (by first | (with_reducible assumption) | assumption)
                          obtain ⟨ad375, A375_0, c375_0, e375, hx375_0, hl375_0, hi375_0⟩ := at_T26 HR0.out 0 p375 q375
                          cases e375
                          have qi375 : (0 < l0.length) = True := eq_true (by omega)
                          (try rw [show ((0 : Int)).toNat = 0 from rfl] at hx375_0)
                          (try rw [Addr.add_zero'] at hx375_0)
                          have HR375_0 := am hi375_0
                          have HC375_0 := am hl375_0
                          clear hi375_0 hl375_0
                          replace p375 := eq_true p375
                          replace q375 := eq_true q375
                          have p376 : 0 ≤ (0 : Int) := (by omega)
                          have q376 : 0 < (l0.length : Int) := of_decide_eq_true (by first | (with_reducible assumption) | assumption)
                          obtain ⟨ad376, A376_0, c376_0, e376, hx376_0, hl376_0, hi376_0⟩ := at_T26 HR0.out 0 p376 q376
                          obtain rfl : ad375 = ad376 := (by injection e376)
                          have qi376 : (0 < l0.length) = True := eq_true (by omega)
                          (try rw [show ((0 : Int)).toNat = 0 from rfl] at hx376_0)
                          (try rw [Addr.add_zero'] at hx376_0)
                          have HR376_0 := am hi376_0
                          have HC376_0 := am hl376_0
                          clear hi376_0 hl376_0
                          replace p376 := eq_true p376
                          replace q376 := eq_true q376
                          have ea_ := Option.some.inj (hx375_0.symm.trans hx376_0)
                          injection ea_ with ea_ en_ ec_
                          subst ea_
                          subst ec_
                          clear en_
                          have p377 : 0 ≤ (a2 : Int) := of_decide_eq_true (by first | (with_reducible assumption) | assumption)
                          have q377 : a2 < (l1.length : Int) := of_decide_eq_true (by first | (with_reducible assumption) | assumption)
                          obtain ⟨ad377, e377, hx377_0⟩ := Kd.at_int HR1.out a2 p377 q377
                          obtain rfl : ad374 = ad377 := (by injection e377)
                          replace p377 := eq_true p377
                          replace q377 := eq_true q377
                          have p378 : 0 ≤ ((rd l1 a2) : Int) := of_decide_eq_true (by first | (with_reducible assumption) | assumption)
                          have q378 : (rd l1 a2) < (((rd_T26 l0 0).f0).length : Int) := of_decide_eq_true (by first | (with_reducible assumption) | assumption)
                          obtain ⟨ad378, e378, hx378_0, hx378_1⟩ := at_T110 HR376_0.out (rd l1 a2) p378 q378
                          cases e378
                          replace p378 := eq_true p378
                          replace q378 := eq_true q378
                          go_wp2
                          repeat (go_quiet (fail); try go_wp2)
                          go_ret
                          exact ⟨by first | rfl | (simp; done) | (simp [*]; done), by repeat (first | exact Drawn0.refl _ | apply Drawn0.step)⟩
                      · rw [if_neg c12] at H
                        exact absurd H (by simp)
                    · rw [if_neg c11] at H
                      exact absurd H (by simp)
                  · rw [if_neg c10] at H
                    exact absurd H (by simp)
                · rw [if_neg c9] at H
                  exact absurd H (by simp)
              · rw [if_neg c8] at H
                exact absurd H (by simp)
      · rw [if_neg c6] at H
        exact absurd H (by simp)
    · rw [if_neg c5] at H
      exact absurd H (by simp)
mutual
def spec_l3Fault.j0 : Nat → List (S26) → List Int → Bool → Option (Int)
  | 0, _, _, _ => none
  | k + 1, x0, x1, x13 => if x13 = true then (some 2) else (spec_l3Fault.l0 k x0 x1 0)
def spec_l3Fault.l0 : Nat → List (S26) → List Int → Int → Option (Int)
  | 0, _, _, _ => none
  | k + 1, x0, x1, x5 => if x5 < (x1.length : Int) then (if 0 ≤ x5 then ((spec_l3Node.f x0 (rd x1 x5)).bind fun t381 => (if t381 = true then (spec_l3Fault.l0 k x0 x1 (wrap64 (x5 + 1))) else (some 3))) else (none)) else ((spec_l3End.f k x0 x1 0).bind fun t382 => (if t382 = (x1.length : Int) then (some 0) else (some 1)))
end
def spec_l3Fault.f (k : Nat) (l0 : List (S26)) (l1 : List Int) : Option (Int) := if (l1.length : Int) < 1 then (spec_l3Fault.j0 k l0 l1 true) else (spec_l3Fault.j0 k l0 l1 (decide ((l1.length : Int) > 24)))
set_option maxHeartbeats 8000000 in
set_option maxRecDepth 100000 in
theorem spec_l3Fault.calls (k : Nat) (A0 : Option Addr) (l0 : List (S26)) (A1 : Option Addr) (c1 : Nat) (l1 : List Int) (r : Int) (w : World) (hr0 : Kd.C k26 w A0 l0.length l0) (hr1 : Kd.C (Kd.int .i64) w A1 l1.length l1) (hc1 : l1.length ≤ c1) (h : spec_l3Fault.f k l0 l1 = some r) :
    Calls Tryd.prog 45 #[.pointer A0, .slice A1 l1.length c1] w fun e w' => e = .returned (.int .i64 r) ∧ Drawn0 w w' := by
  have HR0 := am hr0
  clear hr0
  have HR1 := am hr1
  have HC1 := am hc1
  clear hr1 hc1
  have H : (if (l1.length : Int) < 1 then (spec_l3Fault.j0 k l0 l1 true) else (spec_l3Fault.j0 k l0 l1 (decide ((l1.length : Int) > 24)))) = some r := h
  clear h
  have HC3 := am H
  clear H
  go_enter Tryd.func45, Tryd.ntmps45
  go_upto_region 1 with (fail)
  go_cut [13] (fun v13 wc => ∃ (kq : Nat) (x13_2 : Bool), v13 = .bool x13_2 ∧ Aside0 (spec_l3Fault.j0 kq l0 l1 x13_2 = some r) ∧ Aside0 (kq ≤ k) ∧ Drawn0 w wc)
  case first =>
    have H := HC3.out
    clear HC3
    by_cases c4 : (l1.length : Int) < 1
    · rw [if_pos c4] at H
      have c4b0 : decide ((l1.length : Int) < 1) = true := decide_eq_true c4
      have c4b1 : decide (l1.length < 1) = true := decide_eq_true (by omega)
      clear c4
      (first | rw [c4b0] | (simp only [i64_w, i32_w]; rw [c4b0]) | skip)
      have H' := am H
      clear H
      go_wp2
      go_meet
      case rel => exact ⟨_, (true), (by first | rfl | (simp; done) | (simp [*]; done)), H', ⟨by first | omega | exact Nat.le_refl _⟩, by repeat (first | exact Drawn0.refl _ | apply Drawn0.step)⟩
    · rw [if_neg c4] at H
      have c4b0 : decide ((l1.length : Int) < 1) = false := decide_eq_false c4
      have c4b1 : decide (l1.length < 1) = false := decide_eq_false (by omega)
      clear c4
      (first | rw [c4b0] | (simp only [i64_w, i32_w]; rw [c4b0]) | skip)
      have H' := am H
      clear H
      go_wp2
      go_meet
      case rel => exact ⟨_, (decide ((l1.length : Int) > 24)), (by first | rfl | (simp; done) | (simp [*]; done)), H', ⟨by first | omega | exact Nat.le_refl _⟩, by repeat (first | exact Drawn0.refl _ | apply Drawn0.step)⟩
  case rest =>
    clear HC3
    try clear c1; try clear p2; try clear c4; try clear c4b0; try clear c4b1
    obtain ⟨kq, x13_2, rfl, HA, HJ2, ⟨mc2, rfl⟩⟩ := hcut
    cases kq with
    | zero => exact absurd HA.out (by simp [spec_l3Fault.j0])
    | succ kj2 =>
      have H := HA.out
      clear HA
      simp only [spec_l3Fault.j0] at H
      by_cases c5 : x13_2 = true
      · subst c5
        have H1 : (some 2) = some r := by rw [if_pos rfl] at H; exact H
        clear H
        have H := H1
        clear H1
        obtain rfl := Option.some.inj H
        go_wp2
        go_ret
        exact ⟨by first | rfl | (simp; done) | (simp [*]; done), by repeat (first | exact Drawn0.refl _ | apply Drawn0.step)⟩
      · replace c5 := Bool.eq_false_iff.mpr c5
        subst c5
        have H1 : (spec_l3Fault.l0 kj2 l0 l1 0) = some r := by rw [if_neg (show ¬ (false = true) by decide)] at H; exact H
        clear H
        have H := H1
        clear H1
        have H' := am H
        clear H
        go_wp2
        go_loopg [5] kj2 (fun kq v5 w' => ∃ (x5_2 : Int), v5 = .int .i64 x5_2 ∧ Aside0 (spec_l3Fault.l0 kq l0 l1 x5_2 = some r) ∧ Aside0 (kq ≤ kj2) ∧ Drawn0 w w')
        case atStart => exact ⟨(0), (by first | rfl | (simp; done) | (simp [*]; done)), H', ⟨Nat.le_refl _⟩, by repeat (first | exact Drawn0.refl _ | apply Drawn0.step)⟩
        case round =>
          clear H'
          try clear c1; try clear c2; try clear p2; try clear c4; try clear c4b0; try clear c4b1; try clear c5; try clear p2
          obtain ⟨x5_2, rfl, HA, HK2, ⟨m2, rfl⟩⟩ := hrel
          cases gk with
          | zero => exact absurd HA.out (by simp [spec_l3Fault.l0])
          | succ k2 =>
            have H := HA.out
            clear HA
            simp only [spec_l3Fault.l0] at H
            by_cases c6 : x5_2 < (l1.length : Int)
            · rw [if_pos c6] at H
              have c6b0 : decide (x5_2 < (l1.length : Int)) = true := decide_eq_true c6
              clear c6
              by_cases c7 : 0 ≤ x5_2
              · rw [if_pos c7] at H
                have c7b0 : decide (0 ≤ x5_2) = true := decide_eq_true c7
                clear c7
                replace H := Option.bind_eq_some_iff.mp H
                obtain ⟨t381, A80, H⟩ := H
                replace H : (if t381 = true then (spec_l3Fault.l0 k2 l0 l1 (wrap64 (x5_2 + 1))) else (some 3)) = some r := H
                have A8 := am A80
                clear A80
                by_cases c9 : t381 = true
                · subst c9
                  have H1 : (spec_l3Fault.l0 k2 l0 l1 (wrap64 (x5_2 + 1))) = some r := by rw [if_pos rfl] at H; exact H
                  clear H
                  have H := H1
                  clear H1
                  have H' := am H
                  clear H
                  have p380 : 0 ≤ (x5_2 : Int) := of_decide_eq_true (by first | (with_reducible assumption) | assumption)
                  have q380 : x5_2 < (l1.length : Int) := of_decide_eq_true (by first | (with_reducible assumption) | assumption)
                  obtain ⟨ad380, e380, hx380_0⟩ := Kd.at_int HR1.out x5_2 p380 q380
                  cases e380
                  replace p380 := eq_true p380
                  replace q380 := eq_true q380
                  go_wp2_with (first | ((with_reducible refine gate_callee (f := 80) rfl ?_); refine goesL_ (some 25) rfl rfl Tryd.func80 (by kernel_rfl) rfl #[.pointer A0, .int .i64 (rd l1 x5_2)] rfl el ?_; (with_reducible refine (spec_l3Node.calls _ l0 (rd l1 x5_2) true _ ?side1 A8.out).mono ?_); (case side1 => exact cq HR0.out); rintro e w' ⟨rfl, ⟨nd, rfl⟩⟩; refine ⟨_, rfl, ?_⟩))
                  go_roundg k2
                  case measure => have := HJ2.out; have := HK2.out; omega
                  case rel => exact ⟨(wrap64 (x5_2 + 1)), (by first | rfl | (simp; done) | (simp [*]; done)), H', ⟨by have := HJ2.out; have := HK2.out; omega⟩, by repeat (first | exact Drawn0.refl _ | apply Drawn0.step)⟩
                · replace c9 := Bool.eq_false_iff.mpr c9
                  subst c9
                  have H1 : (some 3) = some r := by rw [if_neg (show ¬ (false = true) by decide)] at H; exact H
                  clear H
                  have H := H1
                  clear H1
                  obtain rfl := Option.some.inj H
                  have p380 : 0 ≤ (x5_2 : Int) := of_decide_eq_true (by first | (with_reducible assumption) | assumption)
                  have q380 : x5_2 < (l1.length : Int) := of_decide_eq_true (by first | (with_reducible assumption) | assumption)
                  obtain ⟨ad380, e380, hx380_0⟩ := Kd.at_int HR1.out x5_2 p380 q380
                  cases e380
                  replace p380 := eq_true p380
                  replace q380 := eq_true q380
                  go_wp2_with (first | ((with_reducible refine gate_callee (f := 80) rfl ?_); refine goesL_ (some 25) rfl rfl Tryd.func80 (by kernel_rfl) rfl #[.pointer A0, .int .i64 (rd l1 x5_2)] rfl el ?_; (with_reducible refine (spec_l3Node.calls _ l0 (rd l1 x5_2) false _ ?side1 A8.out).mono ?_); (case side1 => exact cq HR0.out); rintro e w' ⟨rfl, ⟨nd, rfl⟩⟩; refine ⟨_, rfl, ?_⟩))
                  go_ret
                  exact ⟨by first | rfl | (simp; done) | (simp [*]; done), by repeat (first | exact Drawn0.refl _ | apply Drawn0.step)⟩
              · rw [if_neg c7] at H
                exact absurd H (by simp)
            · rw [if_neg c6] at H
              have c6b0 : decide (x5_2 < (l1.length : Int)) = false := decide_eq_false c6
              clear c6
              replace H := Option.bind_eq_some_iff.mp H
              obtain ⟨t382, A100, H⟩ := H
              replace H : (if t382 = (l1.length : Int) then (some 0) else (some 1)) = some r := H
              have A10 := am A100
              clear A100
              by_cases c11 : t382 = (l1.length : Int)
              · rw [if_pos c11] at H
                have c11b0 : (t382 == (l1.length : Int)) = true := beq_iff_eq.mpr c11
                have c11b1 : (t382 != (l1.length : Int)) = false := bne_eq_false_iff_eq.mpr c11
                clear c11
                obtain rfl := Option.some.inj H
                go_wp2_with (first | ((with_reducible refine gate_callee (f := 81) rfl ?_); refine goesL_ (some 29) rfl rfl Tryd.func81 (by kernel_rfl) rfl #[.pointer A0, .slice A1 l1.length c1, .int .i64 0] rfl el ?_; (with_reducible refine (spec_l3End.calls k2 _ l0 _ _ l1 0 t382 _ ?side1 ?side2 ?side3 A10.out).mono ?_); (case side1 => exact cq HR0.out); (case side2 => exact cq HR1.out); (case side3 => exact HC1.out); rintro e w' ⟨rfl, ⟨nd, rfl⟩⟩; refine ⟨_, rfl, ?_⟩))
                go_ret
                exact ⟨by first | rfl | (simp; done) | (simp [*]; done), by repeat (first | exact Drawn0.refl _ | apply Drawn0.step)⟩
              · rw [if_neg c11] at H
                have c11b0 : (t382 == (l1.length : Int)) = false := beq_eq_false_iff_ne.mpr c11
                have c11b1 : (t382 != (l1.length : Int)) = true := bne_iff_ne.mpr c11
                obtain rfl := Option.some.inj H
                go_wp2_with (first | ((with_reducible refine gate_callee (f := 81) rfl ?_); refine goesL_ (some 29) rfl rfl Tryd.func81 (by kernel_rfl) rfl #[.pointer A0, .slice A1 l1.length c1, .int .i64 0] rfl el ?_; (with_reducible refine (spec_l3End.calls k2 _ l0 _ _ l1 0 t382 _ ?side1 ?side2 ?side3 A10.out).mono ?_); (case side1 => exact cq HR0.out); (case side2 => exact cq HR1.out); (case side3 => exact HC1.out); rintro e w' ⟨rfl, ⟨nd, rfl⟩⟩; refine ⟨_, rfl, ?_⟩))
                go_ret
                exact ⟨by first | rfl | (simp; done) | (simp [*]; done), by repeat (first | exact Drawn0.refl _ | apply Drawn0.step)⟩
def spec_TermFault.f (k : Nat) (l0_0 : List (S110)) (l1 : List Int) : Option (Int) := (spec_SignatureFault.f k l0_0).bind fun t384 => (if t384 = 0 then ((spec_l3Fault.f k [(⟨l0_0⟩ : S26)] l1).bind fun t385 => (some t385)) else (some t384))
set_option maxHeartbeats 8000000 in
set_option maxRecDepth 100000 in
theorem spec_TermFault.calls (k : Nat) (A0_0 : Option Addr) (c0_0 : Nat) (l0_0 : List (S110)) (A1 : Option Addr) (c1 : Nat) (l1 : List Int) (r : Int) (w : World) (hr0_0 : Kd.C k110 w A0_0 l0_0.length l0_0) (hc0_0 : l0_0.length ≤ c0_0) (hr1 : Kd.C (Kd.int .i64) w A1 l1.length l1) (hc1 : l1.length ≤ c1) (h : spec_TermFault.f k l0_0 l1 = some r) :
    Calls Tryd.prog 9 #[.agg #[.slice A0_0 l0_0.length c0_0], .slice A1 l1.length c1] w fun e w' => e = .returned (.int .i64 r) ∧ Below w.heap.size w w' := by
  have hu26 := Tryd.underlying26
  have HR0_0 := am hr0_0
  have HC0_0 := am hc0_0
  clear hr0_0 hc0_0
  have HR1 := am hr1
  have HC1 := am hc1
  clear hr1 hc1
  have HB := am (Below.refl w.heap.size w)
  have H : ((spec_SignatureFault.f k l0_0).bind fun t384 => (if t384 = 0 then ((spec_l3Fault.f k [(⟨l0_0⟩ : S26)] l1).bind fun t385 => (some t385)) else (some t384))) = some r := h
  clear h
  replace H := Option.bind_eq_some_iff.mp H
  obtain ⟨t384, A30, H⟩ := H
  replace H : (if t384 = 0 then ((spec_l3Fault.f k [(⟨l0_0⟩ : S26)] l1).bind fun t385 => (some t385)) else (some t384)) = some r := H
  have A3 := am A30
  clear A30
  by_cases c4 : t384 = 0
  · rw [if_pos c4] at H
    have c4b0 : (t384 == 0) = true := beq_iff_eq.mpr c4
    have c4b1 : (t384 != 0) = false := bne_eq_false_iff_eq.mpr c4
    clear c4
    replace H := Option.bind_eq_some_iff.mp H
    obtain ⟨t385, A50, H⟩ := H
    replace H : (some t385) = some r := H
    have A5 := am A50
    clear A50
    obtain rfl := Option.some.inj H
    go_enter Tryd.func9, Tryd.ntmps9
    go_wp2_with (first | ((with_reducible refine gate_dst (N := 2) rfl ?_); refine box_event ?hg (N := 2) ?hd (cs := #[.slice A0_0 l0_0.length c0_0]) (t := 26) ?hr ?_; (case hd => rfl); (case hg => rfl); (case hr => first | (go_simp; done) | (go_simp; rfl)); intro gb383 hg w6 hbox hb; have n0_ := am (below_step (hq HB.out) hb); have n1_ := am (hbox); have n2_ := am (bz hg (hq HB.out)); have n3_ := n2_; clear HB; revert n0_ n1_ n2_ n3_; intro HB BK383 GW383 GE383; clear hb hbox hg; have hcz7_0 : w6.cell? ⟨gb383, 0, none⟩ = some (.slice A0_0 l0_0.length c0_0) := (blk_cell BK383.out 0).trans rfl; have hfz7_0 := blk_frozen BK383.out 0) | ((with_reducible refine gate_callee (f := 44) rfl ?_); refine goesL_ (some 7) rfl rfl Tryd.func44 (by kernel_rfl) rfl #[.agg #[.slice A0_0 l0_0.length c0_0]] rfl el ?_; (with_reducible refine (spec_SignatureFault.calls k _ _ l0_0 t384 _ ?side1 ?side2 A3.out).mono ?_); (case side1 => exact cq (Kd.C_below HR0_0.out HB.out)); (case side2 => exact HC0_0.out); rintro e w8 ⟨rfl, hb⟩; refine ⟨_, rfl, ?_⟩; have n0_ := am (blk_below (bq BK383.out) hb); have n1_ := am (below_step (hs HB.out) hb); clear BK383 HB; revert n0_ n1_; intro BK383 HB; (try clear hb); (try clear hb2); (try clear hgw); (try clear hk); (try clear hi)) | ((with_reducible refine gate_callee (f := 45) rfl ?_); refine goesL_ (some 12) rfl rfl Tryd.func45 (by kernel_rfl) rfl #[.pointer (some ⟨gb383, 0, none⟩), .slice A1 l1.length c1] rfl el ?_; (with_reducible refine (spec_l3Fault.calls k _ [(⟨l0_0⟩ : S26)] _ _ l1 t385 _ ?side1 ?side2 ?side3 A5.out).mono ?_); (case side1 => exact k26_box (bq BK383.out) (cq (Kd.C_below HR0_0.out HB.out)) (by exact HC0_0.out)); (case side2 => exact cq (Kd.C_below HR1.out HB.out)); (case side3 => exact HC1.out); rintro e w' ⟨rfl, ⟨nd, rfl⟩⟩; refine ⟨_, rfl, ?_⟩))
    go_ret
    exact ⟨by first | rfl | (simp [errW_none, errW_some] <;> rfl) | (simp [*, errW_none, errW_some] <;> rfl), by exact hs HB.out⟩
  · rw [if_neg c4] at H
    have c4b0 : (t384 == 0) = false := beq_eq_false_iff_ne.mpr c4
    have c4b1 : (t384 != 0) = true := bne_iff_ne.mpr c4
    obtain rfl := Option.some.inj H
    go_enter Tryd.func9, Tryd.ntmps9
    go_wp2_with (first | ((with_reducible refine gate_dst (N := 2) rfl ?_); refine box_event ?hg (N := 2) ?hd (cs := #[.slice A0_0 l0_0.length c0_0]) (t := 26) ?hr ?_; (case hd => rfl); (case hg => rfl); (case hr => first | (go_simp; done) | (go_simp; rfl)); intro gb383 hg w9 hbox hb; have n0_ := am (below_step (hq HB.out) hb); have n1_ := am (hbox); have n2_ := am (bz hg (hq HB.out)); have n3_ := n2_; clear HB; revert n0_ n1_ n2_ n3_; intro HB BK383 GW383 GE383; clear hb hbox hg; have hcz10_0 : w9.cell? ⟨gb383, 0, none⟩ = some (.slice A0_0 l0_0.length c0_0) := (blk_cell BK383.out 0).trans rfl; have hfz10_0 := blk_frozen BK383.out 0) | ((with_reducible refine gate_callee (f := 44) rfl ?_); refine goesL_ (some 7) rfl rfl Tryd.func44 (by kernel_rfl) rfl #[.agg #[.slice A0_0 l0_0.length c0_0]] rfl el ?_; (with_reducible refine (spec_SignatureFault.calls k _ _ l0_0 t384 _ ?side1 ?side2 A3.out).mono ?_); (case side1 => exact cq (Kd.C_below HR0_0.out HB.out)); (case side2 => exact HC0_0.out); rintro e w11 ⟨rfl, hb⟩; refine ⟨_, rfl, ?_⟩; have n0_ := am (blk_below (bq BK383.out) hb); have n1_ := am (below_step (hs HB.out) hb); clear BK383 HB; revert n0_ n1_; intro BK383 HB; (try clear hb); (try clear hb2); (try clear hgw); (try clear hk); (try clear hi)))
    go_ret
    exact ⟨by first | rfl | (simp [errW_none, errW_some] <;> rfl) | (simp [*, errW_none, errW_some] <;> rfl), by exact hs HB.out⟩
end Go.Proofs.YtcanokiehjjbgaaDoor.P
