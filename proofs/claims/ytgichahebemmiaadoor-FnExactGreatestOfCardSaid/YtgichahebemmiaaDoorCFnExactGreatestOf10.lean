/- A part of the proof of the law FnExactGreatestOf. -/
import Derived.Laws.StructEq
import Derived.Test.YtgichahebemmiaaDoorCFnExactGreatestOf0
import Derived.Test.YtgichahebemmiaaDoorCFnExactGreatestOf1
import Derived.Test.YtgichahebemmiaaDoorCFnExactGreatestOf2
import Derived.Test.YtgichahebemmiaaDoorCFnExactGreatestOf3
import Derived.Test.YtgichahebemmiaaDoorCFnExactGreatestOf4
import Derived.Test.YtgichahebemmiaaDoorCFnExactGreatestOf5
import Derived.Test.YtgichahebemmiaaDoorCFnExactGreatestOf6
import Derived.Test.YtgichahebemmiaaDoorCFnExactGreatestOf7
import Derived.Test.YtgichahebemmiaaDoorCFnExactGreatestOf8
import Derived.Test.YtgichahebemmiaaDoorCFnExactGreatestOf9
import Derived.Test.YtgichahebemmiaaDoorCFnExactGreatestOf15
namespace Go.Proofs.YtgichahebemmiaaDoor.P
open Go.RowKit Go.Proofs.YtgichahebemmiaaDoorW.PrintWords Go.Proofs.YtgichahebemmiaaDoorW.PrintLast Go.Proofs.YtgichahebemmiaaDoorW.PrintMore
attribute [local go_sem] Ae6 Ae5 Af7 Af8 Ad9 Ad8 Ae4 Ae3   -- for this text's walks alone
set_option linter.unusedVariables false
set_option linter.unusedSimpArgs false
def slices_IndexFunc_int64_int64_impl_hasVars_1.l0 : Nat → List Int → Int → Int → Option (Int)
 | 0, _, _, _ => none
 | k + 1, x0, x7, x8 => if x8 < x7 then (if 0 ≤ x8 then (if x8 < (x0.length : Int) then ((impl_hasVars_1.f (rd x0 x8)).bind fun t415 => (if t415 = true then (some x8) else (slices_IndexFunc_int64_int64_impl_hasVars_1.l0 k x0 x7 (wrap64 (x8 + 1))))) else (none)) else (none)) else (some (-1))
def slices_IndexFunc_int64_int64_impl_hasVars_1.f (k : Nat) (l0 : List Int)  : Option (Int) := slices_IndexFunc_int64_int64_impl_hasVars_1.l0 k l0 (l0.length : Int) 0
set_option maxHeartbeats 8000000 in
set_option maxRecDepth 100000 in
theorem slices_IndexFunc_int64_int64_impl_hasVars_1.calls (k : Nat) (A0 : Option Addr) (c0 : Nat) (l0 : List Int)  (r : Int) (w : World) (hr0 : Kd.C (Kd.int .i64) w A0 l0.length l0) (hc0 : l0.length ≤ c0) (h : slices_IndexFunc_int64_int64_impl_hasVars_1.f k l0 = some r) :
  Calls Tryd.prog 63 #[.slice A0 l0.length c0, .func (.func 67) #[] #[]] w fun e w' => e = .returned (.int .i64 r) ∧ Below w.heap.size w w' := by
 have HR0 := am hr0
 have HC0 := am hc0
 clear hr0 hc0
 have HB := am (Below.refl w.heap.size w)
 have H : (slices_IndexFunc_int64_int64_impl_hasVars_1.l0 k l0 (l0.length : Int) 0) = some r := h
 clear h
 have H' := am H
 clear H
 go_enter Tryd.func63, Tryd.ntmps63
 go_wp2
 go_loopg [8] k (fun kq v8 w' => ∃ (x8_1 : Int), v8 = .int .i64 x8_1 ∧ Aside0 (slices_IndexFunc_int64_int64_impl_hasVars_1.l0 kq l0 (l0.length : Int) x8_1 = some r) ∧ Aside0 (kq ≤ k) ∧ Aside0 (Below w.heap.size w w'))
 case atStart => exact ⟨(0), (by first | rfl | (simp; done) | (simp [*]; done)), H', ⟨Nat.le_refl _⟩, ⟨by exact hq HB.out⟩⟩
 case round =>
  clear H'
  try clear p2
  obtain ⟨x8_1, rfl, HA, HK1, HB⟩ := hrel
  cases gk with
  | zero => exact absurd HA.out (by simp [slices_IndexFunc_int64_int64_impl_hasVars_1.l0])
  | succ k1 =>
   have H := HA.out
   clear HA
   simp only [slices_IndexFunc_int64_int64_impl_hasVars_1.l0] at H
   by_cases c3 : x8_1 < (l0.length : Int)
   ·rw [if_pos c3] at H
    have c3b0 : decide (x8_1 < (l0.length : Int)) = true := decide_eq_true c3
    clear c3
    by_cases c4 : 0 ≤ x8_1
    ·rw [if_pos c4] at H
     have c4b0 : decide (0 ≤ x8_1) = true := decide_eq_true c4
     clear c4
     by_cases c5 : x8_1 < (l0.length : Int)
     ·rw [if_pos c5] at H
      have c5b0 : decide (x8_1 < (l0.length : Int)) = true := decide_eq_true c5
      clear c5
      replace H := Option.bind_eq_some_iff.mp H
      obtain ⟨t415, A60, H⟩ := H
      replace H : (if t415 = true then (some x8_1) else (slices_IndexFunc_int64_int64_impl_hasVars_1.l0 k1 l0 (l0.length : Int) (wrap64 (x8_1 + 1)))) = some r := H
      have A6 := am A60
      clear A60
      by_cases c7 : t415 = true
      ·subst c7
       have H1 : (some x8_1) = some r := by rw [if_pos rfl] at H; exact H
       clear H
       have H := H1
       clear H1
       obtain rfl := Option.some.inj H
       have p414 : 0 ≤ (x8_1 : Int) := of_decide_eq_true (by first | (with_reducible assumption) | assumption)
       have q414 : x8_1 < (l0.length : Int) := of_decide_eq_true (by first | (with_reducible assumption) | assumption)
       obtain ⟨ad414, e414, hx414_0⟩ := Kd.at_int HR0.out x8_1 p414 q414
       cases e414
       replace hx414_0 := (HB.out.cell (World.block_lt_of_cell? w _ hx414_0)).trans hx414_0
       replace p414 := eq_true p414
       replace q414 := eq_true q414
       go_wp2_with (first | ((first | ((with_reducible refine Aa4 (f := 67) rfl ?_); refine Ab8 (some 16) rfl rfl Tryd.func67 (by kernel_rfl) rfl #[.int .i64 (rd l0 x8_1)] rfl el ?_) | ((with_reducible refine Af1 _ rfl ?_); refine Al9 (some 16) rfl rfl Tryd.func67 (by kernel_rfl) rfl #[.int .i64 (rd l0 x8_1)] rfl rfl (by first | rfl | (simp <;> first | rfl | exact ⟨rfl, rfl⟩ | exact ⟨rfl, rfl, rfl⟩) | ((try simp only [List.map_toArray, List.map_cons, List.map_nil]); first | done | rfl | (simp only [List.length_drop, List.length_take]; rfl))) ?_)); (with_reducible refine (impl_hasVars_1.calls (rd l0 x8_1) true _ A6.out).mono ?_); rintro e w' ⟨rfl, ⟨nd, rfl⟩⟩; refine ⟨_, rfl, ?_⟩))
       go_ret
       exact ⟨by first | rfl | (simp [Aa0, Aa1] <;> rfl) | (simp [*, Aa0, Aa1] <;> rfl), by exact hq HB.out⟩
      ·replace c7 := Bool.eq_false_iff.mpr c7
       subst c7
       have H1 : (slices_IndexFunc_int64_int64_impl_hasVars_1.l0 k1 l0 (l0.length : Int) (wrap64 (x8_1 + 1))) = some r := by rw [if_neg (show ¬ (false = true) by decide)] at H; exact H
       clear H
       have H := H1
       clear H1
       have H' := am H
       clear H
       have p414 : 0 ≤ (x8_1 : Int) := of_decide_eq_true (by first | (with_reducible assumption) | assumption)
       have q414 : x8_1 < (l0.length : Int) := of_decide_eq_true (by first | (with_reducible assumption) | assumption)
       obtain ⟨ad414, e414, hx414_0⟩ := Kd.at_int HR0.out x8_1 p414 q414
       cases e414
       replace hx414_0 := (HB.out.cell (World.block_lt_of_cell? w _ hx414_0)).trans hx414_0
       replace p414 := eq_true p414
       replace q414 := eq_true q414
       go_wp2_with (first | ((first | ((with_reducible refine Aa4 (f := 67) rfl ?_); refine Ab8 (some 16) rfl rfl Tryd.func67 (by kernel_rfl) rfl #[.int .i64 (rd l0 x8_1)] rfl el ?_) | ((with_reducible refine Af1 _ rfl ?_); refine Al9 (some 16) rfl rfl Tryd.func67 (by kernel_rfl) rfl #[.int .i64 (rd l0 x8_1)] rfl rfl (by first | rfl | (simp <;> first | rfl | exact ⟨rfl, rfl⟩ | exact ⟨rfl, rfl, rfl⟩) | ((try simp only [List.map_toArray, List.map_cons, List.map_nil]); first | done | rfl | (simp only [List.length_drop, List.length_take]; rfl))) ?_)); (with_reducible refine (impl_hasVars_1.calls (rd l0 x8_1) false _ A6.out).mono ?_); rintro e w' ⟨rfl, ⟨nd, rfl⟩⟩; refine ⟨_, rfl, ?_⟩))
       go_roundg k1
       case measure => have := HK1.out; omega
       case rel => exact ⟨(wrap64 (x8_1 + 1)), (by first | rfl | (simp; done) | (simp [*]; done)), H', ⟨by have := HK1.out; omega⟩, ⟨by exact hq HB.out⟩⟩
     ·rw [if_neg c5] at H
      exact absurd H (by simp)
    ·rw [if_neg c4] at H
     exact absurd H (by simp)
   ·rw [if_neg c3] at H
    have c3b0 : decide (x8_1 < (l0.length : Int)) = false := decide_eq_false c3
    clear c3
    obtain rfl := Option.some.inj H
    go_wp2
    go_ret
    exact ⟨by first | rfl | (simp [Aa0, Aa1] <;> rfl) | (simp [*, Aa0, Aa1] <;> rfl), by exact hq HB.out⟩
def slices_ContainsFunc_int64_int64_impl_hasVars_1.f (k : Nat) (l0 : List Int)  : Option (Bool) := (slices_IndexFunc_int64_int64_impl_hasVars_1.f k l0).bind fun t416 => (some (decide (t416 ≥ 0)))
set_option maxHeartbeats 8000000 in
set_option maxRecDepth 100000 in
theorem slices_ContainsFunc_int64_int64_impl_hasVars_1.calls (k : Nat) (A0 : Option Addr) (c0 : Nat) (l0 : List Int)  (r : Bool) (w : World) (hr0 : Kd.C (Kd.int .i64) w A0 l0.length l0) (hc0 : l0.length ≤ c0) (h : slices_ContainsFunc_int64_int64_impl_hasVars_1.f k l0 = some r) :
  Calls Tryd.prog 42 #[.slice A0 l0.length c0, .func (.func 67) #[] #[]] w fun e w' => e = .returned (.bool r) ∧ Below w.heap.size w w' := by
 have HR0 := am hr0
 have HC0 := am hc0
 clear hr0 hc0
 have HB := am (Below.refl w.heap.size w)
 have H : ((slices_IndexFunc_int64_int64_impl_hasVars_1.f k l0).bind fun t416 => (some (decide (t416 ≥ 0)))) = some r := h
 clear h
 replace H := Option.bind_eq_some_iff.mp H
 obtain ⟨t416, A30, H⟩ := H
 replace H : (some (decide (t416 ≥ 0))) = some r := H
 have A3 := am A30
 clear A30
 obtain rfl := Option.some.inj H
 go_enter Tryd.func42, Tryd.ntmps42
 go_wp2_with (first | ((with_reducible refine Aa4 (f := 63) rfl ?_); refine Ab8 (some 7) rfl rfl Tryd.func63 (by kernel_rfl) rfl #[.slice A0 l0.length c0, .func (.func 67) #[] #[]] rfl el ?_; (with_reducible refine (slices_IndexFunc_int64_int64_impl_hasVars_1.calls k _ _ l0  t416 _ ?side1 ?side2 A3.out).mono ?_); (case side1 => exact cq HR0.out); (case side2 => exact HC0.out); rintro e w4 ⟨rfl, hb⟩; refine ⟨_, rfl, ?_⟩; have n0_ := am (Aa2 (hq HB.out) hb); clear HB; revert n0_; intro HB; (try clear hb); (try clear hb2); (try clear hgw); (try clear hk); (try clear hi)))
 go_ret
 exact ⟨by first | rfl | (simp [Aa0, Aa1] <;> rfl) | (simp [*, Aa0, Aa1] <;> rfl), by exact hq HB.out⟩
def impl_hasVars.f (k : Nat) (l0 : List Int) : Option (Bool) := (slices_ContainsFunc_int64_int64_impl_hasVars_1.f k l0).bind fun t417 => (some t417)
set_option maxHeartbeats 8000000 in
set_option maxRecDepth 100000 in
theorem impl_hasVars.calls (k : Nat) (A0 : Option Addr) (c0 : Nat) (l0 : List Int) (r : Bool) (w : World) (hr0 : Kd.C (Kd.int .i64) w A0 l0.length l0) (hc0 : l0.length ≤ c0) (h : impl_hasVars.f k l0 = some r) :
  Calls Tryd.prog 53 #[.slice A0 l0.length c0] w fun e w' => e = .returned (.bool r) ∧ Below w.heap.size w w' := by
 have HR0 := am hr0
 have HC0 := am hc0
 clear hr0 hc0
 have HB := am (Below.refl w.heap.size w)
 have H : ((slices_ContainsFunc_int64_int64_impl_hasVars_1.f k l0).bind fun t417 => (some t417)) = some r := h
 clear h
 replace H := Option.bind_eq_some_iff.mp H
 obtain ⟨t417, A20, H⟩ := H
 replace H : (some t417) = some r := H
 have A2 := am A20
 clear A20
 obtain rfl := Option.some.inj H
 go_enter Tryd.func53, Tryd.ntmps53
 go_wp2_with (first | ((with_reducible refine Aa4 (f := 42) rfl ?_); refine Ab8 (some 4) rfl rfl Tryd.func42 (by kernel_rfl) rfl #[.slice A0 l0.length c0, .func (.func 67) #[] #[]] rfl el ?_; (with_reducible refine (slices_ContainsFunc_int64_int64_impl_hasVars_1.calls k _ _ l0  t417 _ ?side1 ?side2 A2.out).mono ?_); (case side1 => exact cq HR0.out); (case side2 => exact HC0.out); rintro e w3 ⟨rfl, hb⟩; refine ⟨_, rfl, ?_⟩; have n0_ := am (Aa2 (hq HB.out) hb); clear HB; revert n0_; intro HB; (try clear hb); (try clear hb2); (try clear hgw); (try clear hk); (try clear hi)))
 go_ret
 exact ⟨by first | rfl | (simp [Aa0, Aa1] <;> rfl) | (simp [*, Aa0, Aa1] <;> rfl), by exact hq HB.out⟩
def impl_sortFault.l0 : Nat → List (List Int) → Int → Int → List (S65) → Option (Int)
 | 0, _, _, _, _ => none
 | k + 1, x20, x21, x22, x419000 => if x22 < x21 then (if 0 ≤ x22 then (if x22 < (x20.length : Int) then ((impl_TermFault.f k x419000 (Ac9 x20 x22)).bind fun t421 => (if t421 = 0 then ((impl_hasVars.f k (Ac9 x20 x22)).bind fun t422 => (if t422 = true then (some 1) else (impl_sortFault.l0 k x20 x21 (wrap64 (x22 + 1)) x419000))) else (some t421))) else (none)) else (none)) else (some 0)
def impl_sortFault.f (k : Nat) (l0_0 : List (S65)) (l1 : List Int) (l2 : List (List Int)) : Option (Int) := (impl_OrderFault.f k l0_0 l1).bind fun t419 => (if t419 = 0 then (if (l2.length : Int) > 12 then (some 2) else (impl_sortFault.l0 k l2 (l2.length : Int) 0 l0_0)) else (some t419))
set_option maxHeartbeats 8000000 in
set_option maxRecDepth 100000 in
theorem impl_sortFault.calls (k : Nat) (A0_0 : Option Addr) (c0_0 : Nat) (l0_0 : List (S65)) (A1 : Option Addr) (c1 : Nat) (l1 : List Int) (A2 : Option Addr) (c2 : Nat) (l2 : List (List Int)) (r : Int) (w : World) (hr0_0 : Kd.C k65 w A0_0 l0_0.length l0_0) (hc0_0 : l0_0.length ≤ c0_0) (hr1 : Kd.C (Kd.int .i64) w A1 l1.length l1) (hc1 : l1.length ≤ c1) (hr2 : Kd.C (Kd.slice 2 (Kd.int .i64)) w A2 l2.length l2) (hc2 : l2.length ≤ c2) (h : impl_sortFault.f k l0_0 l1 l2 = some r) :
  Calls Tryd.prog 31 #[.agg #[.slice A0_0 l0_0.length c0_0], .slice A1 l1.length c1, .slice A2 l2.length c2] w fun e w' => e = .returned (.int .i64 r) ∧ Below w.heap.size w w' := by
 have hu32 := Tryd.underlying32
 have HR0_0 := am hr0_0
 have HC0_0 := am hc0_0
 clear hr0_0 hc0_0
 have HR1 := am hr1
 have HC1 := am hc1
 clear hr1 hc1
 have HR2 := am hr2
 have HC2 := am hc2
 clear hr2 hc2
 have HB := am (Below.refl w.heap.size w)
 have H : ((impl_OrderFault.f k l0_0 l1).bind fun t419 => (if t419 = 0 then (if (l2.length : Int) > 12 then (some 2) else (impl_sortFault.l0 k l2 (l2.length : Int) 0 l0_0)) else (some t419))) = some r := h
 clear h
 replace H := Option.bind_eq_some_iff.mp H
 obtain ⟨t419, A40, H⟩ := H
 replace H : (if t419 = 0 then (if (l2.length : Int) > 12 then (some 2) else (impl_sortFault.l0 k l2 (l2.length : Int) 0 l0_0)) else (some t419)) = some r := H
 have A4 := am A40
 clear A40
 by_cases c5 : t419 = 0
 ·rw [if_pos c5] at H
  have c5b0 : (t419 == 0) = true := beq_iff_eq.mpr c5
  have c5b1 : (t419 != 0) = false := bne_eq_false_iff_eq.mpr c5
  clear c5
  by_cases c6 : (l2.length : Int) > 12
  ·rw [if_pos c6] at H
   have c6b0 : decide (12 < (l2.length : Int)) = true := decide_eq_true c6
   have c6b1 : decide (12 < l2.length) = true := decide_eq_true (by omega)
   clear c6
   obtain rfl := Option.some.inj H
   go_enter Tryd.func31, Tryd.ntmps31
   go_wp2_with (first | ((with_reducible refine Ab6 (N := 3) rfl ?_); refine Ab5 ?hg (N := 3) ?hd (cs := #[.slice A0_0 l0_0.length c0_0]) (t := 32) ?hr ?_; (case hd => rfl); (case hg => rfl); (case hr => first | (go_simp; done) | (go_simp; rfl)); intro gb418 hg w7 hbox hb; have n0_ := am (Aa2 (hq HB.out) hb); have n1_ := am (hbox); have n2_ := am (bz hg (hq HB.out)); have n3_ := n2_; clear HB; revert n0_ n1_ n2_ n3_; intro HB BK418 GW418 GE418; clear hb hbox hg; have hcz8_0 : w7.cell? ⟨gb418, 0, none⟩ = some (.slice A0_0 l0_0.length c0_0) := (Ab1 BK418.out 0).trans rfl; have hfz8_0 := Aa5 BK418.out 0) | ((with_reducible refine Aa4 (f := 24) rfl ?_); refine Ab8 (some 13) rfl rfl Tryd.func24 (by kernel_rfl) rfl #[.agg #[.slice A0_0 l0_0.length c0_0], .slice A1 l1.length c1] rfl el ?_; (with_reducible refine (impl_OrderFault.calls k _ _ l0_0 _ _ l1 t419 _ ?side1 ?side2 ?side3 ?side4 A4.out).mono ?_); (case side1 => exact cq (Kd.C_below HR0_0.out HB.out)); (case side2 => exact HC0_0.out); (case side3 => exact cq (Kd.C_below HR1.out HB.out)); (case side4 => exact HC1.out); rintro e w9 ⟨rfl, hb⟩; refine ⟨_, rfl, ?_⟩; have n0_ := am (Aa7 (bq BK418.out) hb); have n1_ := am (Aa2 (hs HB.out) hb); clear BK418 HB; revert n0_ n1_; intro BK418 HB; (try clear hb); (try clear hb2); (try clear hgw); (try clear hk); (try clear hi)))
   go_ret
   exact ⟨by first | rfl | (simp [Aa0, Aa1] <;> rfl) | (simp [*, Aa0, Aa1] <;> rfl), by exact hs HB.out⟩
  ·rw [if_neg c6] at H
   have c6b0 : decide (12 < (l2.length : Int)) = false := decide_eq_false c6
   have c6b1 : decide (12 < l2.length) = false := decide_eq_false (by omega)
   clear c6
   have H' := am H
   clear H
   go_enter Tryd.func31, Tryd.ntmps31
   go_wp2_with (first | ((with_reducible refine Ab6 (N := 3) rfl ?_); refine Ab5 ?hg (N := 3) ?hd (cs := #[.slice A0_0 l0_0.length c0_0]) (t := 32) ?hr ?_; (case hd => rfl); (case hg => rfl); (case hr => first | (go_simp; done) | (go_simp; rfl)); intro gb418 hg w10 hbox hb; have n0_ := am (Aa2 (hq HB.out) hb); have n1_ := am (hbox); have n2_ := am (bz hg (hq HB.out)); have n3_ := n2_; clear HB; revert n0_ n1_ n2_ n3_; intro HB BK418 GW418 GE418; clear hb hbox hg; have hcz11_0 : w10.cell? ⟨gb418, 0, none⟩ = some (.slice A0_0 l0_0.length c0_0) := (Ab1 BK418.out 0).trans rfl; have hfz11_0 := Aa5 BK418.out 0) | ((with_reducible refine Aa4 (f := 24) rfl ?_); refine Ab8 (some 13) rfl rfl Tryd.func24 (by kernel_rfl) rfl #[.agg #[.slice A0_0 l0_0.length c0_0], .slice A1 l1.length c1] rfl el ?_; (with_reducible refine (impl_OrderFault.calls k _ _ l0_0 _ _ l1 t419 _ ?side1 ?side2 ?side3 ?side4 A4.out).mono ?_); (case side1 => exact cq (Kd.C_below HR0_0.out HB.out)); (case side2 => exact HC0_0.out); (case side3 => exact cq (Kd.C_below HR1.out HB.out)); (case side4 => exact HC1.out); rintro e w12 ⟨rfl, hb⟩; refine ⟨_, rfl, ?_⟩; have n0_ := am (Aa7 (bq BK418.out) hb); have n1_ := am (Aa2 (hs HB.out) hb); clear BK418 HB; revert n0_ n1_; intro BK418 HB; (try clear hb); (try clear hb2); (try clear hgw); (try clear hk); (try clear hi)))
   go_loopg [22] k (fun kq v22 w' => ∃ (x22_1 : Int), v22 = .int .i64 x22_1 ∧ Aside0 (impl_sortFault.l0 kq l2 (l2.length : Int) x22_1 l0_0 = some r) ∧ Aside0 (kq ≤ k) ∧ Aside0 (w'.heap[gb418]? = some (.cells #[(.slice A0_0 l0_0.length c0_0)] 32 (0, 0))) ∧ Aside0 (Below w.heap.size w w'))
   case atStart => exact ⟨(0), (by first | rfl | (simp; done) | (simp [*]; done)), H', ⟨Nat.le_refl _⟩, ⟨by refine bq ?_; exact BK418.out⟩, ⟨by exact hs HB.out⟩⟩
   case round =>
    clear H'
    try clear c1; try clear c2; try clear p2; try clear c3; try clear c5; try clear c5b0; try clear c5b1; try clear c6; try clear c6b0; try clear c6b1; try clear hcz11_0; try clear hcz8_0; try clear hfz11_0; try clear hfz8_0
    obtain ⟨x22_1, rfl, HA, HK1, BK418, HB⟩ := hrel
    cases gk with
    | zero => exact absurd HA.out (by simp [impl_sortFault.l0])
    | succ k1 =>
     have H := HA.out
     clear HA
     simp only [impl_sortFault.l0] at H
     by_cases c13 : x22_1 < (l2.length : Int)
     ·rw [if_pos c13] at H
      have c13b0 : decide (x22_1 < (l2.length : Int)) = true := decide_eq_true c13
      clear c13
      by_cases c14 : 0 ≤ x22_1
      ·rw [if_pos c14] at H
       have c14b0 : decide (0 ≤ x22_1) = true := decide_eq_true c14
       clear c14
       by_cases c15 : x22_1 < (l2.length : Int)
       ·rw [if_pos c15] at H
        have c15b0 : decide (x22_1 < (l2.length : Int)) = true := decide_eq_true c15
        clear c15
        replace H := Option.bind_eq_some_iff.mp H
        obtain ⟨t421, A160, H⟩ := H
        replace H : (if t421 = 0 then ((impl_hasVars.f k1 (Ac9 l2 x22_1)).bind fun t422 => (if t422 = true then (some 1) else (impl_sortFault.l0 k1 l2 (l2.length : Int) (wrap64 (x22_1 + 1)) l0_0))) else (some t421)) = some r := H
        have A16 := am A160
        clear A160
        by_cases c17 : t421 = 0
        ·rw [if_pos c17] at H
         have c17b0 : (t421 == 0) = true := beq_iff_eq.mpr c17
         have c17b1 : (t421 != 0) = false := bne_eq_false_iff_eq.mpr c17
         clear c17
         replace H := Option.bind_eq_some_iff.mp H
         obtain ⟨t422, A180, H⟩ := H
         replace H : (if t422 = true then (some 1) else (impl_sortFault.l0 k1 l2 (l2.length : Int) (wrap64 (x22_1 + 1)) l0_0)) = some r := H
         have A18 := am A180
         clear A180
         by_cases c19 : t422 = true
         ·subst c19
          have H1 : (some 1) = some r := by rw [if_pos rfl] at H; exact H
          clear H
          have H := H1
          clear H1
          obtain rfl := Option.some.inj H
          have p420 : 0 ≤ (x22_1 : Int) := of_decide_eq_true (by first | (with_reducible assumption) | assumption)
          have q420 : x22_1 < (l2.length : Int) := of_decide_eq_true (by first | (with_reducible assumption) | assumption)
          obtain ⟨ad420, A420_0, c420_0, e420, hx420_0, hl420_0, hi420_0⟩ := Aj0 HR2.out x22_1 p420 q420
          cases e420
          replace hx420_0 := (HB.out.cell (World.block_lt_of_cell? w _ hx420_0)).trans hx420_0
          have HR420_0 := am hi420_0
          have HC420_0 := am hl420_0
          clear hi420_0 hl420_0
          replace p420 := eq_true p420
          replace q420 := eq_true q420
          have hcz20_0 : wr.cell? ⟨gb418, 0, none⟩ = some (.slice A0_0 l0_0.length c0_0) := (Ab1 BK418.out 0).trans rfl
          have hfz20_0 := Aa5 BK418.out 0
          go_wp2_with (first | ((with_reducible refine Aa4 (f := 25) rfl ?_); refine Ab8 (some 28) rfl rfl Tryd.func25 (by kernel_rfl) rfl #[.agg #[.slice A0_0 l0_0.length c0_0], .slice A420_0 (Ac9 l2 x22_1).length c420_0] rfl el ?_; (with_reducible refine (impl_TermFault.calls k1 _ _ l0_0 _ _ (Ac9 l2 x22_1) t421 _ ?side1 ?side2 ?side3 ?side4 A16.out).mono ?_); (case side1 => exact cq (Kd.C_below HR0_0.out HB.out)); (case side2 => exact HC0_0.out); (case side3 => exact cq (Kd.C_below HR420_0.out HB.out)); (case side4 => exact HC420_0.out); rintro e w21 ⟨rfl, hb⟩; refine ⟨_, rfl, ?_⟩; have n0_ := am (Aa7 (bq BK418.out) hb); have n1_ := am (Aa2 (hs HB.out) hb); clear BK418 HB; revert n0_ n1_; intro BK418 HB; (try clear hb); (try clear hb2); (try clear hgw); (try clear hk); (try clear hi)) | ((with_reducible refine Aa4 (f := 53) rfl ?_); refine Ab8 (some 33) rfl rfl Tryd.func53 (by kernel_rfl) rfl #[.slice A420_0 (Ac9 l2 x22_1).length c420_0] rfl el ?_; (with_reducible refine (impl_hasVars.calls k1 _ _ (Ac9 l2 x22_1) true _ ?side1 ?side2 A18.out).mono ?_); (case side1 => exact cq (Kd.C_below HR420_0.out HB.out)); (case side2 => exact HC420_0.out); rintro e w22 ⟨rfl, hb⟩; refine ⟨_, rfl, ?_⟩; have n0_ := am (Aa7 (bq BK418.out) hb); have n1_ := am (Aa2 (hs HB.out) hb); clear BK418 HB; revert n0_ n1_; intro BK418 HB; (try clear hb); (try clear hb2); (try clear hgw); (try clear hk); (try clear hi)))
          go_ret
          exact ⟨by first | rfl | (simp [Aa0, Aa1] <;> rfl) | (simp [*, Aa0, Aa1] <;> rfl), by exact hs HB.out⟩
         ·replace c19 := Bool.eq_false_iff.mpr c19
          subst c19
          have H1 : (impl_sortFault.l0 k1 l2 (l2.length : Int) (wrap64 (x22_1 + 1)) l0_0) = some r := by rw [if_neg (show ¬ (false = true) by decide)] at H; exact H
          clear H
          have H := H1
          clear H1
          have H' := am H
          clear H
          have p420 : 0 ≤ (x22_1 : Int) := of_decide_eq_true (by first | (with_reducible assumption) | assumption)
          have q420 : x22_1 < (l2.length : Int) := of_decide_eq_true (by first | (with_reducible assumption) | assumption)
          obtain ⟨ad420, A420_0, c420_0, e420, hx420_0, hl420_0, hi420_0⟩ := Aj0 HR2.out x22_1 p420 q420
          cases e420
          replace hx420_0 := (HB.out.cell (World.block_lt_of_cell? w _ hx420_0)).trans hx420_0
          have HR420_0 := am hi420_0
          have HC420_0 := am hl420_0
          clear hi420_0 hl420_0
          replace p420 := eq_true p420
          replace q420 := eq_true q420
          have hcz23_0 : wr.cell? ⟨gb418, 0, none⟩ = some (.slice A0_0 l0_0.length c0_0) := (Ab1 BK418.out 0).trans rfl
          have hfz23_0 := Aa5 BK418.out 0
          go_wp2_with (first | ((with_reducible refine Aa4 (f := 25) rfl ?_); refine Ab8 (some 28) rfl rfl Tryd.func25 (by kernel_rfl) rfl #[.agg #[.slice A0_0 l0_0.length c0_0], .slice A420_0 (Ac9 l2 x22_1).length c420_0] rfl el ?_; (with_reducible refine (impl_TermFault.calls k1 _ _ l0_0 _ _ (Ac9 l2 x22_1) t421 _ ?side1 ?side2 ?side3 ?side4 A16.out).mono ?_); (case side1 => exact cq (Kd.C_below HR0_0.out HB.out)); (case side2 => exact HC0_0.out); (case side3 => exact cq (Kd.C_below HR420_0.out HB.out)); (case side4 => exact HC420_0.out); rintro e w24 ⟨rfl, hb⟩; refine ⟨_, rfl, ?_⟩; have n0_ := am (Aa7 (bq BK418.out) hb); have n1_ := am (Aa2 (hs HB.out) hb); clear BK418 HB; revert n0_ n1_; intro BK418 HB; (try clear hb); (try clear hb2); (try clear hgw); (try clear hk); (try clear hi)) | ((with_reducible refine Aa4 (f := 53) rfl ?_); refine Ab8 (some 33) rfl rfl Tryd.func53 (by kernel_rfl) rfl #[.slice A420_0 (Ac9 l2 x22_1).length c420_0] rfl el ?_; (with_reducible refine (impl_hasVars.calls k1 _ _ (Ac9 l2 x22_1) false _ ?side1 ?side2 A18.out).mono ?_); (case side1 => exact cq (Kd.C_below HR420_0.out HB.out)); (case side2 => exact HC420_0.out); rintro e w25 ⟨rfl, hb⟩; refine ⟨_, rfl, ?_⟩; have n0_ := am (Aa7 (bq BK418.out) hb); have n1_ := am (Aa2 (hs HB.out) hb); clear BK418 HB; revert n0_ n1_; intro BK418 HB; (try clear hb); (try clear hb2); (try clear hgw); (try clear hk); (try clear hi)))
          go_roundg k1
          case measure => have := HK1.out; omega
          case rel => exact ⟨(wrap64 (x22_1 + 1)), (by first | rfl | (simp; done) | (simp [*]; done)), H', ⟨by have := HK1.out; omega⟩, ⟨by refine bq ?_; exact BK418.out⟩, ⟨by exact hs HB.out⟩⟩
        ·rw [if_neg c17] at H
         have c17b0 : (t421 == 0) = false := beq_eq_false_iff_ne.mpr c17
         have c17b1 : (t421 != 0) = true := bne_iff_ne.mpr c17
         obtain rfl := Option.some.inj H
         have p420 : 0 ≤ (x22_1 : Int) := of_decide_eq_true (by first | (with_reducible assumption) | assumption)
         have q420 : x22_1 < (l2.length : Int) := of_decide_eq_true (by first | (with_reducible assumption) | assumption)
         obtain ⟨ad420, A420_0, c420_0, e420, hx420_0, hl420_0, hi420_0⟩ := Aj0 HR2.out x22_1 p420 q420
         cases e420
         replace hx420_0 := (HB.out.cell (World.block_lt_of_cell? w _ hx420_0)).trans hx420_0
         have HR420_0 := am hi420_0
         have HC420_0 := am hl420_0
         clear hi420_0 hl420_0
         replace p420 := eq_true p420
         replace q420 := eq_true q420
         have hcz26_0 : wr.cell? ⟨gb418, 0, none⟩ = some (.slice A0_0 l0_0.length c0_0) := (Ab1 BK418.out 0).trans rfl
         have hfz26_0 := Aa5 BK418.out 0
         go_wp2_with (first | ((with_reducible refine Aa4 (f := 25) rfl ?_); refine Ab8 (some 28) rfl rfl Tryd.func25 (by kernel_rfl) rfl #[.agg #[.slice A0_0 l0_0.length c0_0], .slice A420_0 (Ac9 l2 x22_1).length c420_0] rfl el ?_; (with_reducible refine (impl_TermFault.calls k1 _ _ l0_0 _ _ (Ac9 l2 x22_1) t421 _ ?side1 ?side2 ?side3 ?side4 A16.out).mono ?_); (case side1 => exact cq (Kd.C_below HR0_0.out HB.out)); (case side2 => exact HC0_0.out); (case side3 => exact cq (Kd.C_below HR420_0.out HB.out)); (case side4 => exact HC420_0.out); rintro e w27 ⟨rfl, hb⟩; refine ⟨_, rfl, ?_⟩; have n0_ := am (Aa7 (bq BK418.out) hb); have n1_ := am (Aa2 (hs HB.out) hb); clear BK418 HB; revert n0_ n1_; intro BK418 HB; (try clear hb); (try clear hb2); (try clear hgw); (try clear hk); (try clear hi)))
         go_ret
         exact ⟨by first | rfl | (simp [Aa0, Aa1] <;> rfl) | (simp [*, Aa0, Aa1] <;> rfl), by exact hs HB.out⟩
       ·rw [if_neg c15] at H
        exact absurd H (by simp)
      ·rw [if_neg c14] at H
       exact absurd H (by simp)
     ·rw [if_neg c13] at H
      have c13b0 : decide (x22_1 < (l2.length : Int)) = false := decide_eq_false c13
      clear c13
      obtain rfl := Option.some.inj H
      go_wp2
      go_ret
      exact ⟨by first | rfl | (simp [Aa0, Aa1] <;> rfl) | (simp [*, Aa0, Aa1] <;> rfl), by exact hs HB.out⟩
 ·rw [if_neg c5] at H
  have c5b0 : (t419 == 0) = false := beq_eq_false_iff_ne.mpr c5
  have c5b1 : (t419 != 0) = true := bne_iff_ne.mpr c5
  obtain rfl := Option.some.inj H
  go_enter Tryd.func31, Tryd.ntmps31
  go_wp2_with (first | ((with_reducible refine Ab6 (N := 3) rfl ?_); refine Ab5 ?hg (N := 3) ?hd (cs := #[.slice A0_0 l0_0.length c0_0]) (t := 32) ?hr ?_; (case hd => rfl); (case hg => rfl); (case hr => first | (go_simp; done) | (go_simp; rfl)); intro gb418 hg w28 hbox hb; have n0_ := am (Aa2 (hq HB.out) hb); have n1_ := am (hbox); have n2_ := am (bz hg (hq HB.out)); have n3_ := n2_; clear HB; revert n0_ n1_ n2_ n3_; intro HB BK418 GW418 GE418; clear hb hbox hg; have hcz29_0 : w28.cell? ⟨gb418, 0, none⟩ = some (.slice A0_0 l0_0.length c0_0) := (Ab1 BK418.out 0).trans rfl; have hfz29_0 := Aa5 BK418.out 0) | ((with_reducible refine Aa4 (f := 24) rfl ?_); refine Ab8 (some 13) rfl rfl Tryd.func24 (by kernel_rfl) rfl #[.agg #[.slice A0_0 l0_0.length c0_0], .slice A1 l1.length c1] rfl el ?_; (with_reducible refine (impl_OrderFault.calls k _ _ l0_0 _ _ l1 t419 _ ?side1 ?side2 ?side3 ?side4 A4.out).mono ?_); (case side1 => exact cq (Kd.C_below HR0_0.out HB.out)); (case side2 => exact HC0_0.out); (case side3 => exact cq (Kd.C_below HR1.out HB.out)); (case side4 => exact HC1.out); rintro e w30 ⟨rfl, hb⟩; refine ⟨_, rfl, ?_⟩; have n0_ := am (Aa7 (bq BK418.out) hb); have n1_ := am (Aa2 (hs HB.out) hb); clear BK418 HB; revert n0_ n1_; intro BK418 HB; (try clear hb); (try clear hb2); (try clear hgw); (try clear hk); (try clear hi)))
  go_ret
  exact ⟨by first | rfl | (simp [Aa0, Aa1] <;> rfl) | (simp [*, Aa0, Aa1] <;> rfl), by exact hs HB.out⟩
def impl_GreatestOf.l0 : Nat → List Int → List (List Int) → Int → List (List Int) → Int → Int → List (S65) → Option (Int × Int)
 | 0, _, _, _, _, _, _, _ => none
 | k + 1, x1, x2, x8, x23, x24, x25, x424000 => if x25 < x24 then (if 0 ≤ x25 then (if x25 < (x23.length : Int) then (if 0 ≤ x8 then (if x8 < (x2.length : Int) then ((impl_isGreater.f k x424000 x1 (Ac9 x23 x25) (Ac9 x2 x8)).bind fun t428 => (if t428 = true then (impl_GreatestOf.l0 k x1 x2 x25 x23 x24 (wrap64 (x25 + 1)) x424000) else (impl_GreatestOf.l0 k x1 x2 x8 x23 x24 (wrap64 (x25 + 1)) x424000))) else (none)) else (none)) else (none)) else (none)) else (some (0, x8))
def impl_GreatestOf.f (k : Nat) (l0_0 : List (S65)) (l1 : List Int) (l2 : List (List Int)) : Option (Int × Int) := (impl_sortFault.f k l0_0 l1 l2).bind fun t425 => (if t425 = 0 then (if (l2.length : Int) = 0 then (some (4, 0)) else (impl_GreatestOf.l0 k l1 l2 0 l2 (l2.length : Int) 0 l0_0)) else (some (t425, 0)))
def impl_GreatestOf.T10 : Bool × List (List Nat × List Nat) := (true, [([], []), ([], []), ([], []), ([], []), ([], []), ([3, 4], [3, 4]), ([5], [5]), ([0, 1, 2, 6], [0, 1, 2, 6])])
def impl_GreatestOf.B10 : List Nat := [0, 0, 0, 0, 0, 24, 56, 127]
theorem impl_GreatestOf.tab10 : Al0 .any (Am0 Tryd.f16 10) = impl_GreatestOf.T10 := by kernel_rfl
theorem impl_GreatestOf.bits10 : Ag2 impl_GreatestOf.T10.2 impl_GreatestOf.B10 = true := by kernel_rfl
set_option maxHeartbeats 8000000 in
set_option maxRecDepth 100000 in
theorem impl_GreatestOf.calls (k : Nat) (A0_0 : Option Addr) (c0_0 : Nat) (l0_0 : List (S65)) (A1 : Option Addr) (c1 : Nat) (l1 : List Int) (A2 : Option Addr) (c2 : Nat) (l2 : List (List Int)) (r1 : Int) (r2 : Int) (w : World) (hr0_0 : Kd.C k65 w A0_0 l0_0.length l0_0) (hc0_0 : l0_0.length ≤ c0_0) (hr1 : Kd.C (Kd.int .i64) w A1 l1.length l1) (hc1 : l1.length ≤ c1) (hr2 : Kd.C (Kd.slice 2 (Kd.int .i64)) w A2 l2.length l2) (hc2 : l2.length ≤ c2) (h : impl_GreatestOf.f k l0_0 l1 l2 = some (r1, r2)) :
  Calls Tryd.prog 16 #[.agg #[.slice A0_0 l0_0.length c0_0], .slice A1 l1.length c1, .slice A2 l2.length c2] w fun e w' => e = .returned (.agg #[.int .i64 r1, .int .i64 r2]) ∧ Below w.heap.size w w' := by
 have hu32 := Tryd.underlying32
 have hu28 := Tryd.underlying28
 have HR0_0 := am hr0_0
 have HC0_0 := am hc0_0
 clear hr0_0 hc0_0
 have HR1 := am hr1
 have HC1 := am hc1
 clear hr1 hc1
 have HR2 := am hr2
 have HC2 := am hc2
 clear hr2 hc2
 have HB := am (Below.refl w.heap.size w)
 have H : ((impl_sortFault.f k l0_0 l1 l2).bind fun t425 => (if t425 = 0 then (if (l2.length : Int) = 0 then (some (4, 0)) else (impl_GreatestOf.l0 k l1 l2 0 l2 (l2.length : Int) 0 l0_0)) else (some (t425, 0)))) = some (r1, r2) := h
 clear h
 replace H := Option.bind_eq_some_iff.mp H
 obtain ⟨t425, A40, H⟩ := H
 replace H : (if t425 = 0 then (if (l2.length : Int) = 0 then (some (4, 0)) else (impl_GreatestOf.l0 k l1 l2 0 l2 (l2.length : Int) 0 l0_0)) else (some (t425, 0))) = some (r1, r2) := H
 have A4 := am A40
 clear A40
 by_cases c5 : t425 = 0
 ·rw [if_pos c5] at H
  have c5b0 : (t425 == 0) = true := beq_iff_eq.mpr c5
  have c5b1 : (t425 != 0) = false := bne_eq_false_iff_eq.mpr c5
  clear c5
  by_cases c6 : (l2.length : Int) = 0
  ·rw [if_pos c6] at H
   have c6b0 : ((l2.length : Int) == 0) = true := beq_iff_eq.mpr c6
   have c6b1 : ((l2.length : Int) != 0) = false := bne_eq_false_iff_eq.mpr c6
   clear c6
   simp only [Option.some.injEq, Prod.mk.injEq] at H
   obtain ⟨rfl, rfl⟩ := H
   go_enter Tryd.func16, Tryd.ntmps16
   go_wp2_with (first | ((with_reducible refine Ab6 (N := 3) rfl ?_); refine Ab5 ?hg (N := 3) ?hd (cs := #[.slice A0_0 l0_0.length c0_0]) (t := 32) ?hr ?_; (case hd => rfl); (case hg => rfl); (case hr => first | (go_simp; done) | (go_simp; rfl)); intro gb423 hg w7 hbox hb; have n0_ := am (Aa2 (hq HB.out) hb); have n1_ := am (hbox); have n2_ := am (bz hg (hq HB.out)); have n3_ := n2_; clear HB; revert n0_ n1_ n2_ n3_; intro HB BK423 GW423 GE423; clear hb hbox hg) | ((with_reducible refine Ab6 (N := 6) rfl ?_); refine Ab5 ?hg (N := 6) ?hd (cs := #[.int .i64 0, .int .i64 0]) (t := 28) ?hr ?_; (case hd => rfl); (case hg => rfl); (case hr => first | (go_simp; done) | (go_simp; rfl)); intro gb424 hg w8 hbox hb; have n0_ := am (Aa7 (bq BK423.out) hb); have n1_ := am (Aa2 (hs HB.out) hb); have n2_ := am (hbox); have n3_ := am (bz hg (hs HB.out)); have n4_ := n3_; have n5_ := am ((by rw [hg]; exact Nat.ne_of_lt (Ac4 (bq BK423.out)) : gb423 ≠ gb424)); have n6_ := am ((by rw [hg]; exact Nat.ne_of_gt (Ac4 (bq BK423.out)) : gb424 ≠ gb423)); clear BK423 HB; revert n0_ n1_ n2_ n3_ n4_ n5_ n6_; intro BK423 HB BK424 GW424 GE424 NB423_424 NB424_423; clear hb hbox hg; have hnb9 := NB423_424.out; have hnc9 := NB424_423.out; have hcz10_0 : w8.cell? ⟨gb423, 0, none⟩ = some (.slice A0_0 l0_0.length c0_0) := (Ab1 BK423.out 0).trans rfl; have hfz10_0 := Aa5 BK423.out 0) | ((with_reducible refine Aa4 (f := 31) rfl ?_); refine Ab8 (some 14) rfl rfl Tryd.func31 (by kernel_rfl) rfl #[.agg #[.slice A0_0 l0_0.length c0_0], .slice A1 l1.length c1, .slice A2 l2.length c2] rfl el ?_; (with_reducible refine (impl_sortFault.calls k _ _ l0_0 _ _ l1 _ _ l2 t425 _ ?side1 ?side2 ?side3 ?side4 ?side5 ?side6 A4.out).mono ?_); (case side1 => exact cq (Kd.C_below HR0_0.out HB.out)); (case side2 => exact HC0_0.out); (case side3 => exact cq (Kd.C_below HR1.out HB.out)); (case side4 => exact HC1.out); (case side5 => exact cq (Kd.C_below HR2.out HB.out)); (case side6 => exact HC2.out); rintro e w11 ⟨rfl, hb⟩; refine ⟨_, rfl, ?_⟩; have n0_ := am (Aa7 (bq BK423.out) hb); have n1_ := am (Aa7 (bq BK424.out) hb); have n2_ := am (Aa2 (hs HB.out) hb); clear BK423 BK424 HB; revert n0_ n1_ n2_; intro BK423 BK424 HB; (try clear hb); (try clear hb2); (try clear hgw); (try clear hk); (try clear hi); have hcz12_0 : w11.cell? ⟨gb424, 0, none⟩ = some (.int .i64 0) := (Ab1 BK424.out 0).trans rfl; have hcz12_1 : w11.cell? ⟨gb424, 1, none⟩ = some (.int .i64 0) := (Ab1 BK424.out 1).trans rfl; have hfz12_0 := Aa5 BK424.out 0; have hfz12_1 := Aa5 BK424.out 1))
   refine bodyPost_ret (results_cell_row rfl _ _ gb424 28 #[.int .i64 4, .int .i64 0] (0, 0) _ rfl (by refine bq ?_; refine Ad6 (cs := #[.int .i64 4, .int .i64 0]) ?_ 1 _ rfl; refine bq ?_; refine Ad6 (cs := #[.int .i64 0, .int .i64 0]) ?_ 0 _ rfl; refine bq ?_; exact BK424.out) Tryd.underlying28 rfl (by kernel_rfl)) rfl ?_
   exact ⟨by first | rfl | (simp [Aa0, Aa1] <;> rfl) | (simp [*, Aa0, Aa1] <;> rfl), by exact hs HB.out⟩
  ·rw [if_neg c6] at H
   have c6b0 : ((l2.length : Int) == 0) = false := beq_eq_false_iff_ne.mpr c6
   have c6b1 : ((l2.length : Int) != 0) = true := bne_iff_ne.mpr c6
   have c6b2 : ¬ (l2 = []) := fun h_ => c6 (by rw [h_]; rfl)
   have H' := am H
   clear H
   go_enter Tryd.func16, Tryd.ntmps16
   go_wp2_with (first | ((with_reducible refine Ab6 (N := 3) rfl ?_); refine Ab5 ?hg (N := 3) ?hd (cs := #[.slice A0_0 l0_0.length c0_0]) (t := 32) ?hr ?_; (case hd => rfl); (case hg => rfl); (case hr => first | (go_simp; done) | (go_simp; rfl)); intro gb423 hg w13 hbox hb; have n0_ := am (Aa2 (hq HB.out) hb); have n1_ := am (hbox); have n2_ := am (bz hg (hq HB.out)); have n3_ := n2_; clear HB; revert n0_ n1_ n2_ n3_; intro HB BK423 GW423 GE423; clear hb hbox hg) | ((with_reducible refine Ab6 (N := 6) rfl ?_); refine Ab5 ?hg (N := 6) ?hd (cs := #[.int .i64 0, .int .i64 0]) (t := 28) ?hr ?_; (case hd => rfl); (case hg => rfl); (case hr => first | (go_simp; done) | (go_simp; rfl)); intro gb424 hg w14 hbox hb; have n0_ := am (Aa7 (bq BK423.out) hb); have n1_ := am (Aa2 (hs HB.out) hb); have n2_ := am (hbox); have n3_ := am (bz hg (hs HB.out)); have n4_ := n3_; have n5_ := am ((by rw [hg]; exact Nat.ne_of_lt (Ac4 (bq BK423.out)) : gb423 ≠ gb424)); have n6_ := am ((by rw [hg]; exact Nat.ne_of_gt (Ac4 (bq BK423.out)) : gb424 ≠ gb423)); clear BK423 HB; revert n0_ n1_ n2_ n3_ n4_ n5_ n6_; intro BK423 HB BK424 GW424 GE424 NB423_424 NB424_423; clear hb hbox hg; have hnb15 := NB423_424.out; have hnc15 := NB424_423.out; have hcz16_0 : w14.cell? ⟨gb423, 0, none⟩ = some (.slice A0_0 l0_0.length c0_0) := (Ab1 BK423.out 0).trans rfl; have hfz16_0 := Aa5 BK423.out 0) | ((with_reducible refine Aa4 (f := 31) rfl ?_); refine Ab8 (some 14) rfl rfl Tryd.func31 (by kernel_rfl) rfl #[.agg #[.slice A0_0 l0_0.length c0_0], .slice A1 l1.length c1, .slice A2 l2.length c2] rfl el ?_; (with_reducible refine (impl_sortFault.calls k _ _ l0_0 _ _ l1 _ _ l2 t425 _ ?side1 ?side2 ?side3 ?side4 ?side5 ?side6 A4.out).mono ?_); (case side1 => exact cq (Kd.C_below HR0_0.out HB.out)); (case side2 => exact HC0_0.out); (case side3 => exact cq (Kd.C_below HR1.out HB.out)); (case side4 => exact HC1.out); (case side5 => exact cq (Kd.C_below HR2.out HB.out)); (case side6 => exact HC2.out); rintro e w17 ⟨rfl, hb⟩; refine ⟨_, rfl, ?_⟩; have n0_ := am (Aa7 (bq BK423.out) hb); have n1_ := am (Aa7 (bq BK424.out) hb); have n2_ := am (Aa2 (hs HB.out) hb); clear BK423 BK424 HB; revert n0_ n1_ n2_; intro BK423 BK424 HB; (try clear hb); (try clear hb2); (try clear hgw); (try clear hk); (try clear hi)))
   go_loopg [8, 25] k (fun kq v8 v25 w' => ∃ (x8_1 : Int) (x25_1 : Int), v8 = .int .i64 x8_1 ∧ v25 = .int .i64 x25_1 ∧ Aside0 (impl_GreatestOf.l0 kq l1 l2 x8_1 l2 (l2.length : Int) x25_1 l0_0 = some (r1, r2)) ∧ Aside0 (kq ≤ k) ∧ Aside0 (w'.heap[gb423]? = some (.cells #[(.slice A0_0 l0_0.length c0_0)] 32 (0, 0))) ∧ Aside0 (w'.heap[gb424]? = some (.cells #[.int .i64 0, .int .i64 0] 28 (0, 0))) ∧ Aside0 (Below w.heap.size w w'))
   case atStart => exact ⟨(0), (0), (by first | rfl | (simp; done) | (simp [*]; done)), (by first | rfl | (simp; done) | (simp [*]; done)), H', ⟨Nat.le_refl _⟩, ⟨by refine bq ?_; exact BK423.out⟩, ⟨by refine bq ?_; exact BK424.out⟩, ⟨by exact hs HB.out⟩⟩
   case round =>
    clear H'
    try clear c1; try clear c2; try clear p2; try clear c3; try clear c5; try clear c5b0; try clear c5b1; try clear c6; try clear c6b0; try clear c6b1; try clear c6b2; try clear c9; try clear c15; try clear c16; try clear hcz10_0; try clear hcz12_0; try clear hcz12_1; try clear hcz16_0; try clear hfz10_0; try clear hfz12_0; try clear hfz12_1; try clear hfz16_0
    obtain ⟨x8_1, x25_1, rfl, rfl, HA, HK1, BK423, BK424, HB⟩ := hrel
    cases gk with
    | zero => exact absurd HA.out (by simp [impl_GreatestOf.l0])
    | succ k1 =>
     have H := HA.out
     clear HA
     simp only [impl_GreatestOf.l0] at H
     by_cases c18 : x25_1 < (l2.length : Int)
     ·rw [if_pos c18] at H
      have c18b0 : decide (x25_1 < (l2.length : Int)) = true := decide_eq_true c18
      clear c18
      by_cases c19 : 0 ≤ x25_1
      ·rw [if_pos c19] at H
       have c19b0 : decide (0 ≤ x25_1) = true := decide_eq_true c19
       clear c19
       by_cases c20 : x25_1 < (l2.length : Int)
       ·rw [if_pos c20] at H
        have c20b0 : decide (x25_1 < (l2.length : Int)) = true := decide_eq_true c20
        clear c20
        by_cases c21 : 0 ≤ x8_1
        ·rw [if_pos c21] at H
         have c21b0 : decide (0 ≤ x8_1) = true := decide_eq_true c21
         clear c21
         by_cases c22 : x8_1 < (l2.length : Int)
         ·rw [if_pos c22] at H
          have c22b0 : decide (x8_1 < (l2.length : Int)) = true := decide_eq_true c22
          clear c22
          replace H := Option.bind_eq_some_iff.mp H
          obtain ⟨t428, A230, H⟩ := H
          replace H : (if t428 = true then (impl_GreatestOf.l0 k1 l1 l2 x25_1 l2 (l2.length : Int) (wrap64 (x25_1 + 1)) l0_0) else (impl_GreatestOf.l0 k1 l1 l2 x8_1 l2 (l2.length : Int) (wrap64 (x25_1 + 1)) l0_0)) = some (r1, r2) := H
          have A23 := am A230
          clear A230
          by_cases c24 : t428 = true
          ·subst c24
           have H1 : (impl_GreatestOf.l0 k1 l1 l2 x25_1 l2 (l2.length : Int) (wrap64 (x25_1 + 1)) l0_0) = some (r1, r2) := by rw [if_pos rfl] at H; exact H
           clear H
           have H := H1
           clear H1
           have H' := am H
           clear H
           have p426 : 0 ≤ (x25_1 : Int) := of_decide_eq_true (by first | (with_reducible assumption) | assumption)
           have q426 : x25_1 < (l2.length : Int) := of_decide_eq_true (by first | (with_reducible assumption) | assumption)
           obtain ⟨ad426, A426_0, c426_0, e426, hx426_0, hl426_0, hi426_0⟩ := Aj0 HR2.out x25_1 p426 q426
           cases e426
           replace hx426_0 := (HB.out.cell (World.block_lt_of_cell? w _ hx426_0)).trans hx426_0
           have HR426_0 := am hi426_0
           have HC426_0 := am hl426_0
           clear hi426_0 hl426_0
           replace p426 := eq_true p426
           replace q426 := eq_true q426
           try go_wp2
           have n0_ := am (Ag1 BK423.out)
           have n1_ := am (Ag1 BK424.out)
           have n2_ := am (Ac2 HB.out)
           clear BK423 BK424 HB; revert n0_ n1_ n2_; intro BK423 BK424 HB
           have p427 : 0 ≤ (x8_1 : Int) := of_decide_eq_true (by first | (with_reducible assumption) | assumption)
           have q427 : x8_1 < (l2.length : Int) := of_decide_eq_true (by first | (with_reducible assumption) | assumption)
           obtain ⟨ad427, A427_0, c427_0, e427, hx427_0, hl427_0, hi427_0⟩ := Aj0 HR2.out x8_1 p427 q427
           have hw427_0 := hx427_0
           obtain rfl : ad426 = ad427 := (by injection e427)
           replace hx427_0 := (HB.out.cell (World.block_lt_of_cell? w _ hx427_0)).trans hx427_0
           have HR427_0 := am hi427_0
           have HC427_0 := am hl427_0
           clear hi427_0 hl427_0
           replace p427 := eq_true p427
           replace q427 := eq_true q427
           refine Ae9 (n := 8) (S := fun w' => w'.cell? ⟨gb423, 0, none⟩ = some (.slice A0_0 l0_0.length c0_0) ∧ w'.cell? (ad426.add (x8_1).toNat) = some (.slice A427_0 (Ac9 l2 x8_1).length c427_0)) (ds := []) #[false, false, false, false, false, false, false, false] (by kernel_rfl) rfl rfl ⟨(Ab1 BK423.out 0).trans rfl, ((HB.out.cell (World.block_lt_of_cell? w _ hw427_0)).trans hw427_0)⟩ (fun hHeld => ?_); refine Ad1 impl_GreatestOf.tab10 impl_GreatestOf.bits10 (fun HT_ HW_ => ?_)
           generalize wr.drew = w25 at BK423 BK424 HB HR427_0 hx427_0 hHeld ⊢
           refine Ab2 (i := 1) (N := some 31) (v := ?_) (a' := ?_) #[false, true, false, false, false, false, false, false] rfl rfl (Aa9 HT_.out (by kernel_rfl)) (fun _ _ _ h => h) (Or.inl ⟨by rfl, ?_⟩) ?_ ?_
           rotate_left
           ·intro w'
            go_simp
            with_reducible rfl
           rotate_left
           ·simp only [Act.put, lsp, Aa8, Ab0]
            rfl
           refine Ab2 (i := 2) (N := some 32) (v := ?_) (a' := ?_) #[false, true, true, false, false, false, false, false] rfl rfl (Aa9 HT_.out (by kernel_rfl)) (fun _ _ _ h => h) (Or.inl ⟨by rfl, ?_⟩) ?_ ?_
           rotate_left
           ·intro w'
            go_simp
            with_reducible rfl
           rotate_left
           ·simp only [Act.put, lsp, Aa8, Ab0]
            rfl
           refine Ab2 (i := 3) (N := some 33) (v := ?_) (a' := ?_) #[false, true, true, true, false, false, false, false] rfl rfl (Aa9 HT_.out (by kernel_rfl)) (fun _ _ _ h => h) (Or.inl ⟨by rfl, ?_⟩) ?_ ?_
           rotate_left
           ·intro w'
            go_simp
            with_reducible rfl
           rotate_left
           ·simp only [Act.put, lsp, Aa8, Ab0]
            rfl
           refine Ab2 (i := 4) (N := some 34) (v := ?_) (a' := ?_) #[false, true, true, true, true, false, false, false] rfl rfl (Aa9 HT_.out (by kernel_rfl)) (fun _ _ _ h => h) (Or.inl ⟨by rfl, ?_⟩) ?_ ?_
           rotate_left
           ·intro w'
            go_simp
            with_reducible rfl
           rotate_left
           ·simp only [Act.put, lsp, Aa8, Ab0]
            rfl
           refine Ab2 (i := 5) (N := some 35) (v := ?_) (a' := ?_) #[false, true, true, true, true, true, false, false] rfl rfl (Aa9 HT_.out (by kernel_rfl)) (fun _ _ _ h => h) (Or.inl ⟨by rfl, ?_⟩) ?_ ?_
           rotate_left
           ·intro w'
            go_simp
            with_reducible rfl
           rotate_left
           ·simp only [Act.put, lsp, Aa8, Ab0]
            rfl
           refine take_ (i := 0) (N := some 30) (v := ?_) (a' := ?_) #[true, true, true, true, true, true, false, false] rfl rfl (Ac0 HT_.out HW_.out (by kernel_rfl)) (fun _ _ _ h => h) (Or.inl ⟨by rfl, ?_⟩) hHeld ?_ ?_
           rotate_left
           ·rintro w' ⟨s0, s1⟩
            go_simp
            with_reducible rfl
           rotate_left
           ·simp only [Act.put, lsp, Aa8, Ab0]
            rfl
           refine take_ (i := 6) (N := some 36) (v := ?_) (a' := ?_) #[true, true, true, true, true, true, true, false] rfl rfl (Ac0 HT_.out HW_.out (by kernel_rfl)) (fun _ _ _ h => h) (Or.inl ⟨by rfl, ?_⟩) hHeld ?_ ?_
           rotate_left
           ·rintro w' ⟨s0, s1⟩
            go_simp
            with_reducible rfl
           rotate_left
           ·simp only [Act.put, lsp, Aa8, Ab0]
            rfl
           refine Al7 (i := 7) (N := some 37) #[true, true, true, true, true, true, true, true] rfl rfl (Af4 HT_.out (by kernel_rfl)) (by decide) (fun K hK => ?_)
           refine Ah1 Tryd.func32 (by kernel_rfl) rfl #[.agg #[.slice A0_0 l0_0.length c0_0], .slice A1 l1.length c1, .slice A426_0 (Ac9 l2 x25_1).length c426_0, .slice A427_0 (Ac9 l2 x8_1).length c427_0] (by rfl) rfl rfl el ?_
           with_reducible refine (impl_isGreater.calls k1 _ _ l0_0 _ _ l1 _ _ (Ac9 l2 x25_1) _ _ (Ac9 l2 x8_1) true _ ?side1 ?side2 ?side3 ?side4 ?side5 ?side6 ?side7 ?side8 A23.out).mono ?_
           (case side1 => exact cq (Kd.C_below HR0_0.out HB.out))
           (case side2 => exact HC0_0.out)
           (case side3 => exact cq (Kd.C_below HR1.out HB.out))
           (case side4 => exact HC1.out)
           (case side5 => exact cq (Kd.C_below HR426_0.out HB.out))
           (case side6 => exact HC426_0.out)
           (case side7 => exact cq (Kd.C_below HR427_0.out HB.out))
           (case side8 => exact HC427_0.out)
           rintro e w26 ⟨rfl, hb⟩
           refine ⟨_, rfl, ?_⟩
           have n0_ := am (Aa7 (bq BK423.out) hb)
           have n1_ := am (Aa7 (bq BK424.out) hb)
           have n2_ := am (Aa2 (hs HB.out) hb)
           clear BK423 BK424 HB; revert n0_ n1_ n2_; intro BK423 BK424 HB
           (try clear hb)
           (try clear hb2)
           (try clear hgw)
           (try clear hk)
           (try clear hi)
           refine hK.out _ _ ⟨(Ab1 BK423.out 0).trans rfl, ((HB.out.cell (World.block_lt_of_cell? w _ hw427_0)).trans hw427_0)⟩ (fun hHeld => ?_)
           clear hK K
           refine Ah0 (a' := ?_) ?_ ?_
           rotate_left
           ·show Act.put _ (some 37) _ = _
            simp only [Act.put, lsp, Aa8, Ab0]
            rfl
           refine Ah2 (Ae1 HT_.out (by kernel_rfl)) ?_
           try go_wp2
           go_roundg k1
           case measure => have := HK1.out; omega
           case rel => exact ⟨(x25_1), (wrap64 (x25_1 + 1)), (by first | rfl | (simp; done) | (simp [*]; done)), (by first | rfl | (simp; done) | (simp [*]; done)), H', ⟨by have := HK1.out; omega⟩, ⟨by refine bq ?_; exact BK423.out⟩, ⟨by refine bq ?_; exact BK424.out⟩, ⟨by exact hs HB.out⟩⟩
          ·replace c24 := Bool.eq_false_iff.mpr c24
           subst c24
           have H1 : (impl_GreatestOf.l0 k1 l1 l2 x8_1 l2 (l2.length : Int) (wrap64 (x25_1 + 1)) l0_0) = some (r1, r2) := by rw [if_neg (show ¬ (false = true) by decide)] at H; exact H
           clear H
           have H := H1
           clear H1
           have H' := am H
           clear H
           have p426 : 0 ≤ (x25_1 : Int) := of_decide_eq_true (by first | (with_reducible assumption) | assumption)
           have q426 : x25_1 < (l2.length : Int) := of_decide_eq_true (by first | (with_reducible assumption) | assumption)
           obtain ⟨ad426, A426_0, c426_0, e426, hx426_0, hl426_0, hi426_0⟩ := Aj0 HR2.out x25_1 p426 q426
           cases e426
           replace hx426_0 := (HB.out.cell (World.block_lt_of_cell? w _ hx426_0)).trans hx426_0
           have HR426_0 := am hi426_0
           have HC426_0 := am hl426_0
           clear hi426_0 hl426_0
           replace p426 := eq_true p426
           replace q426 := eq_true q426
           try go_wp2
           have n0_ := am (Ag1 BK423.out)
           have n1_ := am (Ag1 BK424.out)
           have n2_ := am (Ac2 HB.out)
           clear BK423 BK424 HB; revert n0_ n1_ n2_; intro BK423 BK424 HB
           have p427 : 0 ≤ (x8_1 : Int) := of_decide_eq_true (by first | (with_reducible assumption) | assumption)
           have q427 : x8_1 < (l2.length : Int) := of_decide_eq_true (by first | (with_reducible assumption) | assumption)
           obtain ⟨ad427, A427_0, c427_0, e427, hx427_0, hl427_0, hi427_0⟩ := Aj0 HR2.out x8_1 p427 q427
           have hw427_0 := hx427_0
           obtain rfl : ad426 = ad427 := (by injection e427)
           replace hx427_0 := (HB.out.cell (World.block_lt_of_cell? w _ hx427_0)).trans hx427_0
           have HR427_0 := am hi427_0
           have HC427_0 := am hl427_0
           clear hi427_0 hl427_0
           replace p427 := eq_true p427
           replace q427 := eq_true q427
           refine Ae9 (n := 8) (S := fun w' => w'.cell? ⟨gb423, 0, none⟩ = some (.slice A0_0 l0_0.length c0_0) ∧ w'.cell? (ad426.add (x8_1).toNat) = some (.slice A427_0 (Ac9 l2 x8_1).length c427_0)) (ds := []) #[false, false, false, false, false, false, false, false] (by kernel_rfl) rfl rfl ⟨(Ab1 BK423.out 0).trans rfl, ((HB.out.cell (World.block_lt_of_cell? w _ hw427_0)).trans hw427_0)⟩ (fun hHeld => ?_); refine Ad1 impl_GreatestOf.tab10 impl_GreatestOf.bits10 (fun HT_ HW_ => ?_)
           generalize wr.drew = w27 at BK423 BK424 HB HR427_0 hx427_0 hHeld ⊢
           refine Ab2 (i := 1) (N := some 31) (v := ?_) (a' := ?_) #[false, true, false, false, false, false, false, false] rfl rfl (Aa9 HT_.out (by kernel_rfl)) (fun _ _ _ h => h) (Or.inl ⟨by rfl, ?_⟩) ?_ ?_
           rotate_left
           ·intro w'
            go_simp
            with_reducible rfl
           rotate_left
           ·simp only [Act.put, lsp, Aa8, Ab0]
            rfl
           refine Ab2 (i := 2) (N := some 32) (v := ?_) (a' := ?_) #[false, true, true, false, false, false, false, false] rfl rfl (Aa9 HT_.out (by kernel_rfl)) (fun _ _ _ h => h) (Or.inl ⟨by rfl, ?_⟩) ?_ ?_
           rotate_left
           ·intro w'
            go_simp
            with_reducible rfl
           rotate_left
           ·simp only [Act.put, lsp, Aa8, Ab0]
            rfl
           refine Ab2 (i := 3) (N := some 33) (v := ?_) (a' := ?_) #[false, true, true, true, false, false, false, false] rfl rfl (Aa9 HT_.out (by kernel_rfl)) (fun _ _ _ h => h) (Or.inl ⟨by rfl, ?_⟩) ?_ ?_
           rotate_left
           ·intro w'
            go_simp
            with_reducible rfl
           rotate_left
           ·simp only [Act.put, lsp, Aa8, Ab0]
            rfl
           refine Ab2 (i := 4) (N := some 34) (v := ?_) (a' := ?_) #[false, true, true, true, true, false, false, false] rfl rfl (Aa9 HT_.out (by kernel_rfl)) (fun _ _ _ h => h) (Or.inl ⟨by rfl, ?_⟩) ?_ ?_
           rotate_left
           ·intro w'
            go_simp
            with_reducible rfl
           rotate_left
           ·simp only [Act.put, lsp, Aa8, Ab0]
            rfl
           refine Ab2 (i := 5) (N := some 35) (v := ?_) (a' := ?_) #[false, true, true, true, true, true, false, false] rfl rfl (Aa9 HT_.out (by kernel_rfl)) (fun _ _ _ h => h) (Or.inl ⟨by rfl, ?_⟩) ?_ ?_
           rotate_left
           ·intro w'
            go_simp
            with_reducible rfl
           rotate_left
           ·simp only [Act.put, lsp, Aa8, Ab0]
            rfl
           refine take_ (i := 0) (N := some 30) (v := ?_) (a' := ?_) #[true, true, true, true, true, true, false, false] rfl rfl (Ac0 HT_.out HW_.out (by kernel_rfl)) (fun _ _ _ h => h) (Or.inl ⟨by rfl, ?_⟩) hHeld ?_ ?_
           rotate_left
           ·rintro w' ⟨s0, s1⟩
            go_simp
            with_reducible rfl
           rotate_left
           ·simp only [Act.put, lsp, Aa8, Ab0]
            rfl
           refine take_ (i := 6) (N := some 36) (v := ?_) (a' := ?_) #[true, true, true, true, true, true, true, false] rfl rfl (Ac0 HT_.out HW_.out (by kernel_rfl)) (fun _ _ _ h => h) (Or.inl ⟨by rfl, ?_⟩) hHeld ?_ ?_
           rotate_left
           ·rintro w' ⟨s0, s1⟩
            go_simp
            with_reducible rfl
           rotate_left
           ·simp only [Act.put, lsp, Aa8, Ab0]
            rfl
           refine Al7 (i := 7) (N := some 37) #[true, true, true, true, true, true, true, true] rfl rfl (Af4 HT_.out (by kernel_rfl)) (by decide) (fun K hK => ?_)
           refine Ah1 Tryd.func32 (by kernel_rfl) rfl #[.agg #[.slice A0_0 l0_0.length c0_0], .slice A1 l1.length c1, .slice A426_0 (Ac9 l2 x25_1).length c426_0, .slice A427_0 (Ac9 l2 x8_1).length c427_0] (by rfl) rfl rfl el ?_
           with_reducible refine (impl_isGreater.calls k1 _ _ l0_0 _ _ l1 _ _ (Ac9 l2 x25_1) _ _ (Ac9 l2 x8_1) false _ ?side1 ?side2 ?side3 ?side4 ?side5 ?side6 ?side7 ?side8 A23.out).mono ?_
           (case side1 => exact cq (Kd.C_below HR0_0.out HB.out))
           (case side2 => exact HC0_0.out)
           (case side3 => exact cq (Kd.C_below HR1.out HB.out))
           (case side4 => exact HC1.out)
           (case side5 => exact cq (Kd.C_below HR426_0.out HB.out))
           (case side6 => exact HC426_0.out)
           (case side7 => exact cq (Kd.C_below HR427_0.out HB.out))
           (case side8 => exact HC427_0.out)
           rintro e w28 ⟨rfl, hb⟩
           refine ⟨_, rfl, ?_⟩
           have n0_ := am (Aa7 (bq BK423.out) hb)
           have n1_ := am (Aa7 (bq BK424.out) hb)
           have n2_ := am (Aa2 (hs HB.out) hb)
           clear BK423 BK424 HB; revert n0_ n1_ n2_; intro BK423 BK424 HB
           (try clear hb)
           (try clear hb2)
           (try clear hgw)
           (try clear hk)
           (try clear hi)
           refine hK.out _ _ ⟨(Ab1 BK423.out 0).trans rfl, ((HB.out.cell (World.block_lt_of_cell? w _ hw427_0)).trans hw427_0)⟩ (fun hHeld => ?_)
           clear hK K
           refine Ah0 (a' := ?_) ?_ ?_
           rotate_left
           ·show Act.put _ (some 37) _ = _
            simp only [Act.put, lsp, Aa8, Ab0]
            rfl
           refine Ah2 (Ae1 HT_.out (by kernel_rfl)) ?_
           try go_wp2
           go_roundg k1
           case measure => have := HK1.out; omega
           case rel => exact ⟨(x8_1), (wrap64 (x25_1 + 1)), (by first | rfl | (simp; done) | (simp [*]; done)), (by first | rfl | (simp; done) | (simp [*]; done)), H', ⟨by have := HK1.out; omega⟩, ⟨by refine bq ?_; exact BK423.out⟩, ⟨by refine bq ?_; exact BK424.out⟩, ⟨by exact hs HB.out⟩⟩
         ·rw [if_neg c22] at H
          exact absurd H (by simp)
        ·rw [if_neg c21] at H
         exact absurd H (by simp)
       ·rw [if_neg c20] at H
        exact absurd H (by simp)
      ·rw [if_neg c19] at H
       exact absurd H (by simp)
     ·rw [if_neg c18] at H
      have c18b0 : decide (x25_1 < (l2.length : Int)) = false := decide_eq_false c18
      clear c18
      simp only [Option.some.injEq, Prod.mk.injEq] at H
      obtain ⟨rfl, rfl⟩ := H
      have hnb29 := NB424_423.out
      have hnc29 := NB423_424.out
      have hcz30_0 : wr.cell? ⟨gb424, 0, none⟩ = some (.int .i64 0) := (Ab1 BK424.out 0).trans rfl
      have hcz30_1 : wr.cell? ⟨gb424, 1, none⟩ = some (.int .i64 0) := (Ab1 BK424.out 1).trans rfl
      have hfz30_0 := Aa5 BK424.out 0
      have hfz30_1 := Aa5 BK424.out 1
      go_wp2
      refine bodyPost_ret (results_cell_row rfl _ _ gb424 28 #[.int .i64 0, .int .i64 x8_1] (0, 0) _ rfl (by refine bq ?_; refine Ad6 (cs := #[.int .i64 0, .int .i64 0]) ?_ 1 _ rfl; refine bq ?_; refine Ad6 (cs := #[.int .i64 0, .int .i64 0]) ?_ 0 _ rfl; refine bq ?_; exact BK424.out) Tryd.underlying28 rfl (by kernel_rfl)) rfl ?_
      exact ⟨by first | rfl | (simp [Aa0, Aa1] <;> rfl) | (simp [*, Aa0, Aa1] <;> rfl), by exact hs HB.out⟩
 ·rw [if_neg c5] at H
  have c5b0 : (t425 == 0) = false := beq_eq_false_iff_ne.mpr c5
  have c5b1 : (t425 != 0) = true := bne_iff_ne.mpr c5
  simp only [Option.some.injEq, Prod.mk.injEq] at H
  obtain ⟨rfl, rfl⟩ := H
  go_enter Tryd.func16, Tryd.ntmps16
  go_wp2_with (first | ((with_reducible refine Ab6 (N := 3) rfl ?_); refine Ab5 ?hg (N := 3) ?hd (cs := #[.slice A0_0 l0_0.length c0_0]) (t := 32) ?hr ?_; (case hd => rfl); (case hg => rfl); (case hr => first | (go_simp; done) | (go_simp; rfl)); intro gb423 hg w31 hbox hb; have n0_ := am (Aa2 (hq HB.out) hb); have n1_ := am (hbox); have n2_ := am (bz hg (hq HB.out)); have n3_ := n2_; clear HB; revert n0_ n1_ n2_ n3_; intro HB BK423 GW423 GE423; clear hb hbox hg) | ((with_reducible refine Ab6 (N := 6) rfl ?_); refine Ab5 ?hg (N := 6) ?hd (cs := #[.int .i64 0, .int .i64 0]) (t := 28) ?hr ?_; (case hd => rfl); (case hg => rfl); (case hr => first | (go_simp; done) | (go_simp; rfl)); intro gb424 hg w32 hbox hb; have n0_ := am (Aa7 (bq BK423.out) hb); have n1_ := am (Aa2 (hs HB.out) hb); have n2_ := am (hbox); have n3_ := am (bz hg (hs HB.out)); have n4_ := n3_; have n5_ := am ((by rw [hg]; exact Nat.ne_of_lt (Ac4 (bq BK423.out)) : gb423 ≠ gb424)); have n6_ := am ((by rw [hg]; exact Nat.ne_of_gt (Ac4 (bq BK423.out)) : gb424 ≠ gb423)); clear BK423 HB; revert n0_ n1_ n2_ n3_ n4_ n5_ n6_; intro BK423 HB BK424 GW424 GE424 NB423_424 NB424_423; clear hb hbox hg; have hnb33 := NB423_424.out; have hnc33 := NB424_423.out; have hcz34_0 : w32.cell? ⟨gb423, 0, none⟩ = some (.slice A0_0 l0_0.length c0_0) := (Ab1 BK423.out 0).trans rfl; have hfz34_0 := Aa5 BK423.out 0) | ((with_reducible refine Aa4 (f := 31) rfl ?_); refine Ab8 (some 14) rfl rfl Tryd.func31 (by kernel_rfl) rfl #[.agg #[.slice A0_0 l0_0.length c0_0], .slice A1 l1.length c1, .slice A2 l2.length c2] rfl el ?_; (with_reducible refine (impl_sortFault.calls k _ _ l0_0 _ _ l1 _ _ l2 t425 _ ?side1 ?side2 ?side3 ?side4 ?side5 ?side6 A4.out).mono ?_); (case side1 => exact cq (Kd.C_below HR0_0.out HB.out)); (case side2 => exact HC0_0.out); (case side3 => exact cq (Kd.C_below HR1.out HB.out)); (case side4 => exact HC1.out); (case side5 => exact cq (Kd.C_below HR2.out HB.out)); (case side6 => exact HC2.out); rintro e w35 ⟨rfl, hb⟩; refine ⟨_, rfl, ?_⟩; have n0_ := am (Aa7 (bq BK423.out) hb); have n1_ := am (Aa7 (bq BK424.out) hb); have n2_ := am (Aa2 (hs HB.out) hb); clear BK423 BK424 HB; revert n0_ n1_ n2_; intro BK423 BK424 HB; (try clear hb); (try clear hb2); (try clear hgw); (try clear hk); (try clear hi); have hcz36_0 : w35.cell? ⟨gb424, 0, none⟩ = some (.int .i64 0) := (Ab1 BK424.out 0).trans rfl; have hcz36_1 : w35.cell? ⟨gb424, 1, none⟩ = some (.int .i64 0) := (Ab1 BK424.out 1).trans rfl; have hfz36_0 := Aa5 BK424.out 0; have hfz36_1 := Aa5 BK424.out 1))
  refine bodyPost_ret (results_cell_row rfl _ _ gb424 28 #[.int .i64 t425, .int .i64 0] (0, 0) _ rfl (by refine bq ?_; refine Ad6 (cs := #[.int .i64 t425, .int .i64 0]) ?_ 1 _ rfl; refine bq ?_; refine Ad6 (cs := #[.int .i64 0, .int .i64 0]) ?_ 0 _ rfl; refine bq ?_; exact BK424.out) Tryd.underlying28 rfl (by kernel_rfl)) rfl ?_
  exact ⟨by first | rfl | (simp [Aa0, Aa1] <;> rfl) | (simp [*, Aa0, Aa1] <;> rfl), by exact hs HB.out⟩
end Go.Proofs.YtgichahebemmiaaDoor.P
namespace Go.Proofs.YtgichahebemmiaaDoor.P
open Go.RowKit Go.Proofs.YtgichahebemmiaaDoorW.PrintWords Go.Proofs.YtgichahebemmiaaDoorW.PrintLast Go.Proofs.YtgichahebemmiaaDoorW.PrintMore
attribute [local go_sem] Ae6 Ae5 Af7 Af8 Ad9 Ad8 Ae4 Ae3   -- for this text's walks alone
set_option linter.unusedVariables false
set_option linter.unusedSimpArgs false
def laws_eqInt64SS.l0 : Nat → List (List Int) → List (List Int) → Int → Option (Bool)
 | 0, _, _, _ => none
 | k + 1, x0, x1, x5 => if x5 < (x0.length : Int) then (if 0 ≤ x5 then (if x5 < (x1.length : Int) then ((laws_eqInt64S.f k (Ac9 x0 x5) (Ac9 x1 x5)).bind fun t431 => (if t431 = true then (laws_eqInt64SS.l0 k x0 x1 (wrap64 (x5 + 1))) else (some false))) else (none)) else (none)) else (some true)
def laws_eqInt64SS.f (k : Nat) (l0 : List (List Int)) (l1 : List (List Int)) : Option (Bool) := if (l0.length : Int) = (l1.length : Int) then (laws_eqInt64SS.l0 k l0 l1 0) else (some false)
set_option maxHeartbeats 8000000 in
set_option maxRecDepth 100000 in
theorem laws_eqInt64SS.calls (k : Nat) (A0 : Option Addr) (c0 : Nat) (l0 : List (List Int)) (A1 : Option Addr) (c1 : Nat) (l1 : List (List Int)) (r : Bool) (w : World) (hr0 : Kd.C (Kd.slice 2 (Kd.int .i64)) w A0 l0.length l0) (hc0 : l0.length ≤ c0) (hr1 : Kd.C (Kd.slice 2 (Kd.int .i64)) w A1 l1.length l1) (hc1 : l1.length ≤ c1) (h : laws_eqInt64SS.f k l0 l1 = some r) :
  Calls Tryd.prog 17 #[.slice A0 l0.length c0, .slice A1 l1.length c1] w fun e w' => e = .returned (.bool r) ∧ Drawn0 w w' := by
 have HR0 := am hr0
 have HC0 := am hc0
 clear hr0 hc0
 have HR1 := am hr1
 have HC1 := am hc1
 clear hr1 hc1
 have H : (if (l0.length : Int) = (l1.length : Int) then (laws_eqInt64SS.l0 k l0 l1 0) else (some false)) = some r := h
 clear h
 by_cases c3 : (l0.length : Int) = (l1.length : Int)
 ·rw [if_pos c3] at H
  have c3b0 : ((l0.length : Int) == (l1.length : Int)) = true := beq_iff_eq.mpr c3
  have c3b1 : ((l0.length : Int) != (l1.length : Int)) = false := bne_eq_false_iff_eq.mpr c3
  have c3b2 : (l0.length == l1.length) = true := by first | simpa using c3 | (simp at c3 ⊢; omega)
  clear c3
  have H' := am H
  clear H
  go_enter Tryd.func17, Tryd.ntmps17
  go_wp2
  repeat (go_quiet (fail); try go_wp2)
  go_loopg [5] k (fun kq v5 w' => ∃ (x5_1 : Int), v5 = .int .i64 x5_1 ∧ Aside0 (laws_eqInt64SS.l0 kq l0 l1 x5_1 = some r) ∧ Aside0 (kq ≤ k) ∧ Drawn0 w w')
  case atStart => exact ⟨(0), (by first | rfl | (simp; done) | (simp [*]; done)), H', ⟨Nat.le_refl _⟩, by repeat (first | exact Drawn0.refl _ | apply Drawn0.step)⟩
  case round =>
   clear H'
   try clear c1; try clear p2; try clear c3; try clear c3b0; try clear c3b1; try clear c3b2
   obtain ⟨x5_1, rfl, HA, HK1, ⟨m1, rfl⟩⟩ := hrel
   cases gk with
   | zero => exact absurd HA.out (by simp [laws_eqInt64SS.l0])
   | succ k1 =>
    have H := HA.out
    clear HA
    simp only [laws_eqInt64SS.l0] at H
    by_cases c4 : x5_1 < (l0.length : Int)
    ·rw [if_pos c4] at H
     have c4b0 : decide (x5_1 < (l0.length : Int)) = true := decide_eq_true c4
     clear c4
     by_cases c5 : 0 ≤ x5_1
     ·rw [if_pos c5] at H
      have c5b0 : decide (0 ≤ x5_1) = true := decide_eq_true c5
      clear c5
      by_cases c6 : x5_1 < (l1.length : Int)
      ·rw [if_pos c6] at H
       have c6b0 : decide (x5_1 < (l1.length : Int)) = true := decide_eq_true c6
       clear c6
       replace H := Option.bind_eq_some_iff.mp H
       obtain ⟨t431, A70, H⟩ := H
       replace H : (if t431 = true then (laws_eqInt64SS.l0 k1 l0 l1 (wrap64 (x5_1 + 1))) else (some false)) = some r := H
       have A7 := am A70
       clear A70
       by_cases c8 : t431 = true
       ·subst c8
        have H1 : (laws_eqInt64SS.l0 k1 l0 l1 (wrap64 (x5_1 + 1))) = some r := by rw [if_pos rfl] at H; exact H
        clear H
        have H := H1
        clear H1
        have H' := am H
        clear H
        have p429 : 0 ≤ (x5_1 : Int) := of_decide_eq_true (by first | (with_reducible assumption) | assumption)
        have q429 : x5_1 < (l0.length : Int) := of_decide_eq_true (by first | (with_reducible assumption) | assumption)
        obtain ⟨ad429, A429_0, c429_0, e429, hx429_0, hl429_0, hi429_0⟩ := Aj0 HR0.out x5_1 p429 q429
        cases e429
        have HR429_0 := am hi429_0
        have HC429_0 := am hl429_0
        clear hi429_0 hl429_0
        replace p429 := eq_true p429
        replace q429 := eq_true q429
        have p430 : 0 ≤ (x5_1 : Int) := of_decide_eq_true (by first | (with_reducible assumption) | assumption)
        have q430 : x5_1 < (l1.length : Int) := of_decide_eq_true (by first | (with_reducible assumption) | assumption)
        obtain ⟨ad430, A430_0, c430_0, e430, hx430_0, hl430_0, hi430_0⟩ := Aj0 HR1.out x5_1 p430 q430
        cases e430
        have HR430_0 := am hi430_0
        have HC430_0 := am hl430_0
        clear hi430_0 hl430_0
        replace p430 := eq_true p430
        replace q430 := eq_true q430
        go_wp2_with (first | (go_at_call 12; (with_reducible refine (laws_eqInt64S.calls k1 _ _ (Ac9 l0 x5_1) _ _ (Ac9 l1 x5_1) true _ ?side1 ?side2 ?side3 ?side4 A7.out).mono ?_); (case side1 => exact cq HR429_0.out); (case side2 => exact HC429_0.out); (case side3 => exact cq HR430_0.out); (case side4 => exact HC430_0.out); rintro e w' ⟨rfl, ⟨nd, rfl⟩⟩; (try first | exact ⟨rfl, _, World.drewN_drewN _ _ _⟩ | exact ⟨rfl, _, Eq.trans (World.drewN_drewN _ _ _) (congrArg (World.drewN _) (Nat.add_assoc _ _ _))⟩)))
        repeat (go_quiet (first | (go_at_call 12; (with_reducible refine (laws_eqInt64S.calls k1 _ _ (Ac9 l0 x5_1) _ _ (Ac9 l1 x5_1) true _ ?side1 ?side2 ?side3 ?side4 A7.out).mono ?_); (case side1 => exact cq HR429_0.out); (case side2 => exact HC429_0.out); (case side3 => exact cq HR430_0.out); (case side4 => exact HC430_0.out); rintro e w' ⟨rfl, ⟨nd, rfl⟩⟩; (try first | exact ⟨rfl, _, World.drewN_drewN _ _ _⟩ | exact ⟨rfl, _, Eq.trans (World.drewN_drewN _ _ _) (congrArg (World.drewN _) (Nat.add_assoc _ _ _))⟩))); try go_wp2_with (first | (go_at_call 12; (with_reducible refine (laws_eqInt64S.calls k1 _ _ (Ac9 l0 x5_1) _ _ (Ac9 l1 x5_1) true _ ?side1 ?side2 ?side3 ?side4 A7.out).mono ?_); (case side1 => exact cq HR429_0.out); (case side2 => exact HC429_0.out); (case side3 => exact cq HR430_0.out); (case side4 => exact HC430_0.out); rintro e w' ⟨rfl, ⟨nd, rfl⟩⟩; (try first | exact ⟨rfl, _, World.drewN_drewN _ _ _⟩ | exact ⟨rfl, _, Eq.trans (World.drewN_drewN _ _ _) (congrArg (World.drewN _) (Nat.add_assoc _ _ _))⟩))))
        go_roundg k1
        case measure => have := HK1.out; omega
        case rel => exact ⟨(wrap64 (x5_1 + 1)), (by first | rfl | (simp; done) | (simp [*]; done)), H', ⟨by have := HK1.out; omega⟩, by repeat (first | exact Drawn0.refl _ | apply Drawn0.step)⟩
       ·replace c8 := Bool.eq_false_iff.mpr c8
        subst c8
        have H1 : (some false) = some r := by rw [if_neg (show ¬ (false = true) by decide)] at H; exact H
        clear H
        have H := H1
        clear H1
        obtain rfl := Option.some.inj H
        have p429 : 0 ≤ (x5_1 : Int) := of_decide_eq_true (by first | (with_reducible assumption) | assumption)
        have q429 : x5_1 < (l0.length : Int) := of_decide_eq_true (by first | (with_reducible assumption) | assumption)
        obtain ⟨ad429, A429_0, c429_0, e429, hx429_0, hl429_0, hi429_0⟩ := Aj0 HR0.out x5_1 p429 q429
        cases e429
        have HR429_0 := am hi429_0
        have HC429_0 := am hl429_0
        clear hi429_0 hl429_0
        replace p429 := eq_true p429
        replace q429 := eq_true q429
        have p430 : 0 ≤ (x5_1 : Int) := of_decide_eq_true (by first | (with_reducible assumption) | assumption)
        have q430 : x5_1 < (l1.length : Int) := of_decide_eq_true (by first | (with_reducible assumption) | assumption)
        obtain ⟨ad430, A430_0, c430_0, e430, hx430_0, hl430_0, hi430_0⟩ := Aj0 HR1.out x5_1 p430 q430
        cases e430
        have HR430_0 := am hi430_0
        have HC430_0 := am hl430_0
        clear hi430_0 hl430_0
        replace p430 := eq_true p430
        replace q430 := eq_true q430
        go_wp2_with (first | (go_at_call 12; (with_reducible refine (laws_eqInt64S.calls k1 _ _ (Ac9 l0 x5_1) _ _ (Ac9 l1 x5_1) false _ ?side1 ?side2 ?side3 ?side4 A7.out).mono ?_); (case side1 => exact cq HR429_0.out); (case side2 => exact HC429_0.out); (case side3 => exact cq HR430_0.out); (case side4 => exact HC430_0.out); rintro e w' ⟨rfl, ⟨nd, rfl⟩⟩; (try first | exact ⟨rfl, _, World.drewN_drewN _ _ _⟩ | exact ⟨rfl, _, Eq.trans (World.drewN_drewN _ _ _) (congrArg (World.drewN _) (Nat.add_assoc _ _ _))⟩)))
        repeat (go_quiet (first | (go_at_call 12; (with_reducible refine (laws_eqInt64S.calls k1 _ _ (Ac9 l0 x5_1) _ _ (Ac9 l1 x5_1) false _ ?side1 ?side2 ?side3 ?side4 A7.out).mono ?_); (case side1 => exact cq HR429_0.out); (case side2 => exact HC429_0.out); (case side3 => exact cq HR430_0.out); (case side4 => exact HC430_0.out); rintro e w' ⟨rfl, ⟨nd, rfl⟩⟩; (try first | exact ⟨rfl, _, World.drewN_drewN _ _ _⟩ | exact ⟨rfl, _, Eq.trans (World.drewN_drewN _ _ _) (congrArg (World.drewN _) (Nat.add_assoc _ _ _))⟩))); try go_wp2_with (first | (go_at_call 12; (with_reducible refine (laws_eqInt64S.calls k1 _ _ (Ac9 l0 x5_1) _ _ (Ac9 l1 x5_1) false _ ?side1 ?side2 ?side3 ?side4 A7.out).mono ?_); (case side1 => exact cq HR429_0.out); (case side2 => exact HC429_0.out); (case side3 => exact cq HR430_0.out); (case side4 => exact HC430_0.out); rintro e w' ⟨rfl, ⟨nd, rfl⟩⟩; (try first | exact ⟨rfl, _, World.drewN_drewN _ _ _⟩ | exact ⟨rfl, _, Eq.trans (World.drewN_drewN _ _ _) (congrArg (World.drewN _) (Nat.add_assoc _ _ _))⟩))))
        go_ret
        exact ⟨by first | rfl | (simp; done) | (simp [*]; done), by repeat (first | exact Drawn0.refl _ | apply Drawn0.step)⟩
      ·rw [if_neg c6] at H
       exact absurd H (by simp)
     ·rw [if_neg c5] at H
      exact absurd H (by simp)
    ·rw [if_neg c4] at H
     have c4b0 : decide (x5_1 < (l0.length : Int)) = false := decide_eq_false c4
     clear c4
     obtain rfl := Option.some.inj H
     go_wp2
     repeat (go_quiet (fail); try go_wp2)
     go_ret
     exact ⟨by first | rfl | (simp; done) | (simp [*]; done), by repeat (first | exact Drawn0.refl _ | apply Drawn0.step)⟩
 ·rw [if_neg c3] at H
  have c3b0 : ((l0.length : Int) == (l1.length : Int)) = false := beq_eq_false_iff_ne.mpr c3
  have c3b1 : ((l0.length : Int) != (l1.length : Int)) = true := bne_iff_ne.mpr c3
  have c3b2 : (l0.length == l1.length) = false := by first | simpa using c3 | (simp at c3 ⊢; omega)
  obtain rfl := Option.some.inj H
  go_enter Tryd.func17, Tryd.ntmps17
  go_wp2
  repeat (go_quiet (fail); try go_wp2)
  go_ret
  exact ⟨by first | rfl | (simp; done) | (simp [*]; done), by repeat (first | exact Drawn0.refl _ | apply Drawn0.step)⟩
end Go.Proofs.YtgichahebemmiaaDoor.P
namespace Go.Proofs.YtgichahebemmiaaDoor.P
open Go.RowKit Go.Proofs.YtgichahebemmiaaDoorW.PrintWords Go.Proofs.YtgichahebemmiaaDoorW.PrintLast Go.Proofs.YtgichahebemmiaaDoorW.PrintMore
attribute [local go_sem] Ae6 Ae5 Af7 Af8 Ad9 Ad8 Ae4 Ae3   -- for this text's walks alone
set_option linter.unusedVariables false
set_option linter.unusedSimpArgs false
def laws_FnExactGreatestOf.f (k : Nat) (l0_0 : List (S61)) (l1 : List Int) (l2 : List (List Int)) : Option (Bool) := if (l1.length : Int) > 1048576 then (some true) else ((laws_szSignature.f k l0_0 1048576).bind fun t433 => (if t433 < 0 then (some true) else ((laws_szInt64SS.f k l2 t433).bind fun t434 => (if t434 < 0 then (some true) else ((laws_toSignature.f k l0_0).bind fun t435 => ((laws_toInt64S.f k l1).bind fun t438 => ((laws_toInt64SS.f k l2).bind fun t441 => ((spec_GreatestOf.f k t435 t438 t441).bind fun bt444 => ((laws_toSignature.f k l0_0).bind fun t447 => ((laws_toInt64S.f k l1).bind fun t451 => ((laws_toInt64SS.f k l2).bind fun t454 => ((impl_GreatestOf.f k t447 t451 t454).bind fun bt457 => ((laws_eqIntResult.f bt457.1 bt457.2 bt444.1 bt444.2).bind fun t460 => (if t460 = true then ((laws_toSignature.f k l0_0).bind fun t461 => ((laws_eqSignature.f k t447 t461).bind fun t464 => (if t464 = true then ((laws_toInt64S.f k l1).bind fun t465 => ((laws_eqInt64S.f k t451 t465).bind fun t468 => (if t468 = true then ((laws_toInt64SS.f k l2).bind fun t469 => ((laws_eqInt64SS.f k t454 t469).bind fun t472 => (if t472 = true then (some true) else (some false)))) else (some false)))) else (some false)))) else (some false)))))))))))))))
set_option maxHeartbeats 8000000 in
set_option maxRecDepth 100000 in
theorem laws_FnExactGreatestOf.calls (k : Nat) (A0_0 : Option Addr) (c0_0 : Nat) (l0_0 : List (S61)) (A1 : Option Addr) (c1 : Nat) (l1 : List Int) (A2 : Option Addr) (c2 : Nat) (l2 : List (List Int)) (r : Bool) (w : World) (hr0_0 : Kd.C k61 w A0_0 l0_0.length l0_0) (hc0_0 : l0_0.length ≤ c0_0) (hr1 : Kd.C (Kd.int .i64) w A1 l1.length l1) (hc1 : l1.length ≤ c1) (hr2 : Kd.C (Kd.slice 2 (Kd.int .i64)) w A2 l2.length l2) (hc2 : l2.length ≤ c2) (h : laws_FnExactGreatestOf.f k l0_0 l1 l2 = some r) (ht_ : r = true := by rfl) :
  Calls Tryd.prog 4 #[.agg #[.slice A0_0 l0_0.length c0_0], .slice A1 l1.length c1, .slice A2 l2.length c2] w fun e w' => e = .returned (.bool r) ∧ Below w.heap.size w w' := by
 have hu24 := Tryd.underlying24
 have hu28 := Tryd.underlying28
 have hu32 := Tryd.underlying32
 have HR0_0 := am hr0_0
 have HC0_0 := am hc0_0
 clear hr0_0 hc0_0
 have HR1 := am hr1
 have HC1 := am hc1
 clear hr1 hc1
 have HR2 := am hr2
 have HC2 := am hc2
 clear hr2 hc2
 have HB := am (Below.refl w.heap.size w)
 have H : (if (l1.length : Int) > 1048576 then (some true) else ((laws_szSignature.f k l0_0 1048576).bind fun t433 => (if t433 < 0 then (some true) else ((laws_szInt64SS.f k l2 t433).bind fun t434 => (if t434 < 0 then (some true) else ((laws_toSignature.f k l0_0).bind fun t435 => ((laws_toInt64S.f k l1).bind fun t438 => ((laws_toInt64SS.f k l2).bind fun t441 => ((spec_GreatestOf.f k t435 t438 t441).bind fun bt444 => ((laws_toSignature.f k l0_0).bind fun t447 => ((laws_toInt64S.f k l1).bind fun t451 => ((laws_toInt64SS.f k l2).bind fun t454 => ((impl_GreatestOf.f k t447 t451 t454).bind fun bt457 => ((laws_eqIntResult.f bt457.1 bt457.2 bt444.1 bt444.2).bind fun t460 => (if t460 = true then ((laws_toSignature.f k l0_0).bind fun t461 => ((laws_eqSignature.f k t447 t461).bind fun t464 => (if t464 = true then ((laws_toInt64S.f k l1).bind fun t465 => ((laws_eqInt64S.f k t451 t465).bind fun t468 => (if t468 = true then ((laws_toInt64SS.f k l2).bind fun t469 => ((laws_eqInt64SS.f k t454 t469).bind fun t472 => (if t472 = true then (some true) else (some false)))) else (some false)))) else (some false)))) else (some false)))))))))))))))) = some r := h
 clear h
 by_cases c4 : (l1.length : Int) > 1048576
 ·rw [if_pos c4] at H
  have c4b0 : decide (1048576 < (l1.length : Int)) = true := decide_eq_true c4
  have c4b1 : decide (1048576 < l1.length) = true := decide_eq_true (by omega)
  clear c4
  obtain rfl := Option.some.inj H
  go_enter Tryd.func4, Tryd.ntmps4
  go_wp2_with (first | ((with_reducible refine Ab6 (N := 3) rfl ?_); refine Ab5 ?hg (N := 3) ?hd (cs := #[.slice A0_0 l0_0.length c0_0]) (t := 24) ?hr ?_; (case hd => rfl); (case hg => rfl); (case hr => first | (go_simp; done) | (go_simp; rfl)); intro gb432 hg w5 hbox hb; have n0_ := am (Aa2 (hq HB.out) hb); have n1_ := am (hbox); have n2_ := am (bz hg (hq HB.out)); have n3_ := n2_; clear HB; revert n0_ n1_ n2_ n3_; intro HB BK432 GW432 GE432; clear hb hbox hg))
  go_ret
  exact ⟨by first | rfl | (simp [Aa0, Aa1] <;> rfl) | (simp [*, Aa0, Aa1] <;> rfl), by exact hs HB.out⟩
 ·rw [if_neg c4] at H
  have c4b0 : decide (1048576 < (l1.length : Int)) = false := decide_eq_false c4
  have c4b1 : decide (1048576 < l1.length) = false := decide_eq_false (by omega)
  clear c4
  replace H := Option.bind_eq_some_iff.mp H
  obtain ⟨t433, A60, H⟩ := H
  replace H : (if t433 < 0 then (some true) else ((laws_szInt64SS.f k l2 t433).bind fun t434 => (if t434 < 0 then (some true) else ((laws_toSignature.f k l0_0).bind fun t435 => ((laws_toInt64S.f k l1).bind fun t438 => ((laws_toInt64SS.f k l2).bind fun t441 => ((spec_GreatestOf.f k t435 t438 t441).bind fun bt444 => ((laws_toSignature.f k l0_0).bind fun t447 => ((laws_toInt64S.f k l1).bind fun t451 => ((laws_toInt64SS.f k l2).bind fun t454 => ((impl_GreatestOf.f k t447 t451 t454).bind fun bt457 => ((laws_eqIntResult.f bt457.1 bt457.2 bt444.1 bt444.2).bind fun t460 => (if t460 = true then ((laws_toSignature.f k l0_0).bind fun t461 => ((laws_eqSignature.f k t447 t461).bind fun t464 => (if t464 = true then ((laws_toInt64S.f k l1).bind fun t465 => ((laws_eqInt64S.f k t451 t465).bind fun t468 => (if t468 = true then ((laws_toInt64SS.f k l2).bind fun t469 => ((laws_eqInt64SS.f k t454 t469).bind fun t472 => (if t472 = true then (some true) else (some false)))) else (some false)))) else (some false)))) else (some false)))))))))))))) = some r := H
  have A6 := am A60
  clear A60
  by_cases c7 : t433 < 0
  ·rw [if_pos c7] at H
   have c7b0 : decide (t433 < 0) = true := decide_eq_true c7
   clear c7
   obtain rfl := Option.some.inj H
   go_enter Tryd.func4, Tryd.ntmps4
   go_wp2_with (first | ((with_reducible refine Ab6 (N := 3) rfl ?_); refine Ab5 ?hg (N := 3) ?hd (cs := #[.slice A0_0 l0_0.length c0_0]) (t := 24) ?hr ?_; (case hd => rfl); (case hg => rfl); (case hr => first | (go_simp; done) | (go_simp; rfl)); intro gb432 hg w8 hbox hb; have n0_ := am (Aa2 (hq HB.out) hb); have n1_ := am (hbox); have n2_ := am (bz hg (hq HB.out)); have n3_ := n2_; clear HB; revert n0_ n1_ n2_ n3_; intro HB BK432 GW432 GE432; clear hb hbox hg; have hcz9_0 : w8.cell? ⟨gb432, 0, none⟩ = some (.slice A0_0 l0_0.length c0_0) := (Ab1 BK432.out 0).trans rfl; have hfz9_0 := Aa5 BK432.out 0) | ((with_reducible refine Aa4 (f := 5) rfl ?_); refine Ab8 (some 18) rfl rfl Tryd.func5 (by kernel_rfl) rfl #[.agg #[.slice A0_0 l0_0.length c0_0], .int .i64 1048576] rfl el ?_; (with_reducible refine (laws_szSignature.calls k _ _ l0_0 1048576 t433 _ ?side1 ?side2 A6.out).mono ?_); (case side1 => exact cq (Kd.C_below HR0_0.out HB.out)); (case side2 => exact HC0_0.out); rintro e w10 ⟨rfl, hb⟩; refine ⟨_, rfl, ?_⟩; have n0_ := am (Aa7 (bq BK432.out) hb); have n1_ := am (Aa2 (hs HB.out) hb); clear BK432 HB; revert n0_ n1_; intro BK432 HB; (try clear hb); (try clear hb2); (try clear hgw); (try clear hk); (try clear hi)))
   go_ret
   exact ⟨by first | rfl | (simp [Aa0, Aa1] <;> rfl) | (simp [*, Aa0, Aa1] <;> rfl), by exact hs HB.out⟩
  ·rw [if_neg c7] at H
   have c7b0 : decide (t433 < 0) = false := decide_eq_false c7
   clear c7
   replace H := Option.bind_eq_some_iff.mp H
   obtain ⟨t434, A110, H⟩ := H
   replace H : (if t434 < 0 then (some true) else ((laws_toSignature.f k l0_0).bind fun t435 => ((laws_toInt64S.f k l1).bind fun t438 => ((laws_toInt64SS.f k l2).bind fun t441 => ((spec_GreatestOf.f k t435 t438 t441).bind fun bt444 => ((laws_toSignature.f k l0_0).bind fun t447 => ((laws_toInt64S.f k l1).bind fun t451 => ((laws_toInt64SS.f k l2).bind fun t454 => ((impl_GreatestOf.f k t447 t451 t454).bind fun bt457 => ((laws_eqIntResult.f bt457.1 bt457.2 bt444.1 bt444.2).bind fun t460 => (if t460 = true then ((laws_toSignature.f k l0_0).bind fun t461 => ((laws_eqSignature.f k t447 t461).bind fun t464 => (if t464 = true then ((laws_toInt64S.f k l1).bind fun t465 => ((laws_eqInt64S.f k t451 t465).bind fun t468 => (if t468 = true then ((laws_toInt64SS.f k l2).bind fun t469 => ((laws_eqInt64SS.f k t454 t469).bind fun t472 => (if t472 = true then (some true) else (some false)))) else (some false)))) else (some false)))) else (some false)))))))))))) = some r := H
   have A11 := am A110
   clear A110
   by_cases c12 : t434 < 0
   ·rw [if_pos c12] at H
    have c12b0 : decide (t434 < 0) = true := decide_eq_true c12
    clear c12
    obtain rfl := Option.some.inj H
    go_enter Tryd.func4, Tryd.ntmps4
    go_wp2_with (first | ((with_reducible refine Ab6 (N := 3) rfl ?_); refine Ab5 ?hg (N := 3) ?hd (cs := #[.slice A0_0 l0_0.length c0_0]) (t := 24) ?hr ?_; (case hd => rfl); (case hg => rfl); (case hr => first | (go_simp; done) | (go_simp; rfl)); intro gb432 hg w13 hbox hb; have n0_ := am (Aa2 (hq HB.out) hb); have n1_ := am (hbox); have n2_ := am (bz hg (hq HB.out)); have n3_ := n2_; clear HB; revert n0_ n1_ n2_ n3_; intro HB BK432 GW432 GE432; clear hb hbox hg; have hcz14_0 : w13.cell? ⟨gb432, 0, none⟩ = some (.slice A0_0 l0_0.length c0_0) := (Ab1 BK432.out 0).trans rfl; have hfz14_0 := Aa5 BK432.out 0) | ((with_reducible refine Aa4 (f := 5) rfl ?_); refine Ab8 (some 18) rfl rfl Tryd.func5 (by kernel_rfl) rfl #[.agg #[.slice A0_0 l0_0.length c0_0], .int .i64 1048576] rfl el ?_; (with_reducible refine (laws_szSignature.calls k _ _ l0_0 1048576 t433 _ ?side1 ?side2 A6.out).mono ?_); (case side1 => exact cq (Kd.C_below HR0_0.out HB.out)); (case side2 => exact HC0_0.out); rintro e w15 ⟨rfl, hb⟩; refine ⟨_, rfl, ?_⟩; have n0_ := am (Aa7 (bq BK432.out) hb); have n1_ := am (Aa2 (hs HB.out) hb); clear BK432 HB; revert n0_ n1_; intro BK432 HB; (try clear hb); (try clear hb2); (try clear hgw); (try clear hk); (try clear hi)) | ((with_reducible refine Aa4 (f := 13) rfl ?_); refine Ab8 (some 23) rfl rfl Tryd.func13 (by kernel_rfl) rfl #[.slice A2 l2.length c2, .int .i64 t433] rfl el ?_; (with_reducible refine (laws_szInt64SS.calls k _ _ l2 t433 t434 _ ?side1 ?side2 A11.out).mono ?_); (case side1 => exact cq (Kd.C_below HR2.out HB.out)); (case side2 => exact HC2.out); rintro e w' ⟨rfl, ⟨nd, rfl⟩⟩; refine ⟨_, rfl, ?_⟩))
    go_ret
    exact ⟨by first | rfl | (simp [Aa0, Aa1] <;> rfl) | (simp [*, Aa0, Aa1] <;> rfl), by exact hs HB.out⟩
   ·rw [if_neg c12] at H
    have c12b0 : decide (t434 < 0) = false := decide_eq_false c12
    clear c12
    replace H := Option.bind_eq_some_iff.mp H
    obtain ⟨t435, A160, H⟩ := H
    replace H : ((laws_toInt64S.f k l1).bind fun t438 => ((laws_toInt64SS.f k l2).bind fun t441 => ((spec_GreatestOf.f k t435 t438 t441).bind fun bt444 => ((laws_toSignature.f k l0_0).bind fun t447 => ((laws_toInt64S.f k l1).bind fun t451 => ((laws_toInt64SS.f k l2).bind fun t454 => ((impl_GreatestOf.f k t447 t451 t454).bind fun bt457 => ((laws_eqIntResult.f bt457.1 bt457.2 bt444.1 bt444.2).bind fun t460 => (if t460 = true then ((laws_toSignature.f k l0_0).bind fun t461 => ((laws_eqSignature.f k t447 t461).bind fun t464 => (if t464 = true then ((laws_toInt64S.f k l1).bind fun t465 => ((laws_eqInt64S.f k t451 t465).bind fun t468 => (if t468 = true then ((laws_toInt64SS.f k l2).bind fun t469 => ((laws_eqInt64SS.f k t454 t469).bind fun t472 => (if t472 = true then (some true) else (some false)))) else (some false)))) else (some false)))) else (some false)))))))))) = some r := H
    have A16 := am A160
    clear A160
    replace H := Option.bind_eq_some_iff.mp H
    obtain ⟨t438, A170, H⟩ := H
    replace H : ((laws_toInt64SS.f k l2).bind fun t441 => ((spec_GreatestOf.f k t435 t438 t441).bind fun bt444 => ((laws_toSignature.f k l0_0).bind fun t447 => ((laws_toInt64S.f k l1).bind fun t451 => ((laws_toInt64SS.f k l2).bind fun t454 => ((impl_GreatestOf.f k t447 t451 t454).bind fun bt457 => ((laws_eqIntResult.f bt457.1 bt457.2 bt444.1 bt444.2).bind fun t460 => (if t460 = true then ((laws_toSignature.f k l0_0).bind fun t461 => ((laws_eqSignature.f k t447 t461).bind fun t464 => (if t464 = true then ((laws_toInt64S.f k l1).bind fun t465 => ((laws_eqInt64S.f k t451 t465).bind fun t468 => (if t468 = true then ((laws_toInt64SS.f k l2).bind fun t469 => ((laws_eqInt64SS.f k t454 t469).bind fun t472 => (if t472 = true then (some true) else (some false)))) else (some false)))) else (some false)))) else (some false))))))))) = some r := H
    have A17 := am A170
    clear A170
    replace H := Option.bind_eq_some_iff.mp H
    obtain ⟨t441, A180, H⟩ := H
    replace H : ((spec_GreatestOf.f k t435 t438 t441).bind fun bt444 => ((laws_toSignature.f k l0_0).bind fun t447 => ((laws_toInt64S.f k l1).bind fun t451 => ((laws_toInt64SS.f k l2).bind fun t454 => ((impl_GreatestOf.f k t447 t451 t454).bind fun bt457 => ((laws_eqIntResult.f bt457.1 bt457.2 bt444.1 bt444.2).bind fun t460 => (if t460 = true then ((laws_toSignature.f k l0_0).bind fun t461 => ((laws_eqSignature.f k t447 t461).bind fun t464 => (if t464 = true then ((laws_toInt64S.f k l1).bind fun t465 => ((laws_eqInt64S.f k t451 t465).bind fun t468 => (if t468 = true then ((laws_toInt64SS.f k l2).bind fun t469 => ((laws_eqInt64SS.f k t454 t469).bind fun t472 => (if t472 = true then (some true) else (some false)))) else (some false)))) else (some false)))) else (some false)))))))) = some r := H
    have A18 := am A180
    clear A180
    replace H := Option.bind_eq_some_iff.mp H
    obtain ⟨⟨t444, t445⟩, A190, H⟩ := H
    replace H : ((laws_toSignature.f k l0_0).bind fun t447 => ((laws_toInt64S.f k l1).bind fun t451 => ((laws_toInt64SS.f k l2).bind fun t454 => ((impl_GreatestOf.f k t447 t451 t454).bind fun bt457 => ((laws_eqIntResult.f bt457.1 bt457.2 t444 t445).bind fun t460 => (if t460 = true then ((laws_toSignature.f k l0_0).bind fun t461 => ((laws_eqSignature.f k t447 t461).bind fun t464 => (if t464 = true then ((laws_toInt64S.f k l1).bind fun t465 => ((laws_eqInt64S.f k t451 t465).bind fun t468 => (if t468 = true then ((laws_toInt64SS.f k l2).bind fun t469 => ((laws_eqInt64SS.f k t454 t469).bind fun t472 => (if t472 = true then (some true) else (some false)))) else (some false)))) else (some false)))) else (some false))))))) = some r := H
    have A19 := am A190
    clear A190
    replace H := Option.bind_eq_some_iff.mp H
    obtain ⟨t447, A200, H⟩ := H
    replace H : ((laws_toInt64S.f k l1).bind fun t451 => ((laws_toInt64SS.f k l2).bind fun t454 => ((impl_GreatestOf.f k t447 t451 t454).bind fun bt457 => ((laws_eqIntResult.f bt457.1 bt457.2 t444 t445).bind fun t460 => (if t460 = true then ((laws_toSignature.f k l0_0).bind fun t461 => ((laws_eqSignature.f k t447 t461).bind fun t464 => (if t464 = true then ((laws_toInt64S.f k l1).bind fun t465 => ((laws_eqInt64S.f k t451 t465).bind fun t468 => (if t468 = true then ((laws_toInt64SS.f k l2).bind fun t469 => ((laws_eqInt64SS.f k t454 t469).bind fun t472 => (if t472 = true then (some true) else (some false)))) else (some false)))) else (some false)))) else (some false)))))) = some r := H
    have A20 := am A200
    clear A200
    replace H := Option.bind_eq_some_iff.mp H
    obtain ⟨t451, A210, H⟩ := H
    replace H : ((laws_toInt64SS.f k l2).bind fun t454 => ((impl_GreatestOf.f k t447 t451 t454).bind fun bt457 => ((laws_eqIntResult.f bt457.1 bt457.2 t444 t445).bind fun t460 => (if t460 = true then ((laws_toSignature.f k l0_0).bind fun t461 => ((laws_eqSignature.f k t447 t461).bind fun t464 => (if t464 = true then ((laws_toInt64S.f k l1).bind fun t465 => ((laws_eqInt64S.f k t451 t465).bind fun t468 => (if t468 = true then ((laws_toInt64SS.f k l2).bind fun t469 => ((laws_eqInt64SS.f k t454 t469).bind fun t472 => (if t472 = true then (some true) else (some false)))) else (some false)))) else (some false)))) else (some false))))) = some r := H
    have A21 := am A210
    clear A210
    replace H := Option.bind_eq_some_iff.mp H
    obtain ⟨t454, A220, H⟩ := H
    replace H : ((impl_GreatestOf.f k t447 t451 t454).bind fun bt457 => ((laws_eqIntResult.f bt457.1 bt457.2 t444 t445).bind fun t460 => (if t460 = true then ((laws_toSignature.f k l0_0).bind fun t461 => ((laws_eqSignature.f k t447 t461).bind fun t464 => (if t464 = true then ((laws_toInt64S.f k l1).bind fun t465 => ((laws_eqInt64S.f k t451 t465).bind fun t468 => (if t468 = true then ((laws_toInt64SS.f k l2).bind fun t469 => ((laws_eqInt64SS.f k t454 t469).bind fun t472 => (if t472 = true then (some true) else (some false)))) else (some false)))) else (some false)))) else (some false)))) = some r := H
    have A22 := am A220
    clear A220
    replace H := Option.bind_eq_some_iff.mp H
    obtain ⟨⟨t457, t458⟩, A230, H⟩ := H
    replace H : ((laws_eqIntResult.f t457 t458 t444 t445).bind fun t460 => (if t460 = true then ((laws_toSignature.f k l0_0).bind fun t461 => ((laws_eqSignature.f k t447 t461).bind fun t464 => (if t464 = true then ((laws_toInt64S.f k l1).bind fun t465 => ((laws_eqInt64S.f k t451 t465).bind fun t468 => (if t468 = true then ((laws_toInt64SS.f k l2).bind fun t469 => ((laws_eqInt64SS.f k t454 t469).bind fun t472 => (if t472 = true then (some true) else (some false)))) else (some false)))) else (some false)))) else (some false))) = some r := H
    have A23 := am A230
    clear A230
    replace H := Option.bind_eq_some_iff.mp H
    obtain ⟨t460, A240, H⟩ := H
    replace H : (if t460 = true then ((laws_toSignature.f k l0_0).bind fun t461 => ((laws_eqSignature.f k t447 t461).bind fun t464 => (if t464 = true then ((laws_toInt64S.f k l1).bind fun t465 => ((laws_eqInt64S.f k t451 t465).bind fun t468 => (if t468 = true then ((laws_toInt64SS.f k l2).bind fun t469 => ((laws_eqInt64SS.f k t454 t469).bind fun t472 => (if t472 = true then (some true) else (some false)))) else (some false)))) else (some false)))) else (some false)) = some r := H
    have A24 := am A240
    clear A240
    by_cases c25 : t460 = true
    ·subst c25
     have H1 : ((laws_toSignature.f k l0_0).bind fun t461 => ((laws_eqSignature.f k t447 t461).bind fun t464 => (if t464 = true then ((laws_toInt64S.f k l1).bind fun t465 => ((laws_eqInt64S.f k t451 t465).bind fun t468 => (if t468 = true then ((laws_toInt64SS.f k l2).bind fun t469 => ((laws_eqInt64SS.f k t454 t469).bind fun t472 => (if t472 = true then (some true) else (some false)))) else (some false)))) else (some false)))) = some r := by rw [if_pos rfl] at H; exact H
     clear H
     have H := H1
     clear H1
     replace H := Option.bind_eq_some_iff.mp H
     obtain ⟨t461, A260, H⟩ := H
     replace H : ((laws_eqSignature.f k t447 t461).bind fun t464 => (if t464 = true then ((laws_toInt64S.f k l1).bind fun t465 => ((laws_eqInt64S.f k t451 t465).bind fun t468 => (if t468 = true then ((laws_toInt64SS.f k l2).bind fun t469 => ((laws_eqInt64SS.f k t454 t469).bind fun t472 => (if t472 = true then (some true) else (some false)))) else (some false)))) else (some false))) = some r := H
     have A26 := am A260
     clear A260
     replace H := Option.bind_eq_some_iff.mp H
     obtain ⟨t464, A270, H⟩ := H
     replace H : (if t464 = true then ((laws_toInt64S.f k l1).bind fun t465 => ((laws_eqInt64S.f k t451 t465).bind fun t468 => (if t468 = true then ((laws_toInt64SS.f k l2).bind fun t469 => ((laws_eqInt64SS.f k t454 t469).bind fun t472 => (if t472 = true then (some true) else (some false)))) else (some false)))) else (some false)) = some r := H
     have A27 := am A270
     clear A270
     by_cases c28 : t464 = true
     ·subst c28
      have H1 : ((laws_toInt64S.f k l1).bind fun t465 => ((laws_eqInt64S.f k t451 t465).bind fun t468 => (if t468 = true then ((laws_toInt64SS.f k l2).bind fun t469 => ((laws_eqInt64SS.f k t454 t469).bind fun t472 => (if t472 = true then (some true) else (some false)))) else (some false)))) = some r := by rw [if_pos rfl] at H; exact H
      clear H
      have H := H1
      clear H1
      replace H := Option.bind_eq_some_iff.mp H
      obtain ⟨t465, A290, H⟩ := H
      replace H : ((laws_eqInt64S.f k t451 t465).bind fun t468 => (if t468 = true then ((laws_toInt64SS.f k l2).bind fun t469 => ((laws_eqInt64SS.f k t454 t469).bind fun t472 => (if t472 = true then (some true) else (some false)))) else (some false))) = some r := H
      have A29 := am A290
      clear A290
      replace H := Option.bind_eq_some_iff.mp H
      obtain ⟨t468, A300, H⟩ := H
      replace H : (if t468 = true then ((laws_toInt64SS.f k l2).bind fun t469 => ((laws_eqInt64SS.f k t454 t469).bind fun t472 => (if t472 = true then (some true) else (some false)))) else (some false)) = some r := H
      have A30 := am A300
      clear A300
      by_cases c31 : t468 = true
      ·subst c31
       have H1 : ((laws_toInt64SS.f k l2).bind fun t469 => ((laws_eqInt64SS.f k t454 t469).bind fun t472 => (if t472 = true then (some true) else (some false)))) = some r := by rw [if_pos rfl] at H; exact H
       clear H
       have H := H1
       clear H1
       replace H := Option.bind_eq_some_iff.mp H
       obtain ⟨t469, A320, H⟩ := H
       replace H : ((laws_eqInt64SS.f k t454 t469).bind fun t472 => (if t472 = true then (some true) else (some false))) = some r := H
       have A32 := am A320
       clear A320
       replace H := Option.bind_eq_some_iff.mp H
       obtain ⟨t472, A330, H⟩ := H
       replace H : (if t472 = true then (some true) else (some false)) = some r := H
       have A33 := am A330
       clear A330
       by_cases c34 : t472 = true
       ·subst c34
        have H1 : (some true) = some r := by rw [if_pos rfl] at H; exact H
        clear H
        have H := H1
        clear H1
        obtain rfl := Option.some.inj H
        go_enter Tryd.func4, Tryd.ntmps4
        try go_wp2_with (first | ((with_reducible refine Ab6 (N := 3) rfl ?_); refine Ab5 ?hg (N := 3) ?hd (cs := #[.slice A0_0 l0_0.length c0_0]) (t := 24) ?hr ?_; (case hd => rfl); (case hg => rfl); (case hr => first | (go_simp; done) | (go_simp; rfl)); intro gb432 hg w35 hbox hb; have n0_ := am (Aa2 (hq HB.out) hb); have n1_ := am (hbox); have n2_ := am (bz hg (hq HB.out)); have n3_ := n2_; clear HB; revert n0_ n1_ n2_ n3_; intro HB BK432 GW432 GE432; clear hb hbox hg; have hcz36_0 : w35.cell? ⟨gb432, 0, none⟩ = some (.slice A0_0 l0_0.length c0_0) := (Ab1 BK432.out 0).trans rfl; have hfz36_0 := Aa5 BK432.out 0) | ((with_reducible refine Aa4 (f := 5) rfl ?_); refine Ab8 (some 18) rfl rfl Tryd.func5 (by kernel_rfl) rfl #[.agg #[.slice A0_0 l0_0.length c0_0], .int .i64 1048576] rfl el ?_; (with_reducible refine (laws_szSignature.calls k _ _ l0_0 1048576 t433 _ ?side1 ?side2 A6.out).mono ?_); (case side1 => exact cq (Kd.C_below HR0_0.out HB.out)); (case side2 => exact HC0_0.out); rintro e w37 ⟨rfl, hb⟩; refine ⟨_, rfl, ?_⟩; have n0_ := am (Aa7 (bq BK432.out) hb); have n1_ := am (Aa2 (hs HB.out) hb); clear BK432 HB; revert n0_ n1_; intro BK432 HB; (try clear hb); (try clear hb2); (try clear hgw); (try clear hk); (try clear hi)) | ((with_reducible refine Aa4 (f := 13) rfl ?_); refine Ab8 (some 23) rfl rfl Tryd.func13 (by kernel_rfl) rfl #[.slice A2 l2.length c2, .int .i64 t433] rfl el ?_; (with_reducible refine (laws_szInt64SS.calls k _ _ l2 t433 t434 _ ?side1 ?side2 A11.out).mono ?_); (case side1 => exact cq (Kd.C_below HR2.out HB.out)); (case side2 => exact HC2.out); rintro e w' ⟨rfl, ⟨nd, rfl⟩⟩; refine ⟨_, rfl, ?_⟩; (try (rw [drewN_self w37]; generalize hq_ : World.drewN w37 _ = w37; have n0_ : Aside0 (w37.heap[gb432]? = some (.cells #[.slice A0_0 l0_0.length c0_0] 24 (0, 0))) := ⟨by rw [← hq_]; exact (bq BK432.out)⟩; have n1_ : Aside0 (Below w.heap.size w w37) := ⟨by rw [← hq_]; exact (hs HB.out)⟩; clear BK432 HB hq_; have BK432 := n0_; have HB := n1_; clear n0_ n1_)); have hcz38_0 : w37.cell? ⟨gb432, 0, none⟩ = some (.slice A0_0 l0_0.length c0_0) := (Ab1 BK432.out 0).trans rfl; have hfz38_0 := Aa5 BK432.out 0) | ((with_reducible refine Aa4 (f := 7) rfl ?_); refine Ab8 (some 27) rfl rfl Tryd.func7 (by kernel_rfl) rfl #[.agg #[.slice A0_0 l0_0.length c0_0]] rfl el ?_; (with_reducible refine (laws_toSignature.calls k _ _ l0_0 t435 _ ?side1 ?side2 A16.out).mono ?_); (case side1 => exact cq (Kd.C_below HR0_0.out HB.out)); (case side2 => exact HC0_0.out); rintro e w39 ⟨v436, rfl, ho0, hb⟩; refine ⟨_, rfl, ?_⟩; have n0_ := am (Kd.R_lower ho0 (Ac3 (hs HB.out))); have n1_ := am (Aa7 (bq BK432.out) hb); have n2_ := am (Aa2 (hs HB.out) hb); clear BK432 HB; revert n0_ n1_ n2_; intro HO437 BK432 HB; (try clear hb); (try clear hb2); (try clear hgw); (try clear hk); (try clear hi); (try clear ho0)) | ((with_reducible refine Aa4 (f := 8) rfl ?_); refine Ab8 (some 29) rfl rfl Tryd.func8 (by kernel_rfl) rfl #[.slice A1 l1.length c1] rfl el ?_; (with_reducible refine (laws_toInt64S.calls k _ _ l1 t438 _ ?side1 ?side2 A17.out).mono ?_); (case side1 => exact cq (Kd.C_below HR1.out HB.out)); (case side2 => exact HC1.out); rintro e w40 ⟨v439, rfl, ho0, hb⟩; refine ⟨_, rfl, ?_⟩; have n0_ := am (Kd.R_below (rq HO437.out) hb); have n1_ := am (Kd.R_lower ho0 (Ac3 (hs HB.out))); have n2_ := am (Aa7 (bq BK432.out) hb); have n3_ := am (Aa2 (hs HB.out) hb); clear HO437 BK432 HB; revert n0_ n1_ n2_ n3_; intro HO437 HO440 BK432 HB; (try clear hb); (try clear hb2); (try clear hgw); (try clear hk); (try clear hi); (try clear ho0)) | ((with_reducible refine Aa4 (f := 15) rfl ?_); refine Ab8 (some 31) rfl rfl Tryd.func15 (by kernel_rfl) rfl #[.slice A2 l2.length c2] rfl el ?_; (with_reducible refine (laws_toInt64SS.calls k _ _ l2 t441 _ ?side1 ?side2 A18.out).mono ?_); (case side1 => exact cq (Kd.C_below HR2.out HB.out)); (case side2 => exact HC2.out); rintro e w41 ⟨v442, rfl, ho0, hb⟩; refine ⟨_, rfl, ?_⟩; have n0_ := am (Kd.R_below (rq HO437.out) hb); have n1_ := am (Kd.R_below (rq HO440.out) hb); have n2_ := am (Kd.S_lower (Kd.S_new' ho0 (Kd.R_lt (rq HO440.out))) (Ac3 (hs HB.out))); have n3_ := am (Aa7 (bq BK432.out) hb); have n4_ := am (Aa2 (hs HB.out) hb); clear HO437 HO440 BK432 HB; revert n0_ n1_ n2_ n3_ n4_; intro HO437 HO440 HO443 BK432 HB; (try clear hb); (try clear hb2); (try clear hgw); (try clear hk); (try clear hi); (try clear ho0); obtain ⟨Ao42, co42, eo42⟩ := Kd.R_slice HO437.out; subst eo42; obtain ⟨Ao43, co43, eo43⟩ := Kd.R_slice HO440.out; subst eo43; obtain ⟨Ao44, co44, eo44⟩ := Kd.S_slice HO443.out; subst eo44) | ((with_reducible refine Aa4 (f := 14) rfl ?_); refine Ab8 (some 32) rfl rfl Tryd.func14 (by kernel_rfl) rfl #[.agg #[.slice Ao42 t435.length co42], .slice Ao43 t438.length co43, .slice Ao44 t441.length co44] rfl el ?_; (with_reducible refine (spec_GreatestOf.calls k _ _ t435 _ _ t438 _ _ t441 t444 t445 _ ?side1 ?side2 ?side3 ?side4 ?side5 ?side6 A19.out).mono ?_); (case side1 => repeat (first | exact (Kd.R_reads' HO437.out).2.2 | (with_reducible refine Kd.C_alloc ?_ _) | (with_reducible refine Kd.C_drewN ?_ _) | (with_reducible refine Kd.C_drew ?_))); (case side2 => exact (Kd.R_reads' HO437.out).2.1); (case side3 => repeat (first | exact (Kd.R_reads' HO440.out).2.2 | (with_reducible refine Kd.C_alloc ?_ _) | (with_reducible refine Kd.C_drewN ?_ _) | (with_reducible refine Kd.C_drew ?_))); (case side4 => exact (Kd.R_reads' HO440.out).2.1); (case side5 => repeat (first | exact (Kd.S_reads' HO443.out).2.2 | (with_reducible refine Kd.C_alloc ?_ _) | (with_reducible refine Kd.C_drewN ?_ _) | (with_reducible refine Kd.C_drew ?_))); (case side6 => exact (Kd.S_reads' HO443.out).2.1); rintro e w45 ⟨rfl, hb⟩; refine ⟨_, rfl, ?_⟩; have n0_ := am (Kd.R_below (rq HO437.out) hb); have n1_ := am (Kd.R_below (rq HO440.out) hb); have n2_ := am (Kd.S_below (by (with_reducible repeat (first | apply Kd.S_alloc | apply Kd.S_drewN | apply Kd.S_drew)); exact HO443.out) hb); have n3_ := am (Aa7 (bq BK432.out) hb); have n4_ := am (Aa2 (hs HB.out) hb); clear HO437 HO440 HO443 BK432 HB; revert n0_ n1_ n2_ n3_ n4_; intro HO437 HO440 HO443 BK432 HB; (try clear hb); (try clear hb2); (try clear hgw); (try clear hk); (try clear hi)) | ((with_reducible refine Ab6 (N := 8) rfl ?_); refine Ab5 ?hg (N := 8) ?hd (cs := #[.int .i64 0, .int .i64 0]) (t := 28) ?hr ?_; (case hd => rfl); (case hg => rfl); (case hr => first | (go_simp; done) | (go_simp; rfl)); intro gb446 hg w46 hbox hb; have n0_ := am (Kd.R_below (rq HO437.out) hb); have n1_ := am (Kd.R_below (rq HO440.out) hb); have n2_ := am (Kd.S_below (by (with_reducible repeat (first | apply Kd.S_alloc | apply Kd.S_drewN | apply Kd.S_drew)); exact HO443.out) hb); have n3_ := am (Aa7 (bq BK432.out) hb); have n4_ := am (Aa2 (hs HB.out) hb); have n5_ := am (hbox); have n6_ := am (bz hg (hs HB.out)); have n7_ := n6_; have n8_ := am ((by rw [hg]; exact Nat.ne_of_lt (Ac4 (bq BK432.out)) : gb432 ≠ gb446)); have n9_ := am ((by rw [hg]; exact Nat.ne_of_gt (Ac4 (bq BK432.out)) : gb446 ≠ gb432)); clear HO437 HO440 HO443 BK432 HB; revert n0_ n1_ n2_ n3_ n4_ n5_ n6_ n7_ n8_ n9_; intro HO437 HO440 HO443 BK432 HB BK446 GW446 GE446 NB432_446 NB446_432; clear hb hbox hg; have hnb47 := NB446_432.out; have hnc47 := NB432_446.out; have hcz48_0 : w46.cell? ⟨gb446, 0, none⟩ = some (.int .i64 0) := (Ab1 BK446.out 0).trans rfl; have hcz48_1 : w46.cell? ⟨gb446, 1, none⟩ = some (.int .i64 0) := (Ab1 BK446.out 1).trans rfl; have hfz48_0 := Aa5 BK446.out 0; have hfz48_1 := Aa5 BK446.out 1; have hcz49_0 : w46.cell? ⟨gb432, 0, none⟩ = some (.slice A0_0 l0_0.length c0_0) := (Ab1 BK432.out 0).trans rfl; have hfz49_0 := Aa5 BK432.out 0) | ((with_reducible refine Aa4 (f := 7) rfl ?_); refine Ab8 (some 34) rfl rfl Tryd.func7 (by kernel_rfl) rfl #[.agg #[.slice A0_0 l0_0.length c0_0]] rfl el ?_; (with_reducible refine (laws_toSignature.calls k _ _ l0_0 t447 _ ?side1 ?side2 A20.out).mono ?_); (case side1 => exact Kd.C_below HR0_0.out (hs HB.out)); (case side2 => exact HC0_0.out); rintro e w50 ⟨v448, rfl, ho0, hb⟩; refine ⟨_, rfl, ?_⟩; have n0_ := am (Kd.R_lower ho0 (Ac3 (hs HB.out))); have n1_ := am (Aa7 (g := gb432) (o := .cells #[.slice A0_0 l0_0.length c0_0] 24 (0, 0)) (by refine bq ?_; refine Af2 ?_ NB432_446.out _; refine bq ?_; refine Af2 ?_ NB432_446.out _; refine bq ?_; exact BK432.out) hb); have n2_ := am (Aa7 (g := gb446) (o := .cells #[.int .i64 t444, .int .i64 t445] 28 (0, 0)) (by refine bq ?_; refine Ad6 (cs := #[.int .i64 t444, .int .i64 0]) ?_ 1 _ rfl; refine bq ?_; refine Ad6 (cs := #[.int .i64 0, .int .i64 0]) ?_ 0 _ rfl; refine bq ?_; exact BK446.out) hb); have n3_ := am (Aa2 (hs HB.out) hb); clear BK432 BK446 HB; revert n0_ n1_ n2_ n3_; intro HO449 BK432 BK446 HB; (try clear hb); (try clear hb2); (try clear hgw); (try clear hk); (try clear hi); (try clear ho0)) | ((with_reducible refine Ab6 (N := 9) rfl ?_); refine Ab5 ?hg (N := 9) ?hd (cs := #[.slice none 0 0]) (t := 32) ?hr ?_; (case hd => rfl); (case hg => rfl); (case hr => first | (go_simp; done) | (go_simp; rfl)); intro gb450 hg w51 hbox hb; have n0_ := am (Kd.R_below (rq HO449.out) hb); have n1_ := am (Aa7 (bq BK432.out) hb); have n2_ := am (Aa7 (bq BK446.out) hb); have n3_ := am (Aa2 (hs HB.out) hb); have n4_ := am (hbox); have n5_ := am (bz hg (hs HB.out)); have n6_ := n5_; have n7_ := am ((by rw [hg]; exact Nat.ne_of_lt (Ac4 (bq BK432.out)) : gb432 ≠ gb450)); have n8_ := am ((by rw [hg]; exact Nat.ne_of_gt (Ac4 (bq BK432.out)) : gb450 ≠ gb432)); have n9_ := am ((by rw [hg]; exact Nat.ne_of_lt (Ac4 (bq BK446.out)) : gb446 ≠ gb450)); have n10_ := am ((by rw [hg]; exact Nat.ne_of_gt (Ac4 (bq BK446.out)) : gb450 ≠ gb446)); clear HO449 BK432 BK446 HB; revert n0_ n1_ n2_ n3_ n4_ n5_ n6_ n7_ n8_ n9_ n10_; intro HO449 BK432 BK446 HB BK450 GW450 GE450 NB432_450 NB450_432 NB446_450 NB450_446; clear hb hbox hg; obtain ⟨Ao52, co52, eo52⟩ := Kd.R_slice HO449.out; subst eo52; have hnb53 := NB450_432.out; have hnc53 := NB432_450.out; have hnb54 := NB450_446.out; have hnc54 := NB446_450.out; have hcz55_0 : w51.cell? ⟨gb450, 0, none⟩ = some (.slice none 0 0) := (Ab1 BK450.out 0).trans rfl; have hfz55_0 := Aa5 BK450.out 0) | ((with_reducible refine Aa4 (f := 8) rfl ?_); refine Ab8 (some 36) rfl rfl Tryd.func8 (by kernel_rfl) rfl #[.slice A1 l1.length c1] rfl el ?_; (with_reducible refine (laws_toInt64S.calls k _ _ l1 t451 _ ?side1 ?side2 A21.out).mono ?_); (case side1 => exact Kd.C_below HR1.out (hs HB.out)); (case side2 => exact HC1.out); rintro e w56 ⟨v452, rfl, ho0, hb⟩; refine ⟨_, rfl, ?_⟩; have n0_ := am (Kd.R_below (rq ((Kd.R_mono (Kd.R_far (p := ⟨gb450, 0, none⟩) (Kd.R_types HO449.out BK450.out (by decide)) (fun _ hk => hk.2) (.slice Ao52 t447.length co52)) (fun _ h_ => h_.1)))) hb); have n1_ := am (Kd.R_lower ho0 (Ac3 (hs HB.out))); have n2_ := am (Aa7 (g := gb432) (o := .cells #[.slice A0_0 l0_0.length c0_0] 24 (0, 0)) (by refine bq ?_; refine Af2 ?_ NB432_450.out _; refine bq ?_; exact BK432.out) hb); have n3_ := am (Aa7 (g := gb446) (o := .cells #[.int .i64 t444, .int .i64 t445] 28 (0, 0)) (by refine bq ?_; refine Af2 ?_ NB446_450.out _; refine bq ?_; exact BK446.out) hb); have n4_ := am (Aa7 (g := gb450) (o := .cells #[.slice Ao52 t447.length co52] 32 (0, 0)) (by refine bq ?_; refine Ad6 (cs := #[.slice none 0 0]) ?_ 0 _ rfl; refine bq ?_; exact BK450.out) hb); have n5_ := am (Aa2 (hs HB.out) hb); clear HO449 BK432 BK446 BK450 HB; revert n0_ n1_ n2_ n3_ n4_ n5_; intro HO449 HO453 BK432 BK446 BK450 HB; (try clear hb); (try clear hb2); (try clear hgw); (try clear hk); (try clear hi); (try clear ho0)) | ((with_reducible refine Aa4 (f := 15) rfl ?_); refine Ab8 (some 38) rfl rfl Tryd.func15 (by kernel_rfl) rfl #[.slice A2 l2.length c2] rfl el ?_; (with_reducible refine (laws_toInt64SS.calls k _ _ l2 t454 _ ?side1 ?side2 A22.out).mono ?_); (case side1 => exact cq (Kd.C_below HR2.out HB.out)); (case side2 => exact HC2.out); rintro e w57 ⟨v455, rfl, ho0, hb⟩; refine ⟨_, rfl, ?_⟩; have n0_ := am (Kd.R_below (rq HO449.out) hb); have n1_ := am (Kd.R_below (rq HO453.out) hb); have n2_ := am (Kd.S_lower (Kd.S_new' ho0 (Kd.R_lt (rq HO453.out))) (Ac3 (hs HB.out))); have n3_ := am (Aa7 (bq BK432.out) hb); have n4_ := am (Aa7 (bq BK446.out) hb); have n5_ := am (Aa7 (bq BK450.out) hb); have n6_ := am (Aa2 (hs HB.out) hb); clear HO449 HO453 BK432 BK446 BK450 HB; revert n0_ n1_ n2_ n3_ n4_ n5_ n6_; intro HO449 HO453 HO456 BK432 BK446 BK450 HB; (try clear hb); (try clear hb2); (try clear hgw); (try clear hk); (try clear hi); (try clear ho0); have hcz58_0 : w57.cell? ⟨gb450, 0, none⟩ = some (.slice Ao52 t447.length co52) := (Ab1 BK450.out 0).trans rfl; have hfz58_0 := Aa5 BK450.out 0; obtain ⟨Ao59, co59, eo59⟩ := Kd.R_slice HO453.out; subst eo59; obtain ⟨Ao60, co60, eo60⟩ := Kd.S_slice HO456.out; subst eo60) | ((with_reducible refine Aa4 (f := 16) rfl ?_); refine Ab8 (some 42) rfl rfl Tryd.func16 (by kernel_rfl) rfl #[.agg #[.slice Ao52 t447.length co52], .slice Ao59 t451.length co59, .slice Ao60 t454.length co60] rfl el ?_; (with_reducible refine (impl_GreatestOf.calls k _ _ t447 _ _ t451 _ _ t454 t457 t458 _ ?side1 ?side2 ?side3 ?side4 ?side5 ?side6 A23.out).mono ?_); (case side1 => repeat (first | exact (Kd.R_reads' HO449.out).2.2 | (with_reducible refine Kd.C_alloc ?_ _) | (with_reducible refine Kd.C_drewN ?_ _) | (with_reducible refine Kd.C_drew ?_))); (case side2 => exact (Kd.R_reads' HO449.out).2.1); (case side3 => repeat (first | exact (Kd.R_reads' HO453.out).2.2 | (with_reducible refine Kd.C_alloc ?_ _) | (with_reducible refine Kd.C_drewN ?_ _) | (with_reducible refine Kd.C_drew ?_))); (case side4 => exact (Kd.R_reads' HO453.out).2.1); (case side5 => repeat (first | exact (Kd.S_reads' HO456.out).2.2 | (with_reducible refine Kd.C_alloc ?_ _) | (with_reducible refine Kd.C_drewN ?_ _) | (with_reducible refine Kd.C_drew ?_))); (case side6 => exact (Kd.S_reads' HO456.out).2.1); rintro e w61 ⟨rfl, hb⟩; refine ⟨_, rfl, ?_⟩; have n0_ := am (Kd.R_below (rq HO449.out) hb); have n1_ := am (Kd.R_below (rq HO453.out) hb); have n2_ := am (Kd.S_below (by (with_reducible repeat (first | apply Kd.S_alloc | apply Kd.S_drewN | apply Kd.S_drew)); exact HO456.out) hb); have n3_ := am (Aa7 (bq BK432.out) hb); have n4_ := am (Aa7 (bq BK446.out) hb); have n5_ := am (Aa7 (bq BK450.out) hb); have n6_ := am (Aa2 (hs HB.out) hb); clear HO449 HO453 HO456 BK432 BK446 BK450 HB; revert n0_ n1_ n2_ n3_ n4_ n5_ n6_; intro HO449 HO453 HO456 BK432 BK446 BK450 HB; (try clear hb); (try clear hb2); (try clear hgw); (try clear hk); (try clear hi)) | ((with_reducible refine Ab6 (N := 12) rfl ?_); refine Ab5 ?hg (N := 12) ?hd (cs := #[.int .i64 0, .int .i64 0]) (t := 28) ?hr ?_; (case hd => rfl); (case hg => rfl); (case hr => first | (go_simp; done) | (go_simp; rfl)); intro gb459 hg w62 hbox hb; have n0_ := am (Kd.R_below (rq HO449.out) hb); have n1_ := am (Kd.R_below (rq HO453.out) hb); have n2_ := am (Kd.S_below (by (with_reducible repeat (first | apply Kd.S_alloc | apply Kd.S_drewN | apply Kd.S_drew)); exact HO456.out) hb); have n3_ := am (Aa7 (bq BK432.out) hb); have n4_ := am (Aa7 (bq BK446.out) hb); have n5_ := am (Aa7 (bq BK450.out) hb); have n6_ := am (Aa2 (hs HB.out) hb); have n7_ := am (hbox); have n8_ := am (bz hg (hs HB.out)); have n9_ := n8_; have n10_ := am ((by rw [hg]; exact Nat.ne_of_lt (Ac4 (bq BK432.out)) : gb432 ≠ gb459)); have n11_ := am ((by rw [hg]; exact Nat.ne_of_gt (Ac4 (bq BK432.out)) : gb459 ≠ gb432)); have n12_ := am ((by rw [hg]; exact Nat.ne_of_lt (Ac4 (bq BK446.out)) : gb446 ≠ gb459)); have n13_ := am ((by rw [hg]; exact Nat.ne_of_gt (Ac4 (bq BK446.out)) : gb459 ≠ gb446)); have n14_ := am ((by rw [hg]; exact Nat.ne_of_lt (Ac4 (bq BK450.out)) : gb450 ≠ gb459)); have n15_ := am ((by rw [hg]; exact Nat.ne_of_gt (Ac4 (bq BK450.out)) : gb459 ≠ gb450)); clear HO449 HO453 HO456 BK432 BK446 BK450 HB; revert n0_ n1_ n2_ n3_ n4_ n5_ n6_ n7_ n8_ n9_ n10_ n11_ n12_ n13_ n14_ n15_; intro HO449 HO453 HO456 BK432 BK446 BK450 HB BK459 GW459 GE459 NB432_459 NB459_432 NB446_459 NB459_446 NB450_459 NB459_450; clear hb hbox hg; have hnb63 := NB459_432.out; have hnc63 := NB432_459.out; have hnb64 := NB459_446.out; have hnc64 := NB446_459.out; have hnb65 := NB459_450.out; have hnc65 := NB450_459.out; have hcz66_0 : w62.cell? ⟨gb459, 0, none⟩ = some (.int .i64 0) := (Ab1 BK459.out 0).trans rfl; have hcz66_1 : w62.cell? ⟨gb459, 1, none⟩ = some (.int .i64 0) := (Ab1 BK459.out 1).trans rfl; have hfz66_0 := Aa5 BK459.out 0; have hfz66_1 := Aa5 BK459.out 1; have hcz67_0 : w62.cell? ⟨gb446, 0, none⟩ = some (.int .i64 t444) := (Ab1 BK446.out 0).trans rfl; have hcz67_1 : w62.cell? ⟨gb446, 1, none⟩ = some (.int .i64 t445) := (Ab1 BK446.out 1).trans rfl; have hfz67_0 := Aa5 BK446.out 0; have hfz67_1 := Aa5 BK446.out 1) | ((with_reducible refine Aa4 (f := 10) rfl ?_); refine Ab8 (some 45) rfl rfl Tryd.func10 (by kernel_rfl) rfl #[.agg #[.int .i64 t457, .int .i64 t458], .agg #[.int .i64 t444, .int .i64 t445]] rfl el ?_; (with_reducible refine (laws_eqIntResult.calls t457 t458 t444 t445 true _ A24.out).mono ?_); rintro e w68 ⟨rfl, hb⟩; refine ⟨_, rfl, ?_⟩; have n0_ := am (Kd.R_below (rq ((Kd.R_mono (Kd.R_far (p := ⟨gb459, 1, none⟩) (Kd.R_far (p := ⟨gb459, 0, none⟩) (Kd.R_types HO449.out BK459.out (by decide)) (fun _ hk => hk.2) (.int .i64 t457)) (fun _ hk => hk.2) (.int .i64 t458)) (fun _ h_ => h_.1)))) hb); have n1_ := am (Kd.R_below (rq ((Kd.R_mono (Kd.R_far (p := ⟨gb459, 1, none⟩) (Kd.R_far (p := ⟨gb459, 0, none⟩) (Kd.R_types HO453.out BK459.out (by decide)) (fun _ hk => hk.2) (.int .i64 t457)) (fun _ hk => hk.2) (.int .i64 t458)) (fun _ h_ => h_.1)))) hb); have n2_ := am (Kd.S_below (by (with_reducible repeat (first | apply Kd.S_alloc | apply Kd.S_drewN | apply Kd.S_drew)); exact (Kd.S_mono (Kd.S_far (p := ⟨gb459, 1, none⟩) (Kd.S_far (p := ⟨gb459, 0, none⟩) (Kd.S_types HO456.out BK459.out (by decide)) (fun _ hk => hk.2) (.int .i64 t457)) (fun _ hk => hk.2) (.int .i64 t458)) (fun _ h_ => h_.1))) hb); have n3_ := am (Aa7 (g := gb432) (o := .cells #[.slice A0_0 l0_0.length c0_0] 24 (0, 0)) (by refine bq ?_; refine Af2 ?_ NB432_459.out _; refine bq ?_; refine Af2 ?_ NB432_459.out _; refine bq ?_; exact BK432.out) hb); have n4_ := am (Aa7 (g := gb446) (o := .cells #[.int .i64 t444, .int .i64 t445] 28 (0, 0)) (by refine bq ?_; refine Af2 ?_ NB446_459.out _; refine bq ?_; refine Af2 ?_ NB446_459.out _; refine bq ?_; exact BK446.out) hb); have n5_ := am (Aa7 (g := gb450) (o := .cells #[.slice Ao52 t447.length co52] 32 (0, 0)) (by refine bq ?_; refine Af2 ?_ NB450_459.out _; refine bq ?_; refine Af2 ?_ NB450_459.out _; refine bq ?_; exact BK450.out) hb); have n6_ := am (Aa7 (g := gb459) (o := .cells #[.int .i64 t457, .int .i64 t458] 28 (0, 0)) (by refine bq ?_; refine Ad6 (cs := #[.int .i64 t457, .int .i64 0]) ?_ 1 _ rfl; refine bq ?_; refine Ad6 (cs := #[.int .i64 0, .int .i64 0]) ?_ 0 _ rfl; refine bq ?_; exact BK459.out) hb); have n7_ := am (Aa2 (hs HB.out) hb); clear HO449 HO453 HO456 BK432 BK446 BK450 BK459 HB; revert n0_ n1_ n2_ n3_ n4_ n5_ n6_ n7_; intro HO449 HO453 HO456 BK432 BK446 BK450 BK459 HB; (try clear hb); (try clear hb2); (try clear hgw); (try clear hk); (try clear hi)))
        have n0_ := am (Kd.R_drew HO449.out)
        have n1_ := am (Kd.R_drew HO453.out)
        have n2_ := am (Kd.S_drew HO456.out)
        have n3_ := am (Ag1 BK432.out)
        have n4_ := am (Ag1 BK446.out)
        have n5_ := am (Ag1 BK450.out)
        have n6_ := am (Ag1 BK459.out)
        have n7_ := am (Ac2 HB.out)
        clear HO449 HO453 HO456 BK432 BK446 BK450 BK459 HB; revert n0_ n1_ n2_ n3_ n4_ n5_ n6_ n7_; intro HO449 HO453 HO456 BK432 BK446 BK450 BK459 HB
        refine Ae9 (n := 5) (S := fun w' => w'.cell? ⟨gb450, 0, none⟩ = some (.slice Ao52 t447.length co52) ∧ w'.cell? ⟨gb432, 0, none⟩ = some (.slice A0_0 l0_0.length c0_0)) (ds := []) #[false, false, false, false, false] (by kernel_rfl) rfl rfl ⟨(Ab1 BK450.out 0).trans rfl, (Ab1 BK432.out 0).trans rfl⟩ (fun hHeld => ?_)
        generalize w68.drew = w69 at HO449 HO453 HO456 BK432 BK446 BK450 BK459 HB hHeld ⊢
        refine take_ (i := 0) (N := some 47) (v := ?_) (a' := ?_) #[true, false, false, false, false] rfl rfl (by kernel_rfl) (fun _ _ _ h => h) (Or.inl ⟨by rfl, ?_⟩) hHeld ?_ ?_
        rotate_left
        ·rintro w' ⟨s0, s1⟩
         go_simp
         with_reducible rfl
        rotate_left
        ·simp only [Act.put, lsp, Aa8, Ab0]
         rfl
        refine take_ (i := 1) (N := some 48) (v := ?_) (a' := ?_) #[true, true, false, false, false] rfl rfl (by kernel_rfl) (fun _ _ _ h => h) (Or.inl ⟨by rfl, ?_⟩) hHeld ?_ ?_
        rotate_left
        ·rintro w' ⟨s0, s1⟩
         go_simp
         with_reducible rfl
        rotate_left
        ·simp only [Act.put, lsp, Aa8, Ab0]
         rfl
        refine Al7 (i := 2) (N := some 49) #[true, true, true, false, false] rfl rfl (by kernel_rfl) (by decide) (fun K hK => ?_)
        refine Ah1 Tryd.func7 (by kernel_rfl) rfl #[.agg #[.slice A0_0 l0_0.length c0_0]] (by rfl) rfl rfl el ?_
        with_reducible refine (laws_toSignature.calls k _ _ l0_0 t461 _ ?side1 ?side2 A26.out).mono ?_
        (case side1 => exact cq (Kd.C_below HR0_0.out HB.out))
        (case side2 => exact HC0_0.out)
        rintro e w70 ⟨v462, rfl, ho0, hb⟩
        refine ⟨_, rfl, ?_⟩
        have n0_ := am (Kd.R_elder' (rq HO449.out) (Kd.R_base ho0) hb)
        have n1_ := am (Kd.R_below (rq HO453.out) hb)
        have n2_ := am (Kd.S_below (by (with_reducible repeat (first | apply Kd.S_alloc | apply Kd.S_drewN | apply Kd.S_drew)); exact HO456.out) hb)
        have n3_ := am (Kd.R_lower (Kd.R_new' ho0 (Kd.R_lt (rq HO449.out))) (Ac3 (hs HB.out)))
        have n4_ := am (Aa7 (bq BK432.out) hb)
        have n5_ := am (Aa7 (bq BK446.out) hb)
        have n6_ := am (Aa7 (bq BK450.out) hb)
        have n7_ := am (Aa7 (bq BK459.out) hb)
        have n8_ := am (Aa2 (hs HB.out) hb)
        clear HO449 HO453 HO456 BK432 BK446 BK450 BK459 HB; revert n0_ n1_ n2_ n3_ n4_ n5_ n6_ n7_ n8_; intro HO449 HO453 HO456 HO463 BK432 BK446 BK450 BK459 HB
        (try clear hb)
        (try clear hb2)
        (try clear hgw)
        (try clear hk)
        (try clear hi)
        (try clear ho0)
        obtain ⟨Ao71, co71, eo71⟩ := Kd.R_slice HO463.out
        (first | subst eo71 | (injection eo71 with f1_ f2_ f3_; have f4_ := f1_.symm; have f5_ := f3_.symm; clear f1_ f2_ f3_; subst f4_; subst f5_))
        refine hK.out _ _ ⟨(Ab1 BK450.out 0).trans rfl, (Ab1 BK432.out 0).trans rfl⟩ (fun hHeld => ?_)
        clear hK K
        refine Ah0 (a' := ?_) ?_ ?_
        rotate_left
        ·show Act.put _ (some 49) _ = _
         simp only [Act.put, lsp, Aa8, Ab0]
         rfl
        refine Al7 (i := 3) (N := some 50) #[true, true, true, true, false] rfl rfl (by kernel_rfl) (by decide) (fun K hK => ?_)
        refine Ah1 Tryd.func11 (by kernel_rfl) rfl #[.agg #[.slice Ao52 t447.length co52], .agg #[.slice Ao71 t461.length co71]] (by rfl) rfl rfl el ?_
        with_reducible refine (laws_eqSignature.calls k _ _ t447 _ _ t461 true _ ?side1 ?side2 ?side3 ?side4 A27.out).mono ?_
        (case side1 => repeat (first | exact (Kd.R_reads' HO449.out).2.2 | (with_reducible refine Kd.C_alloc ?_ _) | (with_reducible refine Kd.C_drewN ?_ _) | (with_reducible refine Kd.C_drew ?_)))
        (case side2 => exact (Kd.R_reads' HO449.out).2.1)
        (case side3 => repeat (first | exact (Kd.R_reads' HO463.out).2.2 | (with_reducible refine Kd.C_alloc ?_ _) | (with_reducible refine Kd.C_drewN ?_ _) | (with_reducible refine Kd.C_drew ?_)))
        (case side4 => exact (Kd.R_reads' HO463.out).2.1)
        rintro e w72 ⟨rfl, hb⟩
        refine ⟨_, rfl, ?_⟩
        have n0_ := am (Kd.R_below (rq HO449.out) hb)
        have n1_ := am (Kd.R_below (rq HO453.out) hb)
        have n2_ := am (Kd.S_below (by (with_reducible repeat (first | apply Kd.S_alloc | apply Kd.S_drewN | apply Kd.S_drew)); exact HO456.out) hb)
        have n3_ := am (Kd.R_below (rq HO463.out) hb)
        have n4_ := am (Aa7 (bq BK432.out) hb)
        have n5_ := am (Aa7 (bq BK446.out) hb)
        have n6_ := am (Aa7 (bq BK450.out) hb)
        have n7_ := am (Aa7 (bq BK459.out) hb)
        have n8_ := am (Aa2 (hs HB.out) hb)
        clear HO449 HO453 HO456 HO463 BK432 BK446 BK450 BK459 HB; revert n0_ n1_ n2_ n3_ n4_ n5_ n6_ n7_ n8_; intro HO449 HO453 HO456 HO463 BK432 BK446 BK450 BK459 HB
        (try clear hb)
        (try clear hb2)
        (try clear hgw)
        (try clear hk)
        (try clear hi)
        refine hK.out _ _ ⟨(Ab1 BK450.out 0).trans rfl, (Ab1 BK432.out 0).trans rfl⟩ (fun hHeld => ?_)
        clear hK K
        refine Ah0 (a' := ?_) ?_ ?_
        rotate_left
        ·show Act.put _ (some 50) _ = _
         simp only [Act.put, lsp, Aa8, Ab0]
         rfl
        refine Ab2 (i := 4) (N := some 51) (v := ?_) (a' := ?_) #[true, true, true, true, true] rfl rfl (by kernel_rfl) (fun _ _ _ h => h) (Or.inl ⟨by rfl, ?_⟩) ?_ ?_
        rotate_left
        ·intro w'
         go_simp
         with_reducible rfl
        rotate_left
        ·simp only [Act.put, lsp, Aa8, Ab0]
         rfl
        refine Ah2 (by kernel_rfl) ?_
        have n0_ := am (Kd.R_mono (ok' := fun k_ => True) HO449.out (fun k_ hk_ => trivial))
        clear HO449; revert n0_; intro HO449
        try go_wp2_with (first | ((with_reducible refine Aa4 (f := 8) rfl ?_); refine Ab8 (some 54) rfl rfl Tryd.func8 (by kernel_rfl) rfl #[.slice A1 l1.length c1] rfl el ?_; (with_reducible refine (laws_toInt64S.calls k _ _ l1 t465 _ ?side1 ?side2 A29.out).mono ?_); (case side1 => exact cq (Kd.C_below HR1.out HB.out)); (case side2 => exact HC1.out); rintro e w73 ⟨v466, rfl, ho0, hb⟩; refine ⟨_, rfl, ?_⟩; have n0_ := am (Kd.R_below (rq HO449.out) hb); have n1_ := am (Kd.R_elder' (rq HO453.out) (Kd.R_base ho0) hb); have n2_ := am (Kd.S_elder' (by (with_reducible repeat (first | apply Kd.S_alloc | apply Kd.S_drewN | apply Kd.S_drew)); exact HO456.out) (Kd.R_base ho0) hb); have n3_ := am (Kd.R_lower (Kd.R_new' ho0 (Kd.R_lt (rq HO453.out))) (Ac3 (hs HB.out))); have n4_ := am (Aa7 (bq BK432.out) hb); have n5_ := am (Aa7 (bq BK446.out) hb); have n6_ := am (Aa7 (bq BK450.out) hb); have n7_ := am (Aa7 (bq BK459.out) hb); have n8_ := am (Aa2 (hs HB.out) hb); clear HO449 HO453 HO456 BK432 BK446 BK450 BK459 HB; revert n0_ n1_ n2_ n3_ n4_ n5_ n6_ n7_ n8_; intro HO449 HO453 HO456 HO467 BK432 BK446 BK450 BK459 HB; (try clear hb); (try clear hb2); (try clear hgw); (try clear hk); (try clear hi); (try clear ho0); obtain ⟨Ao74, co74, eo74⟩ := Kd.R_slice HO467.out; subst eo74) | ((with_reducible refine Aa4 (f := 12) rfl ?_); refine Ab8 (some 55) rfl rfl Tryd.func12 (by kernel_rfl) rfl #[.slice Ao59 t451.length co59, .slice Ao74 t465.length co74] rfl el ?_; (with_reducible refine (laws_eqInt64S.calls k _ _ t451 _ _ t465 true _ ?side1 ?side2 ?side3 ?side4 A30.out).mono ?_); (case side1 => repeat (first | exact (Kd.R_reads' HO453.out).2.2 | (with_reducible refine Kd.C_alloc ?_ _) | (with_reducible refine Kd.C_drewN ?_ _) | (with_reducible refine Kd.C_drew ?_))); (case side2 => exact (Kd.R_reads' HO453.out).2.1); (case side3 => repeat (first | exact (Kd.R_reads' HO467.out).2.2 | (with_reducible refine Kd.C_alloc ?_ _) | (with_reducible refine Kd.C_drewN ?_ _) | (with_reducible refine Kd.C_drew ?_))); (case side4 => exact (Kd.R_reads' HO467.out).2.1); rintro e w' ⟨rfl, ⟨nd, rfl⟩⟩; refine ⟨_, rfl, ?_⟩; have n0_ := am (Kd.S_mono (ok' := fun k_ => True) HO456.out (fun k_ hk_ => trivial)); clear HO456; revert n0_; intro HO456) | ((with_reducible refine Aa4 (f := 15) rfl ?_); refine Ab8 (some 59) rfl rfl Tryd.func15 (by kernel_rfl) rfl #[.slice A2 l2.length c2] rfl el ?_; (with_reducible refine (laws_toInt64SS.calls k _ _ l2 t469 _ ?side1 ?side2 A32.out).mono ?_); (case side1 => repeat (first | exact (Kd.C_below HR2.out (hs HB.out)) | (with_reducible refine Kd.C_alloc ?_ _) | (with_reducible refine Kd.C_drewN ?_ _) | (with_reducible refine Kd.C_drew ?_))); (case side2 => exact HC2.out); rintro e w75 ⟨v470, rfl, ho0, hb⟩; refine ⟨_, rfl, ?_⟩; have n0_ := am (Kd.R_below (rq HO449.out) hb); have n1_ := am (Kd.S_elder' (by (with_reducible repeat (first | apply Kd.S_alloc | apply Kd.S_drewN | apply Kd.S_drew)); exact HO456.out) (Kd.S_base ho0) hb); have n2_ := am (Kd.S_lower (Kd.S_new' ho0 (Kd.S_lt (by (with_reducible repeat (first | apply Kd.S_alloc | apply Kd.S_drewN | apply Kd.S_drew)); exact HO456.out))) (Ac3 (hs HB.out))); have n3_ := am (Aa7 (bq BK432.out) hb); have n4_ := am (Aa7 (bq BK446.out) hb); have n5_ := am (Aa7 (bq BK450.out) hb); have n6_ := am (Aa7 (bq BK459.out) hb); have n7_ := am (Aa2 (hs HB.out) hb); clear HO449 HO456 BK432 BK446 BK450 BK459 HB; revert n0_ n1_ n2_ n3_ n4_ n5_ n6_ n7_; intro HO449 HO456 HO471 BK432 BK446 BK450 BK459 HB; (try clear hb); (try clear hb2); (try clear hgw); (try clear hk); (try clear hi); (try clear ho0); obtain ⟨Ao76, co76, eo76⟩ := Kd.S_slice HO471.out; subst eo76) | ((with_reducible refine Aa4 (f := 17) rfl ?_); refine Ab8 (some 60) rfl rfl Tryd.func17 (by kernel_rfl) rfl #[.slice Ao60 t454.length co60, .slice Ao76 t469.length co76] rfl el ?_; (with_reducible refine (laws_eqInt64SS.calls k _ _ t454 _ _ t469 true _ ?side1 ?side2 ?side3 ?side4 A33.out).mono ?_); (case side1 => repeat (first | exact (Kd.S_reads' HO456.out).2.2 | (with_reducible refine Kd.C_alloc ?_ _) | (with_reducible refine Kd.C_drewN ?_ _) | (with_reducible refine Kd.C_drew ?_))); (case side2 => exact (Kd.S_reads' HO456.out).2.1); (case side3 => repeat (first | exact (Kd.S_reads' HO471.out).2.2 | (with_reducible refine Kd.C_alloc ?_ _) | (with_reducible refine Kd.C_drewN ?_ _) | (with_reducible refine Kd.C_drew ?_))); (case side4 => exact (Kd.S_reads' HO471.out).2.1); rintro e w' ⟨rfl, ⟨nd, rfl⟩⟩; refine ⟨_, rfl, ?_⟩))
        go_ret
        exact ⟨by first | rfl | (simp [Aa0, Aa1] <;> rfl) | (simp [*, Aa0, Aa1] <;> rfl), by exact hs HB.out⟩
       ·replace c34 := Bool.eq_false_iff.mpr c34
        subst c34
        have H1 : (some false) = some r := by rw [if_neg (show ¬ (false = true) by decide)] at H; exact H
        clear H
        have H := H1
        clear H1
        exact absurd ((Option.some.inj H).trans ht_) Bool.false_ne_true
      ·replace c31 := Bool.eq_false_iff.mpr c31
       subst c31
       have H1 : (some false) = some r := by rw [if_neg (show ¬ (false = true) by decide)] at H; exact H
       clear H
       have H := H1
       clear H1
       exact absurd ((Option.some.inj H).trans ht_) Bool.false_ne_true
     ·replace c28 := Bool.eq_false_iff.mpr c28
      subst c28
      have H1 : (some false) = some r := by rw [if_neg (show ¬ (false = true) by decide)] at H; exact H
      clear H
      have H := H1
      clear H1
      exact absurd ((Option.some.inj H).trans ht_) Bool.false_ne_true
    ·replace c25 := Bool.eq_false_iff.mpr c25
     subst c25
     have H1 : (some false) = some r := by rw [if_neg (show ¬ (false = true) by decide)] at H; exact H
     clear H
     have H := H1
     clear H1
     exact absurd ((Option.some.inj H).trans ht_) Bool.false_ne_true
end Go.Proofs.YtgichahebemmiaaDoor.P
