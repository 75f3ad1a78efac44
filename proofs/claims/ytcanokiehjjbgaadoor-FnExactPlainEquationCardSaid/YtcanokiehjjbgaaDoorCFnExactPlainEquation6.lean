/- A part of the proof of the law FnExactPlainEquation. -/
import Derived.Laws.StructEq
import Derived.Test.YtcanokiehjjbgaaDoorCFnExactPlainEquation0
import Derived.Test.YtcanokiehjjbgaaDoorCFnExactPlainEquation1
import Derived.Test.YtcanokiehjjbgaaDoorCFnExactPlainEquation2
import Derived.Test.YtcanokiehjjbgaaDoorCFnExactPlainEquation3
import Derived.Test.YtcanokiehjjbgaaDoorCFnExactPlainEquation4
import Derived.Test.YtcanokiehjjbgaaDoorCFnExactPlainEquation5
import Derived.Test.YtcanokiehjjbgaaDoorCFnExactPlainEquation13
namespace Go.Proofs.YtcanokiehjjbgaaDoor.P
open Go.RowKit Go.Proofs.YtcanokiehjjbgaaDoorW.PrintWords Go.Proofs.YtcanokiehjjbgaaDoorW.PrintLast Go.Proofs.YtcanokiehjjbgaaDoorW.PrintMore
attribute [local go_sem] max2_int min2_int max_two min_two max_three min_three max_four min_four   -- for this text's walks alone
set_option linter.unusedVariables false
set_option linter.unusedSimpArgs false
def slices_Index_int64_int64.l0 : Nat → List Int → Int → Int → Int → Option (Int)
  | 0, _, _, _, _ => none
  | k + 1, x0, x1, x7, x8 => if x8 < x7 then (if 0 ≤ x8 then (if x8 < (x0.length : Int) then (if x1 = (rd x0 x8) then (some x8) else (slices_Index_int64_int64.l0 k x0 x1 x7 (wrap64 (x8 + 1)))) else (none)) else (none)) else (some (-1))
def slices_Index_int64_int64.f (k : Nat) (l0 : List Int) (a1 : Int) : Option (Int) := slices_Index_int64_int64.l0 k l0 a1 (l0.length : Int) 0
set_option maxHeartbeats 8000000 in
set_option maxRecDepth 100000 in
theorem slices_Index_int64_int64.calls (k : Nat) (A0 : Option Addr) (c0 : Nat) (l0 : List Int) (a1 : Int) (r : Int) (w : World) (hr0 : Kd.C (Kd.int .i64) w A0 l0.length l0) (hc0 : l0.length ≤ c0) (h : slices_Index_int64_int64.f k l0 a1 = some r) :
    Calls Tryd.prog 100 #[.slice A0 l0.length c0, .int .i64 a1] w fun e w' => e = .returned (.int .i64 r) ∧ Drawn0 w w' := by
  have HR0 := am hr0
  have HC0 := am hc0
  clear hr0 hc0
  have H : (slices_Index_int64_int64.l0 k l0 a1 (l0.length : Int) 0) = some r := h
  clear h
  have H' := am H
  clear H
  go_enter Tryd.func100, Tryd.ntmps100
  go_wp2
  go_loopg [8] k (fun kq v8 w' => ∃ (x8_1 : Int), v8 = .int .i64 x8_1 ∧ Aside0 (slices_Index_int64_int64.l0 kq l0 a1 (l0.length : Int) x8_1 = some r) ∧ Aside0 (kq ≤ k) ∧ Drawn0 w w')
  case atStart => exact ⟨(0), (by first | rfl | (simp; done) | (simp [*]; done)), H', ⟨Nat.le_refl _⟩, by repeat (first | exact Drawn0.refl _ | apply Drawn0.step)⟩
  case round =>
    clear H'
    try clear c1; try clear p2
    obtain ⟨x8_1, rfl, HA, HK1, ⟨m1, rfl⟩⟩ := hrel
    cases gk with
    | zero => exact absurd HA.out (by simp [slices_Index_int64_int64.l0])
    | succ k1 =>
      have H := HA.out
      clear HA
      simp only [slices_Index_int64_int64.l0] at H
      by_cases c3 : x8_1 < (l0.length : Int)
      · rw [if_pos c3] at H
        have c3b0 : decide (x8_1 < (l0.length : Int)) = true := decide_eq_true c3
        clear c3
        by_cases c4 : 0 ≤ x8_1
        · rw [if_pos c4] at H
          have c4b0 : decide (0 ≤ x8_1) = true := decide_eq_true c4
          clear c4
          by_cases c5 : x8_1 < (l0.length : Int)
          · rw [if_pos c5] at H
            have c5b0 : decide (x8_1 < (l0.length : Int)) = true := decide_eq_true c5
            clear c5
            by_cases c6 : a1 = (rd l0 x8_1)
            · rw [if_pos c6] at H
              have c6b0 : (a1 == (rd l0 x8_1)) = true := beq_iff_eq.mpr c6
              have c6b1 : (a1 != (rd l0 x8_1)) = false := bne_eq_false_iff_eq.mpr c6
              clear c6
              obtain rfl := Option.some.inj H
              have p618 : 0 ≤ (x8_1 : Int) := of_decide_eq_true (by first | (with_reducible assumption) | assumption)
              have q618 : x8_1 < (l0.length : Int) := of_decide_eq_true (by first | (with_reducible assumption) | assumption)
              obtain ⟨ad618, e618, hx618_0⟩ := Kd.at_int HR0.out x8_1 p618 q618
              cases e618
              replace p618 := eq_true p618
              replace q618 := eq_true q618
              go_wp2
              go_ret
              exact ⟨by first | rfl | (simp; done) | (simp [*]; done), by repeat (first | exact Drawn0.refl _ | apply Drawn0.step)⟩
            · rw [if_neg c6] at H
              have c6b0 : (a1 == (rd l0 x8_1)) = false := beq_eq_false_iff_ne.mpr c6
              have c6b1 : (a1 != (rd l0 x8_1)) = true := bne_iff_ne.mpr c6
              have H' := am H
              clear H
              have p618 : 0 ≤ (x8_1 : Int) := of_decide_eq_true (by first | (with_reducible assumption) | assumption)
              have q618 : x8_1 < (l0.length : Int) := of_decide_eq_true (by first | (with_reducible assumption) | assumption)
              obtain ⟨ad618, e618, hx618_0⟩ := Kd.at_int HR0.out x8_1 p618 q618
              cases e618
              replace p618 := eq_true p618
              replace q618 := eq_true q618
              go_wp2
              go_roundg k1
              case measure => have := HK1.out; omega
              case rel => exact ⟨(wrap64 (x8_1 + 1)), (by first | rfl | (simp; done) | (simp [*]; done)), H', ⟨by have := HK1.out; omega⟩, by repeat (first | exact Drawn0.refl _ | apply Drawn0.step)⟩
          · rw [if_neg c5] at H
            exact absurd H (by simp)
        · rw [if_neg c4] at H
          exact absurd H (by simp)
      · rw [if_neg c3] at H
        have c3b0 : decide (x8_1 < (l0.length : Int)) = false := decide_eq_false c3
        clear c3
        obtain rfl := Option.some.inj H
        go_wp2
        go_ret
        exact ⟨by first | rfl | (simp; done) | (simp [*]; done), by repeat (first | exact Drawn0.refl _ | apply Drawn0.step)⟩
def slices_Contains_int64_int64.f (k : Nat) (l0 : List Int) (a1 : Int) : Option (Bool) := (slices_Index_int64_int64.f k l0 a1).bind fun t619 => (some (decide (t619 ≥ 0)))
set_option maxHeartbeats 8000000 in
set_option maxRecDepth 100000 in
theorem slices_Contains_int64_int64.calls (k : Nat) (A0 : Option Addr) (c0 : Nat) (l0 : List Int) (a1 : Int) (r : Bool) (w : World) (hr0 : Kd.C (Kd.int .i64) w A0 l0.length l0) (hc0 : l0.length ≤ c0) (h : slices_Contains_int64_int64.f k l0 a1 = some r) :
    Calls Tryd.prog 99 #[.slice A0 l0.length c0, .int .i64 a1] w fun e w' => e = .returned (.bool r) ∧ Drawn0 w w' := by
  have HR0 := am hr0
  have HC0 := am hc0
  clear hr0 hc0
  have H : ((slices_Index_int64_int64.f k l0 a1).bind fun t619 => (some (decide (t619 ≥ 0)))) = some r := h
  clear h
  replace H := Option.bind_eq_some_iff.mp H
  obtain ⟨t619, A30, H⟩ := H
  replace H : (some (decide (t619 ≥ 0))) = some r := H
  have A3 := am A30
  clear A30
  obtain rfl := Option.some.inj H
  go_enter Tryd.func99, Tryd.ntmps99
  go_wp2_with (first | ((with_reducible refine gate_callee (f := 100) rfl ?_); refine goesL_ (some 7) rfl rfl Tryd.func100 (by kernel_rfl) rfl #[.slice A0 l0.length c0, .int .i64 a1] rfl el ?_; (with_reducible refine (slices_Index_int64_int64.calls k _ _ l0 a1 t619 _ ?side1 ?side2 A3.out).mono ?_); (case side1 => exact cq HR0.out); (case side2 => exact HC0.out); rintro e w' ⟨rfl, ⟨nd, rfl⟩⟩; refine ⟨_, rfl, ?_⟩))
  go_ret
  exact ⟨by first | rfl | (simp; done) | (simp [*]; done), by repeat (first | exact Drawn0.refl _ | apply Drawn0.step)⟩
theorem rounds_k {P : Program} {c : Code} {Q : Exit → Act → World → Prop} {n : Nat} {a : Act} {w : World} (h : ∀ K : Act → World → Prop, (∀ a' w', Code.rounds P c Q n a' w' → K a' w') → c.wp P (Exit.then K Q) a w) : Code.rounds P c Q (n + 1) a w := h _ (fun _ _ q => q)
theorem lit_event {P : Program} {ops : Array Oper} {rest : List Oper} {o : Oper} {a : Act} {Q : Exit → Act → World → Prop} {W : World} (hgd : o.guard = none) {N : Tmp} (_hd : o.dst = some N) {n : Nat} {cs : Array Value} {t : TypeId}
    (hrun : (execOp a.eval o).run P W = .ok (.value (.slice (some ⟨W.heap.size, 0, none⟩) n n)) (W.alloc (.cells cs t (0, 0))))
    (h : ∀ g, g = W.heap.size → ∀ w1, w1.heap[g]? = some (.cells cs t (0, 0)) → Below W.heap.size W w1 → wpList P ops Q rest (a.put o.dst (.slice (some ⟨g, 0, none⟩) n n)) w1) : wpList P ops Q (o :: rest) a W :=
  Kd.event_run hgd hrun (h _ rfl _ (blk_new W _) (below_alloc (Below.refl _ _) _))
mutual
def impl_plain.l0 : Nat → List Int → List Int → List Int → Int → Int → Option (List Int × List Int × Bool)
  | 0, _, _, _, _, _ => none
  | k + 1, x4, x14, x16, x24, x25 => if x25 < x24 then (if 0 ≤ x25 then (if x25 < (x14.length : Int) then (if (rd x14 x25) ≥ 0 then (impl_plain.l0 k x4 x14 x16 x24 (wrap64 (x25 + 1))) else ((slices_Contains_int64_int64.f k x4 (rd x14 x25)).bind fun t125 => (if t125 = true then ((slices_Index_int64_int64.f k x4 (rd x14 x25)).bind fun t126 => (impl_plain.l0 k x4 (x14.set (x25 : Int).toNat (wrap64 ((-1) - t126))) x16 x24 (wrap64 (x25 + 1)))) else (if x4.length < 17592186044416 then ((some (x4 ++ [rd x14 x25] : List Int)).bind fun y128 => ((slices_Index_int64_int64.f k y128 (rd x14 x25)).bind fun t131 => (impl_plain.l0 k y128 (x14.set (x25 : Int).toNat (wrap64 ((-1) - t131))) x16 x24 (wrap64 (x25 + 1))))) else (none))))) else (none)) else (none)) else (impl_plain.l1 k x4 x14 x16 (x16.length : Int) 0)
def impl_plain.l1 : Nat → List Int → List Int → List Int → Int → Int → Option (List Int × List Int × Bool)
  | 0, _, _, _, _, _ => none
  | k + 1, x4, x14, x16, x24, x25 => if x25 < x24 then (if 0 ≤ x25 then (if x25 < (x16.length : Int) then (if (rd x16 x25) ≥ 0 then (impl_plain.l1 k x4 x14 x16 x24 (wrap64 (x25 + 1))) else ((slices_Contains_int64_int64.f k x4 (rd x16 x25)).bind fun t134 => (if t134 = true then ((slices_Index_int64_int64.f k x4 (rd x16 x25)).bind fun t135 => (impl_plain.l1 k x4 x14 (x16.set (x25 : Int).toNat (wrap64 ((-1) - t135))) x24 (wrap64 (x25 + 1)))) else (if x4.length < 17592186044416 then ((some (x4 ++ [rd x16 x25] : List Int)).bind fun y137 => ((slices_Index_int64_int64.f k y137 (rd x16 x25)).bind fun t140 => (impl_plain.l1 k y137 x14 (x16.set (x25 : Int).toNat (wrap64 ((-1) - t140))) x24 (wrap64 (x25 + 1))))) else (none))))) else (none)) else (none)) else (some (x14, x16, decide ((x4.length : Int) ≤ 6)))
end
def impl_plain.f (k : Nat) (l0_0 : List Int) (l0_1 : List Int) : Option (List Int × List Int × Bool) := (impl_ownEquation.f l0_0 l0_1).bind fun bt116 => (impl_plain.l0 k (([] : List Int)) bt116.1 bt116.2 (bt116.1.length : Int) 0)
set_option maxHeartbeats 8000000 in
set_option maxRecDepth 100000 in
theorem impl_plain.calls (k : Nat) (A0_0 : Option Addr) (c0_0 : Nat) (l0_0 : List Int) (A0_1 : Option Addr) (c0_1 : Nat) (l0_1 : List Int) (r1 : List Int) (r2 : List Int) (r3 : Bool) (w : World) (hr0_0 : Kd.C (Kd.int .i64) w A0_0 l0_0.length l0_0) (hc0_0 : l0_0.length ≤ c0_0) (hr0_1 : Kd.C (Kd.int .i64) w A0_1 l0_1.length l0_1) (hc0_1 : l0_1.length ≤ c0_1) (h : impl_plain.f k l0_0 l0_1 = some (r1, r2, r3)) :
    Calls Tryd.prog 61 #[.agg #[.slice A0_0 l0_0.length c0_0, .slice A0_1 l0_1.length c0_1]] w fun e w' => ∃ v0_ v1_ : Value, e = .returned (.tuple #[.agg #[v0_, v1_], .bool r3]) ∧ Kd.R (Kd.int .i64) 2 w' w.heap.size (fun k_ => some k_ ≠ (v1_ : Value).ownBlock) v0_ r1 ∧ Kd.R (Kd.int .i64) 2 w' w.heap.size (fun k_ => some k_ ≠ (v0_ : Value).ownBlock) v1_ r2 ∧ Below w.heap.size w w' := by
  have hu47 := Tryd.underlying47
  have hfd47_0 : ∀ (x0_ x1_ : Value) (w_ : World), (Instr.field 47 (.agg #[x0_, x1_]) 0).run Tryd.prog w_ = .ok (x0_) w_ := fun _ _ _ => by kernel_rfl
  have hfd47_1 : ∀ (x0_ x1_ : Value) (w_ : World), (Instr.field 47 (.agg #[x0_, x1_]) 1).run Tryd.prog w_ = .ok (x1_) w_ := fun _ _ _ => by kernel_rfl
  have HR0_0 := am hr0_0
  have HC0_0 := am hc0_0
  clear hr0_0 hc0_0
  have HR0_1 := am hr0_1
  have HC0_1 := am hc0_1
  clear hr0_1 hc0_1
  have HB := am (Below.refl w.heap.size w)
  have H : ((impl_ownEquation.f l0_0 l0_1).bind fun bt116 => (impl_plain.l0 k (([] : List Int)) bt116.1 bt116.2 (bt116.1.length : Int) 0)) = some (r1, r2, r3) := h
  clear h
  obtain ⟨y113, hy113⟩ : ∃ y_ : List Int, y_ = (([] : List Int)) := ⟨_, rfl⟩
  replace H : ((impl_ownEquation.f l0_0 l0_1).bind fun bt116 => (impl_plain.l0 k y113 bt116.1 bt116.2 (bt116.1.length : Int) 0)) = some (r1, r2, r3) := by first | (rw [hy113]; with_reducible exact H) | (have H2_ := (Option.bind_some _ _).symm.trans H; rw [hy113]; with_reducible exact H2_) | (have H2_ := (Option.bind_some _ _).symm.trans H; with_reducible exact H2_) | with_reducible exact H | (rw [hy113]; exact H) | exact H
  have Ny113 := am hy113
  clear hy113
  replace H := Option.bind_eq_some_iff.mp H
  obtain ⟨⟨t116, t119⟩, A20, H⟩ := H
  replace H : (impl_plain.l0 k y113 t116 t119 (t116.length : Int) 0) = some (r1, r2, r3) := H
  have A2 := am A20
  clear A20
  have H' := am H
  clear H
  go_enter Tryd.func61, Tryd.ntmps61
  go_wp2_with (first | ((with_reducible refine gate_dst (N := 1) rfl ?_); refine box_event ?hg (N := 1) ?hd (cs := #[.slice A0_0 l0_0.length c0_0, .slice A0_1 l0_1.length c0_1]) (t := 47) ?hr ?_; (case hd => rfl); (case hg => rfl); (case hr => first | (go_simp; done) | (go_simp; rfl)); intro gb111 hg w3 hbox hb; have n0_ := am (below_step (hq HB.out) hb); have n1_ := am (hbox); have n2_ := am (bz hg (hq HB.out)); have n3_ := n2_; clear HB; revert n0_ n1_ n2_ n3_; intro HB BK111 GW111 GE111; clear hb hbox hg) | ((with_reducible refine gate_dst (N := 2) rfl ?_); refine box_event ?hg (N := 2) ?hd (cs := #[.slice none 0 0, .slice none 0 0]) (t := 47) ?hr ?_; (case hd => rfl); (case hg => rfl); (case hr => first | (go_simp; done) | (go_simp; rfl)); intro gb112 hg w4 hbox hb; have n0_ := am (blk_below (bq BK111.out) hb); have n1_ := am (below_step (hs HB.out) hb); have n2_ := am (hbox); have n3_ := am (bz hg (hs HB.out)); have n4_ := n3_; have n5_ := am ((by rw [hg]; exact Nat.ne_of_lt (blk_lt (bq BK111.out)) : gb111 ≠ gb112)); have n6_ := am ((by rw [hg]; exact Nat.ne_of_gt (blk_lt (bq BK111.out)) : gb112 ≠ gb111)); clear BK111 HB; revert n0_ n1_ n2_ n3_ n4_ n5_ n6_; intro BK111 HB BK112 GW112 GE112 NB111_112 NB112_111; clear hb hbox hg) | ((with_reducible refine gate_dst (N := 10) rfl ?_); refine Kd.R_lit (Kd.int .i64) _ 2 ?hg (N := 10) ?hd (xs := ([] : List Int)) (inner := []) (ok := fun _ => True) (okp := fun _ => True) ?hr ?hp (fun _ hk => hk) trivial (Below.refl _ _) (Nat.le_refl _) (by simp) ?_; (case hd => rfl); (case hg => rfl); (case hr => first | (go_simp; done) | (go_simp; rfl)); (case hp => exact (Reps.none _ _)); intro v114 w5 ho6 hb hg_ hnew_; clear hg_ hnew_; (first | rw [← Ny113.out] at ho6 | (simp only [Int.reduceToNat] at ho6; rw [← Ny113.out] at ho6)); have n0_ := am (Kd.R_lower ho6 (below_size (hs HB.out))); have n1_ := am (blk_below (bq BK111.out) hb); have n2_ := am (blk_below (bq BK112.out) hb); have n3_ := am (below_step (hs HB.out) hb); clear BK111 BK112 HB; revert n0_ n1_ n2_ n3_; intro HO115 BK111 BK112 HB; clear hb ho6; have hnb7 := NB111_112.out; have hnc7 := NB112_111.out; have hcz8_0 : w5.cell? ⟨gb111, 0, none⟩ = some (.slice A0_0 l0_0.length c0_0) := (blk_cell BK111.out 0).trans rfl; have hcz8_1 : w5.cell? ⟨gb111, 1, none⟩ = some (.slice A0_1 l0_1.length c0_1) := (blk_cell BK111.out 1).trans rfl; have hfz8_0 := blk_frozen BK111.out 0; have hfz8_1 := blk_frozen BK111.out 1) | ((with_reducible refine gate_callee (f := 98) rfl ?_); refine goesL_ (some 12) rfl rfl Tryd.func98 (by kernel_rfl) rfl #[.agg #[.slice A0_0 l0_0.length c0_0, .slice A0_1 l0_1.length c0_1]] rfl el ?_; (with_reducible refine (impl_ownEquation.calls _ _ l0_0 _ _ l0_1 t116 t119 _ ?side1 ?side2 ?side3 ?side4 A2.out).mono ?_); (case side1 => exact cq (Kd.C_below HR0_0.out HB.out)); (case side2 => exact HC0_0.out); (case side3 => exact cq (Kd.C_below HR0_1.out HB.out)); (case side4 => exact HC0_1.out); rintro e w9 ⟨v117, v120, rfl, ho0, ho1, hb⟩; refine ⟨_, rfl, ?_⟩; have n0_ := am (Kd.R_mono (Kd.R_told (Kd.R_told (Kd.R_old (rq HO115.out) hb) (Kd.R_base ho0)) (Kd.R_base ho1)) (fun _ h_ => h_.1)); have n1_ := am (Kd.R_lower (Kd.R_new' ho0 (Kd.R_lt (rq HO115.out))) (below_size (hs HB.out))); have n2_ := am (Kd.R_lower (Kd.R_new' ho1 (Kd.R_lt (rq HO115.out))) (below_size (hs HB.out))); have n3_ := am (blk_below (bq BK111.out) hb); have n4_ := am (blk_below (bq BK112.out) hb); have n5_ := am (below_step (hs HB.out) hb); clear HO115 BK111 BK112 HB; revert n0_ n1_ n2_ n3_ n4_ n5_; intro HO115 HO118 HO121 BK111 BK112 HB; (try clear hb); (try clear hb2); (try clear hgw); (try clear hk); (try clear hi); (try clear ho0); (try clear ho1)) | ((with_reducible refine gate_dst (N := 5) rfl ?_); refine box_event ?hg (N := 5) ?hd (cs := #[.slice none 0 0, .slice none 0 0]) (t := 47) ?hr ?_; (case hd => rfl); (case hg => rfl); (case hr => first | (go_simp; done) | (go_simp; rfl)); intro gb122 hg w10 hbox hb; have n0_ := am (Kd.R_below (rq HO115.out) hb); have n1_ := am (Kd.R_below (rq HO118.out) hb); have n2_ := am (Kd.R_below (rq HO121.out) hb); have n3_ := am (blk_below (bq BK111.out) hb); have n4_ := am (blk_below (bq BK112.out) hb); have n5_ := am (below_step (hs HB.out) hb); have n6_ := am (hbox); have n7_ := am (bz hg (hs HB.out)); have n8_ := n7_; have n9_ := am ((by rw [hg]; exact Nat.ne_of_lt (blk_lt (bq BK111.out)) : gb111 ≠ gb122)); have n10_ := am ((by rw [hg]; exact Nat.ne_of_gt (blk_lt (bq BK111.out)) : gb122 ≠ gb111)); have n11_ := am ((by rw [hg]; exact Nat.ne_of_lt (blk_lt (bq BK112.out)) : gb112 ≠ gb122)); have n12_ := am ((by rw [hg]; exact Nat.ne_of_gt (blk_lt (bq BK112.out)) : gb122 ≠ gb112)); clear HO115 HO118 HO121 BK111 BK112 HB; revert n0_ n1_ n2_ n3_ n4_ n5_ n6_ n7_ n8_ n9_ n10_ n11_ n12_; intro HO115 HO118 HO121 BK111 BK112 HB BK122 GW122 GE122 NB111_122 NB122_111 NB112_122 NB122_112; clear hb hbox hg; obtain ⟨Ao12, co12, eo12⟩ := Kd.R_slice HO118.out; subst eo12; have hnb12 := NB122_111.out; have hnc12 := NB111_122.out; have hnb13 := NB122_112.out; have hnc13 := NB112_122.out; have hcz14_0 : w10.cell? ⟨gb122, 0, none⟩ = some (.slice none 0 0) := (blk_cell BK122.out 0).trans rfl; have hcz14_1 : w10.cell? ⟨gb122, 1, none⟩ = some (.slice none 0 0) := (blk_cell BK122.out 1).trans rfl; have hfz14_0 := blk_frozen BK122.out 0; have hfz14_1 := blk_frozen BK122.out 1; obtain ⟨Ao32, co32, eo32⟩ := Kd.R_slice HO121.out; subst eo32) | ((with_reducible refine gate_dst (N := 17) rfl ?_); refine lit_event ?hg (N := 17) ?hd (n := 2) (cs := #[.slice Ao12 t116.length co12, .slice Ao32 t119.length co32]) (t := 27) ?hr ?_; (case hd => rfl); (case hg => rfl); (case hr => first | (go_simp; done) | (go_simp; rfl)); intro gb123 hg wz1 hbox hb; have n0_ := am (Kd.R_below (rq ((Kd.R_mono (Kd.R_far (p := ⟨gb122, 1, none⟩) (Kd.R_far (p := ⟨gb122, 0, none⟩) (Kd.R_types HO115.out BK122.out (by decide)) (fun _ hk => hk.2) (.slice Ao12 t116.length co12)) (fun _ hk => hk.2) (.slice Ao32 t119.length co32)) (fun _ h_ => h_.1)))) hb); have n1_ := am (Kd.R_below (rq ((Kd.R_mono (Kd.R_far (p := ⟨gb122, 1, none⟩) (Kd.R_far (p := ⟨gb122, 0, none⟩) (Kd.R_types HO118.out BK122.out (by decide)) (fun _ hk => hk.2) (.slice Ao12 t116.length co12)) (fun _ hk => hk.2) (.slice Ao32 t119.length co32)) (fun _ h_ => h_.1)))) hb); have n2_ := am (Kd.R_below (rq ((Kd.R_mono (Kd.R_far (p := ⟨gb122, 1, none⟩) (Kd.R_far (p := ⟨gb122, 0, none⟩) (Kd.R_types HO121.out BK122.out (by decide)) (fun _ hk => hk.2) (.slice Ao12 t116.length co12)) (fun _ hk => hk.2) (.slice Ao32 t119.length co32)) (fun _ h_ => h_.1)))) hb); have n3_ := am (blk_below (g := gb111) (o := .cells #[.slice A0_0 l0_0.length c0_0, .slice A0_1 l0_1.length c0_1] 47 (0, 0)) (by refine bq ?_; refine blk_far ?_ NB111_122.out _; refine bq ?_; refine blk_far ?_ NB111_122.out _; refine bq ?_; exact BK111.out) hb); have n4_ := am (blk_below (g := gb112) (o := .cells #[.slice none 0 0, .slice none 0 0] 47 (0, 0)) (by refine bq ?_; refine blk_far ?_ NB112_122.out _; refine bq ?_; refine blk_far ?_ NB112_122.out _; refine bq ?_; exact BK112.out) hb); have n5_ := am (blk_below (g := gb122) (o := .cells #[.slice Ao12 t116.length co12, .slice Ao32 t119.length co32] 47 (0, 0)) (by refine bq ?_; refine blk_put (cs := #[.slice Ao12 t116.length co12, .slice none 0 0]) ?_ 1 _ rfl; refine bq ?_; refine blk_put (cs := #[.slice none 0 0, .slice none 0 0]) ?_ 0 _ rfl; refine bq ?_; exact BK122.out) hb); have n6_ := am (below_step (hs HB.out) hb); have n7_ := am (hbox); have n8_ := am (bz hg (hs HB.out)); have n9_ := n8_; have n10_ := am ((by rw [hg]; exact Nat.ne_of_lt (blk_lt (g := gb111) (o := .cells #[.slice A0_0 l0_0.length c0_0, .slice A0_1 l0_1.length c0_1] 47 (0, 0)) (by refine bq ?_; refine blk_far ?_ NB111_122.out _; refine bq ?_; refine blk_far ?_ NB111_122.out _; refine bq ?_; exact BK111.out)) : gb111 ≠ gb123)); have n11_ := am ((by rw [hg]; exact Nat.ne_of_gt (blk_lt (g := gb111) (o := .cells #[.slice A0_0 l0_0.length c0_0, .slice A0_1 l0_1.length c0_1] 47 (0, 0)) (by refine bq ?_; refine blk_far ?_ NB111_122.out _; refine bq ?_; refine blk_far ?_ NB111_122.out _; refine bq ?_; exact BK111.out)) : gb123 ≠ gb111)); have n12_ := am ((by rw [hg]; exact Nat.ne_of_lt (blk_lt (g := gb112) (o := .cells #[.slice none 0 0, .slice none 0 0] 47 (0, 0)) (by refine bq ?_; refine blk_far ?_ NB112_122.out _; refine bq ?_; refine blk_far ?_ NB112_122.out _; refine bq ?_; exact BK112.out)) : gb112 ≠ gb123)); have n13_ := am ((by rw [hg]; exact Nat.ne_of_gt (blk_lt (g := gb112) (o := .cells #[.slice none 0 0, .slice none 0 0] 47 (0, 0)) (by refine bq ?_; refine blk_far ?_ NB112_122.out _; refine bq ?_; refine blk_far ?_ NB112_122.out _; refine bq ?_; exact BK112.out)) : gb123 ≠ gb112)); have n14_ := am ((by rw [hg]; exact Nat.ne_of_lt (blk_lt (g := gb122) (o := .cells #[.slice Ao12 t116.length co12, .slice Ao32 t119.length co32] 47 (0, 0)) (by refine bq ?_; refine blk_put (cs := #[.slice Ao12 t116.length co12, .slice none 0 0]) ?_ 1 _ rfl; refine bq ?_; refine blk_put (cs := #[.slice none 0 0, .slice none 0 0]) ?_ 0 _ rfl; refine bq ?_; exact BK122.out)) : gb122 ≠ gb123)); have n15_ := am ((by rw [hg]; exact Nat.ne_of_gt (blk_lt (g := gb122) (o := .cells #[.slice Ao12 t116.length co12, .slice Ao32 t119.length co32] 47 (0, 0)) (by refine bq ?_; refine blk_put (cs := #[.slice Ao12 t116.length co12, .slice none 0 0]) ?_ 1 _ rfl; refine bq ?_; refine blk_put (cs := #[.slice none 0 0, .slice none 0 0]) ?_ 0 _ rfl; refine bq ?_; exact BK122.out)) : gb123 ≠ gb122)); clear HO115 HO118 HO121 BK111 BK112 BK122 HB; revert n0_ n1_ n2_ n3_ n4_ n5_ n6_ n7_ n8_ n9_ n10_ n11_ n12_ n13_ n14_ n15_; intro HO115 HO118 HO121 BK111 BK112 BK122 HB BK123 GW123 GE123 NB111_123 NB123_111 NB112_123 NB123_112 NB122_123 NB123_122; clear hb hbox hg))
  obtain ⟨m3_, hm3_⟩ : ∃ m_ : Nat, m_ = 2 := ⟨_, rfl⟩
  refine wp_loop_rounds (m3_ + 1) ?_
  refine rounds_k ?_
  intro KR1 hKR1
  have HKR1 := am hKR1
  clear hKR1
  have hz1 : wz1.cell? ⟨gb123, 0, none⟩ = some (.slice Ao12 t116.length co12) := (blk_cell BK123.out 0).trans rfl
  go_wp2
  clear hz1
  go_loopg [4, 25] k (fun kq v4 v25 w' => ∃ (x4_1 : List Int) (x14_1 : List Int) (x16_1 : List Int) (x25_1 : Int), v25 = .int .i64 x25_1 ∧ Aside0 (impl_plain.l0 kq x4_1 x14_1 x16_1 (t116.length : Int) x25_1 = some (r1, r2, r3)) ∧ Aside0 (kq ≤ k) ∧ Aside0 (Kd.R (Kd.int .i64) 2 w' w.heap.size (fun k_ => some k_ ≠ ((.slice Ao12 t116.length co12) : Value).ownBlock ∧ some k_ ≠ ((.slice Ao32 t119.length co32) : Value).ownBlock) v4 x4_1) ∧ Aside0 (Kd.R (Kd.int .i64) 2 w' w.heap.size (fun k_ => some k_ ≠ (v4 : Value).ownBlock ∧ some k_ ≠ ((.slice Ao32 t119.length co32) : Value).ownBlock) (.slice Ao12 t116.length co12) x14_1) ∧ Aside0 (Kd.R (Kd.int .i64) 2 w' w.heap.size (fun k_ => some k_ ≠ (v4 : Value).ownBlock ∧ some k_ ≠ ((.slice Ao12 t116.length co12) : Value).ownBlock) (.slice Ao32 t119.length co32) x16_1) ∧ Aside0 (w'.heap[gb111]? = some (.cells #[(.slice A0_0 l0_0.length c0_0), (.slice A0_1 l0_1.length c0_1)] 47 (0, 0))) ∧ Aside0 (w'.heap[gb112]? = some (.cells #[(.slice none 0 0), (.slice none 0 0)] 47 (0, 0))) ∧ Aside0 (w'.heap[gb122]? = some (.cells #[(.slice Ao12 t116.length co12), (.slice Ao32 t119.length co32)] 47 (0, 0))) ∧ Aside0 (w'.heap[gb123]? = some (.cells #[(.slice Ao12 t116.length co12), (.slice Ao32 t119.length co32)] 27 (0, 0))) ∧ Aside0 (Below w.heap.size w w'))
  case atStart => exact ⟨(y113), (t116), (t119), (0), (by first | rfl | (simp; done) | (simp [*]; done)), H', ⟨Nat.le_refl _⟩, ⟨by (with_reducible repeat (first | apply Kd.R_alloc | apply Kd.R_drewN | apply Kd.R_drew)); exact Kd.R_mono HO115.out (fun _ hk => by first | exact ⟨hk.1.2, hk.2⟩ | exact ⟨hk.2, hk.1.2⟩ | trivial)⟩, ⟨by (with_reducible repeat (first | apply Kd.R_alloc | apply Kd.R_drewN | apply Kd.R_drew)); exact Kd.R_mono HO118.out (fun _ hk => by first | exact ⟨hk.2, hk.1⟩ | exact ⟨hk.1, hk.2⟩ | trivial)⟩, ⟨by (with_reducible repeat (first | apply Kd.R_alloc | apply Kd.R_drewN | apply Kd.R_drew)); exact Kd.R_mono HO121.out (fun _ hk => by first | exact ⟨hk.2, hk.1⟩ | exact ⟨hk.1, hk.2⟩ | trivial)⟩, ⟨by refine bq ?_; exact BK111.out⟩, ⟨by refine bq ?_; exact BK112.out⟩, ⟨by refine bq ?_; exact BK122.out⟩, ⟨by refine bq ?_; exact BK123.out⟩, ⟨by exact hs HB.out⟩⟩
  case round =>
    clear H'
    try clear p2; try clear c6; try clear c7; try clear c9; try clear hcz8_0; try clear hcz8_1; try clear hfz8_0; try clear hfz8_1
    obtain ⟨x4_1, x14_1, x16_1, x25_1, rfl, HA, HK1, HO_4, HO_14, HO_16, BK111, BK112, BK122, BK123, HB⟩ := hrel
    have hl14_1 := (Kd.R_reads' HO_14.out).1
    rw [hl14_1] at HO_14
    (try simp only [hl14_1])
    (try simp only [hl14_1] at BK111)
    (try simp only [hl14_1] at BK112)
    (try simp only [hl14_1] at BK122)
    (try simp only [hl14_1] at BK123)
    (try simp only [hl14_1] at HO_4)
    (try simp only [hl14_1] at HO_16)
    cases gk with
    | zero => exact absurd HA.out (by simp [impl_plain.l0])
    | succ k1 =>
      have H := HA.out
      clear HA
      simp only [impl_plain.l0] at H
      by_cases c13 : x25_1 < (t116.length : Int)
      · rw [if_pos c13] at H
        have c13b0 : decide (x25_1 < (t116.length : Int)) = true := decide_eq_true c13
        clear c13
        by_cases c14 : 0 ≤ x25_1
        · rw [if_pos c14] at H
          have c14b0 : decide (0 ≤ x25_1) = true := decide_eq_true c14
          clear c14
          by_cases c15 : x25_1 < (x14_1.length : Int)
          · rw [if_pos c15] at H
            have c15b0 : decide (x25_1 < (x14_1.length : Int)) = true := decide_eq_true c15
            clear c15
            by_cases c16 : (rd x14_1 x25_1) ≥ 0
            · rw [if_pos c16] at H
              have c16b0 : decide (0 ≤ (rd x14_1 x25_1)) = true := decide_eq_true c16
              clear c16
              have H' := am H
              clear H
              have p124 : 0 ≤ (x25_1 : Int) := of_decide_eq_true (by first | (with_reducible assumption) | assumption)
              have q124 : x25_1 < (x14_1.length : Int) := of_decide_eq_true (by first | (with_reducible assumption) | assumption)
              obtain ⟨ad124, e124, hx124_0⟩ := Kd.at_int (Kd.R_reads' HO_14.out).2.2 x25_1 p124 q124
              cases e124
              replace p124 := eq_true p124
              replace q124 := eq_true q124
              go_wp2
              (try simp only [← hl14_1])
              go_roundg k1
              case measure => have := HK1.out; omega
              case rel => exact ⟨(x4_1), (x14_1), (x16_1), (wrap64 (x25_1 + 1)), (by first | rfl | (simp; done) | (simp [*]; done)), H', ⟨by have := HK1.out; omega⟩, ⟨by (try simp only [hl14_1]); (with_reducible repeat (first | apply Kd.R_alloc | apply Kd.R_drewN | apply Kd.R_drew)); exact HO_4.out⟩, ⟨by (try simp only [hl14_1]); (with_reducible repeat (first | apply Kd.R_alloc | apply Kd.R_drewN | apply Kd.R_drew)); exact HO_14.out⟩, ⟨by (try simp only [hl14_1]); (with_reducible repeat (first | apply Kd.R_alloc | apply Kd.R_drewN | apply Kd.R_drew)); exact HO_16.out⟩, ⟨by (try simp only [hl14_1]); refine bq ?_; exact BK111.out⟩, ⟨by (try simp only [hl14_1]); refine bq ?_; exact BK112.out⟩, ⟨by (try simp only [hl14_1]); refine bq ?_; exact BK122.out⟩, ⟨by (try simp only [hl14_1]); refine bq ?_; exact BK123.out⟩, ⟨by exact hs HB.out⟩⟩
            · rw [if_neg c16] at H
              have c16b0 : decide (0 ≤ (rd x14_1 x25_1)) = false := decide_eq_false c16
              clear c16
              replace H := Option.bind_eq_some_iff.mp H
              obtain ⟨t125, A170, H⟩ := H
              replace H : (if t125 = true then ((slices_Index_int64_int64.f k1 x4_1 (rd x14_1 x25_1)).bind fun t126 => (impl_plain.l0 k1 x4_1 (x14_1.set (x25_1 : Int).toNat (wrap64 ((-1) - t126))) x16_1 (t116.length : Int) (wrap64 (x25_1 + 1)))) else (if x4_1.length < 17592186044416 then ((some (x4_1 ++ [rd x14_1 x25_1] : List Int)).bind fun y128 => ((slices_Index_int64_int64.f k1 y128 (rd x14_1 x25_1)).bind fun t131 => (impl_plain.l0 k1 y128 (x14_1.set (x25_1 : Int).toNat (wrap64 ((-1) - t131))) x16_1 (t116.length : Int) (wrap64 (x25_1 + 1))))) else (none))) = some (r1, r2, r3) := H
              have A17 := am A170
              clear A170
              by_cases c18 : t125 = true
              · subst c18
                have H1 : ((slices_Index_int64_int64.f k1 x4_1 (rd x14_1 x25_1)).bind fun t126 => (impl_plain.l0 k1 x4_1 (x14_1.set (x25_1 : Int).toNat (wrap64 ((-1) - t126))) x16_1 (t116.length : Int) (wrap64 (x25_1 + 1)))) = some (r1, r2, r3) := by rw [if_pos rfl] at H; exact H
                clear H
                have H := H1
                clear H1
                replace H := Option.bind_eq_some_iff.mp H
                obtain ⟨t126, A190, H⟩ := H
                replace H : (impl_plain.l0 k1 x4_1 (x14_1.set (x25_1 : Int).toNat (wrap64 ((-1) - t126))) x16_1 (t116.length : Int) (wrap64 (x25_1 + 1))) = some (r1, r2, r3) := H
                have A19 := am A190
                clear A190
                obtain ⟨y127, hy127⟩ : ∃ y_ : List Int, y_ = (x14_1.set (x25_1 : Int).toNat (wrap64 ((-1) - t126))) := ⟨_, rfl⟩
                replace H : (impl_plain.l0 k1 x4_1 y127 x16_1 (t116.length : Int) (wrap64 (x25_1 + 1))) = some (r1, r2, r3) := by first | (rw [hy127]; with_reducible exact H) | (have H2_ := (Option.bind_some _ _).symm.trans H; rw [hy127]; with_reducible exact H2_) | (have H2_ := (Option.bind_some _ _).symm.trans H; with_reducible exact H2_) | with_reducible exact H | (rw [hy127]; exact H) | exact H
                have Ny127 := am hy127
                clear hy127
                have H' := am H
                clear H
                have p124 : 0 ≤ (x25_1 : Int) := of_decide_eq_true (by first | (with_reducible assumption) | assumption)
                have q124 : x25_1 < (x14_1.length : Int) := of_decide_eq_true (by first | (with_reducible assumption) | assumption)
                obtain ⟨ad124, e124, hx124_0⟩ := Kd.at_int (Kd.R_reads' HO_14.out).2.2 x25_1 p124 q124
                cases e124
                replace p124 := eq_true p124
                replace q124 := eq_true q124
                obtain ⟨Ao21, co21, eo21⟩ := Kd.R_slice HO_4.out
                subst eo21
                go_wp2_with (first | ((with_reducible refine gate_callee (f := 99) rfl ?_); refine goesL_ (some 34) rfl rfl Tryd.func99 (by kernel_rfl) rfl #[.slice Ao21 x4_1.length co21, .int .i64 (rd x14_1 x25_1)] rfl el ?_; (with_reducible refine (slices_Contains_int64_int64.calls k1 _ _ x4_1 (rd x14_1 x25_1) true _ ?side1 ?side2 A17.out).mono ?_); (case side1 => repeat (first | exact (Kd.R_reads' HO_4.out).2.2 | (with_reducible refine Kd.C_alloc ?_ _) | (with_reducible refine Kd.C_drewN ?_ _) | (with_reducible refine Kd.C_drew ?_))); (case side2 => exact (Kd.R_reads' HO_4.out).2.1); rintro e w' ⟨rfl, ⟨nd, rfl⟩⟩; refine ⟨_, rfl, ?_⟩; (try (rw [drewN_self wr]; generalize hq_ : World.drewN wr _ = wr; have n0_ : Aside0 (Kd.R (Kd.int .i64) 2 wr w.heap.size (fun k_ => some k_ ≠ ((.slice Ao32 t119.length co32) : Value).ownBlock ∧ some k_ ≠ (.slice Ao21 x4_1.length co21 : Value).ownBlock) (.slice (some ad124) x14_1.length co12) x14_1) := ⟨by rw [← hq_]; exact (by (with_reducible repeat (first | apply Kd.R_alloc | apply Kd.R_drewN | apply Kd.R_drew)); exact Kd.R_mono HO_14.out (fun _ hk => by first | exact ⟨hk.2, hk.1⟩ | exact ⟨hk.1, hk.2⟩ | trivial))⟩; have n1_ : Aside0 (Kd.R (Kd.int .i64) 2 wr w.heap.size (fun k_ => some k_ ≠ (.slice (some ad124) x14_1.length co12 : Value).ownBlock ∧ some k_ ≠ (.slice Ao21 x4_1.length co21 : Value).ownBlock) (.slice Ao32 t119.length co32) x16_1) := ⟨by rw [← hq_]; exact (by (with_reducible repeat (first | apply Kd.R_alloc | apply Kd.R_drewN | apply Kd.R_drew)); exact Kd.R_mono HO_16.out (fun _ hk => by first | exact ⟨hk.2, hk.1⟩ | exact ⟨hk.1, hk.2⟩ | trivial))⟩; have n2_ : Aside0 (Kd.R (Kd.int .i64) 2 wr w.heap.size (fun k_ => some k_ ≠ (.slice (some ad124) x14_1.length co12 : Value).ownBlock ∧ some k_ ≠ ((.slice Ao32 t119.length co32) : Value).ownBlock) (.slice Ao21 x4_1.length co21) x4_1) := ⟨by rw [← hq_]; exact (rq HO_4.out)⟩; have n3_ : Aside0 (wr.heap[gb111]? = some (.cells #[.slice A0_0 l0_0.length c0_0, .slice A0_1 l0_1.length c0_1] 47 (0, 0))) := ⟨by rw [← hq_]; exact (bq BK111.out)⟩; have n4_ : Aside0 (wr.heap[gb112]? = some (.cells #[.slice none 0 0, .slice none 0 0] 47 (0, 0))) := ⟨by rw [← hq_]; exact (bq BK112.out)⟩; have n5_ : Aside0 (wr.heap[gb122]? = some (.cells #[(.slice (some ad124) x14_1.length co12), (.slice Ao32 t119.length co32)] 47 (0, 0))) := ⟨by rw [← hq_]; exact (bq BK122.out)⟩; have n6_ : Aside0 (wr.heap[gb123]? = some (.cells #[(.slice (some ad124) x14_1.length co12), (.slice Ao32 t119.length co32)] 27 (0, 0))) := ⟨by rw [← hq_]; exact (bq BK123.out)⟩; have n7_ : Aside0 (Below w.heap.size w wr) := ⟨by rw [← hq_]; exact (hs HB.out)⟩; clear HO_14 HO_16 HO_4 BK111 BK112 BK122 BK123 HB hq_; have HO_14 := n0_; have HO_16 := n1_; have HO_4 := n2_; have BK111 := n3_; have BK112 := n4_; have BK122 := n5_; have BK123 := n6_; have HB := n7_; clear n0_ n1_ n2_ n3_ n4_ n5_ n6_ n7_))) | ((with_reducible refine gate_callee (f := 100) rfl ?_); refine goesL_ (some 44) rfl rfl Tryd.func100 (by kernel_rfl) rfl #[.slice Ao21 x4_1.length co21, .int .i64 (rd x14_1 x25_1)] rfl el ?_; (with_reducible refine (slices_Index_int64_int64.calls k1 _ _ x4_1 (rd x14_1 x25_1) t126 _ ?side1 ?side2 A19.out).mono ?_); (case side1 => repeat (first | exact (Kd.R_reads' HO_4.out).2.2 | (with_reducible refine Kd.C_alloc ?_ _) | (with_reducible refine Kd.C_drewN ?_ _) | (with_reducible refine Kd.C_drew ?_))); (case side2 => exact (Kd.R_reads' HO_4.out).2.1); rintro e w' ⟨rfl, ⟨nd, rfl⟩⟩; refine ⟨_, rfl, ?_⟩; (try (rw [drewN_self wr]; generalize hq_ : World.drewN wr _ = wr; have n0_ : Aside0 (Kd.R (Kd.int .i64) 2 wr w.heap.size (fun k_ => some k_ ≠ ((.slice Ao32 t119.length co32) : Value).ownBlock ∧ some k_ ≠ (.slice Ao21 x4_1.length co21 : Value).ownBlock) (.slice (some ad124) x14_1.length co12) x14_1) := ⟨by rw [← hq_]; exact (by (with_reducible repeat (first | apply Kd.R_alloc | apply Kd.R_drewN | apply Kd.R_drew)); exact Kd.R_mono HO_14.out (fun _ hk => by first | exact ⟨hk.2, hk.1⟩ | exact ⟨hk.1, hk.2⟩ | trivial))⟩; have n1_ : Aside0 (Kd.R (Kd.int .i64) 2 wr w.heap.size (fun k_ => some k_ ≠ (.slice (some ad124) x14_1.length co12 : Value).ownBlock ∧ some k_ ≠ (.slice Ao21 x4_1.length co21 : Value).ownBlock) (.slice Ao32 t119.length co32) x16_1) := ⟨by rw [← hq_]; exact (by (with_reducible repeat (first | apply Kd.R_alloc | apply Kd.R_drewN | apply Kd.R_drew)); exact Kd.R_mono HO_16.out (fun _ hk => by first | exact ⟨hk.2, hk.1⟩ | exact ⟨hk.1, hk.2⟩ | trivial))⟩; have n2_ : Aside0 (Kd.R (Kd.int .i64) 2 wr w.heap.size (fun k_ => some k_ ≠ (.slice (some ad124) x14_1.length co12 : Value).ownBlock ∧ some k_ ≠ ((.slice Ao32 t119.length co32) : Value).ownBlock) (.slice Ao21 x4_1.length co21) x4_1) := ⟨by rw [← hq_]; exact (rq HO_4.out)⟩; have n3_ : Aside0 (wr.heap[gb111]? = some (.cells #[.slice A0_0 l0_0.length c0_0, .slice A0_1 l0_1.length c0_1] 47 (0, 0))) := ⟨by rw [← hq_]; exact (bq BK111.out)⟩; have n4_ : Aside0 (wr.heap[gb112]? = some (.cells #[.slice none 0 0, .slice none 0 0] 47 (0, 0))) := ⟨by rw [← hq_]; exact (bq BK112.out)⟩; have n5_ : Aside0 (wr.heap[gb122]? = some (.cells #[(.slice (some ad124) x14_1.length co12), (.slice Ao32 t119.length co32)] 47 (0, 0))) := ⟨by rw [← hq_]; exact (bq BK122.out)⟩; have n6_ : Aside0 (wr.heap[gb123]? = some (.cells #[(.slice (some ad124) x14_1.length co12), (.slice Ao32 t119.length co32)] 27 (0, 0))) := ⟨by rw [← hq_]; exact (bq BK123.out)⟩; have n7_ : Aside0 (Below w.heap.size w wr) := ⟨by rw [← hq_]; exact (hs HB.out)⟩; clear HO_14 HO_16 HO_4 BK111 BK112 BK122 BK123 HB hq_; have HO_14 := n0_; have HO_16 := n1_; have HO_4 := n2_; have BK111 := n3_; have BK112 := n4_; have BK122 := n5_; have BK123 := n6_; have HB := n7_; clear n0_ n1_ n2_ n3_ n4_ n5_ n6_ n7_)); have p20 : 0 ≤ (x25_1 : Int) := of_decide_eq_true (by first | (with_reducible assumption) | assumption); have q20 : (x25_1 : Int) < ((x14_1.length : Int) : Int) := of_decide_eq_true (by first | (with_reducible assumption) | assumption); obtain ⟨go20, co20, eo20, gb20, gl20, cl20, HG20⟩ := Kd.R_form HO_14.out (by omega); (first | cases eo20 | (injection eo20 with ea_ en_ ec_; (first | subst ea_ | (injection ea_ with ea_; subst ea_)); subst ec_; clear en_)); have GB20 := am gb20; have GG20 := am HG20; clear gb20 gl20 HG20; (first | simp only [add_plain] at hx124_0 | skip); obtain ⟨hx20_0, hf20_0⟩ := Kd.R_celln 0 HO_14.out (x25_1 : Int) p20 q20; replace p20 := eq_true p20; replace q20 := eq_true q20; obtain ⟨hy22_, hz22_⟩ := Kd.R_celln 0 HO_14.out (x25_1 : Int) (of_decide_eq_true (by first | (with_reducible assumption) | assumption)) (of_decide_eq_true (by first | (with_reducible assumption) | assumption)); have HP22 := Kd.R_putg HO_14.out (x25_1 : Int) (wrap64 ((-1) - t126))) | ((with_reducible refine gate_store (t := 2) (p := 46) rfl ?_); refine store_event (t := 2) (p := 46) (v := ?vo_w23) (w1 := (wr.setCell ⟨go20, (x25_1 : Int).toNat, none⟩ (.int .i64 (wrap64 ((-1) - t126))))) ?hg ?ho ?hn ?hr ?_; (case ho => rfl); (case hg => rfl); (case hn => rfl); (case hr => first | (go_simp; done) | (go_simp; rfl)); intro w23 hw; have hg : wr.grownBy w23 (some go20) := (by rw [hw]; exact HP22.2); have hp_ : Kd.R (Kd.int .i64) 2 w23 w.heap.size (fun k_ => some k_ ≠ (.slice Ao21 x4_1.length co21 : Value).ownBlock ∧ some k_ ≠ ((.slice Ao32 t119.length co32) : Value).ownBlock) (.slice (some ⟨go20, 0, none⟩) x14_1.length co12) y127 := (by rw [hw, Ny127.out]; first | exact HP22.1 | exact Kd.R_mono (d := Kd.int .i64) HP22.1 (fun _ hk => ⟨hk.2, hk.1⟩)); clear HP22; have n0_ := am (Kd.R_after (v := (.slice (some ⟨go20, 0, none⟩) x14_1.length co12)) (v1 := (.slice (some ⟨go20, 0, none⟩) x14_1.length co12)) (ok := (fun k_ => some k_ ≠ ((.slice Ao32 t119.length co32) : Value).ownBlock)) (by (with_reducible repeat (first | apply Kd.R_alloc | apply Kd.R_drewN | apply Kd.R_drew)); exact Kd.R_mono HO_4.out (fun _ hk => by first | exact ⟨hk.2, hk.1⟩ | exact ⟨hk.1, hk.2⟩ | trivial)) hg (.inl rfl)); have n1_ := am (hp_); have n2_ := am (Kd.R_after (v := (.slice (some ⟨go20, 0, none⟩) x14_1.length co12)) (v1 := (.slice (some ⟨go20, 0, none⟩) x14_1.length co12)) (ok := (fun k_ => some k_ ≠ (.slice Ao21 x4_1.length co21 : Value).ownBlock)) (by (with_reducible repeat (first | apply Kd.R_alloc | apply Kd.R_drewN | apply Kd.R_drew)); first | exact HO_16.out | exact Kd.R_mono HO_16.out (fun _ hk => ⟨hk.2, hk.1⟩)) hg (.inl rfl)); have n3_ := am (blk_grown (bq BK111.out) hg (Kd.R_ne HO_14.out BK111.out (by decide))); have n4_ := am (blk_grown (bq BK112.out) hg (Kd.R_ne HO_14.out BK112.out (by decide))); have n5_ := am (blk_grown (bq BK122.out) hg (Kd.R_ne HO_14.out BK122.out (by decide))); have n6_ := am (blk_grown (bq BK123.out) hg (Kd.R_ne HO_14.out BK123.out (by decide))); have n7_ := am ((by rw [hw]; exact below_set (HB.out) GB20.out : Below w.heap.size w w23)); clear HO_4 HO_14 HO_16 BK111 BK112 BK122 BK123 HB; revert n0_ n1_ n2_ n3_ n4_ n5_ n6_ n7_; intro HO_4 HO_14 HO_16 BK111 BK112 BK122 BK123 HB; clear hg hw hp_))
                (try simp only [← hl14_1])
                go_roundg k1
                case measure => have := HK1.out; omega
                case rel => exact ⟨(x4_1), (y127), (x16_1), (wrap64 (x25_1 + 1)), (by first | rfl | (simp; done) | (simp [*]; done)), H', ⟨by have := HK1.out; omega⟩, ⟨by (try simp only [hl14_1]); (with_reducible repeat (first | apply Kd.R_alloc | apply Kd.R_drewN | apply Kd.R_drew)); exact Kd.R_mono HO_4.out (fun _ hk => by first | exact ⟨hk.2, hk.1⟩ | exact ⟨hk.1, hk.2⟩ | trivial)⟩, ⟨by (try simp only [hl14_1]); (with_reducible repeat (first | apply Kd.R_alloc | apply Kd.R_drewN | apply Kd.R_drew)); exact HO_14.out⟩, ⟨by (try simp only [hl14_1]); (with_reducible repeat (first | apply Kd.R_alloc | apply Kd.R_drewN | apply Kd.R_drew)); exact HO_16.out⟩, ⟨by (try simp only [hl14_1]); refine bq ?_; exact BK111.out⟩, ⟨by (try simp only [hl14_1]); refine bq ?_; exact BK112.out⟩, ⟨by (try simp only [hl14_1]); refine bq ?_; exact BK122.out⟩, ⟨by (try simp only [hl14_1]); refine bq ?_; exact BK123.out⟩, ⟨by exact hs HB.out⟩⟩
              · replace c18 := Bool.eq_false_iff.mpr c18
                subst c18
                have H1 : (if x4_1.length < 17592186044416 then ((some (x4_1 ++ [rd x14_1 x25_1] : List Int)).bind fun y128 => ((slices_Index_int64_int64.f k1 y128 (rd x14_1 x25_1)).bind fun t131 => (impl_plain.l0 k1 y128 (x14_1.set (x25_1 : Int).toNat (wrap64 ((-1) - t131))) x16_1 (t116.length : Int) (wrap64 (x25_1 + 1))))) else (none)) = some (r1, r2, r3) := by rw [if_neg (show ¬ (false = true) by decide)] at H; exact H
                clear H
                have H := H1
                clear H1
                by_cases c24 : x4_1.length < 17592186044416
                · rw [if_pos c24] at H
                  have LMc24 := am c24
                  clear c24
                  obtain ⟨y128, hy128⟩ : ∃ y_ : List Int, y_ = (x4_1 ++ [rd x14_1 x25_1]) := ⟨_, rfl⟩
                  replace H : ((slices_Index_int64_int64.f k1 y128 (rd x14_1 x25_1)).bind fun t131 => (impl_plain.l0 k1 y128 (x14_1.set (x25_1 : Int).toNat (wrap64 ((-1) - t131))) x16_1 (t116.length : Int) (wrap64 (x25_1 + 1)))) = some (r1, r2, r3) := by first | (rw [hy128]; with_reducible exact H) | (have H2_ := (Option.bind_some _ _).symm.trans H; rw [hy128]; with_reducible exact H2_) | (have H2_ := (Option.bind_some _ _).symm.trans H; with_reducible exact H2_) | with_reducible exact H | (rw [hy128]; exact H) | exact H
                  have Ny128 := am hy128
                  clear hy128
                  replace H := Option.bind_eq_some_iff.mp H
                  obtain ⟨t131, A250, H⟩ := H
                  replace H : (impl_plain.l0 k1 y128 (x14_1.set (x25_1 : Int).toNat (wrap64 ((-1) - t131))) x16_1 (t116.length : Int) (wrap64 (x25_1 + 1))) = some (r1, r2, r3) := H
                  have A25 := am A250
                  clear A250
                  obtain ⟨y132, hy132⟩ : ∃ y_ : List Int, y_ = (x14_1.set (x25_1 : Int).toNat (wrap64 ((-1) - t131))) := ⟨_, rfl⟩
                  replace H : (impl_plain.l0 k1 y128 y132 x16_1 (t116.length : Int) (wrap64 (x25_1 + 1))) = some (r1, r2, r3) := by first | (rw [hy132]; with_reducible exact H) | (have H2_ := (Option.bind_some _ _).symm.trans H; rw [hy132]; with_reducible exact H2_) | (have H2_ := (Option.bind_some _ _).symm.trans H; with_reducible exact H2_) | with_reducible exact H | (rw [hy132]; exact H) | exact H
                  have Ny132 := am hy132
                  clear hy132
                  have H' := am H
                  clear H
                  have p124 : 0 ≤ (x25_1 : Int) := of_decide_eq_true (by first | (with_reducible assumption) | assumption)
                  have q124 : x25_1 < (x14_1.length : Int) := of_decide_eq_true (by first | (with_reducible assumption) | assumption)
                  obtain ⟨ad124, e124, hx124_0⟩ := Kd.at_int (Kd.R_reads' HO_14.out).2.2 x25_1 p124 q124
                  cases e124
                  replace p124 := eq_true p124
                  replace q124 := eq_true q124
                  obtain ⟨Ao27, co27, eo27⟩ := Kd.R_slice HO_4.out
                  subst eo27
                  go_wp2_with (first | ((with_reducible refine gate_callee (f := 99) rfl ?_); refine goesL_ (some 34) rfl rfl Tryd.func99 (by kernel_rfl) rfl #[.slice Ao27 x4_1.length co27, .int .i64 (rd x14_1 x25_1)] rfl el ?_; (with_reducible refine (slices_Contains_int64_int64.calls k1 _ _ x4_1 (rd x14_1 x25_1) false _ ?side1 ?side2 A17.out).mono ?_); (case side1 => repeat (first | exact (Kd.R_reads' HO_4.out).2.2 | (with_reducible refine Kd.C_alloc ?_ _) | (with_reducible refine Kd.C_drewN ?_ _) | (with_reducible refine Kd.C_drew ?_))); (case side2 => exact (Kd.R_reads' HO_4.out).2.1); rintro e w' ⟨rfl, ⟨nd, rfl⟩⟩; refine ⟨_, rfl, ?_⟩; (try (rw [drewN_self wr]; generalize hq_ : World.drewN wr _ = wr; have n0_ : Aside0 (Kd.R (Kd.int .i64) 2 wr w.heap.size (fun k_ => some k_ ≠ ((.slice Ao32 t119.length co32) : Value).ownBlock ∧ some k_ ≠ (.slice Ao27 x4_1.length co27 : Value).ownBlock) (.slice (some ad124) x14_1.length co12) x14_1) := ⟨by rw [← hq_]; exact (by (with_reducible repeat (first | apply Kd.R_alloc | apply Kd.R_drewN | apply Kd.R_drew)); exact Kd.R_mono HO_14.out (fun _ hk => by first | exact ⟨hk.2, hk.1⟩ | exact ⟨hk.1, hk.2⟩ | trivial))⟩; have n1_ : Aside0 (Kd.R (Kd.int .i64) 2 wr w.heap.size (fun k_ => some k_ ≠ (.slice (some ad124) x14_1.length co12 : Value).ownBlock ∧ some k_ ≠ (.slice Ao27 x4_1.length co27 : Value).ownBlock) (.slice Ao32 t119.length co32) x16_1) := ⟨by rw [← hq_]; exact (by (with_reducible repeat (first | apply Kd.R_alloc | apply Kd.R_drewN | apply Kd.R_drew)); exact Kd.R_mono HO_16.out (fun _ hk => by first | exact ⟨hk.2, hk.1⟩ | exact ⟨hk.1, hk.2⟩ | trivial))⟩; have n2_ : Aside0 (Kd.R (Kd.int .i64) 2 wr w.heap.size (fun k_ => some k_ ≠ (.slice (some ad124) x14_1.length co12 : Value).ownBlock ∧ some k_ ≠ ((.slice Ao32 t119.length co32) : Value).ownBlock) (.slice Ao27 x4_1.length co27) x4_1) := ⟨by rw [← hq_]; exact (rq HO_4.out)⟩; have n3_ : Aside0 (wr.heap[gb111]? = some (.cells #[.slice A0_0 l0_0.length c0_0, .slice A0_1 l0_1.length c0_1] 47 (0, 0))) := ⟨by rw [← hq_]; exact (bq BK111.out)⟩; have n4_ : Aside0 (wr.heap[gb112]? = some (.cells #[.slice none 0 0, .slice none 0 0] 47 (0, 0))) := ⟨by rw [← hq_]; exact (bq BK112.out)⟩; have n5_ : Aside0 (wr.heap[gb122]? = some (.cells #[(.slice (some ad124) x14_1.length co12), (.slice Ao32 t119.length co32)] 47 (0, 0))) := ⟨by rw [← hq_]; exact (bq BK122.out)⟩; have n6_ : Aside0 (wr.heap[gb123]? = some (.cells #[(.slice (some ad124) x14_1.length co12), (.slice Ao32 t119.length co32)] 27 (0, 0))) := ⟨by rw [← hq_]; exact (bq BK123.out)⟩; have n7_ : Aside0 (Below w.heap.size w wr) := ⟨by rw [← hq_]; exact (hs HB.out)⟩; clear HO_14 HO_16 HO_4 BK111 BK112 BK122 BK123 HB hq_; have HO_14 := n0_; have HO_16 := n1_; have HO_4 := n2_; have BK111 := n3_; have BK112 := n4_; have BK122 := n5_; have BK123 := n6_; have HB := n7_; clear n0_ n1_ n2_ n3_ n4_ n5_ n6_ n7_))) | ((with_reducible refine gate_builtin (b := .append) (xs := #[.tmp 36, .tmp 38]) rfl ?_); at_builtin; refine Kd.R_append (Kd.int .i64) (w0 := w) w.heap.size rfl (.tmp 36) (.tmp 38) 27 2 (.int .i64 0) 8 rfl Tryd.underlying27 info2 rfl (by decide) (by omega) (.slice Ao27 x4_1.length co27) x4_1 (rd x14_1 x25_1) [.int .i64 (rd x14_1 x25_1)] (fun k_ => some k_ ≠ (.slice (some ad124) x14_1.length co12 : Value).ownBlock ∧ some k_ ≠ ((.slice Ao32 t119.length co32) : Value).ownBlock) (fun _ => False) rfl rfl ?aP (fun _ hk => hk.elim) ?aF ?aO ?aB ?aS ?aL ?_; (case aP => exact rfl); (case aB => exact (hs HB.out)); (case aF => exact (fun k_ hk => ⟨Kd.fresh' (Kd.R_lt (rq HO_14.out)) k_ hk, Kd.fresh' (Kd.R_lt (rq HO_16.out)) k_ hk⟩)); (case aO => exact (rq HO_4.out)); (case aS => exact (below_size (hs HB.out))); (case aL => have := LMc24.out; omega); intro v129 w28 ho hb hg hat; rw [← Ny128.out] at ho; have n0_ := am (Kd.R_after (ok := (fun k_ => some k_ ≠ ((.slice Ao32 t119.length co32) : Value).ownBlock)) (by (with_reducible repeat (first | apply Kd.R_alloc | apply Kd.R_drewN | apply Kd.R_drew)); exact Kd.R_mono HO_14.out (fun _ hk => by first | exact ⟨hk.2, hk.1⟩ | exact ⟨hk.1, hk.2⟩ | trivial)) hg hat); have n1_ := am (Kd.R_after (ok := (fun k_ => some k_ ≠ (.slice (some ad124) x14_1.length co12 : Value).ownBlock)) (by (with_reducible repeat (first | apply Kd.R_alloc | apply Kd.R_drewN | apply Kd.R_drew)); exact Kd.R_mono HO_16.out (fun _ hk => by first | exact ⟨hk.2, hk.1⟩ | exact ⟨hk.1, hk.2⟩ | trivial)) hg hat); have n2_ := am (blk_grown (bq BK111.out) hg (Kd.R_ne HO_4.out BK111.out (by decide))); have n3_ := am (blk_grown (bq BK112.out) hg (Kd.R_ne HO_4.out BK112.out (by decide))); have n4_ := am (blk_grown (bq BK122.out) hg (Kd.R_ne HO_4.out BK122.out (by decide))); have n5_ := am (blk_grown (bq BK123.out) hg (Kd.R_ne HO_4.out BK123.out (by decide))); have n6_ := am (hb); have n7_ := am (ho); clear HO_14 HO_16 BK111 BK112 BK122 BK123 HB HO_4; revert n0_ n1_ n2_ n3_ n4_ n5_ n6_ n7_; intro HO_14 HO_16 BK111 BK112 BK122 BK123 HB HO130; clear ho hb hg hat; obtain ⟨Ao29, co29, eo29⟩ := Kd.R_slice HO130.out; subst eo29) | ((with_reducible refine gate_callee (f := 100) rfl ?_); refine goesL_ (some 44) rfl rfl Tryd.func100 (by kernel_rfl) rfl #[.slice Ao29 y128.length co29, .int .i64 (rd x14_1 x25_1)] rfl el ?_; (with_reducible refine (slices_Index_int64_int64.calls k1 _ _ y128 (rd x14_1 x25_1) t131 _ ?side1 ?side2 A25.out).mono ?_); (case side1 => repeat (first | exact (Kd.R_reads' HO130.out).2.2 | (with_reducible refine Kd.C_alloc ?_ _) | (with_reducible refine Kd.C_drewN ?_ _) | (with_reducible refine Kd.C_drew ?_))); (case side2 => exact (Kd.R_reads' HO130.out).2.1); rintro e w' ⟨rfl, ⟨nd, rfl⟩⟩; refine ⟨_, rfl, ?_⟩; (try (rw [drewN_self w28]; generalize hq_ : World.drewN w28 _ = w28; have n0_ : Aside0 (Kd.R (Kd.int .i64) 2 w28 w.heap.size (fun k_ => some k_ ≠ (.slice (some ad124) x14_1.length co12 : Value).ownBlock ∧ some k_ ≠ ((.slice Ao32 t119.length co32) : Value).ownBlock) (.slice Ao29 y128.length co29) y128) := ⟨by rw [← hq_]; exact (rq HO130.out)⟩; have n1_ : Aside0 (Kd.R (Kd.int .i64) 2 w28 w.heap.size (fun k_ => some k_ ≠ (.slice Ao29 y128.length co29 : Value).ownBlock ∧ some k_ ≠ ((.slice Ao32 t119.length co32) : Value).ownBlock) (.slice (some ad124) x14_1.length co12) x14_1) := ⟨by rw [← hq_]; exact (by (with_reducible repeat (first | apply Kd.R_alloc | apply Kd.R_drewN | apply Kd.R_drew)); exact Kd.R_mono HO_14.out (fun _ hk => by first | exact ⟨hk.2, hk.1⟩ | exact ⟨hk.1, hk.2⟩ | trivial))⟩; have n2_ : Aside0 (Kd.R (Kd.int .i64) 2 w28 w.heap.size (fun k_ => some k_ ≠ (.slice Ao29 y128.length co29 : Value).ownBlock ∧ some k_ ≠ (.slice (some ad124) x14_1.length co12 : Value).ownBlock) (.slice Ao32 t119.length co32) x16_1) := ⟨by rw [← hq_]; exact (by (with_reducible repeat (first | apply Kd.R_alloc | apply Kd.R_drewN | apply Kd.R_drew)); exact Kd.R_mono HO_16.out (fun _ hk => by first | exact ⟨hk.2, hk.1⟩ | exact ⟨hk.1, hk.2⟩ | trivial))⟩; have n3_ : Aside0 (w28.heap[gb111]? = some (.cells #[.slice A0_0 l0_0.length c0_0, .slice A0_1 l0_1.length c0_1] 47 (0, 0))) := ⟨by rw [← hq_]; exact (bq BK111.out)⟩; have n4_ : Aside0 (w28.heap[gb112]? = some (.cells #[.slice none 0 0, .slice none 0 0] 47 (0, 0))) := ⟨by rw [← hq_]; exact (bq BK112.out)⟩; have n5_ : Aside0 (w28.heap[gb122]? = some (.cells #[(.slice (some ad124) x14_1.length co12), (.slice Ao32 t119.length co32)] 47 (0, 0))) := ⟨by rw [← hq_]; exact (bq BK122.out)⟩; have n6_ : Aside0 (w28.heap[gb123]? = some (.cells #[(.slice (some ad124) x14_1.length co12), (.slice Ao32 t119.length co32)] 27 (0, 0))) := ⟨by rw [← hq_]; exact (bq BK123.out)⟩; have n7_ : Aside0 (Below w.heap.size w w28) := ⟨by rw [← hq_]; exact (hs HB.out)⟩; clear HO130 HO_14 HO_16 BK111 BK112 BK122 BK123 HB hq_; have HO130 := n0_; have HO_14 := n1_; have HO_16 := n2_; have BK111 := n3_; have BK112 := n4_; have BK122 := n5_; have BK123 := n6_; have HB := n7_; clear n0_ n1_ n2_ n3_ n4_ n5_ n6_ n7_)); have p26 : 0 ≤ (x25_1 : Int) := of_decide_eq_true (by first | (with_reducible assumption) | assumption); have q26 : (x25_1 : Int) < ((x14_1.length : Int) : Int) := of_decide_eq_true (by first | (with_reducible assumption) | assumption); obtain ⟨go26, co26, eo26, gb26, gl26, cl26, HG26⟩ := Kd.R_form HO_14.out (by omega); (first | cases eo26 | (injection eo26 with ea_ en_ ec_; (first | subst ea_ | (injection ea_ with ea_; subst ea_)); subst ec_; clear en_)); have GB26 := am gb26; have GG26 := am HG26; clear gb26 gl26 HG26; (first | simp only [add_plain] at hx124_0 | skip); obtain ⟨hx26_0, hf26_0⟩ := Kd.R_celln 0 HO_14.out (x25_1 : Int) p26 q26; replace p26 := eq_true p26; replace q26 := eq_true q26; obtain ⟨hy30_, hz30_⟩ := Kd.R_celln 0 HO_14.out (x25_1 : Int) (of_decide_eq_true (by first | (with_reducible assumption) | assumption)) (of_decide_eq_true (by first | (with_reducible assumption) | assumption)); have HP30 := Kd.R_putg HO_14.out (x25_1 : Int) (wrap64 ((-1) - t131))) | ((with_reducible refine gate_store (t := 2) (p := 46) rfl ?_); refine store_event (t := 2) (p := 46) (v := ?vo_w31) (w1 := (w28.setCell ⟨go26, (x25_1 : Int).toNat, none⟩ (.int .i64 (wrap64 ((-1) - t131))))) ?hg ?ho ?hn ?hr ?_; (case ho => rfl); (case hg => rfl); (case hn => rfl); (case hr => first | (go_simp; done) | (go_simp; rfl)); intro w31 hw; have hg : w28.grownBy w31 (some go26) := (by rw [hw]; exact HP30.2); have hp_ : Kd.R (Kd.int .i64) 2 w31 w.heap.size (fun k_ => some k_ ≠ ((.slice Ao32 t119.length co32) : Value).ownBlock ∧ some k_ ≠ (.slice Ao29 y128.length co29 : Value).ownBlock) (.slice (some ⟨go26, 0, none⟩) x14_1.length co12) y132 := (by rw [hw, Ny132.out]; first | exact HP30.1 | exact Kd.R_mono (d := Kd.int .i64) HP30.1 (fun _ hk => ⟨hk.2, hk.1⟩)); clear HP30; have n0_ := am (hp_); have n1_ := am (Kd.R_after (v := (.slice (some ⟨go26, 0, none⟩) x14_1.length co12)) (v1 := (.slice (some ⟨go26, 0, none⟩) x14_1.length co12)) (ok := (fun k_ => some k_ ≠ (.slice Ao29 y128.length co29 : Value).ownBlock)) (by (with_reducible repeat (first | apply Kd.R_alloc | apply Kd.R_drewN | apply Kd.R_drew)); exact Kd.R_mono HO_16.out (fun _ hk => by first | exact ⟨hk.2, hk.1⟩ | exact ⟨hk.1, hk.2⟩ | trivial)) hg (.inl rfl)); have n2_ := am (blk_grown (bq BK111.out) hg (Kd.R_ne HO_14.out BK111.out (by decide))); have n3_ := am (blk_grown (bq BK112.out) hg (Kd.R_ne HO_14.out BK112.out (by decide))); have n4_ := am (blk_grown (bq BK122.out) hg (Kd.R_ne HO_14.out BK122.out (by decide))); have n5_ := am (blk_grown (bq BK123.out) hg (Kd.R_ne HO_14.out BK123.out (by decide))); have n6_ := am (Kd.R_after (v := (.slice (some ⟨go26, 0, none⟩) x14_1.length co12)) (v1 := (.slice (some ⟨go26, 0, none⟩) x14_1.length co12)) (ok := (fun k_ => some k_ ≠ ((.slice Ao32 t119.length co32) : Value).ownBlock)) (by (with_reducible repeat (first | apply Kd.R_alloc | apply Kd.R_drewN | apply Kd.R_drew)); exact Kd.R_mono HO130.out (fun _ hk => by first | exact ⟨hk.2, hk.1⟩ | exact ⟨hk.1, hk.2⟩ | trivial)) hg (.inl rfl)); have n7_ := am ((by rw [hw]; exact below_set (HB.out) GB26.out : Below w.heap.size w w31)); clear HO_14 HO_16 BK111 BK112 BK122 BK123 HO130 HB; revert n0_ n1_ n2_ n3_ n4_ n5_ n6_ n7_; intro HO_14 HO_16 BK111 BK112 BK122 BK123 HO130 HB; clear hg hw hp_))
                  (try simp only [← hl14_1])
                  go_roundg k1
                  case measure => have := HK1.out; omega
                  case rel => exact ⟨(y128), (y132), (x16_1), (wrap64 (x25_1 + 1)), (by first | rfl | (simp; done) | (simp [*]; done)), H', ⟨by have := HK1.out; omega⟩, ⟨by (try simp only [hl14_1]); (with_reducible repeat (first | apply Kd.R_alloc | apply Kd.R_drewN | apply Kd.R_drew)); exact Kd.R_mono HO130.out (fun _ hk => by first | exact ⟨hk.2, hk.1⟩ | exact ⟨hk.1, hk.2⟩ | trivial)⟩, ⟨by (try simp only [hl14_1]); (with_reducible repeat (first | apply Kd.R_alloc | apply Kd.R_drewN | apply Kd.R_drew)); exact Kd.R_mono HO_14.out (fun _ hk => by first | exact ⟨hk.2, hk.1⟩ | exact ⟨hk.1, hk.2⟩ | trivial)⟩, ⟨by (try simp only [hl14_1]); (with_reducible repeat (first | apply Kd.R_alloc | apply Kd.R_drewN | apply Kd.R_drew)); exact HO_16.out⟩, ⟨by (try simp only [hl14_1]); refine bq ?_; exact BK111.out⟩, ⟨by (try simp only [hl14_1]); refine bq ?_; exact BK112.out⟩, ⟨by (try simp only [hl14_1]); refine bq ?_; exact BK122.out⟩, ⟨by (try simp only [hl14_1]); refine bq ?_; exact BK123.out⟩, ⟨by exact hs HB.out⟩⟩
                · rw [if_neg c24] at H
                  exact absurd H (by simp)
          · rw [if_neg c15] at H
            exact absurd H (by simp)
        · rw [if_neg c14] at H
          exact absurd H (by simp)
      · rw [if_neg c13] at H
        have c13b0 : decide (x25_1 < (t116.length : Int)) = false := decide_eq_false c13
        try (have c13b9 := c13b0; rw [hl14_1] at c13b9)
        clear c13
        have H' := am H
        clear H
        have hl16_1 := (Kd.R_reads' HO_16.out).1
        rw [hl16_1] at HO_16
        (try simp only [hl16_1])
        (try simp only [hl16_1] at BK111)
        (try simp only [hl16_1] at BK112)
        (try simp only [hl16_1] at BK122)
        (try simp only [hl16_1] at BK123)
        (try simp only [hl16_1] at HO_4)
        (try simp only [hl16_1] at HO_14)
        go_wp2
        refine HKR1.out _ _ ?_
        obtain ⟨m2_, rfl⟩ : ∃ m_, m3_ = m_ + 1 := ⟨1, hm3_⟩
        refine rounds_k ?_
        intro KR2 hKR2
        have HKR2 := am hKR2
        clear hKR2
        have hz2 : wr.cell? ⟨gb123, 1, none⟩ = some (.slice Ao32 x16_1.length co32) := (blk_cell BK123.out 1).trans rfl
        go_wp2
        clear hz2
        go_loopg [4, 25] k1 (fun kq v4 v25 w' => ∃ (x4_2 : List Int) (x14_2 : List Int) (x16_2 : List Int) (x25_2 : Int), v25 = .int .i64 x25_2 ∧ Aside0 (impl_plain.l1 kq x4_2 x14_2 x16_2 (x16_1.length : Int) x25_2 = some (r1, r2, r3)) ∧ Aside0 (kq ≤ k1) ∧ Aside0 (Kd.R (Kd.int .i64) 2 w' w.heap.size (fun k_ => some k_ ≠ ((.slice Ao12 x14_1.length co12) : Value).ownBlock ∧ some k_ ≠ ((.slice Ao32 x16_1.length co32) : Value).ownBlock) v4 x4_2) ∧ Aside0 (Kd.R (Kd.int .i64) 2 w' w.heap.size (fun k_ => some k_ ≠ (v4 : Value).ownBlock ∧ some k_ ≠ ((.slice Ao32 x16_1.length co32) : Value).ownBlock) (.slice Ao12 x14_1.length co12) x14_2) ∧ Aside0 (Kd.R (Kd.int .i64) 2 w' w.heap.size (fun k_ => some k_ ≠ (v4 : Value).ownBlock ∧ some k_ ≠ ((.slice Ao12 x14_1.length co12) : Value).ownBlock) (.slice Ao32 x16_1.length co32) x16_2) ∧ Aside0 (w'.heap[gb111]? = some (.cells #[(.slice A0_0 l0_0.length c0_0), (.slice A0_1 l0_1.length c0_1)] 47 (0, 0))) ∧ Aside0 (w'.heap[gb112]? = some (.cells #[(.slice none 0 0), (.slice none 0 0)] 47 (0, 0))) ∧ Aside0 (w'.heap[gb122]? = some (.cells #[(.slice Ao12 x14_1.length co12), (.slice Ao32 x16_1.length co32)] 47 (0, 0))) ∧ Aside0 (w'.heap[gb123]? = some (.cells #[(.slice Ao12 x14_1.length co12), (.slice Ao32 x16_1.length co32)] 27 (0, 0))) ∧ Aside0 (Below w.heap.size w w'))
        case atStart => exact ⟨(x4_1), (x14_1), (x16_1), (0), (by first | rfl | (simp; done) | (simp [*]; done)), H', ⟨Nat.le_refl _⟩, ⟨by (try simp only [hl14_1]); (with_reducible repeat (first | apply Kd.R_alloc | apply Kd.R_drewN | apply Kd.R_drew)); exact HO_4.out⟩, ⟨by (try simp only [hl14_1]); (with_reducible repeat (first | apply Kd.R_alloc | apply Kd.R_drewN | apply Kd.R_drew)); exact HO_14.out⟩, ⟨by (try simp only [hl14_1]); (with_reducible repeat (first | apply Kd.R_alloc | apply Kd.R_drewN | apply Kd.R_drew)); exact HO_16.out⟩, ⟨by (try simp only [hl14_1]); refine bq ?_; exact BK111.out⟩, ⟨by (try simp only [hl14_1]); refine bq ?_; exact BK112.out⟩, ⟨by (try simp only [hl14_1]); refine bq ?_; exact BK122.out⟩, ⟨by (try simp only [hl14_1]); refine bq ?_; exact BK123.out⟩, ⟨by exact hs HB.out⟩⟩
        case round =>
          clear H'
          try clear c1; try clear p1; try clear q1; try clear hx1; try clear c2; try clear p2; try clear q2; try clear hx2; try clear hf2; try clear c6; try clear p6; try clear c7; try clear c9; try clear c10; try clear p12; try clear q12; try clear hx12; try clear c13; try clear c13b0; try clear c14; try clear c14b0; try clear c15; try clear c15b0; try clear c16; try clear c16b0; try clear c18; try clear p20; try clear q20; try clear hx20; try clear hf20; try clear c24; try clear p26; try clear q26; try clear hx26; try clear hf26; try clear hcz8_0; try clear hcz8_1; try clear hfz8_0; try clear hfz8_1; try clear hx124_0; try clear hx20_0; try clear hx26_0; try clear p124; try clear p2; try clear p20; try clear p26; try clear q124; try clear q20; try clear q26
          obtain ⟨x4_2, x14_2, x16_2, x25_2, rfl, HA, HK2, HO_4, HO_14, HO_16, BK111, BK112, BK122, BK123, HB⟩ := hrel
          have hl14_2 := (Kd.R_reads' HO_14.out).1
          rw [hl14_2] at HO_14
          (try simp only [hl14_2])
          (try simp only [hl14_2] at BK111)
          (try simp only [hl14_2] at BK112)
          (try simp only [hl14_2] at BK122)
          (try simp only [hl14_2] at BK123)
          (try simp only [hl14_2] at HO_4)
          (try simp only [hl14_2] at HO_16)
          have hl16_2 := (Kd.R_reads' HO_16.out).1
          rw [hl16_2] at HO_16
          (try simp only [hl16_2])
          (try simp only [hl16_2] at BK111)
          (try simp only [hl16_2] at BK112)
          (try simp only [hl16_2] at BK122)
          (try simp only [hl16_2] at BK123)
          (try simp only [hl16_2] at HO_4)
          (try simp only [hl16_2] at HO_14)
          cases gk with
          | zero => exact absurd HA.out (by simp [impl_plain.l1])
          | succ k2 =>
            have H := HA.out
            clear HA
            simp only [impl_plain.l1] at H
            by_cases c33 : x25_2 < (x16_1.length : Int)
            · rw [if_pos c33] at H
              have c33b0 : decide (x25_2 < (x16_1.length : Int)) = true := decide_eq_true c33
              clear c33
              by_cases c34 : 0 ≤ x25_2
              · rw [if_pos c34] at H
                have c34b0 : decide (0 ≤ x25_2) = true := decide_eq_true c34
                clear c34
                by_cases c35 : x25_2 < (x16_2.length : Int)
                · rw [if_pos c35] at H
                  have c35b0 : decide (x25_2 < (x16_2.length : Int)) = true := decide_eq_true c35
                  clear c35
                  by_cases c36 : (rd x16_2 x25_2) ≥ 0
                  · rw [if_pos c36] at H
                    have c36b0 : decide (0 ≤ (rd x16_2 x25_2)) = true := decide_eq_true c36
                    clear c36
                    have H' := am H
                    clear H
                    have p133 : 0 ≤ (x25_2 : Int) := of_decide_eq_true (by first | (with_reducible assumption) | assumption)
                    have q133 : x25_2 < (x16_2.length : Int) := of_decide_eq_true (by first | (with_reducible assumption) | assumption)
                    obtain ⟨ad133, e133, hx133_0⟩ := Kd.at_int (Kd.R_reads' HO_16.out).2.2 x25_2 p133 q133
                    cases e133
                    replace p133 := eq_true p133
                    replace q133 := eq_true q133
                    go_wp2
                    (try simp only [← hl14_2, ← hl16_2])
                    go_roundg k2
                    case measure => have := HK1.out; have := HK2.out; omega
                    case rel => exact ⟨(x4_2), (x14_2), (x16_2), (wrap64 (x25_2 + 1)), (by first | rfl | (simp; done) | (simp [*]; done)), H', ⟨by have := HK1.out; have := HK2.out; omega⟩, ⟨by (try simp only [hl14_1]); (try simp only [hl14_2]); (try simp only [hl16_2]); (with_reducible repeat (first | apply Kd.R_alloc | apply Kd.R_drewN | apply Kd.R_drew)); exact HO_4.out⟩, ⟨by (try simp only [hl14_1]); (try simp only [hl14_2]); (try simp only [hl16_2]); (with_reducible repeat (first | apply Kd.R_alloc | apply Kd.R_drewN | apply Kd.R_drew)); exact HO_14.out⟩, ⟨by (try simp only [hl14_1]); (try simp only [hl14_2]); (try simp only [hl16_2]); (with_reducible repeat (first | apply Kd.R_alloc | apply Kd.R_drewN | apply Kd.R_drew)); exact HO_16.out⟩, ⟨by (try simp only [hl14_1]); (try simp only [hl14_2]); (try simp only [hl16_2]); refine bq ?_; exact BK111.out⟩, ⟨by (try simp only [hl14_1]); (try simp only [hl14_2]); (try simp only [hl16_2]); refine bq ?_; exact BK112.out⟩, ⟨by (try simp only [hl14_1]); (try simp only [hl14_2]); (try simp only [hl16_2]); refine bq ?_; exact BK122.out⟩, ⟨by (try simp only [hl14_1]); (try simp only [hl14_2]); (try simp only [hl16_2]); refine bq ?_; exact BK123.out⟩, ⟨by exact hs HB.out⟩⟩
                  · rw [if_neg c36] at H
                    have c36b0 : decide (0 ≤ (rd x16_2 x25_2)) = false := decide_eq_false c36
                    clear c36
                    replace H := Option.bind_eq_some_iff.mp H
                    obtain ⟨t134, A370, H⟩ := H
                    replace H : (if t134 = true then ((slices_Index_int64_int64.f k2 x4_2 (rd x16_2 x25_2)).bind fun t135 => (impl_plain.l1 k2 x4_2 x14_2 (x16_2.set (x25_2 : Int).toNat (wrap64 ((-1) - t135))) (x16_1.length : Int) (wrap64 (x25_2 + 1)))) else (if x4_2.length < 17592186044416 then ((some (x4_2 ++ [rd x16_2 x25_2] : List Int)).bind fun y137 => ((slices_Index_int64_int64.f k2 y137 (rd x16_2 x25_2)).bind fun t140 => (impl_plain.l1 k2 y137 x14_2 (x16_2.set (x25_2 : Int).toNat (wrap64 ((-1) - t140))) (x16_1.length : Int) (wrap64 (x25_2 + 1))))) else (none))) = some (r1, r2, r3) := H
                    have A37 := am A370
                    clear A370
                    by_cases c38 : t134 = true
                    · subst c38
                      have H1 : ((slices_Index_int64_int64.f k2 x4_2 (rd x16_2 x25_2)).bind fun t135 => (impl_plain.l1 k2 x4_2 x14_2 (x16_2.set (x25_2 : Int).toNat (wrap64 ((-1) - t135))) (x16_1.length : Int) (wrap64 (x25_2 + 1)))) = some (r1, r2, r3) := by rw [if_pos rfl] at H; exact H
                      clear H
                      have H := H1
                      clear H1
                      replace H := Option.bind_eq_some_iff.mp H
                      obtain ⟨t135, A390, H⟩ := H
                      replace H : (impl_plain.l1 k2 x4_2 x14_2 (x16_2.set (x25_2 : Int).toNat (wrap64 ((-1) - t135))) (x16_1.length : Int) (wrap64 (x25_2 + 1))) = some (r1, r2, r3) := H
                      have A39 := am A390
                      clear A390
                      obtain ⟨y136, hy136⟩ : ∃ y_ : List Int, y_ = (x16_2.set (x25_2 : Int).toNat (wrap64 ((-1) - t135))) := ⟨_, rfl⟩
                      replace H : (impl_plain.l1 k2 x4_2 x14_2 y136 (x16_1.length : Int) (wrap64 (x25_2 + 1))) = some (r1, r2, r3) := by first | (rw [hy136]; with_reducible exact H) | (have H2_ := (Option.bind_some _ _).symm.trans H; rw [hy136]; with_reducible exact H2_) | (have H2_ := (Option.bind_some _ _).symm.trans H; with_reducible exact H2_) | with_reducible exact H | (rw [hy136]; exact H) | exact H
                      have Ny136 := am hy136
                      clear hy136
                      have H' := am H
                      clear H
                      have p133 : 0 ≤ (x25_2 : Int) := of_decide_eq_true (by first | (with_reducible assumption) | assumption)
                      have q133 : x25_2 < (x16_2.length : Int) := of_decide_eq_true (by first | (with_reducible assumption) | assumption)
                      obtain ⟨ad133, e133, hx133_0⟩ := Kd.at_int (Kd.R_reads' HO_16.out).2.2 x25_2 p133 q133
                      cases e133
                      replace p133 := eq_true p133
                      replace q133 := eq_true q133
                      obtain ⟨Ao41, co41, eo41⟩ := Kd.R_slice HO_4.out
                      subst eo41
                      go_wp2_with (first | ((with_reducible refine gate_callee (f := 99) rfl ?_); refine goesL_ (some 34) rfl rfl Tryd.func99 (by kernel_rfl) rfl #[.slice Ao41 x4_2.length co41, .int .i64 (rd x16_2 x25_2)] rfl el ?_; (with_reducible refine (slices_Contains_int64_int64.calls k2 _ _ x4_2 (rd x16_2 x25_2) true _ ?side1 ?side2 A37.out).mono ?_); (case side1 => repeat (first | exact (Kd.R_reads' HO_4.out).2.2 | (with_reducible refine Kd.C_alloc ?_ _) | (with_reducible refine Kd.C_drewN ?_ _) | (with_reducible refine Kd.C_drew ?_))); (case side2 => exact (Kd.R_reads' HO_4.out).2.1); rintro e w' ⟨rfl, ⟨nd, rfl⟩⟩; refine ⟨_, rfl, ?_⟩; (try (rw [drewN_self wr]; generalize hq_ : World.drewN wr _ = wr; have n0_ : Aside0 (Kd.R (Kd.int .i64) 2 wr w.heap.size (fun k_ => some k_ ≠ (.slice (some ad133) x16_2.length co32 : Value).ownBlock ∧ some k_ ≠ (.slice Ao41 x4_2.length co41 : Value).ownBlock) (.slice Ao12 x14_2.length co12) x14_2) := ⟨by rw [← hq_]; exact (by (with_reducible repeat (first | apply Kd.R_alloc | apply Kd.R_drewN | apply Kd.R_drew)); exact Kd.R_mono HO_14.out (fun _ hk => by first | exact ⟨hk.2, hk.1⟩ | exact ⟨hk.1, hk.2⟩ | trivial))⟩; have n1_ : Aside0 (Kd.R (Kd.int .i64) 2 wr w.heap.size (fun k_ => some k_ ≠ (.slice Ao12 x14_2.length co12 : Value).ownBlock ∧ some k_ ≠ (.slice Ao41 x4_2.length co41 : Value).ownBlock) (.slice (some ad133) x16_2.length co32) x16_2) := ⟨by rw [← hq_]; exact (by (with_reducible repeat (first | apply Kd.R_alloc | apply Kd.R_drewN | apply Kd.R_drew)); exact Kd.R_mono HO_16.out (fun _ hk => by first | exact ⟨hk.2, hk.1⟩ | exact ⟨hk.1, hk.2⟩ | trivial))⟩; have n2_ : Aside0 (Kd.R (Kd.int .i64) 2 wr w.heap.size (fun k_ => some k_ ≠ (.slice Ao12 x14_2.length co12 : Value).ownBlock ∧ some k_ ≠ (.slice (some ad133) x16_2.length co32 : Value).ownBlock) (.slice Ao41 x4_2.length co41) x4_2) := ⟨by rw [← hq_]; exact (rq HO_4.out)⟩; have n3_ : Aside0 (wr.heap[gb111]? = some (.cells #[.slice A0_0 l0_0.length c0_0, .slice A0_1 l0_1.length c0_1] 47 (0, 0))) := ⟨by rw [← hq_]; exact (bq BK111.out)⟩; have n4_ : Aside0 (wr.heap[gb112]? = some (.cells #[.slice none 0 0, .slice none 0 0] 47 (0, 0))) := ⟨by rw [← hq_]; exact (bq BK112.out)⟩; have n5_ : Aside0 (wr.heap[gb122]? = some (.cells #[(.slice Ao12 x14_2.length co12), (.slice (some ad133) x16_2.length co32)] 47 (0, 0))) := ⟨by rw [← hq_]; exact (bq BK122.out)⟩; have n6_ : Aside0 (wr.heap[gb123]? = some (.cells #[(.slice Ao12 x14_2.length co12), (.slice (some ad133) x16_2.length co32)] 27 (0, 0))) := ⟨by rw [← hq_]; exact (bq BK123.out)⟩; have n7_ : Aside0 (Below w.heap.size w wr) := ⟨by rw [← hq_]; exact (hs HB.out)⟩; clear HO_14 HO_16 HO_4 BK111 BK112 BK122 BK123 HB hq_; have HO_14 := n0_; have HO_16 := n1_; have HO_4 := n2_; have BK111 := n3_; have BK112 := n4_; have BK122 := n5_; have BK123 := n6_; have HB := n7_; clear n0_ n1_ n2_ n3_ n4_ n5_ n6_ n7_))) | ((with_reducible refine gate_callee (f := 100) rfl ?_); refine goesL_ (some 44) rfl rfl Tryd.func100 (by kernel_rfl) rfl #[.slice Ao41 x4_2.length co41, .int .i64 (rd x16_2 x25_2)] rfl el ?_; (with_reducible refine (slices_Index_int64_int64.calls k2 _ _ x4_2 (rd x16_2 x25_2) t135 _ ?side1 ?side2 A39.out).mono ?_); (case side1 => repeat (first | exact (Kd.R_reads' HO_4.out).2.2 | (with_reducible refine Kd.C_alloc ?_ _) | (with_reducible refine Kd.C_drewN ?_ _) | (with_reducible refine Kd.C_drew ?_))); (case side2 => exact (Kd.R_reads' HO_4.out).2.1); rintro e w' ⟨rfl, ⟨nd, rfl⟩⟩; refine ⟨_, rfl, ?_⟩; (try (rw [drewN_self wr]; generalize hq_ : World.drewN wr _ = wr; have n0_ : Aside0 (Kd.R (Kd.int .i64) 2 wr w.heap.size (fun k_ => some k_ ≠ (.slice (some ad133) x16_2.length co32 : Value).ownBlock ∧ some k_ ≠ (.slice Ao41 x4_2.length co41 : Value).ownBlock) (.slice Ao12 x14_2.length co12) x14_2) := ⟨by rw [← hq_]; exact (by (with_reducible repeat (first | apply Kd.R_alloc | apply Kd.R_drewN | apply Kd.R_drew)); exact Kd.R_mono HO_14.out (fun _ hk => by first | exact ⟨hk.2, hk.1⟩ | exact ⟨hk.1, hk.2⟩ | trivial))⟩; have n1_ : Aside0 (Kd.R (Kd.int .i64) 2 wr w.heap.size (fun k_ => some k_ ≠ (.slice Ao12 x14_2.length co12 : Value).ownBlock ∧ some k_ ≠ (.slice Ao41 x4_2.length co41 : Value).ownBlock) (.slice (some ad133) x16_2.length co32) x16_2) := ⟨by rw [← hq_]; exact (by (with_reducible repeat (first | apply Kd.R_alloc | apply Kd.R_drewN | apply Kd.R_drew)); exact Kd.R_mono HO_16.out (fun _ hk => by first | exact ⟨hk.2, hk.1⟩ | exact ⟨hk.1, hk.2⟩ | trivial))⟩; have n2_ : Aside0 (Kd.R (Kd.int .i64) 2 wr w.heap.size (fun k_ => some k_ ≠ (.slice Ao12 x14_2.length co12 : Value).ownBlock ∧ some k_ ≠ (.slice (some ad133) x16_2.length co32 : Value).ownBlock) (.slice Ao41 x4_2.length co41) x4_2) := ⟨by rw [← hq_]; exact (rq HO_4.out)⟩; have n3_ : Aside0 (wr.heap[gb111]? = some (.cells #[.slice A0_0 l0_0.length c0_0, .slice A0_1 l0_1.length c0_1] 47 (0, 0))) := ⟨by rw [← hq_]; exact (bq BK111.out)⟩; have n4_ : Aside0 (wr.heap[gb112]? = some (.cells #[.slice none 0 0, .slice none 0 0] 47 (0, 0))) := ⟨by rw [← hq_]; exact (bq BK112.out)⟩; have n5_ : Aside0 (wr.heap[gb122]? = some (.cells #[(.slice Ao12 x14_2.length co12), (.slice (some ad133) x16_2.length co32)] 47 (0, 0))) := ⟨by rw [← hq_]; exact (bq BK122.out)⟩; have n6_ : Aside0 (wr.heap[gb123]? = some (.cells #[(.slice Ao12 x14_2.length co12), (.slice (some ad133) x16_2.length co32)] 27 (0, 0))) := ⟨by rw [← hq_]; exact (bq BK123.out)⟩; have n7_ : Aside0 (Below w.heap.size w wr) := ⟨by rw [← hq_]; exact (hs HB.out)⟩; clear HO_14 HO_16 HO_4 BK111 BK112 BK122 BK123 HB hq_; have HO_14 := n0_; have HO_16 := n1_; have HO_4 := n2_; have BK111 := n3_; have BK112 := n4_; have BK122 := n5_; have BK123 := n6_; have HB := n7_; clear n0_ n1_ n2_ n3_ n4_ n5_ n6_ n7_)); have p40 : 0 ≤ (x25_2 : Int) := of_decide_eq_true (by first | (with_reducible assumption) | assumption); have q40 : (x25_2 : Int) < ((x16_2.length : Int) : Int) := of_decide_eq_true (by first | (with_reducible assumption) | assumption); obtain ⟨go40, co40, eo40, gb40, gl40, cl40, HG40⟩ := Kd.R_form HO_16.out (by omega); (first | cases eo40 | (injection eo40 with ea_ en_ ec_; (first | subst ea_ | (injection ea_ with ea_; subst ea_)); subst ec_; clear en_)); have GB40 := am gb40; have GG40 := am HG40; clear gb40 gl40 HG40; (first | simp only [add_plain] at hx133_0 | skip); obtain ⟨hx40_0, hf40_0⟩ := Kd.R_celln 0 HO_16.out (x25_2 : Int) p40 q40; replace p40 := eq_true p40; replace q40 := eq_true q40; obtain ⟨hy42_, hz42_⟩ := Kd.R_celln 0 HO_16.out (x25_2 : Int) (of_decide_eq_true (by first | (with_reducible assumption) | assumption)) (of_decide_eq_true (by first | (with_reducible assumption) | assumption)); have HP42 := Kd.R_putg HO_16.out (x25_2 : Int) (wrap64 ((-1) - t135))) | ((with_reducible refine gate_store (t := 2) (p := 46) rfl ?_); refine store_event (t := 2) (p := 46) (v := ?vo_w43) (w1 := (wr.setCell ⟨go40, (x25_2 : Int).toNat, none⟩ (.int .i64 (wrap64 ((-1) - t135))))) ?hg ?ho ?hn ?hr ?_; (case ho => rfl); (case hg => rfl); (case hn => rfl); (case hr => first | (go_simp; done) | (go_simp; rfl)); intro w43 hw; have hg : wr.grownBy w43 (some go40) := (by rw [hw]; exact HP42.2); have hp_ : Kd.R (Kd.int .i64) 2 w43 w.heap.size (fun k_ => some k_ ≠ (.slice Ao41 x4_2.length co41 : Value).ownBlock ∧ some k_ ≠ (.slice Ao12 x14_2.length co12 : Value).ownBlock) (.slice (some ⟨go40, 0, none⟩) x16_2.length co32) y136 := (by rw [hw, Ny136.out]; first | exact HP42.1 | exact Kd.R_mono (d := Kd.int .i64) HP42.1 (fun _ hk => ⟨hk.2, hk.1⟩)); clear HP42; have n0_ := am (Kd.R_after (v := (.slice (some ⟨go40, 0, none⟩) x16_2.length co32)) (v1 := (.slice (some ⟨go40, 0, none⟩) x16_2.length co32)) (ok := (fun k_ => some k_ ≠ (.slice Ao12 x14_2.length co12 : Value).ownBlock)) (by (with_reducible repeat (first | apply Kd.R_alloc | apply Kd.R_drewN | apply Kd.R_drew)); first | exact HO_4.out | exact Kd.R_mono HO_4.out (fun _ hk => ⟨hk.2, hk.1⟩)) hg (.inl rfl)); have n1_ := am (Kd.R_after (v := (.slice (some ⟨go40, 0, none⟩) x16_2.length co32)) (v1 := (.slice (some ⟨go40, 0, none⟩) x16_2.length co32)) (ok := (fun k_ => some k_ ≠ (.slice Ao41 x4_2.length co41 : Value).ownBlock)) (by (with_reducible repeat (first | apply Kd.R_alloc | apply Kd.R_drewN | apply Kd.R_drew)); first | exact HO_14.out | exact Kd.R_mono HO_14.out (fun _ hk => ⟨hk.2, hk.1⟩)) hg (.inl rfl)); have n2_ := am (hp_); have n3_ := am (blk_grown (bq BK111.out) hg (Kd.R_ne HO_16.out BK111.out (by decide))); have n4_ := am (blk_grown (bq BK112.out) hg (Kd.R_ne HO_16.out BK112.out (by decide))); have n5_ := am (blk_grown (bq BK122.out) hg (Kd.R_ne HO_16.out BK122.out (by decide))); have n6_ := am (blk_grown (bq BK123.out) hg (Kd.R_ne HO_16.out BK123.out (by decide))); have n7_ := am ((by rw [hw]; exact below_set (HB.out) GB40.out : Below w.heap.size w w43)); clear HO_4 HO_14 HO_16 BK111 BK112 BK122 BK123 HB; revert n0_ n1_ n2_ n3_ n4_ n5_ n6_ n7_; intro HO_4 HO_14 HO_16 BK111 BK112 BK122 BK123 HB; clear hg hw hp_))
                      (try simp only [← hl14_2, ← hl16_2])
                      go_roundg k2
                      case measure => have := HK1.out; have := HK2.out; omega
                      case rel => exact ⟨(x4_2), (x14_2), (y136), (wrap64 (x25_2 + 1)), (by first | rfl | (simp; done) | (simp [*]; done)), H', ⟨by have := HK1.out; have := HK2.out; omega⟩, ⟨by (try simp only [hl14_1]); (try simp only [hl14_2]); (try simp only [hl16_2]); (with_reducible repeat (first | apply Kd.R_alloc | apply Kd.R_drewN | apply Kd.R_drew)); exact HO_4.out⟩, ⟨by (try simp only [hl14_1]); (try simp only [hl14_2]); (try simp only [hl16_2]); (with_reducible repeat (first | apply Kd.R_alloc | apply Kd.R_drewN | apply Kd.R_drew)); exact HO_14.out⟩, ⟨by (try simp only [hl14_1]); (try simp only [hl14_2]); (try simp only [hl16_2]); (with_reducible repeat (first | apply Kd.R_alloc | apply Kd.R_drewN | apply Kd.R_drew)); exact HO_16.out⟩, ⟨by (try simp only [hl14_1]); (try simp only [hl14_2]); (try simp only [hl16_2]); refine bq ?_; exact BK111.out⟩, ⟨by (try simp only [hl14_1]); (try simp only [hl14_2]); (try simp only [hl16_2]); refine bq ?_; exact BK112.out⟩, ⟨by (try simp only [hl14_1]); (try simp only [hl14_2]); (try simp only [hl16_2]); refine bq ?_; exact BK122.out⟩, ⟨by (try simp only [hl14_1]); (try simp only [hl14_2]); (try simp only [hl16_2]); refine bq ?_; exact BK123.out⟩, ⟨by exact hs HB.out⟩⟩
                    · replace c38 := Bool.eq_false_iff.mpr c38
                      subst c38
                      have H1 : (if x4_2.length < 17592186044416 then ((some (x4_2 ++ [rd x16_2 x25_2] : List Int)).bind fun y137 => ((slices_Index_int64_int64.f k2 y137 (rd x16_2 x25_2)).bind fun t140 => (impl_plain.l1 k2 y137 x14_2 (x16_2.set (x25_2 : Int).toNat (wrap64 ((-1) - t140))) (x16_1.length : Int) (wrap64 (x25_2 + 1))))) else (none)) = some (r1, r2, r3) := by rw [if_neg (show ¬ (false = true) by decide)] at H; exact H
                      clear H
                      have H := H1
                      clear H1
                      by_cases c44 : x4_2.length < 17592186044416
                      · rw [if_pos c44] at H
                        have LMc44 := am c44
                        clear c44
                        obtain ⟨y137, hy137⟩ : ∃ y_ : List Int, y_ = (x4_2 ++ [rd x16_2 x25_2]) := ⟨_, rfl⟩
                        replace H : ((slices_Index_int64_int64.f k2 y137 (rd x16_2 x25_2)).bind fun t140 => (impl_plain.l1 k2 y137 x14_2 (x16_2.set (x25_2 : Int).toNat (wrap64 ((-1) - t140))) (x16_1.length : Int) (wrap64 (x25_2 + 1)))) = some (r1, r2, r3) := by first | (rw [hy137]; with_reducible exact H) | (have H2_ := (Option.bind_some _ _).symm.trans H; rw [hy137]; with_reducible exact H2_) | (have H2_ := (Option.bind_some _ _).symm.trans H; with_reducible exact H2_) | with_reducible exact H | (rw [hy137]; exact H) | exact H
                        have Ny137 := am hy137
                        clear hy137
                        replace H := Option.bind_eq_some_iff.mp H
                        obtain ⟨t140, A450, H⟩ := H
                        replace H : (impl_plain.l1 k2 y137 x14_2 (x16_2.set (x25_2 : Int).toNat (wrap64 ((-1) - t140))) (x16_1.length : Int) (wrap64 (x25_2 + 1))) = some (r1, r2, r3) := H
                        have A45 := am A450
                        clear A450
                        obtain ⟨y141, hy141⟩ : ∃ y_ : List Int, y_ = (x16_2.set (x25_2 : Int).toNat (wrap64 ((-1) - t140))) := ⟨_, rfl⟩
                        replace H : (impl_plain.l1 k2 y137 x14_2 y141 (x16_1.length : Int) (wrap64 (x25_2 + 1))) = some (r1, r2, r3) := by first | (rw [hy141]; with_reducible exact H) | (have H2_ := (Option.bind_some _ _).symm.trans H; rw [hy141]; with_reducible exact H2_) | (have H2_ := (Option.bind_some _ _).symm.trans H; with_reducible exact H2_) | with_reducible exact H | (rw [hy141]; exact H) | exact H
                        have Ny141 := am hy141
                        clear hy141
                        have H' := am H
                        clear H
                        have p133 : 0 ≤ (x25_2 : Int) := of_decide_eq_true (by first | (with_reducible assumption) | assumption)
                        have q133 : x25_2 < (x16_2.length : Int) := of_decide_eq_true (by first | (with_reducible assumption) | assumption)
                        obtain ⟨ad133, e133, hx133_0⟩ := Kd.at_int (Kd.R_reads' HO_16.out).2.2 x25_2 p133 q133
                        cases e133
                        replace p133 := eq_true p133
                        replace q133 := eq_true q133
                        obtain ⟨Ao47, co47, eo47⟩ := Kd.R_slice HO_4.out
                        subst eo47
                        go_wp2_with (first | ((with_reducible refine gate_callee (f := 99) rfl ?_); refine goesL_ (some 34) rfl rfl Tryd.func99 (by kernel_rfl) rfl #[.slice Ao47 x4_2.length co47, .int .i64 (rd x16_2 x25_2)] rfl el ?_; (with_reducible refine (slices_Contains_int64_int64.calls k2 _ _ x4_2 (rd x16_2 x25_2) false _ ?side1 ?side2 A37.out).mono ?_); (case side1 => repeat (first | exact (Kd.R_reads' HO_4.out).2.2 | (with_reducible refine Kd.C_alloc ?_ _) | (with_reducible refine Kd.C_drewN ?_ _) | (with_reducible refine Kd.C_drew ?_))); (case side2 => exact (Kd.R_reads' HO_4.out).2.1); rintro e w' ⟨rfl, ⟨nd, rfl⟩⟩; refine ⟨_, rfl, ?_⟩; (try (rw [drewN_self wr]; generalize hq_ : World.drewN wr _ = wr; have n0_ : Aside0 (Kd.R (Kd.int .i64) 2 wr w.heap.size (fun k_ => some k_ ≠ (.slice (some ad133) x16_2.length co32 : Value).ownBlock ∧ some k_ ≠ (.slice Ao47 x4_2.length co47 : Value).ownBlock) (.slice Ao12 x14_2.length co12) x14_2) := ⟨by rw [← hq_]; exact (by (with_reducible repeat (first | apply Kd.R_alloc | apply Kd.R_drewN | apply Kd.R_drew)); exact Kd.R_mono HO_14.out (fun _ hk => by first | exact ⟨hk.2, hk.1⟩ | exact ⟨hk.1, hk.2⟩ | trivial))⟩; have n1_ : Aside0 (Kd.R (Kd.int .i64) 2 wr w.heap.size (fun k_ => some k_ ≠ (.slice Ao12 x14_2.length co12 : Value).ownBlock ∧ some k_ ≠ (.slice Ao47 x4_2.length co47 : Value).ownBlock) (.slice (some ad133) x16_2.length co32) x16_2) := ⟨by rw [← hq_]; exact (by (with_reducible repeat (first | apply Kd.R_alloc | apply Kd.R_drewN | apply Kd.R_drew)); exact Kd.R_mono HO_16.out (fun _ hk => by first | exact ⟨hk.2, hk.1⟩ | exact ⟨hk.1, hk.2⟩ | trivial))⟩; have n2_ : Aside0 (Kd.R (Kd.int .i64) 2 wr w.heap.size (fun k_ => some k_ ≠ (.slice Ao12 x14_2.length co12 : Value).ownBlock ∧ some k_ ≠ (.slice (some ad133) x16_2.length co32 : Value).ownBlock) (.slice Ao47 x4_2.length co47) x4_2) := ⟨by rw [← hq_]; exact (rq HO_4.out)⟩; have n3_ : Aside0 (wr.heap[gb111]? = some (.cells #[.slice A0_0 l0_0.length c0_0, .slice A0_1 l0_1.length c0_1] 47 (0, 0))) := ⟨by rw [← hq_]; exact (bq BK111.out)⟩; have n4_ : Aside0 (wr.heap[gb112]? = some (.cells #[.slice none 0 0, .slice none 0 0] 47 (0, 0))) := ⟨by rw [← hq_]; exact (bq BK112.out)⟩; have n5_ : Aside0 (wr.heap[gb122]? = some (.cells #[(.slice Ao12 x14_2.length co12), (.slice (some ad133) x16_2.length co32)] 47 (0, 0))) := ⟨by rw [← hq_]; exact (bq BK122.out)⟩; have n6_ : Aside0 (wr.heap[gb123]? = some (.cells #[(.slice Ao12 x14_2.length co12), (.slice (some ad133) x16_2.length co32)] 27 (0, 0))) := ⟨by rw [← hq_]; exact (bq BK123.out)⟩; have n7_ : Aside0 (Below w.heap.size w wr) := ⟨by rw [← hq_]; exact (hs HB.out)⟩; clear HO_14 HO_16 HO_4 BK111 BK112 BK122 BK123 HB hq_; have HO_14 := n0_; have HO_16 := n1_; have HO_4 := n2_; have BK111 := n3_; have BK112 := n4_; have BK122 := n5_; have BK123 := n6_; have HB := n7_; clear n0_ n1_ n2_ n3_ n4_ n5_ n6_ n7_))) | ((with_reducible refine gate_builtin (b := .append) (xs := #[.tmp 36, .tmp 38]) rfl ?_); at_builtin; refine Kd.R_append (Kd.int .i64) (w0 := w) w.heap.size rfl (.tmp 36) (.tmp 38) 27 2 (.int .i64 0) 8 rfl Tryd.underlying27 info2 rfl (by decide) (by omega) (.slice Ao47 x4_2.length co47) x4_2 (rd x16_2 x25_2) [.int .i64 (rd x16_2 x25_2)] (fun k_ => some k_ ≠ (.slice Ao12 x14_2.length co12 : Value).ownBlock ∧ some k_ ≠ (.slice (some ad133) x16_2.length co32 : Value).ownBlock) (fun _ => False) rfl rfl ?aP (fun _ hk => hk.elim) ?aF ?aO ?aB ?aS ?aL ?_; (case aP => exact rfl); (case aB => exact (hs HB.out)); (case aF => exact (fun k_ hk => ⟨Kd.fresh' (Kd.R_lt (rq HO_14.out)) k_ hk, Kd.fresh' (Kd.R_lt (rq HO_16.out)) k_ hk⟩)); (case aO => exact (rq HO_4.out)); (case aS => exact (below_size (hs HB.out))); (case aL => have := LMc44.out; omega); intro v138 w48 ho hb hg hat; rw [← Ny137.out] at ho; have n0_ := am (Kd.R_after (ok := (fun k_ => some k_ ≠ (.slice (some ad133) x16_2.length co32 : Value).ownBlock)) (by (with_reducible repeat (first | apply Kd.R_alloc | apply Kd.R_drewN | apply Kd.R_drew)); exact Kd.R_mono HO_14.out (fun _ hk => by first | exact ⟨hk.2, hk.1⟩ | exact ⟨hk.1, hk.2⟩ | trivial)) hg hat); have n1_ := am (Kd.R_after (ok := (fun k_ => some k_ ≠ (.slice Ao12 x14_2.length co12 : Value).ownBlock)) (by (with_reducible repeat (first | apply Kd.R_alloc | apply Kd.R_drewN | apply Kd.R_drew)); exact Kd.R_mono HO_16.out (fun _ hk => by first | exact ⟨hk.2, hk.1⟩ | exact ⟨hk.1, hk.2⟩ | trivial)) hg hat); have n2_ := am (blk_grown (bq BK111.out) hg (Kd.R_ne HO_4.out BK111.out (by decide))); have n3_ := am (blk_grown (bq BK112.out) hg (Kd.R_ne HO_4.out BK112.out (by decide))); have n4_ := am (blk_grown (bq BK122.out) hg (Kd.R_ne HO_4.out BK122.out (by decide))); have n5_ := am (blk_grown (bq BK123.out) hg (Kd.R_ne HO_4.out BK123.out (by decide))); have n6_ := am (hb); have n7_ := am (ho); clear HO_14 HO_16 BK111 BK112 BK122 BK123 HB HO_4; revert n0_ n1_ n2_ n3_ n4_ n5_ n6_ n7_; intro HO_14 HO_16 BK111 BK112 BK122 BK123 HB HO139; clear ho hb hg hat; obtain ⟨Ao49, co49, eo49⟩ := Kd.R_slice HO139.out; subst eo49) | ((with_reducible refine gate_callee (f := 100) rfl ?_); refine goesL_ (some 44) rfl rfl Tryd.func100 (by kernel_rfl) rfl #[.slice Ao49 y137.length co49, .int .i64 (rd x16_2 x25_2)] rfl el ?_; (with_reducible refine (slices_Index_int64_int64.calls k2 _ _ y137 (rd x16_2 x25_2) t140 _ ?side1 ?side2 A45.out).mono ?_); (case side1 => repeat (first | exact (Kd.R_reads' HO139.out).2.2 | (with_reducible refine Kd.C_alloc ?_ _) | (with_reducible refine Kd.C_drewN ?_ _) | (with_reducible refine Kd.C_drew ?_))); (case side2 => exact (Kd.R_reads' HO139.out).2.1); rintro e w' ⟨rfl, ⟨nd, rfl⟩⟩; refine ⟨_, rfl, ?_⟩; (try (rw [drewN_self w48]; generalize hq_ : World.drewN w48 _ = w48; have n0_ : Aside0 (Kd.R (Kd.int .i64) 2 w48 w.heap.size (fun k_ => some k_ ≠ (.slice Ao12 x14_2.length co12 : Value).ownBlock ∧ some k_ ≠ (.slice (some ad133) x16_2.length co32 : Value).ownBlock) (.slice Ao49 y137.length co49) y137) := ⟨by rw [← hq_]; exact (rq HO139.out)⟩; have n1_ : Aside0 (Kd.R (Kd.int .i64) 2 w48 w.heap.size (fun k_ => some k_ ≠ (.slice Ao49 y137.length co49 : Value).ownBlock ∧ some k_ ≠ (.slice (some ad133) x16_2.length co32 : Value).ownBlock) (.slice Ao12 x14_2.length co12) x14_2) := ⟨by rw [← hq_]; exact (by (with_reducible repeat (first | apply Kd.R_alloc | apply Kd.R_drewN | apply Kd.R_drew)); exact Kd.R_mono HO_14.out (fun _ hk => by first | exact ⟨hk.2, hk.1⟩ | exact ⟨hk.1, hk.2⟩ | trivial))⟩; have n2_ : Aside0 (Kd.R (Kd.int .i64) 2 w48 w.heap.size (fun k_ => some k_ ≠ (.slice Ao49 y137.length co49 : Value).ownBlock ∧ some k_ ≠ (.slice Ao12 x14_2.length co12 : Value).ownBlock) (.slice (some ad133) x16_2.length co32) x16_2) := ⟨by rw [← hq_]; exact (by (with_reducible repeat (first | apply Kd.R_alloc | apply Kd.R_drewN | apply Kd.R_drew)); exact Kd.R_mono HO_16.out (fun _ hk => by first | exact ⟨hk.2, hk.1⟩ | exact ⟨hk.1, hk.2⟩ | trivial))⟩; have n3_ : Aside0 (w48.heap[gb111]? = some (.cells #[.slice A0_0 l0_0.length c0_0, .slice A0_1 l0_1.length c0_1] 47 (0, 0))) := ⟨by rw [← hq_]; exact (bq BK111.out)⟩; have n4_ : Aside0 (w48.heap[gb112]? = some (.cells #[.slice none 0 0, .slice none 0 0] 47 (0, 0))) := ⟨by rw [← hq_]; exact (bq BK112.out)⟩; have n5_ : Aside0 (w48.heap[gb122]? = some (.cells #[(.slice Ao12 x14_2.length co12), (.slice (some ad133) x16_2.length co32)] 47 (0, 0))) := ⟨by rw [← hq_]; exact (bq BK122.out)⟩; have n6_ : Aside0 (w48.heap[gb123]? = some (.cells #[(.slice Ao12 x14_2.length co12), (.slice (some ad133) x16_2.length co32)] 27 (0, 0))) := ⟨by rw [← hq_]; exact (bq BK123.out)⟩; have n7_ : Aside0 (Below w.heap.size w w48) := ⟨by rw [← hq_]; exact (hs HB.out)⟩; clear HO139 HO_14 HO_16 BK111 BK112 BK122 BK123 HB hq_; have HO139 := n0_; have HO_14 := n1_; have HO_16 := n2_; have BK111 := n3_; have BK112 := n4_; have BK122 := n5_; have BK123 := n6_; have HB := n7_; clear n0_ n1_ n2_ n3_ n4_ n5_ n6_ n7_)); have p46 : 0 ≤ (x25_2 : Int) := of_decide_eq_true (by first | (with_reducible assumption) | assumption); have q46 : (x25_2 : Int) < ((x16_2.length : Int) : Int) := of_decide_eq_true (by first | (with_reducible assumption) | assumption); obtain ⟨go46, co46, eo46, gb46, gl46, cl46, HG46⟩ := Kd.R_form HO_16.out (by omega); (first | cases eo46 | (injection eo46 with ea_ en_ ec_; (first | subst ea_ | (injection ea_ with ea_; subst ea_)); subst ec_; clear en_)); have GB46 := am gb46; have GG46 := am HG46; clear gb46 gl46 HG46; (first | simp only [add_plain] at hx133_0 | skip); obtain ⟨hx46_0, hf46_0⟩ := Kd.R_celln 0 HO_16.out (x25_2 : Int) p46 q46; replace p46 := eq_true p46; replace q46 := eq_true q46; obtain ⟨hy50_, hz50_⟩ := Kd.R_celln 0 HO_16.out (x25_2 : Int) (of_decide_eq_true (by first | (with_reducible assumption) | assumption)) (of_decide_eq_true (by first | (with_reducible assumption) | assumption)); have HP50 := Kd.R_putg HO_16.out (x25_2 : Int) (wrap64 ((-1) - t140))) | ((with_reducible refine gate_store (t := 2) (p := 46) rfl ?_); refine store_event (t := 2) (p := 46) (v := ?vo_w51) (w1 := (w48.setCell ⟨go46, (x25_2 : Int).toNat, none⟩ (.int .i64 (wrap64 ((-1) - t140))))) ?hg ?ho ?hn ?hr ?_; (case ho => rfl); (case hg => rfl); (case hn => rfl); (case hr => first | (go_simp; done) | (go_simp; rfl)); intro w51 hw; have hg : w48.grownBy w51 (some go46) := (by rw [hw]; exact HP50.2); have hp_ : Kd.R (Kd.int .i64) 2 w51 w.heap.size (fun k_ => some k_ ≠ (.slice Ao12 x14_2.length co12 : Value).ownBlock ∧ some k_ ≠ (.slice Ao49 y137.length co49 : Value).ownBlock) (.slice (some ⟨go46, 0, none⟩) x16_2.length co32) y141 := (by rw [hw, Ny141.out]; first | exact HP50.1 | exact Kd.R_mono (d := Kd.int .i64) HP50.1 (fun _ hk => ⟨hk.2, hk.1⟩)); clear HP50; have n0_ := am (Kd.R_after (v := (.slice (some ⟨go46, 0, none⟩) x16_2.length co32)) (v1 := (.slice (some ⟨go46, 0, none⟩) x16_2.length co32)) (ok := (fun k_ => some k_ ≠ (.slice Ao49 y137.length co49 : Value).ownBlock)) (by (with_reducible repeat (first | apply Kd.R_alloc | apply Kd.R_drewN | apply Kd.R_drew)); exact Kd.R_mono HO_14.out (fun _ hk => by first | exact ⟨hk.2, hk.1⟩ | exact ⟨hk.1, hk.2⟩ | trivial)) hg (.inl rfl)); have n1_ := am (hp_); have n2_ := am (blk_grown (bq BK111.out) hg (Kd.R_ne HO_16.out BK111.out (by decide))); have n3_ := am (blk_grown (bq BK112.out) hg (Kd.R_ne HO_16.out BK112.out (by decide))); have n4_ := am (blk_grown (bq BK122.out) hg (Kd.R_ne HO_16.out BK122.out (by decide))); have n5_ := am (blk_grown (bq BK123.out) hg (Kd.R_ne HO_16.out BK123.out (by decide))); have n6_ := am (Kd.R_after (v := (.slice (some ⟨go46, 0, none⟩) x16_2.length co32)) (v1 := (.slice (some ⟨go46, 0, none⟩) x16_2.length co32)) (ok := (fun k_ => some k_ ≠ (.slice Ao12 x14_2.length co12 : Value).ownBlock)) (by (with_reducible repeat (first | apply Kd.R_alloc | apply Kd.R_drewN | apply Kd.R_drew)); first | exact HO139.out | exact Kd.R_mono HO139.out (fun _ hk => ⟨hk.2, hk.1⟩)) hg (.inl rfl)); have n7_ := am ((by rw [hw]; exact below_set (HB.out) GB46.out : Below w.heap.size w w51)); clear HO_14 HO_16 BK111 BK112 BK122 BK123 HO139 HB; revert n0_ n1_ n2_ n3_ n4_ n5_ n6_ n7_; intro HO_14 HO_16 BK111 BK112 BK122 BK123 HO139 HB; clear hg hw hp_))
                        (try simp only [← hl14_2, ← hl16_2])
                        go_roundg k2
                        case measure => have := HK1.out; have := HK2.out; omega
                        case rel => exact ⟨(y137), (x14_2), (y141), (wrap64 (x25_2 + 1)), (by first | rfl | (simp; done) | (simp [*]; done)), H', ⟨by have := HK1.out; have := HK2.out; omega⟩, ⟨by (try simp only [hl14_1]); (try simp only [hl14_2]); (try simp only [hl16_2]); (with_reducible repeat (first | apply Kd.R_alloc | apply Kd.R_drewN | apply Kd.R_drew)); exact HO139.out⟩, ⟨by (try simp only [hl14_1]); (try simp only [hl14_2]); (try simp only [hl16_2]); (with_reducible repeat (first | apply Kd.R_alloc | apply Kd.R_drewN | apply Kd.R_drew)); exact HO_14.out⟩, ⟨by (try simp only [hl14_1]); (try simp only [hl14_2]); (try simp only [hl16_2]); (with_reducible repeat (first | apply Kd.R_alloc | apply Kd.R_drewN | apply Kd.R_drew)); exact Kd.R_mono HO_16.out (fun _ hk => by first | exact ⟨hk.2, hk.1⟩ | exact ⟨hk.1, hk.2⟩ | trivial)⟩, ⟨by (try simp only [hl14_1]); (try simp only [hl14_2]); (try simp only [hl16_2]); refine bq ?_; exact BK111.out⟩, ⟨by (try simp only [hl14_1]); (try simp only [hl14_2]); (try simp only [hl16_2]); refine bq ?_; exact BK112.out⟩, ⟨by (try simp only [hl14_1]); (try simp only [hl14_2]); (try simp only [hl16_2]); refine bq ?_; exact BK122.out⟩, ⟨by (try simp only [hl14_1]); (try simp only [hl14_2]); (try simp only [hl16_2]); refine bq ?_; exact BK123.out⟩, ⟨by exact hs HB.out⟩⟩
                      · rw [if_neg c44] at H
                        exact absurd H (by simp)
                · rw [if_neg c35] at H
                  exact absurd H (by simp)
              · rw [if_neg c34] at H
                exact absurd H (by simp)
            · rw [if_neg c33] at H
              have c33b0 : decide (x25_2 < (x16_1.length : Int)) = false := decide_eq_false c33
              try (have c33b9 := c33b0; rw [hl16_2] at c33b9)
              clear c33
              simp only [Option.some.injEq, Prod.mk.injEq] at H
              obtain ⟨rfl, rfl, rfl⟩ := H
              obtain ⟨Ao52, co52, eo52⟩ := Kd.R_slice HO_4.out
              subst eo52
              have hnb53 := NB112_111.out
              have hnc53 := NB111_112.out
              have hnb54 := NB112_122.out
              have hnc54 := NB122_112.out
              have hnb55 := NB112_123.out
              have hnc55 := NB123_112.out
              have hcz56_0 : wr.cell? ⟨gb112, 0, none⟩ = some (.slice none 0 0) := (blk_cell BK112.out 0).trans rfl
              have hcz56_1 : wr.cell? ⟨gb112, 1, none⟩ = some (.slice none 0 0) := (blk_cell BK112.out 1).trans rfl
              have hfz56_0 := blk_frozen BK112.out 0
              have hfz56_1 := blk_frozen BK112.out 1
              go_wp2
              refine HKR2.out _ _ ?_
              obtain ⟨m1_, rfl⟩ : ∃ m_, m2_ = m_ + 1 := ⟨0, by omega⟩
              refine rounds_k ?_
              intro KR3 hKR3
              have hz3 : wr.cell? ⟨gb122, 0, none⟩ = some (.slice Ao12 _ co12) := (blk_cell BK122.out 0).trans rfl
              have hz4 : wr.cell? ⟨gb122, 1, none⟩ = some (.slice Ao32 _ co32) := (blk_cell BK122.out 1).trans rfl
              go_wp2
              refine bodyPost_ret (results_ct rfl _ _ gb112 47 #[.slice Ao12 x14_2.length co12, .slice Ao32 x16_2.length co32] (0, 0) _ rfl (by refine bq ?_; refine blk_put (cs := #[.slice Ao12 x14_2.length co12, .slice none 0 0]) ?_ 1 _ rfl; refine bq ?_; refine blk_put (cs := #[.slice none 0 0, .slice none 0 0]) ?_ 0 _ rfl; refine bq ?_; exact BK112.out) Tryd.underlying47 rfl (by kernel_rfl)) rfl ?_
              exact ⟨_, _, by first | rfl | (simp [errW_none, errW_some] <;> rfl) | (simp [*, errW_none, errW_some] <;> rfl), by (with_reducible repeat (first | apply Kd.R_alloc | apply Kd.R_drewN | apply Kd.R_drew)); exact Kd.R_mono (Kd.R_far (p := ⟨gb112, 1, none⟩) (Kd.R_far (p := ⟨gb112, 0, none⟩) (Kd.R_types HO_14.out BK112.out (by decide)) (fun _ hk => hk.2) (.slice Ao12 x14_2.length co12)) (fun _ hk => hk.2) (.slice Ao32 x16_2.length co32)) (fun _ hk => hk.1.2), by (with_reducible repeat (first | apply Kd.R_alloc | apply Kd.R_drewN | apply Kd.R_drew)); exact Kd.R_mono (Kd.R_far (p := ⟨gb112, 1, none⟩) (Kd.R_far (p := ⟨gb112, 0, none⟩) (Kd.R_types HO_16.out BK112.out (by decide)) (fun _ hk => hk.2) (.slice Ao12 x14_2.length co12)) (fun _ hk => hk.2) (.slice Ao32 x16_2.length co32)) (fun _ hk => hk.1.2), by exact hs HB.out⟩
end Go.Proofs.YtcanokiehjjbgaaDoor.P
