/- A part of the proof of the law FnExactApplyBinding. -/
import Derived.Laws.StructEq
import Derived.Test.YtcanokiehjjbgaaDoorCFnExactApplyBinding0
import Derived.Test.YtcanokiehjjbgaaDoorCFnExactApplyBinding1
import Derived.Test.YtcanokiehjjbgaaDoorCFnExactApplyBinding2
import Derived.Test.YtcanokiehjjbgaaDoorCFnExactApplyBinding3
import Derived.Test.YtcanokiehjjbgaaDoorCFnExactApplyBinding4
import Derived.Test.YtcanokiehjjbgaaDoorCFnExactApplyBinding5
import Derived.Test.YtcanokiehjjbgaaDoorCFnExactApplyBinding13
namespace Go.Proofs.YtcanokiehjjbgaaDoor.P
open Go.RowKit Go.Proofs.YtcanokiehjjbgaaDoorW.PrintWords Go.Proofs.YtcanokiehjjbgaaDoorW.PrintLast Go.Proofs.YtcanokiehjjbgaaDoorW.PrintMore
attribute [local go_sem] max2_int min2_int max_two min_two max_three min_three max_four min_four   -- for this text's walks alone
set_option linter.unusedVariables false
set_option linter.unusedSimpArgs false
def spec_BindingFault.f (k : Nat) (l0_0 : List (S110)) (l1_0 : List Int) (l1_1 : List (List Int)) : Option (Int) := (spec_SignatureFault.f k l0_0).bind fun t788 => (if t788 = 0 then ((spec_l6Fault.f k [(⟨l0_0⟩ : S26)] [(⟨l1_0, l1_1⟩ : S67)]).bind fun t789 => (some t789)) else (some t788))
set_option maxHeartbeats 8000000 in
set_option maxRecDepth 100000 in
theorem spec_BindingFault.calls (k : Nat) (A0_0 : Option Addr) (c0_0 : Nat) (l0_0 : List (S110)) (A1_0 : Option Addr) (c1_0 : Nat) (l1_0 : List Int) (A1_1 : Option Addr) (c1_1 : Nat) (l1_1 : List (List Int)) (r : Int) (w : World) (hr0_0 : Kd.C k110 w A0_0 l0_0.length l0_0) (hc0_0 : l0_0.length ≤ c0_0) (hr1_0 : Kd.C (Kd.int .i64) w A1_0 l1_0.length l1_0) (hc1_0 : l1_0.length ≤ c1_0) (hr1_1 : Kd.C (Kd.slice 2 (Kd.int .i64)) w A1_1 l1_1.length l1_1) (hc1_1 : l1_1.length ≤ c1_1) (h : spec_BindingFault.f k l0_0 l1_0 l1_1 = some r) :
    Calls Tryd.prog 66 #[.agg #[.slice A0_0 l0_0.length c0_0], .agg #[.slice A1_0 l1_0.length c1_0, .slice A1_1 l1_1.length c1_1]] w fun e w' => e = .returned (.int .i64 r) ∧ Below w.heap.size w w' := by
  have hu26 := Tryd.underlying26
  have hu67 := Tryd.underlying67
  have HR0_0 := am hr0_0
  have HC0_0 := am hc0_0
  clear hr0_0 hc0_0
  have HR1_0 := am hr1_0
  have HC1_0 := am hc1_0
  clear hr1_0 hc1_0
  have HR1_1 := am hr1_1
  have HC1_1 := am hc1_1
  clear hr1_1 hc1_1
  have HB := am (Below.refl w.heap.size w)
  have H : ((spec_SignatureFault.f k l0_0).bind fun t788 => (if t788 = 0 then ((spec_l6Fault.f k [(⟨l0_0⟩ : S26)] [(⟨l1_0, l1_1⟩ : S67)]).bind fun t789 => (some t789)) else (some t788))) = some r := h
  clear h
  replace H := Option.bind_eq_some_iff.mp H
  obtain ⟨t788, A30, H⟩ := H
  replace H : (if t788 = 0 then ((spec_l6Fault.f k [(⟨l0_0⟩ : S26)] [(⟨l1_0, l1_1⟩ : S67)]).bind fun t789 => (some t789)) else (some t788)) = some r := H
  have A3 := am A30
  clear A30
  by_cases c4 : t788 = 0
  · rw [if_pos c4] at H
    have c4b0 : (t788 == 0) = true := beq_iff_eq.mpr c4
    have c4b1 : (t788 != 0) = false := bne_eq_false_iff_eq.mpr c4
    clear c4
    replace H := Option.bind_eq_some_iff.mp H
    obtain ⟨t789, A50, H⟩ := H
    replace H : (some t789) = some r := H
    have A5 := am A50
    clear A50
    obtain rfl := Option.some.inj H
    go_enter Tryd.func66, Tryd.ntmps66
    go_wp2_with (first | ((with_reducible refine gate_dst (N := 2) rfl ?_); refine box_event ?hg (N := 2) ?hd (cs := #[.slice A0_0 l0_0.length c0_0]) (t := 26) ?hr ?_; (case hd => rfl); (case hg => rfl); (case hr => first | (go_simp; done) | (go_simp; rfl)); intro gb786 hg w6 hbox hb; have n0_ := am (below_step (hq HB.out) hb); have n1_ := am (hbox); have n2_ := am (bz hg (hq HB.out)); have n3_ := n2_; clear HB; revert n0_ n1_ n2_ n3_; intro HB BK786 GW786 GE786; clear hb hbox hg) | ((with_reducible refine gate_dst (N := 3) rfl ?_); refine box_event ?hg (N := 3) ?hd (cs := #[.slice A1_0 l1_0.length c1_0, .slice A1_1 l1_1.length c1_1]) (t := 67) ?hr ?_; (case hd => rfl); (case hg => rfl); (case hr => first | (go_simp; done) | (go_simp; rfl)); intro gb787 hg w7 hbox hb; have n0_ := am (blk_below (bq BK786.out) hb); have n1_ := am (below_step (hs HB.out) hb); have n2_ := am (hbox); have n3_ := am (bz hg (hs HB.out)); have n4_ := n3_; have n5_ := am ((by rw [hg]; exact Nat.ne_of_lt (blk_lt (bq BK786.out)) : gb786 ≠ gb787)); have n6_ := am ((by rw [hg]; exact Nat.ne_of_gt (blk_lt (bq BK786.out)) : gb787 ≠ gb786)); clear BK786 HB; revert n0_ n1_ n2_ n3_ n4_ n5_ n6_; intro BK786 HB BK787 GW787 GE787 NB786_787 NB787_786; clear hb hbox hg; have hnb8 := NB786_787.out; have hnc8 := NB787_786.out; have hcz9_0 : w7.cell? ⟨gb786, 0, none⟩ = some (.slice A0_0 l0_0.length c0_0) := (blk_cell BK786.out 0).trans rfl; have hfz9_0 := blk_frozen BK786.out 0) | ((with_reducible refine gate_callee (f := 44) rfl ?_); refine goesL_ (some 7) rfl rfl Tryd.func44 (by kernel_rfl) rfl #[.agg #[.slice A0_0 l0_0.length c0_0]] rfl el ?_; (with_reducible refine (spec_SignatureFault.calls k _ _ l0_0 t788 _ ?side1 ?side2 A3.out).mono ?_); (case side1 => exact cq (Kd.C_below HR0_0.out HB.out)); (case side2 => exact HC0_0.out); rintro e w10 ⟨rfl, hb⟩; refine ⟨_, rfl, ?_⟩; have n0_ := am (blk_below (bq BK786.out) hb); have n1_ := am (blk_below (bq BK787.out) hb); have n2_ := am (below_step (hs HB.out) hb); clear BK786 BK787 HB; revert n0_ n1_ n2_; intro BK786 BK787 HB; (try clear hb); (try clear hb2); (try clear hgw); (try clear hk); (try clear hi)) | ((with_reducible refine gate_callee (f := 103) rfl ?_); refine goesL_ (some 11) rfl rfl Tryd.func103 (by kernel_rfl) rfl #[.pointer (some ⟨gb786, 0, none⟩), .pointer (some ⟨gb787, 0, none⟩)] rfl el ?_; (with_reducible refine (spec_l6Fault.calls k _ [(⟨l0_0⟩ : S26)] _ [(⟨l1_0, l1_1⟩ : S67)] t789 _ ?side1 ?side2 A5.out).mono ?_); (case side1 => exact k26_box (bq BK786.out) (cq (Kd.C_below HR0_0.out HB.out)) (by exact HC0_0.out)); (case side2 => exact k67_box (bq BK787.out) (cq (Kd.C_below HR1_0.out HB.out)) (by exact HC1_0.out) (cq (Kd.C_below HR1_1.out HB.out)) (by exact HC1_1.out)); rintro e w' ⟨rfl, ⟨nd, rfl⟩⟩; refine ⟨_, rfl, ?_⟩))
    go_ret
    exact ⟨by first | rfl | (simp [errW_none, errW_some] <;> rfl) | (simp [*, errW_none, errW_some] <;> rfl), by exact hs HB.out⟩
  · rw [if_neg c4] at H
    have c4b0 : (t788 == 0) = false := beq_eq_false_iff_ne.mpr c4
    have c4b1 : (t788 != 0) = true := bne_iff_ne.mpr c4
    obtain rfl := Option.some.inj H
    go_enter Tryd.func66, Tryd.ntmps66
    go_wp2_with (first | ((with_reducible refine gate_dst (N := 2) rfl ?_); refine box_event ?hg (N := 2) ?hd (cs := #[.slice A0_0 l0_0.length c0_0]) (t := 26) ?hr ?_; (case hd => rfl); (case hg => rfl); (case hr => first | (go_simp; done) | (go_simp; rfl)); intro gb786 hg w11 hbox hb; have n0_ := am (below_step (hq HB.out) hb); have n1_ := am (hbox); have n2_ := am (bz hg (hq HB.out)); have n3_ := n2_; clear HB; revert n0_ n1_ n2_ n3_; intro HB BK786 GW786 GE786; clear hb hbox hg) | ((with_reducible refine gate_dst (N := 3) rfl ?_); refine box_event ?hg (N := 3) ?hd (cs := #[.slice A1_0 l1_0.length c1_0, .slice A1_1 l1_1.length c1_1]) (t := 67) ?hr ?_; (case hd => rfl); (case hg => rfl); (case hr => first | (go_simp; done) | (go_simp; rfl)); intro gb787 hg w12 hbox hb; have n0_ := am (blk_below (bq BK786.out) hb); have n1_ := am (below_step (hs HB.out) hb); have n2_ := am (hbox); have n3_ := am (bz hg (hs HB.out)); have n4_ := n3_; have n5_ := am ((by rw [hg]; exact Nat.ne_of_lt (blk_lt (bq BK786.out)) : gb786 ≠ gb787)); have n6_ := am ((by rw [hg]; exact Nat.ne_of_gt (blk_lt (bq BK786.out)) : gb787 ≠ gb786)); clear BK786 HB; revert n0_ n1_ n2_ n3_ n4_ n5_ n6_; intro BK786 HB BK787 GW787 GE787 NB786_787 NB787_786; clear hb hbox hg; have hnb13 := NB786_787.out; have hnc13 := NB787_786.out; have hcz14_0 : w12.cell? ⟨gb786, 0, none⟩ = some (.slice A0_0 l0_0.length c0_0) := (blk_cell BK786.out 0).trans rfl; have hfz14_0 := blk_frozen BK786.out 0) | ((with_reducible refine gate_callee (f := 44) rfl ?_); refine goesL_ (some 7) rfl rfl Tryd.func44 (by kernel_rfl) rfl #[.agg #[.slice A0_0 l0_0.length c0_0]] rfl el ?_; (with_reducible refine (spec_SignatureFault.calls k _ _ l0_0 t788 _ ?side1 ?side2 A3.out).mono ?_); (case side1 => exact cq (Kd.C_below HR0_0.out HB.out)); (case side2 => exact HC0_0.out); rintro e w15 ⟨rfl, hb⟩; refine ⟨_, rfl, ?_⟩; have n0_ := am (blk_below (bq BK786.out) hb); have n1_ := am (blk_below (bq BK787.out) hb); have n2_ := am (below_step (hs HB.out) hb); clear BK786 BK787 HB; revert n0_ n1_ n2_; intro BK786 BK787 HB; (try clear hb); (try clear hb2); (try clear hgw); (try clear hk); (try clear hi)))
    go_ret
    exact ⟨by first | rfl | (simp [errW_none, errW_some] <;> rfl) | (simp [*, errW_none, errW_some] <;> rfl), by exact hs HB.out⟩
theorem at_SSq {w : World} {A : Option Addr} {n : Nat} {xs : List (List Int)} (h : Kd.C (Kd.slice 2 (Kd.int .i64)) w A n xs) (i : Int) (h0 : 0 ≤ i) (h1 : i < n) : ∃ ad A0 c0, A = some ad ∧ w.cell? (ad.add i.toNat) = some (.slice A0 (xs.getD i.toNat ([] : List Int)).length c0) ∧ (xs.getD i.toNat ([] : List Int)).length ≤ c0 ∧ (Kd.int .i64).C w A0 (xs.getD i.toNat ([] : List Int)).length (xs.getD i.toNat ([] : List Int)) := by
  obtain ⟨ad, c, e, _, hK, hc0⟩ := Kd.C_get h ([] : List Int) i h0 h1
  have hc : ∀ j u, c[j]? = some u → w.cell? (ad.add (i.toNat * 1 + j)) = some u := hc0
  obtain ⟨A0, c0, rfl, l0, g0⟩ := hK
  exact ⟨ad, A0, c0, e, by have hq := hc 0 _ rfl; rwa [Nat.mul_one, Nat.add_zero] at hq, l0, g0⟩
theorem lit_event2 {P : Program} {ops : Array Oper} {rest : List Oper} {o : Oper} {a : Act} {Q : Exit → Act → World → Prop} {W : World} (hgd : o.guard = none) {N : Tmp} (_hd : o.dst = some N) {n : Nat} {cs : Array Value} {t : TypeId}
    (hrun : (execOp a.eval o).run P W = .ok (.value (.slice (some ⟨W.heap.size, 0, none⟩) n n)) (W.alloc (.cells cs t (0, 0))))
    (h : ∀ g, g = W.heap.size → ∀ w1, w1.heap[g]? = some (.cells cs t (0, 0)) → Below W.heap.size W w1 → wpList P ops Q rest (a.put o.dst (.slice (some ⟨g, 0, none⟩) n n)) w1) : wpList P ops Q (o :: rest) a W :=
  Kd.event_run hgd hrun (h _ rfl _ (blk_new W _) (below_alloc (Below.refl _ _) _))
def spec_l6Term.l0 : Nat → List Int → List (List Int) → Int → Int → Option (List Int)
  | 0, _, _, _, _ => none
  | k + 1, vs, ts, v, i => if i < (vs.length : Int) then (if 0 ≤ i then (if rd vs i = v then (if i < (ts.length : Int) then some (ts.getD i.toNat ([] : List Int)) else none) else spec_l6Term.l0 k vs ts v (wrap64 (i + 1))) else none) else some []
set_option maxHeartbeats 8000000 in
set_option maxRecDepth 100000 in
theorem spec_l6Term.callsC (k : Nat) (A0 : Option Addr) (n0 : Nat) (l0 : List S67) (v : Int) (r : List Int) (w : World) (hn : 0 < n0) (hr0 : Kd.C k67 w A0 n0 l0) (h : spec_l6Term.l0 k (rd_T67 l0 0).f0 (rd_T67 l0 0).f1 v 0 = some r) :
    Calls Tryd.prog 104 #[.pointer A0, .int .i64 v] w fun e w' => ∃ A c, e = .returned (.slice A r.length c) ∧ r.length ≤ c ∧ Kd.C (Kd.int .i64) w A r.length r ∧ w' = w := by
  obtain ⟨ad, Av, cv, At, ct, rfl, hx0, hx1, lv, hv, lt, ht⟩ := at_T67 hr0 0 (by omega) (by omega)
  rw [show ((0 : Int)).toNat = 0 from rfl, show 0 * 2 = 0 from rfl, Addr.add_zero'] at hx0 hx1
  generalize (rd_T67 l0 0).f0 = vs at *
  generalize (rd_T67 l0 0).f1 = ts at *
  have HV := am hv
  have HT := am ht
  have H' := am h
  clear hr0 hv ht h lv lt hn
  go_enter Tryd.func104, Tryd.ntmps104
  go_wp2
  go_loopg [5] k (fun kq v5 w' => ∃ (x5_1 : Int), v5 = .int .i64 x5_1 ∧ Aside0 (spec_l6Term.l0 kq vs ts v x5_1 = some r) ∧ Aside0 (kq ≤ k) ∧ w' = w)
  case atStart => exact ⟨0, rfl, H', ⟨Nat.le_refl _⟩, rfl⟩
  case round =>
    clear H'
    obtain ⟨x5_1, rfl, HA, HK1, rfl⟩ := hrel
    cases gk with
    | zero => exact absurd HA.out (by simp [spec_l6Term.l0])
    | succ k1 =>
      have H := HA.out
      clear HA
      simp only [spec_l6Term.l0] at H
      by_cases c3 : x5_1 < (vs.length : Int)
      · rw [if_pos c3] at H
        have c3b0 : decide (x5_1 < (vs.length : Int)) = true := decide_eq_true c3
        by_cases c4 : 0 ≤ x5_1
        · rw [if_pos c4] at H
          have c4b0 : decide (0 ≤ x5_1) = true := decide_eq_true c4
          obtain ⟨ad5, e5, hx5_0⟩ := Kd.at_int HV.out x5_1 c4 c3
          cases e5
          by_cases c5 : rd vs x5_1 = v
          · rw [if_pos c5] at H
            have c5b0 : (rd vs x5_1 == v) = true := beq_iff_eq.mpr c5
            by_cases c6 : x5_1 < (ts.length : Int)
            · rw [if_pos c6] at H
              have c6b0 : decide (x5_1 < (ts.length : Int)) = true := decide_eq_true c6
              obtain ⟨ad6, A6, c6_, e6, hx6_0, hl6, hr6⟩ := at_SSq HT.out x5_1 c4 c6
              cases e6
              obtain ⟨row_, hrow_⟩ : ∃ z_ : List Int, z_ = ts.getD x5_1.toNat ([] : List Int) := ⟨_, rfl⟩
              rw [← hrow_] at hx6_0 hl6 hr6 H
              obtain rfl := Option.some.inj H
              have HR6 := am hr6
              have HL6 := am hl6
              have p5 := eq_true c4
              have q5 := eq_true c3
              have q6 := eq_true c6
              clear hr6 hl6 hrow_ c3 c4 c5 c6 H
              go_wp2
              go_ret
              exact ⟨_, _, rfl, HL6.out, HR6.out, rfl⟩
            · rw [if_neg c6] at H
              exact absurd H (by simp)
          · rw [if_neg c5] at H
            have c5b0 : (rd vs x5_1 == v) = false := beq_eq_false_iff_ne.mpr c5
            have H' := am H
            have p5 := eq_true c4
            have q5 := eq_true c3
            clear c3 c4 c5 H
            go_wp2
            go_roundg k1
            case measure => have := HK1.out; omega
            case rel => exact ⟨(wrap64 (x5_1 + 1)), (by first | rfl | (simp; done) | (simp [*]; done)), H', ⟨by have := HK1.out; omega⟩, rfl⟩
        · rw [if_neg c4] at H
          exact absurd H (by simp)
      · rw [if_neg c3] at H
        have c3b0 : decide (x5_1 < (vs.length : Int)) = false := decide_eq_false c3
        clear c3
        obtain rfl := Option.some.inj H
        go_wp2
        go_ret
        first
          | exact ⟨none, ⟨0, rfl⟩, (Kd.R_reads' (Kd.R_nil (Kd.int .i64) 2 _ 0 (fun _ => True))).2.2, rfl⟩
          | exact ⟨none, 0, rfl, Nat.le_refl _, (Kd.R_reads' (Kd.R_nil (Kd.int .i64) 2 _ 0 (fun _ => True))).2.2, rfl⟩
def spec_l6Apply.l0 : Nat → List Int → List (List Int) → List Int → List Int → Int → Option (List Int)
  | 0, _, _, _, _, _ => none
  | k + 1, vs, ts, x1, x5, x6 => if x6 < (x1.length : Int) then (if 0 ≤ x6 then (if rd x1 x6 < 0 then ((spec_l6Term.l0 k vs ts (wrap64 ((-1) - rd x1 x6)) 0).bind fun t => (if t.length = 0 then (if x5.length < 17592186044416 then spec_l6Apply.l0 k vs ts x1 (x5 ++ [rd x1 x6]) (wrap64 (x6 + 1)) else none) else (if x5.length + t.length < 17592186044416 then spec_l6Apply.l0 k vs ts x1 (x5 ++ t) (wrap64 (x6 + 1)) else none))) else (if x5.length < 17592186044416 then spec_l6Apply.l0 k vs ts x1 (x5 ++ [rd x1 x6]) (wrap64 (x6 + 1)) else none)) else none) else some x5
def spec_l6Apply.f (k : Nat) (l0 : List S67) (l1 : List Int) : Option (List Int) := if 0 < l0.length then spec_l6Apply.l0 k (rd_T67 l0 0).f0 (rd_T67 l0 0).f1 l1 [] 0 else none
set_option maxHeartbeats 8000000 in
set_option maxRecDepth 100000 in
theorem spec_l6Apply.calls (k : Nat) (A0 : Option Addr) (l0 : List S67) (A1 : Option Addr) (c1 : Nat) (l1 : List Int) (r : List Int) (w : World) (hr0 : Kd.C k67 w A0 l0.length l0) (hr1 : Kd.C (Kd.int .i64) w A1 l1.length l1) (hc1 : l1.length ≤ c1) (h : spec_l6Apply.f k l0 l1 = some r) :
    Calls Tryd.prog 67 #[.pointer A0, .slice A1 l1.length c1] w fun e w' => ∃ v0_ : Value, e = .returned (v0_) ∧ Kd.R (Kd.int .i64) 2 w' w.heap.size (fun _ => True) v0_ r ∧ Below w.heap.size w w' := by
  unfold spec_l6Apply.f at h
  by_cases hn : 0 < l0.length
  case neg => rw [if_neg hn] at h; cases h
  rw [if_pos hn] at h
  have HN := am hn
  have HR0 := am hr0
  have HR1 := am hr1
  have HB := am (Below.refl w.heap.size w)
  have H' := am h
  clear hr0 hr1 hc1 h hn
  go_enter Tryd.func67, Tryd.ntmps67
  go_wp2_with (first | ((with_reducible refine gate_dst (N := 8) rfl ?_); refine Kd.R_lit (Kd.int .i64) _ 2 ?hg (N := 8) ?hd (xs := ([] : List Int)) (inner := []) (ok := fun _ => True) (okp := fun _ => True) ?hr ?hp (fun _ hk => hk) trivial (Below.refl _ _) (Nat.le_refl _) (by simp) ?_; (case hd => rfl); (case hg => rfl); (case hr => first | (go_simp; done) | (go_simp; rfl)); (case hp => exact (Reps.none _ _)); intro v4 w3 ho4 hb hg_ hnew_; clear hg_ hnew_; have n0_ := am (Kd.R_lower ho4 (below_size HB.out)); have n1_ := am (below_step HB.out hb); clear HB; revert n0_ n1_; intro HO HB; clear hb ho4))
  go_loopg [5, 6] k (fun kq v5 v6 w' => ∃ (x5_1 : List Int) (x6_1 : Int), v6 = .int .i64 x6_1 ∧ Aside0 (spec_l6Apply.l0 kq (rd_T67 l0 0).f0 (rd_T67 l0 0).f1 l1 x5_1 x6_1 = some r) ∧ Aside0 (kq ≤ k) ∧ Aside0 (Kd.R (Kd.int .i64) 2 w' w.heap.size (fun _ => True) v5 x5_1) ∧ Aside0 (Below w.heap.size w w'))
  case atStart => exact ⟨[], 0, rfl, H', ⟨Nat.le_refl _⟩, HO, HB⟩
  case round =>
    clear H' HO HB
    obtain ⟨x5_1, x6_1, rfl, HA, HK1, HO, HB⟩ := hrel
    cases gk with
    | zero => exact absurd HA.out (by simp [spec_l6Apply.l0])
    | succ k1 =>
      have H := HA.out
      clear HA
      simp only [spec_l6Apply.l0] at H
      by_cases c3 : x6_1 < (l1.length : Int)
      · rw [if_pos c3] at H
        have c3b0 : decide (x6_1 < (l1.length : Int)) = true := decide_eq_true c3
        by_cases c4 : 0 ≤ x6_1
        · rw [if_pos c4] at H
          have c4b0 : decide (0 ≤ x6_1) = true := decide_eq_true c4
          obtain ⟨ad1, e1, _⟩ := Kd.at_int HR1.out x6_1 c4 c3
          cases e1
          have HC4 := am c4
          have HC3 := am c3
          have p5 := eq_true c4
          have q5 := eq_true c3
          by_cases c5 : rd l1 x6_1 < 0
          · rw [if_pos c5] at H
            have c5b0 : decide (rd l1 x6_1 < 0) = true := decide_eq_true c5
            obtain ⟨t_, A30, H⟩ := Option.bind_eq_some_iff.mp H
            have A3 := am A30
            clear A30 c3 c4 c5
            by_cases c6 : t_.length = 0
            · rw [if_pos c6] at H
              have c6b0 : ((t_.length : Int) == 0) = true := beq_iff_eq.mpr (by omega)
              by_cases c7 : x5_1.length < 17592186044416
              · rw [if_pos c7] at H
                have LM := am c7
                have H' := am H
                clear c6 c7 H
                go_wp2_with (first | ((with_reducible refine gate_dst (N := 15) rfl ?_); refine lit_event2 ?hg (N := 15) ?hd (n := 0) (cs := #[]) (t := 2) ?hr ?_; (case hd => rfl); (case hg => rfl); (case hr => first | (go_simp; done) | (go_simp; rfl)); intro gt_ hg w15 hbox hb; have n0_ := am (Kd.R_below HO.out hb); have n1_ := am (below_step HB.out hb); clear HO HB hg hbox hb; have HO := n0_; have HB := n1_; clear n0_ n1_; obtain ⟨ad2, e2, hx2⟩ := Kd.at_int (Kd.C_below HR1.out HB.out) x6_1 HC4.out HC3.out; obtain rfl : ad1 = ad2 := (by injection e2); clear e2) | ((with_reducible refine gate_callee (f := 104) rfl ?_); refine goesL_ (some 27) rfl rfl Tryd.func104 (by kernel_rfl) rfl #[.pointer A0, .int .i64 (wrap64 ((-1) - rd l1 x6_1))] rfl (by (try simp only [List.map_toArray, List.map_cons, List.map_nil]); first | done | rfl) ?_; (with_reducible refine (spec_l6Term.callsC k1 A0 l0.length l0 (wrap64 ((-1) - rd l1 x6_1)) t_ _ ?side1 ?side2 A3.out).mono ?_); (case side1 => exact HN.out); (case side2 => exact Kd.C_below HR0.out HB.out); rintro e w7 ⟨At_, ct_, rfl, hl_, hr_, rfl⟩; refine ⟨_, rfl, ?_⟩; have HRT := am hr_; clear hl_ hr_) | ((with_reducible refine gate_builtin (b := .append) (xs := #[.tmp 31, .tmp 36]) rfl ?_); at_builtin; refine Kd.R_append (Kd.int .i64) (w0 := w) w.heap.size rfl (.tmp 31) (.tmp 36) 27 2 (.int .i64 0) 8 rfl Tryd.underlying27 info2 rfl (by decide) (by omega) _ x5_1 (rd l1 x6_1) [.int .i64 (rd l1 x6_1)] (fun _ => True) (fun _ => False) rfl rfl ?aP (fun _ hk => hk.elim) ?aF ?aO ?aB ?aS ?aL ?_; (case aP => exact rfl); (case aB => exact HB.out); (case aF => exact (fun _ _ => trivial)); (case aO => exact HO.out); (case aS => exact (below_size HB.out)); (case aL => have := LM.out; omega); intro v19 w19 ho hb hg hat; clear HB HO hg hat; have HO := am ho; have HB := am hb; clear ho hb))
                go_roundg k1
                case measure => have := HK1.out; omega
                case rel => exact ⟨(x5_1 ++ [rd l1 x6_1]), (wrap64 (x6_1 + 1)), (by first | rfl | (simp; done) | (simp [*]; done)), H', ⟨by have := HK1.out; omega⟩, HO, HB⟩
              · rw [if_neg c7] at H
                exact absurd H (by simp)
            · rw [if_neg c6] at H
              have c6b0 : ((t_.length : Int) == 0) = false := beq_eq_false_iff_ne.mpr (by omega)
              by_cases c7 : x5_1.length + t_.length < 17592186044416
              · rw [if_pos c7] at H
                have LM := am c7
                have H' := am H
                clear c6 c7 H
                go_wp2_with (first | ((with_reducible refine gate_dst (N := 15) rfl ?_); refine lit_event2 ?hg (N := 15) ?hd (n := 0) (cs := #[]) (t := 2) ?hr ?_; (case hd => rfl); (case hg => rfl); (case hr => first | (go_simp; done) | (go_simp; rfl)); intro gt_ hg w15 hbox hb; have n0_ := am (Kd.R_below HO.out hb); have n1_ := am (below_step HB.out hb); clear HO HB hg hbox hb; have HO := n0_; have HB := n1_; clear n0_ n1_; obtain ⟨ad2, e2, hx2⟩ := Kd.at_int (Kd.C_below HR1.out HB.out) x6_1 HC4.out HC3.out; obtain rfl : ad1 = ad2 := (by injection e2); clear e2) | ((with_reducible refine gate_callee (f := 104) rfl ?_); refine goesL_ (some 27) rfl rfl Tryd.func104 (by kernel_rfl) rfl #[.pointer A0, .int .i64 (wrap64 ((-1) - rd l1 x6_1))] rfl (by (try simp only [List.map_toArray, List.map_cons, List.map_nil]); first | done | rfl) ?_; (with_reducible refine (spec_l6Term.callsC k1 A0 l0.length l0 (wrap64 ((-1) - rd l1 x6_1)) t_ _ ?side1 ?side2 A3.out).mono ?_); (case side1 => exact HN.out); (case side2 => exact Kd.C_below HR0.out HB.out); rintro e w7 ⟨At_, ct_, rfl, hl_, hr_, rfl⟩; refine ⟨_, rfl, ?_⟩; have HRT := am hr_; clear hl_ hr_) | ((with_reducible refine gate_builtin (b := .append) (xs := #[.tmp 38, .tmp 39]) rfl ?_); at_builtin; refine Kd.R_append_rows (Kd.int .i64) (w0 := w) w.heap.size rfl (.tmp 38) (.tmp 39) 27 2 (.int .i64 0) 8 rfl Tryd.underlying27 info2 rfl (by decide) (by omega) _ x5_1 t_ _ _ _ (fun _ => True) (fun _ => False) rfl rfl ?aO ?aR (fun _ _ h => h) (fun _ h => h.elim) ?aF ?aB ?aS ?aL ?_; (case aR => exact HRT.out); (case aB => exact HB.out); (case aF => exact (fun _ _ => trivial)); (case aO => exact HO.out); (case aS => exact (below_size HB.out)); (case aL => have := LM.out; omega); intro v19 w19 ho hb hg hat; clear HB HO hg hat; have HO := am ho; have HB := am hb; clear ho hb))
                go_roundg k1
                case measure => have := HK1.out; omega
                case rel => exact ⟨(x5_1 ++ t_), (wrap64 (x6_1 + 1)), (by first | rfl | (simp; done) | (simp [*]; done)), H', ⟨by have := HK1.out; omega⟩, HO, HB⟩
              · rw [if_neg c7] at H
                exact absurd H (by simp)
          · rw [if_neg c5] at H
            have c5b0 : decide (rd l1 x6_1 < 0) = false := decide_eq_false c5
            by_cases c7 : x5_1.length < 17592186044416
            · rw [if_pos c7] at H
              have LM := am c7
              have H' := am H
              clear c3 c4 c5 c7 H
              go_wp2_with (first | ((with_reducible refine gate_dst (N := 15) rfl ?_); refine lit_event2 ?hg (N := 15) ?hd (n := 0) (cs := #[]) (t := 2) ?hr ?_; (case hd => rfl); (case hg => rfl); (case hr => first | (go_simp; done) | (go_simp; rfl)); intro gt_ hg w15 hbox hb; have n0_ := am (Kd.R_below HO.out hb); have n1_ := am (below_step HB.out hb); clear HO HB hg hbox hb; have HO := n0_; have HB := n1_; clear n0_ n1_; obtain ⟨ad2, e2, hx2⟩ := Kd.at_int (Kd.C_below HR1.out HB.out) x6_1 HC4.out HC3.out; obtain rfl : ad1 = ad2 := (by injection e2); clear e2) | ((with_reducible refine gate_builtin (b := .append) (xs := #[.tmp 31, .tmp 36]) rfl ?_); at_builtin; refine Kd.R_append (Kd.int .i64) (w0 := w) w.heap.size rfl (.tmp 31) (.tmp 36) 27 2 (.int .i64 0) 8 rfl Tryd.underlying27 info2 rfl (by decide) (by omega) _ x5_1 (rd l1 x6_1) [.int .i64 (rd l1 x6_1)] (fun _ => True) (fun _ => False) rfl rfl ?aP (fun _ hk => hk.elim) ?aF ?aO ?aB ?aS ?aL ?_; (case aP => exact rfl); (case aB => exact HB.out); (case aF => exact (fun _ _ => trivial)); (case aO => exact HO.out); (case aS => exact (below_size HB.out)); (case aL => have := LM.out; omega); intro v19 w19 ho hb hg hat; clear HB HO hg hat; have HO := am ho; have HB := am hb; clear ho hb))
              go_roundg k1
              case measure => have := HK1.out; omega
              case rel => exact ⟨(x5_1 ++ [rd l1 x6_1]), (wrap64 (x6_1 + 1)), (by first | rfl | (simp; done) | (simp [*]; done)), H', ⟨by have := HK1.out; omega⟩, HO, HB⟩
            · rw [if_neg c7] at H
              exact absurd H (by simp)
        · rw [if_neg c4] at H
          exact absurd H (by simp)
      · rw [if_neg c3] at H
        have c3b0 : decide (x6_1 < (l1.length : Int)) = false := decide_eq_false c3
        clear c3
        obtain rfl := Option.some.inj H
        go_wp2
        go_ret
        exact ⟨_, rfl, HO.out, HB.out⟩
def spec_ApplyBinding.f (k : Nat) (l0_0 : List (S110)) (l1_0 : List Int) (l1_1 : List (List Int)) (l2 : List Int) : Option (Int × List Int) := (spec_BindingFault.f k l0_0 l1_0 l1_1).bind fun t793 => (if t793 = 0 then ((spec_l3Fault.f k [(⟨l0_0⟩ : S26)] l2).bind fun t794 => (if t794 = 0 then ((spec_l6Apply.f k [(⟨l1_0, l1_1⟩ : S67)] l2).bind fun t795 => (if (t795.length : Int) > 24 then (some (2, ([] : List Int))) else (some (0, t795)))) else (some (t794, ([] : List Int))))) else (some (t793, ([] : List Int))))
set_option maxHeartbeats 8000000 in
set_option maxRecDepth 100000 in
theorem spec_ApplyBinding.calls (k : Nat) (A0_0 : Option Addr) (c0_0 : Nat) (l0_0 : List (S110)) (A1_0 : Option Addr) (c1_0 : Nat) (l1_0 : List Int) (A1_1 : Option Addr) (c1_1 : Nat) (l1_1 : List (List Int)) (A2 : Option Addr) (c2 : Nat) (l2 : List Int) (r1 : Int) (r2 : List Int) (w : World) (hr0_0 : Kd.C k110 w A0_0 l0_0.length l0_0) (hc0_0 : l0_0.length ≤ c0_0) (hr1_0 : Kd.C (Kd.int .i64) w A1_0 l1_0.length l1_0) (hc1_0 : l1_0.length ≤ c1_0) (hr1_1 : Kd.C (Kd.slice 2 (Kd.int .i64)) w A1_1 l1_1.length l1_1) (hc1_1 : l1_1.length ≤ c1_1) (hr2 : Kd.C (Kd.int .i64) w A2 l2.length l2) (hc2 : l2.length ≤ c2) (h : spec_ApplyBinding.f k l0_0 l1_0 l1_1 l2 = some (r1, r2)) :
    Calls Tryd.prog 31 #[.agg #[.slice A0_0 l0_0.length c0_0], .agg #[.slice A1_0 l1_0.length c1_0, .slice A1_1 l1_1.length c1_1], .slice A2 l2.length c2] w fun e w' => ∃ v1_ : Value, e = .returned (.agg #[.int .i64 r1, v1_]) ∧ Kd.R (Kd.int .i64) 2 w' w.heap.size (fun _ => True) v1_ r2 ∧ Below w.heap.size w w' := by
  have hu26 := Tryd.underlying26
  have hu67 := Tryd.underlying67
  have hu65 := Tryd.underlying65
  have HR0_0 := am hr0_0
  have HC0_0 := am hc0_0
  clear hr0_0 hc0_0
  have HR1_0 := am hr1_0
  have HC1_0 := am hc1_0
  clear hr1_0 hc1_0
  have HR1_1 := am hr1_1
  have HC1_1 := am hc1_1
  clear hr1_1 hc1_1
  have HR2 := am hr2
  have HC2 := am hc2
  clear hr2 hc2
  have HB := am (Below.refl w.heap.size w)
  have H : ((spec_BindingFault.f k l0_0 l1_0 l1_1).bind fun t793 => (if t793 = 0 then ((spec_l3Fault.f k [(⟨l0_0⟩ : S26)] l2).bind fun t794 => (if t794 = 0 then ((spec_l6Apply.f k [(⟨l1_0, l1_1⟩ : S67)] l2).bind fun t795 => (if (t795.length : Int) > 24 then (some (2, ([] : List Int))) else (some (0, t795)))) else (some (t794, ([] : List Int))))) else (some (t793, ([] : List Int))))) = some (r1, r2) := h
  clear h
  replace H := Option.bind_eq_some_iff.mp H
  obtain ⟨t793, A40, H⟩ := H
  replace H : (if t793 = 0 then ((spec_l3Fault.f k [(⟨l0_0⟩ : S26)] l2).bind fun t794 => (if t794 = 0 then ((spec_l6Apply.f k [(⟨l1_0, l1_1⟩ : S67)] l2).bind fun t795 => (if (t795.length : Int) > 24 then (some (2, ([] : List Int))) else (some (0, t795)))) else (some (t794, ([] : List Int))))) else (some (t793, ([] : List Int)))) = some (r1, r2) := H
  have A4 := am A40
  clear A40
  by_cases c5 : t793 = 0
  · rw [if_pos c5] at H
    have c5b0 : (t793 == 0) = true := beq_iff_eq.mpr c5
    have c5b1 : (t793 != 0) = false := bne_eq_false_iff_eq.mpr c5
    clear c5
    replace H := Option.bind_eq_some_iff.mp H
    obtain ⟨t794, A60, H⟩ := H
    replace H : (if t794 = 0 then ((spec_l6Apply.f k [(⟨l1_0, l1_1⟩ : S67)] l2).bind fun t795 => (if (t795.length : Int) > 24 then (some (2, ([] : List Int))) else (some (0, t795)))) else (some (t794, ([] : List Int)))) = some (r1, r2) := H
    have A6 := am A60
    clear A60
    by_cases c7 : t794 = 0
    · rw [if_pos c7] at H
      have c7b0 : (t794 == 0) = true := beq_iff_eq.mpr c7
      have c7b1 : (t794 != 0) = false := bne_eq_false_iff_eq.mpr c7
      clear c7
      replace H := Option.bind_eq_some_iff.mp H
      obtain ⟨t795, A80, H⟩ := H
      replace H : (if (t795.length : Int) > 24 then (some (2, ([] : List Int))) else (some (0, t795))) = some (r1, r2) := H
      have A8 := am A80
      clear A80
      by_cases c9 : (t795.length : Int) > 24
      · rw [if_pos c9] at H
        have c9b0 : decide (24 < (t795.length : Int)) = true := decide_eq_true c9
        have c9b1 : decide (24 < t795.length) = true := decide_eq_true (by omega)
        clear c9
        simp only [Option.some.injEq, Prod.mk.injEq] at H
        obtain ⟨rfl, rfl⟩ := H
        go_enter Tryd.func31, Tryd.ntmps31
        go_wp2_with (first | ((with_reducible refine gate_dst (N := 3) rfl ?_); refine box_event ?hg (N := 3) ?hd (cs := #[.slice A0_0 l0_0.length c0_0]) (t := 26) ?hr ?_; (case hd => rfl); (case hg => rfl); (case hr => first | (go_simp; done) | (go_simp; rfl)); intro gb790 hg w10 hbox hb; have n0_ := am (below_step (hq HB.out) hb); have n1_ := am (hbox); have n2_ := am (bz hg (hq HB.out)); have n3_ := n2_; clear HB; revert n0_ n1_ n2_ n3_; intro HB BK790 GW790 GE790; clear hb hbox hg) | ((with_reducible refine gate_dst (N := 4) rfl ?_); refine box_event ?hg (N := 4) ?hd (cs := #[.slice A1_0 l1_0.length c1_0, .slice A1_1 l1_1.length c1_1]) (t := 67) ?hr ?_; (case hd => rfl); (case hg => rfl); (case hr => first | (go_simp; done) | (go_simp; rfl)); intro gb791 hg w11 hbox hb; have n0_ := am (blk_below (bq BK790.out) hb); have n1_ := am (below_step (hs HB.out) hb); have n2_ := am (hbox); have n3_ := am (bz hg (hs HB.out)); have n4_ := n3_; have n5_ := am ((by rw [hg]; exact Nat.ne_of_lt (blk_lt (bq BK790.out)) : gb790 ≠ gb791)); have n6_ := am ((by rw [hg]; exact Nat.ne_of_gt (blk_lt (bq BK790.out)) : gb791 ≠ gb790)); clear BK790 HB; revert n0_ n1_ n2_ n3_ n4_ n5_ n6_; intro BK790 HB BK791 GW791 GE791 NB790_791 NB791_790; clear hb hbox hg) | ((with_reducible refine gate_dst (N := 6) rfl ?_); refine box_event ?hg (N := 6) ?hd (cs := #[.int .i64 0, .slice none 0 0]) (t := 65) ?hr ?_; (case hd => rfl); (case hg => rfl); (case hr => first | (go_simp; done) | (go_simp; rfl)); intro gb792 hg w12 hbox hb; have n0_ := am (blk_below (bq BK790.out) hb); have n1_ := am (blk_below (bq BK791.out) hb); have n2_ := am (below_step (hs HB.out) hb); have n3_ := am (hbox); have n4_ := am (bz hg (hs HB.out)); have n5_ := n4_; have n6_ := am ((by rw [hg]; exact Nat.ne_of_lt (blk_lt (bq BK790.out)) : gb790 ≠ gb792)); have n7_ := am ((by rw [hg]; exact Nat.ne_of_gt (blk_lt (bq BK790.out)) : gb792 ≠ gb790)); have n8_ := am ((by rw [hg]; exact Nat.ne_of_lt (blk_lt (bq BK791.out)) : gb791 ≠ gb792)); have n9_ := am ((by rw [hg]; exact Nat.ne_of_gt (blk_lt (bq BK791.out)) : gb792 ≠ gb791)); clear BK790 BK791 HB; revert n0_ n1_ n2_ n3_ n4_ n5_ n6_ n7_ n8_ n9_; intro BK790 BK791 HB BK792 GW792 GE792 NB790_792 NB792_790 NB791_792 NB792_791; clear hb hbox hg; have hnb13 := NB790_791.out; have hnc13 := NB791_790.out; have hnb14 := NB790_792.out; have hnc14 := NB792_790.out; have hcz15_0 : w12.cell? ⟨gb790, 0, none⟩ = some (.slice A0_0 l0_0.length c0_0) := (blk_cell BK790.out 0).trans rfl; have hfz15_0 := blk_frozen BK790.out 0; have hnb16 := NB791_792.out; have hnc16 := NB792_791.out; have hcz17_0 : w12.cell? ⟨gb791, 0, none⟩ = some (.slice A1_0 l1_0.length c1_0) := (blk_cell BK791.out 0).trans rfl; have hcz17_1 : w12.cell? ⟨gb791, 1, none⟩ = some (.slice A1_1 l1_1.length c1_1) := (blk_cell BK791.out 1).trans rfl; have hfz17_0 := blk_frozen BK791.out 0; have hfz17_1 := blk_frozen BK791.out 1) | ((with_reducible refine gate_callee (f := 66) rfl ?_); refine goesL_ (some 12) rfl rfl Tryd.func66 (by kernel_rfl) rfl #[.agg #[.slice A0_0 l0_0.length c0_0], .agg #[.slice A1_0 l1_0.length c1_0, .slice A1_1 l1_1.length c1_1]] rfl el ?_; (with_reducible refine (spec_BindingFault.calls k _ _ l0_0 _ _ l1_0 _ _ l1_1 t793 _ ?side1 ?side2 ?side3 ?side4 ?side5 ?side6 A4.out).mono ?_); (case side1 => exact cq (Kd.C_below HR0_0.out HB.out)); (case side2 => exact HC0_0.out); (case side3 => exact cq (Kd.C_below HR1_0.out HB.out)); (case side4 => exact HC1_0.out); (case side5 => exact cq (Kd.C_below HR1_1.out HB.out)); (case side6 => exact HC1_1.out); rintro e w18 ⟨rfl, hb⟩; refine ⟨_, rfl, ?_⟩; have n0_ := am (blk_below (bq BK790.out) hb); have n1_ := am (blk_below (bq BK791.out) hb); have n2_ := am (blk_below (bq BK792.out) hb); have n3_ := am (below_step (hs HB.out) hb); clear BK790 BK791 BK792 HB; revert n0_ n1_ n2_ n3_; intro BK790 BK791 BK792 HB; (try clear hb); (try clear hb2); (try clear hgw); (try clear hk); (try clear hi)) | ((with_reducible refine gate_callee (f := 45) rfl ?_); refine goesL_ (some 18) rfl rfl Tryd.func45 (by kernel_rfl) rfl #[.pointer (some ⟨gb790, 0, none⟩), .slice A2 l2.length c2] rfl el ?_; (with_reducible refine (spec_l3Fault.calls k _ [(⟨l0_0⟩ : S26)] _ _ l2 t794 _ ?side1 ?side2 ?side3 A6.out).mono ?_); (case side1 => exact k26_box (bq BK790.out) (cq (Kd.C_below HR0_0.out HB.out)) (by exact HC0_0.out)); (case side2 => exact cq (Kd.C_below HR2.out HB.out)); (case side3 => exact HC2.out); rintro e w' ⟨rfl, ⟨nd, rfl⟩⟩; refine ⟨_, rfl, ?_⟩; (try (rw [drewN_self w18]; generalize hq_ : World.drewN w18 _ = w18; have n0_ : Aside0 (w18.heap[gb790]? = some (.cells #[.slice A0_0 l0_0.length c0_0] 26 (0, 0))) := ⟨by rw [← hq_]; exact (bq BK790.out)⟩; have n1_ : Aside0 (w18.heap[gb791]? = some (.cells #[.slice A1_0 l1_0.length c1_0, .slice A1_1 l1_1.length c1_1] 67 (0, 0))) := ⟨by rw [← hq_]; exact (bq BK791.out)⟩; have n2_ : Aside0 (w18.heap[gb792]? = some (.cells #[.int .i64 0, .slice none 0 0] 65 (0, 0))) := ⟨by rw [← hq_]; exact (bq BK792.out)⟩; have n3_ : Aside0 (Below w.heap.size w w18) := ⟨by rw [← hq_]; exact (hs HB.out)⟩; clear BK790 BK791 BK792 HB hq_; have BK790 := n0_; have BK791 := n1_; have BK792 := n2_; have HB := n3_; clear n0_ n1_ n2_ n3_))) | ((with_reducible refine gate_callee (f := 67) rfl ?_); refine goesL_ (some 24) rfl rfl Tryd.func67 (by kernel_rfl) rfl #[.pointer (some ⟨gb791, 0, none⟩), .slice A2 l2.length c2] rfl el ?_; (with_reducible refine (spec_l6Apply.calls k _ [(⟨l1_0, l1_1⟩ : S67)] _ _ l2 t795 _ ?side1 ?side2 ?side3 A8.out).mono ?_); (case side1 => exact k67_box (bq BK791.out) (cq (Kd.C_below HR1_0.out HB.out)) (by exact HC1_0.out) (cq (Kd.C_below HR1_1.out HB.out)) (by exact HC1_1.out)); (case side2 => exact cq (Kd.C_below HR2.out HB.out)); (case side3 => exact HC2.out); rintro e w19 ⟨v796, rfl, ho0, hb⟩; refine ⟨_, rfl, ?_⟩; have n0_ := am (Kd.R_lower ho0 (below_size (hs HB.out))); have n1_ := am (blk_below (bq BK790.out) hb); have n2_ := am (blk_below (bq BK791.out) hb); have n3_ := am (blk_below (bq BK792.out) hb); have n4_ := am (below_step (hs HB.out) hb); clear BK790 BK791 BK792 HB; revert n0_ n1_ n2_ n3_ n4_; intro HO797 BK790 BK791 BK792 HB; (try clear hb); (try clear hb2); (try clear hgw); (try clear hk); (try clear hi); (try clear ho0); obtain ⟨Ao20, co20, eo20⟩ := Kd.R_slice HO797.out; subst eo20; have hcz21_0 : w19.cell? ⟨gb792, 0, none⟩ = some (.int .i64 0) := (blk_cell BK792.out 0).trans rfl; have hcz21_1 : w19.cell? ⟨gb792, 1, none⟩ = some (.slice none 0 0) := (blk_cell BK792.out 1).trans rfl; have hfz21_0 := blk_frozen BK792.out 0; have hfz21_1 := blk_frozen BK792.out 1))
        refine bodyPost_ret (results_cell_row rfl _ _ gb792 65 #[.int .i64 2, .slice none 0 0] (0, 0) _ rfl (by refine bq ?_; refine blk_put (cs := #[.int .i64 2, .slice none 0 0]) ?_ 1 _ rfl; refine bq ?_; refine blk_put (cs := #[.int .i64 0, .slice none 0 0]) ?_ 0 _ rfl; refine bq ?_; exact BK792.out) Tryd.underlying65 rfl (by kernel_rfl)) rfl ?_
        exact ⟨_, by first | rfl | (simp [errW_none, errW_some] <;> rfl) | (simp [*, errW_none, errW_some] <;> rfl), by first | exact Kd.R_nil _ _ _ _ _ | exact Kd.N_nil _ _ _ _ _ | exact Kd.V_nil _ _ _ _ _ | exact Kd.Q_nil _ _ _ _ _ | exact Kd.S_nil _ _ _ _ _, by exact hs HB.out⟩
      · rw [if_neg c9] at H
        have c9b0 : decide (24 < (t795.length : Int)) = false := decide_eq_false c9
        have c9b1 : decide (24 < t795.length) = false := decide_eq_false (by omega)
        clear c9
        simp only [Option.some.injEq, Prod.mk.injEq] at H
        obtain ⟨rfl, rfl⟩ := H
        go_enter Tryd.func31, Tryd.ntmps31
        go_wp2_with (first | ((with_reducible refine gate_dst (N := 3) rfl ?_); refine box_event ?hg (N := 3) ?hd (cs := #[.slice A0_0 l0_0.length c0_0]) (t := 26) ?hr ?_; (case hd => rfl); (case hg => rfl); (case hr => first | (go_simp; done) | (go_simp; rfl)); intro gb790 hg w22 hbox hb; have n0_ := am (below_step (hq HB.out) hb); have n1_ := am (hbox); have n2_ := am (bz hg (hq HB.out)); have n3_ := n2_; clear HB; revert n0_ n1_ n2_ n3_; intro HB BK790 GW790 GE790; clear hb hbox hg) | ((with_reducible refine gate_dst (N := 4) rfl ?_); refine box_event ?hg (N := 4) ?hd (cs := #[.slice A1_0 l1_0.length c1_0, .slice A1_1 l1_1.length c1_1]) (t := 67) ?hr ?_; (case hd => rfl); (case hg => rfl); (case hr => first | (go_simp; done) | (go_simp; rfl)); intro gb791 hg w23 hbox hb; have n0_ := am (blk_below (bq BK790.out) hb); have n1_ := am (below_step (hs HB.out) hb); have n2_ := am (hbox); have n3_ := am (bz hg (hs HB.out)); have n4_ := n3_; have n5_ := am ((by rw [hg]; exact Nat.ne_of_lt (blk_lt (bq BK790.out)) : gb790 ≠ gb791)); have n6_ := am ((by rw [hg]; exact Nat.ne_of_gt (blk_lt (bq BK790.out)) : gb791 ≠ gb790)); clear BK790 HB; revert n0_ n1_ n2_ n3_ n4_ n5_ n6_; intro BK790 HB BK791 GW791 GE791 NB790_791 NB791_790; clear hb hbox hg) | ((with_reducible refine gate_dst (N := 6) rfl ?_); refine box_event ?hg (N := 6) ?hd (cs := #[.int .i64 0, .slice none 0 0]) (t := 65) ?hr ?_; (case hd => rfl); (case hg => rfl); (case hr => first | (go_simp; done) | (go_simp; rfl)); intro gb792 hg w24 hbox hb; have n0_ := am (blk_below (bq BK790.out) hb); have n1_ := am (blk_below (bq BK791.out) hb); have n2_ := am (below_step (hs HB.out) hb); have n3_ := am (hbox); have n4_ := am (bz hg (hs HB.out)); have n5_ := n4_; have n6_ := am ((by rw [hg]; exact Nat.ne_of_lt (blk_lt (bq BK790.out)) : gb790 ≠ gb792)); have n7_ := am ((by rw [hg]; exact Nat.ne_of_gt (blk_lt (bq BK790.out)) : gb792 ≠ gb790)); have n8_ := am ((by rw [hg]; exact Nat.ne_of_lt (blk_lt (bq BK791.out)) : gb791 ≠ gb792)); have n9_ := am ((by rw [hg]; exact Nat.ne_of_gt (blk_lt (bq BK791.out)) : gb792 ≠ gb791)); clear BK790 BK791 HB; revert n0_ n1_ n2_ n3_ n4_ n5_ n6_ n7_ n8_ n9_; intro BK790 BK791 HB BK792 GW792 GE792 NB790_792 NB792_790 NB791_792 NB792_791; clear hb hbox hg; have hnb25 := NB790_791.out; have hnc25 := NB791_790.out; have hnb26 := NB790_792.out; have hnc26 := NB792_790.out; have hcz27_0 : w24.cell? ⟨gb790, 0, none⟩ = some (.slice A0_0 l0_0.length c0_0) := (blk_cell BK790.out 0).trans rfl; have hfz27_0 := blk_frozen BK790.out 0; have hnb28 := NB791_792.out; have hnc28 := NB792_791.out; have hcz29_0 : w24.cell? ⟨gb791, 0, none⟩ = some (.slice A1_0 l1_0.length c1_0) := (blk_cell BK791.out 0).trans rfl; have hcz29_1 : w24.cell? ⟨gb791, 1, none⟩ = some (.slice A1_1 l1_1.length c1_1) := (blk_cell BK791.out 1).trans rfl; have hfz29_0 := blk_frozen BK791.out 0; have hfz29_1 := blk_frozen BK791.out 1) | ((with_reducible refine gate_callee (f := 66) rfl ?_); refine goesL_ (some 12) rfl rfl Tryd.func66 (by kernel_rfl) rfl #[.agg #[.slice A0_0 l0_0.length c0_0], .agg #[.slice A1_0 l1_0.length c1_0, .slice A1_1 l1_1.length c1_1]] rfl el ?_; (with_reducible refine (spec_BindingFault.calls k _ _ l0_0 _ _ l1_0 _ _ l1_1 t793 _ ?side1 ?side2 ?side3 ?side4 ?side5 ?side6 A4.out).mono ?_); (case side1 => exact cq (Kd.C_below HR0_0.out HB.out)); (case side2 => exact HC0_0.out); (case side3 => exact cq (Kd.C_below HR1_0.out HB.out)); (case side4 => exact HC1_0.out); (case side5 => exact cq (Kd.C_below HR1_1.out HB.out)); (case side6 => exact HC1_1.out); rintro e w30 ⟨rfl, hb⟩; refine ⟨_, rfl, ?_⟩; have n0_ := am (blk_below (bq BK790.out) hb); have n1_ := am (blk_below (bq BK791.out) hb); have n2_ := am (blk_below (bq BK792.out) hb); have n3_ := am (below_step (hs HB.out) hb); clear BK790 BK791 BK792 HB; revert n0_ n1_ n2_ n3_; intro BK790 BK791 BK792 HB; (try clear hb); (try clear hb2); (try clear hgw); (try clear hk); (try clear hi)) | ((with_reducible refine gate_callee (f := 45) rfl ?_); refine goesL_ (some 18) rfl rfl Tryd.func45 (by kernel_rfl) rfl #[.pointer (some ⟨gb790, 0, none⟩), .slice A2 l2.length c2] rfl el ?_; (with_reducible refine (spec_l3Fault.calls k _ [(⟨l0_0⟩ : S26)] _ _ l2 t794 _ ?side1 ?side2 ?side3 A6.out).mono ?_); (case side1 => exact k26_box (bq BK790.out) (cq (Kd.C_below HR0_0.out HB.out)) (by exact HC0_0.out)); (case side2 => exact cq (Kd.C_below HR2.out HB.out)); (case side3 => exact HC2.out); rintro e w' ⟨rfl, ⟨nd, rfl⟩⟩; refine ⟨_, rfl, ?_⟩; (try (rw [drewN_self w30]; generalize hq_ : World.drewN w30 _ = w30; have n0_ : Aside0 (w30.heap[gb790]? = some (.cells #[.slice A0_0 l0_0.length c0_0] 26 (0, 0))) := ⟨by rw [← hq_]; exact (bq BK790.out)⟩; have n1_ : Aside0 (w30.heap[gb791]? = some (.cells #[.slice A1_0 l1_0.length c1_0, .slice A1_1 l1_1.length c1_1] 67 (0, 0))) := ⟨by rw [← hq_]; exact (bq BK791.out)⟩; have n2_ : Aside0 (w30.heap[gb792]? = some (.cells #[.int .i64 0, .slice none 0 0] 65 (0, 0))) := ⟨by rw [← hq_]; exact (bq BK792.out)⟩; have n3_ : Aside0 (Below w.heap.size w w30) := ⟨by rw [← hq_]; exact (hs HB.out)⟩; clear BK790 BK791 BK792 HB hq_; have BK790 := n0_; have BK791 := n1_; have BK792 := n2_; have HB := n3_; clear n0_ n1_ n2_ n3_))) | ((with_reducible refine gate_callee (f := 67) rfl ?_); refine goesL_ (some 24) rfl rfl Tryd.func67 (by kernel_rfl) rfl #[.pointer (some ⟨gb791, 0, none⟩), .slice A2 l2.length c2] rfl el ?_; (with_reducible refine (spec_l6Apply.calls k _ [(⟨l1_0, l1_1⟩ : S67)] _ _ l2 t795 _ ?side1 ?side2 ?side3 A8.out).mono ?_); (case side1 => exact k67_box (bq BK791.out) (cq (Kd.C_below HR1_0.out HB.out)) (by exact HC1_0.out) (cq (Kd.C_below HR1_1.out HB.out)) (by exact HC1_1.out)); (case side2 => exact cq (Kd.C_below HR2.out HB.out)); (case side3 => exact HC2.out); rintro e w31 ⟨v796, rfl, ho0, hb⟩; refine ⟨_, rfl, ?_⟩; have n0_ := am (Kd.R_lower ho0 (below_size (hs HB.out))); have n1_ := am (blk_below (bq BK790.out) hb); have n2_ := am (blk_below (bq BK791.out) hb); have n3_ := am (blk_below (bq BK792.out) hb); have n4_ := am (below_step (hs HB.out) hb); clear BK790 BK791 BK792 HB; revert n0_ n1_ n2_ n3_ n4_; intro HO797 BK790 BK791 BK792 HB; (try clear hb); (try clear hb2); (try clear hgw); (try clear hk); (try clear hi); (try clear ho0); obtain ⟨Ao32, co32, eo32⟩ := Kd.R_slice HO797.out; subst eo32; have hcz33_0 : w31.cell? ⟨gb792, 0, none⟩ = some (.int .i64 0) := (blk_cell BK792.out 0).trans rfl; have hcz33_1 : w31.cell? ⟨gb792, 1, none⟩ = some (.slice none 0 0) := (blk_cell BK792.out 1).trans rfl; have hfz33_0 := blk_frozen BK792.out 0; have hfz33_1 := blk_frozen BK792.out 1))
        refine bodyPost_ret (results_cell_row rfl _ _ gb792 65 #[.int .i64 0, .slice Ao32 t795.length co32] (0, 0) _ rfl (by refine bq ?_; refine blk_put (cs := #[.int .i64 0, .slice none 0 0]) ?_ 1 _ rfl; refine bq ?_; refine blk_put (cs := #[.int .i64 0, .slice none 0 0]) ?_ 0 _ rfl; refine bq ?_; exact BK792.out) Tryd.underlying65 rfl (by kernel_rfl)) rfl ?_
        exact ⟨_, by first | rfl | (simp [errW_none, errW_some] <;> rfl) | (simp [*, errW_none, errW_some] <;> rfl), by (with_reducible repeat (first | apply Kd.R_alloc | apply Kd.R_drewN | apply Kd.R_drew)); exact Kd.R_mono (Kd.R_far (p := ⟨gb792, 1, none⟩) (Kd.R_far (p := ⟨gb792, 0, none⟩) (Kd.R_types HO797.out BK792.out (by decide)) (fun _ hk => hk.2) (.int .i64 0)) (fun _ hk => hk.2) (.slice Ao32 t795.length co32)) (fun _ hk => trivial), by exact hs HB.out⟩
    · rw [if_neg c7] at H
      have c7b0 : (t794 == 0) = false := beq_eq_false_iff_ne.mpr c7
      have c7b1 : (t794 != 0) = true := bne_iff_ne.mpr c7
      simp only [Option.some.injEq, Prod.mk.injEq] at H
      obtain ⟨rfl, rfl⟩ := H
      go_enter Tryd.func31, Tryd.ntmps31
      go_wp2_with (first | ((with_reducible refine gate_dst (N := 3) rfl ?_); refine box_event ?hg (N := 3) ?hd (cs := #[.slice A0_0 l0_0.length c0_0]) (t := 26) ?hr ?_; (case hd => rfl); (case hg => rfl); (case hr => first | (go_simp; done) | (go_simp; rfl)); intro gb790 hg w34 hbox hb; have n0_ := am (below_step (hq HB.out) hb); have n1_ := am (hbox); have n2_ := am (bz hg (hq HB.out)); have n3_ := n2_; clear HB; revert n0_ n1_ n2_ n3_; intro HB BK790 GW790 GE790; clear hb hbox hg) | ((with_reducible refine gate_dst (N := 4) rfl ?_); refine box_event ?hg (N := 4) ?hd (cs := #[.slice A1_0 l1_0.length c1_0, .slice A1_1 l1_1.length c1_1]) (t := 67) ?hr ?_; (case hd => rfl); (case hg => rfl); (case hr => first | (go_simp; done) | (go_simp; rfl)); intro gb791 hg w35 hbox hb; have n0_ := am (blk_below (bq BK790.out) hb); have n1_ := am (below_step (hs HB.out) hb); have n2_ := am (hbox); have n3_ := am (bz hg (hs HB.out)); have n4_ := n3_; have n5_ := am ((by rw [hg]; exact Nat.ne_of_lt (blk_lt (bq BK790.out)) : gb790 ≠ gb791)); have n6_ := am ((by rw [hg]; exact Nat.ne_of_gt (blk_lt (bq BK790.out)) : gb791 ≠ gb790)); clear BK790 HB; revert n0_ n1_ n2_ n3_ n4_ n5_ n6_; intro BK790 HB BK791 GW791 GE791 NB790_791 NB791_790; clear hb hbox hg) | ((with_reducible refine gate_dst (N := 6) rfl ?_); refine box_event ?hg (N := 6) ?hd (cs := #[.int .i64 0, .slice none 0 0]) (t := 65) ?hr ?_; (case hd => rfl); (case hg => rfl); (case hr => first | (go_simp; done) | (go_simp; rfl)); intro gb792 hg w36 hbox hb; have n0_ := am (blk_below (bq BK790.out) hb); have n1_ := am (blk_below (bq BK791.out) hb); have n2_ := am (below_step (hs HB.out) hb); have n3_ := am (hbox); have n4_ := am (bz hg (hs HB.out)); have n5_ := n4_; have n6_ := am ((by rw [hg]; exact Nat.ne_of_lt (blk_lt (bq BK790.out)) : gb790 ≠ gb792)); have n7_ := am ((by rw [hg]; exact Nat.ne_of_gt (blk_lt (bq BK790.out)) : gb792 ≠ gb790)); have n8_ := am ((by rw [hg]; exact Nat.ne_of_lt (blk_lt (bq BK791.out)) : gb791 ≠ gb792)); have n9_ := am ((by rw [hg]; exact Nat.ne_of_gt (blk_lt (bq BK791.out)) : gb792 ≠ gb791)); clear BK790 BK791 HB; revert n0_ n1_ n2_ n3_ n4_ n5_ n6_ n7_ n8_ n9_; intro BK790 BK791 HB BK792 GW792 GE792 NB790_792 NB792_790 NB791_792 NB792_791; clear hb hbox hg; have hnb37 := NB790_791.out; have hnc37 := NB791_790.out; have hnb38 := NB790_792.out; have hnc38 := NB792_790.out; have hcz39_0 : w36.cell? ⟨gb790, 0, none⟩ = some (.slice A0_0 l0_0.length c0_0) := (blk_cell BK790.out 0).trans rfl; have hfz39_0 := blk_frozen BK790.out 0; have hnb40 := NB791_792.out; have hnc40 := NB792_791.out; have hcz41_0 : w36.cell? ⟨gb791, 0, none⟩ = some (.slice A1_0 l1_0.length c1_0) := (blk_cell BK791.out 0).trans rfl; have hcz41_1 : w36.cell? ⟨gb791, 1, none⟩ = some (.slice A1_1 l1_1.length c1_1) := (blk_cell BK791.out 1).trans rfl; have hfz41_0 := blk_frozen BK791.out 0; have hfz41_1 := blk_frozen BK791.out 1) | ((with_reducible refine gate_callee (f := 66) rfl ?_); refine goesL_ (some 12) rfl rfl Tryd.func66 (by kernel_rfl) rfl #[.agg #[.slice A0_0 l0_0.length c0_0], .agg #[.slice A1_0 l1_0.length c1_0, .slice A1_1 l1_1.length c1_1]] rfl el ?_; (with_reducible refine (spec_BindingFault.calls k _ _ l0_0 _ _ l1_0 _ _ l1_1 t793 _ ?side1 ?side2 ?side3 ?side4 ?side5 ?side6 A4.out).mono ?_); (case side1 => exact cq (Kd.C_below HR0_0.out HB.out)); (case side2 => exact HC0_0.out); (case side3 => exact cq (Kd.C_below HR1_0.out HB.out)); (case side4 => exact HC1_0.out); (case side5 => exact cq (Kd.C_below HR1_1.out HB.out)); (case side6 => exact HC1_1.out); rintro e w42 ⟨rfl, hb⟩; refine ⟨_, rfl, ?_⟩; have n0_ := am (blk_below (bq BK790.out) hb); have n1_ := am (blk_below (bq BK791.out) hb); have n2_ := am (blk_below (bq BK792.out) hb); have n3_ := am (below_step (hs HB.out) hb); clear BK790 BK791 BK792 HB; revert n0_ n1_ n2_ n3_; intro BK790 BK791 BK792 HB; (try clear hb); (try clear hb2); (try clear hgw); (try clear hk); (try clear hi)) | ((with_reducible refine gate_callee (f := 45) rfl ?_); refine goesL_ (some 18) rfl rfl Tryd.func45 (by kernel_rfl) rfl #[.pointer (some ⟨gb790, 0, none⟩), .slice A2 l2.length c2] rfl el ?_; (with_reducible refine (spec_l3Fault.calls k _ [(⟨l0_0⟩ : S26)] _ _ l2 t794 _ ?side1 ?side2 ?side3 A6.out).mono ?_); (case side1 => exact k26_box (bq BK790.out) (cq (Kd.C_below HR0_0.out HB.out)) (by exact HC0_0.out)); (case side2 => exact cq (Kd.C_below HR2.out HB.out)); (case side3 => exact HC2.out); rintro e w' ⟨rfl, ⟨nd, rfl⟩⟩; refine ⟨_, rfl, ?_⟩; (try (rw [drewN_self w42]; generalize hq_ : World.drewN w42 _ = w42; have n0_ : Aside0 (w42.heap[gb790]? = some (.cells #[.slice A0_0 l0_0.length c0_0] 26 (0, 0))) := ⟨by rw [← hq_]; exact (bq BK790.out)⟩; have n1_ : Aside0 (w42.heap[gb791]? = some (.cells #[.slice A1_0 l1_0.length c1_0, .slice A1_1 l1_1.length c1_1] 67 (0, 0))) := ⟨by rw [← hq_]; exact (bq BK791.out)⟩; have n2_ : Aside0 (w42.heap[gb792]? = some (.cells #[.int .i64 0, .slice none 0 0] 65 (0, 0))) := ⟨by rw [← hq_]; exact (bq BK792.out)⟩; have n3_ : Aside0 (Below w.heap.size w w42) := ⟨by rw [← hq_]; exact (hs HB.out)⟩; clear BK790 BK791 BK792 HB hq_; have BK790 := n0_; have BK791 := n1_; have BK792 := n2_; have HB := n3_; clear n0_ n1_ n2_ n3_)); have hcz43_0 : w42.cell? ⟨gb792, 0, none⟩ = some (.int .i64 0) := (blk_cell BK792.out 0).trans rfl; have hcz43_1 : w42.cell? ⟨gb792, 1, none⟩ = some (.slice none 0 0) := (blk_cell BK792.out 1).trans rfl; have hfz43_0 := blk_frozen BK792.out 0; have hfz43_1 := blk_frozen BK792.out 1))
      refine bodyPost_ret (results_cell_row rfl _ _ gb792 65 #[.int .i64 t794, .slice none 0 0] (0, 0) _ rfl (by refine bq ?_; refine blk_put (cs := #[.int .i64 t794, .slice none 0 0]) ?_ 1 _ rfl; refine bq ?_; refine blk_put (cs := #[.int .i64 0, .slice none 0 0]) ?_ 0 _ rfl; refine bq ?_; exact BK792.out) Tryd.underlying65 rfl (by kernel_rfl)) rfl ?_
      exact ⟨_, by first | rfl | (simp [errW_none, errW_some] <;> rfl) | (simp [*, errW_none, errW_some] <;> rfl), by first | exact Kd.R_nil _ _ _ _ _ | exact Kd.N_nil _ _ _ _ _ | exact Kd.V_nil _ _ _ _ _ | exact Kd.Q_nil _ _ _ _ _ | exact Kd.S_nil _ _ _ _ _, by exact hs HB.out⟩
  · rw [if_neg c5] at H
    have c5b0 : (t793 == 0) = false := beq_eq_false_iff_ne.mpr c5
    have c5b1 : (t793 != 0) = true := bne_iff_ne.mpr c5
    simp only [Option.some.injEq, Prod.mk.injEq] at H
    obtain ⟨rfl, rfl⟩ := H
    go_enter Tryd.func31, Tryd.ntmps31
    go_wp2_with (first | ((with_reducible refine gate_dst (N := 3) rfl ?_); refine box_event ?hg (N := 3) ?hd (cs := #[.slice A0_0 l0_0.length c0_0]) (t := 26) ?hr ?_; (case hd => rfl); (case hg => rfl); (case hr => first | (go_simp; done) | (go_simp; rfl)); intro gb790 hg w44 hbox hb; have n0_ := am (below_step (hq HB.out) hb); have n1_ := am (hbox); have n2_ := am (bz hg (hq HB.out)); have n3_ := n2_; clear HB; revert n0_ n1_ n2_ n3_; intro HB BK790 GW790 GE790; clear hb hbox hg) | ((with_reducible refine gate_dst (N := 4) rfl ?_); refine box_event ?hg (N := 4) ?hd (cs := #[.slice A1_0 l1_0.length c1_0, .slice A1_1 l1_1.length c1_1]) (t := 67) ?hr ?_; (case hd => rfl); (case hg => rfl); (case hr => first | (go_simp; done) | (go_simp; rfl)); intro gb791 hg w45 hbox hb; have n0_ := am (blk_below (bq BK790.out) hb); have n1_ := am (below_step (hs HB.out) hb); have n2_ := am (hbox); have n3_ := am (bz hg (hs HB.out)); have n4_ := n3_; have n5_ := am ((by rw [hg]; exact Nat.ne_of_lt (blk_lt (bq BK790.out)) : gb790 ≠ gb791)); have n6_ := am ((by rw [hg]; exact Nat.ne_of_gt (blk_lt (bq BK790.out)) : gb791 ≠ gb790)); clear BK790 HB; revert n0_ n1_ n2_ n3_ n4_ n5_ n6_; intro BK790 HB BK791 GW791 GE791 NB790_791 NB791_790; clear hb hbox hg) | ((with_reducible refine gate_dst (N := 6) rfl ?_); refine box_event ?hg (N := 6) ?hd (cs := #[.int .i64 0, .slice none 0 0]) (t := 65) ?hr ?_; (case hd => rfl); (case hg => rfl); (case hr => first | (go_simp; done) | (go_simp; rfl)); intro gb792 hg w46 hbox hb; have n0_ := am (blk_below (bq BK790.out) hb); have n1_ := am (blk_below (bq BK791.out) hb); have n2_ := am (below_step (hs HB.out) hb); have n3_ := am (hbox); have n4_ := am (bz hg (hs HB.out)); have n5_ := n4_; have n6_ := am ((by rw [hg]; exact Nat.ne_of_lt (blk_lt (bq BK790.out)) : gb790 ≠ gb792)); have n7_ := am ((by rw [hg]; exact Nat.ne_of_gt (blk_lt (bq BK790.out)) : gb792 ≠ gb790)); have n8_ := am ((by rw [hg]; exact Nat.ne_of_lt (blk_lt (bq BK791.out)) : gb791 ≠ gb792)); have n9_ := am ((by rw [hg]; exact Nat.ne_of_gt (blk_lt (bq BK791.out)) : gb792 ≠ gb791)); clear BK790 BK791 HB; revert n0_ n1_ n2_ n3_ n4_ n5_ n6_ n7_ n8_ n9_; intro BK790 BK791 HB BK792 GW792 GE792 NB790_792 NB792_790 NB791_792 NB792_791; clear hb hbox hg; have hnb47 := NB790_791.out; have hnc47 := NB791_790.out; have hnb48 := NB790_792.out; have hnc48 := NB792_790.out; have hcz49_0 : w46.cell? ⟨gb790, 0, none⟩ = some (.slice A0_0 l0_0.length c0_0) := (blk_cell BK790.out 0).trans rfl; have hfz49_0 := blk_frozen BK790.out 0; have hnb50 := NB791_792.out; have hnc50 := NB792_791.out; have hcz51_0 : w46.cell? ⟨gb791, 0, none⟩ = some (.slice A1_0 l1_0.length c1_0) := (blk_cell BK791.out 0).trans rfl; have hcz51_1 : w46.cell? ⟨gb791, 1, none⟩ = some (.slice A1_1 l1_1.length c1_1) := (blk_cell BK791.out 1).trans rfl; have hfz51_0 := blk_frozen BK791.out 0; have hfz51_1 := blk_frozen BK791.out 1) | ((with_reducible refine gate_callee (f := 66) rfl ?_); refine goesL_ (some 12) rfl rfl Tryd.func66 (by kernel_rfl) rfl #[.agg #[.slice A0_0 l0_0.length c0_0], .agg #[.slice A1_0 l1_0.length c1_0, .slice A1_1 l1_1.length c1_1]] rfl el ?_; (with_reducible refine (spec_BindingFault.calls k _ _ l0_0 _ _ l1_0 _ _ l1_1 t793 _ ?side1 ?side2 ?side3 ?side4 ?side5 ?side6 A4.out).mono ?_); (case side1 => exact cq (Kd.C_below HR0_0.out HB.out)); (case side2 => exact HC0_0.out); (case side3 => exact cq (Kd.C_below HR1_0.out HB.out)); (case side4 => exact HC1_0.out); (case side5 => exact cq (Kd.C_below HR1_1.out HB.out)); (case side6 => exact HC1_1.out); rintro e w52 ⟨rfl, hb⟩; refine ⟨_, rfl, ?_⟩; have n0_ := am (blk_below (bq BK790.out) hb); have n1_ := am (blk_below (bq BK791.out) hb); have n2_ := am (blk_below (bq BK792.out) hb); have n3_ := am (below_step (hs HB.out) hb); clear BK790 BK791 BK792 HB; revert n0_ n1_ n2_ n3_; intro BK790 BK791 BK792 HB; (try clear hb); (try clear hb2); (try clear hgw); (try clear hk); (try clear hi); have hcz53_0 : w52.cell? ⟨gb792, 0, none⟩ = some (.int .i64 0) := (blk_cell BK792.out 0).trans rfl; have hcz53_1 : w52.cell? ⟨gb792, 1, none⟩ = some (.slice none 0 0) := (blk_cell BK792.out 1).trans rfl; have hfz53_0 := blk_frozen BK792.out 0; have hfz53_1 := blk_frozen BK792.out 1))
    refine bodyPost_ret (results_cell_row rfl _ _ gb792 65 #[.int .i64 t793, .slice none 0 0] (0, 0) _ rfl (by refine bq ?_; refine blk_put (cs := #[.int .i64 t793, .slice none 0 0]) ?_ 1 _ rfl; refine bq ?_; refine blk_put (cs := #[.int .i64 0, .slice none 0 0]) ?_ 0 _ rfl; refine bq ?_; exact BK792.out) Tryd.underlying65 rfl (by kernel_rfl)) rfl ?_
    exact ⟨_, by first | rfl | (simp [errW_none, errW_some] <;> rfl) | (simp [*, errW_none, errW_some] <;> rfl), by first | exact Kd.R_nil _ _ _ _ _ | exact Kd.N_nil _ _ _ _ _ | exact Kd.V_nil _ _ _ _ _ | exact Kd.Q_nil _ _ _ _ _ | exact Kd.S_nil _ _ _ _ _, by exact hs HB.out⟩
def laws_toInt64SS.l0 : Nat → List (List Int) → List (List Int) → Int → Option ((List (List Int)))
  | 0, _, _, _ => none
  | k + 1, x0, x3, x4 => if x4 < (x0.length : Int) then (if 0 ≤ x4 then ((laws_toInt64S.f k (rd_L6 x0 x4)).bind fun t802 => (if x4 < (x3.length : Int) then (laws_toInt64SS.l0 k x0 (x3.set (x4 : Int).toNat t802) (wrap64 (x4 + 1))) else (none))) else (none)) else (some x3)
def laws_toInt64SS.f (k : Nat) (l0 : List (List Int)) : Option ((List (List Int))) := if 0 ≤ (l0.length : Int) then (if ((l0.length : Int) : Int).toNat ≤ 11728124029610 then (laws_toInt64SS.l0 k l0 (List.replicate ((l0.length : Int) : Int).toNat []) 0) else (none)) else (none)
set_option maxHeartbeats 8000000 in
set_option maxRecDepth 100000 in
theorem laws_toInt64SS.calls (k : Nat) (A0 : Option Addr) (c0 : Nat) (l0 : List (List Int)) (r : List (List Int)) (w : World) (hr0 : Kd.C (Kd.slice 2 (Kd.int .i64)) w A0 l0.length l0) (hc0 : l0.length ≤ c0) (h : laws_toInt64SS.f k l0 = some r) :
    Calls Tryd.prog 68 #[.slice A0 l0.length c0] w fun e w' => ∃ v0_ : Value, e = .returned (v0_) ∧ Kd.S (Kd.slice 2 (Kd.int .i64)) 27 w' w.heap.size (fun _ => True) v0_ r ∧ Below w.heap.size w w' := by
  have HR0 := am hr0
  have HC0 := am hc0
  clear hr0 hc0
  have HB := am (Below.refl w.heap.size w)
  have H : (if 0 ≤ (l0.length : Int) then (if ((l0.length : Int) : Int).toNat ≤ 11728124029610 then (laws_toInt64SS.l0 k l0 (List.replicate ((l0.length : Int) : Int).toNat []) 0) else (none)) else (none)) = some r := h
  clear h
  by_cases c2 : 0 ≤ (l0.length : Int)
  · rw [if_pos c2] at H
    have c2b0 := eq_true c2
    have c2b1 : decide (0 ≤ (l0.length : Int)) = true := decide_eq_true c2
    clear c2
    by_cases c3 : ((l0.length : Int) : Int).toNat ≤ 11728124029610
    · rw [if_pos c3] at H
      have c3b0 := eq_true c3
      have c3b1 : decide (((l0.length : Int) : Int).toNat ≤ 11728124029610) = true := decide_eq_true c3
      clear c3
      obtain ⟨y798, hy798⟩ : ∃ y_ : List (List Int), y_ = (List.replicate ((l0.length : Int) : Int).toNat []) := ⟨_, rfl⟩
      replace H : (laws_toInt64SS.l0 k l0 y798 0) = some r := by first | (rw [hy798]; with_reducible exact H) | (have H2_ := (Option.bind_some _ _).symm.trans H; rw [hy798]; with_reducible exact H2_) | (have H2_ := (Option.bind_some _ _).symm.trans H; with_reducible exact H2_) | with_reducible exact H | (rw [hy798]; exact H) | exact H
      have Ny798 := am hy798
      clear hy798
      have H' := am H
      clear H
      go_enter Tryd.func68, Tryd.ntmps68
      go_wp2_with (first | ((with_reducible refine gate_dst (N := 7) rfl ?_); refine Kd.S_make (Kd.slice 2 (Kd.int .i64)) _ 27 rfl (N := 7) rfl 60 _ _ rfl (l0.length : Int) rfl rfl Tryd.underlying60 (.slice none 0 0) 24 info27 rfl (by decide) (by omega) [] (ok := fun _ => True) (okp := fun _ => True) ⟨_, rfl, Kd.R_nil _ _ _ _ _⟩ (fun _ hk => hk) trivial (of_decide_eq_true (by first | (with_reducible assumption) | assumption)) (Nat.le_trans (Nat.mul_le_mul_right _ (of_decide_eq_true (by first | (with_reducible assumption) | assumption) : (l0.length : Int).toNat ≤ 11728124029610)) (by omega)) (Below.refl _ _) (Nat.le_refl _) ?_; intro v799 w4 ho5 hb hg_ hnew_; clear hg_ hnew_; (first | rw [← Ny798.out] at ho5 | (simp only [Int.reduceToNat] at ho5; rw [← Ny798.out] at ho5)); have n0_ := am (Kd.S_lower ho5 (below_size (hq HB.out))); have n1_ := am (below_step (hq HB.out) hb); clear HB; revert n0_ n1_; intro HO800 HB; clear hb ho5))
      go_loopg [4] k (fun kq v4 w' => ∃ (x3_1 : List (List Int)) (x4_1 : Int), v4 = .int .i64 x4_1 ∧ Aside0 (laws_toInt64SS.l0 kq l0 x3_1 x4_1 = some r) ∧ Aside0 (kq ≤ k) ∧ Aside0 (Kd.S (Kd.slice 2 (Kd.int .i64)) 27 w' w.heap.size (fun _ => True) v799 x3_1) ∧ Aside0 (Below w.heap.size w w'))
      case atStart => exact ⟨(y798), (0), (by first | rfl | (simp; done) | (simp [*]; done)), H', ⟨Nat.le_refl _⟩, ⟨by (with_reducible repeat (first | apply Kd.S_alloc | apply Kd.S_drewN | apply Kd.S_drew)); exact HO800.out⟩, ⟨by exact hq HB.out⟩⟩
      case round =>
        clear H'
        try clear c2; try clear c2b0; try clear c2b1; try clear p2; try clear c3; try clear c3b0; try clear c3b1
        obtain ⟨x3_1, x4_1, rfl, HA, HK1, HO_3, HB⟩ := hrel
        cases gk with
        | zero => exact absurd HA.out (by simp [laws_toInt64SS.l0])
        | succ k1 =>
          have H := HA.out
          clear HA
          simp only [laws_toInt64SS.l0] at H
          by_cases c6 : x4_1 < (l0.length : Int)
          · rw [if_pos c6] at H
            have c6b0 : decide (x4_1 < (l0.length : Int)) = true := decide_eq_true c6
            clear c6
            by_cases c7 : 0 ≤ x4_1
            · rw [if_pos c7] at H
              have c7b0 : decide (0 ≤ x4_1) = true := decide_eq_true c7
              clear c7
              replace H := Option.bind_eq_some_iff.mp H
              obtain ⟨t802, A80, H⟩ := H
              replace H : (if x4_1 < (x3_1.length : Int) then (laws_toInt64SS.l0 k1 l0 (x3_1.set (x4_1 : Int).toNat t802) (wrap64 (x4_1 + 1))) else (none)) = some r := H
              have A8 := am A80
              clear A80
              by_cases c9 : x4_1 < (x3_1.length : Int)
              · rw [if_pos c9] at H
                have c9b0 : decide (x4_1 < (x3_1.length : Int)) = true := decide_eq_true c9
                clear c9
                obtain ⟨y805, hy805⟩ : ∃ y_ : List (List Int), y_ = (x3_1.set (x4_1 : Int).toNat t802) := ⟨_, rfl⟩
                replace H : (laws_toInt64SS.l0 k1 l0 y805 (wrap64 (x4_1 + 1))) = some r := by first | (rw [hy805]; with_reducible exact H) | (have H2_ := (Option.bind_some _ _).symm.trans H; rw [hy805]; with_reducible exact H2_) | (have H2_ := (Option.bind_some _ _).symm.trans H; with_reducible exact H2_) | with_reducible exact H | (rw [hy805]; exact H) | exact H
                have Ny805 := am hy805
                clear hy805
                have H' := am H
                clear H
                have p801 : 0 ≤ (x4_1 : Int) := of_decide_eq_true (by first | (with_reducible assumption) | assumption)
                have q801 : x4_1 < (l0.length : Int) := of_decide_eq_true (by first | (with_reducible assumption) | assumption)
                obtain ⟨ad801, A801_0, c801_0, e801, hx801_0, hl801_0, hi801_0⟩ := at_L6 HR0.out x4_1 p801 q801
                cases e801
                replace hx801_0 := (HB.out.cell (World.block_lt_of_cell? w _ hx801_0)).trans hx801_0
                have HR801_0 := am hi801_0
                have HC801_0 := am hl801_0
                clear hi801_0 hl801_0
                replace p801 := eq_true p801
                replace q801 := eq_true q801
                go_wp2_with (first | ((with_reducible refine gate_callee (f := 33) rfl ?_); refine goesL_ (some 20) rfl rfl Tryd.func33 (by kernel_rfl) rfl #[.slice A801_0 (rd_L6 l0 x4_1).length c801_0] rfl el ?_; (with_reducible refine (laws_toInt64S.calls k1 _ _ (rd_L6 l0 x4_1) t802 _ ?side1 ?side2 A8.out).mono ?_); (case side1 => exact cq (Kd.C_below HR801_0.out HB.out)); (case side2 => exact HC801_0.out); rintro e w11 ⟨v803, rfl, ho0, hb⟩; refine ⟨_, rfl, ?_⟩; have n0_ := am (Kd.S_elder' (by (with_reducible repeat (first | apply Kd.S_alloc | apply Kd.S_drewN | apply Kd.S_drew)); exact HO_3.out) (Kd.R_base ho0) hb); have n1_ := am (Kd.R_lower ho0 (below_size (hq HB.out))); have n2_ := am (below_step (hq HB.out) hb); clear HO_3 HB; revert n0_ n1_ n2_; intro HO_3 HO804 HB; (try clear hb); (try clear hb2); (try clear hgw); (try clear hk); (try clear hi); (try clear ho0); have p10 : 0 ≤ (x4_1 : Int) := of_decide_eq_true (by first | (with_reducible assumption) | assumption); have q10 : (x4_1 : Int) < ((x3_1.length : Int) : Int) := of_decide_eq_true (by first | (with_reducible assumption) | assumption); obtain ⟨go10, co10, eo10, gb10, gl10, cl10, HG10⟩ := Kd.S_form HO_3.out (by omega); (first | cases eo10 | (injection eo10 with ea_ en_ ec_; (first | subst ea_ | (injection ea_ with ea_; subst ea_)); subst ec_; clear en_)); have GB10 := am gb10; have GG10 := am HG10; clear gb10 gl10 HG10; obtain ⟨_, ce10, hcl10, hM10, hcc10, hfr10, _, _⟩ := Kd.S_elem HO_3.out [] (x4_1 : Int) p10 q10; obtain ⟨ve10_0, rfl, ge10_0⟩ := hM10; have hx10_0 := hcc10 0 _ rfl; have hf10_0 := hfr10 0; (try simp only [show ((Kd.slice 2 (Kd.int .i64))).sz = 1 from rfl, Nat.mul_one, Nat.add_zero] at hx10_0); (try simp only [show ((Kd.slice 2 (Kd.int .i64))).sz = 1 from rfl, Nat.mul_one, Nat.add_zero] at hf10_0); clear hcl10 hcc10 hfr10; (try clear hM10); replace p10 := eq_true p10; replace q10 := eq_true q10; have n_ := am (Kd.S_mono (ok' := (fun k_ => some k_ ≠ (v803 : Value).ownBlock)) HO_3.out (fun k_ hk => hk.2)); clear HO_3; have HO_3 := n_; clear n_; have HX12 := am (show Kd.S (Kd.slice 2 (Kd.int .i64)) 27 w11 w.heap.size (fun k_ => ((fun _ => True)) k_ ∧ ¬ ((fun k_ => some k_ = (v803 : Value).ownBlock)) k_) (.slice (some ⟨go10, 0, none⟩) x3_1.length co10) x3_1 from (by (with_reducible repeat (first | apply Kd.S_alloc | apply Kd.S_drewN | apply Kd.S_drew)); exact Kd.S_mono HO_3.out (fun k_ hk => ⟨trivial, fun e_ => hk e_⟩))); obtain ⟨oki12, ce12, hcl12, hM12, hcc12, hfr12, hoki12, hH12⟩ := Kd.S_elem HX12.out [] (x4_1 : Int) (of_decide_eq_true (by first | (with_reducible assumption) | assumption)) (by have h_ : (x4_1 : Int) < ((x3_1.length : Int) : Int) := of_decide_eq_true (by first | (with_reducible assumption) | assumption); first | exact h_ | (have e_ := (Kd.S_reads' HO_3.out).1; omega) | simpa using h_); obtain ⟨ve12_0, rfl, ge12_0⟩ := hM12; have HP12 := Kd.S_seg hH12 (of_decide_eq_true (by first | (with_reducible assumption) | assumption)) (by have h_ : (x4_1 : Int) < ((x3_1.length : Int) : Int) := of_decide_eq_true (by first | (with_reducible assumption) | assumption); first | exact h_ | (have e_ := (Kd.S_reads' HO_3.out).1; omega) | simpa using h_) (seg := [v803]) (j := 0) (show 1 ≤ 1 from by decide) (x' := t802) (Kd.M_row (Kd.R_mono (Kd.R_tight rfl (Kd.R_mono (ok' := fun k_ => ((fun _ => True)) k_ ∧ k_ ≠ go10) (Kd.R_apart' (HO804.out) (Kd.S_typed HO_3.out) (by decide)) (fun k_ hk => ⟨trivial, fun e_ => (hk.2) (by rw [e_]; rfl)⟩))) (fun _ h_ => Or.inr (h_)))) (fun _ hk => hk) (fun k_ hk_ => ((Kd.R_mono (ok' := fun k_ => ((fun _ => True)) k_ ∧ k_ ≠ go10) (Kd.R_apart' (HO804.out) (Kd.S_typed HO_3.out) (by decide)) (fun k_ hk => ⟨trivial, fun e_ => (hk.2) (by rw [e_]; rfl)⟩))).1 k_ hk_.symm); have hx12_0 := hcc12 0 _ rfl; (try simp only [show ((Kd.slice 2 (Kd.int .i64))).sz = 1 from rfl, Nat.mul_one, Nat.add_zero] at hx12_0); have hf12_0 := hfr12 0; (try simp only [show ((Kd.slice 2 (Kd.int .i64))).sz = 1 from rfl, Nat.mul_one, Nat.add_zero] at hf12_0); clear hcl12 hcc12 hfr12 hoki12 hH12; (try clear hM12); (try simp only [show ((Kd.slice 2 (Kd.int .i64))).sz = 1 from rfl, Nat.mul_one, Nat.add_zero] at HP12)) | ((with_reducible refine gate_store (t := 27) (p := 21) rfl ?_); refine store_event (t := 27) (p := 21) (v := ?vo_w13) (w1 := (w11.setCell ⟨go10, (x4_1 : Int).toNat, none⟩ (v803))) ?hg ?ho ?hn ?hr ?_; (case ho => rfl); (case hg => rfl); (case hn => rfl); (case hr => first | (go_simp; done) | (go_simp; rfl) | ((obtain ⟨_, _, e_⟩ : ∃ A_ c_, (v803 : Value) = .slice A_ _ c_ := (by first | exact Kd.R_slice HO804.out | exact Kd.R_slice HO_3.out)); subst e_; go_simp; first | done | rfl)); intro w13 hw; have hg : w11.grownBy w13 (some go10) := (by rw [hw]; exact HP12.2); have hp_ : Kd.S (Kd.slice 2 (Kd.int .i64)) 27 w13 w.heap.size (fun _ => True) (.slice (some ⟨go10, 0, none⟩) x3_1.length co10) y805 := (by rw [hw, Ny805.out]; exact HP12.1); clear HP12; have n0_ := am (hp_); have n1_ := am ((by rw [hw]; exact below_set (HB.out) GB10.out : Below w.heap.size w w13)); clear HO_3 HB HO804; revert n0_ n1_; intro HO_3 HB; clear hg hw hp_))
                go_roundg k1
                case measure => have := HK1.out; omega
                case rel => exact ⟨(y805), (wrap64 (x4_1 + 1)), (by first | rfl | (simp; done) | (simp [*]; done)), H', ⟨by have := HK1.out; omega⟩, ⟨by (with_reducible repeat (first | apply Kd.S_alloc | apply Kd.S_drewN | apply Kd.S_drew)); exact HO_3.out⟩, ⟨by exact hq HB.out⟩⟩
              · rw [if_neg c9] at H
                exact absurd H (by simp)
            · rw [if_neg c7] at H
              exact absurd H (by simp)
          · rw [if_neg c6] at H
            have c6b0 : decide (x4_1 < (l0.length : Int)) = false := decide_eq_false c6
            clear c6
            obtain rfl := Option.some.inj H
            go_wp2
            go_ret
            exact ⟨_, by first | rfl | (simp [errW_none, errW_some] <;> rfl) | (simp [*, errW_none, errW_some] <;> rfl), by (with_reducible repeat (first | apply Kd.S_alloc | apply Kd.S_drewN | apply Kd.S_drew)); exact HO_3.out, by exact hq HB.out⟩
    · rw [if_neg c3] at H
      exact absurd H (by simp)
  · rw [if_neg c2] at H
    exact absurd H (by simp)
def laws_toBinding.f (k : Nat) (l0_0 : List Int) (l0_1 : List (List Int)) : Option (List Int × (List (List Int))) := (laws_toInt64S.f k l0_0).bind fun t809 => ((laws_toInt64SS.f k l0_1).bind fun t812 => (some (t809, t812)))
set_option maxHeartbeats 8000000 in
set_option maxRecDepth 100000 in
theorem laws_toBinding.calls (k : Nat) (A0_0 : Option Addr) (c0_0 : Nat) (l0_0 : List Int) (A0_1 : Option Addr) (c0_1 : Nat) (l0_1 : List (List Int)) (r1 : List Int) (r2 : List (List Int)) (w : World) (hr0_0 : Kd.C (Kd.int .i64) w A0_0 l0_0.length l0_0) (hc0_0 : l0_0.length ≤ c0_0) (hr0_1 : Kd.C (Kd.slice 2 (Kd.int .i64)) w A0_1 l0_1.length l0_1) (hc0_1 : l0_1.length ≤ c0_1) (h : laws_toBinding.f k l0_0 l0_1 = some (r1, r2)) :
    Calls Tryd.prog 32 #[.agg #[.slice A0_0 l0_0.length c0_0, .slice A0_1 l0_1.length c0_1]] w fun e w' => ∃ v0_ v1_ : Value, e = .returned (.agg #[v0_, v1_]) ∧ Kd.R (Kd.int .i64) 2 w' w.heap.size (fun _ => True) v0_ r1 ∧ Kd.S (Kd.slice 2 (Kd.int .i64)) 27 w' w.heap.size (fun k_ => some k_ ≠ (v0_ : Value).ownBlock) v1_ r2 ∧ Below w.heap.size w w' := by
  have hu62 := Tryd.underlying62
  have hu67 := Tryd.underlying67
  have HR0_0 := am hr0_0
  have HC0_0 := am hc0_0
  clear hr0_0 hc0_0
  have HR0_1 := am hr0_1
  have HC0_1 := am hc0_1
  clear hr0_1 hc0_1
  have HB := am (Below.refl w.heap.size w)
  have H : ((laws_toInt64S.f k l0_0).bind fun t809 => ((laws_toInt64SS.f k l0_1).bind fun t812 => (some (t809, t812)))) = some (r1, r2) := h
  clear h
  replace H := Option.bind_eq_some_iff.mp H
  obtain ⟨t809, A20, H⟩ := H
  replace H : ((laws_toInt64SS.f k l0_1).bind fun t812 => (some (t809, t812))) = some (r1, r2) := H
  have A2 := am A20
  clear A20
  replace H := Option.bind_eq_some_iff.mp H
  obtain ⟨t812, A30, H⟩ := H
  replace H : (some (t809, t812)) = some (r1, r2) := H
  have A3 := am A30
  clear A30
  simp only [Option.some.injEq, Prod.mk.injEq] at H
  obtain ⟨rfl, rfl⟩ := H
  go_enter Tryd.func32, Tryd.ntmps32
  go_wp2_with (first | ((with_reducible refine gate_dst (N := 1) rfl ?_); refine box_event ?hg (N := 1) ?hd (cs := #[.slice A0_0 l0_0.length c0_0, .slice A0_1 l0_1.length c0_1]) (t := 62) ?hr ?_; (case hd => rfl); (case hg => rfl); (case hr => first | (go_simp; done) | (go_simp; rfl)); intro gb806 hg w4 hbox hb; have n0_ := am (below_step (hq HB.out) hb); have n1_ := am (hbox); have n2_ := am (bz hg (hq HB.out)); have n3_ := n2_; clear HB; revert n0_ n1_ n2_ n3_; intro HB BK806 GW806 GE806; clear hb hbox hg) | ((with_reducible refine gate_dst (N := 2) rfl ?_); refine box_event ?hg (N := 2) ?hd (cs := #[.slice none 0 0, .slice none 0 0]) (t := 67) ?hr ?_; (case hd => rfl); (case hg => rfl); (case hr => first | (go_simp; done) | (go_simp; rfl)); intro gb807 hg w5 hbox hb; have n0_ := am (blk_below (bq BK806.out) hb); have n1_ := am (below_step (hs HB.out) hb); have n2_ := am (hbox); have n3_ := am (bz hg (hs HB.out)); have n4_ := n3_; have n5_ := am ((by rw [hg]; exact Nat.ne_of_lt (blk_lt (bq BK806.out)) : gb806 ≠ gb807)); have n6_ := am ((by rw [hg]; exact Nat.ne_of_gt (blk_lt (bq BK806.out)) : gb807 ≠ gb806)); clear BK806 HB; revert n0_ n1_ n2_ n3_ n4_ n5_ n6_; intro BK806 HB BK807 GW807 GE807 NB806_807 NB807_806; clear hb hbox hg) | ((with_reducible refine gate_dst (N := 3) rfl ?_); refine box_event ?hg (N := 3) ?hd (cs := #[.slice none 0 0, .slice none 0 0]) (t := 67) ?hr ?_; (case hd => rfl); (case hg => rfl); (case hr => first | (go_simp; done) | (go_simp; rfl)); intro gb808 hg w6 hbox hb; have n0_ := am (blk_below (bq BK806.out) hb); have n1_ := am (blk_below (bq BK807.out) hb); have n2_ := am (below_step (hs HB.out) hb); have n3_ := am (hbox); have n4_ := am (bz hg (hs HB.out)); have n5_ := n4_; have n6_ := am ((by rw [hg]; exact Nat.ne_of_lt (blk_lt (bq BK806.out)) : gb806 ≠ gb808)); have n7_ := am ((by rw [hg]; exact Nat.ne_of_gt (blk_lt (bq BK806.out)) : gb808 ≠ gb806)); have n8_ := am ((by rw [hg]; exact Nat.ne_of_lt (blk_lt (bq BK807.out)) : gb807 ≠ gb808)); have n9_ := am ((by rw [hg]; exact Nat.ne_of_gt (blk_lt (bq BK807.out)) : gb808 ≠ gb807)); clear BK806 BK807 HB; revert n0_ n1_ n2_ n3_ n4_ n5_ n6_ n7_ n8_ n9_; intro BK806 BK807 HB BK808 GW808 GE808 NB806_808 NB808_806 NB807_808 NB808_807; clear hb hbox hg; have hnb7 := NB806_807.out; have hnc7 := NB807_806.out; have hnb8 := NB806_808.out; have hnc8 := NB808_806.out; have hcz9_0 : w6.cell? ⟨gb806, 0, none⟩ = some (.slice A0_0 l0_0.length c0_0) := (blk_cell BK806.out 0).trans rfl; have hcz9_1 : w6.cell? ⟨gb806, 1, none⟩ = some (.slice A0_1 l0_1.length c0_1) := (blk_cell BK806.out 1).trans rfl; have hfz9_0 := blk_frozen BK806.out 0; have hfz9_1 := blk_frozen BK806.out 1) | ((with_reducible refine gate_callee (f := 33) rfl ?_); refine goesL_ (some 6) rfl rfl Tryd.func33 (by kernel_rfl) rfl #[.slice A0_0 l0_0.length c0_0] rfl el ?_; (with_reducible refine (laws_toInt64S.calls k _ _ l0_0 t809 _ ?side1 ?side2 A2.out).mono ?_); (case side1 => exact cq (Kd.C_below HR0_0.out HB.out)); (case side2 => exact HC0_0.out); rintro e w10 ⟨v810, rfl, ho0, hb⟩; refine ⟨_, rfl, ?_⟩; have n0_ := am (Kd.R_lower ho0 (below_size (hs HB.out))); have n1_ := am (blk_below (bq BK806.out) hb); have n2_ := am (blk_below (bq BK807.out) hb); have n3_ := am (blk_below (bq BK808.out) hb); have n4_ := am (below_step (hs HB.out) hb); clear BK806 BK807 BK808 HB; revert n0_ n1_ n2_ n3_ n4_; intro HO811 BK806 BK807 BK808 HB; (try clear hb); (try clear hb2); (try clear hgw); (try clear hk); (try clear hi); (try clear ho0); obtain ⟨Ao11, co11, eo11⟩ := Kd.R_slice HO811.out; subst eo11; have hnb12 := NB808_807.out; have hnc12 := NB807_808.out; have hcz13_0 : w10.cell? ⟨gb808, 0, none⟩ = some (.slice none 0 0) := (blk_cell BK808.out 0).trans rfl; have hcz13_1 : w10.cell? ⟨gb808, 1, none⟩ = some (.slice none 0 0) := (blk_cell BK808.out 1).trans rfl; have hfz13_0 := blk_frozen BK808.out 0; have hfz13_1 := blk_frozen BK808.out 1; have hcz14_0 : w10.cell? ⟨gb806, 0, none⟩ = some (.slice A0_0 l0_0.length c0_0) := (blk_cell BK806.out 0).trans rfl; have hcz14_1 : w10.cell? ⟨gb806, 1, none⟩ = some (.slice A0_1 l0_1.length c0_1) := (blk_cell BK806.out 1).trans rfl; have hfz14_0 := blk_frozen BK806.out 0; have hfz14_1 := blk_frozen BK806.out 1) | ((with_reducible refine gate_callee (f := 68) rfl ?_); refine goesL_ (some 10) rfl rfl Tryd.func68 (by kernel_rfl) rfl #[.slice A0_1 l0_1.length c0_1] rfl el ?_; (with_reducible refine (laws_toInt64SS.calls k _ _ l0_1 t812 _ ?side1 ?side2 A3.out).mono ?_); (case side1 => exact Kd.C_below HR0_1.out (hs HB.out)); (case side2 => exact HC0_1.out); rintro e w15 ⟨v813, rfl, ho0, hb⟩; refine ⟨_, rfl, ?_⟩; have n0_ := am (Kd.R_below (rq ((Kd.R_mono (Kd.R_far (p := ⟨gb808, 0, none⟩) (Kd.R_types HO811.out BK808.out (by decide)) (fun _ hk => hk.2) (.slice Ao11 t809.length co11)) (fun _ h_ => h_.1)))) hb); have n1_ := am (Kd.S_lower (Kd.S_new' ho0 (Kd.R_lt (rq ((Kd.R_mono (Kd.R_far (p := ⟨gb808, 0, none⟩) (Kd.R_types HO811.out BK808.out (by decide)) (fun _ hk => hk.2) (.slice Ao11 t809.length co11)) (fun _ h_ => h_.1)))))) (below_size (hs HB.out))); have n2_ := am (blk_below (g := gb806) (o := .cells #[.slice A0_0 l0_0.length c0_0, .slice A0_1 l0_1.length c0_1] 62 (0, 0)) (by refine bq ?_; refine blk_far ?_ NB806_808.out _; refine bq ?_; exact BK806.out) hb); have n3_ := am (blk_below (g := gb807) (o := .cells #[.slice none 0 0, .slice none 0 0] 67 (0, 0)) (by refine bq ?_; refine blk_far ?_ NB807_808.out _; refine bq ?_; exact BK807.out) hb); have n4_ := am (blk_below (g := gb808) (o := .cells #[.slice Ao11 t809.length co11, .slice none 0 0] 67 (0, 0)) (by refine bq ?_; refine blk_put (cs := #[.slice none 0 0, .slice none 0 0]) ?_ 0 _ rfl; refine bq ?_; exact BK808.out) hb); have n5_ := am (below_step (hs HB.out) hb); clear HO811 BK806 BK807 BK808 HB; revert n0_ n1_ n2_ n3_ n4_ n5_; intro HO811 HO814 BK806 BK807 BK808 HB; (try clear hb); (try clear hb2); (try clear hgw); (try clear hk); (try clear hi); (try clear ho0); obtain ⟨Ao16, co16, eo16⟩ := Kd.S_slice HO814.out; subst eo16; have hcz17_0 : w15.cell? ⟨gb808, 0, none⟩ = some (.slice Ao11 t809.length co11) := (blk_cell BK808.out 0).trans rfl; have hcz17_1 : w15.cell? ⟨gb808, 1, none⟩ = some (.slice none 0 0) := (blk_cell BK808.out 1).trans rfl; have hfz17_0 := blk_frozen BK808.out 0; have hfz17_1 := blk_frozen BK808.out 1; have hcz18_0 : w15.cell? ⟨gb807, 0, none⟩ = some (.slice none 0 0) := (blk_cell BK807.out 0).trans rfl; have hcz18_1 : w15.cell? ⟨gb807, 1, none⟩ = some (.slice none 0 0) := (blk_cell BK807.out 1).trans rfl; have hfz18_0 := blk_frozen BK807.out 0; have hfz18_1 := blk_frozen BK807.out 1))
  refine bodyPost_ret (results_cell_row rfl _ _ gb807 67 #[.slice Ao11 t809.length co11, .slice Ao16 t812.length co16] (0, 0) _ rfl (by refine bq ?_; refine blk_put (cs := #[.slice Ao11 t809.length co11, .slice none 0 0]) ?_ 1 _ rfl; refine bq ?_; refine blk_put (cs := #[.slice none 0 0, .slice none 0 0]) ?_ 0 _ rfl; refine bq ?_; refine blk_far ?_ NB807_808.out _; refine bq ?_; exact BK807.out) Tryd.underlying67 rfl (by kernel_rfl)) rfl ?_
  exact ⟨_, _, by first | rfl | (simp [errW_none, errW_some] <;> rfl) | (simp [*, errW_none, errW_some] <;> rfl), by (with_reducible repeat (first | apply Kd.R_alloc | apply Kd.R_drewN | apply Kd.R_drew)); exact Kd.R_mono (Kd.R_far (p := ⟨gb807, 1, none⟩) (Kd.R_far (p := ⟨gb807, 0, none⟩) (Kd.R_far (p := ⟨gb808, 1, none⟩) (Kd.R_types (Kd.R_types HO811.out BK808.out (by decide)) BK807.out (by decide)) (fun _ hk => hk.1.2) (.slice Ao16 t812.length co16)) (fun _ hk => hk.2) (.slice Ao11 t809.length co11)) (fun _ hk => hk.2) (.slice Ao16 t812.length co16)) (fun _ hk => trivial), by (with_reducible repeat (first | apply Kd.S_alloc | apply Kd.S_drewN | apply Kd.S_drew)); exact Kd.S_mono (Kd.S_far (p := ⟨gb807, 1, none⟩) (Kd.S_far (p := ⟨gb807, 0, none⟩) (Kd.S_far (p := ⟨gb808, 1, none⟩) (Kd.S_types (Kd.S_types HO814.out BK808.out (by decide)) BK807.out (by decide)) (fun _ hk => hk.1.2) (.slice Ao16 t812.length co16)) (fun _ hk => hk.2) (.slice Ao11 t809.length co11)) (fun _ hk => hk.2) (.slice Ao16 t812.length co16)) (fun _ hk => hk.1.1.2), by exact hs HB.out⟩
end Go.Proofs.YtcanokiehjjbgaaDoor.P
namespace Go.Proofs.YtcanokiehjjbgaaDoor.P
open Go.RowKit Go.Proofs.YtcanokiehjjbgaaDoorW.PrintWords Go.Proofs.YtcanokiehjjbgaaDoorW.PrintLast Go.Proofs.YtcanokiehjjbgaaDoorW.PrintMore
attribute [local go_sem] max2_int min2_int max_two min_two max_three min_three max_four min_four   -- for this text's walks alone
set_option linter.unusedVariables false
set_option linter.unusedSimpArgs false
def slices_Index_int64_int64.l0 : Nat → List Int → Int → Int → Int → Option (Int)
  | 0, _, _, _, _ => none
  | k + 1, x0, x1, x7, x8 => if x8 < x7 then (if 0 ≤ x8 then (if x8 < (x0.length : Int) then (if x1 = (rd x0 x8) then (some x8) else (slices_Index_int64_int64.l0 k x0 x1 x7 (wrap64 (x8 + 1)))) else (none)) else (none)) else (some (-1))
def slices_Index_int64_int64.f (k : Nat) (l0 : List Int) (a1 : Int) : Option (Int) := slices_Index_int64_int64.l0 k l0 a1 (l0.length : Int) 0
set_option maxHeartbeats 8000000 in
set_option maxRecDepth 100000 in
theorem slices_Index_int64_int64.calls (k : Nat) (A0 : Option Addr) (c0 : Nat) (l0 : List Int) (a1 : Int) (r : Int) (w : World) (hr0 : Kd.C (Kd.int .i64) w A0 l0.length l0) (hc0 : l0.length ≤ c0) (h : slices_Index_int64_int64.f k l0 a1 = some r) :
    Calls Tryd.prog 100 #[.slice A0 l0.length c0, .int .i64 a1] w fun e w' => e = .returned (.int .i64 r) ∧ Drawn0 w w' := by
  have HR0 := am hr0
  have HC0 := am hc0
  clear hr0 hc0
  have H : (slices_Index_int64_int64.l0 k l0 a1 (l0.length : Int) 0) = some r := h
  clear h
  have H' := am H
  clear H
  go_enter Tryd.func100, Tryd.ntmps100
  go_wp2
  go_loopg [8] k (fun kq v8 w' => ∃ (x8_1 : Int), v8 = .int .i64 x8_1 ∧ Aside0 (slices_Index_int64_int64.l0 kq l0 a1 (l0.length : Int) x8_1 = some r) ∧ Aside0 (kq ≤ k) ∧ Drawn0 w w')
  case atStart => exact ⟨(0), (by first | rfl | (simp; done) | (simp [*]; done)), H', ⟨Nat.le_refl _⟩, by repeat (first | exact Drawn0.refl _ | apply Drawn0.step)⟩
  case round =>
    clear H'
    try clear c1; try clear p2
    obtain ⟨x8_1, rfl, HA, HK1, ⟨m1, rfl⟩⟩ := hrel
    cases gk with
    | zero => exact absurd HA.out (by simp [slices_Index_int64_int64.l0])
    | succ k1 =>
      have H := HA.out
      clear HA
      simp only [slices_Index_int64_int64.l0] at H
      by_cases c3 : x8_1 < (l0.length : Int)
      · rw [if_pos c3] at H
        have c3b0 : decide (x8_1 < (l0.length : Int)) = true := decide_eq_true c3
        clear c3
        by_cases c4 : 0 ≤ x8_1
        · rw [if_pos c4] at H
          have c4b0 : decide (0 ≤ x8_1) = true := decide_eq_true c4
          clear c4
          by_cases c5 : x8_1 < (l0.length : Int)
          · rw [if_pos c5] at H
            have c5b0 : decide (x8_1 < (l0.length : Int)) = true := decide_eq_true c5
            clear c5
            by_cases c6 : a1 = (rd l0 x8_1)
            · rw [if_pos c6] at H
              have c6b0 : (a1 == (rd l0 x8_1)) = true := beq_iff_eq.mpr c6
              have c6b1 : (a1 != (rd l0 x8_1)) = false := bne_eq_false_iff_eq.mpr c6
              clear c6
              obtain rfl := Option.some.inj H
              have p618 : 0 ≤ (x8_1 : Int) := of_decide_eq_true (by first | (with_reducible assumption) | assumption)
              have q618 : x8_1 < (l0.length : Int) := of_decide_eq_true (by first | (with_reducible assumption) | assumption)
              obtain ⟨ad618, e618, hx618_0⟩ := Kd.at_int HR0.out x8_1 p618 q618
              cases e618
              replace p618 := eq_true p618
              replace q618 := eq_true q618
              go_wp2
              go_ret
              exact ⟨by first | rfl | (simp; done) | (simp [*]; done), by repeat (first | exact Drawn0.refl _ | apply Drawn0.step)⟩
            · rw [if_neg c6] at H
              have c6b0 : (a1 == (rd l0 x8_1)) = false := beq_eq_false_iff_ne.mpr c6
              have c6b1 : (a1 != (rd l0 x8_1)) = true := bne_iff_ne.mpr c6
              have H' := am H
              clear H
              have p618 : 0 ≤ (x8_1 : Int) := of_decide_eq_true (by first | (with_reducible assumption) | assumption)
              have q618 : x8_1 < (l0.length : Int) := of_decide_eq_true (by first | (with_reducible assumption) | assumption)
              obtain ⟨ad618, e618, hx618_0⟩ := Kd.at_int HR0.out x8_1 p618 q618
              cases e618
              replace p618 := eq_true p618
              replace q618 := eq_true q618
              go_wp2
              go_roundg k1
              case measure => have := HK1.out; omega
              case rel => exact ⟨(wrap64 (x8_1 + 1)), (by first | rfl | (simp; done) | (simp [*]; done)), H', ⟨by have := HK1.out; omega⟩, by repeat (first | exact Drawn0.refl _ | apply Drawn0.step)⟩
          · rw [if_neg c5] at H
            exact absurd H (by simp)
        · rw [if_neg c4] at H
          exact absurd H (by simp)
      · rw [if_neg c3] at H
        have c3b0 : decide (x8_1 < (l0.length : Int)) = false := decide_eq_false c3
        clear c3
        obtain rfl := Option.some.inj H
        go_wp2
        go_ret
        exact ⟨by first | rfl | (simp; done) | (simp [*]; done), by repeat (first | exact Drawn0.refl _ | apply Drawn0.step)⟩
end Go.Proofs.YtcanokiehjjbgaaDoor.P
