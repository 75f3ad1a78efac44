/- A part of the proof of the law FnExactReadEquation. -/
import Derived.Laws.StructEq
import Derived.Test.YtcanokiehjjbgaaGreatDoorCFnExactReadEquation0
import Derived.Test.YtcanokiehjjbgaaGreatDoorCFnExactReadEquation1
import Derived.Test.YtcanokiehjjbgaaGreatDoorCFnExactReadEquation2
import Derived.Test.YtcanokiehjjbgaaGreatDoorCFnExactReadEquation3
import Derived.Test.YtcanokiehjjbgaaGreatDoorCFnExactReadEquation6
import Derived.Test.YtcanokiehjjbgaaGreatDoorCFnExactReadEquation7
import Derived.Test.YtcanokiehjjbgaaGreatDoorCFnExactReadEquation8
import Derived.Test.YtcanokiehjjbgaaGreatDoorCFnExactReadEquation15
namespace Go.Proofs.YtcanokiehjjbgaaGreatDoor.P
open Go.RowKit Go.Proofs.YtcanokiehjjbgaaGreatDoorW.PrintWords Go.Proofs.YtcanokiehjjbgaaGreatDoorW.PrintLast Go.Proofs.YtcanokiehjjbgaaGreatDoorW.PrintMore
attribute [local go_sem] max2_int min2_int max_two min_two max_three min_three max_four min_four   -- for this text's walks alone
set_option linter.unusedVariables false
set_option linter.unusedSimpArgs false
mutual
def impl_readTerm.l0 : Nat → ByteArray → List Int → List ByteArray → Int → Int → List (S125) → Option (List Int × Bool)
 | 0, _, _, _, _, _, _ => none
 | k + 1, x1, x6, x13, x14, x15, x513000 => if x15 < x14 then (if 0 ≤ x15 then (if x15 < (x13.length : Int) then (if ((rdOf ByteArray.empty x13 x15).size : Int) = 1 then (if 0 < ((rdOf ByteArray.empty x13 x15).size : Int) then (if (bt (rdOf ByteArray.empty x13 x15) 0) ≥ 65 then (impl_readTerm.j1 k x1 x6 (rdOf ByteArray.empty x13 x15) x13 x14 x15 (decide ((bt (rdOf ByteArray.empty x13 x15) 0) < 77)) x513000) else (impl_readTerm.j1 k x1 x6 (rdOf ByteArray.empty x13 x15) x13 x14 x15 false x513000)) else (none)) else (impl_readTerm.j1 k x1 x6 (rdOf ByteArray.empty x13 x15) x13 x14 x15 false x513000)) else (none)) else (none)) else ((impl_TermFault.f k x513000 x6).bind fun t529 => (if t529 = 0 then ((impl_textAt.f k x513000 x6 0).bind fun t530 => (if t530.toList = x1.toList then (some (x6, true)) else (some (([] : List Int), false)))) else (some (([] : List Int), false))))
def impl_readTerm.j1 : Nat → ByteArray → List Int → ByteArray → List ByteArray → Int → Int → Bool → List (S125) → Option (List Int × Bool)
 | 0, _, _, _, _, _, _, _, _ => none
 | k + 1, x1, x6, x9, x13, x14, x15, x31, x513000 => if x31 = true then (if 0 < (x9.size : Int) then (if x6.length < 17592186044416 then ((some (x6 ++ [(-1) - (((bt x9 0) - 65) % 256)] : List Int)).bind fun y520 => (if 0 ≤ (wrap64 ((y520.length : Int) - 1)) then (if (wrap64 ((y520.length : Int) - 1)) < (y520.length : Int) then (if (rd y520 (wrap64 ((y520.length : Int) - 1))) = (-1) then (if x9.toList = ([65] : List UInt8) then (impl_readTerm.l0 k x1 y520 x13 x14 (wrap64 (x15 + 1)) x513000) else (some (([] : List Int), false))) else (impl_readTerm.l0 k x1 y520 x13 x14 (wrap64 (x15 + 1)) x513000)) else (none)) else (none))) else (none)) else (none)) else ((impl_symbolIndex.f k x513000 x9).bind fun t524 => (if x6.length < 17592186044416 then ((some (x6 ++ [t524] : List Int)).bind fun y525 => (if 0 ≤ (wrap64 ((y525.length : Int) - 1)) then (if (wrap64 ((y525.length : Int) - 1)) < (y525.length : Int) then (if (rd y525 (wrap64 ((y525.length : Int) - 1))) = (-1) then (if x9.toList = ([65] : List UInt8) then (impl_readTerm.l0 k x1 y525 x13 x14 (wrap64 (x15 + 1)) x513000) else (some (([] : List Int), false))) else (impl_readTerm.l0 k x1 y525 x13 x14 (wrap64 (x15 + 1)) x513000)) else (none)) else (none))) else (none)))
end
def impl_readTerm.f (k : Nat) (l0_0 : List (S125)) (a1 : ByteArray) : Option (List Int × Bool) := (strings_FieldsFunc_impl_readTerm_1.f a1).bind fun t516 => (impl_readTerm.l0 k a1 (([] : List Int)) t516 (t516.length : Int) 0 l0_0)
set_option maxHeartbeats 8000000 in
set_option maxRecDepth 100000 in
theorem impl_readTerm.calls (k : Nat) (A0_0 : Option Addr) (c0_0 : Nat) (l0_0 : List (S125)) (a1 : ByteArray) (r1 : List Int) (r2 : Bool) (w : World) (hr0_0 : Kd.C k125 w A0_0 l0_0.length l0_0) (hc0_0 : l0_0.length ≤ c0_0) (h : impl_readTerm.f k l0_0 a1 = some (r1, r2)) :
  Calls Tryz.prog 63 #[.agg #[.slice A0_0 l0_0.length c0_0], .string a1] w fun e w' => ∃ v0_ : Value, e = .returned (.tuple #[v0_, .bool r2]) ∧ Kd.R (Kd.int .i64) 2 w' w.heap.size (fun _ => True) v0_ r1 ∧ Below w.heap.size w w' := by
 have hu34 := Tryz.underlying34
 have HR0_0 := am hr0_0
 have HC0_0 := am hc0_0
 clear hr0_0 hc0_0
 have HB := am (Below.refl w.heap.size w)
 have H : ((strings_FieldsFunc_impl_readTerm_1.f a1).bind fun t516 => (impl_readTerm.l0 k a1 (([] : List Int)) t516 (t516.length : Int) 0 l0_0)) = some (r1, r2) := h
 clear h
 obtain ⟨y513, hy513⟩ : ∃ y_ : List Int, y_ = (([] : List Int)) := ⟨_, rfl⟩
 replace H : ((strings_FieldsFunc_impl_readTerm_1.f a1).bind fun t516 => (impl_readTerm.l0 k a1 y513 t516 (t516.length : Int) 0 l0_0)) = some (r1, r2) := by first | (rw [hy513]; with_reducible exact H) | (have H2_ := (Option.bind_some _ _).symm.trans H; rw [hy513]; with_reducible exact H2_) | (have H2_ := (Option.bind_some _ _).symm.trans H; with_reducible exact H2_) | with_reducible exact H | (rw [hy513]; exact H) | exact H
 have Ny513 := am hy513
 clear hy513
 replace H := Option.bind_eq_some_iff.mp H
 obtain ⟨t516, A30, H⟩ := H
 replace H : (impl_readTerm.l0 k a1 y513 t516 (t516.length : Int) 0 l0_0) = some (r1, r2) := H
 have A3 := am A30
 clear A30
 have H' := am H
 clear H
 go_enter Tryz.func63, Tryz.ntmps63
 go_wp2_with (first | ((with_reducible refine gate_dst (N := 2) rfl ?_); refine box_event ?hg (N := 2) ?hd (cs := #[.slice A0_0 l0_0.length c0_0]) (t := 34) ?hr ?_; (case hd => rfl); (case hg => rfl); (case hr => first | (go_simp; done) | (go_simp; rfl)); intro gb512 hg w4 hbox hb; have n0_ := am (below_step (hq HB.out) hb); have n1_ := am (hbox); have n2_ := am (bz hg (hq HB.out)); have n3_ := n2_; clear HB; revert n0_ n1_ n2_ n3_; intro HB BK512 GW512 GE512; clear hb hbox hg) | ((with_reducible refine gate_dst (N := 10) rfl ?_); refine Kd.R_lit (Kd.int .i64) _ 2 ?hg (N := 10) ?hd (xs := ([] : List Int)) (inner := []) (ok := fun _ => True) (okp := fun _ => True) ?hr ?hp (fun _ hk => hk) trivial (Below.refl _ _) (Nat.le_refl _) (by simp) ?_; (case hd => rfl); (case hg => rfl); (case hr => first | (go_simp; done) | (go_simp; rfl)); (case hp => exact (Reps.none _ _)); intro v514 w5 ho6 hb hg_ hnew_; clear hg_ hnew_; (first | rw [← Ny513.out] at ho6 | (simp only [Int.reduceToNat] at ho6; rw [← Ny513.out] at ho6)); have n0_ := am (Kd.R_lower ho6 (below_size (hs HB.out))); have n1_ := am (blk_below (bq BK512.out) hb); have n2_ := am (below_step (hs HB.out) hb); clear BK512 HB; revert n0_ n1_ n2_; intro HO515 BK512 HB; clear hb ho6) | ((with_reducible refine gate_callee (f := 111) rfl ?_); refine goesL_ (some 12) rfl rfl Tryz.func111 (by kernel_rfl) rfl #[.string a1, .func (.func 112) #[] #[]] rfl el ?_; (with_reducible refine (strings_FieldsFunc_impl_readTerm_1.calls a1  t516 _ A3.out).mono ?_); rintro e w7 ⟨v517, rfl, ho0, hb⟩; refine ⟨_, rfl, ?_⟩; have n0_ := am (Kd.R_below (rq HO515.out) hb); have n1_ := am (Kd.R_lower ho0 (below_size (hs HB.out))); have n2_ := am (blk_below (bq BK512.out) hb); have n3_ := am (below_step (hs HB.out) hb); clear HO515 BK512 HB; revert n0_ n1_ n2_ n3_; intro HO515 HO518 BK512 HB; (try clear hb); (try clear hb2); (try clear hgw); (try clear hk); (try clear hi); (try clear ho0); obtain ⟨Ao8, co8, eo8⟩ := Kd.R_slice HO518.out; subst eo8))
 go_loopg [6, 15] k (fun kq v6 v15 w' => ∃ (x6_1 : List Int) (x15_1 : Int), v15 = .int .i64 x15_1 ∧ Aside0 (impl_readTerm.l0 kq a1 x6_1 t516 (t516.length : Int) x15_1 l0_0 = some (r1, r2)) ∧ Aside0 (kq ≤ k) ∧ Aside0 (Kd.R (Kd.int .i64) 2 w' w.heap.size (fun _ => True) v6 x6_1) ∧ Aside0 (Kd.R Kd.string 9 w' w.heap.size (fun _ => True) (.slice Ao8 t516.length co8) t516) ∧ Aside0 (w'.heap[gb512]? = some (.cells #[(.slice A0_0 l0_0.length c0_0)] 34 (0, 0))) ∧ Aside0 (Below w.heap.size w w'))
 case atStart => exact ⟨(y513), (0), (by first | rfl | (simp; done) | (simp [*]; done)), H', ⟨Nat.le_refl _⟩, ⟨by (with_reducible repeat (first | apply Kd.R_alloc | apply Kd.R_drewN | apply Kd.R_drew)); exact HO515.out⟩, ⟨by (with_reducible repeat (first | apply Kd.R_alloc | apply Kd.R_drewN | apply Kd.R_drew)); exact HO518.out⟩, ⟨by refine bq ?_; exact BK512.out⟩, ⟨by exact hs HB.out⟩⟩
 case round =>
  clear H'
  try clear c1
  try clear p2
  try clear c6
  obtain ⟨x6_1, x15_1, rfl, HA, HK1, HO_6, HO_13, BK512, HB⟩ := hrel
  cases gk with
  | zero => exact absurd HA.out (by simp [impl_readTerm.l0])
  | succ k1 =>
   have H := HA.out
   clear HA
   simp only [impl_readTerm.l0] at H
   by_cases c9 : x15_1 < (t516.length : Int)
   ·rw [if_pos c9] at H
    have c9b0 : decide (x15_1 < (t516.length : Int)) = true := decide_eq_true c9
    clear c9
    by_cases c10 : 0 ≤ x15_1
    ·rw [if_pos c10] at H
     have c10b0 : decide (0 ≤ x15_1) = true := decide_eq_true c10
     clear c10
     by_cases c11 : x15_1 < (t516.length : Int)
     ·rw [if_pos c11] at H
      have c11b0 : decide (x15_1 < (t516.length : Int)) = true := decide_eq_true c11
      clear c11
      have HC12 := am H
      clear H
      have p519 : 0 ≤ (x15_1 : Int) := of_decide_eq_true (by first | (with_reducible assumption) | assumption)
      have q519 : x15_1 < (t516.length : Int) := of_decide_eq_true (by first | (with_reducible assumption) | assumption)
      obtain ⟨ad519, e519, hx519_0⟩ := Kd.at_string (Kd.R_reads' HO_13.out).2.2 x15_1 p519 q519
      cases e519
      replace p519 := eq_true p519
      replace q519 := eq_true q519
      go_upto_region 6 with (fail)
      go_cut [31] (fun v31 wc => ∃ (kq : Nat) (x31_11 : Bool), v31 = .bool x31_11 ∧ Aside0 (impl_readTerm.j1 kq a1 x6_1 (rdOf ByteArray.empty t516 x15_1) t516 (t516.length : Int) x15_1 x31_11 l0_0 = some (r1, r2)) ∧ Aside0 (kq ≤ k1) ∧ Aside0 (Kd.R (Kd.int .i64) 2 wc w.heap.size (fun _ => True) u6 x6_1) ∧ Aside0 (Kd.R Kd.string 9 wc w.heap.size (fun _ => True) (.slice (some ad519) t516.length co8) t516) ∧ Aside0 (wc.heap[gb512]? = some (.cells #[(.slice A0_0 l0_0.length c0_0)] 34 (0, 0))) ∧ Aside0 (Below w.heap.size w wc))
      case first =>
       have H := HC12.out
       clear HC12
       by_cases c13 : ((rdOf ByteArray.empty t516 x15_1).size : Int) = 1
       ·rw [if_pos c13] at H
        have c13b0 : (((rdOf ByteArray.empty t516 x15_1).size : Int) == 1) = true := beq_iff_eq.mpr c13
        have c13b1 : (((rdOf ByteArray.empty t516 x15_1).size : Int) != 1) = false := bne_eq_false_iff_eq.mpr c13
        clear c13
        (first | rw [c13b0] | (simp only [i64_w, i32_w]; rw [c13b0]) | skip)
        by_cases c14 : 0 < ((rdOf ByteArray.empty t516 x15_1).size : Int)
        ·rw [if_pos c14] at H
         have c14b0 : decide (0 < ((rdOf ByteArray.empty t516 x15_1).size : Int)) = true := decide_eq_true c14
         have c14b1 : decide (0 < (rdOf ByteArray.empty t516 x15_1).size) = true := decide_eq_true (by omega)
         clear c14
         by_cases c16 : (bt (rdOf ByteArray.empty t516 x15_1) 0) ≥ 65
         ·rw [if_pos c16] at H
          have c16b0 : decide (65 ≤ (bt (rdOf ByteArray.empty t516 x15_1) 0)) = true := decide_eq_true c16
          clear c16
          have H' := am H
          clear H
          have p15 : 0 ≤ (0 : Int) := (by omega)
          have q15 : 0 < (rdOf ByteArray.empty t516 x15_1).size := (by have : (0 : Int) < ((rdOf ByteArray.empty t516 x15_1).size : Int) := of_decide_eq_true (by first | (with_reducible assumption) | assumption); omega)
          have hx15 : ∀ h : 0 < (rdOf ByteArray.empty t516 x15_1).size, (((rdOf ByteArray.empty t516 x15_1)[0]'h).toNat : Int) = bt (rdOf ByteArray.empty t516 x15_1) 0 := bt_at (rdOf ByteArray.empty t516 x15_1) 0
          clear p15
          have qi15 : (0 < ((rdOf ByteArray.empty t516 x15_1).size : Int)) = True := eq_true (of_decide_eq_true (by first | (with_reducible assumption) | assumption))
          replace q15 := eq_true q15
          have p17 : 0 ≤ (0 : Int) := (by omega)
          have q17 : 0 < (rdOf ByteArray.empty t516 x15_1).size := (by have : (0 : Int) < ((rdOf ByteArray.empty t516 x15_1).size : Int) := of_decide_eq_true (by first | (with_reducible assumption) | assumption); omega)
          have hx17 : ∀ h : 0 < (rdOf ByteArray.empty t516 x15_1).size, (((rdOf ByteArray.empty t516 x15_1)[0]'h).toNat : Int) = bt (rdOf ByteArray.empty t516 x15_1) 0 := bt_at (rdOf ByteArray.empty t516 x15_1) 0
          clear p17
          have qi17 : (0 < ((rdOf ByteArray.empty t516 x15_1).size : Int)) = True := eq_true (of_decide_eq_true (by first | (with_reducible assumption) | assumption))
          replace q17 := eq_true q17
          go_wp2
          go_meet
          case rel => exact ⟨_, (decide ((bt (rdOf ByteArray.empty t516 x15_1) 0) < 77)), (by first | rfl | (simp; done) | (simp [*]; done)), H', ⟨by have := HK1.out; first | omega | exact Nat.le_refl _⟩, ⟨by (with_reducible repeat (first | apply Kd.R_alloc | apply Kd.R_drewN | apply Kd.R_drew)); exact HO_6.out⟩, ⟨by (with_reducible repeat (first | apply Kd.R_alloc | apply Kd.R_drewN | apply Kd.R_drew)); exact HO_13.out⟩, ⟨by refine bq ?_; exact BK512.out⟩, ⟨by exact hs HB.out⟩⟩
         ·rw [if_neg c16] at H
          have c16b0 : decide (65 ≤ (bt (rdOf ByteArray.empty t516 x15_1) 0)) = false := decide_eq_false c16
          clear c16
          have H' := am H
          clear H
          have p15 : 0 ≤ (0 : Int) := (by omega)
          have q15 : 0 < (rdOf ByteArray.empty t516 x15_1).size := (by have : (0 : Int) < ((rdOf ByteArray.empty t516 x15_1).size : Int) := of_decide_eq_true (by first | (with_reducible assumption) | assumption); omega)
          have hx15 : ∀ h : 0 < (rdOf ByteArray.empty t516 x15_1).size, (((rdOf ByteArray.empty t516 x15_1)[0]'h).toNat : Int) = bt (rdOf ByteArray.empty t516 x15_1) 0 := bt_at (rdOf ByteArray.empty t516 x15_1) 0
          clear p15
          have qi15 : (0 < ((rdOf ByteArray.empty t516 x15_1).size : Int)) = True := eq_true (of_decide_eq_true (by first | (with_reducible assumption) | assumption))
          replace q15 := eq_true q15
          go_wp2
          go_meet
          case rel => exact ⟨_, (false), (by first | rfl | (simp; done) | (simp [*]; done)), H', ⟨by have := HK1.out; first | omega | exact Nat.le_refl _⟩, ⟨by (with_reducible repeat (first | apply Kd.R_alloc | apply Kd.R_drewN | apply Kd.R_drew)); exact HO_6.out⟩, ⟨by (with_reducible repeat (first | apply Kd.R_alloc | apply Kd.R_drewN | apply Kd.R_drew)); exact HO_13.out⟩, ⟨by refine bq ?_; exact BK512.out⟩, ⟨by exact hs HB.out⟩⟩
        ·rw [if_neg c14] at H
         exact absurd H (by simp)
       ·rw [if_neg c13] at H
        have c13b0 : (((rdOf ByteArray.empty t516 x15_1).size : Int) == 1) = false := beq_eq_false_iff_ne.mpr c13
        have c13b1 : (((rdOf ByteArray.empty t516 x15_1).size : Int) != 1) = true := bne_iff_ne.mpr c13
        (first | rw [c13b0] | (simp only [i64_w, i32_w]; rw [c13b0]) | skip)
        have H' := am H
        clear H
        go_wp2
        go_meet
        case rel => exact ⟨_, (false), (by first | rfl | (simp; done) | (simp [*]; done)), H', ⟨by have := HK1.out; first | omega | exact Nat.le_refl _⟩, ⟨by (with_reducible repeat (first | apply Kd.R_alloc | apply Kd.R_drewN | apply Kd.R_drew)); exact HO_6.out⟩, ⟨by (with_reducible repeat (first | apply Kd.R_alloc | apply Kd.R_drewN | apply Kd.R_drew)); exact HO_13.out⟩, ⟨by refine bq ?_; exact BK512.out⟩, ⟨by exact hs HB.out⟩⟩
      case rest =>
       clear HC12
       try clear c1
       try clear p1
       try clear q1
       try clear hx1
       try clear qi1
       try clear p2
       try clear p5
       try clear q5
       try clear hx5
       try clear c6
       try clear c9
       try clear c9b0
       try clear c10
       try clear c10b0
       try clear c11
       try clear c11b0
       try clear c13
       try clear c13b0
       try clear c13b1
       try clear c14
       try clear c14b0
       try clear c14b1
       try clear p15
       try clear q15
       try clear hx15
       try clear qi15
       try clear c16
       try clear c16b0
       try clear p17
       try clear q17
       try clear hx17
       try clear qi17
       try clear hx519_0
       try clear p15
       try clear p17
       try clear p2
       try clear p519
       try clear q15
       try clear q17
       try clear q519
       obtain ⟨kq, x31_11, rfl, HA, HJ11, HO_6, HO_13, BK512, HB⟩ := hcut
       cases kq with
       | zero => exact absurd HA.out (by simp [impl_readTerm.j1])
       | succ kj11 =>
        have H := HA.out
        clear HA
        simp only [impl_readTerm.j1] at H
        by_cases c18 : x31_11 = true
        ·subst c18
         have H1 : (if 0 < ((rdOf ByteArray.empty t516 x15_1).size : Int) then (if x6_1.length < 17592186044416 then ((some (x6_1 ++ [(-1) - (((bt (rdOf ByteArray.empty t516 x15_1) 0) - 65) % 256)] : List Int)).bind fun y520 => (if 0 ≤ (wrap64 ((y520.length : Int) - 1)) then (if (wrap64 ((y520.length : Int) - 1)) < (y520.length : Int) then (if (rd y520 (wrap64 ((y520.length : Int) - 1))) = (-1) then (if (rdOf ByteArray.empty t516 x15_1).toList = ([65] : List UInt8) then (impl_readTerm.l0 kj11 a1 y520 t516 (t516.length : Int) (wrap64 (x15_1 + 1)) l0_0) else (some (([] : List Int), false))) else (impl_readTerm.l0 kj11 a1 y520 t516 (t516.length : Int) (wrap64 (x15_1 + 1)) l0_0)) else (none)) else (none))) else (none)) else (none)) = some (r1, r2) := by rw [if_pos rfl] at H; exact H
         clear H
         have H := H1
         clear H1
         by_cases c19 : 0 < ((rdOf ByteArray.empty t516 x15_1).size : Int)
         ·rw [if_pos c19] at H
          have c19b0 : decide (0 < ((rdOf ByteArray.empty t516 x15_1).size : Int)) = true := decide_eq_true c19
          have c19b1 : decide (0 < (rdOf ByteArray.empty t516 x15_1).size) = true := decide_eq_true (by omega)
          clear c19
          by_cases c21 : x6_1.length < 17592186044416
          ·rw [if_pos c21] at H
           have LMc21 := am c21
           clear c21
           obtain ⟨y520, hy520⟩ : ∃ y_ : List Int, y_ = (x6_1 ++ [(-1) - (((bt (rdOf ByteArray.empty t516 x15_1) 0) - 65) % 256)]) := ⟨_, rfl⟩
           replace H : (if 0 ≤ (wrap64 ((y520.length : Int) - 1)) then (if (wrap64 ((y520.length : Int) - 1)) < (y520.length : Int) then (if (rd y520 (wrap64 ((y520.length : Int) - 1))) = (-1) then (if (rdOf ByteArray.empty t516 x15_1).toList = ([65] : List UInt8) then (impl_readTerm.l0 kj11 a1 y520 t516 (t516.length : Int) (wrap64 (x15_1 + 1)) l0_0) else (some (([] : List Int), false))) else (impl_readTerm.l0 kj11 a1 y520 t516 (t516.length : Int) (wrap64 (x15_1 + 1)) l0_0)) else (none)) else (none)) = some (r1, r2) := by first | (rw [hy520]; with_reducible exact H) | (have H2_ := (Option.bind_some _ _).symm.trans H; rw [hy520]; with_reducible exact H2_) | (have H2_ := (Option.bind_some _ _).symm.trans H; with_reducible exact H2_) | with_reducible exact H | (rw [hy520]; exact H) | exact H
           have Ny520 := am hy520
           clear hy520
           obtain ⟨ji22, hji22⟩ : ∃ j_ : Int, (wrap64 ((y520.length : Int) - 1)) = j_ := ⟨_, rfl⟩
           replace H : (if 0 ≤ (ji22) then (if (ji22) < (y520.length : Int) then (if (rd y520 (ji22)) = (-1) then (if (rdOf ByteArray.empty t516 x15_1).toList = ([65] : List UInt8) then (impl_readTerm.l0 kj11 a1 y520 t516 (t516.length : Int) (wrap64 (x15_1 + 1)) l0_0) else (some (([] : List Int), false))) else (impl_readTerm.l0 kj11 a1 y520 t516 (t516.length : Int) (wrap64 (x15_1 + 1)) l0_0)) else (none)) else (none)) = some (r1, r2) := by first | (rw [hji22] at H; exact H) | (simp only [hji22] at H ⊢; exact H)
           have hji22w : (IntKind.i64.wrap ((y520.length : Int) - 1)) = ji22 := (i64_w _).trans hji22
           by_cases c23 : 0 ≤ (ji22)
           ·rw [if_pos c23] at H
            have c23b0 : decide (0 ≤ (ji22)) = true := decide_eq_true c23
            clear c23
            by_cases c24 : (ji22) < (y520.length : Int)
            ·rw [if_pos c24] at H
             have c24b0 : decide ((ji22) < (y520.length : Int)) = true := decide_eq_true c24
             clear c24
             by_cases c25 : (rd y520 (ji22)) = (-1)
             ·rw [if_pos c25] at H
              have c25b0 : ((rd y520 (ji22)) == (-1)) = true := beq_iff_eq.mpr c25
              have c25b1 : ((rd y520 (ji22)) != (-1)) = false := bne_eq_false_iff_eq.mpr c25
              clear c25
              by_cases c26 : (rdOf ByteArray.empty t516 x15_1).toList = ([65] : List UInt8)
              ·rw [if_pos c26] at H
               have c26b0 : ((rdOf ByteArray.empty t516 x15_1).toList == ([65] : List UInt8)) = true := beq_iff_eq.mpr c26
               have c26b1 : ((rdOf ByteArray.empty t516 x15_1).toList != ([65] : List UInt8)) = false := bne_eq_false_iff_eq.mpr c26
               clear c26
               have H' := am H
               clear H
               have p20 : 0 ≤ (0 : Int) := (by omega)
               have q20 : 0 < (rdOf ByteArray.empty t516 x15_1).size := (by have : (0 : Int) < ((rdOf ByteArray.empty t516 x15_1).size : Int) := of_decide_eq_true (by first | (with_reducible assumption) | assumption); omega)
               have hx20 : ∀ h : 0 < (rdOf ByteArray.empty t516 x15_1).size, (((rdOf ByteArray.empty t516 x15_1)[0]'h).toNat : Int) = bt (rdOf ByteArray.empty t516 x15_1) 0 := bt_at (rdOf ByteArray.empty t516 x15_1) 0
               clear p20
               have qi20 : (0 < ((rdOf ByteArray.empty t516 x15_1).size : Int)) = True := eq_true (of_decide_eq_true (by first | (with_reducible assumption) | assumption))
               replace q20 := eq_true q20
               go_wp2_with (first | ((with_reducible refine gate_builtin (b := .append) (xs := #[.tmp 32, .tmp 38]) rfl ?_); at_builtin; refine Kd.R_append (Kd.int .i64) (w0 := w) w.heap.size rfl (.tmp 32) (.tmp 38) 45 2 (.int .i64 0) 8 rfl Tryz.underlying45 info2 rfl (by decide) (by omega) u6 x6_1 ((-1) - (((bt (rdOf ByteArray.empty t516 x15_1) 0) - 65) % 256)) [.int .i64 ((-1) - (((bt (rdOf ByteArray.empty t516 x15_1) 0) - 65) % 256))] (fun _ => True) (fun _ => False) rfl rfl ?aP (fun _ hk => hk.elim) ?aF ?aO ?aB ?aS ?aL ?_; (case aP => exact rfl); (case aB => exact (hs HB.out)); (case aF => exact (fun _ _ => trivial)); (case aO => exact (rq HO_6.out)); (case aS => exact (below_size (hs HB.out))); (case aL => have := LMc21.out; omega); intro v521 w27 ho hb hg hat; rw [← Ny520.out] at ho; have n0_ := am (Kd.R_over' (rq HO_13.out) (Kd.R_typed (rq HO_6.out)) (by decide) hg); have n1_ := am (blk_grown (bq BK512.out) hg (Kd.R_ne HO_6.out BK512.out (by decide))); have n2_ := am (hb); have n3_ := am (ho); clear HO_13 BK512 HB HO_6; revert n0_ n1_ n2_ n3_; intro HO_13 BK512 HB HO522; clear ho hb hg hat; obtain ⟨Ao28, co28, eo28⟩ := Kd.R_slice HO522.out; subst eo28; have p523 : 0 ≤ ((ji22) : Int) := of_decide_eq_true (by first | (with_reducible assumption) | assumption); have q523 : (ji22) < (y520.length : Int) := of_decide_eq_true (by first | (with_reducible assumption) | assumption); obtain ⟨ad523, e523, hx523_0⟩ := Kd.at_int (Kd.R_reads' HO522.out).2.2 (ji22) p523 q523; cases e523; replace p523 := eq_true p523; replace q523 := eq_true q523))
               go_roundg kj11
               case measure => have := HK1.out; have := HJ11.out; omega
               case rel => exact ⟨(y520), (wrap64 (x15_1 + 1)), (by first | rfl | (simp; done) | (simp [*]; done)), H', ⟨by have := HK1.out; have := HJ11.out; omega⟩, ⟨by (with_reducible repeat (first | apply Kd.R_alloc | apply Kd.R_drewN | apply Kd.R_drew)); exact HO522.out⟩, ⟨by (with_reducible repeat (first | apply Kd.R_alloc | apply Kd.R_drewN | apply Kd.R_drew)); exact HO_13.out⟩, ⟨by refine bq ?_; exact BK512.out⟩, ⟨by exact hs HB.out⟩⟩
              ·rw [if_neg c26] at H
               have c26b0 : ((rdOf ByteArray.empty t516 x15_1).toList == ([65] : List UInt8)) = false := beq_eq_false_iff_ne.mpr c26
               have c26b1 : ((rdOf ByteArray.empty t516 x15_1).toList != ([65] : List UInt8)) = true := bne_iff_ne.mpr c26
               simp only [Option.some.injEq, Prod.mk.injEq] at H
               obtain ⟨rfl, rfl⟩ := H
               have p20 : 0 ≤ (0 : Int) := (by omega)
               have q20 : 0 < (rdOf ByteArray.empty t516 x15_1).size := (by have : (0 : Int) < ((rdOf ByteArray.empty t516 x15_1).size : Int) := of_decide_eq_true (by first | (with_reducible assumption) | assumption); omega)
               have hx20 : ∀ h : 0 < (rdOf ByteArray.empty t516 x15_1).size, (((rdOf ByteArray.empty t516 x15_1)[0]'h).toNat : Int) = bt (rdOf ByteArray.empty t516 x15_1) 0 := bt_at (rdOf ByteArray.empty t516 x15_1) 0
               clear p20
               have qi20 : (0 < ((rdOf ByteArray.empty t516 x15_1).size : Int)) = True := eq_true (of_decide_eq_true (by first | (with_reducible assumption) | assumption))
               replace q20 := eq_true q20
               go_wp2_with (first | ((with_reducible refine gate_builtin (b := .append) (xs := #[.tmp 32, .tmp 38]) rfl ?_); at_builtin; refine Kd.R_append (Kd.int .i64) (w0 := w) w.heap.size rfl (.tmp 32) (.tmp 38) 45 2 (.int .i64 0) 8 rfl Tryz.underlying45 info2 rfl (by decide) (by omega) u6 x6_1 ((-1) - (((bt (rdOf ByteArray.empty t516 x15_1) 0) - 65) % 256)) [.int .i64 ((-1) - (((bt (rdOf ByteArray.empty t516 x15_1) 0) - 65) % 256))] (fun _ => True) (fun _ => False) rfl rfl ?aP (fun _ hk => hk.elim) ?aF ?aO ?aB ?aS ?aL ?_; (case aP => exact rfl); (case aB => exact (hs HB.out)); (case aF => exact (fun _ _ => trivial)); (case aO => exact (rq HO_6.out)); (case aS => exact (below_size (hs HB.out))); (case aL => have := LMc21.out; omega); intro v521 w29 ho hb hg hat; rw [← Ny520.out] at ho; have n0_ := am (Kd.R_over' (rq HO_13.out) (Kd.R_typed (rq HO_6.out)) (by decide) hg); have n1_ := am (blk_grown (bq BK512.out) hg (Kd.R_ne HO_6.out BK512.out (by decide))); have n2_ := am (hb); have n3_ := am (ho); clear HO_13 BK512 HB HO_6; revert n0_ n1_ n2_ n3_; intro HO_13 BK512 HB HO522; clear ho hb hg hat; obtain ⟨Ao30, co30, eo30⟩ := Kd.R_slice HO522.out; subst eo30; have p523 : 0 ≤ ((ji22) : Int) := of_decide_eq_true (by first | (with_reducible assumption) | assumption); have q523 : (ji22) < (y520.length : Int) := of_decide_eq_true (by first | (with_reducible assumption) | assumption); obtain ⟨ad523, e523, hx523_0⟩ := Kd.at_int (Kd.R_reads' HO522.out).2.2 (ji22) p523 q523; cases e523; replace p523 := eq_true p523; replace q523 := eq_true q523))
               go_ret2
               exact ⟨_, by first | rfl | (simp [errW_none, errW_some] <;> rfl) | (simp only [← hji22]; first | rfl | (simp [errW_none, errW_some] <;> rfl)) | (simp [*, errW_none, errW_some] <;> rfl), by first | exact Kd.R_nil _ _ _ _ _ | exact Kd.N_nil _ _ _ _ _ | exact Kd.V_nil _ _ _ _ _ | exact Kd.Q_nil _ _ _ _ _ | exact Kd.S_nil _ _ _ _ _, by exact hs HB.out⟩
             ·rw [if_neg c25] at H
              have c25b0 : ((rd y520 (ji22)) == (-1)) = false := beq_eq_false_iff_ne.mpr c25
              have c25b1 : ((rd y520 (ji22)) != (-1)) = true := bne_iff_ne.mpr c25
              have H' := am H
              clear H
              have p20 : 0 ≤ (0 : Int) := (by omega)
              have q20 : 0 < (rdOf ByteArray.empty t516 x15_1).size := (by have : (0 : Int) < ((rdOf ByteArray.empty t516 x15_1).size : Int) := of_decide_eq_true (by first | (with_reducible assumption) | assumption); omega)
              have hx20 : ∀ h : 0 < (rdOf ByteArray.empty t516 x15_1).size, (((rdOf ByteArray.empty t516 x15_1)[0]'h).toNat : Int) = bt (rdOf ByteArray.empty t516 x15_1) 0 := bt_at (rdOf ByteArray.empty t516 x15_1) 0
              clear p20
              have qi20 : (0 < ((rdOf ByteArray.empty t516 x15_1).size : Int)) = True := eq_true (of_decide_eq_true (by first | (with_reducible assumption) | assumption))
              replace q20 := eq_true q20
              go_wp2_with (first | ((with_reducible refine gate_builtin (b := .append) (xs := #[.tmp 32, .tmp 38]) rfl ?_); at_builtin; refine Kd.R_append (Kd.int .i64) (w0 := w) w.heap.size rfl (.tmp 32) (.tmp 38) 45 2 (.int .i64 0) 8 rfl Tryz.underlying45 info2 rfl (by decide) (by omega) u6 x6_1 ((-1) - (((bt (rdOf ByteArray.empty t516 x15_1) 0) - 65) % 256)) [.int .i64 ((-1) - (((bt (rdOf ByteArray.empty t516 x15_1) 0) - 65) % 256))] (fun _ => True) (fun _ => False) rfl rfl ?aP (fun _ hk => hk.elim) ?aF ?aO ?aB ?aS ?aL ?_; (case aP => exact rfl); (case aB => exact (hs HB.out)); (case aF => exact (fun _ _ => trivial)); (case aO => exact (rq HO_6.out)); (case aS => exact (below_size (hs HB.out))); (case aL => have := LMc21.out; omega); intro v521 w31 ho hb hg hat; rw [← Ny520.out] at ho; have n0_ := am (Kd.R_over' (rq HO_13.out) (Kd.R_typed (rq HO_6.out)) (by decide) hg); have n1_ := am (blk_grown (bq BK512.out) hg (Kd.R_ne HO_6.out BK512.out (by decide))); have n2_ := am (hb); have n3_ := am (ho); clear HO_13 BK512 HB HO_6; revert n0_ n1_ n2_ n3_; intro HO_13 BK512 HB HO522; clear ho hb hg hat; obtain ⟨Ao32, co32, eo32⟩ := Kd.R_slice HO522.out; subst eo32; have p523 : 0 ≤ ((ji22) : Int) := of_decide_eq_true (by first | (with_reducible assumption) | assumption); have q523 : (ji22) < (y520.length : Int) := of_decide_eq_true (by first | (with_reducible assumption) | assumption); obtain ⟨ad523, e523, hx523_0⟩ := Kd.at_int (Kd.R_reads' HO522.out).2.2 (ji22) p523 q523; cases e523; replace p523 := eq_true p523; replace q523 := eq_true q523))
              go_roundg kj11
              case measure => have := HK1.out; have := HJ11.out; omega
              case rel => exact ⟨(y520), (wrap64 (x15_1 + 1)), (by first | rfl | (simp; done) | (simp [*]; done)), H', ⟨by have := HK1.out; have := HJ11.out; omega⟩, ⟨by (with_reducible repeat (first | apply Kd.R_alloc | apply Kd.R_drewN | apply Kd.R_drew)); exact HO522.out⟩, ⟨by (with_reducible repeat (first | apply Kd.R_alloc | apply Kd.R_drewN | apply Kd.R_drew)); exact HO_13.out⟩, ⟨by refine bq ?_; exact BK512.out⟩, ⟨by exact hs HB.out⟩⟩
            ·rw [if_neg c24] at H
             exact absurd H (by simp)
           ·rw [if_neg c23] at H
            exact absurd H (by simp)
          ·rw [if_neg c21] at H
           exact absurd H (by simp)
         ·rw [if_neg c19] at H
          exact absurd H (by simp)
        ·replace c18 := Bool.eq_false_iff.mpr c18
         subst c18
         have H1 : ((impl_symbolIndex.f kj11 l0_0 (rdOf ByteArray.empty t516 x15_1)).bind fun t524 => (if x6_1.length < 17592186044416 then ((some (x6_1 ++ [t524] : List Int)).bind fun y525 => (if 0 ≤ (wrap64 ((y525.length : Int) - 1)) then (if (wrap64 ((y525.length : Int) - 1)) < (y525.length : Int) then (if (rd y525 (wrap64 ((y525.length : Int) - 1))) = (-1) then (if (rdOf ByteArray.empty t516 x15_1).toList = ([65] : List UInt8) then (impl_readTerm.l0 kj11 a1 y525 t516 (t516.length : Int) (wrap64 (x15_1 + 1)) l0_0) else (some (([] : List Int), false))) else (impl_readTerm.l0 kj11 a1 y525 t516 (t516.length : Int) (wrap64 (x15_1 + 1)) l0_0)) else (none)) else (none))) else (none))) = some (r1, r2) := by rw [if_neg (show ¬ (false = true) by decide)] at H; exact H
         clear H
         have H := H1
         clear H1
         replace H := Option.bind_eq_some_iff.mp H
         obtain ⟨t524, A330, H⟩ := H
         replace H : (if x6_1.length < 17592186044416 then ((some (x6_1 ++ [t524] : List Int)).bind fun y525 => (if 0 ≤ (wrap64 ((y525.length : Int) - 1)) then (if (wrap64 ((y525.length : Int) - 1)) < (y525.length : Int) then (if (rd y525 (wrap64 ((y525.length : Int) - 1))) = (-1) then (if (rdOf ByteArray.empty t516 x15_1).toList = ([65] : List UInt8) then (impl_readTerm.l0 kj11 a1 y525 t516 (t516.length : Int) (wrap64 (x15_1 + 1)) l0_0) else (some (([] : List Int), false))) else (impl_readTerm.l0 kj11 a1 y525 t516 (t516.length : Int) (wrap64 (x15_1 + 1)) l0_0)) else (none)) else (none))) else (none)) = some (r1, r2) := H
         have A33 := am A330
         clear A330
         by_cases c34 : x6_1.length < 17592186044416
         ·rw [if_pos c34] at H
          have LMc34 := am c34
          clear c34
          obtain ⟨y525, hy525⟩ : ∃ y_ : List Int, y_ = (x6_1 ++ [t524]) := ⟨_, rfl⟩
          replace H : (if 0 ≤ (wrap64 ((y525.length : Int) - 1)) then (if (wrap64 ((y525.length : Int) - 1)) < (y525.length : Int) then (if (rd y525 (wrap64 ((y525.length : Int) - 1))) = (-1) then (if (rdOf ByteArray.empty t516 x15_1).toList = ([65] : List UInt8) then (impl_readTerm.l0 kj11 a1 y525 t516 (t516.length : Int) (wrap64 (x15_1 + 1)) l0_0) else (some (([] : List Int), false))) else (impl_readTerm.l0 kj11 a1 y525 t516 (t516.length : Int) (wrap64 (x15_1 + 1)) l0_0)) else (none)) else (none)) = some (r1, r2) := by first | (rw [hy525]; with_reducible exact H) | (have H2_ := (Option.bind_some _ _).symm.trans H; rw [hy525]; with_reducible exact H2_) | (have H2_ := (Option.bind_some _ _).symm.trans H; with_reducible exact H2_) | with_reducible exact H | (rw [hy525]; exact H) | exact H
          have Ny525 := am hy525
          clear hy525
          obtain ⟨ji35, hji35⟩ : ∃ j_ : Int, (wrap64 ((y525.length : Int) - 1)) = j_ := ⟨_, rfl⟩
          replace H : (if 0 ≤ (ji35) then (if (ji35) < (y525.length : Int) then (if (rd y525 (ji35)) = (-1) then (if (rdOf ByteArray.empty t516 x15_1).toList = ([65] : List UInt8) then (impl_readTerm.l0 kj11 a1 y525 t516 (t516.length : Int) (wrap64 (x15_1 + 1)) l0_0) else (some (([] : List Int), false))) else (impl_readTerm.l0 kj11 a1 y525 t516 (t516.length : Int) (wrap64 (x15_1 + 1)) l0_0)) else (none)) else (none)) = some (r1, r2) := by first | (rw [hji35] at H; exact H) | (simp only [hji35] at H ⊢; exact H)
          (try rw [hji35] at A33)
          have hji35w : (IntKind.i64.wrap ((y525.length : Int) - 1)) = ji35 := (i64_w _).trans hji35
          by_cases c36 : 0 ≤ (ji35)
          ·rw [if_pos c36] at H
           have c36b0 : decide (0 ≤ (ji35)) = true := decide_eq_true c36
           clear c36
           by_cases c37 : (ji35) < (y525.length : Int)
           ·rw [if_pos c37] at H
            have c37b0 : decide ((ji35) < (y525.length : Int)) = true := decide_eq_true c37
            clear c37
            by_cases c38 : (rd y525 (ji35)) = (-1)
            ·rw [if_pos c38] at H
             have c38b0 : ((rd y525 (ji35)) == (-1)) = true := beq_iff_eq.mpr c38
             have c38b1 : ((rd y525 (ji35)) != (-1)) = false := bne_eq_false_iff_eq.mpr c38
             clear c38
             by_cases c39 : (rdOf ByteArray.empty t516 x15_1).toList = ([65] : List UInt8)
             ·rw [if_pos c39] at H
              have c39b0 : ((rdOf ByteArray.empty t516 x15_1).toList == ([65] : List UInt8)) = true := beq_iff_eq.mpr c39
              have c39b1 : ((rdOf ByteArray.empty t516 x15_1).toList != ([65] : List UInt8)) = false := bne_eq_false_iff_eq.mpr c39
              clear c39
              have H' := am H
              clear H
              have hcz40_0 : wc.cell? ⟨gb512, 0, none⟩ = some (.slice A0_0 l0_0.length c0_0) := (blk_cell BK512.out 0).trans rfl
              have hfz40_0 := blk_frozen BK512.out 0
              go_wp2_with (first | ((with_reducible refine gate_callee (f := 107) rfl ?_); refine goesL_ (some 43) rfl rfl Tryz.func107 (by kernel_rfl) rfl #[.agg #[.slice A0_0 l0_0.length c0_0], .string (rdOf ByteArray.empty t516 x15_1)] rfl el ?_; (with_reducible refine (impl_symbolIndex.calls kj11 _ _ l0_0 (rdOf ByteArray.empty t516 x15_1) t524 _ ?side1 ?side2 A33.out).mono ?_); (case side1 => exact cq (Kd.C_below HR0_0.out HB.out)); (case side2 => exact HC0_0.out); rintro e w41 ⟨rfl, hb⟩; refine ⟨_, rfl, ?_⟩; have n0_ := am (Kd.R_below (rq HO_6.out) hb); have n1_ := am (Kd.R_below (rq HO_13.out) hb); have n2_ := am (blk_below (bq BK512.out) hb); have n3_ := am (below_step (hs HB.out) hb); clear HO_6 HO_13 BK512 HB; revert n0_ n1_ n2_ n3_; intro HO_6 HO_13 BK512 HB; (try clear hb); (try clear hb2); (try clear hgw); (try clear hk); (try clear hi)) | ((with_reducible refine gate_builtin (b := .append) (xs := #[.tmp 40, .tmp 44]) rfl ?_); at_builtin; refine Kd.R_append (Kd.int .i64) (w0 := w) w.heap.size rfl (.tmp 40) (.tmp 44) 45 2 (.int .i64 0) 8 rfl Tryz.underlying45 info2 rfl (by decide) (by omega) u6 x6_1 t524 [.int .i64 t524] (fun _ => True) (fun _ => False) rfl rfl ?aP (fun _ hk => hk.elim) ?aF ?aO ?aB ?aS ?aL ?_; (case aP => exact rfl); (case aB => exact (hs HB.out)); (case aF => exact (fun _ _ => trivial)); (case aO => exact (rq HO_6.out)); (case aS => exact (below_size (hs HB.out))); (case aL => have := LMc34.out; omega); intro v526 w42 ho hb hg hat; rw [← Ny525.out] at ho; have n0_ := am (Kd.R_over' (rq HO_13.out) (Kd.R_typed (rq HO_6.out)) (by decide) hg); have n1_ := am (blk_grown (bq BK512.out) hg (Kd.R_ne HO_6.out BK512.out (by decide))); have n2_ := am (hb); have n3_ := am (ho); clear HO_13 BK512 HB HO_6; revert n0_ n1_ n2_ n3_; intro HO_13 BK512 HB HO527; clear ho hb hg hat; obtain ⟨Ao43, co43, eo43⟩ := Kd.R_slice HO527.out; subst eo43; have p528 : 0 ≤ ((ji35) : Int) := of_decide_eq_true (by first | (with_reducible assumption) | assumption); have q528 : (ji35) < (y525.length : Int) := of_decide_eq_true (by first | (with_reducible assumption) | assumption); obtain ⟨ad528, e528, hx528_0⟩ := Kd.at_int (Kd.R_reads' HO527.out).2.2 (ji35) p528 q528; cases e528; replace p528 := eq_true p528; replace q528 := eq_true q528))
              go_roundg kj11
              case measure => have := HK1.out; have := HJ11.out; omega
              case rel => exact ⟨(y525), (wrap64 (x15_1 + 1)), (by first | rfl | (simp; done) | (simp [*]; done)), H', ⟨by have := HK1.out; have := HJ11.out; omega⟩, ⟨by (with_reducible repeat (first | apply Kd.R_alloc | apply Kd.R_drewN | apply Kd.R_drew)); exact HO527.out⟩, ⟨by (with_reducible repeat (first | apply Kd.R_alloc | apply Kd.R_drewN | apply Kd.R_drew)); exact HO_13.out⟩, ⟨by refine bq ?_; exact BK512.out⟩, ⟨by exact hs HB.out⟩⟩
             ·rw [if_neg c39] at H
              have c39b0 : ((rdOf ByteArray.empty t516 x15_1).toList == ([65] : List UInt8)) = false := beq_eq_false_iff_ne.mpr c39
              have c39b1 : ((rdOf ByteArray.empty t516 x15_1).toList != ([65] : List UInt8)) = true := bne_iff_ne.mpr c39
              simp only [Option.some.injEq, Prod.mk.injEq] at H
              obtain ⟨rfl, rfl⟩ := H
              have hcz44_0 : wc.cell? ⟨gb512, 0, none⟩ = some (.slice A0_0 l0_0.length c0_0) := (blk_cell BK512.out 0).trans rfl
              have hfz44_0 := blk_frozen BK512.out 0
              go_wp2_with (first | ((with_reducible refine gate_callee (f := 107) rfl ?_); refine goesL_ (some 43) rfl rfl Tryz.func107 (by kernel_rfl) rfl #[.agg #[.slice A0_0 l0_0.length c0_0], .string (rdOf ByteArray.empty t516 x15_1)] rfl el ?_; (with_reducible refine (impl_symbolIndex.calls kj11 _ _ l0_0 (rdOf ByteArray.empty t516 x15_1) t524 _ ?side1 ?side2 A33.out).mono ?_); (case side1 => exact cq (Kd.C_below HR0_0.out HB.out)); (case side2 => exact HC0_0.out); rintro e w45 ⟨rfl, hb⟩; refine ⟨_, rfl, ?_⟩; have n0_ := am (Kd.R_below (rq HO_6.out) hb); have n1_ := am (Kd.R_below (rq HO_13.out) hb); have n2_ := am (blk_below (bq BK512.out) hb); have n3_ := am (below_step (hs HB.out) hb); clear HO_6 HO_13 BK512 HB; revert n0_ n1_ n2_ n3_; intro HO_6 HO_13 BK512 HB; (try clear hb); (try clear hb2); (try clear hgw); (try clear hk); (try clear hi)) | ((with_reducible refine gate_builtin (b := .append) (xs := #[.tmp 40, .tmp 44]) rfl ?_); at_builtin; refine Kd.R_append (Kd.int .i64) (w0 := w) w.heap.size rfl (.tmp 40) (.tmp 44) 45 2 (.int .i64 0) 8 rfl Tryz.underlying45 info2 rfl (by decide) (by omega) u6 x6_1 t524 [.int .i64 t524] (fun _ => True) (fun _ => False) rfl rfl ?aP (fun _ hk => hk.elim) ?aF ?aO ?aB ?aS ?aL ?_; (case aP => exact rfl); (case aB => exact (hs HB.out)); (case aF => exact (fun _ _ => trivial)); (case aO => exact (rq HO_6.out)); (case aS => exact (below_size (hs HB.out))); (case aL => have := LMc34.out; omega); intro v526 w46 ho hb hg hat; rw [← Ny525.out] at ho; have n0_ := am (Kd.R_over' (rq HO_13.out) (Kd.R_typed (rq HO_6.out)) (by decide) hg); have n1_ := am (blk_grown (bq BK512.out) hg (Kd.R_ne HO_6.out BK512.out (by decide))); have n2_ := am (hb); have n3_ := am (ho); clear HO_13 BK512 HB HO_6; revert n0_ n1_ n2_ n3_; intro HO_13 BK512 HB HO527; clear ho hb hg hat; obtain ⟨Ao47, co47, eo47⟩ := Kd.R_slice HO527.out; subst eo47; have p528 : 0 ≤ ((ji35) : Int) := of_decide_eq_true (by first | (with_reducible assumption) | assumption); have q528 : (ji35) < (y525.length : Int) := of_decide_eq_true (by first | (with_reducible assumption) | assumption); obtain ⟨ad528, e528, hx528_0⟩ := Kd.at_int (Kd.R_reads' HO527.out).2.2 (ji35) p528 q528; cases e528; replace p528 := eq_true p528; replace q528 := eq_true q528))
              go_ret2
              exact ⟨_, by first | rfl | (simp [errW_none, errW_some] <;> rfl) | (simp only [← hji35]; first | rfl | (simp [errW_none, errW_some] <;> rfl)) | (simp [*, errW_none, errW_some] <;> rfl), by first | exact Kd.R_nil _ _ _ _ _ | exact Kd.N_nil _ _ _ _ _ | exact Kd.V_nil _ _ _ _ _ | exact Kd.Q_nil _ _ _ _ _ | exact Kd.S_nil _ _ _ _ _, by exact hs HB.out⟩
            ·rw [if_neg c38] at H
             have c38b0 : ((rd y525 (ji35)) == (-1)) = false := beq_eq_false_iff_ne.mpr c38
             have c38b1 : ((rd y525 (ji35)) != (-1)) = true := bne_iff_ne.mpr c38
             have H' := am H
             clear H
             have hcz48_0 : wc.cell? ⟨gb512, 0, none⟩ = some (.slice A0_0 l0_0.length c0_0) := (blk_cell BK512.out 0).trans rfl
             have hfz48_0 := blk_frozen BK512.out 0
             go_wp2_with (first | ((with_reducible refine gate_callee (f := 107) rfl ?_); refine goesL_ (some 43) rfl rfl Tryz.func107 (by kernel_rfl) rfl #[.agg #[.slice A0_0 l0_0.length c0_0], .string (rdOf ByteArray.empty t516 x15_1)] rfl el ?_; (with_reducible refine (impl_symbolIndex.calls kj11 _ _ l0_0 (rdOf ByteArray.empty t516 x15_1) t524 _ ?side1 ?side2 A33.out).mono ?_); (case side1 => exact cq (Kd.C_below HR0_0.out HB.out)); (case side2 => exact HC0_0.out); rintro e w49 ⟨rfl, hb⟩; refine ⟨_, rfl, ?_⟩; have n0_ := am (Kd.R_below (rq HO_6.out) hb); have n1_ := am (Kd.R_below (rq HO_13.out) hb); have n2_ := am (blk_below (bq BK512.out) hb); have n3_ := am (below_step (hs HB.out) hb); clear HO_6 HO_13 BK512 HB; revert n0_ n1_ n2_ n3_; intro HO_6 HO_13 BK512 HB; (try clear hb); (try clear hb2); (try clear hgw); (try clear hk); (try clear hi)) | ((with_reducible refine gate_builtin (b := .append) (xs := #[.tmp 40, .tmp 44]) rfl ?_); at_builtin; refine Kd.R_append (Kd.int .i64) (w0 := w) w.heap.size rfl (.tmp 40) (.tmp 44) 45 2 (.int .i64 0) 8 rfl Tryz.underlying45 info2 rfl (by decide) (by omega) u6 x6_1 t524 [.int .i64 t524] (fun _ => True) (fun _ => False) rfl rfl ?aP (fun _ hk => hk.elim) ?aF ?aO ?aB ?aS ?aL ?_; (case aP => exact rfl); (case aB => exact (hs HB.out)); (case aF => exact (fun _ _ => trivial)); (case aO => exact (rq HO_6.out)); (case aS => exact (below_size (hs HB.out))); (case aL => have := LMc34.out; omega); intro v526 w50 ho hb hg hat; rw [← Ny525.out] at ho; have n0_ := am (Kd.R_over' (rq HO_13.out) (Kd.R_typed (rq HO_6.out)) (by decide) hg); have n1_ := am (blk_grown (bq BK512.out) hg (Kd.R_ne HO_6.out BK512.out (by decide))); have n2_ := am (hb); have n3_ := am (ho); clear HO_13 BK512 HB HO_6; revert n0_ n1_ n2_ n3_; intro HO_13 BK512 HB HO527; clear ho hb hg hat; obtain ⟨Ao51, co51, eo51⟩ := Kd.R_slice HO527.out; subst eo51; have p528 : 0 ≤ ((ji35) : Int) := of_decide_eq_true (by first | (with_reducible assumption) | assumption); have q528 : (ji35) < (y525.length : Int) := of_decide_eq_true (by first | (with_reducible assumption) | assumption); obtain ⟨ad528, e528, hx528_0⟩ := Kd.at_int (Kd.R_reads' HO527.out).2.2 (ji35) p528 q528; cases e528; replace p528 := eq_true p528; replace q528 := eq_true q528))
             go_roundg kj11
             case measure => have := HK1.out; have := HJ11.out; omega
             case rel => exact ⟨(y525), (wrap64 (x15_1 + 1)), (by first | rfl | (simp; done) | (simp [*]; done)), H', ⟨by have := HK1.out; have := HJ11.out; omega⟩, ⟨by (with_reducible repeat (first | apply Kd.R_alloc | apply Kd.R_drewN | apply Kd.R_drew)); exact HO527.out⟩, ⟨by (with_reducible repeat (first | apply Kd.R_alloc | apply Kd.R_drewN | apply Kd.R_drew)); exact HO_13.out⟩, ⟨by refine bq ?_; exact BK512.out⟩, ⟨by exact hs HB.out⟩⟩
           ·rw [if_neg c37] at H
            exact absurd H (by simp)
          ·rw [if_neg c36] at H
           exact absurd H (by simp)
         ·rw [if_neg c34] at H
          exact absurd H (by simp)
     ·rw [if_neg c11] at H
      exact absurd H (by simp)
    ·rw [if_neg c10] at H
     exact absurd H (by simp)
   ·rw [if_neg c9] at H
    have c9b0 : decide (x15_1 < (t516.length : Int)) = false := decide_eq_false c9
    clear c9
    replace H := Option.bind_eq_some_iff.mp H
    obtain ⟨t529, A520, H⟩ := H
    replace H : (if t529 = 0 then ((impl_textAt.f k1 l0_0 x6_1 0).bind fun t530 => (if t530.toList = a1.toList then (some (x6_1, true)) else (some (([] : List Int), false)))) else (some (([] : List Int), false))) = some (r1, r2) := H
    have A52 := am A520
    clear A520
    by_cases c53 : t529 = 0
    ·rw [if_pos c53] at H
     have c53b0 : (t529 == 0) = true := beq_iff_eq.mpr c53
     have c53b1 : (t529 != 0) = false := bne_eq_false_iff_eq.mpr c53
     clear c53
     replace H := Option.bind_eq_some_iff.mp H
     obtain ⟨t530, A540, H⟩ := H
     replace H : (if t530.toList = a1.toList then (some (x6_1, true)) else (some (([] : List Int), false))) = some (r1, r2) := H
     have A54 := am A540
     clear A540
     by_cases c55 : t530.toList = a1.toList
     ·rw [if_pos c55] at H
      have c55b0 : (t530.toList == a1.toList) = true := beq_iff_eq.mpr c55
      have c55b1 : (t530.toList != a1.toList) = false := bne_eq_false_iff_eq.mpr c55
      clear c55
      simp only [Option.some.injEq, Prod.mk.injEq] at H
      obtain ⟨rfl, rfl⟩ := H
      have hcz56_0 : wr.cell? ⟨gb512, 0, none⟩ = some (.slice A0_0 l0_0.length c0_0) := (blk_cell BK512.out 0).trans rfl
      have hfz56_0 := blk_frozen BK512.out 0
      obtain ⟨Ao57, co57, eo57⟩ := Kd.R_slice HO_6.out
      subst eo57
      go_wp2_with (first | ((with_reducible refine gate_callee (f := 71) rfl ?_); refine goesL_ (some 60) rfl rfl Tryz.func71 (by kernel_rfl) rfl #[.agg #[.slice A0_0 l0_0.length c0_0], .slice Ao57 x6_1.length co57] rfl el ?_; (with_reducible refine (impl_TermFault.calls k1 _ _ l0_0 _ _ x6_1 t529 _ ?side1 ?side2 ?side3 ?side4 A52.out).mono ?_); (case side1 => exact cq (Kd.C_below HR0_0.out HB.out)); (case side2 => exact HC0_0.out); (case side3 => repeat (first | exact (Kd.R_reads' HO_6.out).2.2 | (with_reducible refine Kd.C_alloc ?_ _) | (with_reducible refine Kd.C_drewN ?_ _) | (with_reducible refine Kd.C_drew ?_))); (case side4 => exact (Kd.R_reads' HO_6.out).2.1); rintro e w58 ⟨rfl, hb⟩; refine ⟨_, rfl, ?_⟩; have n0_ := am (Kd.R_below (rq HO_6.out) hb); have n1_ := am (Kd.R_below (rq HO_13.out) hb); have n2_ := am (blk_below (bq BK512.out) hb); have n3_ := am (below_step (hs HB.out) hb); clear HO_6 HO_13 BK512 HB; revert n0_ n1_ n2_ n3_; intro HO_6 HO_13 BK512 HB; (try clear hb); (try clear hb2); (try clear hgw); (try clear hk); (try clear hi); have hcz59_0 : w58.cell? ⟨gb512, 0, none⟩ = some (.slice A0_0 l0_0.length c0_0) := (blk_cell BK512.out 0).trans rfl; have hfz59_0 := blk_frozen BK512.out 0) | (go_at_call 90; (with_reducible refine (impl_textAt.calls k1 _ _ l0_0 _ _ x6_1 0 t530 _ ?side1 ?side2 ?side3 ?side4 A54.out).mono ?_); (case side1 => exact cq (Kd.C_below HR0_0.out HB.out)); (case side2 => exact HC0_0.out); (case side3 => repeat (first | exact (Kd.R_reads' HO_6.out).2.2 | (with_reducible refine Kd.C_alloc ?_ _) | (with_reducible refine Kd.C_drewN ?_ _) | (with_reducible refine Kd.C_drew ?_))); (case side4 => exact (Kd.R_reads' HO_6.out).2.1); rintro e w60 ⟨rfl, hb⟩; have n0_ := am (Kd.R_below (rq HO_6.out) hb); have n1_ := am (Kd.R_below (rq HO_13.out) hb); have n2_ := am (blk_below (bq BK512.out) hb); have n3_ := am (below_step (hs HB.out) hb); clear HO_6 HO_13 BK512 HB; revert n0_ n1_ n2_ n3_; intro HO_6 HO_13 BK512 HB; (try clear hb); (try clear hb2); (try clear hgw); (try clear hk); (try clear hi)))
      go_ret2
      exact ⟨_, by first | rfl | (simp [errW_none, errW_some] <;> rfl) | (simp [*, errW_none, errW_some] <;> rfl), by (with_reducible repeat (first | apply Kd.R_alloc | apply Kd.R_drewN | apply Kd.R_drew)); exact HO_6.out, by exact hs HB.out⟩
     ·rw [if_neg c55] at H
      have c55b0 : (t530.toList == a1.toList) = false := beq_eq_false_iff_ne.mpr c55
      have c55b1 : (t530.toList != a1.toList) = true := bne_iff_ne.mpr c55
      simp only [Option.some.injEq, Prod.mk.injEq] at H
      obtain ⟨rfl, rfl⟩ := H
      have hcz61_0 : wr.cell? ⟨gb512, 0, none⟩ = some (.slice A0_0 l0_0.length c0_0) := (blk_cell BK512.out 0).trans rfl
      have hfz61_0 := blk_frozen BK512.out 0
      obtain ⟨Ao62, co62, eo62⟩ := Kd.R_slice HO_6.out
      subst eo62
      go_wp2_with (first | ((with_reducible refine gate_callee (f := 71) rfl ?_); refine goesL_ (some 60) rfl rfl Tryz.func71 (by kernel_rfl) rfl #[.agg #[.slice A0_0 l0_0.length c0_0], .slice Ao62 x6_1.length co62] rfl el ?_; (with_reducible refine (impl_TermFault.calls k1 _ _ l0_0 _ _ x6_1 t529 _ ?side1 ?side2 ?side3 ?side4 A52.out).mono ?_); (case side1 => exact cq (Kd.C_below HR0_0.out HB.out)); (case side2 => exact HC0_0.out); (case side3 => repeat (first | exact (Kd.R_reads' HO_6.out).2.2 | (with_reducible refine Kd.C_alloc ?_ _) | (with_reducible refine Kd.C_drewN ?_ _) | (with_reducible refine Kd.C_drew ?_))); (case side4 => exact (Kd.R_reads' HO_6.out).2.1); rintro e w63 ⟨rfl, hb⟩; refine ⟨_, rfl, ?_⟩; have n0_ := am (Kd.R_below (rq HO_6.out) hb); have n1_ := am (Kd.R_below (rq HO_13.out) hb); have n2_ := am (blk_below (bq BK512.out) hb); have n3_ := am (below_step (hs HB.out) hb); clear HO_6 HO_13 BK512 HB; revert n0_ n1_ n2_ n3_; intro HO_6 HO_13 BK512 HB; (try clear hb); (try clear hb2); (try clear hgw); (try clear hk); (try clear hi); have hcz64_0 : w63.cell? ⟨gb512, 0, none⟩ = some (.slice A0_0 l0_0.length c0_0) := (blk_cell BK512.out 0).trans rfl; have hfz64_0 := blk_frozen BK512.out 0) | (go_at_call 90; (with_reducible refine (impl_textAt.calls k1 _ _ l0_0 _ _ x6_1 0 t530 _ ?side1 ?side2 ?side3 ?side4 A54.out).mono ?_); (case side1 => exact cq (Kd.C_below HR0_0.out HB.out)); (case side2 => exact HC0_0.out); (case side3 => repeat (first | exact (Kd.R_reads' HO_6.out).2.2 | (with_reducible refine Kd.C_alloc ?_ _) | (with_reducible refine Kd.C_drewN ?_ _) | (with_reducible refine Kd.C_drew ?_))); (case side4 => exact (Kd.R_reads' HO_6.out).2.1); rintro e w65 ⟨rfl, hb⟩; have n0_ := am (Kd.R_below (rq HO_6.out) hb); have n1_ := am (Kd.R_below (rq HO_13.out) hb); have n2_ := am (blk_below (bq BK512.out) hb); have n3_ := am (below_step (hs HB.out) hb); clear HO_6 HO_13 BK512 HB; revert n0_ n1_ n2_ n3_; intro HO_6 HO_13 BK512 HB; (try clear hb); (try clear hb2); (try clear hgw); (try clear hk); (try clear hi)))
      go_ret2
      exact ⟨_, by first | rfl | (simp [errW_none, errW_some] <;> rfl) | (simp [*, errW_none, errW_some] <;> rfl), by first | exact Kd.R_nil _ _ _ _ _ | exact Kd.N_nil _ _ _ _ _ | exact Kd.V_nil _ _ _ _ _ | exact Kd.Q_nil _ _ _ _ _ | exact Kd.S_nil _ _ _ _ _, by exact hs HB.out⟩
    ·rw [if_neg c53] at H
     have c53b0 : (t529 == 0) = false := beq_eq_false_iff_ne.mpr c53
     have c53b1 : (t529 != 0) = true := bne_iff_ne.mpr c53
     simp only [Option.some.injEq, Prod.mk.injEq] at H
     obtain ⟨rfl, rfl⟩ := H
     have hcz66_0 : wr.cell? ⟨gb512, 0, none⟩ = some (.slice A0_0 l0_0.length c0_0) := (blk_cell BK512.out 0).trans rfl
     have hfz66_0 := blk_frozen BK512.out 0
     obtain ⟨Ao67, co67, eo67⟩ := Kd.R_slice HO_6.out
     subst eo67
     go_wp2_with (first | ((with_reducible refine gate_callee (f := 71) rfl ?_); refine goesL_ (some 60) rfl rfl Tryz.func71 (by kernel_rfl) rfl #[.agg #[.slice A0_0 l0_0.length c0_0], .slice Ao67 x6_1.length co67] rfl el ?_; (with_reducible refine (impl_TermFault.calls k1 _ _ l0_0 _ _ x6_1 t529 _ ?side1 ?side2 ?side3 ?side4 A52.out).mono ?_); (case side1 => exact cq (Kd.C_below HR0_0.out HB.out)); (case side2 => exact HC0_0.out); (case side3 => repeat (first | exact (Kd.R_reads' HO_6.out).2.2 | (with_reducible refine Kd.C_alloc ?_ _) | (with_reducible refine Kd.C_drewN ?_ _) | (with_reducible refine Kd.C_drew ?_))); (case side4 => exact (Kd.R_reads' HO_6.out).2.1); rintro e w68 ⟨rfl, hb⟩; refine ⟨_, rfl, ?_⟩; have n0_ := am (Kd.R_below (rq HO_6.out) hb); have n1_ := am (Kd.R_below (rq HO_13.out) hb); have n2_ := am (blk_below (bq BK512.out) hb); have n3_ := am (below_step (hs HB.out) hb); clear HO_6 HO_13 BK512 HB; revert n0_ n1_ n2_ n3_; intro HO_6 HO_13 BK512 HB; (try clear hb); (try clear hb2); (try clear hgw); (try clear hk); (try clear hi)))
     go_ret2
     exact ⟨_, by first | rfl | (simp [errW_none, errW_some] <;> rfl) | (simp [*, errW_none, errW_some] <;> rfl), by first | exact Kd.R_nil _ _ _ _ _ | exact Kd.N_nil _ _ _ _ _ | exact Kd.V_nil _ _ _ _ _ | exact Kd.Q_nil _ _ _ _ _ | exact Kd.S_nil _ _ _ _ _, by exact hs HB.out⟩
def impl_ReadEquation.f (k : Nat) (l0_0 : List (S125)) (a1 : ByteArray) : Option (Int × List Int × List Int) := (impl_SignatureFault.f k l0_0).bind fun t533 => (if t533 = 0 then ((strings_Cut.f a1 (⟨#[61]⟩ : ByteArray)).bind fun bt534 => ((impl_readTerm.f k l0_0 bt534.1).bind fun bt537 => ((impl_readTerm.f k l0_0 bt534.2.1).bind fun bt541 => (if bt534.2.2 = true then (if bt537.2 = true then (if bt541.2 = true then ((impl_EquationFault.f k l0_0 bt537.1 bt541.1).bind fun t546 => (if t546 = 0 then (some (0, bt537.1, bt541.1)) else (some (5, ([] : List Int), ([] : List Int))))) else (some (5, ([] : List Int), ([] : List Int)))) else (some (5, ([] : List Int), ([] : List Int)))) else (some (5, ([] : List Int), ([] : List Int))))))) else (some (t533, ([] : List Int), ([] : List Int))))
set_option maxHeartbeats 8000000 in
set_option maxRecDepth 100000 in
theorem impl_ReadEquation.calls (k : Nat) (A0_0 : Option Addr) (c0_0 : Nat) (l0_0 : List (S125)) (a1 : ByteArray) (r1 : Int) (r2 : List Int) (r3 : List Int) (w : World) (hr0_0 : Kd.C k125 w A0_0 l0_0.length l0_0) (hc0_0 : l0_0.length ≤ c0_0) (h : impl_ReadEquation.f k l0_0 a1 = some (r1, r2, r3)) (hM : CutVar w := by first | assumption | exact CutVar.below (by assumption) (by repeat (first | (with_reducible first | exact HB.out | apply below_alloc | apply pw_below_drewN | apply below_drew1 | refine below_set ?_ (Aside0.out ‹Aside0 (_ ≤ _)›)) | exact HB.out))) :
  Calls Tryz.prog 21 #[.agg #[.slice A0_0 l0_0.length c0_0], .string a1] w fun e w' => ∃ v1_ v2_ : Value, e = .returned (.agg #[.int .i64 r1, v1_, v2_]) ∧ Kd.R (Kd.int .i64) 2 w' w.heap.size (fun k_ => some k_ ≠ (v2_ : Value).ownBlock) v1_ r2 ∧ Kd.R (Kd.int .i64) 2 w' w.heap.size (fun k_ => some k_ ≠ (v1_ : Value).ownBlock) v2_ r3 ∧ Below w.heap.size w w' := by
 have hu34 := Tryz.underlying34
 have hu49 := Tryz.underlying49
 have hu47 := Tryz.underlying47
 have HR0_0 := am hr0_0
 have HC0_0 := am hc0_0
 clear hr0_0 hc0_0
 have HB := am (Below.refl w.heap.size w)
 have H : ((impl_SignatureFault.f k l0_0).bind fun t533 => (if t533 = 0 then ((strings_Cut.f a1 (⟨#[61]⟩ : ByteArray)).bind fun bt534 => ((impl_readTerm.f k l0_0 bt534.1).bind fun bt537 => ((impl_readTerm.f k l0_0 bt534.2.1).bind fun bt541 => (if bt534.2.2 = true then (if bt537.2 = true then (if bt541.2 = true then ((impl_EquationFault.f k l0_0 bt537.1 bt541.1).bind fun t546 => (if t546 = 0 then (some (0, bt537.1, bt541.1)) else (some (5, ([] : List Int), ([] : List Int))))) else (some (5, ([] : List Int), ([] : List Int)))) else (some (5, ([] : List Int), ([] : List Int)))) else (some (5, ([] : List Int), ([] : List Int))))))) else (some (t533, ([] : List Int), ([] : List Int))))) = some (r1, r2, r3) := h
 clear h
 replace H := Option.bind_eq_some_iff.mp H
 obtain ⟨t533, A30, H⟩ := H
 replace H : (if t533 = 0 then ((strings_Cut.f a1 (⟨#[61]⟩ : ByteArray)).bind fun bt534 => ((impl_readTerm.f k l0_0 bt534.1).bind fun bt537 => ((impl_readTerm.f k l0_0 bt534.2.1).bind fun bt541 => (if bt534.2.2 = true then (if bt537.2 = true then (if bt541.2 = true then ((impl_EquationFault.f k l0_0 bt537.1 bt541.1).bind fun t546 => (if t546 = 0 then (some (0, bt537.1, bt541.1)) else (some (5, ([] : List Int), ([] : List Int))))) else (some (5, ([] : List Int), ([] : List Int)))) else (some (5, ([] : List Int), ([] : List Int)))) else (some (5, ([] : List Int), ([] : List Int))))))) else (some (t533, ([] : List Int), ([] : List Int)))) = some (r1, r2, r3) := H
 have A3 := am A30
 clear A30
 by_cases c4 : t533 = 0
 ·rw [if_pos c4] at H
  have c4b0 : (t533 == 0) = true := beq_iff_eq.mpr c4
  have c4b1 : (t533 != 0) = false := bne_eq_false_iff_eq.mpr c4
  clear c4
  replace H := Option.bind_eq_some_iff.mp H
  obtain ⟨⟨t534, t535, t536⟩, A50, H⟩ := H
  replace H : ((impl_readTerm.f k l0_0 t534).bind fun bt537 => ((impl_readTerm.f k l0_0 t535).bind fun bt541 => (if t536 = true then (if bt537.2 = true then (if bt541.2 = true then ((impl_EquationFault.f k l0_0 bt537.1 bt541.1).bind fun t546 => (if t546 = 0 then (some (0, bt537.1, bt541.1)) else (some (5, ([] : List Int), ([] : List Int))))) else (some (5, ([] : List Int), ([] : List Int)))) else (some (5, ([] : List Int), ([] : List Int)))) else (some (5, ([] : List Int), ([] : List Int)))))) = some (r1, r2, r3) := H
  have A5 := am A50
  clear A50
  replace H := Option.bind_eq_some_iff.mp H
  obtain ⟨⟨t537, t540⟩, A60, H⟩ := H
  replace H : ((impl_readTerm.f k l0_0 t535).bind fun bt541 => (if t536 = true then (if t540 = true then (if bt541.2 = true then ((impl_EquationFault.f k l0_0 t537 bt541.1).bind fun t546 => (if t546 = 0 then (some (0, t537, bt541.1)) else (some (5, ([] : List Int), ([] : List Int))))) else (some (5, ([] : List Int), ([] : List Int)))) else (some (5, ([] : List Int), ([] : List Int)))) else (some (5, ([] : List Int), ([] : List Int))))) = some (r1, r2, r3) := H
  have A6 := am A60
  clear A60
  replace H := Option.bind_eq_some_iff.mp H
  obtain ⟨⟨t541, t544⟩, A70, H⟩ := H
  replace H : (if t536 = true then (if t540 = true then (if t544 = true then ((impl_EquationFault.f k l0_0 t537 t541).bind fun t546 => (if t546 = 0 then (some (0, t537, t541)) else (some (5, ([] : List Int), ([] : List Int))))) else (some (5, ([] : List Int), ([] : List Int)))) else (some (5, ([] : List Int), ([] : List Int)))) else (some (5, ([] : List Int), ([] : List Int)))) = some (r1, r2, r3) := H
  have A7 := am A70
  clear A70
  by_cases c8 : t536 = true
  ·subst c8
   have H1 : (if t540 = true then (if t544 = true then ((impl_EquationFault.f k l0_0 t537 t541).bind fun t546 => (if t546 = 0 then (some (0, t537, t541)) else (some (5, ([] : List Int), ([] : List Int))))) else (some (5, ([] : List Int), ([] : List Int)))) else (some (5, ([] : List Int), ([] : List Int)))) = some (r1, r2, r3) := by rw [if_pos rfl] at H; exact H
   clear H
   have H := H1
   clear H1
   by_cases c9 : t540 = true
   ·subst c9
    have H1 : (if t544 = true then ((impl_EquationFault.f k l0_0 t537 t541).bind fun t546 => (if t546 = 0 then (some (0, t537, t541)) else (some (5, ([] : List Int), ([] : List Int))))) else (some (5, ([] : List Int), ([] : List Int)))) = some (r1, r2, r3) := by rw [if_pos rfl] at H; exact H
    clear H
    have H := H1
    clear H1
    by_cases c10 : t544 = true
    ·subst c10
     have H1 : ((impl_EquationFault.f k l0_0 t537 t541).bind fun t546 => (if t546 = 0 then (some (0, t537, t541)) else (some (5, ([] : List Int), ([] : List Int))))) = some (r1, r2, r3) := by rw [if_pos rfl] at H; exact H
     clear H
     have H := H1
     clear H1
     replace H := Option.bind_eq_some_iff.mp H
     obtain ⟨t546, A110, H⟩ := H
     replace H : (if t546 = 0 then (some (0, t537, t541)) else (some (5, ([] : List Int), ([] : List Int)))) = some (r1, r2, r3) := H
     have A11 := am A110
     clear A110
     by_cases c12 : t546 = 0
     ·rw [if_pos c12] at H
      have c12b0 : (t546 == 0) = true := beq_iff_eq.mpr c12
      have c12b1 : (t546 != 0) = false := bne_eq_false_iff_eq.mpr c12
      clear c12
      simp only [Option.some.injEq, Prod.mk.injEq] at H
      obtain ⟨rfl, rfl, rfl⟩ := H
      go_enter Tryz.func21, Tryz.ntmps21
      go_wp2_with (first | ((with_reducible refine gate_dst (N := 2) rfl ?_); refine box_event ?hg (N := 2) ?hd (cs := #[.slice A0_0 l0_0.length c0_0]) (t := 34) ?hr ?_; (case hd => rfl); (case hg => rfl); (case hr => first | (go_simp; done) | (go_simp; rfl)); intro gb531 hg w13 hbox hb; have n0_ := am (below_step (hq HB.out) hb); have n1_ := am (hbox); have n2_ := am (bz hg (hq HB.out)); have n3_ := n2_; clear HB; revert n0_ n1_ n2_ n3_; intro HB BK531 GW531 GE531; clear hb hbox hg) | ((with_reducible refine gate_dst (N := 4) rfl ?_); refine box_event ?hg (N := 4) ?hd (cs := #[.int .i64 0, .slice none 0 0, .slice none 0 0]) (t := 49) ?hr ?_; (case hd => rfl); (case hg => rfl); (case hr => first | (go_simp; done) | (go_simp; rfl)); intro gb532 hg w14 hbox hb; have n0_ := am (blk_below (bq BK531.out) hb); have n1_ := am (below_step (hs HB.out) hb); have n2_ := am (hbox); have n3_ := am (bz hg (hs HB.out)); have n4_ := n3_; have n5_ := am ((by rw [hg]; exact Nat.ne_of_lt (blk_lt (bq BK531.out)) : gb531 ≠ gb532)); have n6_ := am ((by rw [hg]; exact Nat.ne_of_gt (blk_lt (bq BK531.out)) : gb532 ≠ gb531)); clear BK531 HB; revert n0_ n1_ n2_ n3_ n4_ n5_ n6_; intro BK531 HB BK532 GW532 GE532 NB531_532 NB532_531; clear hb hbox hg; have hnb15 := NB531_532.out; have hnc15 := NB532_531.out; have hcz16_0 : w14.cell? ⟨gb531, 0, none⟩ = some (.slice A0_0 l0_0.length c0_0) := (blk_cell BK531.out 0).trans rfl; have hfz16_0 := blk_frozen BK531.out 0) | ((with_reducible refine gate_callee (f := 61) rfl ?_); refine goesL_ (some 15) rfl rfl Tryz.func61 (by kernel_rfl) rfl #[.agg #[.slice A0_0 l0_0.length c0_0]] rfl el ?_; (with_reducible refine (impl_SignatureFault.calls k _ _ l0_0 t533 _ ?side1 ?side2 A3.out).mono ?_); (case side1 => exact cq (Kd.C_below HR0_0.out HB.out)); (case side2 => exact HC0_0.out); rintro e w17 ⟨rfl, hb⟩; refine ⟨_, rfl, ?_⟩; have n0_ := am (blk_below (bq BK531.out) hb); have n1_ := am (blk_below (bq BK532.out) hb); have n2_ := am (below_step (hs HB.out) hb); clear BK531 BK532 HB; revert n0_ n1_ n2_; intro BK531 BK532 HB; (try clear hb); (try clear hb2); (try clear hgw); (try clear hk); (try clear hi)) | ((with_reducible refine gate_callee (f := 62) rfl ?_); refine goesL_ (some 22) rfl rfl Tryz.func62 (by kernel_rfl) rfl #[.string a1, .string (⟨#[61]⟩ : ByteArray)] rfl el ?_; (with_reducible refine (strings_Cut.calls a1 (⟨#[61]⟩ : ByteArray) t534 t535 true _ A5.out).mono ?_); rintro e w18 ⟨rfl, hb⟩; refine ⟨_, rfl, ?_⟩; have n0_ := am (blk_below (bq BK531.out) hb); have n1_ := am (blk_below (bq BK532.out) hb); have n2_ := am (below_step (hs HB.out) hb); clear BK531 BK532 HB; revert n0_ n1_ n2_; intro BK531 BK532 HB; (try clear hb); (try clear hb2); (try clear hgw); (try clear hk); (try clear hi); have hcz19_0 : w18.cell? ⟨gb531, 0, none⟩ = some (.slice A0_0 l0_0.length c0_0) := (blk_cell BK531.out 0).trans rfl; have hfz19_0 := blk_frozen BK531.out 0) | ((with_reducible refine gate_callee (f := 63) rfl ?_); refine goesL_ (some 29) rfl rfl Tryz.func63 (by kernel_rfl) rfl #[.agg #[.slice A0_0 l0_0.length c0_0], .string t534] rfl el ?_; (with_reducible refine (impl_readTerm.calls k _ _ l0_0 t534 t537 true _ ?side1 ?side2 A6.out).mono ?_); (case side1 => exact cq (Kd.C_below HR0_0.out HB.out)); (case side2 => exact HC0_0.out); rintro e w20 ⟨v538, rfl, ho0, hb⟩; refine ⟨_, rfl, ?_⟩; have n0_ := am (Kd.R_lower ho0 (below_size (hs HB.out))); have n1_ := am (blk_below (bq BK531.out) hb); have n2_ := am (blk_below (bq BK532.out) hb); have n3_ := am (below_step (hs HB.out) hb); clear BK531 BK532 HB; revert n0_ n1_ n2_ n3_; intro HO539 BK531 BK532 HB; (try clear hb); (try clear hb2); (try clear hgw); (try clear hk); (try clear hi); (try clear ho0); have hcz21_0 : w20.cell? ⟨gb531, 0, none⟩ = some (.slice A0_0 l0_0.length c0_0) := (blk_cell BK531.out 0).trans rfl; have hfz21_0 := blk_frozen BK531.out 0) | ((with_reducible refine gate_callee (f := 63) rfl ?_); refine goesL_ (some 35) rfl rfl Tryz.func63 (by kernel_rfl) rfl #[.agg #[.slice A0_0 l0_0.length c0_0], .string t535] rfl el ?_; (with_reducible refine (impl_readTerm.calls k _ _ l0_0 t535 t541 true _ ?side1 ?side2 A7.out).mono ?_); (case side1 => exact cq (Kd.C_below HR0_0.out HB.out)); (case side2 => exact HC0_0.out); rintro e w22 ⟨v542, rfl, ho0, hb⟩; refine ⟨_, rfl, ?_⟩; have n0_ := am (Kd.R_elder' (rq HO539.out) (Kd.R_base ho0) hb); have n1_ := am (Kd.R_lower (Kd.R_new' ho0 (Kd.R_lt (rq HO539.out))) (below_size (hs HB.out))); have n2_ := am (blk_below (bq BK531.out) hb); have n3_ := am (blk_below (bq BK532.out) hb); have n4_ := am (below_step (hs HB.out) hb); clear HO539 BK531 BK532 HB; revert n0_ n1_ n2_ n3_ n4_; intro HO539 HO543 BK531 BK532 HB; (try clear hb); (try clear hb2); (try clear hgw); (try clear hk); (try clear hi); (try clear ho0); obtain ⟨Ao23, co23, eo23⟩ := Kd.R_slice HO543.out; subst eo23; obtain ⟨Ao24, co24, eo24⟩ := Kd.R_slice HO539.out; subst eo24) | ((with_reducible refine gate_dst (N := 13) rfl ?_); refine box_event ?hg (N := 13) ?hd (cs := #[.slice none 0 0, .slice none 0 0]) (t := 47) ?hr ?_; (case hd => rfl); (case hg => rfl); (case hr => first | (go_simp; done) | (go_simp; rfl)); intro gb545 hg w25 hbox hb; have n0_ := am (Kd.R_below (rq HO539.out) hb); have n1_ := am (Kd.R_below (rq HO543.out) hb); have n2_ := am (blk_below (bq BK531.out) hb); have n3_ := am (blk_below (bq BK532.out) hb); have n4_ := am (below_step (hs HB.out) hb); have n5_ := am (hbox); have n6_ := am (bz hg (hs HB.out)); have n7_ := n6_; have n8_ := am ((by rw [hg]; exact Nat.ne_of_lt (blk_lt (bq BK531.out)) : gb531 ≠ gb545)); have n9_ := am ((by rw [hg]; exact Nat.ne_of_gt (blk_lt (bq BK531.out)) : gb545 ≠ gb531)); have n10_ := am ((by rw [hg]; exact Nat.ne_of_lt (blk_lt (bq BK532.out)) : gb532 ≠ gb545)); have n11_ := am ((by rw [hg]; exact Nat.ne_of_gt (blk_lt (bq BK532.out)) : gb545 ≠ gb532)); clear HO539 HO543 BK531 BK532 HB; revert n0_ n1_ n2_ n3_ n4_ n5_ n6_ n7_ n8_ n9_ n10_ n11_; intro HO539 HO543 BK531 BK532 HB BK545 GW545 GE545 NB531_545 NB545_531 NB532_545 NB545_532; clear hb hbox hg; have hnb26 := NB545_531.out; have hnc26 := NB531_545.out; have hnb27 := NB545_532.out; have hnc27 := NB532_545.out; have hcz28_0 : w25.cell? ⟨gb545, 0, none⟩ = some (.slice none 0 0) := (blk_cell BK545.out 0).trans rfl; have hcz28_1 : w25.cell? ⟨gb545, 1, none⟩ = some (.slice none 0 0) := (blk_cell BK545.out 1).trans rfl; have hfz28_0 := blk_frozen BK545.out 0; have hfz28_1 := blk_frozen BK545.out 1) | ((with_reducible refine gate_store (t := 47) (p := 13) rfl ?_); refine store_event (t := 47) (p := 13) (v := ?vo_w29) (w1 := ((w25.setCell ⟨gb545, 0, none⟩ (.slice Ao24 t537.length co24)).setCell ⟨gb545, 1, none⟩ (.slice Ao23 t541.length co23))) ?hg ?ho ?hn ?hr ?_; (case ho => rfl); (case hg => rfl); (case hn => rfl); (case hr => first | (go_simp; done) | (go_simp; rfl)); intro w29 hw; have n0_ : Aside0 (Kd.R (Kd.int .i64) 2 w29 w.heap.size (fun k_ => some k_ ≠ (.slice Ao23 t541.length co23 : Value).ownBlock) (.slice Ao24 t537.length co24) t537) := ⟨(by rw [hw]; exact (by (with_reducible repeat (first | apply Kd.R_alloc | apply Kd.R_drewN | apply Kd.R_drew)); exact Kd.R_mono (Kd.R_far (p := ⟨gb545, 1, none⟩) (Kd.R_far (p := ⟨gb545, 0, none⟩) (Kd.R_types HO539.out BK545.out (by decide)) (fun _ hk => hk.2) (.slice Ao24 t537.length co24)) (fun _ hk => hk.2) (.slice Ao23 t541.length co23)) (fun _ hk => hk.1.2)))⟩; have n1_ : Aside0 (Kd.R (Kd.int .i64) 2 w29 w.heap.size (fun k_ => some k_ ≠ (.slice Ao24 t537.length co24 : Value).ownBlock) (.slice Ao23 t541.length co23) t541) := ⟨(by rw [hw]; exact (by (with_reducible repeat (first | apply Kd.R_alloc | apply Kd.R_drewN | apply Kd.R_drew)); exact Kd.R_mono (Kd.R_far (p := ⟨gb545, 1, none⟩) (Kd.R_far (p := ⟨gb545, 0, none⟩) (Kd.R_types HO543.out BK545.out (by decide)) (fun _ hk => hk.2) (.slice Ao24 t537.length co24)) (fun _ hk => hk.2) (.slice Ao23 t541.length co23)) (fun _ hk => hk.1.2)))⟩; have n2_ : Aside0 (w29.heap[gb531]? = some (.cells #[.slice A0_0 l0_0.length c0_0] 34 (0, 0))) := ⟨(by rw [hw]; exact (by refine bq ?_; refine blk_far ?_ NB531_545.out _; refine bq ?_; refine blk_far ?_ NB531_545.out _; refine bq ?_; exact BK531.out))⟩; have n3_ : Aside0 (w29.heap[gb532]? = some (.cells #[.int .i64 0, .slice none 0 0, .slice none 0 0] 49 (0, 0))) := ⟨(by rw [hw]; exact (by refine bq ?_; refine blk_far ?_ NB532_545.out _; refine bq ?_; refine blk_far ?_ NB532_545.out _; refine bq ?_; exact BK532.out))⟩; have n4_ : Aside0 (w29.heap[gb545]? = some (.cells #[.slice Ao24 t537.length co24, .slice Ao23 t541.length co23] 47 (0, 0))) := ⟨(by rw [hw]; exact (by refine bq ?_; refine blk_put (cs := #[.slice Ao24 t537.length co24, .slice none 0 0]) ?_ 1 _ rfl; refine bq ?_; refine blk_put (cs := #[.slice none 0 0, .slice none 0 0]) ?_ 0 _ rfl; refine bq ?_; exact BK545.out))⟩; have n5_ : Aside0 (Below w.heap.size w w29) := ⟨(by rw [hw]; exact (hs HB.out))⟩; clear hw HO539 HO543 BK531 BK532 BK545 HB; revert n0_ n1_ n2_ n3_ n4_ n5_; intro HO539 HO543 BK531 BK532 BK545 HB; have hcz30_0 : w29.cell? ⟨gb531, 0, none⟩ = some (.slice A0_0 l0_0.length c0_0) := (blk_cell BK531.out 0).trans rfl; have hfz30_0 := blk_frozen BK531.out 0; have hcz31_0 : w29.cell? ⟨gb545, 0, none⟩ = some (.slice Ao24 t537.length co24) := (blk_cell BK545.out 0).trans rfl; have hcz31_1 : w29.cell? ⟨gb545, 1, none⟩ = some (.slice Ao23 t541.length co23) := (blk_cell BK545.out 1).trans rfl; have hfz31_0 := blk_frozen BK545.out 0; have hfz31_1 := blk_frozen BK545.out 1) | (go_at_call 31; (with_reducible refine (impl_EquationFault.calls k _ _ l0_0 (fun k_ => some k_ = (.slice Ao24 t537.length co24 : Value).ownBlock) _ _ t537 (fun k_ => some k_ = (.slice Ao23 t541.length co23 : Value).ownBlock) _ _ t541 t546 _ ?side1 ?side2 ?side3 ?side4 A11.out).mono ?_); (case side1 => exact cq (Kd.C_below HR0_0.out HB.out)); (case side2 => exact HC0_0.out); (case side3 => exact Kd.R_V (Kd.R_tight rfl (Kd.R_types (Kd.R_types (Kd.R_types (HO539.out) BK531.out (by decide)) BK532.out (by decide)) BK545.out (by decide)))); (case side4 => exact Kd.R_V (Kd.R_tight rfl (Kd.R_types (Kd.R_types (Kd.R_types (HO543.out) BK531.out (by decide)) BK532.out (by decide)) BK545.out (by decide)))); rintro e w32 ⟨rfl, hb⟩; have n0_ := am (Kd.R_below (rq HO539.out) hb); have n1_ := am (Kd.R_below (rq HO543.out) hb); have n2_ := am (blk_below (bq BK531.out) hb); have n3_ := am (blk_below (bq BK532.out) hb); have n4_ := am (blk_below (bq BK545.out) hb); have n5_ := am (below_step (hs HB.out) hb); clear HO539 HO543 BK531 BK532 BK545 HB; revert n0_ n1_ n2_ n3_ n4_ n5_; intro HO539 HO543 BK531 BK532 BK545 HB; (try clear hb); (try clear hb2); (try clear hgw); (try clear hk); (try clear hi); have hcz33_0 : w32.cell? ⟨gb545, 0, none⟩ = some (.slice Ao24 t537.length co24) := (blk_cell BK545.out 0).trans rfl; have hcz33_1 : w32.cell? ⟨gb545, 1, none⟩ = some (.slice Ao23 t541.length co23) := (blk_cell BK545.out 1).trans rfl; have hfz33_0 := blk_frozen BK545.out 0; have hfz33_1 := blk_frozen BK545.out 1; have hcz34_0 : w32.cell? ⟨gb532, 0, none⟩ = some (.int .i64 0) := (blk_cell BK532.out 0).trans rfl; have hcz34_1 : w32.cell? ⟨gb532, 1, none⟩ = some (.slice none 0 0) := (blk_cell BK532.out 1).trans rfl; have hcz34_2 : w32.cell? ⟨gb532, 2, none⟩ = some (.slice none 0 0) := (blk_cell BK532.out 2).trans rfl; have hfz34_0 := blk_frozen BK532.out 0; have hfz34_1 := blk_frozen BK532.out 1; have hfz34_2 := blk_frozen BK532.out 2))
      refine bodyPost_ret (results_cell_row rfl _ _ gb532 49 #[.int .i64 0, .slice Ao24 t537.length co24, .slice Ao23 t541.length co23] (0, 0) _ rfl (by refine bq ?_; refine blk_put (cs := #[.int .i64 0, .slice Ao24 t537.length co24, .slice none 0 0]) ?_ 2 _ rfl; refine bq ?_; refine blk_put (cs := #[.int .i64 0, .slice none 0 0, .slice none 0 0]) ?_ 1 _ rfl; refine bq ?_; refine blk_put (cs := #[.int .i64 0, .slice none 0 0, .slice none 0 0]) ?_ 0 _ rfl; refine bq ?_; exact BK532.out) Tryz.underlying49 rfl (by kernel_rfl)) rfl ?_
      exact ⟨_, _, by first | rfl | (simp [errW_none, errW_some] <;> rfl) | (simp [*, errW_none, errW_some] <;> rfl), by (with_reducible repeat (first | apply Kd.R_alloc | apply Kd.R_drewN | apply Kd.R_drew)); exact Kd.R_mono (Kd.R_far (p := ⟨gb532, 2, none⟩) (Kd.R_far (p := ⟨gb532, 1, none⟩) (Kd.R_far (p := ⟨gb532, 0, none⟩) (Kd.R_types HO539.out BK532.out (by decide)) (fun _ hk => hk.2) (.int .i64 0)) (fun _ hk => hk.2) (.slice Ao24 t537.length co24)) (fun _ hk => hk.2) (.slice Ao23 t541.length co23)) (fun _ hk => hk.1), by (with_reducible repeat (first | apply Kd.R_alloc | apply Kd.R_drewN | apply Kd.R_drew)); exact Kd.R_mono (Kd.R_far (p := ⟨gb532, 2, none⟩) (Kd.R_far (p := ⟨gb532, 1, none⟩) (Kd.R_far (p := ⟨gb532, 0, none⟩) (Kd.R_types HO543.out BK532.out (by decide)) (fun _ hk => hk.2) (.int .i64 0)) (fun _ hk => hk.2) (.slice Ao24 t537.length co24)) (fun _ hk => hk.2) (.slice Ao23 t541.length co23)) (fun _ hk => hk.1), by exact hs HB.out⟩
     ·rw [if_neg c12] at H
      have c12b0 : (t546 == 0) = false := beq_eq_false_iff_ne.mpr c12
      have c12b1 : (t546 != 0) = true := bne_iff_ne.mpr c12
      simp only [Option.some.injEq, Prod.mk.injEq] at H
      obtain ⟨rfl, rfl, rfl⟩ := H
      go_enter Tryz.func21, Tryz.ntmps21
      go_wp2_with (first | ((with_reducible refine gate_dst (N := 2) rfl ?_); refine box_event ?hg (N := 2) ?hd (cs := #[.slice A0_0 l0_0.length c0_0]) (t := 34) ?hr ?_; (case hd => rfl); (case hg => rfl); (case hr => first | (go_simp; done) | (go_simp; rfl)); intro gb531 hg w35 hbox hb; have n0_ := am (below_step (hq HB.out) hb); have n1_ := am (hbox); have n2_ := am (bz hg (hq HB.out)); have n3_ := n2_; clear HB; revert n0_ n1_ n2_ n3_; intro HB BK531 GW531 GE531; clear hb hbox hg) | ((with_reducible refine gate_dst (N := 4) rfl ?_); refine box_event ?hg (N := 4) ?hd (cs := #[.int .i64 0, .slice none 0 0, .slice none 0 0]) (t := 49) ?hr ?_; (case hd => rfl); (case hg => rfl); (case hr => first | (go_simp; done) | (go_simp; rfl)); intro gb532 hg w36 hbox hb; have n0_ := am (blk_below (bq BK531.out) hb); have n1_ := am (below_step (hs HB.out) hb); have n2_ := am (hbox); have n3_ := am (bz hg (hs HB.out)); have n4_ := n3_; have n5_ := am ((by rw [hg]; exact Nat.ne_of_lt (blk_lt (bq BK531.out)) : gb531 ≠ gb532)); have n6_ := am ((by rw [hg]; exact Nat.ne_of_gt (blk_lt (bq BK531.out)) : gb532 ≠ gb531)); clear BK531 HB; revert n0_ n1_ n2_ n3_ n4_ n5_ n6_; intro BK531 HB BK532 GW532 GE532 NB531_532 NB532_531; clear hb hbox hg; have hnb37 := NB531_532.out; have hnc37 := NB532_531.out; have hcz38_0 : w36.cell? ⟨gb531, 0, none⟩ = some (.slice A0_0 l0_0.length c0_0) := (blk_cell BK531.out 0).trans rfl; have hfz38_0 := blk_frozen BK531.out 0) | ((with_reducible refine gate_callee (f := 61) rfl ?_); refine goesL_ (some 15) rfl rfl Tryz.func61 (by kernel_rfl) rfl #[.agg #[.slice A0_0 l0_0.length c0_0]] rfl el ?_; (with_reducible refine (impl_SignatureFault.calls k _ _ l0_0 t533 _ ?side1 ?side2 A3.out).mono ?_); (case side1 => exact cq (Kd.C_below HR0_0.out HB.out)); (case side2 => exact HC0_0.out); rintro e w39 ⟨rfl, hb⟩; refine ⟨_, rfl, ?_⟩; have n0_ := am (blk_below (bq BK531.out) hb); have n1_ := am (blk_below (bq BK532.out) hb); have n2_ := am (below_step (hs HB.out) hb); clear BK531 BK532 HB; revert n0_ n1_ n2_; intro BK531 BK532 HB; (try clear hb); (try clear hb2); (try clear hgw); (try clear hk); (try clear hi)) | ((with_reducible refine gate_callee (f := 62) rfl ?_); refine goesL_ (some 22) rfl rfl Tryz.func62 (by kernel_rfl) rfl #[.string a1, .string (⟨#[61]⟩ : ByteArray)] rfl el ?_; (with_reducible refine (strings_Cut.calls a1 (⟨#[61]⟩ : ByteArray) t534 t535 true _ A5.out).mono ?_); rintro e w40 ⟨rfl, hb⟩; refine ⟨_, rfl, ?_⟩; have n0_ := am (blk_below (bq BK531.out) hb); have n1_ := am (blk_below (bq BK532.out) hb); have n2_ := am (below_step (hs HB.out) hb); clear BK531 BK532 HB; revert n0_ n1_ n2_; intro BK531 BK532 HB; (try clear hb); (try clear hb2); (try clear hgw); (try clear hk); (try clear hi); have hcz41_0 : w40.cell? ⟨gb531, 0, none⟩ = some (.slice A0_0 l0_0.length c0_0) := (blk_cell BK531.out 0).trans rfl; have hfz41_0 := blk_frozen BK531.out 0) | ((with_reducible refine gate_callee (f := 63) rfl ?_); refine goesL_ (some 29) rfl rfl Tryz.func63 (by kernel_rfl) rfl #[.agg #[.slice A0_0 l0_0.length c0_0], .string t534] rfl el ?_; (with_reducible refine (impl_readTerm.calls k _ _ l0_0 t534 t537 true _ ?side1 ?side2 A6.out).mono ?_); (case side1 => exact cq (Kd.C_below HR0_0.out HB.out)); (case side2 => exact HC0_0.out); rintro e w42 ⟨v538, rfl, ho0, hb⟩; refine ⟨_, rfl, ?_⟩; have n0_ := am (Kd.R_lower ho0 (below_size (hs HB.out))); have n1_ := am (blk_below (bq BK531.out) hb); have n2_ := am (blk_below (bq BK532.out) hb); have n3_ := am (below_step (hs HB.out) hb); clear BK531 BK532 HB; revert n0_ n1_ n2_ n3_; intro HO539 BK531 BK532 HB; (try clear hb); (try clear hb2); (try clear hgw); (try clear hk); (try clear hi); (try clear ho0); have hcz43_0 : w42.cell? ⟨gb531, 0, none⟩ = some (.slice A0_0 l0_0.length c0_0) := (blk_cell BK531.out 0).trans rfl; have hfz43_0 := blk_frozen BK531.out 0) | ((with_reducible refine gate_callee (f := 63) rfl ?_); refine goesL_ (some 35) rfl rfl Tryz.func63 (by kernel_rfl) rfl #[.agg #[.slice A0_0 l0_0.length c0_0], .string t535] rfl el ?_; (with_reducible refine (impl_readTerm.calls k _ _ l0_0 t535 t541 true _ ?side1 ?side2 A7.out).mono ?_); (case side1 => exact cq (Kd.C_below HR0_0.out HB.out)); (case side2 => exact HC0_0.out); rintro e w44 ⟨v542, rfl, ho0, hb⟩; refine ⟨_, rfl, ?_⟩; have n0_ := am (Kd.R_elder' (rq HO539.out) (Kd.R_base ho0) hb); have n1_ := am (Kd.R_lower (Kd.R_new' ho0 (Kd.R_lt (rq HO539.out))) (below_size (hs HB.out))); have n2_ := am (blk_below (bq BK531.out) hb); have n3_ := am (blk_below (bq BK532.out) hb); have n4_ := am (below_step (hs HB.out) hb); clear HO539 BK531 BK532 HB; revert n0_ n1_ n2_ n3_ n4_; intro HO539 HO543 BK531 BK532 HB; (try clear hb); (try clear hb2); (try clear hgw); (try clear hk); (try clear hi); (try clear ho0); obtain ⟨Ao45, co45, eo45⟩ := Kd.R_slice HO543.out; subst eo45; obtain ⟨Ao46, co46, eo46⟩ := Kd.R_slice HO539.out; subst eo46) | ((with_reducible refine gate_dst (N := 13) rfl ?_); refine box_event ?hg (N := 13) ?hd (cs := #[.slice none 0 0, .slice none 0 0]) (t := 47) ?hr ?_; (case hd => rfl); (case hg => rfl); (case hr => first | (go_simp; done) | (go_simp; rfl)); intro gb545 hg w47 hbox hb; have n0_ := am (Kd.R_below (rq HO539.out) hb); have n1_ := am (Kd.R_below (rq HO543.out) hb); have n2_ := am (blk_below (bq BK531.out) hb); have n3_ := am (blk_below (bq BK532.out) hb); have n4_ := am (below_step (hs HB.out) hb); have n5_ := am (hbox); have n6_ := am (bz hg (hs HB.out)); have n7_ := n6_; have n8_ := am ((by rw [hg]; exact Nat.ne_of_lt (blk_lt (bq BK531.out)) : gb531 ≠ gb545)); have n9_ := am ((by rw [hg]; exact Nat.ne_of_gt (blk_lt (bq BK531.out)) : gb545 ≠ gb531)); have n10_ := am ((by rw [hg]; exact Nat.ne_of_lt (blk_lt (bq BK532.out)) : gb532 ≠ gb545)); have n11_ := am ((by rw [hg]; exact Nat.ne_of_gt (blk_lt (bq BK532.out)) : gb545 ≠ gb532)); clear HO539 HO543 BK531 BK532 HB; revert n0_ n1_ n2_ n3_ n4_ n5_ n6_ n7_ n8_ n9_ n10_ n11_; intro HO539 HO543 BK531 BK532 HB BK545 GW545 GE545 NB531_545 NB545_531 NB532_545 NB545_532; clear hb hbox hg; have hnb48 := NB545_531.out; have hnc48 := NB531_545.out; have hnb49 := NB545_532.out; have hnc49 := NB532_545.out; have hcz50_0 : w47.cell? ⟨gb545, 0, none⟩ = some (.slice none 0 0) := (blk_cell BK545.out 0).trans rfl; have hcz50_1 : w47.cell? ⟨gb545, 1, none⟩ = some (.slice none 0 0) := (blk_cell BK545.out 1).trans rfl; have hfz50_0 := blk_frozen BK545.out 0; have hfz50_1 := blk_frozen BK545.out 1) | ((with_reducible refine gate_store (t := 47) (p := 13) rfl ?_); refine store_event (t := 47) (p := 13) (v := ?vo_w51) (w1 := ((w47.setCell ⟨gb545, 0, none⟩ (.slice Ao46 t537.length co46)).setCell ⟨gb545, 1, none⟩ (.slice Ao45 t541.length co45))) ?hg ?ho ?hn ?hr ?_; (case ho => rfl); (case hg => rfl); (case hn => rfl); (case hr => first | (go_simp; done) | (go_simp; rfl)); intro w51 hw; have n0_ : Aside0 (Kd.R (Kd.int .i64) 2 w51 w.heap.size (fun k_ => some k_ ≠ (.slice Ao45 t541.length co45 : Value).ownBlock) (.slice Ao46 t537.length co46) t537) := ⟨(by rw [hw]; exact (by (with_reducible repeat (first | apply Kd.R_alloc | apply Kd.R_drewN | apply Kd.R_drew)); exact Kd.R_mono (Kd.R_far (p := ⟨gb545, 1, none⟩) (Kd.R_far (p := ⟨gb545, 0, none⟩) (Kd.R_types HO539.out BK545.out (by decide)) (fun _ hk => hk.2) (.slice Ao46 t537.length co46)) (fun _ hk => hk.2) (.slice Ao45 t541.length co45)) (fun _ hk => hk.1.2)))⟩; have n1_ : Aside0 (Kd.R (Kd.int .i64) 2 w51 w.heap.size (fun k_ => some k_ ≠ (.slice Ao46 t537.length co46 : Value).ownBlock) (.slice Ao45 t541.length co45) t541) := ⟨(by rw [hw]; exact (by (with_reducible repeat (first | apply Kd.R_alloc | apply Kd.R_drewN | apply Kd.R_drew)); exact Kd.R_mono (Kd.R_far (p := ⟨gb545, 1, none⟩) (Kd.R_far (p := ⟨gb545, 0, none⟩) (Kd.R_types HO543.out BK545.out (by decide)) (fun _ hk => hk.2) (.slice Ao46 t537.length co46)) (fun _ hk => hk.2) (.slice Ao45 t541.length co45)) (fun _ hk => hk.1.2)))⟩; have n2_ : Aside0 (w51.heap[gb531]? = some (.cells #[.slice A0_0 l0_0.length c0_0] 34 (0, 0))) := ⟨(by rw [hw]; exact (by refine bq ?_; refine blk_far ?_ NB531_545.out _; refine bq ?_; refine blk_far ?_ NB531_545.out _; refine bq ?_; exact BK531.out))⟩; have n3_ : Aside0 (w51.heap[gb532]? = some (.cells #[.int .i64 0, .slice none 0 0, .slice none 0 0] 49 (0, 0))) := ⟨(by rw [hw]; exact (by refine bq ?_; refine blk_far ?_ NB532_545.out _; refine bq ?_; refine blk_far ?_ NB532_545.out _; refine bq ?_; exact BK532.out))⟩; have n4_ : Aside0 (w51.heap[gb545]? = some (.cells #[.slice Ao46 t537.length co46, .slice Ao45 t541.length co45] 47 (0, 0))) := ⟨(by rw [hw]; exact (by refine bq ?_; refine blk_put (cs := #[.slice Ao46 t537.length co46, .slice none 0 0]) ?_ 1 _ rfl; refine bq ?_; refine blk_put (cs := #[.slice none 0 0, .slice none 0 0]) ?_ 0 _ rfl; refine bq ?_; exact BK545.out))⟩; have n5_ : Aside0 (Below w.heap.size w w51) := ⟨(by rw [hw]; exact (hs HB.out))⟩; clear hw HO539 HO543 BK531 BK532 BK545 HB; revert n0_ n1_ n2_ n3_ n4_ n5_; intro HO539 HO543 BK531 BK532 BK545 HB; have hcz52_0 : w51.cell? ⟨gb531, 0, none⟩ = some (.slice A0_0 l0_0.length c0_0) := (blk_cell BK531.out 0).trans rfl; have hfz52_0 := blk_frozen BK531.out 0; have hcz53_0 : w51.cell? ⟨gb545, 0, none⟩ = some (.slice Ao46 t537.length co46) := (blk_cell BK545.out 0).trans rfl; have hcz53_1 : w51.cell? ⟨gb545, 1, none⟩ = some (.slice Ao45 t541.length co45) := (blk_cell BK545.out 1).trans rfl; have hfz53_0 := blk_frozen BK545.out 0; have hfz53_1 := blk_frozen BK545.out 1) | (go_at_call 31; (with_reducible refine (impl_EquationFault.calls k _ _ l0_0 (fun k_ => some k_ = (.slice Ao46 t537.length co46 : Value).ownBlock) _ _ t537 (fun k_ => some k_ = (.slice Ao45 t541.length co45 : Value).ownBlock) _ _ t541 t546 _ ?side1 ?side2 ?side3 ?side4 A11.out).mono ?_); (case side1 => exact cq (Kd.C_below HR0_0.out HB.out)); (case side2 => exact HC0_0.out); (case side3 => exact Kd.R_V (Kd.R_tight rfl (Kd.R_types (Kd.R_types (Kd.R_types (HO539.out) BK531.out (by decide)) BK532.out (by decide)) BK545.out (by decide)))); (case side4 => exact Kd.R_V (Kd.R_tight rfl (Kd.R_types (Kd.R_types (Kd.R_types (HO543.out) BK531.out (by decide)) BK532.out (by decide)) BK545.out (by decide)))); rintro e w54 ⟨rfl, hb⟩; have n0_ := am (Kd.R_below (rq HO539.out) hb); have n1_ := am (Kd.R_below (rq HO543.out) hb); have n2_ := am (blk_below (bq BK531.out) hb); have n3_ := am (blk_below (bq BK532.out) hb); have n4_ := am (blk_below (bq BK545.out) hb); have n5_ := am (below_step (hs HB.out) hb); clear HO539 HO543 BK531 BK532 BK545 HB; revert n0_ n1_ n2_ n3_ n4_ n5_; intro HO539 HO543 BK531 BK532 BK545 HB; (try clear hb); (try clear hb2); (try clear hgw); (try clear hk); (try clear hi); have hcz55_0 : w54.cell? ⟨gb532, 0, none⟩ = some (.int .i64 0) := (blk_cell BK532.out 0).trans rfl; have hcz55_1 : w54.cell? ⟨gb532, 1, none⟩ = some (.slice none 0 0) := (blk_cell BK532.out 1).trans rfl; have hcz55_2 : w54.cell? ⟨gb532, 2, none⟩ = some (.slice none 0 0) := (blk_cell BK532.out 2).trans rfl; have hfz55_0 := blk_frozen BK532.out 0; have hfz55_1 := blk_frozen BK532.out 1; have hfz55_2 := blk_frozen BK532.out 2))
      refine bodyPost_ret (results_cell_row rfl _ _ gb532 49 #[.int .i64 5, .slice none 0 0, .slice none 0 0] (0, 0) _ rfl (by refine bq ?_; refine blk_put (cs := #[.int .i64 5, .slice none 0 0, .slice none 0 0]) ?_ 2 _ rfl; refine bq ?_; refine blk_put (cs := #[.int .i64 5, .slice none 0 0, .slice none 0 0]) ?_ 1 _ rfl; refine bq ?_; refine blk_put (cs := #[.int .i64 0, .slice none 0 0, .slice none 0 0]) ?_ 0 _ rfl; refine bq ?_; exact BK532.out) Tryz.underlying49 rfl (by kernel_rfl)) rfl ?_
      exact ⟨_, _, by first | rfl | (simp [errW_none, errW_some] <;> rfl) | (simp [*, errW_none, errW_some] <;> rfl), by first | exact Kd.R_nil _ _ _ _ _ | exact Kd.N_nil _ _ _ _ _ | exact Kd.V_nil _ _ _ _ _ | exact Kd.Q_nil _ _ _ _ _ | exact Kd.S_nil _ _ _ _ _, by first | exact Kd.R_nil _ _ _ _ _ | exact Kd.N_nil _ _ _ _ _ | exact Kd.V_nil _ _ _ _ _ | exact Kd.Q_nil _ _ _ _ _ | exact Kd.S_nil _ _ _ _ _, by exact hs HB.out⟩
    ·replace c10 := Bool.eq_false_iff.mpr c10
     subst c10
     have H1 : (some (5, ([] : List Int), ([] : List Int))) = some (r1, r2, r3) := by rw [if_neg (show ¬ (false = true) by decide)] at H; exact H
     clear H
     have H := H1
     clear H1
     simp only [Option.some.injEq, Prod.mk.injEq] at H
     obtain ⟨rfl, rfl, rfl⟩ := H
     go_enter Tryz.func21, Tryz.ntmps21
     go_wp2_with (first | ((with_reducible refine gate_dst (N := 2) rfl ?_); refine box_event ?hg (N := 2) ?hd (cs := #[.slice A0_0 l0_0.length c0_0]) (t := 34) ?hr ?_; (case hd => rfl); (case hg => rfl); (case hr => first | (go_simp; done) | (go_simp; rfl)); intro gb531 hg w56 hbox hb; have n0_ := am (below_step (hq HB.out) hb); have n1_ := am (hbox); have n2_ := am (bz hg (hq HB.out)); have n3_ := n2_; clear HB; revert n0_ n1_ n2_ n3_; intro HB BK531 GW531 GE531; clear hb hbox hg) | ((with_reducible refine gate_dst (N := 4) rfl ?_); refine box_event ?hg (N := 4) ?hd (cs := #[.int .i64 0, .slice none 0 0, .slice none 0 0]) (t := 49) ?hr ?_; (case hd => rfl); (case hg => rfl); (case hr => first | (go_simp; done) | (go_simp; rfl)); intro gb532 hg w57 hbox hb; have n0_ := am (blk_below (bq BK531.out) hb); have n1_ := am (below_step (hs HB.out) hb); have n2_ := am (hbox); have n3_ := am (bz hg (hs HB.out)); have n4_ := n3_; have n5_ := am ((by rw [hg]; exact Nat.ne_of_lt (blk_lt (bq BK531.out)) : gb531 ≠ gb532)); have n6_ := am ((by rw [hg]; exact Nat.ne_of_gt (blk_lt (bq BK531.out)) : gb532 ≠ gb531)); clear BK531 HB; revert n0_ n1_ n2_ n3_ n4_ n5_ n6_; intro BK531 HB BK532 GW532 GE532 NB531_532 NB532_531; clear hb hbox hg; have hnb58 := NB531_532.out; have hnc58 := NB532_531.out; have hcz59_0 : w57.cell? ⟨gb531, 0, none⟩ = some (.slice A0_0 l0_0.length c0_0) := (blk_cell BK531.out 0).trans rfl; have hfz59_0 := blk_frozen BK531.out 0) | ((with_reducible refine gate_callee (f := 61) rfl ?_); refine goesL_ (some 15) rfl rfl Tryz.func61 (by kernel_rfl) rfl #[.agg #[.slice A0_0 l0_0.length c0_0]] rfl el ?_; (with_reducible refine (impl_SignatureFault.calls k _ _ l0_0 t533 _ ?side1 ?side2 A3.out).mono ?_); (case side1 => exact cq (Kd.C_below HR0_0.out HB.out)); (case side2 => exact HC0_0.out); rintro e w60 ⟨rfl, hb⟩; refine ⟨_, rfl, ?_⟩; have n0_ := am (blk_below (bq BK531.out) hb); have n1_ := am (blk_below (bq BK532.out) hb); have n2_ := am (below_step (hs HB.out) hb); clear BK531 BK532 HB; revert n0_ n1_ n2_; intro BK531 BK532 HB; (try clear hb); (try clear hb2); (try clear hgw); (try clear hk); (try clear hi)) | ((with_reducible refine gate_callee (f := 62) rfl ?_); refine goesL_ (some 22) rfl rfl Tryz.func62 (by kernel_rfl) rfl #[.string a1, .string (⟨#[61]⟩ : ByteArray)] rfl el ?_; (with_reducible refine (strings_Cut.calls a1 (⟨#[61]⟩ : ByteArray) t534 t535 true _ A5.out).mono ?_); rintro e w61 ⟨rfl, hb⟩; refine ⟨_, rfl, ?_⟩; have n0_ := am (blk_below (bq BK531.out) hb); have n1_ := am (blk_below (bq BK532.out) hb); have n2_ := am (below_step (hs HB.out) hb); clear BK531 BK532 HB; revert n0_ n1_ n2_; intro BK531 BK532 HB; (try clear hb); (try clear hb2); (try clear hgw); (try clear hk); (try clear hi); have hcz62_0 : w61.cell? ⟨gb531, 0, none⟩ = some (.slice A0_0 l0_0.length c0_0) := (blk_cell BK531.out 0).trans rfl; have hfz62_0 := blk_frozen BK531.out 0) | ((with_reducible refine gate_callee (f := 63) rfl ?_); refine goesL_ (some 29) rfl rfl Tryz.func63 (by kernel_rfl) rfl #[.agg #[.slice A0_0 l0_0.length c0_0], .string t534] rfl el ?_; (with_reducible refine (impl_readTerm.calls k _ _ l0_0 t534 t537 true _ ?side1 ?side2 A6.out).mono ?_); (case side1 => exact cq (Kd.C_below HR0_0.out HB.out)); (case side2 => exact HC0_0.out); rintro e w63 ⟨v538, rfl, ho0, hb⟩; refine ⟨_, rfl, ?_⟩; have n0_ := am (Kd.R_lower ho0 (below_size (hs HB.out))); have n1_ := am (blk_below (bq BK531.out) hb); have n2_ := am (blk_below (bq BK532.out) hb); have n3_ := am (below_step (hs HB.out) hb); clear BK531 BK532 HB; revert n0_ n1_ n2_ n3_; intro HO539 BK531 BK532 HB; (try clear hb); (try clear hb2); (try clear hgw); (try clear hk); (try clear hi); (try clear ho0); have hcz64_0 : w63.cell? ⟨gb531, 0, none⟩ = some (.slice A0_0 l0_0.length c0_0) := (blk_cell BK531.out 0).trans rfl; have hfz64_0 := blk_frozen BK531.out 0) | ((with_reducible refine gate_callee (f := 63) rfl ?_); refine goesL_ (some 35) rfl rfl Tryz.func63 (by kernel_rfl) rfl #[.agg #[.slice A0_0 l0_0.length c0_0], .string t535] rfl el ?_; (with_reducible refine (impl_readTerm.calls k _ _ l0_0 t535 t541 false _ ?side1 ?side2 A7.out).mono ?_); (case side1 => exact cq (Kd.C_below HR0_0.out HB.out)); (case side2 => exact HC0_0.out); rintro e w65 ⟨v542, rfl, ho0, hb⟩; refine ⟨_, rfl, ?_⟩; have n0_ := am (Kd.R_elder' (rq HO539.out) (Kd.R_base ho0) hb); have n1_ := am (Kd.R_lower (Kd.R_new' ho0 (Kd.R_lt (rq HO539.out))) (below_size (hs HB.out))); have n2_ := am (blk_below (bq BK531.out) hb); have n3_ := am (blk_below (bq BK532.out) hb); have n4_ := am (below_step (hs HB.out) hb); clear HO539 BK531 BK532 HB; revert n0_ n1_ n2_ n3_ n4_; intro HO539 HO543 BK531 BK532 HB; (try clear hb); (try clear hb2); (try clear hgw); (try clear hk); (try clear hi); (try clear ho0); obtain ⟨Ao66, co66, eo66⟩ := Kd.R_slice HO543.out; subst eo66; obtain ⟨Ao67, co67, eo67⟩ := Kd.R_slice HO539.out; subst eo67) | ((with_reducible refine gate_dst (N := 13) rfl ?_); refine box_event ?hg (N := 13) ?hd (cs := #[.slice none 0 0, .slice none 0 0]) (t := 47) ?hr ?_; (case hd => rfl); (case hg => rfl); (case hr => first | (go_simp; done) | (go_simp; rfl)); intro gb545 hg w68 hbox hb; have n0_ := am (Kd.R_below (rq HO539.out) hb); have n1_ := am (Kd.R_below (rq HO543.out) hb); have n2_ := am (blk_below (bq BK531.out) hb); have n3_ := am (blk_below (bq BK532.out) hb); have n4_ := am (below_step (hs HB.out) hb); have n5_ := am (hbox); have n6_ := am (bz hg (hs HB.out)); have n7_ := n6_; have n8_ := am ((by rw [hg]; exact Nat.ne_of_lt (blk_lt (bq BK531.out)) : gb531 ≠ gb545)); have n9_ := am ((by rw [hg]; exact Nat.ne_of_gt (blk_lt (bq BK531.out)) : gb545 ≠ gb531)); have n10_ := am ((by rw [hg]; exact Nat.ne_of_lt (blk_lt (bq BK532.out)) : gb532 ≠ gb545)); have n11_ := am ((by rw [hg]; exact Nat.ne_of_gt (blk_lt (bq BK532.out)) : gb545 ≠ gb532)); clear HO539 HO543 BK531 BK532 HB; revert n0_ n1_ n2_ n3_ n4_ n5_ n6_ n7_ n8_ n9_ n10_ n11_; intro HO539 HO543 BK531 BK532 HB BK545 GW545 GE545 NB531_545 NB545_531 NB532_545 NB545_532; clear hb hbox hg; have hnb69 := NB545_531.out; have hnc69 := NB531_545.out; have hnb70 := NB545_532.out; have hnc70 := NB532_545.out; have hcz71_0 : w68.cell? ⟨gb545, 0, none⟩ = some (.slice none 0 0) := (blk_cell BK545.out 0).trans rfl; have hcz71_1 : w68.cell? ⟨gb545, 1, none⟩ = some (.slice none 0 0) := (blk_cell BK545.out 1).trans rfl; have hfz71_0 := blk_frozen BK545.out 0; have hfz71_1 := blk_frozen BK545.out 1; have hcz72_0 : w68.cell? ⟨gb532, 0, none⟩ = some (.int .i64 0) := (blk_cell BK532.out 0).trans rfl; have hcz72_1 : w68.cell? ⟨gb532, 1, none⟩ = some (.slice none 0 0) := (blk_cell BK532.out 1).trans rfl; have hcz72_2 : w68.cell? ⟨gb532, 2, none⟩ = some (.slice none 0 0) := (blk_cell BK532.out 2).trans rfl; have hfz72_0 := blk_frozen BK532.out 0; have hfz72_1 := blk_frozen BK532.out 1; have hfz72_2 := blk_frozen BK532.out 2))
     refine bodyPost_ret (results_cell_row rfl _ _ gb532 49 #[.int .i64 5, .slice none 0 0, .slice none 0 0] (0, 0) _ rfl (by refine bq ?_; refine blk_put (cs := #[.int .i64 5, .slice none 0 0, .slice none 0 0]) ?_ 2 _ rfl; refine bq ?_; refine blk_put (cs := #[.int .i64 5, .slice none 0 0, .slice none 0 0]) ?_ 1 _ rfl; refine bq ?_; refine blk_put (cs := #[.int .i64 0, .slice none 0 0, .slice none 0 0]) ?_ 0 _ rfl; refine bq ?_; refine blk_far ?_ NB532_545.out _; refine bq ?_; refine blk_far ?_ NB532_545.out _; refine bq ?_; exact BK532.out) Tryz.underlying49 rfl (by kernel_rfl)) rfl ?_
     exact ⟨_, _, by first | rfl | (simp [errW_none, errW_some] <;> rfl) | (simp [*, errW_none, errW_some] <;> rfl), by first | exact Kd.R_nil _ _ _ _ _ | exact Kd.N_nil _ _ _ _ _ | exact Kd.V_nil _ _ _ _ _ | exact Kd.Q_nil _ _ _ _ _ | exact Kd.S_nil _ _ _ _ _, by first | exact Kd.R_nil _ _ _ _ _ | exact Kd.N_nil _ _ _ _ _ | exact Kd.V_nil _ _ _ _ _ | exact Kd.Q_nil _ _ _ _ _ | exact Kd.S_nil _ _ _ _ _, by exact hs HB.out⟩
   ·replace c9 := Bool.eq_false_iff.mpr c9
    subst c9
    have H1 : (some (5, ([] : List Int), ([] : List Int))) = some (r1, r2, r3) := by rw [if_neg (show ¬ (false = true) by decide)] at H; exact H
    clear H
    have H := H1
    clear H1
    simp only [Option.some.injEq, Prod.mk.injEq] at H
    obtain ⟨rfl, rfl, rfl⟩ := H
    go_enter Tryz.func21, Tryz.ntmps21
    go_wp2_with (first | ((with_reducible refine gate_dst (N := 2) rfl ?_); refine box_event ?hg (N := 2) ?hd (cs := #[.slice A0_0 l0_0.length c0_0]) (t := 34) ?hr ?_; (case hd => rfl); (case hg => rfl); (case hr => first | (go_simp; done) | (go_simp; rfl)); intro gb531 hg w73 hbox hb; have n0_ := am (below_step (hq HB.out) hb); have n1_ := am (hbox); have n2_ := am (bz hg (hq HB.out)); have n3_ := n2_; clear HB; revert n0_ n1_ n2_ n3_; intro HB BK531 GW531 GE531; clear hb hbox hg) | ((with_reducible refine gate_dst (N := 4) rfl ?_); refine box_event ?hg (N := 4) ?hd (cs := #[.int .i64 0, .slice none 0 0, .slice none 0 0]) (t := 49) ?hr ?_; (case hd => rfl); (case hg => rfl); (case hr => first | (go_simp; done) | (go_simp; rfl)); intro gb532 hg w74 hbox hb; have n0_ := am (blk_below (bq BK531.out) hb); have n1_ := am (below_step (hs HB.out) hb); have n2_ := am (hbox); have n3_ := am (bz hg (hs HB.out)); have n4_ := n3_; have n5_ := am ((by rw [hg]; exact Nat.ne_of_lt (blk_lt (bq BK531.out)) : gb531 ≠ gb532)); have n6_ := am ((by rw [hg]; exact Nat.ne_of_gt (blk_lt (bq BK531.out)) : gb532 ≠ gb531)); clear BK531 HB; revert n0_ n1_ n2_ n3_ n4_ n5_ n6_; intro BK531 HB BK532 GW532 GE532 NB531_532 NB532_531; clear hb hbox hg; have hnb75 := NB531_532.out; have hnc75 := NB532_531.out; have hcz76_0 : w74.cell? ⟨gb531, 0, none⟩ = some (.slice A0_0 l0_0.length c0_0) := (blk_cell BK531.out 0).trans rfl; have hfz76_0 := blk_frozen BK531.out 0) | ((with_reducible refine gate_callee (f := 61) rfl ?_); refine goesL_ (some 15) rfl rfl Tryz.func61 (by kernel_rfl) rfl #[.agg #[.slice A0_0 l0_0.length c0_0]] rfl el ?_; (with_reducible refine (impl_SignatureFault.calls k _ _ l0_0 t533 _ ?side1 ?side2 A3.out).mono ?_); (case side1 => exact cq (Kd.C_below HR0_0.out HB.out)); (case side2 => exact HC0_0.out); rintro e w77 ⟨rfl, hb⟩; refine ⟨_, rfl, ?_⟩; have n0_ := am (blk_below (bq BK531.out) hb); have n1_ := am (blk_below (bq BK532.out) hb); have n2_ := am (below_step (hs HB.out) hb); clear BK531 BK532 HB; revert n0_ n1_ n2_; intro BK531 BK532 HB; (try clear hb); (try clear hb2); (try clear hgw); (try clear hk); (try clear hi)) | ((with_reducible refine gate_callee (f := 62) rfl ?_); refine goesL_ (some 22) rfl rfl Tryz.func62 (by kernel_rfl) rfl #[.string a1, .string (⟨#[61]⟩ : ByteArray)] rfl el ?_; (with_reducible refine (strings_Cut.calls a1 (⟨#[61]⟩ : ByteArray) t534 t535 true _ A5.out).mono ?_); rintro e w78 ⟨rfl, hb⟩; refine ⟨_, rfl, ?_⟩; have n0_ := am (blk_below (bq BK531.out) hb); have n1_ := am (blk_below (bq BK532.out) hb); have n2_ := am (below_step (hs HB.out) hb); clear BK531 BK532 HB; revert n0_ n1_ n2_; intro BK531 BK532 HB; (try clear hb); (try clear hb2); (try clear hgw); (try clear hk); (try clear hi); have hcz79_0 : w78.cell? ⟨gb531, 0, none⟩ = some (.slice A0_0 l0_0.length c0_0) := (blk_cell BK531.out 0).trans rfl; have hfz79_0 := blk_frozen BK531.out 0) | ((with_reducible refine gate_callee (f := 63) rfl ?_); refine goesL_ (some 29) rfl rfl Tryz.func63 (by kernel_rfl) rfl #[.agg #[.slice A0_0 l0_0.length c0_0], .string t534] rfl el ?_; (with_reducible refine (impl_readTerm.calls k _ _ l0_0 t534 t537 false _ ?side1 ?side2 A6.out).mono ?_); (case side1 => exact cq (Kd.C_below HR0_0.out HB.out)); (case side2 => exact HC0_0.out); rintro e w80 ⟨v538, rfl, ho0, hb⟩; refine ⟨_, rfl, ?_⟩; have n0_ := am (Kd.R_lower ho0 (below_size (hs HB.out))); have n1_ := am (blk_below (bq BK531.out) hb); have n2_ := am (blk_below (bq BK532.out) hb); have n3_ := am (below_step (hs HB.out) hb); clear BK531 BK532 HB; revert n0_ n1_ n2_ n3_; intro HO539 BK531 BK532 HB; (try clear hb); (try clear hb2); (try clear hgw); (try clear hk); (try clear hi); (try clear ho0); have hcz81_0 : w80.cell? ⟨gb531, 0, none⟩ = some (.slice A0_0 l0_0.length c0_0) := (blk_cell BK531.out 0).trans rfl; have hfz81_0 := blk_frozen BK531.out 0) | ((with_reducible refine gate_callee (f := 63) rfl ?_); refine goesL_ (some 35) rfl rfl Tryz.func63 (by kernel_rfl) rfl #[.agg #[.slice A0_0 l0_0.length c0_0], .string t535] rfl el ?_; (with_reducible refine (impl_readTerm.calls k _ _ l0_0 t535 t541 t544 _ ?side1 ?side2 A7.out).mono ?_); (case side1 => exact cq (Kd.C_below HR0_0.out HB.out)); (case side2 => exact HC0_0.out); rintro e w82 ⟨v542, rfl, ho0, hb⟩; refine ⟨_, rfl, ?_⟩; have n0_ := am (Kd.R_elder' (rq HO539.out) (Kd.R_base ho0) hb); have n1_ := am (Kd.R_lower (Kd.R_new' ho0 (Kd.R_lt (rq HO539.out))) (below_size (hs HB.out))); have n2_ := am (blk_below (bq BK531.out) hb); have n3_ := am (blk_below (bq BK532.out) hb); have n4_ := am (below_step (hs HB.out) hb); clear HO539 BK531 BK532 HB; revert n0_ n1_ n2_ n3_ n4_; intro HO539 HO543 BK531 BK532 HB; (try clear hb); (try clear hb2); (try clear hgw); (try clear hk); (try clear hi); (try clear ho0); obtain ⟨Ao83, co83, eo83⟩ := Kd.R_slice HO543.out; subst eo83; obtain ⟨Ao84, co84, eo84⟩ := Kd.R_slice HO539.out; subst eo84) | ((with_reducible refine gate_dst (N := 13) rfl ?_); refine box_event ?hg (N := 13) ?hd (cs := #[.slice none 0 0, .slice none 0 0]) (t := 47) ?hr ?_; (case hd => rfl); (case hg => rfl); (case hr => first | (go_simp; done) | (go_simp; rfl)); intro gb545 hg w85 hbox hb; have n0_ := am (Kd.R_below (rq HO539.out) hb); have n1_ := am (Kd.R_below (rq HO543.out) hb); have n2_ := am (blk_below (bq BK531.out) hb); have n3_ := am (blk_below (bq BK532.out) hb); have n4_ := am (below_step (hs HB.out) hb); have n5_ := am (hbox); have n6_ := am (bz hg (hs HB.out)); have n7_ := n6_; have n8_ := am ((by rw [hg]; exact Nat.ne_of_lt (blk_lt (bq BK531.out)) : gb531 ≠ gb545)); have n9_ := am ((by rw [hg]; exact Nat.ne_of_gt (blk_lt (bq BK531.out)) : gb545 ≠ gb531)); have n10_ := am ((by rw [hg]; exact Nat.ne_of_lt (blk_lt (bq BK532.out)) : gb532 ≠ gb545)); have n11_ := am ((by rw [hg]; exact Nat.ne_of_gt (blk_lt (bq BK532.out)) : gb545 ≠ gb532)); clear HO539 HO543 BK531 BK532 HB; revert n0_ n1_ n2_ n3_ n4_ n5_ n6_ n7_ n8_ n9_ n10_ n11_; intro HO539 HO543 BK531 BK532 HB BK545 GW545 GE545 NB531_545 NB545_531 NB532_545 NB545_532; clear hb hbox hg; have hnb86 := NB545_531.out; have hnc86 := NB531_545.out; have hnb87 := NB545_532.out; have hnc87 := NB532_545.out; have hcz88_0 : w85.cell? ⟨gb545, 0, none⟩ = some (.slice none 0 0) := (blk_cell BK545.out 0).trans rfl; have hcz88_1 : w85.cell? ⟨gb545, 1, none⟩ = some (.slice none 0 0) := (blk_cell BK545.out 1).trans rfl; have hfz88_0 := blk_frozen BK545.out 0; have hfz88_1 := blk_frozen BK545.out 1; have hcz89_0 : w85.cell? ⟨gb532, 0, none⟩ = some (.int .i64 0) := (blk_cell BK532.out 0).trans rfl; have hcz89_1 : w85.cell? ⟨gb532, 1, none⟩ = some (.slice none 0 0) := (blk_cell BK532.out 1).trans rfl; have hcz89_2 : w85.cell? ⟨gb532, 2, none⟩ = some (.slice none 0 0) := (blk_cell BK532.out 2).trans rfl; have hfz89_0 := blk_frozen BK532.out 0; have hfz89_1 := blk_frozen BK532.out 1; have hfz89_2 := blk_frozen BK532.out 2))
    refine bodyPost_ret (results_cell_row rfl _ _ gb532 49 #[.int .i64 5, .slice none 0 0, .slice none 0 0] (0, 0) _ rfl (by refine bq ?_; refine blk_put (cs := #[.int .i64 5, .slice none 0 0, .slice none 0 0]) ?_ 2 _ rfl; refine bq ?_; refine blk_put (cs := #[.int .i64 5, .slice none 0 0, .slice none 0 0]) ?_ 1 _ rfl; refine bq ?_; refine blk_put (cs := #[.int .i64 0, .slice none 0 0, .slice none 0 0]) ?_ 0 _ rfl; refine bq ?_; refine blk_far ?_ NB532_545.out _; refine bq ?_; refine blk_far ?_ NB532_545.out _; refine bq ?_; exact BK532.out) Tryz.underlying49 rfl (by kernel_rfl)) rfl ?_
    exact ⟨_, _, by first | rfl | (simp [errW_none, errW_some] <;> rfl) | (simp [*, errW_none, errW_some] <;> rfl), by first | exact Kd.R_nil _ _ _ _ _ | exact Kd.N_nil _ _ _ _ _ | exact Kd.V_nil _ _ _ _ _ | exact Kd.Q_nil _ _ _ _ _ | exact Kd.S_nil _ _ _ _ _, by first | exact Kd.R_nil _ _ _ _ _ | exact Kd.N_nil _ _ _ _ _ | exact Kd.V_nil _ _ _ _ _ | exact Kd.Q_nil _ _ _ _ _ | exact Kd.S_nil _ _ _ _ _, by exact hs HB.out⟩
  ·replace c8 := Bool.eq_false_iff.mpr c8
   subst c8
   have H1 : (some (5, ([] : List Int), ([] : List Int))) = some (r1, r2, r3) := by rw [if_neg (show ¬ (false = true) by decide)] at H; exact H
   clear H
   have H := H1
   clear H1
   simp only [Option.some.injEq, Prod.mk.injEq] at H
   obtain ⟨rfl, rfl, rfl⟩ := H
   go_enter Tryz.func21, Tryz.ntmps21
   go_wp2_with (first | ((with_reducible refine gate_dst (N := 2) rfl ?_); refine box_event ?hg (N := 2) ?hd (cs := #[.slice A0_0 l0_0.length c0_0]) (t := 34) ?hr ?_; (case hd => rfl); (case hg => rfl); (case hr => first | (go_simp; done) | (go_simp; rfl)); intro gb531 hg w90 hbox hb; have n0_ := am (below_step (hq HB.out) hb); have n1_ := am (hbox); have n2_ := am (bz hg (hq HB.out)); have n3_ := n2_; clear HB; revert n0_ n1_ n2_ n3_; intro HB BK531 GW531 GE531; clear hb hbox hg) | ((with_reducible refine gate_dst (N := 4) rfl ?_); refine box_event ?hg (N := 4) ?hd (cs := #[.int .i64 0, .slice none 0 0, .slice none 0 0]) (t := 49) ?hr ?_; (case hd => rfl); (case hg => rfl); (case hr => first | (go_simp; done) | (go_simp; rfl)); intro gb532 hg w91 hbox hb; have n0_ := am (blk_below (bq BK531.out) hb); have n1_ := am (below_step (hs HB.out) hb); have n2_ := am (hbox); have n3_ := am (bz hg (hs HB.out)); have n4_ := n3_; have n5_ := am ((by rw [hg]; exact Nat.ne_of_lt (blk_lt (bq BK531.out)) : gb531 ≠ gb532)); have n6_ := am ((by rw [hg]; exact Nat.ne_of_gt (blk_lt (bq BK531.out)) : gb532 ≠ gb531)); clear BK531 HB; revert n0_ n1_ n2_ n3_ n4_ n5_ n6_; intro BK531 HB BK532 GW532 GE532 NB531_532 NB532_531; clear hb hbox hg; have hnb92 := NB531_532.out; have hnc92 := NB532_531.out; have hcz93_0 : w91.cell? ⟨gb531, 0, none⟩ = some (.slice A0_0 l0_0.length c0_0) := (blk_cell BK531.out 0).trans rfl; have hfz93_0 := blk_frozen BK531.out 0) | ((with_reducible refine gate_callee (f := 61) rfl ?_); refine goesL_ (some 15) rfl rfl Tryz.func61 (by kernel_rfl) rfl #[.agg #[.slice A0_0 l0_0.length c0_0]] rfl el ?_; (with_reducible refine (impl_SignatureFault.calls k _ _ l0_0 t533 _ ?side1 ?side2 A3.out).mono ?_); (case side1 => exact cq (Kd.C_below HR0_0.out HB.out)); (case side2 => exact HC0_0.out); rintro e w94 ⟨rfl, hb⟩; refine ⟨_, rfl, ?_⟩; have n0_ := am (blk_below (bq BK531.out) hb); have n1_ := am (blk_below (bq BK532.out) hb); have n2_ := am (below_step (hs HB.out) hb); clear BK531 BK532 HB; revert n0_ n1_ n2_; intro BK531 BK532 HB; (try clear hb); (try clear hb2); (try clear hgw); (try clear hk); (try clear hi)) | ((with_reducible refine gate_callee (f := 62) rfl ?_); refine goesL_ (some 22) rfl rfl Tryz.func62 (by kernel_rfl) rfl #[.string a1, .string (⟨#[61]⟩ : ByteArray)] rfl el ?_; (with_reducible refine (strings_Cut.calls a1 (⟨#[61]⟩ : ByteArray) t534 t535 false _ A5.out).mono ?_); rintro e w95 ⟨rfl, hb⟩; refine ⟨_, rfl, ?_⟩; have n0_ := am (blk_below (bq BK531.out) hb); have n1_ := am (blk_below (bq BK532.out) hb); have n2_ := am (below_step (hs HB.out) hb); clear BK531 BK532 HB; revert n0_ n1_ n2_; intro BK531 BK532 HB; (try clear hb); (try clear hb2); (try clear hgw); (try clear hk); (try clear hi); have hcz96_0 : w95.cell? ⟨gb531, 0, none⟩ = some (.slice A0_0 l0_0.length c0_0) := (blk_cell BK531.out 0).trans rfl; have hfz96_0 := blk_frozen BK531.out 0) | ((with_reducible refine gate_callee (f := 63) rfl ?_); refine goesL_ (some 29) rfl rfl Tryz.func63 (by kernel_rfl) rfl #[.agg #[.slice A0_0 l0_0.length c0_0], .string t534] rfl el ?_; (with_reducible refine (impl_readTerm.calls k _ _ l0_0 t534 t537 t540 _ ?side1 ?side2 A6.out).mono ?_); (case side1 => exact cq (Kd.C_below HR0_0.out HB.out)); (case side2 => exact HC0_0.out); rintro e w97 ⟨v538, rfl, ho0, hb⟩; refine ⟨_, rfl, ?_⟩; have n0_ := am (Kd.R_lower ho0 (below_size (hs HB.out))); have n1_ := am (blk_below (bq BK531.out) hb); have n2_ := am (blk_below (bq BK532.out) hb); have n3_ := am (below_step (hs HB.out) hb); clear BK531 BK532 HB; revert n0_ n1_ n2_ n3_; intro HO539 BK531 BK532 HB; (try clear hb); (try clear hb2); (try clear hgw); (try clear hk); (try clear hi); (try clear ho0); have hcz98_0 : w97.cell? ⟨gb531, 0, none⟩ = some (.slice A0_0 l0_0.length c0_0) := (blk_cell BK531.out 0).trans rfl; have hfz98_0 := blk_frozen BK531.out 0) | ((with_reducible refine gate_callee (f := 63) rfl ?_); refine goesL_ (some 35) rfl rfl Tryz.func63 (by kernel_rfl) rfl #[.agg #[.slice A0_0 l0_0.length c0_0], .string t535] rfl el ?_; (with_reducible refine (impl_readTerm.calls k _ _ l0_0 t535 t541 t544 _ ?side1 ?side2 A7.out).mono ?_); (case side1 => exact cq (Kd.C_below HR0_0.out HB.out)); (case side2 => exact HC0_0.out); rintro e w99 ⟨v542, rfl, ho0, hb⟩; refine ⟨_, rfl, ?_⟩; have n0_ := am (Kd.R_elder' (rq HO539.out) (Kd.R_base ho0) hb); have n1_ := am (Kd.R_lower (Kd.R_new' ho0 (Kd.R_lt (rq HO539.out))) (below_size (hs HB.out))); have n2_ := am (blk_below (bq BK531.out) hb); have n3_ := am (blk_below (bq BK532.out) hb); have n4_ := am (below_step (hs HB.out) hb); clear HO539 BK531 BK532 HB; revert n0_ n1_ n2_ n3_ n4_; intro HO539 HO543 BK531 BK532 HB; (try clear hb); (try clear hb2); (try clear hgw); (try clear hk); (try clear hi); (try clear ho0); obtain ⟨Ao100, co100, eo100⟩ := Kd.R_slice HO543.out; subst eo100; obtain ⟨Ao101, co101, eo101⟩ := Kd.R_slice HO539.out; subst eo101) | ((with_reducible refine gate_dst (N := 13) rfl ?_); refine box_event ?hg (N := 13) ?hd (cs := #[.slice none 0 0, .slice none 0 0]) (t := 47) ?hr ?_; (case hd => rfl); (case hg => rfl); (case hr => first | (go_simp; done) | (go_simp; rfl)); intro gb545 hg w102 hbox hb; have n0_ := am (Kd.R_below (rq HO539.out) hb); have n1_ := am (Kd.R_below (rq HO543.out) hb); have n2_ := am (blk_below (bq BK531.out) hb); have n3_ := am (blk_below (bq BK532.out) hb); have n4_ := am (below_step (hs HB.out) hb); have n5_ := am (hbox); have n6_ := am (bz hg (hs HB.out)); have n7_ := n6_; have n8_ := am ((by rw [hg]; exact Nat.ne_of_lt (blk_lt (bq BK531.out)) : gb531 ≠ gb545)); have n9_ := am ((by rw [hg]; exact Nat.ne_of_gt (blk_lt (bq BK531.out)) : gb545 ≠ gb531)); have n10_ := am ((by rw [hg]; exact Nat.ne_of_lt (blk_lt (bq BK532.out)) : gb532 ≠ gb545)); have n11_ := am ((by rw [hg]; exact Nat.ne_of_gt (blk_lt (bq BK532.out)) : gb545 ≠ gb532)); clear HO539 HO543 BK531 BK532 HB; revert n0_ n1_ n2_ n3_ n4_ n5_ n6_ n7_ n8_ n9_ n10_ n11_; intro HO539 HO543 BK531 BK532 HB BK545 GW545 GE545 NB531_545 NB545_531 NB532_545 NB545_532; clear hb hbox hg; have hnb103 := NB545_531.out; have hnc103 := NB531_545.out; have hnb104 := NB545_532.out; have hnc104 := NB532_545.out; have hcz105_0 : w102.cell? ⟨gb545, 0, none⟩ = some (.slice none 0 0) := (blk_cell BK545.out 0).trans rfl; have hcz105_1 : w102.cell? ⟨gb545, 1, none⟩ = some (.slice none 0 0) := (blk_cell BK545.out 1).trans rfl; have hfz105_0 := blk_frozen BK545.out 0; have hfz105_1 := blk_frozen BK545.out 1; have hcz106_0 : w102.cell? ⟨gb532, 0, none⟩ = some (.int .i64 0) := (blk_cell BK532.out 0).trans rfl; have hcz106_1 : w102.cell? ⟨gb532, 1, none⟩ = some (.slice none 0 0) := (blk_cell BK532.out 1).trans rfl; have hcz106_2 : w102.cell? ⟨gb532, 2, none⟩ = some (.slice none 0 0) := (blk_cell BK532.out 2).trans rfl; have hfz106_0 := blk_frozen BK532.out 0; have hfz106_1 := blk_frozen BK532.out 1; have hfz106_2 := blk_frozen BK532.out 2))
   refine bodyPost_ret (results_cell_row rfl _ _ gb532 49 #[.int .i64 5, .slice none 0 0, .slice none 0 0] (0, 0) _ rfl (by refine bq ?_; refine blk_put (cs := #[.int .i64 5, .slice none 0 0, .slice none 0 0]) ?_ 2 _ rfl; refine bq ?_; refine blk_put (cs := #[.int .i64 5, .slice none 0 0, .slice none 0 0]) ?_ 1 _ rfl; refine bq ?_; refine blk_put (cs := #[.int .i64 0, .slice none 0 0, .slice none 0 0]) ?_ 0 _ rfl; refine bq ?_; refine blk_far ?_ NB532_545.out _; refine bq ?_; refine blk_far ?_ NB532_545.out _; refine bq ?_; exact BK532.out) Tryz.underlying49 rfl (by kernel_rfl)) rfl ?_
   exact ⟨_, _, by first | rfl | (simp [errW_none, errW_some] <;> rfl) | (simp [*, errW_none, errW_some] <;> rfl), by first | exact Kd.R_nil _ _ _ _ _ | exact Kd.N_nil _ _ _ _ _ | exact Kd.V_nil _ _ _ _ _ | exact Kd.Q_nil _ _ _ _ _ | exact Kd.S_nil _ _ _ _ _, by first | exact Kd.R_nil _ _ _ _ _ | exact Kd.N_nil _ _ _ _ _ | exact Kd.V_nil _ _ _ _ _ | exact Kd.Q_nil _ _ _ _ _ | exact Kd.S_nil _ _ _ _ _, by exact hs HB.out⟩
 ·rw [if_neg c4] at H
  have c4b0 : (t533 == 0) = false := beq_eq_false_iff_ne.mpr c4
  have c4b1 : (t533 != 0) = true := bne_iff_ne.mpr c4
  simp only [Option.some.injEq, Prod.mk.injEq] at H
  obtain ⟨rfl, rfl, rfl⟩ := H
  go_enter Tryz.func21, Tryz.ntmps21
  go_wp2_with (first | ((with_reducible refine gate_dst (N := 2) rfl ?_); refine box_event ?hg (N := 2) ?hd (cs := #[.slice A0_0 l0_0.length c0_0]) (t := 34) ?hr ?_; (case hd => rfl); (case hg => rfl); (case hr => first | (go_simp; done) | (go_simp; rfl)); intro gb531 hg w107 hbox hb; have n0_ := am (below_step (hq HB.out) hb); have n1_ := am (hbox); have n2_ := am (bz hg (hq HB.out)); have n3_ := n2_; clear HB; revert n0_ n1_ n2_ n3_; intro HB BK531 GW531 GE531; clear hb hbox hg) | ((with_reducible refine gate_dst (N := 4) rfl ?_); refine box_event ?hg (N := 4) ?hd (cs := #[.int .i64 0, .slice none 0 0, .slice none 0 0]) (t := 49) ?hr ?_; (case hd => rfl); (case hg => rfl); (case hr => first | (go_simp; done) | (go_simp; rfl)); intro gb532 hg w108 hbox hb; have n0_ := am (blk_below (bq BK531.out) hb); have n1_ := am (below_step (hs HB.out) hb); have n2_ := am (hbox); have n3_ := am (bz hg (hs HB.out)); have n4_ := n3_; have n5_ := am ((by rw [hg]; exact Nat.ne_of_lt (blk_lt (bq BK531.out)) : gb531 ≠ gb532)); have n6_ := am ((by rw [hg]; exact Nat.ne_of_gt (blk_lt (bq BK531.out)) : gb532 ≠ gb531)); clear BK531 HB; revert n0_ n1_ n2_ n3_ n4_ n5_ n6_; intro BK531 HB BK532 GW532 GE532 NB531_532 NB532_531; clear hb hbox hg; have hnb109 := NB531_532.out; have hnc109 := NB532_531.out; have hcz110_0 : w108.cell? ⟨gb531, 0, none⟩ = some (.slice A0_0 l0_0.length c0_0) := (blk_cell BK531.out 0).trans rfl; have hfz110_0 := blk_frozen BK531.out 0) | ((with_reducible refine gate_callee (f := 61) rfl ?_); refine goesL_ (some 15) rfl rfl Tryz.func61 (by kernel_rfl) rfl #[.agg #[.slice A0_0 l0_0.length c0_0]] rfl el ?_; (with_reducible refine (impl_SignatureFault.calls k _ _ l0_0 t533 _ ?side1 ?side2 A3.out).mono ?_); (case side1 => exact cq (Kd.C_below HR0_0.out HB.out)); (case side2 => exact HC0_0.out); rintro e w111 ⟨rfl, hb⟩; refine ⟨_, rfl, ?_⟩; have n0_ := am (blk_below (bq BK531.out) hb); have n1_ := am (blk_below (bq BK532.out) hb); have n2_ := am (below_step (hs HB.out) hb); clear BK531 BK532 HB; revert n0_ n1_ n2_; intro BK531 BK532 HB; (try clear hb); (try clear hb2); (try clear hgw); (try clear hk); (try clear hi); have hcz112_0 : w111.cell? ⟨gb532, 0, none⟩ = some (.int .i64 0) := (blk_cell BK532.out 0).trans rfl; have hcz112_1 : w111.cell? ⟨gb532, 1, none⟩ = some (.slice none 0 0) := (blk_cell BK532.out 1).trans rfl; have hcz112_2 : w111.cell? ⟨gb532, 2, none⟩ = some (.slice none 0 0) := (blk_cell BK532.out 2).trans rfl; have hfz112_0 := blk_frozen BK532.out 0; have hfz112_1 := blk_frozen BK532.out 1; have hfz112_2 := blk_frozen BK532.out 2))
  refine bodyPost_ret (results_cell_row rfl _ _ gb532 49 #[.int .i64 t533, .slice none 0 0, .slice none 0 0] (0, 0) _ rfl (by refine bq ?_; refine blk_put (cs := #[.int .i64 t533, .slice none 0 0, .slice none 0 0]) ?_ 2 _ rfl; refine bq ?_; refine blk_put (cs := #[.int .i64 t533, .slice none 0 0, .slice none 0 0]) ?_ 1 _ rfl; refine bq ?_; refine blk_put (cs := #[.int .i64 0, .slice none 0 0, .slice none 0 0]) ?_ 0 _ rfl; refine bq ?_; exact BK532.out) Tryz.underlying49 rfl (by kernel_rfl)) rfl ?_
  exact ⟨_, _, by first | rfl | (simp [errW_none, errW_some] <;> rfl) | (simp [*, errW_none, errW_some] <;> rfl), by first | exact Kd.R_nil _ _ _ _ _ | exact Kd.N_nil _ _ _ _ _ | exact Kd.V_nil _ _ _ _ _ | exact Kd.Q_nil _ _ _ _ _ | exact Kd.S_nil _ _ _ _ _, by first | exact Kd.R_nil _ _ _ _ _ | exact Kd.N_nil _ _ _ _ _ | exact Kd.V_nil _ _ _ _ _ | exact Kd.Q_nil _ _ _ _ _ | exact Kd.S_nil _ _ _ _ _, by exact hs HB.out⟩
def laws_eqEquationResult.f (k : Nat) (a0_0 : Int) (l0_1 : List Int) (l0_2 : List Int) (a1_0 : Int) (l1_1 : List Int) (l1_2 : List Int) : Option (Bool) := if a0_0 = a1_0 then ((laws_eqEquation.f k l0_1 l0_2 l1_1 l1_2).bind fun t549 => (if t549 = true then (some true) else (some false))) else (some false)
set_option maxHeartbeats 8000000 in
set_option maxRecDepth 100000 in
theorem laws_eqEquationResult.calls (k : Nat) (a0_0 : Int) (A0_1 : Option Addr) (c0_1 : Nat) (l0_1 : List Int) (A0_2 : Option Addr) (c0_2 : Nat) (l0_2 : List Int) (a1_0 : Int) (A1_1 : Option Addr) (c1_1 : Nat) (l1_1 : List Int) (A1_2 : Option Addr) (c1_2 : Nat) (l1_2 : List Int) (r : Bool) (w : World) (hr0_1 : Kd.C (Kd.int .i64) w A0_1 l0_1.length l0_1) (hc0_1 : l0_1.length ≤ c0_1) (hr0_2 : Kd.C (Kd.int .i64) w A0_2 l0_2.length l0_2) (hc0_2 : l0_2.length ≤ c0_2) (hr1_1 : Kd.C (Kd.int .i64) w A1_1 l1_1.length l1_1) (hc1_1 : l1_1.length ≤ c1_1) (hr1_2 : Kd.C (Kd.int .i64) w A1_2 l1_2.length l1_2) (hc1_2 : l1_2.length ≤ c1_2) (h : laws_eqEquationResult.f k a0_0 l0_1 l0_2 a1_0 l1_1 l1_2 = some r) :
  Calls Tryz.prog 22 #[.agg #[.int .i64 a0_0, .slice A0_1 l0_1.length c0_1, .slice A0_2 l0_2.length c0_2], .agg #[.int .i64 a1_0, .slice A1_1 l1_1.length c1_1, .slice A1_2 l1_2.length c1_2]] w fun e w' => e = .returned (.bool r) ∧ Below w.heap.size w w' := by
 have hu49 := Tryz.underlying49
 have hu47 := Tryz.underlying47
 have HR0_1 := am hr0_1
 have HC0_1 := am hc0_1
 clear hr0_1 hc0_1
 have HR0_2 := am hr0_2
 have HC0_2 := am hc0_2
 clear hr0_2 hc0_2
 have HR1_1 := am hr1_1
 have HC1_1 := am hc1_1
 clear hr1_1 hc1_1
 have HR1_2 := am hr1_2
 have HC1_2 := am hc1_2
 clear hr1_2 hc1_2
 have HB := am (Below.refl w.heap.size w)
 have H : (if a0_0 = a1_0 then ((laws_eqEquation.f k l0_1 l0_2 l1_1 l1_2).bind fun t549 => (if t549 = true then (some true) else (some false))) else (some false)) = some r := h
 clear h
 by_cases c3 : a0_0 = a1_0
 ·rw [if_pos c3] at H
  have c3b0 : (a0_0 == a1_0) = true := beq_iff_eq.mpr c3
  have c3b1 : (a0_0 != a1_0) = false := bne_eq_false_iff_eq.mpr c3
  clear c3
  replace H := Option.bind_eq_some_iff.mp H
  obtain ⟨t549, A40, H⟩ := H
  replace H : (if t549 = true then (some true) else (some false)) = some r := H
  have A4 := am A40
  clear A40
  by_cases c5 : t549 = true
  ·subst c5
   have H1 : (some true) = some r := by rw [if_pos rfl] at H; exact H
   clear H
   have H := H1
   clear H1
   obtain rfl := Option.some.inj H
   go_enter Tryz.func22, Tryz.ntmps22
   go_wp2_with (first | ((with_reducible refine gate_dst (N := 2) rfl ?_); refine box_event ?hg (N := 2) ?hd (cs := #[.int .i64 a0_0, .slice A0_1 l0_1.length c0_1, .slice A0_2 l0_2.length c0_2]) (t := 49) ?hr ?_; (case hd => rfl); (case hg => rfl); (case hr => first | (go_simp; done) | (go_simp; rfl)); intro gb547 hg w6 hbox hb; have n0_ := am (below_step (hq HB.out) hb); have n1_ := am (hbox); have n2_ := am (bz hg (hq HB.out)); have n3_ := n2_; clear HB; revert n0_ n1_ n2_ n3_; intro HB BK547 GW547 GE547; clear hb hbox hg) | ((with_reducible refine gate_dst (N := 3) rfl ?_); refine box_event ?hg (N := 3) ?hd (cs := #[.int .i64 a1_0, .slice A1_1 l1_1.length c1_1, .slice A1_2 l1_2.length c1_2]) (t := 49) ?hr ?_; (case hd => rfl); (case hg => rfl); (case hr => first | (go_simp; done) | (go_simp; rfl)); intro gb548 hg w7 hbox hb; have n0_ := am (blk_below (bq BK547.out) hb); have n1_ := am (below_step (hs HB.out) hb); have n2_ := am (hbox); have n3_ := am (bz hg (hs HB.out)); have n4_ := n3_; have n5_ := am ((by rw [hg]; exact Nat.ne_of_lt (blk_lt (bq BK547.out)) : gb547 ≠ gb548)); have n6_ := am ((by rw [hg]; exact Nat.ne_of_gt (blk_lt (bq BK547.out)) : gb548 ≠ gb547)); clear BK547 HB; revert n0_ n1_ n2_ n3_ n4_ n5_ n6_; intro BK547 HB BK548 GW548 GE548 NB547_548 NB548_547; clear hb hbox hg; have hnb8 := NB547_548.out; have hnc8 := NB548_547.out; have hcz9_0 : w7.cell? ⟨gb547, 0, none⟩ = some (.int .i64 a0_0) := (blk_cell BK547.out 0).trans rfl; have hcz9_1 : w7.cell? ⟨gb547, 1, none⟩ = some (.slice A0_1 l0_1.length c0_1) := (blk_cell BK547.out 1).trans rfl; have hcz9_2 : w7.cell? ⟨gb547, 2, none⟩ = some (.slice A0_2 l0_2.length c0_2) := (blk_cell BK547.out 2).trans rfl; have hfz9_0 := blk_frozen BK547.out 0; have hfz9_1 := blk_frozen BK547.out 1; have hfz9_2 := blk_frozen BK547.out 2; have hcz10_0 : w7.cell? ⟨gb548, 0, none⟩ = some (.int .i64 a1_0) := (blk_cell BK548.out 0).trans rfl; have hcz10_1 : w7.cell? ⟨gb548, 1, none⟩ = some (.slice A1_1 l1_1.length c1_1) := (blk_cell BK548.out 1).trans rfl; have hcz10_2 : w7.cell? ⟨gb548, 2, none⟩ = some (.slice A1_2 l1_2.length c1_2) := (blk_cell BK548.out 2).trans rfl; have hfz10_0 := blk_frozen BK548.out 0; have hfz10_1 := blk_frozen BK548.out 1; have hfz10_2 := blk_frozen BK548.out 2) | ((with_reducible refine gate_callee (f := 52) rfl ?_); refine goesL_ (some 14) rfl rfl Tryz.func52 (by kernel_rfl) rfl #[.agg #[.slice A0_1 l0_1.length c0_1, .slice A0_2 l0_2.length c0_2], .agg #[.slice A1_1 l1_1.length c1_1, .slice A1_2 l1_2.length c1_2]] rfl el ?_; (with_reducible refine (laws_eqEquation.calls k _ _ l0_1 _ _ l0_2 _ _ l1_1 _ _ l1_2 true _ ?side1 ?side2 ?side3 ?side4 ?side5 ?side6 ?side7 ?side8 A4.out).mono ?_); (case side1 => exact cq (Kd.C_below HR0_1.out HB.out)); (case side2 => exact HC0_1.out); (case side3 => exact cq (Kd.C_below HR0_2.out HB.out)); (case side4 => exact HC0_2.out); (case side5 => exact cq (Kd.C_below HR1_1.out HB.out)); (case side6 => exact HC1_1.out); (case side7 => exact cq (Kd.C_below HR1_2.out HB.out)); (case side8 => exact HC1_2.out); rintro e w11 ⟨rfl, hb⟩; refine ⟨_, rfl, ?_⟩; have n0_ := am (blk_below (bq BK547.out) hb); have n1_ := am (blk_below (bq BK548.out) hb); have n2_ := am (below_step (hs HB.out) hb); clear BK547 BK548 HB; revert n0_ n1_ n2_; intro BK547 BK548 HB; (try clear hb); (try clear hb2); (try clear hgw); (try clear hk); (try clear hi)))
   go_ret
   exact ⟨by first | rfl | (simp [errW_none, errW_some] <;> rfl) | (simp [*, errW_none, errW_some] <;> rfl), by exact hs HB.out⟩
  ·replace c5 := Bool.eq_false_iff.mpr c5
   subst c5
   have H1 : (some false) = some r := by rw [if_neg (show ¬ (false = true) by decide)] at H; exact H
   clear H
   have H := H1
   clear H1
   obtain rfl := Option.some.inj H
   go_enter Tryz.func22, Tryz.ntmps22
   go_wp2_with (first | ((with_reducible refine gate_dst (N := 2) rfl ?_); refine box_event ?hg (N := 2) ?hd (cs := #[.int .i64 a0_0, .slice A0_1 l0_1.length c0_1, .slice A0_2 l0_2.length c0_2]) (t := 49) ?hr ?_; (case hd => rfl); (case hg => rfl); (case hr => first | (go_simp; done) | (go_simp; rfl)); intro gb547 hg w12 hbox hb; have n0_ := am (below_step (hq HB.out) hb); have n1_ := am (hbox); have n2_ := am (bz hg (hq HB.out)); have n3_ := n2_; clear HB; revert n0_ n1_ n2_ n3_; intro HB BK547 GW547 GE547; clear hb hbox hg) | ((with_reducible refine gate_dst (N := 3) rfl ?_); refine box_event ?hg (N := 3) ?hd (cs := #[.int .i64 a1_0, .slice A1_1 l1_1.length c1_1, .slice A1_2 l1_2.length c1_2]) (t := 49) ?hr ?_; (case hd => rfl); (case hg => rfl); (case hr => first | (go_simp; done) | (go_simp; rfl)); intro gb548 hg w13 hbox hb; have n0_ := am (blk_below (bq BK547.out) hb); have n1_ := am (below_step (hs HB.out) hb); have n2_ := am (hbox); have n3_ := am (bz hg (hs HB.out)); have n4_ := n3_; have n5_ := am ((by rw [hg]; exact Nat.ne_of_lt (blk_lt (bq BK547.out)) : gb547 ≠ gb548)); have n6_ := am ((by rw [hg]; exact Nat.ne_of_gt (blk_lt (bq BK547.out)) : gb548 ≠ gb547)); clear BK547 HB; revert n0_ n1_ n2_ n3_ n4_ n5_ n6_; intro BK547 HB BK548 GW548 GE548 NB547_548 NB548_547; clear hb hbox hg; have hnb14 := NB547_548.out; have hnc14 := NB548_547.out; have hcz15_0 : w13.cell? ⟨gb547, 0, none⟩ = some (.int .i64 a0_0) := (blk_cell BK547.out 0).trans rfl; have hcz15_1 : w13.cell? ⟨gb547, 1, none⟩ = some (.slice A0_1 l0_1.length c0_1) := (blk_cell BK547.out 1).trans rfl; have hcz15_2 : w13.cell? ⟨gb547, 2, none⟩ = some (.slice A0_2 l0_2.length c0_2) := (blk_cell BK547.out 2).trans rfl; have hfz15_0 := blk_frozen BK547.out 0; have hfz15_1 := blk_frozen BK547.out 1; have hfz15_2 := blk_frozen BK547.out 2; have hcz16_0 : w13.cell? ⟨gb548, 0, none⟩ = some (.int .i64 a1_0) := (blk_cell BK548.out 0).trans rfl; have hcz16_1 : w13.cell? ⟨gb548, 1, none⟩ = some (.slice A1_1 l1_1.length c1_1) := (blk_cell BK548.out 1).trans rfl; have hcz16_2 : w13.cell? ⟨gb548, 2, none⟩ = some (.slice A1_2 l1_2.length c1_2) := (blk_cell BK548.out 2).trans rfl; have hfz16_0 := blk_frozen BK548.out 0; have hfz16_1 := blk_frozen BK548.out 1; have hfz16_2 := blk_frozen BK548.out 2) | ((with_reducible refine gate_callee (f := 52) rfl ?_); refine goesL_ (some 14) rfl rfl Tryz.func52 (by kernel_rfl) rfl #[.agg #[.slice A0_1 l0_1.length c0_1, .slice A0_2 l0_2.length c0_2], .agg #[.slice A1_1 l1_1.length c1_1, .slice A1_2 l1_2.length c1_2]] rfl el ?_; (with_reducible refine (laws_eqEquation.calls k _ _ l0_1 _ _ l0_2 _ _ l1_1 _ _ l1_2 false _ ?side1 ?side2 ?side3 ?side4 ?side5 ?side6 ?side7 ?side8 A4.out).mono ?_); (case side1 => exact cq (Kd.C_below HR0_1.out HB.out)); (case side2 => exact HC0_1.out); (case side3 => exact cq (Kd.C_below HR0_2.out HB.out)); (case side4 => exact HC0_2.out); (case side5 => exact cq (Kd.C_below HR1_1.out HB.out)); (case side6 => exact HC1_1.out); (case side7 => exact cq (Kd.C_below HR1_2.out HB.out)); (case side8 => exact HC1_2.out); rintro e w17 ⟨rfl, hb⟩; refine ⟨_, rfl, ?_⟩; have n0_ := am (blk_below (bq BK547.out) hb); have n1_ := am (blk_below (bq BK548.out) hb); have n2_ := am (below_step (hs HB.out) hb); clear BK547 BK548 HB; revert n0_ n1_ n2_; intro BK547 BK548 HB; (try clear hb); (try clear hb2); (try clear hgw); (try clear hk); (try clear hi)))
   go_ret
   exact ⟨by first | rfl | (simp [errW_none, errW_some] <;> rfl) | (simp [*, errW_none, errW_some] <;> rfl), by exact hs HB.out⟩
 ·rw [if_neg c3] at H
  have c3b0 : (a0_0 == a1_0) = false := beq_eq_false_iff_ne.mpr c3
  have c3b1 : (a0_0 != a1_0) = true := bne_iff_ne.mpr c3
  obtain rfl := Option.some.inj H
  go_enter Tryz.func22, Tryz.ntmps22
  go_wp2_with (first | ((with_reducible refine gate_dst (N := 2) rfl ?_); refine box_event ?hg (N := 2) ?hd (cs := #[.int .i64 a0_0, .slice A0_1 l0_1.length c0_1, .slice A0_2 l0_2.length c0_2]) (t := 49) ?hr ?_; (case hd => rfl); (case hg => rfl); (case hr => first | (go_simp; done) | (go_simp; rfl)); intro gb547 hg w18 hbox hb; have n0_ := am (below_step (hq HB.out) hb); have n1_ := am (hbox); have n2_ := am (bz hg (hq HB.out)); have n3_ := n2_; clear HB; revert n0_ n1_ n2_ n3_; intro HB BK547 GW547 GE547; clear hb hbox hg) | ((with_reducible refine gate_dst (N := 3) rfl ?_); refine box_event ?hg (N := 3) ?hd (cs := #[.int .i64 a1_0, .slice A1_1 l1_1.length c1_1, .slice A1_2 l1_2.length c1_2]) (t := 49) ?hr ?_; (case hd => rfl); (case hg => rfl); (case hr => first | (go_simp; done) | (go_simp; rfl)); intro gb548 hg w19 hbox hb; have n0_ := am (blk_below (bq BK547.out) hb); have n1_ := am (below_step (hs HB.out) hb); have n2_ := am (hbox); have n3_ := am (bz hg (hs HB.out)); have n4_ := n3_; have n5_ := am ((by rw [hg]; exact Nat.ne_of_lt (blk_lt (bq BK547.out)) : gb547 ≠ gb548)); have n6_ := am ((by rw [hg]; exact Nat.ne_of_gt (blk_lt (bq BK547.out)) : gb548 ≠ gb547)); clear BK547 HB; revert n0_ n1_ n2_ n3_ n4_ n5_ n6_; intro BK547 HB BK548 GW548 GE548 NB547_548 NB548_547; clear hb hbox hg; have hnb20 := NB547_548.out; have hnc20 := NB548_547.out; have hcz21_0 : w19.cell? ⟨gb547, 0, none⟩ = some (.int .i64 a0_0) := (blk_cell BK547.out 0).trans rfl; have hcz21_1 : w19.cell? ⟨gb547, 1, none⟩ = some (.slice A0_1 l0_1.length c0_1) := (blk_cell BK547.out 1).trans rfl; have hcz21_2 : w19.cell? ⟨gb547, 2, none⟩ = some (.slice A0_2 l0_2.length c0_2) := (blk_cell BK547.out 2).trans rfl; have hfz21_0 := blk_frozen BK547.out 0; have hfz21_1 := blk_frozen BK547.out 1; have hfz21_2 := blk_frozen BK547.out 2; have hcz22_0 : w19.cell? ⟨gb548, 0, none⟩ = some (.int .i64 a1_0) := (blk_cell BK548.out 0).trans rfl; have hcz22_1 : w19.cell? ⟨gb548, 1, none⟩ = some (.slice A1_1 l1_1.length c1_1) := (blk_cell BK548.out 1).trans rfl; have hcz22_2 : w19.cell? ⟨gb548, 2, none⟩ = some (.slice A1_2 l1_2.length c1_2) := (blk_cell BK548.out 2).trans rfl; have hfz22_0 := blk_frozen BK548.out 0; have hfz22_1 := blk_frozen BK548.out 1; have hfz22_2 := blk_frozen BK548.out 2))
  go_ret
  exact ⟨by first | rfl | (simp [errW_none, errW_some] <;> rfl) | (simp [*, errW_none, errW_some] <;> rfl), by exact hs HB.out⟩
def laws_markEquation.f (k : Nat) (l0_0 : List Int) (l0_1 : List Int) (a1 : Int) : Option (Int × List Int × List Int) := (laws_markInt64S.f k l0_0 a1).bind fun bt551 => ((laws_markInt64S.f k l0_1 bt551.1).bind fun bt553 => (some (bt553.1, bt551.2, bt553.2)))
set_option maxHeartbeats 8000000 in
set_option maxRecDepth 100000 in
theorem laws_markEquation.calls (k : Nat) (P0_0_ : Nat → Prop) (u9000_ : Value) (l0_0 : List Int) (P0_1_ : Nat → Prop) (u9001_ : Value) (l0_1 : List Int) (a1 : Int) (r1 : Int) (r2 : List Int) (r3 : List Int) (w0 w : World) (hB : Below w0.heap.size w0 w) (ho0_0 : Kd.R (Kd.int .i64) 2 w w0.heap.size P0_0_ u9000_ l0_0) (hp0_0_0_1 : ∀ k_, P0_0_ k_ → ¬ P0_1_ k_) (ho0_1 : Kd.R (Kd.int .i64) 2 w w0.heap.size P0_1_ u9001_ l0_1) (hp0_1_0_0 : ∀ k_, P0_1_ k_ → ¬ P0_0_ k_) (h : laws_markEquation.f k l0_0 l0_1 a1 = some (r1, r2, r3)) :
  Calls Tryz.prog 64 #[.agg #[u9000_, u9001_], .int .i64 a1] w fun e w' => e = .returned (.int .i64 r1) ∧ Kd.R (Kd.int .i64) 2 w' w0.heap.size (fun k_ => ((P0_0_ k_ ∨ P0_1_ k_) ∨ w.heap.size ≤ k_)) u9000_ r2 ∧ Kd.R (Kd.int .i64) 2 w' w0.heap.size (fun k_ => ((P0_0_ k_ ∨ P0_1_ k_) ∨ w.heap.size ≤ k_)) u9001_ r3 ∧ Below w0.heap.size w0 w' ∧ Kept w w' (fun k_ => P0_0_ k_ ∨ P0_1_ k_) := by
 have hu47 := Tryz.underlying47
 have HO0_0 := am (show Kd.R (Kd.int .i64) 2 w w0.heap.size (fun k_ => ((P0_0_ k_ ∨ P0_1_ k_) ∨ w.heap.size ≤ k_) ∧ some k_ ≠ (u9001_ : Value).ownBlock) u9000_ l0_0 from Kd.R_mono ho0_0 (fun k_ hk => ⟨(.inl (.inl hk)), fun e_ => hp0_0_0_1 k_ hk (ho0_1.1 k_ e_.symm)⟩))
 have HO0_1 := am (show Kd.R (Kd.int .i64) 2 w w0.heap.size (fun k_ => ((P0_0_ k_ ∨ P0_1_ k_) ∨ w.heap.size ≤ k_) ∧ some k_ ≠ (u9000_ : Value).ownBlock) u9001_ l0_1 from Kd.R_mono ho0_1 (fun k_ hk => ⟨(.inl (.inr hk)), fun e_ => hp0_1_0_0 k_ hk (ho0_0.1 k_ e_.symm)⟩))
 have HK := am (Kept.refl w (fun k_ => P0_0_ k_ ∨ P0_1_ k_))
 have HW0 := am hB.size
 have HB := am hB
 clear hB
 have H : ((laws_markInt64S.f k l0_0 a1).bind fun bt551 => ((laws_markInt64S.f k l0_1 bt551.1).bind fun bt553 => (some (bt553.1, bt551.2, bt553.2)))) = some (r1, r2, r3) := h
 clear h
 replace H := Option.bind_eq_some_iff.mp H
 obtain ⟨⟨t551, t552⟩, A30, H⟩ := H
 replace H : ((laws_markInt64S.f k l0_1 t551).bind fun bt553 => (some (bt553.1, t552, bt553.2))) = some (r1, r2, r3) := H
 have A3 := am A30
 clear A30
 replace H := Option.bind_eq_some_iff.mp H
 obtain ⟨⟨t553, t554⟩, A40, H⟩ := H
 replace H : (some (t553, t552, t554)) = some (r1, r2, r3) := H
 have A4 := am A40
 clear A40
 simp only [Option.some.injEq, Prod.mk.injEq] at H
 obtain ⟨rfl, rfl, rfl⟩ := H
 obtain ⟨Ao5, co5, eo5⟩ := Kd.R_slice HO0_0.out
 subst eo5
 obtain ⟨Ao6, co6, eo6⟩ := Kd.R_slice HO0_1.out
 subst eo6
 go_enter Tryz.func64, Tryz.ntmps64
 go_wp2_with (first | ((with_reducible refine gate_dst (N := 2) rfl ?_); refine box_event ?hg (N := 2) ?hd (cs := #[.slice Ao5 l0_0.length co5, .slice Ao6 l0_1.length co6]) (t := 47) ?hr ?_; (case hd => rfl); (case hg => rfl); (case hr => first | (go_simp; done) | (go_simp; rfl)); intro gb550 hg w7 hbox hb; have n0_ := am (Kd.R_below (rq HO0_0.out) hb); have n1_ := am (Kd.R_below (rq HO0_1.out) hb); have n2_ := am (Kept.below (S := (fun k_ => P0_0_ k_ ∨ P0_1_ k_)) (by repeat (first | (with_reducible first | exact HK.out | apply Kept.alloc | apply Kept.drewN | apply Kept.drew) | exact HK.out)) hb); have n3_ := am (below_step (hq HB.out) hb); have n4_ := am (hbox); have n5_ := am ((by rw [hg]; exact (by first | exact HK.out.1 | exact (show Kept w _ (fun k_ => P0_0_ k_ ∨ P0_1_ k_) from by repeat (first | (with_reducible first | exact HK.out | apply Kept.alloc | apply Kept.drewN | apply Kept.drew) | exact HK.out)).1) : w.heap.size ≤ gb550)); have n6_ := am (bz hg (hq HB.out)); clear HO0_0 HO0_1 HK HB; revert n0_ n1_ n2_ n3_ n4_ n5_ n6_; intro HO0_0 HO0_1 HK HB BK550 GW550 GE550; clear hb hbox hg; have hcz8_0 : w7.cell? ⟨gb550, 0, none⟩ = some (.slice Ao5 l0_0.length co5) := (blk_cell BK550.out 0).trans rfl; have hcz8_1 : w7.cell? ⟨gb550, 1, none⟩ = some (.slice Ao6 l0_1.length co6) := (blk_cell BK550.out 1).trans rfl; have hfz8_0 := blk_frozen BK550.out 0; have hfz8_1 := blk_frozen BK550.out 1) | ((with_reducible refine gate_callee (f := 54) rfl ?_); refine goesL_ (some 8) rfl rfl Tryz.func54 (by kernel_rfl) rfl #[.slice Ao5 l0_0.length co5, .int .i64 a1] rfl el ?_; (with_reducible refine (laws_markInt64S.calls k (fun k_ => some k_ = (.slice Ao5 l0_0.length co5 : Value).ownBlock) (.slice Ao5 l0_0.length co5) l0_0 a1 t551 t552 w0 _ ?side1 ?side2 A3.out).mono ?_); (case side1 => exact hs HB.out); (case side2 => exact Kd.R_tight rfl HO0_0.out); rintro e w9 ⟨rfl, hy0, hb, hkp⟩; refine ⟨_, rfl, ?_⟩; have n0_ := am (Kd.R_reok rfl hy0 (fun k_ e_ => HO0_0.out.1 k_ e_)); have n1_ := am (Kd.R_mono (ok' := fun k_ => ((P0_0_ k_ ∨ P0_1_ k_) ∨ w.heap.size ≤ k_) ∧ some k_ ≠ (.slice Ao5 l0_0.length co5 : Value).ownBlock) (Kd.R_keptB (HO0_1.out) hkp (fun k_ hk_ hs_ => (hk_.2) hs_)) (fun k_ hk_ => ⟨hk_.1.1, hk_.1.2⟩)); have n2_ := am (blk_keptF BK550.out (fun h_ => by refine bq ?_; exact h_) hkp (fun hs_ => (fun e_ => (Kd.R_ne HO0_0.out BK550.out (by decide)) e_) hs_)); have n3_ := am (Kept.then_ (S := (fun k_ => P0_0_ k_ ∨ P0_1_ k_)) (by repeat (first | (with_reducible first | exact HK.out | apply Kept.alloc | apply Kept.drewN | apply Kept.drew | refine Kept.setCell ?_ (.inr GW550.out) _) | exact HK.out)) hkp (fun k_ hs_ => (fun e_ => (HO0_0.out.1 k_ e_.symm).1) hs_)); have n4_ := am (hb); clear HO0_0 HO0_1 BK550 HK HB; revert n0_ n1_ n2_ n3_ n4_; intro HO0_0 HO0_1 BK550 HK HB; (try clear hb); (try clear hkp); (try clear hy0); have hcz10_0 : w9.cell? ⟨gb550, 0, none⟩ = some (.slice Ao5 l0_0.length co5) := (blk_cell BK550.out 0).trans rfl; have hcz10_1 : w9.cell? ⟨gb550, 1, none⟩ = some (.slice Ao6 l0_1.length co6) := (blk_cell BK550.out 1).trans rfl; have hfz10_0 := blk_frozen BK550.out 0; have hfz10_1 := blk_frozen BK550.out 1) | ((with_reducible refine gate_callee (f := 54) rfl ?_); refine goesL_ (some 12) rfl rfl Tryz.func54 (by kernel_rfl) rfl #[.slice Ao6 l0_1.length co6, .int .i64 t551] rfl el ?_; (with_reducible refine (laws_markInt64S.calls k (fun k_ => some k_ = (.slice Ao6 l0_1.length co6 : Value).ownBlock) (.slice Ao6 l0_1.length co6) l0_1 t551 t553 t554 w0 _ ?side1 ?side2 A4.out).mono ?_); (case side1 => exact hs HB.out); (case side2 => exact Kd.R_tight rfl HO0_1.out); rintro e w11 ⟨rfl, hy0, hb, hkp⟩; refine ⟨_, rfl, ?_⟩; have n0_ := am (Kd.R_mono (ok' := fun k_ => ((P0_0_ k_ ∨ P0_1_ k_) ∨ w.heap.size ≤ k_) ∧ some k_ ≠ (.slice Ao6 l0_1.length co6 : Value).ownBlock) (Kd.R_keptB (HO0_0.out) hkp (fun k_ hk_ hs_ => (hk_.2) hs_)) (fun k_ hk_ => ⟨hk_.1.1, hk_.1.2⟩)); have n1_ := am (Kd.R_reok rfl hy0 (fun k_ e_ => HO0_1.out.1 k_ e_)); have n2_ := am (blk_keptF BK550.out (fun h_ => by refine bq ?_; exact h_) hkp (fun hs_ => (fun e_ => (Kd.R_ne HO0_1.out BK550.out (by decide)) e_) hs_)); have n3_ := am (Kept.then_ (S := (fun k_ => P0_0_ k_ ∨ P0_1_ k_)) (by repeat (first | (with_reducible first | exact HK.out | apply Kept.alloc | apply Kept.drewN | apply Kept.drew | refine Kept.setCell ?_ (.inr GW550.out) _) | exact HK.out)) hkp (fun k_ hs_ => (fun e_ => (HO0_1.out.1 k_ e_.symm).1) hs_)); have n4_ := am (hb); clear HO0_0 HO0_1 BK550 HK HB; revert n0_ n1_ n2_ n3_ n4_; intro HO0_0 HO0_1 BK550 HK HB; (try clear hb); (try clear hkp); (try clear hy0)))
 go_ret
 exact ⟨by first | rfl | (simp [errW_none, errW_some] <;> rfl) | (simp [*, errW_none, errW_some] <;> rfl), by (with_reducible repeat (first | apply Kd.R_alloc | apply Kd.R_drewN | apply Kd.R_drew)); exact Kd.R_mono HO0_0.out (fun _ hk => hk.1), by (with_reducible repeat (first | apply Kd.R_alloc | apply Kd.R_drewN | apply Kd.R_drew)); exact Kd.R_mono HO0_1.out (fun _ hk => hk.1), by exact hs HB.out, by repeat (first | (with_reducible first | exact HK.out | apply Kept.alloc | apply Kept.drewN | apply Kept.drew | refine Kept.setCell ?_ (.inr GW550.out) _) | exact HK.out)⟩
def laws_markEquationResult.f (k : Nat) (a0_0 : Int) (l0_1 : List Int) (l0_2 : List Int) (a1 : Int) : Option (Int × List Int × List Int) := (laws_markEquation.f k l0_1 l0_2 a1).bind fun bt556 => (some (bt556.1, bt556.2.1, bt556.2.2))
set_option maxHeartbeats 8000000 in
set_option maxRecDepth 100000 in
theorem laws_markEquationResult.calls (k : Nat) (a0_0 : Int) (P0_1_ : Nat → Prop) (u9000_ : Value) (l0_1 : List Int) (P0_2_ : Nat → Prop) (u9001_ : Value) (l0_2 : List Int) (a1 : Int) (r1 : Int) (r2 : List Int) (r3 : List Int) (w0 w : World) (hB : Below w0.heap.size w0 w) (ho0_1 : Kd.R (Kd.int .i64) 2 w w0.heap.size P0_1_ u9000_ l0_1) (hp0_1_0_2 : ∀ k_, P0_1_ k_ → ¬ P0_2_ k_) (ho0_2 : Kd.R (Kd.int .i64) 2 w w0.heap.size P0_2_ u9001_ l0_2) (hp0_2_0_1 : ∀ k_, P0_2_ k_ → ¬ P0_1_ k_) (h : laws_markEquationResult.f k a0_0 l0_1 l0_2 a1 = some (r1, r2, r3)) :
  Calls Tryz.prog 23 #[.agg #[.int .i64 a0_0, u9000_, u9001_], .int .i64 a1] w fun e w' => e = .returned (.int .i64 r1) ∧ Kd.R (Kd.int .i64) 2 w' w0.heap.size (fun k_ => ((P0_1_ k_ ∨ P0_2_ k_) ∨ w.heap.size ≤ k_)) u9000_ r2 ∧ Kd.R (Kd.int .i64) 2 w' w0.heap.size (fun k_ => ((P0_1_ k_ ∨ P0_2_ k_) ∨ w.heap.size ≤ k_)) u9001_ r3 ∧ Below w0.heap.size w0 w' ∧ Kept w w' (fun k_ => P0_1_ k_ ∨ P0_2_ k_) := by
 have hu49 := Tryz.underlying49
 have hu47 := Tryz.underlying47
 have HO0_1 := am (show Kd.R (Kd.int .i64) 2 w w0.heap.size (fun k_ => ((P0_1_ k_ ∨ P0_2_ k_) ∨ w.heap.size ≤ k_) ∧ some k_ ≠ (u9001_ : Value).ownBlock) u9000_ l0_1 from Kd.R_mono ho0_1 (fun k_ hk => ⟨(.inl (.inl hk)), fun e_ => hp0_1_0_2 k_ hk (ho0_2.1 k_ e_.symm)⟩))
 have HO0_2 := am (show Kd.R (Kd.int .i64) 2 w w0.heap.size (fun k_ => ((P0_1_ k_ ∨ P0_2_ k_) ∨ w.heap.size ≤ k_) ∧ some k_ ≠ (u9000_ : Value).ownBlock) u9001_ l0_2 from Kd.R_mono ho0_2 (fun k_ hk => ⟨(.inl (.inr hk)), fun e_ => hp0_2_0_1 k_ hk (ho0_1.1 k_ e_.symm)⟩))
 have HK := am (Kept.refl w (fun k_ => P0_1_ k_ ∨ P0_2_ k_))
 have HW0 := am hB.size
 have HB := am hB
 clear hB
 have H : ((laws_markEquation.f k l0_1 l0_2 a1).bind fun bt556 => (some (bt556.1, bt556.2.1, bt556.2.2))) = some (r1, r2, r3) := h
 clear h
 replace H := Option.bind_eq_some_iff.mp H
 obtain ⟨⟨t556, t557, t558⟩, A30, H⟩ := H
 replace H : (some (t556, t557, t558)) = some (r1, r2, r3) := H
 have A3 := am A30
 clear A30
 simp only [Option.some.injEq, Prod.mk.injEq] at H
 obtain ⟨rfl, rfl, rfl⟩ := H
 obtain ⟨Ao4, co4, eo4⟩ := Kd.R_slice HO0_1.out
 subst eo4
 obtain ⟨Ao5, co5, eo5⟩ := Kd.R_slice HO0_2.out
 subst eo5
 go_enter Tryz.func23, Tryz.ntmps23
 go_wp2_with (first | ((with_reducible refine gate_dst (N := 2) rfl ?_); refine box_event ?hg (N := 2) ?hd (cs := #[.int .i64 a0_0, .slice Ao4 l0_1.length co4, .slice Ao5 l0_2.length co5]) (t := 49) ?hr ?_; (case hd => rfl); (case hg => rfl); (case hr => first | (go_simp; done) | (go_simp; rfl)); intro gb555 hg w6 hbox hb; have n0_ := am (Kd.R_below (rq HO0_1.out) hb); have n1_ := am (Kd.R_below (rq HO0_2.out) hb); have n2_ := am (Kept.below (S := (fun k_ => P0_1_ k_ ∨ P0_2_ k_)) (by repeat (first | (with_reducible first | exact HK.out | apply Kept.alloc | apply Kept.drewN | apply Kept.drew) | exact HK.out)) hb); have n3_ := am (below_step (hq HB.out) hb); have n4_ := am (hbox); have n5_ := am ((by rw [hg]; exact (by first | exact HK.out.1 | exact (show Kept w _ (fun k_ => P0_1_ k_ ∨ P0_2_ k_) from by repeat (first | (with_reducible first | exact HK.out | apply Kept.alloc | apply Kept.drewN | apply Kept.drew) | exact HK.out)).1) : w.heap.size ≤ gb555)); have n6_ := am (bz hg (hq HB.out)); clear HO0_1 HO0_2 HK HB; revert n0_ n1_ n2_ n3_ n4_ n5_ n6_; intro HO0_1 HO0_2 HK HB BK555 GW555 GE555; clear hb hbox hg; have hcz7_0 : w6.cell? ⟨gb555, 0, none⟩ = some (.int .i64 a0_0) := (blk_cell BK555.out 0).trans rfl; have hcz7_1 : w6.cell? ⟨gb555, 1, none⟩ = some (.slice Ao4 l0_1.length co4) := (blk_cell BK555.out 1).trans rfl; have hcz7_2 : w6.cell? ⟨gb555, 2, none⟩ = some (.slice Ao5 l0_2.length co5) := (blk_cell BK555.out 2).trans rfl; have hfz7_0 := blk_frozen BK555.out 0; have hfz7_1 := blk_frozen BK555.out 1; have hfz7_2 := blk_frozen BK555.out 2) | ((with_reducible refine gate_callee (f := 64) rfl ?_); refine goesL_ (some 8) rfl rfl Tryz.func64 (by kernel_rfl) rfl #[.agg #[.slice Ao4 l0_1.length co4, .slice Ao5 l0_2.length co5], .int .i64 a1] rfl el ?_; (with_reducible refine (laws_markEquation.calls k (fun k_ => some k_ = (.slice Ao4 l0_1.length co4 : Value).ownBlock) (.slice Ao4 l0_1.length co4) l0_1 (fun k_ => some k_ = (.slice Ao5 l0_2.length co5 : Value).ownBlock) (.slice Ao5 l0_2.length co5) l0_2 a1 t556 t557 t558 w0 _ ?side1 ?side2 ?side3 ?side4 ?side5 A3.out).mono ?_); (case side1 => exact hs HB.out); (case side2 => exact Kd.R_tight rfl HO0_1.out); (case side3 => exact fun k_ e_ => (HO0_1.out.1 k_ e_.symm).2); (case side4 => exact Kd.R_tight rfl HO0_2.out); (case side5 => exact fun k_ e_ => (HO0_2.out.1 k_ e_.symm).2); rintro e w8 ⟨rfl, hy0, hy1, hb, hkp⟩; refine ⟨_, rfl, ?_⟩; have n0_ := am (Kd.R_reok rfl hy0 (fun k_ e_ => HO0_1.out.1 k_ e_)); have n1_ := am (Kd.R_reok rfl hy1 (fun k_ e_ => HO0_2.out.1 k_ e_)); have n2_ := am (blk_keptF BK555.out (fun h_ => by refine bq ?_; exact h_) hkp (fun hs_ => Or.elim hs_ (fun e_ => (fun e_ => (Kd.R_ne HO0_1.out BK555.out (by decide)) e_) e_) (fun e_ => (fun e_ => (Kd.R_ne HO0_2.out BK555.out (by decide)) e_) e_))); have n3_ := am (Kept.then_ (S := (fun k_ => P0_1_ k_ ∨ P0_2_ k_)) (by repeat (first | (with_reducible first | exact HK.out | apply Kept.alloc | apply Kept.drewN | apply Kept.drew | refine Kept.setCell ?_ (.inr GW555.out) _) | exact HK.out)) hkp (fun k_ hs_ => Or.elim hs_ (fun e_ => (fun e_ => (HO0_1.out.1 k_ e_.symm).1) e_) (fun e_ => (fun e_ => (HO0_2.out.1 k_ e_.symm).1) e_))); have n4_ := am (hb); clear HO0_1 HO0_2 BK555 HK HB; revert n0_ n1_ n2_ n3_ n4_; intro HO0_1 HO0_2 BK555 HK HB; (try clear hb); (try clear hkp); (try clear hy0); (try clear hy1)))
 go_ret
 exact ⟨by first | rfl | (simp [errW_none, errW_some] <;> rfl) | (simp [*, errW_none, errW_some] <;> rfl), by (with_reducible repeat (first | apply Kd.R_alloc | apply Kd.R_drewN | apply Kd.R_drew)); exact Kd.R_mono HO0_1.out (fun _ hk => hk.1), by (with_reducible repeat (first | apply Kd.R_alloc | apply Kd.R_drewN | apply Kd.R_drew)); exact Kd.R_mono HO0_2.out (fun _ hk => hk.1), by exact hs HB.out, by repeat (first | (with_reducible first | exact HK.out | apply Kept.alloc | apply Kept.drewN | apply Kept.drew | refine Kept.setCell ?_ (.inr GW555.out) _) | exact HK.out)⟩
def laws_heldInt64S.l0 : Nat → List Int → Int → Int → Option (Int)
 | 0, _, _, _ => none
 | k + 1, x0, x1, x5 => if x5 < (x0.length : Int) then (if 0 ≤ x5 then (if (rd x0 x5) = x1 then (laws_heldInt64S.l0 k x0 (wrap64 (x1 + 1)) (wrap64 (x5 + 1))) else (some (-1))) else (none)) else (some x1)
def laws_heldInt64S.f (k : Nat) (l0 : List Int) (a1 : Int) : Option (Int) := laws_heldInt64S.l0 k l0 a1 0
set_option maxHeartbeats 8000000 in
set_option maxRecDepth 100000 in
theorem laws_heldInt64S.calls (k : Nat) (A0 : Option Addr) (c0 : Nat) (l0 : List Int) (a1 : Int) (r : Int) (w : World) (hr0 : Kd.C (Kd.int .i64) w A0 l0.length l0) (hc0 : l0.length ≤ c0) (h : laws_heldInt64S.f k l0 a1 = some r) :
  Calls Tryz.prog 113 #[.slice A0 l0.length c0, .int .i64 a1] w fun e w' => e = .returned (.int .i64 r) ∧ Drawn0 w w' := by
 have HR0 := am hr0
 have HC0 := am hc0
 clear hr0 hc0
 have H : (laws_heldInt64S.l0 k l0 a1 0) = some r := h
 clear h
 have H' := am H
 clear H
 go_enter Tryz.func113, Tryz.ntmps113
 go_wp2
 go_loopg [1, 5] k (fun kq v1 v5 w' => ∃ (x1_1 : Int) (x5_1 : Int), v1 = .int .i64 x1_1 ∧ v5 = .int .i64 x5_1 ∧ Aside0 (laws_heldInt64S.l0 kq l0 x1_1 x5_1 = some r) ∧ Aside0 (kq ≤ k) ∧ Drawn0 w w')
 case atStart => exact ⟨(a1), (0), (by first | rfl | (simp; done) | (simp [*]; done)), (by first | rfl | (simp; done) | (simp [*]; done)), H', ⟨Nat.le_refl _⟩, by repeat (first | exact Drawn0.refl _ | apply Drawn0.step)⟩
 case round =>
  clear H'
  try clear c1
  try clear p2
  obtain ⟨x1_1, x5_1, rfl, rfl, HA, HK1, ⟨m1, rfl⟩⟩ := hrel
  cases gk with
  | zero => exact absurd HA.out (by simp [laws_heldInt64S.l0])
  | succ k1 =>
   have H := HA.out
   clear HA
   simp only [laws_heldInt64S.l0] at H
   by_cases c3 : x5_1 < (l0.length : Int)
   ·rw [if_pos c3] at H
    have c3b0 : decide (x5_1 < (l0.length : Int)) = true := decide_eq_true c3
    clear c3
    by_cases c4 : 0 ≤ x5_1
    ·rw [if_pos c4] at H
     have c4b0 : decide (0 ≤ x5_1) = true := decide_eq_true c4
     clear c4
     by_cases c5 : (rd l0 x5_1) = x1_1
     ·rw [if_pos c5] at H
      have c5b0 : ((rd l0 x5_1) == x1_1) = true := beq_iff_eq.mpr c5
      have c5b1 : ((rd l0 x5_1) != x1_1) = false := bne_eq_false_iff_eq.mpr c5
      clear c5
      have H' := am H
      clear H
      have p559 : 0 ≤ (x5_1 : Int) := of_decide_eq_true (by first | (with_reducible assumption) | assumption)
      have q559 : x5_1 < (l0.length : Int) := of_decide_eq_true (by first | (with_reducible assumption) | assumption)
      obtain ⟨ad559, e559, hx559_0⟩ := Kd.at_int HR0.out x5_1 p559 q559
      cases e559
      replace p559 := eq_true p559
      replace q559 := eq_true q559
      go_wp2
      go_roundg k1
      case measure => have := HK1.out; omega
      case rel => exact ⟨(wrap64 (x1_1 + 1)), (wrap64 (x5_1 + 1)), (by first | rfl | (simp; done) | (simp [*]; done)), (by first | rfl | (simp; done) | (simp [*]; done)), H', ⟨by have := HK1.out; omega⟩, by repeat (first | exact Drawn0.refl _ | apply Drawn0.step)⟩
     ·rw [if_neg c5] at H
      have c5b0 : ((rd l0 x5_1) == x1_1) = false := beq_eq_false_iff_ne.mpr c5
      have c5b1 : ((rd l0 x5_1) != x1_1) = true := bne_iff_ne.mpr c5
      obtain rfl := Option.some.inj H
      have p559 : 0 ≤ (x5_1 : Int) := of_decide_eq_true (by first | (with_reducible assumption) | assumption)
      have q559 : x5_1 < (l0.length : Int) := of_decide_eq_true (by first | (with_reducible assumption) | assumption)
      obtain ⟨ad559, e559, hx559_0⟩ := Kd.at_int HR0.out x5_1 p559 q559
      cases e559
      replace p559 := eq_true p559
      replace q559 := eq_true q559
      go_wp2
      go_ret
      exact ⟨by first | rfl | (simp; done) | (simp [*]; done), by repeat (first | exact Drawn0.refl _ | apply Drawn0.step)⟩
    ·rw [if_neg c4] at H
     exact absurd H (by simp)
   ·rw [if_neg c3] at H
    have c3b0 : decide (x5_1 < (l0.length : Int)) = false := decide_eq_false c3
    clear c3
    obtain rfl := Option.some.inj H
    go_wp2
    go_ret
    exact ⟨by first | rfl | (simp; done) | (simp [*]; done), by repeat (first | exact Drawn0.refl _ | apply Drawn0.step)⟩
end Go.Proofs.YtcanokiehjjbgaaGreatDoor.P
