/- A part of the proof of the law FnExactReadEquation. -/
import Derived.Laws.StructEq
import Derived.Test.YtcanokiehjjbgaaGreatDoorCFnExactReadEquation0
import Derived.Test.YtcanokiehjjbgaaGreatDoorCFnExactReadEquation1
import Derived.Test.YtcanokiehjjbgaaGreatDoorCFnExactReadEquation2
import Derived.Test.YtcanokiehjjbgaaGreatDoorCFnExactReadEquation3
import Derived.Test.YtcanokiehjjbgaaGreatDoorCFnExactReadEquation15
namespace Go.Proofs.YtcanokiehjjbgaaGreatDoor.P
open Go.RowKit Go.Proofs.YtcanokiehjjbgaaGreatDoorW.PrintWords Go.Proofs.YtcanokiehjjbgaaGreatDoorW.PrintLast Go.Proofs.YtcanokiehjjbgaaGreatDoorW.PrintMore
attribute [local go_sem] max2_int min2_int max_two min_two max_three min_three max_four min_four   -- for this text's walks alone
set_option linter.unusedVariables false
set_option linter.unusedSimpArgs false
mutual
def spec_l4Nodes.l0 : Nat → List (S34) → ByteArray → List Int → Int → Option (List Int × Bool)
 | 0, _, _, _, _ => none
 | k + 1, x0, x1, x6, x7 => if x7 < (x1.size : Int) then (if 0 ≤ x7 then (if (bt x1 x7) = 40 then (spec_l4Nodes.j1 k x0 x1 x6 x7 (bt x1 x7) true) else (if (bt x1 x7) = 41 then (spec_l4Nodes.j1 k x0 x1 x6 x7 (bt x1 x7) true) else (spec_l4Nodes.j1 k x0 x1 x6 x7 (bt x1 x7) ((bt x1 x7) == 44)))) else (none)) else (some (x6, true))
def spec_l4Nodes.j1 : Nat → List (S34) → ByteArray → List Int → Int → Int → Bool → Option (List Int × Bool)
 | 0, _, _, _, _, _, _ => none
 | k + 1, x0, x1, x6, x7, x8, x19 => if x19 = true then (spec_l4Nodes.l0 k x0 x1 x6 (wrap64 (x7 + 1))) else (if x8 ≥ 65 then (spec_l4Nodes.j2 k x0 x1 x6 x7 x8 (decide (x8 < 77))) else (spec_l4Nodes.j2 k x0 x1 x6 x7 x8 false))
def spec_l4Nodes.j2 : Nat → List (S34) → ByteArray → List Int → Int → Int → Bool → Option (List Int × Bool)
 | 0, _, _, _, _, _, _ => none
 | k + 1, x0, x1, x6, x7, x8, x32 => if x32 = true then (if x6.length < 17592186044416 then (spec_l4Nodes.l0 k x0 x1 (x6 ++ [(-1) - ((x8 - 65) % 256)]) (wrap64 (x7 + 1))) else (none)) else (if x8 ≥ 97 then (spec_l4Nodes.j3 k x0 x1 x6 x7 (decide (x8 ≤ 122))) else (spec_l4Nodes.j3 k x0 x1 x6 x7 false))
def spec_l4Nodes.j3 : Nat → List (S34) → ByteArray → List Int → Int → Bool → Option (List Int × Bool)
 | 0, _, _, _, _, _ => none
 | k + 1, x0, x1, x6, x7, x48 => if x48 = true then (spec_l4Nodes.l1 k x0 x1 x6 x7 x7) else (some (([] : List Int), false))
def spec_l4Nodes.l1 : Nat → List (S34) → ByteArray → List Int → Int → Int → Option (List Int × Bool)
 | 0, _, _, _, _, _ => none
 | k + 1, x0, x1, x6, x7, x9 => if x9 < (x1.size : Int) then (if 0 ≤ x9 then (if (bt x1 x9) ≥ 97 then (if (bt x1 x9) ≤ 122 then (spec_l4Nodes.l1 k x0 x1 x6 x7 (wrap64 (x9 + 1))) else (if 0 ≤ x7 then (if x7 ≤ x9 then (if x9 ≤ (x1.size : Int) then ((spec_l2Find.f k x0 (x1.extract (x7 : Int).toNat (x9 : Int).toNat)).bind fun t434 => (if t434 < 0 then (some (([] : List Int), false)) else (if x6.length < 17592186044416 then (spec_l4Nodes.l0 k x0 x1 (x6 ++ [t434]) x9) else (none)))) else (none)) else (none)) else (none))) else (if 0 ≤ x7 then (if x7 ≤ x9 then (if x9 ≤ (x1.size : Int) then ((spec_l2Find.f k x0 (x1.extract (x7 : Int).toNat (x9 : Int).toNat)).bind fun t438 => (if t438 < 0 then (some (([] : List Int), false)) else (if x6.length < 17592186044416 then (spec_l4Nodes.l0 k x0 x1 (x6 ++ [t438]) x9) else (none)))) else (none)) else (none)) else (none))) else (none)) else (if 0 ≤ x7 then (if x7 ≤ x9 then (if x9 ≤ (x1.size : Int) then ((spec_l2Find.f k x0 (x1.extract (x7 : Int).toNat (x9 : Int).toNat)).bind fun t442 => (if t442 < 0 then (some (([] : List Int), false)) else (if x6.length < 17592186044416 then (spec_l4Nodes.l0 k x0 x1 (x6 ++ [t442]) x9) else (none)))) else (none)) else (none)) else (none))
end
def spec_l4Nodes.f (k : Nat) (l0 : List (S34)) (a1 : ByteArray) : Option (List Int × Bool) := spec_l4Nodes.l0 k l0 a1 (([] : List Int)) 0
set_option maxHeartbeats 8000000 in
set_option maxRecDepth 100000 in
theorem spec_l4Nodes.calls (k : Nat) (A0 : Option Addr) (l0 : List (S34)) (a1 : ByteArray) (r1 : List Int) (r2 : Bool) (w : World) (hr0 : Kd.C k34 w A0 l0.length l0) (h : spec_l4Nodes.f k l0 a1 = some (r1, r2)) :
  Calls Tryz.prog 103 #[.pointer A0, .string a1] w fun e w' => ∃ v0_ : Value, e = .returned (.tuple #[v0_, .bool r2]) ∧ Kd.R (Kd.int .i64) 2 w' w.heap.size (fun _ => True) v0_ r1 ∧ Below w.heap.size w w' := by
 have HR0 := am hr0
 clear hr0
 have HB := am (Below.refl w.heap.size w)
 have H : (spec_l4Nodes.l0 k l0 a1 (([] : List Int)) 0) = some (r1, r2) := h
 clear h
 obtain ⟨y428, hy428⟩ : ∃ y_ : List Int, y_ = (([] : List Int)) := ⟨_, rfl⟩
 replace H : (spec_l4Nodes.l0 k l0 a1 y428 0) = some (r1, r2) := by first | (rw [hy428]; with_reducible exact H) | (have H2_ := (Option.bind_some _ _).symm.trans H; rw [hy428]; with_reducible exact H2_) | (have H2_ := (Option.bind_some _ _).symm.trans H; with_reducible exact H2_) | with_reducible exact H | (rw [hy428]; exact H) | exact H
 have Ny428 := am hy428
 clear hy428
 have H' := am H
 clear H
 go_enter Tryz.func103, Tryz.ntmps103
 go_wp2_with (first | ((with_reducible refine gate_dst (N := 11) rfl ?_); refine Kd.R_lit (Kd.int .i64) _ 2 ?hg (N := 11) ?hd (xs := ([] : List Int)) (inner := []) (ok := fun _ => True) (okp := fun _ => True) ?hr ?hp (fun _ hk => hk) trivial (Below.refl _ _) (Nat.le_refl _) (by simp) ?_; (case hd => rfl); (case hg => rfl); (case hr => first | (go_simp; done) | (go_simp; rfl)); (case hp => exact (Reps.none _ _)); intro v429 w3 ho4 hb hg_ hnew_; clear hg_ hnew_; (first | rw [← Ny428.out] at ho4 | (simp only [Int.reduceToNat] at ho4; rw [← Ny428.out] at ho4)); have n0_ := am (Kd.R_lower ho4 (below_size (hq HB.out))); have n1_ := am (below_step (hq HB.out) hb); clear HB; revert n0_ n1_; intro HO430 HB; clear hb ho4))
 go_loopg [6, 7] k (fun kq v6 v7 w' => ∃ (x6_1 : List Int) (x7_1 : Int), v7 = .int .i64 x7_1 ∧ Aside0 (spec_l4Nodes.l0 kq l0 a1 x6_1 x7_1 = some (r1, r2)) ∧ Aside0 (kq ≤ k) ∧ Aside0 (Kd.R (Kd.int .i64) 2 w' w.heap.size (fun _ => True) v6 x6_1) ∧ Aside0 (Below w.heap.size w w'))
 case atStart => exact ⟨(y428), (0), (by first | rfl | (simp; done) | (simp [*]; done)), H', ⟨Nat.le_refl _⟩, ⟨by (with_reducible repeat (first | apply Kd.R_alloc | apply Kd.R_drewN | apply Kd.R_drew)); exact HO430.out⟩, ⟨by exact hq HB.out⟩⟩
 case round =>
  clear H'
  try clear c1
  try clear p2
  obtain ⟨x6_1, x7_1, rfl, HA, HK1, HO_6, HB⟩ := hrel
  cases gk with
  | zero => exact absurd HA.out (by simp [spec_l4Nodes.l0])
  | succ k1 =>
   have H := HA.out
   clear HA
   simp only [spec_l4Nodes.l0] at H
   by_cases c5 : x7_1 < (a1.size : Int)
   ·rw [if_pos c5] at H
    have c5b0 : decide (x7_1 < (a1.size : Int)) = true := decide_eq_true c5
    clear c5
    by_cases c6 : 0 ≤ x7_1
    ·rw [if_pos c6] at H
     have c6b0 : decide (0 ≤ x7_1) = true := decide_eq_true c6
     clear c6
     have HC8 := am H
     clear H
     have p7 : 0 ≤ (x7_1 : Int) := of_decide_eq_true (by first | (with_reducible assumption) | assumption)
     have q7 : x7_1 < (a1.size : Int) := of_decide_eq_true (by first | (with_reducible assumption) | assumption)
     have hx7 := bt_at a1 x7_1
     replace p7 := eq_true p7
     replace q7 := eq_true q7
     go_upto_region 6 with (fail)
     go_cut [19] (fun v19 wc => ∃ (kq : Nat) (x19_7 : Bool), v19 = .bool x19_7 ∧ Aside0 (spec_l4Nodes.j1 kq l0 a1 x6_1 x7_1 (bt a1 x7_1) x19_7 = some (r1, r2)) ∧ Aside0 (kq ≤ k1) ∧ Aside0 (Kd.R (Kd.int .i64) 2 wc w.heap.size (fun _ => True) u6 x6_1) ∧ Aside0 (Below w.heap.size w wc))
     case first =>
      have H := HC8.out
      clear HC8
      by_cases c9 : (bt a1 x7_1) = 40
      ·rw [if_pos c9] at H
       have c9b0 : ((bt a1 x7_1) == 40) = true := beq_iff_eq.mpr c9
       have c9b1 : ((bt a1 x7_1) != 40) = false := bne_eq_false_iff_eq.mpr c9
       clear c9
       (first | rw [c9b0] | (simp only [i64_w, i32_w]; rw [c9b0]) | skip)
       have H' := am H
       clear H
       go_wp2
       go_meet
       case rel => exact ⟨_, (true), (by first | rfl | (simp; done) | (simp [*]; done)), H', ⟨by have := HK1.out; first | omega | exact Nat.le_refl _⟩, ⟨by (with_reducible repeat (first | apply Kd.R_alloc | apply Kd.R_drewN | apply Kd.R_drew)); exact HO_6.out⟩, ⟨by exact hq HB.out⟩⟩
      ·rw [if_neg c9] at H
       have c9b0 : ((bt a1 x7_1) == 40) = false := beq_eq_false_iff_ne.mpr c9
       have c9b1 : ((bt a1 x7_1) != 40) = true := bne_iff_ne.mpr c9
       (first | rw [c9b0] | (simp only [i64_w, i32_w]; rw [c9b0]) | skip)
       by_cases c10 : (bt a1 x7_1) = 41
       ·rw [if_pos c10] at H
        have c10b0 : ((bt a1 x7_1) == 41) = true := beq_iff_eq.mpr c10
        have c10b1 : ((bt a1 x7_1) != 41) = false := bne_eq_false_iff_eq.mpr c10
        clear c10
        have H' := am H
        clear H
        go_wp2
        go_meet
        case rel => exact ⟨_, (true), (by first | rfl | (simp; done) | (simp [*]; done)), H', ⟨by have := HK1.out; first | omega | exact Nat.le_refl _⟩, ⟨by (with_reducible repeat (first | apply Kd.R_alloc | apply Kd.R_drewN | apply Kd.R_drew)); exact HO_6.out⟩, ⟨by exact hq HB.out⟩⟩
       ·rw [if_neg c10] at H
        have c10b0 : ((bt a1 x7_1) == 41) = false := beq_eq_false_iff_ne.mpr c10
        have c10b1 : ((bt a1 x7_1) != 41) = true := bne_iff_ne.mpr c10
        have H' := am H
        clear H
        go_wp2
        go_meet
        case rel => exact ⟨_, (((bt a1 x7_1) == 44)), (by first | rfl | (simp; done) | (simp [*]; done)), H', ⟨by have := HK1.out; first | omega | exact Nat.le_refl _⟩, ⟨by (with_reducible repeat (first | apply Kd.R_alloc | apply Kd.R_drewN | apply Kd.R_drew)); exact HO_6.out⟩, ⟨by exact hq HB.out⟩⟩
     case rest =>
      clear HC8
      try clear c1
      try clear p2
      try clear c5
      try clear c5b0
      try clear c6
      try clear c6b0
      try clear p7
      try clear q7
      try clear hx7
      try clear c9
      try clear c9b0
      try clear c9b1
      try clear c10
      try clear c10b0
      try clear c10b1
      try clear p2
      try clear p7
      try clear q7
      obtain ⟨kq, x19_7, rfl, HA, HJ7, HO_6, HB⟩ := hcut
      cases kq with
      | zero => exact absurd HA.out (by simp [spec_l4Nodes.j1])
      | succ kj7 =>
       have H := HA.out
       clear HA
       simp only [spec_l4Nodes.j1] at H
       by_cases c11 : x19_7 = true
       ·subst c11
        have H1 : (spec_l4Nodes.l0 kj7 l0 a1 x6_1 (wrap64 (x7_1 + 1))) = some (r1, r2) := by rw [if_pos rfl] at H; exact H
        clear H
        have H := H1
        clear H1
        have H' := am H
        clear H
        go_wp2
        go_roundg kj7
        case measure => have := HK1.out; have := HJ7.out; omega
        case rel => exact ⟨(x6_1), (wrap64 (x7_1 + 1)), (by first | rfl | (simp; done) | (simp [*]; done)), H', ⟨by have := HK1.out; have := HJ7.out; omega⟩, ⟨by (with_reducible repeat (first | apply Kd.R_alloc | apply Kd.R_drewN | apply Kd.R_drew)); exact HO_6.out⟩, ⟨by exact hq HB.out⟩⟩
       ·replace c11 := Bool.eq_false_iff.mpr c11
        subst c11
        have H1 : (if (bt a1 x7_1) ≥ 65 then (spec_l4Nodes.j2 kj7 l0 a1 x6_1 x7_1 (bt a1 x7_1) (decide ((bt a1 x7_1) < 77))) else (spec_l4Nodes.j2 kj7 l0 a1 x6_1 x7_1 (bt a1 x7_1) false)) = some (r1, r2) := by rw [if_neg (show ¬ (false = true) by decide)] at H; exact H
        clear H
        have H := H1
        clear H1
        have HC12 := am H
        clear H
        go_upto_region 8 with (fail)
        go_cut [32] (fun v32 wc => ∃ (kq : Nat) (x32_11 : Bool), v32 = .bool x32_11 ∧ Aside0 (spec_l4Nodes.j2 kq l0 a1 x6_1 x7_1 (bt a1 x7_1) x32_11 = some (r1, r2)) ∧ Aside0 (kq ≤ kj7) ∧ Aside0 (Kd.R (Kd.int .i64) 2 wc w.heap.size (fun _ => True) u6 x6_1) ∧ Aside0 (Below w.heap.size w wc))
        case first =>
         have H := HC12.out
         clear HC12
         by_cases c13 : (bt a1 x7_1) ≥ 65
         ·rw [if_pos c13] at H
          have c13b0 : decide (65 ≤ (bt a1 x7_1)) = true := decide_eq_true c13
          clear c13
          (first | rw [c13b0] | (simp only [i64_w, i32_w]; rw [c13b0]) | skip)
          have H' := am H
          clear H
          go_wp2
          go_meet
          case rel => exact ⟨_, (decide ((bt a1 x7_1) < 77)), (by first | rfl | (simp; done) | (simp [*]; done)), H', ⟨by have := HK1.out; have := HJ7.out; first | omega | exact Nat.le_refl _⟩, ⟨by (with_reducible repeat (first | apply Kd.R_alloc | apply Kd.R_drewN | apply Kd.R_drew)); exact HO_6.out⟩, ⟨by exact hq HB.out⟩⟩
         ·rw [if_neg c13] at H
          have c13b0 : decide (65 ≤ (bt a1 x7_1)) = false := decide_eq_false c13
          clear c13
          (first | rw [c13b0] | (simp only [i64_w, i32_w]; rw [c13b0]) | skip)
          have H' := am H
          clear H
          go_wp2
          go_meet
          case rel => exact ⟨_, (false), (by first | rfl | (simp; done) | (simp [*]; done)), H', ⟨by have := HK1.out; have := HJ7.out; first | omega | exact Nat.le_refl _⟩, ⟨by (with_reducible repeat (first | apply Kd.R_alloc | apply Kd.R_drewN | apply Kd.R_drew)); exact HO_6.out⟩, ⟨by exact hq HB.out⟩⟩
        case rest =>
         clear HC12
         try clear c1
         try clear p2
         try clear c5
         try clear c5b0
         try clear c6
         try clear c6b0
         try clear p6
         try clear p7
         try clear q7
         try clear hx7
         try clear c9
         try clear c9b0
         try clear c9b1
         try clear c10
         try clear c10b0
         try clear c10b1
         try clear c11
         try clear c13
         try clear c13b0
         try clear p2
         try clear p7
         try clear q7
         obtain ⟨kq, x32_11, rfl, HA, HJ11, HO_6, HB⟩ := hcut
         cases kq with
         | zero => exact absurd HA.out (by simp [spec_l4Nodes.j2])
         | succ kj11 =>
          have H := HA.out
          clear HA
          simp only [spec_l4Nodes.j2] at H
          by_cases c14 : x32_11 = true
          ·subst c14
           have H1 : (if x6_1.length < 17592186044416 then (spec_l4Nodes.l0 kj11 l0 a1 (x6_1 ++ [(-1) - (((bt a1 x7_1) - 65) % 256)]) (wrap64 (x7_1 + 1))) else (none)) = some (r1, r2) := by rw [if_pos rfl] at H; exact H
           clear H
           have H := H1
           clear H1
           by_cases c15 : x6_1.length < 17592186044416
           ·rw [if_pos c15] at H
            have LMc15 := am c15
            clear c15
            obtain ⟨y431, hy431⟩ : ∃ y_ : List Int, y_ = (x6_1 ++ [(-1) - (((bt a1 x7_1) - 65) % 256)]) := ⟨_, rfl⟩
            replace H : (spec_l4Nodes.l0 kj11 l0 a1 y431 (wrap64 (x7_1 + 1))) = some (r1, r2) := by first | (rw [hy431]; with_reducible exact H) | (have H2_ := (Option.bind_some _ _).symm.trans H; rw [hy431]; with_reducible exact H2_) | (have H2_ := (Option.bind_some _ _).symm.trans H; with_reducible exact H2_) | with_reducible exact H | (rw [hy431]; exact H) | exact H
            have Ny431 := am hy431
            clear hy431
            have H' := am H
            clear H
            go_wp2_with (first | ((with_reducible refine gate_builtin (b := .append) (xs := #[.tmp 39, .tmp 44]) rfl ?_); at_builtin; refine Kd.R_append (Kd.int .i64) (w0 := w) w.heap.size rfl (.tmp 39) (.tmp 44) 45 2 (.int .i64 0) 8 rfl Tryz.underlying45 info2 rfl (by decide) (by omega) u6 x6_1 ((-1) - (((bt a1 x7_1) - 65) % 256)) [.int .i64 ((-1) - (((bt a1 x7_1) - 65) % 256))] (fun _ => True) (fun _ => False) rfl rfl ?aP (fun _ hk => hk.elim) ?aF ?aO ?aB ?aS ?aL ?_; (case aP => exact rfl); (case aB => exact (hq HB.out)); (case aF => exact (fun _ _ => trivial)); (case aO => exact (rq HO_6.out)); (case aS => exact (below_size (hq HB.out))); (case aL => have := LMc15.out; omega); intro v432 w16 ho hb hg hat; rw [← Ny431.out] at ho; have n0_ := am (hb); have n1_ := am (ho); clear HB HO_6; revert n0_ n1_; intro HB HO433; clear ho hb hg hat))
            go_roundg kj11
            case measure => have := HK1.out; have := HJ7.out; have := HJ11.out; omega
            case rel => exact ⟨(y431), (wrap64 (x7_1 + 1)), (by first | rfl | (simp; done) | (simp [*]; done)), H', ⟨by have := HK1.out; have := HJ7.out; have := HJ11.out; omega⟩, ⟨by (with_reducible repeat (first | apply Kd.R_alloc | apply Kd.R_drewN | apply Kd.R_drew)); exact HO433.out⟩, ⟨by exact hq HB.out⟩⟩
           ·rw [if_neg c15] at H
            exact absurd H (by simp)
          ·replace c14 := Bool.eq_false_iff.mpr c14
           subst c14
           have H1 : (if (bt a1 x7_1) ≥ 97 then (spec_l4Nodes.j3 kj11 l0 a1 x6_1 x7_1 (decide ((bt a1 x7_1) ≤ 122))) else (spec_l4Nodes.j3 kj11 l0 a1 x6_1 x7_1 false)) = some (r1, r2) := by rw [if_neg (show ¬ (false = true) by decide)] at H; exact H
           clear H
           have H := H1
           clear H1
           have HC17 := am H
           clear H
           go_upto_region 11 with (fail)
           go_cut [48] (fun v48 wc => ∃ (kq : Nat) (x48_16 : Bool), v48 = .bool x48_16 ∧ Aside0 (spec_l4Nodes.j3 kq l0 a1 x6_1 x7_1 x48_16 = some (r1, r2)) ∧ Aside0 (kq ≤ kj11) ∧ Aside0 (Kd.R (Kd.int .i64) 2 wc w.heap.size (fun _ => True) u6 x6_1) ∧ Aside0 (Below w.heap.size w wc))
           case first =>
            have H := HC17.out
            clear HC17
            by_cases c18 : (bt a1 x7_1) ≥ 97
            ·rw [if_pos c18] at H
             have c18b0 : decide (97 ≤ (bt a1 x7_1)) = true := decide_eq_true c18
             clear c18
             (first | rw [c18b0] | (simp only [i64_w, i32_w]; rw [c18b0]) | skip)
             have H' := am H
             clear H
             go_wp2
             go_meet
             case rel => exact ⟨_, (decide ((bt a1 x7_1) ≤ 122)), (by first | rfl | (simp; done) | (simp [*]; done)), H', ⟨by have := HK1.out; have := HJ7.out; have := HJ11.out; first | omega | exact Nat.le_refl _⟩, ⟨by (with_reducible repeat (first | apply Kd.R_alloc | apply Kd.R_drewN | apply Kd.R_drew)); exact HO_6.out⟩, ⟨by exact hq HB.out⟩⟩
            ·rw [if_neg c18] at H
             have c18b0 : decide (97 ≤ (bt a1 x7_1)) = false := decide_eq_false c18
             clear c18
             (first | rw [c18b0] | (simp only [i64_w, i32_w]; rw [c18b0]) | skip)
             have H' := am H
             clear H
             go_wp2
             go_meet
             case rel => exact ⟨_, (false), (by first | rfl | (simp; done) | (simp [*]; done)), H', ⟨by have := HK1.out; have := HJ7.out; have := HJ11.out; first | omega | exact Nat.le_refl _⟩, ⟨by (with_reducible repeat (first | apply Kd.R_alloc | apply Kd.R_drewN | apply Kd.R_drew)); exact HO_6.out⟩, ⟨by exact hq HB.out⟩⟩
           case rest =>
            clear HC17
            try clear c1
            try clear p2
            try clear c5
            try clear c5b0
            try clear c6
            try clear c6b0
            try clear p6
            try clear p7
            try clear q7
            try clear hx7
            try clear c9
            try clear c9b0
            try clear c9b1
            try clear c10
            try clear c10b0
            try clear c10b1
            try clear c11
            try clear c13
            try clear c13b0
            try clear c14
            try clear c15
            try clear c18
            try clear c18b0
            try clear p2
            try clear p6
            try clear p7
            try clear q7
            obtain ⟨kq, x48_16, rfl, HA, HJ16, HO_6, HB⟩ := hcut
            cases kq with
            | zero => exact absurd HA.out (by simp [spec_l4Nodes.j3])
            | succ kj16 =>
             have H := HA.out
             clear HA
             simp only [spec_l4Nodes.j3] at H
             by_cases c19 : x48_16 = true
             ·subst c19
              have H1 : (spec_l4Nodes.l1 kj16 l0 a1 x6_1 x7_1 x7_1) = some (r1, r2) := by rw [if_pos rfl] at H; exact H
              clear H
              have H := H1
              clear H1
              have H' := am H
              clear H
              go_wp2
              go_loopg [9] kj16 (fun kq v9 w' => ∃ (x9_5 : Int), v9 = .int .i64 x9_5 ∧ Aside0 (spec_l4Nodes.l1 kq l0 a1 x6_1 x7_1 x9_5 = some (r1, r2)) ∧ Aside0 (kq ≤ kj16) ∧ Aside0 (Kd.R (Kd.int .i64) 2 w' w.heap.size (fun _ => True) u6 x6_1) ∧ Aside0 (Below w.heap.size w w'))
              case atStart => exact ⟨(x7_1), (by first | rfl | (simp; done) | (simp [*]; done)), H', ⟨Nat.le_refl _⟩, ⟨by (with_reducible repeat (first | apply Kd.R_alloc | apply Kd.R_drewN | apply Kd.R_drew)); exact HO_6.out⟩, ⟨by exact hq HB.out⟩⟩
              case round =>
               clear H'
               try clear c1
               try clear p2
               try clear c5
               try clear c5b0
               try clear c6
               try clear c6b0
               try clear p6
               try clear p7
               try clear q7
               try clear hx7
               try clear c9
               try clear c9b0
               try clear c9b1
               try clear c10
               try clear c10b0
               try clear c10b1
               try clear c11
               try clear c13
               try clear c13b0
               try clear c14
               try clear c15
               try clear c18
               try clear c18b0
               try clear c19
               try clear p2
               try clear p6
               try clear p7
               try clear q7
               obtain ⟨x9_5, rfl, HA, HK5, HO_6, HB⟩ := hrel
               cases gk with
               | zero => exact absurd HA.out (by simp [spec_l4Nodes.l1])
               | succ k5 =>
                have H := HA.out
                clear HA
                simp only [spec_l4Nodes.l1] at H
                by_cases c20 : x9_5 < (a1.size : Int)
                ·rw [if_pos c20] at H
                 have c20b0 : decide (x9_5 < (a1.size : Int)) = true := decide_eq_true c20
                 clear c20
                 by_cases c21 : 0 ≤ x9_5
                 ·rw [if_pos c21] at H
                  have c21b0 : decide (0 ≤ x9_5) = true := decide_eq_true c21
                  clear c21
                  by_cases c23 : (bt a1 x9_5) ≥ 97
                  ·rw [if_pos c23] at H
                   have c23b0 : decide (97 ≤ (bt a1 x9_5)) = true := decide_eq_true c23
                   clear c23
                   by_cases c25 : (bt a1 x9_5) ≤ 122
                   ·rw [if_pos c25] at H
                    have c25b0 : decide ((bt a1 x9_5) ≤ 122) = true := decide_eq_true c25
                    clear c25
                    have H' := am H
                    clear H
                    have p22 : 0 ≤ (x9_5 : Int) := of_decide_eq_true (by first | (with_reducible assumption) | assumption)
                    have q22 : x9_5 < (a1.size : Int) := of_decide_eq_true (by first | (with_reducible assumption) | assumption)
                    have hx22 := bt_at a1 x9_5
                    replace p22 := eq_true p22
                    replace q22 := eq_true q22
                    have p24 : 0 ≤ (x9_5 : Int) := of_decide_eq_true (by first | (with_reducible assumption) | assumption)
                    have q24 : x9_5 < (a1.size : Int) := of_decide_eq_true (by first | (with_reducible assumption) | assumption)
                    have hx24 := bt_at a1 x9_5
                    replace p24 := eq_true p24
                    replace q24 := eq_true q24
                    go_wp2
                    go_roundg k5
                    case measure => have := HK1.out; have := HJ7.out; have := HJ11.out; have := HJ16.out; have := HK5.out; omega
                    case rel => exact ⟨(wrap64 (x9_5 + 1)), (by first | rfl | (simp; done) | (simp [*]; done)), H', ⟨by have := HK1.out; have := HJ7.out; have := HJ11.out; have := HJ16.out; have := HK5.out; omega⟩, ⟨by (with_reducible repeat (first | apply Kd.R_alloc | apply Kd.R_drewN | apply Kd.R_drew)); exact HO_6.out⟩, ⟨by exact hq HB.out⟩⟩
                   ·rw [if_neg c25] at H
                    have c25b0 : decide ((bt a1 x9_5) ≤ 122) = false := decide_eq_false c25
                    clear c25
                    by_cases c26 : 0 ≤ x7_1
                    ·rw [if_pos c26] at H
                     have c26b0 := eq_true c26
                     have c26b1 : decide (0 ≤ x7_1) = true := decide_eq_true c26
                     clear c26
                     by_cases c27 : x7_1 ≤ x9_5
                     ·rw [if_pos c27] at H
                      have c27b0 := eq_true c27
                      have c27b1 : decide (x7_1 ≤ x9_5) = true := decide_eq_true c27
                      clear c27
                      by_cases c28 : x9_5 ≤ (a1.size : Int)
                      ·rw [if_pos c28] at H
                       have c28b0 := eq_true c28
                       have c28b1 : decide (x9_5 ≤ (a1.size : Int)) = true := decide_eq_true c28
                       clear c28
                       replace H := Option.bind_eq_some_iff.mp H
                       obtain ⟨t434, A290, H⟩ := H
                       replace H : (if t434 < 0 then (some (([] : List Int), false)) else (if x6_1.length < 17592186044416 then (spec_l4Nodes.l0 k5 l0 a1 (x6_1 ++ [t434]) x9_5) else (none))) = some (r1, r2) := H
                       have A29 := am A290
                       clear A290
                       by_cases c30 : t434 < 0
                       ·rw [if_pos c30] at H
                        have c30b0 : decide (t434 < 0) = true := decide_eq_true c30
                        clear c30
                        simp only [Option.some.injEq, Prod.mk.injEq] at H
                        obtain ⟨rfl, rfl⟩ := H
                        have p22 : 0 ≤ (x9_5 : Int) := of_decide_eq_true (by first | (with_reducible assumption) | assumption)
                        have q22 : x9_5 < (a1.size : Int) := of_decide_eq_true (by first | (with_reducible assumption) | assumption)
                        have hx22 := bt_at a1 x9_5
                        replace p22 := eq_true p22
                        replace q22 := eq_true q22
                        have p24 : 0 ≤ (x9_5 : Int) := of_decide_eq_true (by first | (with_reducible assumption) | assumption)
                        have q24 : x9_5 < (a1.size : Int) := of_decide_eq_true (by first | (with_reducible assumption) | assumption)
                        have hx24 := bt_at a1 x9_5
                        replace p24 := eq_true p24
                        replace q24 := eq_true q24
                        go_wp2_with (first | ((with_reducible refine gate_callee (f := 138) rfl ?_); refine goesL_ (some 79) rfl rfl Tryz.func138 (by kernel_rfl) rfl #[.pointer A0, .string (a1.extract (x7_1 : Int).toNat (x9_5 : Int).toNat)] rfl el ?_; (with_reducible refine (spec_l2Find.calls k5 _ l0 (a1.extract (x7_1 : Int).toNat (x9_5 : Int).toNat) t434 _ ?side1 A29.out).mono ?_); (case side1 => exact cq (Kd.C_below HR0.out HB.out)); rintro e w' ⟨rfl, ⟨nd, rfl⟩⟩; refine ⟨_, rfl, ?_⟩))
                        go_ret2
                        exact ⟨_, by first | rfl | (simp [errW_none, errW_some] <;> rfl) | (simp [*, errW_none, errW_some] <;> rfl), by first | exact Kd.R_nil _ _ _ _ _ | exact Kd.N_nil _ _ _ _ _ | exact Kd.V_nil _ _ _ _ _ | exact Kd.Q_nil _ _ _ _ _ | exact Kd.S_nil _ _ _ _ _, by exact hq HB.out⟩
                       ·rw [if_neg c30] at H
                        have c30b0 : decide (t434 < 0) = false := decide_eq_false c30
                        clear c30
                        by_cases c31 : x6_1.length < 17592186044416
                        ·rw [if_pos c31] at H
                         have LMc31 := am c31
                         clear c31
                         obtain ⟨y435, hy435⟩ : ∃ y_ : List Int, y_ = (x6_1 ++ [t434]) := ⟨_, rfl⟩
                         replace H : (spec_l4Nodes.l0 k5 l0 a1 y435 x9_5) = some (r1, r2) := by first | (rw [hy435]; with_reducible exact H) | (have H2_ := (Option.bind_some _ _).symm.trans H; rw [hy435]; with_reducible exact H2_) | (have H2_ := (Option.bind_some _ _).symm.trans H; with_reducible exact H2_) | with_reducible exact H | (rw [hy435]; exact H) | exact H
                         have Ny435 := am hy435
                         clear hy435
                         have H' := am H
                         clear H
                         have p22 : 0 ≤ (x9_5 : Int) := of_decide_eq_true (by first | (with_reducible assumption) | assumption)
                         have q22 : x9_5 < (a1.size : Int) := of_decide_eq_true (by first | (with_reducible assumption) | assumption)
                         have hx22 := bt_at a1 x9_5
                         replace p22 := eq_true p22
                         replace q22 := eq_true q22
                         have p24 : 0 ≤ (x9_5 : Int) := of_decide_eq_true (by first | (with_reducible assumption) | assumption)
                         have q24 : x9_5 < (a1.size : Int) := of_decide_eq_true (by first | (with_reducible assumption) | assumption)
                         have hx24 := bt_at a1 x9_5
                         replace p24 := eq_true p24
                         replace q24 := eq_true q24
                         go_wp2_with (first | ((with_reducible refine gate_callee (f := 138) rfl ?_); refine goesL_ (some 79) rfl rfl Tryz.func138 (by kernel_rfl) rfl #[.pointer A0, .string (a1.extract (x7_1 : Int).toNat (x9_5 : Int).toNat)] rfl el ?_; (with_reducible refine (spec_l2Find.calls k5 _ l0 (a1.extract (x7_1 : Int).toNat (x9_5 : Int).toNat) t434 _ ?side1 A29.out).mono ?_); (case side1 => exact cq (Kd.C_below HR0.out HB.out)); rintro e w' ⟨rfl, ⟨nd, rfl⟩⟩; refine ⟨_, rfl, ?_⟩) | ((with_reducible refine gate_builtin (b := .append) (xs := #[.tmp 82, .tmp 84]) rfl ?_); at_builtin; refine Kd.R_append (Kd.int .i64) (w0 := w) w.heap.size rfl (.tmp 82) (.tmp 84) 45 2 (.int .i64 0) 8 rfl Tryz.underlying45 info2 rfl (by decide) (by omega) u6 x6_1 t434 [.int .i64 t434] (fun _ => True) (fun _ => False) rfl rfl ?aP (fun _ hk => hk.elim) ?aF ?aO ?aB ?aS ?aL ?_; (case aP => exact rfl); (case aB => exact (hq HB.out)); (case aF => exact (fun _ _ => trivial)); (case aO => exact (rq HO_6.out)); (case aS => exact (below_size (hq HB.out))); (case aL => have := LMc31.out; omega); intro v436 w32 ho hb hg hat; rw [← Ny435.out] at ho; have n0_ := am (hb); have n1_ := am (ho); clear HB HO_6; revert n0_ n1_; intro HB HO437; clear ho hb hg hat))
                         go_roundg k5
                         case measure => have := HK1.out; have := HJ7.out; have := HJ11.out; have := HJ16.out; have := HK5.out; omega
                         case rel => exact ⟨(y435), (x9_5), (by first | rfl | (simp; done) | (simp [*]; done)), H', ⟨by have := HK1.out; have := HJ7.out; have := HJ11.out; have := HJ16.out; have := HK5.out; omega⟩, ⟨by (with_reducible repeat (first | apply Kd.R_alloc | apply Kd.R_drewN | apply Kd.R_drew)); exact HO437.out⟩, ⟨by exact hq HB.out⟩⟩
                        ·rw [if_neg c31] at H
                         exact absurd H (by simp)
                      ·rw [if_neg c28] at H
                       exact absurd H (by simp)
                     ·rw [if_neg c27] at H
                      exact absurd H (by simp)
                    ·rw [if_neg c26] at H
                     exact absurd H (by simp)
                  ·rw [if_neg c23] at H
                   have c23b0 : decide (97 ≤ (bt a1 x9_5)) = false := decide_eq_false c23
                   clear c23
                   by_cases c33 : 0 ≤ x7_1
                   ·rw [if_pos c33] at H
                    have c33b0 := eq_true c33
                    have c33b1 : decide (0 ≤ x7_1) = true := decide_eq_true c33
                    clear c33
                    by_cases c34 : x7_1 ≤ x9_5
                    ·rw [if_pos c34] at H
                     have c34b0 := eq_true c34
                     have c34b1 : decide (x7_1 ≤ x9_5) = true := decide_eq_true c34
                     clear c34
                     by_cases c35 : x9_5 ≤ (a1.size : Int)
                     ·rw [if_pos c35] at H
                      have c35b0 := eq_true c35
                      have c35b1 : decide (x9_5 ≤ (a1.size : Int)) = true := decide_eq_true c35
                      clear c35
                      replace H := Option.bind_eq_some_iff.mp H
                      obtain ⟨t438, A360, H⟩ := H
                      replace H : (if t438 < 0 then (some (([] : List Int), false)) else (if x6_1.length < 17592186044416 then (spec_l4Nodes.l0 k5 l0 a1 (x6_1 ++ [t438]) x9_5) else (none))) = some (r1, r2) := H
                      have A36 := am A360
                      clear A360
                      by_cases c37 : t438 < 0
                      ·rw [if_pos c37] at H
                       have c37b0 : decide (t438 < 0) = true := decide_eq_true c37
                       clear c37
                       simp only [Option.some.injEq, Prod.mk.injEq] at H
                       obtain ⟨rfl, rfl⟩ := H
                       have p22 : 0 ≤ (x9_5 : Int) := of_decide_eq_true (by first | (with_reducible assumption) | assumption)
                       have q22 : x9_5 < (a1.size : Int) := of_decide_eq_true (by first | (with_reducible assumption) | assumption)
                       have hx22 := bt_at a1 x9_5
                       replace p22 := eq_true p22
                       replace q22 := eq_true q22
                       go_wp2_with (first | ((with_reducible refine gate_callee (f := 138) rfl ?_); refine goesL_ (some 79) rfl rfl Tryz.func138 (by kernel_rfl) rfl #[.pointer A0, .string (a1.extract (x7_1 : Int).toNat (x9_5 : Int).toNat)] rfl el ?_; (with_reducible refine (spec_l2Find.calls k5 _ l0 (a1.extract (x7_1 : Int).toNat (x9_5 : Int).toNat) t438 _ ?side1 A36.out).mono ?_); (case side1 => exact cq (Kd.C_below HR0.out HB.out)); rintro e w' ⟨rfl, ⟨nd, rfl⟩⟩; refine ⟨_, rfl, ?_⟩))
                       go_ret2
                       exact ⟨_, by first | rfl | (simp [errW_none, errW_some] <;> rfl) | (simp [*, errW_none, errW_some] <;> rfl), by first | exact Kd.R_nil _ _ _ _ _ | exact Kd.N_nil _ _ _ _ _ | exact Kd.V_nil _ _ _ _ _ | exact Kd.Q_nil _ _ _ _ _ | exact Kd.S_nil _ _ _ _ _, by exact hq HB.out⟩
                      ·rw [if_neg c37] at H
                       have c37b0 : decide (t438 < 0) = false := decide_eq_false c37
                       clear c37
                       by_cases c38 : x6_1.length < 17592186044416
                       ·rw [if_pos c38] at H
                        have LMc38 := am c38
                        clear c38
                        obtain ⟨y439, hy439⟩ : ∃ y_ : List Int, y_ = (x6_1 ++ [t438]) := ⟨_, rfl⟩
                        replace H : (spec_l4Nodes.l0 k5 l0 a1 y439 x9_5) = some (r1, r2) := by first | (rw [hy439]; with_reducible exact H) | (have H2_ := (Option.bind_some _ _).symm.trans H; rw [hy439]; with_reducible exact H2_) | (have H2_ := (Option.bind_some _ _).symm.trans H; with_reducible exact H2_) | with_reducible exact H | (rw [hy439]; exact H) | exact H
                        have Ny439 := am hy439
                        clear hy439
                        have H' := am H
                        clear H
                        have p22 : 0 ≤ (x9_5 : Int) := of_decide_eq_true (by first | (with_reducible assumption) | assumption)
                        have q22 : x9_5 < (a1.size : Int) := of_decide_eq_true (by first | (with_reducible assumption) | assumption)
                        have hx22 := bt_at a1 x9_5
                        replace p22 := eq_true p22
                        replace q22 := eq_true q22
                        go_wp2_with (first | ((with_reducible refine gate_callee (f := 138) rfl ?_); refine goesL_ (some 79) rfl rfl Tryz.func138 (by kernel_rfl) rfl #[.pointer A0, .string (a1.extract (x7_1 : Int).toNat (x9_5 : Int).toNat)] rfl el ?_; (with_reducible refine (spec_l2Find.calls k5 _ l0 (a1.extract (x7_1 : Int).toNat (x9_5 : Int).toNat) t438 _ ?side1 A36.out).mono ?_); (case side1 => exact cq (Kd.C_below HR0.out HB.out)); rintro e w' ⟨rfl, ⟨nd, rfl⟩⟩; refine ⟨_, rfl, ?_⟩) | ((with_reducible refine gate_builtin (b := .append) (xs := #[.tmp 82, .tmp 84]) rfl ?_); at_builtin; refine Kd.R_append (Kd.int .i64) (w0 := w) w.heap.size rfl (.tmp 82) (.tmp 84) 45 2 (.int .i64 0) 8 rfl Tryz.underlying45 info2 rfl (by decide) (by omega) u6 x6_1 t438 [.int .i64 t438] (fun _ => True) (fun _ => False) rfl rfl ?aP (fun _ hk => hk.elim) ?aF ?aO ?aB ?aS ?aL ?_; (case aP => exact rfl); (case aB => exact (hq HB.out)); (case aF => exact (fun _ _ => trivial)); (case aO => exact (rq HO_6.out)); (case aS => exact (below_size (hq HB.out))); (case aL => have := LMc38.out; omega); intro v440 w39 ho hb hg hat; rw [← Ny439.out] at ho; have n0_ := am (hb); have n1_ := am (ho); clear HB HO_6; revert n0_ n1_; intro HB HO441; clear ho hb hg hat))
                        go_roundg k5
                        case measure => have := HK1.out; have := HJ7.out; have := HJ11.out; have := HJ16.out; have := HK5.out; omega
                        case rel => exact ⟨(y439), (x9_5), (by first | rfl | (simp; done) | (simp [*]; done)), H', ⟨by have := HK1.out; have := HJ7.out; have := HJ11.out; have := HJ16.out; have := HK5.out; omega⟩, ⟨by (with_reducible repeat (first | apply Kd.R_alloc | apply Kd.R_drewN | apply Kd.R_drew)); exact HO441.out⟩, ⟨by exact hq HB.out⟩⟩
                       ·rw [if_neg c38] at H
                        exact absurd H (by simp)
                     ·rw [if_neg c35] at H
                      exact absurd H (by simp)
                    ·rw [if_neg c34] at H
                     exact absurd H (by simp)
                   ·rw [if_neg c33] at H
                    exact absurd H (by simp)
                 ·rw [if_neg c21] at H
                  exact absurd H (by simp)
                ·rw [if_neg c20] at H
                 have c20b0 : decide (x9_5 < (a1.size : Int)) = false := decide_eq_false c20
                 clear c20
                 by_cases c40 : 0 ≤ x7_1
                 ·rw [if_pos c40] at H
                  have c40b0 := eq_true c40
                  have c40b1 : decide (0 ≤ x7_1) = true := decide_eq_true c40
                  clear c40
                  by_cases c41 : x7_1 ≤ x9_5
                  ·rw [if_pos c41] at H
                   have c41b0 := eq_true c41
                   have c41b1 : decide (x7_1 ≤ x9_5) = true := decide_eq_true c41
                   clear c41
                   by_cases c42 : x9_5 ≤ (a1.size : Int)
                   ·rw [if_pos c42] at H
                    have c42b0 := eq_true c42
                    have c42b1 : decide (x9_5 ≤ (a1.size : Int)) = true := decide_eq_true c42
                    clear c42
                    replace H := Option.bind_eq_some_iff.mp H
                    obtain ⟨t442, A430, H⟩ := H
                    replace H : (if t442 < 0 then (some (([] : List Int), false)) else (if x6_1.length < 17592186044416 then (spec_l4Nodes.l0 k5 l0 a1 (x6_1 ++ [t442]) x9_5) else (none))) = some (r1, r2) := H
                    have A43 := am A430
                    clear A430
                    by_cases c44 : t442 < 0
                    ·rw [if_pos c44] at H
                     have c44b0 : decide (t442 < 0) = true := decide_eq_true c44
                     clear c44
                     simp only [Option.some.injEq, Prod.mk.injEq] at H
                     obtain ⟨rfl, rfl⟩ := H
                     go_wp2_with (first | ((with_reducible refine gate_callee (f := 138) rfl ?_); refine goesL_ (some 79) rfl rfl Tryz.func138 (by kernel_rfl) rfl #[.pointer A0, .string (a1.extract (x7_1 : Int).toNat (x9_5 : Int).toNat)] rfl el ?_; (with_reducible refine (spec_l2Find.calls k5 _ l0 (a1.extract (x7_1 : Int).toNat (x9_5 : Int).toNat) t442 _ ?side1 A43.out).mono ?_); (case side1 => exact cq (Kd.C_below HR0.out HB.out)); rintro e w' ⟨rfl, ⟨nd, rfl⟩⟩; refine ⟨_, rfl, ?_⟩))
                     go_ret2
                     exact ⟨_, by first | rfl | (simp [errW_none, errW_some] <;> rfl) | (simp [*, errW_none, errW_some] <;> rfl), by first | exact Kd.R_nil _ _ _ _ _ | exact Kd.N_nil _ _ _ _ _ | exact Kd.V_nil _ _ _ _ _ | exact Kd.Q_nil _ _ _ _ _ | exact Kd.S_nil _ _ _ _ _, by exact hq HB.out⟩
                    ·rw [if_neg c44] at H
                     have c44b0 : decide (t442 < 0) = false := decide_eq_false c44
                     clear c44
                     by_cases c45 : x6_1.length < 17592186044416
                     ·rw [if_pos c45] at H
                      have LMc45 := am c45
                      clear c45
                      obtain ⟨y443, hy443⟩ : ∃ y_ : List Int, y_ = (x6_1 ++ [t442]) := ⟨_, rfl⟩
                      replace H : (spec_l4Nodes.l0 k5 l0 a1 y443 x9_5) = some (r1, r2) := by first | (rw [hy443]; with_reducible exact H) | (have H2_ := (Option.bind_some _ _).symm.trans H; rw [hy443]; with_reducible exact H2_) | (have H2_ := (Option.bind_some _ _).symm.trans H; with_reducible exact H2_) | with_reducible exact H | (rw [hy443]; exact H) | exact H
                      have Ny443 := am hy443
                      clear hy443
                      have H' := am H
                      clear H
                      go_wp2_with (first | ((with_reducible refine gate_callee (f := 138) rfl ?_); refine goesL_ (some 79) rfl rfl Tryz.func138 (by kernel_rfl) rfl #[.pointer A0, .string (a1.extract (x7_1 : Int).toNat (x9_5 : Int).toNat)] rfl el ?_; (with_reducible refine (spec_l2Find.calls k5 _ l0 (a1.extract (x7_1 : Int).toNat (x9_5 : Int).toNat) t442 _ ?side1 A43.out).mono ?_); (case side1 => exact cq (Kd.C_below HR0.out HB.out)); rintro e w' ⟨rfl, ⟨nd, rfl⟩⟩; refine ⟨_, rfl, ?_⟩) | ((with_reducible refine gate_builtin (b := .append) (xs := #[.tmp 82, .tmp 84]) rfl ?_); at_builtin; refine Kd.R_append (Kd.int .i64) (w0 := w) w.heap.size rfl (.tmp 82) (.tmp 84) 45 2 (.int .i64 0) 8 rfl Tryz.underlying45 info2 rfl (by decide) (by omega) u6 x6_1 t442 [.int .i64 t442] (fun _ => True) (fun _ => False) rfl rfl ?aP (fun _ hk => hk.elim) ?aF ?aO ?aB ?aS ?aL ?_; (case aP => exact rfl); (case aB => exact (hq HB.out)); (case aF => exact (fun _ _ => trivial)); (case aO => exact (rq HO_6.out)); (case aS => exact (below_size (hq HB.out))); (case aL => have := LMc45.out; omega); intro v444 w46 ho hb hg hat; rw [← Ny443.out] at ho; have n0_ := am (hb); have n1_ := am (ho); clear HB HO_6; revert n0_ n1_; intro HB HO445; clear ho hb hg hat))
                      go_roundg k5
                      case measure => have := HK1.out; have := HJ7.out; have := HJ11.out; have := HJ16.out; have := HK5.out; omega
                      case rel => exact ⟨(y443), (x9_5), (by first | rfl | (simp; done) | (simp [*]; done)), H', ⟨by have := HK1.out; have := HJ7.out; have := HJ11.out; have := HJ16.out; have := HK5.out; omega⟩, ⟨by (with_reducible repeat (first | apply Kd.R_alloc | apply Kd.R_drewN | apply Kd.R_drew)); exact HO445.out⟩, ⟨by exact hq HB.out⟩⟩
                     ·rw [if_neg c45] at H
                      exact absurd H (by simp)
                   ·rw [if_neg c42] at H
                    exact absurd H (by simp)
                  ·rw [if_neg c41] at H
                   exact absurd H (by simp)
                 ·rw [if_neg c40] at H
                  exact absurd H (by simp)
             ·replace c19 := Bool.eq_false_iff.mpr c19
              subst c19
              have H1 : (some (([] : List Int), false)) = some (r1, r2) := by rw [if_neg (show ¬ (false = true) by decide)] at H; exact H
              clear H
              have H := H1
              clear H1
              simp only [Option.some.injEq, Prod.mk.injEq] at H
              obtain ⟨rfl, rfl⟩ := H
              go_wp2
              go_ret2
              exact ⟨_, by first | rfl | (simp [errW_none, errW_some] <;> rfl) | (simp [*, errW_none, errW_some] <;> rfl), by first | exact Kd.R_nil _ _ _ _ _ | exact Kd.N_nil _ _ _ _ _ | exact Kd.V_nil _ _ _ _ _ | exact Kd.Q_nil _ _ _ _ _ | exact Kd.S_nil _ _ _ _ _, by exact hq HB.out⟩
    ·rw [if_neg c6] at H
     exact absurd H (by simp)
   ·rw [if_neg c5] at H
    have c5b0 : decide (x7_1 < (a1.size : Int)) = false := decide_eq_false c5
    clear c5
    simp only [Option.some.injEq, Prod.mk.injEq] at H
    obtain ⟨rfl, rfl⟩ := H
    go_wp2
    go_ret2
    exact ⟨_, by first | rfl | (simp [errW_none, errW_some] <;> rfl) | (simp [*, errW_none, errW_some] <;> rfl), by (with_reducible repeat (first | apply Kd.R_alloc | apply Kd.R_drewN | apply Kd.R_drew)); exact HO_6.out, by exact hq HB.out⟩
end Go.Proofs.YtcanokiehjjbgaaGreatDoor.P
namespace Go.Proofs.YtcanokiehjjbgaaGreatDoor.P
open Go.RowKit Go.Proofs.YtcanokiehjjbgaaGreatDoorW.PrintWords Go.Proofs.YtcanokiehjjbgaaGreatDoorW.PrintLast Go.Proofs.YtcanokiehjjbgaaGreatDoorW.PrintMore
attribute [local go_sem] max2_int min2_int max_two min_two max_three min_three max_four min_four   -- for this text's walks alone
set_option linter.unusedVariables false
set_option linter.unusedSimpArgs false
mutual
def spec_l4Text.l0 : Nat → List (S34) → List Int → ByteArray → Int → Int → ByteArray → Int → Option (ByteArray)
 | 0, _, _, _, _, _, _, _ => none
 | k + 1, x0, x1, x8, x9, x10, x456000, x456001 => if x10 < x456001 then (if x10 > 0 then (if x8.size + 1 ≤ 9223372036854775807 then ((spec_l4Text.f k x0 x1 x9).bind fun t456 => (if (x8 ++ (⟨#[44]⟩ : ByteArray)).size + t456.size ≤ 9223372036854775807 then ((spec_l3End.f k x0 x1 x9).bind fun t457 => (spec_l4Text.l0 k x0 x1 ((x8 ++ (⟨#[44]⟩ : ByteArray)) ++ t456) t457 (wrap64 (x10 + 1)) x456000 x456001)) else (none))) else (none)) else ((spec_l4Text.f k x0 x1 x9).bind fun t458 => (if x8.size + t458.size ≤ 9223372036854775807 then ((spec_l3End.f k x0 x1 x9).bind fun t459 => (spec_l4Text.l0 k x0 x1 (x8 ++ t458) t459 (wrap64 (x10 + 1)) x456000 x456001)) else (none)))) else (if x8.size + 1 ≤ 9223372036854775807 then (some (x8 ++ (⟨#[41]⟩ : ByteArray))) else (none))
def spec_l4Text.f : Nat → List (S34) → List Int → Int → Option (ByteArray)
 | 0, _, _, _ => none
 | k + 1, l0, l1, a2 => if 0 ≤ a2 then (if a2 < (l1.length : Int) then (if (rd l1 a2) < 0 then (some (strOfNums (([(wrap64 (64 - (rd l1 a2))) % 256] : List Int)))) else (if 0 < (l0.length : Int) then (if 0 ≤ (rd l1 a2) then (if (rd l1 a2) < (((rd_T34 l0 0).f0).length : Int) then (if ((rd_T125 ((rd_T34 l0 0).f0) (rd l1 a2)).f1) = 0 then (some ((rd_T125 ((rd_T34 l0 0).f0) (rd l1 a2)).f0)) else (if ((rd_T125 ((rd_T34 l0 0).f0) (rd l1 a2)).f0).size + 1 ≤ 9223372036854775807 then (spec_l4Text.l0 k l0 l1 (((rd_T125 ((rd_T34 l0 0).f0) (rd l1 a2)).f0) ++ (⟨#[40]⟩ : ByteArray)) (wrap64 (a2 + 1)) 0 ((rd_T125 ((rd_T34 l0 0).f0) (rd l1 a2)).f0) ((rd_T125 ((rd_T34 l0 0).f0) (rd l1 a2)).f1)) else (none))) else (none)) else (none)) else (none))) else (none)) else (none)
end
def spec_l4Text.T3 : Bool × List (List Nat × List Nat) := (true, [([], []), ([0], [0]), ([1], [1]), ([2], [2]), ([], []), ([], []), ([4, 5], [4, 5]), ([6], [6]), ([3, 7], [3, 7]), ([8], [8]), ([], []), ([10, 9, 0, 1, 2, 3, 4, 5, 6, 7, 8, 9, 10], [9, 10])])
def spec_l4Text.B3 : List Nat := [0, 1, 3, 7, 0, 0, 48, 112, 255, 511, 0, 2047]
theorem spec_l4Text.tab3 : rtab .any (opsOf Tryz.f104 3) = spec_l4Text.T3 := by kernel_rfl
theorem spec_l4Text.bits3 : waitsOk spec_l4Text.T3.2 spec_l4Text.B3 = true := by kernel_rfl
set_option maxHeartbeats 8000000 in
set_option maxRecDepth 100000 in
theorem spec_l4Text.calls (k : Nat) : ∀ (A0 : Option Addr) (l0 : List (S34)) (A1 : Option Addr) (c1 : Nat) (l1 : List Int) (a2 : Int) (r : ByteArray) (w : World) (hr0 : Kd.C k34 w A0 l0.length l0) (hr1 : Kd.C (Kd.int .i64) w A1 l1.length l1) (hc1 : l1.length ≤ c1) (h : spec_l4Text.f k l0 l1 a2 = some r),
  Calls Tryz.prog 104 #[.pointer A0, .slice A1 l1.length c1, .int .i64 a2] w fun e w' => e = .returned (.string r) ∧ Below w.heap.size w w' := by
 induction k using Nat.strongRecOn with
 | _ k ih =>
 intro A0 l0 A1 c1 l1 a2 r w hr0 hr1 hc1 h
 cases k with
 | zero => exact absurd h (by simp [spec_l4Text.f])
 | succ k =>
 simp only [spec_l4Text.f] at h
 have hu125 := Tryz.underlying125
 have HR0 := am hr0
 clear hr0
 have HR1 := am hr1
 have HC1 := am hc1
 clear hr1 hc1
 have HB := am (Below.refl w.heap.size w)
 have H : (if 0 ≤ a2 then (if a2 < (l1.length : Int) then (if (rd l1 a2) < 0 then (some (strOfNums (([(wrap64 (64 - (rd l1 a2))) % 256] : List Int)))) else (if 0 < (l0.length : Int) then (if 0 ≤ (rd l1 a2) then (if (rd l1 a2) < (((rd_T34 l0 0).f0).length : Int) then (if ((rd_T125 ((rd_T34 l0 0).f0) (rd l1 a2)).f1) = 0 then (some ((rd_T125 ((rd_T34 l0 0).f0) (rd l1 a2)).f0)) else (if ((rd_T125 ((rd_T34 l0 0).f0) (rd l1 a2)).f0).size + 1 ≤ 9223372036854775807 then (spec_l4Text.l0 k l0 l1 (((rd_T125 ((rd_T34 l0 0).f0) (rd l1 a2)).f0) ++ (⟨#[40]⟩ : ByteArray)) (wrap64 (a2 + 1)) 0 ((rd_T125 ((rd_T34 l0 0).f0) (rd l1 a2)).f0) ((rd_T125 ((rd_T34 l0 0).f0) (rd l1 a2)).f1)) else (none))) else (none)) else (none)) else (none))) else (none)) else (none)) = some r := h
 clear h
 by_cases c4 : 0 ≤ a2
 ·rw [if_pos c4] at H
  have c4b0 : decide (0 ≤ a2) = true := decide_eq_true c4
  clear c4
  by_cases c5 : a2 < (l1.length : Int)
  ·rw [if_pos c5] at H
   have c5b0 : decide (a2 < (l1.length : Int)) = true := decide_eq_true c5
   clear c5
   by_cases c6 : (rd l1 a2) < 0
   ·rw [if_pos c6] at H
    have c6b0 : decide ((rd l1 a2) < 0) = true := decide_eq_true c6
    clear c6
    obtain ⟨y448, hy448⟩ : ∃ y_ : List Int, y_ = (([(wrap64 (64 - (rd l1 a2))) % 256] : List Int)) := ⟨_, rfl⟩
    replace H : (some (strOfNums y448)) = some r := by first | (rw [hy448]; with_reducible exact H) | (have H2_ := (Option.bind_some _ _).symm.trans H; rw [hy448]; with_reducible exact H2_) | (have H2_ := (Option.bind_some _ _).symm.trans H; with_reducible exact H2_) | with_reducible exact H | (rw [hy448]; exact H) | exact H
    have Ny448 := am hy448
    clear hy448
    obtain rfl := Option.some.inj H
    have p446 : 0 ≤ (a2 : Int) := of_decide_eq_true (by first | (with_reducible assumption) | assumption)
    have q446 : a2 < (l1.length : Int) := of_decide_eq_true (by first | (with_reducible assumption) | assumption)
    obtain ⟨ad446, e446, hx446_0⟩ := Kd.at_int HR1.out a2 p446 q446
    cases e446
    replace p446 := eq_true p446
    replace q446 := eq_true q446
    have p447 : 0 ≤ (a2 : Int) := of_decide_eq_true (by first | (with_reducible assumption) | assumption)
    have q447 : a2 < (l1.length : Int) := of_decide_eq_true (by first | (with_reducible assumption) | assumption)
    obtain ⟨ad447, e447, hx447_0⟩ := Kd.at_int HR1.out a2 p447 q447
    obtain rfl : ad446 = ad447 := (by injection e447)
    replace p447 := eq_true p447
    replace q447 := eq_true q447
    go_enter Tryz.func104, Tryz.ntmps104
    go_wp2_with (first | ((with_reducible refine gate_dst (N := 22) rfl ?_); refine Kd.R_lit (Kd.int .u8) _ 5 ?hg (N := 22) ?hd (xs := ([(wrap64 (64 - (rd l1 a2))) % 256] : List Int)) (inner := [.int .u8 ((wrap64 (64 - (rd l1 a2))) % 256)]) (ok := fun _ => True) (okp := fun _ => True) ?hr ?hp (fun _ hk => hk) trivial (Below.refl _ _) (Nat.le_refl _) (by simp) ?_; (case hd => rfl); (case hg => rfl); (case hr => first | (go_simp; done) | (go_simp; rfl)); (case hp => exact (Reps.one (show Kd.M (Kd.int .u8) _ _ _ ((wrap64 (64 - (rd l1 a2))) % 256) [.int .u8 ((wrap64 (64 - (rd l1 a2))) % 256)] from rfl) (Reps.none _ _))); intro v449 w7 ho8 hb hg_ hnew_; clear hg_ hnew_; (first | rw [← Ny448.out] at ho8 | (simp only [Int.reduceToNat] at ho8; rw [← Ny448.out] at ho8)); have n0_ := am (Kd.R_lower ho8 (below_size (hq HB.out))); have n1_ := am (below_step (hq HB.out) hb); clear HB; revert n0_ n1_; intro HO450 HB; clear hb ho8; have hcv9 := own_string (P := Tryz.prog) Tryz.underlying28 Tryz.underlying5 Tryz.underlying9 (Kd.own_of_R HO450.out)))
    go_ret
    exact ⟨by first | rfl | (simp [errW_none, errW_some] <;> rfl) | (simp [*, errW_none, errW_some] <;> rfl), by exact hq HB.out⟩
   ·rw [if_neg c6] at H
    have c6b0 : decide ((rd l1 a2) < 0) = false := decide_eq_false c6
    clear c6
    by_cases c10 : 0 < (l0.length : Int)
    ·rw [if_pos c10] at H
     have c10b0 : decide (0 < (l0.length : Int)) = true := decide_eq_true c10
     have c10b1 : decide (0 < l0.length) = true := decide_eq_true (by omega)
     clear c10
     by_cases c11 : 0 ≤ (rd l1 a2)
     ·rw [if_pos c11] at H
      have c11b0 : decide (0 ≤ (rd l1 a2)) = true := decide_eq_true c11
      clear c11
      by_cases c12 : (rd l1 a2) < (((rd_T34 l0 0).f0).length : Int)
      ·rw [if_pos c12] at H
       have c12b0 : decide ((rd l1 a2) < (((rd_T34 l0 0).f0).length : Int)) = true := decide_eq_true c12
       clear c12
       by_cases c13 : ((rd_T125 ((rd_T34 l0 0).f0) (rd l1 a2)).f1) = 0
       ·rw [if_pos c13] at H
        have c13b0 : (((rd_T125 ((rd_T34 l0 0).f0) (rd l1 a2)).f1) == 0) = true := beq_iff_eq.mpr c13
        have c13b1 : (((rd_T125 ((rd_T34 l0 0).f0) (rd l1 a2)).f1) != 0) = false := bne_eq_false_iff_eq.mpr c13
        clear c13
        obtain rfl := Option.some.inj H
        have p446 : 0 ≤ (a2 : Int) := of_decide_eq_true (by first | (with_reducible assumption) | assumption)
        have q446 : a2 < (l1.length : Int) := of_decide_eq_true (by first | (with_reducible assumption) | assumption)
        obtain ⟨ad446, e446, hx446_0⟩ := Kd.at_int HR1.out a2 p446 q446
        cases e446
        replace p446 := eq_true p446
        replace q446 := eq_true q446
        go_enter Tryz.func104, Tryz.ntmps104
        try go_wp2
        have n0_ := am (below_drew1 HB.out)
        clear HB
        have HB := n0_
        clear n0_
        have p451 : 0 ≤ (0 : Int) := (by omega)
        have q451 : 0 < (l0.length : Int) := of_decide_eq_true (by first | (with_reducible assumption) | assumption)
        obtain ⟨ad451, A451_0, c451_0, e451, hx451_0, hl451_0, hi451_0⟩ := at_T34 HR0.out 0 p451 q451
        have hw451_0 := hx451_0
        (try rw [show ((0 : Int)).toNat = 0 from rfl] at hw451_0)
        (try rw [show 0 * 1 = 0 from rfl] at hw451_0)
        (try rw [Addr.add_zero'] at hw451_0)
        cases e451
        have qi451 : (0 < l0.length) = True := eq_true (by omega)
        (try rw [show ((0 : Int)).toNat = 0 from rfl] at hx451_0)
        (try rw [Addr.add_zero'] at hx451_0)
        replace hx451_0 := (HB.out.cell (World.block_lt_of_cell? w _ hx451_0)).trans hx451_0
        have HR451_0 := am hi451_0
        have HC451_0 := am hl451_0
        clear hi451_0 hl451_0
        replace p451 := eq_true p451
        replace q451 := eq_true q451
        have p452 : 0 ≤ (0 : Int) := (by omega)
        have q452 : 0 < (l0.length : Int) := of_decide_eq_true (by first | (with_reducible assumption) | assumption)
        obtain ⟨ad452, A452_0, c452_0, e452, hx452_0, hl452_0, hi452_0⟩ := at_T34 HR0.out 0 p452 q452
        have hw452_0 := hx452_0
        (try rw [show ((0 : Int)).toNat = 0 from rfl] at hw452_0)
        (try rw [show 0 * 1 = 0 from rfl] at hw452_0)
        (try rw [Addr.add_zero'] at hw452_0)
        obtain rfl : ad451 = ad452 := (by injection e452)
        have qi452 : (0 < l0.length) = True := eq_true (by omega)
        (try rw [show ((0 : Int)).toNat = 0 from rfl] at hx452_0)
        (try rw [Addr.add_zero'] at hx452_0)
        replace hx452_0 := (HB.out.cell (World.block_lt_of_cell? w _ hx452_0)).trans hx452_0
        have HR452_0 := am hi452_0
        have HC452_0 := am hl452_0
        clear hi452_0 hl452_0
        replace p452 := eq_true p452
        replace q452 := eq_true q452
        have ea_ := Option.some.inj (hx451_0.symm.trans hx452_0)
        injection ea_ with ea_ en_ ec_
        subst ea_
        subst ec_
        clear en_
        have p453 : 0 ≤ (a2 : Int) := of_decide_eq_true (by first | (with_reducible assumption) | assumption)
        have q453 : a2 < (l1.length : Int) := of_decide_eq_true (by first | (with_reducible assumption) | assumption)
        obtain ⟨ad453, e453, hx453_0⟩ := Kd.at_int HR1.out a2 p453 q453
        have hw453_0 := hx453_0
        obtain rfl : ad446 = ad453 := (by injection e453)
        replace hx453_0 := (HB.out.cell (World.block_lt_of_cell? w _ hx453_0)).trans hx453_0
        replace p453 := eq_true p453
        replace q453 := eq_true q453
        have p454 : 0 ≤ ((rd l1 a2) : Int) := of_decide_eq_true (by first | (with_reducible assumption) | assumption)
        have q454 : (rd l1 a2) < (((rd_T34 l0 0).f0).length : Int) := of_decide_eq_true (by first | (with_reducible assumption) | assumption)
        obtain ⟨ad454, e454, hx454_0, hx454_1⟩ := at_T125 HR452_0.out (rd l1 a2) p454 q454
        have hw454_1 := hx454_1
        have hw454_0 := hx454_0
        cases e454
        replace hx454_0 := (HB.out.cell (World.block_lt_of_cell? w _ hx454_0)).trans hx454_0
        replace hx454_1 := (HB.out.cell (World.block_lt_of_cell? w _ hx454_1)).trans hx454_1
        replace p454 := eq_true p454
        replace q454 := eq_true q454
        refine start_ (n := 12) (S := fun w' => w'.cell? ad451 = some (.slice (some ad454) ((rd_T34 l0 0).f0).length c451_0) ∧ w'.cell? ad451 = some (.slice (some ad454) ((rd_T34 l0 0).f0).length c451_0) ∧ w'.cell? (ad446.add (a2).toNat) = some (.int .i64 (rd l1 a2)) ∧ w'.cell? (ad454.add (((rd l1 a2)).toNat * 2)) = some (.string ((rd_T125 ((rd_T34 l0 0).f0) (rd l1 a2)).f0)) ∧ w'.cell? ⟨(ad454.add (((rd l1 a2)).toNat * 2)).block, (ad454.add (((rd l1 a2)).toNat * 2)).off + 1, none⟩ = some (.int .i64 ((rd_T125 ((rd_T34 l0 0).f0) (rd l1 a2)).f1))) (ds := []) #[false, false, false, false, false, false, false, false, false, false, false, false] (by kernel_rfl) rfl rfl ⟨((HB.out.cell (World.block_lt_of_cell? w _ hw451_0)).trans hw451_0), ((HB.out.cell (World.block_lt_of_cell? w _ hw452_0)).trans hw452_0), ((HB.out.cell (World.block_lt_of_cell? w _ hw453_0)).trans hw453_0), ((HB.out.cell (World.block_lt_of_cell? w _ hw454_0)).trans hw454_0), ((HB.out.cell (World.block_lt_of_cell? w _ hw454_1)).trans hw454_1)⟩ (fun hHeld => ?_); refine with_tabW spec_l4Text.tab3 spec_l4Text.bits3 (fun HT_ HW_ => ?_)
        generalize w.drew = w14 at HB HR451_0 HR452_0 hx451_0 hx452_0 hx453_0 hx454_0 hx454_1 hHeld ⊢
        refine pure_ (i := 0) (N := some 24) (v := ?_) (a' := ?_) #[true, false, false, false, false, false, false, false, false, false, false, false] rfl rfl (any_of HT_.out (by kernel_rfl)) (fun _ _ _ h => h) (Or.inl ⟨by rfl, ?_⟩) ?_ ?_
        rotate_left
        ·intro w'
         go_simp
         with_reducible rfl
        rotate_left
        ·simp only [Act.put, lsp, i64_w, i32_w]
         rfl
        refine pure_ (i := 1) (N := some 25) (v := ?_) (a' := ?_) #[true, true, false, false, false, false, false, false, false, false, false, false] rfl rfl (any_of HT_.out (by kernel_rfl)) (fun _ _ _ h => h) (Or.inl ⟨by rfl, ?_⟩) ?_ ?_
        rotate_left
        ·intro w'
         go_simp
         with_reducible rfl
        rotate_left
        ·simp only [Act.put, lsp, i64_w, i32_w]
         rfl
        refine pure_ (i := 2) (N := some 26) (v := ?_) (a' := ?_) #[true, true, true, false, false, false, false, false, false, false, false, false] rfl rfl (any_of HT_.out (by kernel_rfl)) (fun _ _ _ h => h) (Or.inl ⟨by rfl, ?_⟩) ?_ ?_
        rotate_left
        ·intro w'
         go_simp
         with_reducible rfl
        rotate_left
        ·simp only [Act.put, lsp, i64_w, i32_w]
         rfl
        refine pure_ (i := 4) (N := some 28) (v := ?_) (a' := ?_) #[true, true, true, false, true, false, false, false, false, false, false, false] rfl rfl (any_of HT_.out (by kernel_rfl)) (fun _ _ _ h => h) (Or.inl ⟨by rfl, ?_⟩) ?_ ?_
        rotate_left
        ·intro w'
         go_simp
         with_reducible rfl
        rotate_left
        ·simp only [Act.put, lsp, i64_w, i32_w]
         rfl
        refine pure_ (i := 5) (N := some 29) (v := ?_) (a' := ?_) #[true, true, true, false, true, true, false, false, false, false, false, false] rfl rfl (any_of HT_.out (by kernel_rfl)) (fun _ _ _ h => h) (Or.inl ⟨by rfl, ?_⟩) ?_ ?_
        rotate_left
        ·intro w'
         go_simp
         with_reducible rfl
        rotate_left
        ·simp only [Act.put, lsp, i64_w, i32_w]
         rfl
        refine pure_ (i := 6) (N := some 30) (v := ?_) (a' := ?_) #[true, true, true, false, true, true, true, false, false, false, false, false] rfl rfl (any_of HT_.out (by kernel_rfl)) (fun _ _ _ h => h) (Or.inl ⟨by rfl, ?_⟩) ?_ ?_
        rotate_left
        ·intro w'
         go_simp
         with_reducible rfl
        rotate_left
        ·simp only [Act.put, lsp, i64_w, i32_w]
         rfl
        refine take_ (i := 3) (N := some 27) (v := ?_) (a' := ?_) #[true, true, true, true, true, true, true, false, false, false, false, false] rfl rfl (take_ofW HT_.out HW_.out (by kernel_rfl)) (fun _ _ _ h => h) (Or.inl ⟨by rfl, ?_⟩) hHeld ?_ ?_
        rotate_left
        ·rintro w' ⟨s0, s1, s2, s3, s4⟩
         go_simp
         with_reducible rfl
        rotate_left
        ·simp only [Act.put, lsp, i64_w, i32_w]
         rfl
        refine take_ (i := 7) (N := some 31) (v := ?_) (a' := ?_) #[true, true, true, true, true, true, true, true, false, false, false, false] rfl rfl (take_ofW HT_.out HW_.out (by kernel_rfl)) (fun _ _ _ h => h) (Or.inl ⟨by rfl, ?_⟩) hHeld ?_ ?_
        rotate_left
        ·rintro w' ⟨s0, s1, s2, s3, s4⟩
         go_simp
         with_reducible rfl
        rotate_left
        ·simp only [Act.put, lsp, i64_w, i32_w]
         rfl
        refine pure_ (i := 8) (N := some 32) (v := ?_) (a' := ?_) #[true, true, true, true, true, true, true, true, true, false, false, false] rfl rfl (any_of HT_.out (by kernel_rfl)) (fun _ _ _ h => h) (Or.inl ⟨by rfl, ?_⟩) ?_ ?_
        rotate_left
        ·intro w'
         go_simp
         with_reducible rfl
        rotate_left
        ·simp only [Act.put, lsp, i64_w, i32_w]
         rfl
        refine take_ (i := 9) (N := some 33) (v := ?_) (a' := ?_) #[true, true, true, true, true, true, true, true, true, true, false, false] rfl rfl (take_ofW HT_.out HW_.out (by kernel_rfl)) (fun _ _ _ h => h) (Or.inl ⟨by rfl, ?_⟩) hHeld ?_ ?_
        rotate_left
        ·rintro w' ⟨s0, s1, s2, s3, s4⟩
         go_simp
         with_reducible rfl
        rotate_left
        ·simp only [Act.put, lsp, i64_w, i32_w]
         rfl
        refine one_ (i := 10) (N := some 7) #[true, true, true, true, true, true, true, true, true, true, true, false] rfl rfl (one_of HT_.out (by kernel_rfl)) (by decide) (fun K hK => ?_)
        refine box_step ?hg (N := 7) ?hd (cs := #[.string (⟨#[]⟩ : ByteArray), .int .i64 0]) (t := 125) ?hr ?_; (case hd => rfl); (case hg => rfl); (case hr => first | (go_simp; done) | (go_simp; rfl))
        intro gb455 hg w15 hbox hb
        have n0_ := am (below_step (hq HB.out) hb)
        have n1_ := am (hbox)
        have n2_ := am (bz hg (hq HB.out))
        have n3_ := am (bz hg (hq HB.out))
        clear HB
        have HB := n0_
        have BK455 := n1_
        have GW455 := n2_
        have GE455 := n3_
        clear n0_ n1_ n2_ n3_
        clear hb hbox hg
        refine hK.out _ _ ⟨((HB.out.cell (World.block_lt_of_cell? w _ hw451_0)).trans hw451_0), ((HB.out.cell (World.block_lt_of_cell? w _ hw452_0)).trans hw452_0), ((HB.out.cell (World.block_lt_of_cell? w _ hw453_0)).trans hw453_0), ((HB.out.cell (World.block_lt_of_cell? w _ hw454_0)).trans hw454_0), ((HB.out.cell (World.block_lt_of_cell? w _ hw454_1)).trans hw454_1)⟩ (fun hHeld => ?_)
        clear hK K
        refine norm_ (a' := ?_) ?_ ?_
        rotate_left
        ·show Act.put _ (some 7) _ = _
         simp only [Act.put, lsp, i64_w, i32_w]
         rfl
        refine one_ (i := 11) (N := none) #[true, true, true, true, true, true, true, true, true, true, true, true] rfl rfl (one_of HT_.out (by kernel_rfl)) (by decide) (fun K hK => ?_)
        have hs16 : w15.cell? ⟨gb455, 0, none⟩ = some (.string (⟨#[]⟩ : ByteArray)) := (blk_cell BK455.out 0).trans rfl
        have hfs16 := blk_frozen BK455.out 0
        have hs17 : w15.cell? ⟨gb455, 1, none⟩ = some (.int .i64 0) := (blk_cell BK455.out 1).trans rfl
        have hfs17 := blk_frozen BK455.out 1
        refine skip_ (w1 := ?_) (by rfl) rfl ?_ ?_
        rotate_left
        ·go_simp
         rfl
        refine hK.out _ _ ⟨((cell_far (p := ⟨gb455, _, none⟩) (by first | exact Nat.ne_of_lt (Nat.lt_of_lt_of_le (by have := World.block_lt_of_cell? _ _ hw451_0; first | rwa [add_block] at this | exact this) GW455.out) | (rw [add_block]; exact Nat.ne_of_lt (Nat.lt_of_lt_of_le (by have := World.block_lt_of_cell? _ _ hw451_0; first | rwa [add_block] at this | exact this) GW455.out)) | (show (Addr.add _ _).block ≠ _; rw [add_block]; exact Nat.ne_of_lt (Nat.lt_of_lt_of_le (by have := World.block_lt_of_cell? _ _ hw451_0; first | rwa [add_block] at this | exact this) GW455.out)) | (dsimp only; exact Nat.ne_of_lt (Nat.lt_of_lt_of_le (by have := World.block_lt_of_cell? _ _ hw451_0; first | rwa [add_block] at this | exact this) GW455.out))) _).trans (((cell_far (p := ⟨gb455, _, none⟩) (by first | exact Nat.ne_of_lt (Nat.lt_of_lt_of_le (by have := World.block_lt_of_cell? _ _ hw451_0; first | rwa [add_block] at this | exact this) GW455.out) | (rw [add_block]; exact Nat.ne_of_lt (Nat.lt_of_lt_of_le (by have := World.block_lt_of_cell? _ _ hw451_0; first | rwa [add_block] at this | exact this) GW455.out)) | (show (Addr.add _ _).block ≠ _; rw [add_block]; exact Nat.ne_of_lt (Nat.lt_of_lt_of_le (by have := World.block_lt_of_cell? _ _ hw451_0; first | rwa [add_block] at this | exact this) GW455.out)) | (dsimp only; exact Nat.ne_of_lt (Nat.lt_of_lt_of_le (by have := World.block_lt_of_cell? _ _ hw451_0; first | rwa [add_block] at this | exact this) GW455.out))) _).trans (hHeld.1)))), ((cell_far (p := ⟨gb455, _, none⟩) (by first | exact Nat.ne_of_lt (Nat.lt_of_lt_of_le (by have := World.block_lt_of_cell? _ _ hw452_0; first | rwa [add_block] at this | exact this) GW455.out) | (rw [add_block]; exact Nat.ne_of_lt (Nat.lt_of_lt_of_le (by have := World.block_lt_of_cell? _ _ hw452_0; first | rwa [add_block] at this | exact this) GW455.out)) | (show (Addr.add _ _).block ≠ _; rw [add_block]; exact Nat.ne_of_lt (Nat.lt_of_lt_of_le (by have := World.block_lt_of_cell? _ _ hw452_0; first | rwa [add_block] at this | exact this) GW455.out)) | (dsimp only; exact Nat.ne_of_lt (Nat.lt_of_lt_of_le (by have := World.block_lt_of_cell? _ _ hw452_0; first | rwa [add_block] at this | exact this) GW455.out))) _).trans (((cell_far (p := ⟨gb455, _, none⟩) (by first | exact Nat.ne_of_lt (Nat.lt_of_lt_of_le (by have := World.block_lt_of_cell? _ _ hw452_0; first | rwa [add_block] at this | exact this) GW455.out) | (rw [add_block]; exact Nat.ne_of_lt (Nat.lt_of_lt_of_le (by have := World.block_lt_of_cell? _ _ hw452_0; first | rwa [add_block] at this | exact this) GW455.out)) | (show (Addr.add _ _).block ≠ _; rw [add_block]; exact Nat.ne_of_lt (Nat.lt_of_lt_of_le (by have := World.block_lt_of_cell? _ _ hw452_0; first | rwa [add_block] at this | exact this) GW455.out)) | (dsimp only; exact Nat.ne_of_lt (Nat.lt_of_lt_of_le (by have := World.block_lt_of_cell? _ _ hw452_0; first | rwa [add_block] at this | exact this) GW455.out))) _).trans (hHeld.2.1)))), ((cell_far (p := ⟨gb455, _, none⟩) (by first | exact Nat.ne_of_lt (Nat.lt_of_lt_of_le (by have := World.block_lt_of_cell? _ _ hw453_0; first | rwa [add_block] at this | exact this) GW455.out) | (rw [add_block]; exact Nat.ne_of_lt (Nat.lt_of_lt_of_le (by have := World.block_lt_of_cell? _ _ hw453_0; first | rwa [add_block] at this | exact this) GW455.out)) | (show (Addr.add _ _).block ≠ _; rw [add_block]; exact Nat.ne_of_lt (Nat.lt_of_lt_of_le (by have := World.block_lt_of_cell? _ _ hw453_0; first | rwa [add_block] at this | exact this) GW455.out)) | (dsimp only; exact Nat.ne_of_lt (Nat.lt_of_lt_of_le (by have := World.block_lt_of_cell? _ _ hw453_0; first | rwa [add_block] at this | exact this) GW455.out))) _).trans (((cell_far (p := ⟨gb455, _, none⟩) (by first | exact Nat.ne_of_lt (Nat.lt_of_lt_of_le (by have := World.block_lt_of_cell? _ _ hw453_0; first | rwa [add_block] at this | exact this) GW455.out) | (rw [add_block]; exact Nat.ne_of_lt (Nat.lt_of_lt_of_le (by have := World.block_lt_of_cell? _ _ hw453_0; first | rwa [add_block] at this | exact this) GW455.out)) | (show (Addr.add _ _).block ≠ _; rw [add_block]; exact Nat.ne_of_lt (Nat.lt_of_lt_of_le (by have := World.block_lt_of_cell? _ _ hw453_0; first | rwa [add_block] at this | exact this) GW455.out)) | (dsimp only; exact Nat.ne_of_lt (Nat.lt_of_lt_of_le (by have := World.block_lt_of_cell? _ _ hw453_0; first | rwa [add_block] at this | exact this) GW455.out))) _).trans (hHeld.2.2.1)))), ((cell_far (p := ⟨gb455, _, none⟩) (by first | exact Nat.ne_of_lt (Nat.lt_of_lt_of_le (by have := World.block_lt_of_cell? _ _ hw454_0; first | rwa [add_block] at this | exact this) GW455.out) | (rw [add_block]; exact Nat.ne_of_lt (Nat.lt_of_lt_of_le (by have := World.block_lt_of_cell? _ _ hw454_0; first | rwa [add_block] at this | exact this) GW455.out)) | (show (Addr.add _ _).block ≠ _; rw [add_block]; exact Nat.ne_of_lt (Nat.lt_of_lt_of_le (by have := World.block_lt_of_cell? _ _ hw454_0; first | rwa [add_block] at this | exact this) GW455.out)) | (dsimp only; exact Nat.ne_of_lt (Nat.lt_of_lt_of_le (by have := World.block_lt_of_cell? _ _ hw454_0; first | rwa [add_block] at this | exact this) GW455.out))) _).trans (((cell_far (p := ⟨gb455, _, none⟩) (by first | exact Nat.ne_of_lt (Nat.lt_of_lt_of_le (by have := World.block_lt_of_cell? _ _ hw454_0; first | rwa [add_block] at this | exact this) GW455.out) | (rw [add_block]; exact Nat.ne_of_lt (Nat.lt_of_lt_of_le (by have := World.block_lt_of_cell? _ _ hw454_0; first | rwa [add_block] at this | exact this) GW455.out)) | (show (Addr.add _ _).block ≠ _; rw [add_block]; exact Nat.ne_of_lt (Nat.lt_of_lt_of_le (by have := World.block_lt_of_cell? _ _ hw454_0; first | rwa [add_block] at this | exact this) GW455.out)) | (dsimp only; exact Nat.ne_of_lt (Nat.lt_of_lt_of_le (by have := World.block_lt_of_cell? _ _ hw454_0; first | rwa [add_block] at this | exact this) GW455.out))) _).trans (hHeld.2.2.2.1)))), ((cell_far (p := ⟨gb455, _, none⟩) (by first | exact Nat.ne_of_lt (Nat.lt_of_lt_of_le (by have := World.block_lt_of_cell? _ _ hw454_1; first | rwa [add_block] at this | exact this) GW455.out) | (rw [add_block]; exact Nat.ne_of_lt (Nat.lt_of_lt_of_le (by have := World.block_lt_of_cell? _ _ hw454_1; first | rwa [add_block] at this | exact this) GW455.out)) | (show (Addr.add _ _).block ≠ _; rw [add_block]; exact Nat.ne_of_lt (Nat.lt_of_lt_of_le (by have := World.block_lt_of_cell? _ _ hw454_1; first | rwa [add_block] at this | exact this) GW455.out)) | (dsimp only; exact Nat.ne_of_lt (Nat.lt_of_lt_of_le (by have := World.block_lt_of_cell? _ _ hw454_1; first | rwa [add_block] at this | exact this) GW455.out))) _).trans (((cell_far (p := ⟨gb455, _, none⟩) (by first | exact Nat.ne_of_lt (Nat.lt_of_lt_of_le (by have := World.block_lt_of_cell? _ _ hw454_1; first | rwa [add_block] at this | exact this) GW455.out) | (rw [add_block]; exact Nat.ne_of_lt (Nat.lt_of_lt_of_le (by have := World.block_lt_of_cell? _ _ hw454_1; first | rwa [add_block] at this | exact this) GW455.out)) | (show (Addr.add _ _).block ≠ _; rw [add_block]; exact Nat.ne_of_lt (Nat.lt_of_lt_of_le (by have := World.block_lt_of_cell? _ _ hw454_1; first | rwa [add_block] at this | exact this) GW455.out)) | (dsimp only; exact Nat.ne_of_lt (Nat.lt_of_lt_of_le (by have := World.block_lt_of_cell? _ _ hw454_1; first | rwa [add_block] at this | exact this) GW455.out))) _).trans (hHeld.2.2.2.2))))⟩ (fun hHeld => ?_)
        clear hK K
        refine done_ (done_of HT_.out (by kernel_rfl)) ?_
        have hcz18_0 : w15.cell? ⟨gb455, 0, none⟩ = some (.string (⟨#[]⟩ : ByteArray)) := (blk_cell BK455.out 0).trans rfl
        have hcz18_1 : w15.cell? ⟨gb455, 1, none⟩ = some (.int .i64 0) := (blk_cell BK455.out 1).trans rfl
        have hfz18_0 := blk_frozen BK455.out 0
        have hfz18_1 := blk_frozen BK455.out 1
        try go_wp2
        go_ret
        exact ⟨by first | rfl | (simp [errW_none, errW_some] <;> rfl) | (simp [*, errW_none, errW_some] <;> rfl), by exact hs HB.out⟩
       ·rw [if_neg c13] at H
        have c13b0 : (((rd_T125 ((rd_T34 l0 0).f0) (rd l1 a2)).f1) == 0) = false := beq_eq_false_iff_ne.mpr c13
        have c13b1 : (((rd_T125 ((rd_T34 l0 0).f0) (rd l1 a2)).f1) != 0) = true := bne_iff_ne.mpr c13
        by_cases c19 : ((rd_T125 ((rd_T34 l0 0).f0) (rd l1 a2)).f0).size + 1 ≤ 9223372036854775807
        ·rw [if_pos c19] at H
         have c19b0 := eq_true c19
         have c19b1 : decide (((rd_T125 ((rd_T34 l0 0).f0) (rd l1 a2)).f0).size + 1 ≤ 9223372036854775807) = true := decide_eq_true c19
         try have c19b2 : (9223372036854775807 < ((rd_T125 ((rd_T34 l0 0).f0) (rd l1 a2)).f0).size + 1) = False := eq_false (Nat.not_lt.2 c19)
         have H' := am H
         clear H
         have p446 : 0 ≤ (a2 : Int) := of_decide_eq_true (by first | (with_reducible assumption) | assumption)
         have q446 : a2 < (l1.length : Int) := of_decide_eq_true (by first | (with_reducible assumption) | assumption)
         obtain ⟨ad446, e446, hx446_0⟩ := Kd.at_int HR1.out a2 p446 q446
         cases e446
         replace p446 := eq_true p446
         replace q446 := eq_true q446
         go_enter Tryz.func104, Tryz.ntmps104
         try go_wp2
         have n0_ := am (below_drew1 HB.out)
         clear HB
         have HB := n0_
         clear n0_
         have p451 : 0 ≤ (0 : Int) := (by omega)
         have q451 : 0 < (l0.length : Int) := of_decide_eq_true (by first | (with_reducible assumption) | assumption)
         obtain ⟨ad451, A451_0, c451_0, e451, hx451_0, hl451_0, hi451_0⟩ := at_T34 HR0.out 0 p451 q451
         have hw451_0 := hx451_0
         (try rw [show ((0 : Int)).toNat = 0 from rfl] at hw451_0)
         (try rw [show 0 * 1 = 0 from rfl] at hw451_0)
         (try rw [Addr.add_zero'] at hw451_0)
         cases e451
         have qi451 : (0 < l0.length) = True := eq_true (by omega)
         (try rw [show ((0 : Int)).toNat = 0 from rfl] at hx451_0)
         (try rw [Addr.add_zero'] at hx451_0)
         replace hx451_0 := (HB.out.cell (World.block_lt_of_cell? w _ hx451_0)).trans hx451_0
         have HR451_0 := am hi451_0
         have HC451_0 := am hl451_0
         clear hi451_0 hl451_0
         replace p451 := eq_true p451
         replace q451 := eq_true q451
         have p452 : 0 ≤ (0 : Int) := (by omega)
         have q452 : 0 < (l0.length : Int) := of_decide_eq_true (by first | (with_reducible assumption) | assumption)
         obtain ⟨ad452, A452_0, c452_0, e452, hx452_0, hl452_0, hi452_0⟩ := at_T34 HR0.out 0 p452 q452
         have hw452_0 := hx452_0
         (try rw [show ((0 : Int)).toNat = 0 from rfl] at hw452_0)
         (try rw [show 0 * 1 = 0 from rfl] at hw452_0)
         (try rw [Addr.add_zero'] at hw452_0)
         obtain rfl : ad451 = ad452 := (by injection e452)
         have qi452 : (0 < l0.length) = True := eq_true (by omega)
         (try rw [show ((0 : Int)).toNat = 0 from rfl] at hx452_0)
         (try rw [Addr.add_zero'] at hx452_0)
         replace hx452_0 := (HB.out.cell (World.block_lt_of_cell? w _ hx452_0)).trans hx452_0
         have HR452_0 := am hi452_0
         have HC452_0 := am hl452_0
         clear hi452_0 hl452_0
         replace p452 := eq_true p452
         replace q452 := eq_true q452
         have ea_ := Option.some.inj (hx451_0.symm.trans hx452_0)
         injection ea_ with ea_ en_ ec_
         subst ea_
         subst ec_
         clear en_
         have p453 : 0 ≤ (a2 : Int) := of_decide_eq_true (by first | (with_reducible assumption) | assumption)
         have q453 : a2 < (l1.length : Int) := of_decide_eq_true (by first | (with_reducible assumption) | assumption)
         obtain ⟨ad453, e453, hx453_0⟩ := Kd.at_int HR1.out a2 p453 q453
         have hw453_0 := hx453_0
         obtain rfl : ad446 = ad453 := (by injection e453)
         replace hx453_0 := (HB.out.cell (World.block_lt_of_cell? w _ hx453_0)).trans hx453_0
         replace p453 := eq_true p453
         replace q453 := eq_true q453
         have p454 : 0 ≤ ((rd l1 a2) : Int) := of_decide_eq_true (by first | (with_reducible assumption) | assumption)
         have q454 : (rd l1 a2) < (((rd_T34 l0 0).f0).length : Int) := of_decide_eq_true (by first | (with_reducible assumption) | assumption)
         obtain ⟨ad454, e454, hx454_0, hx454_1⟩ := at_T125 HR452_0.out (rd l1 a2) p454 q454
         have hw454_1 := hx454_1
         have hw454_0 := hx454_0
         cases e454
         replace hx454_0 := (HB.out.cell (World.block_lt_of_cell? w _ hx454_0)).trans hx454_0
         replace hx454_1 := (HB.out.cell (World.block_lt_of_cell? w _ hx454_1)).trans hx454_1
         replace p454 := eq_true p454
         replace q454 := eq_true q454
         refine start_ (n := 12) (S := fun w' => w'.cell? ad451 = some (.slice (some ad454) ((rd_T34 l0 0).f0).length c451_0) ∧ w'.cell? ad451 = some (.slice (some ad454) ((rd_T34 l0 0).f0).length c451_0) ∧ w'.cell? (ad446.add (a2).toNat) = some (.int .i64 (rd l1 a2)) ∧ w'.cell? (ad454.add (((rd l1 a2)).toNat * 2)) = some (.string ((rd_T125 ((rd_T34 l0 0).f0) (rd l1 a2)).f0)) ∧ w'.cell? ⟨(ad454.add (((rd l1 a2)).toNat * 2)).block, (ad454.add (((rd l1 a2)).toNat * 2)).off + 1, none⟩ = some (.int .i64 ((rd_T125 ((rd_T34 l0 0).f0) (rd l1 a2)).f1))) (ds := []) #[false, false, false, false, false, false, false, false, false, false, false, false] (by kernel_rfl) rfl rfl ⟨((HB.out.cell (World.block_lt_of_cell? w _ hw451_0)).trans hw451_0), ((HB.out.cell (World.block_lt_of_cell? w _ hw452_0)).trans hw452_0), ((HB.out.cell (World.block_lt_of_cell? w _ hw453_0)).trans hw453_0), ((HB.out.cell (World.block_lt_of_cell? w _ hw454_0)).trans hw454_0), ((HB.out.cell (World.block_lt_of_cell? w _ hw454_1)).trans hw454_1)⟩ (fun hHeld => ?_); refine with_tabW spec_l4Text.tab3 spec_l4Text.bits3 (fun HT_ HW_ => ?_)
         generalize w.drew = w20 at HB HR451_0 HR452_0 hx451_0 hx452_0 hx453_0 hx454_0 hx454_1 hHeld ⊢
         refine pure_ (i := 0) (N := some 24) (v := ?_) (a' := ?_) #[true, false, false, false, false, false, false, false, false, false, false, false] rfl rfl (any_of HT_.out (by kernel_rfl)) (fun _ _ _ h => h) (Or.inl ⟨by rfl, ?_⟩) ?_ ?_
         rotate_left
         ·intro w'
          go_simp
          with_reducible rfl
         rotate_left
         ·simp only [Act.put, lsp, i64_w, i32_w]
          rfl
         refine pure_ (i := 1) (N := some 25) (v := ?_) (a' := ?_) #[true, true, false, false, false, false, false, false, false, false, false, false] rfl rfl (any_of HT_.out (by kernel_rfl)) (fun _ _ _ h => h) (Or.inl ⟨by rfl, ?_⟩) ?_ ?_
         rotate_left
         ·intro w'
          go_simp
          with_reducible rfl
         rotate_left
         ·simp only [Act.put, lsp, i64_w, i32_w]
          rfl
         refine pure_ (i := 2) (N := some 26) (v := ?_) (a' := ?_) #[true, true, true, false, false, false, false, false, false, false, false, false] rfl rfl (any_of HT_.out (by kernel_rfl)) (fun _ _ _ h => h) (Or.inl ⟨by rfl, ?_⟩) ?_ ?_
         rotate_left
         ·intro w'
          go_simp
          with_reducible rfl
         rotate_left
         ·simp only [Act.put, lsp, i64_w, i32_w]
          rfl
         refine pure_ (i := 4) (N := some 28) (v := ?_) (a' := ?_) #[true, true, true, false, true, false, false, false, false, false, false, false] rfl rfl (any_of HT_.out (by kernel_rfl)) (fun _ _ _ h => h) (Or.inl ⟨by rfl, ?_⟩) ?_ ?_
         rotate_left
         ·intro w'
          go_simp
          with_reducible rfl
         rotate_left
         ·simp only [Act.put, lsp, i64_w, i32_w]
          rfl
         refine pure_ (i := 5) (N := some 29) (v := ?_) (a' := ?_) #[true, true, true, false, true, true, false, false, false, false, false, false] rfl rfl (any_of HT_.out (by kernel_rfl)) (fun _ _ _ h => h) (Or.inl ⟨by rfl, ?_⟩) ?_ ?_
         rotate_left
         ·intro w'
          go_simp
          with_reducible rfl
         rotate_left
         ·simp only [Act.put, lsp, i64_w, i32_w]
          rfl
         refine pure_ (i := 6) (N := some 30) (v := ?_) (a' := ?_) #[true, true, true, false, true, true, true, false, false, false, false, false] rfl rfl (any_of HT_.out (by kernel_rfl)) (fun _ _ _ h => h) (Or.inl ⟨by rfl, ?_⟩) ?_ ?_
         rotate_left
         ·intro w'
          go_simp
          with_reducible rfl
         rotate_left
         ·simp only [Act.put, lsp, i64_w, i32_w]
          rfl
         refine take_ (i := 3) (N := some 27) (v := ?_) (a' := ?_) #[true, true, true, true, true, true, true, false, false, false, false, false] rfl rfl (take_ofW HT_.out HW_.out (by kernel_rfl)) (fun _ _ _ h => h) (Or.inl ⟨by rfl, ?_⟩) hHeld ?_ ?_
         rotate_left
         ·rintro w' ⟨s0, s1, s2, s3, s4⟩
          go_simp
          with_reducible rfl
         rotate_left
         ·simp only [Act.put, lsp, i64_w, i32_w]
          rfl
         refine take_ (i := 7) (N := some 31) (v := ?_) (a' := ?_) #[true, true, true, true, true, true, true, true, false, false, false, false] rfl rfl (take_ofW HT_.out HW_.out (by kernel_rfl)) (fun _ _ _ h => h) (Or.inl ⟨by rfl, ?_⟩) hHeld ?_ ?_
         rotate_left
         ·rintro w' ⟨s0, s1, s2, s3, s4⟩
          go_simp
          with_reducible rfl
         rotate_left
         ·simp only [Act.put, lsp, i64_w, i32_w]
          rfl
         refine pure_ (i := 8) (N := some 32) (v := ?_) (a' := ?_) #[true, true, true, true, true, true, true, true, true, false, false, false] rfl rfl (any_of HT_.out (by kernel_rfl)) (fun _ _ _ h => h) (Or.inl ⟨by rfl, ?_⟩) ?_ ?_
         rotate_left
         ·intro w'
          go_simp
          with_reducible rfl
         rotate_left
         ·simp only [Act.put, lsp, i64_w, i32_w]
          rfl
         refine take_ (i := 9) (N := some 33) (v := ?_) (a' := ?_) #[true, true, true, true, true, true, true, true, true, true, false, false] rfl rfl (take_ofW HT_.out HW_.out (by kernel_rfl)) (fun _ _ _ h => h) (Or.inl ⟨by rfl, ?_⟩) hHeld ?_ ?_
         rotate_left
         ·rintro w' ⟨s0, s1, s2, s3, s4⟩
          go_simp
          with_reducible rfl
         rotate_left
         ·simp only [Act.put, lsp, i64_w, i32_w]
          rfl
         refine one_ (i := 10) (N := some 7) #[true, true, true, true, true, true, true, true, true, true, true, false] rfl rfl (one_of HT_.out (by kernel_rfl)) (by decide) (fun K hK => ?_)
         refine box_step ?hg (N := 7) ?hd (cs := #[.string (⟨#[]⟩ : ByteArray), .int .i64 0]) (t := 125) ?hr ?_; (case hd => rfl); (case hg => rfl); (case hr => first | (go_simp; done) | (go_simp; rfl))
         intro gb455 hg w21 hbox hb
         have n0_ := am (below_step (hq HB.out) hb)
         have n1_ := am (hbox)
         have n2_ := am (bz hg (hq HB.out))
         have n3_ := am (bz hg (hq HB.out))
         clear HB
         have HB := n0_
         have BK455 := n1_
         have GW455 := n2_
         have GE455 := n3_
         clear n0_ n1_ n2_ n3_
         clear hb hbox hg
         refine hK.out _ _ ⟨((HB.out.cell (World.block_lt_of_cell? w _ hw451_0)).trans hw451_0), ((HB.out.cell (World.block_lt_of_cell? w _ hw452_0)).trans hw452_0), ((HB.out.cell (World.block_lt_of_cell? w _ hw453_0)).trans hw453_0), ((HB.out.cell (World.block_lt_of_cell? w _ hw454_0)).trans hw454_0), ((HB.out.cell (World.block_lt_of_cell? w _ hw454_1)).trans hw454_1)⟩ (fun hHeld => ?_)
         clear hK K
         refine norm_ (a' := ?_) ?_ ?_
         rotate_left
         ·show Act.put _ (some 7) _ = _
          simp only [Act.put, lsp, i64_w, i32_w]
          rfl
         refine one_ (i := 11) (N := none) #[true, true, true, true, true, true, true, true, true, true, true, true] rfl rfl (one_of HT_.out (by kernel_rfl)) (by decide) (fun K hK => ?_)
         have hs22 : w21.cell? ⟨gb455, 0, none⟩ = some (.string (⟨#[]⟩ : ByteArray)) := (blk_cell BK455.out 0).trans rfl
         have hfs22 := blk_frozen BK455.out 0
         have hs23 : w21.cell? ⟨gb455, 1, none⟩ = some (.int .i64 0) := (blk_cell BK455.out 1).trans rfl
         have hfs23 := blk_frozen BK455.out 1
         refine skip_ (w1 := ?_) (by rfl) rfl ?_ ?_
         rotate_left
         ·go_simp
          rfl
         refine hK.out _ _ ⟨((cell_far (p := ⟨gb455, _, none⟩) (by first | exact Nat.ne_of_lt (Nat.lt_of_lt_of_le (by have := World.block_lt_of_cell? _ _ hw451_0; first | rwa [add_block] at this | exact this) GW455.out) | (rw [add_block]; exact Nat.ne_of_lt (Nat.lt_of_lt_of_le (by have := World.block_lt_of_cell? _ _ hw451_0; first | rwa [add_block] at this | exact this) GW455.out)) | (show (Addr.add _ _).block ≠ _; rw [add_block]; exact Nat.ne_of_lt (Nat.lt_of_lt_of_le (by have := World.block_lt_of_cell? _ _ hw451_0; first | rwa [add_block] at this | exact this) GW455.out)) | (dsimp only; exact Nat.ne_of_lt (Nat.lt_of_lt_of_le (by have := World.block_lt_of_cell? _ _ hw451_0; first | rwa [add_block] at this | exact this) GW455.out))) _).trans (((cell_far (p := ⟨gb455, _, none⟩) (by first | exact Nat.ne_of_lt (Nat.lt_of_lt_of_le (by have := World.block_lt_of_cell? _ _ hw451_0; first | rwa [add_block] at this | exact this) GW455.out) | (rw [add_block]; exact Nat.ne_of_lt (Nat.lt_of_lt_of_le (by have := World.block_lt_of_cell? _ _ hw451_0; first | rwa [add_block] at this | exact this) GW455.out)) | (show (Addr.add _ _).block ≠ _; rw [add_block]; exact Nat.ne_of_lt (Nat.lt_of_lt_of_le (by have := World.block_lt_of_cell? _ _ hw451_0; first | rwa [add_block] at this | exact this) GW455.out)) | (dsimp only; exact Nat.ne_of_lt (Nat.lt_of_lt_of_le (by have := World.block_lt_of_cell? _ _ hw451_0; first | rwa [add_block] at this | exact this) GW455.out))) _).trans (hHeld.1)))), ((cell_far (p := ⟨gb455, _, none⟩) (by first | exact Nat.ne_of_lt (Nat.lt_of_lt_of_le (by have := World.block_lt_of_cell? _ _ hw452_0; first | rwa [add_block] at this | exact this) GW455.out) | (rw [add_block]; exact Nat.ne_of_lt (Nat.lt_of_lt_of_le (by have := World.block_lt_of_cell? _ _ hw452_0; first | rwa [add_block] at this | exact this) GW455.out)) | (show (Addr.add _ _).block ≠ _; rw [add_block]; exact Nat.ne_of_lt (Nat.lt_of_lt_of_le (by have := World.block_lt_of_cell? _ _ hw452_0; first | rwa [add_block] at this | exact this) GW455.out)) | (dsimp only; exact Nat.ne_of_lt (Nat.lt_of_lt_of_le (by have := World.block_lt_of_cell? _ _ hw452_0; first | rwa [add_block] at this | exact this) GW455.out))) _).trans (((cell_far (p := ⟨gb455, _, none⟩) (by first | exact Nat.ne_of_lt (Nat.lt_of_lt_of_le (by have := World.block_lt_of_cell? _ _ hw452_0; first | rwa [add_block] at this | exact this) GW455.out) | (rw [add_block]; exact Nat.ne_of_lt (Nat.lt_of_lt_of_le (by have := World.block_lt_of_cell? _ _ hw452_0; first | rwa [add_block] at this | exact this) GW455.out)) | (show (Addr.add _ _).block ≠ _; rw [add_block]; exact Nat.ne_of_lt (Nat.lt_of_lt_of_le (by have := World.block_lt_of_cell? _ _ hw452_0; first | rwa [add_block] at this | exact this) GW455.out)) | (dsimp only; exact Nat.ne_of_lt (Nat.lt_of_lt_of_le (by have := World.block_lt_of_cell? _ _ hw452_0; first | rwa [add_block] at this | exact this) GW455.out))) _).trans (hHeld.2.1)))), ((cell_far (p := ⟨gb455, _, none⟩) (by first | exact Nat.ne_of_lt (Nat.lt_of_lt_of_le (by have := World.block_lt_of_cell? _ _ hw453_0; first | rwa [add_block] at this | exact this) GW455.out) | (rw [add_block]; exact Nat.ne_of_lt (Nat.lt_of_lt_of_le (by have := World.block_lt_of_cell? _ _ hw453_0; first | rwa [add_block] at this | exact this) GW455.out)) | (show (Addr.add _ _).block ≠ _; rw [add_block]; exact Nat.ne_of_lt (Nat.lt_of_lt_of_le (by have := World.block_lt_of_cell? _ _ hw453_0; first | rwa [add_block] at this | exact this) GW455.out)) | (dsimp only; exact Nat.ne_of_lt (Nat.lt_of_lt_of_le (by have := World.block_lt_of_cell? _ _ hw453_0; first | rwa [add_block] at this | exact this) GW455.out))) _).trans (((cell_far (p := ⟨gb455, _, none⟩) (by first | exact Nat.ne_of_lt (Nat.lt_of_lt_of_le (by have := World.block_lt_of_cell? _ _ hw453_0; first | rwa [add_block] at this | exact this) GW455.out) | (rw [add_block]; exact Nat.ne_of_lt (Nat.lt_of_lt_of_le (by have := World.block_lt_of_cell? _ _ hw453_0; first | rwa [add_block] at this | exact this) GW455.out)) | (show (Addr.add _ _).block ≠ _; rw [add_block]; exact Nat.ne_of_lt (Nat.lt_of_lt_of_le (by have := World.block_lt_of_cell? _ _ hw453_0; first | rwa [add_block] at this | exact this) GW455.out)) | (dsimp only; exact Nat.ne_of_lt (Nat.lt_of_lt_of_le (by have := World.block_lt_of_cell? _ _ hw453_0; first | rwa [add_block] at this | exact this) GW455.out))) _).trans (hHeld.2.2.1)))), ((cell_far (p := ⟨gb455, _, none⟩) (by first | exact Nat.ne_of_lt (Nat.lt_of_lt_of_le (by have := World.block_lt_of_cell? _ _ hw454_0; first | rwa [add_block] at this | exact this) GW455.out) | (rw [add_block]; exact Nat.ne_of_lt (Nat.lt_of_lt_of_le (by have := World.block_lt_of_cell? _ _ hw454_0; first | rwa [add_block] at this | exact this) GW455.out)) | (show (Addr.add _ _).block ≠ _; rw [add_block]; exact Nat.ne_of_lt (Nat.lt_of_lt_of_le (by have := World.block_lt_of_cell? _ _ hw454_0; first | rwa [add_block] at this | exact this) GW455.out)) | (dsimp only; exact Nat.ne_of_lt (Nat.lt_of_lt_of_le (by have := World.block_lt_of_cell? _ _ hw454_0; first | rwa [add_block] at this | exact this) GW455.out))) _).trans (((cell_far (p := ⟨gb455, _, none⟩) (by first | exact Nat.ne_of_lt (Nat.lt_of_lt_of_le (by have := World.block_lt_of_cell? _ _ hw454_0; first | rwa [add_block] at this | exact this) GW455.out) | (rw [add_block]; exact Nat.ne_of_lt (Nat.lt_of_lt_of_le (by have := World.block_lt_of_cell? _ _ hw454_0; first | rwa [add_block] at this | exact this) GW455.out)) | (show (Addr.add _ _).block ≠ _; rw [add_block]; exact Nat.ne_of_lt (Nat.lt_of_lt_of_le (by have := World.block_lt_of_cell? _ _ hw454_0; first | rwa [add_block] at this | exact this) GW455.out)) | (dsimp only; exact Nat.ne_of_lt (Nat.lt_of_lt_of_le (by have := World.block_lt_of_cell? _ _ hw454_0; first | rwa [add_block] at this | exact this) GW455.out))) _).trans (hHeld.2.2.2.1)))), ((cell_far (p := ⟨gb455, _, none⟩) (by first | exact Nat.ne_of_lt (Nat.lt_of_lt_of_le (by have := World.block_lt_of_cell? _ _ hw454_1; first | rwa [add_block] at this | exact this) GW455.out) | (rw [add_block]; exact Nat.ne_of_lt (Nat.lt_of_lt_of_le (by have := World.block_lt_of_cell? _ _ hw454_1; first | rwa [add_block] at this | exact this) GW455.out)) | (show (Addr.add _ _).block ≠ _; rw [add_block]; exact Nat.ne_of_lt (Nat.lt_of_lt_of_le (by have := World.block_lt_of_cell? _ _ hw454_1; first | rwa [add_block] at this | exact this) GW455.out)) | (dsimp only; exact Nat.ne_of_lt (Nat.lt_of_lt_of_le (by have := World.block_lt_of_cell? _ _ hw454_1; first | rwa [add_block] at this | exact this) GW455.out))) _).trans (((cell_far (p := ⟨gb455, _, none⟩) (by first | exact Nat.ne_of_lt (Nat.lt_of_lt_of_le (by have := World.block_lt_of_cell? _ _ hw454_1; first | rwa [add_block] at this | exact this) GW455.out) | (rw [add_block]; exact Nat.ne_of_lt (Nat.lt_of_lt_of_le (by have := World.block_lt_of_cell? _ _ hw454_1; first | rwa [add_block] at this | exact this) GW455.out)) | (show (Addr.add _ _).block ≠ _; rw [add_block]; exact Nat.ne_of_lt (Nat.lt_of_lt_of_le (by have := World.block_lt_of_cell? _ _ hw454_1; first | rwa [add_block] at this | exact this) GW455.out)) | (dsimp only; exact Nat.ne_of_lt (Nat.lt_of_lt_of_le (by have := World.block_lt_of_cell? _ _ hw454_1; first | rwa [add_block] at this | exact this) GW455.out))) _).trans (hHeld.2.2.2.2))))⟩ (fun hHeld => ?_)
         clear hK K
         refine done_ (done_of HT_.out (by kernel_rfl)) ?_
         have hcz24_0 : w21.cell? ⟨gb455, 0, none⟩ = some (.string (⟨#[]⟩ : ByteArray)) := (blk_cell BK455.out 0).trans rfl
         have hcz24_1 : w21.cell? ⟨gb455, 1, none⟩ = some (.int .i64 0) := (blk_cell BK455.out 1).trans rfl
         have hfz24_0 := blk_frozen BK455.out 0
         have hfz24_1 := blk_frozen BK455.out 1
         try go_wp2
         go_loopg [8, 9, 10] k (fun kq v8 v9 v10 w' => ∃ (x8_1 : ByteArray) (x9_1 : Int) (x10_1 : Int), v8 = .string x8_1 ∧ v9 = .int .i64 x9_1 ∧ v10 = .int .i64 x10_1 ∧ Aside0 (spec_l4Text.l0 kq l0 l1 x8_1 x9_1 x10_1 ((rd_T125 ((rd_T34 l0 0).f0) (rd l1 a2)).f0) ((rd_T125 ((rd_T34 l0 0).f0) (rd l1 a2)).f1) = some r) ∧ Aside0 (kq ≤ k) ∧ Aside0 (w'.heap[gb455]? = some (.cells #[.string ((rd_T125 ((rd_T34 l0 0).f0) (rd l1 a2)).f0), .int .i64 ((rd_T125 ((rd_T34 l0 0).f0) (rd l1 a2)).f1)] 125 (0, 0))) ∧ Aside0 (Below w.heap.size w w'))
         case atStart => exact ⟨(((rd_T125 ((rd_T34 l0 0).f0) (rd l1 a2)).f0) ++ (⟨#[40]⟩ : ByteArray)), (wrap64 (a2 + 1)), (0), (by first | rfl | (simp; done) | (simp [*]; done)), (by first | rfl | (simp; done) | (simp [*]; done)), (by first | rfl | (simp; done) | (simp [*]; done)), H', ⟨Nat.le_refl _⟩, ⟨by refine bq ?_; refine blk_put (cs := #[.string ((rd_T125 ((rd_T34 l0 0).f0) (rd l1 a2)).f0), .int .i64 0]) ?_ 1 _ rfl; refine bq ?_; refine blk_put (cs := #[.string (⟨#[]⟩ : ByteArray), .int .i64 0]) ?_ 0 _ rfl; refine bq ?_; exact BK455.out⟩, ⟨by exact hs HB.out⟩⟩
         case round =>
          clear H'
          try clear c1
          try clear p2
          try clear c4
          try clear c4b0
          try clear p4
          try clear q4
          try clear hx4
          try clear qi4
          try clear c5
          try clear c5b0
          try clear c6
          try clear c6b0
          try clear p6
          try clear hcv9
          try clear c10
          try clear c10b0
          try clear c10b1
          try clear c11
          try clear c11b0
          try clear c12
          try clear c12b0
          try clear c13
          try clear c13b0
          try clear c13b1
          try clear c19
          try clear c19b0
          try clear c19b1
          try clear c19b2
          try clear hcz18_0
          try clear hcz18_1
          try clear hcz24_0
          try clear hcz24_1
          try clear hfz18_0
          try clear hfz18_1
          try clear hfz24_0
          try clear hfz24_1
          try clear hx446_0
          try clear hx447_0
          try clear hx451_0
          try clear hx452_0
          try clear hx453_0
          try clear hx454_0
          try clear hx454_1
          try clear p446
          try clear p447
          try clear p451
          try clear p452
          try clear p453
          try clear p454
          try clear q446
          try clear q447
          try clear q451
          try clear q452
          try clear q453
          try clear q454
          obtain ⟨x8_1, x9_1, x10_1, rfl, rfl, rfl, HA, HK1, BK455, HB⟩ := hrel
          cases gk with
          | zero => exact absurd HA.out (by simp [spec_l4Text.l0])
          | succ k1 =>
           have H := HA.out
           clear HA
           simp only [spec_l4Text.l0] at H
           by_cases c25 : x10_1 < ((rd_T125 ((rd_T34 l0 0).f0) (rd l1 a2)).f1)
           ·rw [if_pos c25] at H
            have c25b0 : decide (x10_1 < ((rd_T125 ((rd_T34 l0 0).f0) (rd l1 a2)).f1)) = true := decide_eq_true c25
            clear c25
            by_cases c26 : x10_1 > 0
            ·rw [if_pos c26] at H
             have c26b0 : decide (0 < x10_1) = true := decide_eq_true c26
             clear c26
             by_cases c27 : x8_1.size + 1 ≤ 9223372036854775807
             ·rw [if_pos c27] at H
              have c27b0 := eq_true c27
              have c27b1 : decide (x8_1.size + 1 ≤ 9223372036854775807) = true := decide_eq_true c27
              try have c27b2 : (9223372036854775807 < x8_1.size + 1) = False := eq_false (Nat.not_lt.2 c27)
              replace H := Option.bind_eq_some_iff.mp H
              obtain ⟨t456, A280, H⟩ := H
              replace H : (if (x8_1 ++ (⟨#[44]⟩ : ByteArray)).size + t456.size ≤ 9223372036854775807 then ((spec_l3End.f k1 l0 l1 x9_1).bind fun t457 => (spec_l4Text.l0 k1 l0 l1 ((x8_1 ++ (⟨#[44]⟩ : ByteArray)) ++ t456) t457 (wrap64 (x10_1 + 1)) ((rd_T125 ((rd_T34 l0 0).f0) (rd l1 a2)).f0) ((rd_T125 ((rd_T34 l0 0).f0) (rd l1 a2)).f1))) else (none)) = some r := H
              have A28 := am A280
              clear A280
              by_cases c29 : (x8_1 ++ (⟨#[44]⟩ : ByteArray)).size + t456.size ≤ 9223372036854775807
              ·rw [if_pos c29] at H
               have c29b0 := eq_true c29
               have c29b1 : decide ((x8_1 ++ (⟨#[44]⟩ : ByteArray)).size + t456.size ≤ 9223372036854775807) = true := decide_eq_true c29
               try have c29b2 : (9223372036854775807 < (x8_1 ++ (⟨#[44]⟩ : ByteArray)).size + t456.size) = False := eq_false (Nat.not_lt.2 c29)
               try have c29z_ : (9223372036854775807 < x8_1.size + 1 + t456.size) = False := (by have h_ := c29; simp only [ByteArray.size_append] at h_; exact eq_false (Nat.not_lt.2 h_))
               replace H := Option.bind_eq_some_iff.mp H
               obtain ⟨t457, A300, H⟩ := H
               replace H : (spec_l4Text.l0 k1 l0 l1 ((x8_1 ++ (⟨#[44]⟩ : ByteArray)) ++ t456) t457 (wrap64 (x10_1 + 1)) ((rd_T125 ((rd_T34 l0 0).f0) (rd l1 a2)).f0) ((rd_T125 ((rd_T34 l0 0).f0) (rd l1 a2)).f1)) = some r := H
               have A30 := am A300
               clear A300
               have H' := am H
               clear H
               have hcz31_0 : wr.cell? ⟨gb455, 0, none⟩ = some (.string ((rd_T125 ((rd_T34 l0 0).f0) (rd l1 a2)).f0)) := (blk_cell BK455.out 0).trans rfl
               have hcz31_1 : wr.cell? ⟨gb455, 1, none⟩ = some (.int .i64 ((rd_T125 ((rd_T34 l0 0).f0) (rd l1 a2)).f1)) := (blk_cell BK455.out 1).trans rfl
               have hfz31_0 := blk_frozen BK455.out 0
               have hfz31_1 := blk_frozen BK455.out 1
               go_wp2_with (first | ((with_reducible refine gate_callee (f := 104) rfl ?_); refine goesL_ (some 58) rfl rfl Tryz.func104 (by kernel_rfl) rfl #[.pointer (some ad451), .slice (some ad446) l1.length c1, .int .i64 x9_1] rfl el ?_; (with_reducible refine (ih k1 (by have := HK1.out; omega) _ l0 _ _ l1 x9_1 t456 _ ?side1 ?side2 ?side3 A28.out).mono ?_); (case side1 => exact cq (Kd.C_below HR0.out HB.out)); (case side2 => exact cq (Kd.C_below HR1.out HB.out)); (case side3 => exact HC1.out); rintro e w32 ⟨rfl, hb⟩; refine ⟨_, rfl, ?_⟩; have n0_ := am (blk_below (bq BK455.out) hb); have n1_ := am (below_step (hs HB.out) hb); clear BK455 HB; revert n0_ n1_; intro BK455 HB; (try clear hb); (try clear hb2); (try clear hgw); (try clear hk); (try clear hi)) | ((with_reducible refine gate_callee (f := 126) rfl ?_); refine goesL_ (some 63) rfl rfl Tryz.func126 (by kernel_rfl) rfl #[.pointer (some ad451), .slice (some ad446) l1.length c1, .int .i64 x9_1] rfl el ?_; (with_reducible refine (spec_l3End.calls k1 _ l0 _ _ l1 x9_1 t457 _ ?side1 ?side2 ?side3 A30.out).mono ?_); (case side1 => exact cq (Kd.C_below HR0.out HB.out)); (case side2 => exact cq (Kd.C_below HR1.out HB.out)); (case side3 => exact HC1.out); rintro e w' ⟨rfl, ⟨nd, rfl⟩⟩; refine ⟨_, rfl, ?_⟩))
               go_roundg k1
               case measure => have := HK1.out; omega
               case rel => exact ⟨((x8_1 ++ (⟨#[44]⟩ : ByteArray)) ++ t456), (t457), (wrap64 (x10_1 + 1)), (by first | rfl | (simp; done) | (simp [*]; done)), (by first | rfl | (simp; done) | (simp [*]; done)), (by first | rfl | (simp; done) | (simp [*]; done)), H', ⟨by have := HK1.out; omega⟩, ⟨by refine bq ?_; exact BK455.out⟩, ⟨by exact hs HB.out⟩⟩
              ·rw [if_neg c29] at H
               exact absurd H (by simp)
             ·rw [if_neg c27] at H
              exact absurd H (by simp)
            ·rw [if_neg c26] at H
             have c26b0 : decide (0 < x10_1) = false := decide_eq_false c26
             clear c26
             replace H := Option.bind_eq_some_iff.mp H
             obtain ⟨t458, A330, H⟩ := H
             replace H : (if x8_1.size + t458.size ≤ 9223372036854775807 then ((spec_l3End.f k1 l0 l1 x9_1).bind fun t459 => (spec_l4Text.l0 k1 l0 l1 (x8_1 ++ t458) t459 (wrap64 (x10_1 + 1)) ((rd_T125 ((rd_T34 l0 0).f0) (rd l1 a2)).f0) ((rd_T125 ((rd_T34 l0 0).f0) (rd l1 a2)).f1))) else (none)) = some r := H
             have A33 := am A330
             clear A330
             by_cases c34 : x8_1.size + t458.size ≤ 9223372036854775807
             ·rw [if_pos c34] at H
              have c34b0 := eq_true c34
              have c34b1 : decide (x8_1.size + t458.size ≤ 9223372036854775807) = true := decide_eq_true c34
              try have c34b2 : (9223372036854775807 < x8_1.size + t458.size) = False := eq_false (Nat.not_lt.2 c34)
              replace H := Option.bind_eq_some_iff.mp H
              obtain ⟨t459, A350, H⟩ := H
              replace H : (spec_l4Text.l0 k1 l0 l1 (x8_1 ++ t458) t459 (wrap64 (x10_1 + 1)) ((rd_T125 ((rd_T34 l0 0).f0) (rd l1 a2)).f0) ((rd_T125 ((rd_T34 l0 0).f0) (rd l1 a2)).f1)) = some r := H
              have A35 := am A350
              clear A350
              have H' := am H
              clear H
              have hcz36_0 : wr.cell? ⟨gb455, 0, none⟩ = some (.string ((rd_T125 ((rd_T34 l0 0).f0) (rd l1 a2)).f0)) := (blk_cell BK455.out 0).trans rfl
              have hcz36_1 : wr.cell? ⟨gb455, 1, none⟩ = some (.int .i64 ((rd_T125 ((rd_T34 l0 0).f0) (rd l1 a2)).f1)) := (blk_cell BK455.out 1).trans rfl
              have hfz36_0 := blk_frozen BK455.out 0
              have hfz36_1 := blk_frozen BK455.out 1
              go_wp2_with (first | ((with_reducible refine gate_callee (f := 104) rfl ?_); refine goesL_ (some 58) rfl rfl Tryz.func104 (by kernel_rfl) rfl #[.pointer (some ad451), .slice (some ad446) l1.length c1, .int .i64 x9_1] rfl el ?_; (with_reducible refine (ih k1 (by have := HK1.out; omega) _ l0 _ _ l1 x9_1 t458 _ ?side1 ?side2 ?side3 A33.out).mono ?_); (case side1 => exact cq (Kd.C_below HR0.out HB.out)); (case side2 => exact cq (Kd.C_below HR1.out HB.out)); (case side3 => exact HC1.out); rintro e w37 ⟨rfl, hb⟩; refine ⟨_, rfl, ?_⟩; have n0_ := am (blk_below (bq BK455.out) hb); have n1_ := am (below_step (hs HB.out) hb); clear BK455 HB; revert n0_ n1_; intro BK455 HB; (try clear hb); (try clear hb2); (try clear hgw); (try clear hk); (try clear hi)) | ((with_reducible refine gate_callee (f := 126) rfl ?_); refine goesL_ (some 63) rfl rfl Tryz.func126 (by kernel_rfl) rfl #[.pointer (some ad451), .slice (some ad446) l1.length c1, .int .i64 x9_1] rfl el ?_; (with_reducible refine (spec_l3End.calls k1 _ l0 _ _ l1 x9_1 t459 _ ?side1 ?side2 ?side3 A35.out).mono ?_); (case side1 => exact cq (Kd.C_below HR0.out HB.out)); (case side2 => exact cq (Kd.C_below HR1.out HB.out)); (case side3 => exact HC1.out); rintro e w' ⟨rfl, ⟨nd, rfl⟩⟩; refine ⟨_, rfl, ?_⟩))
              go_roundg k1
              case measure => have := HK1.out; omega
              case rel => exact ⟨(x8_1 ++ t458), (t459), (wrap64 (x10_1 + 1)), (by first | rfl | (simp; done) | (simp [*]; done)), (by first | rfl | (simp; done) | (simp [*]; done)), (by first | rfl | (simp; done) | (simp [*]; done)), H', ⟨by have := HK1.out; omega⟩, ⟨by refine bq ?_; exact BK455.out⟩, ⟨by exact hs HB.out⟩⟩
             ·rw [if_neg c34] at H
              exact absurd H (by simp)
           ·rw [if_neg c25] at H
            have c25b0 : decide (x10_1 < ((rd_T125 ((rd_T34 l0 0).f0) (rd l1 a2)).f1)) = false := decide_eq_false c25
            clear c25
            by_cases c38 : x8_1.size + 1 ≤ 9223372036854775807
            ·rw [if_pos c38] at H
             have c38b0 := eq_true c38
             have c38b1 : decide (x8_1.size + 1 ≤ 9223372036854775807) = true := decide_eq_true c38
             try have c38b2 : (9223372036854775807 < x8_1.size + 1) = False := eq_false (Nat.not_lt.2 c38)
             obtain rfl := Option.some.inj H
             have hcz39_0 : wr.cell? ⟨gb455, 0, none⟩ = some (.string ((rd_T125 ((rd_T34 l0 0).f0) (rd l1 a2)).f0)) := (blk_cell BK455.out 0).trans rfl
             have hcz39_1 : wr.cell? ⟨gb455, 1, none⟩ = some (.int .i64 ((rd_T125 ((rd_T34 l0 0).f0) (rd l1 a2)).f1)) := (blk_cell BK455.out 1).trans rfl
             have hfz39_0 := blk_frozen BK455.out 0
             have hfz39_1 := blk_frozen BK455.out 1
             go_wp2
             go_ret
             exact ⟨by first | rfl | (simp [errW_none, errW_some] <;> rfl) | (simp [*, errW_none, errW_some] <;> rfl), by exact hs HB.out⟩
            ·rw [if_neg c38] at H
             exact absurd H (by simp)
        ·rw [if_neg c19] at H
         exact absurd H (by simp)
      ·rw [if_neg c12] at H
       exact absurd H (by simp)
     ·rw [if_neg c11] at H
      exact absurd H (by simp)
    ·rw [if_neg c10] at H
     exact absurd H (by simp)
  ·rw [if_neg c5] at H
   exact absurd H (by simp)
 ·rw [if_neg c4] at H
  exact absurd H (by simp)
def spec_l4Read.f (k : Nat) (l0 : List (S34)) (a1 : ByteArray) : Option (List Int) := if (a1.size : Int) > 168 then (some ([] : List Int)) else ((spec_l4Nodes.f k l0 a1).bind fun bt460 => (if bt460.2 = true then ((spec_l3Fault.f k l0 bt460.1).bind fun t464 => (if t464 = 0 then ((spec_l4Text.f k l0 bt460.1 0).bind fun t465 => (if t465.toList = a1.toList then (some bt460.1) else (some ([] : List Int)))) else (some ([] : List Int)))) else (some ([] : List Int))))
set_option maxHeartbeats 8000000 in
set_option maxRecDepth 100000 in
theorem spec_l4Read.calls (k : Nat) (A0 : Option Addr) (l0 : List (S34)) (a1 : ByteArray) (r : List Int) (w : World) (hr0 : Kd.C k34 w A0 l0.length l0) (h : spec_l4Read.f k l0 a1 = some r) :
  Calls Tryz.prog 59 #[.pointer A0, .string a1] w fun e w' => ∃ v0_ : Value, e = .returned (v0_) ∧ Kd.R (Kd.int .i64) 2 w' w.heap.size (fun _ => True) v0_ r ∧ Below w.heap.size w w' := by
 have HR0 := am hr0
 clear hr0
 have HB := am (Below.refl w.heap.size w)
 have H : (if (a1.size : Int) > 168 then (some ([] : List Int)) else ((spec_l4Nodes.f k l0 a1).bind fun bt460 => (if bt460.2 = true then ((spec_l3Fault.f k l0 bt460.1).bind fun t464 => (if t464 = 0 then ((spec_l4Text.f k l0 bt460.1 0).bind fun t465 => (if t465.toList = a1.toList then (some bt460.1) else (some ([] : List Int)))) else (some ([] : List Int)))) else (some ([] : List Int))))) = some r := h
 clear h
 by_cases c3 : (a1.size : Int) > 168
 ·rw [if_pos c3] at H
  have c3b0 : decide (168 < (a1.size : Int)) = true := decide_eq_true c3
  have c3b1 : decide (168 < a1.size) = true := decide_eq_true (by omega)
  clear c3
  obtain rfl := Option.some.inj H
  go_enter Tryz.func59, Tryz.ntmps59
  go_wp2
  go_ret
  exact ⟨_, by first | rfl | (simp [errW_none, errW_some] <;> rfl) | (simp [*, errW_none, errW_some] <;> rfl), by first | exact Kd.R_nil _ _ _ _ _ | exact Kd.N_nil _ _ _ _ _ | exact Kd.V_nil _ _ _ _ _ | exact Kd.Q_nil _ _ _ _ _ | exact Kd.S_nil _ _ _ _ _, by exact hq HB.out⟩
 ·rw [if_neg c3] at H
  have c3b0 : decide (168 < (a1.size : Int)) = false := decide_eq_false c3
  have c3b1 : decide (168 < a1.size) = false := decide_eq_false (by omega)
  clear c3
  replace H := Option.bind_eq_some_iff.mp H
  obtain ⟨⟨t460, t461⟩, A40, H⟩ := H
  replace H : (if t461 = true then ((spec_l3Fault.f k l0 t460).bind fun t464 => (if t464 = 0 then ((spec_l4Text.f k l0 t460 0).bind fun t465 => (if t465.toList = a1.toList then (some t460) else (some ([] : List Int)))) else (some ([] : List Int)))) else (some ([] : List Int))) = some r := H
  have A4 := am A40
  clear A40
  by_cases c5 : t461 = true
  ·subst c5
   have H1 : ((spec_l3Fault.f k l0 t460).bind fun t464 => (if t464 = 0 then ((spec_l4Text.f k l0 t460 0).bind fun t465 => (if t465.toList = a1.toList then (some t460) else (some ([] : List Int)))) else (some ([] : List Int)))) = some r := by rw [if_pos rfl] at H; exact H
   clear H
   have H := H1
   clear H1
   replace H := Option.bind_eq_some_iff.mp H
   obtain ⟨t464, A60, H⟩ := H
   replace H : (if t464 = 0 then ((spec_l4Text.f k l0 t460 0).bind fun t465 => (if t465.toList = a1.toList then (some t460) else (some ([] : List Int)))) else (some ([] : List Int))) = some r := H
   have A6 := am A60
   clear A60
   by_cases c7 : t464 = 0
   ·rw [if_pos c7] at H
    have c7b0 : (t464 == 0) = true := beq_iff_eq.mpr c7
    have c7b1 : (t464 != 0) = false := bne_eq_false_iff_eq.mpr c7
    clear c7
    replace H := Option.bind_eq_some_iff.mp H
    obtain ⟨t465, A80, H⟩ := H
    replace H : (if t465.toList = a1.toList then (some t460) else (some ([] : List Int))) = some r := H
    have A8 := am A80
    clear A80
    by_cases c9 : t465.toList = a1.toList
    ·rw [if_pos c9] at H
     have c9b0 : (t465.toList == a1.toList) = true := beq_iff_eq.mpr c9
     have c9b1 : (t465.toList != a1.toList) = false := bne_eq_false_iff_eq.mpr c9
     clear c9
     obtain rfl := Option.some.inj H
     go_enter Tryz.func59, Tryz.ntmps59
     go_wp2_with (first | ((with_reducible refine gate_callee (f := 103) rfl ?_); refine goesL_ (some 13) rfl rfl Tryz.func103 (by kernel_rfl) rfl #[.pointer A0, .string a1] rfl el ?_; (with_reducible refine (spec_l4Nodes.calls k _ l0 a1 t460 true _ ?side1 A4.out).mono ?_); (case side1 => exact cq HR0.out); rintro e w10 ⟨v462, rfl, ho0, hb⟩; refine ⟨_, rfl, ?_⟩; have n0_ := am (Kd.R_lower ho0 (below_size (hq HB.out))); have n1_ := am (below_step (hq HB.out) hb); clear HB; revert n0_ n1_; intro HO463 HB; (try clear hb); (try clear hb2); (try clear hgw); (try clear hk); (try clear hi); (try clear ho0); obtain ⟨Ao11, co11, eo11⟩ := Kd.R_slice HO463.out; subst eo11) | (go_at_call 74; (with_reducible refine (spec_l3Fault.calls k _ l0 _ _ t460 t464 _ ?side1 ?side2 ?side3 A6.out).mono ?_); (case side1 => exact cq (Kd.C_below HR0.out HB.out)); (case side2 => repeat (first | exact (Kd.R_reads' HO463.out).2.2 | (with_reducible refine Kd.C_alloc ?_ _) | (with_reducible refine Kd.C_drewN ?_ _) | (with_reducible refine Kd.C_drew ?_))); (case side3 => exact (Kd.R_reads' HO463.out).2.1); rintro e w' ⟨rfl, ⟨nd, rfl⟩⟩) | (go_at_call 104; (with_reducible refine (spec_l4Text.calls k _ l0 _ _ t460 0 t465 _ ?side1 ?side2 ?side3 A8.out).mono ?_); (case side1 => repeat (first | exact (Kd.C_below HR0.out (hq HB.out)) | (with_reducible refine Kd.C_alloc ?_ _) | (with_reducible refine Kd.C_drewN ?_ _) | (with_reducible refine Kd.C_drew ?_))); (case side2 => repeat (first | exact (Kd.R_reads' HO463.out).2.2 | (with_reducible refine Kd.C_alloc ?_ _) | (with_reducible refine Kd.C_drewN ?_ _) | (with_reducible refine Kd.C_drew ?_))); (case side3 => exact (Kd.R_reads' HO463.out).2.1); rintro e w12 ⟨rfl, hb⟩; have n0_ := am (Kd.R_below (rq HO463.out) hb); have n1_ := am (below_step (hq HB.out) hb); clear HO463 HB; revert n0_ n1_; intro HO463 HB; (try clear hb); (try clear hb2); (try clear hgw); (try clear hk); (try clear hi)))
     go_ret
     exact ⟨_, by first | rfl | (simp [errW_none, errW_some] <;> rfl) | (simp [*, errW_none, errW_some] <;> rfl), by (with_reducible repeat (first | apply Kd.R_alloc | apply Kd.R_drewN | apply Kd.R_drew)); exact HO463.out, by exact hq HB.out⟩
    ·rw [if_neg c9] at H
     have c9b0 : (t465.toList == a1.toList) = false := beq_eq_false_iff_ne.mpr c9
     have c9b1 : (t465.toList != a1.toList) = true := bne_iff_ne.mpr c9
     obtain rfl := Option.some.inj H
     go_enter Tryz.func59, Tryz.ntmps59
     go_wp2_with (first | ((with_reducible refine gate_callee (f := 103) rfl ?_); refine goesL_ (some 13) rfl rfl Tryz.func103 (by kernel_rfl) rfl #[.pointer A0, .string a1] rfl el ?_; (with_reducible refine (spec_l4Nodes.calls k _ l0 a1 t460 true _ ?side1 A4.out).mono ?_); (case side1 => exact cq HR0.out); rintro e w13 ⟨v462, rfl, ho0, hb⟩; refine ⟨_, rfl, ?_⟩; have n0_ := am (Kd.R_lower ho0 (below_size (hq HB.out))); have n1_ := am (below_step (hq HB.out) hb); clear HB; revert n0_ n1_; intro HO463 HB; (try clear hb); (try clear hb2); (try clear hgw); (try clear hk); (try clear hi); (try clear ho0); obtain ⟨Ao14, co14, eo14⟩ := Kd.R_slice HO463.out; subst eo14) | (go_at_call 74; (with_reducible refine (spec_l3Fault.calls k _ l0 _ _ t460 t464 _ ?side1 ?side2 ?side3 A6.out).mono ?_); (case side1 => exact cq (Kd.C_below HR0.out HB.out)); (case side2 => repeat (first | exact (Kd.R_reads' HO463.out).2.2 | (with_reducible refine Kd.C_alloc ?_ _) | (with_reducible refine Kd.C_drewN ?_ _) | (with_reducible refine Kd.C_drew ?_))); (case side3 => exact (Kd.R_reads' HO463.out).2.1); rintro e w' ⟨rfl, ⟨nd, rfl⟩⟩) | (go_at_call 104; (with_reducible refine (spec_l4Text.calls k _ l0 _ _ t460 0 t465 _ ?side1 ?side2 ?side3 A8.out).mono ?_); (case side1 => repeat (first | exact (Kd.C_below HR0.out (hq HB.out)) | (with_reducible refine Kd.C_alloc ?_ _) | (with_reducible refine Kd.C_drewN ?_ _) | (with_reducible refine Kd.C_drew ?_))); (case side2 => repeat (first | exact (Kd.R_reads' HO463.out).2.2 | (with_reducible refine Kd.C_alloc ?_ _) | (with_reducible refine Kd.C_drewN ?_ _) | (with_reducible refine Kd.C_drew ?_))); (case side3 => exact (Kd.R_reads' HO463.out).2.1); rintro e w15 ⟨rfl, hb⟩; have n0_ := am (Kd.R_below (rq HO463.out) hb); have n1_ := am (below_step (hq HB.out) hb); clear HO463 HB; revert n0_ n1_; intro HO463 HB; (try clear hb); (try clear hb2); (try clear hgw); (try clear hk); (try clear hi)))
     go_ret
     exact ⟨_, by first | rfl | (simp [errW_none, errW_some] <;> rfl) | (simp [*, errW_none, errW_some] <;> rfl), by first | exact Kd.R_nil _ _ _ _ _ | exact Kd.N_nil _ _ _ _ _ | exact Kd.V_nil _ _ _ _ _ | exact Kd.Q_nil _ _ _ _ _ | exact Kd.S_nil _ _ _ _ _, by exact hq HB.out⟩
   ·rw [if_neg c7] at H
    have c7b0 : (t464 == 0) = false := beq_eq_false_iff_ne.mpr c7
    have c7b1 : (t464 != 0) = true := bne_iff_ne.mpr c7
    obtain rfl := Option.some.inj H
    go_enter Tryz.func59, Tryz.ntmps59
    go_wp2_with (first | ((with_reducible refine gate_callee (f := 103) rfl ?_); refine goesL_ (some 13) rfl rfl Tryz.func103 (by kernel_rfl) rfl #[.pointer A0, .string a1] rfl el ?_; (with_reducible refine (spec_l4Nodes.calls k _ l0 a1 t460 true _ ?side1 A4.out).mono ?_); (case side1 => exact cq HR0.out); rintro e w16 ⟨v462, rfl, ho0, hb⟩; refine ⟨_, rfl, ?_⟩; have n0_ := am (Kd.R_lower ho0 (below_size (hq HB.out))); have n1_ := am (below_step (hq HB.out) hb); clear HB; revert n0_ n1_; intro HO463 HB; (try clear hb); (try clear hb2); (try clear hgw); (try clear hk); (try clear hi); (try clear ho0); obtain ⟨Ao17, co17, eo17⟩ := Kd.R_slice HO463.out; subst eo17) | (go_at_call 74; (with_reducible refine (spec_l3Fault.calls k _ l0 _ _ t460 t464 _ ?side1 ?side2 ?side3 A6.out).mono ?_); (case side1 => exact cq (Kd.C_below HR0.out HB.out)); (case side2 => repeat (first | exact (Kd.R_reads' HO463.out).2.2 | (with_reducible refine Kd.C_alloc ?_ _) | (with_reducible refine Kd.C_drewN ?_ _) | (with_reducible refine Kd.C_drew ?_))); (case side3 => exact (Kd.R_reads' HO463.out).2.1); rintro e w' ⟨rfl, ⟨nd, rfl⟩⟩))
    go_ret
    exact ⟨_, by first | rfl | (simp [errW_none, errW_some] <;> rfl) | (simp [*, errW_none, errW_some] <;> rfl), by first | exact Kd.R_nil _ _ _ _ _ | exact Kd.N_nil _ _ _ _ _ | exact Kd.V_nil _ _ _ _ _ | exact Kd.Q_nil _ _ _ _ _ | exact Kd.S_nil _ _ _ _ _, by exact hq HB.out⟩
  ·replace c5 := Bool.eq_false_iff.mpr c5
   subst c5
   have H1 : (some ([] : List Int)) = some r := by rw [if_neg (show ¬ (false = true) by decide)] at H; exact H
   clear H
   have H := H1
   clear H1
   obtain rfl := Option.some.inj H
   go_enter Tryz.func59, Tryz.ntmps59
   go_wp2_with (first | ((with_reducible refine gate_callee (f := 103) rfl ?_); refine goesL_ (some 13) rfl rfl Tryz.func103 (by kernel_rfl) rfl #[.pointer A0, .string a1] rfl el ?_; (with_reducible refine (spec_l4Nodes.calls k _ l0 a1 t460 false _ ?side1 A4.out).mono ?_); (case side1 => exact cq HR0.out); rintro e w18 ⟨v462, rfl, ho0, hb⟩; refine ⟨_, rfl, ?_⟩; have n0_ := am (Kd.R_lower ho0 (below_size (hq HB.out))); have n1_ := am (below_step (hq HB.out) hb); clear HB; revert n0_ n1_; intro HO463 HB; (try clear hb); (try clear hb2); (try clear hgw); (try clear hk); (try clear hi); (try clear ho0)))
   go_ret
   exact ⟨_, by first | rfl | (simp [errW_none, errW_some] <;> rfl) | (simp [*, errW_none, errW_some] <;> rfl), by first | exact Kd.R_nil _ _ _ _ _ | exact Kd.N_nil _ _ _ _ _ | exact Kd.V_nil _ _ _ _ _ | exact Kd.Q_nil _ _ _ _ _ | exact Kd.S_nil _ _ _ _ _, by exact hq HB.out⟩
end Go.Proofs.YtcanokiehjjbgaaGreatDoor.P
