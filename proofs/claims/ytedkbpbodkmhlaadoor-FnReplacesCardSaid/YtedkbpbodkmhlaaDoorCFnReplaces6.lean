/- A part of the proof of the law FnReplaces. -/
import Derived.Laws.StructEq
import Derived.Test.YtedkbpbodkmhlaaDoorCFnReplaces0
import Derived.Test.YtedkbpbodkmhlaaDoorCFnReplaces1
import Derived.Test.YtedkbpbodkmhlaaDoorCFnReplaces2
import Derived.Test.YtedkbpbodkmhlaaDoorCFnReplaces5
import Derived.Test.YtedkbpbodkmhlaaDoorCFnReplaces16
namespace Go.Proofs.YtedkbpbodkmhlaaDoor.P
open Go.RowKit Go.Proofs.YtedkbpbodkmhlaaDoorW.PrintWords Go.Proofs.YtedkbpbodkmhlaaDoorW.PrintLast Go.Proofs.YtedkbpbodkmhlaaDoorW.PrintMore
attribute [local go_sem] max2_int min2_int max_two min_two max_three min_three max_four min_four   -- for this text's walks alone
set_option linter.unusedVariables false
set_option linter.unusedSimpArgs false
mutual
def spec_l3BentTerm.j0 : Nat → List (S42) → Int → Int → Bool → List Int → Int → Option (List Int × Int)
 | 0, _, _, _, _, _, _ => none
 | k + 1, x1, x2, x3, x24, x1000, x1001 => if x24 = true then (some ((([0] : List Int)), x1001)) else ((spec_l3Draw.f k x1000 x1001 x1 x2 x3).bind fun bt957 => ((spec_l1Chance.f x1000 bt957.2 11).bind fun bt961 => (if bt961.1 = true then ((spec_l1Next.f x1000 bt961.2 4).bind fun bt963 => (if bt963.1 = 0 then (if 0 ≤ (wrap64 ((bt957.1.length : Int) - 1)) then (if (wrap64 ((bt957.1.length : Int) - 1)) ≤ (bt957.1.length : Int) then (some ((bt957.1.take ((wrap64 ((bt957.1.length : Int) - 1)) : Int).toNat), bt963.2)) else (none)) else (none)) else (if bt963.1 = 1 then (if bt957.1.length < 17592186044416 then (some ((bt957.1 ++ [0]), bt963.2)) else (none)) else (if bt963.1 = 2 then ((spec_l1Next.f x1000 bt963.2 (bt957.1.length : Int)).bind fun bt971 => (if 0 < (x1.length : Int) then ((spec_l1Pick.f x1000 bt971.2 (([(((rd_T42 x1 0).f0).length : Int), (-13), (-12)] : List Int))).bind fun bt978 => (if 0 ≤ bt971.1 then (if bt971.1 < (bt957.1.length : Int) then (some ((bt957.1.set (bt971.1 : Int).toNat bt978.1), bt978.2)) else (none)) else (none))) else (none))) else (spec_l3BentTerm.l0 k (([] : List Int)) 0 x1000 bt963.2))))) else (some (bt957.1, bt961.2)))))
def spec_l3BentTerm.l0 : Nat → List Int → Int → List Int → Int → Option (List Int × Int)
 | 0, _, _, _, _ => none
 | k + 1, x10, x11, x1000, x1001 => (spec_l1Pick.f x1000 x1001 (([24, 25] : List Int))).bind fun bt987 => (if x11 < bt987.1 then ((spec_l1Pick.f x1000 bt987.2 (([1, 2, 0] : List Int))).bind fun bt992 => (if x10.length < 17592186044416 then (spec_l3BentTerm.l0 k (x10 ++ [bt992.1]) (wrap64 (x11 + 1)) x1000 bt992.2) else (none))) else (some (x10, bt987.2)))
end
def spec_l3BentTerm.f (k : Nat) (s0_0 : List Int) (s0_1 : Int) (l1 : List (S42)) (a2 : Int) (a3 : Int) : Option (List Int × Int) := if 0 < (l1.length : Int) then (if (((rd_T42 l1 0).f0).length : Int) < 1 then (spec_l3BentTerm.j0 k l1 a2 a3 true s0_0 s0_1) else ((spec_SignatureFault.f k ((rd_T42 l1 0).f0)).bind fun t953 => (spec_l3BentTerm.j0 k l1 a2 a3 (t953 != 0) s0_0 s0_1))) else (none)
def spec_l3BentTerm.T12 : Bool × List (List Nat × List Nat) := (true, [([], []), ([], []), ([], []), ([2], [2]), ([1, 3], [1, 3]), ([], []), ([], []), ([6], [6]), ([7], [7]), ([8], [8]), ([9], [9]), ([10], [10]), ([5, 11, 4], [5, 11]), ([0, 4, 0, 1, 2, 3, 4, 5, 6, 7, 8, 9, 10, 11, 12], [0, 4]), ([13, 12, 12, 0, 1, 2, 3, 4, 5, 6, 7, 8, 9, 10, 11, 12], [12, 13])])
def spec_l3BentTerm.B12 : List Nat := [0, 0, 0, 4, 14, 0, 0, 64, 192, 448, 960, 1984, 4094, 8191, 16383]
theorem spec_l3BentTerm.tab12 : rtab .any (opsOf Tryd.f112 12) = spec_l3BentTerm.T12 := by kernel_rfl
theorem spec_l3BentTerm.bits12 : waitsOk spec_l3BentTerm.T12.2 spec_l3BentTerm.B12 = true := by kernel_rfl
set_option maxHeartbeats 8000000 in
set_option maxRecDepth 100000 in
theorem spec_l3BentTerm.calls (k : Nat) (g : Nat) (s0_0 : List Int) (s0_1 : Int) (A1 : Option Addr) (l1 : List (S42)) (a2 : Int) (a3 : Int) (r1 : List Int) (r2 : Int) (w0 w : World) (hI : IsS148 w0 w g s0_0 s0_1) (hB : Below w0.heap.size w0 w) (hr1 : ∀ W_, KeepBut w W_ g none → Kd.C k42 W_ A1 l1.length l1) (h : spec_l3BentTerm.f k s0_0 s0_1 l1 a2 a3 = some (r1, r2)) :
  Calls Tryd.prog 112 #[.pointer (some ⟨g, 0, none⟩), .pointer A1, .int .i64 a2, .int .i64 a3] w fun e w' => ∃ v0_ : Value, e = .returned (v0_) ∧ Kd.R (Kd.int .i64) 2 w' w.heap.size (fun _ => True) v0_ r1 ∧ IsS148 w0 w' g s0_0 r2 ∧ Below w0.heap.size w0 w' ∧ KeepBut w w' g none := by
 have hu42 := Tryd.underlying42
 have HR1 := am hr1
 clear hr1
 have HI0 := am hI
 have HK := am (KeepBut.refl w g none)
 have HL := am hB.size
 clear hI
 have HW0 := am hB.size
 have HB := am hB
 clear hB
 have H : (if 0 < (l1.length : Int) then (if (((rd_T42 l1 0).f0).length : Int) < 1 then (spec_l3BentTerm.j0 k l1 a2 a3 true s0_0 s0_1) else ((spec_SignatureFault.f k ((rd_T42 l1 0).f0)).bind fun t953 => (spec_l3BentTerm.j0 k l1 a2 a3 (t953 != 0) s0_0 s0_1))) else (none)) = some (r1, r2) := h
 clear h
 have HC5 := am H
 clear H
 go_enter Tryd.func112, Tryd.ntmps112
 go_upto_region 1 with (fail)
 go_cut [24] (fun v24 wc => ∃ (kq : Nat) (x24_4 : Bool), v24 = .bool x24_4 ∧ Aside0 (spec_l3BentTerm.j0 kq l1 a2 a3 x24_4 s0_0 s0_1 = some (r1, r2)) ∧ Aside0 (kq ≤ k) ∧ Aside0 (IsS148 w0 wc g s0_0 s0_1) ∧ Aside0 (KeepBut w wc g none) ∧ Aside0 (Below w0.heap.size w0 wc))
 case first =>
  have H := HC5.out
  clear HC5
  by_cases c6 : 0 < (l1.length : Int)
  ·rw [if_pos c6] at H
   have c6b0 : decide (0 < (l1.length : Int)) = true := decide_eq_true c6
   have c6b1 : decide (0 < l1.length) = true := decide_eq_true (by omega)
   clear c6
   (first | rw [c6b0] | (simp only [i64_w, i32_w]; rw [c6b0]) | skip)
   by_cases c7 : (((rd_T42 l1 0).f0).length : Int) < 1
   ·rw [if_pos c7] at H
    have c7b0 : decide ((((rd_T42 l1 0).f0).length : Int) < 1) = true := decide_eq_true c7
    have c7b1 : decide (((rd_T42 l1 0).f0).length < 1) = true := decide_eq_true (by omega)
    clear c7
    have H' := am H
    clear H
    have p949 : 0 ≤ (0 : Int) := (by omega)
    have q949 : 0 < (l1.length : Int) := of_decide_eq_true (by first | (with_reducible assumption) | assumption)
    obtain ⟨ad949, A949_0, c949_0, e949, hx949_0, hl949_0, hi949_0⟩ := at_T42 (Kd.C_foot_now HR1.out HK.out) 0 p949 q949
    cases e949
    have qi949 : (0 < l1.length) = True := eq_true (by omega)
    (try rw [show ((0 : Int)).toNat = 0 from rfl] at hx949_0)
    (try rw [Addr.add_zero'] at hx949_0)
    have HR949_0 := am hi949_0
    have HC949_0 := am hl949_0
    clear hi949_0 hl949_0
    replace p949 := eq_true p949
    replace q949 := eq_true q949
    have p950 : 0 ≤ (0 : Int) := (by omega)
    have q950 : 0 < (l1.length : Int) := of_decide_eq_true (by first | (with_reducible assumption) | assumption)
    obtain ⟨ad950, A950_0, c950_0, e950, hx950_0, hl950_0, hi950_0⟩ := at_T42 (Kd.C_foot_now HR1.out HK.out) 0 p950 q950
    obtain rfl : ad949 = ad950 := (by injection e950)
    have qi950 : (0 < l1.length) = True := eq_true (by omega)
    (try rw [show ((0 : Int)).toNat = 0 from rfl] at hx950_0)
    (try rw [Addr.add_zero'] at hx950_0)
    have HR950_0 := am hi950_0
    have HC950_0 := am hl950_0
    clear hi950_0 hl950_0
    replace p950 := eq_true p950
    replace q950 := eq_true q950
    have ea_ := Option.some.inj (hx949_0.symm.trans hx950_0)
    injection ea_ with ea_ en_ ec_
    subst ea_
    subst ec_
    clear en_
    go_wp2
    go_meet
    case rel => exact ⟨_, (true), (by first | rfl | (simp; done) | (simp [*]; done)), H', ⟨by first | omega | exact Nat.le_refl _⟩, ⟨by exact IsS148.q HI0.out⟩, ⟨by exact kq HK.out⟩, ⟨by exact hsk HB.out (IsS148.ge HI0.out)⟩⟩
   ·rw [if_neg c7] at H
    have c7b0 : decide ((((rd_T42 l1 0).f0).length : Int) < 1) = false := decide_eq_false c7
    have c7b1 : decide (((rd_T42 l1 0).f0).length < 1) = false := decide_eq_false (by omega)
    clear c7
    replace H := Option.bind_eq_some_iff.mp H
    obtain ⟨t953, A80, H⟩ := H
    replace H : (spec_l3BentTerm.j0 k l1 a2 a3 (t953 != 0) s0_0 s0_1) = some (r1, r2) := H
    have A8 := am A80
    clear A80
    have H' := am H
    clear H
    have p949 : 0 ≤ (0 : Int) := (by omega)
    have q949 : 0 < (l1.length : Int) := of_decide_eq_true (by first | (with_reducible assumption) | assumption)
    obtain ⟨ad949, A949_0, c949_0, e949, hx949_0, hl949_0, hi949_0⟩ := at_T42 (Kd.C_foot_now HR1.out HK.out) 0 p949 q949
    cases e949
    have qi949 : (0 < l1.length) = True := eq_true (by omega)
    (try rw [show ((0 : Int)).toNat = 0 from rfl] at hx949_0)
    (try rw [Addr.add_zero'] at hx949_0)
    have HR949_0 := am hi949_0
    have HC949_0 := am hl949_0
    clear hi949_0 hl949_0
    replace p949 := eq_true p949
    replace q949 := eq_true q949
    have p950 : 0 ≤ (0 : Int) := (by omega)
    have q950 : 0 < (l1.length : Int) := of_decide_eq_true (by first | (with_reducible assumption) | assumption)
    obtain ⟨ad950, A950_0, c950_0, e950, hx950_0, hl950_0, hi950_0⟩ := at_T42 (Kd.C_foot_now HR1.out HK.out) 0 p950 q950
    obtain rfl : ad949 = ad950 := (by injection e950)
    have qi950 : (0 < l1.length) = True := eq_true (by omega)
    (try rw [show ((0 : Int)).toNat = 0 from rfl] at hx950_0)
    (try rw [Addr.add_zero'] at hx950_0)
    have HR950_0 := am hi950_0
    have HC950_0 := am hl950_0
    clear hi950_0 hl950_0
    replace p950 := eq_true p950
    replace q950 := eq_true q950
    have ea_ := Option.some.inj (hx949_0.symm.trans hx950_0)
    injection ea_ with ea_ en_ ec_
    subst ea_
    subst ec_
    clear en_
    have p951 : 0 ≤ (0 : Int) := (by omega)
    have q951 : 0 < (l1.length : Int) := of_decide_eq_true (by first | (with_reducible assumption) | assumption)
    obtain ⟨ad951, A951_0, c951_0, e951, hx951_0, hl951_0, hi951_0⟩ := at_T42 (Kd.C_foot_now HR1.out HK.out) 0 p951 q951
    obtain rfl : ad949 = ad951 := (by injection e951)
    have qi951 : (0 < l1.length) = True := eq_true (by omega)
    (try rw [show ((0 : Int)).toNat = 0 from rfl] at hx951_0)
    (try rw [Addr.add_zero'] at hx951_0)
    have HR951_0 := am hi951_0
    have HC951_0 := am hl951_0
    clear hi951_0 hl951_0
    replace p951 := eq_true p951
    replace q951 := eq_true q951
    have ea_ := Option.some.inj (hx949_0.symm.trans hx951_0)
    injection ea_ with ea_ en_ ec_
    subst ea_
    subst ec_
    clear en_
    have p952 : 0 ≤ (0 : Int) := (by omega)
    have q952 : 0 < (l1.length : Int) := of_decide_eq_true (by first | (with_reducible assumption) | assumption)
    obtain ⟨ad952, A952_0, c952_0, e952, hx952_0, hl952_0, hi952_0⟩ := at_T42 (Kd.C_foot_now HR1.out HK.out) 0 p952 q952
    obtain rfl : ad949 = ad952 := (by injection e952)
    have qi952 : (0 < l1.length) = True := eq_true (by omega)
    (try rw [show ((0 : Int)).toNat = 0 from rfl] at hx952_0)
    (try rw [Addr.add_zero'] at hx952_0)
    have HR952_0 := am hi952_0
    have HC952_0 := am hl952_0
    clear hi952_0 hl952_0
    replace p952 := eq_true p952
    replace q952 := eq_true q952
    have ea_ := Option.some.inj (hx949_0.symm.trans hx952_0)
    injection ea_ with ea_ en_ ec_
    subst ea_
    subst ec_
    clear en_
    go_wp2_with (first | (go_at_call 74; (with_reducible refine (spec_SignatureFault.calls k _ _ ((rd_T42 l1 0).f0) t953 _ ?side1 ?side2 A8.out).mono ?_); (case side1 => repeat (first | exact (cq HR952_0.out) | (with_reducible refine Kd.C_alloc ?_ _) | (with_reducible refine Kd.C_drewN ?_ _) | (with_reducible refine Kd.C_drew ?_))); (case side2 => exact HC952_0.out); rintro e w9 ⟨rfl, hb⟩; have n0_ := am (IsS148.below (IsS148.q HI0.out) hb); have n1_ := am (Kd.C_below (cq HR949_0.out) hb); have n2_ := am (Kd.C_below (cq HR950_0.out) hb); have n3_ := am (Kd.C_below (cq HR951_0.out) hb); have n4_ := am (Kd.C_below (cq HR952_0.out) hb); have n5_ := am (KeepBut.trans (kq HK.out) (KeepBut.of_below hb g none) (.inl rfl)); have n6_ := am (below_step (hsk HB.out (IsS148.ge HI0.out)) hb); clear HI0 HR949_0 HR950_0 HR951_0 HR952_0 HK HB; revert n0_ n1_ n2_ n3_ n4_ n5_ n6_; intro HI0 HR949_0 HR950_0 HR951_0 HR952_0 HK HB; (try clear hb); (try clear hb2); (try clear hgw); (try clear hk); (try clear hi)))
    go_meet
    case rel => exact ⟨_, ((t953 != 0)), (by first | rfl | (simp; done) | (simp [*]; done)), H', ⟨by first | omega | exact Nat.le_refl _⟩, ⟨by exact IsS148.q HI0.out⟩, ⟨by exact kq HK.out⟩, ⟨by exact hsk HB.out (IsS148.ge HI0.out)⟩⟩
  ·rw [if_neg c6] at H
   exact absurd H (by simp)
 case rest =>
  clear HC5
  try clear c1
  try clear p2
  try clear c6
  try clear c6b0
  try clear c6b1
  try clear c7
  try clear c7b0
  try clear c7b1
  try clear c9
  try clear p9
  try clear q9
  try clear hx9
  try clear qi9
  try clear hx949_0
  try clear hx950_0
  try clear hx951_0
  try clear hx952_0
  try clear p949
  try clear p950
  try clear p951
  try clear p952
  try clear q949
  try clear q950
  try clear q951
  try clear q952
  obtain ⟨kq, x24_4, rfl, HA, HJ4, HI0, HK, HB⟩ := hcut
  cases kq with
  | zero => exact absurd HA.out (by simp [spec_l3BentTerm.j0])
  | succ kj4 =>
   have H := HA.out
   clear HA
   simp only [spec_l3BentTerm.j0] at H
   by_cases c10 : x24_4 = true
   ·subst c10
    have H1 : (some ((([0] : List Int)), s0_1)) = some (r1, r2) := by rw [if_pos rfl] at H; exact H
    clear H
    have H := H1
    clear H1
    obtain ⟨y954, hy954⟩ : ∃ y_ : List Int, y_ = (([0] : List Int)) := ⟨_, rfl⟩
    replace H : (some (y954, s0_1)) = some (r1, r2) := by first | (rw [hy954]; with_reducible exact H) | (have H2_ := (Option.bind_some _ _).symm.trans H; rw [hy954]; with_reducible exact H2_) | (have H2_ := (Option.bind_some _ _).symm.trans H; with_reducible exact H2_) | with_reducible exact H | (rw [hy954]; exact H) | exact H
    have Ny954 := am hy954
    clear hy954
    simp only [Option.some.injEq, Prod.mk.injEq] at H
    obtain ⟨rfl, rfl⟩ := H
    go_wp2_with (first | ((with_reducible refine gate_dst (N := 25) rfl ?_); refine Kd.R_lit (Kd.int .i64) _ 2 ?hg (N := 25) ?hd (xs := ([0] : List Int)) (inner := [.int .i64 0]) (ok := fun _ => True) (okp := fun _ => True) ?hr ?hp (fun _ hk => hk) trivial (Below.refl _ _) (Nat.le_refl _) (by simp) ?_; (case hd => rfl); (case hg => rfl); (case hr => first | (go_simp; done) | (go_simp; rfl)); (case hp => exact (Reps.one (show Kd.M (Kd.int .i64) _ _ _ 0 [.int .i64 0] from rfl) (Reps.none _ _))); intro v955 w11 ho12 hb hg_ hnew_; clear hg_ hnew_; (first | rw [← Ny954.out] at ho12 | (simp only [Int.reduceToNat] at ho12; rw [← Ny954.out] at ho12)); have n0_ := am (Kd.R_lower ho12 (keep_size (w := w) (g := g) (row := none) (kq HK.out))); have n1_ := am (IsS148.below (IsS148.q HI0.out) hb); have n2_ := am (KeepBut.trans (kq HK.out) (KeepBut.of_below hb g none) (.inl rfl)); have n3_ := am (below_step (hsk HB.out (IsS148.ge HI0.out)) hb); clear HI0 HK HB; revert n0_ n1_ n2_ n3_; intro HO956 HI0 HK HB; clear hb ho12))
    go_ret
    exact ⟨_, by first | rfl | (simp [errW_none, errW_some] <;> rfl) | (simp [*, errW_none, errW_some] <;> rfl), by (with_reducible repeat (first | apply Kd.R_alloc | apply Kd.R_drewN | apply Kd.R_drew)); exact HO956.out, by exact IsS148.q HI0.out, by exact hsk HB.out (IsS148.ge HI0.out), by exact kq HK.out⟩
   ·replace c10 := Bool.eq_false_iff.mpr c10
    subst c10
    have H1 : ((spec_l3Draw.f kj4 s0_0 s0_1 l1 a2 a3).bind fun bt957 => ((spec_l1Chance.f s0_0 bt957.2 11).bind fun bt961 => (if bt961.1 = true then ((spec_l1Next.f s0_0 bt961.2 4).bind fun bt963 => (if bt963.1 = 0 then (if 0 ≤ (wrap64 ((bt957.1.length : Int) - 1)) then (if (wrap64 ((bt957.1.length : Int) - 1)) ≤ (bt957.1.length : Int) then (some ((bt957.1.take ((wrap64 ((bt957.1.length : Int) - 1)) : Int).toNat), bt963.2)) else (none)) else (none)) else (if bt963.1 = 1 then (if bt957.1.length < 17592186044416 then (some ((bt957.1 ++ [0]), bt963.2)) else (none)) else (if bt963.1 = 2 then ((spec_l1Next.f s0_0 bt963.2 (bt957.1.length : Int)).bind fun bt971 => (if 0 < (l1.length : Int) then ((spec_l1Pick.f s0_0 bt971.2 (([(((rd_T42 l1 0).f0).length : Int), (-13), (-12)] : List Int))).bind fun bt978 => (if 0 ≤ bt971.1 then (if bt971.1 < (bt957.1.length : Int) then (some ((bt957.1.set (bt971.1 : Int).toNat bt978.1), bt978.2)) else (none)) else (none))) else (none))) else (spec_l3BentTerm.l0 kj4 (([] : List Int)) 0 s0_0 bt963.2))))) else (some (bt957.1, bt961.2))))) = some (r1, r2) := by rw [if_neg (show ¬ (false = true) by decide)] at H; exact H
    clear H
    have H := H1
    clear H1
    replace H := Option.bind_eq_some_iff.mp H
    obtain ⟨⟨t957, t960⟩, A130, H⟩ := H
    replace H : ((spec_l1Chance.f s0_0 t960 11).bind fun bt961 => (if bt961.1 = true then ((spec_l1Next.f s0_0 bt961.2 4).bind fun bt963 => (if bt963.1 = 0 then (if 0 ≤ (wrap64 ((t957.length : Int) - 1)) then (if (wrap64 ((t957.length : Int) - 1)) ≤ (t957.length : Int) then (some ((t957.take ((wrap64 ((t957.length : Int) - 1)) : Int).toNat), bt963.2)) else (none)) else (none)) else (if bt963.1 = 1 then (if t957.length < 17592186044416 then (some ((t957 ++ [0]), bt963.2)) else (none)) else (if bt963.1 = 2 then ((spec_l1Next.f s0_0 bt963.2 (t957.length : Int)).bind fun bt971 => (if 0 < (l1.length : Int) then ((spec_l1Pick.f s0_0 bt971.2 (([(((rd_T42 l1 0).f0).length : Int), (-13), (-12)] : List Int))).bind fun bt978 => (if 0 ≤ bt971.1 then (if bt971.1 < (t957.length : Int) then (some ((t957.set (bt971.1 : Int).toNat bt978.1), bt978.2)) else (none)) else (none))) else (none))) else (spec_l3BentTerm.l0 kj4 (([] : List Int)) 0 s0_0 bt963.2))))) else (some (t957, bt961.2)))) = some (r1, r2) := H
    have A13 := am A130
    clear A130
    replace H := Option.bind_eq_some_iff.mp H
    obtain ⟨⟨t961, t962⟩, A140, H⟩ := H
    replace H : (if t961 = true then ((spec_l1Next.f s0_0 t962 4).bind fun bt963 => (if bt963.1 = 0 then (if 0 ≤ (wrap64 ((t957.length : Int) - 1)) then (if (wrap64 ((t957.length : Int) - 1)) ≤ (t957.length : Int) then (some ((t957.take ((wrap64 ((t957.length : Int) - 1)) : Int).toNat), bt963.2)) else (none)) else (none)) else (if bt963.1 = 1 then (if t957.length < 17592186044416 then (some ((t957 ++ [0]), bt963.2)) else (none)) else (if bt963.1 = 2 then ((spec_l1Next.f s0_0 bt963.2 (t957.length : Int)).bind fun bt971 => (if 0 < (l1.length : Int) then ((spec_l1Pick.f s0_0 bt971.2 (([(((rd_T42 l1 0).f0).length : Int), (-13), (-12)] : List Int))).bind fun bt978 => (if 0 ≤ bt971.1 then (if bt971.1 < (t957.length : Int) then (some ((t957.set (bt971.1 : Int).toNat bt978.1), bt978.2)) else (none)) else (none))) else (none))) else (spec_l3BentTerm.l0 kj4 (([] : List Int)) 0 s0_0 bt963.2))))) else (some (t957, t962))) = some (r1, r2) := H
    have A14 := am A140
    clear A140
    by_cases c15 : t961 = true
    ·subst c15
     have H1 : ((spec_l1Next.f s0_0 t962 4).bind fun bt963 => (if bt963.1 = 0 then (if 0 ≤ (wrap64 ((t957.length : Int) - 1)) then (if (wrap64 ((t957.length : Int) - 1)) ≤ (t957.length : Int) then (some ((t957.take ((wrap64 ((t957.length : Int) - 1)) : Int).toNat), bt963.2)) else (none)) else (none)) else (if bt963.1 = 1 then (if t957.length < 17592186044416 then (some ((t957 ++ [0]), bt963.2)) else (none)) else (if bt963.1 = 2 then ((spec_l1Next.f s0_0 bt963.2 (t957.length : Int)).bind fun bt971 => (if 0 < (l1.length : Int) then ((spec_l1Pick.f s0_0 bt971.2 (([(((rd_T42 l1 0).f0).length : Int), (-13), (-12)] : List Int))).bind fun bt978 => (if 0 ≤ bt971.1 then (if bt971.1 < (t957.length : Int) then (some ((t957.set (bt971.1 : Int).toNat bt978.1), bt978.2)) else (none)) else (none))) else (none))) else (spec_l3BentTerm.l0 kj4 (([] : List Int)) 0 s0_0 bt963.2))))) = some (r1, r2) := by rw [if_pos rfl] at H; exact H
     clear H
     have H := H1
     clear H1
     replace H := Option.bind_eq_some_iff.mp H
     obtain ⟨⟨t963, t964⟩, A160, H⟩ := H
     replace H : (if t963 = 0 then (if 0 ≤ (wrap64 ((t957.length : Int) - 1)) then (if (wrap64 ((t957.length : Int) - 1)) ≤ (t957.length : Int) then (some ((t957.take ((wrap64 ((t957.length : Int) - 1)) : Int).toNat), t964)) else (none)) else (none)) else (if t963 = 1 then (if t957.length < 17592186044416 then (some ((t957 ++ [0]), t964)) else (none)) else (if t963 = 2 then ((spec_l1Next.f s0_0 t964 (t957.length : Int)).bind fun bt971 => (if 0 < (l1.length : Int) then ((spec_l1Pick.f s0_0 bt971.2 (([(((rd_T42 l1 0).f0).length : Int), (-13), (-12)] : List Int))).bind fun bt978 => (if 0 ≤ bt971.1 then (if bt971.1 < (t957.length : Int) then (some ((t957.set (bt971.1 : Int).toNat bt978.1), bt978.2)) else (none)) else (none))) else (none))) else (spec_l3BentTerm.l0 kj4 (([] : List Int)) 0 s0_0 t964)))) = some (r1, r2) := H
     have A16 := am A160
     clear A160
     by_cases c17 : t963 = 0
     ·rw [if_pos c17] at H
      have c17b0 : (t963 == 0) = true := beq_iff_eq.mpr c17
      have c17b1 : (t963 != 0) = false := bne_eq_false_iff_eq.mpr c17
      clear c17
      obtain ⟨ji18, hji18⟩ : ∃ j_ : Int, (wrap64 ((t957.length : Int) - 1)) = j_ := ⟨_, rfl⟩
      replace H : (if 0 ≤ (ji18) then (if (ji18) ≤ (t957.length : Int) then (some ((t957.take ((ji18) : Int).toNat), t964)) else (none)) else (none)) = some (r1, r2) := by first | (rw [hji18] at H; exact H) | (simp only [hji18] at H ⊢; exact H)
      (try rw [hji18] at A13)
      (try rw [hji18] at A14)
      (try rw [hji18] at A16)
      have hji18w : (IntKind.i64.wrap ((t957.length : Int) - 1)) = ji18 := (i64_w _).trans hji18
      by_cases c19 : 0 ≤ (ji18)
      ·rw [if_pos c19] at H
       have c19b0 := eq_true c19
       have c19b1 : decide (0 ≤ (ji18)) = true := decide_eq_true c19
       clear c19
       by_cases c20 : (ji18) ≤ (t957.length : Int)
       ·rw [if_pos c20] at H
        have c20b0 := eq_true c20
        have c20b1 : decide ((ji18) ≤ (t957.length : Int)) = true := decide_eq_true c20
        clear c20
        obtain ⟨y965, hy965⟩ : ∃ y_ : List Int, y_ = (t957.take ((ji18) : Int).toNat) := ⟨_, rfl⟩
        replace H : (some (y965, t964)) = some (r1, r2) := by first | (rw [hy965]; with_reducible exact H) | (have H2_ := (Option.bind_some _ _).symm.trans H; rw [hy965]; with_reducible exact H2_) | (have H2_ := (Option.bind_some _ _).symm.trans H; with_reducible exact H2_) | with_reducible exact H | (rw [hy965]; exact H) | exact H
        have Ny965 := am hy965
        clear hy965
        simp only [Option.some.injEq, Prod.mk.injEq] at H
        obtain ⟨rfl, rfl⟩ := H
        go_wp2_with (first | ((with_reducible refine gate_callee (f := 145) rfl ?_); refine goesL_ (some 30) rfl rfl Tryd.func145 (by kernel_rfl) rfl #[.pointer (some ⟨g, 0, none⟩), .pointer A1, .int .i64 a2, .int .i64 a3] rfl el ?_; (with_reducible refine (spec_l3Draw.calls kj4 g s0_0 s0_1 _ l1 a2 a3 t957 t960 w0 _ ?side1 ?side2 ?side3 A13.out).mono ?_); (case side1 => exact IsS148.q HI0.out); (case side2 => exact hsk HB.out (IsS148.ge HI0.out)); (case side3 => exact Kd.C_foot_step HR1.out (kq HK.out)); rintro e w21 ⟨v958, rfl, ho0, hi, hb, hk⟩; refine ⟨_, rfl, ?_⟩; have n0_ := am (Kd.R_lower ho0 (keep_size (w := w) (g := g) (row := none) (kq HK.out))); have n1_ := am (KeepBut.trans (kq HK.out) hk (.inl rfl)); have n2_ := am (hb); have n3_ := am (hi); clear HK HB HI0; revert n0_ n1_ n2_ n3_; intro HO959 HK HB HI0; (try clear hb); (try clear hb2); (try clear hgw); (try clear hk); (try clear hi); (try clear ho0)) | ((with_reducible refine gate_callee (f := 86) rfl ?_); refine goesL_ (some 32) rfl rfl Tryd.func86 (by kernel_rfl) rfl #[.pointer (some ⟨g, 0, none⟩), .int .i64 11] rfl el ?_; (with_reducible refine (spec_l1Chance.calls g s0_0 t960 11 true t962 w0 _ ?side1 ?side2 A14.out).mono ?_); (case side1 => exact IsS148.q HI0.out); (case side2 => exact hsk HB.out (IsS148.ge HI0.out)); rintro e w22 ⟨rfl, hi, hb, hk⟩; refine ⟨_, rfl, ?_⟩; have n0_ := am (Kd.R_mono (Kd.R_keep (IsS148.apart (show IsS148 w0 _ g s0_0 t960 from by exact IsS148.q HI0.out) (rq HO959.out) (by decide)) hk (fun _ h => h.2)) (fun _ h => h.1)); have n1_ := am (KeepBut.trans (kq HK.out) hk (.inl rfl)); have n2_ := am (hb); have n3_ := am (hi); clear HO959 HK HB HI0; revert n0_ n1_ n2_ n3_; intro HO959 HK HB HI0; (try clear hb); (try clear hb2); (try clear hgw); (try clear hk); (try clear hi)) | ((with_reducible refine gate_callee (f := 85) rfl ?_); refine goesL_ (some 36) rfl rfl Tryd.func85 (by kernel_rfl) rfl #[.pointer (some ⟨g, 0, none⟩), .int .i64 4] rfl el ?_; (with_reducible refine (spec_l1Next.calls g s0_0 t962 4 t963 t964 w0 _ ?side1 ?side2 A16.out).mono ?_); (case side1 => exact IsS148.q HI0.out); (case side2 => exact hsk HB.out (IsS148.ge HI0.out)); rintro e w23 ⟨rfl, hi, hb, hk⟩; refine ⟨_, rfl, ?_⟩; have n0_ := am (Kd.R_mono (Kd.R_keep (IsS148.apart (show IsS148 w0 _ g s0_0 t962 from by exact IsS148.q HI0.out) (rq HO959.out) (by decide)) hk (fun _ h => h.2)) (fun _ h => h.1)); have n1_ := am (KeepBut.trans (kq HK.out) hk (.inl rfl)); have n2_ := am (hb); have n3_ := am (hi); clear HO959 HK HB HI0; revert n0_ n1_ n2_ n3_; intro HO959 HK HB HI0; (try clear hb); (try clear hb2); (try clear hgw); (try clear hk); (try clear hi); obtain ⟨Ao24, co24, eo24⟩ := Kd.R_slice HO959.out; subst eo24; have q25 : ((ji18) : Int) ≤ ((t957.length : Int) : Int) := of_decide_eq_true (by first | (with_reducible assumption) | assumption); obtain ⟨i025, hi025, _, hsz25, _⟩ := info_parts info2; have hcut25 := cut_to (P := Tryd.prog) 52 2 .i64 Tryd.underlying52 hi025 Ao24 t957.length co24 (ji18) (of_decide_eq_true (by first | (with_reducible assumption) | assumption)) q25 (Kd.R_reads' HO959.out).2.1; have hr25 := Kd.R_take (m := ((ji18) : Int).toNat) HO959.out (by omega); have hy25 : y965.length = ((ji18) : Int).toNat := (by rw [Ny965.out, List.length_take]; omega); rw [← Ny965.out] at hr25; rw [← hy25] at hr25 hcut25; clear hy25 hi025 hsz25 HO959; have HO967 := am hr25; clear hr25; replace q25 := eq_true q25))
        go_ret
        exact ⟨_, by first | rfl | (simp [errW_none, errW_some] <;> rfl) | (simp only [← hji18]; first | rfl | (simp [errW_none, errW_some] <;> rfl)) | (simp [*, errW_none, errW_some] <;> rfl), by (with_reducible repeat (first | apply Kd.R_alloc | apply Kd.R_drewN | apply Kd.R_drew)); exact HO967.out, by exact IsS148.q HI0.out, by exact hsk HB.out (IsS148.ge HI0.out), by exact kq HK.out⟩
       ·rw [if_neg c20] at H
        exact absurd H (by simp)
      ·rw [if_neg c19] at H
       exact absurd H (by simp)
     ·rw [if_neg c17] at H
      have c17b0 : (t963 == 0) = false := beq_eq_false_iff_ne.mpr c17
      have c17b1 : (t963 != 0) = true := bne_iff_ne.mpr c17
      by_cases c26 : t963 = 1
      ·rw [if_pos c26] at H
       have c26b0 : (t963 == 1) = true := beq_iff_eq.mpr c26
       have c26b1 : (t963 != 1) = false := bne_eq_false_iff_eq.mpr c26
       clear c26
       by_cases c27 : t957.length < 17592186044416
       ·rw [if_pos c27] at H
        have LMc27 := am c27
        clear c27
        obtain ⟨y968, hy968⟩ : ∃ y_ : List Int, y_ = (t957 ++ [0]) := ⟨_, rfl⟩
        replace H : (some (y968, t964)) = some (r1, r2) := by first | (rw [hy968]; with_reducible exact H) | (have H2_ := (Option.bind_some _ _).symm.trans H; rw [hy968]; with_reducible exact H2_) | (have H2_ := (Option.bind_some _ _).symm.trans H; with_reducible exact H2_) | with_reducible exact H | (rw [hy968]; exact H) | exact H
        have Ny968 := am hy968
        clear hy968
        simp only [Option.some.injEq, Prod.mk.injEq] at H
        obtain ⟨rfl, rfl⟩ := H
        go_wp2_with (first | ((with_reducible refine gate_callee (f := 145) rfl ?_); refine goesL_ (some 30) rfl rfl Tryd.func145 (by kernel_rfl) rfl #[.pointer (some ⟨g, 0, none⟩), .pointer A1, .int .i64 a2, .int .i64 a3] rfl el ?_; (with_reducible refine (spec_l3Draw.calls kj4 g s0_0 s0_1 _ l1 a2 a3 t957 t960 w0 _ ?side1 ?side2 ?side3 A13.out).mono ?_); (case side1 => exact IsS148.q HI0.out); (case side2 => exact hsk HB.out (IsS148.ge HI0.out)); (case side3 => exact Kd.C_foot_step HR1.out (kq HK.out)); rintro e w28 ⟨v958, rfl, ho0, hi, hb, hk⟩; refine ⟨_, rfl, ?_⟩; have n0_ := am (Kd.R_lower ho0 (keep_size (w := w) (g := g) (row := none) (kq HK.out))); have n1_ := am (KeepBut.trans (kq HK.out) hk (.inl rfl)); have n2_ := am (hb); have n3_ := am (hi); clear HK HB HI0; revert n0_ n1_ n2_ n3_; intro HO959 HK HB HI0; (try clear hb); (try clear hb2); (try clear hgw); (try clear hk); (try clear hi); (try clear ho0)) | ((with_reducible refine gate_callee (f := 86) rfl ?_); refine goesL_ (some 32) rfl rfl Tryd.func86 (by kernel_rfl) rfl #[.pointer (some ⟨g, 0, none⟩), .int .i64 11] rfl el ?_; (with_reducible refine (spec_l1Chance.calls g s0_0 t960 11 true t962 w0 _ ?side1 ?side2 A14.out).mono ?_); (case side1 => exact IsS148.q HI0.out); (case side2 => exact hsk HB.out (IsS148.ge HI0.out)); rintro e w29 ⟨rfl, hi, hb, hk⟩; refine ⟨_, rfl, ?_⟩; have n0_ := am (Kd.R_mono (Kd.R_keep (IsS148.apart (show IsS148 w0 _ g s0_0 t960 from by exact IsS148.q HI0.out) (rq HO959.out) (by decide)) hk (fun _ h => h.2)) (fun _ h => h.1)); have n1_ := am (KeepBut.trans (kq HK.out) hk (.inl rfl)); have n2_ := am (hb); have n3_ := am (hi); clear HO959 HK HB HI0; revert n0_ n1_ n2_ n3_; intro HO959 HK HB HI0; (try clear hb); (try clear hb2); (try clear hgw); (try clear hk); (try clear hi)) | ((with_reducible refine gate_callee (f := 85) rfl ?_); refine goesL_ (some 36) rfl rfl Tryd.func85 (by kernel_rfl) rfl #[.pointer (some ⟨g, 0, none⟩), .int .i64 4] rfl el ?_; (with_reducible refine (spec_l1Next.calls g s0_0 t962 4 t963 t964 w0 _ ?side1 ?side2 A16.out).mono ?_); (case side1 => exact IsS148.q HI0.out); (case side2 => exact hsk HB.out (IsS148.ge HI0.out)); rintro e w30 ⟨rfl, hi, hb, hk⟩; refine ⟨_, rfl, ?_⟩; have n0_ := am (Kd.R_mono (Kd.R_keep (IsS148.apart (show IsS148 w0 _ g s0_0 t962 from by exact IsS148.q HI0.out) (rq HO959.out) (by decide)) hk (fun _ h => h.2)) (fun _ h => h.1)); have n1_ := am (KeepBut.trans (kq HK.out) hk (.inl rfl)); have n2_ := am (hb); have n3_ := am (hi); clear HO959 HK HB HI0; revert n0_ n1_ n2_ n3_; intro HO959 HK HB HI0; (try clear hb); (try clear hb2); (try clear hgw); (try clear hk); (try clear hi)) | ((with_reducible refine gate_builtin (b := .append) (xs := #[.tmp 46, .tmp 47]) rfl ?_); at_builtin; refine Kd.R_append (Kd.int .i64) w.heap.size rfl (.tmp 46) (.tmp 47) 52 2 (.int .i64 0) 8 rfl Tryd.underlying52 info2 rfl (by decide) (by omega) v958 t957 0 [.int .i64 0] (fun _ => True) (fun _ => False) rfl rfl ?aP (fun _ hk => hk.elim) ?aF ?aO (Below.refl _ _) ?aS ?aL ?_; (case aP => exact rfl); (case aF => exact (fun _ _ => trivial)); (case aO => exact (rq HO959.out)); (case aS => exact (keep_size (w := w) (g := g) (row := none) (kq HK.out))); (case aL => have := LMc27.out; omega); intro v969 w31 ho hb hg hat; rw [← Ny968.out] at ho; have n0_ := am (IsS148.grown (IsS148.q HI0.out) hg (IsS148.own_ne HI0.out HO959.out (by decide))); have n1_ := am (below_weaken (hsk HB.out (IsS148.ge HI0.out)) HL.out hb); have n2_ := am (KeepBut.trans (kq HK.out) (KeepBut.of_grown hg g) (Kd.R_base2 HO959.out)); have n3_ := am (ho); clear HI0 HB HK HO959; revert n0_ n1_ n2_ n3_; intro HI0 HB HK HO970; clear ho hb hg hat))
        go_ret
        exact ⟨_, by first | rfl | (simp [errW_none, errW_some] <;> rfl) | (simp [*, errW_none, errW_some] <;> rfl), by (with_reducible repeat (first | apply Kd.R_alloc | apply Kd.R_drewN | apply Kd.R_drew)); exact HO970.out, by exact IsS148.q HI0.out, by exact hsk HB.out (IsS148.ge HI0.out), by exact kq HK.out⟩
       ·rw [if_neg c27] at H
        exact absurd H (by simp)
      ·rw [if_neg c26] at H
       have c26b0 : (t963 == 1) = false := beq_eq_false_iff_ne.mpr c26
       have c26b1 : (t963 != 1) = true := bne_iff_ne.mpr c26
       by_cases c32 : t963 = 2
       ·rw [if_pos c32] at H
        have c32b0 : (t963 == 2) = true := beq_iff_eq.mpr c32
        have c32b1 : (t963 != 2) = false := bne_eq_false_iff_eq.mpr c32
        clear c32
        replace H := Option.bind_eq_some_iff.mp H
        obtain ⟨⟨t971, t972⟩, A330, H⟩ := H
        replace H : (if 0 < (l1.length : Int) then ((spec_l1Pick.f s0_0 t972 (([(((rd_T42 l1 0).f0).length : Int), (-13), (-12)] : List Int))).bind fun bt978 => (if 0 ≤ t971 then (if t971 < (t957.length : Int) then (some ((t957.set (t971 : Int).toNat bt978.1), bt978.2)) else (none)) else (none))) else (none)) = some (r1, r2) := H
        have A33 := am A330
        clear A330
        by_cases c34 : 0 < (l1.length : Int)
        ·rw [if_pos c34] at H
         have c34b0 : decide (0 < (l1.length : Int)) = true := decide_eq_true c34
         have c34b1 : decide (0 < l1.length) = true := decide_eq_true (by omega)
         clear c34
         obtain ⟨y975, hy975⟩ : ∃ y_ : List Int, y_ = (([(((rd_T42 l1 0).f0).length : Int), (-13), (-12)] : List Int)) := ⟨_, rfl⟩
         replace H : ((spec_l1Pick.f s0_0 t972 y975).bind fun bt978 => (if 0 ≤ t971 then (if t971 < (t957.length : Int) then (some ((t957.set (t971 : Int).toNat bt978.1), bt978.2)) else (none)) else (none))) = some (r1, r2) := by first | (rw [hy975]; with_reducible exact H) | (have H2_ := (Option.bind_some _ _).symm.trans H; rw [hy975]; with_reducible exact H2_) | (have H2_ := (Option.bind_some _ _).symm.trans H; with_reducible exact H2_) | with_reducible exact H | (rw [hy975]; exact H) | exact H
         have Ny975 := am hy975
         clear hy975
         replace H := Option.bind_eq_some_iff.mp H
         obtain ⟨⟨t978, t979⟩, A350, H⟩ := H
         replace H : (if 0 ≤ t971 then (if t971 < (t957.length : Int) then (some ((t957.set (t971 : Int).toNat t978), t979)) else (none)) else (none)) = some (r1, r2) := H
         have A35 := am A350
         clear A350
         by_cases c36 : 0 ≤ t971
         ·rw [if_pos c36] at H
          have c36b0 : decide (0 ≤ t971) = true := decide_eq_true c36
          clear c36
          by_cases c37 : t971 < (t957.length : Int)
          ·rw [if_pos c37] at H
           have c37b0 : decide (t971 < (t957.length : Int)) = true := decide_eq_true c37
           clear c37
           obtain ⟨y980, hy980⟩ : ∃ y_ : List Int, y_ = (t957.set (t971 : Int).toNat t978) := ⟨_, rfl⟩
           replace H : (some (y980, t979)) = some (r1, r2) := by first | (rw [hy980]; with_reducible exact H) | (have H2_ := (Option.bind_some _ _).symm.trans H; rw [hy980]; with_reducible exact H2_) | (have H2_ := (Option.bind_some _ _).symm.trans H; with_reducible exact H2_) | with_reducible exact H | (rw [hy980]; exact H) | exact H
           have Ny980 := am hy980
           clear hy980
           simp only [Option.some.injEq, Prod.mk.injEq] at H
           obtain ⟨rfl, rfl⟩ := H
           try go_wp2_with (first | ((with_reducible refine gate_callee (f := 145) rfl ?_); refine goesL_ (some 30) rfl rfl Tryd.func145 (by kernel_rfl) rfl #[.pointer (some ⟨g, 0, none⟩), .pointer A1, .int .i64 a2, .int .i64 a3] rfl el ?_; (with_reducible refine (spec_l3Draw.calls kj4 g s0_0 s0_1 _ l1 a2 a3 t957 t960 w0 _ ?side1 ?side2 ?side3 A13.out).mono ?_); (case side1 => exact IsS148.q HI0.out); (case side2 => exact hsk HB.out (IsS148.ge HI0.out)); (case side3 => exact Kd.C_foot_step HR1.out (kq HK.out)); rintro e w39 ⟨v958, rfl, ho0, hi, hb, hk⟩; refine ⟨_, rfl, ?_⟩; have n0_ := am (Kd.R_lower ho0 (keep_size (w := w) (g := g) (row := none) (kq HK.out))); have n1_ := am (KeepBut.trans (kq HK.out) hk (.inl rfl)); have n2_ := am (hb); have n3_ := am (hi); clear HK HB HI0; revert n0_ n1_ n2_ n3_; intro HO959 HK HB HI0; (try clear hb); (try clear hb2); (try clear hgw); (try clear hk); (try clear hi); (try clear ho0)) | ((with_reducible refine gate_callee (f := 86) rfl ?_); refine goesL_ (some 32) rfl rfl Tryd.func86 (by kernel_rfl) rfl #[.pointer (some ⟨g, 0, none⟩), .int .i64 11] rfl el ?_; (with_reducible refine (spec_l1Chance.calls g s0_0 t960 11 true t962 w0 _ ?side1 ?side2 A14.out).mono ?_); (case side1 => exact IsS148.q HI0.out); (case side2 => exact hsk HB.out (IsS148.ge HI0.out)); rintro e w40 ⟨rfl, hi, hb, hk⟩; refine ⟨_, rfl, ?_⟩; have n0_ := am (Kd.R_mono (Kd.R_keep (IsS148.apart (show IsS148 w0 _ g s0_0 t960 from by exact IsS148.q HI0.out) (rq HO959.out) (by decide)) hk (fun _ h => h.2)) (fun _ h => h.1)); have n1_ := am (KeepBut.trans (kq HK.out) hk (.inl rfl)); have n2_ := am (hb); have n3_ := am (hi); clear HO959 HK HB HI0; revert n0_ n1_ n2_ n3_; intro HO959 HK HB HI0; (try clear hb); (try clear hb2); (try clear hgw); (try clear hk); (try clear hi)) | ((with_reducible refine gate_callee (f := 85) rfl ?_); refine goesL_ (some 36) rfl rfl Tryd.func85 (by kernel_rfl) rfl #[.pointer (some ⟨g, 0, none⟩), .int .i64 4] rfl el ?_; (with_reducible refine (spec_l1Next.calls g s0_0 t962 4 t963 t964 w0 _ ?side1 ?side2 A16.out).mono ?_); (case side1 => exact IsS148.q HI0.out); (case side2 => exact hsk HB.out (IsS148.ge HI0.out)); rintro e w41 ⟨rfl, hi, hb, hk⟩; refine ⟨_, rfl, ?_⟩; have n0_ := am (Kd.R_mono (Kd.R_keep (IsS148.apart (show IsS148 w0 _ g s0_0 t962 from by exact IsS148.q HI0.out) (rq HO959.out) (by decide)) hk (fun _ h => h.2)) (fun _ h => h.1)); have n1_ := am (KeepBut.trans (kq HK.out) hk (.inl rfl)); have n2_ := am (hb); have n3_ := am (hi); clear HO959 HK HB HI0; revert n0_ n1_ n2_ n3_; intro HO959 HK HB HI0; (try clear hb); (try clear hb2); (try clear hgw); (try clear hk); (try clear hi)))
           have n0_ := am (Kd.R_drew HO959.out)
           have n1_ := am (IsS148.drew HI0.out)
           have n2_ := am (keep_drew HK.out)
           have n3_ := am (below_drew1 HB.out)
           clear HO959
           clear HI0
           clear HK
           clear HB
           have HO959 := n0_
           have HI0 := n1_
           have HK := n2_
           have HB := n3_
           clear n0_ n1_ n2_ n3_
           obtain ⟨Ao43, co43, eo43⟩ := Kd.R_slice HO959.out
           (first | subst eo43 | (injection eo43 with f1_ f2_ f3_; have f4_ := f1_.symm; have f5_ := f3_.symm; clear f1_ f2_ f3_; subst f4_; subst f5_))
           have p973 : 0 ≤ (0 : Int) := (by omega)
           have q973 : 0 < (l1.length : Int) := of_decide_eq_true (by first | (with_reducible assumption) | assumption)
           obtain ⟨ad973, A973_0, c973_0, e973, hx973_0, hl973_0, hi973_0⟩ := at_T42 (Kd.C_foot_now HR1.out HK.out) 0 p973 q973
           have hw973_0 := hx973_0
           (try rw [show ((0 : Int)).toNat = 0 from rfl] at hw973_0)
           (try rw [show 0 * 1 = 0 from rfl] at hw973_0)
           (try rw [Addr.add_zero'] at hw973_0)
           cases e973
           have hne973_0 := (show (ad973 : Addr).block ≠ g from by first | (rw [add_block]; exact Kd.foot_ne HR1.out (by omega) (by decide)) | (show (Addr.add _ _).block ≠ _; rw [add_block]; exact Kd.foot_ne HR1.out (by omega) (by decide)) | exact Kd.foot_ne HR1.out (by omega) (by decide) | (dsimp only; exact Kd.foot_ne HR1.out (by omega) (by decide)))
           have hlt973_0 := (Kd.foot_lt HR1.out (by omega) (by decide))
           have qi973 : (0 < l1.length) = True := eq_true (by omega)
           (try rw [show ((0 : Int)).toNat = 0 from rfl] at hx973_0)
           (try rw [Addr.add_zero'] at hx973_0)
           have HR973_0 := am hi973_0
           have HC973_0 := am hl973_0
           clear hi973_0 hl973_0
           replace p973 := eq_true p973
           replace q973 := eq_true q973
           have p974 : 0 ≤ (0 : Int) := (by omega)
           have q974 : 0 < (l1.length : Int) := of_decide_eq_true (by first | (with_reducible assumption) | assumption)
           obtain ⟨ad974, A974_0, c974_0, e974, hx974_0, hl974_0, hi974_0⟩ := at_T42 (Kd.C_foot_now HR1.out HK.out) 0 p974 q974
           have hw974_0 := hx974_0
           (try rw [show ((0 : Int)).toNat = 0 from rfl] at hw974_0)
           (try rw [show 0 * 1 = 0 from rfl] at hw974_0)
           (try rw [Addr.add_zero'] at hw974_0)
           obtain rfl : ad973 = ad974 := (by injection e974)
           have hne974_0 := (show (ad973 : Addr).block ≠ g from by first | (rw [add_block]; exact Kd.foot_ne HR1.out (by omega) (by decide)) | (show (Addr.add _ _).block ≠ _; rw [add_block]; exact Kd.foot_ne HR1.out (by omega) (by decide)) | exact Kd.foot_ne HR1.out (by omega) (by decide) | (dsimp only; exact Kd.foot_ne HR1.out (by omega) (by decide)))
           have hlt974_0 := (Kd.foot_lt HR1.out (by omega) (by decide))
           have qi974 : (0 < l1.length) = True := eq_true (by omega)
           (try rw [show ((0 : Int)).toNat = 0 from rfl] at hx974_0)
           (try rw [Addr.add_zero'] at hx974_0)
           have HR974_0 := am hi974_0
           have HC974_0 := am hl974_0
           clear hi974_0 hl974_0
           replace p974 := eq_true p974
           replace q974 := eq_true q974
           have ea_ := Option.some.inj (hx973_0.symm.trans hx974_0)
           injection ea_ with ea_ en_ ec_
           subst ea_
           subst ec_
           clear en_
           refine start_ (n := 15) (S := fun w' => w'.cell? ad973 = some (.slice A973_0 ((rd_T42 l1 0).f0).length c973_0) ∧ w'.cell? ad973 = some (.slice A973_0 ((rd_T42 l1 0).f0).length c973_0)) (ds := [14]) #[false, false, false, false, false, false, false, false, false, false, false, false, false, false, false] (by kernel_rfl) rfl rfl ⟨hx973_0, hx974_0⟩ (fun hHeld => ?_); refine with_tabW spec_l3BentTerm.tab12 spec_l3BentTerm.bits12 (fun HT_ HW_ => ?_)
           generalize w41.drew = w42 at HO959 HI0 HK HB HR973_0 HR974_0 hx973_0 hx974_0 hHeld ⊢
           refine pure_ (i := 0) (N := some 51) (v := ?_) (a' := ?_) #[true, false, false, false, false, false, false, false, false, false, false, false, false, false, false] rfl rfl (any_of HT_.out (by kernel_rfl)) (fun _ _ _ h => h) (Or.inl ⟨by rfl, ?_⟩) ?_ ?_
           rotate_left
           ·intro w'
            go_simp
            with_reducible rfl
           rotate_left
           ·simp only [Act.put, lsp, i64_w, i32_w]
            rfl
           refine pure_ (i := 1) (N := some 52) (v := ?_) (a' := ?_) #[true, true, false, false, false, false, false, false, false, false, false, false, false, false, false] rfl rfl (any_of HT_.out (by kernel_rfl)) (fun _ _ _ h => h) (Or.inl ⟨by rfl, ?_⟩) ?_ ?_
           rotate_left
           ·intro w'
            go_simp
            with_reducible rfl
           rotate_left
           ·simp only [Act.put, lsp, i64_w, i32_w]
            rfl
           refine pure_ (i := 2) (N := some 53) (v := ?_) (a' := ?_) #[true, true, true, false, false, false, false, false, false, false, false, false, false, false, false] rfl rfl (any_of HT_.out (by kernel_rfl)) (fun _ _ _ h => h) (Or.inl ⟨by rfl, ?_⟩) ?_ ?_
           rotate_left
           ·intro w'
            go_simp
            with_reducible rfl
           rotate_left
           ·simp only [Act.put, lsp, i64_w, i32_w]
            rfl
           refine pure_ (i := 3) (N := some 54) (v := ?_) (a' := ?_) #[true, true, true, true, false, false, false, false, false, false, false, false, false, false, false] rfl rfl (any_of HT_.out (by kernel_rfl)) (fun _ _ _ h => h) (Or.inl ⟨by rfl, ?_⟩) ?_ ?_
           rotate_left
           ·intro w'
            go_simp
            with_reducible rfl
           rotate_left
           ·simp only [Act.put, lsp, i64_w, i32_w]
            rfl
           refine pure_ (i := 5) (N := some 56) (v := ?_) (a' := ?_) #[true, true, true, true, false, true, false, false, false, false, false, false, false, false, false] rfl rfl (any_of HT_.out (by kernel_rfl)) (fun _ _ _ h => h) (Or.inl ⟨by rfl, ?_⟩) ?_ ?_
           rotate_left
           ·intro w'
            go_simp
            with_reducible rfl
           rotate_left
           ·simp only [Act.put, lsp, i64_w, i32_w]
            rfl
           refine pure_ (i := 6) (N := some 57) (v := ?_) (a' := ?_) #[true, true, true, true, false, true, true, false, false, false, false, false, false, false, false] rfl rfl (any_of HT_.out (by kernel_rfl)) (fun _ _ _ h => h) (Or.inl ⟨by rfl, ?_⟩) ?_ ?_
           rotate_left
           ·intro w'
            go_simp
            with_reducible rfl
           rotate_left
           ·simp only [Act.put, lsp, i64_w, i32_w]
            rfl
           refine pure_ (i := 7) (N := some 58) (v := ?_) (a' := ?_) #[true, true, true, true, false, true, true, true, false, false, false, false, false, false, false] rfl rfl (any_of HT_.out (by kernel_rfl)) (fun _ _ _ h => h) (Or.inl ⟨by rfl, ?_⟩) ?_ ?_
           rotate_left
           ·intro w'
            go_simp
            with_reducible rfl
           rotate_left
           ·simp only [Act.put, lsp, i64_w, i32_w]
            rfl
           refine pure_ (i := 8) (N := some 59) (v := ?_) (a' := ?_) #[true, true, true, true, false, true, true, true, true, false, false, false, false, false, false] rfl rfl (any_of HT_.out (by kernel_rfl)) (fun _ _ _ h => h) (Or.inl ⟨by rfl, ?_⟩) ?_ ?_
           rotate_left
           ·intro w'
            go_simp
            with_reducible rfl
           rotate_left
           ·simp only [Act.put, lsp, i64_w, i32_w]
            rfl
           refine take_ (i := 9) (N := some 60) (v := ?_) (a' := ?_) #[true, true, true, true, false, true, true, true, true, true, false, false, false, false, false] rfl rfl (take_ofW HT_.out HW_.out (by kernel_rfl)) (fun _ _ _ h => h) (Or.inl ⟨by rfl, ?_⟩) hHeld ?_ ?_
           rotate_left
           ·rintro w' ⟨s0, s1⟩
            go_simp
            with_reducible rfl
           rotate_left
           ·simp only [Act.put, lsp, i64_w, i32_w]
            rfl
           refine pure_ (i := 10) (N := some 61) (v := ?_) (a' := ?_) #[true, true, true, true, false, true, true, true, true, true, true, false, false, false, false] rfl rfl (any_of HT_.out (by kernel_rfl)) (fun _ _ _ h => h) (Or.inl ⟨by rfl, ?_⟩) ?_ ?_
           rotate_left
           ·intro w'
            go_simp
            with_reducible rfl
           rotate_left
           ·simp only [Act.put, lsp, i64_w, i32_w]
            rfl
           refine join_ (σ := Value) 3 #[true, true, true, true, true, true, true, true, true, true, true, true, false, false, false] (fun s_ => [(55, .int .i64 t971), (62, s_)]) (fun s_ w' => (w'.cell? ad973 = some (.slice A973_0 ((rd_T42 l1 0).f0).length c973_0) ∧ w'.cell? ad973 = some (.slice A973_0 ((rd_T42 l1 0).f0).length c973_0)) ∧ (Kd.R (Kd.int .i64) 2 w' w.heap.size (fun k_ => some k_ ≠ (s_ : Value).ownBlock) (.slice Ao43 t957.length co43) t957) ∧ (Kd.R (Kd.int .i64) 2 w' w.heap.size (fun k_ => some k_ ≠ (.slice Ao43 t957.length co43 : Value).ownBlock) s_ y975) ∧ (IsS148 w0 w' g s0_0 t972) ∧ (KeepBut w w' g none) ∧ (Below w0.heap.size w0 w')) ?_ ?_
           rotate_left
           ·intro hCont
            refine two_ (i := 4) (j := 11) (Ni := some 55) (Nj := some 62) #[true, true, true, true, true, true, true, true, true, true, true, false, false, false, false] #[true, true, true, true, false, true, true, true, true, true, true, true, false, false, false] rfl rfl rfl rfl (two_of HT_.out (by kernel_rfl)) (by decide) (by decide) (fun K hK => ?_) (fun K hK => ?_)
            ·skip
             refine goes_ Tryd.func85 (by kernel_rfl) rfl #[.pointer (some ⟨g, 0, none⟩), .int .i64 (t957.length : Int)] (by rfl) rfl rfl el ?_
             with_reducible refine (spec_l1Next.calls g s0_0 t964 (t957.length : Int) t971 t972 w0 _ ?side1 ?side2 A33.out).mono ?_
             (case side1 => exact IsS148.q HI0.out)
             (case side2 => exact hsk HB.out (IsS148.ge HI0.out))
             rintro e w44 ⟨rfl, hi, hb, hk⟩
             have HS0_ := keep_cell hk (hHeld.1) (by first | (rw [add_block]; exact hne973_0) | (show (Addr.add _ _).block ≠ _; rw [add_block]; exact hne973_0) | exact hne973_0)
             have HS1_ := keep_cell hk (hHeld.2) (by first | (rw [add_block]; exact hne974_0) | (show (Addr.add _ _).block ≠ _; rw [add_block]; exact hne974_0) | exact hne974_0)
             refine ⟨_, rfl, ?_⟩
             have n0_ := am (Kd.R_mono (Kd.R_keep (IsS148.apart (show IsS148 w0 _ g s0_0 t964 from by exact IsS148.q HI0.out) (rq HO959.out) (by decide)) hk (fun _ h => h.2)) (fun _ h => h.1))
             have n1_ := am (KeepBut.trans (kq HK.out) hk (.inl rfl))
             have n2_ := am (hb)
             have n3_ := am (hi)
             clear HO959
             clear HK
             clear HB
             clear HI0
             have HO959 := n0_
             have HK := n1_
             have HB := n2_
             have HI0 := n3_
             clear n0_ n1_ n2_ n3_
             (try clear hb)
             (try clear hb2)
             (try clear hgw)
             (try clear hk)
             (try clear hi)
             refine hK.out _ _ ⟨HS0_, HS1_⟩ (fun hHeld => ?_)
             clear hK K
             refine norm_ (a' := ?_) ?_ ?_
             rotate_left
             ·show Act.put _ (some 55) _ = _
              simp only [Act.put, lsp, i64_w, i32_w]
              rfl
             refine one_ (i := 11) (N := some 62) #[true, true, true, true, true, true, true, true, true, true, true, true, false, false, false] rfl rfl (one_of HT_.out (by kernel_rfl)) (by decide) (fun K hK => ?_)
             refine Kd.R_lit_step (Kd.int .i64) _ 2 ?hg (N := 62) ?hd (xs := ([(((rd_T42 l1 0).f0).length : Int), (-13), (-12)] : List Int)) (inner := [.int .i64 (((rd_T42 l1 0).f0).length : Int), .int .i64 (-13), .int .i64 (-12)]) (ok := fun _ => True) (okp := fun _ => True) ?hr ?hp (fun _ hk => hk) trivial (Below.refl _ _) (Nat.le_refl _) (by simp) ?_; (case hd => rfl); (case hg => rfl); (case hr => first | (go_simp; done) | (go_simp; rfl)); (case hp => exact (Reps.one (show Kd.M (Kd.int .i64) _ _ _ (((rd_T42 l1 0).f0).length : Int) [.int .i64 (((rd_T42 l1 0).f0).length : Int)] from rfl) (Reps.one (show Kd.M (Kd.int .i64) _ _ _ (-13) [.int .i64 (-13)] from rfl) (Reps.one (show Kd.M (Kd.int .i64) _ _ _ (-12) [.int .i64 (-12)] from rfl) (Reps.none _ _)))))
             intro v976 w45 ho46 hb hg_ hnew_
             have HS0_ := (hb.cell (World.block_lt_of_cell? _ _ (hHeld.1))).trans (hHeld.1)
             have HS1_ := (hb.cell (World.block_lt_of_cell? _ _ (hHeld.2))).trans (hHeld.2)
             clear hg_ hnew_
             (first | rw [← Ny975.out] at ho46 | (simp only [Int.reduceToNat] at ho46; rw [← Ny975.out] at ho46))
             have n0_ := am (Kd.R_elder' (rq HO959.out) (Kd.R_base ho46) hb)
             have n1_ := am (Kd.R_lower (Kd.R_new' ho46 (Kd.R_lt (rq HO959.out))) (keep_size (w := w) (g := g) (row := none) (kq HK.out)))
             have n2_ := am (IsS148.below (IsS148.q HI0.out) hb)
             have n3_ := am (KeepBut.trans (kq HK.out) (KeepBut.of_below hb g none) (.inl rfl))
             have n4_ := am (below_step (hsk HB.out (IsS148.ge HI0.out)) hb)
             clear HO959
             clear HI0
             clear HK
             clear HB
             have HO959 := n0_
             have HO977 := n1_
             have HI0 := n2_
             have HK := n3_
             have HB := n4_
             clear n0_ n1_ n2_ n3_ n4_
             clear hb ho46
             refine hK.out _ _ ⟨HS0_, HS1_⟩ (fun hHeld => ?_)
             clear hK K
             refine norm_ (a' := ?_) ?_ ?_
             rotate_left
             ·show Act.put _ (some 62) _ = _
              simp only [Act.put, lsp, i64_w, i32_w]
              rfl
             exact norm_ (by simp only [putAll, Act.put, lsp]) (hCont (v976) _ ⟨hHeld, (by (with_reducible repeat (first | apply Kd.R_alloc | apply Kd.R_drewN | apply Kd.R_drew)); exact Kd.R_mono HO959.out (fun _ hk => hk.2)), (by (with_reducible repeat (first | apply Kd.R_alloc | apply Kd.R_drewN | apply Kd.R_drew)); exact Kd.R_mono HO977.out (fun _ hk => hk.2)), (IsS148.q HI0.out), (kq HK.out), (hsk HB.out (IsS148.ge HI0.out))⟩)
            ·skip
             refine Kd.R_lit_step (Kd.int .i64) _ 2 ?hg (N := 62) ?hd (xs := ([(((rd_T42 l1 0).f0).length : Int), (-13), (-12)] : List Int)) (inner := [.int .i64 (((rd_T42 l1 0).f0).length : Int), .int .i64 (-13), .int .i64 (-12)]) (ok := fun _ => True) (okp := fun _ => True) ?hr ?hp (fun _ hk => hk) trivial (Below.refl _ _) (Nat.le_refl _) (by simp) ?_; (case hd => rfl); (case hg => rfl); (case hr => first | (go_simp; done) | (go_simp; rfl)); (case hp => exact (Reps.one (show Kd.M (Kd.int .i64) _ _ _ (((rd_T42 l1 0).f0).length : Int) [.int .i64 (((rd_T42 l1 0).f0).length : Int)] from rfl) (Reps.one (show Kd.M (Kd.int .i64) _ _ _ (-13) [.int .i64 (-13)] from rfl) (Reps.one (show Kd.M (Kd.int .i64) _ _ _ (-12) [.int .i64 (-12)] from rfl) (Reps.none _ _)))))
             intro v976 w44 ho45 hb hg_ hnew_
             have HS0_ := (hb.cell (World.block_lt_of_cell? _ _ (hHeld.1))).trans (hHeld.1)
             have HS1_ := (hb.cell (World.block_lt_of_cell? _ _ (hHeld.2))).trans (hHeld.2)
             clear hg_ hnew_
             (first | rw [← Ny975.out] at ho45 | (simp only [Int.reduceToNat] at ho45; rw [← Ny975.out] at ho45))
             have n0_ := am (Kd.R_elder' (rq HO959.out) (Kd.R_base ho45) hb)
             have n1_ := am (Kd.R_lower (Kd.R_new' ho45 (Kd.R_lt (rq HO959.out))) (keep_size (w := w) (g := g) (row := none) (kq HK.out)))
             have n2_ := am (IsS148.below (IsS148.q HI0.out) hb)
             have n3_ := am (Kd.C_below (cq HR973_0.out) hb)
             have n4_ := am (Kd.C_below (cq HR974_0.out) hb)
             have n5_ := am (KeepBut.trans (kq HK.out) (KeepBut.of_below hb g none) (.inl rfl))
             have n6_ := am (below_step (hsk HB.out (IsS148.ge HI0.out)) hb)
             clear HO959
             clear HI0
             clear HR973_0
             clear HR974_0
             clear HK
             clear HB
             have HO959 := n0_
             have HO977 := n1_
             have HI0 := n2_
             have HR973_0 := n3_
             have HR974_0 := n4_
             have HK := n5_
             have HB := n6_
             clear n0_ n1_ n2_ n3_ n4_ n5_ n6_
             clear hb ho45
             refine hK.out _ _ ⟨HS0_, HS1_⟩ (fun hHeld => ?_)
             clear hK K
             refine norm_ (a' := ?_) ?_ ?_
             rotate_left
             ·show Act.put _ (some 62) _ = _
              simp only [Act.put, lsp, i64_w, i32_w]
              rfl
             refine one_ (i := 4) (N := some 55) #[true, true, true, true, true, true, true, true, true, true, true, true, false, false, false] rfl rfl (one_of HT_.out (by kernel_rfl)) (by decide) (fun K hK => ?_)
             refine goes_ Tryd.func85 (by kernel_rfl) rfl #[.pointer (some ⟨g, 0, none⟩), .int .i64 (t957.length : Int)] (by rfl) rfl rfl el ?_
             with_reducible refine (spec_l1Next.calls g s0_0 t964 (t957.length : Int) t971 t972 w0 _ ?side1 ?side2 A33.out).mono ?_
             (case side1 => exact IsS148.q HI0.out)
             (case side2 => exact hsk HB.out (IsS148.ge HI0.out))
             rintro e w46 ⟨rfl, hi, hb, hk⟩
             have HS0_ := keep_cell hk (hHeld.1) (by first | (rw [add_block]; exact hne973_0) | (show (Addr.add _ _).block ≠ _; rw [add_block]; exact hne973_0) | exact hne973_0)
             have HS1_ := keep_cell hk (hHeld.2) (by first | (rw [add_block]; exact hne974_0) | (show (Addr.add _ _).block ≠ _; rw [add_block]; exact hne974_0) | exact hne974_0)
             refine ⟨_, rfl, ?_⟩
             have n0_ := am (Kd.R_mono (Kd.R_keep (IsS148.apart (show IsS148 w0 _ g s0_0 t964 from by exact IsS148.q HI0.out) (rq HO959.out) (by decide)) hk (fun _ h => h.2)) (fun _ h => h.1))
             have n1_ := am (Kd.R_mono (Kd.R_keep (IsS148.apart (show IsS148 w0 _ g s0_0 t964 from by exact IsS148.q HI0.out) (rq HO977.out) (by decide)) hk (fun _ h => h.2)) (fun _ h => h.1))
             have n2_ := am (KeepBut.trans (kq HK.out) hk (.inl rfl))
             have n3_ := am (hb)
             have n4_ := am (hi)
             clear HO959
             clear HO977
             clear HK
             clear HB
             clear HI0
             have HO959 := n0_
             have HO977 := n1_
             have HK := n2_
             have HB := n3_
             have HI0 := n4_
             clear n0_ n1_ n2_ n3_ n4_
             (try clear hb)
             (try clear hb2)
             (try clear hgw)
             (try clear hk)
             (try clear hi)
             refine hK.out _ _ ⟨HS0_, HS1_⟩ (fun hHeld => ?_)
             clear hK K
             refine norm_ (a' := ?_) ?_ ?_
             rotate_left
             ·show Act.put _ (some 55) _ = _
              simp only [Act.put, lsp, i64_w, i32_w]
              rfl
             exact norm_ (by simp only [putAll, Act.put, lsp]) (hCont (v976) _ ⟨hHeld, (by (with_reducible repeat (first | apply Kd.R_alloc | apply Kd.R_drewN | apply Kd.R_drew)); exact Kd.R_mono HO959.out (fun _ hk => hk.2)), (by (with_reducible repeat (first | apply Kd.R_alloc | apply Kd.R_drewN | apply Kd.R_drew)); exact Kd.R_mono HO977.out (fun _ hk => hk.2)), (IsS148.q HI0.out), (kq HK.out), (hsk HB.out (IsS148.ge HI0.out))⟩)
           rintro v976 w47 ⟨hS_, h0_, h1_, h2_, h3_, h4_⟩
           have n0_ : Aside0 (Kd.R (Kd.int .i64) 2 w47 w.heap.size (fun k_ => some k_ ≠ (v976 : Value).ownBlock) (.slice Ao43 t957.length co43) t957) := ⟨h0_⟩
           have n1_ : Aside0 (Kd.R (Kd.int .i64) 2 w47 w.heap.size (fun k_ => some k_ ≠ (.slice Ao43 t957.length co43 : Value).ownBlock) v976 y975) := ⟨h1_⟩
           have n2_ : Aside0 (IsS148 w0 w47 g s0_0 t972) := ⟨h2_⟩
           have n3_ : Aside0 (KeepBut w w47 g none) := ⟨h3_⟩
           have n4_ : Aside0 (Below w0.heap.size w0 w47) := ⟨h4_⟩
           clear HO959
           clear HI0
           clear HK
           clear HB
           clear h0_ h1_ h2_ h3_ h4_
           have HO959 := n0_
           have HO977 := n1_
           have HI0 := n2_
           have HK := n3_
           have HB := n4_
           clear n0_ n1_ n2_ n3_ n4_
           have hHeld : w47.cell? ad973 = some (.slice A973_0 ((rd_T42 l1 0).f0).length c973_0) ∧ w47.cell? ad973 = some (.slice A973_0 ((rd_T42 l1 0).f0).length c973_0) := hS_
           obtain ⟨Ao48, co48, eo48⟩ := Kd.R_slice HO977.out
           (first | subst eo48 | (injection eo48 with f1_ f2_ f3_; have f4_ := f1_.symm; have f5_ := f3_.symm; clear f1_ f2_ f3_; subst f4_; subst f5_))
           refine norm_ (a' := ?_) ?_ ?_
           rotate_left
           ·simp only [putAll, Act.put, lsp]
            rfl
           refine one_ (i := 12) (N := some 63) #[true, true, true, true, true, true, true, true, true, true, true, true, true, false, false] rfl rfl (one_of HT_.out (by kernel_rfl)) (by decide) (fun K hK => ?_)
           refine goes_ Tryd.func84 (by kernel_rfl) rfl #[.pointer (some ⟨g, 0, none⟩), .slice Ao48 y975.length co48] (by rfl) rfl rfl el ?_
           with_reducible refine (spec_l1Pick.calls g s0_0 t972 _ _ y975 t978 t979 w0 _ ?side1 ?side2 ?side3 ?side4 ?side5 A35.out).mono ?_
           (case side1 => exact IsS148.q HI0.out)
           (case side2 => exact hsk HB.out (IsS148.ge HI0.out))
           (case side3 => repeat (first | exact (Kd.R_reads' HO977.out).2.2 | (with_reducible refine Kd.C_alloc ?_ _) | (with_reducible refine Kd.C_drewN ?_ _) | (with_reducible refine Kd.C_drew ?_)))
           (case side4 => exact (Kd.R_reads' HO977.out).2.1)
           (case side5 => exact far_slice (IsS148.own_ne HI0.out HO977.out (by decide)))
           rintro e w49 ⟨rfl, hi, hb, hk⟩
           have HS0_ := keep_cell hk (hHeld.1) (by first | (rw [add_block]; exact hne973_0) | (show (Addr.add _ _).block ≠ _; rw [add_block]; exact hne973_0) | exact hne973_0)
           have HS1_ := keep_cell hk (hHeld.2) (by first | (rw [add_block]; exact hne974_0) | (show (Addr.add _ _).block ≠ _; rw [add_block]; exact hne974_0) | exact hne974_0)
           refine ⟨_, rfl, ?_⟩
           have n0_ := am (Kd.R_mono (Kd.R_keep (IsS148.apart (show IsS148 w0 _ g s0_0 t972 from by exact IsS148.q HI0.out) (rq HO959.out) (by decide)) hk (fun _ h => h.2)) (fun _ h => h.1))
           have n1_ := am (Kd.R_mono (Kd.R_keep (IsS148.apart (show IsS148 w0 _ g s0_0 t972 from by exact IsS148.q HI0.out) (rq HO977.out) (by decide)) hk (fun _ h => h.2)) (fun _ h => h.1))
           have n2_ := am (KeepBut.trans (kq HK.out) hk (.inl rfl))
           have n3_ := am (hb)
           have n4_ := am (hi)
           clear HO959
           clear HO977
           clear HK
           clear HB
           clear HI0
           have HO959 := n0_
           have HO977 := n1_
           have HK := n2_
           have HB := n3_
           have HI0 := n4_
           clear n0_ n1_ n2_ n3_ n4_
           (try clear hb)
           (try clear hb2)
           (try clear hgw)
           (try clear hk)
           (try clear hi)
           have p38 : 0 ≤ (t971 : Int) := of_decide_eq_true (by first | (with_reducible assumption) | assumption)
           have q38 : (t971 : Int) < ((t957.length : Int) : Int) := of_decide_eq_true (by first | (with_reducible assumption) | assumption)
           obtain ⟨go38, co38, eo38, gb38, gl38, cl38, HG38⟩ := Kd.R_form HO959.out (by omega)
           (first | cases eo38 | (injection eo38 with ea_ en_ ec_; (first | subst ea_ | (injection ea_ with ea_; subst ea_)); subst ec_; clear en_))
           have GB38 := am gb38
           have GG38 := am HG38
           clear gb38 gl38 HG38
           obtain ⟨hx38_0, hf38_0⟩ := Kd.R_celln 0 HO959.out (t971 : Int) p38 q38
           replace p38 := eq_true p38
           replace q38 := eq_true q38
           have HN0_go38 := am (show g ≠ go38 from by have h_ := IsS148.own_ne HI0.out HO959.out (by decide); intro e_; exact h_ (by rw [e_]; rfl))
           have HP50 := Kd.R_putn HO959.out (t971 : Int) t978
           rw [← Ny980.out] at HP50
           have HQ50 := am HP50
           clear HP50
           refine hK.out _ _ ⟨HS0_, HS1_⟩ (fun hHeld => ?_)
           clear hK K
           refine norm_ (a' := ?_) ?_ ?_
           rotate_left
           ·show Act.put _ (some 63) _ = _
            simp only [Act.put, lsp, i64_w, i32_w]
            rfl
           refine pure_ (i := 13) (N := some 64) (v := ?_) (a' := ?_) #[true, true, true, true, true, true, true, true, true, true, true, true, true, true, false] rfl rfl (any_of HT_.out (by kernel_rfl)) (fun _ _ _ h => h) (Or.inl ⟨by rfl, ?_⟩) ?_ ?_
           rotate_left
           ·intro w'
            go_simp
            with_reducible rfl
           rotate_left
           ·simp only [Act.put, lsp, i64_w, i32_w]
            rfl
           refine last_ (i := 14) (N := none) #[true, true, true, true, true, true, true, true, true, true, true, true, true, true, true] rfl rfl (one_of HT_.out (by kernel_rfl)) (by decide) (fun K hK => ?_)
           refine skip_ (w1 := ?_) (by rfl) rfl ?_ ?_
           rotate_left
           ·go_simp
            rfl
           refine hK.out _ _ ?_
           clear hK K
           refine done_ (done_of HT_.out (by kernel_rfl)) ?_
           try go_wp2
           go_ret
           exact ⟨_, by first | rfl | (simp [errW_none, errW_some] <;> rfl) | (simp [*, errW_none, errW_some] <;> rfl), by (with_reducible repeat (first | apply Kd.R_alloc | apply Kd.R_drewN | apply Kd.R_drew)); exact Kd.R_mono HQ50.out (fun _ hk => trivial), by exact IsS148.q HI0.out, by repeat (first | (with_reducible first | exact HB.out | apply below_alloc | apply pw_below_drewN | apply below_drew1 | refine below_set ?_ (Nat.le_trans HL.out GB38.out) | refine below_set ?_ (IsS148.ge HI0.out)) | exact HB.out), by exact ks HK.out⟩
          ·rw [if_neg c37] at H
           exact absurd H (by simp)
         ·rw [if_neg c36] at H
          exact absurd H (by simp)
        ·rw [if_neg c34] at H
         exact absurd H (by simp)
       ·rw [if_neg c32] at H
        have c32b0 : (t963 == 2) = false := beq_eq_false_iff_ne.mpr c32
        have c32b1 : (t963 != 2) = true := bne_iff_ne.mpr c32
        obtain ⟨y981, hy981⟩ : ∃ y_ : List Int, y_ = (([] : List Int)) := ⟨_, rfl⟩
        replace H : (spec_l3BentTerm.l0 kj4 y981 0 s0_0 t964) = some (r1, r2) := by first | (rw [hy981]; with_reducible exact H) | (have H2_ := (Option.bind_some _ _).symm.trans H; rw [hy981]; with_reducible exact H2_) | (have H2_ := (Option.bind_some _ _).symm.trans H; with_reducible exact H2_) | with_reducible exact H | (rw [hy981]; exact H) | exact H
        have Ny981 := am hy981
        clear hy981
        have H' := am H
        clear H
        go_wp2_with (first | ((with_reducible refine gate_callee (f := 145) rfl ?_); refine goesL_ (some 30) rfl rfl Tryd.func145 (by kernel_rfl) rfl #[.pointer (some ⟨g, 0, none⟩), .pointer A1, .int .i64 a2, .int .i64 a3] rfl el ?_; (with_reducible refine (spec_l3Draw.calls kj4 g s0_0 s0_1 _ l1 a2 a3 t957 t960 w0 _ ?side1 ?side2 ?side3 A13.out).mono ?_); (case side1 => exact IsS148.q HI0.out); (case side2 => exact hsk HB.out (IsS148.ge HI0.out)); (case side3 => exact Kd.C_foot_step HR1.out (kq HK.out)); rintro e w51 ⟨v958, rfl, ho0, hi, hb, hk⟩; refine ⟨_, rfl, ?_⟩; have n0_ := am (Kd.R_lower ho0 (keep_size (w := w) (g := g) (row := none) (kq HK.out))); have n1_ := am (KeepBut.trans (kq HK.out) hk (.inl rfl)); have n2_ := am (hb); have n3_ := am (hi); clear HK HB HI0; revert n0_ n1_ n2_ n3_; intro HO959 HK HB HI0; (try clear hb); (try clear hb2); (try clear hgw); (try clear hk); (try clear hi); (try clear ho0)) | ((with_reducible refine gate_callee (f := 86) rfl ?_); refine goesL_ (some 32) rfl rfl Tryd.func86 (by kernel_rfl) rfl #[.pointer (some ⟨g, 0, none⟩), .int .i64 11] rfl el ?_; (with_reducible refine (spec_l1Chance.calls g s0_0 t960 11 true t962 w0 _ ?side1 ?side2 A14.out).mono ?_); (case side1 => exact IsS148.q HI0.out); (case side2 => exact hsk HB.out (IsS148.ge HI0.out)); rintro e w52 ⟨rfl, hi, hb, hk⟩; refine ⟨_, rfl, ?_⟩; have n0_ := am (Kd.R_mono (Kd.R_keep (IsS148.apart (show IsS148 w0 _ g s0_0 t960 from by exact IsS148.q HI0.out) (rq HO959.out) (by decide)) hk (fun _ h => h.2)) (fun _ h => h.1)); have n1_ := am (KeepBut.trans (kq HK.out) hk (.inl rfl)); have n2_ := am (hb); have n3_ := am (hi); clear HO959 HK HB HI0; revert n0_ n1_ n2_ n3_; intro HO959 HK HB HI0; (try clear hb); (try clear hb2); (try clear hgw); (try clear hk); (try clear hi)) | ((with_reducible refine gate_callee (f := 85) rfl ?_); refine goesL_ (some 36) rfl rfl Tryd.func85 (by kernel_rfl) rfl #[.pointer (some ⟨g, 0, none⟩), .int .i64 4] rfl el ?_; (with_reducible refine (spec_l1Next.calls g s0_0 t962 4 t963 t964 w0 _ ?side1 ?side2 A16.out).mono ?_); (case side1 => exact IsS148.q HI0.out); (case side2 => exact hsk HB.out (IsS148.ge HI0.out)); rintro e w53 ⟨rfl, hi, hb, hk⟩; refine ⟨_, rfl, ?_⟩; have n0_ := am (Kd.R_mono (Kd.R_keep (IsS148.apart (show IsS148 w0 _ g s0_0 t962 from by exact IsS148.q HI0.out) (rq HO959.out) (by decide)) hk (fun _ h => h.2)) (fun _ h => h.1)); have n1_ := am (KeepBut.trans (kq HK.out) hk (.inl rfl)); have n2_ := am (hb); have n3_ := am (hi); clear HO959 HK HB HI0; revert n0_ n1_ n2_ n3_; intro HO959 HK HB HI0; (try clear hb); (try clear hb2); (try clear hgw); (try clear hk); (try clear hi)) | ((with_reducible refine gate_dst (N := 66) rfl ?_); refine Kd.R_lit (Kd.int .i64) _ 2 ?hg (N := 66) ?hd (xs := ([] : List Int)) (inner := []) (ok := fun _ => True) (okp := fun _ => True) ?hr ?hp (fun _ hk => hk) trivial (Below.refl _ _) (Nat.le_refl _) (by simp) ?_; (case hd => rfl); (case hg => rfl); (case hr => first | (go_simp; done) | (go_simp; rfl)); (case hp => exact (Reps.none _ _)); intro v982 w54 ho55 hb hg_ hnew_; clear hg_ hnew_; (first | rw [← Ny981.out] at ho55 | (simp only [Int.reduceToNat] at ho55; rw [← Ny981.out] at ho55)); have n0_ := am (Kd.R_elder' (rq HO959.out) (Kd.R_base ho55) hb); have n1_ := am (Kd.R_lower (Kd.R_new' ho55 (Kd.R_lt (rq HO959.out))) (keep_size (w := w) (g := g) (row := none) (kq HK.out))); have n2_ := am (IsS148.below (IsS148.q HI0.out) hb); have n3_ := am (KeepBut.trans (kq HK.out) (KeepBut.of_below hb g none) (.inl rfl)); have n4_ := am (below_step (hsk HB.out (IsS148.ge HI0.out)) hb); clear HO959 HI0 HK HB; revert n0_ n1_ n2_ n3_ n4_; intro HO959 HO983 HI0 HK HB; clear hb ho55))
        go_loopg [10, 11] kj4 (fun kq v10 v11 w' => ∃ (x10_2 : List Int) (x11_2 : Int) (x1001_2 : Int), v11 = .int .i64 x11_2 ∧ Aside0 (spec_l3BentTerm.l0 kq x10_2 x11_2 s0_0 x1001_2 = some (r1, r2)) ∧ Aside0 (kq ≤ kj4) ∧ Aside0 (Kd.R (Kd.int .i64) 2 w' w.heap.size (fun _ => True) v10 x10_2) ∧ Aside0 (IsS148 w0 w' g s0_0 x1001_2) ∧ Aside0 (KeepBut w w' g none) ∧ Aside0 (Below w0.heap.size w0 w'))
        case atStart => exact ⟨(y981), (0), (t964), (by first | rfl | (simp; done) | (simp [*]; done)), H', ⟨Nat.le_refl _⟩, ⟨by (with_reducible repeat (first | apply Kd.R_alloc | apply Kd.R_drewN | apply Kd.R_drew)); exact Kd.R_mono HO983.out (fun _ hk => trivial)⟩, ⟨by exact IsS148.q HI0.out⟩, ⟨by exact kq HK.out⟩, ⟨by exact hsk HB.out (IsS148.ge HI0.out)⟩⟩
        case round =>
         clear H'
         try clear c1
         try clear c2
         try clear p2
         try clear q2
         try clear c3
         try clear p3
         try clear q3
         try clear hx3
         try clear c6
         try clear c6b0
         try clear c6b1
         try clear p6
         try clear c7
         try clear c7b0
         try clear c7b1
         try clear c8
         try clear c9
         try clear p9
         try clear q9
         try clear hx9
         try clear qi9
         try clear c10
         try clear c14
         try clear c15
         try clear c17
         try clear c17b0
         try clear c17b1
         try clear c19
         try clear c19b0
         try clear c19b1
         try clear c20
         try clear c20b0
         try clear c20b1
         try clear q25
         try clear c26
         try clear c26b0
         try clear c26b1
         try clear c27
         try clear c32
         try clear c32b0
         try clear c32b1
         try clear c34
         try clear c34b0
         try clear c34b1
         try clear c36
         try clear c36b0
         try clear c37
         try clear c37b0
         try clear p38
         try clear q38
         try clear hx38
         try clear hf38
         try clear hx38_0
         try clear hx949_0
         try clear hx950_0
         try clear hx951_0
         try clear hx952_0
         try clear hx973_0
         try clear hx974_0
         try clear p2
         try clear p38
         try clear p9
         try clear p949
         try clear p950
         try clear p951
         try clear p952
         try clear p973
         try clear p974
         try clear q25
         try clear q38
         try clear q9
         try clear q949
         try clear q950
         try clear q951
         try clear q952
         try clear q973
         try clear q974
         obtain ⟨x10_2, x11_2, x1001_2, rfl, HA, HK2, HO_10, HI0, HK, HB⟩ := hrel
         cases gk with
         | zero => exact absurd HA.out (by simp [spec_l3BentTerm.l0])
         | succ k2 =>
          have H := HA.out
          clear HA
          simp only [spec_l3BentTerm.l0] at H
          obtain ⟨y984, hy984⟩ : ∃ y_ : List Int, y_ = (([24, 25] : List Int)) := ⟨_, rfl⟩
          replace H : ((spec_l1Pick.f s0_0 x1001_2 y984).bind fun bt987 => (if x11_2 < bt987.1 then ((spec_l1Pick.f s0_0 bt987.2 (([1, 2, 0] : List Int))).bind fun bt992 => (if x10_2.length < 17592186044416 then (spec_l3BentTerm.l0 k2 (x10_2 ++ [bt992.1]) (wrap64 (x11_2 + 1)) s0_0 bt992.2) else (none))) else (some (x10_2, bt987.2)))) = some (r1, r2) := by first | (rw [hy984]; with_reducible exact H) | (have H2_ := (Option.bind_some _ _).symm.trans H; rw [hy984]; with_reducible exact H2_) | (have H2_ := (Option.bind_some _ _).symm.trans H; with_reducible exact H2_) | with_reducible exact H | (rw [hy984]; exact H) | exact H
          have Ny984 := am hy984
          clear hy984
          replace H := Option.bind_eq_some_iff.mp H
          obtain ⟨⟨t987, t988⟩, A560, H⟩ := H
          replace H : (if x11_2 < t987 then ((spec_l1Pick.f s0_0 t988 (([1, 2, 0] : List Int))).bind fun bt992 => (if x10_2.length < 17592186044416 then (spec_l3BentTerm.l0 k2 (x10_2 ++ [bt992.1]) (wrap64 (x11_2 + 1)) s0_0 bt992.2) else (none))) else (some (x10_2, t988))) = some (r1, r2) := H
          have A56 := am A560
          clear A560
          by_cases c57 : x11_2 < t987
          ·rw [if_pos c57] at H
           have c57b0 : decide (x11_2 < t987) = true := decide_eq_true c57
           clear c57
           obtain ⟨y989, hy989⟩ : ∃ y_ : List Int, y_ = (([1, 2, 0] : List Int)) := ⟨_, rfl⟩
           replace H : ((spec_l1Pick.f s0_0 t988 y989).bind fun bt992 => (if x10_2.length < 17592186044416 then (spec_l3BentTerm.l0 k2 (x10_2 ++ [bt992.1]) (wrap64 (x11_2 + 1)) s0_0 bt992.2) else (none))) = some (r1, r2) := by first | (rw [hy989]; with_reducible exact H) | (have H2_ := (Option.bind_some _ _).symm.trans H; rw [hy989]; with_reducible exact H2_) | (have H2_ := (Option.bind_some _ _).symm.trans H; with_reducible exact H2_) | with_reducible exact H | (rw [hy989]; exact H) | exact H
           have Ny989 := am hy989
           clear hy989
           replace H := Option.bind_eq_some_iff.mp H
           obtain ⟨⟨t992, t993⟩, A580, H⟩ := H
           replace H : (if x10_2.length < 17592186044416 then (spec_l3BentTerm.l0 k2 (x10_2 ++ [t992]) (wrap64 (x11_2 + 1)) s0_0 t993) else (none)) = some (r1, r2) := H
           have A58 := am A580
           clear A580
           by_cases c59 : x10_2.length < 17592186044416
           ·rw [if_pos c59] at H
            have LMc59 := am c59
            clear c59
            obtain ⟨y994, hy994⟩ : ∃ y_ : List Int, y_ = (x10_2 ++ [t992]) := ⟨_, rfl⟩
            replace H : (spec_l3BentTerm.l0 k2 y994 (wrap64 (x11_2 + 1)) s0_0 t993) = some (r1, r2) := by first | (rw [hy994]; with_reducible exact H) | (have H2_ := (Option.bind_some _ _).symm.trans H; rw [hy994]; with_reducible exact H2_) | (have H2_ := (Option.bind_some _ _).symm.trans H; with_reducible exact H2_) | with_reducible exact H | (rw [hy994]; exact H) | exact H
            have Ny994 := am hy994
            clear hy994
            have H' := am H
            clear H
            go_wp2_with (first | ((with_reducible refine gate_dst (N := 69) rfl ?_); refine Kd.R_lit (Kd.int .i64) _ 2 ?hg (N := 69) ?hd (xs := ([24, 25] : List Int)) (inner := [.int .i64 24, .int .i64 25]) (ok := fun _ => True) (okp := fun _ => True) ?hr ?hp (fun _ hk => hk) trivial (Below.refl _ _) (Nat.le_refl _) (by simp) ?_; (case hd => rfl); (case hg => rfl); (case hr => first | (go_simp; done) | (go_simp; rfl)); (case hp => exact (Reps.one (show Kd.M (Kd.int .i64) _ _ _ 24 [.int .i64 24] from rfl) (Reps.one (show Kd.M (Kd.int .i64) _ _ _ 25 [.int .i64 25] from rfl) (Reps.none _ _)))); intro v985 w60 ho61 hb hg_ hnew_; clear hg_ hnew_; (first | rw [← Ny984.out] at ho61 | (simp only [Int.reduceToNat] at ho61; rw [← Ny984.out] at ho61)); have n0_ := am (Kd.R_elder' (rq HO_10.out) (Kd.R_base ho61) hb); have n1_ := am (Kd.R_lower (Kd.R_new' ho61 (Kd.R_lt (rq HO_10.out))) (keep_size (w := w) (g := g) (row := none) (kq HK.out))); have n2_ := am (IsS148.below (IsS148.q HI0.out) hb); have n3_ := am (KeepBut.trans (kq HK.out) (KeepBut.of_below hb g none) (.inl rfl)); have n4_ := am (below_step (hsk HB.out (IsS148.ge HI0.out)) hb); clear HO_10 HI0 HK HB; revert n0_ n1_ n2_ n3_ n4_; intro HO_10 HO986 HI0 HK HB; clear hb ho61; obtain ⟨Ao62, co62, eo62⟩ := Kd.R_slice HO986.out; subst eo62) | ((with_reducible refine gate_callee (f := 84) rfl ?_); refine goesL_ (some 70) rfl rfl Tryd.func84 (by kernel_rfl) rfl #[.pointer (some ⟨g, 0, none⟩), .slice Ao62 y984.length co62] rfl el ?_; (with_reducible refine (spec_l1Pick.calls g s0_0 x1001_2 _ _ y984 t987 t988 w0 _ ?side1 ?side2 ?side3 ?side4 ?side5 A56.out).mono ?_); (case side1 => exact IsS148.q HI0.out); (case side2 => exact hsk HB.out (IsS148.ge HI0.out)); (case side3 => repeat (first | exact (Kd.R_reads' HO986.out).2.2 | (with_reducible refine Kd.C_alloc ?_ _) | (with_reducible refine Kd.C_drewN ?_ _) | (with_reducible refine Kd.C_drew ?_))); (case side4 => exact (Kd.R_reads' HO986.out).2.1); (case side5 => exact far_slice (IsS148.own_ne HI0.out HO986.out (by decide))); rintro e w63 ⟨rfl, hi, hb, hk⟩; refine ⟨_, rfl, ?_⟩; have n0_ := am (Kd.R_mono (Kd.R_keep (IsS148.apart (show IsS148 w0 _ g s0_0 x1001_2 from by exact IsS148.q HI0.out) (rq HO_10.out) (by decide)) hk (fun _ h => h.2)) (fun _ h => h.1)); have n1_ := am (Kd.R_mono (Kd.R_keep (IsS148.apart (show IsS148 w0 _ g s0_0 x1001_2 from by exact IsS148.q HI0.out) (rq HO986.out) (by decide)) hk (fun _ h => h.2)) (fun _ h => h.1)); have n2_ := am (KeepBut.trans (kq HK.out) hk (.inl rfl)); have n3_ := am (hb); have n4_ := am (hi); clear HO_10 HO986 HK HB HI0; revert n0_ n1_ n2_ n3_ n4_; intro HO_10 HO986 HK HB HI0; (try clear hb); (try clear hb2); (try clear hgw); (try clear hk); (try clear hi)) | ((with_reducible refine gate_dst (N := 76) rfl ?_); refine Kd.R_lit (Kd.int .i64) _ 2 ?hg (N := 76) ?hd (xs := ([1, 2, 0] : List Int)) (inner := [.int .i64 1, .int .i64 2, .int .i64 0]) (ok := fun _ => True) (okp := fun _ => True) ?hr ?hp (fun _ hk => hk) trivial (Below.refl _ _) (Nat.le_refl _) (by simp) ?_; (case hd => rfl); (case hg => rfl); (case hr => first | (go_simp; done) | (go_simp; rfl)); (case hp => exact (Reps.one (show Kd.M (Kd.int .i64) _ _ _ 1 [.int .i64 1] from rfl) (Reps.one (show Kd.M (Kd.int .i64) _ _ _ 2 [.int .i64 2] from rfl) (Reps.one (show Kd.M (Kd.int .i64) _ _ _ 0 [.int .i64 0] from rfl) (Reps.none _ _))))); intro v990 w64 ho65 hb hg_ hnew_; clear hg_ hnew_; (first | rw [← Ny989.out] at ho65 | (simp only [Int.reduceToNat] at ho65; rw [← Ny989.out] at ho65)); have n0_ := am (Kd.R_elder' (rq HO_10.out) (Kd.R_base ho65) hb); have n1_ := am (Kd.R_elder' (rq HO986.out) (Kd.R_base ho65) hb); have n2_ := am (Kd.R_lower (Kd.R_new' (Kd.R_new' ho65 (Kd.R_lt (rq HO_10.out))) (Kd.R_lt (rq HO986.out))) (keep_size (w := w) (g := g) (row := none) (kq HK.out))); have n3_ := am (IsS148.below (IsS148.q HI0.out) hb); have n4_ := am (KeepBut.trans (kq HK.out) (KeepBut.of_below hb g none) (.inl rfl)); have n5_ := am (below_step (hsk HB.out (IsS148.ge HI0.out)) hb); clear HO_10 HO986 HI0 HK HB; revert n0_ n1_ n2_ n3_ n4_ n5_; intro HO_10 HO986 HO991 HI0 HK HB; clear hb ho65; obtain ⟨Ao66, co66, eo66⟩ := Kd.R_slice HO991.out; subst eo66) | ((with_reducible refine gate_callee (f := 84) rfl ?_); refine goesL_ (some 77) rfl rfl Tryd.func84 (by kernel_rfl) rfl #[.pointer (some ⟨g, 0, none⟩), .slice Ao66 y989.length co66] rfl el ?_; (with_reducible refine (spec_l1Pick.calls g s0_0 t988 _ _ y989 t992 t993 w0 _ ?side1 ?side2 ?side3 ?side4 ?side5 A58.out).mono ?_); (case side1 => exact IsS148.q HI0.out); (case side2 => exact hsk HB.out (IsS148.ge HI0.out)); (case side3 => repeat (first | exact (Kd.R_reads' HO991.out).2.2 | (with_reducible refine Kd.C_alloc ?_ _) | (with_reducible refine Kd.C_drewN ?_ _) | (with_reducible refine Kd.C_drew ?_))); (case side4 => exact (Kd.R_reads' HO991.out).2.1); (case side5 => exact far_slice (IsS148.own_ne HI0.out HO991.out (by decide))); rintro e w67 ⟨rfl, hi, hb, hk⟩; refine ⟨_, rfl, ?_⟩; have n0_ := am (Kd.R_mono (Kd.R_keep (IsS148.apart (show IsS148 w0 _ g s0_0 t988 from by exact IsS148.q HI0.out) (rq HO_10.out) (by decide)) hk (fun _ h => h.2)) (fun _ h => h.1)); have n1_ := am (Kd.R_mono (Kd.R_keep (IsS148.apart (show IsS148 w0 _ g s0_0 t988 from by exact IsS148.q HI0.out) (rq HO986.out) (by decide)) hk (fun _ h => h.2)) (fun _ h => h.1)); have n2_ := am (Kd.R_mono (Kd.R_keep (IsS148.apart (show IsS148 w0 _ g s0_0 t988 from by exact IsS148.q HI0.out) (rq HO991.out) (by decide)) hk (fun _ h => h.2)) (fun _ h => h.1)); have n3_ := am (KeepBut.trans (kq HK.out) hk (.inl rfl)); have n4_ := am (hb); have n5_ := am (hi); clear HO_10 HO986 HO991 HK HB HI0; revert n0_ n1_ n2_ n3_ n4_ n5_; intro HO_10 HO986 HO991 HK HB HI0; (try clear hb); (try clear hb2); (try clear hgw); (try clear hk); (try clear hi)) | ((with_reducible refine gate_builtin (b := .append) (xs := #[.tmp 74, .tmp 78]) rfl ?_); at_builtin; refine Kd.R_append (Kd.int .i64) w.heap.size rfl (.tmp 74) (.tmp 78) 52 2 (.int .i64 0) 8 rfl Tryd.underlying52 info2 rfl (by decide) (by omega) u10 x10_2 t992 [.int .i64 t992] (fun k_ => some k_ ≠ (.slice Ao62 y984.length co62 : Value).ownBlock ∧ some k_ ≠ (.slice Ao66 y989.length co66 : Value).ownBlock) (fun _ => False) rfl rfl ?aP (fun _ hk => hk.elim) ?aF ?aO (Below.refl _ _) ?aS ?aL ?_; (case aP => exact rfl); (case aF => exact (fun k_ hk => ⟨Kd.fresh' (Kd.R_lt (rq HO986.out)) k_ hk, Kd.fresh' (Kd.R_lt (rq HO991.out)) k_ hk⟩)); (case aO => exact (by (with_reducible repeat (first | apply Kd.R_alloc | apply Kd.R_drewN | apply Kd.R_drew)); exact Kd.R_mono HO_10.out (fun _ hk => by first | exact ⟨hk.1.2, hk.2⟩ | exact ⟨hk.2, hk.1.2⟩ | trivial))); (case aS => exact (keep_size (w := w) (g := g) (row := none) (kq HK.out))); (case aL => have := LMc59.out; omega); intro v995 w68 ho hb hg hat; rw [← Ny994.out] at ho; have n0_ := am (IsS148.grown (IsS148.q HI0.out) hg (IsS148.own_ne HI0.out HO_10.out (by decide))); have n1_ := am (Kd.R_after (ok := (fun k_ => some k_ ≠ (.slice Ao66 y989.length co66 : Value).ownBlock)) (by (with_reducible repeat (first | apply Kd.R_alloc | apply Kd.R_drewN | apply Kd.R_drew)); exact Kd.R_mono HO986.out (fun _ hk => by first | exact ⟨hk.2, hk.1.2⟩ | exact ⟨hk.1.2, hk.2⟩ | trivial)) hg hat); have n2_ := am (Kd.R_after (ok := (fun k_ => some k_ ≠ (.slice Ao62 y984.length co62 : Value).ownBlock)) (by (with_reducible repeat (first | apply Kd.R_alloc | apply Kd.R_drewN | apply Kd.R_drew)); exact Kd.R_mono HO991.out (fun _ hk => by first | exact ⟨hk.2, hk.1.2⟩ | exact ⟨hk.1.2, hk.2⟩ | trivial)) hg hat); have n3_ := am (below_weaken (hsk HB.out (IsS148.ge HI0.out)) HL.out hb); have n4_ := am (KeepBut.trans (kq HK.out) (KeepBut.of_grown hg g) (Kd.R_base2 HO_10.out)); have n5_ := am (ho); clear HI0 HO986 HO991 HB HK HO_10; revert n0_ n1_ n2_ n3_ n4_ n5_; intro HI0 HO986 HO991 HB HK HO996; clear ho hb hg hat))
            go_roundg k2
            case measure => have := HJ4.out; have := HK2.out; omega
            case rel => exact ⟨(y994), (wrap64 (x11_2 + 1)), (t993), (by first | rfl | (simp; done) | (simp [*]; done)), H', ⟨by have := HJ4.out; have := HK2.out; omega⟩, ⟨by (with_reducible repeat (first | apply Kd.R_alloc | apply Kd.R_drewN | apply Kd.R_drew)); exact Kd.R_mono HO996.out (fun _ hk => trivial)⟩, ⟨by exact IsS148.q HI0.out⟩, ⟨by exact kq HK.out⟩, ⟨by exact hsk HB.out (IsS148.ge HI0.out)⟩⟩
           ·rw [if_neg c59] at H
            exact absurd H (by simp)
          ·rw [if_neg c57] at H
           have c57b0 : decide (x11_2 < t987) = false := decide_eq_false c57
           clear c57
           simp only [Option.some.injEq, Prod.mk.injEq] at H
           obtain ⟨rfl, rfl⟩ := H
           go_wp2_with (first | ((with_reducible refine gate_dst (N := 69) rfl ?_); refine Kd.R_lit (Kd.int .i64) _ 2 ?hg (N := 69) ?hd (xs := ([24, 25] : List Int)) (inner := [.int .i64 24, .int .i64 25]) (ok := fun _ => True) (okp := fun _ => True) ?hr ?hp (fun _ hk => hk) trivial (Below.refl _ _) (Nat.le_refl _) (by simp) ?_; (case hd => rfl); (case hg => rfl); (case hr => first | (go_simp; done) | (go_simp; rfl)); (case hp => exact (Reps.one (show Kd.M (Kd.int .i64) _ _ _ 24 [.int .i64 24] from rfl) (Reps.one (show Kd.M (Kd.int .i64) _ _ _ 25 [.int .i64 25] from rfl) (Reps.none _ _)))); intro v985 w69 ho70 hb hg_ hnew_; clear hg_ hnew_; (first | rw [← Ny984.out] at ho70 | (simp only [Int.reduceToNat] at ho70; rw [← Ny984.out] at ho70)); have n0_ := am (Kd.R_elder' (rq HO_10.out) (Kd.R_base ho70) hb); have n1_ := am (Kd.R_lower (Kd.R_new' ho70 (Kd.R_lt (rq HO_10.out))) (keep_size (w := w) (g := g) (row := none) (kq HK.out))); have n2_ := am (IsS148.below (IsS148.q HI0.out) hb); have n3_ := am (KeepBut.trans (kq HK.out) (KeepBut.of_below hb g none) (.inl rfl)); have n4_ := am (below_step (hsk HB.out (IsS148.ge HI0.out)) hb); clear HO_10 HI0 HK HB; revert n0_ n1_ n2_ n3_ n4_; intro HO_10 HO986 HI0 HK HB; clear hb ho70; obtain ⟨Ao71, co71, eo71⟩ := Kd.R_slice HO986.out; subst eo71) | ((with_reducible refine gate_callee (f := 84) rfl ?_); refine goesL_ (some 70) rfl rfl Tryd.func84 (by kernel_rfl) rfl #[.pointer (some ⟨g, 0, none⟩), .slice Ao71 y984.length co71] rfl el ?_; (with_reducible refine (spec_l1Pick.calls g s0_0 x1001_2 _ _ y984 t987 t988 w0 _ ?side1 ?side2 ?side3 ?side4 ?side5 A56.out).mono ?_); (case side1 => exact IsS148.q HI0.out); (case side2 => exact hsk HB.out (IsS148.ge HI0.out)); (case side3 => repeat (first | exact (Kd.R_reads' HO986.out).2.2 | (with_reducible refine Kd.C_alloc ?_ _) | (with_reducible refine Kd.C_drewN ?_ _) | (with_reducible refine Kd.C_drew ?_))); (case side4 => exact (Kd.R_reads' HO986.out).2.1); (case side5 => exact far_slice (IsS148.own_ne HI0.out HO986.out (by decide))); rintro e w72 ⟨rfl, hi, hb, hk⟩; refine ⟨_, rfl, ?_⟩; have n0_ := am (Kd.R_mono (Kd.R_keep (IsS148.apart (show IsS148 w0 _ g s0_0 x1001_2 from by exact IsS148.q HI0.out) (rq HO_10.out) (by decide)) hk (fun _ h => h.2)) (fun _ h => h.1)); have n1_ := am (Kd.R_mono (Kd.R_keep (IsS148.apart (show IsS148 w0 _ g s0_0 x1001_2 from by exact IsS148.q HI0.out) (rq HO986.out) (by decide)) hk (fun _ h => h.2)) (fun _ h => h.1)); have n2_ := am (KeepBut.trans (kq HK.out) hk (.inl rfl)); have n3_ := am (hb); have n4_ := am (hi); clear HO_10 HO986 HK HB HI0; revert n0_ n1_ n2_ n3_ n4_; intro HO_10 HO986 HK HB HI0; (try clear hb); (try clear hb2); (try clear hgw); (try clear hk); (try clear hi)))
           go_ret
           exact ⟨_, by first | rfl | (simp [errW_none, errW_some] <;> rfl) | (simp [*, errW_none, errW_some] <;> rfl), by (with_reducible repeat (first | apply Kd.R_alloc | apply Kd.R_drewN | apply Kd.R_drew)); exact Kd.R_mono HO_10.out (fun _ hk => trivial), by exact IsS148.q HI0.out, by exact hsk HB.out (IsS148.ge HI0.out), by exact kq HK.out⟩
    ·replace c15 := Bool.eq_false_iff.mpr c15
     subst c15
     have H1 : (some (t957, t962)) = some (r1, r2) := by rw [if_neg (show ¬ (false = true) by decide)] at H; exact H
     clear H
     have H := H1
     clear H1
     simp only [Option.some.injEq, Prod.mk.injEq] at H
     obtain ⟨rfl, rfl⟩ := H
     go_wp2_with (first | ((with_reducible refine gate_callee (f := 145) rfl ?_); refine goesL_ (some 30) rfl rfl Tryd.func145 (by kernel_rfl) rfl #[.pointer (some ⟨g, 0, none⟩), .pointer A1, .int .i64 a2, .int .i64 a3] rfl el ?_; (with_reducible refine (spec_l3Draw.calls kj4 g s0_0 s0_1 _ l1 a2 a3 t957 t960 w0 _ ?side1 ?side2 ?side3 A13.out).mono ?_); (case side1 => exact IsS148.q HI0.out); (case side2 => exact hsk HB.out (IsS148.ge HI0.out)); (case side3 => exact Kd.C_foot_step HR1.out (kq HK.out)); rintro e w73 ⟨v958, rfl, ho0, hi, hb, hk⟩; refine ⟨_, rfl, ?_⟩; have n0_ := am (Kd.R_lower ho0 (keep_size (w := w) (g := g) (row := none) (kq HK.out))); have n1_ := am (KeepBut.trans (kq HK.out) hk (.inl rfl)); have n2_ := am (hb); have n3_ := am (hi); clear HK HB HI0; revert n0_ n1_ n2_ n3_; intro HO959 HK HB HI0; (try clear hb); (try clear hb2); (try clear hgw); (try clear hk); (try clear hi); (try clear ho0)) | ((with_reducible refine gate_callee (f := 86) rfl ?_); refine goesL_ (some 32) rfl rfl Tryd.func86 (by kernel_rfl) rfl #[.pointer (some ⟨g, 0, none⟩), .int .i64 11] rfl el ?_; (with_reducible refine (spec_l1Chance.calls g s0_0 t960 11 false t962 w0 _ ?side1 ?side2 A14.out).mono ?_); (case side1 => exact IsS148.q HI0.out); (case side2 => exact hsk HB.out (IsS148.ge HI0.out)); rintro e w74 ⟨rfl, hi, hb, hk⟩; refine ⟨_, rfl, ?_⟩; have n0_ := am (Kd.R_mono (Kd.R_keep (IsS148.apart (show IsS148 w0 _ g s0_0 t960 from by exact IsS148.q HI0.out) (rq HO959.out) (by decide)) hk (fun _ h => h.2)) (fun _ h => h.1)); have n1_ := am (KeepBut.trans (kq HK.out) hk (.inl rfl)); have n2_ := am (hb); have n3_ := am (hi); clear HO959 HK HB HI0; revert n0_ n1_ n2_ n3_; intro HO959 HK HB HI0; (try clear hb); (try clear hb2); (try clear hgw); (try clear hk); (try clear hi)))
     go_ret
     exact ⟨_, by first | rfl | (simp [errW_none, errW_some] <;> rfl) | (simp [*, errW_none, errW_some] <;> rfl), by (with_reducible repeat (first | apply Kd.R_alloc | apply Kd.R_drewN | apply Kd.R_drew)); exact HO959.out, by exact IsS148.q HI0.out, by exact hsk HB.out (IsS148.ge HI0.out), by exact kq HK.out⟩
end Go.Proofs.YtedkbpbodkmhlaaDoor.P
