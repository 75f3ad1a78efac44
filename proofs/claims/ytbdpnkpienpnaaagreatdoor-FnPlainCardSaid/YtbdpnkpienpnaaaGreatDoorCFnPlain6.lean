/- A part of the proof of the law FnPlain. -/
import Derived.Laws.StructEq
import Derived.Test.YtbdpnkpienpnaaaGreatDoorCFnPlain0
import Derived.Test.YtbdpnkpienpnaaaGreatDoorCFnPlain1
import Derived.Test.YtbdpnkpienpnaaaGreatDoorCFnPlain2
import Derived.Test.YtbdpnkpienpnaaaGreatDoorCFnPlain3
import Derived.Test.YtbdpnkpienpnaaaGreatDoorCFnPlain5
import Derived.Test.YtbdpnkpienpnaaaGreatDoorCFnPlain20
namespace Go.Proofs.YtbdpnkpienpnaaaGreatDoor.P
open Go.RowKit Go.Proofs.YtbdpnkpienpnaaaGreatDoorW.PrintWords Go.Proofs.YtbdpnkpienpnaaaGreatDoorW.PrintLast Go.Proofs.YtbdpnkpienpnaaaGreatDoorW.PrintMore
attribute [local go_sem] Ae7 Ae6 Af7 Af8 Ad8 Ad9 Ae2 Ae4   -- for this text's walks alone
set_option linter.unusedVariables false
set_option linter.unusedSimpArgs false
mutual
def spec_l3BentTerm.j0 : Nat → List (S26) → Int → Int → Bool → List Int → Int → Option (List Int × Int)
 | 0, _, _, _, _, _, _ => none
 | k + 1, x1, x2, x3, x24, x1000, x1001 => if x24 = true then (some ((([0] : List Int)), x1001)) else ((spec_l3Draw.f k x1000 x1001 x1 x2 x3).bind fun bt227 => ((spec_l1Chance.f x1000 bt227.2 11).bind fun bt231 => (if bt231.1 = true then ((spec_l1Next.f x1000 bt231.2 4).bind fun bt233 => (if bt233.1 = 0 then (if 0 ≤ (wrap64 ((bt227.1.length : Int) - 1)) then (if (wrap64 ((bt227.1.length : Int) - 1)) ≤ (bt227.1.length : Int) then (some ((bt227.1.take ((wrap64 ((bt227.1.length : Int) - 1)) : Int).toNat), bt233.2)) else (none)) else (none)) else (if bt233.1 = 1 then (if bt227.1.length < 17592186044416 then (some ((bt227.1 ++ [0]), bt233.2)) else (none)) else (if bt233.1 = 2 then ((spec_l1Next.f x1000 bt233.2 (bt227.1.length : Int)).bind fun bt241 => (if 0 < (x1.length : Int) then ((spec_l1Pick.f x1000 bt241.2 (([(((Ac3 x1 0).f0).length : Int), (-13), (-12)] : List Int))).bind fun bt248 => (if 0 ≤ bt241.1 then (if bt241.1 < (bt227.1.length : Int) then (some ((bt227.1.set (bt241.1 : Int).toNat bt248.1), bt248.2)) else (none)) else (none))) else (none))) else (spec_l3BentTerm.l0 k (([] : List Int)) 0 x1000 bt233.2))))) else (some (bt227.1, bt231.2)))))
def spec_l3BentTerm.l0 : Nat → List Int → Int → List Int → Int → Option (List Int × Int)
 | 0, _, _, _, _ => none
 | k + 1, x10, x11, x1000, x1001 => (spec_l1Pick.f x1000 x1001 (([24, 25] : List Int))).bind fun bt257 => (if x11 < bt257.1 then ((spec_l1Pick.f x1000 bt257.2 (([1, 2, 0] : List Int))).bind fun bt262 => (if x10.length < 17592186044416 then (spec_l3BentTerm.l0 k (x10 ++ [bt262.1]) (wrap64 (x11 + 1)) x1000 bt262.2) else (none))) else (some (x10, bt257.2)))
end
def spec_l3BentTerm.f (k : Nat) (s0_0 : List Int) (s0_1 : Int) (l1 : List (S26)) (a2 : Int) (a3 : Int) : Option (List Int × Int) := if 0 < (l1.length : Int) then (if (((Ac3 l1 0).f0).length : Int) < 1 then (spec_l3BentTerm.j0 k l1 a2 a3 true s0_0 s0_1) else ((spec_SignatureFault.f k ((Ac3 l1 0).f0)).bind fun t223 => (spec_l3BentTerm.j0 k l1 a2 a3 (t223 != 0) s0_0 s0_1))) else (none)
def spec_l3BentTerm.T12 : Bool × List (List Nat × List Nat) := (true, [([], []), ([], []), ([], []), ([2], [2]), ([1, 3], [1, 3]), ([], []), ([], []), ([6], [6]), ([7], [7]), ([8], [8]), ([9], [9]), ([10], [10]), ([5, 11, 4], [5, 11]), ([0, 4, 0, 1, 2, 3, 4, 5, 6, 7, 8, 9, 10, 11, 12], [0, 4]), ([13, 12, 12, 0, 1, 2, 3, 4, 5, 6, 7, 8, 9, 10, 11, 12], [12, 13])])
def spec_l3BentTerm.B12 : List Nat := [0, 0, 0, 4, 14, 0, 0, 64, 192, 448, 960, 1984, 4094, 8191, 16383]
theorem spec_l3BentTerm.tab12 : Am6 .any (Ar3 Tryz.f25 12) = spec_l3BentTerm.T12 := by kernel_rfl
theorem spec_l3BentTerm.bits12 : Ai2 spec_l3BentTerm.T12.2 spec_l3BentTerm.B12 = true := by kernel_rfl
set_option maxHeartbeats 8000000 in
set_option maxRecDepth 100000 in
theorem spec_l3BentTerm.calls (k : Nat) (g : Nat) (s0_0 : List Int) (s0_1 : Int) (A1 : Option Addr) (l1 : List (S26)) (a2 : Int) (a3 : Int) (r1 : List Int) (r2 : Int) (w0 w : World) (hI : Aa2 w0 w g s0_0 s0_1) (hB : Below w0.heap.size w0 w) (hr1 : ∀ W_, Aa3 w W_ g none → Kd.C k26 W_ A1 l1.length l1) (h : spec_l3BentTerm.f k s0_0 s0_1 l1 a2 a3 = some (r1, r2)) :
  Calls Tryz.prog 25 #[.pointer (some ⟨g, 0, none⟩), .pointer A1, .int .i64 a2, .int .i64 a3] w fun e w' => ∃ v0_ : Value, e = .returned (v0_) ∧ Kd.R (Kd.int .i64) 2 w' w.heap.size (fun _ => True) v0_ r1 ∧ Aa2 w0 w' g s0_0 r2 ∧ Below w0.heap.size w0 w' ∧ Aa3 w w' g none := by
 have hu26 := Tryz.underlying26
 have HR1 := am hr1
 clear hr1
 have HI0 := am hI
 have HK := am (Aa3.refl w g none)
 have HL := am hB.size
 clear hI
 have HW0 := am hB.size
 have HB := am hB
 clear hB
 have H : (if 0 < (l1.length : Int) then (if (((Ac3 l1 0).f0).length : Int) < 1 then (spec_l3BentTerm.j0 k l1 a2 a3 true s0_0 s0_1) else ((spec_SignatureFault.f k ((Ac3 l1 0).f0)).bind fun t223 => (spec_l3BentTerm.j0 k l1 a2 a3 (t223 != 0) s0_0 s0_1))) else (none)) = some (r1, r2) := h
 clear h
 have HC5 := am H
 clear H
 go_enter Tryz.func25, Tryz.ntmps25
 go_upto_region 1 with (fail)
 go_cut [24] (fun v24 wc => ∃ (kq : Nat) (x24_4 : Bool), v24 = .bool x24_4 ∧ Aside0 (spec_l3BentTerm.j0 kq l1 a2 a3 x24_4 s0_0 s0_1 = some (r1, r2)) ∧ Aside0 (kq ≤ k) ∧ Aside0 (Aa2 w0 wc g s0_0 s0_1) ∧ Aside0 (Aa3 w wc g none) ∧ Aside0 (Below w0.heap.size w0 wc))
 case first =>
  have H := HC5.out
  clear HC5
  obtain ⟨c6, H⟩ := ifs H
  have c6b0 : decide (0 < (l1.length : Int)) = true := decide_eq_true c6
  have c6b1 : decide (0 < l1.length) = true := decide_eq_true (by omega)
  clear c6
  (first | rw [c6b0] | (simp only [Ag7, Ah2]; rw [c6b0]) | skip)
  by_cases c7 : (((Ac3 l1 0).f0).length : Int) < 1
  ·rw [if_pos c7] at H
   have c7b0 : decide ((((Ac3 l1 0).f0).length : Int) < 1) = true := decide_eq_true c7
   have c7b1 : decide (((Ac3 l1 0).f0).length < 1) = true := decide_eq_true (by omega)
   clear c7
   have H' := am H
   clear H
   have p219 : 0 ≤ (0 : Int) := (by omega)
   have q219 : 0 < (l1.length : Int) := od
   obtain ⟨ad219, A219_0, c219_0, e219, hx219_0, hl219_0, hi219_0⟩ := Af2 (Kd.C_foot_now HR1.out HK.out) 0 p219 q219
   cases e219
   have qi219 : (0 < l1.length) = True := eq_true (by omega)
   (try rw [show ((0 : Int)).toNat = 0 from rfl] at hx219_0)
   (try rw [Addr.add_zero'] at hx219_0)
   have HR219_0 := am hi219_0
   have HC219_0 := am hl219_0
   clear hi219_0 hl219_0
   replace p219 := eq_true p219
   replace q219 := eq_true q219
   have p220 : 0 ≤ (0 : Int) := (by omega)
   have q220 : 0 < (l1.length : Int) := od
   obtain ⟨ad220, A220_0, c220_0, e220, hx220_0, hl220_0, hi220_0⟩ := Af2 (Kd.C_foot_now HR1.out HK.out) 0 p220 q220
   obtain rfl : ad219 = ad220 := (by injection e220)
   have qi220 : (0 < l1.length) = True := eq_true (by omega)
   (try rw [show ((0 : Int)).toNat = 0 from rfl] at hx220_0)
   (try rw [Addr.add_zero'] at hx220_0)
   have HR220_0 := am hi220_0
   have HC220_0 := am hl220_0
   clear hi220_0 hl220_0
   replace p220 := eq_true p220
   replace q220 := eq_true q220
   have ea_ := Option.some.inj (hx219_0.symm.trans hx220_0)
   injection ea_ with ea_ en_ ec_
   subst ea_
   subst ec_
   clear en_
   go_wp2
   go_meet
   case rel => exact ⟨_, (true), et, H', ⟨by first | omega | exact Nat.le_refl _⟩, ⟨Aa2.q HI0.out⟩, ⟨kq HK.out⟩, ⟨hsk HB.out (Aa2.ge HI0.out)⟩⟩
  ·rw [if_neg c7] at H
   have c7b0 : decide ((((Ac3 l1 0).f0).length : Int) < 1) = false := decide_eq_false c7
   have c7b1 : decide (((Ac3 l1 0).f0).length < 1) = false := decide_eq_false (by omega)
   clear c7
   obtain ⟨t223, A8, H⟩ := ob H
   try dsimp only at H
   have H' := am H
   clear H
   have p219 : 0 ≤ (0 : Int) := (by omega)
   have q219 : 0 < (l1.length : Int) := od
   obtain ⟨ad219, A219_0, c219_0, e219, hx219_0, hl219_0, hi219_0⟩ := Af2 (Kd.C_foot_now HR1.out HK.out) 0 p219 q219
   cases e219
   have qi219 : (0 < l1.length) = True := eq_true (by omega)
   (try rw [show ((0 : Int)).toNat = 0 from rfl] at hx219_0)
   (try rw [Addr.add_zero'] at hx219_0)
   have HR219_0 := am hi219_0
   have HC219_0 := am hl219_0
   clear hi219_0 hl219_0
   replace p219 := eq_true p219
   replace q219 := eq_true q219
   have p220 : 0 ≤ (0 : Int) := (by omega)
   have q220 : 0 < (l1.length : Int) := od
   obtain ⟨ad220, A220_0, c220_0, e220, hx220_0, hl220_0, hi220_0⟩ := Af2 (Kd.C_foot_now HR1.out HK.out) 0 p220 q220
   obtain rfl : ad219 = ad220 := (by injection e220)
   have qi220 : (0 < l1.length) = True := eq_true (by omega)
   (try rw [show ((0 : Int)).toNat = 0 from rfl] at hx220_0)
   (try rw [Addr.add_zero'] at hx220_0)
   have HR220_0 := am hi220_0
   have HC220_0 := am hl220_0
   clear hi220_0 hl220_0
   replace p220 := eq_true p220
   replace q220 := eq_true q220
   have ea_ := Option.some.inj (hx219_0.symm.trans hx220_0)
   injection ea_ with ea_ en_ ec_
   subst ea_
   subst ec_
   clear en_
   have p221 : 0 ≤ (0 : Int) := (by omega)
   have q221 : 0 < (l1.length : Int) := od
   obtain ⟨ad221, A221_0, c221_0, e221, hx221_0, hl221_0, hi221_0⟩ := Af2 (Kd.C_foot_now HR1.out HK.out) 0 p221 q221
   obtain rfl : ad219 = ad221 := (by injection e221)
   have qi221 : (0 < l1.length) = True := eq_true (by omega)
   (try rw [show ((0 : Int)).toNat = 0 from rfl] at hx221_0)
   (try rw [Addr.add_zero'] at hx221_0)
   have HR221_0 := am hi221_0
   have HC221_0 := am hl221_0
   clear hi221_0 hl221_0
   replace p221 := eq_true p221
   replace q221 := eq_true q221
   have ea_ := Option.some.inj (hx219_0.symm.trans hx221_0)
   injection ea_ with ea_ en_ ec_
   subst ea_
   subst ec_
   clear en_
   have p222 : 0 ≤ (0 : Int) := (by omega)
   have q222 : 0 < (l1.length : Int) := od
   obtain ⟨ad222, A222_0, c222_0, e222, hx222_0, hl222_0, hi222_0⟩ := Af2 (Kd.C_foot_now HR1.out HK.out) 0 p222 q222
   obtain rfl : ad219 = ad222 := (by injection e222)
   have qi222 : (0 < l1.length) = True := eq_true (by omega)
   (try rw [show ((0 : Int)).toNat = 0 from rfl] at hx222_0)
   (try rw [Addr.add_zero'] at hx222_0)
   have HR222_0 := am hi222_0
   have HC222_0 := am hl222_0
   clear hi222_0 hl222_0
   replace p222 := eq_true p222
   replace q222 := eq_true q222
   have ea_ := Option.some.inj (hx219_0.symm.trans hx222_0)
   injection ea_ with ea_ en_ ec_
   subst ea_
   subst ec_
   clear en_
   go_wp2_with (first | (go_at_call 49; refine (spec_SignatureFault.calls k _ _ ((Ac3 l1 0).f0) t223 _ (cq (cq HR222_0.out)) HC222_0.out A8.out).mono ?_; rintro e w9 ⟨rfl, hb⟩; replace HR219_0 := am (Kd.C_below (cq HR219_0.out) hb); replace HR220_0 := am (Kd.C_below (cq HR220_0.out) hb); replace HR221_0 := am (Kd.C_below (cq HR221_0.out) hb); replace HR222_0 := am (Kd.C_below (cq HR222_0.out) hb); replace HK := am (Aa3.trans (kq HK.out) (Aa3.of_below hb g none) (.inl rfl)); replace HB := am (Ab8 (hsk HB.out (Aa2.ge HI0.out)) hb); replace HI0 := Aa2.bl HI0 hb; (try clear hb); (try clear hk); (try clear hi)))
   go_meet
   case rel => exact ⟨_, ((t223 != 0)), et, H', ⟨by first | omega | exact Nat.le_refl _⟩, ⟨Aa2.q HI0.out⟩, ⟨kq HK.out⟩, ⟨hsk HB.out (Aa2.ge HI0.out)⟩⟩
 case rest =>
  clear HC5
  try clear c6; try clear c6b0; try clear c6b1; try clear c7; try clear c7b0; try clear c7b1; try clear hx219_0; try clear hx220_0; try clear hx221_0; try clear hx222_0; try clear p219; try clear p220; try clear p221; try clear p222; try clear q219; try clear q220; try clear q221; try clear q222
  obtain ⟨kq, x24_4, rfl, HA, HJ4, HI0, HK, HB⟩ := hcut
  cases kq with
  | zero => exact absurd HA.out (by simp [spec_l3BentTerm.j0])
  | succ kj4 =>
   have H := HA.out
   clear HA
   simp only [spec_l3BentTerm.j0] at H
   by_cases c10 : x24_4 = true
   ·subst c10
    rw [if_pos rfl] at H
    obtain ⟨y224, hy224⟩ : ∃ y_ : List Int, y_ = (([0] : List Int)) := ⟨_, rfl⟩
    replace H : (some (y224, s0_1)) = some (r1, r2) := by first | (rw [hy224]; with_reducible exact H) | (have H2_ := (Option.bind_some _ _).symm.trans H; rw [hy224]; with_reducible exact H2_) | (have H2_ := (Option.bind_some _ _).symm.trans H; with_reducible exact H2_) | with_reducible exact H | (rw [hy224]; exact H) | exact H
    have Ny224 := am hy224
    clear hy224
    simp only [Option.some.injEq, Prod.mk.injEq] at H
    obtain ⟨rfl, rfl⟩ := H
    go_wp2_with (first | (refine rl 25 rfl 2 [0] ?_; intro v225 w11 ho12 hb hg_ hnew_; clear hg_ hnew_; (first | rw [← Ny224.out] at ho12 | (simp only [Int.reduceToNat] at ho12; rw [← Ny224.out] at ho12)); have HO226 := am (Kd.R_lower ho12 (Ab7 (w := w) (g := g) (row := none) (kq HK.out))); replace HK := am (Aa3.trans (kq HK.out) (Aa3.of_below hb g none) (.inl rfl)); replace HB := am (Ab8 (hsk HB.out (Aa2.ge HI0.out)) hb); replace HI0 := Aa2.bl HI0 hb; clear hb ho12))
    go_ret
    exact ⟨_, er, rq HO226.out, Aa2.q HI0.out, hsk HB.out (Aa2.ge HI0.out), kq HK.out⟩
   ·replace c10 := Bool.eq_false_iff.mpr c10
    subst c10
    rw [if_neg (show ¬ (false = true) by decide)] at H
    obtain ⟨⟨t227, t230⟩, A13, H⟩ := ob H
    try dsimp only at H
    obtain ⟨⟨t231, t232⟩, A14, H⟩ := ob H
    try dsimp only at H
    by_cases c15 : t231 = true
    ·subst c15
     rw [if_pos rfl] at H
     obtain ⟨⟨t233, t234⟩, A16, H⟩ := ob H
     try dsimp only at H
     by_cases c17 : t233 = 0
     ·rw [if_pos c17] at H
      obtain ⟨c17b0, c17b1⟩ := bqt c17; clear c17
      obtain ⟨ji18, hji18⟩ : ∃ j_ : Int, (wrap64 ((t227.length : Int) - 1)) = j_ := ⟨_, rfl⟩
      replace H : (if 0 ≤ (ji18) then (if (ji18) ≤ (t227.length : Int) then (some ((t227.take ((ji18) : Int).toNat), t234)) else (none)) else (none)) = some (r1, r2) := by first | (rw [hji18] at H; exact H) | (simp only [hji18] at H ⊢; exact H)
      (try rw [hji18] at A13)
      (try rw [hji18] at A14)
      (try rw [hji18] at A16)
      have hji18w : (IntKind.i64.wrap ((t227.length : Int) - 1)) = ji18 := (Ag7 _).trans hji18
      obtain ⟨c19b0, c19b1, H⟩ := ifd H
      obtain ⟨c20b0, c20b1, H⟩ := ifd H
      obtain ⟨y235, hy235⟩ : ∃ y_ : List Int, y_ = (t227.take ((ji18) : Int).toNat) := ⟨_, rfl⟩
      replace H : (some (y235, t234)) = some (r1, r2) := by first | (rw [hy235]; with_reducible exact H) | (have H2_ := (Option.bind_some _ _).symm.trans H; rw [hy235]; with_reducible exact H2_) | (have H2_ := (Option.bind_some _ _).symm.trans H; with_reducible exact H2_) | with_reducible exact H | (rw [hy235]; exact H) | exact H
      have Ny235 := am hy235
      clear hy235
      simp only [Option.some.injEq, Prod.mk.injEq] at H
      obtain ⟨rfl, rfl⟩ := H
      go_wp2_with (first | (refine gl (some 30) Tryz.func57 rfl #[.pointer (some ⟨g, 0, none⟩), .pointer A1, .int .i64 a2, .int .i64 a3] ?_; refine (spec_l3Draw.calls kj4 g s0_0 s0_1 _ l1 a2 a3 t227 t230 w0 _ (Aa2.q HI0.out) (hsk HB.out (Aa2.ge HI0.out)) (Kd.C_foot_step HR1.out (kq HK.out)) A13.out).mono ?_; rintro e w21 ⟨v228, rfl, ho0, hi, hb, hk⟩; refine ⟨_, rfl, ?_⟩; have HO229 := am (Kd.R_lower ho0 (Ab7 (w := w) (g := g) (row := none) (kq HK.out))); replace HK := am (Aa3.trans (kq HK.out) hk (.inl rfl)); replace HB := am (hb); replace HI0 := am (hi); (try clear hb); (try clear hk); (try clear hi); (try clear ho0)) | (refine gl (some 32) Tryz.func55 rfl #[.pointer (some ⟨g, 0, none⟩), .int .i64 11] ?_; refine (spec_l1Chance.calls g s0_0 t230 11 true t232 w0 _ (Aa2.q HI0.out) (hsk HB.out (Aa2.ge HI0.out)) A14.out).mono ?_; rintro e w22 ⟨rfl, hi, hb, hk⟩; refine ⟨_, rfl, ?_⟩; replace HO229 := Aa2.rk HI0 HO229 hk; replace HK := am (Aa3.trans (kq HK.out) hk (.inl rfl)); replace HB := am (hb); replace HI0 := am (hi); (try clear hb); (try clear hk); (try clear hi)) | (refine gl (some 36) Tryz.func56 rfl #[.pointer (some ⟨g, 0, none⟩), .int .i64 4] ?_; refine (spec_l1Next.calls g s0_0 t232 4 t233 t234 w0 _ (Aa2.q HI0.out) (hsk HB.out (Aa2.ge HI0.out)) A16.out).mono ?_; rintro e w23 ⟨rfl, hi, hb, hk⟩; refine ⟨_, rfl, ?_⟩; replace HO229 := Aa2.rk HI0 HO229 hk; replace HK := am (Aa3.trans (kq HK.out) hk (.inl rfl)); replace HB := am (hb); replace HI0 := am (hi); (try clear hb); (try clear hk); (try clear hi); obtain ⟨Ao24, co24, rfl⟩ := Kd.R_slice HO229.out; have q25 : ((ji18) : Int) ≤ ((t227.length : Int) : Int) := od; obtain ⟨i025, hi025, _, hsz25, _⟩ := info_parts An3; have hcut25 := cut_to (P := Tryz.prog) 27 2 .i64 Tryz.underlying27 hi025 Ao24 t227.length co24 (ji18) od q25 (Kd.R_reads' HO229.out).2.1; have hr25 := Kd.R_take (m := ((ji18) : Int).toNat) HO229.out (by omega); have hy25 : y235.length = ((ji18) : Int).toNat := (by rw [Ny235.out, List.length_take]; omega); rw [← Ny235.out] at hr25; rw [← hy25] at hr25 hcut25; clear hy25 hi025 hsz25 HO229; have HO237 := am hr25; clear hr25; replace q25 := eq_true q25))
      go_ret
      exact ⟨_, by first | rfl | (simp [Ad4, Ad3] <;> rfl) | (simp only [← hji18]; first | rfl | (simp [Ad4, Ad3] <;> rfl)) | (simp [*, Ad4, Ad3] <;> rfl), rq HO237.out, Aa2.q HI0.out, hsk HB.out (Aa2.ge HI0.out), kq HK.out⟩
     ·rw [if_neg c17] at H
      obtain ⟨c17b0, c17b1⟩ := bqf c17
      by_cases c26 : t233 = 1
      ·rw [if_pos c26] at H
       obtain ⟨c26b0, c26b1⟩ := bqt c26; clear c26
       obtain ⟨c27, H⟩ := ifs H
       have LMc27 := am c27
       clear c27
       obtain ⟨y238, hy238⟩ : ∃ y_ : List Int, y_ = (t227 ++ [0]) := ⟨_, rfl⟩
       replace H : (some (y238, t234)) = some (r1, r2) := by first | (rw [hy238]; with_reducible exact H) | (have H2_ := (Option.bind_some _ _).symm.trans H; rw [hy238]; with_reducible exact H2_) | (have H2_ := (Option.bind_some _ _).symm.trans H; with_reducible exact H2_) | with_reducible exact H | (rw [hy238]; exact H) | exact H
       have Ny238 := am hy238
       clear hy238
       simp only [Option.some.injEq, Prod.mk.injEq] at H
       obtain ⟨rfl, rfl⟩ := H
       go_wp2_with (first | (refine gl (some 30) Tryz.func57 rfl #[.pointer (some ⟨g, 0, none⟩), .pointer A1, .int .i64 a2, .int .i64 a3] ?_; refine (spec_l3Draw.calls kj4 g s0_0 s0_1 _ l1 a2 a3 t227 t230 w0 _ (Aa2.q HI0.out) (hsk HB.out (Aa2.ge HI0.out)) (Kd.C_foot_step HR1.out (kq HK.out)) A13.out).mono ?_; rintro e w28 ⟨v228, rfl, ho0, hi, hb, hk⟩; refine ⟨_, rfl, ?_⟩; have HO229 := am (Kd.R_lower ho0 (Ab7 (w := w) (g := g) (row := none) (kq HK.out))); replace HK := am (Aa3.trans (kq HK.out) hk (.inl rfl)); replace HB := am (hb); replace HI0 := am (hi); (try clear hb); (try clear hk); (try clear hi); (try clear ho0)) | (refine gl (some 32) Tryz.func55 rfl #[.pointer (some ⟨g, 0, none⟩), .int .i64 11] ?_; refine (spec_l1Chance.calls g s0_0 t230 11 true t232 w0 _ (Aa2.q HI0.out) (hsk HB.out (Aa2.ge HI0.out)) A14.out).mono ?_; rintro e w29 ⟨rfl, hi, hb, hk⟩; refine ⟨_, rfl, ?_⟩; replace HO229 := Aa2.rk HI0 HO229 hk; replace HK := am (Aa3.trans (kq HK.out) hk (.inl rfl)); replace HB := am (hb); replace HI0 := am (hi); (try clear hb); (try clear hk); (try clear hi)) | (refine gl (some 36) Tryz.func56 rfl #[.pointer (some ⟨g, 0, none⟩), .int .i64 4] ?_; refine (spec_l1Next.calls g s0_0 t232 4 t233 t234 w0 _ (Aa2.q HI0.out) (hsk HB.out (Aa2.ge HI0.out)) A16.out).mono ?_; rintro e w30 ⟨rfl, hi, hb, hk⟩; refine ⟨_, rfl, ?_⟩; replace HO229 := Aa2.rk HI0 HO229 hk; replace HK := am (Aa3.trans (kq HK.out) hk (.inl rfl)); replace HB := am (hb); replace HI0 := am (hi); (try clear hb); (try clear hk); (try clear hi)) | ((with_reducible refine Ae8 (b := .append) (xs := #[.tmp 46, .tmp 47]) rfl ?_); at_builtin; refine Kd.R_append (Kd.int .i64) w.heap.size rfl (.tmp 46) (.tmp 47) 27 2 (.int .i64 0) 8 rfl Tryz.underlying27 An3 rfl (by decide) (by omega) v228 t227 0 [.int .i64 0] (fun _ => True) (fun _ => False) rfl rfl ?aP (fun _ hk => hk.elim) ?aF ?aO (Below.refl _ _) ?aS ?aL ?_; (case aP => exact rfl); (case aF => exact (fun _ _ => trivial)); (case aO => exact (rq HO229.out)); (case aS => exact (Ab7 (w := w) (g := g) (row := none) (kq HK.out))); (case aL => have := LMc27.out; omega); intro v239 w31 ho hb hg hat; rw [← Ny238.out] at ho; replace HB := am (Ah7 (hsk HB.out (Aa2.ge HI0.out)) HL.out hb); replace HI0 := am (Aa2.grown (Aa2.q HI0.out) hg (Aa2.own_ne HI0.out HO229.out (by decide))); replace HK := am (Aa3.trans (kq HK.out) (Aa3.of_grown hg g) (Kd.R_base2 HO229.out)); have HO240 := am (ho); clear HO229; clear ho hb hg hat))
       go_ret
       exact ⟨_, er, rq HO240.out, Aa2.q HI0.out, hsk HB.out (Aa2.ge HI0.out), kq HK.out⟩
      ·rw [if_neg c26] at H
       obtain ⟨c26b0, c26b1⟩ := bqf c26
       by_cases c32 : t233 = 2
       ·rw [if_pos c32] at H
        obtain ⟨c32b0, c32b1⟩ := bqt c32; clear c32
        obtain ⟨⟨t241, t242⟩, A33, H⟩ := ob H
        try dsimp only at H
        obtain ⟨c34, H⟩ := ifs H
        have c34b0 : decide (0 < (l1.length : Int)) = true := decide_eq_true c34
        have c34b1 : decide (0 < l1.length) = true := decide_eq_true (by omega)
        clear c34
        obtain ⟨y245, hy245⟩ : ∃ y_ : List Int, y_ = (([(((Ac3 l1 0).f0).length : Int), (-13), (-12)] : List Int)) := ⟨_, rfl⟩
        replace H : ((spec_l1Pick.f s0_0 t242 y245).bind fun bt248 => (if 0 ≤ t241 then (if t241 < (t227.length : Int) then (some ((t227.set (t241 : Int).toNat bt248.1), bt248.2)) else (none)) else (none))) = some (r1, r2) := by first | (rw [hy245]; with_reducible exact H) | (have H2_ := (Option.bind_some _ _).symm.trans H; rw [hy245]; with_reducible exact H2_) | (have H2_ := (Option.bind_some _ _).symm.trans H; with_reducible exact H2_) | with_reducible exact H | (rw [hy245]; exact H) | exact H
        have Ny245 := am hy245
        clear hy245
        obtain ⟨⟨t248, t249⟩, A35, H⟩ := ob H
        try dsimp only at H
        obtain ⟨c36b0, H⟩ := ife H
        obtain ⟨c37b0, H⟩ := ife H
        obtain ⟨y250, hy250⟩ : ∃ y_ : List Int, y_ = (t227.set (t241 : Int).toNat t248) := ⟨_, rfl⟩
        replace H : (some (y250, t249)) = some (r1, r2) := by first | (rw [hy250]; with_reducible exact H) | (have H2_ := (Option.bind_some _ _).symm.trans H; rw [hy250]; with_reducible exact H2_) | (have H2_ := (Option.bind_some _ _).symm.trans H; with_reducible exact H2_) | with_reducible exact H | (rw [hy250]; exact H) | exact H
        have Ny250 := am hy250
        clear hy250
        simp only [Option.some.injEq, Prod.mk.injEq] at H
        obtain ⟨rfl, rfl⟩ := H
        try go_wp2_with (first | (refine gl (some 30) Tryz.func57 rfl #[.pointer (some ⟨g, 0, none⟩), .pointer A1, .int .i64 a2, .int .i64 a3] ?_; refine (spec_l3Draw.calls kj4 g s0_0 s0_1 _ l1 a2 a3 t227 t230 w0 _ (Aa2.q HI0.out) (hsk HB.out (Aa2.ge HI0.out)) (Kd.C_foot_step HR1.out (kq HK.out)) A13.out).mono ?_; rintro e w39 ⟨v228, rfl, ho0, hi, hb, hk⟩; refine ⟨_, rfl, ?_⟩; have HO229 := am (Kd.R_lower ho0 (Ab7 (w := w) (g := g) (row := none) (kq HK.out))); replace HK := am (Aa3.trans (kq HK.out) hk (.inl rfl)); replace HB := am (hb); replace HI0 := am (hi); (try clear hb); (try clear hk); (try clear hi); (try clear ho0)) | (refine gl (some 32) Tryz.func55 rfl #[.pointer (some ⟨g, 0, none⟩), .int .i64 11] ?_; refine (spec_l1Chance.calls g s0_0 t230 11 true t232 w0 _ (Aa2.q HI0.out) (hsk HB.out (Aa2.ge HI0.out)) A14.out).mono ?_; rintro e w40 ⟨rfl, hi, hb, hk⟩; refine ⟨_, rfl, ?_⟩; replace HO229 := Aa2.rk HI0 HO229 hk; replace HK := am (Aa3.trans (kq HK.out) hk (.inl rfl)); replace HB := am (hb); replace HI0 := am (hi); (try clear hb); (try clear hk); (try clear hi)) | (refine gl (some 36) Tryz.func56 rfl #[.pointer (some ⟨g, 0, none⟩), .int .i64 4] ?_; refine (spec_l1Next.calls g s0_0 t232 4 t233 t234 w0 _ (Aa2.q HI0.out) (hsk HB.out (Aa2.ge HI0.out)) A16.out).mono ?_; rintro e w41 ⟨rfl, hi, hb, hk⟩; refine ⟨_, rfl, ?_⟩; replace HO229 := Aa2.rk HI0 HO229 hk; replace HK := am (Aa3.trans (kq HK.out) hk (.inl rfl)); replace HB := am (hb); replace HI0 := am (hi); (try clear hb); (try clear hk); (try clear hi)))
        replace HO229 := am (Kd.R_drew HO229.out)
        replace HI0 := am (Aa2.drew HI0.out)
        replace HK := am (Ac4 HK.out)
        replace HB := am (Ab3 HB.out)
        obtain ⟨Ao43, co43, eo43⟩ := Kd.R_slice HO229.out
        (first | subst eo43 | (injection eo43 with f1_ f2_ f3_; have f4_ := f1_.symm; have f5_ := f3_.symm; clear f1_ f2_ f3_; subst f4_; subst f5_))
        have p243 : 0 ≤ (0 : Int) := (by omega)
        have q243 : 0 < (l1.length : Int) := od
        obtain ⟨ad243, A243_0, c243_0, e243, hx243_0, hl243_0, hi243_0⟩ := Af2 (Kd.C_foot_now HR1.out HK.out) 0 p243 q243
        have hw243_0 := hx243_0
        (try rw [show ((0 : Int)).toNat = 0 from rfl] at hw243_0)
        (try rw [show 0 * 1 = 0 from rfl] at hw243_0)
        (try rw [Addr.add_zero'] at hw243_0)
        cases e243
        have hne243_0 := (show (ad243 : Addr).block ≠ g from by first | (rw [Ac8]; exact Kd.foot_ne HR1.out (by omega) (by decide)) | (show (Addr.add _ _).block ≠ _; rw [Ac8]; exact Kd.foot_ne HR1.out (by omega) (by decide)) | exact Kd.foot_ne HR1.out (by omega) (by decide) | (dsimp only; exact Kd.foot_ne HR1.out (by omega) (by decide)))
        have hlt243_0 := (Kd.foot_lt HR1.out (by omega) (by decide))
        have qi243 : (0 < l1.length) = True := eq_true (by omega)
        (try rw [show ((0 : Int)).toNat = 0 from rfl] at hx243_0)
        (try rw [Addr.add_zero'] at hx243_0)
        have HR243_0 := am hi243_0
        have HC243_0 := am hl243_0
        clear hi243_0 hl243_0
        replace p243 := eq_true p243
        replace q243 := eq_true q243
        have p244 : 0 ≤ (0 : Int) := (by omega)
        have q244 : 0 < (l1.length : Int) := od
        obtain ⟨ad244, A244_0, c244_0, e244, hx244_0, hl244_0, hi244_0⟩ := Af2 (Kd.C_foot_now HR1.out HK.out) 0 p244 q244
        have hw244_0 := hx244_0
        (try rw [show ((0 : Int)).toNat = 0 from rfl] at hw244_0)
        (try rw [show 0 * 1 = 0 from rfl] at hw244_0)
        (try rw [Addr.add_zero'] at hw244_0)
        obtain rfl : ad243 = ad244 := (by injection e244)
        have hne244_0 := (show (ad243 : Addr).block ≠ g from by first | (rw [Ac8]; exact Kd.foot_ne HR1.out (by omega) (by decide)) | (show (Addr.add _ _).block ≠ _; rw [Ac8]; exact Kd.foot_ne HR1.out (by omega) (by decide)) | exact Kd.foot_ne HR1.out (by omega) (by decide) | (dsimp only; exact Kd.foot_ne HR1.out (by omega) (by decide)))
        have hlt244_0 := (Kd.foot_lt HR1.out (by omega) (by decide))
        have qi244 : (0 < l1.length) = True := eq_true (by omega)
        (try rw [show ((0 : Int)).toNat = 0 from rfl] at hx244_0)
        (try rw [Addr.add_zero'] at hx244_0)
        have HR244_0 := am hi244_0
        have HC244_0 := am hl244_0
        clear hi244_0 hl244_0
        replace p244 := eq_true p244
        replace q244 := eq_true q244
        have ea_ := Option.some.inj (hx243_0.symm.trans hx244_0)
        injection ea_ with ea_ en_ ec_
        subst ea_
        subst ec_
        clear en_
        refine Ak0 (n := 15) (S := fun w' => w'.cell? ad243 = some (.slice A243_0 ((Ac3 l1 0).f0).length c243_0) ∧ w'.cell? ad243 = some (.slice A243_0 ((Ac3 l1 0).f0).length c243_0)) (ds := [14]) #[false, false, false, false, false, false, false, false, false, false, false, false, false, false, false] (by kernel_rfl) rfl rfl ⟨hx243_0, hx244_0⟩ (fun hHeld => ?_); refine Af6 spec_l3BentTerm.tab12 spec_l3BentTerm.bits12 (fun HT_ HW_ => ?_)
        generalize w41.drew = w42 at HO229 HI0 HK HB HR243_0 HR244_0 hx243_0 hx244_0 hHeld ⊢
        refine pu 0 51 rfl rfl HT_ ?_
        refine pu 1 52 rfl rfl HT_ ?_
        refine pu 2 53 rfl rfl HT_ ?_
        refine pu 3 54 rfl rfl HT_ ?_
        refine pu 5 56 rfl rfl HT_ ?_
        refine pu 6 57 rfl rfl HT_ ?_
        refine pu 7 58 rfl rfl HT_ ?_
        refine pu 8 59 rfl rfl HT_ ?_
        refine tk 9 60 rfl rfl HT_ HW_ hHeld ?_
        refine pu 10 61 rfl rfl HT_ ?_
        refine Ax6 (σ := Value) 3 #[true, true, true, true, true, true, true, true, true, true, true, true, false, false, false] (fun s_ => [(55, .int .i64 t241), (62, s_)]) (fun s_ w' => (w'.cell? ad243 = some (.slice A243_0 ((Ac3 l1 0).f0).length c243_0) ∧ w'.cell? ad243 = some (.slice A243_0 ((Ac3 l1 0).f0).length c243_0)) ∧ (Kd.R (Kd.int .i64) 2 w' w.heap.size (fun k_ => some k_ ≠ (s_ : Value).ownBlock) (.slice Ao43 t227.length co43) t227) ∧ (Kd.R (Kd.int .i64) 2 w' w.heap.size (fun k_ => some k_ ≠ (.slice Ao43 t227.length co43 : Value).ownBlock) s_ y245) ∧ (Aa2 w0 w' g s0_0 t242) ∧ (Aa3 w w' g none) ∧ (Below w0.heap.size w0 w')) ?_ ?_
        rotate_left
        ·intro hCont
         refine Ay2 (i := 4) (j := 11) (Ni := some 55) (Nj := some 62) #[true, true, true, true, true, true, true, true, true, true, true, false, false, false, false] #[true, true, true, true, false, true, true, true, true, true, true, true, false, false, false] rfl rfl rfl rfl (Au2 HT_.out (by kernel_rfl)) (by decide) (by decide) (fun K hK => ?_) (fun K hK => ?_)
         ·skip
          refine gs Tryz.func56 #[.pointer (some ⟨g, 0, none⟩), .int .i64 (t227.length : Int)] ?_
          refine (spec_l1Next.calls g s0_0 t234 (t227.length : Int) t241 t242 w0 _ (Aa2.q HI0.out) (hsk HB.out (Aa2.ge HI0.out)) A33.out).mono ?_
          rintro e w44 ⟨rfl, hi, hb, hk⟩
          have HS0_ := Al1 hk (hHeld.1) (by first | (rw [Ac8]; exact hne243_0) | (show (Addr.add _ _).block ≠ _; rw [Ac8]; exact hne243_0) | exact hne243_0)
          have HS1_ := Al1 hk (hHeld.2) (by first | (rw [Ac8]; exact hne244_0) | (show (Addr.add _ _).block ≠ _; rw [Ac8]; exact hne244_0) | exact hne244_0)
          refine ⟨_, rfl, ?_⟩
          replace HO229 := Aa2.rk HI0 HO229 hk
          replace HK := am (Aa3.trans (kq HK.out) hk (.inl rfl))
          replace HB := am (hb)
          replace HI0 := am (hi)
          (try clear hb)
          (try clear hk)
          (try clear hi)
          refine hK.out _ _ ⟨HS0_, HS1_⟩ (fun hHeld => ?_)
          clear hK K
          refine nr (some 55) ?_
          refine on_ 11 (some 62) rfl rfl HT_ (fun K hK => ?_)
          refine Kd.R_lit_step (Kd.int .i64) _ 2 ?hg (N := 62) ?hd (xs := ([(((Ac3 l1 0).f0).length : Int), (-13), (-12)] : List Int)) (inner := [.int .i64 (((Ac3 l1 0).f0).length : Int), .int .i64 (-13), .int .i64 (-12)]) (ok := fun _ => True) (okp := fun _ => True) ?hr ?hp (fun _ hk => hk) trivial (Below.refl _ _) (Nat.le_refl _) (by simp) ?_; (case hd => rfl); (case hg => rfl); (case hr => first | (go_simp; done) | (go_simp; rfl)); (case hp => exact (Ad5.one (show Kd.M (Kd.int .i64) _ _ _ (((Ac3 l1 0).f0).length : Int) [.int .i64 (((Ac3 l1 0).f0).length : Int)] from rfl) (Ad5.one (show Kd.M (Kd.int .i64) _ _ _ (-13) [.int .i64 (-13)] from rfl) (Ad5.one (show Kd.M (Kd.int .i64) _ _ _ (-12) [.int .i64 (-12)] from rfl) (Ad5.none _ _)))))
          intro v246 w45 ho46 hb hg_ hnew_
          have HS0_ := (hb.cell (World.block_lt_of_cell? _ _ (hHeld.1))).trans (hHeld.1)
          have HS1_ := (hb.cell (World.block_lt_of_cell? _ _ (hHeld.2))).trans (hHeld.2)
          clear hg_ hnew_
          (first | rw [← Ny245.out] at ho46 | (simp only [Int.reduceToNat] at ho46; rw [← Ny245.out] at ho46))
          have HO247 := am (Kd.R_lower (Kd.R_new' ho46 (Kd.R_lt (rq HO229.out))) (Ab7 (w := w) (g := g) (row := none) (kq HK.out)))
          replace HO229 := am (Kd.R_elder' (rq HO229.out) (Kd.R_base ho46) hb)
          replace HK := am (Aa3.trans (kq HK.out) (Aa3.of_below hb g none) (.inl rfl))
          replace HB := am (Ab8 (hsk HB.out (Aa2.ge HI0.out)) hb)
          replace HI0 := Aa2.bl HI0 hb
          clear hb ho46
          refine hK.out _ _ ⟨HS0_, HS1_⟩ (fun hHeld => ?_)
          clear hK K
          refine nr (some 62) ?_
          exact nj (hCont (v246) _ ⟨hHeld, (rq (Kd.R_mono HO229.out (fun _ hk => hk.2))), (rq (Kd.R_mono HO247.out (fun _ hk => hk.2))), (Aa2.q HI0.out), (kq HK.out), (hsk HB.out (Aa2.ge HI0.out))⟩)
         ·skip
          refine Kd.R_lit_step (Kd.int .i64) _ 2 ?hg (N := 62) ?hd (xs := ([(((Ac3 l1 0).f0).length : Int), (-13), (-12)] : List Int)) (inner := [.int .i64 (((Ac3 l1 0).f0).length : Int), .int .i64 (-13), .int .i64 (-12)]) (ok := fun _ => True) (okp := fun _ => True) ?hr ?hp (fun _ hk => hk) trivial (Below.refl _ _) (Nat.le_refl _) (by simp) ?_; (case hd => rfl); (case hg => rfl); (case hr => first | (go_simp; done) | (go_simp; rfl)); (case hp => exact (Ad5.one (show Kd.M (Kd.int .i64) _ _ _ (((Ac3 l1 0).f0).length : Int) [.int .i64 (((Ac3 l1 0).f0).length : Int)] from rfl) (Ad5.one (show Kd.M (Kd.int .i64) _ _ _ (-13) [.int .i64 (-13)] from rfl) (Ad5.one (show Kd.M (Kd.int .i64) _ _ _ (-12) [.int .i64 (-12)] from rfl) (Ad5.none _ _)))))
          intro v246 w44 ho45 hb hg_ hnew_
          have HS0_ := (hb.cell (World.block_lt_of_cell? _ _ (hHeld.1))).trans (hHeld.1)
          have HS1_ := (hb.cell (World.block_lt_of_cell? _ _ (hHeld.2))).trans (hHeld.2)
          clear hg_ hnew_
          (first | rw [← Ny245.out] at ho45 | (simp only [Int.reduceToNat] at ho45; rw [← Ny245.out] at ho45))
          have HO247 := am (Kd.R_lower (Kd.R_new' ho45 (Kd.R_lt (rq HO229.out))) (Ab7 (w := w) (g := g) (row := none) (kq HK.out)))
          replace HO229 := am (Kd.R_elder' (rq HO229.out) (Kd.R_base ho45) hb)
          replace HR243_0 := am (Kd.C_below (cq HR243_0.out) hb)
          replace HR244_0 := am (Kd.C_below (cq HR244_0.out) hb)
          replace HK := am (Aa3.trans (kq HK.out) (Aa3.of_below hb g none) (.inl rfl))
          replace HB := am (Ab8 (hsk HB.out (Aa2.ge HI0.out)) hb)
          replace HI0 := Aa2.bl HI0 hb
          clear hb ho45
          refine hK.out _ _ ⟨HS0_, HS1_⟩ (fun hHeld => ?_)
          clear hK K
          refine nr (some 62) ?_
          refine on_ 4 (some 55) rfl rfl HT_ (fun K hK => ?_)
          refine gs Tryz.func56 #[.pointer (some ⟨g, 0, none⟩), .int .i64 (t227.length : Int)] ?_
          refine (spec_l1Next.calls g s0_0 t234 (t227.length : Int) t241 t242 w0 _ (Aa2.q HI0.out) (hsk HB.out (Aa2.ge HI0.out)) A33.out).mono ?_
          rintro e w46 ⟨rfl, hi, hb, hk⟩
          have HS0_ := Al1 hk (hHeld.1) (by first | (rw [Ac8]; exact hne243_0) | (show (Addr.add _ _).block ≠ _; rw [Ac8]; exact hne243_0) | exact hne243_0)
          have HS1_ := Al1 hk (hHeld.2) (by first | (rw [Ac8]; exact hne244_0) | (show (Addr.add _ _).block ≠ _; rw [Ac8]; exact hne244_0) | exact hne244_0)
          refine ⟨_, rfl, ?_⟩
          replace HO229 := Aa2.rk HI0 HO229 hk
          replace HO247 := Aa2.rk HI0 HO247 hk
          replace HK := am (Aa3.trans (kq HK.out) hk (.inl rfl))
          replace HB := am (hb)
          replace HI0 := am (hi)
          (try clear hb)
          (try clear hk)
          (try clear hi)
          refine hK.out _ _ ⟨HS0_, HS1_⟩ (fun hHeld => ?_)
          clear hK K
          refine nr (some 55) ?_
          exact nj (hCont (v246) _ ⟨hHeld, (rq (Kd.R_mono HO229.out (fun _ hk => hk.2))), (rq (Kd.R_mono HO247.out (fun _ hk => hk.2))), (Aa2.q HI0.out), (kq HK.out), (hsk HB.out (Aa2.ge HI0.out))⟩)
        clear HO229 HI0 HK HB
        rintro v246 w47 ⟨hS_, h0_, h1_, h2_, h3_, h4_⟩
        try dsimp only at hS_ h0_ h1_ h2_ h3_ h4_
        have HO229 := am h0_; have HO247 := am h1_; have HI0 := am h2_; have HK := am h3_; have HB := am h4_; clear h0_ h1_ h2_ h3_ h4_; have hHeld := hS_
        obtain ⟨Ao48, co48, eo48⟩ := Kd.R_slice HO247.out
        (first | subst eo48 | (injection eo48 with f1_ f2_ f3_; have f4_ := f1_.symm; have f5_ := f3_.symm; clear f1_ f2_ f3_; subst f4_; subst f5_))
        refine nj ?_
        refine on_ 12 (some 63) rfl rfl HT_ (fun K hK => ?_)
        refine gs Tryz.func26 #[.pointer (some ⟨g, 0, none⟩), .slice Ao48 y245.length co48] ?_
        refine (spec_l1Pick.calls g s0_0 t242 _ _ y245 t248 t249 w0 _ (Aa2.q HI0.out) (hsk HB.out (Aa2.ge HI0.out)) (cq (Kd.R_reads' HO247.out).2.2) ((Kd.R_reads' HO247.out).2.1) (Aj4 (Aa2.own_ne HI0.out HO247.out (by decide))) A35.out).mono ?_
        rintro e w49 ⟨rfl, hi, hb, hk⟩
        have HS0_ := Al1 hk (hHeld.1) (by first | (rw [Ac8]; exact hne243_0) | (show (Addr.add _ _).block ≠ _; rw [Ac8]; exact hne243_0) | exact hne243_0)
        have HS1_ := Al1 hk (hHeld.2) (by first | (rw [Ac8]; exact hne244_0) | (show (Addr.add _ _).block ≠ _; rw [Ac8]; exact hne244_0) | exact hne244_0)
        refine ⟨_, rfl, ?_⟩
        replace HO229 := Aa2.rk HI0 HO229 hk
        replace HO247 := Aa2.rk HI0 HO247 hk
        replace HK := am (Aa3.trans (kq HK.out) hk (.inl rfl))
        replace HB := am (hb)
        replace HI0 := am (hi)
        (try clear hb)
        (try clear hk)
        (try clear hi)
        have p38 : 0 ≤ (t241 : Int) := od
        have q38 : (t241 : Int) < ((t227.length : Int) : Int) := od
        obtain ⟨go38, co38, eo38, gb38, gl38, cl38, HG38⟩ := Kd.R_form HO229.out (by omega)
        (first | cases eo38 | (injection eo38 with ea_ en_ ec_; (first | subst ea_ | (injection ea_ with ea_; subst ea_)); subst ec_; clear en_))
        have GB38 := am gb38
        have GG38 := am HG38
        clear gb38 gl38 HG38
        obtain ⟨hx38_0, hf38_0⟩ := Kd.R_celln 0 HO229.out (t241 : Int) p38 q38
        replace p38 := eq_true p38
        replace q38 := eq_true q38
        have HN0_go38 := am (show g ≠ go38 from by have h_ := Aa2.own_ne HI0.out HO229.out (by decide); intro e_; exact h_ (by rw [e_]; rfl))
        have HP50 := Kd.R_putn HO229.out (t241 : Int) t248
        rw [← Ny250.out] at HP50
        have HQ50 := am HP50
        clear HP50
        refine hK.out _ _ ⟨HS0_, HS1_⟩ (fun hHeld => ?_)
        clear hK K
        refine nr (some 63) ?_
        refine pu 13 64 rfl rfl HT_ ?_
        refine Aw8 (i := 14) (N := none) #[true, true, true, true, true, true, true, true, true, true, true, true, true, true, true] rfl rfl (Ar7 HT_.out (by kernel_rfl)) (by decide) (fun K hK => ?_)
        refine At8 (w1 := ?_) (by rfl) rfl ?_ ?_
        rotate_left
        ·go_simp
         rfl
        refine hK.out _ _ ?_
        clear hK K
        refine Am5 (Ai6 HT_.out (by kernel_rfl)) ?_
        try go_wp2
        go_ret
        exact ⟨_, er, rq (Kd.R_mono HQ50.out (fun _ hk => trivial)), Aa2.q HI0.out, by repeat (first | (with_reducible first | exact HB.out | apply Ab6 | apply Ab1 | apply Ab3 | refine Ac2 ?_ (Nat.le_trans HL.out GB38.out) | refine Ac2 ?_ (Aa2.ge HI0.out)) | exact HB.out), ks HK.out⟩
       ·rw [if_neg c32] at H
        obtain ⟨c32b0, c32b1⟩ := bqf c32
        obtain ⟨y251, hy251⟩ : ∃ y_ : List Int, y_ = (([] : List Int)) := ⟨_, rfl⟩
        replace H : (spec_l3BentTerm.l0 kj4 y251 0 s0_0 t234) = some (r1, r2) := by first | (rw [hy251]; with_reducible exact H) | (have H2_ := (Option.bind_some _ _).symm.trans H; rw [hy251]; with_reducible exact H2_) | (have H2_ := (Option.bind_some _ _).symm.trans H; with_reducible exact H2_) | with_reducible exact H | (rw [hy251]; exact H) | exact H
        have Ny251 := am hy251
        clear hy251
        have H' := am H
        clear H
        go_wp2_with (first | (refine gl (some 30) Tryz.func57 rfl #[.pointer (some ⟨g, 0, none⟩), .pointer A1, .int .i64 a2, .int .i64 a3] ?_; refine (spec_l3Draw.calls kj4 g s0_0 s0_1 _ l1 a2 a3 t227 t230 w0 _ (Aa2.q HI0.out) (hsk HB.out (Aa2.ge HI0.out)) (Kd.C_foot_step HR1.out (kq HK.out)) A13.out).mono ?_; rintro e w51 ⟨v228, rfl, ho0, hi, hb, hk⟩; refine ⟨_, rfl, ?_⟩; have HO229 := am (Kd.R_lower ho0 (Ab7 (w := w) (g := g) (row := none) (kq HK.out))); replace HK := am (Aa3.trans (kq HK.out) hk (.inl rfl)); replace HB := am (hb); replace HI0 := am (hi); (try clear hb); (try clear hk); (try clear hi); (try clear ho0)) | (refine gl (some 32) Tryz.func55 rfl #[.pointer (some ⟨g, 0, none⟩), .int .i64 11] ?_; refine (spec_l1Chance.calls g s0_0 t230 11 true t232 w0 _ (Aa2.q HI0.out) (hsk HB.out (Aa2.ge HI0.out)) A14.out).mono ?_; rintro e w52 ⟨rfl, hi, hb, hk⟩; refine ⟨_, rfl, ?_⟩; replace HO229 := Aa2.rk HI0 HO229 hk; replace HK := am (Aa3.trans (kq HK.out) hk (.inl rfl)); replace HB := am (hb); replace HI0 := am (hi); (try clear hb); (try clear hk); (try clear hi)) | (refine gl (some 36) Tryz.func56 rfl #[.pointer (some ⟨g, 0, none⟩), .int .i64 4] ?_; refine (spec_l1Next.calls g s0_0 t232 4 t233 t234 w0 _ (Aa2.q HI0.out) (hsk HB.out (Aa2.ge HI0.out)) A16.out).mono ?_; rintro e w53 ⟨rfl, hi, hb, hk⟩; refine ⟨_, rfl, ?_⟩; replace HO229 := Aa2.rk HI0 HO229 hk; replace HK := am (Aa3.trans (kq HK.out) hk (.inl rfl)); replace HB := am (hb); replace HI0 := am (hi); (try clear hb); (try clear hk); (try clear hi)) | (refine rl 66 rfl 2 [] ?_; intro v252 w54 ho55 hb hg_ hnew_; clear hg_ hnew_; (first | rw [← Ny251.out] at ho55 | (simp only [Int.reduceToNat] at ho55; rw [← Ny251.out] at ho55)); have HO253 := am (Kd.R_lower (Kd.R_new' ho55 (Kd.R_lt (rq HO229.out))) (Ab7 (w := w) (g := g) (row := none) (kq HK.out))); replace HO229 := am (Kd.R_elder' (rq HO229.out) (Kd.R_base ho55) hb); replace HK := am (Aa3.trans (kq HK.out) (Aa3.of_below hb g none) (.inl rfl)); replace HB := am (Ab8 (hsk HB.out (Aa2.ge HI0.out)) hb); replace HI0 := Aa2.bl HI0 hb; clear hb ho55))
        go_loopg [10, 11] kj4 (fun kq v10 v11 w' => ∃ (x10_2 : List Int) (x11_2 : Int) (x1001_2 : Int), v11 = .int .i64 x11_2 ∧ Aside0 (spec_l3BentTerm.l0 kq x10_2 x11_2 s0_0 x1001_2 = some (r1, r2)) ∧ Aside0 (kq ≤ kj4) ∧ Aside0 (Kd.R (Kd.int .i64) 2 w' w.heap.size (fun _ => True) v10 x10_2) ∧ Aside0 (Aa2 w0 w' g s0_0 x1001_2) ∧ Aside0 (Aa3 w w' g none) ∧ Aside0 (Below w0.heap.size w0 w'))
        case atStart => exact ⟨(y251), (0), (t234), et, H', ⟨Nat.le_refl _⟩, ⟨rq (Kd.R_mono HO253.out (fun _ hk => trivial))⟩, ⟨Aa2.q HI0.out⟩, ⟨kq HK.out⟩, ⟨hsk HB.out (Aa2.ge HI0.out)⟩⟩
        case round =>
         clear H'
         try clear c6; try clear c6b0; try clear c6b1; try clear c7; try clear c7b0; try clear c7b1; try clear c10; try clear c15; try clear c17; try clear c17b0; try clear c17b1; try clear c19b0; try clear c19b1; try clear c20b0; try clear c20b1; try clear q25; try clear c26; try clear c26b0; try clear c26b1; try clear c27; try clear c32; try clear c32b0; try clear c32b1; try clear c34; try clear c34b0; try clear c34b1; try clear c36b0; try clear c37b0; try clear p38; try clear q38; try clear hx219_0; try clear hx220_0; try clear hx221_0; try clear hx222_0; try clear hx243_0; try clear hx244_0; try clear hx38_0; try clear p219; try clear p220; try clear p221; try clear p222; try clear p243; try clear p244; try clear p38; try clear q219; try clear q220; try clear q221; try clear q222; try clear q243; try clear q244; try clear q25; try clear q38
         obtain ⟨x10_2, x11_2, x1001_2, rfl, HA, HK2, HO_10, HI0, HK, HB⟩ := hrel
         cases gk with
         | zero => exact absurd HA.out (by simp [spec_l3BentTerm.l0])
         | succ k2 =>
          have H := HA.out
          clear HA
          simp only [spec_l3BentTerm.l0] at H
          obtain ⟨y254, hy254⟩ : ∃ y_ : List Int, y_ = (([24, 25] : List Int)) := ⟨_, rfl⟩
          replace H : ((spec_l1Pick.f s0_0 x1001_2 y254).bind fun bt257 => (if x11_2 < bt257.1 then ((spec_l1Pick.f s0_0 bt257.2 (([1, 2, 0] : List Int))).bind fun bt262 => (if x10_2.length < 17592186044416 then (spec_l3BentTerm.l0 k2 (x10_2 ++ [bt262.1]) (wrap64 (x11_2 + 1)) s0_0 bt262.2) else (none))) else (some (x10_2, bt257.2)))) = some (r1, r2) := by first | (rw [hy254]; with_reducible exact H) | (have H2_ := (Option.bind_some _ _).symm.trans H; rw [hy254]; with_reducible exact H2_) | (have H2_ := (Option.bind_some _ _).symm.trans H; with_reducible exact H2_) | with_reducible exact H | (rw [hy254]; exact H) | exact H
          have Ny254 := am hy254
          clear hy254
          obtain ⟨⟨t257, t258⟩, A56, H⟩ := ob H
          try dsimp only at H
          by_cases c57 : x11_2 < t257
          ·rw [if_pos c57] at H
           have c57b0 : decide (x11_2 < t257) = true := decide_eq_true c57
           clear c57
           obtain ⟨y259, hy259⟩ : ∃ y_ : List Int, y_ = (([1, 2, 0] : List Int)) := ⟨_, rfl⟩
           replace H : ((spec_l1Pick.f s0_0 t258 y259).bind fun bt262 => (if x10_2.length < 17592186044416 then (spec_l3BentTerm.l0 k2 (x10_2 ++ [bt262.1]) (wrap64 (x11_2 + 1)) s0_0 bt262.2) else (none))) = some (r1, r2) := by first | (rw [hy259]; with_reducible exact H) | (have H2_ := (Option.bind_some _ _).symm.trans H; rw [hy259]; with_reducible exact H2_) | (have H2_ := (Option.bind_some _ _).symm.trans H; with_reducible exact H2_) | with_reducible exact H | (rw [hy259]; exact H) | exact H
           have Ny259 := am hy259
           clear hy259
           obtain ⟨⟨t262, t263⟩, A58, H⟩ := ob H
           try dsimp only at H
           obtain ⟨c59, H⟩ := ifs H
           have LMc59 := am c59
           clear c59
           obtain ⟨y264, hy264⟩ : ∃ y_ : List Int, y_ = (x10_2 ++ [t262]) := ⟨_, rfl⟩
           replace H : (spec_l3BentTerm.l0 k2 y264 (wrap64 (x11_2 + 1)) s0_0 t263) = some (r1, r2) := by first | (rw [hy264]; with_reducible exact H) | (have H2_ := (Option.bind_some _ _).symm.trans H; rw [hy264]; with_reducible exact H2_) | (have H2_ := (Option.bind_some _ _).symm.trans H; with_reducible exact H2_) | with_reducible exact H | (rw [hy264]; exact H) | exact H
           have Ny264 := am hy264
           clear hy264
           have H' := am H
           clear H
           go_wp2_with (first | (refine rl 69 rfl 2 [24, 25] ?_; intro v255 w60 ho61 hb hg_ hnew_; clear hg_ hnew_; (first | rw [← Ny254.out] at ho61 | (simp only [Int.reduceToNat] at ho61; rw [← Ny254.out] at ho61)); have HO256 := am (Kd.R_lower (Kd.R_new' ho61 (Kd.R_lt (rq HO_10.out))) (Ab7 (w := w) (g := g) (row := none) (kq HK.out))); replace HO_10 := am (Kd.R_elder' (rq HO_10.out) (Kd.R_base ho61) hb); replace HK := am (Aa3.trans (kq HK.out) (Aa3.of_below hb g none) (.inl rfl)); replace HB := am (Ab8 (hsk HB.out (Aa2.ge HI0.out)) hb); replace HI0 := Aa2.bl HI0 hb; clear hb ho61; obtain ⟨Ao62, co62, rfl⟩ := Kd.R_slice HO256.out) | (refine gl (some 70) Tryz.func26 rfl #[.pointer (some ⟨g, 0, none⟩), .slice Ao62 y254.length co62] ?_; refine (spec_l1Pick.calls g s0_0 x1001_2 _ _ y254 t257 t258 w0 _ (Aa2.q HI0.out) (hsk HB.out (Aa2.ge HI0.out)) (cq (Kd.R_reads' HO256.out).2.2) ((Kd.R_reads' HO256.out).2.1) (Aj4 (Aa2.own_ne HI0.out HO256.out (by decide))) A56.out).mono ?_; rintro e w63 ⟨rfl, hi, hb, hk⟩; refine ⟨_, rfl, ?_⟩; replace HO_10 := Aa2.rk HI0 HO_10 hk; replace HO256 := Aa2.rk HI0 HO256 hk; replace HK := am (Aa3.trans (kq HK.out) hk (.inl rfl)); replace HB := am (hb); replace HI0 := am (hi); (try clear hb); (try clear hk); (try clear hi)) | (refine rl 76 rfl 2 [1, 2, 0] ?_; intro v260 w64 ho65 hb hg_ hnew_; clear hg_ hnew_; (first | rw [← Ny259.out] at ho65 | (simp only [Int.reduceToNat] at ho65; rw [← Ny259.out] at ho65)); have HO261 := am (Kd.R_lower (Kd.R_new' (Kd.R_new' ho65 (Kd.R_lt (rq HO_10.out))) (Kd.R_lt (rq HO256.out))) (Ab7 (w := w) (g := g) (row := none) (kq HK.out))); replace HO_10 := am (Kd.R_elder' (rq HO_10.out) (Kd.R_base ho65) hb); replace HO256 := am (Kd.R_elder' (rq HO256.out) (Kd.R_base ho65) hb); replace HK := am (Aa3.trans (kq HK.out) (Aa3.of_below hb g none) (.inl rfl)); replace HB := am (Ab8 (hsk HB.out (Aa2.ge HI0.out)) hb); replace HI0 := Aa2.bl HI0 hb; clear hb ho65; obtain ⟨Ao66, co66, rfl⟩ := Kd.R_slice HO261.out) | (refine gl (some 77) Tryz.func26 rfl #[.pointer (some ⟨g, 0, none⟩), .slice Ao66 y259.length co66] ?_; refine (spec_l1Pick.calls g s0_0 t258 _ _ y259 t262 t263 w0 _ (Aa2.q HI0.out) (hsk HB.out (Aa2.ge HI0.out)) (cq (Kd.R_reads' HO261.out).2.2) ((Kd.R_reads' HO261.out).2.1) (Aj4 (Aa2.own_ne HI0.out HO261.out (by decide))) A58.out).mono ?_; rintro e w67 ⟨rfl, hi, hb, hk⟩; refine ⟨_, rfl, ?_⟩; replace HO_10 := Aa2.rk HI0 HO_10 hk; replace HO256 := Aa2.rk HI0 HO256 hk; replace HO261 := Aa2.rk HI0 HO261 hk; replace HK := am (Aa3.trans (kq HK.out) hk (.inl rfl)); replace HB := am (hb); replace HI0 := am (hi); (try clear hb); (try clear hk); (try clear hi)) | ((with_reducible refine Ae8 (b := .append) (xs := #[.tmp 74, .tmp 78]) rfl ?_); at_builtin; refine Kd.R_append (Kd.int .i64) w.heap.size rfl (.tmp 74) (.tmp 78) 27 2 (.int .i64 0) 8 rfl Tryz.underlying27 An3 rfl (by decide) (by omega) u10 x10_2 t262 [.int .i64 t262] (fun k_ => some k_ ≠ (.slice Ao62 y254.length co62 : Value).ownBlock ∧ some k_ ≠ (.slice Ao66 y259.length co66 : Value).ownBlock) (fun _ => False) rfl rfl ?aP (fun _ hk => hk.elim) ?aF ?aO (Below.refl _ _) ?aS ?aL ?_; (case aP => exact rfl); (case aF => exact (fun k_ hk => ⟨Kd.fresh' (Kd.R_lt (rq HO256.out)) k_ hk, Kd.fresh' (Kd.R_lt (rq HO261.out)) k_ hk⟩)); (case aO => exact (by (with_reducible repeat (first | apply Kd.R_alloc | apply Kd.R_drewN | apply Kd.R_drew)); exact Kd.R_mono HO_10.out (fun _ hk => by first | exact ⟨hk.1.2, hk.2⟩ | exact ⟨hk.2, hk.1.2⟩ | trivial))); (case aS => exact (Ab7 (w := w) (g := g) (row := none) (kq HK.out))); (case aL => have := LMc59.out; omega); intro v265 w68 ho hb hg hat; rw [← Ny264.out] at ho; replace HO256 := am (Kd.R_after (ok := (fun k_ => some k_ ≠ (.slice Ao66 y259.length co66 : Value).ownBlock)) (by (with_reducible repeat (first | apply Kd.R_alloc | apply Kd.R_drewN | apply Kd.R_drew)); exact Kd.R_mono HO256.out (fun _ hk => by first | exact ⟨hk.2, hk.1.2⟩ | exact ⟨hk.1.2, hk.2⟩ | trivial)) hg hat); replace HO261 := am (Kd.R_after (ok := (fun k_ => some k_ ≠ (.slice Ao62 y254.length co62 : Value).ownBlock)) (by (with_reducible repeat (first | apply Kd.R_alloc | apply Kd.R_drewN | apply Kd.R_drew)); exact Kd.R_mono HO261.out (fun _ hk => by first | exact ⟨hk.2, hk.1.2⟩ | exact ⟨hk.1.2, hk.2⟩ | trivial)) hg hat); replace HB := am (Ah7 (hsk HB.out (Aa2.ge HI0.out)) HL.out hb); replace HI0 := am (Aa2.grown (Aa2.q HI0.out) hg (Aa2.own_ne HI0.out HO_10.out (by decide))); replace HK := am (Aa3.trans (kq HK.out) (Aa3.of_grown hg g) (Kd.R_base2 HO_10.out)); have HO266 := am (ho); clear HO_10; clear ho hb hg hat))
           go_roundg k2
           case measure => have := HJ4.out; have := HK2.out; omega
           case rel => exact ⟨(y264), (wrap64 (x11_2 + 1)), (t263), et, H', ⟨by have := HJ4.out; have := HK2.out; omega⟩, ⟨rq (Kd.R_mono HO266.out (fun _ hk => trivial))⟩, ⟨Aa2.q HI0.out⟩, ⟨kq HK.out⟩, ⟨hsk HB.out (Aa2.ge HI0.out)⟩⟩
          ·rw [if_neg c57] at H
           have c57b0 : decide (x11_2 < t257) = false := decide_eq_false c57
           clear c57
           simp only [Option.some.injEq, Prod.mk.injEq] at H
           obtain ⟨rfl, rfl⟩ := H
           go_wp2_with (first | (refine rl 69 rfl 2 [24, 25] ?_; intro v255 w69 ho70 hb hg_ hnew_; clear hg_ hnew_; (first | rw [← Ny254.out] at ho70 | (simp only [Int.reduceToNat] at ho70; rw [← Ny254.out] at ho70)); have HO256 := am (Kd.R_lower (Kd.R_new' ho70 (Kd.R_lt (rq HO_10.out))) (Ab7 (w := w) (g := g) (row := none) (kq HK.out))); replace HO_10 := am (Kd.R_elder' (rq HO_10.out) (Kd.R_base ho70) hb); replace HK := am (Aa3.trans (kq HK.out) (Aa3.of_below hb g none) (.inl rfl)); replace HB := am (Ab8 (hsk HB.out (Aa2.ge HI0.out)) hb); replace HI0 := Aa2.bl HI0 hb; clear hb ho70; obtain ⟨Ao71, co71, rfl⟩ := Kd.R_slice HO256.out) | (refine gl (some 70) Tryz.func26 rfl #[.pointer (some ⟨g, 0, none⟩), .slice Ao71 y254.length co71] ?_; refine (spec_l1Pick.calls g s0_0 x1001_2 _ _ y254 t257 t258 w0 _ (Aa2.q HI0.out) (hsk HB.out (Aa2.ge HI0.out)) (cq (Kd.R_reads' HO256.out).2.2) ((Kd.R_reads' HO256.out).2.1) (Aj4 (Aa2.own_ne HI0.out HO256.out (by decide))) A56.out).mono ?_; rintro e w72 ⟨rfl, hi, hb, hk⟩; refine ⟨_, rfl, ?_⟩; replace HO_10 := Aa2.rk HI0 HO_10 hk; replace HO256 := Aa2.rk HI0 HO256 hk; replace HK := am (Aa3.trans (kq HK.out) hk (.inl rfl)); replace HB := am (hb); replace HI0 := am (hi); (try clear hb); (try clear hk); (try clear hi)))
           go_ret
           exact ⟨_, er, rq (Kd.R_mono HO_10.out (fun _ hk => trivial)), Aa2.q HI0.out, hsk HB.out (Aa2.ge HI0.out), kq HK.out⟩
    ·replace c15 := Bool.eq_false_iff.mpr c15
     subst c15
     rw [if_neg (show ¬ (false = true) by decide)] at H
     simp only [Option.some.injEq, Prod.mk.injEq] at H
     obtain ⟨rfl, rfl⟩ := H
     go_wp2_with (first | (refine gl (some 30) Tryz.func57 rfl #[.pointer (some ⟨g, 0, none⟩), .pointer A1, .int .i64 a2, .int .i64 a3] ?_; refine (spec_l3Draw.calls kj4 g s0_0 s0_1 _ l1 a2 a3 t227 t230 w0 _ (Aa2.q HI0.out) (hsk HB.out (Aa2.ge HI0.out)) (Kd.C_foot_step HR1.out (kq HK.out)) A13.out).mono ?_; rintro e w73 ⟨v228, rfl, ho0, hi, hb, hk⟩; refine ⟨_, rfl, ?_⟩; have HO229 := am (Kd.R_lower ho0 (Ab7 (w := w) (g := g) (row := none) (kq HK.out))); replace HK := am (Aa3.trans (kq HK.out) hk (.inl rfl)); replace HB := am (hb); replace HI0 := am (hi); (try clear hb); (try clear hk); (try clear hi); (try clear ho0)) | (refine gl (some 32) Tryz.func55 rfl #[.pointer (some ⟨g, 0, none⟩), .int .i64 11] ?_; refine (spec_l1Chance.calls g s0_0 t230 11 false t232 w0 _ (Aa2.q HI0.out) (hsk HB.out (Aa2.ge HI0.out)) A14.out).mono ?_; rintro e w74 ⟨rfl, hi, hb, hk⟩; refine ⟨_, rfl, ?_⟩; replace HO229 := Aa2.rk HI0 HO229 hk; replace HK := am (Aa3.trans (kq HK.out) hk (.inl rfl)); replace HB := am (hb); replace HI0 := am (hi); (try clear hb); (try clear hk); (try clear hi)))
     go_ret
     exact ⟨_, er, rq HO229.out, Aa2.q HI0.out, hsk HB.out (Aa2.ge HI0.out), kq HK.out⟩
end Go.Proofs.YtbdpnkpienpnaaaGreatDoor.P
