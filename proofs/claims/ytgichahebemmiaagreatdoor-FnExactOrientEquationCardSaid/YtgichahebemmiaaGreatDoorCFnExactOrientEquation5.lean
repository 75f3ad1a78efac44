/- A part of the proof of the law FnExactOrientEquation. -/
import Derived.Laws.StructEq
import Derived.Test.YtgichahebemmiaaGreatDoorCFnExactOrientEquation0
import Derived.Test.YtgichahebemmiaaGreatDoorCFnExactOrientEquation1
import Derived.Test.YtgichahebemmiaaGreatDoorCFnExactOrientEquation2
import Derived.Test.YtgichahebemmiaaGreatDoorCFnExactOrientEquation3
import Derived.Test.YtgichahebemmiaaGreatDoorCFnExactOrientEquation4
import Derived.Test.YtgichahebemmiaaGreatDoorCFnExactOrientEquation17
namespace Go.Proofs.YtgichahebemmiaaGreatDoor.P
open Go.RowKit Go.Proofs.YtgichahebemmiaaGreatDoorW.PrintWords Go.Proofs.YtgichahebemmiaaGreatDoorW.PrintLast Go.Proofs.YtgichahebemmiaaGreatDoorW.PrintMore
attribute [local go_sem] Ae7 Ae4 Af9 Ag0 Ad3 Ad2 Ae8 Ae5   -- for this text's walks alone
set_option linter.unusedVariables false
set_option linter.unusedSimpArgs false
mutual
def spec_l7Table.l0 : Nat → List (S36) → List Int → List Int → List Int → Int → List Bool → Int → Option (List Bool)
 | 0, _, _, _, _, _, _, _ => none
 | k + 1, x0, x1, x2, x3, x9, x10, x11 => if x11 ≥ 0 then (spec_l7Table.l1 k x0 x1 x2 x3 x9 x10 x11 (wrap64 (x9 - 1))) else (some x10)
def spec_l7Table.l1 : Nat → List (S36) → List Int → List Int → List Int → Int → List Bool → Int → Int → Option (List Bool)
 | 0, _, _, _, _, _, _, _, _ => none
 | k + 1, x0, x1, x2, x3, x9, x10, x11, x12 => if x12 ≥ 0 then ((spec_l7Cell.f k x0 x1 x2 x3 x11 x12 x10).bind fun t194 => (if 0 ≤ (wrap64 ((wrap64 (x11 * x9)) + x12)) then (if (wrap64 ((wrap64 (x11 * x9)) + x12)) < (x10.length : Int) then (spec_l7Table.l1 k x0 x1 x2 x3 x9 (x10.set ((wrap64 ((wrap64 (x11 * x9)) + x12)) : Int).toNat t194) x11 (wrap64 (x12 - 1))) else (none)) else (none))) else (spec_l7Table.l0 k x0 x1 x2 x3 x9 x10 (wrap64 (x11 - 1)))
end
def spec_l7Table.f (k : Nat) (l0 : List (S36)) (l1 : List Int) (l2 : List Int) (l3 : List Int) : Option (List Bool) := if 0 ≤ (wrap64 ((l2.length : Int) * (l3.length : Int))) then (if (wrap64 ((l2.length : Int) * (l3.length : Int)) : Int).toNat ≤ 281474976710656 then (spec_l7Table.l0 k l0 l1 l2 l3 (l3.length : Int) (List.replicate (wrap64 ((l2.length : Int) * (l3.length : Int)) : Int).toNat false) (wrap64 ((l2.length : Int) - 1))) else (none)) else (none)
set_option maxHeartbeats 8000000 in
set_option maxRecDepth 100000 in
theorem spec_l7Table.calls (k : Nat) (A0 : Option Addr) (l0 : List (S36)) (A1 : Option Addr) (c1 : Nat) (l1 : List Int) (A2 : Option Addr) (c2 : Nat) (l2 : List Int) (A3 : Option Addr) (c3 : Nat) (l3 : List Int) (r : List Bool) (w : World) (hr0 : Kd.C k36 w A0 l0.length l0) (hr1 : Kd.C (Kd.int .i64) w A1 l1.length l1) (hc1 : l1.length ≤ c1) (hr2 : Kd.C (Kd.int .i64) w A2 l2.length l2) (hc2 : l2.length ≤ c2) (hr3 : Kd.C (Kd.int .i64) w A3 l3.length l3) (hc3 : l3.length ≤ c3) (h : spec_l7Table.f k l0 l1 l2 l3 = some r) :
  Calls Tryz.prog 79 #[.pointer A0, .slice A1 l1.length c1, .slice A2 l2.length c2, .slice A3 l3.length c3] w fun e w' => ∃ v0_ : Value, e = .returned (v0_) ∧ Kd.R Kd.bool 4 w' w.heap.size (fun _ => True) v0_ r ∧ Below w.heap.size w w' := by
 have HR0 := am hr0
 clear hr0
 have HR1 := am hr1
 have HC1 := am hc1
 clear hr1 hc1
 have HR2 := am hr2
 have HC2 := am hc2
 clear hr2 hc2
 have HR3 := am hr3
 have HC3 := am hc3
 clear hr3 hc3
 have HB := am (Below.refl w.heap.size w)
 have H : (if 0 ≤ (wrap64 ((l2.length : Int) * (l3.length : Int))) then (if (wrap64 ((l2.length : Int) * (l3.length : Int)) : Int).toNat ≤ 281474976710656 then (spec_l7Table.l0 k l0 l1 l2 l3 (l3.length : Int) (List.replicate (wrap64 ((l2.length : Int) * (l3.length : Int)) : Int).toNat false) (wrap64 ((l2.length : Int) - 1))) else (none)) else (none)) = some r := h
 clear h
 obtain ⟨ji5, hji5⟩ : ∃ j_ : Int, (wrap64 ((l2.length : Int) * (l3.length : Int))) = j_ := ⟨_, rfl⟩
 replace H : (if 0 ≤ (ji5) then (if (ji5 : Int).toNat ≤ 281474976710656 then (spec_l7Table.l0 k l0 l1 l2 l3 (l3.length : Int) (List.replicate (ji5 : Int).toNat false) (wrap64 ((l2.length : Int) - 1))) else (none)) else (none)) = some r := by first | (rw [hji5] at H; exact H) | (simp only [hji5] at H ⊢; exact H)
 have hji5w : (IntKind.i64.wrap ((l2.length : Int) * (l3.length : Int))) = ji5 := (Ac9 _).trans hji5
 obtain ⟨c6b0, c6b1, H⟩ := ifd H
 obtain ⟨c7b0, c7b1, H⟩ := ifd H
 obtain ⟨y191, hy191⟩ : ∃ y_ : List Bool, y_ = (List.replicate (ji5 : Int).toNat false) := ⟨_, rfl⟩
 replace H : (spec_l7Table.l0 k l0 l1 l2 l3 (l3.length : Int) y191 (wrap64 ((l2.length : Int) - 1))) = some r := by first | (rw [hy191]; with_reducible exact H) | (have H2_ := (Option.bind_some _ _).symm.trans H; rw [hy191]; with_reducible exact H2_) | (have H2_ := (Option.bind_some _ _).symm.trans H; with_reducible exact H2_) | with_reducible exact H | (rw [hy191]; exact H) | exact H
 have Ny191 := am hy191
 clear hy191
 have H' := am H
 clear H
 go_enter Tryz.func79, Tryz.ntmps79
 go_wp2_with (first | ((with_reducible refine Ae9 (N := 19) rfl ?_); refine Kd.R_make Kd.bool _ 4 rfl (N := 19) rfl 103 _ _ rfl ji5 rfl rfl Tryz.underlying103 (.bool false) 1 info4 rfl (by decide) (by omega) false (ok := fun _ => True) (okp := fun _ => True) rfl (fun _ hk => hk) trivial od (Nat.le_trans (Nat.mul_le_mul_right _ (of_decide_eq_true (by first | (with_reducible assumption) | assumption) : ji5.toNat ≤ 281474976710656)) (by omega)) (Below.refl _ _) (Nat.le_refl _) ?_; intro v192 w8 ho9 hb hg_ hnew_; clear hg_ hnew_; (first | rw [← Ny191.out] at ho9 | (simp only [Int.reduceToNat] at ho9; rw [← Ny191.out] at ho9)); have HO193 := am (Kd.R_lower ho9 (Aa6 (hq HB.out))); replace HB := sb HB hb; clear hb ho9))
 go_loopg [11] k (fun kq v11 w' => ∃ (x10_1 : List Bool) (x11_1 : Int), v11 = .int .i64 x11_1 ∧ Aside0 (spec_l7Table.l0 kq l0 l1 l2 l3 (l3.length : Int) x10_1 x11_1 = some r) ∧ Aside0 (kq ≤ k) ∧ Aside0 (Kd.R Kd.bool 4 w' w.heap.size (fun _ => True) v192 x10_1) ∧ Aside0 (Below w.heap.size w w'))
 case atStart => exact ⟨(y191), (wrap64 ((l2.length : Int) - 1)), et, H', ⟨Nat.le_refl _⟩, ⟨rq HO193.out⟩, ⟨hq HB.out⟩⟩
 case round =>
  clear H'
  try clear c1; try clear c2; try clear c3; try clear c6b0; try clear c6b1; try clear c7b0; try clear c7b1
  obtain ⟨x10_1, x11_1, rfl, HA, HK1, HO_10, HB⟩ := hrel
  cases gk with
  | zero => exact absurd HA.out (by simp [spec_l7Table.l0])
  | succ k1 =>
   have H := HA.out
   clear HA
   simp only [spec_l7Table.l0] at H
   by_cases c10 : x11_1 ≥ 0
   ·rw [if_pos c10] at H
    have c10b0 : decide (0 ≤ x11_1) = true := decide_eq_true c10
    clear c10
    have H' := am H
    clear H
    go_wp2
    go_loopg [12] k1 (fun kq v12 w' => ∃ (x10_2 : List Bool) (x12_2 : Int), v12 = .int .i64 x12_2 ∧ Aside0 (spec_l7Table.l1 kq l0 l1 l2 l3 (l3.length : Int) x10_2 x11_1 x12_2 = some r) ∧ Aside0 (kq ≤ k1) ∧ Aside0 (Kd.R Kd.bool 4 w' w.heap.size (fun _ => True) v192 x10_2) ∧ Aside0 (Below w.heap.size w w'))
    case atStart => exact ⟨(x10_1), (wrap64 ((l3.length : Int) - 1)), et, H', ⟨Nat.le_refl _⟩, ⟨rq HO_10.out⟩, ⟨hq HB.out⟩⟩
    case round =>
     clear H'
     try clear c1; try clear c2; try clear c3; try clear c6b0; try clear c6b1; try clear c7b0; try clear c7b1; try clear c10; try clear c10b0
     obtain ⟨x10_2, x12_2, rfl, HA, HK2, HO_10, HB⟩ := hrel
     cases gk with
     | zero => exact absurd HA.out (by simp [spec_l7Table.l1])
     | succ k2 =>
      have H := HA.out
      clear HA
      simp only [spec_l7Table.l1] at H
      by_cases c11 : x12_2 ≥ 0
      ·rw [if_pos c11] at H
       have c11b0 : decide (0 ≤ x12_2) = true := decide_eq_true c11
       clear c11
       obtain ⟨t194, A12, H⟩ := ob H
       try dsimp only at H
       obtain ⟨ji13, hji13⟩ : ∃ j_ : Int, (wrap64 ((wrap64 (x11_1 * (l3.length : Int))) + x12_2)) = j_ := ⟨_, rfl⟩
       replace H : (if 0 ≤ (ji13) then (if (ji13) < (x10_2.length : Int) then (spec_l7Table.l1 k2 l0 l1 l2 l3 (l3.length : Int) (x10_2.set ((ji13) : Int).toNat t194) x11_1 (wrap64 (x12_2 - 1))) else (none)) else (none)) = some r := by first | (rw [hji13] at H; exact H) | (simp only [hji13] at H ⊢; exact H)
       (try rw [hji13] at A12)
       have hji13w : (IntKind.i64.wrap ((wrap64 (x11_1 * (l3.length : Int))) + x12_2)) = ji13 := (Ac9 _).trans hji13
       obtain ⟨c14b0, H⟩ := ife H
       obtain ⟨c15b0, H⟩ := ife H
       obtain ⟨y195, hy195⟩ : ∃ y_ : List Bool, y_ = (x10_2.set ((ji13) : Int).toNat t194) := ⟨_, rfl⟩
       replace H : (spec_l7Table.l1 k2 l0 l1 l2 l3 (l3.length : Int) y195 x11_1 (wrap64 (x12_2 - 1))) = some r := by first | (rw [hy195]; with_reducible exact H) | (have H2_ := (Option.bind_some _ _).symm.trans H; rw [hy195]; with_reducible exact H2_) | (have H2_ := (Option.bind_some _ _).symm.trans H; with_reducible exact H2_) | with_reducible exact H | (rw [hy195]; exact H) | exact H
       have Ny195 := am hy195
       clear hy195
       have H' := am H
       clear H
       obtain ⟨Ao17, co17, eo17⟩ := Kd.R_slice HO_10.out
       subst eo17
       go_wp2_with (first | (refine gl (some 46) Tryz.func96 rfl #[.pointer A0, .slice A1 l1.length c1, .slice A2 l2.length c2, .slice A3 l3.length c3, .int .i64 x11_1, .int .i64 x12_2, .slice Ao17 x10_2.length co17] ?_; refine (spec_l7Cell.calls k2 _ l0 _ _ l1 _ _ l2 _ _ l3 x11_1 x12_2 _ _ x10_2 t194 _ (cq (Kd.C_below HR0.out HB.out)) (cq (Kd.C_below HR1.out HB.out)) HC1.out (cq (Kd.C_below HR2.out HB.out)) HC2.out (cq (Kd.C_below HR3.out HB.out)) HC3.out (cq (Kd.R_reads' HO_10.out).2.2) ((Kd.R_reads' HO_10.out).2.1) A12.out).mono ?_; rintro e w18 ⟨rfl, hb⟩; refine ⟨_, rfl, ?_⟩; replace HO_10 := rb HO_10 hb; replace HB := sb HB hb; (try clear hb); (try clear hk); have p16 : 0 ≤ ((ji13) : Int) := od; have q16 : ((ji13) : Int) < ((x10_2.length : Int) : Int) := od; obtain ⟨go16, co16, eo16, gb16, gl16, cl16, HG16⟩ := Kd.R_form HO_10.out (by omega); (first | cases eo16 | (injection eo16 with ea_ en_ ec_; (first | subst ea_ | (injection ea_ with ea_; subst ea_)); subst ec_; clear en_)); have GB16 := am gb16; have GG16 := am HG16; clear gb16 gl16 HG16; obtain ⟨hx16_0, hf16_0⟩ := Kd.R_celln false HO_10.out ((ji13) : Int) p16 q16; replace p16 := eq_true p16; replace q16 := eq_true q16; obtain ⟨hy19_, hz19_⟩ := Kd.R_celln false HO_10.out ((ji13) : Int) od od; have HP19 := Kd.R_putg HO_10.out ((ji13) : Int) t194) | ((with_reducible refine Aj2 (t := 4) (p := 47) rfl ?_); refine Ai1 (t := 4) (p := 47) (v := ?vo_w20) (w1 := (w18.setCell ⟨go16, ((ji13) : Int).toNat, none⟩ (.bool t194))) ?hg ?ho ?hn ?hr ?_; (case ho => rfl); (case hg => rfl); (case hn => rfl); (case hr => first | (go_simp; done) | (go_simp; rfl)); intro w20 hw; have hg : w18.grownBy w20 (some go16) := (by rw [hw]; exact HP19.2); have hp_ : Kd.R Kd.bool 4 w20 w.heap.size (fun _ => True) (.slice (some ⟨go16, 0, none⟩) x10_2.length co17) y195 := (by rw [hw, Ny195.out]; exact HP19.1); clear HP19; replace HO_10 := am (hp_); replace HB := am ((by rw [hw]; exact Ah5 (HB.out) GB16.out : Below w.heap.size w w20)); clear hg hw hp_))
       go_roundg k2
       case measure => have := HK1.out; have := HK2.out; omega
       case rel => exact ⟨(y195), (wrap64 (x12_2 - 1)), et, H', ⟨by have := HK1.out; have := HK2.out; omega⟩, ⟨rq HO_10.out⟩, ⟨hq HB.out⟩⟩
      ·rw [if_neg c11] at H
       have c11b0 : decide (0 ≤ x12_2) = false := decide_eq_false c11
       clear c11
       have H' := am H
       clear H
       go_wp2
       go_roundg k2
       case measure => have := HK1.out; have := HK2.out; omega
       case rel => exact ⟨(x10_2), (wrap64 (x11_1 - 1)), et, H', ⟨by have := HK1.out; have := HK2.out; omega⟩, ⟨rq HO_10.out⟩, ⟨hq HB.out⟩⟩
   ·rw [if_neg c10] at H
    have c10b0 : decide (0 ≤ x11_1) = false := decide_eq_false c10
    clear c10
    obtain rfl := Option.some.inj H
    go_wp2
    go_ret
    exact ⟨_, by first | rfl | (simp [Ad8, Ad9] <;> rfl) | (simp only [← hji5]; first | rfl | (simp [Ad8, Ad9] <;> rfl)) | (simp [*, Ad8, Ad9] <;> rfl), rq HO_10.out, hq HB.out⟩
def spec_l7Over.f (k : Nat) (l0 : List (S36)) (l1 : List Int) (l2 : List Int) (l3 : List Int) : Option (Bool) := (spec_l7Table.f k l0 l1 l2 l3).bind fun t196 => (if 0 < (t196.length : Int) then (some (Ar0 false t196 0)) else (none))
set_option maxHeartbeats 8000000 in
set_option maxRecDepth 100000 in
theorem spec_l7Over.calls (k : Nat) (A0 : Option Addr) (l0 : List (S36)) (A1 : Option Addr) (c1 : Nat) (l1 : List Int) (A2 : Option Addr) (c2 : Nat) (l2 : List Int) (A3 : Option Addr) (c3 : Nat) (l3 : List Int) (r : Bool) (w : World) (hr0 : Kd.C k36 w A0 l0.length l0) (hr1 : Kd.C (Kd.int .i64) w A1 l1.length l1) (hc1 : l1.length ≤ c1) (hr2 : Kd.C (Kd.int .i64) w A2 l2.length l2) (hc2 : l2.length ≤ c2) (hr3 : Kd.C (Kd.int .i64) w A3 l3.length l3) (hc3 : l3.length ≤ c3) (h : spec_l7Over.f k l0 l1 l2 l3 = some r) :
  Calls Tryz.prog 50 #[.pointer A0, .slice A1 l1.length c1, .slice A2 l2.length c2, .slice A3 l3.length c3] w fun e w' => e = .returned (.bool r) ∧ Below w.heap.size w w' := by
 have HR0 := am hr0
 clear hr0
 have HR1 := am hr1
 have HC1 := am hc1
 clear hr1 hc1
 have HR2 := am hr2
 have HC2 := am hc2
 clear hr2 hc2
 have HR3 := am hr3
 have HC3 := am hc3
 clear hr3 hc3
 have HB := am (Below.refl w.heap.size w)
 have H : ((spec_l7Table.f k l0 l1 l2 l3).bind fun t196 => (if 0 < (t196.length : Int) then (some (Ar0 false t196 0)) else (none))) = some r := h
 clear h
 obtain ⟨t196, A5, H⟩ := ob H
 try dsimp only at H
 obtain ⟨c6, H⟩ := ifs H
 have c6b0 : decide (0 < (t196.length : Int)) = true := decide_eq_true c6
 have c6b1 : decide (0 < t196.length) = true := decide_eq_true (by omega)
 clear c6
 obtain rfl := Option.some.inj H
 go_enter Tryz.func50, Tryz.ntmps50
 go_wp2_with (first | (refine gl (some 13) Tryz.func79 rfl #[.pointer A0, .slice A1 l1.length c1, .slice A2 l2.length c2, .slice A3 l3.length c3] ?_; refine (spec_l7Table.calls k _ l0 _ _ l1 _ _ l2 _ _ l3 t196 _ (cq HR0.out) (cq HR1.out) HC1.out (cq HR2.out) HC2.out (cq HR3.out) HC3.out A5.out).mono ?_; rintro e w7 ⟨v197, rfl, ho0, hb⟩; refine ⟨_, rfl, ?_⟩; have HO198 := am (Kd.R_lower ho0 (Aa6 (hq HB.out))); replace HB := sb HB hb; (try clear hb); (try clear ho0); obtain ⟨Ao8, co8, rfl⟩ := Kd.R_slice HO198.out; have p199 : 0 ≤ (0 : Int) := (by omega); have q199 : 0 < (t196.length : Int) := od; obtain ⟨ad199, e199, hx199_0⟩ := Kd.at_bool (Kd.R_reads' HO198.out).2.2 0 p199 q199; cases e199; have qi199 : (0 < t196.length) = True := eq_true (by omega); (try rw [show ((0 : Int)).toNat = 0 from rfl] at hx199_0); (try rw [Addr.add_zero'] at hx199_0); replace p199 := eq_true p199; replace q199 := eq_true q199))
 go_ret
 exact ⟨er, hq HB.out⟩
def spec_l7Compare.f (k : Nat) (l0 : List (S36)) (l1 : List Int) (l2 : List Int) (l3 : List Int) : Option (Int) := (spec_l1Same.f k l2 l3).bind fun t200 => (if t200 = true then (some 3) else ((spec_l7Over.f k l0 l1 l2 l3).bind fun t201 => (if t201 = true then (some 1) else ((spec_l7Over.f k l0 l1 l3 l2).bind fun t202 => (if t202 = true then (some 2) else (some 0))))))
set_option maxHeartbeats 8000000 in
set_option maxRecDepth 100000 in
theorem spec_l7Compare.calls (k : Nat) (A0 : Option Addr) (l0 : List (S36)) (A1 : Option Addr) (c1 : Nat) (l1 : List Int) (A2 : Option Addr) (c2 : Nat) (l2 : List Int) (A3 : Option Addr) (c3 : Nat) (l3 : List Int) (r : Int) (w : World) (hr0 : Kd.C k36 w A0 l0.length l0) (hr1 : Kd.C (Kd.int .i64) w A1 l1.length l1) (hc1 : l1.length ≤ c1) (hr2 : Kd.C (Kd.int .i64) w A2 l2.length l2) (hc2 : l2.length ≤ c2) (hr3 : Kd.C (Kd.int .i64) w A3 l3.length l3) (hc3 : l3.length ≤ c3) (h : spec_l7Compare.f k l0 l1 l2 l3 = some r) :
  Calls Tryz.prog 30 #[.pointer A0, .slice A1 l1.length c1, .slice A2 l2.length c2, .slice A3 l3.length c3] w fun e w' => e = .returned (.int .i64 r) ∧ Below w.heap.size w w' := by
 have HR0 := am hr0
 clear hr0
 have HR1 := am hr1
 have HC1 := am hc1
 clear hr1 hc1
 have HR2 := am hr2
 have HC2 := am hc2
 clear hr2 hc2
 have HR3 := am hr3
 have HC3 := am hc3
 clear hr3 hc3
 have HB := am (Below.refl w.heap.size w)
 have H : ((spec_l1Same.f k l2 l3).bind fun t200 => (if t200 = true then (some 3) else ((spec_l7Over.f k l0 l1 l2 l3).bind fun t201 => (if t201 = true then (some 1) else ((spec_l7Over.f k l0 l1 l3 l2).bind fun t202 => (if t202 = true then (some 2) else (some 0))))))) = some r := h
 clear h
 obtain ⟨t200, A5, H⟩ := ob H
 try dsimp only at H
 by_cases c6 : t200 = true
 ·subst c6
  rw [if_pos rfl] at H
  obtain rfl := Option.some.inj H
  go_enter Tryz.func30, Tryz.ntmps30
  go_wp2_with (first | (refine gl (some 12) Tryz.func49 rfl #[.slice A2 l2.length c2, .slice A3 l3.length c3] ?_; refine (spec_l1Same.calls k _ _ l2 _ _ l3 true _ (cq HR2.out) HC2.out (cq HR3.out) HC3.out A5.out).mono ?_; rintro e w7 ⟨rfl, hb⟩; refine ⟨_, rfl, ?_⟩; replace HB := sb HB hb; (try clear hb)))
  go_ret
  exact ⟨er, hq HB.out⟩
 ·replace c6 := Bool.eq_false_iff.mpr c6
  subst c6
  rw [if_neg (show ¬ (false = true) by decide)] at H
  obtain ⟨t201, A8, H⟩ := ob H
  try dsimp only at H
  by_cases c9 : t201 = true
  ·subst c9
   rw [if_pos rfl] at H
   obtain rfl := Option.some.inj H
   go_enter Tryz.func30, Tryz.ntmps30
   go_wp2_with (first | (refine gl (some 12) Tryz.func49 rfl #[.slice A2 l2.length c2, .slice A3 l3.length c3] ?_; refine (spec_l1Same.calls k _ _ l2 _ _ l3 false _ (cq HR2.out) HC2.out (cq HR3.out) HC3.out A5.out).mono ?_; rintro e w10 ⟨rfl, hb⟩; refine ⟨_, rfl, ?_⟩; replace HB := sb HB hb; (try clear hb)) | (refine gl (some 18) Tryz.func50 rfl #[.pointer A0, .slice A1 l1.length c1, .slice A2 l2.length c2, .slice A3 l3.length c3] ?_; refine (spec_l7Over.calls k _ l0 _ _ l1 _ _ l2 _ _ l3 true _ (cq (Kd.C_below HR0.out HB.out)) (cq (Kd.C_below HR1.out HB.out)) HC1.out (cq (Kd.C_below HR2.out HB.out)) HC2.out (cq (Kd.C_below HR3.out HB.out)) HC3.out A8.out).mono ?_; rintro e w11 ⟨rfl, hb⟩; refine ⟨_, rfl, ?_⟩; replace HB := sb HB hb; (try clear hb)))
   go_ret
   exact ⟨er, hq HB.out⟩
  ·replace c9 := Bool.eq_false_iff.mpr c9
   subst c9
   rw [if_neg (show ¬ (false = true) by decide)] at H
   obtain ⟨t202, A12, H⟩ := ob H
   try dsimp only at H
   by_cases c13 : t202 = true
   ·subst c13
    rw [if_pos rfl] at H
    obtain rfl := Option.some.inj H
    go_enter Tryz.func30, Tryz.ntmps30
    go_wp2_with (first | (refine gl (some 12) Tryz.func49 rfl #[.slice A2 l2.length c2, .slice A3 l3.length c3] ?_; refine (spec_l1Same.calls k _ _ l2 _ _ l3 false _ (cq HR2.out) HC2.out (cq HR3.out) HC3.out A5.out).mono ?_; rintro e w14 ⟨rfl, hb⟩; refine ⟨_, rfl, ?_⟩; replace HB := sb HB hb; (try clear hb)) | (refine gl (some 18) Tryz.func50 rfl #[.pointer A0, .slice A1 l1.length c1, .slice A2 l2.length c2, .slice A3 l3.length c3] ?_; refine (spec_l7Over.calls k _ l0 _ _ l1 _ _ l2 _ _ l3 false _ (cq (Kd.C_below HR0.out HB.out)) (cq (Kd.C_below HR1.out HB.out)) HC1.out (cq (Kd.C_below HR2.out HB.out)) HC2.out (cq (Kd.C_below HR3.out HB.out)) HC3.out A8.out).mono ?_; rintro e w15 ⟨rfl, hb⟩; refine ⟨_, rfl, ?_⟩; replace HB := sb HB hb; (try clear hb)) | (refine gl (some 24) Tryz.func50 rfl #[.pointer A0, .slice A1 l1.length c1, .slice A3 l3.length c3, .slice A2 l2.length c2] ?_; refine (spec_l7Over.calls k _ l0 _ _ l1 _ _ l3 _ _ l2 true _ (cq (Kd.C_below HR0.out HB.out)) (cq (Kd.C_below HR1.out HB.out)) HC1.out (cq (Kd.C_below HR3.out HB.out)) HC3.out (cq (Kd.C_below HR2.out HB.out)) HC2.out A12.out).mono ?_; rintro e w16 ⟨rfl, hb⟩; refine ⟨_, rfl, ?_⟩; replace HB := sb HB hb; (try clear hb)))
    go_ret
    exact ⟨er, hq HB.out⟩
   ·replace c13 := Bool.eq_false_iff.mpr c13
    subst c13
    rw [if_neg (show ¬ (false = true) by decide)] at H
    obtain rfl := Option.some.inj H
    go_enter Tryz.func30, Tryz.ntmps30
    go_wp2_with (first | (refine gl (some 12) Tryz.func49 rfl #[.slice A2 l2.length c2, .slice A3 l3.length c3] ?_; refine (spec_l1Same.calls k _ _ l2 _ _ l3 false _ (cq HR2.out) HC2.out (cq HR3.out) HC3.out A5.out).mono ?_; rintro e w17 ⟨rfl, hb⟩; refine ⟨_, rfl, ?_⟩; replace HB := sb HB hb; (try clear hb)) | (refine gl (some 18) Tryz.func50 rfl #[.pointer A0, .slice A1 l1.length c1, .slice A2 l2.length c2, .slice A3 l3.length c3] ?_; refine (spec_l7Over.calls k _ l0 _ _ l1 _ _ l2 _ _ l3 false _ (cq (Kd.C_below HR0.out HB.out)) (cq (Kd.C_below HR1.out HB.out)) HC1.out (cq (Kd.C_below HR2.out HB.out)) HC2.out (cq (Kd.C_below HR3.out HB.out)) HC3.out A8.out).mono ?_; rintro e w18 ⟨rfl, hb⟩; refine ⟨_, rfl, ?_⟩; replace HB := sb HB hb; (try clear hb)) | (refine gl (some 24) Tryz.func50 rfl #[.pointer A0, .slice A1 l1.length c1, .slice A3 l3.length c3, .slice A2 l2.length c2] ?_; refine (spec_l7Over.calls k _ l0 _ _ l1 _ _ l3 _ _ l2 false _ (cq (Kd.C_below HR0.out HB.out)) (cq (Kd.C_below HR1.out HB.out)) HC1.out (cq (Kd.C_below HR3.out HB.out)) HC3.out (cq (Kd.C_below HR2.out HB.out)) HC2.out A12.out).mono ?_; rintro e w19 ⟨rfl, hb⟩; refine ⟨_, rfl, ?_⟩; replace HB := sb HB hb; (try clear hb)))
    go_ret
    exact ⟨er, hq HB.out⟩
def spec_l1Ints.f (l0 : List Int) : Option (List Int) := (some (([] : List Int) : List Int)).bind fun y203 => (if y203.length + l0.length < 17592186044416 then (some (y203 ++ l0)) else (none))
set_option maxHeartbeats 8000000 in
set_option maxRecDepth 100000 in
theorem spec_l1Ints.calls (A0 : Option Addr) (c0 : Nat) (l0 : List Int) (r : List Int) (w : World) (hr0 : Kd.C (Kd.int .i64) w A0 l0.length l0) (hc0 : l0.length ≤ c0) (h : spec_l1Ints.f l0 = some r) :
  Calls Tryz.prog 32 #[.slice A0 l0.length c0] w fun e w' => ∃ v0_ : Value, e = .returned (v0_) ∧ Kd.R (Kd.int .i64) 2 w' w.heap.size (fun _ => True) v0_ r ∧ Below w.heap.size w w' := by
 have HR0 := am hr0
 have HC0 := am hc0
 clear hr0 hc0
 have HB := am (Below.refl w.heap.size w)
 have H : ((some (([] : List Int) : List Int)).bind fun y203 => (if y203.length + l0.length < 17592186044416 then (some (y203 ++ l0)) else (none))) = some r := h
 clear h
 obtain ⟨y203, hy203⟩ : ∃ y_ : List Int, y_ = (([] : List Int)) := ⟨_, rfl⟩
 replace H : (if y203.length + l0.length < 17592186044416 then (some (y203 ++ l0)) else (none)) = some r := by first | (rw [hy203]; with_reducible exact H) | (have H2_ := (Option.bind_some _ _).symm.trans H; rw [hy203]; with_reducible exact H2_) | (have H2_ := (Option.bind_some _ _).symm.trans H; with_reducible exact H2_) | with_reducible exact H | (rw [hy203]; exact H) | exact H
 have Ny203 := am hy203
 clear hy203
 obtain ⟨c2, H⟩ := ifs H
 have LMc2 := am c2
 clear c2
 obtain ⟨y206, hy206⟩ : ∃ y_ : List Int, y_ = (y203 ++ l0) := ⟨_, rfl⟩
 replace H : (some y206) = some r := by first | (rw [hy206]; with_reducible exact H) | (have H2_ := (Option.bind_some _ _).symm.trans H; rw [hy206]; with_reducible exact H2_) | (have H2_ := (Option.bind_some _ _).symm.trans H; with_reducible exact H2_) | with_reducible exact H | (rw [hy206]; exact H) | exact H
 have Ny206 := am hy206
 clear hy206
 obtain rfl := Option.some.inj H
 go_enter Tryz.func32, Tryz.ntmps32
 go_wp2_with (first | ((with_reducible refine Ae9 (N := 3) rfl ?_); refine Kd.R_lit (Kd.int .i64) _ 2 ?hg (N := 3) ?hd (xs := ([] : List Int)) (inner := []) (ok := fun _ => True) (okp := fun _ => True) ?hr ?hp (fun _ hk => hk) trivial (Below.refl _ _) (Nat.le_refl _) (by simp) ?_; (case hd => rfl); (case hg => rfl); (case hr => first | (go_simp; done) | (go_simp; rfl)); (case hp => exact (Af0.none _ _)); intro v204 w3 ho4 hb hg_ hnew_; clear hg_ hnew_; (first | rw [← Ny203.out] at ho4 | (simp only [Int.reduceToNat] at ho4; rw [← Ny203.out] at ho4)); have HO205 := am (Kd.R_lower ho4 (Aa6 (hq HB.out))); replace HB := sb HB hb; clear hb ho4) | ((with_reducible refine Ah2 (b := .append) (xs := #[.tmp 3, .tmp 4]) rfl ?_); at_builtin; refine Kd.R_append_rows (Kd.int .i64) (w0 := w) w.heap.size rfl (.tmp 3) (.tmp 4) 25 2 (.int .i64 0) 8 rfl Tryz.underlying25 Ap0 rfl (by decide) (by omega) v204 y203 l0 _ _ _ (fun _ => True) (fun _ => False) rfl rfl ?aO ?aR (fun _ _ h => h) (fun _ h => h.elim) ?aF ?aB ?aS ?aL ?_; (case aR => exact cq (Kd.C_below HR0.out HB.out)); (case aB => exact (hq HB.out)); (case aF => exact (fun _ _ => trivial)); (case aO => exact (rq HO205.out)); (case aS => exact (Aa6 (hq HB.out))); (case aL => have := LMc2.out; omega); intro v207 w5 ho hb hg hat; rw [← Ny206.out] at ho; replace HB := am (hb); have HO208 := am (ho); clear HO205; clear ho hb hg hat))
 go_ret
 exact ⟨_, er, rq HO208.out, hq HB.out⟩
def spec_l4Copy.f (l0 : List (S30)) : Option (List Int × List Int) := if 0 < (l0.length : Int) then ((spec_l1Ints.f ((Af6 l0 0).f0)).bind fun t212 => ((spec_l1Ints.f ((Af6 l0 0).f1)).bind fun t217 => (some (t212, t217)))) else (none)
def spec_l4Copy.T1 : Bool × List (List Nat × List Nat) := (true, [([], []), ([0], [0]), ([1], [1]), ([2], [2]), ([3], [3]), ([], []), ([5], [5]), ([6], [6]), ([7], [7]), ([8, 4], [8]), ([4, 9], [4, 9]), ([10, 9, 0, 1, 2, 3, 4, 5, 6, 7, 8, 9, 10], [10])])
def spec_l4Copy.B1 : List Nat := [0, 1, 3, 7, 15, 0, 32, 96, 224, 511, 1023, 2047]
theorem spec_l4Copy.tab1 : Aj9 .any (Ak7 Tryz.f31 1) = spec_l4Copy.T1 := by kernel_rfl
theorem spec_l4Copy.bits1 : Ae6 spec_l4Copy.T1.2 spec_l4Copy.B1 = true := by kernel_rfl
set_option maxHeartbeats 8000000 in
set_option maxRecDepth 100000 in
theorem spec_l4Copy.calls (A0 : Option Addr) (l0 : List (S30)) (r1 : List Int) (r2 : List Int) (w : World) (hr0 : Kd.C k30 w A0 l0.length l0) (h : spec_l4Copy.f l0 = some (r1, r2)) :
  Calls Tryz.prog 31 #[.pointer A0] w fun e w' => ∃ v0_ v1_ : Value, e = .returned (.agg #[v0_, v1_]) ∧ Kd.R (Kd.int .i64) 2 w' w.heap.size (fun k_ => some k_ ≠ (v1_ : Value).ownBlock) v0_ r1 ∧ Kd.R (Kd.int .i64) 2 w' w.heap.size (fun k_ => some k_ ≠ (v0_ : Value).ownBlock) v1_ r2 ∧ Below w.heap.size w w' := by
 have hu30 := Tryz.underlying30
 have HR0 := am hr0
 clear hr0
 have HB := am (Below.refl w.heap.size w)
 have H : (if 0 < (l0.length : Int) then ((spec_l1Ints.f ((Af6 l0 0).f0)).bind fun t212 => ((spec_l1Ints.f ((Af6 l0 0).f1)).bind fun t217 => (some (t212, t217)))) else (none)) = some (r1, r2) := h
 clear h
 obtain ⟨c2, H⟩ := ifs H
 have c2b0 : decide (0 < (l0.length : Int)) = true := decide_eq_true c2
 have c2b1 : decide (0 < l0.length) = true := decide_eq_true (by omega)
 clear c2
 obtain ⟨t212, A3, H⟩ := ob H
 try dsimp only at H
 obtain ⟨t217, A4, H⟩ := ob H
 try dsimp only at H
 simp only [Option.some.injEq, Prod.mk.injEq] at H
 obtain ⟨rfl, rfl⟩ := H
 go_enter Tryz.func31, Tryz.ntmps31
 try go_wp2_with (first | (refine bx 2 rfl #[.slice none 0 0, .slice none 0 0] 30 ?_; intro gb209 hg w5 hbox hb; have BK209 := am (hbox); have GW209 := am (bz hg (hq HB.out)); replace HB := sb HB hb; have GE209 := GW209; clear hb hbox hg))
 replace BK209 := am (Ab7 BK209.out)
 replace HB := am (Ab0 HB.out)
 have p210 : 0 ≤ (0 : Int) := (by omega)
 have q210 : 0 < (l0.length : Int) := od
 obtain ⟨ad210, A210_0, c210_0, A210_1, c210_1, e210, hx210_0, hx210_1, hl210_0, hi210_0, hl210_1, hi210_1⟩ := Au6 HR0.out 0 p210 q210
 have hw210_1 := hx210_1
 (try rw [show ((0 : Int)).toNat = 0 from rfl] at hw210_1)
 (try rw [show 0 * 2 = 0 from rfl] at hw210_1)
 (try rw [Addr.add_zero'] at hw210_1)
 have hw210_0 := hx210_0
 (try rw [show ((0 : Int)).toNat = 0 from rfl] at hw210_0)
 (try rw [show 0 * 2 = 0 from rfl] at hw210_0)
 (try rw [Addr.add_zero'] at hw210_0)
 cases e210
 have qi210 : (0 < l0.length) = True := eq_true (by omega)
 (try rw [show ((0 : Int)).toNat = 0 from rfl] at hx210_0)
 (try rw [show 0 * 2 = 0 from rfl] at hx210_0)
 (try rw [Addr.add_zero'] at hx210_0)
 (try rw [show ((0 : Int)).toNat = 0 from rfl] at hx210_1)
 (try rw [show 0 * 2 = 0 from rfl] at hx210_1)
 (try rw [Addr.add_zero'] at hx210_1)
 replace hx210_0 := cz HB.out hx210_0
 replace hx210_1 := cz HB.out hx210_1
 have HR210_0 := am hi210_0
 have HC210_0 := am hl210_0
 clear hi210_0 hl210_0
 have HR210_1 := am hi210_1
 have HC210_1 := am hl210_1
 clear hi210_1 hl210_1
 replace p210 := eq_true p210
 replace q210 := eq_true q210
 have p211 : 0 ≤ (0 : Int) := (by omega)
 have q211 : 0 < (l0.length : Int) := od
 obtain ⟨ad211, A211_0, c211_0, A211_1, c211_1, e211, hx211_0, hx211_1, hl211_0, hi211_0, hl211_1, hi211_1⟩ := Au6 HR0.out 0 p211 q211
 have hw211_1 := hx211_1
 (try rw [show ((0 : Int)).toNat = 0 from rfl] at hw211_1)
 (try rw [show 0 * 2 = 0 from rfl] at hw211_1)
 (try rw [Addr.add_zero'] at hw211_1)
 have hw211_0 := hx211_0
 (try rw [show ((0 : Int)).toNat = 0 from rfl] at hw211_0)
 (try rw [show 0 * 2 = 0 from rfl] at hw211_0)
 (try rw [Addr.add_zero'] at hw211_0)
 obtain rfl : ad210 = ad211 := (by injection e211)
 have qi211 : (0 < l0.length) = True := eq_true (by omega)
 (try rw [show ((0 : Int)).toNat = 0 from rfl] at hx211_0)
 (try rw [show 0 * 2 = 0 from rfl] at hx211_0)
 (try rw [Addr.add_zero'] at hx211_0)
 (try rw [show ((0 : Int)).toNat = 0 from rfl] at hx211_1)
 (try rw [show 0 * 2 = 0 from rfl] at hx211_1)
 (try rw [Addr.add_zero'] at hx211_1)
 replace hx211_0 := cz HB.out hx211_0
 replace hx211_1 := cz HB.out hx211_1
 have HR211_0 := am hi211_0
 have HC211_0 := am hl211_0
 clear hi211_0 hl211_0
 have HR211_1 := am hi211_1
 have HC211_1 := am hl211_1
 clear hi211_1 hl211_1
 replace p211 := eq_true p211
 replace q211 := eq_true q211
 have ea_ := Option.some.inj (hx210_0.symm.trans hx211_0)
 injection ea_ with ea_ en_ ec_
 subst ea_
 subst ec_
 clear en_
 have ea_ := Option.some.inj (hx210_1.symm.trans hx211_1)
 injection ea_ with ea_ en_ ec_
 subst ea_
 subst ec_
 clear en_
 have p215 : 0 ≤ (0 : Int) := (by omega)
 have q215 : 0 < (l0.length : Int) := od
 obtain ⟨ad215, A215_0, c215_0, A215_1, c215_1, e215, hx215_0, hx215_1, hl215_0, hi215_0, hl215_1, hi215_1⟩ := Au6 HR0.out 0 p215 q215
 have hw215_1 := hx215_1
 (try rw [show ((0 : Int)).toNat = 0 from rfl] at hw215_1)
 (try rw [show 0 * 2 = 0 from rfl] at hw215_1)
 (try rw [Addr.add_zero'] at hw215_1)
 have hw215_0 := hx215_0
 (try rw [show ((0 : Int)).toNat = 0 from rfl] at hw215_0)
 (try rw [show 0 * 2 = 0 from rfl] at hw215_0)
 (try rw [Addr.add_zero'] at hw215_0)
 obtain rfl : ad210 = ad215 := (by injection e215)
 have qi215 : (0 < l0.length) = True := eq_true (by omega)
 (try rw [show ((0 : Int)).toNat = 0 from rfl] at hx215_0)
 (try rw [show 0 * 2 = 0 from rfl] at hx215_0)
 (try rw [Addr.add_zero'] at hx215_0)
 (try rw [show ((0 : Int)).toNat = 0 from rfl] at hx215_1)
 (try rw [show 0 * 2 = 0 from rfl] at hx215_1)
 (try rw [Addr.add_zero'] at hx215_1)
 replace hx215_0 := cz HB.out hx215_0
 replace hx215_1 := cz HB.out hx215_1
 have HR215_0 := am hi215_0
 have HC215_0 := am hl215_0
 clear hi215_0 hl215_0
 have HR215_1 := am hi215_1
 have HC215_1 := am hl215_1
 clear hi215_1 hl215_1
 replace p215 := eq_true p215
 replace q215 := eq_true q215
 have ea_ := Option.some.inj (hx210_0.symm.trans hx215_0)
 injection ea_ with ea_ en_ ec_
 subst ea_
 subst ec_
 clear en_
 have ea_ := Option.some.inj (hx210_1.symm.trans hx215_1)
 injection ea_ with ea_ en_ ec_
 subst ea_
 subst ec_
 clear en_
 have p216 : 0 ≤ (0 : Int) := (by omega)
 have q216 : 0 < (l0.length : Int) := od
 obtain ⟨ad216, A216_0, c216_0, A216_1, c216_1, e216, hx216_0, hx216_1, hl216_0, hi216_0, hl216_1, hi216_1⟩ := Au6 HR0.out 0 p216 q216
 have hw216_1 := hx216_1
 (try rw [show ((0 : Int)).toNat = 0 from rfl] at hw216_1)
 (try rw [show 0 * 2 = 0 from rfl] at hw216_1)
 (try rw [Addr.add_zero'] at hw216_1)
 have hw216_0 := hx216_0
 (try rw [show ((0 : Int)).toNat = 0 from rfl] at hw216_0)
 (try rw [show 0 * 2 = 0 from rfl] at hw216_0)
 (try rw [Addr.add_zero'] at hw216_0)
 obtain rfl : ad210 = ad216 := (by injection e216)
 have qi216 : (0 < l0.length) = True := eq_true (by omega)
 (try rw [show ((0 : Int)).toNat = 0 from rfl] at hx216_0)
 (try rw [show 0 * 2 = 0 from rfl] at hx216_0)
 (try rw [Addr.add_zero'] at hx216_0)
 (try rw [show ((0 : Int)).toNat = 0 from rfl] at hx216_1)
 (try rw [show 0 * 2 = 0 from rfl] at hx216_1)
 (try rw [Addr.add_zero'] at hx216_1)
 replace hx216_0 := cz HB.out hx216_0
 replace hx216_1 := cz HB.out hx216_1
 have HR216_0 := am hi216_0
 have HC216_0 := am hl216_0
 clear hi216_0 hl216_0
 have HR216_1 := am hi216_1
 have HC216_1 := am hl216_1
 clear hi216_1 hl216_1
 replace p216 := eq_true p216
 replace q216 := eq_true q216
 have ea_ := Option.some.inj (hx210_0.symm.trans hx216_0)
 injection ea_ with ea_ en_ ec_
 subst ea_
 subst ec_
 clear en_
 have ea_ := Option.some.inj (hx210_1.symm.trans hx216_1)
 injection ea_ with ea_ en_ ec_
 subst ea_
 subst ec_
 clear en_
 refine Ad5 (n := 12) (S := fun w' => w'.cell? ad210 = some (.slice A210_0 ((Af6 l0 0).f0).length c210_0) ∧ w'.cell? ⟨ad210.block, ad210.off + 1, none⟩ = some (.slice A210_1 ((Af6 l0 0).f1).length c210_1) ∧ w'.cell? ad210 = some (.slice A210_0 ((Af6 l0 0).f0).length c210_0) ∧ w'.cell? ⟨ad210.block, ad210.off + 1, none⟩ = some (.slice A210_1 ((Af6 l0 0).f1).length c210_1) ∧ w'.cell? ad210 = some (.slice A210_0 ((Af6 l0 0).f0).length c210_0) ∧ w'.cell? ⟨ad210.block, ad210.off + 1, none⟩ = some (.slice A210_1 ((Af6 l0 0).f1).length c210_1) ∧ w'.cell? ad210 = some (.slice A210_0 ((Af6 l0 0).f0).length c210_0) ∧ w'.cell? ⟨ad210.block, ad210.off + 1, none⟩ = some (.slice A210_1 ((Af6 l0 0).f1).length c210_1)) (ds := []) #[false, false, false, false, false, false, false, false, false, false, false, false] (by kernel_rfl) rfl rfl ⟨(cz HB.out hw210_0), (cz HB.out hw210_1), (cz HB.out hw211_0), (cz HB.out hw211_1), (cz HB.out hw215_0), (cz HB.out hw215_1), (cz HB.out hw216_0), (cz HB.out hw216_1)⟩ (fun hHeld => ?_); refine Ac1 spec_l4Copy.tab1 spec_l4Copy.bits1 (fun HT_ HW_ => ?_)
 generalize w5.drew = w6 at BK209 HB HR210_0 HR210_1 HR211_0 HR211_1 HR215_0 HR215_1 HR216_0 HR216_1 hx210_0 hx210_1 hx211_0 hx211_1 hx215_0 hx215_1 hx216_0 hx216_1 hHeld ⊢
 refine pu 0 3 rfl rfl HT_ ?_
 refine pu 1 4 rfl rfl HT_ ?_
 refine pu 2 5 rfl rfl HT_ ?_
 refine pu 5 8 rfl rfl HT_ ?_
 refine pu 6 9 rfl rfl HT_ ?_
 refine pu 7 10 rfl rfl HT_ ?_
 refine tk 3 6 rfl rfl HT_ HW_ hHeld ?_
 refine tk 8 11 rfl rfl HT_ HW_ hHeld ?_
 refine on_ 4 (some 7) rfl rfl HT_ (fun K hK => ?_)
 refine gs Tryz.func32 #[.slice A210_0 ((Af6 l0 0).f0).length c210_0] ?_
 refine (spec_l1Ints.calls _ _ ((Af6 l0 0).f0) t212 _ (cq (Kd.C_below HR211_0.out HB.out)) HC211_0.out A3.out).mono ?_
 rintro e w7 ⟨v213, rfl, ho0, hb⟩
 refine ⟨_, rfl, ?_⟩
 have HO214 := am (Kd.R_lower ho0 (Aa6 (hs HB.out)))
 replace BK209 := bb BK209 hb
 replace HB := sb HB hb
 (try clear hb)
 (try clear hk)
 (try clear ho0)
 refine hK.out _ _ ⟨(cz HB.out hw210_0), (cz HB.out hw210_1), (cz HB.out hw211_0), (cz HB.out hw211_1), (cz HB.out hw215_0), (cz HB.out hw215_1), (cz HB.out hw216_0), (cz HB.out hw216_1)⟩ (fun hHeld => ?_)
 clear hK K
 refine nr (some 7) ?_
 refine on_ 9 (some 12) rfl rfl HT_ (fun K hK => ?_)
 refine gs Tryz.func32 #[.slice A210_1 ((Af6 l0 0).f1).length c210_1] ?_
 refine (spec_l1Ints.calls _ _ ((Af6 l0 0).f1) t217 _ (cq (Kd.C_below HR216_1.out HB.out)) HC216_1.out A4.out).mono ?_
 rintro e w8 ⟨v218, rfl, ho0, hb⟩
 refine ⟨_, rfl, ?_⟩
 have HO219 := am (Kd.R_lower (Kd.R_new' ho0 (Kd.R_lt (rq HO214.out))) (Aa6 (hs HB.out)))
 replace HO214 := am (Kd.R_elder' (rq HO214.out) (Kd.R_base ho0) hb)
 replace BK209 := bb BK209 hb
 replace HB := sb HB hb
 (try clear hb)
 (try clear hk)
 (try clear ho0)
 obtain ⟨Ao9, co9, eo9⟩ := Kd.R_slice HO219.out
 (first | subst eo9 | (injection eo9 with f1_ f2_ f3_; have f4_ := f1_.symm; have f5_ := f3_.symm; clear f1_ f2_ f3_; subst f4_; subst f5_))
 obtain ⟨Ao10, co10, eo10⟩ := Kd.R_slice HO214.out
 (first | subst eo10 | (injection eo10 with f1_ f2_ f3_; have f4_ := f1_.symm; have f5_ := f3_.symm; clear f1_ f2_ f3_; subst f4_; subst f5_))
 refine hK.out _ _ ⟨(cz HB.out hw210_0), (cz HB.out hw210_1), (cz HB.out hw211_0), (cz HB.out hw211_1), (cz HB.out hw215_0), (cz HB.out hw215_1), (cz HB.out hw216_0), (cz HB.out hw216_1)⟩ (fun hHeld => ?_)
 clear hK K
 refine nr (some 12) ?_
 refine pu 10 13 rfl rfl HT_ ?_
 refine on_ 11 none rfl rfl HT_ (fun K hK => ?_)
 have hs11 : w8.cell? ⟨gb209, 0, none⟩ = some (.slice none 0 0) := (Aa0 BK209.out 0).trans rfl
 have hfs11 := Aa1 BK209.out 0
 have hs12 : w8.cell? ⟨gb209, 1, none⟩ = some (.slice none 0 0) := (Aa0 BK209.out 1).trans rfl
 have hfs12 := Aa1 BK209.out 1
 refine Au9 (w1 := ?_) (by rfl) rfl ?_ ?_
 rotate_left
 ·go_simp
  rfl
 refine hK.out _ _ ⟨((Ab6 (p := ⟨gb209, _, none⟩) (by first | exact Nat.ne_of_lt (Nat.lt_of_lt_of_le (by have := World.block_lt_of_cell? _ _ hw210_0; first | rwa [Aa5] at this | exact this) GW209.out) | (rw [Aa5]; exact Nat.ne_of_lt (Nat.lt_of_lt_of_le (by have := World.block_lt_of_cell? _ _ hw210_0; first | rwa [Aa5] at this | exact this) GW209.out)) | (show (Addr.add _ _).block ≠ _; rw [Aa5]; exact Nat.ne_of_lt (Nat.lt_of_lt_of_le (by have := World.block_lt_of_cell? _ _ hw210_0; first | rwa [Aa5] at this | exact this) GW209.out)) | (dsimp only; exact Nat.ne_of_lt (Nat.lt_of_lt_of_le (by have := World.block_lt_of_cell? _ _ hw210_0; first | rwa [Aa5] at this | exact this) GW209.out))) _).trans (((Ab6 (p := ⟨gb209, _, none⟩) (by first | exact Nat.ne_of_lt (Nat.lt_of_lt_of_le (by have := World.block_lt_of_cell? _ _ hw210_0; first | rwa [Aa5] at this | exact this) GW209.out) | (rw [Aa5]; exact Nat.ne_of_lt (Nat.lt_of_lt_of_le (by have := World.block_lt_of_cell? _ _ hw210_0; first | rwa [Aa5] at this | exact this) GW209.out)) | (show (Addr.add _ _).block ≠ _; rw [Aa5]; exact Nat.ne_of_lt (Nat.lt_of_lt_of_le (by have := World.block_lt_of_cell? _ _ hw210_0; first | rwa [Aa5] at this | exact this) GW209.out)) | (dsimp only; exact Nat.ne_of_lt (Nat.lt_of_lt_of_le (by have := World.block_lt_of_cell? _ _ hw210_0; first | rwa [Aa5] at this | exact this) GW209.out))) _).trans (hHeld.1)))), ((Ab6 (p := ⟨gb209, _, none⟩) (by first | exact Nat.ne_of_lt (Nat.lt_of_lt_of_le (by have := World.block_lt_of_cell? _ _ hw210_1; first | rwa [Aa5] at this | exact this) GW209.out) | (rw [Aa5]; exact Nat.ne_of_lt (Nat.lt_of_lt_of_le (by have := World.block_lt_of_cell? _ _ hw210_1; first | rwa [Aa5] at this | exact this) GW209.out)) | (show (Addr.add _ _).block ≠ _; rw [Aa5]; exact Nat.ne_of_lt (Nat.lt_of_lt_of_le (by have := World.block_lt_of_cell? _ _ hw210_1; first | rwa [Aa5] at this | exact this) GW209.out)) | (dsimp only; exact Nat.ne_of_lt (Nat.lt_of_lt_of_le (by have := World.block_lt_of_cell? _ _ hw210_1; first | rwa [Aa5] at this | exact this) GW209.out))) _).trans (((Ab6 (p := ⟨gb209, _, none⟩) (by first | exact Nat.ne_of_lt (Nat.lt_of_lt_of_le (by have := World.block_lt_of_cell? _ _ hw210_1; first | rwa [Aa5] at this | exact this) GW209.out) | (rw [Aa5]; exact Nat.ne_of_lt (Nat.lt_of_lt_of_le (by have := World.block_lt_of_cell? _ _ hw210_1; first | rwa [Aa5] at this | exact this) GW209.out)) | (show (Addr.add _ _).block ≠ _; rw [Aa5]; exact Nat.ne_of_lt (Nat.lt_of_lt_of_le (by have := World.block_lt_of_cell? _ _ hw210_1; first | rwa [Aa5] at this | exact this) GW209.out)) | (dsimp only; exact Nat.ne_of_lt (Nat.lt_of_lt_of_le (by have := World.block_lt_of_cell? _ _ hw210_1; first | rwa [Aa5] at this | exact this) GW209.out))) _).trans (hHeld.2.1)))), ((Ab6 (p := ⟨gb209, _, none⟩) (by first | exact Nat.ne_of_lt (Nat.lt_of_lt_of_le (by have := World.block_lt_of_cell? _ _ hw211_0; first | rwa [Aa5] at this | exact this) GW209.out) | (rw [Aa5]; exact Nat.ne_of_lt (Nat.lt_of_lt_of_le (by have := World.block_lt_of_cell? _ _ hw211_0; first | rwa [Aa5] at this | exact this) GW209.out)) | (show (Addr.add _ _).block ≠ _; rw [Aa5]; exact Nat.ne_of_lt (Nat.lt_of_lt_of_le (by have := World.block_lt_of_cell? _ _ hw211_0; first | rwa [Aa5] at this | exact this) GW209.out)) | (dsimp only; exact Nat.ne_of_lt (Nat.lt_of_lt_of_le (by have := World.block_lt_of_cell? _ _ hw211_0; first | rwa [Aa5] at this | exact this) GW209.out))) _).trans (((Ab6 (p := ⟨gb209, _, none⟩) (by first | exact Nat.ne_of_lt (Nat.lt_of_lt_of_le (by have := World.block_lt_of_cell? _ _ hw211_0; first | rwa [Aa5] at this | exact this) GW209.out) | (rw [Aa5]; exact Nat.ne_of_lt (Nat.lt_of_lt_of_le (by have := World.block_lt_of_cell? _ _ hw211_0; first | rwa [Aa5] at this | exact this) GW209.out)) | (show (Addr.add _ _).block ≠ _; rw [Aa5]; exact Nat.ne_of_lt (Nat.lt_of_lt_of_le (by have := World.block_lt_of_cell? _ _ hw211_0; first | rwa [Aa5] at this | exact this) GW209.out)) | (dsimp only; exact Nat.ne_of_lt (Nat.lt_of_lt_of_le (by have := World.block_lt_of_cell? _ _ hw211_0; first | rwa [Aa5] at this | exact this) GW209.out))) _).trans (hHeld.2.2.1)))), ((Ab6 (p := ⟨gb209, _, none⟩) (by first | exact Nat.ne_of_lt (Nat.lt_of_lt_of_le (by have := World.block_lt_of_cell? _ _ hw211_1; first | rwa [Aa5] at this | exact this) GW209.out) | (rw [Aa5]; exact Nat.ne_of_lt (Nat.lt_of_lt_of_le (by have := World.block_lt_of_cell? _ _ hw211_1; first | rwa [Aa5] at this | exact this) GW209.out)) | (show (Addr.add _ _).block ≠ _; rw [Aa5]; exact Nat.ne_of_lt (Nat.lt_of_lt_of_le (by have := World.block_lt_of_cell? _ _ hw211_1; first | rwa [Aa5] at this | exact this) GW209.out)) | (dsimp only; exact Nat.ne_of_lt (Nat.lt_of_lt_of_le (by have := World.block_lt_of_cell? _ _ hw211_1; first | rwa [Aa5] at this | exact this) GW209.out))) _).trans (((Ab6 (p := ⟨gb209, _, none⟩) (by first | exact Nat.ne_of_lt (Nat.lt_of_lt_of_le (by have := World.block_lt_of_cell? _ _ hw211_1; first | rwa [Aa5] at this | exact this) GW209.out) | (rw [Aa5]; exact Nat.ne_of_lt (Nat.lt_of_lt_of_le (by have := World.block_lt_of_cell? _ _ hw211_1; first | rwa [Aa5] at this | exact this) GW209.out)) | (show (Addr.add _ _).block ≠ _; rw [Aa5]; exact Nat.ne_of_lt (Nat.lt_of_lt_of_le (by have := World.block_lt_of_cell? _ _ hw211_1; first | rwa [Aa5] at this | exact this) GW209.out)) | (dsimp only; exact Nat.ne_of_lt (Nat.lt_of_lt_of_le (by have := World.block_lt_of_cell? _ _ hw211_1; first | rwa [Aa5] at this | exact this) GW209.out))) _).trans (hHeld.2.2.2.1)))), ((Ab6 (p := ⟨gb209, _, none⟩) (by first | exact Nat.ne_of_lt (Nat.lt_of_lt_of_le (by have := World.block_lt_of_cell? _ _ hw215_0; first | rwa [Aa5] at this | exact this) GW209.out) | (rw [Aa5]; exact Nat.ne_of_lt (Nat.lt_of_lt_of_le (by have := World.block_lt_of_cell? _ _ hw215_0; first | rwa [Aa5] at this | exact this) GW209.out)) | (show (Addr.add _ _).block ≠ _; rw [Aa5]; exact Nat.ne_of_lt (Nat.lt_of_lt_of_le (by have := World.block_lt_of_cell? _ _ hw215_0; first | rwa [Aa5] at this | exact this) GW209.out)) | (dsimp only; exact Nat.ne_of_lt (Nat.lt_of_lt_of_le (by have := World.block_lt_of_cell? _ _ hw215_0; first | rwa [Aa5] at this | exact this) GW209.out))) _).trans (((Ab6 (p := ⟨gb209, _, none⟩) (by first | exact Nat.ne_of_lt (Nat.lt_of_lt_of_le (by have := World.block_lt_of_cell? _ _ hw215_0; first | rwa [Aa5] at this | exact this) GW209.out) | (rw [Aa5]; exact Nat.ne_of_lt (Nat.lt_of_lt_of_le (by have := World.block_lt_of_cell? _ _ hw215_0; first | rwa [Aa5] at this | exact this) GW209.out)) | (show (Addr.add _ _).block ≠ _; rw [Aa5]; exact Nat.ne_of_lt (Nat.lt_of_lt_of_le (by have := World.block_lt_of_cell? _ _ hw215_0; first | rwa [Aa5] at this | exact this) GW209.out)) | (dsimp only; exact Nat.ne_of_lt (Nat.lt_of_lt_of_le (by have := World.block_lt_of_cell? _ _ hw215_0; first | rwa [Aa5] at this | exact this) GW209.out))) _).trans (hHeld.2.2.2.2.1)))), ((Ab6 (p := ⟨gb209, _, none⟩) (by first | exact Nat.ne_of_lt (Nat.lt_of_lt_of_le (by have := World.block_lt_of_cell? _ _ hw215_1; first | rwa [Aa5] at this | exact this) GW209.out) | (rw [Aa5]; exact Nat.ne_of_lt (Nat.lt_of_lt_of_le (by have := World.block_lt_of_cell? _ _ hw215_1; first | rwa [Aa5] at this | exact this) GW209.out)) | (show (Addr.add _ _).block ≠ _; rw [Aa5]; exact Nat.ne_of_lt (Nat.lt_of_lt_of_le (by have := World.block_lt_of_cell? _ _ hw215_1; first | rwa [Aa5] at this | exact this) GW209.out)) | (dsimp only; exact Nat.ne_of_lt (Nat.lt_of_lt_of_le (by have := World.block_lt_of_cell? _ _ hw215_1; first | rwa [Aa5] at this | exact this) GW209.out))) _).trans (((Ab6 (p := ⟨gb209, _, none⟩) (by first | exact Nat.ne_of_lt (Nat.lt_of_lt_of_le (by have := World.block_lt_of_cell? _ _ hw215_1; first | rwa [Aa5] at this | exact this) GW209.out) | (rw [Aa5]; exact Nat.ne_of_lt (Nat.lt_of_lt_of_le (by have := World.block_lt_of_cell? _ _ hw215_1; first | rwa [Aa5] at this | exact this) GW209.out)) | (show (Addr.add _ _).block ≠ _; rw [Aa5]; exact Nat.ne_of_lt (Nat.lt_of_lt_of_le (by have := World.block_lt_of_cell? _ _ hw215_1; first | rwa [Aa5] at this | exact this) GW209.out)) | (dsimp only; exact Nat.ne_of_lt (Nat.lt_of_lt_of_le (by have := World.block_lt_of_cell? _ _ hw215_1; first | rwa [Aa5] at this | exact this) GW209.out))) _).trans (hHeld.2.2.2.2.2.1)))), ((Ab6 (p := ⟨gb209, _, none⟩) (by first | exact Nat.ne_of_lt (Nat.lt_of_lt_of_le (by have := World.block_lt_of_cell? _ _ hw216_0; first | rwa [Aa5] at this | exact this) GW209.out) | (rw [Aa5]; exact Nat.ne_of_lt (Nat.lt_of_lt_of_le (by have := World.block_lt_of_cell? _ _ hw216_0; first | rwa [Aa5] at this | exact this) GW209.out)) | (show (Addr.add _ _).block ≠ _; rw [Aa5]; exact Nat.ne_of_lt (Nat.lt_of_lt_of_le (by have := World.block_lt_of_cell? _ _ hw216_0; first | rwa [Aa5] at this | exact this) GW209.out)) | (dsimp only; exact Nat.ne_of_lt (Nat.lt_of_lt_of_le (by have := World.block_lt_of_cell? _ _ hw216_0; first | rwa [Aa5] at this | exact this) GW209.out))) _).trans (((Ab6 (p := ⟨gb209, _, none⟩) (by first | exact Nat.ne_of_lt (Nat.lt_of_lt_of_le (by have := World.block_lt_of_cell? _ _ hw216_0; first | rwa [Aa5] at this | exact this) GW209.out) | (rw [Aa5]; exact Nat.ne_of_lt (Nat.lt_of_lt_of_le (by have := World.block_lt_of_cell? _ _ hw216_0; first | rwa [Aa5] at this | exact this) GW209.out)) | (show (Addr.add _ _).block ≠ _; rw [Aa5]; exact Nat.ne_of_lt (Nat.lt_of_lt_of_le (by have := World.block_lt_of_cell? _ _ hw216_0; first | rwa [Aa5] at this | exact this) GW209.out)) | (dsimp only; exact Nat.ne_of_lt (Nat.lt_of_lt_of_le (by have := World.block_lt_of_cell? _ _ hw216_0; first | rwa [Aa5] at this | exact this) GW209.out))) _).trans (hHeld.2.2.2.2.2.2.1)))), ((Ab6 (p := ⟨gb209, _, none⟩) (by first | exact Nat.ne_of_lt (Nat.lt_of_lt_of_le (by have := World.block_lt_of_cell? _ _ hw216_1; first | rwa [Aa5] at this | exact this) GW209.out) | (rw [Aa5]; exact Nat.ne_of_lt (Nat.lt_of_lt_of_le (by have := World.block_lt_of_cell? _ _ hw216_1; first | rwa [Aa5] at this | exact this) GW209.out)) | (show (Addr.add _ _).block ≠ _; rw [Aa5]; exact Nat.ne_of_lt (Nat.lt_of_lt_of_le (by have := World.block_lt_of_cell? _ _ hw216_1; first | rwa [Aa5] at this | exact this) GW209.out)) | (dsimp only; exact Nat.ne_of_lt (Nat.lt_of_lt_of_le (by have := World.block_lt_of_cell? _ _ hw216_1; first | rwa [Aa5] at this | exact this) GW209.out))) _).trans (((Ab6 (p := ⟨gb209, _, none⟩) (by first | exact Nat.ne_of_lt (Nat.lt_of_lt_of_le (by have := World.block_lt_of_cell? _ _ hw216_1; first | rwa [Aa5] at this | exact this) GW209.out) | (rw [Aa5]; exact Nat.ne_of_lt (Nat.lt_of_lt_of_le (by have := World.block_lt_of_cell? _ _ hw216_1; first | rwa [Aa5] at this | exact this) GW209.out)) | (show (Addr.add _ _).block ≠ _; rw [Aa5]; exact Nat.ne_of_lt (Nat.lt_of_lt_of_le (by have := World.block_lt_of_cell? _ _ hw216_1; first | rwa [Aa5] at this | exact this) GW209.out)) | (dsimp only; exact Nat.ne_of_lt (Nat.lt_of_lt_of_le (by have := World.block_lt_of_cell? _ _ hw216_1; first | rwa [Aa5] at this | exact this) GW209.out))) _).trans (hHeld.2.2.2.2.2.2.2))))⟩ (fun hHeld => ?_)
 clear hK K
 refine Ag1 (Ac8 HT_.out (by kernel_rfl)) ?_
 try go_wp2
 refine bodyPost_ret (results_cell_row rfl _ _ gb209 30 #[.slice Ao10 t212.length co10, .slice Ao9 t217.length co9] (0, 0) _ rfl (by refine bq ?_; refine Ab4 (cs := #[.slice Ao10 t212.length co10, .slice none 0 0]) ?_ 1 _ rfl; refine bq ?_; refine Ab4 (cs := #[.slice none 0 0, .slice none 0 0]) ?_ 0 _ rfl; refine bq ?_; exact BK209.out) Tryz.underlying30 rfl (by kernel_rfl)) rfl ?_
 exact ⟨_, _, er, rq (Kd.R_mono (Kd.R_far (p := ⟨gb209, 1, none⟩) (Kd.R_far (p := ⟨gb209, 0, none⟩) (Kd.R_types HO214.out BK209.out (by decide)) (fun _ hk => hk.2) (.slice Ao10 t212.length co10)) (fun _ hk => hk.2) (.slice Ao9 t217.length co9)) (fun _ hk => hk.1.2)), rq (Kd.R_mono (Kd.R_far (p := ⟨gb209, 1, none⟩) (Kd.R_far (p := ⟨gb209, 0, none⟩) (Kd.R_types HO219.out BK209.out (by decide)) (fun _ hk => hk.2) (.slice Ao10 t212.length co10)) (fun _ hk => hk.2) (.slice Ao9 t217.length co9)) (fun _ hk => hk.1.2)), hs HB.out⟩
end Go.Proofs.YtgichahebemmiaaGreatDoor.P
namespace Go.Proofs.YtgichahebemmiaaGreatDoor.P
open Go.RowKit Go.Proofs.YtgichahebemmiaaGreatDoorW.PrintWords Go.Proofs.YtgichahebemmiaaGreatDoorW.PrintLast Go.Proofs.YtgichahebemmiaaGreatDoorW.PrintMore
attribute [local go_sem] Ae7 Ae4 Af9 Ag0 Ad3 Ad2 Ae8 Ae5   -- for this text's walks alone
set_option linter.unusedVariables false
set_option linter.unusedSimpArgs false
def laws_eqInt64S.l0 : Nat → List Int → List Int → Int → Option (Bool)
 | 0, _, _, _ => none
 | k + 1, x0, x1, x5 => if x5 < (x0.length : Int) then (if 0 ≤ x5 then (if x5 < (x1.length : Int) then (if (rd x0 x5) = (rd x1 x5) then (laws_eqInt64S.l0 k x0 x1 (wrap64 (x5 + 1))) else (some false)) else (none)) else (none)) else (some true)
def laws_eqInt64S.f (k : Nat) (l0 : List Int) (l1 : List Int) : Option (Bool) := if (l0.length : Int) = (l1.length : Int) then (laws_eqInt64S.l0 k l0 l1 0) else (some false)
set_option maxHeartbeats 8000000 in
set_option maxRecDepth 100000 in
theorem laws_eqInt64S.calls (k : Nat) (A0 : Option Addr) (c0 : Nat) (l0 : List Int) (A1 : Option Addr) (c1 : Nat) (l1 : List Int) (r : Bool) (w : World) (hr0 : Kd.C (Kd.int .i64) w A0 l0.length l0) (hc0 : l0.length ≤ c0) (hr1 : Kd.C (Kd.int .i64) w A1 l1.length l1) (hc1 : l1.length ≤ c1) (h : laws_eqInt64S.f k l0 l1 = some r) :
  Calls Tryz.prog 14 #[.slice A0 l0.length c0, .slice A1 l1.length c1] w fun e w' => e = .returned (.bool r) ∧ Drawn0 w w' := by
 have HR0 := am hr0
 have HC0 := am hc0
 clear hr0 hc0
 have HR1 := am hr1
 have HC1 := am hc1
 clear hr1 hc1
 have H : (if (l0.length : Int) = (l1.length : Int) then (laws_eqInt64S.l0 k l0 l1 0) else (some false)) = some r := h
 clear h
 by_cases c3 : (l0.length : Int) = (l1.length : Int)
 ·rw [if_pos c3] at H
  have c3b0 : ((l0.length : Int) == (l1.length : Int)) = true := beq_iff_eq.mpr c3
  have c3b1 : ((l0.length : Int) != (l1.length : Int)) = false := bne_eq_false_iff_eq.mpr c3
  have c3b2 : (l0.length == l1.length) = true := by first | simpa using c3 | (simp at c3 ⊢; omega)
  clear c3
  have H' := am H
  clear H
  go_enter Tryz.func14, Tryz.ntmps14
  go_wp2
  repeat (go_quiet (fail); try go_wp2)
  go_loopg [5] k (fun kq v5 w' => ∃ (x5_1 : Int), v5 = .int .i64 x5_1 ∧ Aside0 (laws_eqInt64S.l0 kq l0 l1 x5_1 = some r) ∧ Aside0 (kq ≤ k) ∧ Drawn0 w w')
  case atStart => exact ⟨(0), et, H', ⟨Nat.le_refl _⟩, by repeat (first | exact Drawn0.refl _ | apply Drawn0.step)⟩
  case round =>
   clear H'
   try clear c1; try clear c3; try clear c3b0; try clear c3b1; try clear c3b2
   obtain ⟨x5_1, rfl, HA, HK1, ⟨m1, rfl⟩⟩ := hrel
   cases gk with
   | zero => exact absurd HA.out (by simp [laws_eqInt64S.l0])
   | succ k1 =>
    have H := HA.out
    clear HA
    simp only [laws_eqInt64S.l0] at H
    by_cases c4 : x5_1 < (l0.length : Int)
    ·rw [if_pos c4] at H
     have c4b0 : decide (x5_1 < (l0.length : Int)) = true := decide_eq_true c4
     clear c4
     obtain ⟨c5b0, H⟩ := ife H
     obtain ⟨c6b0, H⟩ := ife H
     by_cases c7 : (rd l0 x5_1) = (rd l1 x5_1)
     ·rw [if_pos c7] at H
      obtain ⟨c7b0, c7b1⟩ := bqt c7; clear c7
      have H' := am H
      clear H
      have p393 : 0 ≤ (x5_1 : Int) := od
      have q393 : x5_1 < (l0.length : Int) := od
      obtain ⟨ad393, e393, hx393_0⟩ := Kd.at_int HR0.out x5_1 p393 q393
      cases e393
      replace p393 := eq_true p393
      replace q393 := eq_true q393
      have p394 : 0 ≤ (x5_1 : Int) := od
      have q394 : x5_1 < (l1.length : Int) := od
      obtain ⟨ad394, e394, hx394_0⟩ := Kd.at_int HR1.out x5_1 p394 q394
      cases e394
      replace p394 := eq_true p394
      replace q394 := eq_true q394
      go_wp2
      repeat (go_quiet (fail); try go_wp2)
      go_roundg k1
      case measure => have := HK1.out; omega
      case rel => exact ⟨(wrap64 (x5_1 + 1)), et, H', ⟨by have := HK1.out; omega⟩, by repeat (first | exact Drawn0.refl _ | apply Drawn0.step)⟩
     ·rw [if_neg c7] at H
      obtain ⟨c7b0, c7b1⟩ := bqf c7
      obtain rfl := Option.some.inj H
      have p393 : 0 ≤ (x5_1 : Int) := od
      have q393 : x5_1 < (l0.length : Int) := od
      obtain ⟨ad393, e393, hx393_0⟩ := Kd.at_int HR0.out x5_1 p393 q393
      cases e393
      replace p393 := eq_true p393
      replace q393 := eq_true q393
      have p394 : 0 ≤ (x5_1 : Int) := od
      have q394 : x5_1 < (l1.length : Int) := od
      obtain ⟨ad394, e394, hx394_0⟩ := Kd.at_int HR1.out x5_1 p394 q394
      cases e394
      replace p394 := eq_true p394
      replace q394 := eq_true q394
      go_wp2
      repeat (go_quiet (fail); try go_wp2)
      go_ret
      exact ⟨et, by repeat (first | exact Drawn0.refl _ | apply Drawn0.step)⟩
    ·rw [if_neg c4] at H
     have c4b0 : decide (x5_1 < (l0.length : Int)) = false := decide_eq_false c4
     clear c4
     obtain rfl := Option.some.inj H
     go_wp2
     repeat (go_quiet (fail); try go_wp2)
     go_ret
     exact ⟨et, by repeat (first | exact Drawn0.refl _ | apply Drawn0.step)⟩
 ·rw [if_neg c3] at H
  obtain ⟨c3b0, c3b1⟩ := bqf c3
  have c3b2 : (l0.length == l1.length) = false := by first | simpa using c3 | (simp at c3 ⊢; omega)
  obtain rfl := Option.some.inj H
  go_enter Tryz.func14, Tryz.ntmps14
  go_wp2
  repeat (go_quiet (fail); try go_wp2)
  go_ret
  exact ⟨et, by repeat (first | exact Drawn0.refl _ | apply Drawn0.step)⟩
def laws_eqEquation.f (k : Nat) (l0_0 : List Int) (l0_1 : List Int) (l1_0 : List Int) (l1_1 : List Int) : Option (Bool) := (laws_eqInt64S.f k l0_0 l1_0).bind fun t397 => (if t397 = true then ((laws_eqInt64S.f k l0_1 l1_1).bind fun t398 => (if t398 = true then (some true) else (some false))) else (some false))
set_option maxHeartbeats 8000000 in
set_option maxRecDepth 100000 in
theorem laws_eqEquation.calls (k : Nat) (A0_0 : Option Addr) (c0_0 : Nat) (l0_0 : List Int) (A0_1 : Option Addr) (c0_1 : Nat) (l0_1 : List Int) (A1_0 : Option Addr) (c1_0 : Nat) (l1_0 : List Int) (A1_1 : Option Addr) (c1_1 : Nat) (l1_1 : List Int) (r : Bool) (w : World) (hr0_0 : Kd.C (Kd.int .i64) w A0_0 l0_0.length l0_0) (hc0_0 : l0_0.length ≤ c0_0) (hr0_1 : Kd.C (Kd.int .i64) w A0_1 l0_1.length l0_1) (hc0_1 : l0_1.length ≤ c0_1) (hr1_0 : Kd.C (Kd.int .i64) w A1_0 l1_0.length l1_0) (hc1_0 : l1_0.length ≤ c1_0) (hr1_1 : Kd.C (Kd.int .i64) w A1_1 l1_1.length l1_1) (hc1_1 : l1_1.length ≤ c1_1) (h : laws_eqEquation.f k l0_0 l0_1 l1_0 l1_1 = some r) :
  Calls Tryz.prog 15 #[.agg #[.slice A0_0 l0_0.length c0_0, .slice A0_1 l0_1.length c0_1], .agg #[.slice A1_0 l1_0.length c1_0, .slice A1_1 l1_1.length c1_1]] w fun e w' => e = .returned (.bool r) ∧ Below w.heap.size w w' := by
 have hu30 := Tryz.underlying30
 have HR0_0 := am hr0_0
 have HC0_0 := am hc0_0
 clear hr0_0 hc0_0
 have HR0_1 := am hr0_1
 have HC0_1 := am hc0_1
 clear hr0_1 hc0_1
 have HR1_0 := am hr1_0
 have HC1_0 := am hc1_0
 clear hr1_0 hc1_0
 have HR1_1 := am hr1_1
 have HC1_1 := am hc1_1
 clear hr1_1 hc1_1
 have HB := am (Below.refl w.heap.size w)
 have H : ((laws_eqInt64S.f k l0_0 l1_0).bind fun t397 => (if t397 = true then ((laws_eqInt64S.f k l0_1 l1_1).bind fun t398 => (if t398 = true then (some true) else (some false))) else (some false))) = some r := h
 clear h
 obtain ⟨t397, A3, H⟩ := ob H
 try dsimp only at H
 by_cases c4 : t397 = true
 ·subst c4
  rw [if_pos rfl] at H
  obtain ⟨t398, A5, H⟩ := ob H
  try dsimp only at H
  by_cases c6 : t398 = true
  ·subst c6
   rw [if_pos rfl] at H
   obtain rfl := Option.some.inj H
   go_enter Tryz.func15, Tryz.ntmps15
   go_wp2_with (first | (refine bx 2 rfl #[.slice A0_0 l0_0.length c0_0, .slice A0_1 l0_1.length c0_1] 30 ?_; intro gb395 hg w7 hbox hb; have BK395 := am (hbox); have GW395 := am (bz hg (hq HB.out)); replace HB := sb HB hb; have GE395 := GW395; clear hb hbox hg) | (refine bx 3 rfl #[.slice A1_0 l1_0.length c1_0, .slice A1_1 l1_1.length c1_1] 30 ?_; intro gb396 hg w8 hbox hb; have BK396 := am (hbox); have GW396 := am (bz hg (hs HB.out)); replace HB := sb HB hb; have GE396 := GW396; have NB395_396 := nl hg BK395; have NB396_395 := ng hg BK395; replace BK395 := bb BK395 hb; clear hb hbox hg; have hnb9 := NB395_396.out; have hnc9 := NB396_395.out; have hcz10_0 : w8.cell? ⟨gb395, 0, none⟩ = some (.slice A0_0 l0_0.length c0_0) := (Aa0 BK395.out 0).trans rfl; have hcz10_1 : w8.cell? ⟨gb395, 1, none⟩ = some (.slice A0_1 l0_1.length c0_1) := (Aa0 BK395.out 1).trans rfl; have hfz10_0 := Aa1 BK395.out 0; have hfz10_1 := Aa1 BK395.out 1; have hcz11_0 : w8.cell? ⟨gb396, 0, none⟩ = some (.slice A1_0 l1_0.length c1_0) := (Aa0 BK396.out 0).trans rfl; have hcz11_1 : w8.cell? ⟨gb396, 1, none⟩ = some (.slice A1_1 l1_1.length c1_1) := (Aa0 BK396.out 1).trans rfl; have hfz11_0 := Aa1 BK396.out 0; have hfz11_1 := Aa1 BK396.out 1) | (refine gl (some 9) Tryz.func14 rfl #[.slice A0_0 l0_0.length c0_0, .slice A1_0 l1_0.length c1_0] ?_; refine (laws_eqInt64S.calls k _ _ l0_0 _ _ l1_0 true _ (cq (Kd.C_below HR0_0.out HB.out)) HC0_0.out (cq (Kd.C_below HR1_0.out HB.out)) HC1_0.out A3.out).mono ?_; rintro e w' ⟨rfl, ⟨nd, rfl⟩⟩; refine ⟨_, rfl, ?_⟩) | (refine gl (some 15) Tryz.func14 rfl #[.slice A0_1 l0_1.length c0_1, .slice A1_1 l1_1.length c1_1] ?_; refine (laws_eqInt64S.calls k _ _ l0_1 _ _ l1_1 true _ (cq (Kd.C_below HR0_1.out (hs HB.out))) HC0_1.out (cq (Kd.C_below HR1_1.out (hs HB.out))) HC1_1.out A5.out).mono ?_; rintro e w' ⟨rfl, ⟨nd, rfl⟩⟩; refine ⟨_, rfl, ?_⟩))
   go_ret
   exact ⟨er, hs HB.out⟩
  ·replace c6 := Bool.eq_false_iff.mpr c6
   subst c6
   rw [if_neg (show ¬ (false = true) by decide)] at H
   obtain rfl := Option.some.inj H
   go_enter Tryz.func15, Tryz.ntmps15
   go_wp2_with (first | (refine bx 2 rfl #[.slice A0_0 l0_0.length c0_0, .slice A0_1 l0_1.length c0_1] 30 ?_; intro gb395 hg w12 hbox hb; have BK395 := am (hbox); have GW395 := am (bz hg (hq HB.out)); replace HB := sb HB hb; have GE395 := GW395; clear hb hbox hg) | (refine bx 3 rfl #[.slice A1_0 l1_0.length c1_0, .slice A1_1 l1_1.length c1_1] 30 ?_; intro gb396 hg w13 hbox hb; have BK396 := am (hbox); have GW396 := am (bz hg (hs HB.out)); replace HB := sb HB hb; have GE396 := GW396; have NB395_396 := nl hg BK395; have NB396_395 := ng hg BK395; replace BK395 := bb BK395 hb; clear hb hbox hg; have hnb14 := NB395_396.out; have hnc14 := NB396_395.out; have hcz15_0 : w13.cell? ⟨gb395, 0, none⟩ = some (.slice A0_0 l0_0.length c0_0) := (Aa0 BK395.out 0).trans rfl; have hcz15_1 : w13.cell? ⟨gb395, 1, none⟩ = some (.slice A0_1 l0_1.length c0_1) := (Aa0 BK395.out 1).trans rfl; have hfz15_0 := Aa1 BK395.out 0; have hfz15_1 := Aa1 BK395.out 1; have hcz16_0 : w13.cell? ⟨gb396, 0, none⟩ = some (.slice A1_0 l1_0.length c1_0) := (Aa0 BK396.out 0).trans rfl; have hcz16_1 : w13.cell? ⟨gb396, 1, none⟩ = some (.slice A1_1 l1_1.length c1_1) := (Aa0 BK396.out 1).trans rfl; have hfz16_0 := Aa1 BK396.out 0; have hfz16_1 := Aa1 BK396.out 1) | (refine gl (some 9) Tryz.func14 rfl #[.slice A0_0 l0_0.length c0_0, .slice A1_0 l1_0.length c1_0] ?_; refine (laws_eqInt64S.calls k _ _ l0_0 _ _ l1_0 true _ (cq (Kd.C_below HR0_0.out HB.out)) HC0_0.out (cq (Kd.C_below HR1_0.out HB.out)) HC1_0.out A3.out).mono ?_; rintro e w' ⟨rfl, ⟨nd, rfl⟩⟩; refine ⟨_, rfl, ?_⟩) | (refine gl (some 15) Tryz.func14 rfl #[.slice A0_1 l0_1.length c0_1, .slice A1_1 l1_1.length c1_1] ?_; refine (laws_eqInt64S.calls k _ _ l0_1 _ _ l1_1 false _ (cq (Kd.C_below HR0_1.out (hs HB.out))) HC0_1.out (cq (Kd.C_below HR1_1.out (hs HB.out))) HC1_1.out A5.out).mono ?_; rintro e w' ⟨rfl, ⟨nd, rfl⟩⟩; refine ⟨_, rfl, ?_⟩))
   go_ret
   exact ⟨er, hs HB.out⟩
 ·replace c4 := Bool.eq_false_iff.mpr c4
  subst c4
  rw [if_neg (show ¬ (false = true) by decide)] at H
  obtain rfl := Option.some.inj H
  go_enter Tryz.func15, Tryz.ntmps15
  go_wp2_with (first | (refine bx 2 rfl #[.slice A0_0 l0_0.length c0_0, .slice A0_1 l0_1.length c0_1] 30 ?_; intro gb395 hg w17 hbox hb; have BK395 := am (hbox); have GW395 := am (bz hg (hq HB.out)); replace HB := sb HB hb; have GE395 := GW395; clear hb hbox hg) | (refine bx 3 rfl #[.slice A1_0 l1_0.length c1_0, .slice A1_1 l1_1.length c1_1] 30 ?_; intro gb396 hg w18 hbox hb; have BK396 := am (hbox); have GW396 := am (bz hg (hs HB.out)); replace HB := sb HB hb; have GE396 := GW396; have NB395_396 := nl hg BK395; have NB396_395 := ng hg BK395; replace BK395 := bb BK395 hb; clear hb hbox hg; have hnb19 := NB395_396.out; have hnc19 := NB396_395.out; have hcz20_0 : w18.cell? ⟨gb395, 0, none⟩ = some (.slice A0_0 l0_0.length c0_0) := (Aa0 BK395.out 0).trans rfl; have hcz20_1 : w18.cell? ⟨gb395, 1, none⟩ = some (.slice A0_1 l0_1.length c0_1) := (Aa0 BK395.out 1).trans rfl; have hfz20_0 := Aa1 BK395.out 0; have hfz20_1 := Aa1 BK395.out 1; have hcz21_0 : w18.cell? ⟨gb396, 0, none⟩ = some (.slice A1_0 l1_0.length c1_0) := (Aa0 BK396.out 0).trans rfl; have hcz21_1 : w18.cell? ⟨gb396, 1, none⟩ = some (.slice A1_1 l1_1.length c1_1) := (Aa0 BK396.out 1).trans rfl; have hfz21_0 := Aa1 BK396.out 0; have hfz21_1 := Aa1 BK396.out 1) | (refine gl (some 9) Tryz.func14 rfl #[.slice A0_0 l0_0.length c0_0, .slice A1_0 l1_0.length c1_0] ?_; refine (laws_eqInt64S.calls k _ _ l0_0 _ _ l1_0 false _ (cq (Kd.C_below HR0_0.out HB.out)) HC0_0.out (cq (Kd.C_below HR1_0.out HB.out)) HC1_0.out A3.out).mono ?_; rintro e w' ⟨rfl, ⟨nd, rfl⟩⟩; refine ⟨_, rfl, ?_⟩))
  go_ret
  exact ⟨er, hs HB.out⟩
def laws_eqEquationResult.f (k : Nat) (a0_0 : Int) (l0_1 : List Int) (l0_2 : List Int) (a1_0 : Int) (l1_1 : List Int) (l1_2 : List Int) : Option (Bool) := if a0_0 = a1_0 then ((laws_eqEquation.f k l0_1 l0_2 l1_1 l1_2).bind fun t401 => (if t401 = true then (some true) else (some false))) else (some false)
set_option maxHeartbeats 8000000 in
set_option maxRecDepth 100000 in
theorem laws_eqEquationResult.calls (k : Nat) (a0_0 : Int) (A0_1 : Option Addr) (c0_1 : Nat) (l0_1 : List Int) (A0_2 : Option Addr) (c0_2 : Nat) (l0_2 : List Int) (a1_0 : Int) (A1_1 : Option Addr) (c1_1 : Nat) (l1_1 : List Int) (A1_2 : Option Addr) (c1_2 : Nat) (l1_2 : List Int) (r : Bool) (w : World) (hr0_1 : Kd.C (Kd.int .i64) w A0_1 l0_1.length l0_1) (hc0_1 : l0_1.length ≤ c0_1) (hr0_2 : Kd.C (Kd.int .i64) w A0_2 l0_2.length l0_2) (hc0_2 : l0_2.length ≤ c0_2) (hr1_1 : Kd.C (Kd.int .i64) w A1_1 l1_1.length l1_1) (hc1_1 : l1_1.length ≤ c1_1) (hr1_2 : Kd.C (Kd.int .i64) w A1_2 l1_2.length l1_2) (hc1_2 : l1_2.length ≤ c1_2) (h : laws_eqEquationResult.f k a0_0 l0_1 l0_2 a1_0 l1_1 l1_2 = some r) :
  Calls Tryz.prog 12 #[.agg #[.int .i64 a0_0, .slice A0_1 l0_1.length c0_1, .slice A0_2 l0_2.length c0_2], .agg #[.int .i64 a1_0, .slice A1_1 l1_1.length c1_1, .slice A1_2 l1_2.length c1_2]] w fun e w' => e = .returned (.bool r) ∧ Below w.heap.size w w' := by
 have hu32 := Tryz.underlying32
 have hu30 := Tryz.underlying30
 have HR0_1 := am hr0_1
 have HC0_1 := am hc0_1
 clear hr0_1 hc0_1
 have HR0_2 := am hr0_2
 have HC0_2 := am hc0_2
 clear hr0_2 hc0_2
 have HR1_1 := am hr1_1
 have HC1_1 := am hc1_1
 clear hr1_1 hc1_1
 have HR1_2 := am hr1_2
 have HC1_2 := am hc1_2
 clear hr1_2 hc1_2
 have HB := am (Below.refl w.heap.size w)
 have H : (if a0_0 = a1_0 then ((laws_eqEquation.f k l0_1 l0_2 l1_1 l1_2).bind fun t401 => (if t401 = true then (some true) else (some false))) else (some false)) = some r := h
 clear h
 by_cases c3 : a0_0 = a1_0
 ·rw [if_pos c3] at H
  obtain ⟨c3b0, c3b1⟩ := bqt c3; clear c3
  obtain ⟨t401, A4, H⟩ := ob H
  try dsimp only at H
  by_cases c5 : t401 = true
  ·subst c5
   rw [if_pos rfl] at H
   obtain rfl := Option.some.inj H
   go_enter Tryz.func12, Tryz.ntmps12
   go_wp2_with (first | (refine bx 2 rfl #[.int .i64 a0_0, .slice A0_1 l0_1.length c0_1, .slice A0_2 l0_2.length c0_2] 32 ?_; intro gb399 hg w6 hbox hb; have BK399 := am (hbox); have GW399 := am (bz hg (hq HB.out)); replace HB := sb HB hb; have GE399 := GW399; clear hb hbox hg) | (refine bx 3 rfl #[.int .i64 a1_0, .slice A1_1 l1_1.length c1_1, .slice A1_2 l1_2.length c1_2] 32 ?_; intro gb400 hg w7 hbox hb; have BK400 := am (hbox); have GW400 := am (bz hg (hs HB.out)); replace HB := sb HB hb; have GE400 := GW400; have NB399_400 := nl hg BK399; have NB400_399 := ng hg BK399; replace BK399 := bb BK399 hb; clear hb hbox hg; have hnb8 := NB399_400.out; have hnc8 := NB400_399.out; have hcz9_0 : w7.cell? ⟨gb399, 0, none⟩ = some (.int .i64 a0_0) := (Aa0 BK399.out 0).trans rfl; have hcz9_1 : w7.cell? ⟨gb399, 1, none⟩ = some (.slice A0_1 l0_1.length c0_1) := (Aa0 BK399.out 1).trans rfl; have hcz9_2 : w7.cell? ⟨gb399, 2, none⟩ = some (.slice A0_2 l0_2.length c0_2) := (Aa0 BK399.out 2).trans rfl; have hfz9_0 := Aa1 BK399.out 0; have hfz9_1 := Aa1 BK399.out 1; have hfz9_2 := Aa1 BK399.out 2; have hcz10_0 : w7.cell? ⟨gb400, 0, none⟩ = some (.int .i64 a1_0) := (Aa0 BK400.out 0).trans rfl; have hcz10_1 : w7.cell? ⟨gb400, 1, none⟩ = some (.slice A1_1 l1_1.length c1_1) := (Aa0 BK400.out 1).trans rfl; have hcz10_2 : w7.cell? ⟨gb400, 2, none⟩ = some (.slice A1_2 l1_2.length c1_2) := (Aa0 BK400.out 2).trans rfl; have hfz10_0 := Aa1 BK400.out 0; have hfz10_1 := Aa1 BK400.out 1; have hfz10_2 := Aa1 BK400.out 2) | (refine gl (some 14) Tryz.func15 rfl #[.agg #[.slice A0_1 l0_1.length c0_1, .slice A0_2 l0_2.length c0_2], .agg #[.slice A1_1 l1_1.length c1_1, .slice A1_2 l1_2.length c1_2]] ?_; refine (laws_eqEquation.calls k _ _ l0_1 _ _ l0_2 _ _ l1_1 _ _ l1_2 true _ (cq (Kd.C_below HR0_1.out HB.out)) HC0_1.out (cq (Kd.C_below HR0_2.out HB.out)) HC0_2.out (cq (Kd.C_below HR1_1.out HB.out)) HC1_1.out (cq (Kd.C_below HR1_2.out HB.out)) HC1_2.out A4.out).mono ?_; rintro e w11 ⟨rfl, hb⟩; refine ⟨_, rfl, ?_⟩; replace BK399 := bb BK399 hb; replace BK400 := bb BK400 hb; replace HB := sb HB hb; (try clear hb)))
   go_ret
   exact ⟨er, hs HB.out⟩
  ·replace c5 := Bool.eq_false_iff.mpr c5
   subst c5
   rw [if_neg (show ¬ (false = true) by decide)] at H
   obtain rfl := Option.some.inj H
   go_enter Tryz.func12, Tryz.ntmps12
   go_wp2_with (first | (refine bx 2 rfl #[.int .i64 a0_0, .slice A0_1 l0_1.length c0_1, .slice A0_2 l0_2.length c0_2] 32 ?_; intro gb399 hg w12 hbox hb; have BK399 := am (hbox); have GW399 := am (bz hg (hq HB.out)); replace HB := sb HB hb; have GE399 := GW399; clear hb hbox hg) | (refine bx 3 rfl #[.int .i64 a1_0, .slice A1_1 l1_1.length c1_1, .slice A1_2 l1_2.length c1_2] 32 ?_; intro gb400 hg w13 hbox hb; have BK400 := am (hbox); have GW400 := am (bz hg (hs HB.out)); replace HB := sb HB hb; have GE400 := GW400; have NB399_400 := nl hg BK399; have NB400_399 := ng hg BK399; replace BK399 := bb BK399 hb; clear hb hbox hg; have hnb14 := NB399_400.out; have hnc14 := NB400_399.out; have hcz15_0 : w13.cell? ⟨gb399, 0, none⟩ = some (.int .i64 a0_0) := (Aa0 BK399.out 0).trans rfl; have hcz15_1 : w13.cell? ⟨gb399, 1, none⟩ = some (.slice A0_1 l0_1.length c0_1) := (Aa0 BK399.out 1).trans rfl; have hcz15_2 : w13.cell? ⟨gb399, 2, none⟩ = some (.slice A0_2 l0_2.length c0_2) := (Aa0 BK399.out 2).trans rfl; have hfz15_0 := Aa1 BK399.out 0; have hfz15_1 := Aa1 BK399.out 1; have hfz15_2 := Aa1 BK399.out 2; have hcz16_0 : w13.cell? ⟨gb400, 0, none⟩ = some (.int .i64 a1_0) := (Aa0 BK400.out 0).trans rfl; have hcz16_1 : w13.cell? ⟨gb400, 1, none⟩ = some (.slice A1_1 l1_1.length c1_1) := (Aa0 BK400.out 1).trans rfl; have hcz16_2 : w13.cell? ⟨gb400, 2, none⟩ = some (.slice A1_2 l1_2.length c1_2) := (Aa0 BK400.out 2).trans rfl; have hfz16_0 := Aa1 BK400.out 0; have hfz16_1 := Aa1 BK400.out 1; have hfz16_2 := Aa1 BK400.out 2) | (refine gl (some 14) Tryz.func15 rfl #[.agg #[.slice A0_1 l0_1.length c0_1, .slice A0_2 l0_2.length c0_2], .agg #[.slice A1_1 l1_1.length c1_1, .slice A1_2 l1_2.length c1_2]] ?_; refine (laws_eqEquation.calls k _ _ l0_1 _ _ l0_2 _ _ l1_1 _ _ l1_2 false _ (cq (Kd.C_below HR0_1.out HB.out)) HC0_1.out (cq (Kd.C_below HR0_2.out HB.out)) HC0_2.out (cq (Kd.C_below HR1_1.out HB.out)) HC1_1.out (cq (Kd.C_below HR1_2.out HB.out)) HC1_2.out A4.out).mono ?_; rintro e w17 ⟨rfl, hb⟩; refine ⟨_, rfl, ?_⟩; replace BK399 := bb BK399 hb; replace BK400 := bb BK400 hb; replace HB := sb HB hb; (try clear hb)))
   go_ret
   exact ⟨er, hs HB.out⟩
 ·rw [if_neg c3] at H
  obtain ⟨c3b0, c3b1⟩ := bqf c3
  obtain rfl := Option.some.inj H
  go_enter Tryz.func12, Tryz.ntmps12
  go_wp2_with (first | (refine bx 2 rfl #[.int .i64 a0_0, .slice A0_1 l0_1.length c0_1, .slice A0_2 l0_2.length c0_2] 32 ?_; intro gb399 hg w18 hbox hb; have BK399 := am (hbox); have GW399 := am (bz hg (hq HB.out)); replace HB := sb HB hb; have GE399 := GW399; clear hb hbox hg) | (refine bx 3 rfl #[.int .i64 a1_0, .slice A1_1 l1_1.length c1_1, .slice A1_2 l1_2.length c1_2] 32 ?_; intro gb400 hg w19 hbox hb; have BK400 := am (hbox); have GW400 := am (bz hg (hs HB.out)); replace HB := sb HB hb; have GE400 := GW400; have NB399_400 := nl hg BK399; have NB400_399 := ng hg BK399; replace BK399 := bb BK399 hb; clear hb hbox hg; have hnb20 := NB399_400.out; have hnc20 := NB400_399.out; have hcz21_0 : w19.cell? ⟨gb399, 0, none⟩ = some (.int .i64 a0_0) := (Aa0 BK399.out 0).trans rfl; have hcz21_1 : w19.cell? ⟨gb399, 1, none⟩ = some (.slice A0_1 l0_1.length c0_1) := (Aa0 BK399.out 1).trans rfl; have hcz21_2 : w19.cell? ⟨gb399, 2, none⟩ = some (.slice A0_2 l0_2.length c0_2) := (Aa0 BK399.out 2).trans rfl; have hfz21_0 := Aa1 BK399.out 0; have hfz21_1 := Aa1 BK399.out 1; have hfz21_2 := Aa1 BK399.out 2; have hcz22_0 : w19.cell? ⟨gb400, 0, none⟩ = some (.int .i64 a1_0) := (Aa0 BK400.out 0).trans rfl; have hcz22_1 : w19.cell? ⟨gb400, 1, none⟩ = some (.slice A1_1 l1_1.length c1_1) := (Aa0 BK400.out 1).trans rfl; have hcz22_2 : w19.cell? ⟨gb400, 2, none⟩ = some (.slice A1_2 l1_2.length c1_2) := (Aa0 BK400.out 2).trans rfl; have hfz22_0 := Aa1 BK400.out 0; have hfz22_1 := Aa1 BK400.out 1; have hfz22_2 := Aa1 BK400.out 2))
  go_ret
  exact ⟨er, hs HB.out⟩
def laws_eqSymbol.f (a0_0 : ByteArray) (a0_1 : Int) (a1_0 : ByteArray) (a1_1 : Int) : Option (Bool) := if a0_0.toList = a1_0.toList then (if a0_1 = a1_1 then (some true) else (some false)) else (some false)
set_option maxHeartbeats 8000000 in
set_option maxRecDepth 100000 in
theorem laws_eqSymbol.calls (a0_0 : ByteArray) (a0_1 : Int) (a1_0 : ByteArray) (a1_1 : Int) (r : Bool) (w : World) (h : laws_eqSymbol.f a0_0 a0_1 a1_0 a1_1 = some r) :
  Calls Tryz.prog 64 #[.agg #[.string a0_0, .int .i64 a0_1], .agg #[.string a1_0, .int .i64 a1_1]] w fun e w' => e = .returned (.bool r) ∧ Below w.heap.size w w' := by
 have hu79 := Tryz.underlying79
 have HB := am (Below.refl w.heap.size w)
 have H : (if a0_0.toList = a1_0.toList then (if a0_1 = a1_1 then (some true) else (some false)) else (some false)) = some r := h
 clear h
 by_cases c3 : a0_0.toList = a1_0.toList
 ·rw [if_pos c3] at H
  obtain ⟨c3b0, c3b1⟩ := bqt c3; clear c3
  by_cases c4 : a0_1 = a1_1
  ·rw [if_pos c4] at H
   obtain ⟨c4b0, c4b1⟩ := bqt c4; clear c4
   obtain rfl := Option.some.inj H
   go_enter Tryz.func64, Tryz.ntmps64
   go_wp2_with (first | (refine bx 2 rfl #[.string a0_0, .int .i64 a0_1] 79 ?_; intro gb402 hg w5 hbox hb; have BK402 := am (hbox); have GW402 := am (bz hg (hq HB.out)); replace HB := sb HB hb; have GE402 := GW402; clear hb hbox hg) | (refine bx 3 rfl #[.string a1_0, .int .i64 a1_1] 79 ?_; intro gb403 hg w6 hbox hb; have BK403 := am (hbox); have GW403 := am (bz hg (hs HB.out)); replace HB := sb HB hb; have GE403 := GW403; have NB402_403 := nl hg BK402; have NB403_402 := ng hg BK402; replace BK402 := bb BK402 hb; clear hb hbox hg; have hnb7 := NB402_403.out; have hnc7 := NB403_402.out; have hcz8_0 : w6.cell? ⟨gb402, 0, none⟩ = some (.string a0_0) := (Aa0 BK402.out 0).trans rfl; have hcz8_1 : w6.cell? ⟨gb402, 1, none⟩ = some (.int .i64 a0_1) := (Aa0 BK402.out 1).trans rfl; have hfz8_0 := Aa1 BK402.out 0; have hfz8_1 := Aa1 BK402.out 1; have hcz9_0 : w6.cell? ⟨gb403, 0, none⟩ = some (.string a1_0) := (Aa0 BK403.out 0).trans rfl; have hcz9_1 : w6.cell? ⟨gb403, 1, none⟩ = some (.int .i64 a1_1) := (Aa0 BK403.out 1).trans rfl; have hfz9_0 := Aa1 BK403.out 0; have hfz9_1 := Aa1 BK403.out 1))
   go_ret
   exact ⟨er, hs HB.out⟩
  ·rw [if_neg c4] at H
   obtain ⟨c4b0, c4b1⟩ := bqf c4
   obtain rfl := Option.some.inj H
   go_enter Tryz.func64, Tryz.ntmps64
   go_wp2_with (first | (refine bx 2 rfl #[.string a0_0, .int .i64 a0_1] 79 ?_; intro gb402 hg w10 hbox hb; have BK402 := am (hbox); have GW402 := am (bz hg (hq HB.out)); replace HB := sb HB hb; have GE402 := GW402; clear hb hbox hg) | (refine bx 3 rfl #[.string a1_0, .int .i64 a1_1] 79 ?_; intro gb403 hg w11 hbox hb; have BK403 := am (hbox); have GW403 := am (bz hg (hs HB.out)); replace HB := sb HB hb; have GE403 := GW403; have NB402_403 := nl hg BK402; have NB403_402 := ng hg BK402; replace BK402 := bb BK402 hb; clear hb hbox hg; have hnb12 := NB402_403.out; have hnc12 := NB403_402.out; have hcz13_0 : w11.cell? ⟨gb402, 0, none⟩ = some (.string a0_0) := (Aa0 BK402.out 0).trans rfl; have hcz13_1 : w11.cell? ⟨gb402, 1, none⟩ = some (.int .i64 a0_1) := (Aa0 BK402.out 1).trans rfl; have hfz13_0 := Aa1 BK402.out 0; have hfz13_1 := Aa1 BK402.out 1; have hcz14_0 : w11.cell? ⟨gb403, 0, none⟩ = some (.string a1_0) := (Aa0 BK403.out 0).trans rfl; have hcz14_1 : w11.cell? ⟨gb403, 1, none⟩ = some (.int .i64 a1_1) := (Aa0 BK403.out 1).trans rfl; have hfz14_0 := Aa1 BK403.out 0; have hfz14_1 := Aa1 BK403.out 1))
   go_ret
   exact ⟨er, hs HB.out⟩
 ·rw [if_neg c3] at H
  obtain ⟨c3b0, c3b1⟩ := bqf c3
  obtain rfl := Option.some.inj H
  go_enter Tryz.func64, Tryz.ntmps64
  go_wp2_with (first | (refine bx 2 rfl #[.string a0_0, .int .i64 a0_1] 79 ?_; intro gb402 hg w15 hbox hb; have BK402 := am (hbox); have GW402 := am (bz hg (hq HB.out)); replace HB := sb HB hb; have GE402 := GW402; clear hb hbox hg) | (refine bx 3 rfl #[.string a1_0, .int .i64 a1_1] 79 ?_; intro gb403 hg w16 hbox hb; have BK403 := am (hbox); have GW403 := am (bz hg (hs HB.out)); replace HB := sb HB hb; have GE403 := GW403; have NB402_403 := nl hg BK402; have NB403_402 := ng hg BK402; replace BK402 := bb BK402 hb; clear hb hbox hg; have hnb17 := NB402_403.out; have hnc17 := NB403_402.out; have hcz18_0 : w16.cell? ⟨gb402, 0, none⟩ = some (.string a0_0) := (Aa0 BK402.out 0).trans rfl; have hcz18_1 : w16.cell? ⟨gb402, 1, none⟩ = some (.int .i64 a0_1) := (Aa0 BK402.out 1).trans rfl; have hfz18_0 := Aa1 BK402.out 0; have hfz18_1 := Aa1 BK402.out 1; have hcz19_0 : w16.cell? ⟨gb403, 0, none⟩ = some (.string a1_0) := (Aa0 BK403.out 0).trans rfl; have hcz19_1 : w16.cell? ⟨gb403, 1, none⟩ = some (.int .i64 a1_1) := (Aa0 BK403.out 1).trans rfl; have hfz19_0 := Aa1 BK403.out 0; have hfz19_1 := Aa1 BK403.out 1))
  go_ret
  exact ⟨er, hs HB.out⟩
def laws_eqSymbolS.l0 : Nat → List (S79) → List (S79) → Int → Option (Bool)
 | 0, _, _, _ => none
 | k + 1, x0, x1, x5 => if x5 < (x0.length : Int) then (if 0 ≤ x5 then (if x5 < (x1.length : Int) then ((laws_eqSymbol.f ((Aa7 x0 x5).f0) ((Aa7 x0 x5).f1) ((Aa7 x1 x5).f0) ((Aa7 x1 x5).f1)).bind fun t406 => (if t406 = true then (laws_eqSymbolS.l0 k x0 x1 (wrap64 (x5 + 1))) else (some false))) else (none)) else (none)) else (some true)
def laws_eqSymbolS.f (k : Nat) (l0 : List (S79)) (l1 : List (S79)) : Option (Bool) := if (l0.length : Int) = (l1.length : Int) then (laws_eqSymbolS.l0 k l0 l1 0) else (some false)
def laws_eqSymbolS.T6 : Bool × List (List Nat × List Nat) := (true, [([], []), ([], []), ([0, 1], [0, 1]), ([2], [2]), ([], []), ([], []), ([4, 5], [4, 5]), ([6], [6]), ([3, 7], [3, 7]), ([8], [8])])
def laws_eqSymbolS.B6 : List Nat := [0, 0, 3, 7, 0, 0, 48, 112, 255, 511]
theorem laws_eqSymbolS.tab6 : Aj9 .any (Ak7 Tryz.f39 6) = laws_eqSymbolS.T6 := by kernel_rfl
theorem laws_eqSymbolS.bits6 : Ae6 laws_eqSymbolS.T6.2 laws_eqSymbolS.B6 = true := by kernel_rfl
set_option maxHeartbeats 8000000 in
set_option maxRecDepth 100000 in
theorem laws_eqSymbolS.calls (k : Nat) (A0 : Option Addr) (c0 : Nat) (l0 : List (S79)) (A1 : Option Addr) (c1 : Nat) (l1 : List (S79)) (r : Bool) (w : World) (hr0 : Kd.C k79 w A0 l0.length l0) (hc0 : l0.length ≤ c0) (hr1 : Kd.C k79 w A1 l1.length l1) (hc1 : l1.length ≤ c1) (h : laws_eqSymbolS.f k l0 l1 = some r) :
  Calls Tryz.prog 39 #[.slice A0 l0.length c0, .slice A1 l1.length c1] w fun e w' => e = .returned (.bool r) ∧ Below w.heap.size w w' := by
 have hu79 := Tryz.underlying79
 have HR0 := am hr0
 have HC0 := am hc0
 clear hr0 hc0
 have HR1 := am hr1
 have HC1 := am hc1
 clear hr1 hc1
 have HB := am (Below.refl w.heap.size w)
 have H : (if (l0.length : Int) = (l1.length : Int) then (laws_eqSymbolS.l0 k l0 l1 0) else (some false)) = some r := h
 clear h
 by_cases c3 : (l0.length : Int) = (l1.length : Int)
 ·rw [if_pos c3] at H
  have c3b0 : ((l0.length : Int) == (l1.length : Int)) = true := beq_iff_eq.mpr c3
  have c3b1 : ((l0.length : Int) != (l1.length : Int)) = false := bne_eq_false_iff_eq.mpr c3
  have c3b2 : (l0.length == l1.length) = true := by first | simpa using c3 | (simp at c3 ⊢; omega)
  clear c3
  have H' := am H
  clear H
  go_enter Tryz.func39, Tryz.ntmps39
  go_wp2
  go_loopg [5] k (fun kq v5 w' => ∃ (x5_1 : Int), v5 = .int .i64 x5_1 ∧ Aside0 (laws_eqSymbolS.l0 kq l0 l1 x5_1 = some r) ∧ Aside0 (kq ≤ k) ∧ Aside0 (Below w.heap.size w w'))
  case atStart => exact ⟨(0), et, H', ⟨Nat.le_refl _⟩, ⟨hq HB.out⟩⟩
  case round =>
   clear H'
   try clear c1; try clear c3; try clear c3b0; try clear c3b1; try clear c3b2
   obtain ⟨x5_1, rfl, HA, HK1, HB⟩ := hrel
   cases gk with
   | zero => exact absurd HA.out (by simp [laws_eqSymbolS.l0])
   | succ k1 =>
    have H := HA.out
    clear HA
    simp only [laws_eqSymbolS.l0] at H
    by_cases c4 : x5_1 < (l0.length : Int)
    ·rw [if_pos c4] at H
     have c4b0 : decide (x5_1 < (l0.length : Int)) = true := decide_eq_true c4
     clear c4
     obtain ⟨c5b0, H⟩ := ife H
     obtain ⟨c6b0, H⟩ := ife H
     obtain ⟨t406, A7, H⟩ := ob H
     try dsimp only at H
     by_cases c8 : t406 = true
     ·subst c8
      rw [if_pos rfl] at H
      have H' := am H
      clear H
      try go_wp2
      replace HB := am (Ab0 HB.out)
      have p404 : 0 ≤ (x5_1 : Int) := od
      have q404 : x5_1 < (l0.length : Int) := od
      obtain ⟨ad404, e404, hx404_0, hx404_1⟩ := Ae1 HR0.out x5_1 p404 q404
      have hw404_1 := hx404_1
      have hw404_0 := hx404_0
      cases e404
      replace hx404_0 := cz HB.out hx404_0
      replace hx404_1 := cz HB.out hx404_1
      replace p404 := eq_true p404
      replace q404 := eq_true q404
      have p405 : 0 ≤ (x5_1 : Int) := od
      have q405 : x5_1 < (l1.length : Int) := od
      obtain ⟨ad405, e405, hx405_0, hx405_1⟩ := Ae1 HR1.out x5_1 p405 q405
      have hw405_1 := hx405_1
      have hw405_0 := hx405_0
      cases e405
      replace hx405_0 := cz HB.out hx405_0
      replace hx405_1 := cz HB.out hx405_1
      replace p405 := eq_true p405
      replace q405 := eq_true q405
      refine Ad5 (n := 10) (S := fun w' => w'.cell? (ad404.add ((x5_1).toNat * 2)) = some (.string ((Aa7 l0 x5_1).f0)) ∧ w'.cell? ⟨(ad404.add ((x5_1).toNat * 2)).block, (ad404.add ((x5_1).toNat * 2)).off + 1, none⟩ = some (.int .i64 ((Aa7 l0 x5_1).f1)) ∧ w'.cell? (ad405.add ((x5_1).toNat * 2)) = some (.string ((Aa7 l1 x5_1).f0)) ∧ w'.cell? ⟨(ad405.add ((x5_1).toNat * 2)).block, (ad405.add ((x5_1).toNat * 2)).off + 1, none⟩ = some (.int .i64 ((Aa7 l1 x5_1).f1))) (ds := []) #[false, false, false, false, false, false, false, false, false, false] (by kernel_rfl) rfl rfl ⟨(cz HB.out hw404_0), (cz HB.out hw404_1), (cz HB.out hw405_0), (cz HB.out hw405_1)⟩ (fun hHeld => ?_); refine Ac1 laws_eqSymbolS.tab6 laws_eqSymbolS.bits6 (fun HT_ HW_ => ?_)
      generalize wr.drew = w9 at HB hx404_0 hx404_1 hx405_0 hx405_1 hHeld ⊢
      refine pu 0 17 rfl rfl HT_ ?_
      refine pu 1 18 rfl rfl HT_ ?_
      refine pu 2 19 rfl rfl HT_ ?_
      refine pu 4 21 rfl rfl HT_ ?_
      refine pu 5 22 rfl rfl HT_ ?_
      refine pu 6 23 rfl rfl HT_ ?_
      refine tk 3 20 rfl rfl HT_ HW_ hHeld ?_
      refine tk 7 24 rfl rfl HT_ HW_ hHeld ?_
      refine on_ 8 (some 25) rfl rfl HT_ (fun K hK => ?_)
      refine gs Tryz.func64 #[.agg #[.string ((Aa7 l0 x5_1).f0), .int .i64 ((Aa7 l0 x5_1).f1)], .agg #[.string ((Aa7 l1 x5_1).f0), .int .i64 ((Aa7 l1 x5_1).f1)]] ?_
      with_reducible refine (laws_eqSymbol.calls ((Aa7 l0 x5_1).f0) ((Aa7 l0 x5_1).f1) ((Aa7 l1 x5_1).f0) ((Aa7 l1 x5_1).f1) true _ A7.out).mono ?_
      rintro e w10 ⟨rfl, hb⟩
      refine ⟨_, rfl, ?_⟩
      replace HB := sb HB hb
      (try clear hb)
      refine hK.out _ _ ⟨(cz HB.out hw404_0), (cz HB.out hw404_1), (cz HB.out hw405_0), (cz HB.out hw405_1)⟩ (fun hHeld => ?_)
      clear hK K
      refine nr (some 25) ?_
      refine pu 9 26 rfl rfl HT_ ?_
      refine Ag1 (Ac8 HT_.out (by kernel_rfl)) ?_
      try go_wp2
      go_roundg k1
      case measure => have := HK1.out; omega
      case rel => exact ⟨(wrap64 (x5_1 + 1)), et, H', ⟨by have := HK1.out; omega⟩, ⟨hq HB.out⟩⟩
     ·replace c8 := Bool.eq_false_iff.mpr c8
      subst c8
      rw [if_neg (show ¬ (false = true) by decide)] at H
      obtain rfl := Option.some.inj H
      try go_wp2
      replace HB := am (Ab0 HB.out)
      have p404 : 0 ≤ (x5_1 : Int) := od
      have q404 : x5_1 < (l0.length : Int) := od
      obtain ⟨ad404, e404, hx404_0, hx404_1⟩ := Ae1 HR0.out x5_1 p404 q404
      have hw404_1 := hx404_1
      have hw404_0 := hx404_0
      cases e404
      replace hx404_0 := cz HB.out hx404_0
      replace hx404_1 := cz HB.out hx404_1
      replace p404 := eq_true p404
      replace q404 := eq_true q404
      have p405 : 0 ≤ (x5_1 : Int) := od
      have q405 : x5_1 < (l1.length : Int) := od
      obtain ⟨ad405, e405, hx405_0, hx405_1⟩ := Ae1 HR1.out x5_1 p405 q405
      have hw405_1 := hx405_1
      have hw405_0 := hx405_0
      cases e405
      replace hx405_0 := cz HB.out hx405_0
      replace hx405_1 := cz HB.out hx405_1
      replace p405 := eq_true p405
      replace q405 := eq_true q405
      refine Ad5 (n := 10) (S := fun w' => w'.cell? (ad404.add ((x5_1).toNat * 2)) = some (.string ((Aa7 l0 x5_1).f0)) ∧ w'.cell? ⟨(ad404.add ((x5_1).toNat * 2)).block, (ad404.add ((x5_1).toNat * 2)).off + 1, none⟩ = some (.int .i64 ((Aa7 l0 x5_1).f1)) ∧ w'.cell? (ad405.add ((x5_1).toNat * 2)) = some (.string ((Aa7 l1 x5_1).f0)) ∧ w'.cell? ⟨(ad405.add ((x5_1).toNat * 2)).block, (ad405.add ((x5_1).toNat * 2)).off + 1, none⟩ = some (.int .i64 ((Aa7 l1 x5_1).f1))) (ds := []) #[false, false, false, false, false, false, false, false, false, false] (by kernel_rfl) rfl rfl ⟨(cz HB.out hw404_0), (cz HB.out hw404_1), (cz HB.out hw405_0), (cz HB.out hw405_1)⟩ (fun hHeld => ?_); refine Ac1 laws_eqSymbolS.tab6 laws_eqSymbolS.bits6 (fun HT_ HW_ => ?_)
      generalize wr.drew = w11 at HB hx404_0 hx404_1 hx405_0 hx405_1 hHeld ⊢
      refine pu 0 17 rfl rfl HT_ ?_
      refine pu 1 18 rfl rfl HT_ ?_
      refine pu 2 19 rfl rfl HT_ ?_
      refine pu 4 21 rfl rfl HT_ ?_
      refine pu 5 22 rfl rfl HT_ ?_
      refine pu 6 23 rfl rfl HT_ ?_
      refine tk 3 20 rfl rfl HT_ HW_ hHeld ?_
      refine tk 7 24 rfl rfl HT_ HW_ hHeld ?_
      refine on_ 8 (some 25) rfl rfl HT_ (fun K hK => ?_)
      refine gs Tryz.func64 #[.agg #[.string ((Aa7 l0 x5_1).f0), .int .i64 ((Aa7 l0 x5_1).f1)], .agg #[.string ((Aa7 l1 x5_1).f0), .int .i64 ((Aa7 l1 x5_1).f1)]] ?_
      with_reducible refine (laws_eqSymbol.calls ((Aa7 l0 x5_1).f0) ((Aa7 l0 x5_1).f1) ((Aa7 l1 x5_1).f0) ((Aa7 l1 x5_1).f1) false _ A7.out).mono ?_
      rintro e w12 ⟨rfl, hb⟩
      refine ⟨_, rfl, ?_⟩
      replace HB := sb HB hb
      (try clear hb)
      refine hK.out _ _ ⟨(cz HB.out hw404_0), (cz HB.out hw404_1), (cz HB.out hw405_0), (cz HB.out hw405_1)⟩ (fun hHeld => ?_)
      clear hK K
      refine nr (some 25) ?_
      refine pu 9 26 rfl rfl HT_ ?_
      refine Ag1 (Ac8 HT_.out (by kernel_rfl)) ?_
      try go_wp2
      go_ret
      exact ⟨er, hq HB.out⟩
    ·rw [if_neg c4] at H
     have c4b0 : decide (x5_1 < (l0.length : Int)) = false := decide_eq_false c4
     clear c4
     obtain rfl := Option.some.inj H
     go_wp2
     go_ret
     exact ⟨er, hq HB.out⟩
 ·rw [if_neg c3] at H
  obtain ⟨c3b0, c3b1⟩ := bqf c3
  have c3b2 : (l0.length == l1.length) = false := by first | simpa using c3 | (simp at c3 ⊢; omega)
  obtain rfl := Option.some.inj H
  go_enter Tryz.func39, Tryz.ntmps39
  go_wp2
  go_ret
  exact ⟨er, hq HB.out⟩
def laws_eqSignature.f (k : Nat) (l0_0 : List (S79)) (l1_0 : List (S79)) : Option (Bool) := (laws_eqSymbolS.f k l0_0 l1_0).bind fun t409 => (if t409 = true then (some true) else (some false))
set_option maxHeartbeats 8000000 in
set_option maxRecDepth 100000 in
theorem laws_eqSignature.calls (k : Nat) (A0_0 : Option Addr) (c0_0 : Nat) (l0_0 : List (S79)) (A1_0 : Option Addr) (c1_0 : Nat) (l1_0 : List (S79)) (r : Bool) (w : World) (hr0_0 : Kd.C k79 w A0_0 l0_0.length l0_0) (hc0_0 : l0_0.length ≤ c0_0) (hr1_0 : Kd.C k79 w A1_0 l1_0.length l1_0) (hc1_0 : l1_0.length ≤ c1_0) (h : laws_eqSignature.f k l0_0 l1_0 = some r) :
  Calls Tryz.prog 13 #[.agg #[.slice A0_0 l0_0.length c0_0], .agg #[.slice A1_0 l1_0.length c1_0]] w fun e w' => e = .returned (.bool r) ∧ Below w.heap.size w w' := by
 have hu36 := Tryz.underlying36
 have HR0_0 := am hr0_0
 have HC0_0 := am hc0_0
 clear hr0_0 hc0_0
 have HR1_0 := am hr1_0
 have HC1_0 := am hc1_0
 clear hr1_0 hc1_0
 have HB := am (Below.refl w.heap.size w)
 have H : ((laws_eqSymbolS.f k l0_0 l1_0).bind fun t409 => (if t409 = true then (some true) else (some false))) = some r := h
 clear h
 obtain ⟨t409, A3, H⟩ := ob H
 try dsimp only at H
 by_cases c4 : t409 = true
 ·subst c4
  rw [if_pos rfl] at H
  obtain rfl := Option.some.inj H
  go_enter Tryz.func13, Tryz.ntmps13
  go_wp2_with (first | (refine bx 2 rfl #[.slice A0_0 l0_0.length c0_0] 36 ?_; intro gb407 hg w5 hbox hb; have BK407 := am (hbox); have GW407 := am (bz hg (hq HB.out)); replace HB := sb HB hb; have GE407 := GW407; clear hb hbox hg) | (refine bx 3 rfl #[.slice A1_0 l1_0.length c1_0] 36 ?_; intro gb408 hg w6 hbox hb; have BK408 := am (hbox); have GW408 := am (bz hg (hs HB.out)); replace HB := sb HB hb; have GE408 := GW408; have NB407_408 := nl hg BK407; have NB408_407 := ng hg BK407; replace BK407 := bb BK407 hb; clear hb hbox hg; have hnb7 := NB407_408.out; have hnc7 := NB408_407.out; have hcz8_0 : w6.cell? ⟨gb407, 0, none⟩ = some (.slice A0_0 l0_0.length c0_0) := (Aa0 BK407.out 0).trans rfl; have hfz8_0 := Aa1 BK407.out 0; have hcz9_0 : w6.cell? ⟨gb408, 0, none⟩ = some (.slice A1_0 l1_0.length c1_0) := (Aa0 BK408.out 0).trans rfl; have hfz9_0 := Aa1 BK408.out 0) | (refine gl (some 9) Tryz.func39 rfl #[.slice A0_0 l0_0.length c0_0, .slice A1_0 l1_0.length c1_0] ?_; refine (laws_eqSymbolS.calls k _ _ l0_0 _ _ l1_0 true _ (cq (Kd.C_below HR0_0.out HB.out)) HC0_0.out (cq (Kd.C_below HR1_0.out HB.out)) HC1_0.out A3.out).mono ?_; rintro e w10 ⟨rfl, hb⟩; refine ⟨_, rfl, ?_⟩; replace BK407 := bb BK407 hb; replace BK408 := bb BK408 hb; replace HB := sb HB hb; (try clear hb)))
  go_ret
  exact ⟨er, hs HB.out⟩
 ·replace c4 := Bool.eq_false_iff.mpr c4
  subst c4
  rw [if_neg (show ¬ (false = true) by decide)] at H
  obtain rfl := Option.some.inj H
  go_enter Tryz.func13, Tryz.ntmps13
  go_wp2_with (first | (refine bx 2 rfl #[.slice A0_0 l0_0.length c0_0] 36 ?_; intro gb407 hg w11 hbox hb; have BK407 := am (hbox); have GW407 := am (bz hg (hq HB.out)); replace HB := sb HB hb; have GE407 := GW407; clear hb hbox hg) | (refine bx 3 rfl #[.slice A1_0 l1_0.length c1_0] 36 ?_; intro gb408 hg w12 hbox hb; have BK408 := am (hbox); have GW408 := am (bz hg (hs HB.out)); replace HB := sb HB hb; have GE408 := GW408; have NB407_408 := nl hg BK407; have NB408_407 := ng hg BK407; replace BK407 := bb BK407 hb; clear hb hbox hg; have hnb13 := NB407_408.out; have hnc13 := NB408_407.out; have hcz14_0 : w12.cell? ⟨gb407, 0, none⟩ = some (.slice A0_0 l0_0.length c0_0) := (Aa0 BK407.out 0).trans rfl; have hfz14_0 := Aa1 BK407.out 0; have hcz15_0 : w12.cell? ⟨gb408, 0, none⟩ = some (.slice A1_0 l1_0.length c1_0) := (Aa0 BK408.out 0).trans rfl; have hfz15_0 := Aa1 BK408.out 0) | (refine gl (some 9) Tryz.func39 rfl #[.slice A0_0 l0_0.length c0_0, .slice A1_0 l1_0.length c1_0] ?_; refine (laws_eqSymbolS.calls k _ _ l0_0 _ _ l1_0 false _ (cq (Kd.C_below HR0_0.out HB.out)) HC0_0.out (cq (Kd.C_below HR1_0.out HB.out)) HC1_0.out A3.out).mono ?_; rintro e w16 ⟨rfl, hb⟩; refine ⟨_, rfl, ?_⟩; replace BK407 := bb BK407 hb; replace BK408 := bb BK408 hb; replace HB := sb HB hb; (try clear hb)))
  go_ret
  exact ⟨er, hs HB.out⟩
def laws_markText.l0 : Nat → Int → ByteArray → Option (ByteArray)
 | 0, _, _ => none
 | k + 1, x0, x3 => if x0 > 0 then ((some (([(wrap64 (48 + (Int.tmod x0 10))) % 256] : List Int) : List Int)).bind fun y410 => (if (strOfNums y410).size + x3.size ≤ 9223372036854775807 then (laws_markText.l0 k (wrap64 (Int.tdiv x0 10)) ((strOfNums y410) ++ x3)) else (none))) else (if 1 + x3.size ≤ 9223372036854775807 then (some ((⟨#[109]⟩ : ByteArray) ++ x3)) else (none))
def laws_markText.f (k : Nat) (a0 : Int) : Option (ByteArray) := if a0 ≤ 0 then (some (⟨#[109, 48]⟩ : ByteArray)) else (laws_markText.l0 k a0 (⟨#[]⟩ : ByteArray))
set_option maxHeartbeats 8000000 in
set_option maxRecDepth 100000 in
theorem laws_markText.calls (k : Nat) (a0 : Int) (r : ByteArray) (w : World) (h : laws_markText.f k a0 = some r) :
  Calls Tryz.prog 65 #[.int .i64 a0] w fun e w' => e = .returned (.string r) ∧ Below w.heap.size w w' := by
 have HB := am (Below.refl w.heap.size w)
 have H : (if a0 ≤ 0 then (some (⟨#[109, 48]⟩ : ByteArray)) else (laws_markText.l0 k a0 (⟨#[]⟩ : ByteArray))) = some r := h
 clear h
 by_cases c2 : a0 ≤ 0
 ·rw [if_pos c2] at H
  have c2b0 : decide (a0 ≤ 0) = true := decide_eq_true c2
  clear c2
  obtain rfl := Option.some.inj H
  go_enter Tryz.func65, Tryz.ntmps65
  go_wp2
  go_ret
  exact ⟨er, hq HB.out⟩
 ·rw [if_neg c2] at H
  have c2b0 : decide (a0 ≤ 0) = false := decide_eq_false c2
  clear c2
  have H' := am H
  clear H
  go_enter Tryz.func65, Tryz.ntmps65
  go_wp2
  go_loopg [0, 3] k (fun kq v0 v3 w' => ∃ (x0_1 : Int) (x3_1 : ByteArray), v0 = .int .i64 x0_1 ∧ v3 = .string x3_1 ∧ Aside0 (laws_markText.l0 kq x0_1 x3_1 = some r) ∧ Aside0 (kq ≤ k) ∧ Aside0 (Below w.heap.size w w'))
  case atStart => exact ⟨(a0), ((⟨#[]⟩ : ByteArray)), et, et, H', ⟨Nat.le_refl _⟩, ⟨hq HB.out⟩⟩
  case round =>
   clear H'
   try clear c2; try clear c2b0
   obtain ⟨x0_1, x3_1, rfl, rfl, HA, HK1, HB⟩ := hrel
   cases gk with
   | zero => exact absurd HA.out (by simp [laws_markText.l0])
   | succ k1 =>
    have H := HA.out
    clear HA
    simp only [laws_markText.l0] at H
    by_cases c3 : x0_1 > 0
    ·rw [if_pos c3] at H
     have c3b0 : decide (0 < x0_1) = true := decide_eq_true c3
     clear c3
     obtain ⟨y410, hy410⟩ : ∃ y_ : List Int, y_ = (([(wrap64 (48 + (Int.tmod x0_1 10))) % 256] : List Int)) := ⟨_, rfl⟩
     replace H : (if (strOfNums y410).size + x3_1.size ≤ 9223372036854775807 then (laws_markText.l0 k1 (wrap64 (Int.tdiv x0_1 10)) ((strOfNums y410) ++ x3_1)) else (none)) = some r := by first | (rw [hy410]; with_reducible exact H) | (have H2_ := (Option.bind_some _ _).symm.trans H; rw [hy410]; with_reducible exact H2_) | (have H2_ := (Option.bind_some _ _).symm.trans H; with_reducible exact H2_) | with_reducible exact H | (rw [hy410]; exact H) | exact H
     have Ny410 := am hy410
     clear hy410
     obtain ⟨c4, H⟩ := ifs H
     have c4b0 := eq_true c4
     have c4b1 : decide ((strOfNums y410).size + x3_1.size ≤ 9223372036854775807) = true := decide_eq_true c4
     try have c4b2 : (9223372036854775807 < (strOfNums y410).size + x3_1.size) = False := eq_false (Nat.not_lt.2 c4)
     have H' := am H
     clear H
     go_wp2_with (first | ((with_reducible refine Ae9 (N := 12) rfl ?_); refine Kd.R_lit (Kd.int .u8) _ 5 ?hg (N := 12) ?hd (xs := ([(wrap64 (48 + (Int.tmod x0_1 10))) % 256] : List Int)) (inner := [.int .u8 ((wrap64 (48 + (Int.tmod x0_1 10))) % 256)]) (ok := fun _ => True) (okp := fun _ => True) ?hr ?hp (fun _ hk => hk) trivial (Below.refl _ _) (Nat.le_refl _) (by simp) ?_; (case hd => rfl); (case hg => rfl); (case hr => first | (go_simp; done) | (go_simp; rfl)); (case hp => exact (Af0.one (show Kd.M (Kd.int .u8) _ _ _ ((wrap64 (48 + (Int.tmod x0_1 10))) % 256) [.int .u8 ((wrap64 (48 + (Int.tmod x0_1 10))) % 256)] from rfl) (Af0.none _ _))); intro v411 w5 ho6 hb hg_ hnew_; clear hg_ hnew_; (first | rw [← Ny410.out] at ho6 | (simp only [Int.reduceToNat] at ho6; rw [← Ny410.out] at ho6)); have HO412 := am (Kd.R_lower ho6 (Aa6 (hq HB.out))); replace HB := sb HB hb; clear hb ho6; have hcv7 := own_string (P := Tryz.prog) Tryz.underlying49 Tryz.underlying5 Tryz.underlying9 (Kd.own_of_R HO412.out)))
     go_roundg k1
     case measure => have := HK1.out; omega
     case rel => exact ⟨(wrap64 (Int.tdiv x0_1 10)), ((strOfNums y410) ++ x3_1), et, et, H', ⟨by have := HK1.out; omega⟩, ⟨hq HB.out⟩⟩
    ·rw [if_neg c3] at H
     have c3b0 : decide (0 < x0_1) = false := decide_eq_false c3
     clear c3
     obtain ⟨c8, H⟩ := ifs H
     have c8b0 := eq_true c8
     have c8b1 : decide (1 + x3_1.size ≤ 9223372036854775807) = true := decide_eq_true c8
     try have c8b2 : (9223372036854775807 < 1 + x3_1.size) = False := eq_false (Nat.not_lt.2 c8)
     obtain rfl := Option.some.inj H
     go_wp2
     go_ret
     exact ⟨er, hq HB.out⟩
end Go.Proofs.YtgichahebemmiaaGreatDoor.P
