/- A part of the proof of the law FnStrict. -/
import Derived.Test.YtgichahebemmiaaGreatDoorCFnStrict4
set_option maxHeartbeats 8000000
set_option maxRecDepth 100000
namespace Go.Proofs.YtgichahebemmiaaGreatDoor.P
open Go.RowKit Go.Proofs.YtgichahebemmiaaGreatDoorW.PrintWords Go.Proofs.YtgichahebemmiaaGreatDoorW.PrintLast Go.Proofs.YtgichahebemmiaaGreatDoorW.PrintMore
attribute [local go_sem] Ai1 Ah9 Ak5 Ak4 Ah0 Ag9 Ai2 Ai0   -- for this text's walks alone
set_option linter.unusedVariables false
set_option linter.unusedSimpArgs false
mutual
def Af4.l0 : Nat → List (S36) → List Int → List Int → List Int → Int → List Bool → Int → Option (List Bool)
 | 0, _, _, _, _, _, _, _ => none
 | k + 1, x0, x1, x2, x3, x9, a0, a1 => if a1 ≥ 0 then (Af4.l1 k x0 x1 x2 x3 x9 a0 a1 (wrap64 (x9 - 1))) else (some a0)
def Af4.l1 : Nat → List (S36) → List Int → List Int → List Int → Int → List Bool → Int → Int → Option (List Bool)
 | 0, _, _, _, _, _, _, _, _ => none
 | k + 1, x0, x1, x2, x3, x9, a2, a0, a1 => if a1 ≥ 0 then ((Ab1.f k x0 x1 x2 x3 a0 a1 a2).bind fun a3 => (if 0 ≤ (wrap64 ((wrap64 (a0 * x9)) + a1)) then (if (wrap64 ((wrap64 (a0 * x9)) + a1)) < (a2.length : Int) then (Af4.l1 k x0 x1 x2 x3 x9 (a2.set ((wrap64 ((wrap64 (a0 * x9)) + a1)) : Int).toNat a3) a0 (wrap64 (a1 - 1))) else (none)) else (none))) else (Af4.l0 k x0 x1 x2 x3 x9 a2 (wrap64 (a0 - 1)))
end
def Af4.f (k : Nat) (l0 : List (S36)) (l1 : List Int) (l2 : List Int) (l3 : List Int) : Option (List Bool) := if 0 ≤ (wrap64 ((l2.length : Int) * (l3.length : Int))) then (if (wrap64 ((l2.length : Int) * (l3.length : Int)) : Int).toNat ≤ 281474976710656 then (Af4.l0 k l0 l1 l2 l3 (l3.length : Int) (List.replicate (wrap64 ((l2.length : Int) * (l3.length : Int)) : Int).toNat false) (wrap64 ((l2.length : Int) - 1))) else (none)) else (none)
theorem Af4.calls (k : Nat) (A0 : Option Addr) (l0 : List (S36)) (A1 : Option Addr) (c1 : Nat) (l1 : List Int) (A2 : Option Addr) (c2 : Nat) (l2 : List Int) (A3 : Option Addr) (c3 : Nat) (l3 : List Int) (r : List Bool) (w : World) (g2 : Kd.C k36 w A0 l0.length l0) (g3 : Kd.C (Kd.int .i64) w A1 l1.length l1) (g4 : l1.length ≤ c1) (g5 : Kd.C (Kd.int .i64) w A2 l2.length l2) (g6 : l2.length ≤ c2) (g7 : Kd.C (Kd.int .i64) w A3 l3.length l3) (g8 : l3.length ≤ c3) (h : Af4.f k l0 l1 l2 l3 = some r) :
  Calls Tryz.prog 79 #[.pointer A0, .slice A1 l1.length c1, .slice A2 l2.length c2, .slice A3 l3.length c3] w fun e w' => ∃ g9 : Value, e = .returned (g9) ∧ Kd.R Kd.bool 4 w' w.heap.size (fun _ => True) g9 r ∧ Below w.heap.size w w' := by
 have h8 := am g2
 clear g2
 have h9 := am g3
 have i0 := am g4
 clear g3 g4
 have i1 := am g5
 have i2 := am g6
 clear g5 g6
 have i3 := am g7
 have i4 := am g8
 clear g7 g8
 have HB := am (Below.refl w.heap.size w)
 have H : (if 0 ≤ (wrap64 ((l2.length : Int) * (l3.length : Int))) then (if (wrap64 ((l2.length : Int) * (l3.length : Int)) : Int).toNat ≤ 281474976710656 then (Af4.l0 k l0 l1 l2 l3 (l3.length : Int) (List.replicate (wrap64 ((l2.length : Int) * (l3.length : Int)) : Int).toNat false) (wrap64 ((l2.length : Int) - 1))) else (none)) else (none)) = some r := h
 clear h
 obtain ⟨b2, a9⟩ : ∃ j_ : Int, (wrap64 ((l2.length : Int) * (l3.length : Int))) = j_ := ⟨_, rfl⟩
 replace H : (if 0 ≤ (b2) then (if (b2 : Int).toNat ≤ 281474976710656 then (Af4.l0 k l0 l1 l2 l3 (l3.length : Int) (List.replicate (b2 : Int).toNat false) (wrap64 ((l2.length : Int) - 1))) else (none)) else (none)) = some r := by first | (rw [a9] at H; exact H) | (simp only [a9] at H ⊢; exact H)
 have hji5w : (IntKind.i64.wrap ((l2.length : Int) * (l3.length : Int))) = b2 := (Ae6 _).trans a9
 obtain ⟨b7, b8, H⟩ := ifd H
 obtain ⟨b9, c0, H⟩ := ifd H
 obtain ⟨d0, a4⟩ : ∃ y_ : List Bool, y_ = (List.replicate (b2 : Int).toNat false) := ⟨_, rfl⟩
 replace H : (Af4.l0 k l0 l1 l2 l3 (l3.length : Int) d0 (wrap64 ((l2.length : Int) - 1))) = some r := by first | (rw [a4]; first | with_reducible exact H | with_reducible exact bs H) | with_reducible exact bs H | with_reducible exact H | (rw [a4]; exact H) | exact H
 have b0 := am a4
 clear a4
 have H' := am H
 clear H
 go_enter Tryz.func79, Tryz.ntmps79
 go_wp2_with (first | ((with_reducible refine An6 (N := 19) rfl ?_); refine Kd.R_make Kd.bool _ 4 rfl (N := 19) rfl 103 _ _ rfl b2 rfl rfl Tryz.underlying103 (.bool false) 1 info4 rfl (by decide) (by omega) false (ok := fun _ => True) (okp := fun _ => True) rfl (fun _ hk => hk) trivial od (Nat.le_trans (Nat.mul_le_mul_right _ (of_decide_eq_true (by first | (with_reducible assumption) | assumption) : b2.toNat ≤ 281474976710656)) (by omega)) (Below.refl _ _) (Nat.le_refl _) ?_; intro d1 w8 d2 hb i5 hnew_; clear i5 hnew_; (first | rw [← b0.out] at d2 | (simp only [Int.reduceToNat] at d2; rw [← b0.out] at d2)); have d3 := am (Kd.R_lower d2 (Ac5 (hq HB.out))); replace HB := sb HB hb; clear hb d2))
 go_loopg [11] k (fun kq i6 w' => ∃ (a5 : List Bool) (a0 : Int), i6 = .int .i64 a0 ∧ Aside0 (Af4.l0 kq l0 l1 l2 l3 (l3.length : Int) a5 a0 = some r) ∧ Aside0 (kq ≤ k) ∧ Aside0 (Kd.R Kd.bool 4 w' w.heap.size (fun _ => True) d1 a5) ∧ Aside0 (Below w.heap.size w w'))
 case atStart => exact ⟨(d0), (wrap64 ((l2.length : Int) - 1)), et, H', ⟨Nat.le_refl _⟩, ⟨rq d3.out⟩, ⟨hq HB.out⟩⟩
 case round =>
  clear H'
  try clear c1; try clear c2; try clear c3; try clear b7; try clear b8; try clear b9; try clear c0
  obtain ⟨a5, a0, rfl, HA, e0, HO_10, HB⟩ := hrel
  cases gk with
  | zero => exact absurd HA.out (by simp [Af4.l0])
  | succ k1 =>
   have H := HA.out
   clear HA
   simp only [Af4.l0] at H
   by_cases c10 : a0 ≥ 0
   ·rw [if_pos c10] at H
    have b1 := decide_eq_true c10
    clear c10
    have H' := am H
    clear H
    go_wp2
    go_loopg [12] k1 (fun kq i7 w' => ∃ (a1 : List Bool) (a2 : Int), i7 = .int .i64 a2 ∧ Aside0 (Af4.l1 kq l0 l1 l2 l3 (l3.length : Int) a1 a0 a2 = some r) ∧ Aside0 (kq ≤ k1) ∧ Aside0 (Kd.R Kd.bool 4 w' w.heap.size (fun _ => True) d1 a1) ∧ Aside0 (Below w.heap.size w w'))
    case atStart => exact ⟨(a5), (wrap64 ((l3.length : Int) - 1)), et, H', ⟨Nat.le_refl _⟩, ⟨rq HO_10.out⟩, ⟨hq HB.out⟩⟩
    case round =>
     clear H'
     try clear c1; try clear c2; try clear c3; try clear b7; try clear b8; try clear b9; try clear c0; try clear c10; try clear b1
     obtain ⟨a1, a2, rfl, HA, e1, HO_10, HB⟩ := hrel
     cases gk with
     | zero => exact absurd HA.out (by simp [Af4.l1])
     | succ k2 =>
      have H := HA.out
      clear HA
      simp only [Af4.l1] at H
      by_cases b6 : a2 ≥ 0
      ·rw [if_pos b6] at H
       have d4 := decide_eq_true b6
       clear b6
       obtain ⟨a8, h0, H⟩ := ob H
       try dsimp only at H
       obtain ⟨a3, a6⟩ : ∃ j_ : Int, (wrap64 ((wrap64 (a0 * (l3.length : Int))) + a2)) = j_ := ⟨_, rfl⟩
       replace H : (if 0 ≤ (a3) then (if (a3) < (a1.length : Int) then (Af4.l1 k2 l0 l1 l2 l3 (l3.length : Int) (a1.set ((a3) : Int).toNat a8) a0 (wrap64 (a2 - 1))) else (none)) else (none)) = some r := by first | (rw [a6] at H; exact H) | (simp only [a6] at H ⊢; exact H)
       (try rw [a6] at h0)
       have hji13w : (IntKind.i64.wrap ((wrap64 (a0 * (l3.length : Int))) + a2)) = a3 := (Ae6 _).trans a6
       obtain ⟨h2, H⟩ := ife H
       obtain ⟨h3, H⟩ := ife H
       obtain ⟨b3, a7⟩ : ∃ y_ : List Bool, y_ = (a1.set ((a3) : Int).toNat a8) := ⟨_, rfl⟩
       replace H : (Af4.l1 k2 l0 l1 l2 l3 (l3.length : Int) b3 a0 (wrap64 (a2 - 1))) = some r := by first | (rw [a7]; first | with_reducible exact H | with_reducible exact bs H) | with_reducible exact bs H | with_reducible exact H | (rw [a7]; exact H) | exact H
       have d5 := am a7
       clear a7
       have H' := am H
       clear H
       obtain ⟨e3, d6, e4⟩ := Kd.R_slice HO_10.out
       subst e4
       go_wp2_with (first | (refine gl (some 46) Tryz.func96 rfl #[.pointer A0, .slice A1 l1.length c1, .slice A2 l2.length c2, .slice A3 l3.length c3, .int .i64 a0, .int .i64 a2, .slice e3 a1.length d6] ?_; refine (Ab1.calls k2 _ l0 _ _ l1 _ _ l2 _ _ l3 a0 a2 _ _ a1 a8 _ (cq (Kd.C_below h8.out HB.out)) (cq (Kd.C_below h9.out HB.out)) i0.out (cq (Kd.C_below i1.out HB.out)) i2.out (cq (Kd.C_below i3.out HB.out)) i4.out (cq (Kd.R_reads' HO_10.out).2.2) ((Kd.R_reads' HO_10.out).2.1) h0.out).mono ?_; rintro e h4 ⟨rfl, hb⟩; refine ⟨_, rfl, ?_⟩; replace HO_10 := rb HO_10 hb; replace HB := sb HB hb; (try clear hb); (try clear hk); have e5 : 0 ≤ ((a3) : Int) := od; have e6 : ((a3) : Int) < ((a1.length : Int) : Int) := od; obtain ⟨b4, i9, d7, d8, e7, j5, d9⟩ := Kd.R_form HO_10.out (by omega); (first | cases d7 | (injection d7 with e2 j6 j7; (first | subst e2 | (injection e2 with e2; subst e2)); subst j7; clear j6)); have e8 := am d8; have j8 := am d9; clear d8 e7 d9; obtain ⟨e9, g0⟩ := Kd.R_celln false HO_10.out ((a3) : Int) e5 e6; replace e5 := eq_true e5; replace e6 := eq_true e6; obtain ⟨h5, h6⟩ := Kd.R_celln false HO_10.out ((a3) : Int) od od; have b5 := Kd.R_putg HO_10.out ((a3) : Int) a8) | ((with_reducible refine As7 (t := 4) (p := 47) rfl ?_); refine As0 (t := 4) (p := 47) (v := ?vo_w20) (w1 := (h4.setCell ⟨b4, ((a3) : Int).toNat, none⟩ (.bool a8))) ?hg ?ho ?hn ?hr ?_; (case ho => rfl); (case hg => rfl); (case hn => rfl); (case hr => first | (go_simp; done) | (go_simp; rfl)); intro g1 hw; have hg : h4.grownBy g1 (some b4) := (by rw [hw]; exact b5.2); have h7 : Kd.R Kd.bool 4 g1 w.heap.size (fun _ => True) (.slice (some ⟨b4, 0, none⟩) a1.length d6) b3 := (by rw [hw, d5.out]; exact b5.1); clear b5; replace HO_10 := am (h7); replace HB := am ((by rw [hw]; exact Ak7 (HB.out) e8.out : Below w.heap.size w g1)); clear hg hw h7))
       go_roundg k2
       case measure => have := e0.out; have := e1.out; omega
       case rel => exact ⟨(b3), (wrap64 (a2 - 1)), et, H', ⟨by have := e0.out; have := e1.out; omega⟩, ⟨rq HO_10.out⟩, ⟨hq HB.out⟩⟩
      ·rw [if_neg b6] at H
       have d4 := decide_eq_false b6
       clear b6
       have H' := am H
       clear H
       go_wp2
       go_roundg k2
       case measure => have := e0.out; have := e1.out; omega
       case rel => exact ⟨(a1), (wrap64 (a0 - 1)), et, H', ⟨by have := e0.out; have := e1.out; omega⟩, ⟨rq HO_10.out⟩, ⟨hq HB.out⟩⟩
   ·rw [if_neg c10] at H
    have b1 := decide_eq_false c10
    clear c10
    obtain rfl := Option.some.inj H
    go_wp2
    go_ret
    exact ⟨_, by first | rfl | (simp [Ag8, Ag7] <;> rfl) | (simp only [← a9]; first | rfl | (simp [Ag8, Ag7] <;> rfl)) | (simp [*, Ag8, Ag7] <;> rfl), rq HO_10.out, hq HB.out⟩
def Ao4.f (k : Nat) (l0 : List (S36)) (l1 : List Int) (l2 : List Int) (l3 : List Int) : Option (Bool) := (Af4.f k l0 l1 l2 l3).bind fun a0 => (if 0 < (a0.length : Int) then (some (As6 false a0 0)) else (none))
theorem Ao4.calls (k : Nat) (A0 : Option Addr) (l0 : List (S36)) (A1 : Option Addr) (c1 : Nat) (l1 : List Int) (A2 : Option Addr) (c2 : Nat) (l2 : List Int) (A3 : Option Addr) (c3 : Nat) (l3 : List Int) (r : Bool) (w : World) (a6 : Kd.C k36 w A0 l0.length l0) (a7 : Kd.C (Kd.int .i64) w A1 l1.length l1) (a8 : l1.length ≤ c1) (a9 : Kd.C (Kd.int .i64) w A2 l2.length l2) (b0 : l2.length ≤ c2) (b1 : Kd.C (Kd.int .i64) w A3 l3.length l3) (b2 : l3.length ≤ c3) (h : Ao4.f k l0 l1 l2 l3 = some r) :
  Calls Tryz.prog 50 #[.pointer A0, .slice A1 l1.length c1, .slice A2 l2.length c2, .slice A3 l3.length c3] w fun e w' => e = .returned (.bool r) ∧ Below w.heap.size w w' := by
 have b6 := am a6
 clear a6
 have b7 := am a7
 have b8 := am a8
 clear a7 a8
 have b9 := am a9
 have c0 := am b0
 clear a9 b0
 have d0 := am b1
 have d1 := am b2
 clear b1 b2
 have HB := am (Below.refl w.heap.size w)
 have H : ((Af4.f k l0 l1 l2 l3).bind fun a0 => (if 0 < (a0.length : Int) then (some (As6 false a0 0)) else (none))) = some r := h
 clear h
 obtain ⟨a0, A5, H⟩ := ob H
 try dsimp only at H
 obtain ⟨c6, H⟩ := ifs H
 have d2 := decide_eq_true c6
 have d3 : decide (0 < a0.length) = true := decide_eq_true (by omega)
 clear c6
 obtain rfl := Option.some.inj H
 go_enter Tryz.func50, Tryz.ntmps50
 go_wp2_with (first | (refine gl (some 13) Tryz.func79 rfl #[.pointer A0, .slice A1 l1.length c1, .slice A2 l2.length c2, .slice A3 l3.length c3] ?_; refine (Af4.calls k _ l0 _ _ l1 _ _ l2 _ _ l3 a0 _ (cq b6.out) (cq b7.out) b8.out (cq b9.out) c0.out (cq d0.out) d1.out A5.out).mono ?_; rintro e w7 ⟨d4, rfl, b3, hb⟩; refine ⟨_, rfl, ?_⟩; have a2 := am (Kd.R_lower b3 (Ac5 (hq HB.out))); replace HB := sb HB hb; (try clear hb); (try clear b3); obtain ⟨d5, d6, rfl⟩ := Kd.R_slice a2.out; have a3 : 0 ≤ (0 : Int) := (by omega); have a4 : 0 < (a0.length : Int) := od; obtain ⟨b4, a5, a1⟩ := Kd.at_bool (Kd.R_reads' a2.out).2.2 0 a3 a4; cases a5; have b5 : (0 < a0.length) = True := eq_true (by omega); (try simp only [t0_] at a1); replace a3 := eq_true a3; replace a4 := eq_true a4))
 go_ret
 exact ⟨er, hq HB.out⟩
def Ao1.f (k : Nat) (l0 : List (S36)) (l1 : List Int) (l2 : List Int) (l3 : List Int) : Option (Int) := (Ai3.f k l2 l3).bind fun a0 => (if a0 = true then (some 3) else ((Ao4.f k l0 l1 l2 l3).bind fun a1 => (if a1 = true then (some 1) else ((Ao4.f k l0 l1 l3 l2).bind fun a2 => (if a2 = true then (some 2) else (some 0))))))
theorem Ao1.calls (k : Nat) (A0 : Option Addr) (l0 : List (S36)) (A1 : Option Addr) (c1 : Nat) (l1 : List Int) (A2 : Option Addr) (c2 : Nat) (l2 : List Int) (A3 : Option Addr) (c3 : Nat) (l3 : List Int) (r : Int) (w : World) (b1 : Kd.C k36 w A0 l0.length l0) (b2 : Kd.C (Kd.int .i64) w A1 l1.length l1) (b3 : l1.length ≤ c1) (b4 : Kd.C (Kd.int .i64) w A2 l2.length l2) (b5 : l2.length ≤ c2) (b6 : Kd.C (Kd.int .i64) w A3 l3.length l3) (b7 : l3.length ≤ c3) (h : Ao1.f k l0 l1 l2 l3 = some r) :
  Calls Tryz.prog 30 #[.pointer A0, .slice A1 l1.length c1, .slice A2 l2.length c2, .slice A3 l3.length c3] w fun e w' => e = .returned (.int .i64 r) ∧ Below w.heap.size w w' := by
 have b8 := am b1
 clear b1
 have b9 := am b2
 have c0 := am b3
 clear b2 b3
 have a7 := am b4
 have a8 := am b5
 clear b4 b5
 have a9 := am b6
 have b0 := am b7
 clear b6 b7
 have HB := am (Below.refl w.heap.size w)
 have H : ((Ai3.f k l2 l3).bind fun a0 => (if a0 = true then (some 3) else ((Ao4.f k l0 l1 l2 l3).bind fun a1 => (if a1 = true then (some 1) else ((Ao4.f k l0 l1 l3 l2).bind fun a2 => (if a2 = true then (some 2) else (some 0))))))) = some r := h
 clear h
 obtain ⟨a0, A5, H⟩ := ob H
 try dsimp only at H
 have d0 := am H
 clear H
 go_enter Tryz.func30, Tryz.ntmps30
 go_upto_if 9 with (first | (refine gl (some 12) Tryz.func49 rfl #[.slice A2 l2.length c2, .slice A3 l3.length c3] ?_; refine (Ai3.calls k _ _ l2 _ _ l3 a0 _ (cq a7.out) a8.out (cq a9.out) b0.out A5.out).mono ?_; rintro e w7 ⟨rfl, hb⟩; refine ⟨_, rfl, ?_⟩; replace HB := sb HB hb; clear hb))
 have H := d0.out
 clear d0
 by_cases c8 : a0 = true
 ·subst c8
  rw [if_pos rfl] at H
  obtain rfl := Option.some.inj H
  go_wp2
  go_ret
  exact ⟨er, hq HB.out⟩
 ·replace c8 := Bool.eq_false_iff.mpr c8
  subst c8
  rw [if_neg (show ¬ (false = true) by decide)] at H
  obtain ⟨a1, A9, H⟩ := ob H
  try dsimp only at H
  have a3 := am H
  clear H
  go_upto_if 13 with (first | (refine gl (some 18) Tryz.func50 rfl #[.pointer A0, .slice A1 l1.length c1, .slice A2 l2.length c2, .slice A3 l3.length c3] ?_; refine (Ao4.calls k _ l0 _ _ l1 _ _ l2 _ _ l3 a1 _ (cq (Kd.C_below b8.out HB.out)) (cq (Kd.C_below b9.out HB.out)) c0.out (cq (Kd.C_below a7.out HB.out)) a8.out (cq (Kd.C_below a9.out HB.out)) b0.out A9.out).mono ?_; rintro e d2 ⟨rfl, hb⟩; refine ⟨_, rfl, ?_⟩; replace HB := sb HB hb; clear hb))
  have H := a3.out
  clear a3
  by_cases a5 : a1 = true
  ·subst a5
   rw [if_pos rfl] at H
   obtain rfl := Option.some.inj H
   go_wp2
   go_ret
   exact ⟨er, hq HB.out⟩
  ·replace a5 := Bool.eq_false_iff.mpr a5
   subst a5
   rw [if_neg (show ¬ (false = true) by decide)] at H
   obtain ⟨a2, d1, H⟩ := ob H
   try dsimp only at H
   have a4 := am H
   clear H
   go_upto_if 19 with (first | (refine gl (some 24) Tryz.func50 rfl #[.pointer A0, .slice A1 l1.length c1, .slice A3 l3.length c3, .slice A2 l2.length c2] ?_; refine (Ao4.calls k _ l0 _ _ l1 _ _ l3 _ _ l2 a2 _ (cq (Kd.C_below b8.out HB.out)) (cq (Kd.C_below b9.out HB.out)) c0.out (cq (Kd.C_below a9.out HB.out)) b0.out (cq (Kd.C_below a7.out HB.out)) a8.out d1.out).mono ?_; rintro e d3 ⟨rfl, hb⟩; refine ⟨_, rfl, ?_⟩; replace HB := sb HB hb; clear hb))
   have H := a4.out
   clear a4
   by_cases a6 : a2 = true
   ·subst a6
    rw [if_pos rfl] at H
    obtain rfl := Option.some.inj H
    go_wp2
    go_ret
    exact ⟨er, hq HB.out⟩
   ·replace a6 := Bool.eq_false_iff.mpr a6
    subst a6
    rw [if_neg (show ¬ (false = true) by decide)] at H
    obtain rfl := Option.some.inj H
    go_wp2
    go_ret
    exact ⟨er, hq HB.out⟩
def Ar9.f (l0 : List Int) : Option (List Int) := (some (([] : List Int) : List Int)).bind fun a0 => (if a0.length + l0.length < 17592186044416 then (some (a0 ++ l0)) else (none))
theorem Ar9.calls (A0 : Option Addr) (c0 : Nat) (l0 : List Int) (r : List Int) (w : World) (b1 : Kd.C (Kd.int .i64) w A0 l0.length l0) (b2 : l0.length ≤ c0) (h : Ar9.f l0 = some r) :
  Calls Tryz.prog 32 #[.slice A0 l0.length c0] w fun e w' => ∃ b3 : Value, e = .returned (b3) ∧ Kd.R (Kd.int .i64) 2 w' w.heap.size (fun _ => True) b3 r ∧ Below w.heap.size w w' := by
 have b4 := am b1
 have b7 := am b2
 clear b1 b2
 have HB := am (Below.refl w.heap.size w)
 have H : ((some (([] : List Int) : List Int)).bind fun a0 => (if a0.length + l0.length < 17592186044416 then (some (a0 ++ l0)) else (none))) = some r := h
 clear h
 obtain ⟨a0, a1⟩ : ∃ y_ : List Int, y_ = (([] : List Int)) := ⟨_, rfl⟩
 replace H : (if a0.length + l0.length < 17592186044416 then (some (a0 ++ l0)) else (none)) = some r := by first | (rw [a1]; first | with_reducible exact H | with_reducible exact bs H) | with_reducible exact bs H | with_reducible exact H | (rw [a1]; exact H) | exact H
 have a3 := am a1
 clear a1
 obtain ⟨c2, H⟩ := ifs H
 have a8 := am c2
 clear c2
 obtain ⟨a9, a2⟩ : ∃ y_ : List Int, y_ = (a0 ++ l0) := ⟨_, rfl⟩
 replace H : (some a9) = some r := by first | (rw [a2]; first | with_reducible exact H | with_reducible exact bs H) | with_reducible exact bs H | with_reducible exact H | (rw [a2]; exact H) | exact H
 have a5 := am a2
 clear a2
 obtain rfl := Option.some.inj H
 go_enter Tryz.func32, Tryz.ntmps32
 go_wp2_with (first | (refine rl 3 rfl 2 [] ?_; intro b0 w3 a6 hb b5 hnew_; clear b5 hnew_; (first | rw [← a3.out] at a6 | (simp only [Int.reduceToNat] at a6; rw [← a3.out] at a6)); have a4 := am (Kd.R_lower a6 (Ac5 (hq HB.out))); replace HB := sb HB hb; clear hb a6) | ((with_reducible refine Ah1 (b := .append) (xs := #[.tmp 3, .tmp 4]) rfl ?_); at_builtin; refine Kd.R_append_rows (Kd.int .i64) (w0 := w) w.heap.size rfl (.tmp 3) (.tmp 4) 25 2 (.int .i64 0) 8 rfl Tryz.underlying25 Au1 rfl (by decide) (by omega) b0 a0 l0 _ _ _ (fun _ => True) (fun _ => False) rfl rfl ?aO ?aR (fun _ _ h => h) (fun _ h => h.elim) ?aF ?aB ?aS ?aL ?_; (case aR => exact cq (Kd.C_below b4.out HB.out)); (case aB => exact (hq HB.out)); (case aF => exact (fun _ _ => trivial)); (case aO => exact (rq a4.out)); (case aS => exact (Ac5 (hq HB.out))); (case aL => have := a8.out; omega); intro b6 w5 ho hb hg hat; rw [← a5.out] at ho; replace HB := am (hb); have a7 := am (ho); clear a4; clear ho hb hg hat))
 go_ret
 exact ⟨_, er, rq a7.out, hq HB.out⟩
attribute [local go_sem] Ai1 Ah9 Ak5 Ak4 Ah0 Ag9 Ai2 Ai0   -- for this text's walks alone
set_option linter.unusedVariables false
set_option linter.unusedSimpArgs false
def Aj4.l0 : Nat → Int → List Int → Int → Int → Option (Int)
 | 0, _, _, _, _ => none
 | k + 1, x3, x6, x7, x8 => if x8 < x7 then (if 0 ≤ x8 then (if x8 < (x6.length : Int) then (if (rd x6 x8) = x3 then (Aj4.l0 k x3 x6 x7 (wrap64 (x8 + 1))) else (some (rd x6 x8))) else (none)) else (none)) else (some x3)
def Aj4.f (k : Nat) (l0 : List Int) : Option (Int) := Aj4.l0 k 0 l0 (l0.length : Int) 0
theorem Aj4.calls (k : Nat) (A0 : Option Addr) (c0 : Nat) (l0 : List Int) (r : Int) (w : World) (a9 : Kd.C (Kd.int .i64) w A0 l0.length l0) (b0 : l0.length ≤ c0) (h : Aj4.f k l0 = some r) :
  Calls Tryz.prog 52 #[.slice A0 l0.length c0] w fun e w' => e = .returned (.int .i64 r) ∧ Drawn0 w w' := by
 have b1 := am a9
 have b5 := am b0
 clear a9 b0
 have H : (Aj4.l0 k 0 l0 (l0.length : Int) 0) = some r := h
 clear h
 have H' := am H
 clear H
 go_enter Tryz.func52, Tryz.ntmps52
 go_wp2
 go_loopg [8] k (fun kq v8 w' => ∃ (a0 : Int), v8 = .int .i64 a0 ∧ Aside0 (Aj4.l0 kq 0 l0 (l0.length : Int) a0 = some r) ∧ Aside0 (kq ≤ k) ∧ Drawn0 w w')
 case atStart => exact ⟨(0), et, H', ⟨Nat.le_refl _⟩, dn⟩
 case round =>
  clear H'
  obtain ⟨a0, rfl, HA, b2, ⟨m1, rfl⟩⟩ := hrel
  cases gk with
  | zero => exact absurd HA.out (by simp [Aj4.l0])
  | succ k1 =>
   have H := HA.out
   clear HA
   simp only [Aj4.l0] at H
   by_cases c2 : a0 < (l0.length : Int)
   ·rw [if_pos c2] at H
    have a6 := decide_eq_true c2
    clear c2
    obtain ⟨b3, H⟩ := ife H
    obtain ⟨b4, H⟩ := ife H
    by_cases c5 : (rd l0 a0) = 0
    ·rw [if_pos c5] at H
     obtain ⟨a7, a8⟩ := bqt c5; clear c5
     have H' := am H
     clear H
     have a1 : 0 ≤ (a0 : Int) := od
     have a2 : a0 < (l0.length : Int) := od
     obtain ⟨a5, a4, a3⟩ := Kd.at_int b1.out a0 a1 a2
     cases a4
     obtain ⟨a1, a2⟩ := ee a1 a2
     go_wp2
     go_roundg k1
     case measure => have := b2.out; omega
     case rel => exact ⟨(wrap64 (a0 + 1)), et, H', ⟨by have := b2.out; omega⟩, dn⟩
    ·rw [if_neg c5] at H
     obtain ⟨a7, a8⟩ := bqf c5
     obtain rfl := Option.some.inj H
     have a1 : 0 ≤ (a0 : Int) := od
     have a2 : a0 < (l0.length : Int) := od
     obtain ⟨a5, a4, a3⟩ := Kd.at_int b1.out a0 a1 a2
     cases a4
     obtain ⟨a1, a2⟩ := ee a1 a2
     go_wp2
     go_ret
     exact ⟨et, dn⟩
   ·rw [if_neg c2] at H
    have a6 := decide_eq_false c2
    clear c2
    obtain rfl := Option.some.inj H
    go_wp2
    go_ret
    exact ⟨et, dn⟩
attribute [local go_sem] Ai1 Ah9 Ak5 Ak4 Ah0 Ag9 Ai2 Ai0   -- for this text's walks alone
set_option linter.unusedVariables false
set_option linter.unusedSimpArgs false
def An0.f (k : Nat) (l0 : List Int) : Option (Int) := (Aj4.f k l0).bind fun a0 => (some a0)
theorem An0.calls (k : Nat) (A0 : Option Addr) (c0 : Nat) (l0 : List Int) (r : Int) (w : World) (a1 : Kd.C (Kd.int .i64) w A0 l0.length l0) (a2 : l0.length ≤ c0) (h : An0.f k l0 = some r) :
  Calls Tryz.prog 34 #[.slice A0 l0.length c0] w fun e w' => e = .returned (.int .i64 r) ∧ Below w.heap.size w w' := by
 have a3 := am a1
 have a4 := am a2
 clear a1 a2
 have HB := am (Below.refl w.heap.size w)
 have H : ((Aj4.f k l0).bind fun a0 => (some a0)) = some r := h
 clear h
 obtain ⟨a0, A2, H⟩ := ob H
 try dsimp only at H
 obtain rfl := Option.some.inj H
 go_enter Tryz.func34, Tryz.ntmps34
 go_wp2_with (first | (refine gl (some 4) Tryz.func52 rfl #[.slice A0 l0.length c0] ?_; refine (Aj4.calls k _ _ l0 a0 _ (cq a3.out) a4.out A2.out).mono ?_; rintro e w' ⟨rfl, ⟨nd, rfl⟩⟩; refine ⟨_, rfl, ?_⟩))
 go_ret
 exact ⟨er, hq HB.out⟩
def Ap5.f (s cut : ByteArray) : Option ByteArray := if s.size ≤ 9223372036854775807 ∧ cut.size < 4294967281 ∧ (cut.data.toList.all fun b => decide (b.toNat < 128)) = true then some ⟨(Lib.trimS s.data.toList cut.data.toList).toArray⟩ else none
theorem Ap5.calls (s cut : ByteArray) (r : ByteArray) (w : World) (h : Ap5.f s cut = some r) :
  Calls Tryz.prog 97 #[.string s, .string cut] w fun e w' => e = .returned (.string r) ∧ Below w.heap.size w w' := by
 unfold Ap5.f at h
 by_cases hc : s.size ≤ 9223372036854775807 ∧ cut.size < 4294967281 ∧ (cut.data.toList.all fun b => decide (b.toNat < 128)) = true
 ·rw [if_pos hc] at h
  obtain rfl := Option.some.inj h
  exact Any.strings_Trim_laid Shelf.lays160 (by kernel_rfl) s cut w hc.1 hc.2.1 (ascii_of_all hc.2.2)
 ·rw [if_neg hc] at h
  cases h
def At2.f (a0 : ByteArray) : Option (Bool) := if (a0.size : Int) ≥ 1 then (if (a0.size : Int) ≤ 3 then ((Ap5.f a0 (⟨#[97, 98, 99, 100, 101, 102, 103, 104, 105, 106, 107, 108, 109, 110, 111, 112, 113, 114, 115, 116, 117, 118, 119, 120, 121, 122]⟩ : ByteArray)).bind fun a1 => (some (a1.toList == ([] : List UInt8)))) else (some false)) else (some false)
theorem At2.calls (a0 : ByteArray) (r : Bool) (w : World) (h : At2.f a0 = some r) :
  Calls Tryz.prog 80 #[.string a0] w fun e w' => e = .returned (.bool r) ∧ Below w.heap.size w w' := by
 have HB := am (Below.refl w.heap.size w)
 have H : (if (a0.size : Int) ≥ 1 then (if (a0.size : Int) ≤ 3 then ((Ap5.f a0 (⟨#[97, 98, 99, 100, 101, 102, 103, 104, 105, 106, 107, 108, 109, 110, 111, 112, 113, 114, 115, 116, 117, 118, 119, 120, 121, 122]⟩ : ByteArray)).bind fun a1 => (some (a1.toList == ([] : List UInt8)))) else (some false)) else (some false)) = some r := h
 clear h
 by_cases c2 : (a0.size : Int) ≥ 1
 ·rw [if_pos c2] at H
  have a2 := decide_eq_true c2
  have a3 : decide (1 ≤ a0.size) = true := decide_eq_true (by omega)
  clear c2
  by_cases c3 : (a0.size : Int) ≤ 3
  ·rw [if_pos c3] at H
   have a4 := decide_eq_true c3
   have a5 : decide (a0.size ≤ 3) = true := decide_eq_true (by omega)
   clear c3
   obtain ⟨a1, A4, H⟩ := ob H
   try dsimp only at H
   obtain rfl := Option.some.inj H
   go_enter Tryz.func80, Tryz.ntmps80
   go_wp2_with (first | (go_at_call 97; refine (Ap5.calls a0 (⟨#[97, 98, 99, 100, 101, 102, 103, 104, 105, 106, 107, 108, 109, 110, 111, 112, 113, 114, 115, 116, 117, 118, 119, 120, 121, 122]⟩ : ByteArray) a1 _ A4.out).mono ?_; rintro e w5 ⟨rfl, hb⟩; replace HB := sb HB hb; (try clear hb)))
   go_ret
   exact ⟨er, hq HB.out⟩
  ·rw [if_neg c3] at H
   have a4 := decide_eq_false c3
   have a5 : decide (a0.size ≤ 3) = false := decide_eq_false (by omega)
   clear c3
   obtain rfl := Option.some.inj H
   go_enter Tryz.func80, Tryz.ntmps80
   go_wp2
   go_ret
   exact ⟨er, hq HB.out⟩
 ·rw [if_neg c2] at H
  have a2 := decide_eq_false c2
  have a3 : decide (1 ≤ a0.size) = false := decide_eq_false (by omega)
  clear c2
  obtain rfl := Option.some.inj H
  go_enter Tryz.func80, Tryz.ntmps80
  go_wp2
  go_ret
  exact ⟨er, hq HB.out⟩
def Am5.f (a0 : Int) (a1 : Int) (a2 : Int) : Option (Bool) := if a0 ≥ a1 then (some (decide (a0 ≤ a2))) else (some false)
theorem Am5.calls (a0 : Int) (a1 : Int) (a2 : Int) (r : Bool) (w : World) (h : Am5.f a0 a1 a2 = some r) :
  Calls Tryz.prog 81 #[.int .i64 a0, .int .i64 a1, .int .i64 a2] w fun e w' => e = .returned (.bool r) ∧ Drawn0 w w' := by
 have H : (if a0 ≥ a1 then (some (decide (a0 ≤ a2))) else (some false)) = some r := h
 clear h
 by_cases c4 : a0 ≥ a1
 ·rw [if_pos c4] at H
  have a3 := decide_eq_true c4
  clear c4
  obtain rfl := Option.some.inj H
  go_enter Tryz.func81, Tryz.ntmps81
  go_wp2
  go_ret
  exact ⟨et, dn⟩
 ·rw [if_neg c4] at H
  have a3 := decide_eq_false c4
  clear c4
  obtain rfl := Option.some.inj H
  go_enter Tryz.func81, Tryz.ntmps81
  go_wp2
  go_ret
  exact ⟨et, dn⟩
def Al5.f (a0 : ByteArray) (a1 : Int) (l1 : List ByteArray) : Option (Bool) := if 0 < (l1.length : Int) then (some (a0.toList == (As6 ByteArray.empty l1 0).toList)) else (none)
theorem Al5.calls (a2 : ByteArray) (a3 : Int) (A1 : Option Addr) (l1 : List ByteArray) (r : Bool) (w : World) (b2 : Kd.C Kd.string w A1 l1.length l1) (h : Al5.f a2 a3 l1 = some r) :
  Calls Tryz.prog 99 #[.agg #[.string a2, .int .i64 a3], .pointer A1] w fun e w' => e = .returned (.bool r) ∧ Below w.heap.size w w' := by
 have b7 := Tryz.underlying79
 have b8 := am b2
 clear b2
 have HB := am (Below.refl w.heap.size w)
 have H : (if 0 < (l1.length : Int) then (some (a2.toList == (As6 ByteArray.empty l1 0).toList)) else (none)) = some r := h
 clear h
 obtain ⟨c3, H⟩ := ifs H
 have b9 := decide_eq_true c3
 have c0 : decide (0 < l1.length) = true := decide_eq_true (by omega)
 clear c3
 obtain rfl := Option.some.inj H
 go_enter Tryz.func99, Tryz.ntmps99
 go_wp2_with (first | (refine bx 2 rfl #[.string a2, .int .i64 a3] 79 ?_; intro b3 hg w4 hbox hb; have a1 := am (hbox); have a6 := am (bz hg (hq HB.out)); replace HB := sb HB hb; have b4 := a6; clear hb hbox hg; have a7 := c0_ a1; have a8 := c1_ a1; have a9 := Aa2 a1.out 0; have b0 := Aa2 a1.out 1; have a4 : 0 ≤ (0 : Int) := (by omega); have a5 : 0 < (l1.length : Int) := od; obtain ⟨b5, b1, a0⟩ := Kd.at_string b8.out 0 a4 a5; cases b1; have b6 : (0 < l1.length) = True := eq_true (by omega); (try simp only [t0_] at a0); replace a0 := cz HB.out a0; replace a4 := eq_true a4; replace a5 := eq_true a5))
 go_ret
 exact ⟨er, hs HB.out⟩
def Aa6.l0 : Nat → List (S79) → Int → Int → List ByteArray → Option (Int)
 | 0, _, _, _, _ => none
 | k + 1, x0, x7, x8, a0 => if x8 < x7 then (if 0 ≤ x8 then (if x8 < (x0.length : Int) then ((Al5.f ((Ac2 x0 x8).f0) ((Ac2 x0 x8).f1) a0).bind fun a1 => (if a1 = true then (some x8) else (Aa6.l0 k x0 x7 (wrap64 (x8 + 1)) a0))) else (none)) else (none)) else (some (-1))
def Aa6.f (k : Nat) (l0 : List (S79)) (a0 : List ByteArray) : Option (Int) := Aa6.l0 k l0 (l0.length : Int) 0 a0
theorem Aa6.calls (k : Nat) (A0 : Option Addr) (c0 : Nat) (l0 : List (S79)) (a4 : Option Addr) (a3 : List ByteArray) (r : Int) (w : World) (b2 : Kd.C k79 w A0 l0.length l0) (b3 : l0.length ≤ c0) (a5 : Kd.C Kd.string w a4 a3.length a3) (h : Aa6.f k l0 a3 = some r) :
  Calls Tryz.prog 98 #[.slice A0 l0.length c0, .func (.func 99) #[] #[.pointer a4]] w fun e w' => e = .returned (.int .i64 r) ∧ Below w.heap.size w w' := by
 have b7 := Tryz.underlying79
 have b8 := am b2
 have d0 := am b3
 clear b2 b3
 have a8 := am a5
 clear a5
 have HB := am (Below.refl w.heap.size w)
 have H : (Aa6.l0 k l0 (l0.length : Int) 0 a3) = some r := h
 clear h
 have H' := am H
 clear H
 go_enter Tryz.func98, Tryz.ntmps98
 go_wp2
 go_loopg [8] k (fun kq v8 w' => ∃ (a0 : Int), v8 = .int .i64 a0 ∧ Aside0 (Aa6.l0 kq l0 (l0.length : Int) a0 a3 = some r) ∧ Aside0 (kq ≤ k) ∧ Aside0 (Below w.heap.size w w'))
 case atStart => exact ⟨(0), et, H', ⟨Nat.le_refl _⟩, ⟨hq HB.out⟩⟩
 case round =>
  clear H'
  obtain ⟨a0, rfl, HA, b4, HB⟩ := hrel
  cases gk with
  | zero => exact absurd HA.out (by simp [Aa6.l0])
  | succ k1 =>
   have H := HA.out
   clear HA
   simp only [Aa6.l0] at H
   by_cases c3 : a0 < (l0.length : Int)
   ·rw [if_pos c3] at H
    have b0 := decide_eq_true c3
    clear c3
    obtain ⟨b9, H⟩ := ife H
    obtain ⟨c1, H⟩ := ife H
    obtain ⟨a9, A6, H⟩ := ob H
    try dsimp only at H
    have b5 := am H
    clear H
    have a6 : 0 ≤ (a0 : Int) := od
    have a7 : a0 < (l0.length : Int) := od
    obtain ⟨b6, b1, a1, a2⟩ := Ap3 b8.out a0 a6 a7
    cases b1
    replace a1 := cz HB.out a1
    replace a2 := cz HB.out a2
    obtain ⟨a6, a7⟩ := ee a6 a7
    go_upto_if 16 with (first | ((first | (refine gl (some 16) Tryz.func99 rfl #[.agg #[.string ((Ac2 l0 a0).f0), .int .i64 ((Ac2 l0 a0).f1)], .pointer a4] ?_) | ((with_reducible refine Av8 _ rfl ?_); refine Bj8 (some 16) rfl rfl Tryz.func99 (by kernel_rfl) rfl #[.agg #[.string ((Ac2 l0 a0).f0), .int .i64 ((Ac2 l0 a0).f1)], .pointer a4] rfl rfl (by first | rfl | (simp <;> first | rfl | exact ⟨rfl, rfl⟩ | exact ⟨rfl, rfl, rfl⟩) | ((try simp only [List.map_toArray, List.map_cons, List.map_nil]); first | done | rfl | (simp only [List.length_drop, List.length_take]; rfl))) ?_)); refine (Al5.calls ((Ac2 l0 a0).f0) ((Ac2 l0 a0).f1) _ a3 a9 _ (cq (Kd.C_below a8.out HB.out)) A6.out).mono ?_; rintro e w8 ⟨rfl, hb⟩; refine ⟨_, rfl, ?_⟩; replace HB := sb HB hb; clear hb))
    have H := b5.out
    clear b5
    by_cases c9 : a9 = true
    ·subst c9
     rw [if_pos rfl] at H
     obtain rfl := Option.some.inj H
     go_wp2
     go_ret
     exact ⟨er, hq HB.out⟩
    ·replace c9 := Bool.eq_false_iff.mpr c9
     subst c9
     rw [if_neg (show ¬ (false = true) by decide)] at H
     have H' := am H
     clear H
     go_wp2
     go_roundg k1
     case measure => have := b4.out; omega
     case rel => exact ⟨(wrap64 (a0 + 1)), et, H', ⟨by have := b4.out; omega⟩, ⟨hq HB.out⟩⟩
   ·rw [if_neg c3] at H
    have b0 := decide_eq_false c3
    clear c3
    obtain rfl := Option.some.inj H
    go_wp2
    go_ret
    exact ⟨er, hq HB.out⟩
def An4.f (k : Nat) (a0 : List (S79)) (a1 : ByteArray) : Option (Int) := (Aa6.f k a0 [a1]).bind fun a2 => (some a2)
theorem An4.calls (k : Nat) (a5 : Option Addr) (a6 : Nat) (a2 : List (S79)) (a1 : ByteArray) (r : Int) (w : World) (a7 : Kd.C k79 w a5 a2.length a2) (a8 : a2.length ≤ a6) (h : An4.f k a2 a1 = some r) :
  Calls Tryz.prog 82 #[.agg #[.slice a5 a2.length a6], .string a1] w fun e w' => e = .returned (.int .i64 r) ∧ Below w.heap.size w w' := by
 have c1 := Tryz.underlying36
 have b1 := am a7
 have b2 := am a8
 clear a7 a8
 have HB := am (Below.refl w.heap.size w)
 have H : ((Aa6.f k a2 [a1]).bind fun a9 => (some a9)) = some r := h
 clear h
 obtain ⟨a9, A3, H⟩ := ob H
 try dsimp only at H
 obtain rfl := Option.some.inj H
 go_enter Tryz.func82, Tryz.ntmps82
 go_wp2_with (first | (refine bx 2 rfl #[.slice a5 a2.length a6] 36 ?_; intro b8 hg w4 hbox hb; have a0 := am (hbox); have b3 := am (bz hg (hq HB.out)); replace HB := sb HB hb; have b9 := b3; clear hb hbox hg) | (refine bx 3 rfl #[.string a1] 9 ?_; intro b4 hg w5 hbox hb; have a4 := am (hbox); have b5 := am (bz hg (hs HB.out)); replace HB := sb HB hb; have c0 := b5; have a3 := nl hg a0; have b0 := ng hg a0; replace a0 := bb a0 hb; clear hb hbox hg; obtain ⟨d0, d1⟩ := nn a3; have b6 := c0_ a0; have b7 := Aa2 a0.out 0) | (refine gl (some 8) Tryz.func98 rfl #[.slice a5 a2.length a6, .func (.func 99) #[] #[.pointer (some ⟨b4, 0, none⟩)]] ?_; refine (Aa6.calls k _ _ a2 _ [a1] a9 _ (cq (Kd.C_below b1.out HB.out)) b2.out (k9_box (bq a4.out)) A3.out).mono ?_; rintro e w8 ⟨rfl, hb⟩; refine ⟨_, rfl, ?_⟩; replace a0 := bb a0 hb; replace a4 := bb a4 hb; replace HB := sb HB hb; clear hb))
 go_ret
 exact ⟨er, hs HB.out⟩
def An8.f (a1 : ByteArray) (a0 : Int) : Option (Bool) := some (a0 == 0)
theorem An8.calls (a2 : ByteArray) (a1 : Int) (r : Bool) (w : World) (h : An8.f a2 a1 = some r) :
  Calls Tryz.prog 84 #[.agg #[.string a2, .int .i64 a1]] w fun e w' => e = .returned (.bool r) ∧ Below w.heap.size w w' := by
 have b0 := Tryz.underlying79
 have HB := am (Below.refl w.heap.size w)
 have H : (some (a1 == 0)) = some r := h
 clear h
 obtain rfl := Option.some.inj H
 go_enter Tryz.func84, Tryz.ntmps84
 go_wp2_with (first | (refine bx 1 rfl #[.string a2, .int .i64 a1] 79 ?_; intro a8 hg w2 hbox hb; have a0 := am (hbox); have a3 := am (bz hg (hq HB.out)); replace HB := sb HB hb; have a9 := a3; clear hb hbox hg; have a4 := c0_ a0; have a5 := c1_ a0; have a6 := Aa2 a0.out 0; have a7 := Aa2 a0.out 1))
 go_ret
 exact ⟨er, hs HB.out⟩
def Aa5.l0 : Nat → List (S79) → Int → Int → Option (Int)
 | 0, _, _, _ => none
 | k + 1, x0, x7, x8 => if x8 < x7 then (if 0 ≤ x8 then (if x8 < (x0.length : Int) then ((An8.f ((Ac2 x0 x8).f0) ((Ac2 x0 x8).f1)).bind fun a0 => (if a0 = true then (some x8) else (Aa5.l0 k x0 x7 (wrap64 (x8 + 1))))) else (none)) else (none)) else (some (-1))
def Aa5.f (k : Nat) (l0 : List (S79))  : Option (Int) := Aa5.l0 k l0 (l0.length : Int) 0
theorem Aa5.calls (k : Nat) (A0 : Option Addr) (c0 : Nat) (l0 : List (S79))  (r : Int) (w : World) (a8 : Kd.C k79 w A0 l0.length l0) (a9 : l0.length ≤ c0) (h : Aa5.f k l0 = some r) :
  Calls Tryz.prog 98 #[.slice A0 l0.length c0, .func (.func 84) #[] #[]] w fun e w' => e = .returned (.int .i64 r) ∧ Below w.heap.size w w' := by
 have b3 := Tryz.underlying79
 have b4 := am a8
 have b7 := am a9
 clear a8 a9
 have HB := am (Below.refl w.heap.size w)
 have H : (Aa5.l0 k l0 (l0.length : Int) 0) = some r := h
 clear h
 have H' := am H
 clear H
 go_enter Tryz.func98, Tryz.ntmps98
 go_wp2
 go_loopg [8] k (fun kq v8 w' => ∃ (a0 : Int), v8 = .int .i64 a0 ∧ Aside0 (Aa5.l0 kq l0 (l0.length : Int) a0 = some r) ∧ Aside0 (kq ≤ k) ∧ Aside0 (Below w.heap.size w w'))
 case atStart => exact ⟨(0), et, H', ⟨Nat.le_refl _⟩, ⟨hq HB.out⟩⟩
 case round =>
  clear H'
  obtain ⟨a0, rfl, HA, b0, HB⟩ := hrel
  cases gk with
  | zero => exact absurd HA.out (by simp [Aa5.l0])
  | succ k1 =>
   have H := HA.out
   clear HA
   simp only [Aa5.l0] at H
   by_cases c3 : a0 < (l0.length : Int)
   ·rw [if_pos c3] at H
    have a6 := decide_eq_true c3
    clear c3
    obtain ⟨b5, H⟩ := ife H
    obtain ⟨b6, H⟩ := ife H
    obtain ⟨a5, A6, H⟩ := ob H
    try dsimp only at H
    have b1 := am H
    clear H
    have a3 : 0 ≤ (a0 : Int) := od
    have a4 : a0 < (l0.length : Int) := od
    obtain ⟨b2, a7, a1, a2⟩ := Ap3 b4.out a0 a3 a4
    cases a7
    replace a1 := cz HB.out a1
    replace a2 := cz HB.out a2
    obtain ⟨a3, a4⟩ := ee a3 a4
    go_upto_if 16 with (first | ((first | (refine gl (some 16) Tryz.func84 rfl #[.agg #[.string ((Ac2 l0 a0).f0), .int .i64 ((Ac2 l0 a0).f1)]] ?_) | ((with_reducible refine Av8 _ rfl ?_); refine Bj8 (some 16) rfl rfl Tryz.func84 (by kernel_rfl) rfl #[.agg #[.string ((Ac2 l0 a0).f0), .int .i64 ((Ac2 l0 a0).f1)]] rfl rfl (by first | rfl | (simp <;> first | rfl | exact ⟨rfl, rfl⟩ | exact ⟨rfl, rfl, rfl⟩) | ((try simp only [List.map_toArray, List.map_cons, List.map_nil]); first | done | rfl | (simp only [List.length_drop, List.length_take]; rfl))) ?_)); (with_reducible refine (An8.calls ((Ac2 l0 a0).f0) ((Ac2 l0 a0).f1) a5 _ A6.out).mono ?_); rintro e w8 ⟨rfl, hb⟩; refine ⟨_, rfl, ?_⟩; replace HB := sb HB hb; clear hb))
    have H := b1.out
    clear b1
    by_cases c9 : a5 = true
    ·subst c9
     rw [if_pos rfl] at H
     obtain rfl := Option.some.inj H
     go_wp2
     go_ret
     exact ⟨er, hq HB.out⟩
    ·replace c9 := Bool.eq_false_iff.mpr c9
     subst c9
     rw [if_neg (show ¬ (false = true) by decide)] at H
     have H' := am H
     clear H
     go_wp2
     go_roundg k1
     case measure => have := b0.out; omega
     case rel => exact ⟨(wrap64 (a0 + 1)), et, H', ⟨by have := b0.out; omega⟩, ⟨hq HB.out⟩⟩
   ·rw [if_neg c3] at H
    have a6 := decide_eq_false c3
    clear c3
    obtain rfl := Option.some.inj H
    go_wp2
    go_ret
    exact ⟨er, hq HB.out⟩
def Ad5.f (k : Nat) (l0 : List (S79))  : Option (Bool) := (Aa5.f k l0).bind fun a0 => (some (decide (a0 ≥ 0)))
theorem Ad5.calls (k : Nat) (A0 : Option Addr) (c0 : Nat) (l0 : List (S79))  (r : Bool) (w : World) (a1 : Kd.C k79 w A0 l0.length l0) (a2 : l0.length ≤ c0) (h : Ad5.f k l0 = some r) :
  Calls Tryz.prog 83 #[.slice A0 l0.length c0, .func (.func 84) #[] #[]] w fun e w' => e = .returned (.bool r) ∧ Below w.heap.size w w' := by
 have a3 := am a1
 have a4 := am a2
 clear a1 a2
 have HB := am (Below.refl w.heap.size w)
 have H : ((Aa5.f k l0).bind fun a0 => (some (decide (a0 ≥ 0)))) = some r := h
 clear h
 obtain ⟨a0, A3, H⟩ := ob H
 try dsimp only at H
 obtain rfl := Option.some.inj H
 go_enter Tryz.func83, Tryz.ntmps83
 go_wp2_with (first | (refine gl (some 7) Tryz.func98 rfl #[.slice A0 l0.length c0, .func (.func 84) #[] #[]] ?_; refine (Aa5.calls k _ _ l0  a0 _ (cq a3.out) a4.out A3.out).mono ?_; rintro e w4 ⟨rfl, hb⟩; refine ⟨_, rfl, ?_⟩; replace HB := sb HB hb; clear hb))
 go_ret
 exact ⟨er, hq HB.out⟩
attribute [local go_sem] Ai1 Ah9 Ak5 Ak4 Ah0 Ag9 Ai2 Ai0   -- for this text's walks alone
set_option linter.unusedVariables false
set_option linter.unusedSimpArgs false
mutual
def Ab9.j0 : Nat → Bool → List (S79) → Option (Int)
 | 0, _, _ => none
 | k + 1, a1, a0 => if a1 = true then (some 2) else (Ab9.l0 k a0 (a0.length : Int) 0 a0)
def Ab9.l0 : Nat → List (S79) → Int → Int → List (S79) → Option (Int)
 | 0, _, _, _, _ => none
 | k + 1, a2, a5, a1, a0 => if a1 < a5 then (if 0 ≤ a1 then (if a1 < (a2.length : Int) then ((At2.f ((Ac2 a2 a1).f0)).bind fun a3 => (if a3 = true then ((Am5.f ((Ac2 a2 a1).f1) 0 2).bind fun a4 => (if a4 = true then (Ab9.l0 k a2 a5 (wrap64 (a1 + 1)) a0) else (some 3))) else (some 5))) else (none)) else (none)) else (Ab9.l1 k a0 (a0.length : Int) 0 a0)
def Ab9.l1 : Nat → List (S79) → Int → Int → List (S79) → Option (Int)
 | 0, _, _, _, _ => none
 | k + 1, a2, a5, a1, a0 => if a1 < a5 then (if 0 ≤ a1 then (if a1 < (a2.length : Int) then ((An4.f k a0 ((Ac2 a2 a1).f0)).bind fun a3 => (if a3 = a1 then (Ab9.l1 k a2 a5 (wrap64 (a1 + 1)) a0) else (some 6))) else (none)) else (none)) else ((Ad5.f k a0).bind fun a4 => (if a4 = true then (some 0) else (some 4)))
end
def Ab9.f (k : Nat) (a0 : List (S79)) : Option (Int) := if (a0.length : Int) < 1 then (Ab9.j0 k true a0) else (Ab9.j0 k (decide ((a0.length : Int) > 6)) a0)
theorem Ab9.calls (k : Nat) (b0 : Option Addr) (a5 : Nat) (a1 : List (S79)) (r : Int) (w : World) (d1 : Kd.C k79 w b0 a1.length a1) (d2 : a1.length ≤ a5) (h : Ab9.f k a1 = some r) :
  Calls Tryz.prog 53 #[.agg #[.slice b0 a1.length a5]] w fun e w' => e = .returned (.int .i64 r) ∧ Below w.heap.size w w' := by
 have m7 := Tryz.underlying36
 have m8 := Tryz.underlying79
 have b1 := am d1
 have d3 := am d2
 clear d1 d2
 have HB := am (Below.refl w.heap.size w)
 have H : (if (a1.length : Int) < 1 then (Ab9.j0 k true a1) else (Ab9.j0 k (decide ((a1.length : Int) > 6)) a1)) = some r := h
 clear h
 have j8 := am H
 clear H
 go_enter Tryz.func53, Tryz.ntmps53
 go_upto_region 1 with (first | ((with_reducible refine An6 (N := 1) rfl ?_); (try (refine Ax0 (by rfl) ?_; dsimp only)); refine Aw4 ?hg (N := 1) ?hd (cs := #[.slice b0 a1.length a5]) (t := 36) ?hr ?_; (case hd => rfl); (case hg => rfl); (case hr => first | (go_simp; done) | (go_simp; rfl)); intro a8 hg w3 hbox hb; have a0 := am (hbox); have e2 := am (bz hg (hq HB.out)); replace HB := sb HB hb; have k8 := e2; clear hb hbox hg))
 (try simp only [Act.put, lsp])
 go_cut [16] (fun m9 wc => ∃ (kq : Nat) (b2 : Bool), m9 = .bool b2 ∧ Aside0 (Ab9.j0 kq b2 a1 = some r) ∧ Aside0 (kq ≤ k) ∧ Aside0 (wc.heap[a8]? = some (.cells #[(.slice b0 a1.length a5)] 36 (0, 0))) ∧ Aside0 (Below w.heap.size w wc))
 case first =>
  have H := j8.out
  clear j8
  by_cases c4 : (a1.length : Int) < 1
  ·rw [if_pos c4] at H
   have b8 := decide_eq_true c4
   have j9 : decide (a1.length < 1) = true := decide_eq_true (by omega)
   clear c4
   (first | rw [b8] | (simp only [Ae6, Ae7]; rw [b8]) | skip)
   have H' := am H
   clear H
   have k0 := c0_ a0
   have k1 := Aa2 a0.out 0
   go_wp2
   go_meet
   case rel => exact ⟨_, (true), et, H', lo, ⟨bq a0.out⟩, ⟨hs HB.out⟩⟩
  ·rw [if_neg c4] at H
   have b8 := decide_eq_false c4
   have j9 : decide (a1.length < 1) = false := decide_eq_false (by omega)
   clear c4
   (first | rw [b8] | (simp only [Ae6, Ae7]; rw [b8]) | skip)
   have H' := am H
   clear H
   have k4 := c0_ a0
   have k5 := Aa2 a0.out 0
   go_wp2
   go_meet
   case rel => exact ⟨_, (decide ((a1.length : Int) > 6)), et, H', lo, ⟨bq a0.out⟩, ⟨hs HB.out⟩⟩
 case rest =>
  clear j8
  obtain ⟨kq, b2, rfl, HA, h0, a0, HB⟩ := hcut
  cases kq with
  | zero => exact absurd HA.out (by simp [Ab9.j0])
  | succ k9 =>
   have H := HA.out
   clear HA
   simp only [Ab9.j0] at H
   by_cases c7 : b2 = true
   ·subst c7
    rw [if_pos rfl] at H
    obtain rfl := Option.some.inj H
    go_wp2
    go_ret
    exact ⟨er, hs HB.out⟩
   ·replace c7 := Bool.eq_false_iff.mpr c7
    subst c7
    rw [if_neg (show ¬ (false = true) by decide)] at H
    have H' := am H
    clear H
    have b9 := c0_ a0
    have c0 := Aa2 a0.out 0
    go_wp2
    go_loopg [20] k9 (fun kq n0 w' => ∃ (a2 : Int), n0 = .int .i64 a2 ∧ Aside0 (Ab9.l0 kq a1 (a1.length : Int) a2 a1 = some r) ∧ Aside0 (kq ≤ k9) ∧ Aside0 (w'.heap[a8]? = some (.cells #[(.slice b0 a1.length a5)] 36 (0, 0))) ∧ Aside0 (Below w.heap.size w w'))
    case atStart => exact ⟨(0), et, H', ⟨Nat.le_refl _⟩, ⟨bq a0.out⟩, ⟨hs HB.out⟩⟩
    case round =>
     clear H'
     try clear c7; try clear b9; try clear c0
     obtain ⟨a2, rfl, HA, h2, a0, HB⟩ := hrel
     cases gk with
     | zero => exact absurd HA.out (by simp [Ab9.l0])
     | succ k2 =>
      have H := HA.out
      clear HA
      simp only [Ab9.l0] at H
      by_cases c9 : a2 < (a1.length : Int)
      ·rw [if_pos c9] at H
       have e3 := decide_eq_true c9
       clear c9
       obtain ⟨l4, H⟩ := ife H
       obtain ⟨l5, H⟩ := ife H
       obtain ⟨e4, n1, H⟩ := ob H
       try dsimp only at H
       have e5 := am H
       clear H
       have d5 : 0 ≤ (a2 : Int) := od
       have d6 : a2 < (a1.length : Int) := od
       obtain ⟨e6, k6, b3, b4⟩ := Ap3 b1.out a2 d5 d6
       cases k6
       replace b3 := cz HB.out b3
       replace b4 := cz HB.out b4
       obtain ⟨d5, d6⟩ := ee d5 d6
       go_upto_if 27 with (first | ((with_reducible refine An6 (N := 4) rfl ?_); (try (refine Ax0 (by rfl) ?_; dsimp only)); refine Aw4 ?hg (N := 4) ?hd (cs := #[.string (⟨#[]⟩ : ByteArray), .int .i64 0]) (t := 79) ?hr ?_; (case hd => rfl); (case hg => rfl); (case hr => first | (go_simp; done) | (go_simp; rfl)); intro e7 hg n6 hbox hb; have a4 := am (hbox); have e8 := am (bz hg (hs HB.out)); replace HB := sb HB hb; have l6 := e8; have d9 := nl hg a0; have a6 := ng hg a0; replace a0 := bb a0 hb; clear hb hbox hg; obtain ⟨l7, l8⟩ := nn a6; have h3 := c0_ a4; have h4 := c1_ a4; have h5 := Aa2 a4.out 0; have h6 := Aa2 a4.out 1) | (refine gl (some 26) Tryz.func80 rfl #[.string ((Ac2 a1 a2).f0)] ?_; (with_reducible refine (At2.calls ((Ac2 a1 a2).f0) e4 _ n1.out).mono ?_); rintro e n7 ⟨rfl, hb⟩; refine ⟨_, rfl, ?_⟩; replace a0 := am (Af8 (g := a8) (o := .cells #[.slice (some e6) a1.length a5] 36 (0, 0)) (bf a0.out) hb); replace a4 := am (Af8 (g := e7) (o := .cells #[.string ((Ac2 a1 a2).f0), .int .i64 ((Ac2 a1 a2).f1)] 79 (0, 0)) (by refine bq ?_; refine Ac7 (cs := #[.string ((Ac2 a1 a2).f0), .int .i64 0]) ?_ 1 _ rfl; refine bq ?_; refine Ac7 (cs := #[.string (⟨#[]⟩ : ByteArray), .int .i64 0]) ?_ 0 _ rfl; refine bq ?_; exact a4.out) hb); replace HB := sb HB hb; clear hb))
       have H := e5.out
       clear e5
       by_cases h7 : e4 = true
       ·subst h7
        rw [if_pos rfl] at H
        obtain ⟨e9, n2, H⟩ := ob H
        try dsimp only at H
        have g0 := am H
        clear H
        obtain ⟨l9, m0⟩ := nn a6
        have h8 := c0_ a4
        have h9 := c1_ a4
        have i0 := Aa2 a4.out 0
        have i1 := Aa2 a4.out 1
        go_upto_if 31 with (first | (refine gl (some 30) Tryz.func81 rfl #[.int .i64 ((Ac2 a1 a2).f1), .int .i64 0, .int .i64 2] ?_; (with_reducible refine (Am5.calls ((Ac2 a1 a2).f1) 0 2 e9 _ n2.out).mono ?_); rintro e w' ⟨rfl, ⟨nd, rfl⟩⟩; refine ⟨_, rfl, ?_⟩))
        have H := g0.out
        clear g0
        by_cases i2 : e9 = true
        ·subst i2
         rw [if_pos rfl] at H
         have H' := am H
         clear H
         go_wp2
         go_roundg k2
         case measure => have := h0.out; have := h2.out; omega
         case rel => exact ⟨(wrap64 (a2 + 1)), et, H', ⟨by have := h0.out; have := h2.out; omega⟩, ⟨bq a0.out⟩, ⟨hs HB.out⟩⟩
        ·replace i2 := Bool.eq_false_iff.mpr i2
         subst i2
         rw [if_neg (show ¬ (false = true) by decide)] at H
         obtain rfl := Option.some.inj H
         go_wp2
         go_ret
         exact ⟨er, hs HB.out⟩
       ·replace h7 := Bool.eq_false_iff.mpr h7
        subst h7
        rw [if_neg (show ¬ (false = true) by decide)] at H
        obtain rfl := Option.some.inj H
        go_wp2
        go_ret
        exact ⟨er, hs HB.out⟩
      ·rw [if_neg c9] at H
       have e3 := decide_eq_false c9
       clear c9
       have H' := am H
       clear H
       have c1 := c0_ a0
       have d0 := Aa2 a0.out 0
       go_wp2
       go_loopg [36] k2 (fun kq n3 w' => ∃ (a3 : Int), n3 = .int .i64 a3 ∧ Aside0 (Ab9.l1 kq a1 (a1.length : Int) a3 a1 = some r) ∧ Aside0 (kq ≤ k2) ∧ Aside0 (w'.heap[a8]? = some (.cells #[(.slice b0 a1.length a5)] 36 (0, 0))) ∧ Aside0 (Below w.heap.size w w'))
       case atStart => exact ⟨(0), et, H', ⟨Nat.le_refl _⟩, ⟨bq a0.out⟩, ⟨hs HB.out⟩⟩
       case round =>
        clear H'
        try clear c7; try clear c9; try clear e3; try clear c1; try clear b9; try clear d0; try clear c0
        obtain ⟨a3, rfl, HA, m1, a0, HB⟩ := hrel
        cases gk with
        | zero => exact absurd HA.out (by simp [Ab9.l1])
        | succ k3 =>
         have H := HA.out
         clear HA
         simp only [Ab9.l1] at H
         by_cases e0 : a3 < (a1.length : Int)
         ·rw [if_pos e0] at H
          have g1 := decide_eq_true e0
          clear e0
          obtain ⟨m2, H⟩ := ife H
          obtain ⟨m3, H⟩ := ife H
          obtain ⟨g2, n4, H⟩ := ob H
          try dsimp only at H
          have g3 := am H
          clear H
          have d7 : 0 ≤ (a3 : Int) := od
          have d8 : a3 < (a1.length : Int) := od
          obtain ⟨d4, k7, b5, b6⟩ := Ap3 b1.out a3 d7 d8
          cases k7
          replace b5 := cz HB.out b5
          replace b6 := cz HB.out b6
          obtain ⟨d7, d8⟩ := ee d7 d8
          go_upto_if 46 with (first | ((with_reducible refine An6 (N := 6) rfl ?_); (try (refine Ax0 (by rfl) ?_; dsimp only)); refine Aw4 ?hg (N := 6) ?hd (cs := #[.string (⟨#[]⟩ : ByteArray), .int .i64 0]) (t := 79) ?hr ?_; (case hd => rfl); (case hg => rfl); (case hr => first | (go_simp; done) | (go_simp; rfl)); intro g4 hg n8 hbox hb; have a7 := am (hbox); have g5 := am (bz hg (hs HB.out)); replace HB := sb HB hb; have m4 := g5; have e1 := nl hg a0; have b7 := ng hg a0; replace a0 := bb a0 hb; clear hb hbox hg; obtain ⟨m5, m6⟩ := nn b7; have i3 := c0_ a7; have i4 := c1_ a7; have i5 := Aa2 a7.out 0; have i6 := Aa2 a7.out 1; have i7 := c0_ a0; have i9 := Aa2 a0.out 0) | (refine gl (some 44) Tryz.func82 rfl #[.agg #[.slice (some d4) a1.length a5], .string ((Ac2 a1 a3).f0)] ?_; refine (An4.calls k3 _ _ a1 ((Ac2 a1 a3).f0) g2 _ (Kd.C_below b1.out (hs HB.out)) d3.out n4.out).mono ?_; rintro e n9 ⟨rfl, hb⟩; refine ⟨_, rfl, ?_⟩; replace a0 := am (Af8 (g := a8) (o := .cells #[.slice (some d4) a1.length a5] 36 (0, 0)) (bf a0.out) hb); replace a7 := am (Af8 (g := g4) (o := .cells #[.string ((Ac2 a1 a3).f0), .int .i64 ((Ac2 a1 a3).f1)] 79 (0, 0)) (by refine bq ?_; refine Ac7 (cs := #[.string ((Ac2 a1 a3).f0), .int .i64 0]) ?_ 1 _ rfl; refine bq ?_; refine Ac7 (cs := #[.string (⟨#[]⟩ : ByteArray), .int .i64 0]) ?_ 0 _ rfl; refine bq ?_; exact a7.out) hb); replace HB := sb HB hb; clear hb))
          have H := g3.out
          clear g3
          by_cases g6 : g2 = a3
          ·rw [if_pos g6] at H
           obtain ⟨a9, g7⟩ := bqt g6; clear g6
           (first | rw [a9] | (simp only [Ae6, Ae7]; rw [a9]) | skip)
           have H' := am H
           clear H
           go_wp2
           go_roundg k3
           case measure => have := h0.out; have := h2.out; have := m1.out; omega
           case rel => exact ⟨(wrap64 (a3 + 1)), et, H', ⟨by have := h0.out; have := h2.out; have := m1.out; omega⟩, ⟨bq a0.out⟩, ⟨hs HB.out⟩⟩
          ·rw [if_neg g6] at H
           obtain ⟨a9, g7⟩ := bqf g6
           (first | rw [a9] | (simp only [Ae6, Ae7]; rw [a9]) | skip)
           obtain rfl := Option.some.inj H
           go_wp2
           go_ret
           exact ⟨er, hs HB.out⟩
         ·rw [if_neg e0] at H
          have g1 := decide_eq_false e0
          clear e0
          obtain ⟨g8, n5, H⟩ := ob H
          try dsimp only at H
          have g9 := am H
          clear H
          have j5 := c0_ a0
          have j6 := Aa2 a0.out 0
          go_upto_if 51 with (first | (refine gl (some 50) Tryz.func83 rfl #[.slice b0 a1.length a5, .func (.func 84) #[] #[]] ?_; refine (Ad5.calls k3 _ _ a1  g8 _ (cq (Kd.C_below b1.out HB.out)) d3.out n5.out).mono ?_; rintro e o0 ⟨rfl, hb⟩; refine ⟨_, rfl, ?_⟩; replace a0 := bb a0 hb; replace HB := sb HB hb; clear hb))
          have H := g9.out
          clear g9
          by_cases j7 : g8 = true
          ·subst j7
           rw [if_pos rfl] at H
           obtain rfl := Option.some.inj H
           go_wp2
           go_ret
           exact ⟨er, hs HB.out⟩
          ·replace j7 := Bool.eq_false_iff.mpr j7
           subst j7
           rw [if_neg (show ¬ (false = true) by decide)] at H
           obtain rfl := Option.some.inj H
           go_wp2
           go_ret
           exact ⟨er, hs HB.out⟩
def Aa7.l0 : Nat → List Int → Int → Int → Int → Option (Int)
 | 0, _, _, _, _ => none
 | k + 1, x0, x1, x7, x8 => if x8 < x7 then (if 0 ≤ x8 then (if x8 < (x0.length : Int) then (if x1 = (rd x0 x8) then (some x8) else (Aa7.l0 k x0 x1 x7 (wrap64 (x8 + 1)))) else (none)) else (none)) else (some (-1))
def Aa7.f (k : Nat) (l0 : List Int) (a1 : Int) : Option (Int) := Aa7.l0 k l0 a1 (l0.length : Int) 0
theorem Aa7.mono_l : ∀ k, (∀ y0 y1 y2 y3, LeO (Aa7.l0 k y0 y1 y2 y3) (Aa7.l0 (k + 1) y0 y1 y2 y3))
 | 0 => fun _ _ _ _ r h => by simp [Aa7.l0] at h
 | k + 1 => by
  have a0 := Aa7.mono_l k
  ·intro y0 y1 y2 y3
   unfold Aa7.l0
   repeat' first | (with_reducible first | apply a0 | exact LeO.refl _ | exact LeO.none _ | refine LeO.ite ?_ ?_ | refine LeO.bind ?_ (fun _ => ?_)) | apply a0 | exact LeO.none _ | refine LeO.ite ?_ ?_ | refine LeO.bind ?_ (fun _ => ?_)
theorem Aa7.mono : ∀ a0 a1 k, LeO (Aa7.f k a0 a1) (Aa7.f (k + 1) a0 a1) := by
 intro a0 a1 k
 have a2 := Aa7.mono_l k
 unfold Aa7.f
 repeat' first | (with_reducible first | apply a2 | exact LeO.refl _ | exact LeO.none _ | refine LeO.ite ?_ ?_ | refine LeO.bind ?_ (fun _ => ?_)) | apply a2 | exact LeO.none _ | refine LeO.ite ?_ ?_ | refine LeO.bind ?_ (fun _ => ?_)
theorem Aa7.calls (k : Nat) (A0 : Option Addr) (c0 : Nat) (l0 : List Int) (a1 : Int) (r : Int) (w : World) (b0 : Kd.C (Kd.int .i64) w A0 l0.length l0) (b1 : l0.length ≤ c0) (h : Aa7.f k l0 a1 = some r) :
  Calls Tryz.prog 86 #[.slice A0 l0.length c0, .int .i64 a1] w fun e w' => e = .returned (.int .i64 r) ∧ Drawn0 w w' := by
 have b2 := am b0
 have b6 := am b1
 clear b0 b1
 have H : (Aa7.l0 k l0 a1 (l0.length : Int) 0) = some r := h
 clear h
 have H' := am H
 clear H
 go_enter Tryz.func86, Tryz.ntmps86
 go_wp2
 go_loopg [8] k (fun kq v8 w' => ∃ (a0 : Int), v8 = .int .i64 a0 ∧ Aside0 (Aa7.l0 kq l0 a1 (l0.length : Int) a0 = some r) ∧ Aside0 (kq ≤ k) ∧ Drawn0 w w')
 case atStart => exact ⟨(0), et, H', ⟨Nat.le_refl _⟩, dn⟩
 case round =>
  clear H'
  obtain ⟨a0, rfl, HA, b3, ⟨m1, rfl⟩⟩ := hrel
  cases gk with
  | zero => exact absurd HA.out (by simp [Aa7.l0])
  | succ k1 =>
   have H := HA.out
   clear HA
   simp only [Aa7.l0] at H
   by_cases c3 : a0 < (l0.length : Int)
   ·rw [if_pos c3] at H
    have a7 := decide_eq_true c3
    clear c3
    obtain ⟨b4, H⟩ := ife H
    obtain ⟨b5, H⟩ := ife H
    by_cases c6 : a1 = (rd l0 a0)
    ·rw [if_pos c6] at H
     obtain ⟨a8, a9⟩ := bqt c6; clear c6
     obtain rfl := Option.some.inj H
     have a2 : 0 ≤ (a0 : Int) := od
     have a3 : a0 < (l0.length : Int) := od
     obtain ⟨a6, a5, a4⟩ := Kd.at_int b2.out a0 a2 a3
     cases a5
     obtain ⟨a2, a3⟩ := ee a2 a3
     go_wp2
     go_ret
     exact ⟨et, dn⟩
    ·rw [if_neg c6] at H
     obtain ⟨a8, a9⟩ := bqf c6
     have H' := am H
     clear H
     have a2 : 0 ≤ (a0 : Int) := od
     have a3 : a0 < (l0.length : Int) := od
     obtain ⟨a6, a5, a4⟩ := Kd.at_int b2.out a0 a2 a3
     cases a5
     obtain ⟨a2, a3⟩ := ee a2 a3
     go_wp2
     go_roundg k1
     case measure => have := b3.out; omega
     case rel => exact ⟨(wrap64 (a0 + 1)), et, H', ⟨by have := b3.out; omega⟩, dn⟩
   ·rw [if_neg c3] at H
    have a7 := decide_eq_false c3
    clear c3
    obtain rfl := Option.some.inj H
    go_wp2
    go_ret
    exact ⟨et, dn⟩
def Ad0.f (k : Nat) (l0 : List Int) (a1 : Int) : Option (Bool) := (Aa7.f k l0 a1).bind fun a0 => (some (decide (a0 ≥ 0)))
theorem Ad0.mono : ∀ a0 a1 k, LeO (Ad0.f k a0 a1) (Ad0.f (k + 1) a0 a1) := by
 intro a0 a1 k
 unfold Ad0.f
 repeat' first | (with_reducible first | apply Aa7.mono | exact LeO.refl _ | exact LeO.none _ | refine LeO.ite ?_ ?_ | refine LeO.bind ?_ (fun _ => ?_)) | apply Aa7.mono | exact LeO.none _ | refine LeO.ite ?_ ?_ | refine LeO.bind ?_ (fun _ => ?_)
theorem Ad0.calls (k : Nat) (A0 : Option Addr) (c0 : Nat) (l0 : List Int) (a1 : Int) (r : Bool) (w : World) (a2 : Kd.C (Kd.int .i64) w A0 l0.length l0) (a3 : l0.length ≤ c0) (h : Ad0.f k l0 a1 = some r) :
  Calls Tryz.prog 57 #[.slice A0 l0.length c0, .int .i64 a1] w fun e w' => e = .returned (.bool r) ∧ Drawn0 w w' := by
 have a4 := am a2
 have a5 := am a3
 clear a2 a3
 have H : ((Aa7.f k l0 a1).bind fun a0 => (some (decide (a0 ≥ 0)))) = some r := h
 clear h
 obtain ⟨a0, A3, H⟩ := ob H
 try dsimp only at H
 obtain rfl := Option.some.inj H
 go_enter Tryz.func57, Tryz.ntmps57
 go_wp2_with (first | (refine gl (some 7) Tryz.func86 rfl #[.slice A0 l0.length c0, .int .i64 a1] ?_; refine (Aa7.calls k _ _ l0 a1 a0 _ (cq a4.out) a5.out A3.out).mono ?_; rintro e w' ⟨rfl, ⟨nd, rfl⟩⟩; refine ⟨_, rfl, ?_⟩))
 go_ret
 exact ⟨et, dn⟩
def Al4.f (a0 : List (S79)) (a1 : Int) : Option (Bool) := (Am5.f a1 0 (wrap64 ((a0.length : Int) - 1))).bind fun a2 => (some a2)
theorem Al4.calls (a5 : Option Addr) (a6 : Nat) (a0 : List (S79)) (a1 : Int) (r : Bool) (w : World) (a2 : Kd.C k79 w a5 a0.length a0) (a3 : a0.length ≤ a6) (h : Al4.f a0 a1 = some r) :
  Calls Tryz.prog 56 #[.agg #[.slice a5 a0.length a6], .int .i64 a1] w fun e w' => e = .returned (.bool r) ∧ Below w.heap.size w w' := by
 have b5 := Tryz.underlying36
 have b1 := am a2
 have b2 := am a3
 clear a2 a3
 have HB := am (Below.refl w.heap.size w)
 have H : ((Am5.f a1 0 (wrap64 ((a0.length : Int) - 1))).bind fun a7 => (some a7)) = some r := h
 clear h
 obtain ⟨a7, A3, H⟩ := ob H
 try dsimp only at H
 obtain rfl := Option.some.inj H
 go_enter Tryz.func56, Tryz.ntmps56
 go_wp2_with (first | (refine bx 2 rfl #[.slice a5 a0.length a6] 36 ?_; intro b3 hg w4 hbox hb; have a4 := am (hbox); have a8 := am (bz hg (hq HB.out)); replace HB := sb HB hb; have b4 := a8; clear hb hbox hg; have a9 := c0_ a4; have b0 := Aa2 a4.out 0) | (refine gl (some 10) Tryz.func81 rfl #[.int .i64 a1, .int .i64 0, .int .i64 (wrap64 ((a0.length : Int) - 1))] ?_; (with_reducible refine (Am5.calls a1 0 (wrap64 ((a0.length : Int) - 1)) a7 _ A3.out).mono ?_); rintro e w' ⟨rfl, ⟨nd, rfl⟩⟩; refine ⟨_, rfl, ?_⟩))
 go_ret
 exact ⟨er, hs HB.out⟩
def Al9.f (a0 : Int) (l1 : List (S36)) : Option (Bool) := if 0 < (l1.length : Int) then ((Al4.f ((Ad6 l1 0).f0) a0).bind fun a1 => (some (!a1))) else (none)
theorem Al9.calls (a0 : Int) (A1 : Option Addr) (l1 : List (S36)) (r : Bool) (w : World) (b2 : Kd.C k36 w A1 l1.length l1) (h : Al9.f a0 l1 = some r) :
  Calls Tryz.prog 55 #[.int .i64 a0, .pointer A1] w fun e w' => e = .returned (.bool r) ∧ Below w.heap.size w w' := by
 have b5 := Tryz.underlying36
 have b6 := am b2
 clear b2
 have HB := am (Below.refl w.heap.size w)
 have H : (if 0 < (l1.length : Int) then ((Al4.f ((Ad6 l1 0).f0) a0).bind fun a6 => (some (!a6))) else (none)) = some r := h
 clear h
 obtain ⟨c3, H⟩ := ifs H
 have b7 := decide_eq_true c3
 have b8 : decide (0 < l1.length) = true := decide_eq_true (by omega)
 clear c3
 obtain ⟨a6, A4, H⟩ := ob H
 try dsimp only at H
 obtain rfl := Option.some.inj H
 have a7 : 0 ≤ (0 : Int) := (by omega)
 have a8 : 0 < (l1.length : Int) := od
 obtain ⟨b3, a9, b0, b1, a3, a1, a2⟩ := Aj0 b6.out 0 a7 a8
 cases b1
 have b4 : (0 < l1.length) = True := eq_true (by omega)
 (try simp only [t0_] at a3)
 have a4 := am a2
 have a5 := am a1
 clear a2 a1
 obtain ⟨a7, a8⟩ := ee a7 a8
 go_enter Tryz.func55, Tryz.ntmps55
 go_wp2_with (first | (refine gl (some 6) Tryz.func56 rfl #[.agg #[.slice a9 ((Ad6 l1 0).f0).length b0], .int .i64 a0] ?_; refine (Al4.calls _ _ ((Ad6 l1 0).f0) a0 a6 _ (cq a4.out) a5.out A4.out).mono ?_; rintro e w5 ⟨rfl, hb⟩; refine ⟨_, rfl, ?_⟩; replace HB := sb HB hb; clear hb))
 go_ret
 exact ⟨er, hq HB.out⟩
def Ab2.l0 : Nat → List Int → Int → Int → List (S36) → Option (Int)
 | 0, _, _, _, _ => none
 | k + 1, x0, x7, x8, a0 => if x8 < x7 then (if 0 ≤ x8 then (if x8 < (x0.length : Int) then ((Al9.f (rd x0 x8) a0).bind fun a1 => (if a1 = true then (some x8) else (Ab2.l0 k x0 x7 (wrap64 (x8 + 1)) a0))) else (none)) else (none)) else (some (-1))
def Ab2.f (k : Nat) (l0 : List Int) (a0 : List (S36)) : Option (Int) := Ab2.l0 k l0 (l0.length : Int) 0 a0
theorem Ab2.calls (k : Nat) (A0 : Option Addr) (c0 : Nat) (l0 : List Int) (a3 : Option Addr) (a2 : List (S36)) (r : Int) (w : World) (b1 : Kd.C (Kd.int .i64) w A0 l0.length l0) (b2 : l0.length ≤ c0) (a4 : Kd.C k36 w a3 a2.length a2) (h : Ab2.f k l0 a2 = some r) :
  Calls Tryz.prog 85 #[.slice A0 l0.length c0, .func (.func 55) #[] #[.pointer a3]] w fun e w' => e = .returned (.int .i64 r) ∧ Below w.heap.size w w' := by
 have b6 := am b1
 have b9 := am b2
 clear b1 b2
 have a7 := am a4
 clear a4
 have HB := am (Below.refl w.heap.size w)
 have H : (Ab2.l0 k l0 (l0.length : Int) 0 a2) = some r := h
 clear h
 have H' := am H
 clear H
 go_enter Tryz.func85, Tryz.ntmps85
 go_wp2
 go_loopg [8] k (fun kq v8 w' => ∃ (a0 : Int), v8 = .int .i64 a0 ∧ Aside0 (Ab2.l0 kq l0 (l0.length : Int) a0 a2 = some r) ∧ Aside0 (kq ≤ k) ∧ Aside0 (Below w.heap.size w w'))
 case atStart => exact ⟨(0), et, H', ⟨Nat.le_refl _⟩, ⟨hq HB.out⟩⟩
 case round =>
  clear H'
  obtain ⟨a0, rfl, HA, b3, HB⟩ := hrel
  cases gk with
  | zero => exact absurd HA.out (by simp [Ab2.l0])
  | succ k1 =>
   have H := HA.out
   clear HA
   simp only [Ab2.l0] at H
   by_cases c3 : a0 < (l0.length : Int)
   ·rw [if_pos c3] at H
    have a9 := decide_eq_true c3
    clear c3
    obtain ⟨b7, H⟩ := ife H
    obtain ⟨b8, H⟩ := ife H
    obtain ⟨a8, A6, H⟩ := ob H
    try dsimp only at H
    have b4 := am H
    clear H
    have a5 : 0 ≤ (a0 : Int) := od
    have a6 : a0 < (l0.length : Int) := od
    obtain ⟨b5, b0, a1⟩ := Kd.at_int b6.out a0 a5 a6
    cases b0
    replace a1 := cz HB.out a1
    obtain ⟨a5, a6⟩ := ee a5 a6
    go_upto_if 16 with (first | ((first | (refine gl (some 16) Tryz.func55 rfl #[.int .i64 (rd l0 a0), .pointer a3] ?_) | ((with_reducible refine Av8 _ rfl ?_); refine Bj8 (some 16) rfl rfl Tryz.func55 (by kernel_rfl) rfl #[.int .i64 (rd l0 a0), .pointer a3] rfl rfl (by first | rfl | (simp <;> first | rfl | exact ⟨rfl, rfl⟩ | exact ⟨rfl, rfl, rfl⟩) | ((try simp only [List.map_toArray, List.map_cons, List.map_nil]); first | done | rfl | (simp only [List.length_drop, List.length_take]; rfl))) ?_)); refine (Al9.calls (rd l0 a0) _ a2 a8 _ (cq (Kd.C_below a7.out HB.out)) A6.out).mono ?_; rintro e w8 ⟨rfl, hb⟩; refine ⟨_, rfl, ?_⟩; replace HB := sb HB hb; clear hb))
    have H := b4.out
    clear b4
    by_cases c9 : a8 = true
    ·subst c9
     rw [if_pos rfl] at H
     obtain rfl := Option.some.inj H
     go_wp2
     go_ret
     exact ⟨er, hq HB.out⟩
    ·replace c9 := Bool.eq_false_iff.mpr c9
     subst c9
     rw [if_neg (show ¬ (false = true) by decide)] at H
     have H' := am H
     clear H
     go_wp2
     go_roundg k1
     case measure => have := b3.out; omega
     case rel => exact ⟨(wrap64 (a0 + 1)), et, H', ⟨by have := b3.out; omega⟩, ⟨hq HB.out⟩⟩
   ·rw [if_neg c3] at H
    have a9 := decide_eq_false c3
    clear c3
    obtain rfl := Option.some.inj H
    go_wp2
    go_ret
    exact ⟨er, hq HB.out⟩
def Ae2.f (k : Nat) (l0 : List Int) (a0 : List (S36)) : Option (Bool) := (Ab2.f k l0 a0).bind fun a1 => (some (decide (a1 ≥ 0)))
theorem Ae2.calls (k : Nat) (A0 : Option Addr) (c0 : Nat) (l0 : List Int) (a2 : Option Addr) (a0 : List (S36)) (r : Bool) (w : World) (a5 : Kd.C (Kd.int .i64) w A0 l0.length l0) (a6 : l0.length ≤ c0) (a1 : Kd.C k36 w a2 a0.length a0) (h : Ae2.f k l0 a0 = some r) :
  Calls Tryz.prog 54 #[.slice A0 l0.length c0, .func (.func 55) #[] #[.pointer a2]] w fun e w' => e = .returned (.bool r) ∧ Below w.heap.size w w' := by
 have a7 := am a5
 have a8 := am a6
 clear a5 a6
 have a4 := am a1
 clear a1
 have HB := am (Below.refl w.heap.size w)
 have H : ((Ab2.f k l0 a0).bind fun a3 => (some (decide (a3 ≥ 0)))) = some r := h
 clear h
 obtain ⟨a3, A3, H⟩ := ob H
 try dsimp only at H
 obtain rfl := Option.some.inj H
 go_enter Tryz.func54, Tryz.ntmps54
 go_wp2_with (first | (refine gl (some 7) Tryz.func85 rfl #[.slice A0 l0.length c0, .func (.func 55) #[] #[.pointer a2]] ?_; refine (Ab2.calls k _ _ l0 _ a0 a3 _ (cq a7.out) a8.out (cq a4.out) A3.out).mono ?_; rintro e w4 ⟨rfl, hb⟩; refine ⟨_, rfl, ?_⟩; replace HB := sb HB hb; clear hb))
 go_ret
 exact ⟨er, hq HB.out⟩
end Go.Proofs.YtgichahebemmiaaGreatDoor.P
