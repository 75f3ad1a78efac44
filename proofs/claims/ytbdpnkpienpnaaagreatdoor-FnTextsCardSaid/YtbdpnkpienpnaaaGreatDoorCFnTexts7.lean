/- A part of the proof of the law FnTexts. -/
import Derived.Test.YtbdpnkpienpnaaaGreatDoorCFnTexts6
set_option maxHeartbeats 8000000
set_option maxRecDepth 100000
namespace Go.Proofs.YtbdpnkpienpnaaaGreatDoor.P
open Go.RowKit Go.Proofs.YtbdpnkpienpnaaaGreatDoorW.PrintWords Go.Proofs.YtbdpnkpienpnaaaGreatDoorW.PrintLast Go.Proofs.YtbdpnkpienpnaaaGreatDoorW.PrintMore
attribute [local go_sem] max2_int min2_int max_two min_two max_three min_three max_four min_four   -- for this text's walks alone
set_option linter.unusedVariables false
set_option linter.unusedSimpArgs false
mutual
def spec_l3BentTerm.j0 : Nat → List (S26) → Int → Int → Bool → List Int → Int → Option (List Int × Int)
 | 0, _, _, _, _, _, _ => none
 | k + 1, x1, x2, x3, a7, a2, a6 => if a7 = true then (some ((([0] : List Int)), a6)) else ((spec_l3Draw.f k a2 a6 x1 x2 x3).bind fun a0 => ((spec_l1Chance.f a2 a0.2 11).bind fun a4 => (if a4.1 = true then ((spec_l1Next.f a2 a4.2 4).bind fun a1 => (if a1.1 = 0 then (if 0 ≤ (wrap64 ((a0.1.length : Int) - 1)) then (if (wrap64 ((a0.1.length : Int) - 1)) ≤ (a0.1.length : Int) then (some ((a0.1.take ((wrap64 ((a0.1.length : Int) - 1)) : Int).toNat), a1.2)) else (none)) else (none)) else (if a1.1 = 1 then (if a0.1.length < 17592186044416 then (some ((a0.1 ++ [0]), a1.2)) else (none)) else (if a1.1 = 2 then ((spec_l1Next.f a2 a1.2 (a0.1.length : Int)).bind fun a3 => (if 0 < (x1.length : Int) then ((spec_l1Pick.f a2 a3.2 (([(((rd_T26 x1 0).f0).length : Int), (-13), (-12)] : List Int))).bind fun a5 => (if 0 ≤ a3.1 then (if a3.1 < (a0.1.length : Int) then (some ((a0.1.set (a3.1 : Int).toNat a5.1), a5.2)) else (none)) else (none))) else (none))) else (spec_l3BentTerm.l0 k (([] : List Int)) 0 a2 a1.2))))) else (some (a0.1, a4.2)))))
def spec_l3BentTerm.l0 : Nat → List Int → Int → List Int → Int → Option (List Int × Int)
 | 0, _, _, _, _ => none
 | k + 1, a4, a5, a1, a3 => (spec_l1Pick.f a1 a3 (([24, 25] : List Int))).bind fun a0 => (if a5 < a0.1 then ((spec_l1Pick.f a1 a0.2 (([1, 2, 0] : List Int))).bind fun a2 => (if a4.length < 17592186044416 then (spec_l3BentTerm.l0 k (a4 ++ [a2.1]) (wrap64 (a5 + 1)) a1 a2.2) else (none))) else (some (a4, a0.2)))
end
def spec_l3BentTerm.f (k : Nat) (a0 : List Int) (a1 : Int) (l1 : List (S26)) (a2 : Int) (a3 : Int) : Option (List Int × Int) := if 0 < (l1.length : Int) then (if (((rd_T26 l1 0).f0).length : Int) < 1 then (spec_l3BentTerm.j0 k l1 a2 a3 true a0 a1) else ((spec_SignatureFault.f k ((rd_T26 l1 0).f0)).bind fun a4 => (spec_l3BentTerm.j0 k l1 a2 a3 (a4 != 0) a0 a1))) else (none)
def spec_l3BentTerm.T12 : Bool × List (List Nat × List Nat) := (true, [([], []), ([], []), ([], []), ([2], [2]), ([1, 3], [1, 3]), ([], []), ([], []), ([6], [6]), ([7], [7]), ([8], [8]), ([9], [9]), ([10], [10]), ([5, 11, 4], [5, 11]), ([0, 4, 0, 1, 2, 3, 4, 5, 6, 7, 8, 9, 10, 11, 12], [0, 4]), ([13, 12, 12, 0, 1, 2, 3, 4, 5, 6, 7, 8, 9, 10, 11, 12], [12, 13])])
def spec_l3BentTerm.B12 : List Nat := [0, 0, 0, 4, 14, 0, 0, 64, 192, 448, 960, 1984, 4094, 8191, 16383]
theorem spec_l3BentTerm.tab12 : rtab .any (opsOf Tryz.f25 12) = spec_l3BentTerm.T12 := by kernel_rfl
theorem spec_l3BentTerm.bits12 : waitsOk spec_l3BentTerm.T12.2 spec_l3BentTerm.B12 = true := by kernel_rfl
theorem spec_l3BentTerm.calls (k : Nat) (g : Nat) (a6 : List Int) (e8 : Int) (A1 : Option Addr) (l1 : List (S26)) (a2 : Int) (a3 : Int) (r1 : List Int) (r2 : Int) (w0 w : World) (hI : IsS86 w0 w g a6 e8) (hB : Below w0.heap.size w0 w) (A5 : ∀ W_, KeepBut w W_ g none → Kd.C k26 W_ A1 l1.length l1) (h : spec_l3BentTerm.f k a6 e8 l1 a2 a3 = some (r1, r2)) :
  Calls Tryz.prog 25 #[.pointer (some ⟨g, 0, none⟩), .pointer A1, .int .i64 a2, .int .i64 a3] w fun e w' => ∃ B4 : Value, e = .returned (B4) ∧ Kd.R (Kd.int .i64) 2 w' w.heap.size (fun _ => True) B4 r1 ∧ IsS86 w0 w' g a6 r2 ∧ Below w0.heap.size w0 w' ∧ KeepBut w w' g none := by
 have C8 := Tryz.underlying26
 have d4 := am A5
 clear A5
 have a1 := am hI
 have HK := am (KeepBut.refl w g none)
 have HL := am hB.size
 clear hI
 have E1 := am hB.size
 have HB := am hB
 clear hB
 have H : (if 0 < (l1.length : Int) then (if (((rd_T26 l1 0).f0).length : Int) < 1 then (spec_l3BentTerm.j0 k l1 a2 a3 true a6 e8) else ((spec_SignatureFault.f k ((rd_T26 l1 0).f0)).bind fun l7 => (spec_l3BentTerm.j0 k l1 a2 a3 (l7 != 0) a6 e8))) else (none)) = some (r1, r2) := h
 clear h
 have v3 := am H
 clear H
 go_enter Tryz.func25, Tryz.ntmps25
 go_upto_region 1 with (fail)
 go_cut [24] (fun D2 wc => ∃ (kq : Nat) (i9 : Bool), D2 = .bool i9 ∧ Aside0 (spec_l3BentTerm.j0 kq l1 a2 a3 i9 a6 e8 = some (r1, r2)) ∧ Aside0 (kq ≤ k) ∧ Aside0 (IsS86 w0 wc g a6 e8) ∧ Aside0 (KeepBut w wc g none) ∧ Aside0 (Below w0.heap.size w0 wc))
 case first =>
  have H := v3.out
  clear v3
  obtain ⟨c6, H⟩ := ifs H
  have s2 := decide_eq_true c6
  have C5 : decide (0 < l1.length) = true := decide_eq_true (by omega)
  clear c6
  (first | rw [s2] | (simp only [i64_w, i32_w]; rw [s2]) | skip)
  by_cases c7 : (((rd_T26 l1 0).f0).length : Int) < 1
  ·rw [if_pos c7] at H
   have v8 := decide_eq_true c7
   have v9 : decide (((rd_T26 l1 0).f0).length < 1) = true := decide_eq_true (by omega)
   clear c7
   have H' := am H
   clear H
   have g1 : 0 ≤ (0 : Int) := (by omega)
   have g3 : 0 < (l1.length : Int) := od
   obtain ⟨e5, n4, o0, o4, a9, b5, b3⟩ := at_T26 (Kd.C_foot_now d4.out HK.out) 0 g1 g3
   cases o4
   have t2 : (0 < l1.length) = True := eq_true (by omega)
   (try simp only [t0_] at a9)
   have d5 := am b3
   have k7 := am b5
   clear b3 b5
   obtain ⟨g1, g3⟩ := ee g1 g3
   have g2 : 0 ≤ (0 : Int) := (by omega)
   have g4 : 0 < (l1.length : Int) := od
   obtain ⟨j9, n6, o1, o5, b7, b6, b4⟩ := at_T26 (Kd.C_foot_now d4.out HK.out) 0 g2 g4
   obtain rfl : e5 = j9 := (by injection o5)
   have t3 : (0 < l1.length) = True := eq_true (by omega)
   (try simp only [t0_] at b7)
   have d6 := am b4
   have k8 := am b6
   clear b4 b6
   obtain ⟨g2, g4⟩ := ee g2 g4
   obtain ⟨rfl, rfl⟩ := sj a9 b7
   go_wp2
   go_meet
   case rel => exact ⟨_, (true), et, H', lo, ⟨IsS86.q a1.out⟩, ⟨kq HK.out⟩, ⟨hsk HB.out (IsS86.ge a1.out)⟩⟩
  ·rw [if_neg c7] at H
   have v8 := decide_eq_false c7
   have v9 : decide (((rd_T26 l1 0).f0).length < 1) = false := decide_eq_false (by omega)
   clear c7
   obtain ⟨l7, A8, H⟩ := ob H
   try dsimp only at H
   have H' := am H
   clear H
   have g1 : 0 ≤ (0 : Int) := (by omega)
   have g3 : 0 < (l1.length : Int) := od
   obtain ⟨e5, n4, o0, o4, a9, b5, b3⟩ := at_T26 (Kd.C_foot_now d4.out HK.out) 0 g1 g3
   cases o4
   have t2 : (0 < l1.length) = True := eq_true (by omega)
   (try simp only [t0_] at a9)
   have d5 := am b3
   have k7 := am b5
   clear b3 b5
   obtain ⟨g1, g3⟩ := ee g1 g3
   have g2 : 0 ≤ (0 : Int) := (by omega)
   have g4 : 0 < (l1.length : Int) := od
   obtain ⟨j9, n6, o1, o5, b7, b6, b4⟩ := at_T26 (Kd.C_foot_now d4.out HK.out) 0 g2 g4
   obtain rfl : e5 = j9 := (by injection o5)
   have t3 : (0 < l1.length) = True := eq_true (by omega)
   (try simp only [t0_] at b7)
   have d6 := am b4
   have k8 := am b6
   clear b4 b6
   obtain ⟨g2, g4⟩ := ee g2 g4
   obtain ⟨rfl, rfl⟩ := sj a9 b7
   have o6 : 0 ≤ (0 : Int) := (by omega)
   have p0 : 0 < (l1.length : Int) := od
   obtain ⟨r8, u6, v5, w4, h7, h3, g7⟩ := at_T26 (Kd.C_foot_now d4.out HK.out) 0 o6 p0
   obtain rfl : e5 = r8 := (by injection w4)
   have A6 : (0 < l1.length) = True := eq_true (by omega)
   (try simp only [t0_] at h7)
   have g5 := am g7
   have u2 := am h3
   clear g7 h3
   obtain ⟨o6, p0⟩ := ee o6 p0
   obtain ⟨rfl, rfl⟩ := sj a9 h7
   have o7 : 0 ≤ (0 : Int) := (by omega)
   have p1 : 0 < (l1.length : Int) := od
   obtain ⟨r9, u7, v6, w5, h8, h4, g8⟩ := at_T26 (Kd.C_foot_now d4.out HK.out) 0 o7 p1
   obtain rfl : e5 = r9 := (by injection w5)
   have A7 : (0 < l1.length) = True := eq_true (by omega)
   (try simp only [t0_] at h8)
   have d7 := am g8
   have k9 := am h4
   clear g8 h4
   obtain ⟨o7, p1⟩ := ee o7 p1
   obtain ⟨rfl, rfl⟩ := sj a9 h8
   go_wp2_with (first | (go_at_call 49; refine (spec_SignatureFault.calls k _ _ ((rd_T26 l1 0).f0) l7 _ (cq (cq d7.out)) k9.out A8.out).mono ?_; rintro e w9 ⟨rfl, hb⟩; replace d5 := am (Kd.C_below (cq d5.out) hb); replace d6 := am (Kd.C_below (cq d6.out) hb); replace g5 := am (Kd.C_below (cq g5.out) hb); replace d7 := am (Kd.C_below (cq d7.out) hb); replace HK := ku HK hb; replace HB := am (below_step (hsk HB.out (IsS86.ge a1.out)) hb); replace a1 := IsS86.bl a1 hb; (try clear hb); (try clear hk); (try clear hi)))
   go_meet
   case rel => exact ⟨_, ((l7 != 0)), et, H', lo, ⟨IsS86.q a1.out⟩, ⟨kq HK.out⟩, ⟨hsk HB.out (IsS86.ge a1.out)⟩⟩
 case rest =>
  clear v3
  obtain ⟨kq, i9, rfl, HA, y9, a1, HK, HB⟩ := hcut
  cases kq with
  | zero => exact absurd HA.out (by simp [spec_l3BentTerm.j0])
  | succ u5 =>
   have H := HA.out
   clear HA
   simp only [spec_l3BentTerm.j0] at H
   by_cases c10 : i9 = true
   ·subst c10
    rw [if_pos rfl] at H
    obtain ⟨y5, h9⟩ : ∃ y_ : List Int, y_ = (([0] : List Int)) := ⟨_, rfl⟩
    replace H : (some (y5, e8)) = some (r1, r2) := by first | (rw [h9]; first | with_reducible exact H | with_reducible exact bs H) | with_reducible exact bs H | with_reducible exact H | (rw [h9]; exact H) | exact H
    have m2 := am h9
    clear h9
    simp only [Option.some.injEq, Prod.mk.injEq] at H
    obtain ⟨rfl, rfl⟩ := H
    go_wp2_with (first | (refine rl 25 rfl 2 [0] ?_; intro D3 E2 k3 hb k1 hnew_; clear k1 hnew_; (first | rw [← m2.out] at k3 | (simp only [Int.reduceToNat] at k3; rw [← m2.out] at k3)); have q6 := am (Kd.R_lower k3 (keep_size (w := w) (g := g) (row := none) (kq HK.out))); replace HK := ku HK hb; replace HB := am (below_step (hsk HB.out (IsS86.ge a1.out)) hb); replace a1 := IsS86.bl a1 hb; clear hb k3))
    go_ret
    exact ⟨_, er, rq q6.out, IsS86.q a1.out, hsk HB.out (IsS86.ge a1.out), kq HK.out⟩
   ·replace c10 := Bool.eq_false_iff.mpr c10
    subst c10
    rw [if_neg (show ¬ (false = true) by decide)] at H
    obtain ⟨⟨a8, t4⟩, B5, H⟩ := ob H
    try dsimp only at H
    obtain ⟨⟨t5, t6⟩, B8, H⟩ := ob H
    try dsimp only at H
    have q2 := am H
    clear H
    go_upto_if 33 with (first | (refine gl (some 30) Tryz.func57 rfl #[.pointer (some ⟨g, 0, none⟩), .pointer A1, .int .i64 a2, .int .i64 a3] ?_; refine (spec_l3Draw.calls u5 g a6 e8 _ l1 a2 a3 a8 t4 w0 _ (IsS86.q a1.out) (hsk HB.out (IsS86.ge a1.out)) (Kd.C_foot_step d4.out (kq HK.out)) B5.out).mono ?_; rintro e E3 ⟨y4, rfl, A4, hi, hb, hk⟩; refine ⟨_, rfl, ?_⟩; have a0 := am (Kd.R_lower A4 (keep_size (w := w) (g := g) (row := none) (kq HK.out))); replace HK := kt HK hk; replace HB := am (hb); replace a1 := am (hi); clear hb hk hi A4) | (refine gl (some 32) Tryz.func55 rfl #[.pointer (some ⟨g, 0, none⟩), .int .i64 11] ?_; refine (spec_l1Chance.calls g a6 t4 11 t5 t6 w0 _ (IsS86.q a1.out) (hsk HB.out (IsS86.ge a1.out)) B8.out).mono ?_; rintro e E4 ⟨rfl, hi, hb, hk⟩; refine ⟨_, rfl, ?_⟩; replace a0 := IsS86.rk a1 a0 hk; replace HK := kt HK hk; replace HB := am (hb); replace a1 := am (hi); clear hb hk hi))
    have H := q2.out
    clear q2
    by_cases s1 : t5 = true
    ·subst s1
     rw [if_pos rfl] at H
     obtain ⟨⟨l8, e9⟩, B9, H⟩ := ob H
     try dsimp only at H
     have q3 := am H
     clear H
     go_upto_if 37 with (first | (refine gl (some 36) Tryz.func56 rfl #[.pointer (some ⟨g, 0, none⟩), .int .i64 4] ?_; refine (spec_l1Next.calls g a6 t6 4 l8 e9 w0 _ (IsS86.q a1.out) (hsk HB.out (IsS86.ge a1.out)) B9.out).mono ?_; rintro e D9 ⟨rfl, hi, hb, hk⟩; refine ⟨_, rfl, ?_⟩; replace a0 := IsS86.rk a1 a0 hk; replace HK := kt HK hk; replace HB := am (hb); replace a1 := am (hi); clear hb hk hi))
     have H := q3.out
     clear q3
     by_cases p7 : l8 = 0
     ·rw [if_pos p7] at H
      obtain ⟨d2, m8⟩ := bqt p7; clear p7
      (first | rw [d2] | (simp only [i64_w, i32_w]; rw [d2]) | skip)
      obtain ⟨e3, h2⟩ : ∃ j_ : Int, (wrap64 ((a8.length : Int) - 1)) = j_ := ⟨_, rfl⟩
      replace H : (if 0 ≤ (e3) then (if (e3) ≤ (a8.length : Int) then (some ((a8.take ((e3) : Int).toNat), e9)) else (none)) else (none)) = some (r1, r2) := by first | (rw [h2] at H; exact H) | (simp only [h2] at H ⊢; exact H)
      have hji23w : (IntKind.i64.wrap ((a8.length : Int) - 1)) = e3 := (i64_w _).trans h2
      obtain ⟨z1, z2, H⟩ := ifd H
      obtain ⟨z3, z4, H⟩ := ifd H
      obtain ⟨t9, i0⟩ : ∃ y_ : List Int, y_ = (a8.take ((e3) : Int).toNat) := ⟨_, rfl⟩
      replace H : (some (t9, e9)) = some (r1, r2) := by first | (rw [i0]; first | with_reducible exact H | with_reducible exact bs H) | with_reducible exact bs H | with_reducible exact H | (rw [i0]; exact H) | exact H
      have m3 := am i0
      clear i0
      simp only [Option.some.injEq, Prod.mk.injEq] at H
      obtain ⟨rfl, rfl⟩ := H
      obtain ⟨v0, w2, w8⟩ := Kd.R_slice a0.out
      subst w8
      have y2 : ((e3) : Int) ≤ ((a8.length : Int) : Int) := od
      obtain ⟨C9, n3, _, t0, _⟩ := info_parts info2
      have hcut27 := cut_to (P := Tryz.prog) 27 2 .i64 Tryz.underlying27 n3 v0 a8.length w2 (e3) od y2 (Kd.R_reads' a0.out).2.1
      have l4 := Kd.R_take (m := ((e3) : Int).toNat) a0.out (by omega)
      have t1 : t9.length = ((e3) : Int).toNat := (by rw [m3.out, List.length_take]; omega)
      rw [← m3.out] at l4
      rw [← t1] at l4 hcut27
      clear t1 n3 t0 a0
      have q7 := am l4
      clear l4
      replace y2 := eq_true y2
      go_wp2
      go_ret
      exact ⟨_, by first | rfl | (simp [errW_none, errW_some] <;> rfl) | (simp only [← h2]; first | rfl | (simp [errW_none, errW_some] <;> rfl)) | (simp [*, errW_none, errW_some] <;> rfl), rq q7.out, IsS86.q a1.out, hsk HB.out (IsS86.ge a1.out), kq HK.out⟩
     ·rw [if_neg p7] at H
      obtain ⟨d2, m8⟩ := bqf p7
      (first | rw [d2] | (simp only [i64_w, i32_w]; rw [d2]) | skip)
      by_cases p8 : l8 = 1
      ·rw [if_pos p8] at H
       obtain ⟨m9, n0⟩ := bqt p8; clear p8
       obtain ⟨z5, H⟩ := ifs H
       have r3 := am z5
       clear z5
       obtain ⟨y6, i1⟩ : ∃ y_ : List Int, y_ = (a8 ++ [0]) := ⟨_, rfl⟩
       replace H : (some (y6, e9)) = some (r1, r2) := by first | (rw [i1]; first | with_reducible exact H | with_reducible exact bs H) | with_reducible exact bs H | with_reducible exact H | (rw [i1]; exact H) | exact H
       have r5 := am i1
       clear i1
       simp only [Option.some.injEq, Prod.mk.injEq] at H
       obtain ⟨rfl, rfl⟩ := H
       go_wp2_with (first | ((with_reducible refine gate_builtin (b := .append) (xs := #[.tmp 46, .tmp 47]) rfl ?_); at_builtin; refine Kd.R_append (Kd.int .i64) w.heap.size rfl (.tmp 46) (.tmp 47) 27 2 (.int .i64 0) 8 rfl Tryz.underlying27 info2 rfl (by decide) (by omega) y4 a8 0 [.int .i64 0] (fun _ => True) (fun _ => False) rfl rfl ?aP (fun _ hk => hk.elim) ?aF ?aO (Below.refl _ _) ?aS ?aL ?_; (case aP => exact rfl); (case aF => exact (fun _ _ => trivial)); (case aO => exact (rq a0.out)); (case aS => exact (keep_size (w := w) (g := g) (row := none) (kq HK.out))); (case aL => have := r3.out; omega); intro D4 E5 ho hb hg hat; rw [← r5.out] at ho; replace HB := am (below_weaken (hsk HB.out (IsS86.ge a1.out)) HL.out hb); replace a1 := am (IsS86.grown (IsS86.q a1.out) hg (IsS86.own_ne a1.out a0.out (by decide))); replace HK := am (KeepBut.trans (kq HK.out) (KeepBut.of_grown hg g) (Kd.R_base2 a0.out)); have q8 := am (ho); clear a0; clear ho hb hg hat))
       go_ret
       exact ⟨_, er, rq q8.out, IsS86.q a1.out, hsk HB.out (IsS86.ge a1.out), kq HK.out⟩
      ·rw [if_neg p8] at H
       obtain ⟨m9, n0⟩ := bqf p8
       by_cases p9 : l8 = 2
       ·rw [if_pos p9] at H
        obtain ⟨n1, n2⟩ := bqt p9; clear p9
        obtain ⟨⟨d1, k4⟩, y8, H⟩ := ob H
        try dsimp only at H
        obtain ⟨z6, H⟩ := ifs H
        have z7 := decide_eq_true z6
        have z8 : decide (0 < l1.length) = true := decide_eq_true (by omega)
        clear z6
        obtain ⟨m1, i2⟩ : ∃ y_ : List Int, y_ = (([(((rd_T26 l1 0).f0).length : Int), (-13), (-12)] : List Int)) := ⟨_, rfl⟩
        replace H : ((spec_l1Pick.f a6 k4 m1).bind fun m7 => (if 0 ≤ d1 then (if d1 < (a8.length : Int) then (some ((a8.set (d1 : Int).toNat m7.1), m7.2)) else (none)) else (none))) = some (r1, r2) := by first | (rw [i2]; first | with_reducible exact H | with_reducible exact bs H) | with_reducible exact bs H | with_reducible exact H | (rw [i2]; exact H) | exact H
        have g6 := am i2
        clear i2
        obtain ⟨⟨p4, t7⟩, C0, H⟩ := ob H
        try dsimp only at H
        obtain ⟨z9, H⟩ := ife H
        obtain ⟨A0, H⟩ := ife H
        obtain ⟨y7, i3⟩ : ∃ y_ : List Int, y_ = (a8.set (d1 : Int).toNat p4) := ⟨_, rfl⟩
        replace H : (some (y7, t7)) = some (r1, r2) := by first | (rw [i3]; first | with_reducible exact H | with_reducible exact bs H) | with_reducible exact bs H | with_reducible exact H | (rw [i3]; exact H) | exact H
        have r6 := am i3
        clear i3
        simp only [Option.some.injEq, Prod.mk.injEq] at H
        obtain ⟨rfl, rfl⟩ := H
        try go_wp2
        replace a0 := am (Kd.R_drew a0.out)
        replace a1 := am (IsS86.drew a1.out)
        replace HK := am (keep_drew HK.out)
        replace HB := am (below_drew1 HB.out)
        obtain ⟨q1, s3, s5⟩ := Kd.R_slice a0.out
        (first | subst s5 | (injection s5 with f1_ f2_ f3_; have x0 := f1_.symm; have x1 := f3_.symm; clear f1_ f2_ f3_; subst x0; subst x1))
        have o8 : 0 ≤ (0 : Int) := (by omega)
        have p2 : 0 < (l1.length : Int) := od
        obtain ⟨d0, d3, e2, w6, b8, h5, g9⟩ := at_T26 (Kd.C_foot_now d4.out HK.out) 0 o8 p2
        have l5 := b8
        (try simp only [t0_] at l5)
        cases w6
        have a4 := (show (d0 : Addr).block ≠ g from by first | (rw [add_block]; exact Kd.foot_ne d4.out (by omega) (by decide)) | (show (Addr.add _ _).block ≠ _; rw [add_block]; exact Kd.foot_ne d4.out (by omega) (by decide)) | exact Kd.foot_ne d4.out (by omega) (by decide) | (dsimp only; exact Kd.foot_ne d4.out (by omega) (by decide)))
        have s8 := (Kd.foot_lt d4.out (by omega) (by decide))
        have A9 : (0 < l1.length) = True := eq_true (by omega)
        (try simp only [t0_] at b8)
        have d8 := am g9
        have u3 := am h5
        clear g9 h5
        obtain ⟨o8, p2⟩ := ee o8 p2
        have o9 : 0 ≤ (0 : Int) := (by omega)
        have p3 : 0 < (l1.length : Int) := od
        obtain ⟨s0, u9, v7, w7, b9, h6, h0⟩ := at_T26 (Kd.C_foot_now d4.out HK.out) 0 o9 p3
        have l6 := b9
        (try simp only [t0_] at l6)
        obtain rfl : d0 = s0 := (by injection w7)
        have a5 := (show (d0 : Addr).block ≠ g from by first | (rw [add_block]; exact Kd.foot_ne d4.out (by omega) (by decide)) | (show (Addr.add _ _).block ≠ _; rw [add_block]; exact Kd.foot_ne d4.out (by omega) (by decide)) | exact Kd.foot_ne d4.out (by omega) (by decide) | (dsimp only; exact Kd.foot_ne d4.out (by omega) (by decide)))
        have s9 := (Kd.foot_lt d4.out (by omega) (by decide))
        have B0 : (0 < l1.length) = True := eq_true (by omega)
        (try simp only [t0_] at b9)
        have d9 := am h0
        have u4 := am h6
        clear h0 h6
        obtain ⟨o9, p3⟩ := ee o9 p3
        obtain ⟨rfl, rfl⟩ := sj b8 b9
        refine st_ (n := 15) (S := fun w' => w'.cell? d0 = some (.slice d3 ((rd_T26 l1 0).f0).length e2) ∧ w'.cell? d0 = some (.slice d3 ((rd_T26 l1 0).f0).length e2)) (ds := [14]) ⟨b8, b9⟩ (fun hHeld => ?_); refine with_tabW spec_l3BentTerm.tab12 spec_l3BentTerm.bits12 (fun e4 C4 => ?_)
        generalize D9.drew = E6 at a0 a1 HK HB d8 d9 b8 b9 hHeld ⊢
        refine pu 0 51 rfl rfl e4 ?_
        refine pu 1 52 rfl rfl e4 ?_
        refine pu 2 53 rfl rfl e4 ?_
        refine pu 3 54 rfl rfl e4 ?_
        refine pu 5 56 rfl rfl e4 ?_
        refine pu 6 57 rfl rfl e4 ?_
        refine pu 7 58 rfl rfl e4 ?_
        refine pu 8 59 rfl rfl e4 ?_
        refine tk 9 60 rfl rfl e4 C4 hHeld ?_
        refine pu 10 61 rfl rfl e4 ?_
        refine join_ (σ := Value) 3 #[true, true, true, true, true, true, true, true, true, true, true, true, false, false, false] (fun s_ => [(55, .int .i64 d1), (62, s_)]) (fun s_ w' => (w'.cell? d0 = some (.slice d3 ((rd_T26 l1 0).f0).length e2) ∧ w'.cell? d0 = some (.slice d3 ((rd_T26 l1 0).f0).length e2)) ∧ (Kd.R (Kd.int .i64) 2 w' w.heap.size (fun k_ => some k_ ≠ (s_ : Value).ownBlock) (.slice q1 a8.length s3) a8) ∧ (Kd.R (Kd.int .i64) 2 w' w.heap.size (fun k_ => some k_ ≠ (.slice q1 a8.length s3 : Value).ownBlock) s_ m1) ∧ (IsS86 w0 w' g a6 k4) ∧ (KeepBut w w' g none) ∧ (Below w0.heap.size w0 w')) ?_ ?_
        rotate_left
        ·intro hCont
         refine two_ (i := 4) (j := 11) (Ni := some 55) (Nj := some 62) #[true, true, true, true, true, true, true, true, true, true, true, false, false, false, false] #[true, true, true, true, false, true, true, true, true, true, true, true, false, false, false] rfl rfl rfl rfl (two_of e4.out (by kernel_rfl)) (by decide) (by decide) (fun K hK => ?_) (fun K hK => ?_)
         ·skip
          refine gs Tryz.func56 #[.pointer (some ⟨g, 0, none⟩), .int .i64 (a8.length : Int)] ?_
          refine (spec_l1Next.calls g a6 e9 (a8.length : Int) d1 k4 w0 _ (IsS86.q a1.out) (hsk HB.out (IsS86.ge a1.out)) y8.out).mono ?_
          rintro e E0 ⟨rfl, hi, hb, hk⟩
          have e0 := keep_cell hk (hHeld.1) (by first | (rw [add_block]; exact a4) | (show (Addr.add _ _).block ≠ _; rw [add_block]; exact a4) | exact a4)
          have e1 := keep_cell hk (hHeld.2) (by first | (rw [add_block]; exact a5) | (show (Addr.add _ _).block ≠ _; rw [add_block]; exact a5) | exact a5)
          refine ⟨_, rfl, ?_⟩
          replace a0 := IsS86.rk a1 a0 hk
          replace HK := kt HK hk
          replace HB := am (hb)
          replace a1 := am (hi)
          (try clear hb)
          (try clear hk)
          (try clear hi)
          refine hK.out _ _ ⟨e0, e1⟩ (fun hHeld => ?_)
          clear hK K
          refine nr (some 55) ?_
          refine on_ 11 (some 62) rfl rfl e4 (fun K hK => ?_)
          refine Kd.R_lit_step (Kd.int .i64) _ 2 ?hg (N := 62) ?hd (xs := ([(((rd_T26 l1 0).f0).length : Int), (-13), (-12)] : List Int)) (inner := [.int .i64 (((rd_T26 l1 0).f0).length : Int), .int .i64 (-13), .int .i64 (-12)]) (ok := fun _ => True) (okp := fun _ => True) ?hr ?hp (fun _ hk => hk) trivial (Below.refl _ _) (Nat.le_refl _) (by simp) ?_; (case hd => rfl); (case hg => rfl); (case hr => first | (go_simp; done) | (go_simp; rfl)); (case hp => exact (Reps.one (show Kd.M (Kd.int .i64) _ _ _ (((rd_T26 l1 0).f0).length : Int) [.int .i64 (((rd_T26 l1 0).f0).length : Int)] from rfl) (Reps.one (show Kd.M (Kd.int .i64) _ _ _ (-13) [.int .i64 (-13)] from rfl) (Reps.one (show Kd.M (Kd.int .i64) _ _ _ (-12) [.int .i64 (-12)] from rfl) (Reps.none _ _)))))
          intro m0 E7 j6 hb k1 hnew_
          have e0 := (hb.cell (World.block_lt_of_cell? _ _ (hHeld.1))).trans (hHeld.1)
          have e1 := (hb.cell (World.block_lt_of_cell? _ _ (hHeld.2))).trans (hHeld.2)
          clear k1 hnew_
          (first | rw [← g6.out] at j6 | (simp only [Int.reduceToNat] at j6; rw [← g6.out] at j6))
          have b0 := am (Kd.R_lower (Kd.R_new' j6 (Kd.R_lt (rq a0.out))) (keep_size (w := w) (g := g) (row := none) (kq HK.out)))
          replace a0 := am (Kd.R_elder' (rq a0.out) (Kd.R_base j6) hb)
          replace HK := ku HK hb
          replace HB := am (below_step (hsk HB.out (IsS86.ge a1.out)) hb)
          replace a1 := IsS86.bl a1 hb
          clear hb j6
          refine hK.out _ _ ⟨e0, e1⟩ (fun hHeld => ?_)
          clear hK K
          refine nr (some 62) ?_
          exact nj (hCont (m0) _ ⟨hHeld, (rq (Kd.R_mono a0.out (fun _ hk => hk.2))), (rq (Kd.R_mono b0.out (fun _ hk => hk.2))), (IsS86.q a1.out), (kq HK.out), (hsk HB.out (IsS86.ge a1.out))⟩)
         ·skip
          refine Kd.R_lit_step (Kd.int .i64) _ 2 ?hg (N := 62) ?hd (xs := ([(((rd_T26 l1 0).f0).length : Int), (-13), (-12)] : List Int)) (inner := [.int .i64 (((rd_T26 l1 0).f0).length : Int), .int .i64 (-13), .int .i64 (-12)]) (ok := fun _ => True) (okp := fun _ => True) ?hr ?hp (fun _ hk => hk) trivial (Below.refl _ _) (Nat.le_refl _) (by simp) ?_; (case hd => rfl); (case hg => rfl); (case hr => first | (go_simp; done) | (go_simp; rfl)); (case hp => exact (Reps.one (show Kd.M (Kd.int .i64) _ _ _ (((rd_T26 l1 0).f0).length : Int) [.int .i64 (((rd_T26 l1 0).f0).length : Int)] from rfl) (Reps.one (show Kd.M (Kd.int .i64) _ _ _ (-13) [.int .i64 (-13)] from rfl) (Reps.one (show Kd.M (Kd.int .i64) _ _ _ (-12) [.int .i64 (-12)] from rfl) (Reps.none _ _)))))
          intro m0 E0 j5 hb k1 hnew_
          have e0 := (hb.cell (World.block_lt_of_cell? _ _ (hHeld.1))).trans (hHeld.1)
          have e1 := (hb.cell (World.block_lt_of_cell? _ _ (hHeld.2))).trans (hHeld.2)
          clear k1 hnew_
          (first | rw [← g6.out] at j5 | (simp only [Int.reduceToNat] at j5; rw [← g6.out] at j5))
          have b0 := am (Kd.R_lower (Kd.R_new' j5 (Kd.R_lt (rq a0.out))) (keep_size (w := w) (g := g) (row := none) (kq HK.out)))
          replace a0 := am (Kd.R_elder' (rq a0.out) (Kd.R_base j5) hb)
          replace d8 := am (Kd.C_below (cq d8.out) hb)
          replace d9 := am (Kd.C_below (cq d9.out) hb)
          replace HK := ku HK hb
          replace HB := am (below_step (hsk HB.out (IsS86.ge a1.out)) hb)
          replace a1 := IsS86.bl a1 hb
          clear hb j5
          refine hK.out _ _ ⟨e0, e1⟩ (fun hHeld => ?_)
          clear hK K
          refine nr (some 62) ?_
          refine on_ 4 (some 55) rfl rfl e4 (fun K hK => ?_)
          refine gs Tryz.func56 #[.pointer (some ⟨g, 0, none⟩), .int .i64 (a8.length : Int)] ?_
          refine (spec_l1Next.calls g a6 e9 (a8.length : Int) d1 k4 w0 _ (IsS86.q a1.out) (hsk HB.out (IsS86.ge a1.out)) y8.out).mono ?_
          rintro e E8 ⟨rfl, hi, hb, hk⟩
          have e0 := keep_cell hk (hHeld.1) (by first | (rw [add_block]; exact a4) | (show (Addr.add _ _).block ≠ _; rw [add_block]; exact a4) | exact a4)
          have e1 := keep_cell hk (hHeld.2) (by first | (rw [add_block]; exact a5) | (show (Addr.add _ _).block ≠ _; rw [add_block]; exact a5) | exact a5)
          refine ⟨_, rfl, ?_⟩
          replace a0 := IsS86.rk a1 a0 hk
          replace b0 := IsS86.rk a1 b0 hk
          replace HK := kt HK hk
          replace HB := am (hb)
          replace a1 := am (hi)
          (try clear hb)
          (try clear hk)
          (try clear hi)
          refine hK.out _ _ ⟨e0, e1⟩ (fun hHeld => ?_)
          clear hK K
          refine nr (some 55) ?_
          exact nj (hCont (m0) _ ⟨hHeld, (rq (Kd.R_mono a0.out (fun _ hk => hk.2))), (rq (Kd.R_mono b0.out (fun _ hk => hk.2))), (IsS86.q a1.out), (kq HK.out), (hsk HB.out (IsS86.ge a1.out))⟩)
        clear a0 a1 HK HB
        rintro m0 E9 ⟨A3, x4, x5, x6, x7, x8⟩
        try dsimp only at A3 x4 x5 x6 x7 x8
        have a0 := am x4; have b0 := am x5; have a1 := am x6; have HK := am x7; have HB := am x8; clear x4 x5 x6 x7 x8; have hHeld := A3
        obtain ⟨v1, w3, s6⟩ := Kd.R_slice b0.out
        (first | subst s6 | (injection s6 with f1_ f2_ f3_; have x0 := f1_.symm; have x1 := f3_.symm; clear f1_ f2_ f3_; subst x0; subst x1))
        refine nj ?_
        refine on_ 12 (some 63) rfl rfl e4 (fun K hK => ?_)
        refine gs Tryz.func26 #[.pointer (some ⟨g, 0, none⟩), .slice v1 m1.length w3] ?_
        refine (spec_l1Pick.calls g a6 k4 _ _ m1 p4 t7 w0 _ (IsS86.q a1.out) (hsk HB.out (IsS86.ge a1.out)) (cq (Kd.R_reads' b0.out).2.2) ((Kd.R_reads' b0.out).2.1) (far_slice (IsS86.own_ne a1.out b0.out (by decide))) C0.out).mono ?_
        rintro e F0 ⟨rfl, hi, hb, hk⟩
        have e0 := keep_cell hk (hHeld.1) (by first | (rw [add_block]; exact a4) | (show (Addr.add _ _).block ≠ _; rw [add_block]; exact a4) | exact a4)
        have e1 := keep_cell hk (hHeld.2) (by first | (rw [add_block]; exact a5) | (show (Addr.add _ _).block ≠ _; rw [add_block]; exact a5) | exact a5)
        refine ⟨_, rfl, ?_⟩
        replace a0 := IsS86.rk a1 a0 hk
        replace b0 := IsS86.rk a1 b0 hk
        replace HK := kt HK hk
        replace HB := am (hb)
        replace a1 := am (hi)
        (try clear hb)
        (try clear hk)
        (try clear hi)
        have y1 : 0 ≤ (d1 : Int) := od
        have y3 : (d1 : Int) < ((a8.length : Int) : Int) := od
        obtain ⟨x3, C7, s4, s7, x2, C6, q5⟩ := Kd.R_form a0.out (by omega)
        (first | cases s4 | (injection s4 with ea_ en_ ec_; (first | subst ea_ | (injection ea_ with ea_; subst ea_)); subst ec_; clear en_))
        have v2 := am s7
        have C3 := am q5
        clear s7 x2 q5
        obtain ⟨y0, x9⟩ := Kd.R_celln 0 a0.out (d1 : Int) y1 y3
        obtain ⟨y1, y3⟩ := ee y1 y3
        have HN0_go37 := am (show g ≠ x3 from by have h_ := IsS86.own_ne a1.out a0.out (by decide); intro e_; exact h_ (by rw [e_]; rfl))
        have n9 := Kd.R_putn a0.out (d1 : Int) p4
        rw [← r6.out] at n9
        have v4 := am n9
        clear n9
        refine hK.out _ _ ⟨e0, e1⟩ (fun hHeld => ?_)
        clear hK K
        refine nr (some 63) ?_
        refine pu 13 64 rfl rfl e4 ?_
        refine last_ (i := 14) (N := none) #[true, true, true, true, true, true, true, true, true, true, true, true, true, true, true] rfl rfl (one_of e4.out (by kernel_rfl)) (by decide) (fun K hK => ?_)
        refine skip_ (w1 := ?_) (by rfl) rfl ?_ ?_
        rotate_left
        ·go_simp
         rfl
        refine hK.out _ _ ?_
        clear hK K
        refine done_ (done_of e4.out (by kernel_rfl)) ?_
        try go_wp2
        go_ret
        exact ⟨_, er, rq (Kd.R_mono v4.out (fun _ hk => trivial)), IsS86.q a1.out, by repeat (first | (with_reducible first | exact HB.out | apply below_alloc | apply pw_below_drewN | apply below_drew1 | refine below_set ?_ (Nat.le_trans HL.out v2.out) | refine below_set ?_ (IsS86.ge a1.out)) | exact HB.out), ks HK.out⟩
       ·rw [if_neg p9] at H
        obtain ⟨n1, n2⟩ := bqf p9
        obtain ⟨u0, i4⟩ : ∃ y_ : List Int, y_ = (([] : List Int)) := ⟨_, rfl⟩
        replace H : (spec_l3BentTerm.l0 u5 u0 0 a6 e9) = some (r1, r2) := by first | (rw [i4]; first | with_reducible exact H | with_reducible exact bs H) | with_reducible exact bs H | with_reducible exact H | (rw [i4]; exact H) | exact H
        have m4 := am i4
        clear i4
        have H' := am H
        clear H
        go_wp2_with (first | (refine rl 66 rfl 2 [] ?_; intro D5 F1 j7 hb k1 hnew_; clear k1 hnew_; (first | rw [← m4.out] at j7 | (simp only [Int.reduceToNat] at j7; rw [← m4.out] at j7)); have q9 := am (Kd.R_lower (Kd.R_new' j7 (Kd.R_lt (rq a0.out))) (keep_size (w := w) (g := g) (row := none) (kq HK.out))); replace a0 := am (Kd.R_elder' (rq a0.out) (Kd.R_base j7) hb); replace HK := ku HK hb; replace HB := am (below_step (hsk HB.out (IsS86.ge a1.out)) hb); replace a1 := IsS86.bl a1 hb; clear hb j7))
        go_loopg [10, 11] u5 (fun kq D0 D1 w' => ∃ (b1 : List Int) (c1 : Int) (c0 : Int), D1 = .int .i64 c1 ∧ Aside0 (spec_l3BentTerm.l0 kq b1 c1 a6 c0 = some (r1, r2)) ∧ Aside0 (kq ≤ u5) ∧ Aside0 (Kd.R (Kd.int .i64) 2 w' w.heap.size (fun _ => True) D0 b1) ∧ Aside0 (IsS86 w0 w' g a6 c0) ∧ Aside0 (KeepBut w w' g none) ∧ Aside0 (Below w0.heap.size w0 w'))
        case atStart => exact ⟨(u0), (0), (e9), et, H', ⟨Nat.le_refl _⟩, ⟨rq (Kd.R_mono q9.out (fun _ hk => trivial))⟩, ⟨IsS86.q a1.out⟩, ⟨kq HK.out⟩, ⟨hsk HB.out (IsS86.ge a1.out)⟩⟩
        case round =>
         clear H'
         try clear c10; try clear s1; try clear p7; try clear d2; try clear m8; try clear p8; try clear m9; try clear n0; try clear p9; try clear n1; try clear n2
         obtain ⟨b1, c1, c0, rfl, HA, z0, HO_10, a1, HK, HB⟩ := hrel
         cases gk with
         | zero => exact absurd HA.out (by simp [spec_l3BentTerm.l0])
         | succ k2 =>
          have H := HA.out
          clear HA
          simp only [spec_l3BentTerm.l0] at H
          obtain ⟨k5, i5⟩ : ∃ y_ : List Int, y_ = (([24, 25] : List Int)) := ⟨_, rfl⟩
          replace H : ((spec_l1Pick.f a6 c0 k5).bind fun k0 => (if c1 < k0.1 then ((spec_l1Pick.f a6 k0.2 (([1, 2, 0] : List Int))).bind fun e6 => (if b1.length < 17592186044416 then (spec_l3BentTerm.l0 k2 (b1 ++ [e6.1]) (wrap64 (c1 + 1)) a6 e6.2) else (none))) else (some (b1, k0.2)))) = some (r1, r2) := by first | (rw [i5]; first | with_reducible exact H | with_reducible exact bs H) | with_reducible exact bs H | with_reducible exact H | (rw [i5]; exact H) | exact H
          have m5 := am i5
          clear i5
          obtain ⟨⟨t8, p5⟩, C1, H⟩ := ob H
          try dsimp only at H
          have q4 := am H
          clear H
          go_upto_if 71 with (first | (refine rl 69 rfl 2 [24, 25] ?_; intro D6 F2 j8 hb k1 hnew_; clear k1 hnew_; (first | rw [← m5.out] at j8 | (simp only [Int.reduceToNat] at j8; rw [← m5.out] at j8)); have a7 := am (Kd.R_lower (Kd.R_new' j8 (Kd.R_lt (rq HO_10.out))) (keep_size (w := w) (g := g) (row := none) (kq HK.out))); replace HO_10 := am (Kd.R_elder' (rq HO_10.out) (Kd.R_base j8) hb); replace HK := ku HK hb; replace HB := am (below_step (hsk HB.out (IsS86.ge a1.out)) hb); replace a1 := IsS86.bl a1 hb; clear hb j8; obtain ⟨n7, o2, rfl⟩ := Kd.R_slice a7.out) | (refine gl (some 70) Tryz.func26 rfl #[.pointer (some ⟨g, 0, none⟩), .slice n7 k5.length o2] ?_; refine (spec_l1Pick.calls g a6 c0 _ _ k5 t8 p5 w0 _ (IsS86.q a1.out) (hsk HB.out (IsS86.ge a1.out)) (cq (Kd.R_reads' a7.out).2.2) ((Kd.R_reads' a7.out).2.1) (far_slice (IsS86.own_ne a1.out a7.out (by decide))) C1.out).mono ?_; rintro e F3 ⟨rfl, hi, hb, hk⟩; refine ⟨_, rfl, ?_⟩; replace HO_10 := IsS86.rk a1 HO_10 hk; replace a7 := IsS86.rk a1 a7 hk; replace HK := kt HK hk; replace HB := am (hb); replace a1 := am (hi); clear hb hk hi))
          have H := q4.out
          clear q4
          by_cases q0 : c1 < t8
          ·rw [if_pos q0] at H
           have e7 := decide_eq_true q0
           clear q0
           (first | rw [e7] | (simp only [i64_w, i32_w]; rw [e7]) | skip)
           obtain ⟨k6, i6⟩ : ∃ y_ : List Int, y_ = (([1, 2, 0] : List Int)) := ⟨_, rfl⟩
           replace H : ((spec_l1Pick.f a6 p5 k6).bind fun e6 => (if b1.length < 17592186044416 then (spec_l3BentTerm.l0 k2 (b1 ++ [e6.1]) (wrap64 (c1 + 1)) a6 e6.2) else (none))) = some (r1, r2) := by first | (rw [i6]; first | with_reducible exact H | with_reducible exact bs H) | with_reducible exact bs H | with_reducible exact H | (rw [i6]; exact H) | exact H
           have m6 := am i6
           clear i6
           obtain ⟨⟨l9, p6⟩, C2, H⟩ := ob H
           try dsimp only at H
           obtain ⟨A2, H⟩ := ifs H
           have r4 := am A2
           clear A2
           obtain ⟨u1, i7⟩ : ∃ y_ : List Int, y_ = (b1 ++ [l9]) := ⟨_, rfl⟩
           replace H : (spec_l3BentTerm.l0 k2 u1 (wrap64 (c1 + 1)) a6 p6) = some (r1, r2) := by first | (rw [i7]; first | with_reducible exact H | with_reducible exact bs H) | with_reducible exact bs H | with_reducible exact H | (rw [i7]; exact H) | exact H
           have r7 := am i7
           clear i7
           have H' := am H
           clear H
           go_wp2_with (first | (refine rl 76 rfl 2 [1, 2, 0] ?_; intro D7 F4 g0 hb k1 hnew_; clear k1 hnew_; (first | rw [← m6.out] at g0 | (simp only [Int.reduceToNat] at g0; rw [← m6.out] at g0)); have b2 := am (Kd.R_lower (Kd.R_new' (Kd.R_new' g0 (Kd.R_lt (rq HO_10.out))) (Kd.R_lt (rq a7.out))) (keep_size (w := w) (g := g) (row := none) (kq HK.out))); replace HO_10 := am (Kd.R_elder' (rq HO_10.out) (Kd.R_base g0) hb); replace a7 := am (Kd.R_elder' (rq a7.out) (Kd.R_base g0) hb); replace HK := ku HK hb; replace HB := am (below_step (hsk HB.out (IsS86.ge a1.out)) hb); replace a1 := IsS86.bl a1 hb; clear hb g0; obtain ⟨n8, o3, rfl⟩ := Kd.R_slice b2.out) | (refine gl (some 77) Tryz.func26 rfl #[.pointer (some ⟨g, 0, none⟩), .slice n8 k6.length o3] ?_; refine (spec_l1Pick.calls g a6 p5 _ _ k6 l9 p6 w0 _ (IsS86.q a1.out) (hsk HB.out (IsS86.ge a1.out)) (cq (Kd.R_reads' b2.out).2.2) ((Kd.R_reads' b2.out).2.1) (far_slice (IsS86.own_ne a1.out b2.out (by decide))) C2.out).mono ?_; rintro e F5 ⟨rfl, hi, hb, hk⟩; refine ⟨_, rfl, ?_⟩; replace HO_10 := IsS86.rk a1 HO_10 hk; replace a7 := IsS86.rk a1 a7 hk; replace b2 := IsS86.rk a1 b2 hk; replace HK := kt HK hk; replace HB := am (hb); replace a1 := am (hi); clear hb hk hi) | ((with_reducible refine gate_builtin (b := .append) (xs := #[.tmp 74, .tmp 78]) rfl ?_); at_builtin; refine Kd.R_append (Kd.int .i64) w.heap.size rfl (.tmp 74) (.tmp 78) 27 2 (.int .i64 0) 8 rfl Tryz.underlying27 info2 rfl (by decide) (by omega) u10 b1 l9 [.int .i64 l9] (fun k_ => some k_ ≠ (.slice n7 k5.length o2 : Value).ownBlock ∧ some k_ ≠ (.slice n8 k6.length o3 : Value).ownBlock) (fun _ => False) rfl rfl ?aP (fun _ hk => hk.elim) ?aF ?aO (Below.refl _ _) ?aS ?aL ?_; (case aP => exact rfl); (case aF => exact (fun k_ hk => ⟨Kd.fresh' (Kd.R_lt (rq a7.out)) k_ hk, Kd.fresh' (Kd.R_lt (rq b2.out)) k_ hk⟩)); (case aO => exact (by (with_reducible repeat (first | apply Kd.R_alloc | apply Kd.R_drewN | apply Kd.R_drew)); exact Kd.R_mono HO_10.out (fun _ hk => by first | exact ⟨hk.1.2, hk.2⟩ | exact ⟨hk.2, hk.1.2⟩ | trivial))); (case aS => exact (keep_size (w := w) (g := g) (row := none) (kq HK.out))); (case aL => have := r4.out; omega); intro D8 F6 ho hb hg hat; rw [← r7.out] at ho; replace a7 := am (Kd.R_after (ok := (fun k_ => some k_ ≠ (.slice n8 k6.length o3 : Value).ownBlock)) (by (with_reducible repeat (first | apply Kd.R_alloc | apply Kd.R_drewN | apply Kd.R_drew)); exact Kd.R_mono a7.out (fun _ hk => by first | exact ⟨hk.2, hk.1.2⟩ | exact ⟨hk.1.2, hk.2⟩ | trivial)) hg hat); replace b2 := am (Kd.R_after (ok := (fun k_ => some k_ ≠ (.slice n7 k5.length o2 : Value).ownBlock)) (by (with_reducible repeat (first | apply Kd.R_alloc | apply Kd.R_drewN | apply Kd.R_drew)); exact Kd.R_mono b2.out (fun _ hk => by first | exact ⟨hk.2, hk.1.2⟩ | exact ⟨hk.1.2, hk.2⟩ | trivial)) hg hat); replace HB := am (below_weaken (hsk HB.out (IsS86.ge a1.out)) HL.out hb); replace a1 := am (IsS86.grown (IsS86.q a1.out) hg (IsS86.own_ne a1.out HO_10.out (by decide))); replace HK := am (KeepBut.trans (kq HK.out) (KeepBut.of_grown hg g) (Kd.R_base2 HO_10.out)); have r0 := am (ho); clear HO_10; clear ho hb hg hat))
           go_roundg k2
           case measure => have := y9.out; have := z0.out; omega
           case rel => exact ⟨(u1), (wrap64 (c1 + 1)), (p6), et, H', ⟨by have := y9.out; have := z0.out; omega⟩, ⟨rq (Kd.R_mono r0.out (fun _ hk => trivial))⟩, ⟨IsS86.q a1.out⟩, ⟨kq HK.out⟩, ⟨hsk HB.out (IsS86.ge a1.out)⟩⟩
          ·rw [if_neg q0] at H
           have e7 := decide_eq_false q0
           clear q0
           (first | rw [e7] | (simp only [i64_w, i32_w]; rw [e7]) | skip)
           simp only [Option.some.injEq, Prod.mk.injEq] at H
           obtain ⟨rfl, rfl⟩ := H
           go_wp2
           go_ret
           exact ⟨_, er, rq (Kd.R_mono HO_10.out (fun _ hk => trivial)), IsS86.q a1.out, hsk HB.out (IsS86.ge a1.out), kq HK.out⟩
    ·replace s1 := Bool.eq_false_iff.mpr s1
     subst s1
     rw [if_neg (show ¬ (false = true) by decide)] at H
     simp only [Option.some.injEq, Prod.mk.injEq] at H
     obtain ⟨rfl, rfl⟩ := H
     go_wp2
     go_ret
     exact ⟨_, er, rq a0.out, IsS86.q a1.out, hsk HB.out (IsS86.ge a1.out), kq HK.out⟩
attribute [local go_sem] max2_int min2_int max_two min_two max_three min_three max_four min_four   -- for this text's walks alone
set_option linter.unusedVariables false
set_option linter.unusedSimpArgs false
def spec_l3One.f (k : Nat) (l0 : List Int) : Option ((List (S90)) × List Int × List Int × Int) := (spec_l1Source.f l0).bind fun a0 => ((spec_l2Bent.f k a0.1 a0.2).bind fun a1 => ((spec_l1Pick.f a0.1 a1.2 (([3, 6, 10, 16, 24] : List Int))).bind fun a2 => ((spec_l1Pick.f a0.1 a2.2 (([0, 3, 6, 12] : List Int))).bind fun a3 => ((spec_l3BentTerm.f k a0.1 a3.2 [(⟨a1.1⟩ : S26)] a2.1 a3.1).bind fun a4 => (some (a1.1, a4.1, a0.1, a4.2))))))
def spec_l3One.T3 : Bool × List (List Nat × List Nat) := (true, [([], []), ([], []), ([], []), ([], []), ([2, 3], [2, 3]), ([], []), ([], []), ([5, 6, 4], [5, 6]), ([1, 4, 7, 7], [1, 4, 7]), ([], []), ([0, 8, 0], [0]), ([8, 10, 0, 1, 2, 3, 4, 5, 6, 7, 8, 10], [8]), ([9, 11, 0, 1, 2, 3, 4, 5, 6, 7, 8, 9, 10, 11], [9])])
def spec_l3One.B3 : List Nat := [0, 0, 0, 0, 12, 0, 0, 124, 254, 0, 511, 1535, 4095]
theorem spec_l3One.tab3 : rtab .any (opsOf Tryz.f42 3) = spec_l3One.T3 := by kernel_rfl
theorem spec_l3One.bits3 : waitsOk spec_l3One.T3.2 spec_l3One.B3 = true := by kernel_rfl
theorem spec_l3One.calls (k : Nat) (A0 : Option Addr) (c0 : Nat) (l0 : List Int) (r1 : List (S90)) (r2 : List Int) (r3 : List Int) (r4 : Int) (w0 w : World) (hB : Below w0.heap.size w0 w) (n2 : Kd.C (Kd.int .u8) w0 A0 l0.length l0) (m5 : l0.length ≤ c0) (h : spec_l3One.f k l0 = some (r1, r2, r3, r4)) :
  Calls Tryz.prog 42 #[.slice A0 l0.length c0] w fun e w' => ∃ n3 n4 : Value, ∃ g_ : Nat, e = .returned (.tuple #[.agg #[n3], n4, .pointer (some ⟨g_, 0, none⟩)]) ∧ Kd.R k90 90 w' w.heap.size (fun _ => True) n3 r1 ∧ Kd.R (Kd.int .i64) 2 w' w.heap.size (fun _ => True) n4 r2 ∧ IsS86 w0 w' g_ r3 r4 ∧ Below w0.heap.size w0 w' ∧ Below w.heap.size w w' ∧ w.heap.size ≤ g_ := by
 have o2 := Tryz.underlying26
 have n7 := am n2
 have n6 := am m5
 clear n2 m5
 have g6 := am hB
 clear hB
 have HB := am (Below.refl w.heap.size w)
 have H : ((spec_l1Source.f l0).bind fun d6 => ((spec_l2Bent.f k d6.1 d6.2).bind fun g2 => ((spec_l1Pick.f d6.1 g2.2 (([3, 6, 10, 16, 24] : List Int))).bind fun e1 => ((spec_l1Pick.f d6.1 e1.2 (([0, 3, 6, 12] : List Int))).bind fun d1 => ((spec_l3BentTerm.f k d6.1 d1.2 [(⟨g2.1⟩ : S26)] e1.1 d1.1).bind fun d2 => (some (g2.1, d2.1, d6.1, d2.2))))))) = some (r1, r2, r3, r4) := h
 clear h
 obtain ⟨⟨b0, k1⟩, A2, H⟩ := ob H
 try dsimp only at H
 obtain ⟨⟨a7, d9⟩, A3, H⟩ := ob H
 try dsimp only at H
 obtain ⟨g1, e5⟩ : ∃ y_ : List Int, y_ = (([3, 6, 10, 16, 24] : List Int)) := ⟨_, rfl⟩
 replace H : ((spec_l1Pick.f b0 d9 g1).bind fun e1 => ((spec_l1Pick.f b0 e1.2 (([0, 3, 6, 12] : List Int))).bind fun d1 => ((spec_l3BentTerm.f k b0 d1.2 [(⟨a7⟩ : S26)] e1.1 d1.1).bind fun d2 => (some (a7, d2.1, b0, d2.2))))) = some (r1, r2, r3, r4) := by first | (rw [e5]; first | with_reducible exact H | with_reducible exact bs H) | with_reducible exact bs H | with_reducible exact H | (rw [e5]; exact H) | exact H
 have h4 := am e5
 clear e5
 obtain ⟨⟨e3, g5⟩, A4, H⟩ := ob H
 try dsimp only at H
 obtain ⟨e4, e7⟩ : ∃ y_ : List Int, y_ = (([0, 3, 6, 12] : List Int)) := ⟨_, rfl⟩
 replace H : ((spec_l1Pick.f b0 g5 e4).bind fun d1 => ((spec_l3BentTerm.f k b0 d1.2 [(⟨a7⟩ : S26)] e3 d1.1).bind fun d2 => (some (a7, d2.1, b0, d2.2)))) = some (r1, r2, r3, r4) := by first | (rw [e7]; first | with_reducible exact H | with_reducible exact bs H) | with_reducible exact bs H | with_reducible exact H | (rw [e7]; exact H) | exact H
 have h5 := am e7
 clear e7
 obtain ⟨⟨e9, g0⟩, A5, H⟩ := ob H
 try dsimp only at H
 obtain ⟨⟨k2, k3⟩, A6, H⟩ := ob H
 try dsimp only at H
 simp only [Option.some.injEq, Prod.mk.injEq] at H
 obtain ⟨rfl, rfl, rfl, rfl⟩ := H
 go_enter Tryz.func42, Tryz.ntmps42
 try go_wp2_with (first | (refine bx 2 rfl #[.slice none 0 0] 26 ?_; intro c1 hg w7 hbox hb; have a1 := am (hbox); have i4 := am (bz hg (hq HB.out)); replace HB := sb HB hb; have l6 := i4; clear hb hbox hg) | (refine gl (some 8) Tryz.func23 rfl #[.slice A0 l0.length c0] ?_; refine (spec_l1Source.calls _ _ l0 b0 k1 w0 _ (below_step g6.out (hs HB.out)) n7.out n6.out A2.out).mono ?_; rintro e w8 ⟨a8, rfl, hi, hb, g7, hgw⟩; refine ⟨_, rfl, ?_⟩; have a0 := am (hi); have e0 := am (Nat.le_trans (below_size (hs HB.out)) hgw); replace HB := am (below_step (hs HB.out) g7); have d4 := am (IsS86.ne_blk hi (blk_below (bq a1.out) g7) (by decide)); have b8 := am (Ne.symm (IsS86.ne_blk hi (blk_below (bq a1.out) g7) (by decide))); replace a1 := am (blk_below (bq a1.out) g7); clear hb g7 hgw hi; (try clear hk)) | (refine gl (some 10) Tryz.func24 rfl #[.pointer (some ⟨a8, 0, none⟩)] ?_; refine (spec_l2Bent.calls k a8 b0 k1 a7 d9 w0 _ (IsS86.q a0.out) (below_step g6.out (hsk HB.out (IsS86.ge a0.out))) A3.out).mono ?_; rintro e w9 ⟨o3, rfl, h9, hi, hb, hk⟩; refine ⟨_, rfl, ?_⟩; replace a1 := kb hk a1 b8; have a2 := am (Kd.R_lower h9 (below_size (hsk HB.out (IsS86.ge a0.out)))); replace HB := am (below_keep g6.out (hsk HB.out (IsS86.ge a0.out)) hk e0.out hb); replace a0 := am (hi); clear hb hk hi h9; (try clear g7); (try clear hgw)) | (refine bx 6 rfl #[.slice none 0 0] 26 ?_; intro b5 hg i1 hbox hb; replace a2 := rb a2 hb; have a3 := am (hbox); have i5 := am (bz hg (hsk HB.out (IsS86.ge a0.out))); replace HB := am (below_step (hsk HB.out (IsS86.ge a0.out)) hb); have l7 := i5; have e8 := nl hg a1; have d5 := ng hg a1; replace a1 := bb a1 hb; have b9 := am ((by rw [hg]; exact Nat.ne_of_lt (IsS86.lt (show IsS86 w0 _ a8 b0 d9 from IsS86.q a0.out)) : a8 ≠ b5)); replace a0 := IsS86.bl a0 hb; have b6 := am b9.out.symm; clear hb hbox hg; obtain ⟨b2, b4, rfl⟩ := Kd.R_slice a2.out; obtain ⟨m8, n0⟩ := nn d5; obtain ⟨m9, n1⟩ := nn b6; have k5 := c0_ a3; have k6 := blk_frozen a3.out 0))
 have g9 : Aside0 (Kd.R k90 90 (i1.setCell ⟨b5, 0, none⟩ (.slice b2 a7.length b4)) w.heap.size (fun _ => True) (.slice b2 a7.length b4) a7) := ⟨rq (Kd.R_mono (Kd.R_far (p := ⟨b5, 0, none⟩) (Kd.R_types a2.out a3.out (by decide)) (fun _ hk => hk.2) (.slice b2 a7.length b4)) (fun _ hk => trivial))⟩
 have h0 : Aside0 ((i1.setCell ⟨b5, 0, none⟩ (.slice b2 a7.length b4)).heap[c1]? = some (.cells #[.slice none 0 0] 26 (0, 0))) := ⟨bf a1.out⟩
 have h2 : Aside0 ((i1.setCell ⟨b5, 0, none⟩ (.slice b2 a7.length b4)).heap[b5]? = some (.cells #[.slice b2 a7.length b4] 26 (0, 0))) := ⟨by refine bq ?_; refine blk_put (cs := #[.slice none 0 0]) ?_ 0 _ rfl; refine bq ?_; exact a3.out⟩
 have i0 : Aside0 (IsS86 w0 (i1.setCell ⟨b5, 0, none⟩ (.slice b2 a7.length b4)) a8 b0 d9) := ⟨IsS86.q a0.out⟩
 have h3 : Aside0 (Below w.heap.size w (i1.setCell ⟨b5, 0, none⟩ (.slice b2 a7.length b4))) := ⟨hsk HB.out (IsS86.ge a0.out)⟩
 (try clear a2)
 (try clear a1)
 (try clear a3)
 (try clear a0)
 (try clear HB)
 (try simp only [Go.IntKind.wrap_u8])
 generalize (i1.setCell ⟨b5, 0, none⟩ (.slice b2 a7.length b4)) = o4 at g9 h0 h2 i0 h3 ⊢
 have a2 := g9
 have a1 := h0
 have a3 := h2
 have a0 := i0
 have HB := h3
 clear g9 h0 h2 i0 h3
 replace a2 := am (Kd.R_drew a2.out)
 replace a1 := am (blk_drew a1.out)
 replace a3 := am (blk_drew a3.out)
 replace a0 := am (IsS86.drew a0.out)
 replace HB := am (below_drew1 HB.out)
 refine st_ (n := 13) (S := fun w' => True) (ds := []) trivial (fun hHeld => ?_); refine with_tabW spec_l3One.tab3 spec_l3One.bits3 (fun i6 n8 => ?_)
 generalize o4.drew = o9 at a2 a1 a3 a0 HB hHeld ⊢
 refine pu 1 12 rfl rfl i6 ?_
 refine pu 2 13 rfl rfl i6 ?_
 refine pu 5 16 rfl rfl i6 ?_
 refine pu 9 20 rfl rfl i6 ?_
 refine inv_at [0, 3, 4, 6, 7, 8, 10, 11, 12] (fun n9 b a w' => ∃ (b3 : Value) (b1 : Value) (a9 : Value) (b7 : Value), a = putSel n9 b [(0, 11, .agg #[.slice b2 a7.length b4]), (3, 14, b3), (4, 15, .int .i64 e3), (6, 17, b1), (7, 18, .int .i64 e9), (8, 19, a9), (11, 3, b7), (12, 4, .pointer (some ⟨a8, 0, none⟩))] ∧ (Kd.R k90 90 w' w.heap.size (fun _ => True) (.slice b2 a7.length b4) a7) ∧ (b 10 = false → w'.heap[c1]? = some (.cells #[.slice none 0 0] 26 (0, 0))) ∧ (w'.heap[b5]? = some (.cells #[.slice b2 a7.length b4] 26 (0, 0))) ∧ (b 4 = false → IsS86 w0 w' a8 b0 d9) ∧ (Below w.heap.size w w') ∧ (b 3 = true → Kd.R (Kd.int .i64) 2 w' w.heap.size (fun _ => True) b3 g1) ∧ (b 4 = true → b 7 = false → IsS86 w0 w' a8 b0 g5) ∧ (b 6 = true → Kd.R (Kd.int .i64) 2 w' w.heap.size (fun _ => True) b1 e4) ∧ (b 7 = true → b 8 = false → IsS86 w0 w' a8 b0 g0) ∧ (b 8 = true → Kd.R (Kd.int .i64) 2 w' w.heap.size (fun _ => True) a9 k2) ∧ (b 8 = true → IsS86 w0 w' a8 b0 k3) ∧ (b 10 = true → w'.heap[c1]? = some (.cells #[.slice b2 a7.length b4] 26 (0, 0))) ∧ (b 11 = true → (b7 : Value) = a9)) i6.out n8.out (by kernel_rfl) (by kernel_rfl) ?_ ?_ ?_
 ·exact ⟨.bool false, .bool false, .bool false, .bool false, by simp only [putSel, Bool.false_eq_true, if_false], a2.out, fun _ => a1.out, a3.out, fun _ => a0.out, HB.out, fun h_ => absurd h_ (by decide), fun h_ => absurd h_ (by decide), fun h_ => absurd h_ (by decide), fun h_ => absurd h_ (by decide), fun h_ => absurd h_ (by decide), fun h_ => absurd h_ (by decide), fun h_ => absurd h_ (by decide), fun h_ => absurd h_ (by decide)⟩
 ·skip
  clear a1 a3 HB a0 a2
  refine steps_cons ?_ ?_
  ·rintro b a w' ⟨b3, b1, a9, b7, ha, Q_HO345, Q_BK339, Q_BK347, Q_HI342, Q_HB, Q_HO350, Q_HI342_e4, Q_HO355, Q_HI342_e7, Q_HO360, Q_HI342_e8, Q_BK339_e10, Q_X11_⟩ d8 hon hoff
   refine ⟨_, rfl, fun K hK => ?_⟩
   have e6 : a.tmps[6]? = some (.pointer (some ⟨b5, 0, none⟩)) := by rw [ha]; exact (putSel_off rfl).trans rfl
   replace ha := am ha
   have a2 := am Q_HO345
   have a1 := am (Q_BK339 (hoff 10 (by kernel_rfl)))
   have a3 := am Q_BK347
   have HB := am Q_HB
   have o0 : w'.cell? ⟨b5, 0, none⟩ = some (.slice b2 a7.length b4) := (blk_cell a3.out 0).trans rfl
   refine value_ (w1 := w') (v := .agg #[.slice b2 a7.length b4]) (by rfl) rfl ?_ ?_
   ·go_simp
    (try simp only [i64_w])
    try rfl
   refine hK.out _ _ ⟨b3, b1, a9, b7, (by rw [ha.out]; exact putSel_upk 0 d8 rfl rfl rfl), Q_HO345, Q_BK339, Q_BK347, Q_HI342, Q_HB, Q_HO350, Q_HI342_e4, Q_HO355, Q_HI342_e7, Q_HO360, Q_HI342_e8, fun a5 => absurd ((hoff 10 (by kernel_rfl)).symm.trans a5) (by decide), fun a5 => absurd ((hoff 11 (by kernel_rfl)).symm.trans a5) (by decide)⟩
  refine steps_cons ?_ ?_
  ·rintro b a w' ⟨b3, b1, a9, b7, ha, Q_HO345, Q_BK339, Q_BK347, Q_HI342, Q_HB, Q_HO350, Q_HI342_e4, Q_HO355, Q_HI342_e7, Q_HO360, Q_HI342_e8, Q_BK339_e10, Q_X11_⟩ d8 hon hoff
   refine ⟨_, rfl, fun K hK => ?_⟩
   replace ha := am ha
   have a2 := am Q_HO345
   have a1 := am (Q_BK339 (hoff 10 (by kernel_rfl)))
   have a3 := am Q_BK347
   have a0 := am (Q_HI342 (hoff 4 (by kernel_rfl)))
   have HB := am Q_HB
   refine Kd.R_lit_step (Kd.int .i64) _ 2 ?hg (N := 14) ?hd (xs := ([3, 6, 10, 16, 24] : List Int)) (inner := [.int .i64 3, .int .i64 6, .int .i64 10, .int .i64 16, .int .i64 24]) (ok := fun _ => True) (okp := fun _ => True) ?hr ?hp (fun _ hk => hk) trivial (Below.refl _ _) (Nat.le_refl _) (by simp) ?_; (case hd => rfl); (case hg => rfl); (case hr => first | (go_simp; done) | (go_simp; rfl)); (case hp => exact (Reps.one (show Kd.M (Kd.int .i64) _ _ _ 3 [.int .i64 3] from rfl) (Reps.one (show Kd.M (Kd.int .i64) _ _ _ 6 [.int .i64 6] from rfl) (Reps.one (show Kd.M (Kd.int .i64) _ _ _ 10 [.int .i64 10] from rfl) (Reps.one (show Kd.M (Kd.int .i64) _ _ _ 16 [.int .i64 16] from rfl) (Reps.one (show Kd.M (Kd.int .i64) _ _ _ 24 [.int .i64 24] from rfl) (Reps.none _ _)))))))
   intro b3 k4 d0 hb l5 hnew_
   clear l5 hnew_
   (first | rw [← h4.out] at d0 | (simp only [Int.reduceToNat] at d0; rw [← h4.out] at d0))
   have g9 := am (Kd.R_below (rq a2.out) hb)
   have h0 := am (Kd.R_lower d0 (below_size (hsk HB.out (IsS86.ge a0.out))))
   have h2 := am (blk_below (bq a1.out) hb)
   have i0 := IsS86.bl a0 hb
   have h3 := am (blk_below (bq a3.out) hb)
   have k0 := am (below_step (hsk HB.out (IsS86.ge a0.out)) hb)
   have z_HO355 := fun (a5 : b 6 = true) => (show Kd.R (Kd.int .i64) 2 k4 w.heap.size (fun _ => True) b1 e4 from by first | exact (Kd.R_elder' (rq (Q_HO355 a5)) (Kd.R_base d0) hb) | exact Kd.R_mono (Kd.R_elder' (rq (Q_HO355 a5)) (Kd.R_base d0) hb) (fun _ h_ => by first | trivial | exact h_ | exact h_.1))
   clear a2 a1 a0 a3 HB; revert g9 h0 h2 i0 h3 k0; intro a2 a4 a1 a0 a3 HB
   clear hb d0
   refine hK.out _ _ ⟨b3, b1, a9, b7, (by rw [ha.out]; exact putSel_upk 1 d8 rfl rfl rfl), (by (with_reducible repeat (first | apply Kd.R_alloc | apply Kd.R_drewN | apply Kd.R_drew)); first | exact a2.out | exact Kd.R_mono a2.out (fun _ _ => trivial) | exact Kd.R_mono a2.out (fun _ hk => hk.1)), fun _ => (bq a1.out), (bq a3.out), fun _ => (IsS86.q a0.out), (hsk HB.out (IsS86.ge a0.out)), fun _ => (by (with_reducible repeat (first | apply Kd.R_alloc | apply Kd.R_drewN | apply Kd.R_drew)); first | exact a4.out | exact Kd.R_mono a4.out (fun _ _ => trivial) | exact Kd.R_mono a4.out (fun _ hk => hk.1)), fun a5 _ => absurd ((hoff 4 (by kernel_rfl)).symm.trans a5) (by decide), z_HO355, fun a5 _ => absurd ((hoff 7 (by kernel_rfl)).symm.trans a5) (by decide), fun a5 => absurd ((hoff 8 (by kernel_rfl)).symm.trans a5) (by decide), fun a5 => absurd ((hoff 8 (by kernel_rfl)).symm.trans a5) (by decide), fun a5 => absurd ((hoff 10 (by kernel_rfl)).symm.trans a5) (by decide), fun a5 => absurd ((hoff 11 (by kernel_rfl)).symm.trans a5) (by decide)⟩
  refine steps_cons ?_ ?_
  ·rintro b a w' ⟨b3, b1, a9, b7, ha, Q_HO345, Q_BK339, Q_BK347, Q_HI342, Q_HB, Q_HO350, Q_HI342_e4, Q_HO355, Q_HI342_e7, Q_HO360, Q_HI342_e8, Q_BK339_e10, Q_X11_⟩ d8 hon hoff
   refine ⟨_, rfl, fun K hK => ?_⟩
   have l9 : a.tmps[13]? = some (.pointer (some ⟨a8, 0, none⟩)) := by rw [ha]; exact (putSel_off rfl).trans rfl
   have m0 : a.tmps[14]? = some (b3) := by rw [ha]; exact putSel_on (e := (3, 14, b3)) 1 rfl rfl (hon 3 (by kernel_rfl)) rfl
   replace ha := am ha
   have a2 := am Q_HO345
   have a1 := am (Q_BK339 (hoff 10 (by kernel_rfl)))
   have a3 := am Q_BK347
   have a0 := am (Q_HI342 d8)
   have HB := am Q_HB
   have a4 := am (Q_HO350 (hon 3 (by kernel_rfl)))
   obtain ⟨i2, i7, j5⟩ := Kd.R_slice a4.out
   (first | subst j5 | (injection j5 with f1_ f2_ f3_; have k9 := f1_.symm; have l4 := f3_.symm; clear f1_ f2_ f3_; subst k9; subst l4))
   refine goes_ Tryz.func26 (by kernel_rfl) rfl #[.pointer (some ⟨a8, 0, none⟩), .slice i2 g1.length i7] (by rfl) rfl rfl (by first | (simp only [List.map_toArray, List.map_cons, List.map_nil, Act.eval, Array.getD_eq_getD_getElem?, Option.getD_some, l9, m0]; done) | (simp only [List.map_toArray, List.map_cons, List.map_nil, Act.eval, Array.getD_eq_getD_getElem?, Option.getD_some, l9, m0]; rfl)) ?_
   refine (spec_l1Pick.calls a8 b0 d9 _ _ g1 e3 g5 w0 _ (IsS86.q a0.out) (below_step g6.out (hsk HB.out (IsS86.ge a0.out))) (cq (Kd.R_reads' a4.out).2.2) ((Kd.R_reads' a4.out).2.1) (far_slice (IsS86.own_ne a0.out a4.out (by decide))) A4.out).mono ?_
   rintro e o5 ⟨rfl, hi, hb, hk⟩
   refine ⟨_, rfl, ?_⟩
   have g9 := kb hk a1 b8
   have h0 := IsS86.rk a0 a2 hk
   have h2 := kb hk a3 b6
   have i0 := IsS86.rk a0 a4 hk
   have h3 := am (below_keep g6.out (hsk HB.out (IsS86.ge a0.out)) hk e0.out hb)
   have k0 := am (hi)
   have z_HO355 := fun (a5 : b 6 = true) => (show Kd.R (Kd.int .i64) 2 o5 w.heap.size (fun _ => True) b1 e4 from by first | exact (Kd.R_mono (Kd.R_keep (IsS86.apart (show IsS86 w0 _ a8 b0 d9 from IsS86.q a0.out) (rq (Q_HO355 a5)) (by decide)) hk (fun _ h => h.2)) (fun _ h => h.1)) | exact Kd.R_mono (Kd.R_mono (Kd.R_keep (IsS86.apart (show IsS86 w0 _ a8 b0 d9 from IsS86.q a0.out) (rq (Q_HO355 a5)) (by decide)) hk (fun _ h => h.2)) (fun _ h => h.1)) (fun _ h_ => by first | trivial | exact h_ | exact h_.1))
   clear a1 a2 a3 a4 HB a0; revert g9 h0 h2 i0 h3 k0; intro a1 a2 a3 a4 HB a0
   (try clear hb)
   (try clear g7)
   (try clear hgw)
   (try clear hk)
   (try clear hi)
   refine hK.out _ _ ⟨.slice i2 g1.length i7, b1, a9, b7, (by rw [ha.out]; exact putSel_upk 2 d8 rfl rfl rfl), (by (with_reducible repeat (first | apply Kd.R_alloc | apply Kd.R_drewN | apply Kd.R_drew)); first | exact a2.out | exact Kd.R_mono a2.out (fun _ _ => trivial) | exact Kd.R_mono a2.out (fun _ hk => hk.1)), fun _ => (bq a1.out), (bq a3.out), fun a5 => absurd ((up_self b 4).symm.trans a5) (by decide), (hsk HB.out (IsS86.ge a0.out)), fun _ => (by (with_reducible repeat (first | apply Kd.R_alloc | apply Kd.R_drewN | apply Kd.R_drew)); first | exact a4.out | exact Kd.R_mono a4.out (fun _ _ => trivial) | exact Kd.R_mono a4.out (fun _ hk => hk.1)), fun _ _ => (IsS86.q a0.out), z_HO355, fun a5 _ => absurd ((hoff 7 (by kernel_rfl)).symm.trans a5) (by decide), fun a5 => absurd ((hoff 8 (by kernel_rfl)).symm.trans a5) (by decide), fun a5 => absurd ((hoff 8 (by kernel_rfl)).symm.trans a5) (by decide), fun a5 => absurd ((hoff 10 (by kernel_rfl)).symm.trans a5) (by decide), fun a5 => absurd ((hoff 11 (by kernel_rfl)).symm.trans a5) (by decide)⟩
  refine steps_cons ?_ ?_
  ·rintro b a w' ⟨b3, b1, a9, b7, ha, Q_HO345, Q_BK339, Q_BK347, Q_HI342, Q_HB, Q_HO350, Q_HI342_e4, Q_HO355, Q_HI342_e7, Q_HO360, Q_HI342_e8, Q_BK339_e10, Q_X11_⟩ d8 hon hoff
   refine ⟨_, rfl, fun K hK => ?_⟩
   replace ha := am ha
   have a2 := am Q_HO345
   have a1 := am (Q_BK339 (hoff 10 (by kernel_rfl)))
   have a3 := am Q_BK347
   have HB := am Q_HB
   refine Kd.R_lit_step (Kd.int .i64) _ 2 ?hg (N := 17) ?hd (xs := ([0, 3, 6, 12] : List Int)) (inner := [.int .i64 0, .int .i64 3, .int .i64 6, .int .i64 12]) (ok := fun _ => True) (okp := fun _ => True) ?hr ?hp (fun _ hk => hk) trivial (Below.refl _ _) (Nat.le_refl _) (by simp) ?_; (case hd => rfl); (case hg => rfl); (case hr => first | (go_simp; done) | (go_simp; rfl)); (case hp => exact (Reps.one (show Kd.M (Kd.int .i64) _ _ _ 0 [.int .i64 0] from rfl) (Reps.one (show Kd.M (Kd.int .i64) _ _ _ 3 [.int .i64 3] from rfl) (Reps.one (show Kd.M (Kd.int .i64) _ _ _ 6 [.int .i64 6] from rfl) (Reps.one (show Kd.M (Kd.int .i64) _ _ _ 12 [.int .i64 12] from rfl) (Reps.none _ _))))))
   intro b1 k4 d0 hb l5 hnew_
   clear l5 hnew_
   (first | rw [← h5.out] at d0 | (simp only [Int.reduceToNat] at d0; rw [← h5.out] at d0))
   have g9 := am (Kd.R_below (rq a2.out) hb)
   have h0 := am (Kd.R_lower d0 (below_size (hs HB.out)))
   have h2 := am (blk_below (bq a1.out) hb)
   have h3 := am (blk_below (bq a3.out) hb)
   have k0 := am (below_step (hs HB.out) hb)
   have z_HI342 := fun (a5 : b 4 = false) => (show IsS86 w0 k4 a8 b0 d9 from by first | exact (IsS86.below (by repeat (first | (with_reducible first | exact (Q_HI342 a5) | apply IsS86.alloc | apply IsS86.drewN | apply IsS86.drew | apply IsS86.set_1 | refine IsS86.far ?_ d4.out _ | refine IsS86.far ?_ b9.out _) | exact (Q_HI342 a5))) hb))
   have z_HO350 := fun (a5 : b 3 = true) => (show Kd.R (Kd.int .i64) 2 k4 w.heap.size (fun _ => True) b3 g1 from by first | exact (Kd.R_elder' (rq (Q_HO350 a5)) (Kd.R_base d0) hb) | exact Kd.R_mono (Kd.R_elder' (rq (Q_HO350 a5)) (Kd.R_base d0) hb) (fun _ h_ => by first | trivial | exact h_ | exact h_.1))
   have z_HI342_e4 := fun (a5 : b 4 = true) (d7 : b 7 = false) => (show IsS86 w0 k4 a8 b0 g5 from by first | exact (IsS86.below (by repeat (first | (with_reducible first | exact (Q_HI342_e4 a5 d7) | apply IsS86.alloc | apply IsS86.drewN | apply IsS86.drew | apply IsS86.set_1 | refine IsS86.far ?_ d4.out _ | refine IsS86.far ?_ b9.out _) | exact (Q_HI342_e4 a5 d7))) hb))
   clear a2 a1 a3 HB; revert g9 h0 h2 h3 k0; intro a2 a6 a1 a3 HB
   clear hb d0
   refine hK.out _ _ ⟨b3, b1, a9, b7, (by rw [ha.out]; exact putSel_upk 3 d8 rfl rfl rfl), (by (with_reducible repeat (first | apply Kd.R_alloc | apply Kd.R_drewN | apply Kd.R_drew)); first | exact a2.out | exact Kd.R_mono a2.out (fun _ _ => trivial) | exact Kd.R_mono a2.out (fun _ hk => hk.1)), fun _ => (bq a1.out), (bq a3.out), z_HI342, (hs HB.out), z_HO350, z_HI342_e4, fun _ => (by (with_reducible repeat (first | apply Kd.R_alloc | apply Kd.R_drewN | apply Kd.R_drew)); first | exact a6.out | exact Kd.R_mono a6.out (fun _ _ => trivial) | exact Kd.R_mono a6.out (fun _ hk => hk.1)), fun a5 _ => absurd ((hoff 7 (by kernel_rfl)).symm.trans a5) (by decide), fun a5 => absurd ((hoff 8 (by kernel_rfl)).symm.trans a5) (by decide), fun a5 => absurd ((hoff 8 (by kernel_rfl)).symm.trans a5) (by decide), fun a5 => absurd ((hoff 10 (by kernel_rfl)).symm.trans a5) (by decide), fun a5 => absurd ((hoff 11 (by kernel_rfl)).symm.trans a5) (by decide)⟩
  refine steps_cons ?_ ?_
  ·rintro b a w' ⟨b3, b1, a9, b7, ha, Q_HO345, Q_BK339, Q_BK347, Q_HI342, Q_HB, Q_HO350, Q_HI342_e4, Q_HO355, Q_HI342_e7, Q_HO360, Q_HI342_e8, Q_BK339_e10, Q_X11_⟩ d8 hon hoff
   refine ⟨_, rfl, fun K hK => ?_⟩
   have m2 : a.tmps[16]? = some (.pointer (some ⟨a8, 0, none⟩)) := by rw [ha]; exact (putSel_off rfl).trans rfl
   have m3 : a.tmps[17]? = some (b1) := by rw [ha]; exact putSel_on (e := (6, 17, b1)) 3 rfl rfl (hon 6 (by kernel_rfl)) rfl
   replace ha := am ha
   have a2 := am Q_HO345
   have a1 := am (Q_BK339 (hoff 10 (by kernel_rfl)))
   have a3 := am Q_BK347
   have HB := am Q_HB
   have a4 := am (Q_HO350 (hon 3 (by kernel_rfl)))
   have a0 := am (Q_HI342_e4 (hon 4 (by kernel_rfl)) d8)
   have a6 := am (Q_HO355 (hon 6 (by kernel_rfl)))
   obtain ⟨i3, i9, j6⟩ := Kd.R_slice a6.out
   (first | subst j6 | (injection j6 with f1_ f2_ f3_; have k9 := f1_.symm; have l4 := f3_.symm; clear f1_ f2_ f3_; subst k9; subst l4))
   refine goes_ Tryz.func26 (by kernel_rfl) rfl #[.pointer (some ⟨a8, 0, none⟩), .slice i3 e4.length i9] (by rfl) rfl rfl (by first | (simp only [List.map_toArray, List.map_cons, List.map_nil, Act.eval, Array.getD_eq_getD_getElem?, Option.getD_some, m2, m3]; done) | (simp only [List.map_toArray, List.map_cons, List.map_nil, Act.eval, Array.getD_eq_getD_getElem?, Option.getD_some, m2, m3]; rfl)) ?_
   refine (spec_l1Pick.calls a8 b0 g5 _ _ e4 e9 g0 w0 _ (IsS86.q a0.out) (below_step g6.out (hsk HB.out (IsS86.ge a0.out))) (cq (Kd.R_reads' a6.out).2.2) ((Kd.R_reads' a6.out).2.1) (far_slice (IsS86.own_ne a0.out a6.out (by decide))) A5.out).mono ?_
   rintro e p0 ⟨rfl, hi, hb, hk⟩
   refine ⟨_, rfl, ?_⟩
   replace a1 := kb hk a1 b8
   replace a2 := IsS86.rk a0 a2 hk
   replace a3 := kb hk a3 b6
   replace a4 := IsS86.rk a0 a4 hk
   replace a6 := IsS86.rk a0 a6 hk
   replace HB := am (below_keep g6.out (hsk HB.out (IsS86.ge a0.out)) hk e0.out hb)
   replace a0 := am (hi)
   (try clear hb)
   (try clear g7)
   (try clear hgw)
   (try clear hk)
   (try clear hi)
   refine hK.out _ _ ⟨b3, .slice i3 e4.length i9, a9, b7, (by rw [ha.out]; exact putSel_upk 4 d8 rfl rfl rfl), (by (with_reducible repeat (first | apply Kd.R_alloc | apply Kd.R_drewN | apply Kd.R_drew)); first | exact a2.out | exact Kd.R_mono a2.out (fun _ _ => trivial) | exact Kd.R_mono a2.out (fun _ hk => hk.1)), fun _ => (bq a1.out), (bq a3.out), fun a5 => absurd ((hon 4 (by kernel_rfl)).symm.trans a5) (by decide), (hsk HB.out (IsS86.ge a0.out)), fun _ => (by (with_reducible repeat (first | apply Kd.R_alloc | apply Kd.R_drewN | apply Kd.R_drew)); first | exact a4.out | exact Kd.R_mono a4.out (fun _ _ => trivial) | exact Kd.R_mono a4.out (fun _ hk => hk.1)), fun _ d7 => absurd ((up_self b 7).symm.trans d7) (by decide), fun _ => (by (with_reducible repeat (first | apply Kd.R_alloc | apply Kd.R_drewN | apply Kd.R_drew)); first | exact a6.out | exact Kd.R_mono a6.out (fun _ _ => trivial) | exact Kd.R_mono a6.out (fun _ hk => hk.1)), fun _ _ => (IsS86.q a0.out), fun a5 => absurd ((hoff 8 (by kernel_rfl)).symm.trans a5) (by decide), fun a5 => absurd ((hoff 8 (by kernel_rfl)).symm.trans a5) (by decide), fun a5 => absurd ((hoff 10 (by kernel_rfl)).symm.trans a5) (by decide), fun a5 => absurd ((hoff 11 (by kernel_rfl)).symm.trans a5) (by decide)⟩
  refine steps_cons ?_ ?_
  ·rintro b a w' ⟨b3, b1, a9, b7, ha, Q_HO345, Q_BK339, Q_BK347, Q_HI342, Q_HB, Q_HO350, Q_HI342_e4, Q_HO355, Q_HI342_e7, Q_HO360, Q_HI342_e8, Q_BK339_e10, Q_X11_⟩ d8 hon hoff
   refine ⟨_, rfl, fun K hK => ?_⟩
   have l8 : a.tmps[12]? = some (.pointer (some ⟨a8, 0, none⟩)) := by rw [ha]; exact (putSel_off rfl).trans rfl
   have e6 : a.tmps[6]? = some (.pointer (some ⟨b5, 0, none⟩)) := by rw [ha]; exact (putSel_off rfl).trans rfl
   have m1 : a.tmps[15]? = some (.int .i64 e3) := by rw [ha]; exact putSel_on (e := (4, 15, .int .i64 e3)) 2 rfl rfl (hon 4 (by kernel_rfl)) rfl
   have m4 : a.tmps[18]? = some (.int .i64 e9) := by rw [ha]; exact putSel_on (e := (7, 18, .int .i64 e9)) 4 rfl rfl (hon 7 (by kernel_rfl)) rfl
   replace ha := am ha
   have a2 := am Q_HO345
   have a1 := am (Q_BK339 (hoff 10 (by kernel_rfl)))
   have a3 := am Q_BK347
   have HB := am Q_HB
   have a4 := am (Q_HO350 (hon 3 (by kernel_rfl)))
   have a6 := am (Q_HO355 (hon 6 (by kernel_rfl)))
   have a0 := am (Q_HI342_e7 (hon 7 (by kernel_rfl)) d8)
   refine goes_ Tryz.func25 (by kernel_rfl) rfl #[.pointer (some ⟨a8, 0, none⟩), .pointer (some ⟨b5, 0, none⟩), .int .i64 e3, .int .i64 e9] (by rfl) rfl rfl (by first | (simp only [List.map_toArray, List.map_cons, List.map_nil, Act.eval, Array.getD_eq_getD_getElem?, Option.getD_some, l8, e6, m1, m4]; done) | (simp only [List.map_toArray, List.map_cons, List.map_nil, Act.eval, Array.getD_eq_getD_getElem?, Option.getD_some, l8, e6, m1, m4]; rfl)) ?_
   with_reducible refine (spec_l3BentTerm.calls k a8 b0 g0 _ [(⟨a7⟩ : S26)] e3 e9 k2 k3 w0 _ ?side1 ?side2 ?side3 A6.out).mono ?_
   (case side1 => exact IsS86.q a0.out)
   (case side2 => exact below_step g6.out (hsk HB.out (IsS86.ge a0.out)))
   (case side3 => exact fun W_ m7 => k26_box (m7.blk (show (World.heap _)[b5]? = some (.cells #[.slice b2 a7.length b4] 26 (0, 0)) from bq a3.out) (by first | exact b6.out | exact b9.out.symm) (by simp)) ((by exact Kd.C_foot_own (IsS86.apart (show IsS86 w0 _ a8 b0 g0 from IsS86.q a0.out) (rq a2.out) (by decide)) (fun _ h_ => h_.2) : ∀ W_, KeepBut _ W_ a8 none → Kd.C k90 W_ b2 a7.length a7) W_ m7) (by exact (Kd.R_reads' a2.out).2.1))
   rintro e p1 ⟨a9, rfl, h9, hi, hb, hk⟩
   refine ⟨_, rfl, ?_⟩
   replace a1 := kb hk a1 b8
   replace a2 := IsS86.rk a0 a2 hk
   replace a3 := kb hk a3 b6
   have d3 := am (Kd.R_lower (Kd.R_new' (Kd.R_new' h9 (Kd.R_lt (rq a4.out))) (Kd.R_lt (rq a6.out))) (below_size (hsk HB.out (IsS86.ge a0.out))))
   replace a4 := am (Kd.R_mono (Kd.R_told (Kd.R_oldK (IsS86.apart (show IsS86 w0 _ a8 b0 g0 from IsS86.q a0.out) (rq a4.out) (by decide)) hk) (Kd.R_base h9)) (fun _ h_ => h_.1))
   replace a6 := am (Kd.R_mono (Kd.R_told (Kd.R_oldK (IsS86.apart (show IsS86 w0 _ a8 b0 g0 from IsS86.q a0.out) (rq a6.out) (by decide)) hk) (Kd.R_base h9)) (fun _ h_ => h_.1))
   replace HB := am (below_keep g6.out (hsk HB.out (IsS86.ge a0.out)) hk e0.out hb)
   replace a0 := am (hi)
   (try clear hb)
   (try clear g7)
   (try clear hgw)
   (try clear hk)
   (try clear hi)
   (try clear h9)
   refine hK.out _ _ ⟨b3, b1, a9, b7, (by rw [ha.out]; exact putSel_upk 5 d8 rfl rfl rfl), (by (with_reducible repeat (first | apply Kd.R_alloc | apply Kd.R_drewN | apply Kd.R_drew)); first | exact a2.out | exact Kd.R_mono a2.out (fun _ _ => trivial) | exact Kd.R_mono a2.out (fun _ hk => hk.1)), fun _ => (bq a1.out), (bq a3.out), fun a5 => absurd ((hon 4 (by kernel_rfl)).symm.trans a5) (by decide), (hsk HB.out (IsS86.ge a0.out)), fun _ => (by (with_reducible repeat (first | apply Kd.R_alloc | apply Kd.R_drewN | apply Kd.R_drew)); first | exact a4.out | exact Kd.R_mono a4.out (fun _ _ => trivial) | exact Kd.R_mono a4.out (fun _ hk => hk.1)), fun _ d7 => absurd ((hon 7 (by kernel_rfl)).symm.trans d7) (by decide), fun _ => (by (with_reducible repeat (first | apply Kd.R_alloc | apply Kd.R_drewN | apply Kd.R_drew)); first | exact a6.out | exact Kd.R_mono a6.out (fun _ _ => trivial) | exact Kd.R_mono a6.out (fun _ hk => hk.1)), fun _ d7 => absurd ((up_self b 8).symm.trans d7) (by decide), fun _ => (by (with_reducible repeat (first | apply Kd.R_alloc | apply Kd.R_drewN | apply Kd.R_drew)); exact Kd.R_mono d3.out (fun _ hk => by first | exact ⟨hk.1.2, hk.2⟩ | exact ⟨hk.2, hk.1.2⟩ | trivial)), fun _ => (IsS86.q a0.out), fun a5 => absurd ((hoff 10 (by kernel_rfl)).symm.trans a5) (by decide), fun a5 => absurd ((hoff 11 (by kernel_rfl)).symm.trans a5) (by decide)⟩
  refine steps_cons ?_ ?_
  ·rintro b a w' ⟨b3, b1, a9, b7, ha, Q_HO345, Q_BK339, Q_BK347, Q_HI342, Q_HB, Q_HO350, Q_HI342_e4, Q_HO355, Q_HI342_e7, Q_HO360, Q_HI342_e8, Q_BK339_e10, Q_X11_⟩ d8 hon hoff
   refine ⟨_, rfl, fun K hK => ?_⟩
   have e2 : a.tmps[2]? = some (.pointer (some ⟨c1, 0, none⟩)) := by rw [ha]; exact (putSel_off rfl).trans rfl
   have o6 : a.tmps[11]? = some (.agg #[.slice b2 a7.length b4]) := by rw [ha]; exact putSel_on (e := (0, 11, .agg #[.slice b2 a7.length b4])) 0 rfl rfl (hon 0 (by kernel_rfl)) rfl
   replace ha := am ha
   have a2 := am Q_HO345
   have a1 := am (Q_BK339 d8)
   have a3 := am Q_BK347
   have HB := am Q_HB
   have a4 := am (Q_HO350 (hon 3 (by kernel_rfl)))
   have a6 := am (Q_HO355 (hon 6 (by kernel_rfl)))
   have d3 := am (Q_HO360 (hon 8 (by kernel_rfl)))
   have a0 := am (Q_HI342_e8 (hon 8 (by kernel_rfl)))
   have o1 : w'.cell? ⟨c1, 0, none⟩ = some (.slice none 0 0) := (blk_cell a1.out 0).trans rfl
   have m6 := blk_frozen a1.out 0
   have k8 := d5.out
   have k7 := e8.out
   refine skip_ (w1 := ?_) (by rfl) rfl ?_ ?_
   rotate_left
   ·go_simp
    rfl
   refine hK.out _ _ ⟨b3, b1, a9, b7, (by rw [ha.out]; exact putSel_none (v := undef) rfl), (by (with_reducible repeat (first | apply Kd.R_alloc | apply Kd.R_drewN | apply Kd.R_drew)); exact Kd.R_mono (Kd.R_far (p := ⟨c1, 0, none⟩) (Kd.R_types a2.out a1.out (by decide)) (fun _ hk => by first | exact hk.2 | trivial) (.slice b2 a7.length b4)) (fun _ hk => trivial)), fun a5 => absurd ((up_self b 10).symm.trans a5) (by decide), (bf a3.out), fun a5 => absurd ((hon 4 (by kernel_rfl)).symm.trans a5) (by decide), (hsk HB.out (IsS86.ge a0.out)), fun _ => (by (with_reducible repeat (first | apply Kd.R_alloc | apply Kd.R_drewN | apply Kd.R_drew)); exact Kd.R_mono (Kd.R_far (p := ⟨c1, 0, none⟩) (Kd.R_types a4.out a1.out (by decide)) (fun _ hk => by first | exact hk.2 | trivial) (.slice b2 a7.length b4)) (fun _ hk => by first | exact ⟨hk.1.1, hk.1.2⟩ | exact ⟨hk.1.2, hk.1.1⟩ | trivial)), fun _ d7 => absurd ((hon 7 (by kernel_rfl)).symm.trans d7) (by decide), fun _ => (by (with_reducible repeat (first | apply Kd.R_alloc | apply Kd.R_drewN | apply Kd.R_drew)); exact Kd.R_mono (Kd.R_far (p := ⟨c1, 0, none⟩) (Kd.R_types a6.out a1.out (by decide)) (fun _ hk => by first | exact hk.2 | trivial) (.slice b2 a7.length b4)) (fun _ hk => by first | exact ⟨hk.1.1, hk.1.2⟩ | exact ⟨hk.1.2, hk.1.1⟩ | trivial)), fun _ d7 => absurd ((hon 8 (by kernel_rfl)).symm.trans d7) (by decide), fun _ => (by (with_reducible repeat (first | apply Kd.R_alloc | apply Kd.R_drewN | apply Kd.R_drew)); exact Kd.R_mono (Kd.R_far (p := ⟨c1, 0, none⟩) (Kd.R_types d3.out a1.out (by decide)) (fun _ hk => by first | exact hk.2 | trivial) (.slice b2 a7.length b4)) (fun _ hk => by first | exact ⟨hk.1.1, hk.1.2⟩ | exact ⟨hk.1.2, hk.1.1⟩ | trivial)), fun _ => (IsS86.q a0.out), fun _ => (by refine bq ?_; refine blk_put (cs := #[.slice none 0 0]) ?_ 0 _ rfl; refine bq ?_; exact a1.out), fun a5 => absurd ((hoff 11 (by kernel_rfl)).symm.trans a5) (by decide)⟩
  refine steps_cons ?_ ?_
  ·rintro b a w' ⟨b3, b1, a9, b7, ha, Q_HO345, Q_BK339, Q_BK347, Q_HI342, Q_HB, Q_HO350, Q_HI342_e4, Q_HO355, Q_HI342_e7, Q_HO360, Q_HI342_e8, Q_BK339_e10, Q_X11_⟩ d8 hon hoff
   refine ⟨_, rfl, fun K hK => ?_⟩
   have o7 : a.tmps[19]? = some (a9) := by rw [ha]; exact putSel_on (e := (8, 19, a9)) 5 rfl rfl (hon 8 (by kernel_rfl)) rfl
   replace ha := am ha
   have a2 := am Q_HO345
   have a3 := am Q_BK347
   have HB := am Q_HB
   have a4 := am (Q_HO350 (hon 3 (by kernel_rfl)))
   have a6 := am (Q_HO355 (hon 6 (by kernel_rfl)))
   have d3 := am (Q_HO360 (hon 8 (by kernel_rfl)))
   have a0 := am (Q_HI342_e8 (hon 8 (by kernel_rfl)))
   have a1 := am (Q_BK339_e10 (hon 10 (by kernel_rfl)))
   refine value_ (w1 := w') (v := a9) (by rfl) rfl ?_ ?_
   ·go_simp
    (try simp only [i64_w])
    try rfl
   refine hK.out _ _ ⟨b3, b1, a9, (a9), (by rw [ha.out]; exact putSel_upk 6 d8 rfl rfl rfl), Q_HO345, fun a5 => absurd ((hon 10 (by kernel_rfl)).symm.trans a5) (by decide), Q_BK347, fun a5 => absurd ((hon 4 (by kernel_rfl)).symm.trans a5) (by decide), Q_HB, Q_HO350, fun _ d7 => absurd ((hon 7 (by kernel_rfl)).symm.trans d7) (by decide), Q_HO355, fun _ d7 => absurd ((hon 8 (by kernel_rfl)).symm.trans d7) (by decide), Q_HO360, Q_HI342_e8, Q_BK339_e10, fun _ => rfl⟩
  refine steps_cons ?_ ?_
  ·rintro b a w' ⟨b3, b1, a9, b7, ha, Q_HO345, Q_BK339, Q_BK347, Q_HI342, Q_HB, Q_HO350, Q_HI342_e4, Q_HO355, Q_HI342_e7, Q_HO360, Q_HI342_e8, Q_BK339_e10, Q_X11_⟩ d8 hon hoff
   refine ⟨_, rfl, fun K hK => ?_⟩
   have o8 : a.tmps[20]? = some (.pointer (some ⟨a8, 0, none⟩)) := by rw [ha]; exact (putSel_off rfl).trans rfl
   replace ha := am ha
   have a2 := am Q_HO345
   have a3 := am Q_BK347
   have HB := am Q_HB
   have a4 := am (Q_HO350 (hon 3 (by kernel_rfl)))
   have a6 := am (Q_HO355 (hon 6 (by kernel_rfl)))
   have d3 := am (Q_HO360 (hon 8 (by kernel_rfl)))
   have a0 := am (Q_HI342_e8 (hon 8 (by kernel_rfl)))
   have a1 := am (Q_BK339_e10 (hon 10 (by kernel_rfl)))
   refine value_ (w1 := w') (v := .pointer (some ⟨a8, 0, none⟩)) (by rfl) rfl ?_ ?_
   ·go_simp
    (try simp only [i64_w])
    try rfl
   refine hK.out _ _ ⟨b3, b1, a9, b7, (by rw [ha.out]; exact putSel_upk 7 d8 rfl rfl rfl), Q_HO345, fun a5 => absurd ((hon 10 (by kernel_rfl)).symm.trans a5) (by decide), Q_BK347, fun a5 => absurd ((hon 4 (by kernel_rfl)).symm.trans a5) (by decide), Q_HB, Q_HO350, fun _ d7 => absurd ((hon 7 (by kernel_rfl)).symm.trans d7) (by decide), Q_HO355, fun _ d7 => absurd ((hon 8 (by kernel_rfl)).symm.trans d7) (by decide), Q_HO360, Q_HI342_e8, Q_BK339_e10, Q_X11_⟩
  exact steps_nil
 rintro b a p2 hall ⟨b3, b1, a9, b7, ha, Q_HO345, Q_BK339, Q_BK347, Q_HI342, Q_HB, Q_HO350, Q_HI342_e4, Q_HO355, Q_HI342_e7, Q_HO360, Q_HI342_e8, Q_BK339_e10, Q_X11_⟩
 clear a1 a3 HB a0 a2
 have j7 := hall 0 (by kernel_rfl)
 have h7 := hall 3 (by kernel_rfl)
 have j8 := hall 4 (by kernel_rfl)
 have h8 := hall 6 (by kernel_rfl)
 have j9 := hall 7 (by kernel_rfl)
 have g8 := hall 8 (by kernel_rfl)
 have g3 := hall 10 (by kernel_rfl)
 have g4 := hall 11 (by kernel_rfl)
 have h6 := hall 12 (by kernel_rfl)
 subst ha
 obtain rfl := Q_X11_ g4
 simp only [putSel, j7, h7, j8, h8, j9, g8, g3, g4, h6, if_true, Act.put, lsp]
 have a2 := am Q_HO345
 clear Q_HO345 Q_BK339
 have a3 := am Q_BK347
 clear Q_BK347 Q_HI342
 have HB := am Q_HB
 clear Q_HB
 have a4 := am (Q_HO350 h7)
 clear Q_HO350 Q_HI342_e4
 have a6 := am (Q_HO355 h8)
 clear Q_HO355 Q_HI342_e7
 have d3 := am (Q_HO360 g8)
 clear Q_HO360
 have a0 := am (Q_HI342_e8 g8)
 clear Q_HI342_e8
 have a1 := am (Q_BK339_e10 g3)
 clear Q_BK339_e10
 clear hall j7 h7 j8 h8 j9 g8 g3 g4 h6
 try go_wp2
 refine bodyPost_ret (results_ctt rfl _ _ c1 26 #[.slice b2 a7.length b4] (0, 0) _ rfl (bq a1.out) Tryz.underlying26 rfl (by kernel_rfl)) rfl ?_
 exact ⟨_, _, _, by first | rfl | (simp <;> rfl), rq a2.out, rq (Kd.R_mono d3.out (fun _ hk => trivial)), IsS86.q a0.out, below_step g6.out (hsk HB.out (IsS86.ge a0.out)), hsk HB.out (IsS86.ge a0.out), e0.out⟩
end Go.Proofs.YtbdpnkpienpnaaaGreatDoor.P
