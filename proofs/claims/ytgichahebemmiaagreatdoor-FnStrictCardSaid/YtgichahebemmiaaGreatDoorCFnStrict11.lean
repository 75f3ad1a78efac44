/- A part of the proof of the law FnStrict. -/
import Derived.Test.YtgichahebemmiaaGreatDoorCFnStrict10
set_option maxHeartbeats 8000000
set_option maxRecDepth 100000
namespace Go.Proofs.YtgichahebemmiaaGreatDoor.P
open Go.RowKit Go.Proofs.YtgichahebemmiaaGreatDoorW.PrintWords Go.Proofs.YtgichahebemmiaaGreatDoorW.PrintLast Go.Proofs.YtgichahebemmiaaGreatDoorW.PrintMore
attribute [local go_sem] Ai1 Ah9 Ak5 Ak4 Ah0 Ag9 Ai2 Ai0   -- for this text's walks alone
set_option linter.unusedVariables false
set_option linter.unusedSimpArgs false
mutual
def Aa8.j0 : Nat → List (S36) → Int → Int → Bool → List Int → Int → Option (List Int × Int)
 | 0, _, _, _, _, _, _ => none
 | k + 1, x1, x2, x3, a7, a2, a5 => if a7 = true then (some ((([0] : List Int)), a5)) else ((Ab6.f k a2 a5 x1 x2 x3).bind fun a0 => ((Ae1.f a2 a0.2 11).bind fun a4 => (if a4.1 = true then ((Ad7.f a2 a4.2 4).bind fun a1 => (if a1.1 = 0 then (if 0 ≤ (wrap64 ((a0.1.length : Int) - 1)) then (if (wrap64 ((a0.1.length : Int) - 1)) ≤ (a0.1.length : Int) then (some ((a0.1.take ((wrap64 ((a0.1.length : Int) - 1)) : Int).toNat), a1.2)) else (none)) else (none)) else (if a1.1 = 1 then (if a0.1.length < 17592186044416 then (some ((a0.1 ++ [0]), a1.2)) else (none)) else (if a1.1 = 2 then ((Ad7.f a2 a1.2 (a0.1.length : Int)).bind fun a3 => (if 0 < (x1.length : Int) then ((Ad8.f a2 a3.2 (([(((Ad6 x1 0).f0).length : Int), (-13), (-12)] : List Int))).bind fun a6 => (if 0 ≤ a3.1 then (if a3.1 < (a0.1.length : Int) then (some ((a0.1.set (a3.1 : Int).toNat a6.1), a6.2)) else (none)) else (none))) else (none))) else (Aa8.l0 k (([] : List Int)) 0 a2 a1.2))))) else (some (a0.1, a4.2)))))
def Aa8.l0 : Nat → List Int → Int → List Int → Int → Option (List Int × Int)
 | 0, _, _, _, _ => none
 | k + 1, a4, a5, a0, a3 => (Ad8.f a0 a3 (([24, 25] : List Int))).bind fun a1 => (if a5 < a1.1 then ((Ad8.f a0 a1.2 (([1, 2, 0] : List Int))).bind fun a2 => (if a4.length < 17592186044416 then (Aa8.l0 k (a4 ++ [a2.1]) (wrap64 (a5 + 1)) a0 a2.2) else (none))) else (some (a4, a1.2)))
end
def Aa8.f (k : Nat) (a0 : List Int) (a1 : Int) (l1 : List (S36)) (a2 : Int) (a3 : Int) : Option (List Int × Int) := if 0 < (l1.length : Int) then (if (((Ad6 l1 0).f0).length : Int) < 1 then (Aa8.j0 k l1 a2 a3 true a0 a1) else ((Aa4.f k ((Ad6 l1 0).f0)).bind fun a4 => (Aa8.j0 k l1 a2 a3 (a4 != 0) a0 a1))) else (none)
def Aa8.T12 : Bool × List (List Nat × List Nat) := (true, [([], []), ([], []), ([], []), ([2], [2]), ([1, 3], [1, 3]), ([], []), ([], []), ([6], [6]), ([7], [7]), ([8], [8]), ([9], [9]), ([10], [10]), ([5, 11, 4], [5, 11]), ([0, 4, 0, 1, 2, 3, 4, 5, 6, 7, 8, 9, 10, 11, 12], [0, 4]), ([13, 12, 12, 0, 1, 2, 3, 4, 5, 6, 7, 8, 9, 10, 11, 12], [12, 13])])
def Aa8.B12 : List Nat := [0, 0, 0, 4, 14, 0, 0, 64, 192, 448, 960, 1984, 4094, 8191, 16383]
theorem Aa8.tab12 : Au3 .any (Au5 Tryz.f72 12) = Aa8.T12 := by kernel_rfl
theorem Aa8.bits12 : Al2 Aa8.T12.2 Aa8.B12 = true := by kernel_rfl
theorem Aa8.calls (k : Nat) (g : Nat) (a6 : List Int) (e4 : Int) (A1 : Option Addr) (l1 : List (S36)) (a2 : Int) (a3 : Int) (r1 : List Int) (r2 : Int) (w0 w : World) (hI : Aa0 w0 w g a6 e4) (hB : Below w0.heap.size w0 w) (z2 : ∀ W_, Ab7 w W_ g none → Kd.C k36 W_ A1 l1.length l1) (h : Aa8.f k a6 e4 l1 a2 a3 = some (r1, r2)) :
  Calls Tryz.prog 72 #[.pointer (some ⟨g, 0, none⟩), .pointer A1, .int .i64 a2, .int .i64 a3] w fun e w' => ∃ z3 : Value, e = .returned (z3) ∧ Kd.R (Kd.int .i64) 2 w' w.heap.size (fun _ => True) z3 r1 ∧ Aa0 w0 w' g a6 r2 ∧ Below w0.heap.size w0 w' ∧ Ab7 w w' g none := by
 have C0 := Tryz.underlying36
 have d3 := am z2
 clear z2
 have a1 := am hI
 have HK := am (Ab7.refl w g none)
 have HL := am hB.size
 clear hI
 have E6 := am hB.size
 have HB := am hB
 clear hB
 have H : (if 0 < (l1.length : Int) then (if (((Ad6 l1 0).f0).length : Int) < 1 then (Aa8.j0 k l1 a2 a3 true a6 e4) else ((Aa4.f k ((Ad6 l1 0).f0)).bind fun k7 => (Aa8.j0 k l1 a2 a3 (k7 != 0) a6 e4))) else (none)) = some (r1, r2) := h
 clear h
 have u9 := am H
 clear H
 go_enter Tryz.func72, Tryz.ntmps72
 go_upto_region 1 with (fail)
 go_cut [24] (fun C1 wc => ∃ (kq : Nat) (g5 : Bool), C1 = .bool g5 ∧ Aside0 (Aa8.j0 kq l1 a2 a3 g5 a6 e4 = some (r1, r2)) ∧ Aside0 (kq ≤ k) ∧ Aside0 (Aa0 w0 wc g a6 e4) ∧ Aside0 (Ab7 w wc g none) ∧ Aside0 (Below w0.heap.size w0 wc))
 case first =>
  have H := u9.out
  clear u9
  obtain ⟨c6, H⟩ := ifs H
  have q0 := decide_eq_true c6
  have C2 : decide (0 < l1.length) = true := decide_eq_true (by omega)
  clear c6
  (first | rw [q0] | (simp only [Ae6, Ae7]; rw [q0]) | skip)
  by_cases c7 : (((Ad6 l1 0).f0).length : Int) < 1
  ·rw [if_pos c7] at H
   have v0 := decide_eq_true c7
   have v2 : decide (((Ad6 l1 0).f0).length < 1) = true := decide_eq_true (by omega)
   clear c7
   have H' := am H
   clear H
   have g0 : 0 ≤ (0 : Int) := (by omega)
   have g1 : 0 < (l1.length : Int) := od
   obtain ⟨e5, n4, n5, n6, a9, b2, b3⟩ := Aj0 (Kd.C_foot_now d3.out HK.out) 0 g0 g1
   cases n6
   have q1 : (0 < l1.length) = True := eq_true (by omega)
   (try simp only [t0_] at a9)
   have d4 := am b3
   have k8 := am b2
   clear b3 b2
   obtain ⟨g0, g1⟩ := ee g0 g1
   have g2 : 0 ≤ (0 : Int) := (by omega)
   have g3 : 0 < (l1.length : Int) := od
   obtain ⟨j9, n7, n8, n9, b4, b5, b6⟩ := Aj0 (Kd.C_foot_now d3.out HK.out) 0 g2 g3
   obtain rfl : e5 = j9 := (by injection n9)
   have q2 : (0 < l1.length) = True := eq_true (by omega)
   (try simp only [t0_] at b4)
   have d5 := am b6
   have k9 := am b5
   clear b6 b5
   obtain ⟨g2, g3⟩ := ee g2 g3
   obtain ⟨rfl, rfl⟩ := sj a9 b4
   go_wp2
   go_meet
   case rel => exact ⟨_, (true), et, H', lo, ⟨Aa0.q a1.out⟩, ⟨kq HK.out⟩, ⟨hsk HB.out (Aa0.ge a1.out)⟩⟩
  ·rw [if_neg c7] at H
   have v0 := decide_eq_false c7
   have v2 : decide (((Ad6 l1 0).f0).length < 1) = false := decide_eq_false (by omega)
   clear c7
   obtain ⟨k7, A8, H⟩ := ob H
   try dsimp only at H
   have H' := am H
   clear H
   have g0 : 0 ≤ (0 : Int) := (by omega)
   have g1 : 0 < (l1.length : Int) := od
   obtain ⟨e5, n4, n5, n6, a9, b2, b3⟩ := Aj0 (Kd.C_foot_now d3.out HK.out) 0 g0 g1
   cases n6
   have q1 : (0 < l1.length) = True := eq_true (by omega)
   (try simp only [t0_] at a9)
   have d4 := am b3
   have k8 := am b2
   clear b3 b2
   obtain ⟨g0, g1⟩ := ee g0 g1
   have g2 : 0 ≤ (0 : Int) := (by omega)
   have g3 : 0 < (l1.length : Int) := od
   obtain ⟨j9, n7, n8, n9, b4, b5, b6⟩ := Aj0 (Kd.C_foot_now d3.out HK.out) 0 g2 g3
   obtain rfl : e5 = j9 := (by injection n9)
   have q2 : (0 < l1.length) = True := eq_true (by omega)
   (try simp only [t0_] at b4)
   have d5 := am b6
   have k9 := am b5
   clear b6 b5
   obtain ⟨g2, g3⟩ := ee g2 g3
   obtain ⟨rfl, rfl⟩ := sj a9 b4
   have o0 : 0 ≤ (0 : Int) := (by omega)
   have o1 : 0 < (l1.length : Int) := od
   obtain ⟨q3, v3, v4, v5, g6, g7, g8⟩ := Aj0 (Kd.C_foot_now d3.out HK.out) 0 o0 o1
   obtain rfl : e5 = q3 := (by injection v5)
   have z4 : (0 < l1.length) = True := eq_true (by omega)
   (try simp only [t0_] at g6)
   have g9 := am g8
   have u3 := am g7
   clear g8 g7
   obtain ⟨o0, o1⟩ := ee o0 o1
   obtain ⟨rfl, rfl⟩ := sj a9 g6
   have o2 : 0 ≤ (0 : Int) := (by omega)
   have o3 : 0 < (l1.length : Int) := od
   obtain ⟨q4, v6, v7, v8, h0, h2, h3⟩ := Aj0 (Kd.C_foot_now d3.out HK.out) 0 o2 o3
   obtain rfl : e5 = q4 := (by injection v8)
   have z5 : (0 < l1.length) = True := eq_true (by omega)
   (try simp only [t0_] at h0)
   have d6 := am h3
   have l4 := am h2
   clear h3 h2
   obtain ⟨o2, o3⟩ := ee o2 o3
   obtain ⟨rfl, rfl⟩ := sj a9 h0
   go_wp2_with (first | (go_at_call 45; refine (Aa4.calls k _ _ ((Ad6 l1 0).f0) k7 _ (cq (cq d6.out)) l4.out A8.out).mono ?_; rintro e w9 ⟨rfl, hb⟩; replace d4 := am (Kd.C_below (cq d4.out) hb); replace d5 := am (Kd.C_below (cq d5.out) hb); replace g9 := am (Kd.C_below (cq g9.out) hb); replace d6 := am (Kd.C_below (cq d6.out) hb); replace HK := ku HK hb; replace HB := am (Ad9 (hsk HB.out (Aa0.ge a1.out)) hb); replace a1 := Aa0.bl a1 hb; (try clear hb); (try clear hk); (try clear hi)))
   go_meet
   case rel => exact ⟨_, ((k7 != 0)), et, H', lo, ⟨Aa0.q a1.out⟩, ⟨kq HK.out⟩, ⟨hsk HB.out (Aa0.ge a1.out)⟩⟩
 case rest =>
  clear u9
  obtain ⟨kq, g5, rfl, HA, z6, a1, HK, HB⟩ := hcut
  cases kq with
  | zero => exact absurd HA.out (by simp [Aa8.j0])
  | succ u4 =>
   have H := HA.out
   clear HA
   simp only [Aa8.j0] at H
   by_cases c10 : g5 = true
   ·subst c10
    rw [if_pos rfl] at H
    obtain ⟨v9, h4⟩ : ∃ y_ : List Int, y_ = (([0] : List Int)) := ⟨_, rfl⟩
    replace H : (some (v9, e4)) = some (r1, r2) := by first | (rw [h4]; first | with_reducible exact H | with_reducible exact bs H) | with_reducible exact bs H | with_reducible exact H | (rw [h4]; exact H) | exact H
    have m2 := am h4
    clear h4
    simp only [Option.some.injEq, Prod.mk.injEq] at H
    obtain ⟨rfl, rfl⟩ := H
    go_wp2_with (first | (refine rl 25 rfl 2 [0] ?_; intro C3 E7 k0 hb k1 hnew_; clear k1 hnew_; (first | rw [← m2.out] at k0 | (simp only [Int.reduceToNat] at k0; rw [← m2.out] at k0)); have q5 := am (Kd.R_lower k0 (Ae0 (w := w) (g := g) (row := none) (kq HK.out))); replace HK := ku HK hb; replace HB := am (Ad9 (hsk HB.out (Aa0.ge a1.out)) hb); replace a1 := Aa0.bl a1 hb; clear hb k0))
    go_ret
    exact ⟨_, er, rq q5.out, Aa0.q a1.out, hsk HB.out (Aa0.ge a1.out), kq HK.out⟩
   ·replace c10 := Bool.eq_false_iff.mpr c10
    subst c10
    rw [if_neg (show ¬ (false = true) by decide)] at H
    obtain ⟨⟨a8, q6⟩, C4, H⟩ := ob H
    try dsimp only at H
    obtain ⟨⟨q7, q8⟩, C5, H⟩ := ob H
    try dsimp only at H
    have q9 := am H
    clear H
    go_upto_if 33 with (first | (refine gl (some 30) Tryz.func92 rfl #[.pointer (some ⟨g, 0, none⟩), .pointer A1, .int .i64 a2, .int .i64 a3] ?_; refine (Ab6.calls u4 g a6 e4 _ l1 a2 a3 a8 q6 w0 _ (Aa0.q a1.out) (hsk HB.out (Aa0.ge a1.out)) (Kd.C_foot_step d3.out (kq HK.out)) C4.out).mono ?_; rintro e E8 ⟨w2, rfl, z7, hi, hb, hk⟩; refine ⟨_, rfl, ?_⟩; have a0 := am (Kd.R_lower z7 (Ae0 (w := w) (g := g) (row := none) (kq HK.out))); replace HK := kt HK hk; replace HB := am (hb); replace a1 := am (hi); clear hb hk hi z7) | (refine gl (some 32) Tryz.func70 rfl #[.pointer (some ⟨g, 0, none⟩), .int .i64 11] ?_; refine (Ae1.calls g a6 q6 11 q7 q8 w0 _ (Aa0.q a1.out) (hsk HB.out (Aa0.ge a1.out)) C5.out).mono ?_; rintro e E9 ⟨rfl, hi, hb, hk⟩; refine ⟨_, rfl, ?_⟩; replace a0 := Aa0.rk a1 a0 hk; replace HK := kt HK hk; replace HB := am (hb); replace a1 := am (hi); clear hb hk hi))
    have H := q9.out
    clear q9
    by_cases r0 : q7 = true
    ·subst r0
     rw [if_pos rfl] at H
     obtain ⟨⟨l5, e6⟩, C6, H⟩ := ob H
     try dsimp only at H
     have r3 := am H
     clear H
     go_upto_if 37 with (first | (refine gl (some 36) Tryz.func75 rfl #[.pointer (some ⟨g, 0, none⟩), .int .i64 4] ?_; refine (Ad7.calls g a6 q8 4 l5 e6 w0 _ (Aa0.q a1.out) (hsk HB.out (Aa0.ge a1.out)) C6.out).mono ?_; rintro e C7 ⟨rfl, hi, hb, hk⟩; refine ⟨_, rfl, ?_⟩; replace a0 := Aa0.rk a1 a0 hk; replace HK := kt HK hk; replace HB := am (hb); replace a1 := am (hi); clear hb hk hi))
     have H := r3.out
     clear r3
     by_cases p6 : l5 = 0
     ·rw [if_pos p6] at H
      obtain ⟨d2, m3⟩ := bqt p6; clear p6
      (first | rw [d2] | (simp only [Ae6, Ae7]; rw [d2]) | skip)
      obtain ⟨d7, h5⟩ : ∃ j_ : Int, (wrap64 ((a8.length : Int) - 1)) = j_ := ⟨_, rfl⟩
      replace H : (if 0 ≤ (d7) then (if (d7) ≤ (a8.length : Int) then (some ((a8.take ((d7) : Int).toNat), e6)) else (none)) else (none)) = some (r1, r2) := by first | (rw [h5] at H; exact H) | (simp only [h5] at H ⊢; exact H)
      have hji23w : (IntKind.i64.wrap ((a8.length : Int) - 1)) = d7 := (Ae6 _).trans h5
      obtain ⟨z8, z9, H⟩ := ifd H
      obtain ⟨A0, A2, H⟩ := ifd H
      obtain ⟨r4, h6⟩ : ∃ y_ : List Int, y_ = (a8.take ((d7) : Int).toNat) := ⟨_, rfl⟩
      replace H : (some (r4, e6)) = some (r1, r2) := by first | (rw [h6]; first | with_reducible exact H | with_reducible exact bs H) | with_reducible exact bs H | with_reducible exact H | (rw [h6]; exact H) | exact H
      have m4 := am h6
      clear h6
      simp only [Option.some.injEq, Prod.mk.injEq] at H
      obtain ⟨rfl, rfl⟩ := H
      obtain ⟨w3, w4, w5⟩ := Kd.R_slice a0.out
      subst w5
      have w6 : ((d7) : Int) ≤ ((a8.length : Int) : Int) := od
      obtain ⟨C8, m5, _, r5, _⟩ := info_parts Au1
      have hcut27 := cut_to (P := Tryz.prog) 25 2 .i64 Tryz.underlying25 m5 w3 a8.length w4 (d7) od w6 (Kd.R_reads' a0.out).2.1
      have l6 := Kd.R_take (m := ((d7) : Int).toNat) a0.out (by omega)
      have r6 : r4.length = ((d7) : Int).toNat := (by rw [m4.out, List.length_take]; omega)
      rw [← m4.out] at l6
      rw [← r6] at l6 hcut27
      clear r6 m5 r5 a0
      have r7 := am l6
      clear l6
      replace w6 := eq_true w6
      go_wp2
      go_ret
      exact ⟨_, by first | rfl | (simp [Ag8, Ag7] <;> rfl) | (simp only [← h5]; first | rfl | (simp [Ag8, Ag7] <;> rfl)) | (simp [*, Ag8, Ag7] <;> rfl), rq r7.out, Aa0.q a1.out, hsk HB.out (Aa0.ge a1.out), kq HK.out⟩
     ·rw [if_neg p6] at H
      obtain ⟨d2, m3⟩ := bqf p6
      (first | rw [d2] | (simp only [Ae6, Ae7]; rw [d2]) | skip)
      by_cases p7 : l5 = 1
      ·rw [if_pos p7] at H
       obtain ⟨m6, m7⟩ := bqt p7; clear p7
       obtain ⟨A3, H⟩ := ifs H
       have r8 := am A3
       clear A3
       obtain ⟨w7, h7⟩ : ∃ y_ : List Int, y_ = (a8 ++ [0]) := ⟨_, rfl⟩
       replace H : (some (w7, e6)) = some (r1, r2) := by first | (rw [h7]; first | with_reducible exact H | with_reducible exact bs H) | with_reducible exact bs H | with_reducible exact H | (rw [h7]; exact H) | exact H
       have r9 := am h7
       clear h7
       simp only [Option.some.injEq, Prod.mk.injEq] at H
       obtain ⟨rfl, rfl⟩ := H
       go_wp2_with (first | ((with_reducible refine Ah1 (b := .append) (xs := #[.tmp 46, .tmp 47]) rfl ?_); at_builtin; refine Kd.R_append (Kd.int .i64) w.heap.size rfl (.tmp 46) (.tmp 47) 25 2 (.int .i64 0) 8 rfl Tryz.underlying25 Au1 rfl (by decide) (by omega) w2 a8 0 [.int .i64 0] (fun _ => True) (fun _ => False) rfl rfl ?aP (fun _ hk => hk.elim) ?aF ?aO (Below.refl _ _) ?aS ?aL ?_; (case aP => exact rfl); (case aF => exact (fun _ _ => trivial)); (case aO => exact (rq a0.out)); (case aS => exact (Ae0 (w := w) (g := g) (row := none) (kq HK.out))); (case aL => have := r8.out; omega); intro C9 F0 ho hb hg hat; rw [← r9.out] at ho; replace HB := am (Aq4 (hsk HB.out (Aa0.ge a1.out)) HL.out hb); replace a1 := am (Aa0.grown (Aa0.q a1.out) hg (Aa0.own_ne a1.out a0.out (by decide))); replace HK := am (Ab7.trans (kq HK.out) (Ab7.of_grown hg g) (Kd.R_base2 a0.out)); have s0 := am (ho); clear a0; clear ho hb hg hat))
       go_ret
       exact ⟨_, er, rq s0.out, Aa0.q a1.out, hsk HB.out (Aa0.ge a1.out), kq HK.out⟩
      ·rw [if_neg p7] at H
       obtain ⟨m6, m7⟩ := bqf p7
       by_cases p8 : l5 = 2
       ·rw [if_pos p8] at H
        obtain ⟨m8, m9⟩ := bqt p8; clear p8
        obtain ⟨⟨d0, k3⟩, A4, H⟩ := ob H
        try dsimp only at H
        obtain ⟨A5, H⟩ := ifs H
        have A6 := decide_eq_true A5
        have A7 : decide (0 < l1.length) = true := decide_eq_true (by omega)
        clear A5
        obtain ⟨l7, h8⟩ : ∃ y_ : List Int, y_ = (([(((Ad6 l1 0).f0).length : Int), (-13), (-12)] : List Int)) := ⟨_, rfl⟩
        replace H : ((Ad8.f a6 k3 l7).bind fun n0 => (if 0 ≤ d0 then (if d0 < (a8.length : Int) then (some ((a8.set (d0 : Int).toNat n0.1), n0.2)) else (none)) else (none))) = some (r1, r2) := by first | (rw [h8]; first | with_reducible exact H | with_reducible exact bs H) | with_reducible exact bs H | with_reducible exact H | (rw [h8]; exact H) | exact H
        have h9 := am h8
        clear h8
        obtain ⟨⟨o4, s1⟩, D0, H⟩ := ob H
        try dsimp only at H
        obtain ⟨A9, H⟩ := ife H
        obtain ⟨B0, H⟩ := ife H
        obtain ⟨w8, i0⟩ : ∃ y_ : List Int, y_ = (a8.set (d0 : Int).toNat o4) := ⟨_, rfl⟩
        replace H : (some (w8, s1)) = some (r1, r2) := by first | (rw [i0]; first | with_reducible exact H | with_reducible exact bs H) | with_reducible exact bs H | with_reducible exact H | (rw [i0]; exact H) | exact H
        have s2 := am i0
        clear i0
        simp only [Option.some.injEq, Prod.mk.injEq] at H
        obtain ⟨rfl, rfl⟩ := H
        try go_wp2
        replace a0 := am (Kd.R_drew a0.out)
        replace a1 := am (Aa0.drew a1.out)
        replace HK := am (As5 HK.out)
        replace HB := am (Af1 HB.out)
        obtain ⟨s3, s4, s5⟩ := Kd.R_slice a0.out
        (first | subst s5 | (injection s5 with s6 x0 s7; have x1 := s6.symm; have x2 := s7.symm; clear s6 x0 s7; subst x1; subst x2))
        have o5 : 0 ≤ (0 : Int) := (by omega)
        have o6 : 0 < (l1.length : Int) := od
        obtain ⟨d1, d8, d9, x3, b7, i1, i2⟩ := Aj0 (Kd.C_foot_now d3.out HK.out) 0 o5 o6
        have l8 := b7
        (try simp only [t0_] at l8)
        cases x3
        have a4 := (show (d1 : Addr).block ≠ g from by first | (rw [Ag3]; exact Kd.foot_ne d3.out (by omega) (by decide)) | (show (Addr.add _ _).block ≠ _; rw [Ag3]; exact Kd.foot_ne d3.out (by omega) (by decide)) | exact Kd.foot_ne d3.out (by omega) (by decide) | (dsimp only; exact Kd.foot_ne d3.out (by omega) (by decide)))
        have s8 := (Kd.foot_lt d3.out (by omega) (by decide))
        have B2 : (0 < l1.length) = True := eq_true (by omega)
        (try simp only [t0_] at b7)
        have e0 := am i2
        have u5 := am i1
        clear i2 i1
        obtain ⟨o5, o6⟩ := ee o5 o6
        have o7 : 0 ≤ (0 : Int) := (by omega)
        have o8 : 0 < (l1.length : Int) := od
        obtain ⟨s9, x4, x5, x6, b8, i3, i4⟩ := Aj0 (Kd.C_foot_now d3.out HK.out) 0 o7 o8
        have l9 := b8
        (try simp only [t0_] at l9)
        obtain rfl : d1 = s9 := (by injection x6)
        have a5 := (show (d1 : Addr).block ≠ g from by first | (rw [Ag3]; exact Kd.foot_ne d3.out (by omega) (by decide)) | (show (Addr.add _ _).block ≠ _; rw [Ag3]; exact Kd.foot_ne d3.out (by omega) (by decide)) | exact Kd.foot_ne d3.out (by omega) (by decide) | (dsimp only; exact Kd.foot_ne d3.out (by omega) (by decide)))
        have t0 := (Kd.foot_lt d3.out (by omega) (by decide))
        have B4 : (0 < l1.length) = True := eq_true (by omega)
        (try simp only [t0_] at b8)
        have e1 := am i4
        have u6 := am i3
        clear i4 i3
        obtain ⟨o7, o8⟩ := ee o7 o8
        obtain ⟨rfl, rfl⟩ := sj b7 b8
        refine st_ (n := 15) (S := fun w' => w'.cell? d1 = some (.slice d8 ((Ad6 l1 0).f0).length d9) ∧ w'.cell? d1 = some (.slice d8 ((Ad6 l1 0).f0).length d9)) (ds := [14]) ⟨b7, b8⟩ (fun hHeld => ?_); refine Ah6 Aa8.tab12 Aa8.bits12 (fun e7 D1 => ?_)
        generalize C7.drew = F1 at a0 a1 HK HB e0 e1 b7 b8 hHeld ⊢
        refine pu 0 51 rfl rfl e7 ?_
        refine pu 1 52 rfl rfl e7 ?_
        refine pu 2 53 rfl rfl e7 ?_
        refine pu 3 54 rfl rfl e7 ?_
        refine pu 5 56 rfl rfl e7 ?_
        refine pu 6 57 rfl rfl e7 ?_
        refine pu 7 58 rfl rfl e7 ?_
        refine pu 8 59 rfl rfl e7 ?_
        refine tk 9 60 rfl rfl e7 D1 hHeld ?_
        refine pu 10 61 rfl rfl e7 ?_
        refine Bl8 (σ := Value) 3 #[true, true, true, true, true, true, true, true, true, true, true, true, false, false, false] (fun s_ => [(55, .int .i64 d0), (62, s_)]) (fun s_ w' => (w'.cell? d1 = some (.slice d8 ((Ad6 l1 0).f0).length d9) ∧ w'.cell? d1 = some (.slice d8 ((Ad6 l1 0).f0).length d9)) ∧ (Kd.R (Kd.int .i64) 2 w' w.heap.size (fun k_ => some k_ ≠ (s_ : Value).ownBlock) (.slice s3 a8.length s4) a8) ∧ (Kd.R (Kd.int .i64) 2 w' w.heap.size (fun k_ => some k_ ≠ (.slice s3 a8.length s4 : Value).ownBlock) s_ l7) ∧ (Aa0 w0 w' g a6 k3) ∧ (Ab7 w w' g none) ∧ (Below w0.heap.size w0 w')) ?_ ?_
        rotate_left
        ·intro hCont
         refine Bn3 (i := 4) (j := 11) (Ni := some 55) (Nj := some 62) #[true, true, true, true, true, true, true, true, true, true, true, false, false, false, false] #[true, true, true, true, false, true, true, true, true, true, true, true, false, false, false] rfl rfl rfl rfl (Bc2 e7.out (by kernel_rfl)) (by decide) (by decide) (fun K hK => ?_) (fun K hK => ?_)
         ·skip
          refine gs Tryz.func75 #[.pointer (some ⟨g, 0, none⟩), .int .i64 (a8.length : Int)] ?_
          refine (Ad7.calls g a6 e6 (a8.length : Int) d0 k3 w0 _ (Aa0.q a1.out) (hsk HB.out (Aa0.ge a1.out)) A4.out).mono ?_
          rintro e D2 ⟨rfl, hi, hb, hk⟩
          have e2 := Av0 hk (hHeld.1) (by first | (rw [Ag3]; exact a4) | (show (Addr.add _ _).block ≠ _; rw [Ag3]; exact a4) | exact a4)
          have e3 := Av0 hk (hHeld.2) (by first | (rw [Ag3]; exact a5) | (show (Addr.add _ _).block ≠ _; rw [Ag3]; exact a5) | exact a5)
          refine ⟨_, rfl, ?_⟩
          replace a0 := Aa0.rk a1 a0 hk
          replace HK := kt HK hk
          replace HB := am (hb)
          replace a1 := am (hi)
          (try clear hb)
          (try clear hk)
          (try clear hi)
          refine hK.out _ _ ⟨e2, e3⟩ (fun hHeld => ?_)
          clear hK K
          refine nr (some 55) ?_
          refine on_ 11 (some 62) rfl rfl e7 (fun K hK => ?_)
          refine Kd.R_lit_step (Kd.int .i64) _ 2 ?hg (N := 62) ?hd (xs := ([(((Ad6 l1 0).f0).length : Int), (-13), (-12)] : List Int)) (inner := [.int .i64 (((Ad6 l1 0).f0).length : Int), .int .i64 (-13), .int .i64 (-12)]) (ok := fun _ => True) (okp := fun _ => True) ?hr ?hp (fun _ hk => hk) trivial (Below.refl _ _) (Nat.le_refl _) (by simp) ?_; (case hd => rfl); (case hg => rfl); (case hr => first | (go_simp; done) | (go_simp; rfl)); (case hp => exact (Aj9.one (show Kd.M (Kd.int .i64) _ _ _ (((Ad6 l1 0).f0).length : Int) [.int .i64 (((Ad6 l1 0).f0).length : Int)] from rfl) (Aj9.one (show Kd.M (Kd.int .i64) _ _ _ (-13) [.int .i64 (-13)] from rfl) (Aj9.one (show Kd.M (Kd.int .i64) _ _ _ (-12) [.int .i64 (-12)] from rfl) (Aj9.none _ _)))))
          intro m0 F2 j5 hb k1 hnew_
          have e2 := (hb.cell (World.block_lt_of_cell? _ _ (hHeld.1))).trans (hHeld.1)
          have e3 := (hb.cell (World.block_lt_of_cell? _ _ (hHeld.2))).trans (hHeld.2)
          clear k1 hnew_
          (first | rw [← h9.out] at j5 | (simp only [Int.reduceToNat] at j5; rw [← h9.out] at j5))
          have b0 := am (Kd.R_lower (Kd.R_new' j5 (Kd.R_lt (rq a0.out))) (Ae0 (w := w) (g := g) (row := none) (kq HK.out)))
          replace a0 := am (Kd.R_elder' (rq a0.out) (Kd.R_base j5) hb)
          replace HK := ku HK hb
          replace HB := am (Ad9 (hsk HB.out (Aa0.ge a1.out)) hb)
          replace a1 := Aa0.bl a1 hb
          clear hb j5
          refine hK.out _ _ ⟨e2, e3⟩ (fun hHeld => ?_)
          clear hK K
          refine nr (some 62) ?_
          exact nj (hCont (m0) _ ⟨hHeld, (rq (Kd.R_mono a0.out (fun _ hk => hk.2))), (rq (Kd.R_mono b0.out (fun _ hk => hk.2))), (Aa0.q a1.out), (kq HK.out), (hsk HB.out (Aa0.ge a1.out))⟩)
         ·skip
          refine Kd.R_lit_step (Kd.int .i64) _ 2 ?hg (N := 62) ?hd (xs := ([(((Ad6 l1 0).f0).length : Int), (-13), (-12)] : List Int)) (inner := [.int .i64 (((Ad6 l1 0).f0).length : Int), .int .i64 (-13), .int .i64 (-12)]) (ok := fun _ => True) (okp := fun _ => True) ?hr ?hp (fun _ hk => hk) trivial (Below.refl _ _) (Nat.le_refl _) (by simp) ?_; (case hd => rfl); (case hg => rfl); (case hr => first | (go_simp; done) | (go_simp; rfl)); (case hp => exact (Aj9.one (show Kd.M (Kd.int .i64) _ _ _ (((Ad6 l1 0).f0).length : Int) [.int .i64 (((Ad6 l1 0).f0).length : Int)] from rfl) (Aj9.one (show Kd.M (Kd.int .i64) _ _ _ (-13) [.int .i64 (-13)] from rfl) (Aj9.one (show Kd.M (Kd.int .i64) _ _ _ (-12) [.int .i64 (-12)] from rfl) (Aj9.none _ _)))))
          intro m0 D2 j6 hb k1 hnew_
          have e2 := (hb.cell (World.block_lt_of_cell? _ _ (hHeld.1))).trans (hHeld.1)
          have e3 := (hb.cell (World.block_lt_of_cell? _ _ (hHeld.2))).trans (hHeld.2)
          clear k1 hnew_
          (first | rw [← h9.out] at j6 | (simp only [Int.reduceToNat] at j6; rw [← h9.out] at j6))
          have b0 := am (Kd.R_lower (Kd.R_new' j6 (Kd.R_lt (rq a0.out))) (Ae0 (w := w) (g := g) (row := none) (kq HK.out)))
          replace a0 := am (Kd.R_elder' (rq a0.out) (Kd.R_base j6) hb)
          replace e0 := am (Kd.C_below (cq e0.out) hb)
          replace e1 := am (Kd.C_below (cq e1.out) hb)
          replace HK := ku HK hb
          replace HB := am (Ad9 (hsk HB.out (Aa0.ge a1.out)) hb)
          replace a1 := Aa0.bl a1 hb
          clear hb j6
          refine hK.out _ _ ⟨e2, e3⟩ (fun hHeld => ?_)
          clear hK K
          refine nr (some 62) ?_
          refine on_ 4 (some 55) rfl rfl e7 (fun K hK => ?_)
          refine gs Tryz.func75 #[.pointer (some ⟨g, 0, none⟩), .int .i64 (a8.length : Int)] ?_
          refine (Ad7.calls g a6 e6 (a8.length : Int) d0 k3 w0 _ (Aa0.q a1.out) (hsk HB.out (Aa0.ge a1.out)) A4.out).mono ?_
          rintro e F3 ⟨rfl, hi, hb, hk⟩
          have e2 := Av0 hk (hHeld.1) (by first | (rw [Ag3]; exact a4) | (show (Addr.add _ _).block ≠ _; rw [Ag3]; exact a4) | exact a4)
          have e3 := Av0 hk (hHeld.2) (by first | (rw [Ag3]; exact a5) | (show (Addr.add _ _).block ≠ _; rw [Ag3]; exact a5) | exact a5)
          refine ⟨_, rfl, ?_⟩
          replace a0 := Aa0.rk a1 a0 hk
          replace b0 := Aa0.rk a1 b0 hk
          replace HK := kt HK hk
          replace HB := am (hb)
          replace a1 := am (hi)
          (try clear hb)
          (try clear hk)
          (try clear hi)
          refine hK.out _ _ ⟨e2, e3⟩ (fun hHeld => ?_)
          clear hK K
          refine nr (some 55) ?_
          exact nj (hCont (m0) _ ⟨hHeld, (rq (Kd.R_mono a0.out (fun _ hk => hk.2))), (rq (Kd.R_mono b0.out (fun _ hk => hk.2))), (Aa0.q a1.out), (kq HK.out), (hsk HB.out (Aa0.ge a1.out))⟩)
        clear a0 a1 HK HB
        rintro m0 F4 ⟨B5, x7, x8, x9, y0, y1⟩
        try dsimp only at B5 x7 x8 x9 y0 y1
        have a0 := am x7; have b0 := am x8; have a1 := am x9; have HK := am y0; have HB := am y1; clear x7 x8 x9 y0 y1; have hHeld := B5
        obtain ⟨y2, y3, t1⟩ := Kd.R_slice b0.out
        (first | subst t1 | (injection t1 with s6 x0 s7; have x1 := s6.symm; have x2 := s7.symm; clear s6 x0 s7; subst x1; subst x2))
        refine nj ?_
        refine on_ 12 (some 63) rfl rfl e7 (fun K hK => ?_)
        refine gs Tryz.func73 #[.pointer (some ⟨g, 0, none⟩), .slice y2 l7.length y3] ?_
        refine (Ad8.calls g a6 k3 _ _ l7 o4 s1 w0 _ (Aa0.q a1.out) (hsk HB.out (Aa0.ge a1.out)) (cq (Kd.R_reads' b0.out).2.2) ((Kd.R_reads' b0.out).2.1) (Aq8 (Aa0.own_ne a1.out b0.out (by decide))) D0.out).mono ?_
        rintro e F5 ⟨rfl, hi, hb, hk⟩
        have e2 := Av0 hk (hHeld.1) (by first | (rw [Ag3]; exact a4) | (show (Addr.add _ _).block ≠ _; rw [Ag3]; exact a4) | exact a4)
        have e3 := Av0 hk (hHeld.2) (by first | (rw [Ag3]; exact a5) | (show (Addr.add _ _).block ≠ _; rw [Ag3]; exact a5) | exact a5)
        refine ⟨_, rfl, ?_⟩
        replace a0 := Aa0.rk a1 a0 hk
        replace b0 := Aa0.rk a1 b0 hk
        replace HK := kt HK hk
        replace HB := am (hb)
        replace a1 := am (hi)
        (try clear hb)
        (try clear hk)
        (try clear hi)
        have y4 : 0 ≤ (d0 : Int) := od
        have y5 : (d0 : Int) < ((a8.length : Int) : Int) := od
        obtain ⟨y6, D3, t2, t3, y7, D4, t4⟩ := Kd.R_form a0.out (by omega)
        (first | cases t2 | (injection t2 with u7 D5 D6; (first | subst u7 | (injection u7 with u7; subst u7)); subst D6; clear D5))
        have y8 := am t3
        have D7 := am t4
        clear t3 y7 t4
        obtain ⟨y9, z0⟩ := Kd.R_celln 0 a0.out (d0 : Int) y4 y5
        obtain ⟨y4, y5⟩ := ee y4 y5
        have HN0_go37 := am (show g ≠ y6 from by have h_ := Aa0.own_ne a1.out a0.out (by decide); intro e_; exact h_ (by rw [e_]; rfl))
        have o9 := Kd.R_putn a0.out (d0 : Int) o4
        rw [← s2.out] at o9
        have z1 := am o9
        clear o9
        refine hK.out _ _ ⟨e2, e3⟩ (fun hHeld => ?_)
        clear hK K
        refine nr (some 63) ?_
        refine pu 13 64 rfl rfl e7 ?_
        refine Bk4 (i := 14) (N := none) #[true, true, true, true, true, true, true, true, true, true, true, true, true, true, true] rfl rfl (Bf5 e7.out (by kernel_rfl)) (by decide) (fun K hK => ?_)
        refine Be5 (w1 := ?_) (by rfl) rfl ?_ ?_
        rotate_left
        ·go_simp
         rfl
        refine hK.out _ _ ?_
        clear hK K
        refine Ar3 (Al8 e7.out (by kernel_rfl)) ?_
        try go_wp2
        go_ret
        exact ⟨_, er, rq (Kd.R_mono z1.out (fun _ hk => trivial)), Aa0.q a1.out, by repeat (first | (with_reducible first | exact HB.out | apply Ah3 | apply Ak1 | apply Af1 | refine Ak7 ?_ (Nat.le_trans HL.out y8.out) | refine Ak7 ?_ (Aa0.ge a1.out)) | exact HB.out), ks HK.out⟩
       ·rw [if_neg p8] at H
        obtain ⟨m8, m9⟩ := bqf p8
        obtain ⟨t5, i5⟩ : ∃ y_ : List Int, y_ = (([] : List Int)) := ⟨_, rfl⟩
        replace H : (Aa8.l0 u4 t5 0 a6 e6) = some (r1, r2) := by first | (rw [i5]; first | with_reducible exact H | with_reducible exact bs H) | with_reducible exact bs H | with_reducible exact H | (rw [i5]; exact H) | exact H
        have n1 := am i5
        clear i5
        have H' := am H
        clear H
        go_wp2_with (first | (refine rl 66 rfl 2 [] ?_; intro D8 F6 j7 hb k1 hnew_; clear k1 hnew_; (first | rw [← n1.out] at j7 | (simp only [Int.reduceToNat] at j7; rw [← n1.out] at j7)); have t6 := am (Kd.R_lower (Kd.R_new' j7 (Kd.R_lt (rq a0.out))) (Ae0 (w := w) (g := g) (row := none) (kq HK.out))); replace a0 := am (Kd.R_elder' (rq a0.out) (Kd.R_base j7) hb); replace HK := ku HK hb; replace HB := am (Ad9 (hsk HB.out (Aa0.ge a1.out)) hb); replace a1 := Aa0.bl a1 hb; clear hb j7))
        go_loopg [10, 11] u4 (fun kq D9 E0 w' => ∃ (b1 : List Int) (b9 : Int) (c0 : Int), E0 = .int .i64 b9 ∧ Aside0 (Aa8.l0 kq b1 b9 a6 c0 = some (r1, r2)) ∧ Aside0 (kq ≤ u4) ∧ Aside0 (Kd.R (Kd.int .i64) 2 w' w.heap.size (fun _ => True) D9 b1) ∧ Aside0 (Aa0 w0 w' g a6 c0) ∧ Aside0 (Ab7 w w' g none) ∧ Aside0 (Below w0.heap.size w0 w'))
        case atStart => exact ⟨(t5), (0), (e6), et, H', ⟨Nat.le_refl _⟩, ⟨rq (Kd.R_mono t6.out (fun _ hk => trivial))⟩, ⟨Aa0.q a1.out⟩, ⟨kq HK.out⟩, ⟨hsk HB.out (Aa0.ge a1.out)⟩⟩
        case round =>
         clear H'
         try clear c10; try clear r0; try clear p6; try clear d2; try clear m3; try clear p7; try clear m6; try clear m7; try clear p8; try clear m8; try clear m9
         obtain ⟨b1, b9, c0, rfl, HA, B8, HO_10, a1, HK, HB⟩ := hrel
         cases gk with
         | zero => exact absurd HA.out (by simp [Aa8.l0])
         | succ k2 =>
          have H := HA.out
          clear HA
          simp only [Aa8.l0] at H
          obtain ⟨k4, i6⟩ : ∃ y_ : List Int, y_ = (([24, 25] : List Int)) := ⟨_, rfl⟩
          replace H : ((Ad8.f a6 c0 k4).bind fun k5 => (if b9 < k5.1 then ((Ad8.f a6 k5.2 (([1, 2, 0] : List Int))).bind fun e8 => (if b1.length < 17592186044416 then (Aa8.l0 k2 (b1 ++ [e8.1]) (wrap64 (b9 + 1)) a6 e8.2) else (none))) else (some (b1, k5.2)))) = some (r1, r2) := by first | (rw [i6]; first | with_reducible exact H | with_reducible exact bs H) | with_reducible exact bs H | with_reducible exact H | (rw [i6]; exact H) | exact H
          have n2 := am i6
          clear i6
          obtain ⟨⟨t7, p0⟩, E1, H⟩ := ob H
          try dsimp only at H
          have t8 := am H
          clear H
          go_upto_if 71 with (first | (refine rl 69 rfl 2 [24, 25] ?_; intro E2 F7 j8 hb k1 hnew_; clear k1 hnew_; (first | rw [← n2.out] at j8 | (simp only [Int.reduceToNat] at j8; rw [← n2.out] at j8)); have a7 := am (Kd.R_lower (Kd.R_new' j8 (Kd.R_lt (rq HO_10.out))) (Ae0 (w := w) (g := g) (row := none) (kq HK.out))); replace HO_10 := am (Kd.R_elder' (rq HO_10.out) (Kd.R_base j8) hb); replace HK := ku HK hb; replace HB := am (Ad9 (hsk HB.out (Aa0.ge a1.out)) hb); replace a1 := Aa0.bl a1 hb; clear hb j8; obtain ⟨p1, p2, rfl⟩ := Kd.R_slice a7.out) | (refine gl (some 70) Tryz.func73 rfl #[.pointer (some ⟨g, 0, none⟩), .slice p1 k4.length p2] ?_; refine (Ad8.calls g a6 c0 _ _ k4 t7 p0 w0 _ (Aa0.q a1.out) (hsk HB.out (Aa0.ge a1.out)) (cq (Kd.R_reads' a7.out).2.2) ((Kd.R_reads' a7.out).2.1) (Aq8 (Aa0.own_ne a1.out a7.out (by decide))) E1.out).mono ?_; rintro e F8 ⟨rfl, hi, hb, hk⟩; refine ⟨_, rfl, ?_⟩; replace HO_10 := Aa0.rk a1 HO_10 hk; replace a7 := Aa0.rk a1 a7 hk; replace HK := kt HK hk; replace HB := am (hb); replace a1 := am (hi); clear hb hk hi))
          have H := t8.out
          clear t8
          by_cases p9 : b9 < t7
          ·rw [if_pos p9] at H
           have e9 := decide_eq_true p9
           clear p9
           (first | rw [e9] | (simp only [Ae6, Ae7]; rw [e9]) | skip)
           obtain ⟨k6, i7⟩ : ∃ y_ : List Int, y_ = (([1, 2, 0] : List Int)) := ⟨_, rfl⟩
           replace H : ((Ad8.f a6 p0 k6).bind fun e8 => (if b1.length < 17592186044416 then (Aa8.l0 k2 (b1 ++ [e8.1]) (wrap64 (b9 + 1)) a6 e8.2) else (none))) = some (r1, r2) := by first | (rw [i7]; first | with_reducible exact H | with_reducible exact bs H) | with_reducible exact bs H | with_reducible exact H | (rw [i7]; exact H) | exact H
           have n3 := am i7
           clear i7
           obtain ⟨⟨m1, p3⟩, E3, H⟩ := ob H
           try dsimp only at H
           obtain ⟨B9, H⟩ := ifs H
           have t9 := am B9
           clear B9
           obtain ⟨u0, i9⟩ : ∃ y_ : List Int, y_ = (b1 ++ [m1]) := ⟨_, rfl⟩
           replace H : (Aa8.l0 k2 u0 (wrap64 (b9 + 1)) a6 p3) = some (r1, r2) := by first | (rw [i9]; first | with_reducible exact H | with_reducible exact bs H) | with_reducible exact bs H | with_reducible exact H | (rw [i9]; exact H) | exact H
           have u1 := am i9
           clear i9
           have H' := am H
           clear H
           go_wp2_with (first | (refine rl 76 rfl 2 [1, 2, 0] ?_; intro E4 F9 g4 hb k1 hnew_; clear k1 hnew_; (first | rw [← n3.out] at g4 | (simp only [Int.reduceToNat] at g4; rw [← n3.out] at g4)); have c1 := am (Kd.R_lower (Kd.R_new' (Kd.R_new' g4 (Kd.R_lt (rq HO_10.out))) (Kd.R_lt (rq a7.out))) (Ae0 (w := w) (g := g) (row := none) (kq HK.out))); replace HO_10 := am (Kd.R_elder' (rq HO_10.out) (Kd.R_base g4) hb); replace a7 := am (Kd.R_elder' (rq a7.out) (Kd.R_base g4) hb); replace HK := ku HK hb; replace HB := am (Ad9 (hsk HB.out (Aa0.ge a1.out)) hb); replace a1 := Aa0.bl a1 hb; clear hb g4; obtain ⟨p4, p5, rfl⟩ := Kd.R_slice c1.out) | (refine gl (some 77) Tryz.func73 rfl #[.pointer (some ⟨g, 0, none⟩), .slice p4 k6.length p5] ?_; refine (Ad8.calls g a6 p0 _ _ k6 m1 p3 w0 _ (Aa0.q a1.out) (hsk HB.out (Aa0.ge a1.out)) (cq (Kd.R_reads' c1.out).2.2) ((Kd.R_reads' c1.out).2.1) (Aq8 (Aa0.own_ne a1.out c1.out (by decide))) E3.out).mono ?_; rintro e G0 ⟨rfl, hi, hb, hk⟩; refine ⟨_, rfl, ?_⟩; replace HO_10 := Aa0.rk a1 HO_10 hk; replace a7 := Aa0.rk a1 a7 hk; replace c1 := Aa0.rk a1 c1 hk; replace HK := kt HK hk; replace HB := am (hb); replace a1 := am (hi); clear hb hk hi) | ((with_reducible refine Ah1 (b := .append) (xs := #[.tmp 74, .tmp 78]) rfl ?_); at_builtin; refine Kd.R_append (Kd.int .i64) w.heap.size rfl (.tmp 74) (.tmp 78) 25 2 (.int .i64 0) 8 rfl Tryz.underlying25 Au1 rfl (by decide) (by omega) u10 b1 m1 [.int .i64 m1] (fun k_ => some k_ ≠ (.slice p1 k4.length p2 : Value).ownBlock ∧ some k_ ≠ (.slice p4 k6.length p5 : Value).ownBlock) (fun _ => False) rfl rfl ?aP (fun _ hk => hk.elim) ?aF ?aO (Below.refl _ _) ?aS ?aL ?_; (case aP => exact rfl); (case aF => exact (fun k_ hk => ⟨Kd.fresh' (Kd.R_lt (rq a7.out)) k_ hk, Kd.fresh' (Kd.R_lt (rq c1.out)) k_ hk⟩)); (case aO => exact (by (with_reducible repeat (first | apply Kd.R_alloc | apply Kd.R_drewN | apply Kd.R_drew)); exact Kd.R_mono HO_10.out (fun _ hk => by first | exact ⟨hk.1.2, hk.2⟩ | exact ⟨hk.2, hk.1.2⟩ | trivial))); (case aS => exact (Ae0 (w := w) (g := g) (row := none) (kq HK.out))); (case aL => have := t9.out; omega); intro E5 G2 ho hb hg hat; rw [← u1.out] at ho; replace a7 := am (Kd.R_after (ok := (fun k_ => some k_ ≠ (.slice p4 k6.length p5 : Value).ownBlock)) (by (with_reducible repeat (first | apply Kd.R_alloc | apply Kd.R_drewN | apply Kd.R_drew)); exact Kd.R_mono a7.out (fun _ hk => by first | exact ⟨hk.2, hk.1.2⟩ | exact ⟨hk.1.2, hk.2⟩ | trivial)) hg hat); replace c1 := am (Kd.R_after (ok := (fun k_ => some k_ ≠ (.slice p1 k4.length p2 : Value).ownBlock)) (by (with_reducible repeat (first | apply Kd.R_alloc | apply Kd.R_drewN | apply Kd.R_drew)); exact Kd.R_mono c1.out (fun _ hk => by first | exact ⟨hk.2, hk.1.2⟩ | exact ⟨hk.1.2, hk.2⟩ | trivial)) hg hat); replace HB := am (Aq4 (hsk HB.out (Aa0.ge a1.out)) HL.out hb); replace a1 := am (Aa0.grown (Aa0.q a1.out) hg (Aa0.own_ne a1.out HO_10.out (by decide))); replace HK := am (Ab7.trans (kq HK.out) (Ab7.of_grown hg g) (Kd.R_base2 HO_10.out)); have u2 := am (ho); clear HO_10; clear ho hb hg hat))
           go_roundg k2
           case measure => have := z6.out; have := B8.out; omega
           case rel => exact ⟨(u0), (wrap64 (b9 + 1)), (p3), et, H', ⟨by have := z6.out; have := B8.out; omega⟩, ⟨rq (Kd.R_mono u2.out (fun _ hk => trivial))⟩, ⟨Aa0.q a1.out⟩, ⟨kq HK.out⟩, ⟨hsk HB.out (Aa0.ge a1.out)⟩⟩
          ·rw [if_neg p9] at H
           have e9 := decide_eq_false p9
           clear p9
           (first | rw [e9] | (simp only [Ae6, Ae7]; rw [e9]) | skip)
           simp only [Option.some.injEq, Prod.mk.injEq] at H
           obtain ⟨rfl, rfl⟩ := H
           go_wp2
           go_ret
           exact ⟨_, er, rq (Kd.R_mono HO_10.out (fun _ hk => trivial)), Aa0.q a1.out, hsk HB.out (Aa0.ge a1.out), kq HK.out⟩
    ·replace r0 := Bool.eq_false_iff.mpr r0
     subst r0
     rw [if_neg (show ¬ (false = true) by decide)] at H
     simp only [Option.some.injEq, Prod.mk.injEq] at H
     obtain ⟨rfl, rfl⟩ := H
     go_wp2
     go_ret
     exact ⟨_, er, rq a0.out, Aa0.q a1.out, hsk HB.out (Aa0.ge a1.out), kq HK.out⟩
attribute [local go_sem] Ai1 Ah9 Ak5 Ak4 Ah0 Ag9 Ai2 Ai0   -- for this text's walks alone
set_option linter.unusedVariables false
set_option linter.unusedSimpArgs false
def Ai4.l0 : Nat → ByteArray → Int → List ByteArray → Int → Int → Option (List ByteArray)
 | 0, _, _, _, _, _ => none
 | k + 1, x0, x1, x5, x6, x7 => if x7 ≤ (x0.size : Int) then (if x7 = (x0.size : Int) then (if 0 ≤ x6 then (if x6 ≤ x7 then (if x5.length < 8796093022208 then (Ai4.l0 k x0 x1 (x5 ++ [x0.extract (x6 : Int).toNat (x7 : Int).toNat]) (wrap64 (x7 + 1)) (wrap64 (x7 + 1))) else (none)) else (none)) else (none)) else (if 0 ≤ x7 then (if x7 < (x0.size : Int) then (if (bt x0 x7) = x1 then (if 0 ≤ x6 then (if x6 ≤ x7 then (if x5.length < 8796093022208 then (Ai4.l0 k x0 x1 (x5 ++ [x0.extract (x6 : Int).toNat (x7 : Int).toNat]) (wrap64 (x7 + 1)) (wrap64 (x7 + 1))) else (none)) else (none)) else (none)) else (Ai4.l0 k x0 x1 x5 x6 (wrap64 (x7 + 1)))) else (none)) else (none))) else (some x5)
def Ai4.f (k : Nat) (a0 : ByteArray) (a1 : Int) : Option (List ByteArray) := Ai4.l0 k a0 a1 (([] : List ByteArray)) 0 0
theorem Ai4.calls (k : Nat) (a0 : ByteArray) (a1 : Int) (r : List ByteArray) (w : World) (h : Ai4.f k a0 a1 = some r) :
  Calls Tryz.prog 122 #[.string a0, .int .u8 a1] w fun e w' => ∃ d8 : Value, e = .returned (d8) ∧ Kd.R Kd.string 9 w' w.heap.size (fun _ => True) d8 r ∧ Below w.heap.size w w' := by
 have HB := am (Below.refl w.heap.size w)
 have H : (Ai4.l0 k a0 a1 (([] : List ByteArray)) 0 0) = some r := h
 clear h
 obtain ⟨b0, a5⟩ : ∃ y_ : List ByteArray, y_ = (([] : List ByteArray)) := ⟨_, rfl⟩
 replace H : (Ai4.l0 k a0 a1 b0 0 0) = some r := by first | (rw [a5]; first | with_reducible exact H | with_reducible exact bs H) | with_reducible exact bs H | with_reducible exact H | (rw [a5]; exact H) | exact H
 have a8 := am a5
 clear a5
 have H' := am H
 clear H
 go_enter Tryz.func122, Tryz.ntmps122
 go_wp2_with (first | ((with_reducible refine An6 (N := 8) rfl ?_); refine Kd.R_lit Kd.string _ 9 ?hg (N := 8) ?hd (xs := ([] : List ByteArray)) (inner := []) (ok := fun _ => True) (okp := fun _ => True) ?hr ?hp (fun _ hk => hk) trivial (Below.refl _ _) (Nat.le_refl _) (by simp) ?_; (case hd => rfl); (case hg => rfl); (case hr => first | (go_simp; done) | (go_simp; rfl)); (case hp => exact (Aj9.none _ _)); intro e7 w3 b1 hb e8 hnew_; clear e8 hnew_; (first | rw [← a8.out] at b1 | (simp only [Int.reduceToNat] at b1; rw [← a8.out] at b1)); have b2 := am (Kd.R_lower b1 (Ac5 (hq HB.out))); replace HB := sb HB hb; clear hb b1))
 go_loopg [5, 6, 7] k (fun kq v5 v6 v7 w' => ∃ (a4 : List ByteArray) (a3 : Int) (a2 : Int), v6 = .int .i64 a3 ∧ v7 = .int .i64 a2 ∧ Aside0 (Ai4.l0 kq a0 a1 a4 a3 a2 = some r) ∧ Aside0 (kq ≤ k) ∧ Aside0 (Kd.R Kd.string 9 w' w.heap.size (fun _ => True) v5 a4) ∧ Aside0 (Below w.heap.size w w'))
 case atStart => exact ⟨(b0), (0), (0), et, et, H', ⟨Nat.le_refl _⟩, ⟨rq b2.out⟩, ⟨hq HB.out⟩⟩
 case round =>
  clear H'
  obtain ⟨a4, a3, a2, rfl, rfl, HA, a9, HO_5, HB⟩ := hrel
  cases gk with
  | zero => exact absurd HA.out (by simp [Ai4.l0])
  | succ k1 =>
   have H := HA.out
   clear HA
   simp only [Ai4.l0] at H
   by_cases c5 : a2 ≤ (a0.size : Int)
   ·rw [if_pos c5] at H
    have d4 := decide_eq_true c5
    clear c5
    by_cases c6 : a2 = (a0.size : Int)
    ·rw [if_pos c6] at H
     obtain ⟨d5, d6⟩ := bqt c6; clear c6
     obtain ⟨e9, g0, H⟩ := ifd H
     obtain ⟨g1, g2, H⟩ := ifd H
     have g3 := eq_true (of_decide_eq_true (by first | (with_reducible assumption) | assumption) : a2 ≤ (a0.size : Int))
     obtain ⟨c10, H⟩ := ifs H
     have b3 := am c10
     clear c10
     obtain ⟨b4, a6⟩ : ∃ y_ : List ByteArray, y_ = (a4 ++ [a0.extract (a3 : Int).toNat (a2 : Int).toNat]) := ⟨_, rfl⟩
     replace H : (Ai4.l0 k1 a0 a1 b4 (wrap64 (a2 + 1)) (wrap64 (a2 + 1))) = some r := by first | (rw [a6]; first | with_reducible exact H | with_reducible exact bs H) | with_reducible exact bs H | with_reducible exact H | (rw [a6]; exact H) | exact H
     have b5 := am a6
     clear a6
     have H' := am H
     clear H
     go_wp2_with (first | ((with_reducible refine Ah1 (b := .append) (xs := #[.tmp 26, .tmp 31]) rfl ?_); at_builtin; refine Kd.R_append Kd.string (w0 := w) w.heap.size rfl (.tmp 26) (.tmp 31) 138 9 (.string ⟨#[]⟩) 16 rfl Tryz.underlying138 info9 rfl (by decide) (by omega) u5 a4 (a0.extract (a3 : Int).toNat (a2 : Int).toNat) [.string (a0.extract (a3 : Int).toNat (a2 : Int).toNat)] (fun _ => True) (fun _ => False) rfl rfl ?aP (fun _ hk => hk.elim) ?aF ?aO ?aB ?aS ?aL ?_; (case aP => exact rfl); (case aB => exact (hq HB.out)); (case aF => exact (fun _ _ => trivial)); (case aO => exact (rq HO_5.out)); (case aS => exact (Ac5 (hq HB.out))); (case aL => have := b3.out; omega); intro g4 g6 ho hb hg hat; rw [← b5.out] at ho; replace HB := am (hb); have b6 := am (ho); clear HO_5; clear ho hb hg hat))
     go_roundg k1
     case measure => have := a9.out; omega
     case rel => exact ⟨(b4), (wrap64 (a2 + 1)), (wrap64 (a2 + 1)), et, et, H', ⟨by have := a9.out; omega⟩, ⟨rq b6.out⟩, ⟨hq HB.out⟩⟩
    ·rw [if_neg c6] at H
     obtain ⟨d5, d6⟩ := bqf c6
     obtain ⟨d9, H⟩ := ife H
     obtain ⟨e0, H⟩ := ife H
     by_cases b7 : (bt a0 a2) = a1
     ·rw [if_pos b7] at H
      obtain ⟨b8, b9⟩ := bqt b7; clear b7
      obtain ⟨e1, e2, H⟩ := ifd H
      obtain ⟨e3, e4, H⟩ := ifd H
      have e5 := eq_true (of_decide_eq_true (by first | (with_reducible assumption) | assumption) : a2 ≤ (a0.size : Int))
      obtain ⟨e6, H⟩ := ifs H
      have c0 := am e6
      clear e6
      obtain ⟨c1, a7⟩ : ∃ y_ : List ByteArray, y_ = (a4 ++ [a0.extract (a3 : Int).toNat (a2 : Int).toNat]) := ⟨_, rfl⟩
      replace H : (Ai4.l0 k1 a0 a1 c1 (wrap64 (a2 + 1)) (wrap64 (a2 + 1))) = some r := by first | (rw [a7]; first | with_reducible exact H | with_reducible exact bs H) | with_reducible exact bs H | with_reducible exact H | (rw [a7]; exact H) | exact H
      have d0 := am a7
      clear a7
      have H' := am H
      clear H
      have d1 : 0 ≤ (a2 : Int) := od
      have d2 : a2 < (a0.size : Int) := od
      have d7 := Bb7 a0 a2
      obtain ⟨d1, d2⟩ := ee d1 d2
      go_wp2_with (first | ((with_reducible refine Ah1 (b := .append) (xs := #[.tmp 26, .tmp 31]) rfl ?_); at_builtin; refine Kd.R_append Kd.string (w0 := w) w.heap.size rfl (.tmp 26) (.tmp 31) 138 9 (.string ⟨#[]⟩) 16 rfl Tryz.underlying138 info9 rfl (by decide) (by omega) u5 a4 (a0.extract (a3 : Int).toNat (a2 : Int).toNat) [.string (a0.extract (a3 : Int).toNat (a2 : Int).toNat)] (fun _ => True) (fun _ => False) rfl rfl ?aP (fun _ hk => hk.elim) ?aF ?aO ?aB ?aS ?aL ?_; (case aP => exact rfl); (case aB => exact (hq HB.out)); (case aF => exact (fun _ _ => trivial)); (case aO => exact (rq HO_5.out)); (case aS => exact (Ac5 (hq HB.out))); (case aL => have := c0.out; omega); intro g5 g7 ho hb hg hat; rw [← d0.out] at ho; replace HB := am (hb); have d3 := am (ho); clear HO_5; clear ho hb hg hat))
      go_roundg k1
      case measure => have := a9.out; omega
      case rel => exact ⟨(c1), (wrap64 (a2 + 1)), (wrap64 (a2 + 1)), et, et, H', ⟨by have := a9.out; omega⟩, ⟨rq d3.out⟩, ⟨hq HB.out⟩⟩
     ·rw [if_neg b7] at H
      obtain ⟨b8, b9⟩ := bqf b7
      have H' := am H
      clear H
      have d1 : 0 ≤ (a2 : Int) := od
      have d2 : a2 < (a0.size : Int) := od
      have d7 := Bb7 a0 a2
      obtain ⟨d1, d2⟩ := ee d1 d2
      go_wp2
      go_roundg k1
      case measure => have := a9.out; omega
      case rel => exact ⟨(a4), (a3), (wrap64 (a2 + 1)), et, et, H', ⟨by have := a9.out; omega⟩, ⟨rq HO_5.out⟩, ⟨hq HB.out⟩⟩
   ·rw [if_neg c5] at H
    have d4 := decide_eq_false c5
    clear c5
    obtain rfl := Option.some.inj H
    go_wp2
    go_ret
    exact ⟨_, er, rq HO_5.out, hq HB.out⟩
def Ah5.l0 : Nat → List (S36) → ByteArray → Int → Option (Int)
 | 0, _, _, _ => none
 | k + 1, x0, x1, x5 => if 0 < (x0.length : Int) then (if x5 < (((Ad6 x0 0).f0).length : Int) then (if 0 ≤ x5 then (if ((Ac2 ((Ad6 x0 0).f0) x5).f0).toList = x1.toList then (some x5) else (Ah5.l0 k x0 x1 (wrap64 (x5 + 1)))) else (none)) else (some (-1))) else (none)
def Ah5.f (k : Nat) (l0 : List (S36)) (a1 : ByteArray) : Option (Int) := Ah5.l0 k l0 a1 0
theorem Ah5.calls (k : Nat) (A0 : Option Addr) (l0 : List (S36)) (a1 : ByteArray) (r : Int) (w : World) (h9 : Kd.C k36 w A0 l0.length l0) (h : Ah5.f k l0 a1 = some r) :
  Calls Tryz.prog 135 #[.pointer A0, .string a1] w fun e w' => e = .returned (.int .i64 r) ∧ Drawn0 w w' := by
 have e7 := am h9
 clear h9
 have H : (Ah5.l0 k l0 a1 0) = some r := h
 clear h
 have H' := am H
 clear H
 go_enter Tryz.func135, Tryz.ntmps135
 go_wp2
 go_loopg [5] k (fun kq v5 w' => ∃ (b4 : Int), v5 = .int .i64 b4 ∧ Aside0 (Ah5.l0 kq l0 a1 b4 = some r) ∧ Aside0 (kq ≤ k) ∧ Drawn0 w w')
 case atStart => exact ⟨(0), et, H', ⟨Nat.le_refl _⟩, dn⟩
 case round =>
  clear H'
  obtain ⟨b4, rfl, HA, i0, ⟨m1, rfl⟩⟩ := hrel
  cases gk with
  | zero => exact absurd HA.out (by simp [Ah5.l0])
  | succ k1 =>
   have H := HA.out
   clear HA
   simp only [Ah5.l0] at H
   obtain ⟨c3, H⟩ := ifs H
   have i1 := decide_eq_true c3
   have i2 : decide (0 < l0.length) = true := decide_eq_true (by omega)
   clear c3
   by_cases c4 : b4 < (((Ad6 l0 0).f0).length : Int)
   ·rw [if_pos c4] at H
    have h6 := decide_eq_true c4
    clear c4
    obtain ⟨i3, H⟩ := ife H
    by_cases c6 : ((Ac2 ((Ad6 l0 0).f0) b4).f0).toList = a1.toList
    ·rw [if_pos c6] at H
     obtain ⟨h7, h8⟩ := bqt c6; clear c6
     obtain rfl := Option.some.inj H
     have b5 : 0 ≤ (0 : Int) := (by omega)
     have b6 : 0 < (l0.length : Int) := od
     obtain ⟨a7, d9, e0, e1, a0, a2, a3⟩ := Aj0 e7.out 0 b5 b6
     cases e1
     have g3 : (0 < l0.length) = True := eq_true (by omega)
     (try simp only [t0_] at a0)
     have d5 := am a3
     have d6 := am a2
     clear a3 a2
     obtain ⟨b5, b6⟩ := ee b5 b6
     have b7 : 0 ≤ (0 : Int) := (by omega)
     have b8 : 0 < (l0.length : Int) := od
     obtain ⟨c0, e2, e3, e4, a4, a5, a6⟩ := Aj0 e7.out 0 b7 b8
     obtain rfl : a7 = c0 := (by injection e4)
     have g4 : (0 < l0.length) = True := eq_true (by omega)
     (try simp only [t0_] at a4)
     have d7 := am a6
     have d8 := am a5
     clear a6 a5
     obtain ⟨b7, b8⟩ := ee b7 b8
     obtain ⟨rfl, rfl⟩ := sj a0 a4
     have c1 : 0 ≤ (0 : Int) := (by omega)
     have d0 : 0 < (l0.length : Int) := od
     obtain ⟨e5, g5, g6, g7, a8, a9, b0⟩ := Aj0 e7.out 0 c1 d0
     obtain rfl : a7 = e5 := (by injection g7)
     have h3 : (0 < l0.length) = True := eq_true (by omega)
     (try simp only [t0_] at a8)
     have e8 := am b0
     have e9 := am a9
     clear b0 a9
     obtain ⟨c1, d0⟩ := ee c1 d0
     obtain ⟨rfl, rfl⟩ := sj a0 a8
     have d1 : 0 ≤ (0 : Int) := (by omega)
     have d2 : 0 < (l0.length : Int) := od
     obtain ⟨e6, g8, g9, h0, b1, b2, b3⟩ := Aj0 e7.out 0 d1 d2
     obtain rfl : a7 = e6 := (by injection h0)
     have h4 : (0 < l0.length) = True := eq_true (by omega)
     (try simp only [t0_] at b1)
     have b9 := am b3
     have g0 := am b2
     clear b3 b2
     obtain ⟨d1, d2⟩ := ee d1 d2
     obtain ⟨rfl, rfl⟩ := sj a0 b1
     have d3 : 0 ≤ (b4 : Int) := od
     have d4 : b4 < (((Ad6 l0 0).f0).length : Int) := od
     obtain ⟨h5, h2, g1, g2⟩ := Ap3 b9.out b4 d3 d4
     cases h2
     obtain ⟨d3, d4⟩ := ee d3 d4
     go_wp2
     go_ret
     exact ⟨et, dn⟩
    ·rw [if_neg c6] at H
     obtain ⟨h7, h8⟩ := bqf c6
     have H' := am H
     clear H
     have b5 : 0 ≤ (0 : Int) := (by omega)
     have b6 : 0 < (l0.length : Int) := od
     obtain ⟨a7, d9, e0, e1, a0, a2, a3⟩ := Aj0 e7.out 0 b5 b6
     cases e1
     have g3 : (0 < l0.length) = True := eq_true (by omega)
     (try simp only [t0_] at a0)
     have d5 := am a3
     have d6 := am a2
     clear a3 a2
     obtain ⟨b5, b6⟩ := ee b5 b6
     have b7 : 0 ≤ (0 : Int) := (by omega)
     have b8 : 0 < (l0.length : Int) := od
     obtain ⟨c0, e2, e3, e4, a4, a5, a6⟩ := Aj0 e7.out 0 b7 b8
     obtain rfl : a7 = c0 := (by injection e4)
     have g4 : (0 < l0.length) = True := eq_true (by omega)
     (try simp only [t0_] at a4)
     have d7 := am a6
     have d8 := am a5
     clear a6 a5
     obtain ⟨b7, b8⟩ := ee b7 b8
     obtain ⟨rfl, rfl⟩ := sj a0 a4
     have c1 : 0 ≤ (0 : Int) := (by omega)
     have d0 : 0 < (l0.length : Int) := od
     obtain ⟨e5, g5, g6, g7, a8, a9, b0⟩ := Aj0 e7.out 0 c1 d0
     obtain rfl : a7 = e5 := (by injection g7)
     have h3 : (0 < l0.length) = True := eq_true (by omega)
     (try simp only [t0_] at a8)
     have e8 := am b0
     have e9 := am a9
     clear b0 a9
     obtain ⟨c1, d0⟩ := ee c1 d0
     obtain ⟨rfl, rfl⟩ := sj a0 a8
     have d1 : 0 ≤ (0 : Int) := (by omega)
     have d2 : 0 < (l0.length : Int) := od
     obtain ⟨e6, g8, g9, h0, b1, b2, b3⟩ := Aj0 e7.out 0 d1 d2
     obtain rfl : a7 = e6 := (by injection h0)
     have h4 : (0 < l0.length) = True := eq_true (by omega)
     (try simp only [t0_] at b1)
     have b9 := am b3
     have g0 := am b2
     clear b3 b2
     obtain ⟨d1, d2⟩ := ee d1 d2
     obtain ⟨rfl, rfl⟩ := sj a0 b1
     have d3 : 0 ≤ (b4 : Int) := od
     have d4 : b4 < (((Ad6 l0 0).f0).length : Int) := od
     obtain ⟨h5, h2, g1, g2⟩ := Ap3 b9.out b4 d3 d4
     cases h2
     obtain ⟨d3, d4⟩ := ee d3 d4
     go_wp2
     go_roundg k1
     case measure => have := i0.out; omega
     case rel => exact ⟨(wrap64 (b4 + 1)), et, H', ⟨by have := i0.out; omega⟩, dn⟩
   ·rw [if_neg c4] at H
    have h6 := decide_eq_false c4
    clear c4
    obtain rfl := Option.some.inj H
    have b5 : 0 ≤ (0 : Int) := (by omega)
    have b6 : 0 < (l0.length : Int) := od
    obtain ⟨a7, d9, e0, e1, a0, a2, a3⟩ := Aj0 e7.out 0 b5 b6
    cases e1
    have g3 : (0 < l0.length) = True := eq_true (by omega)
    (try simp only [t0_] at a0)
    have d5 := am a3
    have d6 := am a2
    clear a3 a2
    obtain ⟨b5, b6⟩ := ee b5 b6
    have b7 : 0 ≤ (0 : Int) := (by omega)
    have b8 : 0 < (l0.length : Int) := od
    obtain ⟨c0, e2, e3, e4, a4, a5, a6⟩ := Aj0 e7.out 0 b7 b8
    obtain rfl : a7 = c0 := (by injection e4)
    have g4 : (0 < l0.length) = True := eq_true (by omega)
    (try simp only [t0_] at a4)
    have d7 := am a6
    have d8 := am a5
    clear a6 a5
    obtain ⟨b7, b8⟩ := ee b7 b8
    obtain ⟨rfl, rfl⟩ := sj a0 a4
    go_wp2
    go_ret
    exact ⟨et, dn⟩
attribute [local go_sem] Ai1 Ah9 Ak5 Ak4 Ah0 Ag9 Ai2 Ai0   -- for this text's walks alone
set_option linter.unusedVariables false
set_option linter.unusedSimpArgs false
mutual
def Ac3.l0 : Nat → List (S36) → ByteArray → List Int → Int → Option (List Int × Bool)
 | 0, _, _, _, _ => none
 | k + 1, x0, x1, x6, x7 => if x7 < (x1.size : Int) then (if 0 ≤ x7 then (if (bt x1 x7) = 40 then (Ac3.j1 k x0 x1 x6 x7 (bt x1 x7) true) else (if (bt x1 x7) = 41 then (Ac3.j1 k x0 x1 x6 x7 (bt x1 x7) true) else (Ac3.j1 k x0 x1 x6 x7 (bt x1 x7) ((bt x1 x7) == 44)))) else (none)) else (some (x6, true))
def Ac3.j1 : Nat → List (S36) → ByteArray → List Int → Int → Int → Bool → Option (List Int × Bool)
 | 0, _, _, _, _, _, _ => none
 | k + 1, x0, x1, x6, x7, x8, a0 => if a0 = true then (Ac3.l0 k x0 x1 x6 (wrap64 (x7 + 1))) else (if x8 ≥ 65 then (Ac3.j2 k x0 x1 x6 x7 x8 (decide (x8 < 77))) else (Ac3.j2 k x0 x1 x6 x7 x8 false))
def Ac3.j2 : Nat → List (S36) → ByteArray → List Int → Int → Int → Bool → Option (List Int × Bool)
 | 0, _, _, _, _, _, _ => none
 | k + 1, x0, x1, x6, x7, x8, a0 => if a0 = true then (if x6.length < 17592186044416 then (Ac3.l0 k x0 x1 (x6 ++ [(-1) - ((x8 - 65) % 256)]) (wrap64 (x7 + 1))) else (none)) else (if x8 ≥ 97 then (Ac3.j3 k x0 x1 x6 x7 (decide (x8 ≤ 122))) else (Ac3.j3 k x0 x1 x6 x7 false))
def Ac3.j3 : Nat → List (S36) → ByteArray → List Int → Int → Bool → Option (List Int × Bool)
 | 0, _, _, _, _, _ => none
 | k + 1, x0, x1, x6, x7, a0 => if a0 = true then (Ac3.l1 k x0 x1 x6 x7 x7) else (some (([] : List Int), false))
def Ac3.l1 : Nat → List (S36) → ByteArray → List Int → Int → Int → Option (List Int × Bool)
 | 0, _, _, _, _, _ => none
 | k + 1, x0, x1, x6, x7, x9 => if x9 < (x1.size : Int) then (if 0 ≤ x9 then (if (bt x1 x9) ≥ 97 then (if (bt x1 x9) ≤ 122 then (Ac3.l1 k x0 x1 x6 x7 (wrap64 (x9 + 1))) else (if 0 ≤ x7 then (if x7 ≤ x9 then (if x9 ≤ (x1.size : Int) then ((Ah5.f k x0 (x1.extract (x7 : Int).toNat (x9 : Int).toNat)).bind fun a0 => (if a0 < 0 then (some (([] : List Int), false)) else (if x6.length < 17592186044416 then (Ac3.l0 k x0 x1 (x6 ++ [a0]) x9) else (none)))) else (none)) else (none)) else (none))) else (if 0 ≤ x7 then (if x7 ≤ x9 then (if x9 ≤ (x1.size : Int) then ((Ah5.f k x0 (x1.extract (x7 : Int).toNat (x9 : Int).toNat)).bind fun a1 => (if a1 < 0 then (some (([] : List Int), false)) else (if x6.length < 17592186044416 then (Ac3.l0 k x0 x1 (x6 ++ [a1]) x9) else (none)))) else (none)) else (none)) else (none))) else (none)) else (if 0 ≤ x7 then (if x7 ≤ x9 then (if x9 ≤ (x1.size : Int) then ((Ah5.f k x0 (x1.extract (x7 : Int).toNat (x9 : Int).toNat)).bind fun a2 => (if a2 < 0 then (some (([] : List Int), false)) else (if x6.length < 17592186044416 then (Ac3.l0 k x0 x1 (x6 ++ [a2]) x9) else (none)))) else (none)) else (none)) else (none))
end
def Ac3.f (k : Nat) (l0 : List (S36)) (a1 : ByteArray) : Option (List Int × Bool) := Ac3.l0 k l0 a1 (([] : List Int)) 0
theorem Ac3.calls (k : Nat) (A0 : Option Addr) (l0 : List (S36)) (a1 : ByteArray) (r1 : List Int) (r2 : Bool) (w : World) (k8 : Kd.C k36 w A0 l0.length l0) (h : Ac3.f k l0 a1 = some (r1, r2)) :
  Calls Tryz.prog 128 #[.pointer A0, .string a1] w fun e w' => ∃ k9 : Value, e = .returned (.tuple #[k9, .bool r2]) ∧ Kd.R (Kd.int .i64) 2 w' w.heap.size (fun _ => True) k9 r1 ∧ Below w.heap.size w w' := by
 have k3 := am k8
 clear k8
 have HB := am (Below.refl w.heap.size w)
 have H : (Ac3.l0 k l0 a1 (([] : List Int)) 0) = some (r1, r2) := h
 clear h
 obtain ⟨g2, b5⟩ : ∃ y_ : List Int, y_ = (([] : List Int)) := ⟨_, rfl⟩
 replace H : (Ac3.l0 k l0 a1 g2 0) = some (r1, r2) := by first | (rw [b5]; first | with_reducible exact H | with_reducible exact bs H) | with_reducible exact bs H | with_reducible exact H | (rw [b5]; exact H) | exact H
 have d5 := am b5
 clear b5
 have H' := am H
 clear H
 go_enter Tryz.func128, Tryz.ntmps128
 go_wp2_with (first | (refine rl 11 rfl 2 [] ?_; intro n8 w3 g3 hb n9 hnew_; clear n9 hnew_; (first | rw [← d5.out] at g3 | (simp only [Int.reduceToNat] at g3; rw [← d5.out] at g3)); have g4 := am (Kd.R_lower g3 (Ac5 (hq HB.out))); replace HB := sb HB hb; clear hb g3))
 go_loopg [6, 7] k (fun kq v6 v7 w' => ∃ (a3 : List Int) (a2 : Int), v7 = .int .i64 a2 ∧ Aside0 (Ac3.l0 kq l0 a1 a3 a2 = some (r1, r2)) ∧ Aside0 (kq ≤ k) ∧ Aside0 (Kd.R (Kd.int .i64) 2 w' w.heap.size (fun _ => True) v6 a3) ∧ Aside0 (Below w.heap.size w w'))
 case atStart => exact ⟨(g2), (0), et, H', ⟨Nat.le_refl _⟩, ⟨rq g4.out⟩, ⟨hq HB.out⟩⟩
 case round =>
  clear H'
  obtain ⟨a3, a2, rfl, HA, a5, HO_6, HB⟩ := hrel
  cases gk with
  | zero => exact absurd HA.out (by simp [Ac3.l0])
  | succ k1 =>
   have H := HA.out
   clear HA
   simp only [Ac3.l0] at H
   by_cases c5 : a2 < (a1.size : Int)
   ·rw [if_pos c5] at H
    have c1 := decide_eq_true c5
    clear c5
    obtain ⟨d4, H⟩ := ife H
    have k4 := am H
    clear H
    have p7 : 0 ≤ (a2 : Int) := od
    have q7 : a2 < (a1.size : Int) := od
    have k2 := Bb7 a1 a2
    obtain ⟨p7, q7⟩ := ee p7 q7
    go_upto_region 6 with (fail)
    go_cut [19] (fun o0 wc => ∃ (kq : Nat) (b6 : Bool), o0 = .bool b6 ∧ Aside0 (Ac3.j1 kq l0 a1 a3 a2 (bt a1 a2) b6 = some (r1, r2)) ∧ Aside0 (kq ≤ k1) ∧ Aside0 (Kd.R (Kd.int .i64) 2 wc w.heap.size (fun _ => True) u6 a3) ∧ Aside0 (Below w.heap.size w wc))
    case first =>
     have H := k4.out
     clear k4
     by_cases c9 : (bt a1 a2) = 40
     ·rw [if_pos c9] at H
      obtain ⟨d0, k6⟩ := bqt c9; clear c9
      (first | rw [d0] | (simp only [Ae6, Ae7]; rw [d0]) | skip)
      have H' := am H
      clear H
      go_wp2
      go_meet
      case rel => exact ⟨_, (true), et, H', ⟨by have := a5.out; first | omega | exact Nat.le_refl _⟩, ⟨rq HO_6.out⟩, ⟨hq HB.out⟩⟩
     ·rw [if_neg c9] at H
      obtain ⟨d0, k6⟩ := bqf c9
      (first | rw [d0] | (simp only [Ae6, Ae7]; rw [d0]) | skip)
      by_cases c10 : (bt a1 a2) = 41
      ·rw [if_pos c10] at H
       obtain ⟨g5, g6⟩ := bqt c10; clear c10
       have H' := am H
       clear H
       go_wp2
       go_meet
       case rel => exact ⟨_, (true), et, H', ⟨by have := a5.out; first | omega | exact Nat.le_refl _⟩, ⟨rq HO_6.out⟩, ⟨hq HB.out⟩⟩
      ·rw [if_neg c10] at H
       obtain ⟨g5, g6⟩ := bqf c10
       have H' := am H
       clear H
       go_wp2
       go_meet
       case rel => exact ⟨_, (((bt a1 a2) == 44)), et, H', ⟨by have := a5.out; first | omega | exact Nat.le_refl _⟩, ⟨rq HO_6.out⟩, ⟨hq HB.out⟩⟩
    case rest =>
     clear k4
     try clear c5; try clear c1; try clear d4; try clear p7; try clear q7; try clear k2; try clear p7; try clear q7
     obtain ⟨kq, b6, rfl, HA, b4, HO_6, HB⟩ := hcut
     cases kq with
     | zero => exact absurd HA.out (by simp [Ac3.j1])
     | succ l4 =>
      have H := HA.out
      clear HA
      simp only [Ac3.j1] at H
      by_cases d9 : b6 = true
      ·subst d9
       rw [if_pos rfl] at H
       have H' := am H
       clear H
       go_wp2
       go_roundg l4
       case measure => have := a5.out; have := b4.out; omega
       case rel => exact ⟨(a3), (wrap64 (a2 + 1)), et, H', ⟨by have := a5.out; have := b4.out; omega⟩, ⟨rq HO_6.out⟩, ⟨hq HB.out⟩⟩
      ·replace d9 := Bool.eq_false_iff.mpr d9
       subst d9
       rw [if_neg (show ¬ (false = true) by decide)] at H
       have e0 := am H
       clear H
       go_upto_region 8 with (fail)
       go_cut [32] (fun o1 wc => ∃ (kq : Nat) (a6 : Bool), o1 = .bool a6 ∧ Aside0 (Ac3.j2 kq l0 a1 a3 a2 (bt a1 a2) a6 = some (r1, r2)) ∧ Aside0 (kq ≤ l4) ∧ Aside0 (Kd.R (Kd.int .i64) 2 wc w.heap.size (fun _ => True) u6 a3) ∧ Aside0 (Below w.heap.size w wc))
       case first =>
        have H := e0.out
        clear e0
        by_cases e3 : (bt a1 a2) ≥ 65
        ·rw [if_pos e3] at H
         have a8 := decide_eq_true e3
         clear e3
         (first | rw [a8] | (simp only [Ae6, Ae7]; rw [a8]) | skip)
         have H' := am H
         clear H
         go_wp2
         go_meet
         case rel => exact ⟨_, (decide ((bt a1 a2) < 77)), et, H', ⟨by have := a5.out; have := b4.out; first | omega | exact Nat.le_refl _⟩, ⟨rq HO_6.out⟩, ⟨hq HB.out⟩⟩
        ·rw [if_neg e3] at H
         have a8 := decide_eq_false e3
         clear e3
         (first | rw [a8] | (simp only [Ae6, Ae7]; rw [a8]) | skip)
         have H' := am H
         clear H
         go_wp2
         go_meet
         case rel => exact ⟨_, (false), et, H', ⟨by have := a5.out; have := b4.out; first | omega | exact Nat.le_refl _⟩, ⟨rq HO_6.out⟩, ⟨hq HB.out⟩⟩
       case rest =>
        clear e0
        try clear c5; try clear c1; try clear d4; try clear p7; try clear q7; try clear k2; try clear d9; try clear p7; try clear q7
        obtain ⟨kq, a6, rfl, HA, a4, HO_6, HB⟩ := hcut
        cases kq with
        | zero => exact absurd HA.out (by simp [Ac3.j2])
        | succ e1 =>
         have H := HA.out
         clear HA
         simp only [Ac3.j2] at H
         by_cases e4 : a6 = true
         ·subst e4
          rw [if_pos rfl] at H
          obtain ⟨l5, H⟩ := ifs H
          have g7 := am l5
          clear l5
          obtain ⟨g8, b7⟩ : ∃ y_ : List Int, y_ = (a3 ++ [(-1) - (((bt a1 a2) - 65) % 256)]) := ⟨_, rfl⟩
          replace H : (Ac3.l0 e1 l0 a1 g8 (wrap64 (a2 + 1))) = some (r1, r2) := by first | (rw [b7]; first | with_reducible exact H | with_reducible exact bs H) | with_reducible exact bs H | with_reducible exact H | (rw [b7]; exact H) | exact H
          have g9 := am b7
          clear b7
          have H' := am H
          clear H
          go_wp2_with (first | ((with_reducible refine Ah1 (b := .append) (xs := #[.tmp 39, .tmp 44]) rfl ?_); at_builtin; refine Kd.R_append (Kd.int .i64) (w0 := w) w.heap.size rfl (.tmp 39) (.tmp 44) 25 2 (.int .i64 0) 8 rfl Tryz.underlying25 Au1 rfl (by decide) (by omega) u6 a3 ((-1) - (((bt a1 a2) - 65) % 256)) [.int .i64 ((-1) - (((bt a1 a2) - 65) % 256))] (fun _ => True) (fun _ => False) rfl rfl ?aP (fun _ hk => hk.elim) ?aF ?aO ?aB ?aS ?aL ?_; (case aP => exact rfl); (case aB => exact (hq HB.out)); (case aF => exact (fun _ _ => trivial)); (case aO => exact (rq HO_6.out)); (case aS => exact (Ac5 (hq HB.out))); (case aL => have := g7.out; omega); intro o2 p0 ho hb hg hat; rw [← g9.out] at ho; replace HB := am (hb); have h0 := am (ho); clear HO_6; clear ho hb hg hat))
          go_roundg e1
          case measure => have := a5.out; have := b4.out; have := a4.out; omega
          case rel => exact ⟨(g8), (wrap64 (a2 + 1)), et, H', ⟨by have := a5.out; have := b4.out; have := a4.out; omega⟩, ⟨rq h0.out⟩, ⟨hq HB.out⟩⟩
         ·replace e4 := Bool.eq_false_iff.mpr e4
          subst e4
          rw [if_neg (show ¬ (false = true) by decide)] at H
          have e2 := am H
          clear H
          go_upto_region 11 with (fail)
          go_cut [48] (fun o3 wc => ∃ (kq : Nat) (a7 : Bool), o3 = .bool a7 ∧ Aside0 (Ac3.j3 kq l0 a1 a3 a2 a7 = some (r1, r2)) ∧ Aside0 (kq ≤ e1) ∧ Aside0 (Kd.R (Kd.int .i64) 2 wc w.heap.size (fun _ => True) u6 a3) ∧ Aside0 (Below w.heap.size w wc))
          case first =>
           have H := e2.out
           clear e2
           by_cases e5 : (bt a1 a2) ≥ 97
           ·rw [if_pos e5] at H
            have a9 := decide_eq_true e5
            clear e5
            (first | rw [a9] | (simp only [Ae6, Ae7]; rw [a9]) | skip)
            have H' := am H
            clear H
            go_wp2
            go_meet
            case rel => exact ⟨_, (decide ((bt a1 a2) ≤ 122)), et, H', ⟨by have := a5.out; have := b4.out; have := a4.out; first | omega | exact Nat.le_refl _⟩, ⟨rq HO_6.out⟩, ⟨hq HB.out⟩⟩
           ·rw [if_neg e5] at H
            have a9 := decide_eq_false e5
            clear e5
            (first | rw [a9] | (simp only [Ae6, Ae7]; rw [a9]) | skip)
            have H' := am H
            clear H
            go_wp2
            go_meet
            case rel => exact ⟨_, (false), et, H', ⟨by have := a5.out; have := b4.out; have := a4.out; first | omega | exact Nat.le_refl _⟩, ⟨rq HO_6.out⟩, ⟨hq HB.out⟩⟩
          case rest =>
           clear e2
           try clear c5; try clear c1; try clear d4; try clear p7; try clear q7; try clear k2; try clear d9; try clear e4; try clear p7; try clear q7
           obtain ⟨kq, a7, rfl, HA, b0, HO_6, HB⟩ := hcut
           cases kq with
           | zero => exact absurd HA.out (by simp [Ac3.j3])
           | succ h2 =>
            have H := HA.out
            clear HA
            simp only [Ac3.j3] at H
            by_cases h3 : a7 = true
            ·subst h3
             rw [if_pos rfl] at H
             have H' := am H
             clear H
             go_wp2
             go_loopg [9] h2 (fun kq v9 w' => ∃ (a0 : Int), v9 = .int .i64 a0 ∧ Aside0 (Ac3.l1 kq l0 a1 a3 a2 a0 = some (r1, r2)) ∧ Aside0 (kq ≤ h2) ∧ Aside0 (Kd.R (Kd.int .i64) 2 w' w.heap.size (fun _ => True) u6 a3) ∧ Aside0 (Below w.heap.size w w'))
             case atStart => exact ⟨(a2), et, H', ⟨Nat.le_refl _⟩, ⟨rq HO_6.out⟩, ⟨hq HB.out⟩⟩
             case round =>
              clear H'
              try clear c5; try clear c1; try clear d4; try clear p7; try clear q7; try clear k2; try clear d9; try clear e4; try clear h3; try clear p7; try clear q7
              obtain ⟨a0, rfl, HA, d6, HO_6, HB⟩ := hrel
              cases gk with
              | zero => exact absurd HA.out (by simp [Ac3.l1])
              | succ k5 =>
               have H := HA.out
               clear HA
               simp only [Ac3.l1] at H
               by_cases e6 : a0 < (a1.size : Int)
               ·rw [if_pos e6] at H
                have h4 := decide_eq_true e6
                clear e6
                obtain ⟨l6, H⟩ := ife H
                by_cases e7 : (bt a1 a0) ≥ 97
                ·rw [if_pos e7] at H
                 have h5 := decide_eq_true e7
                 clear e7
                 by_cases e8 : (bt a1 a0) ≤ 122
                 ·rw [if_pos e8] at H
                  have h6 := decide_eq_true e8
                  clear e8
                  have H' := am H
                  clear H
                  have d7 : 0 ≤ (a0 : Int) := od
                  have d8 : a0 < (a1.size : Int) := od
                  have h7 := Bb7 a1 a0
                  obtain ⟨d7, d8⟩ := ee d7 d8
                  have h8 : 0 ≤ (a0 : Int) := od
                  have h9 : a0 < (a1.size : Int) := od
                  have k7 := Bb7 a1 a0
                  obtain ⟨h8, h9⟩ := ee h8 h9
                  go_wp2
                  go_roundg k5
                  case measure => have := a5.out; have := b4.out; have := a4.out; have := b0.out; have := d6.out; omega
                  case rel => exact ⟨(wrap64 (a0 + 1)), et, H', ⟨by have := a5.out; have := b4.out; have := a4.out; have := b0.out; have := d6.out; omega⟩, ⟨rq HO_6.out⟩, ⟨hq HB.out⟩⟩
                 ·rw [if_neg e8] at H
                  have h6 := decide_eq_false e8
                  clear e8
                  obtain ⟨l7, l8, H⟩ := ifd H
                  obtain ⟨l9, m0, H⟩ := ifd H
                  obtain ⟨m1, m2, H⟩ := ifd H
                  obtain ⟨d1, o4, H⟩ := ob H
                  try dsimp only at H
                  have i0 := am H
                  clear H
                  have d7 : 0 ≤ (a0 : Int) := od
                  have d8 : a0 < (a1.size : Int) := od
                  have h7 := Bb7 a1 a0
                  obtain ⟨d7, d8⟩ := ee d7 d8
                  have h8 : 0 ≤ (a0 : Int) := od
                  have h9 : a0 < (a1.size : Int) := od
                  have k7 := Bb7 a1 a0
                  obtain ⟨h8, h9⟩ := ee h8 h9
                  go_upto_if 81 with (first | (refine gl (some 79) Tryz.func135 rfl #[.pointer A0, .string (a1.extract (a2 : Int).toNat (a0 : Int).toNat)] ?_; refine (Ah5.calls k5 _ l0 (a1.extract (a2 : Int).toNat (a0 : Int).toNat) d1 _ (cq (Kd.C_below k3.out HB.out)) o4.out).mono ?_; rintro e w' ⟨rfl, ⟨nd, rfl⟩⟩; refine ⟨_, rfl, ?_⟩))
                  have H := i0.out
                  clear i0
                  by_cases e9 : d1 < 0
                  ·rw [if_pos e9] at H
                   have b1 := decide_eq_true e9
                   clear e9
                   (first | rw [b1] | (simp only [Ae6, Ae7]; rw [b1]) | skip)
                   simp only [Option.some.injEq, Prod.mk.injEq] at H
                   obtain ⟨rfl, rfl⟩ := H
                   go_wp2
                   go_ret2
                   exact ⟨_, er, by first | exact Kd.R_nil _ _ _ _ _ | exact Kd.N_nil _ _ _ _ _ | exact Kd.V_nil _ _ _ _ _ | exact Kd.Q_nil _ _ _ _ _ | exact Kd.S_nil _ _ _ _ _, hq HB.out⟩
                  ·rw [if_neg e9] at H
                   have b1 := decide_eq_false e9
                   clear e9
                   (first | rw [b1] | (simp only [Ae6, Ae7]; rw [b1]) | skip)
                   obtain ⟨m3, H⟩ := ifs H
                   have i1 := am m3
                   clear m3
                   obtain ⟨i2, b8⟩ : ∃ y_ : List Int, y_ = (a3 ++ [d1]) := ⟨_, rfl⟩
                   replace H : (Ac3.l0 k5 l0 a1 i2 a0) = some (r1, r2) := by first | (rw [b8]; first | with_reducible exact H | with_reducible exact bs H) | with_reducible exact bs H | with_reducible exact H | (rw [b8]; exact H) | exact H
                   have i3 := am b8
                   clear b8
                   have H' := am H
                   clear H
                   go_wp2_with (first | ((with_reducible refine Ah1 (b := .append) (xs := #[.tmp 82, .tmp 84]) rfl ?_); at_builtin; refine Kd.R_append (Kd.int .i64) (w0 := w) w.heap.size rfl (.tmp 82) (.tmp 84) 25 2 (.int .i64 0) 8 rfl Tryz.underlying25 Au1 rfl (by decide) (by omega) u6 a3 d1 [.int .i64 d1] (fun _ => True) (fun _ => False) rfl rfl ?aP (fun _ hk => hk.elim) ?aF ?aO ?aB ?aS ?aL ?_; (case aP => exact rfl); (case aB => exact (hq HB.out)); (case aF => exact (fun _ _ => trivial)); (case aO => exact (rq HO_6.out)); (case aS => exact (Ac5 (hq HB.out))); (case aL => have := i1.out; omega); intro o5 p1 ho hb hg hat; rw [← i3.out] at ho; replace HB := am (hb); have i4 := am (ho); clear HO_6; clear ho hb hg hat))
                   go_roundg k5
                   case measure => have := a5.out; have := b4.out; have := a4.out; have := b0.out; have := d6.out; omega
                   case rel => exact ⟨(i2), (a0), et, H', ⟨by have := a5.out; have := b4.out; have := a4.out; have := b0.out; have := d6.out; omega⟩, ⟨rq i4.out⟩, ⟨hq HB.out⟩⟩
                ·rw [if_neg e7] at H
                 have h5 := decide_eq_false e7
                 clear e7
                 obtain ⟨m4, m5, H⟩ := ifd H
                 obtain ⟨m6, m7, H⟩ := ifd H
                 obtain ⟨m8, m9, H⟩ := ifd H
                 obtain ⟨d2, o6, H⟩ := ob H
                 try dsimp only at H
                 have i5 := am H
                 clear H
                 have d7 : 0 ≤ (a0 : Int) := od
                 have d8 : a0 < (a1.size : Int) := od
                 have h7 := Bb7 a1 a0
                 obtain ⟨d7, d8⟩ := ee d7 d8
                 go_upto_if 81 with (first | (refine gl (some 79) Tryz.func135 rfl #[.pointer A0, .string (a1.extract (a2 : Int).toNat (a0 : Int).toNat)] ?_; refine (Ah5.calls k5 _ l0 (a1.extract (a2 : Int).toNat (a0 : Int).toNat) d2 _ (cq (Kd.C_below k3.out HB.out)) o6.out).mono ?_; rintro e w' ⟨rfl, ⟨nd, rfl⟩⟩; refine ⟨_, rfl, ?_⟩))
                 have H := i5.out
                 clear i5
                 by_cases g0 : d2 < 0
                 ·rw [if_pos g0] at H
                  have b2 := decide_eq_true g0
                  clear g0
                  (first | rw [b2] | (simp only [Ae6, Ae7]; rw [b2]) | skip)
                  simp only [Option.some.injEq, Prod.mk.injEq] at H
                  obtain ⟨rfl, rfl⟩ := H
                  go_wp2
                  go_ret2
                  exact ⟨_, er, by first | exact Kd.R_nil _ _ _ _ _ | exact Kd.N_nil _ _ _ _ _ | exact Kd.V_nil _ _ _ _ _ | exact Kd.Q_nil _ _ _ _ _ | exact Kd.S_nil _ _ _ _ _, hq HB.out⟩
                 ·rw [if_neg g0] at H
                  have b2 := decide_eq_false g0
                  clear g0
                  (first | rw [b2] | (simp only [Ae6, Ae7]; rw [b2]) | skip)
                  obtain ⟨n0, H⟩ := ifs H
                  have i6 := am n0
                  clear n0
                  obtain ⟨i7, b9⟩ : ∃ y_ : List Int, y_ = (a3 ++ [d2]) := ⟨_, rfl⟩
                  replace H : (Ac3.l0 k5 l0 a1 i7 a0) = some (r1, r2) := by first | (rw [b9]; first | with_reducible exact H | with_reducible exact bs H) | with_reducible exact bs H | with_reducible exact H | (rw [b9]; exact H) | exact H
                  have i9 := am b9
                  clear b9
                  have H' := am H
                  clear H
                  go_wp2_with (first | ((with_reducible refine Ah1 (b := .append) (xs := #[.tmp 82, .tmp 84]) rfl ?_); at_builtin; refine Kd.R_append (Kd.int .i64) (w0 := w) w.heap.size rfl (.tmp 82) (.tmp 84) 25 2 (.int .i64 0) 8 rfl Tryz.underlying25 Au1 rfl (by decide) (by omega) u6 a3 d2 [.int .i64 d2] (fun _ => True) (fun _ => False) rfl rfl ?aP (fun _ hk => hk.elim) ?aF ?aO ?aB ?aS ?aL ?_; (case aP => exact rfl); (case aB => exact (hq HB.out)); (case aF => exact (fun _ _ => trivial)); (case aO => exact (rq HO_6.out)); (case aS => exact (Ac5 (hq HB.out))); (case aL => have := i6.out; omega); intro o7 p2 ho hb hg hat; rw [← i9.out] at ho; replace HB := am (hb); have j5 := am (ho); clear HO_6; clear ho hb hg hat))
                  go_roundg k5
                  case measure => have := a5.out; have := b4.out; have := a4.out; have := b0.out; have := d6.out; omega
                  case rel => exact ⟨(i7), (a0), et, H', ⟨by have := a5.out; have := b4.out; have := a4.out; have := b0.out; have := d6.out; omega⟩, ⟨rq j5.out⟩, ⟨hq HB.out⟩⟩
               ·rw [if_neg e6] at H
                have h4 := decide_eq_false e6
                clear e6
                obtain ⟨n1, n2, H⟩ := ifd H
                obtain ⟨n3, n4, H⟩ := ifd H
                obtain ⟨n5, n6, H⟩ := ifd H
                obtain ⟨d3, o8, H⟩ := ob H
                try dsimp only at H
                have j6 := am H
                clear H
                go_upto_if 81 with (first | (refine gl (some 79) Tryz.func135 rfl #[.pointer A0, .string (a1.extract (a2 : Int).toNat (a0 : Int).toNat)] ?_; refine (Ah5.calls k5 _ l0 (a1.extract (a2 : Int).toNat (a0 : Int).toNat) d3 _ (cq (Kd.C_below k3.out HB.out)) o8.out).mono ?_; rintro e w' ⟨rfl, ⟨nd, rfl⟩⟩; refine ⟨_, rfl, ?_⟩))
                have H := j6.out
                clear j6
                by_cases g1 : d3 < 0
                ·rw [if_pos g1] at H
                 have b3 := decide_eq_true g1
                 clear g1
                 (first | rw [b3] | (simp only [Ae6, Ae7]; rw [b3]) | skip)
                 simp only [Option.some.injEq, Prod.mk.injEq] at H
                 obtain ⟨rfl, rfl⟩ := H
                 go_wp2
                 go_ret2
                 exact ⟨_, er, by first | exact Kd.R_nil _ _ _ _ _ | exact Kd.N_nil _ _ _ _ _ | exact Kd.V_nil _ _ _ _ _ | exact Kd.Q_nil _ _ _ _ _ | exact Kd.S_nil _ _ _ _ _, hq HB.out⟩
                ·rw [if_neg g1] at H
                 have b3 := decide_eq_false g1
                 clear g1
                 (first | rw [b3] | (simp only [Ae6, Ae7]; rw [b3]) | skip)
                 obtain ⟨n7, H⟩ := ifs H
                 have j7 := am n7
                 clear n7
                 obtain ⟨j8, c0⟩ : ∃ y_ : List Int, y_ = (a3 ++ [d3]) := ⟨_, rfl⟩
                 replace H : (Ac3.l0 k5 l0 a1 j8 a0) = some (r1, r2) := by first | (rw [c0]; first | with_reducible exact H | with_reducible exact bs H) | with_reducible exact bs H | with_reducible exact H | (rw [c0]; exact H) | exact H
                 have j9 := am c0
                 clear c0
                 have H' := am H
                 clear H
                 go_wp2_with (first | ((with_reducible refine Ah1 (b := .append) (xs := #[.tmp 82, .tmp 84]) rfl ?_); at_builtin; refine Kd.R_append (Kd.int .i64) (w0 := w) w.heap.size rfl (.tmp 82) (.tmp 84) 25 2 (.int .i64 0) 8 rfl Tryz.underlying25 Au1 rfl (by decide) (by omega) u6 a3 d3 [.int .i64 d3] (fun _ => True) (fun _ => False) rfl rfl ?aP (fun _ hk => hk.elim) ?aF ?aO ?aB ?aS ?aL ?_; (case aP => exact rfl); (case aB => exact (hq HB.out)); (case aF => exact (fun _ _ => trivial)); (case aO => exact (rq HO_6.out)); (case aS => exact (Ac5 (hq HB.out))); (case aL => have := j7.out; omega); intro o9 p3 ho hb hg hat; rw [← j9.out] at ho; replace HB := am (hb); have k0 := am (ho); clear HO_6; clear ho hb hg hat))
                 go_roundg k5
                 case measure => have := a5.out; have := b4.out; have := a4.out; have := b0.out; have := d6.out; omega
                 case rel => exact ⟨(j8), (a0), et, H', ⟨by have := a5.out; have := b4.out; have := a4.out; have := b0.out; have := d6.out; omega⟩, ⟨rq k0.out⟩, ⟨hq HB.out⟩⟩
            ·replace h3 := Bool.eq_false_iff.mpr h3
             subst h3
             rw [if_neg (show ¬ (false = true) by decide)] at H
             simp only [Option.some.injEq, Prod.mk.injEq] at H
             obtain ⟨rfl, rfl⟩ := H
             go_wp2
             go_ret2
             exact ⟨_, er, by first | exact Kd.R_nil _ _ _ _ _ | exact Kd.N_nil _ _ _ _ _ | exact Kd.V_nil _ _ _ _ _ | exact Kd.Q_nil _ _ _ _ _ | exact Kd.S_nil _ _ _ _ _, hq HB.out⟩
   ·rw [if_neg c5] at H
    have c1 := decide_eq_false c5
    clear c5
    simp only [Option.some.injEq, Prod.mk.injEq] at H
    obtain ⟨rfl, rfl⟩ := H
    go_wp2
    go_ret2
    exact ⟨_, er, rq HO_6.out, hq HB.out⟩
end Go.Proofs.YtgichahebemmiaaGreatDoor.P
