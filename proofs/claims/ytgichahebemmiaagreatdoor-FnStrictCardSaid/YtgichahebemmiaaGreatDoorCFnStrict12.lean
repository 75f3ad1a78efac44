/- A part of the proof of the law FnStrict. -/
import Derived.Test.YtgichahebemmiaaGreatDoorCFnStrict11
set_option maxHeartbeats 8000000
set_option maxRecDepth 100000
namespace Go.Proofs.YtgichahebemmiaaGreatDoor.P
open Go.RowKit Go.Proofs.YtgichahebemmiaaGreatDoorW.PrintWords Go.Proofs.YtgichahebemmiaaGreatDoorW.PrintLast Go.Proofs.YtgichahebemmiaaGreatDoorW.PrintMore
attribute [local go_sem] Ai1 Ah9 Ak5 Ak4 Ah0 Ag9 Ai2 Ai0   -- for this text's walks alone
set_option linter.unusedVariables false
set_option linter.unusedSimpArgs false
mutual
def Af3.l0 : Nat → List (S36) → List Int → ByteArray → Int → Int → ByteArray → Int → Option (ByteArray)
 | 0, _, _, _, _, _, _, _ => none
 | k + 1, x0, x1, x8, x9, a4, a1, a0 => if a4 < a0 then (if a4 > 0 then (if x8.size + 1 ≤ 9223372036854775807 then ((Af3.f k x0 x1 x9).bind fun a2 => (if (x8 ++ (⟨#[44]⟩ : ByteArray)).size + a2.size ≤ 9223372036854775807 then ((Ae9.f k x0 x1 x9).bind fun a5 => (Af3.l0 k x0 x1 ((x8 ++ (⟨#[44]⟩ : ByteArray)) ++ a2) a5 (wrap64 (a4 + 1)) a1 a0)) else (none))) else (none)) else ((Af3.f k x0 x1 x9).bind fun a3 => (if x8.size + a3.size ≤ 9223372036854775807 then ((Ae9.f k x0 x1 x9).bind fun a6 => (Af3.l0 k x0 x1 (x8 ++ a3) a6 (wrap64 (a4 + 1)) a1 a0)) else (none)))) else (if x8.size + 1 ≤ 9223372036854775807 then (some (x8 ++ (⟨#[41]⟩ : ByteArray))) else (none))
def Af3.f : Nat → List (S36) → List Int → Int → Option (ByteArray)
 | 0, _, _, _ => none
 | k + 1, l0, l1, a2 => if 0 ≤ a2 then (if a2 < (l1.length : Int) then (if (rd l1 a2) < 0 then (some (strOfNums (([(wrap64 (64 - (rd l1 a2))) % 256] : List Int)))) else (if 0 < (l0.length : Int) then (if 0 ≤ (rd l1 a2) then (if (rd l1 a2) < (((Ad6 l0 0).f0).length : Int) then (if ((Ac2 ((Ad6 l0 0).f0) (rd l1 a2)).f1) = 0 then (some ((Ac2 ((Ad6 l0 0).f0) (rd l1 a2)).f0)) else (if ((Ac2 ((Ad6 l0 0).f0) (rd l1 a2)).f0).size + 1 ≤ 9223372036854775807 then (Af3.l0 k l0 l1 (((Ac2 ((Ad6 l0 0).f0) (rd l1 a2)).f0) ++ (⟨#[40]⟩ : ByteArray)) (wrap64 (a2 + 1)) 0 ((Ac2 ((Ad6 l0 0).f0) (rd l1 a2)).f0) ((Ac2 ((Ad6 l0 0).f0) (rd l1 a2)).f1)) else (none))) else (none)) else (none)) else (none))) else (none)) else (none)
end
def Af3.T3 : Bool × List (List Nat × List Nat) := (true, [([], []), ([0], [0]), ([1], [1]), ([2], [2]), ([], []), ([], []), ([4, 5], [4, 5]), ([6], [6]), ([3, 7], [3, 7]), ([8], [8]), ([], []), ([10, 9, 0, 1, 2, 3, 4, 5, 6, 7, 8, 9, 10], [9, 10])])
def Af3.B3 : List Nat := [0, 1, 3, 7, 0, 0, 48, 112, 255, 511, 0, 2047]
theorem Af3.tab3 : Au3 .any (Au5 Tryz.f129 3) = Af3.T3 := by kernel_rfl
theorem Af3.bits3 : Al2 Af3.T3.2 Af3.B3 = true := by kernel_rfl
theorem Af3.calls (k : Nat) : ∀ (A0 : Option Addr) (l0 : List (S36)) (A1 : Option Addr) (c1 : Nat) (l1 : List Int) (a2 : Int) (r : ByteArray) (w : World) (n3 : Kd.C k36 w A0 l0.length l0) (n4 : Kd.C (Kd.int .i64) w A1 l1.length l1) (n5 : l1.length ≤ c1) (h : Af3.f k l0 l1 a2 = some r),
  Calls Tryz.prog 129 #[.pointer A0, .slice A1 l1.length c1, .int .i64 a2] w fun e w' => e = .returned (.string r) ∧ Below w.heap.size w w' := by
 induction k using Nat.strongRecOn with
 | _ k ih =>
 intro A0 l0 A1 c1 l1 a2 r w n3 n4 n5 h
 cases k with
 | zero => exact absurd h (by simp [Af3.f])
 | succ k =>
 simp only [Af3.f] at h
 have q9 := Tryz.underlying79
 have h7 := am n3
 clear n3
 have g9 := am n4
 have k7 := am n5
 clear n4 n5
 have HB := am (Below.refl w.heap.size w)
 have H : (if 0 ≤ a2 then (if a2 < (l1.length : Int) then (if (rd l1 a2) < 0 then (some (strOfNums (([(wrap64 (64 - (rd l1 a2))) % 256] : List Int)))) else (if 0 < (l0.length : Int) then (if 0 ≤ (rd l1 a2) then (if (rd l1 a2) < (((Ad6 l0 0).f0).length : Int) then (if ((Ac2 ((Ad6 l0 0).f0) (rd l1 a2)).f1) = 0 then (some ((Ac2 ((Ad6 l0 0).f0) (rd l1 a2)).f0)) else (if ((Ac2 ((Ad6 l0 0).f0) (rd l1 a2)).f0).size + 1 ≤ 9223372036854775807 then (Af3.l0 k l0 l1 (((Ac2 ((Ad6 l0 0).f0) (rd l1 a2)).f0) ++ (⟨#[40]⟩ : ByteArray)) (wrap64 (a2 + 1)) 0 ((Ac2 ((Ad6 l0 0).f0) (rd l1 a2)).f0) ((Ac2 ((Ad6 l0 0).f0) (rd l1 a2)).f1)) else (none))) else (none)) else (none)) else (none))) else (none)) else (none)) = some r := h
 clear h
 obtain ⟨n6, H⟩ := ife H
 obtain ⟨n7, H⟩ := ife H
 by_cases c6 : (rd l1 a2) < 0
 ·rw [if_pos c6] at H
  have i2 := decide_eq_true c6
  clear c6
  obtain ⟨n8, d2⟩ : ∃ y_ : List Int, y_ = (([(wrap64 (64 - (rd l1 a2))) % 256] : List Int)) := ⟨_, rfl⟩
  replace H : (some (strOfNums n8)) = some r := by first | (rw [d2]; first | with_reducible exact H | with_reducible exact bs H) | with_reducible exact bs H | with_reducible exact H | (rw [d2]; exact H) | exact H
  have h0 := am d2
  clear d2
  obtain rfl := Option.some.inj H
  have c0 : 0 ≤ (a2 : Int) := od
  have d0 : a2 < (l1.length : Int) := od
  obtain ⟨b1, h3, d3⟩ := Kd.at_int g9.out a2 c0 d0
  cases h3
  obtain ⟨c0, d0⟩ := ee c0 d0
  have h4 : 0 ≤ (a2 : Int) := od
  have h5 : a2 < (l1.length : Int) := od
  obtain ⟨i3, n9, k8⟩ := Kd.at_int g9.out a2 h4 h5
  obtain rfl : b1 = i3 := (by injection n9)
  obtain ⟨h4, h5⟩ := ee h4 h5
  go_enter Tryz.func129, Tryz.ntmps129
  go_wp2_with (first | ((with_reducible refine An6 (N := 22) rfl ?_); refine Kd.R_lit (Kd.int .u8) _ 5 ?hg (N := 22) ?hd (xs := ([(wrap64 (64 - (rd l1 a2))) % 256] : List Int)) (inner := [.int .u8 ((wrap64 (64 - (rd l1 a2))) % 256)]) (ok := fun _ => True) (okp := fun _ => True) ?hr ?hp (fun _ hk => hk) trivial (Below.refl _ _) (Nat.le_refl _) (by simp) ?_; (case hd => rfl); (case hg => rfl); (case hr => first | (go_simp; done) | (go_simp; rfl)); (case hp => exact (Aj9.one (show Kd.M (Kd.int .u8) _ _ _ ((wrap64 (64 - (rd l1 a2))) % 256) [.int .u8 ((wrap64 (64 - (rd l1 a2))) % 256)] from rfl) (Aj9.none _ _))); intro r0 w7 i4 hb r1 hnew_; clear r1 hnew_; (first | rw [← h0.out] at i4 | (simp only [Int.reduceToNat] at i4; rw [← h0.out] at i4)); have i5 := am (Kd.R_lower i4 (Ac5 (hq HB.out))); replace HB := sb HB hb; clear hb i4; have r2 := own_string (P := Tryz.prog) Tryz.underlying49 Tryz.underlying5 Tryz.underlying9 (Kd.own_of_R i5.out)))
  go_ret
  exact ⟨er, hq HB.out⟩
 ·rw [if_neg c6] at H
  have i2 := decide_eq_false c6
  clear c6
  obtain ⟨c10, H⟩ := ifs H
  have i6 := decide_eq_true c10
  have i7 : decide (0 < l0.length) = true := decide_eq_true (by omega)
  clear c10
  obtain ⟨i9, H⟩ := ife H
  obtain ⟨j5, H⟩ := ife H
  have j6 := am H
  clear H
  have c0 : 0 ≤ (a2 : Int) := od
  have d0 : a2 < (l1.length : Int) := od
  obtain ⟨b1, h3, d3⟩ := Kd.at_int g9.out a2 c0 d0
  cases h3
  obtain ⟨c0, d0⟩ := ee c0 d0
  go_enter Tryz.func129, Tryz.ntmps129
  try go_wp2
  replace HB := am (Af1 HB.out)
  have e1 : 0 ≤ (0 : Int) := (by omega)
  have e2 : 0 < (l0.length : Int) := od
  obtain ⟨b5, o0, e0, o1, a3, d4, d5⟩ := Aj0 h7.out 0 e1 e2
  have a6 := a3
  (try simp only [t0_] at a6)
  cases o1
  have p1 : (0 < l0.length) = True := eq_true (by omega)
  (try simp only [t0_] at a3)
  replace a3 := cz HB.out a3
  have e3 := am d5
  have k9 := am d4
  clear d5 d4
  obtain ⟨e1, e2⟩ := ee e1 e2
  have e4 : 0 ≤ (0 : Int) := (by omega)
  have e5 : 0 < (l0.length : Int) := od
  obtain ⟨j7, o2, o3, o4, a4, d6, d7⟩ := Aj0 h7.out 0 e4 e5
  have a7 := a4
  (try simp only [t0_] at a7)
  obtain rfl : b5 = j7 := (by injection o4)
  have p2 : (0 < l0.length) = True := eq_true (by omega)
  (try simp only [t0_] at a4)
  replace a4 := cz HB.out a4
  have d8 := am d7
  have l4 := am d6
  clear d7 d6
  obtain ⟨e4, e5⟩ := ee e4 e5
  obtain ⟨rfl, rfl⟩ := sj a3 a4
  have e6 : 0 ≤ (a2 : Int) := od
  have e7 : a2 < (l1.length : Int) := od
  obtain ⟨j8, o5, a8⟩ := Kd.at_int g9.out a2 e6 e7
  have b2 := a8
  obtain rfl : b1 = j8 := (by injection o5)
  replace a8 := cz HB.out a8
  obtain ⟨e6, e7⟩ := ee e6 e7
  have e8 : 0 ≤ ((rd l1 a2) : Int) := od
  have e9 : (rd l1 a2) < (((Ad6 l0 0).f0).length : Int) := od
  obtain ⟨d1, o6, a9, b0⟩ := Ap3 d8.out (rd l1 a2) e8 e9
  have b3 := b0
  have b4 := a9
  cases o6
  replace a9 := cz HB.out a9
  replace b0 := cz HB.out b0
  obtain ⟨e8, e9⟩ := ee e8 e9
  refine st_ (n := 12) (S := fun w' => w'.cell? b5 = some (.slice (some d1) ((Ad6 l0 0).f0).length e0) ∧ w'.cell? b5 = some (.slice (some d1) ((Ad6 l0 0).f0).length e0) ∧ w'.cell? (b1.add (a2).toNat) = some (.int .i64 (rd l1 a2)) ∧ w'.cell? (d1.add (((rd l1 a2)).toNat * 2)) = some (.string ((Ac2 ((Ad6 l0 0).f0) (rd l1 a2)).f0)) ∧ w'.cell? ⟨(d1.add (((rd l1 a2)).toNat * 2)).block, (d1.add (((rd l1 a2)).toNat * 2)).off + 1, none⟩ = some (.int .i64 ((Ac2 ((Ad6 l0 0).f0) (rd l1 a2)).f1))) (ds := []) ⟨(cz HB.out a6), (cz HB.out a7), (cz HB.out b2), (cz HB.out b4), (cz HB.out b3)⟩ (fun hHeld => ?_); refine Ah6 Af3.tab3 Af3.bits3 (fun d9 o7 => ?_)
  generalize w.drew = s0 at HB e3 d8 a3 a4 a8 a9 b0 hHeld ⊢
  refine pu 0 24 rfl rfl d9 ?_
  refine pu 1 25 rfl rfl d9 ?_
  refine pu 2 26 rfl rfl d9 ?_
  refine pu 4 28 rfl rfl d9 ?_
  refine pu 5 29 rfl rfl d9 ?_
  refine pu 6 30 rfl rfl d9 ?_
  refine tk 3 27 rfl rfl d9 o7 hHeld ?_
  refine tk 7 31 rfl rfl d9 o7 hHeld ?_
  refine pu 8 32 rfl rfl d9 ?_
  refine tk 9 33 rfl rfl d9 o7 hHeld ?_
  refine on_ 10 (some 7) rfl rfl d9 (fun K hK => ?_)
  refine At5 ?hg (N := 7) ?hd (cs := #[.string (⟨#[]⟩ : ByteArray), .int .i64 0]) (t := 79) ?hr ?_; (case hd => rfl); (case hg => rfl); (case hr => first | (go_simp; done) | (go_simp; rfl))
  intro a1 hg p3 hbox hb
  have a0 := am (hbox)
  have a5 := am (bz hg (hq HB.out))
  have p4 := am (bz hg (hq HB.out))
  replace HB := sb HB hb
  clear hb hbox hg
  refine hK.out _ _ ⟨(cz HB.out a6), (cz HB.out a7), (cz HB.out b2), (cz HB.out b4), (cz HB.out b3)⟩ (fun hHeld => ?_)
  clear hK K
  refine nr (some 7) ?_
  refine on_ 11 none rfl rfl d9 (fun K hK => ?_)
  have r3 : p3.cell? ⟨a1, 0, none⟩ = some (.string (⟨#[]⟩ : ByteArray)) := (Ad1 a0.out 0).trans rfl
  have p5 := Aa2 a0.out 0
  have r4 : p3.cell? ⟨a1, 1, none⟩ = some (.int .i64 0) := (Ad1 a0.out 1).trans rfl
  have p6 := Aa2 a0.out 1
  refine Be5 (w1 := ?_) (by rfl) rfl ?_ ?_
  rotate_left
  ·go_simp
   rfl
  refine hK.out _ _ ⟨((Ai9 (p := ⟨a1, _, none⟩) (ac a6 a5) _).trans (((Ai9 (p := ⟨a1, _, none⟩) (ac a6 a5) _).trans (hHeld.1)))), ((Ai9 (p := ⟨a1, _, none⟩) (ac a7 a5) _).trans (((Ai9 (p := ⟨a1, _, none⟩) (ac a7 a5) _).trans (hHeld.2.1)))), ((Ai9 (p := ⟨a1, _, none⟩) (ac b2 a5) _).trans (((Ai9 (p := ⟨a1, _, none⟩) (ac b2 a5) _).trans (hHeld.2.2.1)))), ((Ai9 (p := ⟨a1, _, none⟩) (ac b4 a5) _).trans (((Ai9 (p := ⟨a1, _, none⟩) (ac b4 a5) _).trans (hHeld.2.2.2.1)))), ((Ai9 (p := ⟨a1, _, none⟩) (ac b3 a5) _).trans (((Ai9 (p := ⟨a1, _, none⟩) (ac b3 a5) _).trans (hHeld.2.2.2.2))))⟩ (fun hHeld => ?_)
  clear hK K
  refine Ar3 (Al8 d9.out (by kernel_rfl)) ?_
  have g0 := c0_ a0
  have g1 := c1_ a0
  have g2 := Aa2 a0.out 0
  have g3 := Aa2 a0.out 1
  go_upto_if 36 with (fail)
  have H := j6.out
  clear j6
  by_cases h8 : ((Ac2 ((Ad6 l0 0).f0) (rd l1 a2)).f1) = 0
  ·rw [if_pos h8] at H
   obtain ⟨b9, h2⟩ := bqt h8; clear h8
   (first | rw [b9] | (simp only [Ae6, Ae7]; rw [b9]) | skip)
   obtain rfl := Option.some.inj H
   have l5 := c0_ a0
   have l6 := c1_ a0
   have l7 := Aa2 a0.out 0
   have l8 := Aa2 a0.out 1
   go_wp2
   go_ret
   exact ⟨er, hs HB.out⟩
  ·rw [if_neg h8] at H
   obtain ⟨b9, h2⟩ := bqf h8
   (first | rw [b9] | (simp only [Ae6, Ae7]; rw [b9]) | skip)
   obtain ⟨l9, H⟩ := ifs H
   have j9 := eq_true l9
   have k0 := decide_eq_true l9
   try have k2 : (9223372036854775807 < ((Ac2 ((Ad6 l0 0).f0) (rd l1 a2)).f0).size + 1) = False := eq_false (Nat.not_lt.2 l9)
   have H' := am H
   clear H
   have g4 := c0_ a0
   have g5 := c1_ a0
   have g6 := Aa2 a0.out 0
   have g7 := Aa2 a0.out 1
   go_wp2
   go_loopg [8, 9, 10] k (fun kq v8 v9 r5 w' => ∃ (b8 : ByteArray) (b6 : Int) (b7 : Int), v8 = .string b8 ∧ v9 = .int .i64 b6 ∧ r5 = .int .i64 b7 ∧ Aside0 (Af3.l0 kq l0 l1 b8 b6 b7 ((Ac2 ((Ad6 l0 0).f0) (rd l1 a2)).f0) ((Ac2 ((Ad6 l0 0).f0) (rd l1 a2)).f1) = some r) ∧ Aside0 (kq ≤ k) ∧ Aside0 (w'.heap[a1]? = some (.cells #[.string ((Ac2 ((Ad6 l0 0).f0) (rd l1 a2)).f0), .int .i64 ((Ac2 ((Ad6 l0 0).f0) (rd l1 a2)).f1)] 79 (0, 0))) ∧ Aside0 (Below w.heap.size w w'))
   case atStart => exact ⟨(((Ac2 ((Ad6 l0 0).f0) (rd l1 a2)).f0) ++ (⟨#[40]⟩ : ByteArray)), (wrap64 (a2 + 1)), (0), et, et, et, H', ⟨Nat.le_refl _⟩, ⟨by refine bq ?_; refine Ac7 (cs := #[.string ((Ac2 ((Ad6 l0 0).f0) (rd l1 a2)).f0), .int .i64 0]) ?_ 1 _ rfl; refine bq ?_; refine Ac7 (cs := #[.string (⟨#[]⟩ : ByteArray), .int .i64 0]) ?_ 0 _ rfl; refine bq ?_; exact a0.out⟩, ⟨hs HB.out⟩⟩
   case round =>
    clear H'
    try clear c1; try clear n6; try clear n7; try clear c6; try clear i2; try clear c10; try clear i6; try clear i7; try clear i9; try clear j5; try clear h8; try clear b9; try clear h2; try clear l9; try clear j9; try clear k0; try clear k2; try clear g0; try clear g1; try clear g4; try clear g5; try clear g2; try clear g3; try clear g6; try clear g7; try clear d3; try clear a3; try clear a4; try clear a8; try clear a9; try clear b0; try clear c0; try clear e1; try clear e4; try clear e6; try clear e8; try clear d0; try clear e2; try clear e5; try clear e7; try clear e9
    obtain ⟨b8, b6, b7, rfl, rfl, rfl, HA, h9, a0, HB⟩ := hrel
    cases gk with
    | zero => exact absurd HA.out (by simp [Af3.l0])
    | succ k1 =>
     have H := HA.out
     clear HA
     simp only [Af3.l0] at H
     by_cases i0 : b7 < ((Ac2 ((Ad6 l0 0).f0) (rd l1 a2)).f1)
     ·rw [if_pos i0] at H
      have k3 := decide_eq_true i0
      clear i0
      by_cases i1 : b7 > 0
      ·rw [if_pos i1] at H
       have k4 := decide_eq_true i1
       clear i1
       obtain ⟨o8, H⟩ := ifs H
       have p7 := eq_true o8
       have p8 := decide_eq_true o8
       try have p9 : (9223372036854775807 < b8.size + 1) = False := eq_false (Nat.not_lt.2 o8)
       obtain ⟨g8, r6, H⟩ := ob H
       try dsimp only at H
       obtain ⟨m0, H⟩ := ifs H
       have q0 := eq_true m0
       have q1 := decide_eq_true m0
       try have q2 : (9223372036854775807 < (b8 ++ (⟨#[44]⟩ : ByteArray)).size + g8.size) = False := eq_false (Nat.not_lt.2 m0)
       try have c27z_ : (9223372036854775807 < b8.size + 1 + g8.size) = False := (by have h_ := m0; simp only [ByteArray.size_append] at h_; exact eq_false (Nat.not_lt.2 h_))
       obtain ⟨k5, r7, H⟩ := ob H
       try dsimp only at H
       have H' := am H
       clear H
       have m1 := c0_ a0
       have m2 := c1_ a0
       have m3 := Aa2 a0.out 0
       have m4 := Aa2 a0.out 1
       go_wp2_with (first | (refine gl (some 58) Tryz.func129 rfl #[.pointer (some b5), .slice (some b1) l1.length c1, .int .i64 b6] ?_; refine (ih k1 (by have := h9.out; omega) _ l0 _ _ l1 b6 g8 _ (cq (Kd.C_below h7.out HB.out)) (cq (Kd.C_below g9.out HB.out)) k7.out r6.out).mono ?_; rintro e s1 ⟨rfl, hb⟩; refine ⟨_, rfl, ?_⟩; replace a0 := bb a0 hb; replace HB := sb HB hb; clear hb; (try clear hk)) | (refine gl (some 63) Tryz.func48 rfl #[.pointer (some b5), .slice (some b1) l1.length c1, .int .i64 b6] ?_; refine (Ae9.calls k1 _ l0 _ _ l1 b6 k5 _ (cq (Kd.C_below h7.out HB.out)) (cq (Kd.C_below g9.out HB.out)) k7.out r7.out).mono ?_; rintro e s2 ⟨rfl, hb⟩; refine ⟨_, rfl, ?_⟩; replace a0 := bb a0 hb; replace HB := sb HB hb; clear hb; (try clear hk)))
       go_roundg k1
       case measure => have := h9.out; omega
       case rel => exact ⟨((b8 ++ (⟨#[44]⟩ : ByteArray)) ++ g8), (k5), (wrap64 (b7 + 1)), et, et, et, H', ⟨by have := h9.out; omega⟩, ⟨bq a0.out⟩, ⟨hs HB.out⟩⟩
      ·rw [if_neg i1] at H
       have k4 := decide_eq_false i1
       clear i1
       obtain ⟨h6, r8, H⟩ := ob H
       try dsimp only at H
       obtain ⟨o9, H⟩ := ifs H
       have q3 := eq_true o9
       have q4 := decide_eq_true o9
       try have q5 : (9223372036854775807 < b8.size + h6.size) = False := eq_false (Nat.not_lt.2 o9)
       obtain ⟨k6, r9, H⟩ := ob H
       try dsimp only at H
       have H' := am H
       clear H
       have m5 := c0_ a0
       have m6 := c1_ a0
       have m7 := Aa2 a0.out 0
       have m8 := Aa2 a0.out 1
       go_wp2_with (first | (refine gl (some 58) Tryz.func129 rfl #[.pointer (some b5), .slice (some b1) l1.length c1, .int .i64 b6] ?_; refine (ih k1 (by have := h9.out; omega) _ l0 _ _ l1 b6 h6 _ (cq (Kd.C_below h7.out HB.out)) (cq (Kd.C_below g9.out HB.out)) k7.out r8.out).mono ?_; rintro e s3 ⟨rfl, hb⟩; refine ⟨_, rfl, ?_⟩; replace a0 := bb a0 hb; replace HB := sb HB hb; clear hb; (try clear hk)) | (refine gl (some 63) Tryz.func48 rfl #[.pointer (some b5), .slice (some b1) l1.length c1, .int .i64 b6] ?_; refine (Ae9.calls k1 _ l0 _ _ l1 b6 k6 _ (cq (Kd.C_below h7.out HB.out)) (cq (Kd.C_below g9.out HB.out)) k7.out r9.out).mono ?_; rintro e s4 ⟨rfl, hb⟩; refine ⟨_, rfl, ?_⟩; replace a0 := bb a0 hb; replace HB := sb HB hb; clear hb; (try clear hk)))
       go_roundg k1
       case measure => have := h9.out; omega
       case rel => exact ⟨(b8 ++ h6), (k6), (wrap64 (b7 + 1)), et, et, et, H', ⟨by have := h9.out; omega⟩, ⟨bq a0.out⟩, ⟨hs HB.out⟩⟩
     ·rw [if_neg i0] at H
      have k3 := decide_eq_false i0
      clear i0
      obtain ⟨p0, H⟩ := ifs H
      have q6 := eq_true p0
      have q7 := decide_eq_true p0
      try have q8 : (9223372036854775807 < b8.size + 1) = False := eq_false (Nat.not_lt.2 p0)
      obtain rfl := Option.some.inj H
      have m9 := c0_ a0
      have n0 := c1_ a0
      have n1 := Aa2 a0.out 0
      have n2 := Aa2 a0.out 1
      go_wp2
      go_ret
      exact ⟨er, hs HB.out⟩
def Am2.f (k : Nat) (l0 : List (S36)) (a1 : ByteArray) : Option (List Int) := if (a1.size : Int) > 168 then (some ([] : List Int)) else ((Ac3.f k l0 a1).bind fun a0 => (if a0.2 = true then ((Ad4.f k l0 a0.1).bind fun a2 => (if a2 = 0 then ((Af3.f k l0 a0.1 0).bind fun a3 => (if a3.toList = a1.toList then (some a0.1) else (some ([] : List Int)))) else (some ([] : List Int)))) else (some ([] : List Int))))
theorem Am2.calls (k : Nat) (A0 : Option Addr) (l0 : List (S36)) (a1 : ByteArray) (r : List Int) (w : World) (b7 : Kd.C k36 w A0 l0.length l0) (h : Am2.f k l0 a1 = some r) :
  Calls Tryz.prog 123 #[.pointer A0, .string a1] w fun e w' => ∃ b8 : Value, e = .returned (b8) ∧ Kd.R (Kd.int .i64) 2 w' w.heap.size (fun _ => True) b8 r ∧ Below w.heap.size w w' := by
 have a8 := am b7
 clear b7
 have HB := am (Below.refl w.heap.size w)
 have H : (if (a1.size : Int) > 168 then (some ([] : List Int)) else ((Ac3.f k l0 a1).bind fun a3 => (if a3.2 = true then ((Ad4.f k l0 a3.1).bind fun a5 => (if a5 = 0 then ((Af3.f k l0 a3.1 0).bind fun a6 => (if a6.toList = a1.toList then (some a3.1) else (some ([] : List Int)))) else (some ([] : List Int)))) else (some ([] : List Int))))) = some r := h
 clear h
 by_cases c3 : (a1.size : Int) > 168
 ·rw [if_pos c3] at H
  have b2 := decide_eq_true c3
  have b3 : decide (168 < a1.size) = true := decide_eq_true (by omega)
  clear c3
  obtain rfl := Option.some.inj H
  go_enter Tryz.func123, Tryz.ntmps123
  go_wp2
  go_ret
  exact ⟨_, er, by first | exact Kd.R_nil _ _ _ _ _ | exact Kd.N_nil _ _ _ _ _ | exact Kd.V_nil _ _ _ _ _ | exact Kd.Q_nil _ _ _ _ _ | exact Kd.S_nil _ _ _ _ _, hq HB.out⟩
 ·rw [if_neg c3] at H
  have b2 := decide_eq_false c3
  have b3 : decide (168 < a1.size) = false := decide_eq_false (by omega)
  clear c3
  obtain ⟨⟨a4, b4⟩, A4, H⟩ := ob H
  try dsimp only at H
  by_cases c5 : b4 = true
  ·subst c5
   rw [if_pos rfl] at H
   obtain ⟨a5, A6, H⟩ := ob H
   try dsimp only at H
   by_cases c7 : a5 = 0
   ·rw [if_pos c7] at H
    obtain ⟨b5, b6⟩ := bqt c7; clear c7
    obtain ⟨a6, A8, H⟩ := ob H
    try dsimp only at H
    have b9 := am H
    clear H
    go_enter Tryz.func123, Tryz.ntmps123
    go_upto_if 30 with (first | (refine gl (some 13) Tryz.func128 rfl #[.pointer A0, .string a1] ?_; refine (Ac3.calls k _ l0 a1 a4 true _ (cq a8.out) A4.out).mono ?_; rintro e d2 ⟨a9, rfl, a7, hb⟩; refine ⟨_, rfl, ?_⟩; have a0 := am (Kd.R_lower a7 (Ac5 (hq HB.out))); replace HB := sb HB hb; (try clear hb); (try clear a7); obtain ⟨c0, c1, rfl⟩ := Kd.R_slice a0.out) | (go_at_call 29; refine (Ad4.calls k _ l0 _ _ a4 a5 _ (cq (Kd.C_below a8.out HB.out)) (cq (Kd.R_reads' a0.out).2.2) ((Kd.R_reads' a0.out).2.1) A6.out).mono ?_; rintro e d3 ⟨rfl, hb⟩; replace a0 := rb a0 hb; replace HB := sb HB hb; (try clear hb)) | (go_at_call 129; refine (Af3.calls k _ l0 _ _ a4 0 a6 _ (cq (Kd.C_below a8.out HB.out)) (cq (Kd.R_reads' a0.out).2.2) ((Kd.R_reads' a0.out).2.1) A8.out).mono ?_; rintro e d4 ⟨rfl, hb⟩; replace a0 := rb a0 hb; replace HB := sb HB hb; (try clear hb)))
    have H := b9.out
    clear b9
    by_cases b0 : a6.toList = a1.toList
    ·rw [if_pos b0] at H
     obtain ⟨a2, b1⟩ := bqt b0; clear b0
     (first | rw [a2] | (simp only [Ae6, Ae7]; rw [a2]) | skip)
     obtain rfl := Option.some.inj H
     go_wp2
     go_ret
     exact ⟨_, er, rq a0.out, hq HB.out⟩
    ·rw [if_neg b0] at H
     obtain ⟨a2, b1⟩ := bqf b0
     (first | rw [a2] | (simp only [Ae6, Ae7]; rw [a2]) | skip)
     obtain rfl := Option.some.inj H
     go_wp2
     go_ret
     exact ⟨_, er, by first | exact Kd.R_nil _ _ _ _ _ | exact Kd.N_nil _ _ _ _ _ | exact Kd.V_nil _ _ _ _ _ | exact Kd.Q_nil _ _ _ _ _ | exact Kd.S_nil _ _ _ _ _, hq HB.out⟩
   ·rw [if_neg c7] at H
    obtain ⟨b5, b6⟩ := bqf c7
    obtain rfl := Option.some.inj H
    go_enter Tryz.func123, Tryz.ntmps123
    go_wp2_with (first | (refine gl (some 13) Tryz.func128 rfl #[.pointer A0, .string a1] ?_; refine (Ac3.calls k _ l0 a1 a4 true _ (cq a8.out) A4.out).mono ?_; rintro e d5 ⟨a9, rfl, a7, hb⟩; refine ⟨_, rfl, ?_⟩; have a0 := am (Kd.R_lower a7 (Ac5 (hq HB.out))); replace HB := sb HB hb; (try clear hb); (try clear a7); obtain ⟨d0, d1, rfl⟩ := Kd.R_slice a0.out) | (go_at_call 29; refine (Ad4.calls k _ l0 _ _ a4 a5 _ (cq (Kd.C_below a8.out HB.out)) (cq (Kd.R_reads' a0.out).2.2) ((Kd.R_reads' a0.out).2.1) A6.out).mono ?_; rintro e d6 ⟨rfl, hb⟩; replace a0 := rb a0 hb; replace HB := sb HB hb; (try clear hb)))
    go_ret
    exact ⟨_, er, by first | exact Kd.R_nil _ _ _ _ _ | exact Kd.N_nil _ _ _ _ _ | exact Kd.V_nil _ _ _ _ _ | exact Kd.Q_nil _ _ _ _ _ | exact Kd.S_nil _ _ _ _ _, hq HB.out⟩
  ·replace c5 := Bool.eq_false_iff.mpr c5
   subst c5
   rw [if_neg (show ¬ (false = true) by decide)] at H
   obtain rfl := Option.some.inj H
   go_enter Tryz.func123, Tryz.ntmps123
   go_wp2_with (first | (refine gl (some 13) Tryz.func128 rfl #[.pointer A0, .string a1] ?_; refine (Ac3.calls k _ l0 a1 a4 false _ (cq a8.out) A4.out).mono ?_; rintro e d7 ⟨a9, rfl, a7, hb⟩; refine ⟨_, rfl, ?_⟩; have a0 := am (Kd.R_lower a7 (Ac5 (hq HB.out))); replace HB := sb HB hb; clear hb a7))
   go_ret
   exact ⟨_, er, by first | exact Kd.R_nil _ _ _ _ _ | exact Kd.N_nil _ _ _ _ _ | exact Kd.V_nil _ _ _ _ _ | exact Kd.Q_nil _ _ _ _ _ | exact Kd.S_nil _ _ _ _ _, hq HB.out⟩
def Aj3.l0 : Nat → List Int → Int → Option (Bool)
 | 0, _, _ => none
 | k + 1, x0, x3 => if x3 < (x0.length : Int) then (if 0 ≤ x3 then (if (rd x0 x3) < (-6) then (some false) else (Aj3.l0 k x0 (wrap64 (x3 + 1)))) else (none)) else (some true)
def Aj3.f (k : Nat) (l0 : List Int) : Option (Bool) := Aj3.l0 k l0 0
theorem Aj3.calls (k : Nat) (A0 : Option Addr) (c0 : Nat) (l0 : List Int) (r : Bool) (w : World) (a8 : Kd.C (Kd.int .i64) w A0 l0.length l0) (a9 : l0.length ≤ c0) (h : Aj3.f k l0 = some r) :
  Calls Tryz.prog 130 #[.slice A0 l0.length c0] w fun e w' => e = .returned (.bool r) ∧ Drawn0 w w' := by
 have b0 := am a8
 have b3 := am a9
 clear a8 a9
 have H : (Aj3.l0 k l0 0) = some r := h
 clear h
 have H' := am H
 clear H
 go_enter Tryz.func130, Tryz.ntmps130
 go_wp2
 go_loopg [3] k (fun kq v3 w' => ∃ (a0 : Int), v3 = .int .i64 a0 ∧ Aside0 (Aj3.l0 kq l0 a0 = some r) ∧ Aside0 (kq ≤ k) ∧ Drawn0 w w')
 case atStart => exact ⟨(0), et, H', ⟨Nat.le_refl _⟩, dn⟩
 case round =>
  clear H'
  obtain ⟨a0, rfl, HA, b1, ⟨m1, rfl⟩⟩ := hrel
  cases gk with
  | zero => exact absurd HA.out (by simp [Aj3.l0])
  | succ k1 =>
   have H := HA.out
   clear HA
   simp only [Aj3.l0] at H
   by_cases c2 : a0 < (l0.length : Int)
   ·rw [if_pos c2] at H
    have a6 := decide_eq_true c2
    clear c2
    obtain ⟨b2, H⟩ := ife H
    by_cases c4 : (rd l0 a0) < (-6)
    ·rw [if_pos c4] at H
     have a7 := decide_eq_true c4
     clear c4
     obtain rfl := Option.some.inj H
     have a1 : 0 ≤ (a0 : Int) := od
     have a2 : a0 < (l0.length : Int) := od
     obtain ⟨a5, a4, a3⟩ := Kd.at_int b0.out a0 a1 a2
     cases a4
     obtain ⟨a1, a2⟩ := ee a1 a2
     go_wp2
     go_ret
     exact ⟨et, dn⟩
    ·rw [if_neg c4] at H
     have a7 := decide_eq_false c4
     clear c4
     have H' := am H
     clear H
     have a1 : 0 ≤ (a0 : Int) := od
     have a2 : a0 < (l0.length : Int) := od
     obtain ⟨a5, a4, a3⟩ := Kd.at_int b0.out a0 a1 a2
     cases a4
     obtain ⟨a1, a2⟩ := ee a1 a2
     go_wp2
     go_roundg k1
     case measure => have := b1.out; omega
     case rel => exact ⟨(wrap64 (a0 + 1)), et, H', ⟨by have := b1.out; omega⟩, dn⟩
   ·rw [if_neg c2] at H
    have a6 := decide_eq_false c2
    clear c2
    obtain rfl := Option.some.inj H
    go_wp2
    go_ret
    exact ⟨et, dn⟩
attribute [local go_sem] Ai1 Ah9 Ak5 Ak4 Ah0 Ag9 Ai2 Ai0   -- for this text's walks alone
set_option linter.unusedVariables false
set_option linter.unusedSimpArgs false
def Aq6.f (k : Nat) (l0 : List (S36)) (l1 : List (S30)) : Option (Int) := if 0 < (l1.length : Int) then ((Ad4.f k l0 ((Ap2 l1 0).f0)).bind fun a0 => (if a0 = 0 then ((Ad4.f k l0 ((Ap2 l1 0).f1)).bind fun a1 => (if a1 = 0 then ((Aj3.f k ((Ap2 l1 0).f0)).bind fun a2 => (if a2 = true then ((Aj3.f k ((Ap2 l1 0).f1)).bind fun a3 => (if a3 = true then (some 0) else (some 3))) else (some 3))) else (some a1))) else (some a0))) else (none)
theorem Aq6.calls (k : Nat) (A0 : Option Addr) (l0 : List (S36)) (A1 : Option Addr) (l1 : List (S30)) (r : Int) (w : World) (s8 : Kd.C k36 w A0 l0.length l0) (s9 : Kd.C k30 w A1 l1.length l1) (h : Aq6.f k l0 l1 = some r) :
  Calls Tryz.prog 124 #[.pointer A0, .pointer A1] w fun e w' => e = .returned (.int .i64 r) ∧ Below w.heap.size w w' := by
 have t0 := am s8
 clear s8
 have i2 := am s9
 clear s9
 have HB := am (Below.refl w.heap.size w)
 have H : (if 0 < (l1.length : Int) then ((Ad4.f k l0 ((Ap2 l1 0).f0)).bind fun h7 => (if h7 = 0 then ((Ad4.f k l0 ((Ap2 l1 0).f1)).bind fun h8 => (if h8 = 0 then ((Aj3.f k ((Ap2 l1 0).f0)).bind fun k2 => (if k2 = true then ((Aj3.f k ((Ap2 l1 0).f1)).bind fun i3 => (if i3 = true then (some 0) else (some 3))) else (some 3))) else (some h8))) else (some h7))) else (none)) = some r := h
 clear h
 obtain ⟨c3, H⟩ := ifs H
 have u0 := decide_eq_true c3
 have u1 : decide (0 < l1.length) = true := decide_eq_true (by omega)
 clear c3
 obtain ⟨h7, A4, H⟩ := ob H
 try dsimp only at H
 have t1 := am H
 clear H
 have k3 : 0 ≤ (0 : Int) := (by omega)
 have k4 : 0 < (l1.length : Int) := od
 obtain ⟨a4, k5, k6, q1, q2, q3, d8, d9, e0, e1, e2, e3⟩ := Ba0 i2.out 0 k3 k4
 cases q3
 have t2 : (0 < l1.length) = True := eq_true (by omega)
 (try simp only [t0_] at d8 d9)
 have o1 := am e1
 have o2 := am e0
 clear e1 e0
 have o3 := am e3
 have o4 := am e2
 clear e3 e2
 obtain ⟨k3, k4⟩ := ee k3 k4
 have k7 : 0 ≤ (0 : Int) := (by omega)
 have k8 : 0 < (l1.length : Int) := od
 obtain ⟨n1, q4, q5, q6, q7, q8, e4, e5, e6, e7, e8, e9⟩ := Ba0 i2.out 0 k7 k8
 obtain rfl : a4 = n1 := (by injection q8)
 have t3 : (0 < l1.length) = True := eq_true (by omega)
 (try simp only [t0_] at e4 e5)
 have i4 := am e7
 have i5 := am e6
 clear e7 e6
 have o5 := am e9
 have o6 := am e8
 clear e9 e8
 obtain ⟨k7, k8⟩ := ee k7 k8
 obtain ⟨rfl, rfl⟩ := sj d8 e4
 obtain ⟨rfl, rfl⟩ := sj d9 e5
 go_enter Tryz.func124, Tryz.ntmps124
 go_upto_if 14 with (first | (refine gl (some 12) Tryz.func29 rfl #[.pointer A0, .slice k5 ((Ap2 l1 0).f0).length k6] ?_; refine (Ad4.calls k _ l0 _ _ ((Ap2 l1 0).f0) h7 _ (cq t0.out) (cq i4.out) i5.out A4.out).mono ?_; rintro e w6 ⟨rfl, hb⟩; refine ⟨_, rfl, ?_⟩; replace HB := sb HB hb; clear hb))
 have H := t1.out
 clear t1
 by_cases c7 : h7 = 0
 ·rw [if_pos c7] at H
  obtain ⟨h9, q9⟩ := bqt c7; clear c7
  (first | rw [h9] | (simp only [Ae6, Ae7]; rw [h9]) | skip)
  obtain ⟨h8, A8, H⟩ := ob H
  try dsimp only at H
  have t4 := am H
  clear H
  have k9 : 0 ≤ (0 : Int) := (by omega)
  have l4 : 0 < (l1.length : Int) := od
  obtain ⟨n2, r0, r1, l5, l6, r2, b3, b4, g0, g1, g2, g3⟩ := Ba0 i2.out 0 k9 l4
  obtain rfl : a4 = n2 := (by injection r2)
  have t5 : (0 < l1.length) = True := eq_true (by omega)
  (try simp only [t0_] at b3 b4)
  replace b3 := cz HB.out b3
  replace b4 := cz HB.out b4
  have o7 := am g1
  have o8 := am g0
  clear g1 g0
  have o9 := am g3
  have p0 := am g2
  clear g3 g2
  obtain ⟨k9, l4⟩ := ee k9 l4
  have l7 : 0 ≤ (0 : Int) := (by omega)
  have l8 : 0 < (l1.length : Int) := od
  obtain ⟨n3, r3, r4, r5, r6, r7, b5, b6, g4, g5, g6, g7⟩ := Ba0 i2.out 0 l7 l8
  obtain rfl : a4 = n3 := (by injection r7)
  have t6 : (0 < l1.length) = True := eq_true (by omega)
  (try simp only [t0_] at b5 b6)
  replace b5 := cz HB.out b5
  replace b6 := cz HB.out b6
  have p1 := am g5
  have p2 := am g4
  clear g5 g4
  have i6 := am g7
  have i7 := am g6
  clear g7 g6
  obtain ⟨l7, l8⟩ := ee l7 l8
  obtain ⟨rfl, rfl⟩ := sj b3 b5
  obtain ⟨rfl, rfl⟩ := sj b4 b6
  go_upto_if 23 with (first | (refine gl (some 21) Tryz.func29 rfl #[.pointer A0, .slice l5 ((Ap2 l1 0).f1).length l6] ?_; refine (Ad4.calls k _ l0 _ _ ((Ap2 l1 0).f1) h8 _ (cq (Kd.C_below t0.out HB.out)) (cq (Kd.C_below i6.out HB.out)) i7.out A8.out).mono ?_; rintro e u3 ⟨rfl, hb⟩; refine ⟨_, rfl, ?_⟩; replace HB := sb HB hb; clear hb))
  have H := t4.out
  clear t4
  by_cases n4 : h8 = 0
  ·rw [if_pos n4] at H
   obtain ⟨d1, n5⟩ := bqt n4; clear n4
   (first | rw [d1] | (simp only [Ae6, Ae7]; rw [d1]) | skip)
   obtain ⟨k2, t7, H⟩ := ob H
   try dsimp only at H
   by_cases p3 : k2 = true
   ·subst p3
    rw [if_pos rfl] at H
    obtain ⟨i3, u2, H⟩ := ob H
    try dsimp only at H
    have n6 := am H
    clear H
    have d2 : 0 ≤ (0 : Int) := (by omega)
    have d3 : 0 < (l1.length : Int) := od
    obtain ⟨i0, d4, d5, l9, m0, m1, a0, a1, a5, a6, a7, a8⟩ := Ba0 i2.out 0 d2 d3
    obtain rfl : a4 = i0 := (by injection m1)
    have n7 : (0 < l1.length) = True := eq_true (by omega)
    (try simp only [t0_] at a0 a1)
    replace a0 := cz HB.out a0
    replace a1 := cz HB.out a1
    have i9 := am a6
    have j5 := am a5
    clear a6 a5
    have j6 := am a8
    have j7 := am a7
    clear a8 a7
    obtain ⟨d2, d3⟩ := ee d2 d3
    have d6 : 0 ≤ (0 : Int) := (by omega)
    have d7 : 0 < (l1.length : Int) := od
    obtain ⟨i1, m2, m3, m4, m5, m6, a2, a3, a9, b0, b1, b2⟩ := Ba0 i2.out 0 d6 d7
    obtain rfl : a4 = i1 := (by injection m6)
    have n8 : (0 < l1.length) = True := eq_true (by omega)
    (try simp only [t0_] at a2 a3)
    replace a2 := cz HB.out a2
    replace a3 := cz HB.out a3
    have c1 := am b0
    have d0 := am a9
    clear b0 a9
    have j8 := am b2
    have j9 := am b1
    clear b2 b1
    obtain ⟨d6, d7⟩ := ee d6 d7
    obtain ⟨rfl, rfl⟩ := sj a0 a2
    obtain ⟨rfl, rfl⟩ := sj a1 a3
    go_upto_if 38 with (first | (refine gl (some 29) Tryz.func130 rfl #[.slice d4 ((Ap2 l1 0).f0).length d5] ?_; refine (Aj3.calls k _ _ ((Ap2 l1 0).f0) true _ (cq (Kd.C_below c1.out HB.out)) d0.out t7.out).mono ?_; rintro e w' ⟨rfl, ⟨nd, rfl⟩⟩; refine ⟨_, rfl, ?_⟩; have m7 : 0 ≤ (0 : Int) := (by omega); have m8 : 0 < (l1.length : Int) := od; obtain ⟨n9, r8, r9, s0, s1, s2, b7, b8, g8, g9, h0, h2⟩ := Ba0 i2.out 0 m7 m8; obtain rfl : a4 = n9 := (by injection s2); have t8 : (0 < l1.length) = True := eq_true (by omega); (try simp only [t0_] at b7 b8); replace b7 := cz HB.out b7; replace b8 := cz HB.out b8; have p4 := am g9; have p5 := am g8; clear g9 g8; have p6 := am h2; have p7 := am h0; clear h2 h0; replace m7 := eq_true m7; replace m8 := eq_true m8; obtain ⟨rfl, rfl⟩ := sj a0 b7; obtain ⟨rfl, rfl⟩ := sj a1 b8; have m9 : 0 ≤ (0 : Int) := (by omega); have n0 : 0 < (l1.length : Int) := od; obtain ⟨o0, s3, s4, s5, s6, s7, b9, c0, h3, h4, h5, h6⟩ := Ba0 i2.out 0 m9 n0; obtain rfl : a4 = o0 := (by injection s7); have t9 : (0 < l1.length) = True := eq_true (by omega); (try simp only [t0_] at b9 c0); replace b9 := cz HB.out b9; replace c0 := cz HB.out c0; have p8 := am h4; have p9 := am h3; clear h4 h3; have k0 := am h6; have k1 := am h5; clear h6 h5; replace m9 := eq_true m9; replace n0 := eq_true n0; obtain ⟨rfl, rfl⟩ := sj a0 b9; obtain ⟨rfl, rfl⟩ := sj a1 c0) | (go_at_call 130; refine (Aj3.calls k _ _ ((Ap2 l1 0).f1) i3 _ (cq (Kd.C_below k0.out (hq HB.out))) k1.out u2.out).mono ?_; rintro e w' ⟨rfl, ⟨nd, rfl⟩⟩))
    have H := n6.out
    clear n6
    by_cases q0 : i3 = true
    ·subst q0
     rw [if_pos rfl] at H
     obtain rfl := Option.some.inj H
     go_wp2
     go_ret
     exact ⟨er, hq HB.out⟩
    ·replace q0 := Bool.eq_false_iff.mpr q0
     subst q0
     rw [if_neg (show ¬ (false = true) by decide)] at H
     obtain rfl := Option.some.inj H
     go_wp2
     go_ret
     exact ⟨er, hq HB.out⟩
   ·replace p3 := Bool.eq_false_iff.mpr p3
    subst p3
    rw [if_neg (show ¬ (false = true) by decide)] at H
    obtain rfl := Option.some.inj H
    have d2 : 0 ≤ (0 : Int) := (by omega)
    have d3 : 0 < (l1.length : Int) := od
    obtain ⟨i0, d4, d5, l9, m0, m1, a0, a1, a5, a6, a7, a8⟩ := Ba0 i2.out 0 d2 d3
    obtain rfl : a4 = i0 := (by injection m1)
    have n7 : (0 < l1.length) = True := eq_true (by omega)
    (try simp only [t0_] at a0 a1)
    replace a0 := cz HB.out a0
    replace a1 := cz HB.out a1
    have i9 := am a6
    have j5 := am a5
    clear a6 a5
    have j6 := am a8
    have j7 := am a7
    clear a8 a7
    obtain ⟨d2, d3⟩ := ee d2 d3
    have d6 : 0 ≤ (0 : Int) := (by omega)
    have d7 : 0 < (l1.length : Int) := od
    obtain ⟨i1, m2, m3, m4, m5, m6, a2, a3, a9, b0, b1, b2⟩ := Ba0 i2.out 0 d6 d7
    obtain rfl : a4 = i1 := (by injection m6)
    have n8 : (0 < l1.length) = True := eq_true (by omega)
    (try simp only [t0_] at a2 a3)
    replace a2 := cz HB.out a2
    replace a3 := cz HB.out a3
    have c1 := am b0
    have d0 := am a9
    clear b0 a9
    have j8 := am b2
    have j9 := am b1
    clear b2 b1
    obtain ⟨d6, d7⟩ := ee d6 d7
    obtain ⟨rfl, rfl⟩ := sj a0 a2
    obtain ⟨rfl, rfl⟩ := sj a1 a3
    go_wp2_with (first | (refine gl (some 29) Tryz.func130 rfl #[.slice d4 ((Ap2 l1 0).f0).length d5] ?_; refine (Aj3.calls k _ _ ((Ap2 l1 0).f0) false _ (cq (Kd.C_below c1.out HB.out)) d0.out t7.out).mono ?_; rintro e w' ⟨rfl, ⟨nd, rfl⟩⟩; refine ⟨_, rfl, ?_⟩))
    go_ret
    exact ⟨er, hq HB.out⟩
  ·rw [if_neg n4] at H
   obtain ⟨d1, n5⟩ := bqf n4
   (first | rw [d1] | (simp only [Ae6, Ae7]; rw [d1]) | skip)
   obtain rfl := Option.some.inj H
   go_wp2
   go_ret
   exact ⟨er, hq HB.out⟩
 ·rw [if_neg c7] at H
  obtain ⟨h9, q9⟩ := bqf c7
  (first | rw [h9] | (simp only [Ae6, Ae7]; rw [h9]) | skip)
  obtain rfl := Option.some.inj H
  go_wp2
  go_ret
  exact ⟨er, hq HB.out⟩
attribute [local go_sem] Ai1 Ah9 Ak5 Ak4 Ah0 Ag9 Ai2 Ai0   -- for this text's walks alone
set_option linter.unusedVariables false
set_option linter.unusedSimpArgs false
def Af6.f (k : Nat) (a2 : List (S79)) (a1 : ByteArray) : Option (Int × List Int × List Int) := (Aa4.f k a2).bind fun a3 => (if a3 = 0 then (if (a1.size : Int) > 337 then (some (5, ([] : List Int), ([] : List Int))) else ((Ai4.f k a1 61).bind fun a0 => (if (a0.length : Int) = 2 then (if 0 < (a0.length : Int) then ((Am2.f k [(⟨a2⟩ : S36)] (As6 ByteArray.empty a0 0)).bind fun a4 => (if 1 < (a0.length : Int) then ((Am2.f k [(⟨a2⟩ : S36)] (As6 ByteArray.empty a0 1)).bind fun a5 => ((Aq6.f k [(⟨a2⟩ : S36)] [(⟨a4, a5⟩ : S30)]).bind fun a6 => (if a6 = 0 then (some (0, a4, a5)) else (some (5, ([] : List Int), ([] : List Int)))))) else (none))) else (none)) else (some (5, ([] : List Int), ([] : List Int)))))) else (some (a3, ([] : List Int), ([] : List Int))))
def Af6.T10 : Bool × List (List Nat × List Nat) := (true, [([], []), ([0], [0]), ([1], [1]), ([2], [2]), ([], []), ([4], [4]), ([5], [5]), ([6, 3], [6]), ([3, 7], [3, 7]), ([], []), ([9, 8, 7, 0, 1, 2, 3, 4, 5, 6, 7, 8, 9], [8, 9])])
def Af6.B10 : List Nat := [0, 1, 3, 7, 0, 16, 48, 127, 255, 0, 1023]
theorem Af6.tab10 : Au3 .any (Au5 Tryz.f117 10) = Af6.T10 := by kernel_rfl
theorem Af6.bits10 : Al2 Af6.T10.2 Af6.B10 = true := by kernel_rfl
theorem Af6.calls (k : Nat) (g7 : Option Addr) (g8 : Nat) (b9 : List (S79)) (a1 : ByteArray) (r1 : Int) (r2 : List Int) (r3 : List Int) (w : World) (h8 : Kd.C k79 w g7 b9.length b9) (h9 : b9.length ≤ g8) (h : Af6.f k b9 a1 = some (r1, r2, r3)) :
  Calls Tryz.prog 117 #[.agg #[.slice g7 b9.length g8], .string a1] w fun e w' => ∃ t5 t6 : Value, e = .returned (.agg #[.int .i64 r1, t5, t6]) ∧ Kd.R (Kd.int .i64) 2 w' w.heap.size (fun k_ => some k_ ≠ (t6 : Value).ownBlock) t5 r2 ∧ Kd.R (Kd.int .i64) 2 w' w.heap.size (fun k_ => some k_ ≠ (t5 : Value).ownBlock) t6 r3 ∧ Below w.heap.size w w' := by
 have C7 := Tryz.underlying36
 have C8 := Tryz.underlying32
 have C9 := Tryz.underlying30
 have e0 := am h8
 have e1 := am h9
 clear h8 h9
 have HB := am (Below.refl w.heap.size w)
 have H : ((Aa4.f k b9).bind fun g0 => (if g0 = 0 then (if (a1.size : Int) > 337 then (some (5, ([] : List Int), ([] : List Int))) else ((Ai4.f k a1 61).bind fun b5 => (if (b5.length : Int) = 2 then (if 0 < (b5.length : Int) then ((Am2.f k [(⟨b9⟩ : S36)] (As6 ByteArray.empty b5 0)).bind fun b7 => (if 1 < (b5.length : Int) then ((Am2.f k [(⟨b9⟩ : S36)] (As6 ByteArray.empty b5 1)).bind fun b8 => ((Aq6.f k [(⟨b9⟩ : S36)] [(⟨b7, b8⟩ : S30)]).bind fun h7 => (if h7 = 0 then (some (0, b7, b8)) else (some (5, ([] : List Int), ([] : List Int)))))) else (none))) else (none)) else (some (5, ([] : List Int), ([] : List Int)))))) else (some (g0, ([] : List Int), ([] : List Int))))) = some (r1, r2, r3) := h
 clear h
 obtain ⟨g0, A3, H⟩ := ob H
 try dsimp only at H
 have w2 := am H
 clear H
 go_enter Tryz.func117, Tryz.ntmps117
 go_upto_if 12 with (first | (refine bx 2 rfl #[.slice g7 b9.length g8] 36 ?_; intro c1 hg w5 hbox hb; have a3 := am (hbox); have k1 := am (bz hg (hq HB.out)); replace HB := sb HB hb; have w3 := k1; clear hb hbox hg) | (refine bx 4 rfl #[.int .i64 0, .slice none 0 0, .slice none 0 0] 32 ?_; intro b3 hg w6 hbox hb; have a0 := am (hbox); have k2 := am (bz hg (hs HB.out)); replace HB := sb HB hb; have w4 := k2; have h3 := nl hg a3; have c0 := ng hg a3; replace a3 := bb a3 hb; clear hb hbox hg; obtain ⟨D0, D1⟩ := nn h3; have t7 := c0_ a3; have t8 := Aa2 a3.out 0) | (refine gl (some 10) Tryz.func45 rfl #[.agg #[.slice g7 b9.length g8]] ?_; refine (Aa4.calls k _ _ b9 g0 _ (cq (Kd.C_below e0.out HB.out)) e1.out A3.out).mono ?_; rintro e w9 ⟨rfl, hb⟩; refine ⟨_, rfl, ?_⟩; replace a3 := bb a3 hb; replace a0 := bb a0 hb; replace HB := sb HB hb; clear hb; (try clear hk)))
 have H := w2.out
 clear w2
 by_cases c10 : g0 = 0
 ·rw [if_pos c10] at H
  obtain ⟨g1, k3⟩ := bqt c10; clear c10
  (first | rw [g1] | (simp only [Ae6, Ae7]; rw [g1]) | skip)
  have k4 := am H
  clear H
  go_upto_if 18 with (first | (refine bx 6 rfl #[.int .i64 0, .slice none 0 0, .slice none 0 0] 32 ?_; intro d5 hg t9 hbox hb; have a2 := am (hbox); have k5 := am (bz hg (hs HB.out)); replace HB := sb HB hb; have w7 := k5; have j9 := nl hg a3; have d0 := ng hg a3; replace a3 := bb a3 hb; have d1 := nl hg a0; have d2 := ng hg a0; replace a0 := bb a0 hb; clear hb hbox hg; obtain ⟨w8, x0⟩ := nn d0; obtain ⟨x1, x2⟩ := nn d2; have m2 := c0_ a2; have m3 := c1_ a2; have m4 : t9.cell? ⟨d5, 2, none⟩ = some (.slice none 0 0) := (Ad1 a2.out 2).trans rfl; have m5 := Aa2 a2.out 0; have m6 := Aa2 a2.out 1; have m7 := Aa2 a2.out 2))
  have H := k4.out
  clear k4
  by_cases k0 : (a1.size : Int) > 337
  ·rw [if_pos k0] at H
   have g2 := decide_eq_true k0
   have k6 : decide (337 < a1.size) = true := decide_eq_true (by omega)
   clear k0
   (first | rw [g2] | (simp only [Ae6, Ae7]; rw [g2]) | skip)
   simp only [Option.some.injEq, Prod.mk.injEq] at H
   obtain ⟨rfl, rfl, rfl⟩ := H
   obtain ⟨x3, x4⟩ := nn d0
   obtain ⟨x5, x6⟩ := nn d2
   have m8 := c0_ a2
   have m9 := c1_ a2
   have n0 : t9.cell? ⟨d5, 2, none⟩ = some (.slice none 0 0) := (Ad1 a2.out 2).trans rfl
   have n1 := Aa2 a2.out 0
   have n2 := Aa2 a2.out 1
   have n3 := Aa2 a2.out 2
   obtain ⟨x7, x8⟩ := nn c0
   have n4 := c0_ a0
   have n5 := c1_ a0
   have n6 : t9.cell? ⟨b3, 2, none⟩ = some (.slice none 0 0) := (Ad1 a0.out 2).trans rfl
   have n7 := Aa2 a0.out 0
   have n8 := Aa2 a0.out 1
   have n9 := Aa2 a0.out 2
   go_wp2
   refine bodyPost_ret (results_cell_row rfl _ _ b3 32 #[.int .i64 5, .slice none 0 0, .slice none 0 0] (0, 0) _ rfl (by refine bq ?_; refine Ac7 (cs := #[.int .i64 5, .slice none 0 0, .slice none 0 0]) ?_ 2 _ rfl; refine bq ?_; refine Ac7 (cs := #[.int .i64 5, .slice none 0 0, .slice none 0 0]) ?_ 1 _ rfl; refine bq ?_; refine Ac7 (cs := #[.int .i64 0, .slice none 0 0, .slice none 0 0]) ?_ 0 _ rfl; refine bq ?_; refine Aq1 ?_ d1.out _; refine bq ?_; refine Aq1 ?_ d1.out _; refine bq ?_; refine Aq1 ?_ d1.out _; refine bq ?_; exact a0.out) Tryz.underlying32 rfl (by kernel_rfl)) rfl ?_
   exact ⟨_, _, er, by first | exact Kd.R_nil _ _ _ _ _ | exact Kd.N_nil _ _ _ _ _ | exact Kd.V_nil _ _ _ _ _ | exact Kd.Q_nil _ _ _ _ _ | exact Kd.S_nil _ _ _ _ _, by first | exact Kd.R_nil _ _ _ _ _ | exact Kd.N_nil _ _ _ _ _ | exact Kd.V_nil _ _ _ _ _ | exact Kd.Q_nil _ _ _ _ _ | exact Kd.S_nil _ _ _ _ _, hs HB.out⟩
  ·rw [if_neg k0] at H
   have g2 := decide_eq_false k0
   have k6 : decide (337 < a1.size) = false := decide_eq_false (by omega)
   clear k0
   (first | rw [g2] | (simp only [Ae6, Ae7]; rw [g2]) | skip)
   obtain ⟨b5, D2, H⟩ := ob H
   try dsimp only at H
   have k7 := am H
   clear H
   go_upto_if 24 with (first | (refine gl (some 21) Tryz.func122 rfl #[.string a1, .int .u8 61] ?_; refine (Ai4.calls k a1 61 b5 _ D2.out).mono ?_; rintro e u0 ⟨D3, rfl, e6, hb⟩; refine ⟨_, rfl, ?_⟩; have a4 := am (Kd.R_lower e6 (Ac5 (hs HB.out))); replace a3 := am (Af8 (g := c1) (o := .cells #[.slice g7 b9.length g8] 36 (0, 0)) (bf a3.out) hb); replace a0 := am (Af8 (g := b3) (o := .cells #[.int .i64 0, .slice none 0 0, .slice none 0 0] 32 (0, 0)) (bf a0.out) hb); replace a2 := am (Af8 (g := d5) (o := .cells #[.int .i64 5, .slice none 0 0, .slice none 0 0] 32 (0, 0)) (by refine bq ?_; refine Ac7 (cs := #[.int .i64 5, .slice none 0 0, .slice none 0 0]) ?_ 2 _ rfl; refine bq ?_; refine Ac7 (cs := #[.int .i64 5, .slice none 0 0, .slice none 0 0]) ?_ 1 _ rfl; refine bq ?_; refine Ac7 (cs := #[.int .i64 0, .slice none 0 0, .slice none 0 0]) ?_ 0 _ rfl; refine bq ?_; exact a2.out) hb); replace HB := sb HB hb; (try clear hb); (try clear hk); (try clear e6); obtain ⟨D4, u1, rfl⟩ := Kd.R_slice a4.out))
   have H := k7.out
   clear k7
   by_cases k8 : (b5.length : Int) = 2
   ·rw [if_pos k8] at H
    obtain ⟨g3, k9⟩ := bqt k8; clear k8
    (first | rw [g3] | (simp only [Ae6, Ae7]; rw [g3]) | skip)
    obtain ⟨x9, H⟩ := ifs H
    have y0 := decide_eq_true x9
    have y1 : decide (0 < b5.length) = true := decide_eq_true (by omega)
    clear x9
    obtain ⟨b7, y2, H⟩ := ob H
    try dsimp only at H
    obtain ⟨y3, H⟩ := ifs H
    have y4 := decide_eq_true y3
    have y5 : decide (1 < b5.length) = true := decide_eq_true (by omega)
    clear y3
    obtain ⟨b8, u2, H⟩ := ob H
    try dsimp only at H
    obtain ⟨h7, D5, H⟩ := ob H
    try dsimp only at H
    have l4 := am H
    clear H
    try go_wp2
    replace a4 := am (Kd.R_drew a4.out)
    replace a3 := am (Ah2 a3.out)
    replace a0 := am (Ah2 a0.out)
    replace a2 := am (Ah2 a2.out)
    replace HB := am (Af1 HB.out)
    have i0 : 0 ≤ (0 : Int) := (by omega)
    have i1 : 0 < (b5.length : Int) := od
    obtain ⟨d8, u3, e9⟩ := Kd.at_string (Kd.R_reads' a4.out).2.2 0 i0 i1
    cases u3
    have y6 : (0 < b5.length) = True := eq_true (by omega)
    (try simp only [t0_] at e9)
    obtain ⟨i0, i1⟩ := ee i0 i1
    have i2 : 0 ≤ (1 : Int) := (by omega)
    have i3 : 1 < (b5.length : Int) := od
    obtain ⟨l5, u4, d9⟩ := Kd.at_string (Kd.R_reads' a4.out).2.2 1 i2 i3
    obtain rfl : d8 = l5 := (by injection u4)
    (try simp only [show (1 : Int).toNat = 1 from rfl, Nat.reduceMul, Nat.reduceEqDiff, Go.Addr.add, ↓reduceIte] at d9)
    have y7 : (1 < b5.length) = True := eq_true (by omega)
    (try rw [show ((1 : Int)).toNat = 1 from rfl] at d9)
    obtain ⟨i2, i3⟩ := ee i2 i3
    refine st_ (n := 11) (S := fun w' => w'.cell? d8 = some (.string (As6 ByteArray.empty b5 0)) ∧ w'.cell? ⟨d8.block, d8.off + 1, none⟩ = some (.string (As6 ByteArray.empty b5 1))) (ds := []) ⟨e9, d9⟩ (fun hHeld => ?_); refine Ah6 Af6.tab10 Af6.bits10 (fun g4 y8 => ?_)
    generalize u0.drew = E0 at a4 a3 a0 a2 HB e9 d9 hHeld ⊢
    refine pu 0 26 rfl rfl g4 ?_
    refine pu 1 27 rfl rfl g4 ?_
    refine pu 4 30 rfl rfl g4 ?_
    refine pu 5 31 rfl rfl g4 ?_
    refine tk 2 28 rfl rfl g4 y8 hHeld ?_
    refine tk 6 32 rfl rfl g4 y8 hHeld ?_
    refine Bl8 (σ := Value × Value × Nat) 1 #[true, true, true, true, true, true, true, true, true, true, false] (fun s_ => [(29, s_.1), (33, s_.2.1), (8, .pointer (some ⟨s_.2.2, 0, none⟩)), (34, .agg #[s_.1, s_.2.1])]) (fun s_ w' => (w'.cell? d8 = some (.string (As6 ByteArray.empty b5 0)) ∧ w'.cell? ⟨d8.block, d8.off + 1, none⟩ = some (.string (As6 ByteArray.empty b5 1))) ∧ (Kd.R Kd.string 9 w' w.heap.size (fun _ => True) (.slice (some d8) b5.length u1) b5) ∧ (Kd.R (Kd.int .i64) 2 w' w.heap.size (fun k_ => some k_ ≠ (s_.2.1 : Value).ownBlock) s_.1 b7) ∧ (Kd.R (Kd.int .i64) 2 w' w.heap.size (fun k_ => some k_ ≠ (s_.1 : Value).ownBlock) s_.2.1 b8) ∧ (w'.heap[c1]? = some (.cells #[.slice g7 b9.length g8] 36 (0, 0))) ∧ (w'.heap[b3]? = some (.cells #[.int .i64 0, .slice none 0 0, .slice none 0 0] 32 (0, 0))) ∧ (w'.heap[d5]? = some (.cells #[.int .i64 5, .slice none 0 0, .slice none 0 0] 32 (0, 0))) ∧ (w'.heap[s_.2.2]? = some (.cells #[.slice none 0 0, .slice none 0 0] 30 (0, 0))) ∧ (w.heap.size ≤ s_.2.2) ∧ (w.heap.size ≤ s_.2.2) ∧ (c1 ≠ s_.2.2) ∧ (s_.2.2 ≠ c1) ∧ (b3 ≠ s_.2.2) ∧ (s_.2.2 ≠ b3) ∧ (d5 ≠ s_.2.2) ∧ (s_.2.2 ≠ d5) ∧ (Below w.heap.size w w')) ?_ ?_
    rotate_left
    ·intro hCont
     refine Bn3 (i := 3) (j := 9) (Ni := some 29) (Nj := some 8) #[true, true, true, true, true, true, true, false, false, false, false] #[true, true, true, false, true, true, true, false, false, true, false] rfl rfl rfl rfl (Bc2 g4.out (by kernel_rfl)) (by decide) (by decide) (fun K hK => ?_) (fun K hK => ?_)
     ·skip
      refine gs Tryz.func123 #[.pointer (some ⟨c1, 0, none⟩), .string (As6 ByteArray.empty b5 0)] ?_
      refine (Am2.calls k _ [(⟨b9⟩ : S36)] (As6 ByteArray.empty b5 0) b7 _ (Ao2 (bq a3.out) (cq (Kd.C_below e0.out HB.out)) (by exact e1.out)) y2.out).mono ?_
      rintro e D6 ⟨l6, rfl, e6, hb⟩
      have d3 := (hb.cell (World.block_lt_of_cell? _ _ (hHeld.1))).trans (hHeld.1)
      have d4 := (hb.cell (World.block_lt_of_cell? _ _ (hHeld.2))).trans (hHeld.2)
      refine ⟨_, rfl, ?_⟩
      replace a4 := rb a4 hb
      have a6 := am (Kd.R_lower e6 (Ac5 (hs HB.out)))
      replace a3 := bb a3 hb
      replace a0 := bb a0 hb
      replace a2 := bb a2 hb
      replace HB := sb HB hb
      (try clear hb)
      (try clear hk)
      (try clear e6)
      refine hK.out _ _ ⟨d3, d4⟩ (fun hHeld => ?_)
      clear hK K
      refine nr (some 29) ?_
      refine Bn3 (i := 7) (j := 9) (Ni := some 33) (Nj := some 8) #[true, true, true, true, true, true, true, true, false, false, false] #[true, true, true, true, true, true, true, false, false, true, false] rfl rfl rfl rfl (Bc2 g4.out (by kernel_rfl)) (by decide) (by decide) (fun K hK => ?_) (fun K hK => ?_)
      ·skip
       refine gs Tryz.func123 #[.pointer (some ⟨c1, 0, none⟩), .string (As6 ByteArray.empty b5 1)] ?_
       refine (Am2.calls k _ [(⟨b9⟩ : S36)] (As6 ByteArray.empty b5 1) b8 _ (Ao2 (bq a3.out) (cq (Kd.C_below e0.out HB.out)) (by exact e1.out)) u2.out).mono ?_
       rintro e y9 ⟨i4, rfl, e6, hb⟩
       have d3 := (hb.cell (World.block_lt_of_cell? _ _ (hHeld.1))).trans (hHeld.1)
       have d4 := (hb.cell (World.block_lt_of_cell? _ _ (hHeld.2))).trans (hHeld.2)
       refine ⟨_, rfl, ?_⟩
       replace a4 := rb a4 hb
       have b6 := am (Kd.R_lower (Kd.R_new' e6 (Kd.R_lt (rq a6.out))) (Ac5 (hs HB.out)))
       replace a6 := am (Kd.R_elder' (rq a6.out) (Kd.R_base e6) hb)
       replace a3 := bb a3 hb
       replace a0 := bb a0 hb
       replace a2 := bb a2 hb
       replace HB := sb HB hb
       (try clear hb)
       (try clear hk)
       (try clear e6)
       obtain ⟨u5, u6, l7⟩ := Kd.R_slice b6.out
       (first | subst l7 | (injection l7 with e2 g9 e3; have h0 := e2.symm; have h2 := e3.symm; clear e2 g9 e3; subst h0; subst h2))
       obtain ⟨h4, h5, g5⟩ := Kd.R_slice a6.out
       (first | subst g5 | (injection g5 with e2 g9 e3; have h0 := e2.symm; have h2 := e3.symm; clear e2 g9 e3; subst h0; subst h2))
       refine hK.out _ _ ⟨d3, d4⟩ (fun hHeld => ?_)
       clear hK K
       refine nr (some 33) ?_
       refine pu 8 34 rfl rfl g4 ?_
       refine on_ 9 (some 8) rfl rfl g4 (fun K hK => ?_)
       refine At5 ?hg (N := 8) ?hd (cs := #[.slice none 0 0, .slice none 0 0]) (t := 30) ?hr ?_; (case hd => rfl); (case hg => rfl); (case hr => first | (go_simp; done) | (go_simp; rfl))
       intro a7 hg E1 hbox hb
       have d3 := (hb.cell (World.block_lt_of_cell? _ _ (hHeld.1))).trans (hHeld.1)
       have d4 := (hb.cell (World.block_lt_of_cell? _ _ (hHeld.2))).trans (hHeld.2)
       replace a4 := rb a4 hb
       replace a6 := rb a6 hb
       replace b6 := rb b6 hb
       have a5 := am (hbox)
       have e7 := am (bz hg (hs HB.out))
       have e8 := am (bz hg (hs HB.out))
       replace HB := sb HB hb
       have b4 := nl hg a3
       have a8 := ng hg a3
       replace a3 := bb a3 hb
       have a9 := nl hg a0
       have b0 := ng hg a0
       replace a0 := bb a0 hb
       have b1 := nl hg a2
       have b2 := ng hg a2
       replace a2 := bb a2 hb
       clear hb hbox hg
       refine hK.out _ _ ⟨d3, d4⟩ (fun hHeld => ?_)
       clear hK K
       refine nr (some 8) ?_
       exact nj (hCont (.slice h4 b7.length h5, .slice u5 b8.length u6, a7) _ ⟨hHeld, (rq a4.out), (rq (Kd.R_mono a6.out (fun _ hk => hk.2))), (rq (Kd.R_mono b6.out (fun _ hk => hk.2))), (bq a3.out), (bq a0.out), (bq a2.out), (bq a5.out), e7.out, e8.out, b4.out, a8.out, a9.out, b0.out, b1.out, b2.out, (hs HB.out)⟩)
      ·skip
       refine At5 ?hg (N := 8) ?hd (cs := #[.slice none 0 0, .slice none 0 0]) (t := 30) ?hr ?_; (case hd => rfl); (case hg => rfl); (case hr => first | (go_simp; done) | (go_simp; rfl))
       intro a7 hg y9 hbox hb
       have d3 := (hb.cell (World.block_lt_of_cell? _ _ (hHeld.1))).trans (hHeld.1)
       have d4 := (hb.cell (World.block_lt_of_cell? _ _ (hHeld.2))).trans (hHeld.2)
       replace a4 := rb a4 hb
       replace a6 := rb a6 hb
       have a5 := am (hbox)
       have e7 := am (bz hg (hs HB.out))
       have e8 := am (bz hg (hs HB.out))
       replace HB := sb HB hb
       have b4 := nl hg a3
       have a8 := ng hg a3
       replace a3 := bb a3 hb
       have a9 := nl hg a0
       have b0 := ng hg a0
       replace a0 := bb a0 hb
       have b1 := nl hg a2
       have b2 := ng hg a2
       replace a2 := bb a2 hb
       clear hb hbox hg
       refine hK.out _ _ ⟨d3, d4⟩ (fun hHeld => ?_)
       clear hK K
       refine nr (some 8) ?_
       refine on_ 7 (some 33) rfl rfl g4 (fun K hK => ?_)
       refine gs Tryz.func123 #[.pointer (some ⟨c1, 0, none⟩), .string (As6 ByteArray.empty b5 1)] ?_
       refine (Am2.calls k _ [(⟨b9⟩ : S36)] (As6 ByteArray.empty b5 1) b8 _ (Ao2 (bq a3.out) (cq (Kd.C_below e0.out HB.out)) (by exact e1.out)) u2.out).mono ?_
       rintro e D7 ⟨i4, rfl, e6, hb⟩
       have d3 := (hb.cell (World.block_lt_of_cell? _ _ (hHeld.1))).trans (hHeld.1)
       have d4 := (hb.cell (World.block_lt_of_cell? _ _ (hHeld.2))).trans (hHeld.2)
       refine ⟨_, rfl, ?_⟩
       replace a4 := rb a4 hb
       have b6 := am (Kd.R_lower (Kd.R_new' e6 (Kd.R_lt (rq a6.out))) (Ac5 (hs HB.out)))
       replace a6 := am (Kd.R_elder' (rq a6.out) (Kd.R_base e6) hb)
       replace a3 := bb a3 hb
       replace a0 := bb a0 hb
       replace a2 := bb a2 hb
       replace a5 := bb a5 hb
       replace HB := sb HB hb
       (try clear hb)
       (try clear hk)
       (try clear e6)
       obtain ⟨h4, h5, g5⟩ := Kd.R_slice b6.out
       (first | subst g5 | (injection g5 with e2 g9 e3; have h0 := e2.symm; have h2 := e3.symm; clear e2 g9 e3; subst h0; subst h2))
       obtain ⟨i5, i6, h6⟩ := Kd.R_slice a6.out
       (first | subst h6 | (injection h6 with e2 g9 e3; have h0 := e2.symm; have h2 := e3.symm; clear e2 g9 e3; subst h0; subst h2))
       refine hK.out _ _ ⟨d3, d4⟩ (fun hHeld => ?_)
       clear hK K
       refine nr (some 33) ?_
       refine pu 8 34 rfl rfl g4 ?_
       exact nj (hCont (.slice i5 b7.length i6, .slice h4 b8.length h5, a7) _ ⟨hHeld, (rq a4.out), (rq (Kd.R_mono a6.out (fun _ hk => hk.2))), (rq (Kd.R_mono b6.out (fun _ hk => hk.2))), (bq a3.out), (bq a0.out), (bq a2.out), (bq a5.out), e7.out, e8.out, b4.out, a8.out, a9.out, b0.out, b1.out, b2.out, (hs HB.out)⟩)
     ·skip
      refine At5 ?hg (N := 8) ?hd (cs := #[.slice none 0 0, .slice none 0 0]) (t := 30) ?hr ?_; (case hd => rfl); (case hg => rfl); (case hr => first | (go_simp; done) | (go_simp; rfl))
      intro a7 hg D6 hbox hb
      have d3 := (hb.cell (World.block_lt_of_cell? _ _ (hHeld.1))).trans (hHeld.1)
      have d4 := (hb.cell (World.block_lt_of_cell? _ _ (hHeld.2))).trans (hHeld.2)
      replace a4 := rb a4 hb
      have a5 := am (hbox)
      have e7 := am (bz hg (hs HB.out))
      have e8 := am (bz hg (hs HB.out))
      replace HB := sb HB hb
      have b4 := nl hg a3
      have a8 := ng hg a3
      replace a3 := bb a3 hb
      have a9 := nl hg a0
      have b0 := ng hg a0
      replace a0 := bb a0 hb
      have b1 := nl hg a2
      have b2 := ng hg a2
      replace a2 := bb a2 hb
      clear hb hbox hg
      refine hK.out _ _ ⟨d3, d4⟩ (fun hHeld => ?_)
      clear hK K
      refine nr (some 8) ?_
      refine on_ 3 (some 29) rfl rfl g4 (fun K hK => ?_)
      refine gs Tryz.func123 #[.pointer (some ⟨c1, 0, none⟩), .string (As6 ByteArray.empty b5 0)] ?_
      refine (Am2.calls k _ [(⟨b9⟩ : S36)] (As6 ByteArray.empty b5 0) b7 _ (Ao2 (bq a3.out) (cq (Kd.C_below e0.out HB.out)) (by exact e1.out)) y2.out).mono ?_
      rintro e y9 ⟨l6, rfl, e6, hb⟩
      have d3 := (hb.cell (World.block_lt_of_cell? _ _ (hHeld.1))).trans (hHeld.1)
      have d4 := (hb.cell (World.block_lt_of_cell? _ _ (hHeld.2))).trans (hHeld.2)
      refine ⟨_, rfl, ?_⟩
      replace a4 := rb a4 hb
      have a6 := am (Kd.R_lower e6 (Ac5 (hs HB.out)))
      replace a3 := bb a3 hb
      replace a0 := bb a0 hb
      replace a2 := bb a2 hb
      replace a5 := bb a5 hb
      replace HB := sb HB hb
      (try clear hb)
      (try clear hk)
      (try clear e6)
      refine hK.out _ _ ⟨d3, d4⟩ (fun hHeld => ?_)
      clear hK K
      refine nr (some 29) ?_
      refine on_ 7 (some 33) rfl rfl g4 (fun K hK => ?_)
      refine gs Tryz.func123 #[.pointer (some ⟨c1, 0, none⟩), .string (As6 ByteArray.empty b5 1)] ?_
      refine (Am2.calls k _ [(⟨b9⟩ : S36)] (As6 ByteArray.empty b5 1) b8 _ (Ao2 (bq a3.out) (cq (Kd.C_below e0.out HB.out)) (by exact e1.out)) u2.out).mono ?_
      rintro e D7 ⟨i4, rfl, e6, hb⟩
      have d3 := (hb.cell (World.block_lt_of_cell? _ _ (hHeld.1))).trans (hHeld.1)
      have d4 := (hb.cell (World.block_lt_of_cell? _ _ (hHeld.2))).trans (hHeld.2)
      refine ⟨_, rfl, ?_⟩
      replace a4 := rb a4 hb
      have b6 := am (Kd.R_lower (Kd.R_new' e6 (Kd.R_lt (rq a6.out))) (Ac5 (hs HB.out)))
      replace a6 := am (Kd.R_elder' (rq a6.out) (Kd.R_base e6) hb)
      replace a3 := bb a3 hb
      replace a0 := bb a0 hb
      replace a2 := bb a2 hb
      replace a5 := bb a5 hb
      replace HB := sb HB hb
      (try clear hb)
      (try clear hk)
      (try clear e6)
      obtain ⟨h4, h5, g5⟩ := Kd.R_slice b6.out
      (first | subst g5 | (injection g5 with e2 g9 e3; have h0 := e2.symm; have h2 := e3.symm; clear e2 g9 e3; subst h0; subst h2))
      obtain ⟨i5, i6, h6⟩ := Kd.R_slice a6.out
      (first | subst h6 | (injection h6 with e2 g9 e3; have h0 := e2.symm; have h2 := e3.symm; clear e2 g9 e3; subst h0; subst h2))
      refine hK.out _ _ ⟨d3, d4⟩ (fun hHeld => ?_)
      clear hK K
      refine nr (some 33) ?_
      refine pu 8 34 rfl rfl g4 ?_
      exact nj (hCont (.slice i5 b7.length i6, .slice h4 b8.length h5, a7) _ ⟨hHeld, (rq a4.out), (rq (Kd.R_mono a6.out (fun _ hk => hk.2))), (rq (Kd.R_mono b6.out (fun _ hk => hk.2))), (bq a3.out), (bq a0.out), (bq a2.out), (bq a5.out), e7.out, e8.out, b4.out, a8.out, a9.out, b0.out, b1.out, b2.out, (hs HB.out)⟩)
    clear a4 a3 a0 a2 HB
    rintro ⟨l6, i4, a7⟩ z0 ⟨z1, u7, u9, v0, v2, v3, v4, v5, v6, v7, v8, i7, i9, j5, j6, j7, j8⟩
    try dsimp only at z1 u7 u9 v0 v2 v3 v4 v5 v6 v7 v8 i7 i9 j5 j6 j7 j8
    have a4 := am u7; have a6 := am u9; have b6 := am v0; have a3 := am v2; have a0 := am v3; have a2 := am v4; have a5 := am v5; have e7 := am v6; have e8 := am v7; have b4 := am v8; have a8 := am i7; have a9 := am i9; have b0 := am j5; have b1 := am j6; have b2 := am j7; have HB := am j8; clear u7 u9 v0 v2 v3 v4 v5 v6 v7 v8 i7 i9 j5 j6 j7 j8; have hHeld := z1
    obtain ⟨e5, e4, l8⟩ := Kd.R_slice b6.out
    (first | subst l8 | (injection l8 with e2 g9 e3; have h0 := e2.symm; have h2 := e3.symm; clear e2 g9 e3; subst h0; subst h2))
    obtain ⟨d7, d6, l9⟩ := Kd.R_slice a6.out
    (first | subst l9 | (injection l9 with e2 g9 e3; have h0 := e2.symm; have h2 := e3.symm; clear e2 g9 e3; subst h0; subst h2))
    refine nj ?_
    refine on_ 10 none rfl rfl g4 (fun K hK => ?_)
    have D8 : z0.cell? ⟨a7, 0, none⟩ = some (.slice none 0 0) := (Ad1 a5.out 0).trans rfl
    have z2 := Aa2 a5.out 0
    have o0 := b4.out
    have o1 := a9.out
    have o2 := b1.out
    have o3 := a8.out
    have o4 := b0.out
    have o5 := b2.out
    have D9 : z0.cell? ⟨a7, 1, none⟩ = some (.slice none 0 0) := (Ad1 a5.out 1).trans rfl
    have z3 := Aa2 a5.out 1
    have o6 := b4.out
    have o7 := a9.out
    have o8 := b1.out
    have o9 := a8.out
    have p0 := b0.out
    have p1 := b2.out
    refine Be5 (w1 := ?_) (by rfl) rfl ?_ ?_
    rotate_left
    ·go_simp
     rfl
    refine hK.out _ _ ⟨((Ai9 (p := ⟨a7, _, none⟩) (ab (Kd.own_blk (Kd.R_ne a4.out a5.out (by decide)))) _).trans (((Ai9 (p := ⟨a7, _, none⟩) (ab (Kd.own_blk (Kd.R_ne a4.out a5.out (by decide)))) _).trans (hHeld.1)))), ((Ai9 (p := ⟨a7, _, none⟩) (ab (Kd.own_blk (Kd.R_ne a4.out a5.out (by decide)))) _).trans (((Ai9 (p := ⟨a7, _, none⟩) (ab (Kd.own_blk (Kd.R_ne a4.out a5.out (by decide)))) _).trans (hHeld.2))))⟩ (fun hHeld => ?_)
    clear hK K
    refine Ar3 (Al8 g4.out (by kernel_rfl)) ?_
    go_upto_if 36 with (first | (refine gl (some 35) Tryz.func124 rfl #[.pointer (some ⟨c1, 0, none⟩), .pointer (some ⟨a7, 0, none⟩)] ?_; (with_reducible refine (Aq6.calls k _ [(⟨b9⟩ : S36)] _ [(⟨b7, b8⟩ : S30)] h7 _ ?side1 ?side2 D5.out).mono ?_); (case side1 => exact Ao2 (bf a3.out) (by exact Kd.C_below e0.out (hs HB.out)) (by exact e1.out)); (case side2 => exact k30_box (by refine bq ?_; refine Ac7 (cs := #[.slice d7 b7.length d6, .slice none 0 0]) ?_ 1 _ rfl; refine bq ?_; refine Ac7 (cs := #[.slice none 0 0, .slice none 0 0]) ?_ 0 _ rfl; refine bq ?_; exact a5.out) (by refine (Kd.R_reads' (e := 2) (base := w.heap.size) (ok := fun k_ => some k_ ≠ (.slice e5 b8.length e4 : Value).ownBlock) (n := b7.length) (c := d6) ?_).2.2; exact (rq ((Kd.R_mono (Kd.R_far (p := ⟨a7, 1, none⟩) (Kd.R_far (p := ⟨a7, 0, none⟩) (Kd.R_types a6.out a5.out (by decide)) (fun _ hk => hk.2) (.slice d7 b7.length d6)) (fun _ hk => hk.2) (.slice e5 b8.length e4)) (fun _ h_ => h_.1))))) (by exact (Kd.R_reads' a6.out).2.1) (by refine (Kd.R_reads' (e := 2) (base := w.heap.size) (ok := fun k_ => some k_ ≠ (.slice d7 b7.length d6 : Value).ownBlock) (n := b8.length) (c := e4) ?_).2.2; exact (rq ((Kd.R_mono (Kd.R_far (p := ⟨a7, 1, none⟩) (Kd.R_far (p := ⟨a7, 0, none⟩) (Kd.R_types b6.out a5.out (by decide)) (fun _ hk => hk.2) (.slice d7 b7.length d6)) (fun _ hk => hk.2) (.slice e5 b8.length e4)) (fun _ h_ => h_.1))))) (by exact (Kd.R_reads' b6.out).2.1)); rintro e v9 ⟨rfl, hb⟩; refine ⟨_, rfl, ?_⟩; replace a4 := am (Kd.R_below (rq ((Kd.R_mono (Kd.R_far (p := ⟨a7, 1, none⟩) (Kd.R_far (p := ⟨a7, 0, none⟩) (Kd.R_types a4.out a5.out (by decide)) (fun _ hk => hk.2) (.slice d7 b7.length d6)) (fun _ hk => hk.2) (.slice e5 b8.length e4)) (fun _ h_ => h_.1)))) hb); replace a6 := am (Kd.R_below (rq ((Kd.R_mono (Kd.R_far (p := ⟨a7, 1, none⟩) (Kd.R_far (p := ⟨a7, 0, none⟩) (Kd.R_types a6.out a5.out (by decide)) (fun _ hk => hk.2) (.slice d7 b7.length d6)) (fun _ hk => hk.2) (.slice e5 b8.length e4)) (fun _ h_ => h_.1)))) hb); replace b6 := am (Kd.R_below (rq ((Kd.R_mono (Kd.R_far (p := ⟨a7, 1, none⟩) (Kd.R_far (p := ⟨a7, 0, none⟩) (Kd.R_types b6.out a5.out (by decide)) (fun _ hk => hk.2) (.slice d7 b7.length d6)) (fun _ hk => hk.2) (.slice e5 b8.length e4)) (fun _ h_ => h_.1)))) hb); replace a3 := am (Af8 (g := c1) (o := .cells #[.slice g7 b9.length g8] 36 (0, 0)) (bf a3.out) hb); replace a0 := am (Af8 (g := b3) (o := .cells #[.int .i64 0, .slice none 0 0, .slice none 0 0] 32 (0, 0)) (bf a0.out) hb); replace a2 := am (Af8 (g := d5) (o := .cells #[.int .i64 5, .slice none 0 0, .slice none 0 0] 32 (0, 0)) (bf a2.out) hb); replace a5 := am (Af8 (g := a7) (o := .cells #[.slice d7 b7.length d6, .slice e5 b8.length e4] 30 (0, 0)) (by refine bq ?_; refine Ac7 (cs := #[.slice d7 b7.length d6, .slice none 0 0]) ?_ 1 _ rfl; refine bq ?_; refine Ac7 (cs := #[.slice none 0 0, .slice none 0 0]) ?_ 0 _ rfl; refine bq ?_; exact a5.out) hb); replace HB := sb HB hb; clear hb; (try clear hk)))
    have H := l4.out
    clear l4
    by_cases m0 : h7 = 0
    ·rw [if_pos m0] at H
     obtain ⟨g6, m1⟩ := bqt m0; clear m0
     (first | rw [g6] | (simp only [Ae6, Ae7]; rw [g6]) | skip)
     simp only [Option.some.injEq, Prod.mk.injEq] at H
     obtain ⟨rfl, rfl, rfl⟩ := H
     obtain ⟨z4, z5⟩ := nn a8
     obtain ⟨z6, z7⟩ := nn b0
     obtain ⟨z8, z9⟩ := nn b2
     have p2 := c0_ a5
     have p3 := c1_ a5
     have p4 := Aa2 a5.out 0
     have p5 := Aa2 a5.out 1
     obtain ⟨A0, A1⟩ := nn c0
     obtain ⟨A2, A4⟩ := nn d1
     have p6 := c0_ a0
     have p7 := c1_ a0
     have p8 : v9.cell? ⟨b3, 2, none⟩ = some (.slice none 0 0) := (Ad1 a0.out 2).trans rfl
     have p9 := Aa2 a0.out 0
     have q0 := Aa2 a0.out 1
     have q1 := Aa2 a0.out 2
     go_wp2
     refine bodyPost_ret (results_cell_row rfl _ _ b3 32 #[.int .i64 0, .slice d7 b7.length d6, .slice e5 b8.length e4] (0, 0) _ rfl (by refine bq ?_; refine Ac7 (cs := #[.int .i64 0, .slice d7 b7.length d6, .slice none 0 0]) ?_ 2 _ rfl; refine bq ?_; refine Ac7 (cs := #[.int .i64 0, .slice none 0 0, .slice none 0 0]) ?_ 1 _ rfl; refine bq ?_; refine Ac7 (cs := #[.int .i64 0, .slice none 0 0, .slice none 0 0]) ?_ 0 _ rfl; refine bq ?_; exact a0.out) Tryz.underlying32 rfl (by kernel_rfl)) rfl ?_
     exact ⟨_, _, er, rq (Kd.R_mono (Kd.R_far (p := ⟨b3, 2, none⟩) (Kd.R_far (p := ⟨b3, 1, none⟩) (Kd.R_far (p := ⟨b3, 0, none⟩) (Kd.R_types a6.out a0.out (by decide)) (fun _ hk => hk.2) (.int .i64 0)) (fun _ hk => hk.2) (.slice d7 b7.length d6)) (fun _ hk => hk.2) (.slice e5 b8.length e4)) (fun _ hk => hk.1)), rq (Kd.R_mono (Kd.R_far (p := ⟨b3, 2, none⟩) (Kd.R_far (p := ⟨b3, 1, none⟩) (Kd.R_far (p := ⟨b3, 0, none⟩) (Kd.R_types b6.out a0.out (by decide)) (fun _ hk => hk.2) (.int .i64 0)) (fun _ hk => hk.2) (.slice d7 b7.length d6)) (fun _ hk => hk.2) (.slice e5 b8.length e4)) (fun _ hk => hk.1)), hs HB.out⟩
    ·rw [if_neg m0] at H
     obtain ⟨g6, m1⟩ := bqf m0
     (first | rw [g6] | (simp only [Ae6, Ae7]; rw [g6]) | skip)
     simp only [Option.some.injEq, Prod.mk.injEq] at H
     obtain ⟨rfl, rfl, rfl⟩ := H
     obtain ⟨A5, A6⟩ := nn d0
     obtain ⟨A7, A8⟩ := nn d2
     obtain ⟨A9, B0⟩ := nn b1
     have q2 := c0_ a2
     have q3 := c1_ a2
     have q4 : v9.cell? ⟨d5, 2, none⟩ = some (.slice none 0 0) := (Ad1 a2.out 2).trans rfl
     have q5 := Aa2 a2.out 0
     have q6 := Aa2 a2.out 1
     have q7 := Aa2 a2.out 2
     obtain ⟨B2, B4⟩ := nn c0
     obtain ⟨B5, B8⟩ := nn a9
     have q8 := c0_ a0
     have q9 := c1_ a0
     have r0 : v9.cell? ⟨b3, 2, none⟩ = some (.slice none 0 0) := (Ad1 a0.out 2).trans rfl
     have r4 := Aa2 a0.out 0
     have r5 := Aa2 a0.out 1
     have r6 := Aa2 a0.out 2
     go_wp2
     refine bodyPost_ret (results_cell_row rfl _ _ b3 32 #[.int .i64 5, .slice none 0 0, .slice none 0 0] (0, 0) _ rfl (by refine bq ?_; refine Ac7 (cs := #[.int .i64 5, .slice none 0 0, .slice none 0 0]) ?_ 2 _ rfl; refine bq ?_; refine Ac7 (cs := #[.int .i64 5, .slice none 0 0, .slice none 0 0]) ?_ 1 _ rfl; refine bq ?_; refine Ac7 (cs := #[.int .i64 0, .slice none 0 0, .slice none 0 0]) ?_ 0 _ rfl; refine bq ?_; exact a0.out) Tryz.underlying32 rfl (by kernel_rfl)) rfl ?_
     exact ⟨_, _, er, by first | exact Kd.R_nil _ _ _ _ _ | exact Kd.N_nil _ _ _ _ _ | exact Kd.V_nil _ _ _ _ _ | exact Kd.Q_nil _ _ _ _ _ | exact Kd.S_nil _ _ _ _ _, by first | exact Kd.R_nil _ _ _ _ _ | exact Kd.N_nil _ _ _ _ _ | exact Kd.V_nil _ _ _ _ _ | exact Kd.Q_nil _ _ _ _ _ | exact Kd.S_nil _ _ _ _ _, hs HB.out⟩
   ·rw [if_neg k8] at H
    obtain ⟨g3, k9⟩ := bqf k8
    (first | rw [g3] | (simp only [Ae6, Ae7]; rw [g3]) | skip)
    simp only [Option.some.injEq, Prod.mk.injEq] at H
    obtain ⟨rfl, rfl, rfl⟩ := H
    obtain ⟨B9, C0⟩ := nn d0
    obtain ⟨C1, C2⟩ := nn d2
    have r7 := c0_ a2
    have r8 := c1_ a2
    have r9 : u0.cell? ⟨d5, 2, none⟩ = some (.slice none 0 0) := (Ad1 a2.out 2).trans rfl
    have s0 := Aa2 a2.out 0
    have s1 := Aa2 a2.out 1
    have s2 := Aa2 a2.out 2
    obtain ⟨C3, C4⟩ := nn c0
    have s3 := c0_ a0
    have s4 := c1_ a0
    have s5 : u0.cell? ⟨b3, 2, none⟩ = some (.slice none 0 0) := (Ad1 a0.out 2).trans rfl
    have s6 := Aa2 a0.out 0
    have s7 := Aa2 a0.out 1
    have s8 := Aa2 a0.out 2
    go_wp2
    refine bodyPost_ret (results_cell_row rfl _ _ b3 32 #[.int .i64 5, .slice none 0 0, .slice none 0 0] (0, 0) _ rfl (by refine bq ?_; refine Ac7 (cs := #[.int .i64 5, .slice none 0 0, .slice none 0 0]) ?_ 2 _ rfl; refine bq ?_; refine Ac7 (cs := #[.int .i64 5, .slice none 0 0, .slice none 0 0]) ?_ 1 _ rfl; refine bq ?_; refine Ac7 (cs := #[.int .i64 0, .slice none 0 0, .slice none 0 0]) ?_ 0 _ rfl; refine bq ?_; exact a0.out) Tryz.underlying32 rfl (by kernel_rfl)) rfl ?_
    exact ⟨_, _, er, by first | exact Kd.R_nil _ _ _ _ _ | exact Kd.N_nil _ _ _ _ _ | exact Kd.V_nil _ _ _ _ _ | exact Kd.Q_nil _ _ _ _ _ | exact Kd.S_nil _ _ _ _ _, by first | exact Kd.R_nil _ _ _ _ _ | exact Kd.N_nil _ _ _ _ _ | exact Kd.V_nil _ _ _ _ _ | exact Kd.Q_nil _ _ _ _ _ | exact Kd.S_nil _ _ _ _ _, hs HB.out⟩
 ·rw [if_neg c10] at H
  obtain ⟨g1, k3⟩ := bqf c10
  (first | rw [g1] | (simp only [Ae6, Ae7]; rw [g1]) | skip)
  simp only [Option.some.injEq, Prod.mk.injEq] at H
  obtain ⟨rfl, rfl, rfl⟩ := H
  obtain ⟨C5, C6⟩ := nn c0
  have s9 := c0_ a0
  have t0 := c1_ a0
  have t1 : w9.cell? ⟨b3, 2, none⟩ = some (.slice none 0 0) := (Ad1 a0.out 2).trans rfl
  have t2 := Aa2 a0.out 0
  have t3 := Aa2 a0.out 1
  have t4 := Aa2 a0.out 2
  go_wp2
  refine bodyPost_ret (results_cell_row rfl _ _ b3 32 #[.int .i64 g0, .slice none 0 0, .slice none 0 0] (0, 0) _ rfl (by refine bq ?_; refine Ac7 (cs := #[.int .i64 g0, .slice none 0 0, .slice none 0 0]) ?_ 2 _ rfl; refine bq ?_; refine Ac7 (cs := #[.int .i64 g0, .slice none 0 0, .slice none 0 0]) ?_ 1 _ rfl; refine bq ?_; refine Ac7 (cs := #[.int .i64 0, .slice none 0 0, .slice none 0 0]) ?_ 0 _ rfl; refine bq ?_; exact a0.out) Tryz.underlying32 rfl (by kernel_rfl)) rfl ?_
  exact ⟨_, _, er, by first | exact Kd.R_nil _ _ _ _ _ | exact Kd.N_nil _ _ _ _ _ | exact Kd.V_nil _ _ _ _ _ | exact Kd.Q_nil _ _ _ _ _ | exact Kd.S_nil _ _ _ _ _, by first | exact Kd.R_nil _ _ _ _ _ | exact Kd.N_nil _ _ _ _ _ | exact Kd.V_nil _ _ _ _ _ | exact Kd.Q_nil _ _ _ _ _ | exact Kd.S_nil _ _ _ _ _, hs HB.out⟩
end Go.Proofs.YtgichahebemmiaaGreatDoor.P
