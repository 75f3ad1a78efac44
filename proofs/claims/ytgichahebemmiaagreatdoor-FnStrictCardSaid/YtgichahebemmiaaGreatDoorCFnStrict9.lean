/- A part of the proof of the law FnStrict. -/
import Derived.Test.YtgichahebemmiaaGreatDoorCFnStrict8
set_option maxHeartbeats 8000000
set_option maxRecDepth 100000
namespace Go.Proofs.YtgichahebemmiaaGreatDoor.P
open Go.RowKit Go.Proofs.YtgichahebemmiaaGreatDoorW.PrintWords Go.Proofs.YtgichahebemmiaaGreatDoorW.PrintLast Go.Proofs.YtgichahebemmiaaGreatDoorW.PrintMore
attribute [local go_sem] Ai1 Ah9 Ak5 Ak4 Ah0 Ag9 Ai2 Ai0   -- for this text's walks alone
set_option linter.unusedVariables false
set_option linter.unusedSimpArgs false
mutual
def Ad3.l0 : Nat → Int → Int → List Int → Int → List (S79) → Option ((List (S79)) × Int)
 | 0, _, _, _, _, _ => none
 | k + 1, x4, x5, a2, a1, a0 => if x5 < x4 then (if 0 ≤ x5 then (if x5 < (a0.length : Int) then (Ad3.l0 k x4 (wrap64 (x5 + 1)) a2 a1 (a0.set (x5 : Int).toNat (⟨(Ac2 a0 x5).f0, 1⟩ : S79))) else (none)) else (none)) else (some (a0, a1))
def Ad3.l1 : Nat → List Int → Int → List (S79) → Option ((List (S79)) × Int)
 | 0, _, _, _ => none
 | k + 1, a2, a1, a0 => if (a0.length : Int) < 7 then (if a0.length < 5864062014805 then (Ad3.l1 k a2 a1 (a0 ++ [(⟨(⟨#[122]⟩ : ByteArray), 0⟩ : S79)])) else (none)) else (some (a0, a1))
end
def Ad3.f (k : Nat) (a2 : List Int) (a7 : Int) : Option ((List (S79)) × Int) := (Ag0.f k a2 a7).bind fun a0 => ((Ae1.f a2 a0.2 9).bind fun a5 => (if a5.1 = true then ((Ad7.f a2 a5.2 7).bind fun a1 => (if a1.1 = 0 then (some (([] : List (S79)), a1.2)) else (if a1.1 = 1 then (if 0 ≤ (wrap64 ((a0.1.length : Int) - 1)) then (if (wrap64 ((a0.1.length : Int) - 1)) < (a0.1.length : Int) then (some ((a0.1.set ((wrap64 ((a0.1.length : Int) - 1)) : Int).toNat (⟨(⟨#[97, 98, 99, 100]⟩ : ByteArray), (Ac2 a0.1 (wrap64 ((a0.1.length : Int) - 1))).f1⟩ : S79)), a1.2)) else (none)) else (none)) else (if a1.1 = 2 then ((Ad7.f a2 a1.2 (a0.1.length : Int)).bind fun a3 => (if 0 ≤ a3.1 then (if a3.1 < (a0.1.length : Int) then (some ((a0.1.set (a3.1 : Int).toNat (⟨(⟨#[97, 66]⟩ : ByteArray), (Ac2 a0.1 a3.1).f1⟩ : S79)), a3.2)) else (none)) else (none))) else (if a1.1 = 3 then ((Ad7.f a2 a1.2 (a0.1.length : Int)).bind fun a4 => ((Ad8.f a2 a4.2 (([3, (-1)] : List Int))).bind fun a6 => (if 0 ≤ a4.1 then (if a4.1 < (a0.1.length : Int) then (some ((a0.1.set (a4.1 : Int).toNat (⟨(Ac2 a0.1 a4.1).f0, a6.1⟩ : S79)), a6.2)) else (none)) else (none)))) else (if a1.1 = 4 then (if 0 < (a0.1.length : Int) then (if a0.1.length < 5864062014805 then (some ((a0.1 ++ [(⟨(Ac2 a0.1 0).f0, (Ac2 a0.1 0).f1⟩ : S79)]), a1.2)) else (none)) else (none)) else (if a1.1 = 5 then (Ad3.l0 k (a0.1.length : Int) 0 a2 a1.2 a0.1) else (Ad3.l1 k a2 a1.2 a0.1)))))))) else (some (a0.1, a5.2))))
def Ad3.T13 : Bool × List (List Nat × List Nat) := (true, [([], []), ([0], [0]), ([], []), ([], []), ([2, 3], [2, 3]), ([1, 4, 0, 1, 2, 3, 4], [1, 4]), ([5, 0, 1, 2, 3, 4], [5]), ([6, 4, 0, 1, 2, 3, 4], [6])])
def Ad3.B13 : List Nat := [0, 1, 0, 0, 12, 31, 63, 127]
theorem Ad3.tab13 : Au3 .any (Au5 Tryz.f68 13) = Ad3.T13 := by kernel_rfl
theorem Ad3.bits13 : Al2 Ad3.T13.2 Ad3.B13 = true := by kernel_rfl
def Ad3.T15 : Bool × List (List Nat × List Nat) := (true, [([], []), ([0], [0]), ([], []), ([], []), ([2, 3], [2, 3]), ([], []), ([], []), ([5, 6, 4], [5, 6]), ([1, 4, 0, 1, 2, 3, 4, 5, 6, 7], [1, 4]), ([8, 0, 1, 2, 3, 4, 5, 6, 7], [8]), ([9, 7, 7, 0, 1, 2, 3, 4, 5, 6, 7], [7, 9])])
def Ad3.B15 : List Nat := [0, 1, 0, 0, 12, 0, 0, 124, 255, 511, 1023]
theorem Ad3.tab15 : Au3 .any (Au5 Tryz.f68 15) = Ad3.T15 := by kernel_rfl
theorem Ad3.bits15 : Al2 Ad3.T15.2 Ad3.B15 = true := by kernel_rfl
def Ad3.T17 : Bool × List (List Nat × List Nat) := (true, [([], []), ([0], [0]), ([], []), ([2], [2]), ([3], [3]), ([4], [4]), ([5], [5]), ([1, 6], [1, 6]), ([0, 1, 2, 3, 4, 5, 6, 7], []), ([8, 7, 7, 0, 1, 2, 3, 4, 5, 6, 7], [7, 8])])
def Ad3.B17 : List Nat := [0, 1, 0, 4, 12, 28, 60, 127, 255, 511]
theorem Ad3.tab17 : Au3 .any (Au5 Tryz.f68 17) = Ad3.T17 := by kernel_rfl
theorem Ad3.bits17 : Al2 Ad3.T17.2 Ad3.B17 = true := by kernel_rfl
theorem Ad3.calls (k : Nat) (g : Nat) (b2 : List Int) (g6 : Int) (r1 : List (S79)) (r2 : Int) (w0 w : World) (hI : Aa0 w0 w g b2 g6) (hB : Below w0.heap.size w0 w) (h : Ad3.f k b2 g6 = some (r1, r2)) :
  Calls Tryz.prog 68 #[.pointer (some ⟨g, 0, none⟩)] w fun e w' => ∃ I6 : Value, e = .returned (.agg #[I6]) ∧ Kd.R k79 79 w' w.heap.size (fun _ => True) I6 r1 ∧ Aa0 w0 w' g b2 r2 ∧ Below w0.heap.size w0 w' ∧ Ab7 w w' g none := by
 have P1 := Tryz.underlying36
 have P2 := Tryz.underlying79
 have a5 := am hI
 have HK := am (Ab7.refl w g none)
 have HL := am hB.size
 clear hI
 have I7 := am hB.size
 have HB := am hB
 clear hB
 have H : ((Ag0.f k b2 g6).bind fun a9 => ((Ae1.f b2 a9.2 9).bind fun g7 => (if g7.1 = true then ((Ad7.f b2 g7.2 7).bind fun b8 => (if b8.1 = 0 then (some (([] : List (S79)), b8.2)) else (if b8.1 = 1 then (if 0 ≤ (wrap64 ((a9.1.length : Int) - 1)) then (if (wrap64 ((a9.1.length : Int) - 1)) < (a9.1.length : Int) then (some ((a9.1.set ((wrap64 ((a9.1.length : Int) - 1)) : Int).toNat (⟨(⟨#[97, 98, 99, 100]⟩ : ByteArray), (Ac2 a9.1 (wrap64 ((a9.1.length : Int) - 1))).f1⟩ : S79)), b8.2)) else (none)) else (none)) else (if b8.1 = 2 then ((Ad7.f b2 b8.2 (a9.1.length : Int)).bind fun e1 => (if 0 ≤ e1.1 then (if e1.1 < (a9.1.length : Int) then (some ((a9.1.set (e1.1 : Int).toNat (⟨(⟨#[97, 66]⟩ : ByteArray), (Ac2 a9.1 e1.1).f1⟩ : S79)), e1.2)) else (none)) else (none))) else (if b8.1 = 3 then ((Ad7.f b2 b8.2 (a9.1.length : Int)).bind fun e2 => ((Ad8.f b2 e2.2 (([3, (-1)] : List Int))).bind fun e3 => (if 0 ≤ e2.1 then (if e2.1 < (a9.1.length : Int) then (some ((a9.1.set (e2.1 : Int).toNat (⟨(Ac2 a9.1 e2.1).f0, e3.1⟩ : S79)), e3.2)) else (none)) else (none)))) else (if b8.1 = 4 then (if 0 < (a9.1.length : Int) then (if a9.1.length < 5864062014805 then (some ((a9.1 ++ [(⟨(Ac2 a9.1 0).f0, (Ac2 a9.1 0).f1⟩ : S79)]), b8.2)) else (none)) else (none)) else (if b8.1 = 5 then (Ad3.l0 k (a9.1.length : Int) 0 b2 b8.2 a9.1) else (Ad3.l1 k b2 b8.2 a9.1)))))))) else (some (a9.1, g7.2))))) = some (r1, r2) := h
 clear h
 obtain ⟨⟨a4, j6⟩, A2, H⟩ := ob H
 try dsimp only at H
 obtain ⟨⟨p7, p8⟩, A3, H⟩ := ob H
 try dsimp only at H
 have I8 := am H
 clear H
 go_enter Tryz.func68, Tryz.ntmps68
 go_upto_if 13 with (first | (refine bx 2 rfl #[.slice none 0 0] 36 ?_; intro b0 hg w5 hbox hb; replace HB := am (Ad9 (hsk HB.out (Aa0.ge a5.out)) hb); have a1 := am (hbox); have p9 := am ((by rw [hg]; exact (Ae0 (w := w) (g := g) (row := none) (kq HK.out)) : w.heap.size ≤ b0)); replace HK := ku HK hb; have k3 := am (Nat.le_trans I7.out p9.out); have j7 := am ((by rw [hg]; exact Nat.ne_of_lt (Aa0.lt (show Aa0 w0 _ g b2 g6 from Aa0.q a5.out)) : g ≠ b0)); replace a5 := Aa0.bl a5 hb; have a8 := am j7.out.symm; clear hb hbox hg) | (refine gl (some 7) Tryz.func89 rfl #[.pointer (some ⟨g, 0, none⟩)] ?_; refine (Ag0.calls k g b2 g6 a4 j6 w0 _ (Aa0.q a5.out) (hsk HB.out (Aa0.ge a5.out)) A2.out).mono ?_; rintro e w6 ⟨P3, rfl, I9, hi, hb, hk⟩; refine ⟨_, rfl, ?_⟩; replace a1 := kb hk a1 a8; have a2 := am (Kd.R_lower I9 (Ae0 (w := w) (g := g) (row := none) (ks HK.out))); replace HK := kt HK hk; replace HB := am (hb); replace a5 := am (hi); clear hb hk hi I9) | (refine bx 3 rfl #[.slice none 0 0] 36 ?_; intro b4 hg w7 hbox hb; replace a2 := rb a2 hb; replace HB := am (Ad9 (hsk HB.out (Aa0.ge a5.out)) hb); have a0 := am (hbox); have q0 := am ((by rw [hg]; exact (Ae0 (w := w) (g := g) (row := none) (ks HK.out)) : w.heap.size ≤ b4)); replace HK := ku HK hb; have k4 := am (Nat.le_trans I7.out q0.out); have d2 := nl hg a1; have a7 := ng hg a1; replace a1 := bb a1 hb; have j8 := am ((by rw [hg]; exact Nat.ne_of_lt (Aa0.lt (show Aa0 w0 _ g b2 j6 from Aa0.q a5.out)) : g ≠ b4)); replace a5 := Aa0.bl a5 hb; have a6 := am j8.out.symm; clear hb hbox hg; obtain ⟨g8, d4, rfl⟩ := Kd.R_slice a2.out; obtain ⟨P4, P5⟩ := nn a7; obtain ⟨J0, J1⟩ := nn a6; have y6 := c0_ a0; have y7 := Aa2 a0.out 0) | (refine gl (some 12) Tryz.func70 rfl #[.pointer (some ⟨g, 0, none⟩), .int .i64 9] ?_; refine (Ae1.calls g b2 j6 9 p7 p8 w0 _ (Aa0.q a5.out) (hsk HB.out (Aa0.ge a5.out)) A3.out).mono ?_; rintro e S4 ⟨rfl, hi, hb, hk⟩; refine ⟨_, rfl, ?_⟩; replace a1 := am (Ab7.blk hk (g' := b0) (o := .cells #[.slice none 0 0] 36 (0, 0)) (bf a1.out) a8.out (by simp)); replace a2 := am (Kd.R_mono (Kd.R_keep (Aa0.apart (show Aa0 w0 _ g b2 j6 from Aa0.q a5.out) (rq ((Kd.R_mono (Kd.R_far (p := ⟨b4, 0, none⟩) (Kd.R_types a2.out a0.out (by decide)) (fun _ hk => hk.2) (.slice g8 a4.length d4)) (fun _ h_ => h_.1)))) (by decide)) hk (fun _ h => h.2)) (fun _ h => h.1)); replace a0 := am (Ab7.blk hk (g' := b4) (o := .cells #[.slice g8 a4.length d4] 36 (0, 0)) (by refine bq ?_; refine Ac7 (cs := #[.slice none 0 0]) ?_ 0 _ rfl; refine bq ?_; exact a0.out) a6.out (by simp)); replace HK := kt HK hk; replace HB := am (hb); replace a5 := am (hi); clear hb hk hi))
 have H := I8.out
 clear I8
 by_cases y8 : p7 = true
 ·subst y8
  rw [if_pos rfl] at H
  obtain ⟨⟨e5, d3⟩, P6, H⟩ := ob H
  try dsimp only at H
  have q1 := am H
  clear H
  go_upto_if 27 with (first | (refine gl (some 16) Tryz.func75 rfl #[.pointer (some ⟨g, 0, none⟩), .int .i64 7] ?_; refine (Ad7.calls g b2 p8 7 e5 d3 w0 _ (Aa0.q a5.out) (hsk HB.out (Aa0.ge a5.out)) P6.out).mono ?_; rintro e j5 ⟨rfl, hi, hb, hk⟩; refine ⟨_, rfl, ?_⟩; replace a1 := kb hk a1 a8; replace a2 := Aa0.rk a5 a2 hk; replace a0 := kb hk a0 a6; replace HK := kt HK hk; replace HB := am (hb); replace a5 := am (hi); clear hb hk hi))
  have H := q1.out
  clear q1
  by_cases q2 : e5 = 0
  ·rw [if_pos q2] at H
   obtain ⟨e4, q3⟩ := bqt q2; clear q2
   (first | rw [e4] | (simp only [Ae6, Ae7]; rw [e4]) | skip)
   simp only [Option.some.injEq, Prod.mk.injEq] at H
   obtain ⟨rfl, rfl⟩ := H
   obtain ⟨J2, J3⟩ := nn d2
   obtain ⟨J4, J5⟩ := nn a8
   have y9 := c0_ a1
   have z0 := Aa2 a1.out 0
   go_wp2
   refine bodyPost_ret (results_cell_row rfl _ _ b0 36 #[.slice none 0 0] (0, 0) _ rfl (by refine bq ?_; refine Ac7 (cs := #[.slice none 0 0]) ?_ 0 _ rfl; refine bq ?_; exact a1.out) Tryz.underlying36 rfl (by kernel_rfl)) rfl ?_
   exact ⟨_, er, by first | exact Kd.R_nil _ _ _ _ _ | exact Kd.N_nil _ _ _ _ _ | exact Kd.V_nil _ _ _ _ _ | exact Kd.Q_nil _ _ _ _ _ | exact Kd.S_nil _ _ _ _ _, Aa0.q a5.out, hsk HB.out (Aa0.ge a5.out), ks HK.out⟩
  ·rw [if_neg q2] at H
   obtain ⟨e4, q3⟩ := bqf q2
   (first | rw [e4] | (simp only [Ae6, Ae7]; rw [e4]) | skip)
   by_cases q4 : e5 = 1
   ·rw [if_pos q4] at H
    obtain ⟨q5, q6⟩ := bqt q4; clear q4
    obtain ⟨b6, e6⟩ : ∃ j_ : Int, (wrap64 ((a4.length : Int) - 1)) = j_ := ⟨_, rfl⟩
    replace H : (if 0 ≤ (b6) then (if (b6) < (a4.length : Int) then (some ((a4.set ((b6) : Int).toNat (⟨(⟨#[97, 98, 99, 100]⟩ : ByteArray), (Ac2 a4 (b6)).f1⟩ : S79)), d3)) else (none)) else (none)) = some (r1, r2) := by first | (rw [e6] at H; exact H) | (simp only [e6] at H ⊢; exact H)
    have hji22w : (IntKind.i64.wrap ((a4.length : Int) - 1)) = b6 := (Ae6 _).trans e6
    obtain ⟨J6, H⟩ := ife H
    obtain ⟨J7, H⟩ := ife H
    obtain ⟨q7, e7⟩ : ∃ y_ : List (S79), y_ = (a4.set ((b6) : Int).toNat (⟨(⟨#[97, 98, 99, 100]⟩ : ByteArray), (Ac2 a4 (b6)).f1⟩ : S79)) := ⟨_, rfl⟩
    replace H : (some (q7, d3)) = some (r1, r2) := by first | (rw [e7]; first | with_reducible exact H | with_reducible exact bs H) | with_reducible exact bs H | with_reducible exact H | (rw [e7]; exact H) | exact H
    have q8 := am e7
    clear e7
    simp only [Option.some.injEq, Prod.mk.injEq] at H
    obtain ⟨rfl, rfl⟩ := H
    obtain ⟨J8, J9⟩ := nn a7
    obtain ⟨K0, K1⟩ := nn a6
    have z1 := c0_ a0
    have z2 := Aa2 a0.out 0
    have C3 : 0 ≤ ((b6) : Int) := od
    have C4 : ((b6) : Int) < ((a4.length : Int) : Int) := od
    obtain ⟨d5, P7, q9, r0, C5, P8, r3⟩ := Kd.R_form a2.out (by omega)
    (first | cases q9 | (injection q9 with d7 m6 m7; (first | subst d7 | (injection d7 with d7; subst d7)); subst m7; clear m6))
    have C6 := am r0
    have P9 := am r3
    clear r0 C5 r3
    obtain ⟨Q0, r4, r5, g9, h0⟩ := Kd.R_elem a2.out z79 ((b6) : Int) C3 C4
    obtain rfl := At9 r5
    have C7 : j5.cell? ⟨d5, ((b6) : Int).toNat * 2, none⟩ = some (.string ((Ac2 a4 (b6)).f0)) := g9 0 _ rfl
    have C8 : j5.cell? ⟨d5, ((b6) : Int).toNat * 2 + 1, none⟩ = some (.int .i64 ((Ac2 a4 (b6)).f1)) := g9 1 _ rfl
    have C9 : j5.frozen? ⟨d5, ((b6) : Int).toNat * 2, none⟩ = false := h0 0
    have D0 : j5.frozen? ⟨d5, ((b6) : Int).toNat * 2 + 1, none⟩ = false := h0 1
    clear r4 g9 h0; (try clear r5)
    obtain ⟨C3, C4⟩ := ee C3 C4
    have r6 := am (show Kd.R k79 79 j5 w.heap.size (fun _ => True) (.slice (some ⟨d5, 0, none⟩) a4.length d4) a4 from (rq a2.out))
    obtain ⟨Q1, k5, r7, h2, k6⟩ := Kd.R_elem r6.out z79 ((b6) : Int) od (by have h_ : ((b6) : Int) < ((a4.length : Int) : Int) := od; first | exact h_ | (have e_ := (Kd.R_reads' a2.out).1; omega) | simpa using h_)
    obtain rfl := At9 r7
    have m8 := Kd.R_seg r6.out ((b6) : Int) od (by have h_ : ((b6) : Int) < ((a4.length : Int) : Int) := od; first | exact h_ | (have e_ := (Kd.R_reads' a2.out).1; omega) | simpa using h_) (seg := [.string (⟨#[97, 98, 99, 100]⟩ : ByteArray)]) (j := 0) k5 h2 (show 1 ≤ 2 from by decide) (x' := (⟨(⟨#[97, 98, 99, 100]⟩ : ByteArray), (Ac2 a4 (b6)).f1⟩ : S79)) (Am8 _ _ _ (⟨(⟨#[97, 98, 99, 100]⟩ : ByteArray), (Ac2 a4 (b6)).f1⟩ : S79) ) (fun _ hk => hk)
    have m9 := h2 0 _ rfl
    (try simp only [show (k79).sz = 2 from rfl, Nat.mul_one, Nat.add_zero] at m9)
    have n0 := k6 0
    (try simp only [show (k79).sz = 2 from rfl, Nat.mul_one, Nat.add_zero] at n0)
    clear k5 h2 k6; (try clear r7)
    go_wp2_with (first | ((with_reducible refine As7 (t := 9) (p := 37) rfl ?_); refine As0 (t := 9) (p := 37) (v := ?vo_w30) (w1 := (j5.setCell ⟨d5, ((b6) : Int).toNat * 2, none⟩ (.string (⟨#[97, 98, 99, 100]⟩ : ByteArray)))) ?hg ?ho ?hn ?hr ?_; (case ho => rfl); (case hg => rfl); (case hn => rfl); (case hr => first | (go_simp; done) | (go_simp; rfl)); intro D1 hw; have hg : j5.grownBy D1 (some d5) := (by rw [hw]; exact m8.2); have r8 : Kd.R k79 79 D1 w.heap.size (fun _ => True) (.slice (some ⟨d5, 0, none⟩) a4.length d4) q7 := (by rw [hw, q8.out]; exact m8.1); clear m8; replace a5 := am (Aa0.grown (Aa0.q a5.out) hg (Aa0.own_ne a5.out a2.out (by decide))); replace a1 := am (Am6 (bq a1.out) hg (Kd.R_ne a2.out a1.out (by decide))); replace a0 := am (Am6 (bq a0.out) hg (Kd.R_ne a2.out a0.out (by decide))); replace HB := am ((by rw [hw]; exact Ak7 (HB.out) (Nat.le_trans HL.out C6.out) : Below w0.heap.size w0 D1)); replace HK := am (Ab7.trans (ks HK.out) (Ab7.of_grown hg g) (Kd.R_base2 a2.out)); replace a2 := am (r8); clear hg hw r8; have z3 := c0_ a0; have z4 := Aa2 a0.out 0; obtain ⟨K2, K3⟩ := nn a8; have z5 := c0_ a1; have z6 := Aa2 a1.out 0))
    refine bodyPost_ret (results_cell_row rfl _ _ b0 36 #[.slice (some ⟨d5, 0, none⟩) a4.length d4] (0, 0) _ rfl (by refine bq ?_; refine Ac7 (cs := #[.slice none 0 0]) ?_ 0 _ rfl; refine bq ?_; exact a1.out) Tryz.underlying36 rfl (by kernel_rfl)) rfl ?_
    exact ⟨_, by first | rfl | (simp [Ag8, Ag7] <;> rfl) | (simp only [← e6]; first | rfl | (simp [Ag8, Ag7] <;> rfl)) | (simp [*, Ag8, Ag7] <;> rfl), rq (Kd.R_mono (Kd.R_far (p := ⟨b0, 0, none⟩) (Kd.R_types a2.out a1.out (by decide)) (fun _ hk => hk.2) (.slice (some ⟨d5, 0, none⟩) a4.length d4)) (fun _ hk => trivial)), Aa0.q a5.out, hsk HB.out (Aa0.ge a5.out), ks HK.out⟩
   ·rw [if_neg q4] at H
    obtain ⟨q5, q6⟩ := bqf q4
    by_cases r9 : e5 = 2
    ·rw [if_pos r9] at H
     obtain ⟨s0, s1⟩ := bqt r9; clear r9
     obtain ⟨⟨b3, n1⟩, Q2, H⟩ := ob H
     try dsimp only at H
     obtain ⟨K4, H⟩ := ife H
     obtain ⟨K5, H⟩ := ife H
     obtain ⟨s2, e8⟩ : ∃ y_ : List (S79), y_ = (a4.set (b3 : Int).toNat (⟨(⟨#[97, 66]⟩ : ByteArray), (Ac2 a4 b3).f1⟩ : S79)) := ⟨_, rfl⟩
     replace H : (some (s2, n1)) = some (r1, r2) := by first | (rw [e8]; first | with_reducible exact H | with_reducible exact bs H) | with_reducible exact bs H | with_reducible exact H | (rw [e8]; exact H) | exact H
     have s3 := am e8
     clear e8
     simp only [Option.some.injEq, Prod.mk.injEq] at H
     obtain ⟨rfl, rfl⟩ := H
     try go_wp2
     replace a2 := am (Kd.R_drew a2.out)
     replace a1 := am (Ah2 a1.out)
     replace a0 := am (Ah2 a0.out)
     replace a5 := am (Aa0.drew a5.out)
     replace HK := am (As5 HK.out)
     replace HB := am (Af1 HB.out)
     refine st_ (n := 8) (S := fun w' => w'.cell? ⟨b4, 0, none⟩ = some (.slice g8 a4.length d4)) (ds := [7]) ((Ad1 a0.out 0).trans rfl) (fun hHeld => ?_); refine Ah6 Ad3.tab13 Ad3.bits13 (fun c1 n2 => ?_)
     generalize j5.drew = S5 at a2 a1 a0 a5 HK HB hHeld ⊢
     refine pu 0 40 rfl rfl c1 ?_
     refine pu 2 42 rfl rfl c1 ?_
     refine pu 3 43 rfl rfl c1 ?_
     refine tk 1 41 rfl rfl c1 n2 hHeld ?_
     refine on_ 4 (some 44) rfl rfl c1 (fun K hK => ?_)
     refine gs Tryz.func75 #[.pointer (some ⟨g, 0, none⟩), .int .i64 (a4.length : Int)] ?_
     refine (Ad7.calls g b2 d3 (a4.length : Int) b3 n1 w0 _ (Aa0.q a5.out) (hsk HB.out (Aa0.ge a5.out)) Q2.out).mono ?_
     rintro e n3 ⟨rfl, hi, hb, hk⟩
     refine ⟨_, rfl, ?_⟩
     replace a1 := kb hk a1 a8
     replace a2 := Aa0.rk a5 a2 hk
     replace a0 := kb hk a0 a6
     replace HK := kt HK hk
     replace HB := am (hb)
     replace a5 := am (hi)
     (try clear hb)
     (try clear hk)
     (try clear hi)
     have D2 : 0 ≤ (b3 : Int) := od
     have D3 : (b3 : Int) < ((a4.length : Int) : Int) := od
     obtain ⟨d0, Q3, s4, s5, D4, Q4, s6⟩ := Kd.R_form a2.out (by omega)
     (first | cases s4 | (injection s4 with d7 m6 m7; (first | subst d7 | (injection d7 with d7; subst d7)); subst m7; clear m6))
     have D5 := am s5
     have Q5 := am s6
     clear s5 D4 s6
     obtain ⟨Q6, s7, s8, h3, h4⟩ := Kd.R_elem a2.out z79 (b3 : Int) D2 D3
     obtain rfl := At9 s8
     have D6 : World.cell? _ ⟨d0, (b3 : Int).toNat * 2, none⟩ = some (.string ((Ac2 a4 b3).f0)) := h3 0 _ rfl
     have D7 : World.cell? _ ⟨d0, (b3 : Int).toNat * 2 + 1, none⟩ = some (.int .i64 ((Ac2 a4 b3).f1)) := h3 1 _ rfl
     have D8 : World.frozen? _ ⟨d0, (b3 : Int).toNat * 2, none⟩ = false := h4 0
     have D9 : World.frozen? _ ⟨d0, (b3 : Int).toNat * 2 + 1, none⟩ = false := h4 1
     clear s7 h3 h4; (try clear s8)
     obtain ⟨D2, D3⟩ := ee D2 D3
     have HN0_go38 := am (show g ≠ d0 from by have h_ := Aa0.own_ne a5.out a2.out (by decide); intro e_; exact h_ (by rw [e_]; rfl))
     obtain ⟨Q7, k7, s9, k8, t0⟩ := Kd.R_elem a2.out z79 (b3 : Int) od (by have h_ : (b3 : Int) < ((a4.length : Int) : Int) := od; first | exact h_ | (have e_ := (Kd.R_reads' a2.out).1; omega) | simpa using h_)
     obtain rfl := At9 s9
     have n4 := (Kd.R_seg a2.out (b3 : Int) od (by have h_ : (b3 : Int) < ((a4.length : Int) : Int) := od; first | exact h_ | (have e_ := (Kd.R_reads' a2.out).1; omega) | simpa using h_) (seg := [.string (⟨#[97, 66]⟩ : ByteArray)]) (j := 0) k7 k8 (show 1 ≤ 2 from by decide) (x' := (⟨(⟨#[97, 66]⟩ : ByteArray), (Ac2 a4 b3).f1⟩ : S79)) (Am8 _ _ _ (⟨(⟨#[97, 66]⟩ : ByteArray), (Ac2 a4 b3).f1⟩ : S79) ) (fun _ hk => hk)).1
     rw [← s3.out] at n4
     have E0 := am n4
     clear k7 k8 t0 n4; (try clear s9)
     refine hK.out _ _ ((Ad1 a0.out 0).trans rfl) (fun hHeld => ?_)
     clear hK K
     refine nr (some 44) ?_
     refine pu 5 45 rfl rfl c1 ?_
     refine pu 6 46 rfl rfl c1 ?_
     refine Bk4 (i := 7) (N := none) #[true, true, true, true, true, true, true, true] rfl rfl (Bf5 c1.out (by kernel_rfl)) (by decide) (fun K hK => ?_)
     refine Be5 (w1 := ?_) (by rfl) rfl ?_ ?_
     rotate_left
     ·go_simp
      rfl
     refine hK.out _ _ ?_
     clear hK K
     refine Ar3 (Al8 c1.out (by kernel_rfl)) ?_
     have n5 : Aside0 (Kd.R k79 79 (n3.setCell ⟨d0, (b3 : Int).toNat * 2, none⟩ (.string (⟨#[97, 66]⟩ : ByteArray))) w.heap.size (fun _ => True) (.slice (some ⟨d0, 0, none⟩) a4.length d4) s2) := ⟨rq E0.out⟩
     have n6 : Aside0 ((n3.setCell ⟨d0, (b3 : Int).toNat * 2, none⟩ (.string (⟨#[97, 66]⟩ : ByteArray))).heap[b0]? = some (.cells #[.slice none 0 0] 36 (0, 0))) := ⟨by refine bq ?_; refine Aq1 ?_ (by have h_ := Kd.R_ne a2.out a1.out (by decide); intro e_; exact h_ (by rw [e_]; rfl)) _; refine bq ?_; exact a1.out⟩
     have n7 : Aside0 ((n3.setCell ⟨d0, (b3 : Int).toNat * 2, none⟩ (.string (⟨#[97, 66]⟩ : ByteArray))).heap[b4]? = some (.cells #[.slice (some ⟨d0, 0, none⟩) a4.length d4] 36 (0, 0))) := ⟨by refine bq ?_; refine Aq1 ?_ (by have h_ := Kd.R_ne a2.out a0.out (by decide); intro e_; exact h_ (by rw [e_]; rfl)) _; refine bq ?_; exact a0.out⟩
     have n8 : Aside0 (Aa0 w0 (n3.setCell ⟨d0, (b3 : Int).toNat * 2, none⟩ (.string (⟨#[97, 66]⟩ : ByteArray))) g b2 n1) := ⟨Aa0.q a5.out⟩
     have n9 : Aside0 (Ab7 w (n3.setCell ⟨d0, (b3 : Int).toNat * 2, none⟩ (.string (⟨#[97, 66]⟩ : ByteArray))) g none) := ⟨ks HK.out⟩
     have o0 : Aside0 (Below w0.heap.size w0 (n3.setCell ⟨d0, (b3 : Int).toNat * 2, none⟩ (.string (⟨#[97, 66]⟩ : ByteArray)))) := ⟨by repeat (first | (with_reducible first | exact HB.out | apply Ah3 | apply Ak1 | apply Af1 | refine Ak7 ?_ (Nat.le_trans HL.out D5.out) | refine Ak7 ?_ (Aa0.ge a5.out) | refine Ak7 ?_ k3.out | refine Ak7 ?_ k4.out) | exact HB.out)⟩
     (try clear a2)
     (try clear a1)
     (try clear a0)
     (try clear a5)
     (try clear HK)
     (try clear HB)
     (try simp only [Go.IntKind.wrap_u8])
     generalize (n3.setCell ⟨d0, (b3 : Int).toNat * 2, none⟩ (.string (⟨#[97, 66]⟩ : ByteArray))) = S6 at n5 n6 n7 n8 n9 o0 ⊢
     have a2 := n5
     have a1 := n6
     have a0 := n7
     have a5 := n8
     have HK := n9
     have HB := o0
     clear n5 n6 n7 n8 n9 o0
     obtain ⟨K6, K7⟩ := nn a7
     obtain ⟨K8, K9⟩ := nn a6
     have z7 := c0_ a0
     have z8 := Aa2 a0.out 0
     obtain ⟨L0, L1⟩ := nn a8
     have z9 := c0_ a1
     have A0 := Aa2 a1.out 0
     try go_wp2
     refine bodyPost_ret (results_cell_row rfl _ _ b0 36 #[.slice (some ⟨d0, 0, none⟩) a4.length d4] (0, 0) _ rfl (by refine bq ?_; refine Ac7 (cs := #[.slice none 0 0]) ?_ 0 _ rfl; refine bq ?_; exact a1.out) Tryz.underlying36 rfl (by kernel_rfl)) rfl ?_
     exact ⟨_, er, rq (Kd.R_mono (Kd.R_far (p := ⟨b0, 0, none⟩) (Kd.R_types a2.out a1.out (by decide)) (fun _ hk => hk.2) (.slice (some ⟨d0, 0, none⟩) a4.length d4)) (fun _ hk => trivial)), Aa0.q a5.out, hsk HB.out (Aa0.ge a5.out), ks HK.out⟩
    ·rw [if_neg r9] at H
     obtain ⟨s0, s1⟩ := bqf r9
     by_cases o1 : e5 = 3
     ·rw [if_pos o1] at H
      obtain ⟨h5, h6⟩ := bqt o1; clear o1
      obtain ⟨⟨b1, h7⟩, L2, H⟩ := ob H
      try dsimp only at H
      obtain ⟨g5, e9⟩ : ∃ y_ : List Int, y_ = (([3, (-1)] : List Int)) := ⟨_, rfl⟩
      replace H : ((Ad8.f b2 h7 g5).bind fun e3 => (if 0 ≤ b1 then (if b1 < (a4.length : Int) then (some ((a4.set (b1 : Int).toNat (⟨(Ac2 a4 b1).f0, e3.1⟩ : S79)), e3.2)) else (none)) else (none))) = some (r1, r2) := by first | (rw [e9]; first | with_reducible exact H | with_reducible exact bs H) | with_reducible exact bs H | with_reducible exact H | (rw [e9]; exact H) | exact H
      have g0 := am e9
      clear e9
      obtain ⟨⟨d1, o2⟩, Q8, H⟩ := ob H
      try dsimp only at H
      obtain ⟨L3, H⟩ := ife H
      obtain ⟨L4, H⟩ := ife H
      obtain ⟨t1, g1⟩ : ∃ y_ : List (S79), y_ = (a4.set (b1 : Int).toNat (⟨(Ac2 a4 b1).f0, d1⟩ : S79)) := ⟨_, rfl⟩
      replace H : (some (t1, o2)) = some (r1, r2) := by first | (rw [g1]; first | with_reducible exact H | with_reducible exact bs H) | with_reducible exact bs H | with_reducible exact H | (rw [g1]; exact H) | exact H
      have t2 := am g1
      clear g1
      simp only [Option.some.injEq, Prod.mk.injEq] at H
      obtain ⟨rfl, rfl⟩ := H
      try go_wp2
      replace a2 := am (Kd.R_drew a2.out)
      replace a1 := am (Ah2 a1.out)
      replace a0 := am (Ah2 a0.out)
      replace a5 := am (Aa0.drew a5.out)
      replace HK := am (As5 HK.out)
      replace HB := am (Af1 HB.out)
      refine st_ (n := 11) (S := fun w' => w'.cell? ⟨b4, 0, none⟩ = some (.slice g8 a4.length d4)) (ds := [10]) ((Ad1 a0.out 0).trans rfl) (fun hHeld => ?_); refine Ah6 Ad3.tab15 Ad3.bits15 (fun c1 n2 => ?_)
      generalize j5.drew = S7 at a2 a1 a0 a5 HK HB hHeld ⊢
      refine pu 0 49 rfl rfl c1 ?_
      refine pu 2 51 rfl rfl c1 ?_
      refine pu 3 52 rfl rfl c1 ?_
      refine pu 5 54 rfl rfl c1 ?_
      refine tk 1 50 rfl rfl c1 n2 hHeld ?_
      refine Bl8 (σ := Value) 4 #[true, true, true, true, true, true, true, false, false, false, false] (fun s_ => [(53, .int .i64 b1), (55, s_)]) (fun s_ w' => (w'.cell? ⟨b4, 0, none⟩ = some (.slice g8 a4.length d4)) ∧ (Kd.R k79 79 w' w.heap.size (fun _ => True) (.slice g8 a4.length d4) a4) ∧ (Kd.R (Kd.int .i64) 2 w' w.heap.size (fun _ => True) s_ g5) ∧ (w'.heap[b0]? = some (.cells #[.slice none 0 0] 36 (0, 0))) ∧ (w'.heap[b4]? = some (.cells #[.slice g8 a4.length d4] 36 (0, 0))) ∧ (Aa0 w0 w' g b2 h7) ∧ (Ab7 w w' g none) ∧ (Below w0.heap.size w0 w')) ?_ ?_
      rotate_left
      ·intro hCont
       refine Bn3 (i := 4) (j := 6) (Ni := some 53) (Nj := some 55) #[true, true, true, true, true, true, false, false, false, false, false] #[true, true, true, true, false, true, true, false, false, false, false] rfl rfl rfl rfl (Bc2 c1.out (by kernel_rfl)) (by decide) (by decide) (fun K hK => ?_) (fun K hK => ?_)
       ·skip
        refine gs Tryz.func75 #[.pointer (some ⟨g, 0, none⟩), .int .i64 (a4.length : Int)] ?_
        refine (Ad7.calls g b2 d3 (a4.length : Int) b1 h7 w0 _ (Aa0.q a5.out) (hsk HB.out (Aa0.ge a5.out)) L2.out).mono ?_
        rintro e Q9 ⟨rfl, hi, hb, hk⟩
        refine ⟨_, rfl, ?_⟩
        replace a1 := kb hk a1 a8
        replace a2 := Aa0.rk a5 a2 hk
        replace a0 := kb hk a0 a6
        replace HK := kt HK hk
        replace HB := am (hb)
        replace a5 := am (hi)
        (try clear hb)
        (try clear hk)
        (try clear hi)
        refine hK.out _ _ ((Ad1 a0.out 0).trans rfl) (fun hHeld => ?_)
        clear hK K
        refine nr (some 53) ?_
        refine on_ 6 (some 55) rfl rfl c1 (fun K hK => ?_)
        refine Kd.R_lit_step (Kd.int .i64) _ 2 ?hg (N := 55) ?hd (xs := ([3, (-1)] : List Int)) (inner := [.int .i64 3, .int .i64 (-1)]) (ok := fun _ => True) (okp := fun _ => True) ?hr ?hp (fun _ hk => hk) trivial (Below.refl _ _) (Nat.le_refl _) (by simp) ?_; (case hd => rfl); (case hg => rfl); (case hr => first | (go_simp; done) | (go_simp; rfl)); (case hp => exact (Aj9.one (show Kd.M (Kd.int .i64) _ _ _ 3 [.int .i64 3] from rfl) (Aj9.one (show Kd.M (Kd.int .i64) _ _ _ (-1) [.int .i64 (-1)] from rfl) (Aj9.none _ _))))
        intro j9 S8 h8 hb E1 hnew_
        clear E1 hnew_
        (first | rw [← g0.out] at h8 | (simp only [Int.reduceToNat] at h8; rw [← g0.out] at h8))
        replace a2 := rb a2 hb
        have b7 := am (Kd.R_lower h8 (Ae0 (w := w) (g := g) (row := none) (ks HK.out)))
        replace a1 := bb a1 hb
        replace a0 := bb a0 hb
        replace HK := ku HK hb
        replace HB := am (Ad9 (hsk HB.out (Aa0.ge a5.out)) hb)
        replace a5 := Aa0.bl a5 hb
        clear hb h8
        refine hK.out _ _ ((Ad1 a0.out 0).trans rfl) (fun hHeld => ?_)
        clear hK K
        refine nr (some 55) ?_
        exact nj (hCont (j9) _ ⟨hHeld, (rq a2.out), (rq b7.out), (bq a1.out), (bq a0.out), (Aa0.q a5.out), (ks HK.out), (hsk HB.out (Aa0.ge a5.out))⟩)
       ·skip
        refine Kd.R_lit_step (Kd.int .i64) _ 2 ?hg (N := 55) ?hd (xs := ([3, (-1)] : List Int)) (inner := [.int .i64 3, .int .i64 (-1)]) (ok := fun _ => True) (okp := fun _ => True) ?hr ?hp (fun _ hk => hk) trivial (Below.refl _ _) (Nat.le_refl _) (by simp) ?_; (case hd => rfl); (case hg => rfl); (case hr => first | (go_simp; done) | (go_simp; rfl)); (case hp => exact (Aj9.one (show Kd.M (Kd.int .i64) _ _ _ 3 [.int .i64 3] from rfl) (Aj9.one (show Kd.M (Kd.int .i64) _ _ _ (-1) [.int .i64 (-1)] from rfl) (Aj9.none _ _))))
        intro j9 Q9 h9 hb E1 hnew_
        clear E1 hnew_
        (first | rw [← g0.out] at h9 | (simp only [Int.reduceToNat] at h9; rw [← g0.out] at h9))
        replace a2 := rb a2 hb
        have b7 := am (Kd.R_lower h9 (Ae0 (w := w) (g := g) (row := none) (ks HK.out)))
        replace a1 := bb a1 hb
        replace a0 := bb a0 hb
        replace HK := ku HK hb
        replace HB := am (Ad9 (hsk HB.out (Aa0.ge a5.out)) hb)
        replace a5 := Aa0.bl a5 hb
        clear hb h9
        refine hK.out _ _ ((Ad1 a0.out 0).trans rfl) (fun hHeld => ?_)
        clear hK K
        refine nr (some 55) ?_
        refine on_ 4 (some 53) rfl rfl c1 (fun K hK => ?_)
        refine gs Tryz.func75 #[.pointer (some ⟨g, 0, none⟩), .int .i64 (a4.length : Int)] ?_
        refine (Ad7.calls g b2 d3 (a4.length : Int) b1 h7 w0 _ (Aa0.q a5.out) (hsk HB.out (Aa0.ge a5.out)) L2.out).mono ?_
        rintro e S9 ⟨rfl, hi, hb, hk⟩
        refine ⟨_, rfl, ?_⟩
        replace a1 := kb hk a1 a8
        replace a2 := Aa0.rk a5 a2 hk
        replace a0 := kb hk a0 a6
        replace b7 := Aa0.rk a5 b7 hk
        replace HK := kt HK hk
        replace HB := am (hb)
        replace a5 := am (hi)
        (try clear hb)
        (try clear hk)
        (try clear hi)
        refine hK.out _ _ ((Ad1 a0.out 0).trans rfl) (fun hHeld => ?_)
        clear hK K
        refine nr (some 53) ?_
        exact nj (hCont (j9) _ ⟨hHeld, (rq a2.out), (rq b7.out), (bq a1.out), (bq a0.out), (Aa0.q a5.out), (ks HK.out), (hsk HB.out (Aa0.ge a5.out))⟩)
      clear a2 a1 a0 a5 HK HB
      rintro j9 T0 ⟨L5, E2, E3, E4, E5, E6, E7, E8⟩
      try dsimp only at L5 E2 E3 E4 E5 E6 E7 E8
      have a2 := am E2; have b7 := am E3; have a1 := am E4; have a0 := am E5; have a5 := am E6; have HK := am E7; have HB := am E8; clear E2 E3 E4 E5 E6 E7 E8; have hHeld := L5
      obtain ⟨t3, t4, t5⟩ := Kd.R_slice b7.out
      (first | subst t5 | (injection t5 with t6 E9 t7; have F0 := t6.symm; have F1 := t7.symm; clear t6 E9 t7; subst F0; subst F1))
      refine nj ?_
      refine on_ 7 (some 56) rfl rfl c1 (fun K hK => ?_)
      refine gs Tryz.func73 #[.pointer (some ⟨g, 0, none⟩), .slice t3 g5.length t4] ?_
      refine (Ad8.calls g b2 h7 _ _ g5 d1 o2 w0 _ (Aa0.q a5.out) (hsk HB.out (Aa0.ge a5.out)) (cq (Kd.R_reads' b7.out).2.2) ((Kd.R_reads' b7.out).2.1) (Aq8 (Aa0.own_ne a5.out b7.out (by decide))) Q8.out).mono ?_
      rintro e k9 ⟨rfl, hi, hb, hk⟩
      refine ⟨_, rfl, ?_⟩
      replace a1 := kb hk a1 a8
      replace a2 := Aa0.rk a5 a2 hk
      replace a0 := kb hk a0 a6
      replace b7 := Aa0.rk a5 b7 hk
      replace HK := kt HK hk
      replace HB := am (hb)
      replace a5 := am (hi)
      (try clear hb)
      (try clear hk)
      (try clear hi)
      have F2 : 0 ≤ (b1 : Int) := od
      have F3 : (b1 : Int) < ((a4.length : Int) : Int) := od
      obtain ⟨c0, R0, t8, t9, F4, R1, u0⟩ := Kd.R_form a2.out (by omega)
      (first | cases t8 | (injection t8 with d7 m6 m7; (first | subst d7 | (injection d7 with d7; subst d7)); subst m7; clear m6))
      have F5 := am t9
      have F6 := am u0
      clear t9 F4 u0
      obtain ⟨R2, u1, u2, i0, i1⟩ := Kd.R_elem a2.out z79 (b1 : Int) F2 F3
      obtain rfl := At9 u2
      have F7 : World.cell? _ ⟨c0, (b1 : Int).toNat * 2, none⟩ = some (.string ((Ac2 a4 b1).f0)) := i0 0 _ rfl
      have F8 : World.cell? _ ⟨c0, (b1 : Int).toNat * 2 + 1, none⟩ = some (.int .i64 ((Ac2 a4 b1).f1)) := i0 1 _ rfl
      have F9 : World.frozen? _ ⟨c0, (b1 : Int).toNat * 2, none⟩ = false := i1 0
      have G0 : World.frozen? _ ⟨c0, (b1 : Int).toNat * 2 + 1, none⟩ = false := i1 1
      clear u1 i0 i1; (try clear u2)
      obtain ⟨F2, F3⟩ := ee F2 F3
      have HN0_go53 := am (show g ≠ c0 from by have h_ := Aa0.own_ne a5.out a2.out (by decide); intro e_; exact h_ (by rw [e_]; rfl))
      obtain ⟨R3, l4, u3, l5, u4⟩ := Kd.R_elem a2.out z79 (b1 : Int) od (by have h_ : (b1 : Int) < ((a4.length : Int) : Int) := od; first | exact h_ | (have e_ := (Kd.R_reads' a2.out).1; omega) | simpa using h_)
      obtain rfl := At9 u3
      have o3 := (Kd.R_seg a2.out (b1 : Int) od (by have h_ : (b1 : Int) < ((a4.length : Int) : Int) := od; first | exact h_ | (have e_ := (Kd.R_reads' a2.out).1; omega) | simpa using h_) (seg := [.int .i64 d1]) (j := 1) l4 l5 (show 2 ≤ 2 from by decide) (x' := (⟨(Ac2 a4 b1).f0, d1⟩ : S79)) (Am8 _ _ _ (⟨(Ac2 a4 b1).f0, d1⟩ : S79) ) (fun _ hk => hk)).1
      rw [← t2.out] at o3
      have G1 := am o3
      clear l4 l5 u4 o3; (try clear u3)
      refine hK.out _ _ ((Ad1 a0.out 0).trans rfl) (fun hHeld => ?_)
      clear hK K
      refine nr (some 56) ?_
      refine pu 8 57 rfl rfl c1 ?_
      refine pu 9 58 rfl rfl c1 ?_
      refine Bk4 (i := 10) (N := none) #[true, true, true, true, true, true, true, true, true, true, true] rfl rfl (Bf5 c1.out (by kernel_rfl)) (by decide) (fun K hK => ?_)
      refine Be5 (w1 := ?_) (by rfl) rfl ?_ ?_
      rotate_left
      ·go_simp
       rfl
      refine hK.out _ _ ?_
      clear hK K
      refine Ar3 (Al8 c1.out (by kernel_rfl)) ?_
      have n5 : Aside0 (Kd.R k79 79 (k9.setCell ⟨c0, (b1 : Int).toNat * 2 + 1, none⟩ (.int .i64 d1)) w.heap.size (fun _ => True) (.slice (some ⟨c0, 0, none⟩) a4.length d4) t1) := ⟨rq G1.out⟩
      have n6 : Aside0 (Kd.R (Kd.int .i64) 2 (k9.setCell ⟨c0, (b1 : Int).toNat * 2 + 1, none⟩ (.int .i64 d1)) w.heap.size (fun _ => True) (.slice t3 g5.length t4) g5) := ⟨rq (Kd.R_mono (Kd.R_far (p := ⟨c0, (b1 : Int).toNat * 2 + 1, none⟩) (Kd.R_types b7.out F6.out (by decide)) (fun _ hk => hk.2) (.int .i64 d1)) (fun _ hk => trivial))⟩
      have n7 : Aside0 ((k9.setCell ⟨c0, (b1 : Int).toNat * 2 + 1, none⟩ (.int .i64 d1)).heap[b0]? = some (.cells #[.slice none 0 0] 36 (0, 0))) := ⟨by refine bq ?_; refine Aq1 ?_ (by have h_ := Kd.R_ne a2.out a1.out (by decide); intro e_; exact h_ (by rw [e_]; rfl)) _; refine bq ?_; exact a1.out⟩
      have n8 : Aside0 ((k9.setCell ⟨c0, (b1 : Int).toNat * 2 + 1, none⟩ (.int .i64 d1)).heap[b4]? = some (.cells #[.slice (some ⟨c0, 0, none⟩) a4.length d4] 36 (0, 0))) := ⟨by refine bq ?_; refine Aq1 ?_ (by have h_ := Kd.R_ne a2.out a0.out (by decide); intro e_; exact h_ (by rw [e_]; rfl)) _; refine bq ?_; exact a0.out⟩
      have n9 : Aside0 (Aa0 w0 (k9.setCell ⟨c0, (b1 : Int).toNat * 2 + 1, none⟩ (.int .i64 d1)) g b2 o2) := ⟨Aa0.q a5.out⟩
      have o0 : Aside0 (Ab7 w (k9.setCell ⟨c0, (b1 : Int).toNat * 2 + 1, none⟩ (.int .i64 d1)) g none) := ⟨ks HK.out⟩
      have G2 : Aside0 (Below w0.heap.size w0 (k9.setCell ⟨c0, (b1 : Int).toNat * 2 + 1, none⟩ (.int .i64 d1))) := ⟨by repeat (first | (with_reducible first | exact HB.out | apply Ah3 | apply Ak1 | apply Af1 | refine Ak7 ?_ (Nat.le_trans HL.out F5.out) | refine Ak7 ?_ (Aa0.ge a5.out) | refine Ak7 ?_ k3.out | refine Ak7 ?_ k4.out) | exact HB.out)⟩
      (try clear a2)
      (try clear b7)
      (try clear a1)
      (try clear a0)
      (try clear a5)
      (try clear HK)
      (try clear HB)
      (try simp only [Go.IntKind.wrap_u8])
      generalize (k9.setCell ⟨c0, (b1 : Int).toNat * 2 + 1, none⟩ (.int .i64 d1)) = T2 at n5 n6 n7 n8 n9 o0 G2 ⊢
      have a2 := n5
      have b7 := n6
      have a1 := n7
      have a0 := n8
      have a5 := n9
      have HK := o0
      have HB := G2
      clear n5 n6 n7 n8 n9 o0 G2
      obtain ⟨L6, L7⟩ := nn a7
      obtain ⟨L8, L9⟩ := nn a6
      have A1 := c0_ a0
      have A4 := Aa2 a0.out 0
      obtain ⟨M0, M1⟩ := nn a8
      have A5 := c0_ a1
      have A6 := Aa2 a1.out 0
      try go_wp2
      refine bodyPost_ret (results_cell_row rfl _ _ b0 36 #[.slice (some ⟨c0, 0, none⟩) a4.length d4] (0, 0) _ rfl (by refine bq ?_; refine Ac7 (cs := #[.slice none 0 0]) ?_ 0 _ rfl; refine bq ?_; exact a1.out) Tryz.underlying36 rfl (by kernel_rfl)) rfl ?_
      exact ⟨_, er, rq (Kd.R_mono (Kd.R_far (p := ⟨b0, 0, none⟩) (Kd.R_types a2.out a1.out (by decide)) (fun _ hk => hk.2) (.slice (some ⟨c0, 0, none⟩) a4.length d4)) (fun _ hk => trivial)), Aa0.q a5.out, hsk HB.out (Aa0.ge a5.out), ks HK.out⟩
     ·rw [if_neg o1] at H
      obtain ⟨h5, h6⟩ := bqf o1
      by_cases o4 : e5 = 4
      ·rw [if_pos o4] at H
       obtain ⟨i2, i3⟩ := bqt o4; clear o4
       obtain ⟨M2, H⟩ := ifs H
       have M3 := decide_eq_true M2
       have M4 : decide (0 < a4.length) = true := decide_eq_true (by omega)
       clear M2
       obtain ⟨M5, H⟩ := ifs H
       have u5 := am M5
       clear M5
       obtain ⟨k0, g2⟩ : ∃ y_ : List (S79), y_ = (a4 ++ [(⟨(Ac2 a4 0).f0, (Ac2 a4 0).f1⟩ : S79)]) := ⟨_, rfl⟩
       replace H : (some (k0, d3)) = some (r1, r2) := by first | (rw [g2]; first | with_reducible exact H | with_reducible exact bs H) | with_reducible exact bs H | with_reducible exact H | (rw [g2]; exact H) | exact H
       have u6 := am g2
       clear g2
       simp only [Option.some.injEq, Prod.mk.injEq] at H
       obtain ⟨rfl, rfl⟩ := H
       try go_wp2
       replace a2 := am (Kd.R_drew a2.out)
       replace a1 := am (Ah2 a1.out)
       replace a0 := am (Ah2 a0.out)
       replace a5 := am (Aa0.drew a5.out)
       replace HK := am (As5 HK.out)
       replace HB := am (Af1 HB.out)
       have o5 : 0 ≤ (0 : Int) := (by omega)
       have o6 : 0 < (a4.length : Int) := od
       obtain ⟨d6, G3, d8, d9⟩ := Ap3 (Kd.R_reads' a2.out).2.2 0 o5 o6
       cases G3
       have M6 : (0 < a4.length) = True := eq_true (by omega)
       (try simp only [t0_] at d8 d9)
       obtain ⟨o5, o6⟩ := ee o5 o6
       refine st_ (n := 10) (S := fun w' => w'.cell? ⟨b4, 0, none⟩ = some (.slice (some d6) a4.length d4) ∧ w'.cell? d6 = some (.string ((Ac2 a4 0).f0)) ∧ w'.cell? ⟨d6.block, d6.off + 1, none⟩ = some (.int .i64 ((Ac2 a4 0).f1))) (ds := [7, 9]) ⟨(Ad1 a0.out 0).trans rfl, d8, d9⟩ (fun hHeld => ?_); refine Ah6 Ad3.tab17 Ad3.bits17 (fun c1 n2 => ?_)
       generalize j5.drew = T4 at a2 a1 a0 a5 HK HB d8 d9 hHeld ⊢
       refine pu 0 61 rfl rfl c1 ?_
       refine pu 2 63 rfl rfl c1 ?_
       refine tk 1 62 rfl rfl c1 n2 hHeld ?_
       refine tk 3 64 rfl rfl c1 n2 hHeld ?_
       refine pu 4 65 rfl rfl c1 ?_
       refine tk 5 66 rfl rfl c1 n2 hHeld ?_
       refine on_ 6 (some 67) rfl rfl c1 (fun K hK => ?_)
       refine value_ (w1 := ?_) (v := ?_) (by rfl) rfl ?_ ?_
       rotate_left 2
       ·go_simp
        constructor
        ·rfl
        ·rfl
       refine hK.out _ _ ⟨(Ad1 (Av2 a0.out _) 0).trans rfl, (World.cell?_alloc_lt _ _ _ (World.block_lt_of_cell? _ _ (hHeld.2.1))).trans (hHeld.2.1), (World.cell?_alloc_lt _ _ _ (World.block_lt_of_cell? _ _ (hHeld.2.2))).trans (hHeld.2.2)⟩ (fun hHeld => ?_)
       clear hK K
       refine nr (some 67) ?_
       refine Bk4 (i := 7) (N := some 68) #[true, true, true, true, true, true, true, true, false, false] rfl rfl (Bf5 c1.out (by kernel_rfl)) (by decide) (fun K hK => ?_)
       refine Kd.R_append_step k79 w.heap.size (by rfl) (.tmp 62) (.tmp 67) 34 79 (.agg #[(.string ⟨#[]⟩), (.int .i64 0)]) 24 rfl Tryz.underlying34 info79 rfl (by decide) (by omega) (.slice (some d6) a4.length d4) a4 (⟨(Ac2 a4 0).f0, (Ac2 a4 0).f1⟩ : S79) [.string ((Ac2 a4 0).f0), .int .i64 ((Ac2 a4 0).f1)] (fun _ => True) (fun _ => False) rfl rfl ?aP (fun _ hk => hk.elim) ?aF ?aO (Below.refl _ _) ?aS ?aL ?_
       (case aP => exact Am8 _ _ _ (⟨(Ac2 a4 0).f0, (Ac2 a4 0).f1⟩ : S79))
       (case aF => exact (fun _ _ => trivial))
       (case aO => exact (rq a2.out))
       (case aS => exact (Ae0 (w := w) (g := g) (row := none) (ks HK.out)))
       (case aL => have := u5.out; omega)
       intro R4 R5 ho hb hg hat
       rw [← u6.out] at ho
       replace a1 := am (Am6 (bq a1.out) hg (Kd.R_ne a2.out a1.out (by decide)))
       replace a0 := am (Am6 (bq a0.out) hg (Kd.R_ne a2.out a0.out (by decide)))
       replace HB := am (Aq4 (hsk HB.out (Aa0.ge a5.out)) HL.out hb)
       replace a5 := am (Aa0.grown (Aa0.q a5.out) hg (Aa0.own_ne a5.out a2.out (by decide)))
       replace HK := am (Ab7.trans (ks HK.out) (Ab7.of_grown hg g) (Kd.R_base2 a2.out))
       have l6 := am (ho)
       clear a2
       clear ho hb hg hat
       obtain ⟨o7, o8, u7⟩ := Kd.R_slice l6.out
       (first | subst u7 | (injection u7 with t6 E9 t7; have F0 := t6.symm; have F1 := t7.symm; clear t6 E9 t7; subst F0; subst F1))
       refine hK.out _ _ ?_
       clear hK K
       refine nr (some 68) ?_
       refine pu 8 69 rfl rfl c1 ?_
       refine Bk4 (i := 9) (N := none) #[true, true, true, true, true, true, true, true, true, true] rfl rfl (Bf5 c1.out (by kernel_rfl)) (by decide) (fun K hK => ?_)
       have R6 : R5.cell? ⟨b4, 0, none⟩ = some (.slice (some d6) a4.length d4) := (Ad1 a0.out 0).trans rfl
       have M7 := Aa2 a0.out 0
       have A7 := d2.out
       have A8 := a7.out
       refine Be5 (w1 := ?_) (by rfl) rfl ?_ ?_
       rotate_left
       ·go_simp
        rfl
       refine hK.out _ _ ?_
       clear hK K
       refine Ar3 (Al8 c1.out (by kernel_rfl)) ?_
       obtain ⟨M8, M9⟩ := nn a7
       obtain ⟨N0, N1⟩ := nn a6
       have A9 := c0_ a0
       have B0 := Aa2 a0.out 0
       obtain ⟨N2, N3⟩ := nn a8
       have B2 := c0_ a1
       have B4 := Aa2 a1.out 0
       try go_wp2
       refine bodyPost_ret (results_cell_row rfl _ _ b0 36 #[.slice o7 k0.length o8] (0, 0) _ rfl (by refine bq ?_; refine Ac7 (cs := #[.slice none 0 0]) ?_ 0 _ rfl; refine bq ?_; refine Aq1 ?_ d2.out _; refine bq ?_; exact a1.out) Tryz.underlying36 rfl (by kernel_rfl)) rfl ?_
       exact ⟨_, er, rq (Kd.R_mono (Kd.R_far (p := ⟨b0, 0, none⟩) (Kd.R_far (p := ⟨b4, 0, none⟩) (Kd.R_types (Kd.R_types l6.out a0.out (by decide)) a1.out (by decide)) (fun _ hk => hk.1.2) (.slice o7 k0.length o8)) (fun _ hk => hk.2) (.slice o7 k0.length o8)) (fun _ hk => trivial)), Aa0.q a5.out, hsk HB.out (Aa0.ge a5.out), ks HK.out⟩
      ·rw [if_neg o4] at H
       obtain ⟨i2, i3⟩ := bqf o4
       by_cases o9 : e5 = 5
       ·rw [if_pos o9] at H
        obtain ⟨i4, i5⟩ := bqt o9; clear o9
        have H' := am H
        clear H
        go_wp2
        go_loopg [5] k (fun kq v5 w' => ∃ (b5 : Int) (a3 : List (S79)) (b9 : Value), v5 = .int .i64 b5 ∧ Aside0 (Ad3.l0 kq (a4.length : Int) b5 b2 d3 a3 = some (r1, r2)) ∧ Aside0 (kq ≤ k) ∧ Aside0 (Kd.R k79 79 w' w.heap.size (fun _ => True) b9 a3) ∧ Aside0 (w'.heap[b0]? = some (.cells #[(.slice none 0 0)] 36 (0, 0))) ∧ Aside0 (w'.heap[b4]? = some (.cells #[b9] 36 (0, 0))) ∧ Aside0 (Aa0 w0 w' g b2 d3) ∧ Aside0 (Ab7 w w' g none) ∧ Aside0 (Below w0.heap.size w0 w'))
        case atStart => exact ⟨(0), (a4), (.slice g8 a4.length d4), et, H', ⟨Nat.le_refl _⟩, ⟨rq a2.out⟩, ⟨bq a1.out⟩, ⟨bq a0.out⟩, ⟨Aa0.q a5.out⟩, ⟨ks HK.out⟩, ⟨hsk HB.out (Aa0.ge a5.out)⟩⟩
        case round =>
         clear H'
         try clear o1; try clear h5; try clear h6; try clear o4; try clear i2; try clear i3; try clear o9; try clear i4; try clear i5
         obtain ⟨b5, a3, b9, rfl, HA, u9, HO_569000, a1, a0, a5, HK, HB⟩ := hrel
         cases gk with
         | zero => exact absurd HA.out (by simp [Ad3.l0])
         | succ k1 =>
          have H := HA.out
          clear HA
          simp only [Ad3.l0] at H
          by_cases p5 : b5 < (a4.length : Int)
          ·rw [if_pos p5] at H
           have v0 := decide_eq_true p5
           clear p5
           obtain ⟨N4, H⟩ := ife H
           obtain ⟨N5, H⟩ := ife H
           obtain ⟨p0, g3⟩ : ∃ y_ : List (S79), y_ = (a3.set (b5 : Int).toNat (⟨(Ac2 a3 b5).f0, 1⟩ : S79)) := ⟨_, rfl⟩
           replace H : (Ad3.l0 k1 (a4.length : Int) (wrap64 (b5 + 1)) b2 d3 p0) = some (r1, r2) := by first | (rw [g3]; first | with_reducible exact H | with_reducible exact bs H) | with_reducible exact bs H | with_reducible exact H | (rw [g3]; exact H) | exact H
           have v2 := am g3
           clear g3
           have H' := am H
           clear H
           obtain ⟨N6, N7⟩ := nn a7
           obtain ⟨N8, N9⟩ := nn a6
           have B5 := c0_ a0
           have B8 := Aa2 a0.out 0
           have G4 : 0 ≤ (b5 : Int) := od
           have G5 : (b5 : Int) < ((a3.length : Int) : Int) := od
           obtain ⟨e0, p1, v3, v4, G6, R7, v6⟩ := Kd.R_form HO_569000.out (by omega)
           (first | cases v3 | (injection v3 with d7 m6 m7; (first | subst d7 | (injection d7 with d7; subst d7)); subst m7; clear m6))
           have G7 := am v4
           have R8 := am v6
           clear v4 G6 v6
           obtain ⟨R9, v7, v8, i6, i7⟩ := Kd.R_elem HO_569000.out z79 (b5 : Int) G4 G5
           obtain rfl := At9 v8
           have G8 : wr.cell? ⟨e0, (b5 : Int).toNat * 2, none⟩ = some (.string ((Ac2 a3 b5).f0)) := i6 0 _ rfl
           have G9 : wr.cell? ⟨e0, (b5 : Int).toNat * 2 + 1, none⟩ = some (.int .i64 ((Ac2 a3 b5).f1)) := i6 1 _ rfl
           have H0 : wr.frozen? ⟨e0, (b5 : Int).toNat * 2, none⟩ = false := i7 0
           have H1 : wr.frozen? ⟨e0, (b5 : Int).toNat * 2 + 1, none⟩ = false := i7 1
           clear v7 i6 i7; (try clear v8)
           obtain ⟨G4, G5⟩ := ee G4 G5
           have v9 := am (show Kd.R k79 79 wr w.heap.size (fun _ => True) (.slice (some ⟨e0, 0, none⟩) a3.length p1) a3 from (rq HO_569000.out))
           obtain ⟨S0, l7, w2, i9, l8⟩ := Kd.R_elem v9.out z79 (b5 : Int) od (by have h_ : (b5 : Int) < ((a3.length : Int) : Int) := od; first | exact h_ | (have e_ := (Kd.R_reads' HO_569000.out).1; omega) | simpa using h_)
           obtain rfl := At9 w2
           have p2 := Kd.R_seg v9.out (b5 : Int) od (by have h_ : (b5 : Int) < ((a3.length : Int) : Int) := od; first | exact h_ | (have e_ := (Kd.R_reads' HO_569000.out).1; omega) | simpa using h_) (seg := [.int .i64 1]) (j := 1) l7 i9 (show 2 ≤ 2 from by decide) (x' := (⟨(Ac2 a3 b5).f0, 1⟩ : S79)) (Am8 _ _ _ (⟨(Ac2 a3 b5).f0, 1⟩ : S79) ) (fun _ hk => hk)
           have p3 := i9 1 _ rfl
           (try simp only [show (k79).sz = 2 from rfl, Nat.mul_one, Nat.add_zero] at p3)
           have p4 := l8 1
           (try simp only [show (k79).sz = 2 from rfl, Nat.mul_one, Nat.add_zero] at p4)
           clear l7 i9 l8; (try clear w2)
           go_wp2_with (first | ((with_reducible refine As7 (t := 2) (p := 81) rfl ?_); refine As0 (t := 2) (p := 81) (v := ?vo_w89) (w1 := (wr.setCell ⟨e0, (b5 : Int).toNat * 2 + 1, none⟩ (.int .i64 1))) ?hg ?ho ?hn ?hr ?_; (case ho => rfl); (case hg => rfl); (case hn => rfl); (case hr => first | (go_simp; done) | (go_simp; rfl)); intro H2 hw; have hg : wr.grownBy H2 (some e0) := (by rw [hw]; exact p2.2); have r8 : Kd.R k79 79 H2 w.heap.size (fun _ => True) (.slice (some ⟨e0, 0, none⟩) a3.length p1) p0 := (by rw [hw, v2.out]; exact p2.1); clear p2; replace a1 := am (Am6 (bq a1.out) hg (Kd.R_ne HO_569000.out a1.out (by decide))); replace a0 := am (Am6 (bq a0.out) hg (Kd.R_ne HO_569000.out a0.out (by decide))); replace a5 := am (Aa0.grown (Aa0.q a5.out) hg (Aa0.own_ne a5.out HO_569000.out (by decide))); replace HB := am ((by rw [hw]; exact Ak7 (HB.out) (Nat.le_trans HL.out G7.out) : Below w0.heap.size w0 H2)); replace HK := am (Ab7.trans (ks HK.out) (Ab7.of_grown hg g) (Kd.R_base2 HO_569000.out)); replace HO_569000 := am (r8); clear hg hw r8))
           go_roundg k1
           case measure => have := u9.out; omega
           case rel => exact ⟨(wrap64 (b5 + 1)), (p0), (.slice (some ⟨e0, 0, none⟩) a3.length p1), et, H', ⟨by have := u9.out; omega⟩, ⟨rq HO_569000.out⟩, ⟨bq a1.out⟩, ⟨bq a0.out⟩, ⟨Aa0.q a5.out⟩, ⟨ks HK.out⟩, ⟨hsk HB.out (Aa0.ge a5.out)⟩⟩
          ·rw [if_neg p5] at H
           have v0 := decide_eq_false p5
           clear p5
           simp only [Option.some.injEq, Prod.mk.injEq] at H
           obtain ⟨rfl, rfl⟩ := H
           obtain ⟨O0, O1⟩ := nn a7
           obtain ⟨O2, O3⟩ := nn a6
           have B9 := c0_ a0
           have C0 := Aa2 a0.out 0
           obtain ⟨w3, w4, H3⟩ := Kd.R_slice HO_569000.out
           subst H3
           obtain ⟨O4, O5⟩ := nn a8
           have C1 := c0_ a1
           have C2 := Aa2 a1.out 0
           go_wp2
           refine bodyPost_ret (results_cell_row rfl _ _ b0 36 #[.slice w3 a3.length w4] (0, 0) _ rfl (by refine bq ?_; refine Ac7 (cs := #[.slice none 0 0]) ?_ 0 _ rfl; refine bq ?_; exact a1.out) Tryz.underlying36 rfl (by kernel_rfl)) rfl ?_
           exact ⟨_, er, rq (Kd.R_mono (Kd.R_far (p := ⟨b0, 0, none⟩) (Kd.R_types HO_569000.out a1.out (by decide)) (fun _ hk => hk.2) (.slice w3 a3.length w4)) (fun _ hk => trivial)), Aa0.q a5.out, hsk HB.out (Aa0.ge a5.out), ks HK.out⟩
       ·rw [if_neg o9] at H
        obtain ⟨i4, i5⟩ := bqf o9
        have H' := am H
        clear H
        go_wp2
        go_loopg [] k (fun kq w' => ∃ (a3 : List (S79)) (b9 : Value), Aside0 (Ad3.l1 kq b2 d3 a3 = some (r1, r2)) ∧ Aside0 (kq ≤ k) ∧ Aside0 (Kd.R k79 79 w' w.heap.size (fun _ => True) b9 a3) ∧ Aside0 (w'.heap[b0]? = some (.cells #[(.slice none 0 0)] 36 (0, 0))) ∧ Aside0 (w'.heap[b4]? = some (.cells #[b9] 36 (0, 0))) ∧ Aside0 (Aa0 w0 w' g b2 d3) ∧ Aside0 (Ab7 w w' g none) ∧ Aside0 (Below w0.heap.size w0 w'))
        case atStart => exact ⟨(a4), (.slice g8 a4.length d4), H', ⟨Nat.le_refl _⟩, ⟨rq a2.out⟩, ⟨bq a1.out⟩, ⟨bq a0.out⟩, ⟨Aa0.q a5.out⟩, ⟨ks HK.out⟩, ⟨hsk HB.out (Aa0.ge a5.out)⟩⟩
        case round =>
         clear H'
         try clear o1; try clear h5; try clear h6; try clear o4; try clear i2; try clear i3; try clear o9; try clear i4; try clear i5
         obtain ⟨a3, b9, HA, u9, HO_569000, a1, a0, a5, HK, HB⟩ := hrel
         cases gk with
         | zero => exact absurd HA.out (by simp [Ad3.l1])
         | succ k1 =>
          have H := HA.out
          clear HA
          simp only [Ad3.l1] at H
          by_cases p6 : (a3.length : Int) < 7
          ·rw [if_pos p6] at H
           have w8 := decide_eq_true p6
           have w9 : decide (a3.length < 7) = true := decide_eq_true (by omega)
           clear p6
           obtain ⟨O6, H⟩ := ifs H
           have x0 := am O6
           clear O6
           obtain ⟨k2, g4⟩ : ∃ y_ : List (S79), y_ = (a3 ++ [(⟨(⟨#[122]⟩ : ByteArray), 0⟩ : S79)]) := ⟨_, rfl⟩
           replace H : (Ad3.l1 k1 b2 d3 k2) = some (r1, r2) := by first | (rw [g4]; first | with_reducible exact H | with_reducible exact bs H) | with_reducible exact bs H | with_reducible exact H | (rw [g4]; exact H) | exact H
           have x1 := am g4
           clear g4
           have H' := am H
           clear H
           obtain ⟨O7, O8⟩ := nn a7
           obtain ⟨O9, P0⟩ := nn a6
           have x2 := c0_ a0
           have x3 := Aa2 a0.out 0
           obtain ⟨l9, m0, x4⟩ := Kd.R_slice HO_569000.out
           subst x4
           go_wp2_with (first | ((with_reducible refine Ah1 (b := .append) (xs := #[.tmp 22, .tmp 24]) rfl ?_); at_builtin; refine Kd.R_append k79 w.heap.size rfl (.tmp 22) (.tmp 24) 34 79 (.agg #[(.string ⟨#[]⟩), (.int .i64 0)]) 24 rfl Tryz.underlying34 info79 rfl (by decide) (by omega) (.slice l9 a3.length m0) a3 (⟨(⟨#[122]⟩ : ByteArray), 0⟩ : S79) [.string (⟨#[122]⟩ : ByteArray), .int .i64 0] (fun _ => True) (fun _ => False) rfl rfl ?aP (fun _ hk => hk.elim) ?aF ?aO (Below.refl _ _) ?aS ?aL ?_; (case aP => exact Am8 _ _ _ (⟨(⟨#[122]⟩ : ByteArray), 0⟩ : S79)); (case aF => exact (fun _ _ => trivial)); (case aO => exact (rq HO_569000.out)); (case aS => exact (Ae0 (w := w) (g := g) (row := none) (ks HK.out))); (case aL => have := x0.out; omega); intro S1 S3 ho hb hg hat; rw [← x1.out] at ho; replace a1 := am (Am6 (bq a1.out) hg (Kd.R_ne HO_569000.out a1.out (by decide))); replace a0 := am (Am6 (bq a0.out) hg (Kd.R_ne HO_569000.out a0.out (by decide))); replace HB := am (Aq4 (hsk HB.out (Aa0.ge a5.out)) HL.out hb); replace a5 := am (Aa0.grown (Aa0.q a5.out) hg (Aa0.own_ne a5.out HO_569000.out (by decide))); replace HK := am (Ab7.trans (ks HK.out) (Ab7.of_grown hg g) (Kd.R_base2 HO_569000.out)); have m1 := am (ho); clear HO_569000; clear ho hb hg hat; obtain ⟨m2, m3, rfl⟩ := Kd.R_slice m1.out; have x5 := c0_ a0; have x6 := Aa2 a0.out 0))
           go_roundg k1
           case measure => have := u9.out; omega
           case rel => exact ⟨(k2), (.slice m2 k2.length m3), H', ⟨by have := u9.out; omega⟩, ⟨rq (Kd.R_mono (Kd.R_far (p := ⟨b4, 0, none⟩) (Kd.R_types m1.out a0.out (by decide)) (fun _ hk => hk.2) (.slice m2 k2.length m3)) (fun _ hk => trivial))⟩, ⟨bf a1.out⟩, ⟨by refine bq ?_; refine Ac7 (cs := #[.slice l9 a3.length m0]) ?_ 0 _ rfl; refine bq ?_; exact a0.out⟩, ⟨Aa0.q a5.out⟩, ⟨ks HK.out⟩, ⟨hsk HB.out (Aa0.ge a5.out)⟩⟩
          ·rw [if_neg p6] at H
           have w8 := decide_eq_false p6
           have w9 : decide (a3.length < 7) = false := decide_eq_false (by omega)
           clear p6
           simp only [Option.some.injEq, Prod.mk.injEq] at H
           obtain ⟨rfl, rfl⟩ := H
           obtain ⟨H4, H5⟩ := nn a7
           obtain ⟨H6, H7⟩ := nn a6
           have x7 := c0_ a0
           have x8 := Aa2 a0.out 0
           obtain ⟨m4, m5, x9⟩ := Kd.R_slice HO_569000.out
           subst x9
           obtain ⟨H8, H9⟩ := nn a8
           have y0 := c0_ a1
           have y1 := Aa2 a1.out 0
           go_wp2
           refine bodyPost_ret (results_cell_row rfl _ _ b0 36 #[.slice m4 a3.length m5] (0, 0) _ rfl (by refine bq ?_; refine Ac7 (cs := #[.slice none 0 0]) ?_ 0 _ rfl; refine bq ?_; exact a1.out) Tryz.underlying36 rfl (by kernel_rfl)) rfl ?_
           exact ⟨_, er, rq (Kd.R_mono (Kd.R_far (p := ⟨b0, 0, none⟩) (Kd.R_types HO_569000.out a1.out (by decide)) (fun _ hk => hk.2) (.slice m4 a3.length m5)) (fun _ hk => trivial)), Aa0.q a5.out, hsk HB.out (Aa0.ge a5.out), ks HK.out⟩
 ·replace y8 := Bool.eq_false_iff.mpr y8
  subst y8
  rw [if_neg (show ¬ (false = true) by decide)] at H
  simp only [Option.some.injEq, Prod.mk.injEq] at H
  obtain ⟨rfl, rfl⟩ := H
  obtain ⟨I0, I1⟩ := nn a7
  obtain ⟨I2, I3⟩ := nn a6
  have y2 := c0_ a0
  have y3 := Aa2 a0.out 0
  obtain ⟨I4, I5⟩ := nn a8
  have y4 := c0_ a1
  have y5 := Aa2 a1.out 0
  go_wp2
  refine bodyPost_ret (results_cell_row rfl _ _ b0 36 #[.slice g8 a4.length d4] (0, 0) _ rfl (by refine bq ?_; refine Ac7 (cs := #[.slice none 0 0]) ?_ 0 _ rfl; refine bq ?_; exact a1.out) Tryz.underlying36 rfl (by kernel_rfl)) rfl ?_
  exact ⟨_, er, rq (Kd.R_mono (Kd.R_far (p := ⟨b0, 0, none⟩) (Kd.R_types a2.out a1.out (by decide)) (fun _ hk => hk.2) (.slice g8 a4.length d4)) (fun _ hk => trivial)), Aa0.q a5.out, hsk HB.out (Aa0.ge a5.out), ks HK.out⟩
attribute [local go_sem] Ai1 Ah9 Ak5 Ak4 Ah0 Ag9 Ai2 Ai0   -- for this text's walks alone
set_option linter.unusedVariables false
set_option linter.unusedSimpArgs false
def Ao0.f (k : Nat) (a0 : List (S79)) (l1 : List Int) : Option (Int) := (Aa4.f k a0).bind fun a1 => (if a1 = 0 then ((Ad4.f k [(⟨a0⟩ : S36)] l1).bind fun a2 => (some a2)) else (some a1))
theorem Ao0.calls (k : Nat) (a4 : Option Addr) (a5 : Nat) (a0 : List (S79)) (A1 : Option Addr) (c1 : Nat) (l1 : List Int) (r : Int) (w : World) (a6 : Kd.C k79 w a4 a0.length a0) (a7 : a0.length ≤ a5) (b6 : Kd.C (Kd.int .i64) w A1 l1.length l1) (b7 : l1.length ≤ c1) (h : Ao0.f k a0 l1 = some r) :
  Calls Tryz.prog 93 #[.agg #[.slice a4 a0.length a5], .slice A1 l1.length c1] w fun e w' => e = .returned (.int .i64 r) ∧ Below w.heap.size w w' := by
 have c0 := Tryz.underlying36
 have a8 := am a6
 have a9 := am a7
 clear a6 a7
 have d0 := am b6
 have d1 := am b7
 clear b6 b7
 have HB := am (Below.refl w.heap.size w)
 have H : ((Aa4.f k a0).bind fun a2 => (if a2 = 0 then ((Ad4.f k [(⟨a0⟩ : S36)] l1).bind fun b0 => (some b0)) else (some a2))) = some r := h
 clear h
 obtain ⟨a2, A3, H⟩ := ob H
 try dsimp only at H
 have b8 := am H
 clear H
 go_enter Tryz.func93, Tryz.ntmps93
 go_upto_if 9 with (first | (refine bx 2 rfl #[.slice a4 a0.length a5] 36 ?_; intro b1 hg w5 hbox hb; have a1 := am (hbox); have b2 := am (bz hg (hq HB.out)); replace HB := sb HB hb; have b9 := b2; clear hb hbox hg; have b3 := c0_ a1; have b4 := Aa2 a1.out 0) | (refine gl (some 7) Tryz.func45 rfl #[.agg #[.slice a4 a0.length a5]] ?_; refine (Aa4.calls k _ _ a0 a2 _ (cq (Kd.C_below a8.out HB.out)) a9.out A3.out).mono ?_; rintro e w7 ⟨rfl, hb⟩; refine ⟨_, rfl, ?_⟩; replace a1 := bb a1 hb; replace HB := sb HB hb; clear hb))
 have H := b8.out
 clear b8
 by_cases c8 : a2 = 0
 ·rw [if_pos c8] at H
  obtain ⟨a3, b5⟩ := bqt c8; clear c8
  (first | rw [a3] | (simp only [Ae6, Ae7]; rw [a3]) | skip)
  obtain ⟨b0, A9, H⟩ := ob H
  try dsimp only at H
  obtain rfl := Option.some.inj H
  go_wp2_with (first | (refine gl (some 12) Tryz.func29 rfl #[.pointer (some ⟨b1, 0, none⟩), .slice A1 l1.length c1] ?_; refine (Ad4.calls k _ [(⟨a0⟩ : S36)] _ _ l1 b0 _ (Ao2 (bq a1.out) (cq (Kd.C_below a8.out HB.out)) (by exact a9.out)) (cq (Kd.C_below d0.out HB.out)) d1.out A9.out).mono ?_; rintro e d2 ⟨rfl, hb⟩; refine ⟨_, rfl, ?_⟩; replace a1 := bb a1 hb; replace HB := sb HB hb; clear hb))
  go_ret
  exact ⟨er, hs HB.out⟩
 ·rw [if_neg c8] at H
  obtain ⟨a3, b5⟩ := bqf c8
  (first | rw [a3] | (simp only [Ae6, Ae7]; rw [a3]) | skip)
  obtain rfl := Option.some.inj H
  go_wp2
  go_ret
  exact ⟨er, hs HB.out⟩
def Aq7.f (l0 : List Int) (a1 : Int) : Option (Bool) := (Am0.f a1 0 (wrap64 ((l0.length : Int) - 1))).bind fun a0 => (some a0)
theorem Aq7.calls (A0 : Option Addr) (c0 : Nat) (l0 : List Int) (a1 : Int) (r : Bool) (w : World) (a2 : Kd.C (Kd.int .i64) w A0 l0.length l0) (a3 : l0.length ≤ c0) (h : Aq7.f l0 a1 = some r) :
  Calls Tryz.prog 94 #[.slice A0 l0.length c0, .int .i64 a1] w fun e w' => e = .returned (.bool r) ∧ Drawn0 w w' := by
 have a4 := am a2
 have a5 := am a3
 clear a2 a3
 have H : ((Am0.f a1 0 (wrap64 ((l0.length : Int) - 1))).bind fun a0 => (some a0)) = some r := h
 clear h
 obtain ⟨a0, A3, H⟩ := ob H
 try dsimp only at H
 obtain rfl := Option.some.inj H
 go_enter Tryz.func94, Tryz.ntmps94
 go_wp2_with (first | (refine gl (some 9) Tryz.func77 rfl #[.int .i64 a1, .int .i64 0, .int .i64 (wrap64 ((l0.length : Int) - 1))] ?_; (with_reducible refine (Am0.calls a1 0 (wrap64 ((l0.length : Int) - 1)) a0 _ A3.out).mono ?_); rintro e w' ⟨rfl, ⟨nd, rfl⟩⟩; refine ⟨_, rfl, ?_⟩))
 go_ret
 exact ⟨et, dn⟩
def Aq0.f (k : Nat) (l0 : List (S36)) (l1 : List Int) (a2 : Int) (l3 : List Int) : Option (List Int) := if 0 ≤ a2 then (if a2 ≤ (l1.length : Int) then ((Ar9.f (l1.take (a2 : Int).toNat)).bind fun a1 => (if a1.length + l3.length < 17592186044416 then ((some (a1 ++ l3 : List Int)).bind fun a3 => ((Ae9.f k l0 l1 a2).bind fun a0 => (if 0 ≤ a0 then (if a0 ≤ (l1.length : Int) then (if a3.length + (l1.drop (a0 : Int).toNat).length < 17592186044416 then (some (a3 ++ (l1.drop (a0 : Int).toNat))) else (none)) else (none)) else (none)))) else (none))) else (none)) else (none)
theorem Aq0.calls (k : Nat) (A0 : Option Addr) (l0 : List (S36)) (A1 : Option Addr) (c1 : Nat) (l1 : List Int) (a2 : Int) (A3 : Option Addr) (c3 : Nat) (l3 : List Int) (r : List Int) (w : World) (d8 : Kd.C k36 w A0 l0.length l0) (d9 : Kd.C (Kd.int .i64) w A1 l1.length l1) (e0 : l1.length ≤ c1) (e1 : Kd.C (Kd.int .i64) w A3 l3.length l3) (e2 : l3.length ≤ c3) (h : Aq0.f k l0 l1 a2 l3 = some r) :
  Calls Tryz.prog 95 #[.pointer A0, .slice A1 l1.length c1, .int .i64 a2, .slice A3 l3.length c3] w fun e w' => ∃ e3 : Value, e = .returned (e3) ∧ Kd.R (Kd.int .i64) 2 w' w.heap.size (fun _ => True) e3 r ∧ Below w.heap.size w w' := by
 have g1 := am d8
 clear d8
 have d2 := am d9
 have d3 := am e0
 clear d9 e0
 have g2 := am e1
 have h2 := am e2
 clear e1 e2
 have HB := am (Below.refl w.heap.size w)
 have H : (if 0 ≤ a2 then (if a2 ≤ (l1.length : Int) then ((Ar9.f (l1.take (a2 : Int).toNat)).bind fun a6 => (if a6.length + l3.length < 17592186044416 then ((some (a6 ++ l3 : List Int)).bind fun a1 => ((Ae9.f k l0 l1 a2).bind fun a0 => (if 0 ≤ a0 then (if a0 ≤ (l1.length : Int) then (if a1.length + (l1.drop (a0 : Int).toNat).length < 17592186044416 then (some (a1 ++ (l1.drop (a0 : Int).toNat))) else (none)) else (none)) else (none)))) else (none))) else (none)) else (none)) = some r := h
 clear h
 obtain ⟨g3, g4, H⟩ := ifd H
 obtain ⟨g5, g6, H⟩ := ifd H
 obtain ⟨a6, A7, H⟩ := ob H
 try dsimp only at H
 obtain ⟨c8, H⟩ := ifs H
 have d4 := am c8
 clear c8
 obtain ⟨a1, a3⟩ : ∃ y_ : List Int, y_ = (a6 ++ l3) := ⟨_, rfl⟩
 replace H : ((Ae9.f k l0 l1 a2).bind fun a0 => (if 0 ≤ a0 then (if a0 ≤ (l1.length : Int) then (if a1.length + (l1.drop (a0 : Int).toNat).length < 17592186044416 then (some (a1 ++ (l1.drop (a0 : Int).toNat))) else (none)) else (none)) else (none))) = some r := by first | (rw [a3]; first | with_reducible exact H | with_reducible exact bs H) | with_reducible exact bs H | with_reducible exact H | (rw [a3]; exact H) | exact H
 have b3 := am a3
 clear a3
 obtain ⟨a0, A9, H⟩ := ob H
 try dsimp only at H
 obtain ⟨e4, e5, H⟩ := ifd H
 obtain ⟨e6, e7, H⟩ := ifd H
 obtain ⟨e8, H⟩ := ifs H
 have b4 := am e8
 clear e8
 obtain ⟨d5, a4⟩ : ∃ y_ : List Int, y_ = (a1 ++ (l1.drop (a0 : Int).toNat)) := ⟨_, rfl⟩
 replace H : (some d5) = some r := by first | (rw [a4]; first | with_reducible exact H | with_reducible exact bs H) | with_reducible exact bs H | with_reducible exact H | (rw [a4]; exact H) | exact H
 have b5 := am a4
 clear a4
 obtain rfl := Option.some.inj H
 obtain ⟨g7, a7, _, a8, _⟩ := info_parts Au1
 obtain ⟨hcut13, b6, b7⟩ := print_take_of (P := Tryz.prog) (Value.int .i64) 0 25 2 .i64 Tryz.underlying25 a7 a8 A1 c1 l1 a2 od od d3.out
 have b8 := am (Kd.C_of_reads (h1 := fun _ => rfl) (b6 _ (Kd.reads_of_C d2.out)))
 have b9 := am b7
 clear b6 b7 a7 a8
 go_enter Tryz.func95, Tryz.ntmps95
 go_wp2_with (first | ((with_reducible refine Ax5 (f := 32) rfl ?_); refine Bh5 (some 13) rfl rfl Tryz.func32 (by kernel_rfl) rfl #[.slice A1 (l1.take (a2 : Int).toNat).length c1] rfl (by (try simp only [List.map_toArray, List.map_cons, List.map_nil]); first | done | (rw [show (l1.take (a2 : Int).toNat).length = a2.toNat from (by rw [List.length_take]; have h_ : (a2 : Int) ≤ (l1.length : Int) := od; omega)] <;> rfl) | rfl | (simp only [List.length_drop, List.length_take]; rfl)) ?_; refine (Ar9.calls _ _ (l1.take (a2 : Int).toNat) a6 _ (cq b8.out) b9.out A7.out).mono ?_; rintro e h3 ⟨d6, rfl, e9, hb⟩; refine ⟨_, rfl, ?_⟩; have a9 := am (Kd.R_lower e9 (Ac5 (hq HB.out))); replace HB := sb HB hb; clear hb e9) | ((with_reducible refine Ah1 (b := .append) (xs := #[.tmp 14, .tmp 15]) rfl ?_); at_builtin; refine Kd.R_append_rows (Kd.int .i64) (w0 := w) w.heap.size rfl (.tmp 14) (.tmp 15) 25 2 (.int .i64 0) 8 rfl Tryz.underlying25 Au1 rfl (by decide) (by omega) d6 a6 l3 _ _ _ (fun _ => True) (fun _ => False) rfl rfl ?aO ?aR (fun _ _ h => h) (fun _ h => h.elim) ?aF ?aB ?aS ?aL ?_; (case aR => exact cq (Kd.C_below g2.out HB.out)); (case aB => exact (hq HB.out)); (case aF => exact (fun _ _ => trivial)); (case aO => exact (rq a9.out)); (case aS => exact (Ac5 (hq HB.out))); (case aL => have := d4.out; omega); intro d7 h4 ho hb hg hat; rw [← b3.out] at ho; replace HB := am (hb); have a5 := am (ho); clear a9; clear ho hb hg hat) | (refine gl (some 22) Tryz.func48 rfl #[.pointer A0, .slice A1 l1.length c1, .int .i64 a2] ?_; refine (Ae9.calls k _ l0 _ _ l1 a2 a0 _ (cq (Kd.C_below g1.out HB.out)) (cq (Kd.C_below d2.out HB.out)) d3.out A9.out).mono ?_; rintro e h5 ⟨rfl, hb⟩; refine ⟨_, rfl, ?_⟩; replace a5 := rb a5 hb; replace HB := sb HB hb; (try clear hb); obtain ⟨g8, b0, _, b1, _⟩ := info_parts Au1; obtain ⟨h6, hcut17, c0, d0⟩ := print_drop_of (P := Tryz.prog) (Value.int .i64) 0 25 2 .i64 Tryz.underlying25 b0 b1 A1 c1 l1 a0 od od d3.out; have b2 := am (Kd.C_of_reads (h1 := fun _ => rfl) (c0 _ (Kd.reads_of_C d2.out))); have g0 := am d0; clear c0 d0 b0 b1) | ((with_reducible refine Ah1 (b := .append) (xs := #[.tmp 17, .tmp 23]) rfl ?_); at_builtin; refine Kd.R_append_rows (Kd.int .i64) (w0 := w) w.heap.size rfl (.tmp 17) (.tmp 23) 25 2 (.int .i64 0) 8 rfl Tryz.underlying25 Au1 rfl (by decide) (by omega) d7 a1 (l1.drop (a0 : Int).toNat) _ _ _ (fun _ => True) (fun _ => False) rfl rfl ?aO ?aR (fun _ _ h => h) (fun _ h => h.elim) ?aF ?aB ?aS ?aL ?_; (case aR => first | (rw [← show (l1.drop (a0 : Int).toNat).length = (l1.length - a0.toNat) from List.length_drop]; exact cq (Kd.C_below b2.out HB.out)) | (exact cq (Kd.C_below b2.out HB.out))); (case aB => exact (hq HB.out)); (case aF => exact (fun _ _ => trivial)); (case aO => exact (rq a5.out)); (case aS => exact (Ac5 (hq HB.out))); (case aL => have := b4.out; have g9 := (show (l1.drop (a0 : Int).toNat).length = (l1.length - a0.toNat) from List.length_drop); omega); intro h0 h7 ho hb hg hat; rw [← b5.out] at ho; replace HB := am (hb); have d1 := am (ho); clear a5; clear ho hb hg hat))
 go_ret
 exact ⟨_, er, rq d1.out, hq HB.out⟩
def Ai5.f (k : Nat) (a0 : List (S79)) (l1 : List Int) (a2 : Int) (l3 : List Int) : Option (Int × List Int) := (Ao0.f k a0 l1).bind fun a1 => (if a1 = 0 then ((Aq7.f l1 a2).bind fun a5 => (if a5 = true then ((Ad4.f k [(⟨a0⟩ : S36)] l3).bind fun a3 => (if a3 = 0 then ((Aq0.f k [(⟨a0⟩ : S36)] l1 a2 l3).bind fun a4 => (if (a4.length : Int) > 24 then (some (2, ([] : List Int))) else (some (0, a4)))) else (some (a3, ([] : List Int))))) else (some (3, ([] : List Int))))) else (some (a1, ([] : List Int))))
theorem Ai5.calls (k : Nat) (b5 : Option Addr) (b6 : Nat) (a4 : List (S79)) (A1 : Option Addr) (c1 : Nat) (l1 : List Int) (a2 : Int) (A3 : Option Addr) (c3 : Nat) (l3 : List Int) (r1 : Int) (r2 : List Int) (w : World) (b8 : Kd.C k79 w b5 a4.length a4) (b9 : a4.length ≤ b6) (i0 : Kd.C (Kd.int .i64) w A1 l1.length l1) (i1 : l1.length ≤ c1) (i2 : Kd.C (Kd.int .i64) w A3 l3.length l3) (i3 : l3.length ≤ c3) (h : Ai5.f k a4 l1 a2 l3 = some (r1, r2)) :
  Calls Tryz.prog 74 #[.agg #[.slice b5 a4.length b6], .slice A1 l1.length c1, .int .i64 a2, .slice A3 l3.length c3] w fun e w' => ∃ i4 : Value, e = .returned (.agg #[.int .i64 r1, i4]) ∧ Kd.R (Kd.int .i64) 2 w' w.heap.size (fun _ => True) i4 r2 ∧ Below w.heap.size w w' := by
 have k7 := Tryz.underlying36
 have k8 := Tryz.underlying98
 have b3 := am b8
 have b4 := am b9
 clear b8 b9
 have h8 := am i0
 have h9 := am i1
 clear i0 i1
 have i5 := am i2
 have i6 := am i3
 clear i2 i3
 have HB := am (Below.refl w.heap.size w)
 have H : ((Ao0.f k a4 l1).bind fun b0 => (if b0 = 0 then ((Aq7.f l1 a2).bind fun b7 => (if b7 = true then ((Ad4.f k [(⟨a4⟩ : S36)] l3).bind fun b1 => (if b1 = 0 then ((Aq0.f k [(⟨a4⟩ : S36)] l1 a2 l3).bind fun a6 => (if (a6.length : Int) > 24 then (some (2, ([] : List Int))) else (some (0, a6)))) else (some (b1, ([] : List Int))))) else (some (3, ([] : List Int))))) else (some (b0, ([] : List Int))))) = some (r1, r2) := h
 clear h
 obtain ⟨b0, A5, H⟩ := ob H
 try dsimp only at H
 have i7 := am H
 clear H
 go_enter Tryz.func74, Tryz.ntmps74
 go_upto_if 16 with (first | (refine bx 4 rfl #[.slice b5 a4.length b6] 36 ?_; intro c0 hg w7 hbox hb; have a1 := am (hbox); have d2 := am (bz hg (hq HB.out)); replace HB := sb HB hb; have i9 := d2; clear hb hbox hg) | (refine bx 8 rfl #[.int .i64 0, .slice none 0 0] 98 ?_; intro a5 hg w8 hbox hb; have a0 := am (hbox); have d3 := am (bz hg (hs HB.out)); replace HB := sb HB hb; have j5 := d3; have b2 := nl hg a1; have a3 := ng hg a1; replace a1 := bb a1 hb; clear hb hbox hg; obtain ⟨k9, l4⟩ := nn b2; have e4 := c0_ a1; have e5 := Aa2 a1.out 0) | (refine gl (some 14) Tryz.func93 rfl #[.agg #[.slice b5 a4.length b6], .slice A1 l1.length c1] ?_; refine (Ao0.calls k _ _ a4 _ _ l1 b0 _ (cq (Kd.C_below b3.out HB.out)) b4.out (cq (Kd.C_below h8.out HB.out)) h9.out A5.out).mono ?_; rintro e l9 ⟨rfl, hb⟩; refine ⟨_, rfl, ?_⟩; replace a1 := bb a1 hb; replace a0 := bb a0 hb; replace HB := sb HB hb; clear hb; (try clear hk)))
 have H := i7.out
 clear i7
 by_cases d4 : b0 = 0
 ·rw [if_pos d4] at H
  obtain ⟨a7, d5⟩ := bqt d4; clear d4
  (first | rw [a7] | (simp only [Ae6, Ae7]; rw [a7]) | skip)
  obtain ⟨b7, l5, H⟩ := ob H
  try dsimp only at H
  have d6 := am H
  clear H
  go_upto_if 22 with (first | (refine gl (some 21) Tryz.func94 rfl #[.slice A1 l1.length c1, .int .i64 a2] ?_; refine (Aq7.calls _ _ l1 a2 b7 _ (cq (Kd.C_below h8.out HB.out)) h9.out l5.out).mono ?_; rintro e w' ⟨rfl, ⟨nd, rfl⟩⟩; refine ⟨_, rfl, ?_⟩))
  have H := d6.out
  clear d6
  by_cases e6 : b7 = true
  ·subst e6
   rw [if_pos rfl] at H
   obtain ⟨b1, l6, H⟩ := ob H
   try dsimp only at H
   have d7 := am H
   clear H
   go_upto_if 27 with (first | (refine gl (some 25) Tryz.func29 rfl #[.pointer (some ⟨c0, 0, none⟩), .slice A3 l3.length c3] ?_; refine (Ad4.calls k _ [(⟨a4⟩ : S36)] _ _ l3 b1 _ (Ao2 (bq a1.out) (cq (Kd.C_below b3.out HB.out)) (by exact b4.out)) (cq (Kd.C_below i5.out HB.out)) i6.out l6.out).mono ?_; rintro e m0 ⟨rfl, hb⟩; refine ⟨_, rfl, ?_⟩; replace a1 := bb a1 hb; replace a0 := bb a0 hb; replace HB := sb HB hb; clear hb; (try clear hk)))
   have H := d7.out
   clear d7
   by_cases d8 : b1 = 0
   ·rw [if_pos d8] at H
    obtain ⟨a8, d9⟩ := bqt d8; clear d8
    (first | rw [a8] | (simp only [Ae6, Ae7]; rw [a8]) | skip)
    obtain ⟨a6, l7, H⟩ := ob H
    try dsimp only at H
    have e0 := am H
    clear H
    go_upto_if 36 with (first | (refine gl (some 33) Tryz.func95 rfl #[.pointer (some ⟨c0, 0, none⟩), .slice A1 l1.length c1, .int .i64 a2, .slice A3 l3.length c3] ?_; refine (Aq0.calls k _ [(⟨a4⟩ : S36)] _ _ l1 a2 _ _ l3 a6 _ (Ao2 (bq a1.out) (cq (Kd.C_below b3.out HB.out)) (by exact b4.out)) (cq (Kd.C_below h8.out HB.out)) h9.out (cq (Kd.C_below i5.out HB.out)) i6.out l7.out).mono ?_; rintro e m1 ⟨l8, rfl, j6, hb⟩; refine ⟨_, rfl, ?_⟩; have d0 := am (Kd.R_lower j6 (Ac5 (hs HB.out))); replace a1 := bb a1 hb; replace a0 := bb a0 hb; replace HB := sb HB hb; (try clear hb); (try clear hk); (try clear j6); obtain ⟨e1, e2, rfl⟩ := Kd.R_slice d0.out))
    have H := e0.out
    clear e0
    by_cases d1 : (a6.length : Int) > 24
    ·rw [if_pos d1] at H
     have a9 := decide_eq_true d1
     have e3 : decide (24 < a6.length) = true := decide_eq_true (by omega)
     clear d1
     (first | rw [a9] | (simp only [Ae6, Ae7]; rw [a9]) | skip)
     simp only [Option.some.injEq, Prod.mk.injEq] at H
     obtain ⟨rfl, rfl⟩ := H
     obtain ⟨j7, j8⟩ := nn a3
     have e7 := c0_ a0
     have e8 := c1_ a0
     have e9 := Aa2 a0.out 0
     have g0 := Aa2 a0.out 1
     go_wp2
     refine bodyPost_ret (results_cell_row rfl _ _ a5 98 #[.int .i64 2, .slice none 0 0] (0, 0) _ rfl (by refine bq ?_; refine Ac7 (cs := #[.int .i64 2, .slice none 0 0]) ?_ 1 _ rfl; refine bq ?_; refine Ac7 (cs := #[.int .i64 0, .slice none 0 0]) ?_ 0 _ rfl; refine bq ?_; exact a0.out) Tryz.underlying98 rfl (by kernel_rfl)) rfl ?_
     exact ⟨_, er, by first | exact Kd.R_nil _ _ _ _ _ | exact Kd.N_nil _ _ _ _ _ | exact Kd.V_nil _ _ _ _ _ | exact Kd.Q_nil _ _ _ _ _ | exact Kd.S_nil _ _ _ _ _, hs HB.out⟩
    ·rw [if_neg d1] at H
     have a9 := decide_eq_false d1
     have e3 : decide (24 < a6.length) = false := decide_eq_false (by omega)
     clear d1
     (first | rw [a9] | (simp only [Ae6, Ae7]; rw [a9]) | skip)
     simp only [Option.some.injEq, Prod.mk.injEq] at H
     obtain ⟨rfl, rfl⟩ := H
     obtain ⟨j9, k0⟩ := nn a3
     have g1 := c0_ a0
     have g2 := c1_ a0
     have g3 := Aa2 a0.out 0
     have g4 := Aa2 a0.out 1
     go_wp2
     refine bodyPost_ret (results_cell_row rfl _ _ a5 98 #[.int .i64 0, .slice e1 a6.length e2] (0, 0) _ rfl (by refine bq ?_; refine Ac7 (cs := #[.int .i64 0, .slice none 0 0]) ?_ 1 _ rfl; refine bq ?_; refine Ac7 (cs := #[.int .i64 0, .slice none 0 0]) ?_ 0 _ rfl; refine bq ?_; exact a0.out) Tryz.underlying98 rfl (by kernel_rfl)) rfl ?_
     exact ⟨_, er, rq (Kd.R_mono (Kd.R_far (p := ⟨a5, 1, none⟩) (Kd.R_far (p := ⟨a5, 0, none⟩) (Kd.R_types d0.out a0.out (by decide)) (fun _ hk => hk.2) (.int .i64 0)) (fun _ hk => hk.2) (.slice e1 a6.length e2)) (fun _ hk => trivial)), hs HB.out⟩
   ·rw [if_neg d8] at H
    obtain ⟨a8, d9⟩ := bqf d8
    (first | rw [a8] | (simp only [Ae6, Ae7]; rw [a8]) | skip)
    simp only [Option.some.injEq, Prod.mk.injEq] at H
    obtain ⟨rfl, rfl⟩ := H
    obtain ⟨k1, k2⟩ := nn a3
    have g5 := c0_ a0
    have g6 := c1_ a0
    have g7 := Aa2 a0.out 0
    have g8 := Aa2 a0.out 1
    go_wp2
    refine bodyPost_ret (results_cell_row rfl _ _ a5 98 #[.int .i64 b1, .slice none 0 0] (0, 0) _ rfl (by refine bq ?_; refine Ac7 (cs := #[.int .i64 b1, .slice none 0 0]) ?_ 1 _ rfl; refine bq ?_; refine Ac7 (cs := #[.int .i64 0, .slice none 0 0]) ?_ 0 _ rfl; refine bq ?_; exact a0.out) Tryz.underlying98 rfl (by kernel_rfl)) rfl ?_
    exact ⟨_, er, by first | exact Kd.R_nil _ _ _ _ _ | exact Kd.N_nil _ _ _ _ _ | exact Kd.V_nil _ _ _ _ _ | exact Kd.Q_nil _ _ _ _ _ | exact Kd.S_nil _ _ _ _ _, hs HB.out⟩
  ·replace e6 := Bool.eq_false_iff.mpr e6
   subst e6
   rw [if_neg (show ¬ (false = true) by decide)] at H
   simp only [Option.some.injEq, Prod.mk.injEq] at H
   obtain ⟨rfl, rfl⟩ := H
   obtain ⟨k3, k4⟩ := nn a3
   have g9 := c0_ a0
   have h0 := c1_ a0
   have h2 := Aa2 a0.out 0
   have h3 := Aa2 a0.out 1
   go_wp2
   refine bodyPost_ret (results_cell_row rfl _ _ a5 98 #[.int .i64 3, .slice none 0 0] (0, 0) _ rfl (by refine bq ?_; refine Ac7 (cs := #[.int .i64 3, .slice none 0 0]) ?_ 1 _ rfl; refine bq ?_; refine Ac7 (cs := #[.int .i64 0, .slice none 0 0]) ?_ 0 _ rfl; refine bq ?_; exact a0.out) Tryz.underlying98 rfl (by kernel_rfl)) rfl ?_
   exact ⟨_, er, by first | exact Kd.R_nil _ _ _ _ _ | exact Kd.N_nil _ _ _ _ _ | exact Kd.V_nil _ _ _ _ _ | exact Kd.Q_nil _ _ _ _ _ | exact Kd.S_nil _ _ _ _ _, hs HB.out⟩
 ·rw [if_neg d4] at H
  obtain ⟨a7, d5⟩ := bqf d4
  (first | rw [a7] | (simp only [Ae6, Ae7]; rw [a7]) | skip)
  simp only [Option.some.injEq, Prod.mk.injEq] at H
  obtain ⟨rfl, rfl⟩ := H
  obtain ⟨k5, k6⟩ := nn a3
  have h4 := c0_ a0
  have h5 := c1_ a0
  have h6 := Aa2 a0.out 0
  have h7 := Aa2 a0.out 1
  go_wp2
  refine bodyPost_ret (results_cell_row rfl _ _ a5 98 #[.int .i64 b0, .slice none 0 0] (0, 0) _ rfl (by refine bq ?_; refine Ac7 (cs := #[.int .i64 b0, .slice none 0 0]) ?_ 1 _ rfl; refine bq ?_; refine Ac7 (cs := #[.int .i64 0, .slice none 0 0]) ?_ 0 _ rfl; refine bq ?_; exact a0.out) Tryz.underlying98 rfl (by kernel_rfl)) rfl ?_
  exact ⟨_, er, by first | exact Kd.R_nil _ _ _ _ _ | exact Kd.N_nil _ _ _ _ _ | exact Kd.V_nil _ _ _ _ _ | exact Kd.Q_nil _ _ _ _ _ | exact Kd.S_nil _ _ _ _ _, hs HB.out⟩
end Go.Proofs.YtgichahebemmiaaGreatDoor.P
