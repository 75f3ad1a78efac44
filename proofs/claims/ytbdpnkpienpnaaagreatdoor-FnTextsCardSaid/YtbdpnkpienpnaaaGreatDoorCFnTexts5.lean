/- A part of the proof of the law FnTexts. -/
import Derived.Test.YtbdpnkpienpnaaaGreatDoorCFnTexts4
set_option maxHeartbeats 8000000
set_option maxRecDepth 100000
namespace Go.Proofs.YtbdpnkpienpnaaaGreatDoor.P
open Go.RowKit Go.Proofs.YtbdpnkpienpnaaaGreatDoorW.PrintWords Go.Proofs.YtbdpnkpienpnaaaGreatDoorW.PrintLast Go.Proofs.YtbdpnkpienpnaaaGreatDoorW.PrintMore
attribute [local go_sem] max2_int min2_int max_two min_two max_three min_three max_four min_four   -- for this text's walks alone
set_option linter.unusedVariables false
set_option linter.unusedSimpArgs false
mutual
def spec_l2Bent.l0 : Nat → Int → Int → List Int → Int → List (S90) → Option ((List (S90)) × Int)
 | 0, _, _, _, _, _ => none
 | k + 1, x4, x5, a2, a1, a0 => if x5 < x4 then (if 0 ≤ x5 then (if x5 < (a0.length : Int) then (spec_l2Bent.l0 k x4 (wrap64 (x5 + 1)) a2 a1 (a0.set (x5 : Int).toNat (⟨(rd_T90 a0 x5).f0, 1⟩ : S90))) else (none)) else (none)) else (some (a0, a1))
def spec_l2Bent.l1 : Nat → List Int → Int → List (S90) → Option ((List (S90)) × Int)
 | 0, _, _, _ => none
 | k + 1, a2, a1, a0 => if (a0.length : Int) < 7 then (if a0.length < 5864062014805 then (spec_l2Bent.l1 k a2 a1 (a0 ++ [(⟨(⟨#[122]⟩ : ByteArray), 0⟩ : S90)])) else (none)) else (some (a0, a1))
end
def spec_l2Bent.f (k : Nat) (a4 : List Int) (a7 : Int) : Option ((List (S90)) × Int) := (spec_l2Sig.f k a4 a7).bind fun a0 => ((spec_l1Chance.f a4 a0.2 9).bind fun a5 => (if a5.1 = true then ((spec_l1Next.f a4 a5.2 7).bind fun a1 => (if a1.1 = 0 then (some (([] : List (S90)), a1.2)) else (if a1.1 = 1 then (if 0 ≤ (wrap64 ((a0.1.length : Int) - 1)) then (if (wrap64 ((a0.1.length : Int) - 1)) < (a0.1.length : Int) then (some ((a0.1.set ((wrap64 ((a0.1.length : Int) - 1)) : Int).toNat (⟨(⟨#[97, 98, 99, 100]⟩ : ByteArray), (rd_T90 a0.1 (wrap64 ((a0.1.length : Int) - 1))).f1⟩ : S90)), a1.2)) else (none)) else (none)) else (if a1.1 = 2 then ((spec_l1Next.f a4 a1.2 (a0.1.length : Int)).bind fun a2 => (if 0 ≤ a2.1 then (if a2.1 < (a0.1.length : Int) then (some ((a0.1.set (a2.1 : Int).toNat (⟨(⟨#[97, 66]⟩ : ByteArray), (rd_T90 a0.1 a2.1).f1⟩ : S90)), a2.2)) else (none)) else (none))) else (if a1.1 = 3 then ((spec_l1Next.f a4 a1.2 (a0.1.length : Int)).bind fun a3 => ((spec_l1Pick.f a4 a3.2 (([3, (-1)] : List Int))).bind fun a6 => (if 0 ≤ a3.1 then (if a3.1 < (a0.1.length : Int) then (some ((a0.1.set (a3.1 : Int).toNat (⟨(rd_T90 a0.1 a3.1).f0, a6.1⟩ : S90)), a6.2)) else (none)) else (none)))) else (if a1.1 = 4 then (if 0 < (a0.1.length : Int) then (if a0.1.length < 5864062014805 then (some ((a0.1 ++ [(⟨(rd_T90 a0.1 0).f0, (rd_T90 a0.1 0).f1⟩ : S90)]), a1.2)) else (none)) else (none)) else (if a1.1 = 5 then (spec_l2Bent.l0 k (a0.1.length : Int) 0 a4 a1.2 a0.1) else (spec_l2Bent.l1 k a4 a1.2 a0.1)))))))) else (some (a0.1, a5.2))))
def spec_l2Bent.T13 : Bool × List (List Nat × List Nat) := (true, [([], []), ([0], [0]), ([], []), ([], []), ([2, 3], [2, 3]), ([1, 4, 0, 1, 2, 3, 4], [1, 4]), ([5, 0, 1, 2, 3, 4], [5]), ([6, 4, 0, 1, 2, 3, 4], [6])])
def spec_l2Bent.B13 : List Nat := [0, 1, 0, 0, 12, 31, 63, 127]
theorem spec_l2Bent.tab13 : rtab .any (opsOf Tryz.f24 13) = spec_l2Bent.T13 := by kernel_rfl
theorem spec_l2Bent.bits13 : waitsOk spec_l2Bent.T13.2 spec_l2Bent.B13 = true := by kernel_rfl
def spec_l2Bent.T15 : Bool × List (List Nat × List Nat) := (true, [([], []), ([0], [0]), ([], []), ([], []), ([2, 3], [2, 3]), ([], []), ([], []), ([5, 6, 4], [5, 6]), ([1, 4, 0, 1, 2, 3, 4, 5, 6, 7], [1, 4]), ([8, 0, 1, 2, 3, 4, 5, 6, 7], [8]), ([9, 7, 7, 0, 1, 2, 3, 4, 5, 6, 7], [7, 9])])
def spec_l2Bent.B15 : List Nat := [0, 1, 0, 0, 12, 0, 0, 124, 255, 511, 1023]
theorem spec_l2Bent.tab15 : rtab .any (opsOf Tryz.f24 15) = spec_l2Bent.T15 := by kernel_rfl
theorem spec_l2Bent.bits15 : waitsOk spec_l2Bent.T15.2 spec_l2Bent.B15 = true := by kernel_rfl
def spec_l2Bent.T17 : Bool × List (List Nat × List Nat) := (true, [([], []), ([0], [0]), ([], []), ([2], [2]), ([3], [3]), ([4], [4]), ([5], [5]), ([1, 6], [1, 6]), ([0, 1, 2, 3, 4, 5, 6, 7], []), ([8, 7, 7, 0, 1, 2, 3, 4, 5, 6, 7], [7, 8])])
def spec_l2Bent.B17 : List Nat := [0, 1, 0, 4, 12, 28, 60, 127, 255, 511]
theorem spec_l2Bent.tab17 : rtab .any (opsOf Tryz.f24 17) = spec_l2Bent.T17 := by kernel_rfl
theorem spec_l2Bent.bits17 : waitsOk spec_l2Bent.T17.2 spec_l2Bent.B17 = true := by kernel_rfl
theorem spec_l2Bent.calls (k : Nat) (g : Nat) (b2 : List Int) (i6 : Int) (r1 : List (S90)) (r2 : Int) (w0 w : World) (hI : IsS86 w0 w g b2 i6) (hB : Below w0.heap.size w0 w) (h : spec_l2Bent.f k b2 i6 = some (r1, r2)) :
  Calls Tryz.prog 24 #[.pointer (some ⟨g, 0, none⟩)] w fun e w' => ∃ O5 : Value, e = .returned (.agg #[O5]) ∧ Kd.R k90 90 w' w.heap.size (fun _ => True) O5 r1 ∧ IsS86 w0 w' g b2 r2 ∧ Below w0.heap.size w0 w' ∧ KeepBut w w' g none := by
 have R0 := Tryz.underlying26
 have R1 := Tryz.underlying90
 have a5 := am hI
 have HK := am (KeepBut.refl w g none)
 have HL := am hB.size
 clear hI
 have I3 := am hB.size
 have HB := am hB
 clear hB
 have H : ((spec_l2Sig.f k b2 i6).bind fun a9 => ((spec_l1Chance.f b2 a9.2 9).bind fun g6 => (if g6.1 = true then ((spec_l1Next.f b2 g6.2 7).bind fun b8 => (if b8.1 = 0 then (some (([] : List (S90)), b8.2)) else (if b8.1 = 1 then (if 0 ≤ (wrap64 ((a9.1.length : Int) - 1)) then (if (wrap64 ((a9.1.length : Int) - 1)) < (a9.1.length : Int) then (some ((a9.1.set ((wrap64 ((a9.1.length : Int) - 1)) : Int).toNat (⟨(⟨#[97, 98, 99, 100]⟩ : ByteArray), (rd_T90 a9.1 (wrap64 ((a9.1.length : Int) - 1))).f1⟩ : S90)), b8.2)) else (none)) else (none)) else (if b8.1 = 2 then ((spec_l1Next.f b2 b8.2 (a9.1.length : Int)).bind fun e0 => (if 0 ≤ e0.1 then (if e0.1 < (a9.1.length : Int) then (some ((a9.1.set (e0.1 : Int).toNat (⟨(⟨#[97, 66]⟩ : ByteArray), (rd_T90 a9.1 e0.1).f1⟩ : S90)), e0.2)) else (none)) else (none))) else (if b8.1 = 3 then ((spec_l1Next.f b2 b8.2 (a9.1.length : Int)).bind fun e1 => ((spec_l1Pick.f b2 e1.2 (([3, (-1)] : List Int))).bind fun e2 => (if 0 ≤ e1.1 then (if e1.1 < (a9.1.length : Int) then (some ((a9.1.set (e1.1 : Int).toNat (⟨(rd_T90 a9.1 e1.1).f0, e2.1⟩ : S90)), e2.2)) else (none)) else (none)))) else (if b8.1 = 4 then (if 0 < (a9.1.length : Int) then (if a9.1.length < 5864062014805 then (some ((a9.1 ++ [(⟨(rd_T90 a9.1 0).f0, (rd_T90 a9.1 0).f1⟩ : S90)]), b8.2)) else (none)) else (none)) else (if b8.1 = 5 then (spec_l2Bent.l0 k (a9.1.length : Int) 0 b2 b8.2 a9.1) else (spec_l2Bent.l1 k b2 b8.2 a9.1)))))))) else (some (a9.1, g6.2))))) = some (r1, r2) := h
 clear h
 obtain ⟨⟨a4, j7⟩, A2, H⟩ := ob H
 try dsimp only at H
 obtain ⟨⟨x6, x7⟩, A3, H⟩ := ob H
 try dsimp only at H
 have I2 := am H
 clear H
 go_enter Tryz.func24, Tryz.ntmps24
 go_upto_if 13 with (first | (refine bx 2 rfl #[.slice none 0 0] 26 ?_; intro b0 hg w5 hbox hb; replace HB := am (below_step (hsk HB.out (IsS86.ge a5.out)) hb); have a1 := am (hbox); have p7 := am ((by rw [hg]; exact (keep_size (w := w) (g := g) (row := none) (kq HK.out)) : w.heap.size ≤ b0)); replace HK := ku HK hb; have k5 := am (Nat.le_trans I3.out p7.out); have j5 := am ((by rw [hg]; exact Nat.ne_of_lt (IsS86.lt (show IsS86 w0 _ g b2 i6 from IsS86.q a5.out)) : g ≠ b0)); replace a5 := IsS86.bl a5 hb; have a8 := am j5.out.symm; clear hb hbox hg) | (refine gl (some 7) Tryz.func54 rfl #[.pointer (some ⟨g, 0, none⟩)] ?_; refine (spec_l2Sig.calls k g b2 i6 a4 j7 w0 _ (IsS86.q a5.out) (hsk HB.out (IsS86.ge a5.out)) A2.out).mono ?_; rintro e w6 ⟨R2, rfl, O3, hi, hb, hk⟩; refine ⟨_, rfl, ?_⟩; replace a1 := kb hk a1 a8; have a2 := am (Kd.R_lower O3 (keep_size (w := w) (g := g) (row := none) (ks HK.out))); replace HK := kt HK hk; replace HB := am (hb); replace a5 := am (hi); clear hb hk hi O3) | (refine bx 3 rfl #[.slice none 0 0] 26 ?_; intro b4 hg w7 hbox hb; replace a2 := rb a2 hb; replace HB := am (below_step (hsk HB.out (IsS86.ge a5.out)) hb); have a0 := am (hbox); have p8 := am ((by rw [hg]; exact (keep_size (w := w) (g := g) (row := none) (ks HK.out)) : w.heap.size ≤ b4)); replace HK := ku HK hb; have k6 := am (Nat.le_trans I3.out p8.out); have d2 := nl hg a1; have a7 := ng hg a1; replace a1 := bb a1 hb; have j6 := am ((by rw [hg]; exact Nat.ne_of_lt (IsS86.lt (show IsS86 w0 _ g b2 j7 from IsS86.q a5.out)) : g ≠ b4)); replace a5 := IsS86.bl a5 hb; have a6 := am j6.out.symm; clear hb hbox hg; obtain ⟨g5, d4, rfl⟩ := Kd.R_slice a2.out; obtain ⟨Q7, Q8⟩ := nn a7; obtain ⟨J9, M1⟩ := nn a6; have y2 := c0_ a0; have z6 := blk_frozen a0.out 0) | (refine gl (some 12) Tryz.func55 rfl #[.pointer (some ⟨g, 0, none⟩), .int .i64 9] ?_; refine (spec_l1Chance.calls g b2 j7 9 x6 x7 w0 _ (IsS86.q a5.out) (hsk HB.out (IsS86.ge a5.out)) A3.out).mono ?_; rintro e R8 ⟨rfl, hi, hb, hk⟩; refine ⟨_, rfl, ?_⟩; replace a1 := am (KeepBut.blk hk (g' := b0) (o := .cells #[.slice none 0 0] 26 (0, 0)) (bf a1.out) a8.out (by simp)); replace a2 := am (Kd.R_mono (Kd.R_keep (IsS86.apart (show IsS86 w0 _ g b2 j7 from IsS86.q a5.out) (rq ((Kd.R_mono (Kd.R_far (p := ⟨b4, 0, none⟩) (Kd.R_types a2.out a0.out (by decide)) (fun _ hk => hk.2) (.slice g5 a4.length d4)) (fun _ h_ => h_.1)))) (by decide)) hk (fun _ h => h.2)) (fun _ h => h.1)); replace a0 := am (KeepBut.blk hk (g' := b4) (o := .cells #[.slice g5 a4.length d4] 26 (0, 0)) (by refine bq ?_; refine blk_put (cs := #[.slice none 0 0]) ?_ 0 _ rfl; refine bq ?_; exact a0.out) a6.out (by simp)); replace HK := kt HK hk; replace HB := am (hb); replace a5 := am (hi); clear hb hk hi))
 have H := I2.out
 clear I2
 by_cases y1 : x6 = true
 ·subst y1
  rw [if_pos rfl] at H
  obtain ⟨⟨e4, d3⟩, O6, H⟩ := ob H
  try dsimp only at H
  have p9 := am H
  clear H
  go_upto_if 27 with (first | (refine gl (some 16) Tryz.func56 rfl #[.pointer (some ⟨g, 0, none⟩), .int .i64 7] ?_; refine (spec_l1Next.calls g b2 x7 7 e4 d3 w0 _ (IsS86.q a5.out) (hsk HB.out (IsS86.ge a5.out)) O6.out).mono ?_; rintro e i9 ⟨rfl, hi, hb, hk⟩; refine ⟨_, rfl, ?_⟩; replace a1 := kb hk a1 a8; replace a2 := IsS86.rk a5 a2 hk; replace a0 := kb hk a0 a6; replace HK := kt HK hk; replace HB := am (hb); replace a5 := am (hi); clear hb hk hi))
  have H := p9.out
  clear p9
  by_cases r7 : e4 = 0
  ·rw [if_pos r7] at H
   obtain ⟨e3, r8⟩ := bqt r7; clear r7
   (first | rw [e3] | (simp only [i64_w, i32_w]; rw [e3]) | skip)
   simp only [Option.some.injEq, Prod.mk.injEq] at H
   obtain ⟨rfl, rfl⟩ := H
   obtain ⟨K0, M2⟩ := nn d2
   obtain ⟨K1, M3⟩ := nn a8
   have y3 := c0_ a1
   have z7 := blk_frozen a1.out 0
   go_wp2
   refine bodyPost_ret (results_cell_row rfl _ _ b0 26 #[.slice none 0 0] (0, 0) _ rfl (by refine bq ?_; refine blk_put (cs := #[.slice none 0 0]) ?_ 0 _ rfl; refine bq ?_; exact a1.out) Tryz.underlying26 rfl (by kernel_rfl)) rfl ?_
   exact ⟨_, er, by first | exact Kd.R_nil _ _ _ _ _ | exact Kd.N_nil _ _ _ _ _ | exact Kd.V_nil _ _ _ _ _ | exact Kd.Q_nil _ _ _ _ _ | exact Kd.S_nil _ _ _ _ _, IsS86.q a5.out, hsk HB.out (IsS86.ge a5.out), ks HK.out⟩
  ·rw [if_neg r7] at H
   obtain ⟨e3, r8⟩ := bqf r7
   (first | rw [e3] | (simp only [i64_w, i32_w]; rw [e3]) | skip)
   by_cases r9 : e4 = 1
   ·rw [if_pos r9] at H
    obtain ⟨s0, s1⟩ := bqt r9; clear r9
    obtain ⟨b7, e6⟩ : ∃ j_ : Int, (wrap64 ((a4.length : Int) - 1)) = j_ := ⟨_, rfl⟩
    replace H : (if 0 ≤ (b7) then (if (b7) < (a4.length : Int) then (some ((a4.set ((b7) : Int).toNat (⟨(⟨#[97, 98, 99, 100]⟩ : ByteArray), (rd_T90 a4 (b7)).f1⟩ : S90)), d3)) else (none)) else (none)) = some (r1, r2) := by first | (rw [e6] at H; exact H) | (simp only [e6] at H ⊢; exact H)
    have hji22w : (IntKind.i64.wrap ((a4.length : Int) - 1)) = b7 := (i64_w _).trans e6
    obtain ⟨I4, H⟩ := ife H
    obtain ⟨I5, H⟩ := ife H
    obtain ⟨x8, e7⟩ : ∃ y_ : List (S90), y_ = (a4.set ((b7) : Int).toNat (⟨(⟨#[97, 98, 99, 100]⟩ : ByteArray), (rd_T90 a4 (b7)).f1⟩ : S90)) := ⟨_, rfl⟩
    replace H : (some (x8, d3)) = some (r1, r2) := by first | (rw [e7]; first | with_reducible exact H | with_reducible exact bs H) | with_reducible exact bs H | with_reducible exact H | (rw [e7]; exact H) | exact H
    have q9 := am e7
    clear e7
    simp only [Option.some.injEq, Prod.mk.injEq] at H
    obtain ⟨rfl, rfl⟩ := H
    obtain ⟨K2, M4⟩ := nn a7
    obtain ⟨K3, M5⟩ := nn a6
    have y4 := c0_ a0
    have z8 := blk_frozen a0.out 0
    have H1 : 0 ≤ ((b7) : Int) := od
    have H5 : ((b7) : Int) < ((a4.length : Int) : Int) := od
    obtain ⟨d5, Q4, t2, t8, D0, Q0, q0⟩ := Kd.R_form a2.out (by omega)
    (first | cases t2 | (injection t2 with ea_ en_ ec_; (first | subst ea_ | (injection ea_ with ea_; subst ea_)); subst ec_; clear en_))
    have B9 := am t8
    have O9 := am q0
    clear t8 D0 q0
    obtain ⟨P2, v1, u2, h4, i0⟩ := Kd.R_elem a2.out z90 ((b7) : Int) H1 H5
    obtain rfl := k90_openM u2
    have G2 : i9.cell? ⟨d5, ((b7) : Int).toNat * 2, none⟩ = some (.string ((rd_T90 a4 (b7)).f0)) := h4 0 _ rfl
    have G3 : i9.cell? ⟨d5, ((b7) : Int).toNat * 2 + 1, none⟩ = some (.int .i64 ((rd_T90 a4 (b7)).f1)) := h4 1 _ rfl
    have E1 : i9.frozen? ⟨d5, ((b7) : Int).toNat * 2, none⟩ = false := i0 0
    have E2 : i9.frozen? ⟨d5, ((b7) : Int).toNat * 2 + 1, none⟩ = false := i0 1
    clear v1 h4 i0; (try clear u2)
    obtain ⟨H1, H5⟩ := ee H1 H5
    have q5 := am (show Kd.R k90 90 i9 w.heap.size (fun _ => True) (.slice (some ⟨d5, 0, none⟩) a4.length d4) a4 from (rq a2.out))
    obtain ⟨P3, l8, u3, h5, m2⟩ := Kd.R_elem q5.out z90 ((b7) : Int) od (by have h_ : ((b7) : Int) < ((a4.length : Int) : Int) := od; first | exact h_ | (have e_ := (Kd.R_reads' a2.out).1; omega) | simpa using h_)
    obtain rfl := k90_openM u3
    have m6 := Kd.R_seg q5.out ((b7) : Int) od (by have h_ : ((b7) : Int) < ((a4.length : Int) : Int) := od; first | exact h_ | (have e_ := (Kd.R_reads' a2.out).1; omega) | simpa using h_) (seg := [.string (⟨#[97, 98, 99, 100]⟩ : ByteArray)]) (j := 0) l8 h5 (show 1 ≤ 2 from by decide) (x' := (⟨(⟨#[97, 98, 99, 100]⟩ : ByteArray), (rd_T90 a4 (b7)).f1⟩ : S90)) (k90_mkM _ _ _ (⟨(⟨#[97, 98, 99, 100]⟩ : ByteArray), (rd_T90 a4 (b7)).f1⟩ : S90) ) (fun _ hk => hk)
    have n9 := h5 0 _ rfl
    (try simp only [show (k90).sz = 2 from rfl, Nat.mul_one, Nat.add_zero] at n9)
    have n7 := m2 0
    (try simp only [show (k90).sz = 2 from rfl, Nat.mul_one, Nat.add_zero] at n7)
    clear l8 h5 m2; (try clear u3)
    go_wp2_with (first | ((with_reducible refine gate_store (t := 9) (p := 37) rfl ?_); refine store_event (t := 9) (p := 37) (v := ?vo_w30) (w1 := (i9.setCell ⟨d5, ((b7) : Int).toNat * 2, none⟩ (.string (⟨#[97, 98, 99, 100]⟩ : ByteArray)))) ?hg ?ho ?hn ?hr ?_; (case ho => rfl); (case hg => rfl); (case hn => rfl); (case hr => first | (go_simp; done) | (go_simp; rfl)); intro H9 hw; have hg : i9.grownBy H9 (some d5) := (by rw [hw]; exact m6.2); have x5 : Kd.R k90 90 H9 w.heap.size (fun _ => True) (.slice (some ⟨d5, 0, none⟩) a4.length d4) x8 := (by rw [hw, q9.out]; exact m6.1); clear m6; replace a5 := am (IsS86.grown (IsS86.q a5.out) hg (IsS86.own_ne a5.out a2.out (by decide))); replace a1 := am (blk_grown (bq a1.out) hg (Kd.R_ne a2.out a1.out (by decide))); replace a0 := am (blk_grown (bq a0.out) hg (Kd.R_ne a2.out a0.out (by decide))); replace HB := am ((by rw [hw]; exact below_set (HB.out) (Nat.le_trans HL.out B9.out) : Below w0.heap.size w0 H9)); replace HK := am (KeepBut.trans (ks HK.out) (KeepBut.of_grown hg g) (Kd.R_base2 a2.out)); replace a2 := am (x5); clear hg hw x5; have y5 := c0_ a0; have z9 := blk_frozen a0.out 0; obtain ⟨K4, M6⟩ := nn a8; have y6 := c0_ a1; have A0 := blk_frozen a1.out 0))
    refine bodyPost_ret (results_cell_row rfl _ _ b0 26 #[.slice (some ⟨d5, 0, none⟩) a4.length d4] (0, 0) _ rfl (by refine bq ?_; refine blk_put (cs := #[.slice none 0 0]) ?_ 0 _ rfl; refine bq ?_; exact a1.out) Tryz.underlying26 rfl (by kernel_rfl)) rfl ?_
    exact ⟨_, by first | rfl | (simp [errW_none, errW_some] <;> rfl) | (simp only [← e6]; first | rfl | (simp [errW_none, errW_some] <;> rfl)) | (simp [*, errW_none, errW_some] <;> rfl), rq (Kd.R_mono (Kd.R_far (p := ⟨b0, 0, none⟩) (Kd.R_types a2.out a1.out (by decide)) (fun _ hk => hk.2) (.slice (some ⟨d5, 0, none⟩) a4.length d4)) (fun _ hk => trivial)), IsS86.q a5.out, hsk HB.out (IsS86.ge a5.out), ks HK.out⟩
   ·rw [if_neg r9] at H
    obtain ⟨s0, s1⟩ := bqf r9
    by_cases s2 : e4 = 2
    ·rw [if_pos s2] at H
     obtain ⟨s3, s4⟩ := bqt s2; clear s2
     obtain ⟨⟨b3, o9⟩, O7, H⟩ := ob H
     try dsimp only at H
     obtain ⟨I6, H⟩ := ife H
     obtain ⟨I7, H⟩ := ife H
     obtain ⟨x9, e8⟩ : ∃ y_ : List (S90), y_ = (a4.set (b3 : Int).toNat (⟨(⟨#[97, 66]⟩ : ByteArray), (rd_T90 a4 b3).f1⟩ : S90)) := ⟨_, rfl⟩
     replace H : (some (x9, o9)) = some (r1, r2) := by first | (rw [e8]; first | with_reducible exact H | with_reducible exact bs H) | with_reducible exact bs H | with_reducible exact H | (rw [e8]; exact H) | exact H
     have r0 := am e8
     clear e8
     simp only [Option.some.injEq, Prod.mk.injEq] at H
     obtain ⟨rfl, rfl⟩ := H
     try go_wp2
     replace a2 := am (Kd.R_drew a2.out)
     replace a1 := am (blk_drew a1.out)
     replace a0 := am (blk_drew a0.out)
     replace a5 := am (IsS86.drew a5.out)
     replace HK := am (keep_drew HK.out)
     replace HB := am (below_drew1 HB.out)
     refine st_ (n := 8) (S := fun w' => w'.cell? ⟨b4, 0, none⟩ = some (.slice g5 a4.length d4)) (ds := [7]) ((blk_cell a0.out 0).trans rfl) (fun hHeld => ?_); refine with_tabW spec_l2Bent.tab13 spec_l2Bent.bits13 (fun c1 n0 => ?_)
     generalize i9.drew = R9 at a2 a1 a0 a5 HK HB hHeld ⊢
     refine pu 0 40 rfl rfl c1 ?_
     refine pu 2 42 rfl rfl c1 ?_
     refine pu 3 43 rfl rfl c1 ?_
     refine tk 1 41 rfl rfl c1 n0 hHeld ?_
     refine on_ 4 (some 44) rfl rfl c1 (fun K hK => ?_)
     refine gs Tryz.func56 #[.pointer (some ⟨g, 0, none⟩), .int .i64 (a4.length : Int)] ?_
     refine (spec_l1Next.calls g b2 d3 (a4.length : Int) b3 o9 w0 _ (IsS86.q a5.out) (hsk HB.out (IsS86.ge a5.out)) O7.out).mono ?_
     rintro e p1 ⟨rfl, hi, hb, hk⟩
     refine ⟨_, rfl, ?_⟩
     replace a1 := kb hk a1 a8
     replace a2 := IsS86.rk a5 a2 hk
     replace a0 := kb hk a0 a6
     replace HK := kt HK hk
     replace HB := am (hb)
     replace a5 := am (hi)
     (try clear hb)
     (try clear hk)
     (try clear hi)
     have H2 : 0 ≤ (b3 : Int) := od
     have H6 : (b3 : Int) < ((a4.length : Int) : Int) := od
     obtain ⟨d0, Q5, t3, t9, D1, Q1, q1⟩ := Kd.R_form a2.out (by omega)
     (first | cases t3 | (injection t3 with ea_ en_ ec_; (first | subst ea_ | (injection ea_ with ea_; subst ea_)); subst ec_; clear en_))
     have C0 := am t9
     have P0 := am q1
     clear t9 D1 q1
     obtain ⟨P4, v2, u4, h6, i1⟩ := Kd.R_elem a2.out z90 (b3 : Int) H2 H6
     obtain rfl := k90_openM u4
     have G4 : World.cell? _ ⟨d0, (b3 : Int).toNat * 2, none⟩ = some (.string ((rd_T90 a4 b3).f0)) := h6 0 _ rfl
     have G5 : World.cell? _ ⟨d0, (b3 : Int).toNat * 2 + 1, none⟩ = some (.int .i64 ((rd_T90 a4 b3).f1)) := h6 1 _ rfl
     have E3 : World.frozen? _ ⟨d0, (b3 : Int).toNat * 2, none⟩ = false := i1 0
     have E4 : World.frozen? _ ⟨d0, (b3 : Int).toNat * 2 + 1, none⟩ = false := i1 1
     clear v2 h6 i1; (try clear u4)
     obtain ⟨H2, H6⟩ := ee H2 H6
     have HN0_go38 := am (show g ≠ d0 from by have h_ := IsS86.own_ne a5.out a2.out (by decide); intro e_; exact h_ (by rw [e_]; rfl))
     obtain ⟨P5, l9, u5, l6, w4⟩ := Kd.R_elem a2.out z90 (b3 : Int) od (by have h_ : (b3 : Int) < ((a4.length : Int) : Int) := od; first | exact h_ | (have e_ := (Kd.R_reads' a2.out).1; omega) | simpa using h_)
     obtain rfl := k90_openM u5
     have m7 := (Kd.R_seg a2.out (b3 : Int) od (by have h_ : (b3 : Int) < ((a4.length : Int) : Int) := od; first | exact h_ | (have e_ := (Kd.R_reads' a2.out).1; omega) | simpa using h_) (seg := [.string (⟨#[97, 66]⟩ : ByteArray)]) (j := 0) l9 l6 (show 1 ≤ 2 from by decide) (x' := (⟨(⟨#[97, 66]⟩ : ByteArray), (rd_T90 a4 b3).f1⟩ : S90)) (k90_mkM _ _ _ (⟨(⟨#[97, 66]⟩ : ByteArray), (rd_T90 a4 b3).f1⟩ : S90) ) (fun _ hk => hk)).1
     rw [← r0.out] at m7
     have C4 := am m7
     clear l9 l6 w4 m7; (try clear u5)
     refine hK.out _ _ ((blk_cell a0.out 0).trans rfl) (fun hHeld => ?_)
     clear hK K
     refine nr (some 44) ?_
     refine pu 5 45 rfl rfl c1 ?_
     refine pu 6 46 rfl rfl c1 ?_
     refine last_ (i := 7) (N := none) #[true, true, true, true, true, true, true, true] rfl rfl (one_of c1.out (by kernel_rfl)) (by decide) (fun K hK => ?_)
     refine skip_ (w1 := ?_) (by rfl) rfl ?_ ?_
     rotate_left
     ·go_simp
      rfl
     refine hK.out _ _ ?_
     clear hK K
     refine done_ (done_of c1.out (by kernel_rfl)) ?_
     have o1 : Aside0 (Kd.R k90 90 (p1.setCell ⟨d0, (b3 : Int).toNat * 2, none⟩ (.string (⟨#[97, 66]⟩ : ByteArray))) w.heap.size (fun _ => True) (.slice (some ⟨d0, 0, none⟩) a4.length d4) x9) := ⟨rq C4.out⟩
     have o2 : Aside0 ((p1.setCell ⟨d0, (b3 : Int).toNat * 2, none⟩ (.string (⟨#[97, 66]⟩ : ByteArray))).heap[b0]? = some (.cells #[.slice none 0 0] 26 (0, 0))) := ⟨by refine bq ?_; refine blk_far ?_ (by have h_ := Kd.R_ne a2.out a1.out (by decide); intro e_; exact h_ (by rw [e_]; rfl)) _; refine bq ?_; exact a1.out⟩
     have o3 : Aside0 ((p1.setCell ⟨d0, (b3 : Int).toNat * 2, none⟩ (.string (⟨#[97, 66]⟩ : ByteArray))).heap[b4]? = some (.cells #[.slice (some ⟨d0, 0, none⟩) a4.length d4] 26 (0, 0))) := ⟨by refine bq ?_; refine blk_far ?_ (by have h_ := Kd.R_ne a2.out a0.out (by decide); intro e_; exact h_ (by rw [e_]; rfl)) _; refine bq ?_; exact a0.out⟩
     have o4 : Aside0 (IsS86 w0 (p1.setCell ⟨d0, (b3 : Int).toNat * 2, none⟩ (.string (⟨#[97, 66]⟩ : ByteArray))) g b2 o9) := ⟨IsS86.q a5.out⟩
     have o5 : Aside0 (KeepBut w (p1.setCell ⟨d0, (b3 : Int).toNat * 2, none⟩ (.string (⟨#[97, 66]⟩ : ByteArray))) g none) := ⟨ks HK.out⟩
     have o6 : Aside0 (Below w0.heap.size w0 (p1.setCell ⟨d0, (b3 : Int).toNat * 2, none⟩ (.string (⟨#[97, 66]⟩ : ByteArray)))) := ⟨by repeat (first | (with_reducible first | exact HB.out | apply below_alloc | apply pw_below_drewN | apply below_drew1 | refine below_set ?_ (Nat.le_trans HL.out C0.out) | refine below_set ?_ (IsS86.ge a5.out) | refine below_set ?_ k5.out | refine below_set ?_ k6.out) | exact HB.out)⟩
     (try clear a2)
     (try clear a1)
     (try clear a0)
     (try clear a5)
     (try clear HK)
     (try clear HB)
     (try simp only [Go.IntKind.wrap_u8])
     generalize (p1.setCell ⟨d0, (b3 : Int).toNat * 2, none⟩ (.string (⟨#[97, 66]⟩ : ByteArray))) = S0 at o1 o2 o3 o4 o5 o6 ⊢
     have a2 := o1
     have a1 := o2
     have a0 := o3
     have a5 := o4
     have HK := o5
     have HB := o6
     clear o1 o2 o3 o4 o5 o6
     obtain ⟨K5, M7⟩ := nn a7
     obtain ⟨K6, M8⟩ := nn a6
     have y7 := c0_ a0
     have A1 := blk_frozen a0.out 0
     obtain ⟨K7, M9⟩ := nn a8
     have y8 := c0_ a1
     have A4 := blk_frozen a1.out 0
     try go_wp2
     refine bodyPost_ret (results_cell_row rfl _ _ b0 26 #[.slice (some ⟨d0, 0, none⟩) a4.length d4] (0, 0) _ rfl (by refine bq ?_; refine blk_put (cs := #[.slice none 0 0]) ?_ 0 _ rfl; refine bq ?_; exact a1.out) Tryz.underlying26 rfl (by kernel_rfl)) rfl ?_
     exact ⟨_, er, rq (Kd.R_mono (Kd.R_far (p := ⟨b0, 0, none⟩) (Kd.R_types a2.out a1.out (by decide)) (fun _ hk => hk.2) (.slice (some ⟨d0, 0, none⟩) a4.length d4)) (fun _ hk => trivial)), IsS86.q a5.out, hsk HB.out (IsS86.ge a5.out), ks HK.out⟩
    ·rw [if_neg s2] at H
     obtain ⟨s3, s4⟩ := bqf s2
     by_cases n1 : e4 = 3
     ·rw [if_pos n1] at H
      obtain ⟨g7, g8⟩ := bqt n1; clear n1
      obtain ⟨⟨b1, i7⟩, I1, H⟩ := ob H
      try dsimp only at H
      obtain ⟨g4, e9⟩ : ∃ y_ : List Int, y_ = (([3, (-1)] : List Int)) := ⟨_, rfl⟩
      replace H : ((spec_l1Pick.f b2 i7 g4).bind fun e2 => (if 0 ≤ b1 then (if b1 < (a4.length : Int) then (some ((a4.set (b1 : Int).toNat (⟨(rd_T90 a4 b1).f0, e2.1⟩ : S90)), e2.2)) else (none)) else (none))) = some (r1, r2) := by first | (rw [e9]; first | with_reducible exact H | with_reducible exact bs H) | with_reducible exact bs H | with_reducible exact H | (rw [e9]; exact H) | exact H
      have e5 := am e9
      clear e9
      obtain ⟨⟨d1, p0⟩, O8, H⟩ := ob H
      try dsimp only at H
      obtain ⟨I8, H⟩ := ife H
      obtain ⟨I9, H⟩ := ife H
      obtain ⟨y0, g0⟩ : ∃ y_ : List (S90), y_ = (a4.set (b1 : Int).toNat (⟨(rd_T90 a4 b1).f0, d1⟩ : S90)) := ⟨_, rfl⟩
      replace H : (some (y0, p0)) = some (r1, r2) := by first | (rw [g0]; first | with_reducible exact H | with_reducible exact bs H) | with_reducible exact bs H | with_reducible exact H | (rw [g0]; exact H) | exact H
      have r3 := am g0
      clear g0
      simp only [Option.some.injEq, Prod.mk.injEq] at H
      obtain ⟨rfl, rfl⟩ := H
      try go_wp2
      replace a2 := am (Kd.R_drew a2.out)
      replace a1 := am (blk_drew a1.out)
      replace a0 := am (blk_drew a0.out)
      replace a5 := am (IsS86.drew a5.out)
      replace HK := am (keep_drew HK.out)
      replace HB := am (below_drew1 HB.out)
      refine st_ (n := 11) (S := fun w' => w'.cell? ⟨b4, 0, none⟩ = some (.slice g5 a4.length d4)) (ds := [10]) ((blk_cell a0.out 0).trans rfl) (fun hHeld => ?_); refine with_tabW spec_l2Bent.tab15 spec_l2Bent.bits15 (fun c1 n0 => ?_)
      generalize i9.drew = S1 at a2 a1 a0 a5 HK HB hHeld ⊢
      refine pu 0 49 rfl rfl c1 ?_
      refine pu 2 51 rfl rfl c1 ?_
      refine pu 3 52 rfl rfl c1 ?_
      refine pu 5 54 rfl rfl c1 ?_
      refine tk 1 50 rfl rfl c1 n0 hHeld ?_
      refine join_ (σ := Value) 4 #[true, true, true, true, true, true, true, false, false, false, false] (fun s_ => [(53, .int .i64 b1), (55, s_)]) (fun s_ w' => (w'.cell? ⟨b4, 0, none⟩ = some (.slice g5 a4.length d4)) ∧ (Kd.R k90 90 w' w.heap.size (fun _ => True) (.slice g5 a4.length d4) a4) ∧ (Kd.R (Kd.int .i64) 2 w' w.heap.size (fun _ => True) s_ g4) ∧ (w'.heap[b0]? = some (.cells #[.slice none 0 0] 26 (0, 0))) ∧ (w'.heap[b4]? = some (.cells #[.slice g5 a4.length d4] 26 (0, 0))) ∧ (IsS86 w0 w' g b2 i7) ∧ (KeepBut w w' g none) ∧ (Below w0.heap.size w0 w')) ?_ ?_
      rotate_left
      ·intro hCont
       refine two_ (i := 4) (j := 6) (Ni := some 53) (Nj := some 55) #[true, true, true, true, true, true, false, false, false, false, false] #[true, true, true, true, false, true, true, false, false, false, false] rfl rfl rfl rfl (two_of c1.out (by kernel_rfl)) (by decide) (by decide) (fun K hK => ?_) (fun K hK => ?_)
       ·skip
        refine gs Tryz.func56 #[.pointer (some ⟨g, 0, none⟩), .int .i64 (a4.length : Int)] ?_
        refine (spec_l1Next.calls g b2 d3 (a4.length : Int) b1 i7 w0 _ (IsS86.q a5.out) (hsk HB.out (IsS86.ge a5.out)) I1.out).mono ?_
        rintro e R6 ⟨rfl, hi, hb, hk⟩
        refine ⟨_, rfl, ?_⟩
        replace a1 := kb hk a1 a8
        replace a2 := IsS86.rk a5 a2 hk
        replace a0 := kb hk a0 a6
        replace HK := kt HK hk
        replace HB := am (hb)
        replace a5 := am (hi)
        (try clear hb)
        (try clear hk)
        (try clear hi)
        refine hK.out _ _ ((blk_cell a0.out 0).trans rfl) (fun hHeld => ?_)
        clear hK K
        refine nr (some 53) ?_
        refine on_ 6 (some 55) rfl rfl c1 (fun K hK => ?_)
        refine Kd.R_lit_step (Kd.int .i64) _ 2 ?hg (N := 55) ?hd (xs := ([3, (-1)] : List Int)) (inner := [.int .i64 3, .int .i64 (-1)]) (ok := fun _ => True) (okp := fun _ => True) ?hr ?hp (fun _ hk => hk) trivial (Below.refl _ _) (Nat.le_refl _) (by simp) ?_; (case hd => rfl); (case hg => rfl); (case hr => first | (go_simp; done) | (go_simp; rfl)); (case hp => exact (Reps.one (show Kd.M (Kd.int .i64) _ _ _ 3 [.int .i64 3] from rfl) (Reps.one (show Kd.M (Kd.int .i64) _ _ _ (-1) [.int .i64 (-1)] from rfl) (Reps.none _ _))))
        intro j8 S3 i5 hb E9 hnew_
        clear E9 hnew_
        (first | rw [← e5.out] at i5 | (simp only [Int.reduceToNat] at i5; rw [← e5.out] at i5))
        replace a2 := rb a2 hb
        have b6 := am (Kd.R_lower i5 (keep_size (w := w) (g := g) (row := none) (ks HK.out)))
        replace a1 := bb a1 hb
        replace a0 := bb a0 hb
        replace HK := ku HK hb
        replace HB := am (below_step (hsk HB.out (IsS86.ge a5.out)) hb)
        replace a5 := IsS86.bl a5 hb
        clear hb i5
        refine hK.out _ _ ((blk_cell a0.out 0).trans rfl) (fun hHeld => ?_)
        clear hK K
        refine nr (some 55) ?_
        exact nj (hCont (j8) _ ⟨hHeld, (rq a2.out), (rq b6.out), (bq a1.out), (bq a0.out), (IsS86.q a5.out), (ks HK.out), (hsk HB.out (IsS86.ge a5.out))⟩)
       ·skip
        refine Kd.R_lit_step (Kd.int .i64) _ 2 ?hg (N := 55) ?hd (xs := ([3, (-1)] : List Int)) (inner := [.int .i64 3, .int .i64 (-1)]) (ok := fun _ => True) (okp := fun _ => True) ?hr ?hp (fun _ hk => hk) trivial (Below.refl _ _) (Nat.le_refl _) (by simp) ?_; (case hd => rfl); (case hg => rfl); (case hr => first | (go_simp; done) | (go_simp; rfl)); (case hp => exact (Reps.one (show Kd.M (Kd.int .i64) _ _ _ 3 [.int .i64 3] from rfl) (Reps.one (show Kd.M (Kd.int .i64) _ _ _ (-1) [.int .i64 (-1)] from rfl) (Reps.none _ _))))
        intro j8 R6 i4 hb E9 hnew_
        clear E9 hnew_
        (first | rw [← e5.out] at i4 | (simp only [Int.reduceToNat] at i4; rw [← e5.out] at i4))
        replace a2 := rb a2 hb
        have b6 := am (Kd.R_lower i4 (keep_size (w := w) (g := g) (row := none) (ks HK.out)))
        replace a1 := bb a1 hb
        replace a0 := bb a0 hb
        replace HK := ku HK hb
        replace HB := am (below_step (hsk HB.out (IsS86.ge a5.out)) hb)
        replace a5 := IsS86.bl a5 hb
        clear hb i4
        refine hK.out _ _ ((blk_cell a0.out 0).trans rfl) (fun hHeld => ?_)
        clear hK K
        refine nr (some 55) ?_
        refine on_ 4 (some 53) rfl rfl c1 (fun K hK => ?_)
        refine gs Tryz.func56 #[.pointer (some ⟨g, 0, none⟩), .int .i64 (a4.length : Int)] ?_
        refine (spec_l1Next.calls g b2 d3 (a4.length : Int) b1 i7 w0 _ (IsS86.q a5.out) (hsk HB.out (IsS86.ge a5.out)) I1.out).mono ?_
        rintro e S4 ⟨rfl, hi, hb, hk⟩
        refine ⟨_, rfl, ?_⟩
        replace a1 := kb hk a1 a8
        replace a2 := IsS86.rk a5 a2 hk
        replace a0 := kb hk a0 a6
        replace b6 := IsS86.rk a5 b6 hk
        replace HK := kt HK hk
        replace HB := am (hb)
        replace a5 := am (hi)
        (try clear hb)
        (try clear hk)
        (try clear hi)
        refine hK.out _ _ ((blk_cell a0.out 0).trans rfl) (fun hHeld => ?_)
        clear hK K
        refine nr (some 53) ?_
        exact nj (hCont (j8) _ ⟨hHeld, (rq a2.out), (rq b6.out), (bq a1.out), (bq a0.out), (IsS86.q a5.out), (ks HK.out), (hsk HB.out (IsS86.ge a5.out))⟩)
      clear a2 a1 a0 a5 HK HB
      rintro j8 S5 ⟨J7, D4, D5, D6, D7, D8, D9, E0⟩
      try dsimp only at J7 D4 D5 D6 D7 D8 D9 E0
      have a2 := am D4; have b6 := am D5; have a1 := am D6; have a0 := am D7; have a5 := am D8; have HK := am D9; have HB := am E0; clear D4 D5 D6 D7 D8 D9 E0; have hHeld := J7
      obtain ⟨p5, s8, t5⟩ := Kd.R_slice b6.out
      (first | subst t5 | (injection t5 with f1_ f2_ f3_; have C8 := f1_.symm; have C9 := f3_.symm; clear f1_ f2_ f3_; subst C8; subst C9))
      refine nj ?_
      refine on_ 7 (some 56) rfl rfl c1 (fun K hK => ?_)
      refine gs Tryz.func26 #[.pointer (some ⟨g, 0, none⟩), .slice p5 g4.length s8] ?_
      refine (spec_l1Pick.calls g b2 i7 _ _ g4 d1 p0 w0 _ (IsS86.q a5.out) (hsk HB.out (IsS86.ge a5.out)) (cq (Kd.R_reads' b6.out).2.2) ((Kd.R_reads' b6.out).2.1) (far_slice (IsS86.own_ne a5.out b6.out (by decide))) O8.out).mono ?_
      rintro e m4 ⟨rfl, hi, hb, hk⟩
      refine ⟨_, rfl, ?_⟩
      replace a1 := kb hk a1 a8
      replace a2 := IsS86.rk a5 a2 hk
      replace a0 := kb hk a0 a6
      replace b6 := IsS86.rk a5 b6 hk
      replace HK := kt HK hk
      replace HB := am (hb)
      replace a5 := am (hi)
      (try clear hb)
      (try clear hk)
      (try clear hi)
      have H3 : 0 ≤ (b1 : Int) := od
      have H7 : (b1 : Int) < ((a4.length : Int) : Int) := od
      obtain ⟨c0, Q6, t4, u0, D2, Q2, q2⟩ := Kd.R_form a2.out (by omega)
      (first | cases t4 | (injection t4 with ea_ en_ ec_; (first | subst ea_ | (injection ea_ with ea_; subst ea_)); subst ec_; clear en_))
      have C1 := am u0
      have C3 := am q2
      clear u0 D2 q2
      obtain ⟨P6, v3, u6, h7, i2⟩ := Kd.R_elem a2.out z90 (b1 : Int) H3 H7
      obtain rfl := k90_openM u6
      have G6 : World.cell? _ ⟨c0, (b1 : Int).toNat * 2, none⟩ = some (.string ((rd_T90 a4 b1).f0)) := h7 0 _ rfl
      have G7 : World.cell? _ ⟨c0, (b1 : Int).toNat * 2 + 1, none⟩ = some (.int .i64 ((rd_T90 a4 b1).f1)) := h7 1 _ rfl
      have E5 : World.frozen? _ ⟨c0, (b1 : Int).toNat * 2, none⟩ = false := i2 0
      have E6 : World.frozen? _ ⟨c0, (b1 : Int).toNat * 2 + 1, none⟩ = false := i2 1
      clear v3 h7 i2; (try clear u6)
      obtain ⟨H3, H7⟩ := ee H3 H7
      have HN0_go53 := am (show g ≠ c0 from by have h_ := IsS86.own_ne a5.out a2.out (by decide); intro e_; exact h_ (by rw [e_]; rfl))
      obtain ⟨P7, m0, u7, l7, w8⟩ := Kd.R_elem a2.out z90 (b1 : Int) od (by have h_ : (b1 : Int) < ((a4.length : Int) : Int) := od; first | exact h_ | (have e_ := (Kd.R_reads' a2.out).1; omega) | simpa using h_)
      obtain rfl := k90_openM u7
      have m8 := (Kd.R_seg a2.out (b1 : Int) od (by have h_ : (b1 : Int) < ((a4.length : Int) : Int) := od; first | exact h_ | (have e_ := (Kd.R_reads' a2.out).1; omega) | simpa using h_) (seg := [.int .i64 d1]) (j := 1) m0 l7 (show 2 ≤ 2 from by decide) (x' := (⟨(rd_T90 a4 b1).f0, d1⟩ : S90)) (k90_mkM _ _ _ (⟨(rd_T90 a4 b1).f0, d1⟩ : S90) ) (fun _ hk => hk)).1
      rw [← r3.out] at m8
      have C5 := am m8
      clear m0 l7 w8 m8; (try clear u7)
      refine hK.out _ _ ((blk_cell a0.out 0).trans rfl) (fun hHeld => ?_)
      clear hK K
      refine nr (some 56) ?_
      refine pu 8 57 rfl rfl c1 ?_
      refine pu 9 58 rfl rfl c1 ?_
      refine last_ (i := 10) (N := none) #[true, true, true, true, true, true, true, true, true, true, true] rfl rfl (one_of c1.out (by kernel_rfl)) (by decide) (fun K hK => ?_)
      refine skip_ (w1 := ?_) (by rfl) rfl ?_ ?_
      rotate_left
      ·go_simp
       rfl
      refine hK.out _ _ ?_
      clear hK K
      refine done_ (done_of c1.out (by kernel_rfl)) ?_
      have o1 : Aside0 (Kd.R k90 90 (m4.setCell ⟨c0, (b1 : Int).toNat * 2 + 1, none⟩ (.int .i64 d1)) w.heap.size (fun _ => True) (.slice (some ⟨c0, 0, none⟩) a4.length d4) y0) := ⟨rq C5.out⟩
      have o2 : Aside0 (Kd.R (Kd.int .i64) 2 (m4.setCell ⟨c0, (b1 : Int).toNat * 2 + 1, none⟩ (.int .i64 d1)) w.heap.size (fun _ => True) (.slice p5 g4.length s8) g4) := ⟨rq (Kd.R_mono (Kd.R_far (p := ⟨c0, (b1 : Int).toNat * 2 + 1, none⟩) (Kd.R_types b6.out C3.out (by decide)) (fun _ hk => hk.2) (.int .i64 d1)) (fun _ hk => trivial))⟩
      have o3 : Aside0 ((m4.setCell ⟨c0, (b1 : Int).toNat * 2 + 1, none⟩ (.int .i64 d1)).heap[b0]? = some (.cells #[.slice none 0 0] 26 (0, 0))) := ⟨by refine bq ?_; refine blk_far ?_ (by have h_ := Kd.R_ne a2.out a1.out (by decide); intro e_; exact h_ (by rw [e_]; rfl)) _; refine bq ?_; exact a1.out⟩
      have o4 : Aside0 ((m4.setCell ⟨c0, (b1 : Int).toNat * 2 + 1, none⟩ (.int .i64 d1)).heap[b4]? = some (.cells #[.slice (some ⟨c0, 0, none⟩) a4.length d4] 26 (0, 0))) := ⟨by refine bq ?_; refine blk_far ?_ (by have h_ := Kd.R_ne a2.out a0.out (by decide); intro e_; exact h_ (by rw [e_]; rfl)) _; refine bq ?_; exact a0.out⟩
      have o5 : Aside0 (IsS86 w0 (m4.setCell ⟨c0, (b1 : Int).toNat * 2 + 1, none⟩ (.int .i64 d1)) g b2 p0) := ⟨IsS86.q a5.out⟩
      have o6 : Aside0 (KeepBut w (m4.setCell ⟨c0, (b1 : Int).toNat * 2 + 1, none⟩ (.int .i64 d1)) g none) := ⟨ks HK.out⟩
      have H0 : Aside0 (Below w0.heap.size w0 (m4.setCell ⟨c0, (b1 : Int).toNat * 2 + 1, none⟩ (.int .i64 d1))) := ⟨by repeat (first | (with_reducible first | exact HB.out | apply below_alloc | apply pw_below_drewN | apply below_drew1 | refine below_set ?_ (Nat.le_trans HL.out C1.out) | refine below_set ?_ (IsS86.ge a5.out) | refine below_set ?_ k5.out | refine below_set ?_ k6.out) | exact HB.out)⟩
      (try clear a2)
      (try clear b6)
      (try clear a1)
      (try clear a0)
      (try clear a5)
      (try clear HK)
      (try clear HB)
      (try simp only [Go.IntKind.wrap_u8])
      generalize (m4.setCell ⟨c0, (b1 : Int).toNat * 2 + 1, none⟩ (.int .i64 d1)) = S6 at o1 o2 o3 o4 o5 o6 H0 ⊢
      have a2 := o1
      have b6 := o2
      have a1 := o3
      have a0 := o4
      have a5 := o5
      have HK := o6
      have HB := H0
      clear o1 o2 o3 o4 o5 o6 H0
      obtain ⟨K8, N0⟩ := nn a7
      obtain ⟨K9, N1⟩ := nn a6
      have y9 := c0_ a0
      have A5 := blk_frozen a0.out 0
      obtain ⟨L0, N2⟩ := nn a8
      have z0 := c0_ a1
      have A6 := blk_frozen a1.out 0
      try go_wp2
      refine bodyPost_ret (results_cell_row rfl _ _ b0 26 #[.slice (some ⟨c0, 0, none⟩) a4.length d4] (0, 0) _ rfl (by refine bq ?_; refine blk_put (cs := #[.slice none 0 0]) ?_ 0 _ rfl; refine bq ?_; exact a1.out) Tryz.underlying26 rfl (by kernel_rfl)) rfl ?_
      exact ⟨_, er, rq (Kd.R_mono (Kd.R_far (p := ⟨b0, 0, none⟩) (Kd.R_types a2.out a1.out (by decide)) (fun _ hk => hk.2) (.slice (some ⟨c0, 0, none⟩) a4.length d4)) (fun _ hk => trivial)), IsS86.q a5.out, hsk HB.out (IsS86.ge a5.out), ks HK.out⟩
     ·rw [if_neg n1] at H
      obtain ⟨g7, g8⟩ := bqf n1
      by_cases n2 : e4 = 4
      ·rw [if_pos n2] at H
       obtain ⟨g9, h0⟩ := bqt n2; clear n2
       obtain ⟨J0, H⟩ := ifs H
       have J1 := decide_eq_true J0
       have J2 : decide (0 < a4.length) = true := decide_eq_true (by omega)
       clear J0
       obtain ⟨J3, H⟩ := ifs H
       have q7 := am J3
       clear J3
       obtain ⟨j9, g1⟩ : ∃ y_ : List (S90), y_ = (a4 ++ [(⟨(rd_T90 a4 0).f0, (rd_T90 a4 0).f1⟩ : S90)]) := ⟨_, rfl⟩
       replace H : (some (j9, d3)) = some (r1, r2) := by first | (rw [g1]; first | with_reducible exact H | with_reducible exact bs H) | with_reducible exact bs H | with_reducible exact H | (rw [g1]; exact H) | exact H
       have r4 := am g1
       clear g1
       simp only [Option.some.injEq, Prod.mk.injEq] at H
       obtain ⟨rfl, rfl⟩ := H
       try go_wp2
       replace a2 := am (Kd.R_drew a2.out)
       replace a1 := am (blk_drew a1.out)
       replace a0 := am (blk_drew a0.out)
       replace a5 := am (IsS86.drew a5.out)
       replace HK := am (keep_drew HK.out)
       replace HB := am (below_drew1 HB.out)
       have o7 : 0 ≤ (0 : Int) := (by omega)
       have o8 : 0 < (a4.length : Int) := od
       obtain ⟨d6, C6, d8, d9⟩ := at_T90 (Kd.R_reads' a2.out).2.2 0 o7 o8
       cases C6
       have O4 : (0 < a4.length) = True := eq_true (by omega)
       (try simp only [t0_] at d8 d9)
       obtain ⟨o7, o8⟩ := ee o7 o8
       refine st_ (n := 10) (S := fun w' => w'.cell? ⟨b4, 0, none⟩ = some (.slice (some d6) a4.length d4) ∧ w'.cell? d6 = some (.string ((rd_T90 a4 0).f0)) ∧ w'.cell? ⟨d6.block, d6.off + 1, none⟩ = some (.int .i64 ((rd_T90 a4 0).f1))) (ds := [7, 9]) ⟨(blk_cell a0.out 0).trans rfl, d8, d9⟩ (fun hHeld => ?_); refine with_tabW spec_l2Bent.tab17 spec_l2Bent.bits17 (fun c1 n0 => ?_)
       generalize i9.drew = S7 at a2 a1 a0 a5 HK HB d8 d9 hHeld ⊢
       refine pu 0 61 rfl rfl c1 ?_
       refine pu 2 63 rfl rfl c1 ?_
       refine tk 1 62 rfl rfl c1 n0 hHeld ?_
       refine tk 3 64 rfl rfl c1 n0 hHeld ?_
       refine pu 4 65 rfl rfl c1 ?_
       refine tk 5 66 rfl rfl c1 n0 hHeld ?_
       refine on_ 6 (some 67) rfl rfl c1 (fun K hK => ?_)
       refine value_ (w1 := ?_) (v := ?_) (by rfl) rfl ?_ ?_
       rotate_left 2
       ·go_simp
        constructor
        ·rfl
        ·rfl
       refine hK.out _ _ ⟨(blk_cell (blk_alloc a0.out _) 0).trans rfl, (World.cell?_alloc_lt _ _ _ (World.block_lt_of_cell? _ _ (hHeld.2.1))).trans (hHeld.2.1), (World.cell?_alloc_lt _ _ _ (World.block_lt_of_cell? _ _ (hHeld.2.2))).trans (hHeld.2.2)⟩ (fun hHeld => ?_)
       clear hK K
       refine nr (some 67) ?_
       refine last_ (i := 7) (N := some 68) #[true, true, true, true, true, true, true, true, false, false] rfl rfl (one_of c1.out (by kernel_rfl)) (by decide) (fun K hK => ?_)
       refine Kd.R_append_step k90 w.heap.size (by rfl) (.tmp 62) (.tmp 67) 24 90 (.agg #[(.string ⟨#[]⟩), (.int .i64 0)]) 24 rfl Tryz.underlying24 info90 rfl (by decide) (by omega) (.slice (some d6) a4.length d4) a4 (⟨(rd_T90 a4 0).f0, (rd_T90 a4 0).f1⟩ : S90) [.string ((rd_T90 a4 0).f0), .int .i64 ((rd_T90 a4 0).f1)] (fun _ => True) (fun _ => False) rfl rfl ?aP (fun _ hk => hk.elim) ?aF ?aO (Below.refl _ _) ?aS ?aL ?_
       (case aP => exact k90_mkM _ _ _ (⟨(rd_T90 a4 0).f0, (rd_T90 a4 0).f1⟩ : S90))
       (case aF => exact (fun _ _ => trivial))
       (case aO => exact (rq a2.out))
       (case aS => exact (keep_size (w := w) (g := g) (row := none) (ks HK.out)))
       (case aL => have := q7.out; omega)
       intro R3 R7 ho hb hg hat
       rw [← r4.out] at ho
       replace a1 := am (blk_grown (bq a1.out) hg (Kd.R_ne a2.out a1.out (by decide)))
       replace a0 := am (blk_grown (bq a0.out) hg (Kd.R_ne a2.out a0.out (by decide)))
       replace HB := am (below_weaken (hsk HB.out (IsS86.ge a5.out)) HL.out hb)
       replace a5 := am (IsS86.grown (IsS86.q a5.out) hg (IsS86.own_ne a5.out a2.out (by decide)))
       replace HK := am (KeepBut.trans (ks HK.out) (KeepBut.of_grown hg g) (Kd.R_base2 a2.out))
       have k7 := am (ho)
       clear a2
       clear ho hb hg hat
       obtain ⟨m5, n4, t6⟩ := Kd.R_slice k7.out
       (first | subst t6 | (injection t6 with f1_ f2_ f3_; have C8 := f1_.symm; have C9 := f3_.symm; clear f1_ f2_ f3_; subst C8; subst C9))
       refine hK.out _ _ ?_
       clear hK K
       refine nr (some 68) ?_
       refine pu 8 69 rfl rfl c1 ?_
       refine last_ (i := 9) (N := none) #[true, true, true, true, true, true, true, true, true, true] rfl rfl (one_of c1.out (by kernel_rfl)) (by decide) (fun K hK => ?_)
       have Q9 : R7.cell? ⟨b4, 0, none⟩ = some (.slice (some d6) a4.length d4) := (blk_cell a0.out 0).trans rfl
       have J8 := blk_frozen a0.out 0
       have B8 := d2.out
       have B5 := a7.out
       refine skip_ (w1 := ?_) (by rfl) rfl ?_ ?_
       rotate_left
       ·go_simp
        rfl
       refine hK.out _ _ ?_
       clear hK K
       refine done_ (done_of c1.out (by kernel_rfl)) ?_
       obtain ⟨L1, N3⟩ := nn a7
       obtain ⟨L2, N4⟩ := nn a6
       have z1 := c0_ a0
       have A7 := blk_frozen a0.out 0
       obtain ⟨L3, N5⟩ := nn a8
       have z2 := c0_ a1
       have A8 := blk_frozen a1.out 0
       try go_wp2
       refine bodyPost_ret (results_cell_row rfl _ _ b0 26 #[.slice m5 j9.length n4] (0, 0) _ rfl (by refine bq ?_; refine blk_put (cs := #[.slice none 0 0]) ?_ 0 _ rfl; refine bq ?_; refine blk_far ?_ d2.out _; refine bq ?_; exact a1.out) Tryz.underlying26 rfl (by kernel_rfl)) rfl ?_
       exact ⟨_, er, rq (Kd.R_mono (Kd.R_far (p := ⟨b0, 0, none⟩) (Kd.R_far (p := ⟨b4, 0, none⟩) (Kd.R_types (Kd.R_types k7.out a0.out (by decide)) a1.out (by decide)) (fun _ hk => hk.1.2) (.slice m5 j9.length n4)) (fun _ hk => hk.2) (.slice m5 j9.length n4)) (fun _ hk => trivial)), IsS86.q a5.out, hsk HB.out (IsS86.ge a5.out), ks HK.out⟩
      ·rw [if_neg n2] at H
       obtain ⟨g9, h0⟩ := bqf n2
       by_cases n3 : e4 = 5
       ·rw [if_pos n3] at H
        obtain ⟨h2, h3⟩ := bqt n3; clear n3
        have H' := am H
        clear H
        go_wp2
        go_loopg [5] k (fun kq v5 w' => ∃ (b5 : Int) (a3 : List (S90)) (b9 : Value), v5 = .int .i64 b5 ∧ Aside0 (spec_l2Bent.l0 kq (a4.length : Int) b5 b2 d3 a3 = some (r1, r2)) ∧ Aside0 (kq ≤ k) ∧ Aside0 (Kd.R k90 90 w' w.heap.size (fun _ => True) b9 a3) ∧ Aside0 (w'.heap[b0]? = some (.cells #[(.slice none 0 0)] 26 (0, 0))) ∧ Aside0 (w'.heap[b4]? = some (.cells #[b9] 26 (0, 0))) ∧ Aside0 (IsS86 w0 w' g b2 d3) ∧ Aside0 (KeepBut w w' g none) ∧ Aside0 (Below w0.heap.size w0 w'))
        case atStart => exact ⟨(0), (a4), (.slice g5 a4.length d4), et, H', ⟨Nat.le_refl _⟩, ⟨rq a2.out⟩, ⟨bq a1.out⟩, ⟨bq a0.out⟩, ⟨IsS86.q a5.out⟩, ⟨ks HK.out⟩, ⟨hsk HB.out (IsS86.ge a5.out)⟩⟩
        case round =>
         clear H'
         try clear n1; try clear g7; try clear g8; try clear n2; try clear g9; try clear h0; try clear n3; try clear h2; try clear h3
         obtain ⟨b5, a3, b9, rfl, HA, q4, HO_211000, a1, a0, a5, HK, HB⟩ := hrel
         cases gk with
         | zero => exact absurd HA.out (by simp [spec_l2Bent.l0])
         | succ k1 =>
          have H := HA.out
          clear HA
          simp only [spec_l2Bent.l0] at H
          by_cases p3 : b5 < (a4.length : Int)
          ·rw [if_pos p3] at H
           have s5 := decide_eq_true p3
           clear p3
           obtain ⟨J4, H⟩ := ife H
           obtain ⟨J5, H⟩ := ife H
           obtain ⟨p2, g2⟩ : ∃ y_ : List (S90), y_ = (a3.set (b5 : Int).toNat (⟨(rd_T90 a3 b5).f0, 1⟩ : S90)) := ⟨_, rfl⟩
           replace H : (spec_l2Bent.l0 k1 (a4.length : Int) (wrap64 (b5 + 1)) b2 d3 p2) = some (r1, r2) := by first | (rw [g2]; first | with_reducible exact H | with_reducible exact bs H) | with_reducible exact bs H | with_reducible exact H | (rw [g2]; exact H) | exact H
           have r5 := am g2
           clear g2
           have H' := am H
           clear H
           obtain ⟨L4, N6⟩ := nn a7
           obtain ⟨L5, N7⟩ := nn a6
           have z3 := c0_ a0
           have A9 := blk_frozen a0.out 0
           have H4 : 0 ≤ (b5 : Int) := od
           have H8 : (b5 : Int) < ((a3.length : Int) : Int) := od
           obtain ⟨d7, n6, t7, u1, D3, Q3, q3⟩ := Kd.R_form HO_211000.out (by omega)
           (first | cases t7 | (injection t7 with ea_ en_ ec_; (first | subst ea_ | (injection ea_ with ea_; subst ea_)); subst ec_; clear en_))
           have C2 := am u1
           have P1 := am q3
           clear u1 D3 q3
           obtain ⟨P8, v4, u9, h8, i3⟩ := Kd.R_elem HO_211000.out z90 (b5 : Int) H4 H8
           obtain rfl := k90_openM u9
           have G8 : wr.cell? ⟨d7, (b5 : Int).toNat * 2, none⟩ = some (.string ((rd_T90 a3 b5).f0)) := h8 0 _ rfl
           have G9 : wr.cell? ⟨d7, (b5 : Int).toNat * 2 + 1, none⟩ = some (.int .i64 ((rd_T90 a3 b5).f1)) := h8 1 _ rfl
           have E7 : wr.frozen? ⟨d7, (b5 : Int).toNat * 2, none⟩ = false := i3 0
           have E8 : wr.frozen? ⟨d7, (b5 : Int).toNat * 2 + 1, none⟩ = false := i3 1
           clear v4 h8 i3; (try clear u9)
           obtain ⟨H4, H8⟩ := ee H4 H8
           have q6 := am (show Kd.R k90 90 wr w.heap.size (fun _ => True) (.slice (some ⟨d7, 0, none⟩) a3.length n6) a3 from (rq HO_211000.out))
           obtain ⟨P9, m1, v0, h9, m3⟩ := Kd.R_elem q6.out z90 (b5 : Int) od (by have h_ : (b5 : Int) < ((a3.length : Int) : Int) := od; first | exact h_ | (have e_ := (Kd.R_reads' HO_211000.out).1; omega) | simpa using h_)
           obtain rfl := k90_openM v0
           have m9 := Kd.R_seg q6.out (b5 : Int) od (by have h_ : (b5 : Int) < ((a3.length : Int) : Int) := od; first | exact h_ | (have e_ := (Kd.R_reads' HO_211000.out).1; omega) | simpa using h_) (seg := [.int .i64 1]) (j := 1) m1 h9 (show 2 ≤ 2 from by decide) (x' := (⟨(rd_T90 a3 b5).f0, 1⟩ : S90)) (k90_mkM _ _ _ (⟨(rd_T90 a3 b5).f0, 1⟩ : S90) ) (fun _ hk => hk)
           have o0 := h9 1 _ rfl
           (try simp only [show (k90).sz = 2 from rfl, Nat.mul_one, Nat.add_zero] at o0)
           have n8 := m3 1
           (try simp only [show (k90).sz = 2 from rfl, Nat.mul_one, Nat.add_zero] at n8)
           clear m1 h9 m3; (try clear v0)
           go_wp2_with (first | ((with_reducible refine gate_store (t := 2) (p := 81) rfl ?_); refine store_event (t := 2) (p := 81) (v := ?vo_w89) (w1 := (wr.setCell ⟨d7, (b5 : Int).toNat * 2 + 1, none⟩ (.int .i64 1))) ?hg ?ho ?hn ?hr ?_; (case ho => rfl); (case hg => rfl); (case hn => rfl); (case hr => first | (go_simp; done) | (go_simp; rfl)); intro I0 hw; have hg : wr.grownBy I0 (some d7) := (by rw [hw]; exact m9.2); have x5 : Kd.R k90 90 I0 w.heap.size (fun _ => True) (.slice (some ⟨d7, 0, none⟩) a3.length n6) p2 := (by rw [hw, r5.out]; exact m9.1); clear m9; replace a1 := am (blk_grown (bq a1.out) hg (Kd.R_ne HO_211000.out a1.out (by decide))); replace a0 := am (blk_grown (bq a0.out) hg (Kd.R_ne HO_211000.out a0.out (by decide))); replace a5 := am (IsS86.grown (IsS86.q a5.out) hg (IsS86.own_ne a5.out HO_211000.out (by decide))); replace HB := am ((by rw [hw]; exact below_set (HB.out) (Nat.le_trans HL.out C2.out) : Below w0.heap.size w0 I0)); replace HK := am (KeepBut.trans (ks HK.out) (KeepBut.of_grown hg g) (Kd.R_base2 HO_211000.out)); replace HO_211000 := am (x5); clear hg hw x5))
           go_roundg k1
           case measure => have := q4.out; omega
           case rel => exact ⟨(wrap64 (b5 + 1)), (p2), (.slice (some ⟨d7, 0, none⟩) a3.length n6), et, H', ⟨by have := q4.out; omega⟩, ⟨rq HO_211000.out⟩, ⟨bq a1.out⟩, ⟨bq a0.out⟩, ⟨IsS86.q a5.out⟩, ⟨ks HK.out⟩, ⟨hsk HB.out (IsS86.ge a5.out)⟩⟩
          ·rw [if_neg p3] at H
           have s5 := decide_eq_false p3
           clear p3
           simp only [Option.some.injEq, Prod.mk.injEq] at H
           obtain ⟨rfl, rfl⟩ := H
           obtain ⟨L6, N8⟩ := nn a7
           obtain ⟨L7, N9⟩ := nn a6
           have z4 := c0_ a0
           have B0 := blk_frozen a0.out 0
           obtain ⟨p6, s9, C7⟩ := Kd.R_slice HO_211000.out
           subst C7
           obtain ⟨L8, O0⟩ := nn a8
           have z5 := c0_ a1
           have B4 := blk_frozen a1.out 0
           go_wp2
           refine bodyPost_ret (results_cell_row rfl _ _ b0 26 #[.slice p6 a3.length s9] (0, 0) _ rfl (by refine bq ?_; refine blk_put (cs := #[.slice none 0 0]) ?_ 0 _ rfl; refine bq ?_; exact a1.out) Tryz.underlying26 rfl (by kernel_rfl)) rfl ?_
           exact ⟨_, er, rq (Kd.R_mono (Kd.R_far (p := ⟨b0, 0, none⟩) (Kd.R_types HO_211000.out a1.out (by decide)) (fun _ hk => hk.2) (.slice p6 a3.length s9)) (fun _ hk => trivial)), IsS86.q a5.out, hsk HB.out (IsS86.ge a5.out), ks HK.out⟩
       ·rw [if_neg n3] at H
        obtain ⟨h2, h3⟩ := bqf n3
        have H' := am H
        clear H
        go_wp2
        go_loopg [] k (fun kq w' => ∃ (a3 : List (S90)) (b9 : Value), Aside0 (spec_l2Bent.l1 kq b2 d3 a3 = some (r1, r2)) ∧ Aside0 (kq ≤ k) ∧ Aside0 (Kd.R k90 90 w' w.heap.size (fun _ => True) b9 a3) ∧ Aside0 (w'.heap[b0]? = some (.cells #[(.slice none 0 0)] 26 (0, 0))) ∧ Aside0 (w'.heap[b4]? = some (.cells #[b9] 26 (0, 0))) ∧ Aside0 (IsS86 w0 w' g b2 d3) ∧ Aside0 (KeepBut w w' g none) ∧ Aside0 (Below w0.heap.size w0 w'))
        case atStart => exact ⟨(a4), (.slice g5 a4.length d4), H', ⟨Nat.le_refl _⟩, ⟨rq a2.out⟩, ⟨bq a1.out⟩, ⟨bq a0.out⟩, ⟨IsS86.q a5.out⟩, ⟨ks HK.out⟩, ⟨hsk HB.out (IsS86.ge a5.out)⟩⟩
        case round =>
         clear H'
         try clear n1; try clear g7; try clear g8; try clear n2; try clear g9; try clear h0; try clear n3; try clear h2; try clear h3
         obtain ⟨a3, b9, HA, q4, HO_211000, a1, a0, a5, HK, HB⟩ := hrel
         cases gk with
         | zero => exact absurd HA.out (by simp [spec_l2Bent.l1])
         | succ k1 =>
          have H := HA.out
          clear HA
          simp only [spec_l2Bent.l1] at H
          by_cases p4 : (a3.length : Int) < 7
          ·rw [if_pos p4] at H
           have s6 := decide_eq_true p4
           have s7 : decide (a3.length < 7) = true := decide_eq_true (by omega)
           clear p4
           obtain ⟨J6, H⟩ := ifs H
           have q8 := am J6
           clear J6
           obtain ⟨k0, g3⟩ : ∃ y_ : List (S90), y_ = (a3 ++ [(⟨(⟨#[122]⟩ : ByteArray), 0⟩ : S90)]) := ⟨_, rfl⟩
           replace H : (spec_l2Bent.l1 k1 b2 d3 k0) = some (r1, r2) := by first | (rw [g3]; first | with_reducible exact H | with_reducible exact bs H) | with_reducible exact bs H | with_reducible exact H | (rw [g3]; exact H) | exact H
           have r6 := am g3
           clear g3
           have H' := am H
           clear H
           obtain ⟨L9, O1⟩ := nn a7
           obtain ⟨M0, O2⟩ := nn a6
           have v6 := c0_ a0
           have w9 := blk_frozen a0.out 0
           obtain ⟨k2, k9, t0⟩ := Kd.R_slice HO_211000.out
           subst t0
           go_wp2_with (first | ((with_reducible refine gate_builtin (b := .append) (xs := #[.tmp 22, .tmp 24]) rfl ?_); at_builtin; refine Kd.R_append k90 w.heap.size rfl (.tmp 22) (.tmp 24) 24 90 (.agg #[(.string ⟨#[]⟩), (.int .i64 0)]) 24 rfl Tryz.underlying24 info90 rfl (by decide) (by omega) (.slice k2 a3.length k9) a3 (⟨(⟨#[122]⟩ : ByteArray), 0⟩ : S90) [.string (⟨#[122]⟩ : ByteArray), .int .i64 0] (fun _ => True) (fun _ => False) rfl rfl ?aP (fun _ hk => hk.elim) ?aF ?aO (Below.refl _ _) ?aS ?aL ?_; (case aP => exact k90_mkM _ _ _ (⟨(⟨#[122]⟩ : ByteArray), 0⟩ : S90)); (case aF => exact (fun _ _ => trivial)); (case aO => exact (rq HO_211000.out)); (case aS => exact (keep_size (w := w) (g := g) (row := none) (ks HK.out))); (case aL => have := q8.out; omega); intro R4 R5 ho hb hg hat; rw [← r6.out] at ho; replace a1 := am (blk_grown (bq a1.out) hg (Kd.R_ne HO_211000.out a1.out (by decide))); replace a0 := am (blk_grown (bq a0.out) hg (Kd.R_ne HO_211000.out a0.out (by decide))); replace HB := am (below_weaken (hsk HB.out (IsS86.ge a5.out)) HL.out hb); replace a5 := am (IsS86.grown (IsS86.q a5.out) hg (IsS86.own_ne a5.out HO_211000.out (by decide))); replace HK := am (KeepBut.trans (ks HK.out) (KeepBut.of_grown hg g) (Kd.R_base2 HO_211000.out)); have k8 := am (ho); clear HO_211000; clear ho hb hg hat; obtain ⟨k3, l4, rfl⟩ := Kd.R_slice k8.out; have v7 := c0_ a0; have x0 := blk_frozen a0.out 0))
           go_roundg k1
           case measure => have := q4.out; omega
           case rel => exact ⟨(k0), (.slice k3 k0.length l4), H', ⟨by have := q4.out; omega⟩, ⟨rq (Kd.R_mono (Kd.R_far (p := ⟨b4, 0, none⟩) (Kd.R_types k8.out a0.out (by decide)) (fun _ hk => hk.2) (.slice k3 k0.length l4)) (fun _ hk => trivial))⟩, ⟨bf a1.out⟩, ⟨by refine bq ?_; refine blk_put (cs := #[.slice k2 a3.length k9]) ?_ 0 _ rfl; refine bq ?_; exact a0.out⟩, ⟨IsS86.q a5.out⟩, ⟨ks HK.out⟩, ⟨hsk HB.out (IsS86.ge a5.out)⟩⟩
          ·rw [if_neg p4] at H
           have s6 := decide_eq_false p4
           have s7 : decide (a3.length < 7) = false := decide_eq_false (by omega)
           clear p4
           simp only [Option.some.injEq, Prod.mk.injEq] at H
           obtain ⟨rfl, rfl⟩ := H
           obtain ⟨F0, F6⟩ := nn a7
           obtain ⟨F1, F7⟩ := nn a6
           have v8 := c0_ a0
           have x1 := blk_frozen a0.out 0
           obtain ⟨k4, l5, t1⟩ := Kd.R_slice HO_211000.out
           subst t1
           obtain ⟨F2, F8⟩ := nn a8
           have v9 := c0_ a1
           have x2 := blk_frozen a1.out 0
           go_wp2
           refine bodyPost_ret (results_cell_row rfl _ _ b0 26 #[.slice k4 a3.length l5] (0, 0) _ rfl (by refine bq ?_; refine blk_put (cs := #[.slice none 0 0]) ?_ 0 _ rfl; refine bq ?_; exact a1.out) Tryz.underlying26 rfl (by kernel_rfl)) rfl ?_
           exact ⟨_, er, rq (Kd.R_mono (Kd.R_far (p := ⟨b0, 0, none⟩) (Kd.R_types HO_211000.out a1.out (by decide)) (fun _ hk => hk.2) (.slice k4 a3.length l5)) (fun _ hk => trivial)), IsS86.q a5.out, hsk HB.out (IsS86.ge a5.out), ks HK.out⟩
 ·replace y1 := Bool.eq_false_iff.mpr y1
  subst y1
  rw [if_neg (show ¬ (false = true) by decide)] at H
  simp only [Option.some.injEq, Prod.mk.injEq] at H
  obtain ⟨rfl, rfl⟩ := H
  obtain ⟨F3, F9⟩ := nn a7
  obtain ⟨F4, G0⟩ := nn a6
  have w2 := c0_ a0
  have x3 := blk_frozen a0.out 0
  obtain ⟨F5, G1⟩ := nn a8
  have w3 := c0_ a1
  have x4 := blk_frozen a1.out 0
  go_wp2
  refine bodyPost_ret (results_cell_row rfl _ _ b0 26 #[.slice g5 a4.length d4] (0, 0) _ rfl (by refine bq ?_; refine blk_put (cs := #[.slice none 0 0]) ?_ 0 _ rfl; refine bq ?_; exact a1.out) Tryz.underlying26 rfl (by kernel_rfl)) rfl ?_
  exact ⟨_, er, rq (Kd.R_mono (Kd.R_far (p := ⟨b0, 0, none⟩) (Kd.R_types a2.out a1.out (by decide)) (fun _ hk => hk.2) (.slice g5 a4.length d4)) (fun _ hk => trivial)), IsS86.q a5.out, hsk HB.out (IsS86.ge a5.out), ks HK.out⟩
attribute [local go_sem] max2_int min2_int max_two min_two max_three min_three max_four min_four   -- for this text's walks alone
set_option linter.unusedVariables false
set_option linter.unusedSimpArgs false
mutual
def spec_l2Name.j0 : Nat → ByteArray → Bool → Option (Bool)
 | 0, _, _ => none
 | k + 1, x0, a0 => if a0 = true then (some false) else (spec_l2Name.l0 k x0 0)
def spec_l2Name.l0 : Nat → ByteArray → Int → Option (Bool)
 | 0, _, _ => none
 | k + 1, x0, x3 => if x3 < (x0.size : Int) then (if 0 ≤ x3 then (if (bt x0 x3) < 97 then (some false) else (if (bt x0 x3) > 122 then (some false) else (spec_l2Name.l0 k x0 (wrap64 (x3 + 1))))) else (none)) else (some true)
end
def spec_l2Name.f (k : Nat) (a0 : ByteArray) : Option (Bool) := if (a0.size : Int) < 1 then (spec_l2Name.j0 k a0 true) else (spec_l2Name.j0 k a0 (decide ((a0.size : Int) > 3)))
theorem spec_l2Name.calls (k : Nat) (a0 : ByteArray) (r : Bool) (w : World) (h : spec_l2Name.f k a0 = some r) :
  Calls Tryz.prog 83 #[.string a0] w fun e w' => e = .returned (.bool r) ∧ Drawn0 w w' := by
 have H : (if (a0.size : Int) < 1 then (spec_l2Name.j0 k a0 true) else (spec_l2Name.j0 k a0 (decide ((a0.size : Int) > 3)))) = some r := h
 clear h
 have a5 := am H
 clear H
 go_enter Tryz.func83, Tryz.ntmps83
 go_upto_region 1 with (fail)
 go_cut [11] (fun b5 wc => ∃ (kq : Nat) (a2 : Bool), b5 = .bool a2 ∧ Aside0 (spec_l2Name.j0 kq a0 a2 = some r) ∧ Aside0 (kq ≤ k) ∧ Drawn0 w wc)
 case first =>
  have H := a5.out
  clear a5
  by_cases c3 : (a0.size : Int) < 1
  ·rw [if_pos c3] at H
   have a3 := decide_eq_true c3
   have a6 : decide (a0.size < 1) = true := decide_eq_true (by omega)
   clear c3
   (first | rw [a3] | (simp only [i64_w, i32_w]; rw [a3]) | skip)
   have H' := am H
   clear H
   go_wp2
   go_meet
   case rel => exact ⟨_, (true), et, H', lo, dn⟩
  ·rw [if_neg c3] at H
   have a3 := decide_eq_false c3
   have a6 : decide (a0.size < 1) = false := decide_eq_false (by omega)
   clear c3
   (first | rw [a3] | (simp only [i64_w, i32_w]; rw [a3]) | skip)
   have H' := am H
   clear H
   go_wp2
   go_meet
   case rel => exact ⟨_, (decide ((a0.size : Int) > 3)), et, H', lo, dn⟩
 case rest =>
  clear a5
  obtain ⟨kq, a2, rfl, HA, a9, ⟨b6, rfl⟩⟩ := hcut
  cases kq with
  | zero => exact absurd HA.out (by simp [spec_l2Name.j0])
  | succ b2 =>
   have H := HA.out
   clear HA
   simp only [spec_l2Name.j0] at H
   by_cases c4 : a2 = true
   ·subst c4
    rw [if_pos rfl] at H
    obtain rfl := Option.some.inj H
    go_wp2
    go_ret
    exact ⟨et, dn⟩
   ·replace c4 := Bool.eq_false_iff.mpr c4
    subst c4
    rw [if_neg (show ¬ (false = true) by decide)] at H
    have H' := am H
    clear H
    go_wp2
    go_loopg [3] b2 (fun kq v3 w' => ∃ (a1 : Int), v3 = .int .i64 a1 ∧ Aside0 (spec_l2Name.l0 kq a0 a1 = some r) ∧ Aside0 (kq ≤ b2) ∧ Drawn0 w w')
    case atStart => exact ⟨(0), et, H', ⟨Nat.le_refl _⟩, dn⟩
    case round =>
     clear H'
     try clear c4
     obtain ⟨a1, rfl, HA, b0, ⟨m2, rfl⟩⟩ := hrel
     cases gk with
     | zero => exact absurd HA.out (by simp [spec_l2Name.l0])
     | succ k2 =>
      have H := HA.out
      clear HA
      simp only [spec_l2Name.l0] at H
      by_cases c5 : a1 < (a0.size : Int)
      ·rw [if_pos c5] at H
       have a7 := decide_eq_true c5
       clear c5
       obtain ⟨b3, H⟩ := ife H
       by_cases c8 : (bt a0 a1) < 97
       ·rw [if_pos c8] at H
        have a8 := decide_eq_true c8
        clear c8
        obtain rfl := Option.some.inj H
        have p7 : 0 ≤ (a1 : Int) := od
        have q7 : a1 < (a0.size : Int) := od
        have b1 := bt_at a0 a1
        obtain ⟨p7, q7⟩ := ee p7 q7
        go_wp2
        go_ret
        exact ⟨et, dn⟩
       ·rw [if_neg c8] at H
        have a8 := decide_eq_false c8
        clear c8
        by_cases c10 : (bt a0 a1) > 122
        ·rw [if_pos c10] at H
         have a4 := decide_eq_true c10
         clear c10
         obtain rfl := Option.some.inj H
         have p7 : 0 ≤ (a1 : Int) := od
         have q7 : a1 < (a0.size : Int) := od
         have b1 := bt_at a0 a1
         obtain ⟨p7, q7⟩ := ee p7 q7
         have p9 : 0 ≤ (a1 : Int) := od
         have q9 : a1 < (a0.size : Int) := od
         have b4 := bt_at a0 a1
         obtain ⟨p9, q9⟩ := ee p9 q9
         go_wp2
         go_ret
         exact ⟨et, dn⟩
        ·rw [if_neg c10] at H
         have a4 := decide_eq_false c10
         clear c10
         have H' := am H
         clear H
         have p7 : 0 ≤ (a1 : Int) := od
         have q7 : a1 < (a0.size : Int) := od
         have b1 := bt_at a0 a1
         obtain ⟨p7, q7⟩ := ee p7 q7
         have p9 : 0 ≤ (a1 : Int) := od
         have q9 : a1 < (a0.size : Int) := od
         have b4 := bt_at a0 a1
         obtain ⟨p9, q9⟩ := ee p9 q9
         go_wp2
         go_roundg k2
         case measure => have := a9.out; have := b0.out; omega
         case rel => exact ⟨(wrap64 (a1 + 1)), et, H', ⟨by have := a9.out; have := b0.out; omega⟩, dn⟩
      ·rw [if_neg c5] at H
       have a7 := decide_eq_false c5
       clear c5
       obtain rfl := Option.some.inj H
       go_wp2
       go_ret
       exact ⟨et, dn⟩
def spec_l1In.f (a0 : Int) (a1 : Int) (a2 : Int) : Option (Bool) := if a0 ≥ a1 then (some (decide (a0 ≤ a2))) else (some false)
theorem spec_l1In.calls (a0 : Int) (a1 : Int) (a2 : Int) (r : Bool) (w : World) (h : spec_l1In.f a0 a1 a2 = some r) :
  Calls Tryz.prog 84 #[.int .i64 a0, .int .i64 a1, .int .i64 a2] w fun e w' => e = .returned (.bool r) ∧ Drawn0 w w' := by
 have H : (if a0 ≥ a1 then (some (decide (a0 ≤ a2))) else (some false)) = some r := h
 clear h
 by_cases c4 : a0 ≥ a1
 ·rw [if_pos c4] at H
  have a3 := decide_eq_true c4
  clear c4
  obtain rfl := Option.some.inj H
  go_enter Tryz.func84, Tryz.ntmps84
  go_wp2
  go_ret
  exact ⟨et, dn⟩
 ·rw [if_neg c4] at H
  have a3 := decide_eq_false c4
  clear c4
  obtain rfl := Option.some.inj H
  go_enter Tryz.func84, Tryz.ntmps84
  go_wp2
  go_ret
  exact ⟨et, dn⟩
end Go.Proofs.YtbdpnkpienpnaaaGreatDoor.P
