/- A part of the proof of the law FnStrict. -/
import Derived.Test.YtgichahebemmiaaGreatDoorCFnStrict9
import Derived.Test.YtgichahebemmiaaGreatDoorCFnStrict13
namespace Go.Proofs.YtgichahebemmiaaGreatDoor.P
open Go.RowKit Go.Proofs.YtgichahebemmiaaGreatDoorW.PrintWords Go.Proofs.YtgichahebemmiaaGreatDoorW.PrintLast Go.Proofs.YtgichahebemmiaaGreatDoorW.PrintMore
attribute [local go_sem] Ai1 Ah9 Ak5 Ak4 Ah0 Ag9 Ai2 Ai0   -- for this text's walks alone
set_option linter.unusedVariables false
set_option linter.unusedSimpArgs false
def Ac4.f (k : Nat) (l0 : List Int) : Option ((List (S79)) × List Int × List Int × List Int) := (Aq9.f l0).bind fun a0 => ((Ad3.f k a0.1 a0.2).bind fun a1 => ((Af5.f k a0.1 a1.2 a1.1).bind fun a3 => ((Ae1.f a0.1 a3.2 3).bind fun a4 => (if a4.1 = true then ((Ak9.f k a0.1 a4.2 [(⟨a1.1⟩ : S36)]).bind fun a6 => (some (a1.1, a3.1, a6.2.1, a6.1))) else ((Ad8.f a0.1 a4.2 (([4, 8, 14, 24] : List Int))).bind fun a7 => ((Ad8.f a0.1 a7.2 (([0, 2, 3] : List Int))).bind fun a8 => ((Aa8.f k a0.1 a8.2 [(⟨a1.1⟩ : S36)] a7.1 a8.1).bind fun a2 => ((Ad8.f a0.1 a2.2 (([4, 8, 14, 24] : List Int))).bind fun a9 => ((Ad8.f a0.1 a9.2 (([0, 2, 3] : List Int))).bind fun b0 => ((Aa8.f k a0.1 b0.2 [(⟨a1.1⟩ : S36)] a9.1 b0.1).bind fun a5 => ((Ae1.f a0.1 a5.2 4).bind fun b1 => (if b1.1 = true then ((Ad7.f a0.1 b1.2 (a2.1.length : Int)).bind fun b2 => ((Aa8.f k a0.1 b2.2 [(⟨a1.1⟩ : S36)] 2 2).bind fun b4 => ((Ai5.f k a1.1 a2.1 b2.1 b4.1).bind fun b3 => (if b3.1 = 0 then (some (a1.1, a3.1, a2.1, b3.2)) else (some (a1.1, a3.1, a2.1, a5.1)))))) else (some (a1.1, a3.1, a2.1, a5.1))))))))))))))
def Ac4.T6 : Bool × List (List Nat × List Nat) := (true, [([], []), ([], []), ([], []), ([2], [2]), ([], []), ([4], [4]), ([0, 0], [0]), ([1, 6, 0, 1, 6], [1]), ([3, 7, 0, 1, 2, 3, 6, 7], [3]), ([5, 8, 0, 1, 2, 3, 4, 5, 6, 7, 8], [5])])
def Ac4.B6 : List Nat := [0, 0, 0, 4, 0, 16, 1, 67, 207, 511]
theorem Ac4.tab6 : Au3 .any (Au5 Tryz.f42 6) = Ac4.T6 := by kernel_rfl
theorem Ac4.bits6 : Al2 Ac4.T6.2 Ac4.B6 = true := by kernel_rfl
def Ac4.T10 : Bool × List (List Nat × List Nat) := (true, [([], []), ([], []), ([], []), ([], []), ([3], [3]), ([2, 4], [2, 4]), ([], []), ([6, 5], [6]), ([0, 1, 5, 7, 7], [0, 1, 5, 7]), ([], []), ([9, 8, 8, 0, 1, 2, 3, 4, 5, 6, 7, 8, 9], [8, 9])])
def Ac4.B10 : List Nat := [0, 0, 0, 0, 8, 28, 0, 124, 255, 0, 1023]
theorem Ac4.tab10 : Au3 .any (Au5 Tryz.f42 10) = Ac4.T10 := by kernel_rfl
theorem Ac4.bits10 : Al2 Ac4.T10.2 Ac4.B10 = true := by kernel_rfl
set_option maxHeartbeats 8000000 in
set_option maxRecDepth 100000 in
theorem Ac4.calls (k : Nat) (A0 : Option Addr) (c0 : Nat) (l0 : List Int) (r1 : List (S79)) (r2 : List Int) (r3 : List Int) (r4 : List Int) (w : World) (C3 : Kd.C (Kd.int .u8) w A0 l0.length l0) (C4 : l0.length ≤ c0) (h : Ac4.f k l0 = some (r1, r2, r3, r4)) :
  Calls Tryz.prog 42 #[.slice A0 l0.length c0] w fun e w' => ∃ C5 u0 u1 u2 : Value, e = .returned (.tuple #[.agg #[C5], u0, u1, u2]) ∧ Kd.R k79 79 w' w.heap.size (fun _ => True) C5 r1 ∧ Kd.Q (Kd.int .i64) 2 w' w.heap.size (fun k_ => some k_ ≠ (u1 : Value).ownBlock ∧ some k_ ≠ (u2 : Value).ownBlock) u0 r2 ∧ Kd.R (Kd.int .i64) 2 w' w.heap.size (fun k_ => some k_ ≠ (u0 : Value).ownBlock ∧ some k_ ≠ (u2 : Value).ownBlock) u1 r3 ∧ Kd.R (Kd.int .i64) 2 w' w.heap.size (fun k_ => some k_ ≠ (u0 : Value).ownBlock ∧ some k_ ≠ (u1 : Value).ownBlock) u2 r4 ∧ Below w.heap.size w w' := by
 have I2 := Tryz.underlying36
 have I3 := Tryz.underlying30
 have I4 := Tryz.underlying98
 have I5 := am C3
 have I6 := am C4
 clear C3 C4
 have HB := am (Below.refl w.heap.size w)
 have H : ((Aq9.f l0).bind fun e8 => ((Ad3.f k e8.1 e8.2).bind fun g9 => ((Af5.f k e8.1 g9.2 g9.1).bind fun l5 => ((Ae1.f e8.1 l5.2 3).bind fun o1 => (if o1.1 = true then ((Ak9.f k e8.1 o1.2 [(⟨g9.1⟩ : S36)]).bind fun p0 => (some (g9.1, l5.1, p0.2.1, p0.1))) else ((Ad8.f e8.1 o1.2 (([4, 8, 14, 24] : List Int))).bind fun l6 => ((Ad8.f e8.1 l6.2 (([0, 2, 3] : List Int))).bind fun i7 => ((Aa8.f k e8.1 i7.2 [(⟨g9.1⟩ : S36)] l6.1 i7.1).bind fun e1 => ((Ad8.f e8.1 e1.2 (([4, 8, 14, 24] : List Int))).bind fun h0 => ((Ad8.f e8.1 h0.2 (([0, 2, 3] : List Int))).bind fun e9 => ((Aa8.f k e8.1 e9.2 [(⟨g9.1⟩ : S36)] h0.1 e9.1).bind fun e3 => ((Ae1.f e8.1 e3.2 4).bind fun g0 => (if g0.1 = true then ((Ad7.f e8.1 g0.2 (e1.1.length : Int)).bind fun g1 => ((Aa8.f k e8.1 g1.2 [(⟨g9.1⟩ : S36)] 2 2).bind fun h8 => ((Ai5.f k g9.1 e1.1 g1.1 h8.1).bind fun g2 => (if g2.1 = 0 then (some (g9.1, l5.1, e1.1, g2.2)) else (some (g9.1, l5.1, e1.1, e3.1)))))) else (some (g9.1, l5.1, e1.1, e3.1))))))))))))))) = some (r1, r2, r3, r4) := h
 clear h
 obtain ⟨⟨a9, s2⟩, A2, H⟩ := ob H
 try dsimp only at H
 obtain ⟨⟨b0, o2⟩, A3, H⟩ := ob H
 try dsimp only at H
 obtain ⟨⟨h6, s3⟩, A4, H⟩ := ob H
 try dsimp only at H
 obtain ⟨⟨s4, n3⟩, A5, H⟩ := ob H
 try dsimp only at H
 have C6 := am H
 clear H
 go_enter Tryz.func42, Tryz.ntmps42
 go_upto_if 21 with (first | (refine bx 2 rfl #[.slice none 0 0] 36 ?_; intro d6 hg w7 hbox hb; have a1 := am (hbox); have s5 := am (bz hg (hq HB.out)); replace HB := sb HB hb; have C7 := s5; clear hb hbox hg) | (refine gl (some 14) Tryz.func67 rfl #[.slice A0 l0.length c0] ?_; refine (Aq9.calls _ _ l0 a9 s2 w _ (hs HB.out) I5.out I6.out A2.out).mono ?_; rintro e w8 ⟨a7, rfl, hi, hb, j7, hgw⟩; refine ⟨_, rfl, ?_⟩; replace HB := am (hb); have a0 := am (hi); have s0 := am (Aa0.ne_blk hi (Af8 (bq a1.out) j7) (by decide)); have b5 := am (Ne.symm (Aa0.ne_blk hi (Af8 (bq a1.out) j7) (by decide))); replace a1 := am (Af8 (bq a1.out) j7); clear hb j7 hgw hi; (try clear hk)) | (refine gl (some 16) Tryz.func68 rfl #[.pointer (some ⟨a7, 0, none⟩)] ?_; refine (Ad3.calls k a7 a9 s2 b0 o2 w _ (Aa0.q a0.out) (hsk HB.out (Aa0.ge a0.out)) A3.out).mono ?_; rintro e w9 ⟨I7, rfl, c1, hi, hb, hk⟩; refine ⟨_, rfl, ?_⟩; replace a1 := kb hk a1 b5; have a3 := am (Kd.R_lower c1 (Ac5 (hsk HB.out (Aa0.ge a0.out)))); replace HB := am (hb); replace a0 := am (hi); clear hb hk hi c1; (try clear j7); (try clear hgw)) | (refine bx 7 rfl #[.slice none 0 0] 36 ?_; intro d8 hg L0 hbox hb; replace a3 := rb a3 hb; have a2 := am (hbox); have s6 := am (bz hg (hsk HB.out (Aa0.ge a0.out))); replace HB := am (Ad9 (hsk HB.out (Aa0.ge a0.out)) hb); have C8 := s6; have n4 := nl hg a1; have e6 := ng hg a1; replace a1 := bb a1 hb; have e4 := am ((by rw [hg]; exact Nat.ne_of_lt (Aa0.lt (show Aa0 w _ a7 a9 o2 from Aa0.q a0.out)) : a7 ≠ d8)); replace a0 := Aa0.bl a0 hb; have b1 := am e4.out.symm; clear hb hbox hg; obtain ⟨d3, d7, rfl⟩ := Kd.R_slice a3.out; obtain ⟨C9, D0⟩ := nn e6; obtain ⟨D1, D2⟩ := nn b1; have u3 := c0_ a2; have u4 := Aa2 a2.out 0) | (refine gl (some 19) Tryz.func69 rfl #[.pointer (some ⟨a7, 0, none⟩), .agg #[.slice d3 b0.length d7]] ?_; refine (Af5.calls k a7 a9 o2 _ _ b0 h6 s3 w _ (Aa0.q a0.out) (hsk HB.out (Aa0.ge a0.out)) (Kd.C_foot_own (Aa0.apart (show Aa0 w _ a7 a9 o2 from Aa0.q a0.out) (rq ((Kd.R_mono (Kd.R_far (p := ⟨d8, 0, none⟩) (Kd.R_types a3.out a2.out (by decide)) (fun _ hk => hk.2) (.slice d3 b0.length d7)) (fun _ h_ => h_.1)))) (by decide)) (fun _ h_ => h_.2)) ((Kd.R_reads' a3.out).2.1) A4.out).mono ?_; rintro e L1 ⟨j6, rfl, c1, hi, hb, hk⟩; refine ⟨_, rfl, ?_⟩; replace a1 := am (Ab7.blk hk (g' := d6) (o := .cells #[.slice none 0 0] 36 (0, 0)) (bf a1.out) b5.out (by simp)); replace a3 := am (Kd.R_mono (Kd.R_keep (Aa0.apart (show Aa0 w _ a7 a9 o2 from Aa0.q a0.out) (rq ((Kd.R_mono (Kd.R_far (p := ⟨d8, 0, none⟩) (Kd.R_types a3.out a2.out (by decide)) (fun _ hk => hk.2) (.slice d3 b0.length d7)) (fun _ h_ => h_.1)))) (by decide)) hk (fun _ h => h.2)) (fun _ h => h.1)); replace a2 := am (Ab7.blk hk (g' := d8) (o := .cells #[.slice d3 b0.length d7] 36 (0, 0)) (by refine bq ?_; refine Ac7 (cs := #[.slice none 0 0]) ?_ 0 _ rfl; refine bq ?_; exact a2.out) b1.out (by simp)); have a4 := am (Kd.Q_lower c1 (Ac5 (hsk HB.out (Aa0.ge a0.out)))); replace HB := am (hb); replace a0 := am (hi); clear hb hk hi c1; (try clear j7); (try clear hgw)) | (refine gl (some 21) Tryz.func70 rfl #[.pointer (some ⟨a7, 0, none⟩), .int .i64 3] ?_; refine (Ae1.calls a7 a9 s3 3 s4 n3 w _ (Aa0.q a0.out) (hsk HB.out (Aa0.ge a0.out)) A5.out).mono ?_; rintro e L2 ⟨rfl, hi, hb, hk⟩; refine ⟨_, rfl, ?_⟩; replace a1 := kb hk a1 b5; replace a3 := Aa0.rk a0 a3 hk; replace a2 := kb hk a2 b1; replace a4 := Aa0.qk a0 a4 hk; replace HB := am (hb); replace a0 := am (hi); clear hb hk hi; (try clear j7); (try clear hgw)))
 have H := C6.out
 clear C6
 by_cases u5 : s4 = true
 ·subst u5
  rw [if_pos rfl] at H
  obtain ⟨⟨e7, g3, p5⟩, I8, H⟩ := ob H
  try dsimp only at H
  simp only [Option.some.injEq, Prod.mk.injEq] at H
  obtain ⟨rfl, rfl, rfl, rfl⟩ := H
  try go_wp2_with (first | (refine gl (some 23) Tryz.func71 rfl #[.pointer (some ⟨a7, 0, none⟩), .pointer (some ⟨d8, 0, none⟩)] ?_; (with_reducible refine (Ak9.calls k a7 a9 n3 _ [(⟨b0⟩ : S36)] e7 g3 p5 w _ ?side1 ?side2 ?side3 I8.out).mono ?_); (case side1 => exact Aa0.q a0.out); (case side2 => exact hsk HB.out (Aa0.ge a0.out)); (case side3 => exact fun W_ l7 => Ao2 (l7.blk (show (World.heap _)[d8]? = some (.cells #[.slice d3 b0.length d7] 36 (0, 0)) from bq a2.out) (by first | exact b1.out | exact e4.out.symm) (by simp)) ((by exact Kd.C_foot_own (Aa0.apart (show Aa0 w _ a7 a9 n3 from Aa0.q a0.out) (rq a3.out) (by decide)) (fun _ h_ => h_.2) : ∀ W_, Ab7 _ W_ a7 none → Kd.C k79 W_ d3 b0.length b0) W_ l7) (by exact (Kd.R_reads' a3.out).2.1)); rintro e L3 ⟨I9, J0, rfl, c1, z1, hi, hb, hk⟩; refine ⟨_, rfl, ?_⟩; replace a1 := kb hk a1 b5; replace a3 := Aa0.rk a0 a3 hk; replace a2 := kb hk a2 b1; have h4 := am (Kd.R_lower (Kd.R_new' c1 (Kd.Q_lt (qq a4.out))) (Ac5 (hsk HB.out (Aa0.ge a0.out)))); have h5 := am (Kd.R_lower (Kd.R_new' z1 (Kd.Q_lt (qq a4.out))) (Ac5 (hsk HB.out (Aa0.ge a0.out)))); replace a4 := am (Kd.Q_mono (Kd.Q_told (Kd.Q_told (Kd.Q_oldK (Aa0.apartQ (show Aa0 w _ a7 a9 n3 from Aa0.q a0.out) (qq a4.out) (by decide)) hk) (Kd.R_base c1)) (Kd.R_base z1)) (fun _ h_ => h_.1)); replace HB := am (hb); replace a0 := am (hi); clear hb hk hi c1 z1; (try clear j7); (try clear hgw)) | (refine bx 9 rfl #[.slice none 0 0, .slice none 0 0] 30 ?_; intro d0 hg o4 hbox hb; replace a3 := rb a3 hb; replace a4 := am (Kd.Q_below (qq a4.out) hb); replace h4 := rb h4 hb; replace h5 := rb h5 hb; have e5 := am (hbox); have s7 := am (bz hg (hsk HB.out (Aa0.ge a0.out))); replace HB := am (Ad9 (hsk HB.out (Aa0.ge a0.out)) hb); have D3 := s7; have n5 := nl hg a1; have h2 := ng hg a1; replace a1 := bb a1 hb; have s1 := nl hg a2; have n6 := ng hg a2; replace a2 := bb a2 hb; have n7 := am ((by rw [hg]; exact Nat.ne_of_lt (Aa0.lt (show Aa0 w _ a7 a9 p5 from Aa0.q a0.out)) : a7 ≠ d0)); replace a0 := Aa0.bl a0 hb; have n8 := am n7.out.symm; clear hb hbox hg; obtain ⟨g4, g5, rfl⟩ := Kd.R_slice h4.out; obtain ⟨D4, D5⟩ := nn h2; obtain ⟨D6, D7⟩ := nn n6; obtain ⟨D8, D9⟩ := nn n8; have u6 := c0_ e5; have u7 := c1_ e5; have u9 := Aa2 e5.out 0; have v0 := Aa2 e5.out 1; obtain ⟨g6, g7, rfl⟩ := Kd.R_slice h5.out))
  have z2 : Aside0 (Kd.R k79 79 ((o4.setCell ⟨d0, 0, none⟩ (.slice g4 e7.length g5)).setCell ⟨d0, 1, none⟩ (.slice g6 g3.length g7)) w.heap.size (fun _ => True) (.slice d3 b0.length d7) b0) := ⟨rq (Kd.R_mono (Kd.R_far (p := ⟨d0, 1, none⟩) (Kd.R_far (p := ⟨d0, 0, none⟩) (Kd.R_types a3.out e5.out (by decide)) (fun _ hk => hk.2) (.slice g4 e7.length g5)) (fun _ hk => hk.2) (.slice g6 g3.length g7)) (fun _ hk => trivial))⟩
  have z3 : Aside0 (Kd.Q (Kd.int .i64) 2 ((o4.setCell ⟨d0, 0, none⟩ (.slice g4 e7.length g5)).setCell ⟨d0, 1, none⟩ (.slice g6 g3.length g7)) w.heap.size (fun k_ => some k_ ≠ (.slice g4 e7.length g5 : Value).ownBlock ∧ some k_ ≠ (.slice g6 g3.length g7 : Value).ownBlock) j6 h6) := ⟨by (with_reducible repeat (first | apply Kd.Q_alloc | apply Kd.Q_drewN | apply Kd.Q_drew)); exact Kd.Q_mono (Kd.Q_far (p := ⟨d0, 1, none⟩) (Kd.Q_far (p := ⟨d0, 0, none⟩) (Kd.Q_types a4.out e5.out (by decide)) (fun _ hk => hk.2) (.slice g4 e7.length g5)) (fun _ hk => hk.2) (.slice g6 g3.length g7)) (fun _ hk => by first | exact ⟨hk.1.1.2, hk.1.2⟩ | exact ⟨hk.1.2, hk.1.1.2⟩ | trivial)⟩
  have z4 : Aside0 (Kd.R (Kd.int .i64) 2 ((o4.setCell ⟨d0, 0, none⟩ (.slice g4 e7.length g5)).setCell ⟨d0, 1, none⟩ (.slice g6 g3.length g7)) w.heap.size (fun k_ => some k_ ≠ (j6 : Value).ownBlock ∧ some k_ ≠ (.slice g6 g3.length g7 : Value).ownBlock) (.slice g4 e7.length g5) e7) := ⟨by (with_reducible repeat (first | apply Kd.R_alloc | apply Kd.R_drewN | apply Kd.R_drew)); exact Kd.R_mono (Kd.R_far (p := ⟨d0, 1, none⟩) (Kd.R_far (p := ⟨d0, 0, none⟩) (Kd.R_types h4.out e5.out (by decide)) (fun _ hk => hk.2) (.slice g4 e7.length g5)) (fun _ hk => hk.2) (.slice g6 g3.length g7)) (fun _ hk => by first | exact ⟨hk.1.2, hk.1.1⟩ | exact ⟨hk.1.1, hk.1.2⟩ | trivial)⟩
  have z5 : Aside0 (Kd.R (Kd.int .i64) 2 ((o4.setCell ⟨d0, 0, none⟩ (.slice g4 e7.length g5)).setCell ⟨d0, 1, none⟩ (.slice g6 g3.length g7)) w.heap.size (fun k_ => some k_ ≠ (j6 : Value).ownBlock ∧ some k_ ≠ (.slice g4 e7.length g5 : Value).ownBlock) (.slice g6 g3.length g7) g3) := ⟨by (with_reducible repeat (first | apply Kd.R_alloc | apply Kd.R_drewN | apply Kd.R_drew)); exact Kd.R_mono (Kd.R_far (p := ⟨d0, 1, none⟩) (Kd.R_far (p := ⟨d0, 0, none⟩) (Kd.R_types h5.out e5.out (by decide)) (fun _ hk => hk.2) (.slice g4 e7.length g5)) (fun _ hk => hk.2) (.slice g6 g3.length g7)) (fun _ hk => by first | exact ⟨hk.1.2, hk.1.1⟩ | exact ⟨hk.1.1, hk.1.2⟩ | trivial)⟩
  have z6 : Aside0 (((o4.setCell ⟨d0, 0, none⟩ (.slice g4 e7.length g5)).setCell ⟨d0, 1, none⟩ (.slice g6 g3.length g7)).heap[d6]? = some (.cells #[.slice none 0 0] 36 (0, 0))) := ⟨bf a1.out⟩
  have z7 : Aside0 (((o4.setCell ⟨d0, 0, none⟩ (.slice g4 e7.length g5)).setCell ⟨d0, 1, none⟩ (.slice g6 g3.length g7)).heap[d8]? = some (.cells #[.slice d3 b0.length d7] 36 (0, 0))) := ⟨bf a2.out⟩
  have z8 : Aside0 (((o4.setCell ⟨d0, 0, none⟩ (.slice g4 e7.length g5)).setCell ⟨d0, 1, none⟩ (.slice g6 g3.length g7)).heap[d0]? = some (.cells #[.slice g4 e7.length g5, .slice g6 g3.length g7] 30 (0, 0))) := ⟨by refine bq ?_; refine Ac7 (cs := #[.slice g4 e7.length g5, .slice none 0 0]) ?_ 1 _ rfl; refine bq ?_; refine Ac7 (cs := #[.slice none 0 0, .slice none 0 0]) ?_ 0 _ rfl; refine bq ?_; exact e5.out⟩
  have z9 : Aside0 (Aa0 w ((o4.setCell ⟨d0, 0, none⟩ (.slice g4 e7.length g5)).setCell ⟨d0, 1, none⟩ (.slice g6 g3.length g7)) a7 a9 p5) := ⟨Aa0.q a0.out⟩
  have A1 : Aside0 (Below w.heap.size w ((o4.setCell ⟨d0, 0, none⟩ (.slice g4 e7.length g5)).setCell ⟨d0, 1, none⟩ (.slice g6 g3.length g7))) := ⟨hsk HB.out (Aa0.ge a0.out)⟩
  (try clear a3)
  (try clear a4)
  (try clear h4)
  (try clear h5)
  (try clear a1)
  (try clear a2)
  (try clear e5)
  (try clear a0)
  (try clear HB)
  generalize ((o4.setCell ⟨d0, 0, none⟩ (.slice g4 e7.length g5)).setCell ⟨d0, 1, none⟩ (.slice g6 g3.length g7)) = J1 at z2 z3 z4 z5 z6 z7 z8 z9 A1 ⊢
  have a3 := z2
  have a4 := z3
  have h4 := z4
  have h5 := z5
  have a1 := z6
  have a2 := z7
  have e5 := z8
  have a0 := z9
  have HB := A1
  clear z2 z3 z4 z5 z6 z7 z8 z9 A1
  replace a3 := am (Kd.R_drew a3.out)
  replace a4 := am (Kd.Q_drew a4.out)
  replace h4 := am (Kd.R_drew h4.out)
  replace h5 := am (Kd.R_drew h5.out)
  replace a1 := am (Ah2 a1.out)
  replace a2 := am (Ah2 a2.out)
  replace e5 := am (Ah2 e5.out)
  replace a0 := am (Aa0.drew a0.out)
  replace HB := am (Af1 HB.out)
  refine st_ (n := 10) (S := fun w' => w'.cell? ⟨d8, 0, none⟩ = some (.slice d3 b0.length d7) ∧ w'.cell? ⟨d0, 0, none⟩ = some (.slice g4 e7.length g5) ∧ w'.cell? ⟨d0, 1, none⟩ = some (.slice g6 g3.length g7)) (ds := []) ⟨(Ad1 a2.out 0).trans rfl, (Ad1 e5.out 0).trans rfl, (Ad1 e5.out 1).trans rfl⟩ (fun hHeld => ?_); refine Ah6 Ac4.tab6 Ac4.bits6 (fun h7 s8 => ?_)
  generalize J1.drew = J2 at a3 a4 h4 h5 a1 a2 e5 a0 HB hHeld ⊢
  refine pu 1 25 rfl rfl h7 ?_
  refine pu 2 26 rfl rfl h7 ?_
  refine pu 4 28 rfl rfl h7 ?_
  refine tk 0 24 rfl rfl h7 s8 hHeld ?_
  refine tk 3 27 rfl rfl h7 s8 hHeld ?_
  refine tk 5 29 rfl rfl h7 s8 hHeld ?_
  refine on_ 6 none rfl rfl h7 (fun K hK => ?_)
  have J3 : J2.cell? ⟨d6, 0, none⟩ = some (.slice none 0 0) := (Ad1 a1.out 0).trans rfl
  have E0 := Aa2 a1.out 0
  have v2 := e6.out
  have v3 := h2.out
  have v4 := n4.out
  have v5 := n5.out
  refine Be5 (w1 := ?_) (by rfl) rfl ?_ ?_
  rotate_left
  ·go_simp
   rfl
  refine hK.out _ _ ⟨((Ai9 (p := ⟨d6, _, none⟩) e6.out _).trans (hHeld.1)), ((Ai9 (p := ⟨d6, _, none⟩) h2.out _).trans (hHeld.2.1)), ((Ai9 (p := ⟨d6, _, none⟩) h2.out _).trans (hHeld.2.2))⟩ (fun hHeld => ?_)
  clear hK K
  refine pu 7 3 rfl rfl h7 ?_
  refine pu 8 4 rfl rfl h7 ?_
  refine pu 9 5 rfl rfl h7 ?_
  refine Ar3 (Al8 h7.out (by kernel_rfl)) ?_
  try go_wp2
  refine bodyPost_ret (At6 (rs := [.cell 2 36, .tmp 3, .tmp 4, .tmp 5]) rfl (by simp) (.cell d6 36 #[.slice d3 b0.length d7] (0, 0) _ rfl (by refine bq ?_; refine Ac7 (cs := #[.slice none 0 0]) ?_ 0 _ rfl; refine bq ?_; exact a1.out) Tryz.underlying36 rfl (by kernel_rfl) (.tmp (.tmp (.tmp .nil))))) rfl ?_
  exact ⟨_, _, _, _, er, rq (Kd.R_mono (Kd.R_far (p := ⟨d6, 0, none⟩) (Kd.R_types a3.out a1.out (by decide)) (fun _ hk => hk.2) (.slice d3 b0.length d7)) (fun _ hk => trivial)), by (with_reducible repeat (first | apply Kd.Q_alloc | apply Kd.Q_drewN | apply Kd.Q_drew)); exact Kd.Q_mono (Kd.Q_far (p := ⟨d6, 0, none⟩) (Kd.Q_types a4.out a1.out (by decide)) (fun _ hk => hk.2) (.slice d3 b0.length d7)) (fun _ hk => by first | exact ⟨hk.1.2, hk.1.1⟩ | exact ⟨hk.1.1, hk.1.2⟩ | trivial), by (with_reducible repeat (first | apply Kd.R_alloc | apply Kd.R_drewN | apply Kd.R_drew)); exact Kd.R_mono (Kd.R_far (p := ⟨d6, 0, none⟩) (Kd.R_types h5.out a1.out (by decide)) (fun _ hk => hk.2) (.slice d3 b0.length d7)) (fun _ hk => by first | exact ⟨hk.1.1, hk.1.2⟩ | exact ⟨hk.1.2, hk.1.1⟩ | trivial), by (with_reducible repeat (first | apply Kd.R_alloc | apply Kd.R_drewN | apply Kd.R_drew)); exact Kd.R_mono (Kd.R_far (p := ⟨d6, 0, none⟩) (Kd.R_types h4.out a1.out (by decide)) (fun _ hk => hk.2) (.slice d3 b0.length d7)) (fun _ hk => by first | exact ⟨hk.1.1, hk.1.2⟩ | exact ⟨hk.1.2, hk.1.1⟩ | trivial), hsk HB.out (Aa0.ge a0.out)⟩
 ·replace u5 := Bool.eq_false_iff.mpr u5
  subst u5
  rw [if_neg (show ¬ (false = true) by decide)] at H
  obtain ⟨i0, m7⟩ : ∃ y_ : List Int, y_ = (([4, 8, 14, 24] : List Int)) := ⟨_, rfl⟩
  replace H : ((Ad8.f a9 n3 i0).bind fun l6 => ((Ad8.f a9 l6.2 (([0, 2, 3] : List Int))).bind fun i7 => ((Aa8.f k a9 i7.2 [(⟨b0⟩ : S36)] l6.1 i7.1).bind fun e1 => ((Ad8.f a9 e1.2 (([4, 8, 14, 24] : List Int))).bind fun h0 => ((Ad8.f a9 h0.2 (([0, 2, 3] : List Int))).bind fun e9 => ((Aa8.f k a9 e9.2 [(⟨b0⟩ : S36)] h0.1 e9.1).bind fun e3 => ((Ae1.f a9 e3.2 4).bind fun g0 => (if g0.1 = true then ((Ad7.f a9 g0.2 (e1.1.length : Int)).bind fun g1 => ((Aa8.f k a9 g1.2 [(⟨b0⟩ : S36)] 2 2).bind fun h8 => ((Ai5.f k b0 e1.1 g1.1 h8.1).bind fun g2 => (if g2.1 = 0 then (some (b0, h6, e1.1, g2.2)) else (some (b0, h6, e1.1, e3.1)))))) else (some (b0, h6, e1.1, e3.1)))))))))) = some (r1, r2, r3, r4) := by first | (rw [m7]; first | with_reducible exact H | with_reducible exact bs H) | with_reducible exact bs H | with_reducible exact H | (rw [m7]; exact H) | exact H
  have p1 := am m7
  clear m7
  obtain ⟨⟨o5, p6⟩, J4, H⟩ := ob H
  try dsimp only at H
  obtain ⟨i1, m8⟩ : ∃ y_ : List Int, y_ = (([0, 2, 3] : List Int)) := ⟨_, rfl⟩
  replace H : ((Ad8.f a9 p6 i1).bind fun i7 => ((Aa8.f k a9 i7.2 [(⟨b0⟩ : S36)] o5 i7.1).bind fun e1 => ((Ad8.f a9 e1.2 (([4, 8, 14, 24] : List Int))).bind fun h0 => ((Ad8.f a9 h0.2 (([0, 2, 3] : List Int))).bind fun e9 => ((Aa8.f k a9 e9.2 [(⟨b0⟩ : S36)] h0.1 e9.1).bind fun e3 => ((Ae1.f a9 e3.2 4).bind fun g0 => (if g0.1 = true then ((Ad7.f a9 g0.2 (e1.1.length : Int)).bind fun g1 => ((Aa8.f k a9 g1.2 [(⟨b0⟩ : S36)] 2 2).bind fun h8 => ((Ai5.f k b0 e1.1 g1.1 h8.1).bind fun g2 => (if g2.1 = 0 then (some (b0, h6, e1.1, g2.2)) else (some (b0, h6, e1.1, e3.1)))))) else (some (b0, h6, e1.1, e3.1))))))))) = some (r1, r2, r3, r4) := by first | (rw [m8]; first | with_reducible exact H | with_reducible exact bs H) | with_reducible exact bs H | with_reducible exact H | (rw [m8]; exact H) | exact H
  have p2 := am m8
  clear m8
  obtain ⟨⟨p7, n9⟩, J5, H⟩ := ob H
  try dsimp only at H
  obtain ⟨⟨d9, p8⟩, J6, H⟩ := ob H
  try dsimp only at H
  obtain ⟨i2, m9⟩ : ∃ y_ : List Int, y_ = (([4, 8, 14, 24] : List Int)) := ⟨_, rfl⟩
  replace H : ((Ad8.f a9 p8 i2).bind fun h0 => ((Ad8.f a9 h0.2 (([0, 2, 3] : List Int))).bind fun e9 => ((Aa8.f k a9 e9.2 [(⟨b0⟩ : S36)] h0.1 e9.1).bind fun e3 => ((Ae1.f a9 e3.2 4).bind fun g0 => (if g0.1 = true then ((Ad7.f a9 g0.2 (d9.length : Int)).bind fun g1 => ((Aa8.f k a9 g1.2 [(⟨b0⟩ : S36)] 2 2).bind fun h8 => ((Ai5.f k b0 d9 g1.1 h8.1).bind fun g2 => (if g2.1 = 0 then (some (b0, h6, d9, g2.2)) else (some (b0, h6, d9, e3.1)))))) else (some (b0, h6, d9, e3.1))))))) = some (r1, r2, r3, r4) := by first | (rw [m9]; first | with_reducible exact H | with_reducible exact bs H) | with_reducible exact bs H | with_reducible exact H | (rw [m9]; exact H) | exact H
  have p3 := am m9
  clear m9
  obtain ⟨⟨o6, p9⟩, J7, H⟩ := ob H
  try dsimp only at H
  obtain ⟨i3, n0⟩ : ∃ y_ : List Int, y_ = (([0, 2, 3] : List Int)) := ⟨_, rfl⟩
  replace H : ((Ad8.f a9 p9 i3).bind fun e9 => ((Aa8.f k a9 e9.2 [(⟨b0⟩ : S36)] o6 e9.1).bind fun e3 => ((Ae1.f a9 e3.2 4).bind fun g0 => (if g0.1 = true then ((Ad7.f a9 g0.2 (d9.length : Int)).bind fun g1 => ((Aa8.f k a9 g1.2 [(⟨b0⟩ : S36)] 2 2).bind fun h8 => ((Ai5.f k b0 d9 g1.1 h8.1).bind fun g2 => (if g2.1 = 0 then (some (b0, h6, d9, g2.2)) else (some (b0, h6, d9, e3.1)))))) else (some (b0, h6, d9, e3.1)))))) = some (r1, r2, r3, r4) := by first | (rw [n0]; first | with_reducible exact H | with_reducible exact bs H) | with_reducible exact bs H | with_reducible exact H | (rw [n0]; exact H) | exact H
  have p4 := am n0
  clear n0
  obtain ⟨⟨q0, k8⟩, J8, H⟩ := ob H
  try dsimp only at H
  obtain ⟨⟨s9, t0⟩, J9, H⟩ := ob H
  try dsimp only at H
  obtain ⟨⟨t1, o3⟩, K0, H⟩ := ob H
  try dsimp only at H
  have t2 := am H
  clear H
  go_upto_if 47 with (first | (refine rl 32 rfl 2 [4, 8, 14, 24] ?_; intro K1 L4 o0 hb q1 hnew_; clear q1 hnew_; (first | rw [← p1.out] at o0 | (simp only [Int.reduceToNat] at o0; rw [← p1.out] at o0)); replace a3 := rb a3 hb; have a5 := am (Kd.R_lower (Kd.R_new' o0 (Kd.Q_lt (qq a4.out))) (Ac5 (hsk HB.out (Aa0.ge a0.out)))); replace a4 := am (Kd.Q_elder' (qq a4.out) (Kd.R_base o0) hb); replace a1 := bb a1 hb; replace a2 := bb a2 hb; replace HB := am (Ad9 (hsk HB.out (Aa0.ge a0.out)) hb); replace a0 := Aa0.bl a0 hb; clear hb o0; obtain ⟨j9, k0, rfl⟩ := Kd.R_slice a5.out) | (refine gl (some 33) Tryz.func73 rfl #[.pointer (some ⟨a7, 0, none⟩), .slice j9 i0.length k0] ?_; refine (Ad8.calls a7 a9 n3 _ _ i0 o5 p6 w _ (Aa0.q a0.out) (hsk HB.out (Aa0.ge a0.out)) (cq (Kd.R_reads' a5.out).2.2) ((Kd.R_reads' a5.out).2.1) (Aq8 (Aa0.own_ne a0.out a5.out (by decide))) J4.out).mono ?_; rintro e L5 ⟨rfl, hi, hb, hk⟩; refine ⟨_, rfl, ?_⟩; replace a1 := kb hk a1 b5; replace a3 := Aa0.rk a0 a3 hk; replace a2 := kb hk a2 b1; replace a4 := Aa0.qk a0 a4 hk; replace a5 := Aa0.rk a0 a5 hk; replace HB := am (hb); replace a0 := am (hi); clear hb hk hi; (try clear j7); (try clear hgw)) | (refine rl 35 rfl 2 [0, 2, 3] ?_; intro K2 L6 m6 hb q1 hnew_; clear q1 hnew_; (first | rw [← p2.out] at m6 | (simp only [Int.reduceToNat] at m6; rw [← p2.out] at m6)); replace a3 := rb a3 hb; have a8 := am (Kd.R_lower (Kd.R_new' (Kd.R_new' m6 (Kd.Q_lt (qq a4.out))) (Kd.R_lt (rq a5.out))) (Ac5 (hsk HB.out (Aa0.ge a0.out)))); replace a4 := am (Kd.Q_elder' (qq a4.out) (Kd.R_base m6) hb); replace a5 := am (Kd.R_elder' (rq a5.out) (Kd.R_base m6) hb); replace a1 := bb a1 hb; replace a2 := bb a2 hb; replace HB := am (Ad9 (hsk HB.out (Aa0.ge a0.out)) hb); replace a0 := Aa0.bl a0 hb; clear hb m6; obtain ⟨k1, k2, rfl⟩ := Kd.R_slice a8.out) | (refine gl (some 36) Tryz.func73 rfl #[.pointer (some ⟨a7, 0, none⟩), .slice k1 i1.length k2] ?_; refine (Ad8.calls a7 a9 p6 _ _ i1 p7 n9 w _ (Aa0.q a0.out) (hsk HB.out (Aa0.ge a0.out)) (cq (Kd.R_reads' a8.out).2.2) ((Kd.R_reads' a8.out).2.1) (Aq8 (Aa0.own_ne a0.out a8.out (by decide))) J5.out).mono ?_; rintro e L7 ⟨rfl, hi, hb, hk⟩; refine ⟨_, rfl, ?_⟩; replace a1 := kb hk a1 b5; replace a3 := Aa0.rk a0 a3 hk; replace a2 := kb hk a2 b1; replace a4 := Aa0.qk a0 a4 hk; replace a5 := Aa0.rk a0 a5 hk; replace a8 := Aa0.rk a0 a8 hk; replace HB := am (hb); replace a0 := am (hi); clear hb hk hi; (try clear j7); (try clear hgw)) | (refine gl (some 37) Tryz.func72 rfl #[.pointer (some ⟨a7, 0, none⟩), .pointer (some ⟨d8, 0, none⟩), .int .i64 o5, .int .i64 p7] ?_; (with_reducible refine (Aa8.calls k a7 a9 n9 _ [(⟨b0⟩ : S36)] o5 p7 d9 p8 w _ ?side1 ?side2 ?side3 J6.out).mono ?_); (case side1 => exact Aa0.q a0.out); (case side2 => exact hsk HB.out (Aa0.ge a0.out)); (case side3 => exact fun W_ l7 => Ao2 (l7.blk (show (World.heap _)[d8]? = some (.cells #[.slice d3 b0.length d7] 36 (0, 0)) from bq a2.out) (by first | exact b1.out | exact e4.out.symm) (by simp)) ((by exact Kd.C_foot_own (Aa0.apart (show Aa0 w _ a7 a9 n9 from Aa0.q a0.out) (rq a3.out) (by decide)) (fun _ h_ => h_.2) : ∀ W_, Ab7 _ W_ a7 none → Kd.C k79 W_ d3 b0.length b0) W_ l7) (by exact (Kd.R_reads' a3.out).2.1)); rintro e L8 ⟨K3, rfl, c1, hi, hb, hk⟩; refine ⟨_, rfl, ?_⟩; replace a1 := kb hk a1 b5; replace a3 := Aa0.rk a0 a3 hk; replace a2 := kb hk a2 b1; have a6 := am (Kd.R_lower (Kd.R_new' (Kd.R_new' (Kd.R_new' c1 (Kd.Q_lt (qq a4.out))) (Kd.R_lt (rq a5.out))) (Kd.R_lt (rq a8.out))) (Ac5 (hsk HB.out (Aa0.ge a0.out)))); replace a4 := am (Kd.Q_mono (Kd.Q_told (Kd.Q_oldK (Aa0.apartQ (show Aa0 w _ a7 a9 n9 from Aa0.q a0.out) (qq a4.out) (by decide)) hk) (Kd.R_base c1)) (fun _ h_ => h_.1)); replace a5 := am (Kd.R_mono (Kd.R_told (Kd.R_oldK (Aa0.apart (show Aa0 w _ a7 a9 n9 from Aa0.q a0.out) (rq a5.out) (by decide)) hk) (Kd.R_base c1)) (fun _ h_ => h_.1)); replace a8 := am (Kd.R_mono (Kd.R_told (Kd.R_oldK (Aa0.apart (show Aa0 w _ a7 a9 n9 from Aa0.q a0.out) (rq a8.out) (by decide)) hk) (Kd.R_base c1)) (fun _ h_ => h_.1)); replace HB := am (hb); replace a0 := am (hi); clear hb hk hi c1; (try clear j7); (try clear hgw)) | (refine rl 40 rfl 2 [4, 8, 14, 24] ?_; intro K4 L9 k9 hb q1 hnew_; clear q1 hnew_; (first | rw [← p3.out] at k9 | (simp only [Int.reduceToNat] at k9; rw [← p3.out] at k9)); replace a3 := rb a3 hb; have b2 := am (Kd.R_lower (Kd.R_new' (Kd.R_new' (Kd.R_new' (Kd.R_new' k9 (Kd.Q_lt (qq a4.out))) (Kd.R_lt (rq a5.out))) (Kd.R_lt (rq a8.out))) (Kd.R_lt (rq a6.out))) (Ac5 (hsk HB.out (Aa0.ge a0.out)))); replace a4 := am (Kd.Q_elder' (qq a4.out) (Kd.R_base k9) hb); replace a5 := am (Kd.R_elder' (rq a5.out) (Kd.R_base k9) hb); replace a8 := am (Kd.R_elder' (rq a8.out) (Kd.R_base k9) hb); replace a6 := am (Kd.R_elder' (rq a6.out) (Kd.R_base k9) hb); replace a1 := bb a1 hb; replace a2 := bb a2 hb; replace HB := am (Ad9 (hsk HB.out (Aa0.ge a0.out)) hb); replace a0 := Aa0.bl a0 hb; clear hb k9; obtain ⟨k3, k4, rfl⟩ := Kd.R_slice b2.out) | (refine gl (some 41) Tryz.func73 rfl #[.pointer (some ⟨a7, 0, none⟩), .slice k3 i2.length k4] ?_; refine (Ad8.calls a7 a9 p8 _ _ i2 o6 p9 w _ (Aa0.q a0.out) (hsk HB.out (Aa0.ge a0.out)) (cq (Kd.R_reads' b2.out).2.2) ((Kd.R_reads' b2.out).2.1) (Aq8 (Aa0.own_ne a0.out b2.out (by decide))) J7.out).mono ?_; rintro e M0 ⟨rfl, hi, hb, hk⟩; refine ⟨_, rfl, ?_⟩; replace a1 := kb hk a1 b5; replace a3 := Aa0.rk a0 a3 hk; replace a2 := kb hk a2 b1; replace a4 := Aa0.qk a0 a4 hk; replace a5 := Aa0.rk a0 a5 hk; replace a8 := Aa0.rk a0 a8 hk; replace a6 := Aa0.rk a0 a6 hk; replace b2 := Aa0.rk a0 b2 hk; replace HB := am (hb); replace a0 := am (hi); clear hb hk hi; (try clear j7); (try clear hgw)) | (refine rl 43 rfl 2 [0, 2, 3] ?_; intro K5 M1 k5 hb q1 hnew_; clear q1 hnew_; (first | rw [← p4.out] at k5 | (simp only [Int.reduceToNat] at k5; rw [← p4.out] at k5)); replace a3 := rb a3 hb; have b3 := am (Kd.R_lower (Kd.R_new' (Kd.R_new' (Kd.R_new' (Kd.R_new' (Kd.R_new' k5 (Kd.Q_lt (qq a4.out))) (Kd.R_lt (rq a5.out))) (Kd.R_lt (rq a8.out))) (Kd.R_lt (rq a6.out))) (Kd.R_lt (rq b2.out))) (Ac5 (hsk HB.out (Aa0.ge a0.out)))); replace a4 := am (Kd.Q_elder' (qq a4.out) (Kd.R_base k5) hb); replace a5 := am (Kd.R_elder' (rq a5.out) (Kd.R_base k5) hb); replace a8 := am (Kd.R_elder' (rq a8.out) (Kd.R_base k5) hb); replace a6 := am (Kd.R_elder' (rq a6.out) (Kd.R_base k5) hb); replace b2 := am (Kd.R_elder' (rq b2.out) (Kd.R_base k5) hb); replace a1 := bb a1 hb; replace a2 := bb a2 hb; replace HB := am (Ad9 (hsk HB.out (Aa0.ge a0.out)) hb); replace a0 := Aa0.bl a0 hb; clear hb k5; obtain ⟨k6, k7, rfl⟩ := Kd.R_slice b3.out) | (refine gl (some 44) Tryz.func73 rfl #[.pointer (some ⟨a7, 0, none⟩), .slice k6 i3.length k7] ?_; refine (Ad8.calls a7 a9 p9 _ _ i3 q0 k8 w _ (Aa0.q a0.out) (hsk HB.out (Aa0.ge a0.out)) (cq (Kd.R_reads' b3.out).2.2) ((Kd.R_reads' b3.out).2.1) (Aq8 (Aa0.own_ne a0.out b3.out (by decide))) J8.out).mono ?_; rintro e M2 ⟨rfl, hi, hb, hk⟩; refine ⟨_, rfl, ?_⟩; replace a1 := kb hk a1 b5; replace a3 := Aa0.rk a0 a3 hk; replace a2 := kb hk a2 b1; replace a4 := Aa0.qk a0 a4 hk; replace a5 := Aa0.rk a0 a5 hk; replace a8 := Aa0.rk a0 a8 hk; replace a6 := Aa0.rk a0 a6 hk; replace b2 := Aa0.rk a0 b2 hk; replace b3 := Aa0.rk a0 b3 hk; replace HB := am (hb); replace a0 := am (hi); clear hb hk hi; (try clear j7); (try clear hgw)) | (refine gl (some 45) Tryz.func72 rfl #[.pointer (some ⟨a7, 0, none⟩), .pointer (some ⟨d8, 0, none⟩), .int .i64 o6, .int .i64 q0] ?_; (with_reducible refine (Aa8.calls k a7 a9 k8 _ [(⟨b0⟩ : S36)] o6 q0 s9 t0 w _ ?side1 ?side2 ?side3 J9.out).mono ?_); (case side1 => exact Aa0.q a0.out); (case side2 => exact hsk HB.out (Aa0.ge a0.out)); (case side3 => exact fun W_ l7 => Ao2 (l7.blk (show (World.heap _)[d8]? = some (.cells #[.slice d3 b0.length d7] 36 (0, 0)) from bq a2.out) (by first | exact b1.out | exact e4.out.symm) (by simp)) ((by exact Kd.C_foot_own (Aa0.apart (show Aa0 w _ a7 a9 k8 from Aa0.q a0.out) (rq a3.out) (by decide)) (fun _ h_ => h_.2) : ∀ W_, Ab7 _ W_ a7 none → Kd.C k79 W_ d3 b0.length b0) W_ l7) (by exact (Kd.R_reads' a3.out).2.1)); rintro e M3 ⟨l4, rfl, c1, hi, hb, hk⟩; refine ⟨_, rfl, ?_⟩; replace a1 := kb hk a1 b5; replace a3 := Aa0.rk a0 a3 hk; replace a2 := kb hk a2 b1; have b4 := am (Kd.R_lower (Kd.R_new' (Kd.R_new' (Kd.R_new' (Kd.R_new' (Kd.R_new' (Kd.R_new' c1 (Kd.Q_lt (qq a4.out))) (Kd.R_lt (rq a5.out))) (Kd.R_lt (rq a8.out))) (Kd.R_lt (rq a6.out))) (Kd.R_lt (rq b2.out))) (Kd.R_lt (rq b3.out))) (Ac5 (hsk HB.out (Aa0.ge a0.out)))); replace a4 := am (Kd.Q_mono (Kd.Q_told (Kd.Q_oldK (Aa0.apartQ (show Aa0 w _ a7 a9 k8 from Aa0.q a0.out) (qq a4.out) (by decide)) hk) (Kd.R_base c1)) (fun _ h_ => h_.1)); replace a5 := am (Kd.R_mono (Kd.R_told (Kd.R_oldK (Aa0.apart (show Aa0 w _ a7 a9 k8 from Aa0.q a0.out) (rq a5.out) (by decide)) hk) (Kd.R_base c1)) (fun _ h_ => h_.1)); replace a8 := am (Kd.R_mono (Kd.R_told (Kd.R_oldK (Aa0.apart (show Aa0 w _ a7 a9 k8 from Aa0.q a0.out) (rq a8.out) (by decide)) hk) (Kd.R_base c1)) (fun _ h_ => h_.1)); replace a6 := am (Kd.R_mono (Kd.R_told (Kd.R_oldK (Aa0.apart (show Aa0 w _ a7 a9 k8 from Aa0.q a0.out) (rq a6.out) (by decide)) hk) (Kd.R_base c1)) (fun _ h_ => h_.1)); replace b2 := am (Kd.R_mono (Kd.R_told (Kd.R_oldK (Aa0.apart (show Aa0 w _ a7 a9 k8 from Aa0.q a0.out) (rq b2.out) (by decide)) hk) (Kd.R_base c1)) (fun _ h_ => h_.1)); replace b3 := am (Kd.R_mono (Kd.R_told (Kd.R_oldK (Aa0.apart (show Aa0 w _ a7 a9 k8 from Aa0.q a0.out) (rq b3.out) (by decide)) hk) (Kd.R_base c1)) (fun _ h_ => h_.1)); replace HB := am (hb); replace a0 := am (hi); clear hb hk hi c1; (try clear j7); (try clear hgw)) | (refine gl (some 47) Tryz.func70 rfl #[.pointer (some ⟨a7, 0, none⟩), .int .i64 4] ?_; refine (Ae1.calls a7 a9 t0 4 t1 o3 w _ (Aa0.q a0.out) (hsk HB.out (Aa0.ge a0.out)) K0.out).mono ?_; rintro e K6 ⟨rfl, hi, hb, hk⟩; refine ⟨_, rfl, ?_⟩; replace a1 := kb hk a1 b5; replace a3 := Aa0.rk a0 a3 hk; replace a2 := kb hk a2 b1; replace a4 := Aa0.qk a0 a4 hk; replace a5 := Aa0.rk a0 a5 hk; replace a8 := Aa0.rk a0 a8 hk; replace a6 := Aa0.rk a0 a6 hk; replace b2 := Aa0.rk a0 b2 hk; replace b3 := Aa0.rk a0 b3 hk; replace b4 := Aa0.rk a0 b4 hk; replace HB := am (hb); replace a0 := am (hi); clear hb hk hi; (try clear j7); (try clear hgw)))
  have H := t2.out
  clear t2
  by_cases v6 : t1 = true
  ·subst v6
   rw [if_pos rfl] at H
   obtain ⟨⟨j8, e0⟩, E1, H⟩ := ob H
   try dsimp only at H
   obtain ⟨⟨h3, l8⟩, A6, H⟩ := ob H
   try dsimp only at H
   obtain ⟨⟨h9, i4⟩, v7, H⟩ := ob H
   try dsimp only at H
   have t3 := am H
   clear H
   obtain ⟨i5, i6, A7⟩ := Kd.R_slice a6.out
   subst A7
   try go_wp2
   replace a3 := am (Kd.R_drew a3.out)
   replace a4 := am (Kd.Q_drew a4.out)
   replace a5 := am (Kd.R_drew a5.out)
   replace a8 := am (Kd.R_drew a8.out)
   replace a6 := am (Kd.R_drew a6.out)
   replace b2 := am (Kd.R_drew b2.out)
   replace b3 := am (Kd.R_drew b3.out)
   replace b4 := am (Kd.R_drew b4.out)
   replace a1 := am (Ah2 a1.out)
   replace a2 := am (Ah2 a2.out)
   replace a0 := am (Aa0.drew a0.out)
   replace HB := am (Af1 HB.out)
   refine st_ (n := 11) (S := fun w' => w'.cell? ⟨d8, 0, none⟩ = some (.slice d3 b0.length d7)) (ds := []) ((Ad1 a2.out 0).trans rfl) (fun hHeld => ?_); refine Ah6 Ac4.tab10 Ac4.bits10 (fun h7 s8 => ?_)
   generalize K6.drew = M4 at a3 a4 a5 a8 a6 b2 b3 b4 a1 a2 a0 HB hHeld ⊢
   refine pu 1 49 rfl rfl h7 ?_
   refine pu 2 50 rfl rfl h7 ?_
   refine pu 3 51 rfl rfl h7 ?_
   refine pu 4 52 rfl rfl h7 ?_
   refine pu 6 54 rfl rfl h7 ?_
   refine tk 0 48 rfl rfl h7 s8 hHeld ?_
   refine Bl8 (σ := Value × Value × Nat) 1 #[true, true, true, true, true, true, true, true, true, true, false] (fun s_ => [(53, .int .i64 j8), (55, s_.1), (56, .agg #[.int .i64 h9, s_.2.1]), (12, .pointer (some ⟨s_.2.2, 0, none⟩))]) (fun s_ w' => (w'.cell? ⟨d8, 0, none⟩ = some (.slice d3 b0.length d7)) ∧ (Kd.R k79 79 w' w.heap.size (fun _ => True) (.slice d3 b0.length d7) b0) ∧ (Kd.Q (Kd.int .i64) 2 w' w.heap.size (fun k_ => some k_ ≠ (.slice j9 i0.length k0 : Value).ownBlock ∧ some k_ ≠ (.slice k1 i1.length k2 : Value).ownBlock ∧ some k_ ≠ (.slice i5 d9.length i6 : Value).ownBlock ∧ some k_ ≠ (.slice k3 i2.length k4 : Value).ownBlock ∧ some k_ ≠ (.slice k6 i3.length k7 : Value).ownBlock ∧ some k_ ≠ (l4 : Value).ownBlock ∧ some k_ ≠ (s_.1 : Value).ownBlock ∧ some k_ ≠ (s_.2.1 : Value).ownBlock) j6 h6) ∧ (Kd.R (Kd.int .i64) 2 w' w.heap.size (fun k_ => some k_ ≠ (j6 : Value).ownBlock ∧ some k_ ≠ (.slice k1 i1.length k2 : Value).ownBlock ∧ some k_ ≠ (.slice i5 d9.length i6 : Value).ownBlock ∧ some k_ ≠ (.slice k3 i2.length k4 : Value).ownBlock ∧ some k_ ≠ (.slice k6 i3.length k7 : Value).ownBlock ∧ some k_ ≠ (l4 : Value).ownBlock ∧ some k_ ≠ (s_.1 : Value).ownBlock ∧ some k_ ≠ (s_.2.1 : Value).ownBlock) (.slice j9 i0.length k0) i0) ∧ (Kd.R (Kd.int .i64) 2 w' w.heap.size (fun k_ => some k_ ≠ (j6 : Value).ownBlock ∧ some k_ ≠ (.slice j9 i0.length k0 : Value).ownBlock ∧ some k_ ≠ (.slice i5 d9.length i6 : Value).ownBlock ∧ some k_ ≠ (.slice k3 i2.length k4 : Value).ownBlock ∧ some k_ ≠ (.slice k6 i3.length k7 : Value).ownBlock ∧ some k_ ≠ (l4 : Value).ownBlock ∧ some k_ ≠ (s_.1 : Value).ownBlock ∧ some k_ ≠ (s_.2.1 : Value).ownBlock) (.slice k1 i1.length k2) i1) ∧ (Kd.R (Kd.int .i64) 2 w' w.heap.size (fun k_ => some k_ ≠ (j6 : Value).ownBlock ∧ some k_ ≠ (.slice j9 i0.length k0 : Value).ownBlock ∧ some k_ ≠ (.slice k1 i1.length k2 : Value).ownBlock ∧ some k_ ≠ (.slice k3 i2.length k4 : Value).ownBlock ∧ some k_ ≠ (.slice k6 i3.length k7 : Value).ownBlock ∧ some k_ ≠ (l4 : Value).ownBlock ∧ some k_ ≠ (s_.1 : Value).ownBlock ∧ some k_ ≠ (s_.2.1 : Value).ownBlock) (.slice i5 d9.length i6) d9) ∧ (Kd.R (Kd.int .i64) 2 w' w.heap.size (fun k_ => some k_ ≠ (j6 : Value).ownBlock ∧ some k_ ≠ (.slice j9 i0.length k0 : Value).ownBlock ∧ some k_ ≠ (.slice k1 i1.length k2 : Value).ownBlock ∧ some k_ ≠ (.slice i5 d9.length i6 : Value).ownBlock ∧ some k_ ≠ (.slice k6 i3.length k7 : Value).ownBlock ∧ some k_ ≠ (l4 : Value).ownBlock ∧ some k_ ≠ (s_.1 : Value).ownBlock ∧ some k_ ≠ (s_.2.1 : Value).ownBlock) (.slice k3 i2.length k4) i2) ∧ (Kd.R (Kd.int .i64) 2 w' w.heap.size (fun k_ => some k_ ≠ (j6 : Value).ownBlock ∧ some k_ ≠ (.slice j9 i0.length k0 : Value).ownBlock ∧ some k_ ≠ (.slice k1 i1.length k2 : Value).ownBlock ∧ some k_ ≠ (.slice i5 d9.length i6 : Value).ownBlock ∧ some k_ ≠ (.slice k3 i2.length k4 : Value).ownBlock ∧ some k_ ≠ (l4 : Value).ownBlock ∧ some k_ ≠ (s_.1 : Value).ownBlock ∧ some k_ ≠ (s_.2.1 : Value).ownBlock) (.slice k6 i3.length k7) i3) ∧ (Kd.R (Kd.int .i64) 2 w' w.heap.size (fun k_ => some k_ ≠ (j6 : Value).ownBlock ∧ some k_ ≠ (.slice j9 i0.length k0 : Value).ownBlock ∧ some k_ ≠ (.slice k1 i1.length k2 : Value).ownBlock ∧ some k_ ≠ (.slice i5 d9.length i6 : Value).ownBlock ∧ some k_ ≠ (.slice k3 i2.length k4 : Value).ownBlock ∧ some k_ ≠ (.slice k6 i3.length k7 : Value).ownBlock ∧ some k_ ≠ (s_.1 : Value).ownBlock ∧ some k_ ≠ (s_.2.1 : Value).ownBlock) l4 s9) ∧ (Kd.R (Kd.int .i64) 2 w' w.heap.size (fun k_ => some k_ ≠ (j6 : Value).ownBlock ∧ some k_ ≠ (.slice j9 i0.length k0 : Value).ownBlock ∧ some k_ ≠ (.slice k1 i1.length k2 : Value).ownBlock ∧ some k_ ≠ (.slice i5 d9.length i6 : Value).ownBlock ∧ some k_ ≠ (.slice k3 i2.length k4 : Value).ownBlock ∧ some k_ ≠ (.slice k6 i3.length k7 : Value).ownBlock ∧ some k_ ≠ (l4 : Value).ownBlock ∧ some k_ ≠ (s_.2.1 : Value).ownBlock) s_.1 h3) ∧ (Kd.R (Kd.int .i64) 2 w' w.heap.size (fun k_ => some k_ ≠ (j6 : Value).ownBlock ∧ some k_ ≠ (.slice j9 i0.length k0 : Value).ownBlock ∧ some k_ ≠ (.slice k1 i1.length k2 : Value).ownBlock ∧ some k_ ≠ (.slice i5 d9.length i6 : Value).ownBlock ∧ some k_ ≠ (.slice k3 i2.length k4 : Value).ownBlock ∧ some k_ ≠ (.slice k6 i3.length k7 : Value).ownBlock ∧ some k_ ≠ (l4 : Value).ownBlock ∧ some k_ ≠ (s_.1 : Value).ownBlock) s_.2.1 i4) ∧ (w'.heap[d6]? = some (.cells #[.slice none 0 0] 36 (0, 0))) ∧ (w'.heap[d8]? = some (.cells #[.slice d3 b0.length d7] 36 (0, 0))) ∧ (w'.heap[s_.2.2]? = some (.cells #[.int .i64 0, .slice none 0 0] 98 (0, 0))) ∧ (w.heap.size ≤ s_.2.2) ∧ (w.heap.size ≤ s_.2.2) ∧ (a7 ≠ s_.2.2) ∧ (s_.2.2 ≠ a7) ∧ (d6 ≠ s_.2.2) ∧ (s_.2.2 ≠ d6) ∧ (d8 ≠ s_.2.2) ∧ (s_.2.2 ≠ d8) ∧ (Aa0 w w' a7 a9 l8) ∧ (Below w.heap.size w w')) ?_ ?_
   rotate_left
   ·intro hCont
    refine Bn3 (i := 5) (j := 9) (Ni := some 53) (Nj := some 12) #[true, true, true, true, true, true, true, false, false, false, false] #[true, true, true, true, true, false, true, false, false, true, false] rfl rfl rfl rfl (Bc2 h7.out (by kernel_rfl)) (by decide) (by decide) (fun K hK => ?_) (fun K hK => ?_)
    ·skip
     refine gs Tryz.func75 #[.pointer (some ⟨a7, 0, none⟩), .int .i64 (d9.length : Int)] ?_
     refine (Ad7.calls a7 a9 o3 (d9.length : Int) j8 e0 w _ (Aa0.q a0.out) (hsk HB.out (Aa0.ge a0.out)) E1.out).mono ?_
     rintro e K7 ⟨rfl, hi, hb, hk⟩
     refine ⟨_, rfl, ?_⟩
     replace a1 := kb hk a1 b5
     replace a3 := Aa0.rk a0 a3 hk
     replace a2 := kb hk a2 b1
     replace a4 := Aa0.qk a0 a4 hk
     replace a5 := Aa0.rk a0 a5 hk
     replace a8 := Aa0.rk a0 a8 hk
     replace a6 := Aa0.rk a0 a6 hk
     replace b2 := Aa0.rk a0 b2 hk
     replace b3 := Aa0.rk a0 b3 hk
     replace b4 := Aa0.rk a0 b4 hk
     replace HB := am (hb)
     replace a0 := am (hi)
     (try clear hb)
     (try clear j7)
     (try clear hgw)
     (try clear hk)
     (try clear hi)
     refine hK.out _ _ ((Ad1 a2.out 0).trans rfl) (fun hHeld => ?_)
     clear hK K
     refine nr (some 53) ?_
     refine Bn3 (i := 7) (j := 9) (Ni := some 55) (Nj := some 12) #[true, true, true, true, true, true, true, true, false, false, false] #[true, true, true, true, true, true, true, false, false, true, false] rfl rfl rfl rfl (Bc2 h7.out (by kernel_rfl)) (by decide) (by decide) (fun K hK => ?_) (fun K hK => ?_)
     ·skip
      refine gs Tryz.func72 #[.pointer (some ⟨a7, 0, none⟩), .pointer (some ⟨d8, 0, none⟩), .int .i64 2, .int .i64 2] ?_
      with_reducible refine (Aa8.calls k a7 a9 e0 _ [(⟨b0⟩ : S36)] 2 2 h3 l8 w _ ?side1 ?side2 ?side3 A6.out).mono ?_
      (case side1 => exact Aa0.q a0.out)
      (case side2 => exact hsk HB.out (Aa0.ge a0.out))
      (case side3 => exact fun W_ l7 => Ao2 (l7.blk (show (World.heap _)[d8]? = some (.cells #[.slice d3 b0.length d7] 36 (0, 0)) from bq a2.out) (by first | exact b1.out | exact e4.out.symm) (by simp)) ((by exact Kd.C_foot_own (Aa0.apart (show Aa0 w _ a7 a9 e0 from Aa0.q a0.out) (rq a3.out) (by decide)) (fun _ h_ => h_.2) : ∀ W_, Ab7 _ W_ a7 none → Kd.C k79 W_ d3 b0.length b0) W_ l7) (by exact (Kd.R_reads' a3.out).2.1))
      rintro e E2 ⟨q2, rfl, c1, hi, hb, hk⟩
      refine ⟨_, rfl, ?_⟩
      replace a1 := kb hk a1 b5
      replace a3 := Aa0.rk a0 a3 hk
      replace a2 := kb hk a2 b1
      have b9 := am (Kd.R_lower (Kd.R_new' (Kd.R_new' (Kd.R_new' (Kd.R_new' (Kd.R_new' (Kd.R_new' (Kd.R_new' c1 (Kd.Q_lt (qq a4.out))) (Kd.R_lt (rq a5.out))) (Kd.R_lt (rq a8.out))) (Kd.R_lt (rq a6.out))) (Kd.R_lt (rq b2.out))) (Kd.R_lt (rq b3.out))) (Kd.R_lt (rq b4.out))) (Ac5 (hsk HB.out (Aa0.ge a0.out))))
      replace a4 := am (Kd.Q_mono (Kd.Q_told (Kd.Q_oldK (Aa0.apartQ (show Aa0 w _ a7 a9 e0 from Aa0.q a0.out) (qq a4.out) (by decide)) hk) (Kd.R_base c1)) (fun _ h_ => h_.1))
      replace a5 := am (Kd.R_mono (Kd.R_told (Kd.R_oldK (Aa0.apart (show Aa0 w _ a7 a9 e0 from Aa0.q a0.out) (rq a5.out) (by decide)) hk) (Kd.R_base c1)) (fun _ h_ => h_.1))
      replace a8 := am (Kd.R_mono (Kd.R_told (Kd.R_oldK (Aa0.apart (show Aa0 w _ a7 a9 e0 from Aa0.q a0.out) (rq a8.out) (by decide)) hk) (Kd.R_base c1)) (fun _ h_ => h_.1))
      replace a6 := am (Kd.R_mono (Kd.R_told (Kd.R_oldK (Aa0.apart (show Aa0 w _ a7 a9 e0 from Aa0.q a0.out) (rq a6.out) (by decide)) hk) (Kd.R_base c1)) (fun _ h_ => h_.1))
      replace b2 := am (Kd.R_mono (Kd.R_told (Kd.R_oldK (Aa0.apart (show Aa0 w _ a7 a9 e0 from Aa0.q a0.out) (rq b2.out) (by decide)) hk) (Kd.R_base c1)) (fun _ h_ => h_.1))
      replace b3 := am (Kd.R_mono (Kd.R_told (Kd.R_oldK (Aa0.apart (show Aa0 w _ a7 a9 e0 from Aa0.q a0.out) (rq b3.out) (by decide)) hk) (Kd.R_base c1)) (fun _ h_ => h_.1))
      replace b4 := am (Kd.R_mono (Kd.R_told (Kd.R_oldK (Aa0.apart (show Aa0 w _ a7 a9 e0 from Aa0.q a0.out) (rq b4.out) (by decide)) hk) (Kd.R_base c1)) (fun _ h_ => h_.1))
      replace HB := am (hb)
      replace a0 := am (hi)
      (try clear hb)
      (try clear j7)
      (try clear hgw)
      (try clear hk)
      (try clear hi)
      (try clear c1)
      obtain ⟨t4, t5, t6⟩ := Kd.R_slice b9.out
      (first | subst t6 | (injection t6 with n1 o7 n2; have o8 := n1.symm; have o9 := n2.symm; clear n1 o7 n2; subst o8; subst o9))
      refine hK.out _ _ ((Ad1 a2.out 0).trans rfl) (fun hHeld => ?_)
      clear hK K
      refine nr (some 55) ?_
      refine Bn3 (i := 8) (j := 9) (Ni := some 56) (Nj := some 12) #[true, true, true, true, true, true, true, true, true, false, false] #[true, true, true, true, true, true, true, true, false, true, false] rfl rfl rfl rfl (Bc2 h7.out (by kernel_rfl)) (by decide) (by decide) (fun K hK => ?_) (fun K hK => ?_)
      ·skip
       refine gs Tryz.func74 #[.agg #[.slice d3 b0.length d7], .slice i5 d9.length i6, .int .i64 j8, .slice t4 h3.length t5] ?_
       refine (Ai5.calls k _ _ b0 _ _ d9 j8 _ _ h3 h9 i4 _ (cq (Kd.R_reads' a3.out).2.2) ((Kd.R_reads' a3.out).2.1) (cq (Kd.R_reads' a6.out).2.2) ((Kd.R_reads' a6.out).2.1) (cq (Kd.R_reads' b9.out).2.2) ((Kd.R_reads' b9.out).2.1) v7.out).mono ?_
       rintro e M5 ⟨l9, rfl, c1, hb⟩
       refine ⟨_, rfl, ?_⟩
       replace a3 := rb a3 hb
       have g8 := am (Kd.R_lower (Kd.R_new' (Kd.R_new' (Kd.R_new' (Kd.R_new' (Kd.R_new' (Kd.R_new' (Kd.R_new' (Kd.R_new' c1 (Kd.Q_lt (qq a4.out))) (Kd.R_lt (rq a5.out))) (Kd.R_lt (rq a8.out))) (Kd.R_lt (rq a6.out))) (Kd.R_lt (rq b2.out))) (Kd.R_lt (rq b3.out))) (Kd.R_lt (rq b4.out))) (Kd.R_lt (rq b9.out))) (Ac5 (hsk HB.out (Aa0.ge a0.out))))
       replace a4 := am (Kd.Q_elder' (qq a4.out) (Kd.R_base c1) hb)
       replace a5 := am (Kd.R_elder' (rq a5.out) (Kd.R_base c1) hb)
       replace a8 := am (Kd.R_elder' (rq a8.out) (Kd.R_base c1) hb)
       replace a6 := am (Kd.R_elder' (rq a6.out) (Kd.R_base c1) hb)
       replace b2 := am (Kd.R_elder' (rq b2.out) (Kd.R_base c1) hb)
       replace b3 := am (Kd.R_elder' (rq b3.out) (Kd.R_base c1) hb)
       replace b4 := am (Kd.R_elder' (rq b4.out) (Kd.R_base c1) hb)
       replace b9 := am (Kd.R_elder' (rq b9.out) (Kd.R_base c1) hb)
       replace a1 := bb a1 hb
       replace a2 := bb a2 hb
       replace HB := am (Ad9 (hsk HB.out (Aa0.ge a0.out)) hb)
       replace a0 := Aa0.bl a0 hb
       (try clear hb)
       (try clear j7)
       (try clear hgw)
       (try clear hk)
       (try clear hi)
       (try clear c1)
       refine hK.out _ _ ((Ad1 a2.out 0).trans rfl) (fun hHeld => ?_)
       clear hK K
       refine nr (some 56) ?_
       refine on_ 9 (some 12) rfl rfl h7 (fun K hK => ?_)
       refine At5 ?hg (N := 12) ?hd (cs := #[.int .i64 0, .slice none 0 0]) (t := 98) ?hr ?_; (case hd => rfl); (case hg => rfl); (case hr => first | (go_simp; done) | (go_simp; rfl))
       intro b8 hg A8 hbox hb
       replace a3 := rb a3 hb
       replace a4 := am (Kd.Q_below (qq a4.out) hb)
       replace a5 := rb a5 hb
       replace a8 := rb a8 hb
       replace a6 := rb a6 hb
       replace b2 := rb b2 hb
       replace b3 := rb b3 hb
       replace b4 := rb b4 hb
       replace b9 := rb b9 hb
       replace g8 := rb g8 hb
       have b6 := am (hbox)
       have i9 := am (bz hg (hsk HB.out (Aa0.ge a0.out)))
       have j5 := am (bz hg (hsk HB.out (Aa0.ge a0.out)))
       replace HB := am (Ad9 (hsk HB.out (Aa0.ge a0.out)) hb)
       have b7 := nl hg a1
       have d4 := ng hg a1
       replace a1 := bb a1 hb
       have d1 := nl hg a2
       have d5 := ng hg a2
       replace a2 := bb a2 hb
       have e2 := am ((by rw [hg]; exact Nat.ne_of_lt (Aa0.lt (show Aa0 w _ a7 a9 l8 from Aa0.q a0.out)) : a7 ≠ b8))
       have d2 := am ((by rw [hg]; exact Nat.ne_of_gt (Aa0.lt (show Aa0 w _ a7 a9 l8 from Aa0.q a0.out)) : b8 ≠ a7))
       replace a0 := Aa0.bl a0 hb
       clear hb hbox hg
       refine hK.out _ _ ((Ad1 a2.out 0).trans rfl) (fun hHeld => ?_)
       clear hK K
       refine nr (some 12) ?_
       exact nj (hCont (.slice t4 h3.length t5, l9, b8) _ ⟨hHeld, (rq a3.out), (qq (Kd.Q_mono a4.out (fun _ hk => ⟨hk.1.1.1.1.1.1.1.2, ⟨hk.1.1.1.1.1.1.2, ⟨hk.1.1.1.1.1.2, ⟨hk.1.1.1.1.2, ⟨hk.1.1.1.2, ⟨hk.1.1.2, ⟨hk.1.2, hk.2⟩⟩⟩⟩⟩⟩⟩))), (rq (Kd.R_mono a5.out (fun _ hk => ⟨hk.1.1.1.1.1.1.1.2, ⟨hk.1.1.1.1.1.1.2, ⟨hk.1.1.1.1.1.2, ⟨hk.1.1.1.1.2, ⟨hk.1.1.1.2, ⟨hk.1.1.2, ⟨hk.1.2, hk.2⟩⟩⟩⟩⟩⟩⟩))), (rq (Kd.R_mono a8.out (fun _ hk => ⟨hk.1.1.1.1.1.1.1.2, ⟨hk.1.1.1.1.1.1.2, ⟨hk.1.1.1.1.1.2, ⟨hk.1.1.1.1.2, ⟨hk.1.1.1.2, ⟨hk.1.1.2, ⟨hk.1.2, hk.2⟩⟩⟩⟩⟩⟩⟩))), (rq (Kd.R_mono a6.out (fun _ hk => ⟨hk.1.1.1.1.1.1.1.2, ⟨hk.1.1.1.1.1.1.2, ⟨hk.1.1.1.1.1.2, ⟨hk.1.1.1.1.2, ⟨hk.1.1.1.2, ⟨hk.1.1.2, ⟨hk.1.2, hk.2⟩⟩⟩⟩⟩⟩⟩))), (rq (Kd.R_mono b2.out (fun _ hk => ⟨hk.1.1.1.1.1.1.1.2, ⟨hk.1.1.1.1.1.1.2, ⟨hk.1.1.1.1.1.2, ⟨hk.1.1.1.1.2, ⟨hk.1.1.1.2, ⟨hk.1.1.2, ⟨hk.1.2, hk.2⟩⟩⟩⟩⟩⟩⟩))), (rq (Kd.R_mono b3.out (fun _ hk => ⟨hk.1.1.1.1.1.1.1.2, ⟨hk.1.1.1.1.1.1.2, ⟨hk.1.1.1.1.1.2, ⟨hk.1.1.1.1.2, ⟨hk.1.1.1.2, ⟨hk.1.1.2, ⟨hk.1.2, hk.2⟩⟩⟩⟩⟩⟩⟩))), (rq (Kd.R_mono b4.out (fun _ hk => ⟨hk.1.1.1.1.1.1.1.2, ⟨hk.1.1.1.1.1.1.2, ⟨hk.1.1.1.1.1.2, ⟨hk.1.1.1.1.2, ⟨hk.1.1.1.2, ⟨hk.1.1.2, ⟨hk.1.2, hk.2⟩⟩⟩⟩⟩⟩⟩))), (rq (Kd.R_mono b9.out (fun _ hk => ⟨hk.1.1.1.1.1.1.1.2, ⟨hk.1.1.1.1.1.1.2, ⟨hk.1.1.1.1.1.2, ⟨hk.1.1.1.1.2, ⟨hk.1.1.1.2, ⟨hk.1.1.2, ⟨hk.1.2, hk.2⟩⟩⟩⟩⟩⟩⟩))), (rq (Kd.R_mono g8.out (fun _ hk => ⟨hk.1.1.1.1.1.1.1.2, ⟨hk.1.1.1.1.1.1.2, ⟨hk.1.1.1.1.1.2, ⟨hk.1.1.1.1.2, ⟨hk.1.1.1.2, ⟨hk.1.1.2, ⟨hk.1.2, hk.2⟩⟩⟩⟩⟩⟩⟩))), (bq a1.out), (bq a2.out), (bq b6.out), i9.out, j5.out, e2.out, d2.out, b7.out, d4.out, d1.out, d5.out, (Aa0.q a0.out), (hsk HB.out (Aa0.ge a0.out))⟩)
      ·skip
       refine At5 ?hg (N := 12) ?hd (cs := #[.int .i64 0, .slice none 0 0]) (t := 98) ?hr ?_; (case hd => rfl); (case hg => rfl); (case hr => first | (go_simp; done) | (go_simp; rfl))
       intro b8 hg E3 hbox hb
       replace a3 := rb a3 hb
       replace a4 := am (Kd.Q_below (qq a4.out) hb)
       replace a5 := rb a5 hb
       replace a8 := rb a8 hb
       replace a6 := rb a6 hb
       replace b2 := rb b2 hb
       replace b3 := rb b3 hb
       replace b4 := rb b4 hb
       replace b9 := rb b9 hb
       have b6 := am (hbox)
       have i9 := am (bz hg (hsk HB.out (Aa0.ge a0.out)))
       have j5 := am (bz hg (hsk HB.out (Aa0.ge a0.out)))
       replace HB := am (Ad9 (hsk HB.out (Aa0.ge a0.out)) hb)
       have b7 := nl hg a1
       have d4 := ng hg a1
       replace a1 := bb a1 hb
       have d1 := nl hg a2
       have d5 := ng hg a2
       replace a2 := bb a2 hb
       have e2 := am ((by rw [hg]; exact Nat.ne_of_lt (Aa0.lt (show Aa0 w _ a7 a9 l8 from Aa0.q a0.out)) : a7 ≠ b8))
       have d2 := am ((by rw [hg]; exact Nat.ne_of_gt (Aa0.lt (show Aa0 w _ a7 a9 l8 from Aa0.q a0.out)) : b8 ≠ a7))
       replace a0 := Aa0.bl a0 hb
       clear hb hbox hg
       obtain ⟨m0, m1, m2⟩ := Kd.R_slice b9.out
       (first | subst m2 | (injection m2 with n1 o7 n2; have o8 := n1.symm; have o9 := n2.symm; clear n1 o7 n2; subst o8; subst o9))
       refine hK.out _ _ ((Ad1 a2.out 0).trans rfl) (fun hHeld => ?_)
       clear hK K
       refine nr (some 12) ?_
       refine on_ 8 (some 56) rfl rfl h7 (fun K hK => ?_)
       refine gs Tryz.func74 #[.agg #[.slice d3 b0.length d7], .slice i5 d9.length i6, .int .i64 j8, .slice m0 h3.length m1] ?_
       refine (Ai5.calls k _ _ b0 _ _ d9 j8 _ _ h3 h9 i4 _ (cq (Kd.R_reads' a3.out).2.2) ((Kd.R_reads' a3.out).2.1) (cq (Kd.R_reads' a6.out).2.2) ((Kd.R_reads' a6.out).2.1) (cq (Kd.R_reads' b9.out).2.2) ((Kd.R_reads' b9.out).2.1) v7.out).mono ?_
       rintro e A8 ⟨l9, rfl, c1, hb⟩
       refine ⟨_, rfl, ?_⟩
       replace a3 := rb a3 hb
       have g8 := am (Kd.R_lower (Kd.R_new' (Kd.R_new' (Kd.R_new' (Kd.R_new' (Kd.R_new' (Kd.R_new' (Kd.R_new' (Kd.R_new' c1 (Kd.Q_lt (qq a4.out))) (Kd.R_lt (rq a5.out))) (Kd.R_lt (rq a8.out))) (Kd.R_lt (rq a6.out))) (Kd.R_lt (rq b2.out))) (Kd.R_lt (rq b3.out))) (Kd.R_lt (rq b4.out))) (Kd.R_lt (rq b9.out))) (Ac5 (hsk HB.out (Aa0.ge a0.out))))
       replace a4 := am (Kd.Q_elder' (qq a4.out) (Kd.R_base c1) hb)
       replace a5 := am (Kd.R_elder' (rq a5.out) (Kd.R_base c1) hb)
       replace a8 := am (Kd.R_elder' (rq a8.out) (Kd.R_base c1) hb)
       replace a6 := am (Kd.R_elder' (rq a6.out) (Kd.R_base c1) hb)
       replace b2 := am (Kd.R_elder' (rq b2.out) (Kd.R_base c1) hb)
       replace b3 := am (Kd.R_elder' (rq b3.out) (Kd.R_base c1) hb)
       replace b4 := am (Kd.R_elder' (rq b4.out) (Kd.R_base c1) hb)
       replace b9 := am (Kd.R_elder' (rq b9.out) (Kd.R_base c1) hb)
       replace a1 := bb a1 hb
       replace a2 := bb a2 hb
       replace b6 := bb b6 hb
       replace HB := am (Ad9 (hsk HB.out (Aa0.ge a0.out)) hb)
       replace a0 := Aa0.bl a0 hb
       (try clear hb)
       (try clear j7)
       (try clear hgw)
       (try clear hk)
       (try clear hi)
       (try clear c1)
       refine hK.out _ _ ((Ad1 a2.out 0).trans rfl) (fun hHeld => ?_)
       clear hK K
       refine nr (some 56) ?_
       exact nj (hCont (.slice m0 h3.length m1, l9, b8) _ ⟨hHeld, (rq a3.out), (qq (Kd.Q_mono a4.out (fun _ hk => ⟨hk.1.1.1.1.1.1.1.2, ⟨hk.1.1.1.1.1.1.2, ⟨hk.1.1.1.1.1.2, ⟨hk.1.1.1.1.2, ⟨hk.1.1.1.2, ⟨hk.1.1.2, ⟨hk.1.2, hk.2⟩⟩⟩⟩⟩⟩⟩))), (rq (Kd.R_mono a5.out (fun _ hk => ⟨hk.1.1.1.1.1.1.1.2, ⟨hk.1.1.1.1.1.1.2, ⟨hk.1.1.1.1.1.2, ⟨hk.1.1.1.1.2, ⟨hk.1.1.1.2, ⟨hk.1.1.2, ⟨hk.1.2, hk.2⟩⟩⟩⟩⟩⟩⟩))), (rq (Kd.R_mono a8.out (fun _ hk => ⟨hk.1.1.1.1.1.1.1.2, ⟨hk.1.1.1.1.1.1.2, ⟨hk.1.1.1.1.1.2, ⟨hk.1.1.1.1.2, ⟨hk.1.1.1.2, ⟨hk.1.1.2, ⟨hk.1.2, hk.2⟩⟩⟩⟩⟩⟩⟩))), (rq (Kd.R_mono a6.out (fun _ hk => ⟨hk.1.1.1.1.1.1.1.2, ⟨hk.1.1.1.1.1.1.2, ⟨hk.1.1.1.1.1.2, ⟨hk.1.1.1.1.2, ⟨hk.1.1.1.2, ⟨hk.1.1.2, ⟨hk.1.2, hk.2⟩⟩⟩⟩⟩⟩⟩))), (rq (Kd.R_mono b2.out (fun _ hk => ⟨hk.1.1.1.1.1.1.1.2, ⟨hk.1.1.1.1.1.1.2, ⟨hk.1.1.1.1.1.2, ⟨hk.1.1.1.1.2, ⟨hk.1.1.1.2, ⟨hk.1.1.2, ⟨hk.1.2, hk.2⟩⟩⟩⟩⟩⟩⟩))), (rq (Kd.R_mono b3.out (fun _ hk => ⟨hk.1.1.1.1.1.1.1.2, ⟨hk.1.1.1.1.1.1.2, ⟨hk.1.1.1.1.1.2, ⟨hk.1.1.1.1.2, ⟨hk.1.1.1.2, ⟨hk.1.1.2, ⟨hk.1.2, hk.2⟩⟩⟩⟩⟩⟩⟩))), (rq (Kd.R_mono b4.out (fun _ hk => ⟨hk.1.1.1.1.1.1.1.2, ⟨hk.1.1.1.1.1.1.2, ⟨hk.1.1.1.1.1.2, ⟨hk.1.1.1.1.2, ⟨hk.1.1.1.2, ⟨hk.1.1.2, ⟨hk.1.2, hk.2⟩⟩⟩⟩⟩⟩⟩))), (rq (Kd.R_mono b9.out (fun _ hk => ⟨hk.1.1.1.1.1.1.1.2, ⟨hk.1.1.1.1.1.1.2, ⟨hk.1.1.1.1.1.2, ⟨hk.1.1.1.1.2, ⟨hk.1.1.1.2, ⟨hk.1.1.2, ⟨hk.1.2, hk.2⟩⟩⟩⟩⟩⟩⟩))), (rq (Kd.R_mono g8.out (fun _ hk => ⟨hk.1.1.1.1.1.1.1.2, ⟨hk.1.1.1.1.1.1.2, ⟨hk.1.1.1.1.1.2, ⟨hk.1.1.1.1.2, ⟨hk.1.1.1.2, ⟨hk.1.1.2, ⟨hk.1.2, hk.2⟩⟩⟩⟩⟩⟩⟩))), (bq a1.out), (bq a2.out), (bq b6.out), i9.out, j5.out, e2.out, d2.out, b7.out, d4.out, d1.out, d5.out, (Aa0.q a0.out), (hsk HB.out (Aa0.ge a0.out))⟩)
     ·skip
      refine At5 ?hg (N := 12) ?hd (cs := #[.int .i64 0, .slice none 0 0]) (t := 98) ?hr ?_; (case hd => rfl); (case hg => rfl); (case hr => first | (go_simp; done) | (go_simp; rfl))
      intro b8 hg E2 hbox hb
      replace a3 := rb a3 hb
      replace a4 := am (Kd.Q_below (qq a4.out) hb)
      replace a5 := rb a5 hb
      replace a8 := rb a8 hb
      replace a6 := rb a6 hb
      replace b2 := rb b2 hb
      replace b3 := rb b3 hb
      replace b4 := rb b4 hb
      have b6 := am (hbox)
      have i9 := am (bz hg (hsk HB.out (Aa0.ge a0.out)))
      have j5 := am (bz hg (hsk HB.out (Aa0.ge a0.out)))
      replace HB := am (Ad9 (hsk HB.out (Aa0.ge a0.out)) hb)
      have b7 := nl hg a1
      have d4 := ng hg a1
      replace a1 := bb a1 hb
      have d1 := nl hg a2
      have d5 := ng hg a2
      replace a2 := bb a2 hb
      have e2 := am ((by rw [hg]; exact Nat.ne_of_lt (Aa0.lt (show Aa0 w _ a7 a9 e0 from Aa0.q a0.out)) : a7 ≠ b8))
      have d2 := am ((by rw [hg]; exact Nat.ne_of_gt (Aa0.lt (show Aa0 w _ a7 a9 e0 from Aa0.q a0.out)) : b8 ≠ a7))
      replace a0 := Aa0.bl a0 hb
      clear hb hbox hg
      refine hK.out _ _ ((Ad1 a2.out 0).trans rfl) (fun hHeld => ?_)
      clear hK K
      refine nr (some 12) ?_
      refine on_ 7 (some 55) rfl rfl h7 (fun K hK => ?_)
      refine gs Tryz.func72 #[.pointer (some ⟨a7, 0, none⟩), .pointer (some ⟨d8, 0, none⟩), .int .i64 2, .int .i64 2] ?_
      with_reducible refine (Aa8.calls k a7 a9 e0 _ [(⟨b0⟩ : S36)] 2 2 h3 l8 w _ ?side1 ?side2 ?side3 A6.out).mono ?_
      (case side1 => exact Aa0.q a0.out)
      (case side2 => exact hsk HB.out (Aa0.ge a0.out))
      (case side3 => exact fun W_ l7 => Ao2 (l7.blk (show (World.heap _)[d8]? = some (.cells #[.slice d3 b0.length d7] 36 (0, 0)) from bq a2.out) (by first | exact b1.out | exact e4.out.symm) (by simp)) ((by exact Kd.C_foot_own (Aa0.apart (show Aa0 w _ a7 a9 e0 from Aa0.q a0.out) (rq a3.out) (by decide)) (fun _ h_ => h_.2) : ∀ W_, Ab7 _ W_ a7 none → Kd.C k79 W_ d3 b0.length b0) W_ l7) (by exact (Kd.R_reads' a3.out).2.1))
      rintro e E3 ⟨q2, rfl, c1, hi, hb, hk⟩
      refine ⟨_, rfl, ?_⟩
      replace a1 := kb hk a1 b5
      replace a3 := Aa0.rk a0 a3 hk
      replace a2 := kb hk a2 b1
      replace b6 := kb hk b6 d2
      have b9 := am (Kd.R_lower (Kd.R_new' (Kd.R_new' (Kd.R_new' (Kd.R_new' (Kd.R_new' (Kd.R_new' (Kd.R_new' c1 (Kd.Q_lt (qq a4.out))) (Kd.R_lt (rq a5.out))) (Kd.R_lt (rq a8.out))) (Kd.R_lt (rq a6.out))) (Kd.R_lt (rq b2.out))) (Kd.R_lt (rq b3.out))) (Kd.R_lt (rq b4.out))) (Ac5 (hsk HB.out (Aa0.ge a0.out))))
      replace a4 := am (Kd.Q_mono (Kd.Q_told (Kd.Q_oldK (Aa0.apartQ (show Aa0 w _ a7 a9 e0 from Aa0.q a0.out) (qq a4.out) (by decide)) hk) (Kd.R_base c1)) (fun _ h_ => h_.1))
      replace a5 := am (Kd.R_mono (Kd.R_told (Kd.R_oldK (Aa0.apart (show Aa0 w _ a7 a9 e0 from Aa0.q a0.out) (rq a5.out) (by decide)) hk) (Kd.R_base c1)) (fun _ h_ => h_.1))
      replace a8 := am (Kd.R_mono (Kd.R_told (Kd.R_oldK (Aa0.apart (show Aa0 w _ a7 a9 e0 from Aa0.q a0.out) (rq a8.out) (by decide)) hk) (Kd.R_base c1)) (fun _ h_ => h_.1))
      replace a6 := am (Kd.R_mono (Kd.R_told (Kd.R_oldK (Aa0.apart (show Aa0 w _ a7 a9 e0 from Aa0.q a0.out) (rq a6.out) (by decide)) hk) (Kd.R_base c1)) (fun _ h_ => h_.1))
      replace b2 := am (Kd.R_mono (Kd.R_told (Kd.R_oldK (Aa0.apart (show Aa0 w _ a7 a9 e0 from Aa0.q a0.out) (rq b2.out) (by decide)) hk) (Kd.R_base c1)) (fun _ h_ => h_.1))
      replace b3 := am (Kd.R_mono (Kd.R_told (Kd.R_oldK (Aa0.apart (show Aa0 w _ a7 a9 e0 from Aa0.q a0.out) (rq b3.out) (by decide)) hk) (Kd.R_base c1)) (fun _ h_ => h_.1))
      replace b4 := am (Kd.R_mono (Kd.R_told (Kd.R_oldK (Aa0.apart (show Aa0 w _ a7 a9 e0 from Aa0.q a0.out) (rq b4.out) (by decide)) hk) (Kd.R_base c1)) (fun _ h_ => h_.1))
      replace HB := am (hb)
      replace a0 := am (hi)
      (try clear hb)
      (try clear j7)
      (try clear hgw)
      (try clear hk)
      (try clear hi)
      (try clear c1)
      obtain ⟨m0, m1, m2⟩ := Kd.R_slice b9.out
      (first | subst m2 | (injection m2 with n1 o7 n2; have o8 := n1.symm; have o9 := n2.symm; clear n1 o7 n2; subst o8; subst o9))
      refine hK.out _ _ ((Ad1 a2.out 0).trans rfl) (fun hHeld => ?_)
      clear hK K
      refine nr (some 55) ?_
      refine on_ 8 (some 56) rfl rfl h7 (fun K hK => ?_)
      refine gs Tryz.func74 #[.agg #[.slice d3 b0.length d7], .slice i5 d9.length i6, .int .i64 j8, .slice m0 h3.length m1] ?_
      refine (Ai5.calls k _ _ b0 _ _ d9 j8 _ _ h3 h9 i4 _ (cq (Kd.R_reads' a3.out).2.2) ((Kd.R_reads' a3.out).2.1) (cq (Kd.R_reads' a6.out).2.2) ((Kd.R_reads' a6.out).2.1) (cq (Kd.R_reads' b9.out).2.2) ((Kd.R_reads' b9.out).2.1) v7.out).mono ?_
      rintro e A8 ⟨l9, rfl, c1, hb⟩
      refine ⟨_, rfl, ?_⟩
      replace a3 := rb a3 hb
      have g8 := am (Kd.R_lower (Kd.R_new' (Kd.R_new' (Kd.R_new' (Kd.R_new' (Kd.R_new' (Kd.R_new' (Kd.R_new' (Kd.R_new' c1 (Kd.Q_lt (qq a4.out))) (Kd.R_lt (rq a5.out))) (Kd.R_lt (rq a8.out))) (Kd.R_lt (rq a6.out))) (Kd.R_lt (rq b2.out))) (Kd.R_lt (rq b3.out))) (Kd.R_lt (rq b4.out))) (Kd.R_lt (rq b9.out))) (Ac5 (hsk HB.out (Aa0.ge a0.out))))
      replace a4 := am (Kd.Q_elder' (qq a4.out) (Kd.R_base c1) hb)
      replace a5 := am (Kd.R_elder' (rq a5.out) (Kd.R_base c1) hb)
      replace a8 := am (Kd.R_elder' (rq a8.out) (Kd.R_base c1) hb)
      replace a6 := am (Kd.R_elder' (rq a6.out) (Kd.R_base c1) hb)
      replace b2 := am (Kd.R_elder' (rq b2.out) (Kd.R_base c1) hb)
      replace b3 := am (Kd.R_elder' (rq b3.out) (Kd.R_base c1) hb)
      replace b4 := am (Kd.R_elder' (rq b4.out) (Kd.R_base c1) hb)
      replace b9 := am (Kd.R_elder' (rq b9.out) (Kd.R_base c1) hb)
      replace a1 := bb a1 hb
      replace a2 := bb a2 hb
      replace b6 := bb b6 hb
      replace HB := am (Ad9 (hsk HB.out (Aa0.ge a0.out)) hb)
      replace a0 := Aa0.bl a0 hb
      (try clear hb)
      (try clear j7)
      (try clear hgw)
      (try clear hk)
      (try clear hi)
      (try clear c1)
      refine hK.out _ _ ((Ad1 a2.out 0).trans rfl) (fun hHeld => ?_)
      clear hK K
      refine nr (some 56) ?_
      exact nj (hCont (.slice m0 h3.length m1, l9, b8) _ ⟨hHeld, (rq a3.out), (qq (Kd.Q_mono a4.out (fun _ hk => ⟨hk.1.1.1.1.1.1.1.2, ⟨hk.1.1.1.1.1.1.2, ⟨hk.1.1.1.1.1.2, ⟨hk.1.1.1.1.2, ⟨hk.1.1.1.2, ⟨hk.1.1.2, ⟨hk.1.2, hk.2⟩⟩⟩⟩⟩⟩⟩))), (rq (Kd.R_mono a5.out (fun _ hk => ⟨hk.1.1.1.1.1.1.1.2, ⟨hk.1.1.1.1.1.1.2, ⟨hk.1.1.1.1.1.2, ⟨hk.1.1.1.1.2, ⟨hk.1.1.1.2, ⟨hk.1.1.2, ⟨hk.1.2, hk.2⟩⟩⟩⟩⟩⟩⟩))), (rq (Kd.R_mono a8.out (fun _ hk => ⟨hk.1.1.1.1.1.1.1.2, ⟨hk.1.1.1.1.1.1.2, ⟨hk.1.1.1.1.1.2, ⟨hk.1.1.1.1.2, ⟨hk.1.1.1.2, ⟨hk.1.1.2, ⟨hk.1.2, hk.2⟩⟩⟩⟩⟩⟩⟩))), (rq (Kd.R_mono a6.out (fun _ hk => ⟨hk.1.1.1.1.1.1.1.2, ⟨hk.1.1.1.1.1.1.2, ⟨hk.1.1.1.1.1.2, ⟨hk.1.1.1.1.2, ⟨hk.1.1.1.2, ⟨hk.1.1.2, ⟨hk.1.2, hk.2⟩⟩⟩⟩⟩⟩⟩))), (rq (Kd.R_mono b2.out (fun _ hk => ⟨hk.1.1.1.1.1.1.1.2, ⟨hk.1.1.1.1.1.1.2, ⟨hk.1.1.1.1.1.2, ⟨hk.1.1.1.1.2, ⟨hk.1.1.1.2, ⟨hk.1.1.2, ⟨hk.1.2, hk.2⟩⟩⟩⟩⟩⟩⟩))), (rq (Kd.R_mono b3.out (fun _ hk => ⟨hk.1.1.1.1.1.1.1.2, ⟨hk.1.1.1.1.1.1.2, ⟨hk.1.1.1.1.1.2, ⟨hk.1.1.1.1.2, ⟨hk.1.1.1.2, ⟨hk.1.1.2, ⟨hk.1.2, hk.2⟩⟩⟩⟩⟩⟩⟩))), (rq (Kd.R_mono b4.out (fun _ hk => ⟨hk.1.1.1.1.1.1.1.2, ⟨hk.1.1.1.1.1.1.2, ⟨hk.1.1.1.1.1.2, ⟨hk.1.1.1.1.2, ⟨hk.1.1.1.2, ⟨hk.1.1.2, ⟨hk.1.2, hk.2⟩⟩⟩⟩⟩⟩⟩))), (rq (Kd.R_mono b9.out (fun _ hk => ⟨hk.1.1.1.1.1.1.1.2, ⟨hk.1.1.1.1.1.1.2, ⟨hk.1.1.1.1.1.2, ⟨hk.1.1.1.1.2, ⟨hk.1.1.1.2, ⟨hk.1.1.2, ⟨hk.1.2, hk.2⟩⟩⟩⟩⟩⟩⟩))), (rq (Kd.R_mono g8.out (fun _ hk => ⟨hk.1.1.1.1.1.1.1.2, ⟨hk.1.1.1.1.1.1.2, ⟨hk.1.1.1.1.1.2, ⟨hk.1.1.1.1.2, ⟨hk.1.1.1.2, ⟨hk.1.1.2, ⟨hk.1.2, hk.2⟩⟩⟩⟩⟩⟩⟩))), (bq a1.out), (bq a2.out), (bq b6.out), i9.out, j5.out, e2.out, d2.out, b7.out, d4.out, d1.out, d5.out, (Aa0.q a0.out), (hsk HB.out (Aa0.ge a0.out))⟩)
    ·skip
     refine At5 ?hg (N := 12) ?hd (cs := #[.int .i64 0, .slice none 0 0]) (t := 98) ?hr ?_; (case hd => rfl); (case hg => rfl); (case hr => first | (go_simp; done) | (go_simp; rfl))
     intro b8 hg K7 hbox hb
     replace a3 := rb a3 hb
     replace a4 := am (Kd.Q_below (qq a4.out) hb)
     replace a5 := rb a5 hb
     replace a8 := rb a8 hb
     replace a6 := rb a6 hb
     replace b2 := rb b2 hb
     replace b3 := rb b3 hb
     replace b4 := rb b4 hb
     have b6 := am (hbox)
     have i9 := am (bz hg (hsk HB.out (Aa0.ge a0.out)))
     have j5 := am (bz hg (hsk HB.out (Aa0.ge a0.out)))
     replace HB := am (Ad9 (hsk HB.out (Aa0.ge a0.out)) hb)
     have b7 := nl hg a1
     have d4 := ng hg a1
     replace a1 := bb a1 hb
     have d1 := nl hg a2
     have d5 := ng hg a2
     replace a2 := bb a2 hb
     have e2 := am ((by rw [hg]; exact Nat.ne_of_lt (Aa0.lt (show Aa0 w _ a7 a9 o3 from Aa0.q a0.out)) : a7 ≠ b8))
     have d2 := am ((by rw [hg]; exact Nat.ne_of_gt (Aa0.lt (show Aa0 w _ a7 a9 o3 from Aa0.q a0.out)) : b8 ≠ a7))
     replace a0 := Aa0.bl a0 hb
     clear hb hbox hg
     refine hK.out _ _ ((Ad1 a2.out 0).trans rfl) (fun hHeld => ?_)
     clear hK K
     refine nr (some 12) ?_
     refine on_ 5 (some 53) rfl rfl h7 (fun K hK => ?_)
     refine gs Tryz.func75 #[.pointer (some ⟨a7, 0, none⟩), .int .i64 (d9.length : Int)] ?_
     refine (Ad7.calls a7 a9 o3 (d9.length : Int) j8 e0 w _ (Aa0.q a0.out) (hsk HB.out (Aa0.ge a0.out)) E1.out).mono ?_
     rintro e E2 ⟨rfl, hi, hb, hk⟩
     refine ⟨_, rfl, ?_⟩
     replace a1 := kb hk a1 b5
     replace a3 := Aa0.rk a0 a3 hk
     replace a2 := kb hk a2 b1
     replace a4 := Aa0.qk a0 a4 hk
     replace a5 := Aa0.rk a0 a5 hk
     replace a8 := Aa0.rk a0 a8 hk
     replace a6 := Aa0.rk a0 a6 hk
     replace b2 := Aa0.rk a0 b2 hk
     replace b3 := Aa0.rk a0 b3 hk
     replace b4 := Aa0.rk a0 b4 hk
     replace b6 := kb hk b6 d2
     replace HB := am (hb)
     replace a0 := am (hi)
     (try clear hb)
     (try clear j7)
     (try clear hgw)
     (try clear hk)
     (try clear hi)
     refine hK.out _ _ ((Ad1 a2.out 0).trans rfl) (fun hHeld => ?_)
     clear hK K
     refine nr (some 53) ?_
     refine on_ 7 (some 55) rfl rfl h7 (fun K hK => ?_)
     refine gs Tryz.func72 #[.pointer (some ⟨a7, 0, none⟩), .pointer (some ⟨d8, 0, none⟩), .int .i64 2, .int .i64 2] ?_
     with_reducible refine (Aa8.calls k a7 a9 e0 _ [(⟨b0⟩ : S36)] 2 2 h3 l8 w _ ?side1 ?side2 ?side3 A6.out).mono ?_
     (case side1 => exact Aa0.q a0.out)
     (case side2 => exact hsk HB.out (Aa0.ge a0.out))
     (case side3 => exact fun W_ l7 => Ao2 (l7.blk (show (World.heap _)[d8]? = some (.cells #[.slice d3 b0.length d7] 36 (0, 0)) from bq a2.out) (by first | exact b1.out | exact e4.out.symm) (by simp)) ((by exact Kd.C_foot_own (Aa0.apart (show Aa0 w _ a7 a9 e0 from Aa0.q a0.out) (rq a3.out) (by decide)) (fun _ h_ => h_.2) : ∀ W_, Ab7 _ W_ a7 none → Kd.C k79 W_ d3 b0.length b0) W_ l7) (by exact (Kd.R_reads' a3.out).2.1))
     rintro e E3 ⟨q2, rfl, c1, hi, hb, hk⟩
     refine ⟨_, rfl, ?_⟩
     replace a1 := kb hk a1 b5
     replace a3 := Aa0.rk a0 a3 hk
     replace a2 := kb hk a2 b1
     replace b6 := kb hk b6 d2
     have b9 := am (Kd.R_lower (Kd.R_new' (Kd.R_new' (Kd.R_new' (Kd.R_new' (Kd.R_new' (Kd.R_new' (Kd.R_new' c1 (Kd.Q_lt (qq a4.out))) (Kd.R_lt (rq a5.out))) (Kd.R_lt (rq a8.out))) (Kd.R_lt (rq a6.out))) (Kd.R_lt (rq b2.out))) (Kd.R_lt (rq b3.out))) (Kd.R_lt (rq b4.out))) (Ac5 (hsk HB.out (Aa0.ge a0.out))))
     replace a4 := am (Kd.Q_mono (Kd.Q_told (Kd.Q_oldK (Aa0.apartQ (show Aa0 w _ a7 a9 e0 from Aa0.q a0.out) (qq a4.out) (by decide)) hk) (Kd.R_base c1)) (fun _ h_ => h_.1))
     replace a5 := am (Kd.R_mono (Kd.R_told (Kd.R_oldK (Aa0.apart (show Aa0 w _ a7 a9 e0 from Aa0.q a0.out) (rq a5.out) (by decide)) hk) (Kd.R_base c1)) (fun _ h_ => h_.1))
     replace a8 := am (Kd.R_mono (Kd.R_told (Kd.R_oldK (Aa0.apart (show Aa0 w _ a7 a9 e0 from Aa0.q a0.out) (rq a8.out) (by decide)) hk) (Kd.R_base c1)) (fun _ h_ => h_.1))
     replace a6 := am (Kd.R_mono (Kd.R_told (Kd.R_oldK (Aa0.apart (show Aa0 w _ a7 a9 e0 from Aa0.q a0.out) (rq a6.out) (by decide)) hk) (Kd.R_base c1)) (fun _ h_ => h_.1))
     replace b2 := am (Kd.R_mono (Kd.R_told (Kd.R_oldK (Aa0.apart (show Aa0 w _ a7 a9 e0 from Aa0.q a0.out) (rq b2.out) (by decide)) hk) (Kd.R_base c1)) (fun _ h_ => h_.1))
     replace b3 := am (Kd.R_mono (Kd.R_told (Kd.R_oldK (Aa0.apart (show Aa0 w _ a7 a9 e0 from Aa0.q a0.out) (rq b3.out) (by decide)) hk) (Kd.R_base c1)) (fun _ h_ => h_.1))
     replace b4 := am (Kd.R_mono (Kd.R_told (Kd.R_oldK (Aa0.apart (show Aa0 w _ a7 a9 e0 from Aa0.q a0.out) (rq b4.out) (by decide)) hk) (Kd.R_base c1)) (fun _ h_ => h_.1))
     replace HB := am (hb)
     replace a0 := am (hi)
     (try clear hb)
     (try clear j7)
     (try clear hgw)
     (try clear hk)
     (try clear hi)
     (try clear c1)
     obtain ⟨m0, m1, m2⟩ := Kd.R_slice b9.out
     (first | subst m2 | (injection m2 with n1 o7 n2; have o8 := n1.symm; have o9 := n2.symm; clear n1 o7 n2; subst o8; subst o9))
     refine hK.out _ _ ((Ad1 a2.out 0).trans rfl) (fun hHeld => ?_)
     clear hK K
     refine nr (some 55) ?_
     refine on_ 8 (some 56) rfl rfl h7 (fun K hK => ?_)
     refine gs Tryz.func74 #[.agg #[.slice d3 b0.length d7], .slice i5 d9.length i6, .int .i64 j8, .slice m0 h3.length m1] ?_
     refine (Ai5.calls k _ _ b0 _ _ d9 j8 _ _ h3 h9 i4 _ (cq (Kd.R_reads' a3.out).2.2) ((Kd.R_reads' a3.out).2.1) (cq (Kd.R_reads' a6.out).2.2) ((Kd.R_reads' a6.out).2.1) (cq (Kd.R_reads' b9.out).2.2) ((Kd.R_reads' b9.out).2.1) v7.out).mono ?_
     rintro e A8 ⟨l9, rfl, c1, hb⟩
     refine ⟨_, rfl, ?_⟩
     replace a3 := rb a3 hb
     have g8 := am (Kd.R_lower (Kd.R_new' (Kd.R_new' (Kd.R_new' (Kd.R_new' (Kd.R_new' (Kd.R_new' (Kd.R_new' (Kd.R_new' c1 (Kd.Q_lt (qq a4.out))) (Kd.R_lt (rq a5.out))) (Kd.R_lt (rq a8.out))) (Kd.R_lt (rq a6.out))) (Kd.R_lt (rq b2.out))) (Kd.R_lt (rq b3.out))) (Kd.R_lt (rq b4.out))) (Kd.R_lt (rq b9.out))) (Ac5 (hsk HB.out (Aa0.ge a0.out))))
     replace a4 := am (Kd.Q_elder' (qq a4.out) (Kd.R_base c1) hb)
     replace a5 := am (Kd.R_elder' (rq a5.out) (Kd.R_base c1) hb)
     replace a8 := am (Kd.R_elder' (rq a8.out) (Kd.R_base c1) hb)
     replace a6 := am (Kd.R_elder' (rq a6.out) (Kd.R_base c1) hb)
     replace b2 := am (Kd.R_elder' (rq b2.out) (Kd.R_base c1) hb)
     replace b3 := am (Kd.R_elder' (rq b3.out) (Kd.R_base c1) hb)
     replace b4 := am (Kd.R_elder' (rq b4.out) (Kd.R_base c1) hb)
     replace b9 := am (Kd.R_elder' (rq b9.out) (Kd.R_base c1) hb)
     replace a1 := bb a1 hb
     replace a2 := bb a2 hb
     replace b6 := bb b6 hb
     replace HB := am (Ad9 (hsk HB.out (Aa0.ge a0.out)) hb)
     replace a0 := Aa0.bl a0 hb
     (try clear hb)
     (try clear j7)
     (try clear hgw)
     (try clear hk)
     (try clear hi)
     (try clear c1)
     refine hK.out _ _ ((Ad1 a2.out 0).trans rfl) (fun hHeld => ?_)
     clear hK K
     refine nr (some 56) ?_
     exact nj (hCont (.slice m0 h3.length m1, l9, b8) _ ⟨hHeld, (rq a3.out), (qq (Kd.Q_mono a4.out (fun _ hk => ⟨hk.1.1.1.1.1.1.1.2, ⟨hk.1.1.1.1.1.1.2, ⟨hk.1.1.1.1.1.2, ⟨hk.1.1.1.1.2, ⟨hk.1.1.1.2, ⟨hk.1.1.2, ⟨hk.1.2, hk.2⟩⟩⟩⟩⟩⟩⟩))), (rq (Kd.R_mono a5.out (fun _ hk => ⟨hk.1.1.1.1.1.1.1.2, ⟨hk.1.1.1.1.1.1.2, ⟨hk.1.1.1.1.1.2, ⟨hk.1.1.1.1.2, ⟨hk.1.1.1.2, ⟨hk.1.1.2, ⟨hk.1.2, hk.2⟩⟩⟩⟩⟩⟩⟩))), (rq (Kd.R_mono a8.out (fun _ hk => ⟨hk.1.1.1.1.1.1.1.2, ⟨hk.1.1.1.1.1.1.2, ⟨hk.1.1.1.1.1.2, ⟨hk.1.1.1.1.2, ⟨hk.1.1.1.2, ⟨hk.1.1.2, ⟨hk.1.2, hk.2⟩⟩⟩⟩⟩⟩⟩))), (rq (Kd.R_mono a6.out (fun _ hk => ⟨hk.1.1.1.1.1.1.1.2, ⟨hk.1.1.1.1.1.1.2, ⟨hk.1.1.1.1.1.2, ⟨hk.1.1.1.1.2, ⟨hk.1.1.1.2, ⟨hk.1.1.2, ⟨hk.1.2, hk.2⟩⟩⟩⟩⟩⟩⟩))), (rq (Kd.R_mono b2.out (fun _ hk => ⟨hk.1.1.1.1.1.1.1.2, ⟨hk.1.1.1.1.1.1.2, ⟨hk.1.1.1.1.1.2, ⟨hk.1.1.1.1.2, ⟨hk.1.1.1.2, ⟨hk.1.1.2, ⟨hk.1.2, hk.2⟩⟩⟩⟩⟩⟩⟩))), (rq (Kd.R_mono b3.out (fun _ hk => ⟨hk.1.1.1.1.1.1.1.2, ⟨hk.1.1.1.1.1.1.2, ⟨hk.1.1.1.1.1.2, ⟨hk.1.1.1.1.2, ⟨hk.1.1.1.2, ⟨hk.1.1.2, ⟨hk.1.2, hk.2⟩⟩⟩⟩⟩⟩⟩))), (rq (Kd.R_mono b4.out (fun _ hk => ⟨hk.1.1.1.1.1.1.1.2, ⟨hk.1.1.1.1.1.1.2, ⟨hk.1.1.1.1.1.2, ⟨hk.1.1.1.1.2, ⟨hk.1.1.1.2, ⟨hk.1.1.2, ⟨hk.1.2, hk.2⟩⟩⟩⟩⟩⟩⟩))), (rq (Kd.R_mono b9.out (fun _ hk => ⟨hk.1.1.1.1.1.1.1.2, ⟨hk.1.1.1.1.1.1.2, ⟨hk.1.1.1.1.1.2, ⟨hk.1.1.1.1.2, ⟨hk.1.1.1.2, ⟨hk.1.1.2, ⟨hk.1.2, hk.2⟩⟩⟩⟩⟩⟩⟩))), (rq (Kd.R_mono g8.out (fun _ hk => ⟨hk.1.1.1.1.1.1.1.2, ⟨hk.1.1.1.1.1.1.2, ⟨hk.1.1.1.1.1.2, ⟨hk.1.1.1.1.2, ⟨hk.1.1.1.2, ⟨hk.1.1.2, ⟨hk.1.2, hk.2⟩⟩⟩⟩⟩⟩⟩))), (bq a1.out), (bq a2.out), (bq b6.out), i9.out, j5.out, e2.out, d2.out, b7.out, d4.out, d1.out, d5.out, (Aa0.q a0.out), (hsk HB.out (Aa0.ge a0.out))⟩)
   clear a3 a4 a5 a8 a6 b2 b3 b4 a1 a2 a0 HB
   rintro ⟨q2, l9, b8⟩ E4 ⟨E5, A9, B0, B2, B4, B5, B8, B9, C0, C1, C2, q3, q4, q5, q6, q7, q8, q9, r0, r5, r6, r7, r8, r9⟩
   try dsimp only at E5 A9 B0 B2 B4 B5 B8 B9 C0 C1 C2 q3 q4 q5 q6 q7 q8 q9 r0 r5 r6 r7 r8 r9
   have a3 := am A9; have a4 := am B0; have a5 := am B2; have a8 := am B4; have a6 := am B5; have b2 := am B8; have b3 := am B9; have b4 := am C0; have b9 := am C1; have g8 := am C2; have a1 := am q3; have a2 := am q4; have b6 := am q5; have i9 := am q6; have j5 := am q7; have e2 := am q8; have d2 := am q9; have b7 := am r0; have d4 := am r5; have d1 := am r6; have d5 := am r7; have a0 := am r8; have HB := am r9; clear A9 B0 B2 B4 B5 B8 B9 C0 C1 C2 q3 q4 q5 q6 q7 q8 q9 r0 r5 r6 r7 r8 r9; have hHeld := E5
   obtain ⟨m3, m4, t7⟩ := Kd.R_slice g8.out
   (first | subst t7 | (injection t7 with n1 o7 n2; have o8 := n1.symm; have o9 := n2.symm; clear n1 o7 n2; subst o8; subst o9))
   refine nj ?_
   refine on_ 10 none rfl rfl h7 (fun K hK => ?_)
   have K8 : E4.cell? ⟨b8, 0, none⟩ = some (.int .i64 0) := (Ad1 b6.out 0).trans rfl
   have E6 := Aa2 b6.out 0
   have v8 := b7.out
   have v9 := d1.out
   have w2 := d4.out
   have w3 := d5.out
   have K9 : E4.cell? ⟨b8, 1, none⟩ = some (.slice none 0 0) := (Ad1 b6.out 1).trans rfl
   have E7 := Aa2 b6.out 1
   have w4 := b7.out
   have w5 := d1.out
   have w6 := d4.out
   have x0 := d5.out
   refine Be5 (w1 := ?_) (by rfl) rfl ?_ ?_
   rotate_left
   ·go_simp
    rfl
   refine hK.out _ _ (((Ai9 (p := ⟨b8, _, none⟩) d1.out _).trans (((Ai9 (p := ⟨b8, _, none⟩) d1.out _).trans (hHeld))))) (fun hHeld => ?_)
   clear hK K
   refine Ar3 (Al8 h7.out (by kernel_rfl)) ?_
   obtain ⟨E8, E9⟩ := nn d4
   obtain ⟨F0, F1⟩ := nn d5
   obtain ⟨F2, F3⟩ := nn d2
   have x1 := c0_ b6
   have x2 := c1_ b6
   have x3 := Aa2 b6.out 0
   have x4 := Aa2 b6.out 1
   go_upto_if 59 with (fail)
   have H := t3.out
   clear t3
   by_cases t8 : h9 = 0
   ·rw [if_pos t8] at H
    obtain ⟨m5, t9⟩ := bqt t8; clear t8
    (first | rw [m5] | (simp only [Ae6, Ae7]; rw [m5]) | skip)
    simp only [Option.some.injEq, Prod.mk.injEq] at H
    obtain ⟨rfl, rfl, rfl, rfl⟩ := H
    obtain ⟨F4, F5⟩ := nn d4
    obtain ⟨F6, F7⟩ := nn d5
    obtain ⟨F8, F9⟩ := nn d2
    have x5 := c0_ b6
    have x6 := c1_ b6
    have x7 := Aa2 b6.out 0
    have x8 := Aa2 b6.out 1
    obtain ⟨G0, G1⟩ := nn e6
    obtain ⟨G2, G3⟩ := nn b1
    have x9 := c0_ a2
    have y0 := Aa2 a2.out 0
    obtain ⟨G4, G5⟩ := nn b5
    have y1 := c0_ a1
    have y2 := Aa2 a1.out 0
    go_wp2
    refine bodyPost_ret (At6 (rs := [.cell 2 36, .tmp 3, .tmp 4, .tmp 5]) rfl (by simp) (.cell d6 36 #[.slice d3 b0.length d7] (0, 0) _ rfl (by refine bq ?_; refine Ac7 (cs := #[.slice none 0 0]) ?_ 0 _ rfl; refine bq ?_; refine Aq1 ?_ b7.out _; refine bq ?_; refine Aq1 ?_ b7.out _; refine bq ?_; exact a1.out) Tryz.underlying36 rfl (by kernel_rfl) (.tmp (.tmp (.tmp .nil))))) rfl ?_
    exact ⟨_, _, _, _, er, rq (Kd.R_mono (Kd.R_far (p := ⟨d6, 0, none⟩) (Kd.R_far (p := ⟨b8, 1, none⟩) (Kd.R_far (p := ⟨b8, 0, none⟩) (Kd.R_types (Kd.R_types a3.out b6.out (by decide)) a1.out (by decide)) (fun _ hk => hk.1.2) (.int .i64 h9)) (fun _ hk => hk.1.2) (.slice m3 i4.length m4)) (fun _ hk => hk.2) (.slice d3 b0.length d7)) (fun _ hk => trivial)), by (with_reducible repeat (first | apply Kd.Q_alloc | apply Kd.Q_drewN | apply Kd.Q_drew)); exact Kd.Q_mono (Kd.Q_far (p := ⟨d6, 0, none⟩) (Kd.Q_far (p := ⟨b8, 1, none⟩) (Kd.Q_far (p := ⟨b8, 0, none⟩) (Kd.Q_types (Kd.Q_types a4.out b6.out (by decide)) a1.out (by decide)) (fun _ hk => hk.1.2) (.int .i64 h9)) (fun _ hk => hk.1.2) (.slice m3 i4.length m4)) (fun _ hk => hk.2) (.slice d3 b0.length d7)) (fun _ hk => by first | exact ⟨hk.1.1.2.2.1, hk.1.1.2.2.2.2.2.2.2⟩ | exact ⟨hk.1.1.2.2.2.2.2.2.2, hk.1.1.2.2.1⟩ | trivial), by (with_reducible repeat (first | apply Kd.R_alloc | apply Kd.R_drewN | apply Kd.R_drew)); exact Kd.R_mono (Kd.R_far (p := ⟨d6, 0, none⟩) (Kd.R_far (p := ⟨b8, 1, none⟩) (Kd.R_far (p := ⟨b8, 0, none⟩) (Kd.R_types (Kd.R_types a6.out b6.out (by decide)) a1.out (by decide)) (fun _ hk => hk.1.2) (.int .i64 h9)) (fun _ hk => hk.1.2) (.slice m3 i4.length m4)) (fun _ hk => hk.2) (.slice d3 b0.length d7)) (fun _ hk => by first | exact ⟨hk.1.1.1, hk.1.1.2.2.2.2.2.2.2⟩ | exact ⟨hk.1.1.2.2.2.2.2.2.2, hk.1.1.1⟩ | trivial), by (with_reducible repeat (first | apply Kd.R_alloc | apply Kd.R_drewN | apply Kd.R_drew)); exact Kd.R_mono (Kd.R_far (p := ⟨d6, 0, none⟩) (Kd.R_far (p := ⟨b8, 1, none⟩) (Kd.R_far (p := ⟨b8, 0, none⟩) (Kd.R_types (Kd.R_types g8.out b6.out (by decide)) a1.out (by decide)) (fun _ hk => hk.1.2) (.int .i64 h9)) (fun _ hk => hk.1.2) (.slice m3 i4.length m4)) (fun _ hk => hk.2) (.slice d3 b0.length d7)) (fun _ hk => by first | exact ⟨hk.1.1.1, hk.1.1.2.2.2.1⟩ | exact ⟨hk.1.1.2.2.2.1, hk.1.1.1⟩ | trivial), hsk HB.out (Aa0.ge a0.out)⟩
   ·rw [if_neg t8] at H
    obtain ⟨m5, t9⟩ := bqf t8
    (first | rw [m5] | (simp only [Ae6, Ae7]; rw [m5]) | skip)
    simp only [Option.some.injEq, Prod.mk.injEq] at H
    obtain ⟨rfl, rfl, rfl, rfl⟩ := H
    obtain ⟨G6, G7⟩ := nn e6
    obtain ⟨G8, G9⟩ := nn d1
    obtain ⟨H0, H1⟩ := nn b1
    have y3 := c0_ a2
    have y4 := Aa2 a2.out 0
    obtain ⟨H2, H3⟩ := nn b7
    obtain ⟨H4, H5⟩ := nn b5
    have y5 := c0_ a1
    have y6 := Aa2 a1.out 0
    go_wp2
    refine bodyPost_ret (At6 (rs := [.cell 2 36, .tmp 3, .tmp 4, .tmp 5]) rfl (by simp) (.cell d6 36 #[.slice d3 b0.length d7] (0, 0) _ rfl (by refine bq ?_; refine Ac7 (cs := #[.slice none 0 0]) ?_ 0 _ rfl; refine bq ?_; refine Aq1 ?_ b7.out _; refine bq ?_; refine Aq1 ?_ b7.out _; refine bq ?_; exact a1.out) Tryz.underlying36 rfl (by kernel_rfl) (.tmp (.tmp (.tmp .nil))))) rfl ?_
    exact ⟨_, _, _, _, er, rq (Kd.R_mono (Kd.R_far (p := ⟨d6, 0, none⟩) (Kd.R_far (p := ⟨b8, 1, none⟩) (Kd.R_far (p := ⟨b8, 0, none⟩) (Kd.R_types (Kd.R_types a3.out b6.out (by decide)) a1.out (by decide)) (fun _ hk => hk.1.2) (.int .i64 h9)) (fun _ hk => hk.1.2) (.slice m3 i4.length m4)) (fun _ hk => hk.2) (.slice d3 b0.length d7)) (fun _ hk => trivial)), by (with_reducible repeat (first | apply Kd.Q_alloc | apply Kd.Q_drewN | apply Kd.Q_drew)); exact Kd.Q_mono (Kd.Q_far (p := ⟨d6, 0, none⟩) (Kd.Q_far (p := ⟨b8, 1, none⟩) (Kd.Q_far (p := ⟨b8, 0, none⟩) (Kd.Q_types (Kd.Q_types a4.out b6.out (by decide)) a1.out (by decide)) (fun _ hk => hk.1.2) (.int .i64 h9)) (fun _ hk => hk.1.2) (.slice m3 i4.length m4)) (fun _ hk => hk.2) (.slice d3 b0.length d7)) (fun _ hk => by first | exact ⟨hk.1.1.2.2.1, hk.1.1.2.2.2.2.2.1⟩ | exact ⟨hk.1.1.2.2.2.2.2.1, hk.1.1.2.2.1⟩ | trivial), by (with_reducible repeat (first | apply Kd.R_alloc | apply Kd.R_drewN | apply Kd.R_drew)); exact Kd.R_mono (Kd.R_far (p := ⟨d6, 0, none⟩) (Kd.R_far (p := ⟨b8, 1, none⟩) (Kd.R_far (p := ⟨b8, 0, none⟩) (Kd.R_types (Kd.R_types a6.out b6.out (by decide)) a1.out (by decide)) (fun _ hk => hk.1.2) (.int .i64 h9)) (fun _ hk => hk.1.2) (.slice m3 i4.length m4)) (fun _ hk => hk.2) (.slice d3 b0.length d7)) (fun _ hk => by first | exact ⟨hk.1.1.1, hk.1.1.2.2.2.2.2.1⟩ | exact ⟨hk.1.1.2.2.2.2.2.1, hk.1.1.1⟩ | trivial), by (with_reducible repeat (first | apply Kd.R_alloc | apply Kd.R_drewN | apply Kd.R_drew)); exact Kd.R_mono (Kd.R_far (p := ⟨d6, 0, none⟩) (Kd.R_far (p := ⟨b8, 1, none⟩) (Kd.R_far (p := ⟨b8, 0, none⟩) (Kd.R_types (Kd.R_types b4.out b6.out (by decide)) a1.out (by decide)) (fun _ hk => hk.1.2) (.int .i64 h9)) (fun _ hk => hk.1.2) (.slice m3 i4.length m4)) (fun _ hk => hk.2) (.slice d3 b0.length d7)) (fun _ hk => by first | exact ⟨hk.1.1.1, hk.1.1.2.2.2.1⟩ | exact ⟨hk.1.1.2.2.2.1, hk.1.1.1⟩ | trivial), hsk HB.out (Aa0.ge a0.out)⟩
  ·replace v6 := Bool.eq_false_iff.mpr v6
   subst v6
   rw [if_neg (show ¬ (false = true) by decide)] at H
   simp only [Option.some.injEq, Prod.mk.injEq] at H
   obtain ⟨rfl, rfl, rfl, rfl⟩ := H
   obtain ⟨H6, H7⟩ := nn e6
   obtain ⟨H8, H9⟩ := nn b1
   have y7 := c0_ a2
   have y8 := Aa2 a2.out 0
   obtain ⟨I0, I1⟩ := nn b5
   have y9 := c0_ a1
   have z0 := Aa2 a1.out 0
   go_wp2
   refine bodyPost_ret (At6 (rs := [.cell 2 36, .tmp 3, .tmp 4, .tmp 5]) rfl (by simp) (.cell d6 36 #[.slice d3 b0.length d7] (0, 0) _ rfl (by refine bq ?_; refine Ac7 (cs := #[.slice none 0 0]) ?_ 0 _ rfl; refine bq ?_; exact a1.out) Tryz.underlying36 rfl (by kernel_rfl) (.tmp (.tmp (.tmp .nil))))) rfl ?_
   exact ⟨_, _, _, _, er, rq (Kd.R_mono (Kd.R_far (p := ⟨d6, 0, none⟩) (Kd.R_types a3.out a1.out (by decide)) (fun _ hk => hk.2) (.slice d3 b0.length d7)) (fun _ hk => trivial)), by (with_reducible repeat (first | apply Kd.Q_alloc | apply Kd.Q_drewN | apply Kd.Q_drew)); exact Kd.Q_mono (Kd.Q_far (p := ⟨d6, 0, none⟩) (Kd.Q_types a4.out a1.out (by decide)) (fun _ hk => hk.2) (.slice d3 b0.length d7)) (fun _ hk => by first | exact ⟨hk.1.1.1.1.2, hk.1.2⟩ | exact ⟨hk.1.2, hk.1.1.1.1.2⟩ | trivial), by (with_reducible repeat (first | apply Kd.R_alloc | apply Kd.R_drewN | apply Kd.R_drew)); exact Kd.R_mono (Kd.R_far (p := ⟨d6, 0, none⟩) (Kd.R_types a6.out a1.out (by decide)) (fun _ hk => hk.2) (.slice d3 b0.length d7)) (fun _ hk => by first | exact ⟨hk.1.1.1.1.1.1.2, hk.1.2⟩ | exact ⟨hk.1.2, hk.1.1.1.1.1.1.2⟩ | trivial), by (with_reducible repeat (first | apply Kd.R_alloc | apply Kd.R_drewN | apply Kd.R_drew)); exact Kd.R_mono (Kd.R_far (p := ⟨d6, 0, none⟩) (Kd.R_types b4.out a1.out (by decide)) (fun _ hk => hk.2) (.slice d3 b0.length d7)) (fun _ hk => by first | exact ⟨hk.1.1.1.1.1.1.2, hk.1.1.1.2⟩ | exact ⟨hk.1.1.1.2, hk.1.1.1.1.1.1.2⟩ | trivial), hsk HB.out (Aa0.ge a0.out)⟩
end Go.Proofs.YtgichahebemmiaaGreatDoor.P
