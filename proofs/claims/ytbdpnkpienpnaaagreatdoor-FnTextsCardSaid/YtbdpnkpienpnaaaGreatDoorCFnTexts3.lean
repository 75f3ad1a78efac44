/- A part of the proof of the law FnTexts. -/
import Derived.Test.YtbdpnkpienpnaaaGreatDoorCFnTexts2
set_option maxHeartbeats 8000000
set_option maxRecDepth 100000
namespace Go.Proofs.YtbdpnkpienpnaaaGreatDoor.P
open Go.RowKit Go.Proofs.YtbdpnkpienpnaaaGreatDoorW.PrintWords Go.Proofs.YtbdpnkpienpnaaaGreatDoorW.PrintLast Go.Proofs.YtbdpnkpienpnaaaGreatDoorW.PrintMore
attribute [local go_sem] max2_int min2_int max_two min_two max_three min_three max_four min_four   -- for this text's walks alone
set_option linter.unusedVariables false
set_option linter.unusedSimpArgs false
def impl_EquationFault.f (k : Nat) (a0 : List (S90)) (a1 : List Int) (a2 : List Int) : Option (Int) := (impl_TermFault.f k a0 a1).bind fun a4 => ((impl_TermFault.f k a0 a2).bind fun a5 => ((impl_firstCode.f k (([a4, a5] : List Int))).bind fun a3 => (if a3 = 0 then ((impl_varsOf.f k (([a1, a2] : List (List Int)))).bind fun a6 => ((slices_ContainsFunc_int64_int64_impl_EquationFault_1.f k a6).bind fun a7 => (if a7 = true then (some 3) else (some 0)))) else (some a3))))
def impl_EquationFault.T1 : Bool × List (List Nat × List Nat) := (true, [([], []), ([], []), ([1], [1]), ([0, 2], [0, 2]), ([], []), ([], []), ([5], [5]), ([4, 6, 3], [4, 6]), ([3, 7], [3, 7]), ([8, 7], [8]), ([9, 9, 0, 1, 2, 3, 4, 5, 6, 7, 8, 9], [9])])
def impl_EquationFault.B1 : List Nat := [0, 0, 2, 7, 0, 0, 32, 127, 255, 511, 1023]
theorem impl_EquationFault.tab1 : rtab .any (opsOf Tryz.f11 1) = impl_EquationFault.T1 := by kernel_rfl
theorem impl_EquationFault.bits1 : waitsOk impl_EquationFault.T1.2 impl_EquationFault.B1 = true := by kernel_rfl
theorem impl_EquationFault.calls (k : Nat) (d7 : Option Addr) (d9 : Nat) (a9 : List (S90)) (P1_0_ : Nat → Prop) (b3 : Option Addr) (b8 : Nat) (a5 : List Int) (P1_1_ : Nat → Prop) (b4 : Option Addr) (b9 : Nat) (a6 : List Int) (r : Int) (w : World) (e6 : Kd.C k90 w d7 a9.length a9) (e5 : a9.length ≤ d9) (g6 : Kd.V (Kd.int .i64) 2 w w.heap.size (fun k_ => P1_0_ k_) (.slice b3 a5.length b8) a5) (g7 : Kd.V (Kd.int .i64) 2 w w.heap.size (fun k_ => P1_1_ k_) (.slice b4 a6.length b9) a6) (h : impl_EquationFault.f k a9 a5 a6 = some r) :
  Calls Tryz.prog 11 #[.agg #[.slice d7 a9.length d9], .agg #[.slice b3 a5.length b8, .slice b4 a6.length b9]] w fun e w' => e = .returned (.int .i64 r) ∧ Below w.heap.size w w' := by
 have j6 := Tryz.underlying26
 have j7 := Tryz.underlying29
 have e2 := am e6
 have e1 := am e5
 clear e6 e5
 have a2 := am (show Kd.V (Kd.int .i64) 2 w w.heap.size (fun k_ => ((P1_0_ k_ ∨ P1_1_ k_) ∨ w.heap.size ≤ k_)) (.slice b3 a5.length b8) a5 from Kd.V_mono g6 (fun k_ hk => .inl (.inl hk)))
 have a3 := am (show Kd.V (Kd.int .i64) 2 w w.heap.size (fun k_ => ((P1_0_ k_ ∨ P1_1_ k_) ∨ w.heap.size ≤ k_)) (.slice b4 a6.length b9) a6 from Kd.V_mono g7 (fun k_ hk => .inl (.inr hk)))
 have HB := am (Below.refl w.heap.size w)
 have H : ((impl_TermFault.f k a9 a5).bind fun c1 => ((impl_TermFault.f k a9 a6).bind fun d0 => ((impl_firstCode.f k (([c1, d0] : List Int))).bind fun d1 => (if d1 = 0 then ((impl_varsOf.f k (([a5, a6] : List (List Int)))).bind fun b2 => ((slices_ContainsFunc_int64_int64_impl_EquationFault_1.f k b2).bind fun d2 => (if d2 = true then (some 3) else (some 0)))) else (some d1))))) = some r := h
 clear h
 obtain ⟨c1, A3, H⟩ := ob H
 try dsimp only at H
 obtain ⟨d0, A4, H⟩ := ob H
 try dsimp only at H
 obtain ⟨b1, d5⟩ : ∃ y_ : List Int, y_ = (([c1, d0] : List Int)) := ⟨_, rfl⟩
 replace H : ((impl_firstCode.f k b1).bind fun d1 => (if d1 = 0 then ((impl_varsOf.f k (([a5, a6] : List (List Int)))).bind fun b2 => ((slices_ContainsFunc_int64_int64_impl_EquationFault_1.f k b2).bind fun d2 => (if d2 = true then (some 3) else (some 0)))) else (some d1))) = some r := by first | (rw [d5]; first | with_reducible exact H | with_reducible exact bs H) | with_reducible exact bs H | with_reducible exact H | (rw [d5]; exact H) | exact H
 have e3 := am d5
 clear d5
 obtain ⟨d1, A5, H⟩ := ob H
 try dsimp only at H
 have i3 := am H
 clear H
 go_enter Tryz.func11, Tryz.ntmps11
 try go_wp2_with (first | (refine bx 2 rfl #[.slice d7 a9.length d9] 26 ?_; intro a8 hg w7 hbox hb; replace a2 := am (Kd.V_below (Kd.V_elderB (vq a2.out) a8 (Nat.le_of_eq hg.symm)) hb); replace a3 := am (Kd.V_below (Kd.V_elderB (vq a3.out) a8 (Nat.le_of_eq hg.symm)) hb); have a1 := am (hbox); have g0 := am (bz hg (hq HB.out)); replace HB := sb HB hb; have i1 := g0; clear hb hbox hg) | (refine bx 3 rfl #[.slice b3 a5.length b8, .slice b4 a6.length b9] 29 ?_; intro a7 hg w8 hbox hb; replace a2 := am (Kd.V_below (Kd.V_elderB (vq a2.out) a7 (Nat.le_of_eq hg.symm)) hb); replace a3 := am (Kd.V_below (Kd.V_elderB (vq a3.out) a7 (Nat.le_of_eq hg.symm)) hb); have a0 := am (hbox); have g1 := am (bz hg (hs HB.out)); replace HB := sb HB hb; have i2 := g1; have e8 := nl hg a1; have d8 := ng hg a1; replace a1 := bb a1 hb; clear hb hbox hg))
 replace a2 := am (Kd.V_drew a2.out)
 replace a3 := am (Kd.V_drew a3.out)
 replace a1 := am (blk_drew a1.out)
 replace a0 := am (blk_drew a0.out)
 replace HB := am (below_drew1 HB.out)
 refine st_ (n := 11) (S := fun w' => w'.cell? ⟨a8, 0, none⟩ = some (.slice d7 a9.length d9) ∧ w'.cell? ⟨a7, 0, none⟩ = some (.slice b3 a5.length b8) ∧ w'.cell? ⟨a7, 1, none⟩ = some (.slice b4 a6.length b9)) (ds := []) ⟨(blk_cell a1.out 0).trans rfl, (blk_cell a0.out 0).trans rfl, (blk_cell a0.out 1).trans rfl⟩ (fun hHeld => ?_); refine with_tabW impl_EquationFault.tab1 impl_EquationFault.bits1 (fun e0 g8 => ?_)
 generalize w8.drew = w9 at a2 a3 a1 a0 HB hHeld ⊢
 refine pu 1 7 rfl rfl e0 ?_
 refine pu 5 11 rfl rfl e0 ?_
 refine tk 0 6 rfl rfl e0 g8 hHeld ?_
 refine tk 2 8 rfl rfl e0 g8 hHeld ?_
 refine tk 4 10 rfl rfl e0 g8 hHeld ?_
 refine tk 6 12 rfl rfl e0 g8 hHeld ?_
 refine on_ 3 (some 9) rfl rfl e0 (fun K hK => ?_)
 refine gs Tryz.func28 #[.agg #[.slice d7 a9.length d9], .slice b3 a5.length b8] ?_
 refine (impl_TermFault.calls k _ _ a9 _ _ a5 c1 _ (cq (Kd.C_below e2.out HB.out)) e1.out (cq (Kd.V_reads' a2.out).2.2) ((Kd.V_reads' a2.out).2.1) A3.out).mono ?_
 rintro e k2 ⟨rfl, hb⟩
 refine ⟨_, rfl, ?_⟩
 replace a2 := am (Kd.V_below (vq a2.out) hb)
 replace a3 := am (Kd.V_below (vq a3.out) hb)
 replace a1 := bb a1 hb
 replace a0 := bb a0 hb
 replace HB := sb HB hb
 (try clear hb)
 (try clear hk)
 refine hK.out _ _ ⟨(blk_cell a1.out 0).trans rfl, (blk_cell a0.out 0).trans rfl, (blk_cell a0.out 1).trans rfl⟩ (fun hHeld => ?_)
 clear hK K
 refine nr (some 9) ?_
 refine on_ 7 (some 13) rfl rfl e0 (fun K hK => ?_)
 refine gs Tryz.func28 #[.agg #[.slice d7 a9.length d9], .slice b4 a6.length b9] ?_
 refine (impl_TermFault.calls k _ _ a9 _ _ a6 d0 _ (cq (Kd.C_below e2.out HB.out)) e1.out (cq (Kd.V_reads' a3.out).2.2) ((Kd.V_reads' a3.out).2.1) A4.out).mono ?_
 rintro e k3 ⟨rfl, hb⟩
 refine ⟨_, rfl, ?_⟩
 replace a2 := am (Kd.V_below (vq a2.out) hb)
 replace a3 := am (Kd.V_below (vq a3.out) hb)
 replace a1 := bb a1 hb
 replace a0 := bb a0 hb
 replace HB := sb HB hb
 (try clear hb)
 (try clear hk)
 refine hK.out _ _ ⟨(blk_cell a1.out 0).trans rfl, (blk_cell a0.out 0).trans rfl, (blk_cell a0.out 1).trans rfl⟩ (fun hHeld => ?_)
 clear hK K
 refine nr (some 13) ?_
 refine on_ 8 (some 14) rfl rfl e0 (fun K hK => ?_)
 refine Kd.R_lit_step (Kd.int .i64) _ 2 ?hg (N := 14) ?hd (xs := ([c1, d0] : List Int)) (inner := [.int .i64 c1, .int .i64 d0]) (ok := fun _ => True) (okp := fun _ => True) ?hr ?hp (fun _ hk => hk) trivial (Below.refl _ _) (Nat.le_refl _) (by simp) ?_; (case hd => rfl); (case hg => rfl); (case hr => first | (go_simp; done) | (go_simp; rfl)); (case hp => exact (Reps.one (show Kd.M (Kd.int .i64) _ _ _ c1 [.int .i64 c1] from rfl) (Reps.one (show Kd.M (Kd.int .i64) _ _ _ d0 [.int .i64 d0] from rfl) (Reps.none _ _))))
 intro j8 k4 d3 hb i0 hnew_
 clear i0 hnew_
 (first | rw [← e3.out] at d3 | (simp only [Int.reduceToNat] at d3; rw [← e3.out] at d3))
 replace a2 := am (Kd.V_elder' (vq a2.out) (Kd.R_base d3) hb)
 replace a3 := am (Kd.V_elder' (vq a3.out) (Kd.R_base d3) hb)
 have a4 := am (Kd.R_lower (Kd.R_newM (M := fun k_ => (w.heap.size ≤ k_)) d3 (below_size (hs HB.out)) (fun k_ h_ => h_)) (below_size (hs HB.out)))
 replace a1 := bb a1 hb
 replace a0 := bb a0 hb
 replace HB := sb HB hb
 clear hb d3
 obtain ⟨b5, c0, g5⟩ := Kd.R_slice a4.out
 (first | subst g5 | (injection g5 with f1_ f2_ f3_; have i9 := f1_.symm; have j5 := f3_.symm; clear f1_ f2_ f3_; subst i9; subst j5))
 refine hK.out _ _ ⟨(blk_cell a1.out 0).trans rfl, (blk_cell a0.out 0).trans rfl, (blk_cell a0.out 1).trans rfl⟩ (fun hHeld => ?_)
 clear hK K
 refine nr (some 14) ?_
 refine on_ 9 (some 15) rfl rfl e0 (fun K hK => ?_)
 refine gs Tryz.func27 #[.slice b5 b1.length c0] ?_
 refine (impl_firstCode.calls k _ _ b1 d1 _ (cq (Kd.R_reads' a4.out).2.2) ((Kd.R_reads' a4.out).2.1) A5.out).mono ?_
 rintro e k1 ⟨rfl, hb⟩
 refine ⟨_, rfl, ?_⟩
 replace a2 := am (Kd.V_below (vq a2.out) hb)
 replace a3 := am (Kd.V_below (vq a3.out) hb)
 replace a4 := rb a4 hb
 replace a1 := bb a1 hb
 replace a0 := bb a0 hb
 replace HB := sb HB hb
 (try clear hb)
 (try clear hk)
 refine hK.out _ _ ⟨(blk_cell a1.out 0).trans rfl, (blk_cell a0.out 0).trans rfl, (blk_cell a0.out 1).trans rfl⟩ (fun hHeld => ?_)
 clear hK K
 refine nr (some 15) ?_
 refine pu 10 5 rfl rfl e0 ?_
 refine done_ (done_of e0.out (by kernel_rfl)) ?_
 go_upto_if 17 with (fail)
 have H := i3.out
 clear i3
 by_cases g3 : d1 = 0
 ·rw [if_pos g3] at H
  obtain ⟨b7, g4⟩ := bqt g3; clear g3
  (first | rw [b7] | (simp only [i64_w, i32_w]; rw [b7]) | skip)
  obtain ⟨e7, d6⟩ : ∃ y_ : List (List Int), y_ = (([a5, a6] : List (List Int))) := ⟨_, rfl⟩
  replace H : ((impl_varsOf.f k e7).bind fun b2 => ((slices_ContainsFunc_int64_int64_impl_EquationFault_1.f k b2).bind fun d2 => (if d2 = true then (some 3) else (some 0)))) = some r := by first | (rw [d6]; first | with_reducible exact H | with_reducible exact bs H) | with_reducible exact bs H | with_reducible exact H | (rw [d6]; exact H) | exact H
  have e4 := am d6
  clear d6
  obtain ⟨b2, i6, H⟩ := ob H
  try dsimp only at H
  obtain ⟨d2, i7, H⟩ := ob H
  try dsimp only at H
  have g2 := am H
  clear H
  obtain ⟨i4, i5⟩ := nn d8
  have h0 := c0_ a0
  have h2 := c1_ a0
  have h3 := blk_frozen a0.out 0
  have h4 := blk_frozen a0.out 1
  go_upto_if 25 with (first | ((with_reducible refine gate_dst (N := 23) rfl ?_); refine Kd.N_lit (Kd.slice 2 (Kd.int .i64)) _ 27 ?hg (N' := 23) ?hd (xs := ([a5, a6] : List (List Int))) (inner := [.slice b3 a5.length b8, .slice b4 a6.length b9]) (ok := (fun k_ => ((P1_0_ k_ ∨ P1_1_ k_) ∨ w.heap.size ≤ k_) ∧ some k_ ≠ (.slice b5 b1.length c0 : Value).ownBlock ∧ k_ ≠ a8 ∧ k_ ≠ a7)) (okp := (fun k_ => ((P1_0_ k_ ∨ P1_1_ k_) ∨ w.heap.size ≤ k_) ∧ some k_ ≠ (.slice b5 b1.length c0 : Value).ownBlock ∧ k_ ≠ a8 ∧ k_ ≠ a7)) ?hr ?hp (fun _ hk => hk) ((show ∀ k_, k1.heap.size ≤ k_ → (fun k_ => ((P1_0_ k_ ∨ P1_1_ k_) ∨ w.heap.size ≤ k_) ∧ some k_ ≠ (.slice b5 b1.length c0 : Value).ownBlock ∧ k_ ≠ a8 ∧ k_ ≠ a7) k_ from fun k_ hk => ⟨(.inr (Nat.le_trans (below_size (hs HB.out)) hk)), Kd.fresh' (Kd.R_lt (rq a4.out)) k_ hk, Kd.freshB (bq a1.out) k_ hk, Kd.freshB (bq a0.out) k_ hk⟩) _ (Nat.le_refl _)) (Below.refl _ _) (Nat.le_refl _) (by simp) ?_; (case hd => rfl); (case hg => rfl); (case hr => first | (go_simp; done) | (go_simp; rfl)); (case hp => exact (Reps.one (show Kd.FK (Kd.slice 2 (Kd.int .i64)) _ _ a5 [.slice b3 a5.length b8] from (Kd.FK_slice_mk (Kd.V_reads' (Kd.V_mono (ok' := (fun k_ => ((P1_0_ k_ ∨ P1_1_ k_) ∨ w.heap.size ≤ k_) ∧ some k_ ≠ (.slice b5 b1.length c0 : Value).ownBlock ∧ k_ ≠ a8 ∧ k_ ≠ a7)) (a2.out) (fun k_ hk => ⟨hk.1.1.1, ⟨hk.2, ⟨hk.1.1.2, hk.1.2⟩⟩⟩))).2.1 (Kd.V_F (Kd.V_mono (ok' := (fun k_ => ((P1_0_ k_ ∨ P1_1_ k_) ∨ w.heap.size ≤ k_) ∧ some k_ ≠ (.slice b5 b1.length c0 : Value).ownBlock ∧ k_ ≠ a8 ∧ k_ ≠ a7)) (a2.out) (fun k_ hk => ⟨hk.1.1.1, ⟨hk.2, ⟨hk.1.1.2, hk.1.2⟩⟩⟩))))) (Reps.one (show Kd.FK (Kd.slice 2 (Kd.int .i64)) _ _ a6 [.slice b4 a6.length b9] from (Kd.FK_slice_mk (Kd.V_reads' (Kd.V_mono (ok' := (fun k_ => ((P1_0_ k_ ∨ P1_1_ k_) ∨ w.heap.size ≤ k_) ∧ some k_ ≠ (.slice b5 b1.length c0 : Value).ownBlock ∧ k_ ≠ a8 ∧ k_ ≠ a7)) (a3.out) (fun k_ hk => ⟨hk.1.1.1, ⟨hk.2, ⟨hk.1.1.2, hk.1.2⟩⟩⟩))).2.1 (Kd.V_F (Kd.V_mono (ok' := (fun k_ => ((P1_0_ k_ ∨ P1_1_ k_) ∨ w.heap.size ≤ k_) ∧ some k_ ≠ (.slice b5 b1.length c0 : Value).ownBlock ∧ k_ ≠ a8 ∧ k_ ≠ a7)) (a3.out) (fun k_ hk => ⟨hk.1.1.1, ⟨hk.2, ⟨hk.1.1.2, hk.1.2⟩⟩⟩))))) (Reps.none _ _)))); intro j9 k5 d4 hb i0 hnew_; clear i0 hnew_; (first | rw [← e4.out] at d4 | (simp only [Int.reduceToNat] at d4; rw [← e4.out] at d4)); replace a2 := am (Kd.V_elder' (vq a2.out) (Kd.N_base d4) hb); replace a3 := am (Kd.V_elder' (vq a3.out) (Kd.N_base d4) hb); replace a4 := rb a4 hb; have b0 := am (Kd.N_lower d4 (below_size (hs HB.out))); replace a1 := bb a1 hb; replace a0 := bb a0 hb; replace HB := sb HB hb; clear hb d4; obtain ⟨h5, h7, h9⟩ := Kd.N_slice b0.out; subst h9) | (refine gl (some 24) Tryz.func37 rfl #[.slice h5 e7.length h7] ?_; refine (impl_varsOf.calls k _ _ e7 b2 _ (cq (Kd.N_reads' b0.out).2.2) ((Kd.N_reads' b0.out).2.1) i6.out).mono ?_; rintro e k6 ⟨k0, rfl, e9, hb⟩; refine ⟨_, rfl, ?_⟩; replace a2 := am (Kd.V_elder' (vq a2.out) (Kd.R_base e9) hb); replace a3 := am (Kd.V_elder' (vq a3.out) (Kd.R_base e9) hb); replace b0 := am (Kd.N_elder' (by (with_reducible repeat (first | apply Kd.N_alloc | apply Kd.N_drewN | apply Kd.N_drew)); exact b0.out) (Kd.R_base e9) hb); have b6 := am (Kd.R_lower (Kd.R_new' (Kd.R_newM (M := fun k_ => (w.heap.size ≤ k_)) e9 (below_size (hs HB.out)) (fun k_ h_ => h_)) (Kd.R_lt (rq a4.out))) (below_size (hs HB.out))); replace a4 := am (Kd.R_elder' (rq a4.out) (Kd.R_base e9) hb); replace a1 := bb a1 hb; replace a0 := bb a0 hb; replace HB := sb HB hb; (try clear hb); (try clear hk); (try clear e9); obtain ⟨h6, h8, rfl⟩ := Kd.R_slice b6.out) | (refine gl (some 25) Tryz.func36 rfl #[.slice h6 b2.length h8, .func (.func 38) #[] #[]] ?_; refine (slices_ContainsFunc_int64_int64_impl_EquationFault_1.calls k _ _ b2  d2 _ (cq (Kd.R_reads' b6.out).2.2) ((Kd.R_reads' b6.out).2.1) i7.out).mono ?_; rintro e k7 ⟨rfl, hb⟩; refine ⟨_, rfl, ?_⟩; replace a2 := am (Kd.V_below (vq a2.out) hb); replace a3 := am (Kd.V_below (vq a3.out) hb); replace a4 := rb a4 hb; replace b0 := am (Kd.N_below (by (with_reducible repeat (first | apply Kd.N_alloc | apply Kd.N_drewN | apply Kd.N_drew)); exact b0.out) hb); replace b6 := rb b6 hb; replace a1 := bb a1 hb; replace a0 := bb a0 hb; replace HB := sb HB hb; clear hb; (try clear hk)))
  have H := g2.out
  clear g2
  by_cases g9 : d2 = true
  ·subst g9
   rw [if_pos rfl] at H
   obtain rfl := Option.some.inj H
   go_wp2
   go_ret
   exact ⟨er, hs HB.out⟩
  ·replace g9 := Bool.eq_false_iff.mpr g9
   subst g9
   rw [if_neg (show ¬ (false = true) by decide)] at H
   obtain rfl := Option.some.inj H
   go_wp2
   go_ret
   exact ⟨er, hs HB.out⟩
 ·rw [if_neg g3] at H
  obtain ⟨b7, g4⟩ := bqf g3
  (first | rw [b7] | (simp only [i64_w, i32_w]; rw [b7]) | skip)
  obtain rfl := Option.some.inj H
  go_wp2
  go_ret
  exact ⟨er, hs HB.out⟩
def IsS86 (w0 W : World) (g : Nat) (f0 : List Int) (f1 : Int) : Prop := ∃ A0 c0, W.heap[g]? = some (.cells #[.slice A0 f0.length c0, .int .i64 f1] 86 (0, 0)) ∧ w0.heap.size ≤ g ∧ Kd.C (Kd.int .u8) w0 A0 f0.length f0
theorem IsS86.grown {w0 W : World} {g : Nat} {f0 : List Int} {f1 : Int} {W1 : World} {row : Option Nat} (h : IsS86 w0 W g f0 f1) (hw : W.grownBy W1 row) (hne : some g ≠ row) : IsS86 w0 W1 g f0 f1 := by
 obtain ⟨A0, c0, hb, hg, a0⟩ := h
 exact ⟨A0, c0, blk_grown hb hw hne, hg, a0⟩
theorem IsS86.kept {w0 W : World} {g : Nat} {f0 : List Int} {f1 : Int} {W1 : World} {S : Nat → Prop} (h : IsS86 w0 W g f0 f1) (hk : Kept W W1 S) (hne : ¬ S g) : IsS86 w0 W1 g f0 f1 := by
 obtain ⟨A0, c0, hb, hg, a0⟩ := h
 exact ⟨A0, c0, blk_kept hb hk hne, hg, a0⟩
theorem IsS86.below {w0 W : World} {g : Nat} {f0 : List Int} {f1 : Int} {W1 : World} (h : IsS86 w0 W g f0 f1) (hw : Below W.heap.size W W1) : IsS86 w0 W1 g f0 f1 := h.grown (grown_of_below hw none) (by simp)
theorem IsS86.alloc {w0 W : World} {g : Nat} {f0 : List Int} {f1 : Int} (h : IsS86 w0 W g f0 f1) (o : Obj) : IsS86 w0 (W.alloc o) g f0 f1 := h.below (below_alloc (Below.refl _ _) o)
theorem IsS86.drewN {w0 W : World} {g : Nat} {f0 : List Int} {f1 : Int} (h : IsS86 w0 W g f0 f1) (m : Nat) : IsS86 w0 (W.drewN m) g f0 f1 := h
theorem IsS86.drew {w0 W : World} {g : Nat} {f0 : List Int} {f1 : Int} (h : IsS86 w0 W g f0 f1) : IsS86 w0 W.drew g f0 f1 := h
theorem IsS86.at_ {w0 W : World} {g : Nat} {f0 : List Int} {f1 : Int} {w' : World} {m : Nat} (hq : W.drewN m = w') (h : IsS86 w0 W g f0 f1) : IsS86 w0 w' g f0 f1 := by subst hq; exact IsS86.drewN h m
theorem IsS86.apart {w0 W : World} {g : Nat} {f0 : List Int} {f1 : Int} {α : Type} {d : Kd α} {e : Nat} {base : Nat} {ok : Nat → Prop} {v : Value} {xs : List α} (h : IsS86 w0 W g f0 f1) (ho : d.R e W base ok v xs) (ht : ∀ q, q ∈ e :: d.E → q ≠ 86) : d.R e W base (fun k => ok k ∧ k ≠ g) v xs := by
 obtain ⟨A0, c0, hb, hg, a0⟩ := h
 exact Kd.R_types ho hb ht
theorem IsS86.own_ne {w0 W : World} {g : Nat} {f0 : List Int} {f1 : Int} {α : Type} {d : Kd α} {e : Nat} {base : Nat} {ok : Nat → Prop} {v : Value} {xs : List α} (h : IsS86 w0 W g f0 f1) (ho : d.R e W base ok v xs) (ht : e ≠ 86) : some g ≠ v.ownBlock := by
 obtain ⟨A0, c0, hb, hg, a0⟩ := h
 exact Kd.R_ne ho hb ht
theorem IsS86.lt {w0 W : World} {g : Nat} {f0 : List Int} {f1 : Int} (h : IsS86 w0 W g f0 f1) : g < W.heap.size := by
 obtain ⟨A0, c0, hb, hg, a0⟩ := h
 exact blk_lt hb
theorem IsS86.ge {w0 W : World} {g : Nat} {f0 : List Int} {f1 : Int} (h : IsS86 w0 W g f0 f1) : w0.heap.size ≤ g := by
 obtain ⟨A0, c0, hb, hg, a0⟩ := h
 exact hg
theorem IsS86.ne_blk {w0 W : World} {g : Nat} {f0 : List Int} {f1 : Int} {a : Nat} {cs : Array Value} {t : TypeId} {fr : Nat × Nat} (h : IsS86 w0 W g f0 f1) (a0 : W.heap[a]? = some (.cells cs t fr)) (ht : t ≠ 86) : g ≠ a := by
 obtain ⟨A0, c0, hb, hg, a1⟩ := h
 rintro rfl
 rw [hb] at a0
 injection a0 with a0
 injection a0 with _ ht2
 exact ht ht2.symm
theorem IsS86.far {w0 W : World} {g : Nat} {f0 : List Int} {f1 : Int} {p : Addr} (h : IsS86 w0 W g f0 f1) (hne : g ≠ p.block) (u : Value) : IsS86 w0 (W.setCell p u) g f0 f1 := by
 obtain ⟨A0, c0, hb, hg, a0⟩ := h
 exact ⟨A0, c0, blk_far hb hne u, hg, a0⟩
theorem cellS86_0 {W : World} {g : Nat} {A0 : Option Addr} {c0 : Nat} {f0 : List Int} {f1 : Int} (h : W.heap[g]? = some (.cells #[.slice A0 f0.length c0, .int .i64 f1] 86 (0, 0))) : W.cell? ⟨g, 0, none⟩ = some (.slice A0 f0.length c0) := (blk_cell h 0).trans rfl
theorem cellS86_1 {W : World} {g : Nat} {A0 : Option Addr} {c0 : Nat} {f0 : List Int} {f1 : Int} (h : W.heap[g]? = some (.cells #[.slice A0 f0.length c0, .int .i64 f1] 86 (0, 0))) : W.cell? ⟨g, 1, none⟩ = some (.int .i64 f1) := (blk_cell h 1).trans rfl
theorem IsS86.set_1 {w0 W : World} {g : Nat} {f0 : List Int} {f1 : Int} (h : IsS86 w0 W g f0 f1) (x : Int) : IsS86 w0 (W.setCell ⟨g, 1, none⟩ (.int .i64 x)) g f0 x := by
 obtain ⟨A0, c0, hb, hg, a0⟩ := h
 exact ⟨A0, c0, by simpa using blk_set hb 1 (.int .i64 x), hg, a0⟩
theorem IsS86.q {w0 W W' : World} {g : Nat} {f0 f0' : List Int} {f1 f1' : Int} (H : IsS86 w0 W' g f0' f1') (h : IsS86 w0 W' g f0' f1' → IsS86 w0 W g f0 f1 := by intro h; repeat (with_reducible first | exact h | apply IsS86.alloc | apply IsS86.drewN | apply IsS86.drew | apply IsS86.set_1 | refine IsS86.far ?_ (Aside0.out (by assumption)) _)) : IsS86 w0 W g f0 f1 := h H
theorem IsS86.rk {w0 w W W' W2 : World} {g : Nat} {f0 f0' : List Int} {f1 f1' : Int} {α : Type} {d : Kd α} {e base : Nat} {ok : Nat → Prop} {v : Value} {xs : List α} (H : Aside0 (IsS86 w0 W' g f0' f1')) (ho : Aside0 (d.R e W2 base ok v xs)) (hk : KeepBut w W g none) (ht : ∀ q, q ∈ e :: d.E → q ≠ 86 := by decide) (h1 : IsS86 w0 W' g f0' f1' → IsS86 w0 w g f0 f1 := by intro h; repeat (with_reducible first | exact h | apply IsS86.alloc | apply IsS86.drewN | apply IsS86.drew | apply IsS86.set_1 | refine IsS86.far ?_ (Aside0.out (by assumption)) _)) (h2 : d.R e W2 base ok v xs → d.R e w base ok v xs := by intro h; (with_reducible repeat (first | apply Kd.R_alloc | apply Kd.R_drewN | apply Kd.R_drew)); exact h) : Aside0 (d.R e W base ok v xs) := ⟨Kd.R_mono (Kd.R_keep (IsS86.apart (h1 H.out) (h2 ho.out) ht) hk (fun _ h => h.2)) (fun _ h => h.1)⟩
theorem IsS86.bl {w0 w W W' : World} {g : Nat} {f0 f0' : List Int} {f1 f1' : Int} (H : Aside0 (IsS86 w0 W' g f0' f1')) (hb : Below w.heap.size w W) (h1 : IsS86 w0 W' g f0' f1' → IsS86 w0 w g f0 f1 := by intro h; repeat (with_reducible first | exact h | apply IsS86.alloc | apply IsS86.drewN | apply IsS86.drew | apply IsS86.set_1 | refine IsS86.far ?_ (Aside0.out (by assumption)) _)) : Aside0 (IsS86 w0 W g f0 f1) := ⟨IsS86.below (h1 H.out) hb⟩
def spec_l1Source.f (l0 : List Int) : Option (List Int × Int) := some (l0, 0)
theorem spec_l1Source.calls (A0 : Option Addr) (c0 : Nat) (l0 : List Int) (r1 : List Int) (r2 : Int) (w0 w : World) (hB : Below w0.heap.size w0 w) (a5 : Kd.C (Kd.int .u8) w0 A0 l0.length l0) (a4 : l0.length ≤ c0) (h : spec_l1Source.f l0 = some (r1, r2)) :
  Calls Tryz.prog 23 #[.slice A0 l0.length c0] w fun e w' => ∃ g_ : Nat, e = .returned (.pointer (some ⟨g_, 0, none⟩)) ∧ IsS86 w0 w' g_ r1 r2 ∧ Below w0.heap.size w0 w' ∧ Below w.heap.size w w' ∧ w.heap.size ≤ g_ := by
 have a8 := Tryz.underlying86
 have a6 := am a5
 have a9 := am a4
 clear a5 a4
 have HBW := am (Below.refl w.heap.size w)
 have a7 := am hB.size
 have HB := am hB
 clear hB
 have H : (some (l0, 0)) = some (r1, r2) := h
 clear h
 simp only [Option.some.injEq, Prod.mk.injEq] at H
 obtain ⟨rfl, rfl⟩ := H
 go_enter Tryz.func23, Tryz.ntmps23
 go_wp2_with (first | (refine bx 5 rfl #[.slice A0 l0.length c0, .int .i64 0] 86 ?_; intro a0 hg w2 hbox hb; replace HB := sb HB hb; have a1 := am (hbox); have a3 := am (bz hg (hq HBW.out)); have a2 := am ((Nat.le_trans a7.out (by rw [hg]; exact (below_size (hq HBW.out)) : w.heap.size ≤ a0) : w0.heap.size ≤ a0)); replace HBW := am (below_step HBW.out hb); clear hb hbox hg))
 go_ret
 exact ⟨_, rfl, (show IsS86 w0 _ a0 l0 0 from ⟨_, _, bq a1.out, a2.out, a6.out⟩), hs HB.out, hs HBW.out, a3.out⟩
def spec_l1Next.f (a0 : List Int) (a2 : Int) (a1 : Int) : Option (Int × Int) := if a1 < 1 then (some (0, wrap64 (a2 + 1))) else (if (a0.length : Int) = 0 then (if a1 = 0 then (none) else (some (Int.tmod (wrap64 ((wrap64 ((wrap64 (a2 + 1)) - 1)) * 7)) a1, wrap64 (a2 + 1)))) else (if 0 ≤ (Int.tmod (wrap64 ((wrap64 (a2 + 1)) - 1)) (a0.length : Int)) then (if (Int.tmod (wrap64 ((wrap64 (a2 + 1)) - 1)) (a0.length : Int)) < (a0.length : Int) then (if a1 > 200 then (if 0 ≤ (Int.tmod (wrap64 ((wrap64 ((wrap64 (a2 + 1)) - 1)) + 1)) (a0.length : Int)) then (if (Int.tmod (wrap64 ((wrap64 ((wrap64 (a2 + 1)) - 1)) + 1)) (a0.length : Int)) < (a0.length : Int) then (if a1 = 0 then (none) else (some (Int.tmod (wrap64 ((wrap64 ((wrap64 ((wrap64 ((wrap64 (rd a0 (Int.tmod (wrap64 ((wrap64 (a2 + 1)) - 1)) (a0.length : Int)))) + (wrap64 ((wrap64 (Int.tdiv (wrap64 ((wrap64 (a2 + 1)) - 1)) (a0.length : Int))) * 37)))) * 251)) + (wrap64 ((wrap64 (rd a0 (Int.tmod (wrap64 ((wrap64 ((wrap64 (a2 + 1)) - 1)) + 1)) (a0.length : Int)))) * 13)))) + (wrap64 ((wrap64 (a2 + 1)) - 1)))) a1, wrap64 (a2 + 1)))) else (none)) else (none)) else (if a1 = 0 then (none) else (some (Int.tmod (wrap64 ((wrap64 (rd a0 (Int.tmod (wrap64 ((wrap64 (a2 + 1)) - 1)) (a0.length : Int)))) + (wrap64 ((wrap64 (Int.tdiv (wrap64 ((wrap64 (a2 + 1)) - 1)) (a0.length : Int))) * 37)))) a1, wrap64 (a2 + 1))))) else (none)) else (none)))
theorem spec_l1Next.calls (g : Nat) (a0 : List Int) (a2 : Int) (a1 : Int) (r1 : Int) (r2 : Int) (w0 w : World) (hI : IsS86 w0 w g a0 a2) (hB : Below w0.heap.size w0 w) (h : spec_l1Next.f a0 a2 a1 = some (r1, r2)) :
  Calls Tryz.prog 56 #[.pointer (some ⟨g, 0, none⟩), .int .i64 a1] w fun e w' => e = .returned (.int .i64 r1) ∧ IsS86 w0 w' g a0 r2 ∧ Below w0.heap.size w0 w' ∧ KeepBut w w' g none := by
 have a8 := am hI
 have HK := am (KeepBut.refl w g none)
 have HL := am hB.size
 clear hI
 have j7 := am hB.size
 have HB := am hB
 clear hB
 have H : (if a1 < 1 then (some (0, wrap64 (a2 + 1))) else (if (a0.length : Int) = 0 then (if a1 = 0 then (none) else (some (Int.tmod (wrap64 ((wrap64 ((wrap64 (a2 + 1)) - 1)) * 7)) a1, wrap64 (a2 + 1)))) else (if 0 ≤ (Int.tmod (wrap64 ((wrap64 (a2 + 1)) - 1)) (a0.length : Int)) then (if (Int.tmod (wrap64 ((wrap64 (a2 + 1)) - 1)) (a0.length : Int)) < (a0.length : Int) then (if a1 > 200 then (if 0 ≤ (Int.tmod (wrap64 ((wrap64 ((wrap64 (a2 + 1)) - 1)) + 1)) (a0.length : Int)) then (if (Int.tmod (wrap64 ((wrap64 ((wrap64 (a2 + 1)) - 1)) + 1)) (a0.length : Int)) < (a0.length : Int) then (if a1 = 0 then (none) else (some (Int.tmod (wrap64 ((wrap64 ((wrap64 ((wrap64 ((wrap64 (rd a0 (Int.tmod (wrap64 ((wrap64 (a2 + 1)) - 1)) (a0.length : Int)))) + (wrap64 ((wrap64 (Int.tdiv (wrap64 ((wrap64 (a2 + 1)) - 1)) (a0.length : Int))) * 37)))) * 251)) + (wrap64 ((wrap64 (rd a0 (Int.tmod (wrap64 ((wrap64 ((wrap64 (a2 + 1)) - 1)) + 1)) (a0.length : Int)))) * 13)))) + (wrap64 ((wrap64 (a2 + 1)) - 1)))) a1, wrap64 (a2 + 1)))) else (none)) else (none)) else (if a1 = 0 then (none) else (some (Int.tmod (wrap64 ((wrap64 (rd a0 (Int.tmod (wrap64 ((wrap64 (a2 + 1)) - 1)) (a0.length : Int)))) + (wrap64 ((wrap64 (Int.tdiv (wrap64 ((wrap64 (a2 + 1)) - 1)) (a0.length : Int))) * 37)))) a1, wrap64 (a2 + 1))))) else (none)) else (none)))) = some (r1, r2) := h
 clear h
 by_cases c3 : a1 < 1
 ·rw [if_pos c3] at H
  have g5 := decide_eq_true c3
  clear c3
  simp only [Option.some.injEq, Prod.mk.injEq] at H
  obtain ⟨rfl, rfl⟩ := H
  obtain ⟨e9, g8, b7, h8, g1⟩ := a8.out
  have h2 := cellS86_0 b7
  have h3 := cellS86_1 b7
  have h6 := blk_frozen b7 1
  clear b7 h8
  go_enter Tryz.func56, Tryz.ntmps56
  go_wp2
  repeat (go_quiet (fail); try go_wp2)
  go_ret
  exact ⟨er, IsS86.q a8.out, hsk HB.out (IsS86.ge a8.out), kq HK.out⟩
 ·rw [if_neg c3] at H
  have g5 := decide_eq_false c3
  clear c3
  by_cases c5 : (a0.length : Int) = 0
  ·rw [if_pos c5] at H
   obtain ⟨g6, g7⟩ := bqt c5; clear c5
   by_cases c6 : a1 = 0
   ·rw [if_pos c6] at H
    exact absurd H (by simp)
   ·rw [if_neg c6] at H
    obtain ⟨i9, j5⟩ := bqf c6
    simp only [Option.some.injEq, Prod.mk.injEq] at H
    obtain ⟨rfl, rfl⟩ := H
    obtain ⟨g0, g9, b8, h9, g2⟩ := a8.out
    have h4 := cellS86_0 b8
    have h5 := cellS86_1 b8
    have h7 := blk_frozen b8 1
    clear b8 h9
    go_enter Tryz.func56, Tryz.ntmps56
    go_wp2
    repeat (go_quiet (fail); try go_wp2)
    go_ret
    exact ⟨er, IsS86.q a8.out, hsk HB.out (IsS86.ge a8.out), kq HK.out⟩
  ·rw [if_neg c5] at H
   obtain ⟨g6, g7⟩ := bqf c5
   have i7 : ¬ (a0 = []) := fun h_ => c5 (by rw [h_]; rfl)
   obtain ⟨b6, c0⟩ : ∃ j_ : Int, (Int.tmod (wrap64 ((wrap64 (a2 + 1)) - 1)) (a0.length : Int)) = j_ := ⟨_, rfl⟩
   replace H : (if 0 ≤ (b6) then (if (b6) < (a0.length : Int) then (if a1 > 200 then (if 0 ≤ (Int.tmod (wrap64 ((wrap64 ((wrap64 (a2 + 1)) - 1)) + 1)) (a0.length : Int)) then (if (Int.tmod (wrap64 ((wrap64 ((wrap64 (a2 + 1)) - 1)) + 1)) (a0.length : Int)) < (a0.length : Int) then (if a1 = 0 then (none) else (some (Int.tmod (wrap64 ((wrap64 ((wrap64 ((wrap64 ((wrap64 (rd a0 (b6))) + (wrap64 ((wrap64 (Int.tdiv (wrap64 ((wrap64 (a2 + 1)) - 1)) (a0.length : Int))) * 37)))) * 251)) + (wrap64 ((wrap64 (rd a0 (Int.tmod (wrap64 ((wrap64 ((wrap64 (a2 + 1)) - 1)) + 1)) (a0.length : Int)))) * 13)))) + (wrap64 ((wrap64 (a2 + 1)) - 1)))) a1, wrap64 (a2 + 1)))) else (none)) else (none)) else (if a1 = 0 then (none) else (some (Int.tmod (wrap64 ((wrap64 (rd a0 (b6))) + (wrap64 ((wrap64 (Int.tdiv (wrap64 ((wrap64 (a2 + 1)) - 1)) (a0.length : Int))) * 37)))) a1, wrap64 (a2 + 1))))) else (none)) else (none)) = some (r1, r2) := by first | (rw [c0] at H; exact H) | (simp only [c0] at H ⊢; exact H)
   obtain ⟨j6, H⟩ := ife H
   obtain ⟨i0, H⟩ := ife H
   by_cases d3 : a1 > 200
   ·rw [if_pos d3] at H
    have d5 := decide_eq_true d3
    clear d3
    obtain ⟨b4, b5⟩ : ∃ j_ : Int, (Int.tmod (wrap64 ((wrap64 ((wrap64 (a2 + 1)) - 1)) + 1)) (a0.length : Int)) = j_ := ⟨_, rfl⟩
    replace H : (if 0 ≤ (b4) then (if (b4) < (a0.length : Int) then (if a1 = 0 then (none) else (some (Int.tmod (wrap64 ((wrap64 ((wrap64 ((wrap64 ((wrap64 (rd a0 (b6))) + (wrap64 ((wrap64 (Int.tdiv (wrap64 ((wrap64 (a2 + 1)) - 1)) (a0.length : Int))) * 37)))) * 251)) + (wrap64 ((wrap64 (rd a0 (b4))) * 13)))) + (wrap64 ((wrap64 (a2 + 1)) - 1)))) a1, wrap64 (a2 + 1)))) else (none)) else (none)) = some (r1, r2) := by first | (rw [b5] at H; exact H) | (simp only [b5] at H ⊢; exact H)
    obtain ⟨i1, H⟩ := ife H
    obtain ⟨i2, H⟩ := ife H
    by_cases g3 : a1 = 0
    ·rw [if_pos g3] at H
     exact absurd H (by simp)
    ·rw [if_neg g3] at H
     obtain ⟨i3, i4⟩ := bqf g3
     simp only [Option.some.injEq, Prod.mk.injEq] at H
     obtain ⟨rfl, rfl⟩ := H
     obtain ⟨d8, e0, b1, d6, b3⟩ := a8.out
     have e2 := cellS86_0 b1
     have e3 := cellS86_1 b1
     have e6 := blk_frozen b1 1
     clear b1 d6
     have a9 : 0 ≤ ((b6) : Int) := od
     have b0 : (b6) < (a0.length : Int) := od
     obtain ⟨a7, d0, a3⟩ := Kd.at_int b3 (b6) a9 b0
     cases d0
     have a4 : a7.block ≠ g := Nat.ne_of_lt (Nat.lt_of_lt_of_le (by have := World.block_lt_of_cell? _ _ a3; first | rwa [add_block] at this | exact this) (IsS86.ge a8.out))
     replace a3 := pw_cell_below HB.out a3
     replace a3 := (cell_far (p := ⟨g, 1, none⟩) (by first | (rw [add_block]; exact a4) | (show (Addr.add _ _).block ≠ _; rw [add_block]; exact a4) | exact a4) (.int .i64 (wrap64 (a2 + 1)))).trans a3
     (try have c1 := fun (n_ : Nat) => (show (((w.drewN n_).setCell ⟨g, 1, none⟩ (.int .i64 (wrap64 (a2 + 1))))).cell? _ = some _ from a3))
     clear a4
     obtain ⟨a9, b0⟩ := ee a9 b0
     have d1 : 0 ≤ ((b4) : Int) := od
     have d2 : (b4) < (a0.length : Int) := od
     obtain ⟨d4, h0, a5⟩ := Kd.at_int b3 (b4) d1 d2
     obtain rfl : a7 = d4 := (by injection h0)
     have a6 : a7.block ≠ g := Nat.ne_of_lt (Nat.lt_of_lt_of_le (by have := World.block_lt_of_cell? _ _ a5; first | rwa [add_block] at this | exact this) (IsS86.ge a8.out))
     replace a5 := pw_cell_below HB.out a5
     replace a5 := (cell_far (p := ⟨g, 1, none⟩) (by first | (rw [add_block]; exact a6) | (show (Addr.add _ _).block ≠ _; rw [add_block]; exact a6) | exact a6) (.int .i64 (wrap64 (a2 + 1)))).trans a5
     (try have e8 := fun (n_ : Nat) => (show (((w.drewN n_).setCell ⟨g, 1, none⟩ (.int .i64 (wrap64 (a2 + 1))))).cell? _ = some _ from a5))
     clear a6
     obtain ⟨d1, d2⟩ := ee d1 d2
     go_enter Tryz.func56, Tryz.ntmps56
     go_wp2
     repeat (go_quiet (fail); try go_wp2)
     go_ret
     exact ⟨by first | rfl | (simp [errW_none, errW_some] <;> rfl) | (simp only [← c0, ← b5]; first | rfl | (simp [errW_none, errW_some] <;> rfl)) | (simp [*, errW_none, errW_some] <;> rfl), IsS86.q a8.out, hsk HB.out (IsS86.ge a8.out), kq HK.out⟩
   ·rw [if_neg d3] at H
    have d5 := decide_eq_false d3
    clear d3
    by_cases g4 : a1 = 0
    ·rw [if_pos g4] at H
     exact absurd H (by simp)
    ·rw [if_neg g4] at H
     obtain ⟨i5, i6⟩ := bqf g4
     simp only [Option.some.injEq, Prod.mk.injEq] at H
     obtain ⟨rfl, rfl⟩ := H
     obtain ⟨d9, e1, b2, d7, b9⟩ := a8.out
     have e4 := cellS86_0 b2
     have e5 := cellS86_1 b2
     have e7 := blk_frozen b2 1
     clear b2 d7
     have a9 : 0 ≤ ((b6) : Int) := od
     have b0 : (b6) < (a0.length : Int) := od
     obtain ⟨a7, d0, a3⟩ := Kd.at_int b9 (b6) a9 b0
     cases d0
     have a4 : a7.block ≠ g := Nat.ne_of_lt (Nat.lt_of_lt_of_le (by have := World.block_lt_of_cell? _ _ a3; first | rwa [add_block] at this | exact this) (IsS86.ge a8.out))
     replace a3 := pw_cell_below HB.out a3
     replace a3 := (cell_far (p := ⟨g, 1, none⟩) (by first | (rw [add_block]; exact a4) | (show (Addr.add _ _).block ≠ _; rw [add_block]; exact a4) | exact a4) (.int .i64 (wrap64 (a2 + 1)))).trans a3
     (try have c1 := fun (n_ : Nat) => (show (((w.drewN n_).setCell ⟨g, 1, none⟩ (.int .i64 (wrap64 (a2 + 1))))).cell? _ = some _ from a3))
     clear a4
     obtain ⟨a9, b0⟩ := ee a9 b0
     go_enter Tryz.func56, Tryz.ntmps56
     go_wp2
     repeat (go_quiet (fail); try go_wp2)
     go_ret
     exact ⟨by first | rfl | (simp [errW_none, errW_some] <;> rfl) | (simp only [← c0]; first | rfl | (simp [errW_none, errW_some] <;> rfl)) | (simp [*, errW_none, errW_some] <;> rfl), IsS86.q a8.out, hsk HB.out (IsS86.ge a8.out), kq HK.out⟩
def spec_l1Pick.f (a1 : List Int) (a2 : Int) (l1 : List Int) : Option (Int × Int) := (spec_l1Next.f a1 a2 (l1.length : Int)).bind fun a0 => (if 0 ≤ a0.1 then (if a0.1 < (l1.length : Int) then (some (rd l1 a0.1, a0.2)) else (none)) else (none))
theorem spec_l1Pick.calls (g : Nat) (a2 : List Int) (a3 : Int) (A1 : Option Addr) (c1 : Nat) (l1 : List Int) (r1 : Int) (r2 : Int) (w0 w : World) (hI : IsS86 w0 w g a2 a3) (hB : Below w0.heap.size w0 w) (b3 : Kd.C (Kd.int .i64) w A1 l1.length l1) (b2 : l1.length ≤ c1) (b0 : ∀ ad, A1 = some ad → 0 < l1.length → ad.block ≠ g) (h : spec_l1Pick.f a2 a3 l1 = some (r1, r2)) :
  Calls Tryz.prog 26 #[.pointer (some ⟨g, 0, none⟩), .slice A1 l1.length c1] w fun e w' => e = .returned (.int .i64 r1) ∧ IsS86 w0 w' g a2 r2 ∧ Below w0.heap.size w0 w' ∧ KeepBut w w' g none := by
 have b4 := am b3
 have b7 := am b2
 clear b3 b2
 have a7 := am hI
 have HK := am (KeepBut.refl w g none)
 have HL := am hB.size
 clear hI
 have b8 := am hB.size
 have HB := am hB
 clear hB
 have H : ((spec_l1Next.f a2 a3 (l1.length : Int)).bind fun a0 => (if 0 ≤ a0.1 then (if a0.1 < (l1.length : Int) then (some (rd l1 a0.1, a0.2)) else (none)) else (none))) = some (r1, r2) := h
 clear h
 obtain ⟨⟨a4, b1⟩, A3, H⟩ := ob H
 try dsimp only at H
 obtain ⟨b5, H⟩ := ife H
 obtain ⟨b6, H⟩ := ife H
 simp only [Option.some.injEq, Prod.mk.injEq] at H
 obtain ⟨rfl, rfl⟩ := H
 go_enter Tryz.func26, Tryz.ntmps26
 go_wp2_with (first | (refine gl (some 9) Tryz.func56 rfl #[.pointer (some ⟨g, 0, none⟩), .int .i64 (l1.length : Int)] ?_; refine (spec_l1Next.calls g a2 a3 (l1.length : Int) a4 b1 w0 _ (IsS86.q a7.out) (hsk HB.out (IsS86.ge a7.out)) A3.out).mono ?_; rintro e w6 ⟨rfl, hi, hb, hk⟩; refine ⟨_, rfl, ?_⟩; replace HK := kt HK hk; replace HB := am (hb); replace a7 := am (hi); (try clear hb); (try clear hk); (try clear hi); have a5 : 0 ≤ (a4 : Int) := od; have a6 : a4 < (l1.length : Int) := od; obtain ⟨a8, a9, a1⟩ := Kd.at_int b4.out a4 a5 a6; cases a9; replace a1 := keep_cell HK.out a1 (by first | (rw [add_block]; exact b0 _ rfl (by omega)) | exact b0 _ rfl (by omega) | exact b0 a8 rfl (by omega)); replace a5 := eq_true a5; replace a6 := eq_true a6))
 go_ret
 exact ⟨er, IsS86.q a7.out, hsk HB.out (IsS86.ge a7.out), kq HK.out⟩
attribute [local go_sem] max2_int min2_int max_two min_two max_three min_three max_four min_four   -- for this text's walks alone
set_option linter.unusedVariables false
set_option linter.unusedSimpArgs false
def impl_argumentsOf.l0 : Nat → List Int → List Int → Int → Int → Int → List (S90) → Option (List Int)
 | 0, _, _, _, _, _, _ => none
 | k + 1, x1, x7, x8, a2, a3, a0 => if a3 < a2 then (if x7.length < 17592186044416 then ((impl_endOf.f k a0 x1 x8).bind fun a1 => (impl_argumentsOf.l0 k x1 (x7 ++ [x8]) a1 a2 (wrap64 (a3 + 1)) a0)) else (none)) else (some x7)
def impl_argumentsOf.f (k : Nat) (a0 : List (S90)) (l1 : List Int) (a2 : Int) : Option (List Int) := if 0 ≤ a2 then (if a2 < (l1.length : Int) then ((impl_arityOf.f a0 (rd l1 a2)).bind fun a1 => (impl_argumentsOf.l0 k l1 (([] : List Int)) (wrap64 (a2 + 1)) a1 0 a0)) else (none)) else (none)
theorem impl_argumentsOf.calls (k : Nat) (a8 : Option Addr) (a9 : Nat) (a1 : List (S90)) (A1 : Option Addr) (c1 : Nat) (l1 : List Int) (a2 : Int) (r : List Int) (w : World) (d3 : Kd.C k90 w a8 a1.length a1) (d2 : a1.length ≤ a9) (g2 : Kd.C (Kd.int .i64) w A1 l1.length l1) (g1 : l1.length ≤ c1) (h : impl_argumentsOf.f k a1 l1 a2 = some r) :
  Calls Tryz.prog 87 #[.agg #[.slice a8 a1.length a9], .slice A1 l1.length c1, .int .i64 a2] w fun e w' => ∃ g3 : Value, e = .returned (g3) ∧ Kd.R (Kd.int .i64) 3 w' w.heap.size (fun _ => True) g3 r ∧ Below w.heap.size w w' := by
 have g7 := Tryz.underlying26
 have b9 := am d3
 have b8 := am d2
 clear d3 d2
 have e9 := am g2
 have g5 := am g1
 clear g2 g1
 have HB := am (Below.refl w.heap.size w)
 have H : (if 0 ≤ a2 then (if a2 < (l1.length : Int) then ((impl_arityOf.f a1 (rd l1 a2)).bind fun a7 => (impl_argumentsOf.l0 k l1 (([] : List Int)) (wrap64 (a2 + 1)) a7 0 a1)) else (none)) else (none)) = some r := h
 clear h
 obtain ⟨e0, b1⟩ : ∃ y_ : List Int, y_ = (([] : List Int)) := ⟨_, rfl⟩
 replace H : (if 0 ≤ a2 then (if a2 < (l1.length : Int) then ((impl_arityOf.f a1 (rd l1 a2)).bind fun a7 => (impl_argumentsOf.l0 k l1 e0 (wrap64 (a2 + 1)) a7 0 a1)) else (none)) else (none)) = some r := by first | (rw [b1]; first | with_reducible exact H | with_reducible exact bs H) | with_reducible exact bs H | with_reducible exact H | (rw [b1]; exact H) | exact H
 have c0 := am b1
 clear b1
 obtain ⟨e4, H⟩ := ife H
 obtain ⟨e5, H⟩ := ife H
 obtain ⟨a7, A6, H⟩ := ob H
 try dsimp only at H
 have H' := am H
 clear H
 go_enter Tryz.func87, Tryz.ntmps87
 try go_wp2_with (first | (refine bx 3 rfl #[.slice a8 a1.length a9] 26 ?_; intro d1 hg w7 hbox hb; have a0 := am (hbox); have d5 := am (bz hg (hq HB.out)); replace HB := sb HB hb; have e7 := d5; clear hb hbox hg) | (refine rl 9 rfl 3 [] ?_; intro g9 w8 d9 hb g6 hnew_; clear g6 hnew_; (first | rw [← c0.out] at d9 | (simp only [Int.reduceToNat] at d9; rw [← c0.out] at d9)); have a4 := am (Kd.R_lower d9 (below_size (hs HB.out))); replace a0 := bb a0 hb; replace HB := sb HB hb; clear hb d9))
 replace a4 := am (Kd.R_drew a4.out)
 replace a0 := am (blk_drew a0.out)
 replace HB := am (below_drew1 HB.out)
 have b5 : 0 ≤ (a2 : Int) := od
 have b6 : a2 < (l1.length : Int) := od
 obtain ⟨d0, e6, a3⟩ := Kd.at_int e9.out a2 b5 b6
 have b0 := a3
 cases e6
 replace a3 := cz HB.out a3
 obtain ⟨b5, b6⟩ := ee b5 b6
 refine st_ (n := 7) (S := fun w' => w'.cell? ⟨d1, 0, none⟩ = some (.slice a8 a1.length a9) ∧ w'.cell? (d0.add (a2).toNat) = some (.int .i64 (rd l1 a2))) (ds := []) ⟨(blk_cell a0.out 0).trans rfl, (cz HB.out b0)⟩ (fun hHeld => ?_)
 generalize w8.drew = h2 at a4 a0 HB a3 hHeld ⊢
 refine pure_ (i := 1) (N := some 13) (v := ?_) (a' := ?_) #[false, true, false, false, false, false, false] rfl rfl (by kernel_rfl) (fun _ _ _ h => h) (Or.inl ⟨by rfl, ?_⟩) ?_ ?_
 rotate_left
 ·intro w'
  go_simp
  with_reducible rfl
 rotate_left
 ·simp only [Act.put, lsp, i64_w, i32_w]
  rfl
 refine pure_ (i := 2) (N := some 14) (v := ?_) (a' := ?_) #[false, true, true, false, false, false, false] rfl rfl (by kernel_rfl) (fun _ _ _ h => h) (Or.inl ⟨by rfl, ?_⟩) ?_ ?_
 rotate_left
 ·intro w'
  go_simp
  with_reducible rfl
 rotate_left
 ·simp only [Act.put, lsp, i64_w, i32_w]
  rfl
 refine pure_ (i := 3) (N := some 15) (v := ?_) (a' := ?_) #[false, true, true, true, false, false, false] rfl rfl (by kernel_rfl) (fun _ _ _ h => h) (Or.inl ⟨by rfl, ?_⟩) ?_ ?_
 rotate_left
 ·intro w'
  go_simp
  with_reducible rfl
 rotate_left
 ·simp only [Act.put, lsp, i64_w, i32_w]
  rfl
 refine pure_ (i := 6) (N := some 18) (v := ?_) (a' := ?_) #[false, true, true, true, false, false, true] rfl rfl (by kernel_rfl) (fun _ _ _ h => h) (Or.inl ⟨by rfl, ?_⟩) ?_ ?_
 rotate_left
 ·intro w'
  go_simp
  with_reducible rfl
 rotate_left
 ·simp only [Act.put, lsp, i64_w, i32_w]
  rfl
 refine take_ (i := 0) (N := some 12) (v := ?_) (a' := ?_) #[true, true, true, true, false, false, true] rfl rfl (by kernel_rfl) (fun _ _ _ h => h) (Or.inl ⟨by rfl, ?_⟩) hHeld ?_ ?_
 rotate_left
 ·rintro w' ⟨s0, s1⟩
  go_simp
  with_reducible rfl
 rotate_left
 ·simp only [Act.put, lsp, i64_w, i32_w]
  rfl
 refine take_ (i := 4) (N := some 16) (v := ?_) (a' := ?_) #[true, true, true, true, true, false, true] rfl rfl (by kernel_rfl) (fun _ _ _ h => h) (Or.inl ⟨by rfl, ?_⟩) hHeld ?_ ?_
 rotate_left
 ·rintro w' ⟨s0, s1⟩
  go_simp
  with_reducible rfl
 rotate_left
 ·simp only [Act.put, lsp, i64_w, i32_w]
  rfl
 refine one_ (i := 5) (N := some 17) #[true, true, true, true, true, true, true] rfl rfl (by kernel_rfl) (by decide) (fun K hK => ?_)
 refine gs Tryz.func91 #[.agg #[.slice a8 a1.length a9], .int .i64 (rd l1 a2)] ?_
 refine (impl_arityOf.calls _ _ a1 (rd l1 a2) a7 _ (cq (Kd.C_below b9.out HB.out)) b8.out A6.out).mono ?_
 rintro e h3 ⟨rfl, hb⟩
 refine ⟨_, rfl, ?_⟩
 replace a4 := rb a4 hb
 replace a0 := bb a0 hb
 replace HB := sb HB hb
 (try clear hb)
 (try clear hk)
 refine hK.out _ _ ⟨(blk_cell a0.out 0).trans rfl, (cz HB.out b0)⟩ (fun hHeld => ?_)
 clear hK K
 refine nr (some 17) ?_
 refine done_ (by kernel_rfl) ?_
 try go_wp2
 go_loopg [7, 8, 18] k (fun kq v7 v8 g8 w' => ∃ (b4 : List Int) (a6 : Int) (a5 : Int), v8 = .int .i64 a6 ∧ g8 = .int .i64 a5 ∧ Aside0 (impl_argumentsOf.l0 kq l1 b4 a6 a7 a5 a1 = some r) ∧ Aside0 (kq ≤ k) ∧ Aside0 (Kd.R (Kd.int .i64) 3 w' w.heap.size (fun _ => True) v7 b4) ∧ Aside0 (w'.heap[d1]? = some (.cells #[(.slice a8 a1.length a9)] 26 (0, 0))) ∧ Aside0 (Below w.heap.size w w'))
 case atStart => exact ⟨(e0), (wrap64 (a2 + 1)), (0), et, et, H', ⟨Nat.le_refl _⟩, ⟨rq a4.out⟩, ⟨bq a0.out⟩, ⟨hs HB.out⟩⟩
 case round =>
  clear H'
  try clear c1; try clear e4; try clear e5; try clear a3; try clear b5; try clear b6
  obtain ⟨b4, a6, a5, rfl, rfl, HA, e8, HO_7, a0, HB⟩ := hrel
  cases gk with
  | zero => exact absurd HA.out (by simp [impl_argumentsOf.l0])
  | succ k1 =>
   have H := HA.out
   clear HA
   simp only [impl_argumentsOf.l0] at H
   by_cases d4 : a5 < a7
   ·rw [if_pos d4] at H
    have d8 := decide_eq_true d4
    clear d4
    obtain ⟨g0, H⟩ := ifs H
    have d6 := am g0
    clear g0
    obtain ⟨e1, b2⟩ : ∃ y_ : List Int, y_ = (b4 ++ [a6]) := ⟨_, rfl⟩
    replace H : ((impl_endOf.f k1 a1 l1 a6).bind fun b7 => (impl_argumentsOf.l0 k1 l1 e1 b7 a7 (wrap64 (a5 + 1)) a1)) = some r := by first | (rw [b2]; first | with_reducible exact H | with_reducible exact bs H) | with_reducible exact bs H | with_reducible exact H | (rw [b2]; exact H) | exact H
    have d7 := am b2
    clear b2
    obtain ⟨b7, g4, H⟩ := ob H
    try dsimp only at H
    have H' := am H
    clear H
    go_wp2_with (first | ((with_reducible refine gate_builtin (b := .append) (xs := #[.tmp 20, .tmp 22]) rfl ?_); at_builtin; refine Kd.R_append (Kd.int .i64) (w0 := w) w.heap.size rfl (.tmp 20) (.tmp 22) 115 3 (.int .i64 0) 8 rfl Tryz.underlying115 info3 rfl (by decide) (by omega) u7 b4 a6 [.int .i64 a6] (fun _ => True) (fun _ => False) rfl rfl ?aP (fun _ hk => hk.elim) ?aF ?aO ?aB ?aS ?aL ?_; (case aP => exact rfl); (case aB => exact (hs HB.out)); (case aF => exact (fun _ _ => trivial)); (case aO => exact (rq HO_7.out)); (case aS => exact (below_size (hs HB.out))); (case aL => have := d6.out; omega); intro h0 h4 ho hb hg hat; rw [← d7.out] at ho; replace a0 := am (blk_grown (bq a0.out) hg (Kd.R_ne HO_7.out a0.out (by decide))); replace HB := am (hb); have b3 := am (ho); clear HO_7; clear ho hb hg hat; have e2 := c0_ a0; have e3 := blk_frozen a0.out 0) | (refine gl (some 27) Tryz.func61 rfl #[.agg #[.slice a8 a1.length a9], .slice (some d0) l1.length c1, .int .i64 a6] ?_; refine (impl_endOf.calls k1 _ _ a1 _ _ l1 a6 b7 _ (cq (Kd.C_below b9.out HB.out)) b8.out (cq (Kd.C_below e9.out HB.out)) g5.out g4.out).mono ?_; rintro e h5 ⟨rfl, hb⟩; refine ⟨_, rfl, ?_⟩; replace b3 := rb b3 hb; replace a0 := bb a0 hb; replace HB := sb HB hb; clear hb; (try clear hk)))
    go_roundg k1
    case measure => have := e8.out; omega
    case rel => exact ⟨(e1), (b7), (wrap64 (a5 + 1)), et, et, H', ⟨by have := e8.out; omega⟩, ⟨rq b3.out⟩, ⟨bq a0.out⟩, ⟨hs HB.out⟩⟩
   ·rw [if_neg d4] at H
    have d8 := decide_eq_false d4
    clear d4
    obtain rfl := Option.some.inj H
    go_wp2
    go_ret
    exact ⟨_, er, rq HO_7.out, hs HB.out⟩
theorem spot_none_J {w : World} {ad : Addr} {v : Value} (h : w.cell? ad = some v) : ad.spot = none := by
 unfold World.cell? at h
 cases hs : ad.spot with
 | none => rfl
 | some x =>
  rw [hs] at h
  simp at h
  split at h <;> cases h
theorem kd_cells_str {w : World} {A : Option Addr} {xs : List ByteArray} (h : Kd.C Kd.string w A xs.length xs) (hp : 0 < xs.length) :
  ∃ b off, A = some ⟨b, off, none⟩ ∧ ∀ j x, xs[j]? = some x → w.cell? ⟨b, off + j, none⟩ = some (.string x) := by
 obtain ⟨ad, rfl, h0⟩ := Kd.at_string h 0 (by omega) (by omega)
 have hs := spot_none_J h0
 have e0 : ad.add (0 : Int).toNat = ad := rfl
 rw [e0] at hs
 obtain ⟨b, off, sp⟩ := ad
 simp only at hs
 subst hs
 refine ⟨b, off, rfl, fun j x hx => ?_⟩
 obtain ⟨hj, rfl⟩ := List.getElem?_eq_some_iff.1 hx
 obtain ⟨ad, e, h1⟩ := Kd.at_string h (j : Int) (by omega) (by omega)
 obtain rfl := Option.some.inj e
 rw [Int.toNat_natCast] at h1
 have hr : rdOf ByteArray.empty xs (j : Int) = xs[j] := by simp [rdOf, List.getD_eq_getElem?_getD, hj]
 rw [hr] at h1
 cases j with
 | zero => exact h1
 | succ j => exact h1
theorem join_extra : Builder.Extra Tryz.prog Shelf.lays156_ren := {
 sizeBuilder := by kernel_rfl
 liesBuilder := by kernel_rfl
 t5 := Tryz.underlying5
 a5 := Tryz.isAgg5
 z5 := Tryz.sizeOf5
 v5 := Tryz.zeroValue5
 infoByte := by kernel_rfl
 cellsByte := by kernel_rfl
 sizeByte := by kernel_rfl
 neB5 := by decide }
def strings_Join.f (l0 : List ByteArray) (sep : ByteArray) : Option ByteArray := if l0.length ≤ 140737488355328 ∧ (Lib.join (l0.map (·.data.toList)) sep.data.toList).length ≤ 140737488355328 then some ⟨(Lib.join (l0.map (·.data.toList)) sep.data.toList).toArray⟩ else none
theorem strings_Join.calls (A0 : Option Addr) (c0 : Nat) (l0 : List ByteArray) (sep : ByteArray) (r : ByteArray) (w : World) (a1 : Kd.C Kd.string w A0 l0.length l0) (a0 : l0.length ≤ c0) (h : strings_Join.f l0 sep = some r) :
  Calls Tryz.prog 88 #[.slice A0 l0.length c0, .string sep] w fun e w' => e = .returned (.string r) ∧ Below w.heap.size w w' := by
 unfold strings_Join.f at h
 by_cases hc : l0.length ≤ 140737488355328 ∧ (Lib.join (l0.map (·.data.toList)) sep.data.toList).length ≤ 140737488355328
 case neg => rw [if_neg hc] at h; cases h
 rw [if_pos hc] at h
 obtain rfl := Option.some.inj h
 rcases Nat.eq_zero_or_pos l0.length with h0 | h0
 ·obtain rfl := List.eq_nil_of_length_eq_zero h0
  exact (Any.strings_Join_none Shelf.lays156 join_extra A0 c0 sep w).mono fun e w' h => ⟨h.1, by rw [h.2]; exact Below.refl _ _⟩
 ·obtain ⟨b, off, rfl, hx⟩ := kd_cells_str a1 h0
  have hb : b < w.heap.size := World.block_lt_of_cell? _ _ (hx 0 l0[0] (by simp [h0]))
  exact Any.strings_Join Shelf.lays156 join_extra b off c0 l0 sep w hx hb hc.1 a0 hc.2
mutual
def impl_textAt.l0 : Nat → List Int → ByteArray → List ByteArray → List Int → Int → Int → List (S90) → Option (ByteArray)
 | 0, _, _, _, _, _, _, _ => none
 | k + 1, x1, x8, x9, a4, a5, a2, a0 => if a2 < a5 then (if 0 ≤ a2 then (if a2 < (a4.length : Int) then ((impl_textAt.f k a0 x1 (rd a4 a2)).bind fun a3 => (if x9.length < 8796093022208 then (impl_textAt.l0 k x1 x8 (x9 ++ [a3]) a4 a5 (wrap64 (a2 + 1)) a0) else (none))) else (none)) else (none)) else (if (x9.length : Int) = 0 then (some x8) else (if x8.size + 1 ≤ 9223372036854775807 then ((strings_Join.f x9 (⟨#[44]⟩ : ByteArray)).bind fun a1 => (if (x8 ++ (⟨#[40]⟩ : ByteArray)).size + a1.size ≤ 9223372036854775807 then (if ((x8 ++ (⟨#[40]⟩ : ByteArray)) ++ a1).size + 1 ≤ 9223372036854775807 then (some (((x8 ++ (⟨#[40]⟩ : ByteArray)) ++ a1) ++ (⟨#[41]⟩ : ByteArray))) else (none)) else (none))) else (none)))
def impl_textAt.f : Nat → List (S90) → List Int → Int → Option (ByteArray)
 | 0, _, _, _ => none
 | k + 1, a0, l1, a2 => if 0 ≤ a2 then (if a2 < (l1.length : Int) then (if (rd l1 a2) < 0 then (some (strOfNums (([(wrap64 (64 - (rd l1 a2))) % 256] : List Int)))) else (if 0 ≤ (rd l1 a2) then (if (rd l1 a2) < (a0.length : Int) then ((impl_argumentsOf.f k a0 l1 a2).bind fun a1 => (impl_textAt.l0 k l1 ((rd_T90 a0 (rd l1 a2)).f0) (([] : List ByteArray)) a1 (a1.length : Int) 0 a0)) else (none)) else (none))) else (none)) else (none)
end
theorem impl_textAt.calls (k : Nat) : ∀ (d9 : Option Addr) (d4 : Nat) (a1 : List (S90)) (A1 : Option Addr) (c1 : Nat) (l1 : List Int) (a2 : Int) (r : ByteArray) (w : World) (e9 : Kd.C k90 w d9 a1.length a1) (e7 : a1.length ≤ d4) (m0 : Kd.C (Kd.int .i64) w A1 l1.length l1) (l9 : l1.length ≤ c1) (h : impl_textAt.f k a1 l1 a2 = some r),
  Calls Tryz.prog 52 #[.agg #[.slice d9 a1.length d4], .slice A1 l1.length c1, .int .i64 a2] w fun e w' => e = .returned (.string r) ∧ Below w.heap.size w w' := by
 induction k using Nat.strongRecOn with
 | _ k ih =>
 intro d9 d4 a1 A1 c1 l1 a2 r w e9 e7 m0 l9 h
 cases k with
 | zero => exact absurd h (by simp [impl_textAt.f])
 | succ k =>
 simp only [impl_textAt.f] at h
 have o7 := Tryz.underlying26
 have b2 := am e9
 have b4 := am e7
 clear e9 e7
 have g0 := am m0
 have h5 := am l9
 clear m0 l9
 have HB := am (Below.refl w.heap.size w)
 have H : (if 0 ≤ a2 then (if a2 < (l1.length : Int) then (if (rd l1 a2) < 0 then (some (strOfNums (([(wrap64 (64 - (rd l1 a2))) % 256] : List Int)))) else (if 0 ≤ (rd l1 a2) then (if (rd l1 a2) < (a1.length : Int) then ((impl_argumentsOf.f k a1 l1 a2).bind fun a4 => (impl_textAt.l0 k l1 ((rd_T90 a1 (rd l1 a2)).f0) (([] : List ByteArray)) a4 (a4.length : Int) 0 a1)) else (none)) else (none))) else (none)) else (none)) = some r := h
 clear h
 obtain ⟨k8, H⟩ := ife H
 obtain ⟨k9, H⟩ := ife H
 have m2 := am H
 clear H
 go_enter Tryz.func52, Tryz.ntmps52
 go_upto_if 17 with (first | (refine bx 3 rfl #[.slice d9 a1.length d4] 26 ?_; intro e6 hg w7 hbox hb; have a0 := am (hbox); have d2 := am (bz hg (hq HB.out)); replace HB := sb HB hb; have g7 := d2; clear hb hbox hg; have a9 : 0 ≤ (a2 : Int) := od; have b0 : a2 < (l1.length : Int) := od; obtain ⟨e4, e5, a3⟩ := Kd.at_int g0.out a2 a9 b0; cases e5; replace a3 := cz HB.out a3; replace a9 := eq_true a9; replace b0 := eq_true b0))
 repeat (go_quiet (first | (refine bx 3 rfl #[.slice d9 a1.length d4] 26 ?_; intro e6 hg w7 hbox hb; have a0 := am (hbox); have d2 := am (bz hg (hq HB.out)); replace HB := sb HB hb; have g7 := d2; clear hb hbox hg; have a9 : 0 ≤ (a2 : Int) := od; have b0 : a2 < (l1.length : Int) := od; obtain ⟨e4, e5, a3⟩ := Kd.at_int g0.out a2 a9 b0; cases e5; replace a3 := cz HB.out a3; replace a9 := eq_true a9; replace b0 := eq_true b0)); go_upto_if 17 with (first | (refine bx 3 rfl #[.slice d9 a1.length d4] 26 ?_; intro e6 hg w7 hbox hb; have a0 := am (hbox); have d2 := am (bz hg (hq HB.out)); replace HB := sb HB hb; have g7 := d2; clear hb hbox hg; have a9 : 0 ≤ (a2 : Int) := od; have b0 : a2 < (l1.length : Int) := od; obtain ⟨e4, e5, a3⟩ := Kd.at_int g0.out a2 a9 b0; cases e5; replace a3 := cz HB.out a3; replace a9 := eq_true a9; replace b0 := eq_true b0)))
 have H := m2.out
 clear m2
 by_cases c8 : (rd l1 a2) < 0
 ·rw [if_pos c8] at H
  have e0 := decide_eq_true c8
  clear c8
  (first | rw [e0] | (simp only [i64_w, i32_w]; rw [e0]) | skip)
  obtain ⟨m1, d6⟩ : ∃ y_ : List Int, y_ = (([(wrap64 (64 - (rd l1 a2))) % 256] : List Int)) := ⟨_, rfl⟩
  replace H : (some (strOfNums m1)) = some r := by first | (rw [d6]; first | with_reducible exact H | with_reducible exact bs H) | with_reducible exact bs H | with_reducible exact H | (rw [d6]; exact H) | exact H
  have b6 := am d6
  clear d6
  obtain rfl := Option.some.inj H
  go_wp2_with (first | ((with_reducible refine gate_dst (N := 21) rfl ?_); refine Kd.R_lit (Kd.int .u8) _ 5 ?hg (N := 21) ?hd (xs := ([(wrap64 (64 - (rd l1 a2))) % 256] : List Int)) (inner := [.int .u8 ((wrap64 (64 - (rd l1 a2))) % 256)]) (ok := fun _ => True) (okp := fun _ => True) ?hr ?hp (fun _ hk => hk) trivial (Below.refl _ _) (Nat.le_refl _) (by simp) ?_; (case hd => rfl); (case hg => rfl); (case hr => first | (go_simp; done) | (go_simp; rfl)); (case hp => exact (Reps.one (show Kd.M (Kd.int .u8) _ _ _ ((wrap64 (64 - (rd l1 a2))) % 256) [.int .u8 ((wrap64 (64 - (rd l1 a2))) % 256)] from rfl) (Reps.none _ _))); intro i6 w9 a6 hb e8 hnew_; clear e8 hnew_; (first | rw [← b6.out] at a6 | (simp only [Int.reduceToNat] at a6; rw [← b6.out] at a6)); have d3 := am (Kd.R_lower a6 (below_size (hs HB.out))); replace a0 := bb a0 hb; replace HB := sb HB hb; clear hb a6; have g8 := own_string (P := Tryz.prog) Tryz.underlying22 Tryz.underlying5 Tryz.underlying9 (Kd.own_of_R d3.out)))
  repeat (go_quiet (first | ((with_reducible refine gate_dst (N := 21) rfl ?_); refine Kd.R_lit (Kd.int .u8) _ 5 ?hg (N := 21) ?hd (xs := ([(wrap64 (64 - (rd l1 a2))) % 256] : List Int)) (inner := [.int .u8 ((wrap64 (64 - (rd l1 a2))) % 256)]) (ok := fun _ => True) (okp := fun _ => True) ?hr ?hp (fun _ hk => hk) trivial (Below.refl _ _) (Nat.le_refl _) (by simp) ?_; (case hd => rfl); (case hg => rfl); (case hr => first | (go_simp; done) | (go_simp; rfl)); (case hp => exact (Reps.one (show Kd.M (Kd.int .u8) _ _ _ ((wrap64 (64 - (rd l1 a2))) % 256) [.int .u8 ((wrap64 (64 - (rd l1 a2))) % 256)] from rfl) (Reps.none _ _))); intro i6 w9 a6 hb e8 hnew_; clear e8 hnew_; (first | rw [← b6.out] at a6 | (simp only [Int.reduceToNat] at a6; rw [← b6.out] at a6)); have d3 := am (Kd.R_lower a6 (below_size (hs HB.out))); replace a0 := bb a0 hb; replace HB := sb HB hb; clear hb a6; have g8 := own_string (P := Tryz.prog) Tryz.underlying22 Tryz.underlying5 Tryz.underlying9 (Kd.own_of_R d3.out))); try go_wp2_with (first | ((with_reducible refine gate_dst (N := 21) rfl ?_); refine Kd.R_lit (Kd.int .u8) _ 5 ?hg (N := 21) ?hd (xs := ([(wrap64 (64 - (rd l1 a2))) % 256] : List Int)) (inner := [.int .u8 ((wrap64 (64 - (rd l1 a2))) % 256)]) (ok := fun _ => True) (okp := fun _ => True) ?hr ?hp (fun _ hk => hk) trivial (Below.refl _ _) (Nat.le_refl _) (by simp) ?_; (case hd => rfl); (case hg => rfl); (case hr => first | (go_simp; done) | (go_simp; rfl)); (case hp => exact (Reps.one (show Kd.M (Kd.int .u8) _ _ _ ((wrap64 (64 - (rd l1 a2))) % 256) [.int .u8 ((wrap64 (64 - (rd l1 a2))) % 256)] from rfl) (Reps.none _ _))); intro i6 w9 a6 hb e8 hnew_; clear e8 hnew_; (first | rw [← b6.out] at a6 | (simp only [Int.reduceToNat] at a6; rw [← b6.out] at a6)); have d3 := am (Kd.R_lower a6 (below_size (hs HB.out))); replace a0 := bb a0 hb; replace HB := sb HB hb; clear hb a6; have g8 := own_string (P := Tryz.prog) Tryz.underlying22 Tryz.underlying5 Tryz.underlying9 (Kd.own_of_R d3.out))))
  go_ret
  exact ⟨er, hs HB.out⟩
 ·rw [if_neg c8] at H
  have e0 := decide_eq_false c8
  clear c8
  (first | rw [e0] | (simp only [i64_w, i32_w]; rw [e0]) | skip)
  obtain ⟨i1, H⟩ := ife H
  obtain ⟨i2, H⟩ := ife H
  obtain ⟨j6, d7⟩ : ∃ y_ : List ByteArray, y_ = (([] : List ByteArray)) := ⟨_, rfl⟩
  replace H : ((impl_argumentsOf.f k a1 l1 a2).bind fun a4 => (impl_textAt.l0 k l1 ((rd_T90 a1 (rd l1 a2)).f0) j6 a4 (a4.length : Int) 0 a1)) = some r := by first | (rw [d7]; first | with_reducible exact H | with_reducible exact bs H) | with_reducible exact bs H | with_reducible exact H | (rw [d7]; exact H) | exact H
  have b7 := am d7
  clear d7
  obtain ⟨a4, k4, H⟩ := ob H
  try dsimp only at H
  have H' := am H
  clear H
  have g1 := c0_ a0
  have g2 := blk_frozen a0.out 0
  have g3 : 0 ≤ (a2 : Int) := od
  have g5 : a2 < (l1.length : Int) := od
  obtain ⟨h9, l4, c0⟩ := Kd.at_int g0.out a2 g3 g5
  obtain rfl : e4 = h9 := (by injection l4)
  replace c0 := cz HB.out c0
  obtain ⟨g3, g5⟩ := ee g3 g5
  have g4 : 0 ≤ ((rd l1 a2) : Int) := od
  have g6 : (rd l1 a2) < (a1.length : Int) := od
  obtain ⟨i0, l5, d0, d1⟩ := at_T90 b2.out (rd l1 a2) g4 g6
  cases l5
  replace d0 := cz HB.out d0
  replace d1 := cz HB.out d1
  obtain ⟨g4, g6⟩ := ee g4 g6
  go_wp2_with (first | ((with_reducible refine gate_dst (N := 32) rfl ?_); refine Kd.R_lit Kd.string _ 9 ?hg (N := 32) ?hd (xs := ([] : List ByteArray)) (inner := []) (ok := fun _ => True) (okp := fun _ => True) ?hr ?hp (fun _ hk => hk) trivial (Below.refl _ _) (Nat.le_refl _) (by simp) ?_; (case hd => rfl); (case hg => rfl); (case hr => first | (go_simp; done) | (go_simp; rfl)); (case hp => exact (Reps.none _ _)); intro i7 n8 a7 hb e8 hnew_; clear e8 hnew_; (first | rw [← b7.out] at a7 | (simp only [Int.reduceToNat] at a7; rw [← b7.out] at a7)); have a8 := am (Kd.R_lower a7 (below_size (hs HB.out))); replace a0 := bb a0 hb; replace HB := sb HB hb; clear hb a7; have b8 := c0_ a0; have b9 := blk_frozen a0.out 0) | (go_at_call 87; refine (impl_argumentsOf.calls k _ _ a1 _ _ l1 a2 a4 _ (cq (Kd.C_below b2.out HB.out)) b4.out (cq (Kd.C_below g0.out HB.out)) h5.out k4.out).mono ?_; rintro e n9 ⟨i9, rfl, g9, hb⟩; replace a8 := rb a8 hb; have b5 := am (Kd.R_lower g9 (below_size (hs HB.out))); replace a0 := bb a0 hb; replace HB := sb HB hb; (try clear hb); (try clear hk); (try clear g9); obtain ⟨h0, h2, rfl⟩ := Kd.R_slice b5.out))
  repeat (go_quiet (first | ((with_reducible refine gate_dst (N := 32) rfl ?_); refine Kd.R_lit Kd.string _ 9 ?hg (N := 32) ?hd (xs := ([] : List ByteArray)) (inner := []) (ok := fun _ => True) (okp := fun _ => True) ?hr ?hp (fun _ hk => hk) trivial (Below.refl _ _) (Nat.le_refl _) (by simp) ?_; (case hd => rfl); (case hg => rfl); (case hr => first | (go_simp; done) | (go_simp; rfl)); (case hp => exact (Reps.none _ _)); intro i7 n8 a7 hb e8 hnew_; clear e8 hnew_; (first | rw [← b7.out] at a7 | (simp only [Int.reduceToNat] at a7; rw [← b7.out] at a7)); have a8 := am (Kd.R_lower a7 (below_size (hs HB.out))); replace a0 := bb a0 hb; replace HB := sb HB hb; clear hb a7; have b8 := c0_ a0; have b9 := blk_frozen a0.out 0) | (go_at_call 87; refine (impl_argumentsOf.calls k _ _ a1 _ _ l1 a2 a4 _ (cq (Kd.C_below b2.out HB.out)) b4.out (cq (Kd.C_below g0.out HB.out)) h5.out k4.out).mono ?_; rintro e n9 ⟨i9, rfl, g9, hb⟩; replace a8 := rb a8 hb; have b5 := am (Kd.R_lower g9 (below_size (hs HB.out))); replace a0 := bb a0 hb; replace HB := sb HB hb; (try clear hb); (try clear hk); (try clear g9); obtain ⟨h0, h2, rfl⟩ := Kd.R_slice b5.out)); try go_wp2_with (first | ((with_reducible refine gate_dst (N := 32) rfl ?_); refine Kd.R_lit Kd.string _ 9 ?hg (N := 32) ?hd (xs := ([] : List ByteArray)) (inner := []) (ok := fun _ => True) (okp := fun _ => True) ?hr ?hp (fun _ hk => hk) trivial (Below.refl _ _) (Nat.le_refl _) (by simp) ?_; (case hd => rfl); (case hg => rfl); (case hr => first | (go_simp; done) | (go_simp; rfl)); (case hp => exact (Reps.none _ _)); intro i7 n8 a7 hb e8 hnew_; clear e8 hnew_; (first | rw [← b7.out] at a7 | (simp only [Int.reduceToNat] at a7; rw [← b7.out] at a7)); have a8 := am (Kd.R_lower a7 (below_size (hs HB.out))); replace a0 := bb a0 hb; replace HB := sb HB hb; clear hb a7; have b8 := c0_ a0; have b9 := blk_frozen a0.out 0) | (go_at_call 87; refine (impl_argumentsOf.calls k _ _ a1 _ _ l1 a2 a4 _ (cq (Kd.C_below b2.out HB.out)) b4.out (cq (Kd.C_below g0.out HB.out)) h5.out k4.out).mono ?_; rintro e n9 ⟨i9, rfl, g9, hb⟩; replace a8 := rb a8 hb; have b5 := am (Kd.R_lower g9 (below_size (hs HB.out))); replace a0 := bb a0 hb; replace HB := sb HB hb; (try clear hb); (try clear hk); (try clear g9); obtain ⟨h0, h2, rfl⟩ := Kd.R_slice b5.out)))
  go_loopg [9, 38] k (fun kq v9 o8 w' => ∃ (b1 : List ByteArray) (a5 : Int), o8 = .int .i64 a5 ∧ Aside0 (impl_textAt.l0 kq l1 ((rd_T90 a1 (rd l1 a2)).f0) b1 a4 (a4.length : Int) a5 a1 = some r) ∧ Aside0 (kq ≤ k) ∧ Aside0 (Kd.R Kd.string 9 w' w.heap.size (fun _ => True) v9 b1) ∧ Aside0 (Kd.R (Kd.int .i64) 3 w' w.heap.size (fun _ => True) (.slice h0 a4.length h2) a4) ∧ Aside0 (w'.heap[e6]? = some (.cells #[(.slice (some i0) a1.length d4)] 26 (0, 0))) ∧ Aside0 (Below w.heap.size w w'))
  case atStart => exact ⟨(j6), (0), et, H', ⟨Nat.le_refl _⟩, ⟨rq a8.out⟩, ⟨rq b5.out⟩, ⟨bq a0.out⟩, ⟨hs HB.out⟩⟩
  case round =>
   clear H'
   try clear c1; try clear k8; try clear k9; try clear c8; try clear e0; try clear i1; try clear i2; try clear g1; try clear b8; try clear g2; try clear b9; try clear a3; try clear c0; try clear d0; try clear d1; try clear a9; try clear g3; try clear g4; try clear b0; try clear g5; try clear g6
   obtain ⟨b1, a5, rfl, HA, h8, HO_9, HO_36, a0, HB⟩ := hrel
   cases gk with
   | zero => exact absurd HA.out (by simp [impl_textAt.l0])
   | succ k1 =>
    have H := HA.out
    clear HA
    simp only [impl_textAt.l0] at H
    by_cases h6 : a5 < (a4.length : Int)
    ·rw [if_pos h6] at H
     have i3 := decide_eq_true h6
     clear h6
     obtain ⟨m4, H⟩ := ife H
     obtain ⟨m5, H⟩ := ife H
     obtain ⟨b3, k5, H⟩ := ob H
     try dsimp only at H
     obtain ⟨m6, H⟩ := ifs H
     have e2 := am m6
     clear m6
     obtain ⟨j7, d8⟩ : ∃ y_ : List ByteArray, y_ = (b1 ++ [b3]) := ⟨_, rfl⟩
     replace H : (impl_textAt.l0 k1 l1 ((rd_T90 a1 (rd l1 a2)).f0) j7 a4 (a4.length : Int) (wrap64 (a5 + 1)) a1) = some r := by first | (rw [d8]; first | with_reducible exact H | with_reducible exact bs H) | with_reducible exact bs H | with_reducible exact H | (rw [d8]; exact H) | exact H
     have e3 := am d8
     clear d8
     have H' := am H
     clear H
     have h3 : 0 ≤ (a5 : Int) := od
     have h4 : a5 < (a4.length : Int) := od
     obtain ⟨m3, l6, k3⟩ := Kd.at_int (Kd.R_reads' HO_36.out).2.2 a5 h3 h4
     cases l6
     obtain ⟨h3, h4⟩ := ee h3 h4
     have k0 := c0_ a0
     have k2 := blk_frozen a0.out 0
     go_wp2_with (first | (go_at_call 52; refine (ih k1 (by have := h8.out; omega) _ _ a1 _ _ l1 (rd a4 a5) b3 _ (cq (Kd.C_below b2.out HB.out)) b4.out (cq (Kd.C_below g0.out HB.out)) h5.out k5.out).mono ?_; rintro e o0 ⟨rfl, hb⟩; replace HO_9 := rb HO_9 hb; replace HO_36 := rb HO_36 hb; replace a0 := bb a0 hb; replace HB := sb HB hb; (try clear hb); (try clear hk)) | ((with_reducible refine gate_builtin (b := .append) (xs := #[.tmp 42, .tmp 47]) rfl ?_); at_builtin; refine Kd.R_append Kd.string (w0 := w) w.heap.size rfl (.tmp 42) (.tmp 47) 108 9 (.string ⟨#[]⟩) 16 rfl Tryz.underlying108 info9 rfl (by decide) (by omega) u9 b1 b3 [.string b3] (fun _ => True) (fun _ => False) rfl rfl ?aP (fun _ hk => hk.elim) ?aF ?aO ?aB ?aS ?aL ?_; (case aP => exact rfl); (case aB => exact (hs HB.out)); (case aF => exact (fun _ _ => trivial)); (case aO => exact (rq HO_9.out)); (case aS => exact (below_size (hs HB.out))); (case aL => have := e2.out; omega); intro j5 o1 ho hb hg hat; rw [← e3.out] at ho; replace HO_36 := am (Kd.R_over' (rq HO_36.out) (Kd.R_typed (rq HO_9.out)) (by decide) hg); replace a0 := am (blk_grown (bq a0.out) hg (Kd.R_ne HO_9.out a0.out (by decide))); replace HB := am (hb); have e1 := am (ho); clear HO_9; clear ho hb hg hat))
     repeat (go_quiet (first | (go_at_call 52; refine (ih k1 (by have := h8.out; omega) _ _ a1 _ _ l1 (rd a4 a5) b3 _ (cq (Kd.C_below b2.out HB.out)) b4.out (cq (Kd.C_below g0.out HB.out)) h5.out k5.out).mono ?_; rintro e o0 ⟨rfl, hb⟩; replace HO_9 := rb HO_9 hb; replace HO_36 := rb HO_36 hb; replace a0 := bb a0 hb; replace HB := sb HB hb; (try clear hb); (try clear hk)) | ((with_reducible refine gate_builtin (b := .append) (xs := #[.tmp 42, .tmp 47]) rfl ?_); at_builtin; refine Kd.R_append Kd.string (w0 := w) w.heap.size rfl (.tmp 42) (.tmp 47) 108 9 (.string ⟨#[]⟩) 16 rfl Tryz.underlying108 info9 rfl (by decide) (by omega) u9 b1 b3 [.string b3] (fun _ => True) (fun _ => False) rfl rfl ?aP (fun _ hk => hk.elim) ?aF ?aO ?aB ?aS ?aL ?_; (case aP => exact rfl); (case aB => exact (hs HB.out)); (case aF => exact (fun _ _ => trivial)); (case aO => exact (rq HO_9.out)); (case aS => exact (below_size (hs HB.out))); (case aL => have := e2.out; omega); intro j5 o1 ho hb hg hat; rw [← e3.out] at ho; replace HO_36 := am (Kd.R_over' (rq HO_36.out) (Kd.R_typed (rq HO_9.out)) (by decide) hg); replace a0 := am (blk_grown (bq a0.out) hg (Kd.R_ne HO_9.out a0.out (by decide))); replace HB := am (hb); have e1 := am (ho); clear HO_9; clear ho hb hg hat)); try go_wp2_with (first | (go_at_call 52; refine (ih k1 (by have := h8.out; omega) _ _ a1 _ _ l1 (rd a4 a5) b3 _ (cq (Kd.C_below b2.out HB.out)) b4.out (cq (Kd.C_below g0.out HB.out)) h5.out k5.out).mono ?_; rintro e o0 ⟨rfl, hb⟩; replace HO_9 := rb HO_9 hb; replace HO_36 := rb HO_36 hb; replace a0 := bb a0 hb; replace HB := sb HB hb; (try clear hb); (try clear hk)) | ((with_reducible refine gate_builtin (b := .append) (xs := #[.tmp 42, .tmp 47]) rfl ?_); at_builtin; refine Kd.R_append Kd.string (w0 := w) w.heap.size rfl (.tmp 42) (.tmp 47) 108 9 (.string ⟨#[]⟩) 16 rfl Tryz.underlying108 info9 rfl (by decide) (by omega) u9 b1 b3 [.string b3] (fun _ => True) (fun _ => False) rfl rfl ?aP (fun _ hk => hk.elim) ?aF ?aO ?aB ?aS ?aL ?_; (case aP => exact rfl); (case aB => exact (hs HB.out)); (case aF => exact (fun _ _ => trivial)); (case aO => exact (rq HO_9.out)); (case aS => exact (below_size (hs HB.out))); (case aL => have := e2.out; omega); intro j5 o1 ho hb hg hat; rw [← e3.out] at ho; replace HO_36 := am (Kd.R_over' (rq HO_36.out) (Kd.R_typed (rq HO_9.out)) (by decide) hg); replace a0 := am (blk_grown (bq a0.out) hg (Kd.R_ne HO_9.out a0.out (by decide))); replace HB := am (hb); have e1 := am (ho); clear HO_9; clear ho hb hg hat)))
     go_roundg k1
     case measure => have := h8.out; omega
     case rel => exact ⟨(j7), (wrap64 (a5 + 1)), et, H', ⟨by have := h8.out; omega⟩, ⟨rq e1.out⟩, ⟨rq HO_36.out⟩, ⟨bq a0.out⟩, ⟨hs HB.out⟩⟩
    ·rw [if_neg h6] at H
     have i3 := decide_eq_false h6
     clear h6
     by_cases h7 : (b1.length : Int) = 0
     ·rw [if_pos h7] at H
      obtain ⟨i4, i5⟩ := bqt h7; clear h7
      obtain rfl := Option.some.inj H
      obtain ⟨o3, o5, l7⟩ := Kd.R_slice HO_9.out
      subst l7
      go_wp2
      repeat (go_quiet (fail); try go_wp2)
      go_ret
      exact ⟨er, hs HB.out⟩
     ·rw [if_neg h7] at H
      obtain ⟨i4, i5⟩ := bqf h7
      have m7 : ¬ (b1 = []) := fun h_ => h7 (by rw [h_]; rfl)
      obtain ⟨k7, H⟩ := ifs H
      have m8 := eq_true k7
      have m9 := decide_eq_true k7
      try have n0 : (9223372036854775807 < ((rd_T90 a1 (rd l1 a2)).f0).size + 1) = False := eq_false (Nat.not_lt.2 k7)
      obtain ⟨d5, k6, H⟩ := ob H
      try dsimp only at H
      obtain ⟨j8, H⟩ := ifs H
      have n1 := eq_true j8
      have n2 := decide_eq_true j8
      try have n3 : (9223372036854775807 < (((rd_T90 a1 (rd l1 a2)).f0) ++ (⟨#[40]⟩ : ByteArray)).size + d5.size) = False := eq_false (Nat.not_lt.2 j8)
      try have c33z_ : (9223372036854775807 < ((rd_T90 a1 (rd l1 a2)).f0).size + 1 + d5.size) = False := (by have h_ := j8; simp only [ByteArray.size_append] at h_; exact eq_false (Nat.not_lt.2 h_))
      obtain ⟨j9, H⟩ := ifs H
      have n4 := eq_true j9
      have n6 := decide_eq_true j9
      try have n7 : (9223372036854775807 < ((((rd_T90 a1 (rd l1 a2)).f0) ++ (⟨#[40]⟩ : ByteArray)) ++ d5).size + 1) = False := eq_false (Nat.not_lt.2 j9)
      try have c34z_ : (9223372036854775807 < ((rd_T90 a1 (rd l1 a2)).f0).size + 1 + d5.size + 1) = False := (by have h_ := j9; simp only [ByteArray.size_append] at h_; exact eq_false (Nat.not_lt.2 h_))
      obtain rfl := Option.some.inj H
      obtain ⟨o4, o6, l8⟩ := Kd.R_slice HO_9.out
      subst l8
      go_wp2_with (first | (go_at_call 88; refine (strings_Join.calls _ _ b1 (⟨#[44]⟩ : ByteArray) d5 _ (cq (Kd.R_reads' HO_9.out).2.2) ((Kd.R_reads' HO_9.out).2.1) k6.out).mono ?_; rintro e o2 ⟨rfl, hb⟩; replace HO_9 := rb HO_9 hb; replace HO_36 := rb HO_36 hb; replace a0 := bb a0 hb; replace HB := sb HB hb; (try clear hb); (try clear hk)))
      repeat (go_quiet (first | (go_at_call 88; refine (strings_Join.calls _ _ b1 (⟨#[44]⟩ : ByteArray) d5 _ (cq (Kd.R_reads' HO_9.out).2.2) ((Kd.R_reads' HO_9.out).2.1) k6.out).mono ?_; rintro e o2 ⟨rfl, hb⟩; replace HO_9 := rb HO_9 hb; replace HO_36 := rb HO_36 hb; replace a0 := bb a0 hb; replace HB := sb HB hb; (try clear hb); (try clear hk))); try go_wp2_with (first | (go_at_call 88; refine (strings_Join.calls _ _ b1 (⟨#[44]⟩ : ByteArray) d5 _ (cq (Kd.R_reads' HO_9.out).2.2) ((Kd.R_reads' HO_9.out).2.1) k6.out).mono ?_; rintro e o2 ⟨rfl, hb⟩; replace HO_9 := rb HO_9 hb; replace HO_36 := rb HO_36 hb; replace a0 := bb a0 hb; replace HB := sb HB hb; (try clear hb); (try clear hk))))
      go_ret
      exact ⟨er, hs HB.out⟩
def impl_readTerm_1.f (a0 : Int) : Option (Bool) := if a0 = 40 then (some true) else (if a0 = 44 then (some true) else (some (a0 == 41)))
theorem impl_readTerm_1.calls (a0 : Int) (r : Bool) (w : World) (h : impl_readTerm_1.f a0 = some r) :
  Calls Tryz.prog 81 #[.int .i32 a0] w fun e w' => e = .returned (.bool r) ∧ Drawn0 w w' := by
 have H : (if a0 = 40 then (some true) else (if a0 = 44 then (some true) else (some (a0 == 41)))) = some r := h
 clear h
 by_cases c2 : a0 = 40
 ·rw [if_pos c2] at H
  obtain ⟨a1, a2⟩ := bqt c2; clear c2
  obtain rfl := Option.some.inj H
  go_enter Tryz.func81, Tryz.ntmps81
  go_wp2
  go_ret
  exact ⟨et, dn⟩
 ·rw [if_neg c2] at H
  obtain ⟨a1, a2⟩ := bqf c2
  by_cases c3 : a0 = 44
  ·rw [if_pos c3] at H
   obtain ⟨a3, a4⟩ := bqt c3; clear c3
   obtain rfl := Option.some.inj H
   go_enter Tryz.func81, Tryz.ntmps81
   go_wp2
   go_ret
   exact ⟨et, dn⟩
  ·rw [if_neg c3] at H
   obtain ⟨a3, a4⟩ := bqf c3
   obtain rfl := Option.some.inj H
   go_enter Tryz.func81, Tryz.ntmps81
   go_wp2
   go_ret
   exact ⟨et, dn⟩
def sepR (n : Nat) : Bool := n == 40 || n == 44 || n == 41
def strings_FieldsFunc_impl_readTerm_1.f (s : ByteArray) : Option (List ByteArray) := if s.size ≤ 4294967296 then some (Lib.goFieldsP sepR s) else none
theorem strings_FieldsFunc_impl_readTerm_1.calls (s : ByteArray) (r : List ByteArray) (w : World) (h : strings_FieldsFunc_impl_readTerm_1.f s = some r) :
  Calls Tryz.prog 80 #[.string s, .func (.func 81) #[] #[]] w fun e w' => ∃ a0 : Value, e = .returned (a0) ∧ Kd.R Kd.string 9 w' w.heap.size (fun _ => True) a0 r ∧ Below w.heap.size w w' := by
 unfold strings_FieldsFunc_impl_readTerm_1.f at h
 by_cases c : s.size ≤ 4294967296
 case neg => rw [if_neg c] at h; cases h
 rw [if_pos c] at h
 obtain rfl := Option.some.inj h
 have hp : PredAtRunes Tryz.prog 81 #[] sepR w := by
  intro W x hx hb
  have hf : impl_readTerm_1.f (x : Int) = some (sepR x) := by
   unfold impl_readTerm_1.f sepR
   by_cases h1 : x = 40
   ·subst h1; rfl
   ·by_cases h2 : x = 44
    ·subst h2; rfl
    ·by_cases h3 : x = 41
     ·subst h3; rfl
     ·have e1 : ¬ (x : Int) = 40 := by omega
      have e2 : ¬ (x : Int) = 44 := by omega
      have e3 : ¬ (x : Int) = 41 := by omega
      have e4 : ((x : Int) == 41) = false := beq_eq_false_iff_ne.2 e3
      have e5 : (x == 40 || x == 44 || x == 41) = false := by simp [h1, h2, h3]
      rw [if_neg e1, if_neg e2, e4, e5]
  exact (impl_readTerm_1.calls (x : Int) _ W hf).mono fun e w' ⟨he, q, hq⟩ => ⟨he, q, hq⟩
 refine (Any.strings_FieldsFunc_runes Shelf.lays229 81 #[] (fun args w => enters_ (P := Tryz.prog) Tryz.func81 rfl rfl args w) sepR s w c hp (by kernel_rfl) (by kernel_rfl)).mono fun e w' hw => ?_
 obtain ⟨A, he, hA, hR, hb⟩ := hw
 exact ⟨_, he, Kd.R_of_own (h1 := fun _ => rfl) hR (fun _ _ => trivial), hb⟩
end Go.Proofs.YtbdpnkpienpnaaaGreatDoor.P
