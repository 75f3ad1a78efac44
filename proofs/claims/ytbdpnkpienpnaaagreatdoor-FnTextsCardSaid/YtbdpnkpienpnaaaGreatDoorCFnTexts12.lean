/- A part of the proof of the law FnTexts. -/
import Derived.Test.YtbdpnkpienpnaaaGreatDoorCFnTexts11
set_option maxHeartbeats 8000000
set_option maxRecDepth 100000
namespace Go.Proofs.YtbdpnkpienpnaaaGreatDoor.P
open Go.RowKit Go.Proofs.YtbdpnkpienpnaaaGreatDoorW.PrintWords Go.Proofs.YtbdpnkpienpnaaaGreatDoorW.PrintLast Go.Proofs.YtbdpnkpienpnaaaGreatDoorW.PrintMore
attribute [local go_sem] max2_int min2_int max_two min_two max_three min_three max_four min_four   -- for this text's walks alone
set_option linter.unusedVariables false
set_option linter.unusedSimpArgs false
def spec_l4One.f (k : Nat) (l0 : List Int) : Option ((List (S90)) × List Int × List Int × List Int × Int) := (spec_l1Source.f l0).bind fun a0 => ((spec_l2Bent.f k a0.1 a0.2).bind fun a1 => ((spec_l4BentEquation.f k a0.1 a1.2 [(⟨a1.1⟩ : S26)]).bind fun a2 => (some (a1.1, a2.1, a2.2.1, a0.1, a2.2.2))))
theorem spec_l4One.calls (k : Nat) (A0 : Option Addr) (c0 : Nat) (l0 : List Int) (r1 : List (S90)) (r2 : List Int) (r3 : List Int) (r4 : List Int) (r5 : Int) (w0 w : World) (hB : Below w0.heap.size w0 w) (l8 : Kd.C (Kd.int .u8) w0 A0 l0.length l0) (k2 : l0.length ≤ c0) (h : spec_l4One.f k l0 = some (r1, r2, r3, r4, r5)) :
  Calls Tryz.prog 82 #[.slice A0 l0.length c0] w fun e w' => ∃ l9 j6 j7 : Value, ∃ g_ : Nat, e = .returned (.tuple #[.agg #[l9], .agg #[j6, j7], .pointer (some ⟨g_, 0, none⟩)]) ∧ Kd.R k90 90 w' w.heap.size (fun _ => True) l9 r1 ∧ Kd.R (Kd.int .i64) 2 w' w.heap.size (fun k_ => some k_ ≠ (j7 : Value).ownBlock) j6 r2 ∧ Kd.R (Kd.int .i64) 2 w' w.heap.size (fun k_ => some k_ ≠ (j6 : Value).ownBlock) j7 r3 ∧ IsS86 w0 w' g_ r4 r5 ∧ Below w0.heap.size w0 w' ∧ Below w.heap.size w w' ∧ w.heap.size ≤ g_ := by
 have m5 := Tryz.underlying26
 have m6 := Tryz.underlying29
 have m1 := am l8
 have m0 := am k2
 clear l8 k2
 have e6 := am hB
 clear hB
 have HB := am (Below.refl w.heap.size w)
 have H : ((spec_l1Source.f l0).bind fun d0 => ((spec_l2Bent.f k d0.1 d0.2).bind fun d6 => ((spec_l4BentEquation.f k d0.1 d6.2 [(⟨d6.1⟩ : S26)]).bind fun d7 => (some (d6.1, d7.1, d7.2.1, d0.1, d7.2.2))))) = some (r1, r2, r3, r4, r5) := h
 clear h
 obtain ⟨⟨d2, g5⟩, A2, H⟩ := ob H
 try dsimp only at H
 obtain ⟨⟨a5, d9⟩, A3, H⟩ := ob H
 try dsimp only at H
 obtain ⟨⟨d3, e0, j5⟩, A4, H⟩ := ob H
 try dsimp only at H
 simp only [Option.some.injEq, Prod.mk.injEq] at H
 obtain ⟨rfl, rfl, rfl, rfl, rfl⟩ := H
 go_enter Tryz.func82, Tryz.ntmps82
 try go_wp2_with (first | (refine bx 2 rfl #[.slice none 0 0] 26 ?_; intro b5 hg w5 hbox hb; have a0 := am (hbox); have e9 := am (bz hg (hq HB.out)); replace HB := sb HB hb; have j9 := e9; clear hb hbox hg) | (refine bx 3 rfl #[.slice none 0 0, .slice none 0 0] 29 ?_; intro a9 hg w6 hbox hb; have a2 := am (hbox); have g0 := am (bz hg (hs HB.out)); replace HB := sb HB hb; have k0 := g0; have a6 := nl hg a0; have b1 := ng hg a0; replace a0 := bb a0 hb; clear hb hbox hg) | (refine gl (some 8) Tryz.func23 rfl #[.slice A0 l0.length c0] ?_; refine (spec_l1Source.calls _ _ l0 d2 g5 w0 _ (below_step e6.out (hs HB.out)) m1.out m0.out A2.out).mono ?_; rintro e w7 ⟨c1, rfl, hi, hb, e1, hgw⟩; refine ⟨_, rfl, ?_⟩; have a1 := am (hi); have d5 := am (Nat.le_trans (below_size (hs HB.out)) hgw); replace HB := am (below_step (hs HB.out) e1); have e7 := am (IsS86.ne_blk hi (blk_below (bq a0.out) e1) (by decide)); have b6 := am (Ne.symm (IsS86.ne_blk hi (blk_below (bq a0.out) e1) (by decide))); replace a0 := am (blk_below (bq a0.out) e1); have e8 := am (IsS86.ne_blk hi (blk_below (bq a2.out) e1) (by decide)); have b7 := am (Ne.symm (IsS86.ne_blk hi (blk_below (bq a2.out) e1) (by decide))); replace a2 := am (blk_below (bq a2.out) e1); clear hb e1 hgw hi; (try clear hk)) | (refine gl (some 10) Tryz.func24 rfl #[.pointer (some ⟨c1, 0, none⟩)] ?_; refine (spec_l2Bent.calls k c1 d2 g5 a5 d9 w0 _ (IsS86.q a1.out) (below_step e6.out (hsk HB.out (IsS86.ge a1.out))) A3.out).mono ?_; rintro e w8 ⟨m7, rfl, g4, hi, hb, hk⟩; refine ⟨_, rfl, ?_⟩; replace a0 := kb hk a0 b6; replace a2 := kb hk a2 b7; have a4 := am (Kd.R_lower g4 (below_size (hsk HB.out (IsS86.ge a1.out)))); replace HB := am (below_keep e6.out (hsk HB.out (IsS86.ge a1.out)) hk d5.out hb); replace a1 := am (hi); clear hb hk hi g4; (try clear e1); (try clear hgw)) | (refine bx 6 rfl #[.slice none 0 0] 26 ?_; intro a8 hg w9 hbox hb; replace a4 := rb a4 hb; have a3 := am (hbox); have g1 := am (bz hg (hsk HB.out (IsS86.ge a1.out))); replace HB := am (below_step (hsk HB.out (IsS86.ge a1.out)) hb); have k1 := g1; have d1 := nl hg a0; have b3 := ng hg a0; replace a0 := bb a0 hb; have b8 := nl hg a2; have a7 := ng hg a2; replace a2 := bb a2 hb; have b9 := am ((by rw [hg]; exact Nat.ne_of_lt (IsS86.lt (show IsS86 w0 _ c1 d2 d9 from IsS86.q a1.out)) : c1 ≠ a8)); replace a1 := IsS86.bl a1 hb; have b4 := am b9.out.symm; clear hb hbox hg; obtain ⟨b0, b2, rfl⟩ := Kd.R_slice a4.out; obtain ⟨k7, l4⟩ := nn b3; obtain ⟨k8, l5⟩ := nn a7; obtain ⟨k9, l6⟩ := nn b4; have g6 := c0_ a3; have g7 := blk_frozen a3.out 0))
 have i3 : Aside0 (Kd.R k90 90 (w9.setCell ⟨a8, 0, none⟩ (.slice b0 a5.length b2)) w.heap.size (fun _ => True) (.slice b0 a5.length b2) a5) := ⟨rq (Kd.R_mono (Kd.R_far (p := ⟨a8, 0, none⟩) (Kd.R_types a4.out a3.out (by decide)) (fun _ hk => hk.2) (.slice b0 a5.length b2)) (fun _ hk => trivial))⟩
 have i4 : Aside0 ((w9.setCell ⟨a8, 0, none⟩ (.slice b0 a5.length b2)).heap[b5]? = some (.cells #[.slice none 0 0] 26 (0, 0))) := ⟨bf a0.out⟩
 have i5 : Aside0 ((w9.setCell ⟨a8, 0, none⟩ (.slice b0 a5.length b2)).heap[a9]? = some (.cells #[.slice none 0 0, .slice none 0 0] 29 (0, 0))) := ⟨bf a2.out⟩
 have i6 : Aside0 ((w9.setCell ⟨a8, 0, none⟩ (.slice b0 a5.length b2)).heap[a8]? = some (.cells #[.slice b0 a5.length b2] 26 (0, 0))) := ⟨by refine bq ?_; refine blk_put (cs := #[.slice none 0 0]) ?_ 0 _ rfl; refine bq ?_; exact a3.out⟩
 have i7 : Aside0 (IsS86 w0 (w9.setCell ⟨a8, 0, none⟩ (.slice b0 a5.length b2)) c1 d2 d9) := ⟨IsS86.q a1.out⟩
 have i9 : Aside0 (Below w.heap.size w (w9.setCell ⟨a8, 0, none⟩ (.slice b0 a5.length b2))) := ⟨hsk HB.out (IsS86.ge a1.out)⟩
 (try clear a4)
 (try clear a0)
 (try clear a2)
 (try clear a3)
 (try clear a1)
 (try clear HB)
 (try simp only [Go.IntKind.wrap_u8])
 generalize (w9.setCell ⟨a8, 0, none⟩ (.slice b0 a5.length b2)) = n0 at i3 i4 i5 i6 i7 i9 ⊢
 have a4 := i3
 have a0 := i4
 have a2 := i5
 have a3 := i6
 have a1 := i7
 have HB := i9
 clear i3 i4 i5 i6 i7 i9
 replace a4 := am (Kd.R_drew a4.out)
 replace a0 := am (blk_drew a0.out)
 replace a2 := am (blk_drew a2.out)
 replace a3 := am (blk_drew a3.out)
 replace a1 := am (IsS86.drew a1.out)
 replace HB := am (below_drew1 HB.out)
 refine st_ (n := 7) (S := fun w' => w'.cell? ⟨a8, 0, none⟩ = some (.slice b0 a5.length b2)) (ds := []) ((blk_cell a3.out 0).trans rfl) (fun hHeld => ?_)
 generalize n0.drew = n1 at a4 a0 a2 a3 a1 HB hHeld ⊢
 refine pure_ (i := 1) (N := some 12) (v := ?_) (a' := ?_) #[false, true, false, false, false, false, false] rfl rfl (by kernel_rfl) (fun _ _ _ h => h) (Or.inl ⟨by rfl, ?_⟩) ?_ ?_
 rotate_left
 ·intro w'
  go_simp
  with_reducible rfl
 rotate_left
 ·simp only [Act.put, lsp, i64_w, i32_w]
  rfl
 refine pure_ (i := 3) (N := some 14) (v := ?_) (a' := ?_) #[false, true, false, true, false, false, false] rfl rfl (by kernel_rfl) (fun _ _ _ h => h) (Or.inl ⟨by rfl, ?_⟩) ?_ ?_
 rotate_left
 ·intro w'
  go_simp
  with_reducible rfl
 rotate_left
 ·simp only [Act.put, lsp, i64_w, i32_w]
  rfl
 refine take_ (i := 0) (N := some 11) (v := ?_) (a' := ?_) #[true, true, false, true, false, false, false] rfl rfl (by kernel_rfl) (fun _ _ _ h => h) (Or.inl ⟨by rfl, ?_⟩) hHeld ?_ ?_
 rotate_left
 ·intro w' s0
  go_simp
  with_reducible rfl
 rotate_left
 ·simp only [Act.put, lsp, i64_w, i32_w]
  rfl
 refine one_ (i := 2) (N := some 13) #[true, true, true, true, false, false, false] rfl rfl (by kernel_rfl) (by decide) (fun K hK => ?_)
 refine gs Tryz.func98 #[.pointer (some ⟨c1, 0, none⟩), .pointer (some ⟨a8, 0, none⟩)] ?_
 with_reducible refine (spec_l4BentEquation.calls k c1 d2 d9 _ [(⟨a5⟩ : S26)] d3 e0 j5 w0 _ ?side1 ?side2 ?side3 A4.out).mono ?_
 (case side1 => exact IsS86.q a1.out)
 (case side2 => exact below_step e6.out (hsk HB.out (IsS86.ge a1.out)))
 (case side3 => exact fun W_ k6 => k26_box (k6.blk (show (World.heap _)[a8]? = some (.cells #[.slice b0 a5.length b2] 26 (0, 0)) from bq a3.out) (by first | exact b4.out | exact b9.out.symm) (by simp)) ((by exact Kd.C_foot_own (IsS86.apart (show IsS86 w0 _ c1 d2 d9 from IsS86.q a1.out) (rq a4.out) (by decide)) (fun _ h_ => h_.2) : ∀ W_, KeepBut _ W_ c1 none → Kd.C k90 W_ b0 a5.length a5) W_ k6) (by exact (Kd.R_reads' a4.out).2.1))
 rintro e j8 ⟨m8, m9, rfl, g4, l7, hi, hb, hk⟩
 refine ⟨_, rfl, ?_⟩
 replace a0 := kb hk a0 b6
 replace a2 := kb hk a2 b7
 replace a4 := IsS86.rk a1 a4 hk
 replace a3 := kb hk a3 b4
 have e4 := am (Kd.R_lower g4 (below_size (hsk HB.out (IsS86.ge a1.out))))
 have e5 := am (Kd.R_lower l7 (below_size (hsk HB.out (IsS86.ge a1.out))))
 replace HB := am (below_keep e6.out (hsk HB.out (IsS86.ge a1.out)) hk d5.out hb)
 replace a1 := am (hi)
 (try clear hb)
 (try clear e1)
 (try clear hgw)
 (try clear hk)
 (try clear hi)
 (try clear g4)
 (try clear l7)
 obtain ⟨d4, d8, g2⟩ := Kd.R_slice e4.out
 (first | subst g2 | (injection g2 with f1_ f2_ f3_; have i1 := f1_.symm; have i2 := f3_.symm; clear f1_ f2_ f3_; subst i1; subst i2))
 obtain ⟨e2, e3, g3⟩ := Kd.R_slice e5.out
 (first | subst g3 | (injection g3 with f1_ f2_ f3_; have i1 := f1_.symm; have i2 := f3_.symm; clear f1_ f2_ f3_; subst i1; subst i2))
 refine hK.out _ _ ((blk_cell a3.out 0).trans rfl) (fun hHeld => ?_)
 clear hK K
 refine nr (some 13) ?_
 refine one_ (i := 4) (N := none) #[true, true, true, true, true, false, false] rfl rfl (by kernel_rfl) (by decide) (fun K hK => ?_)
 have m2 : j8.cell? ⟨b5, 0, none⟩ = some (.slice none 0 0) := (blk_cell a0.out 0).trans rfl
 have k3 := blk_frozen a0.out 0
 have h5 := b1.out
 have h6 := b3.out
 have g8 := a6.out
 have g9 := d1.out
 refine skip_ (w1 := ?_) (by rfl) rfl ?_ ?_
 rotate_left
 ·go_simp
  rfl
 refine hK.out _ _ (((cell_far (p := ⟨b5, _, none⟩) b3.out _).trans (hHeld))) (fun hHeld => ?_)
 clear hK K
 refine one_ (i := 5) (N := none) #[true, true, true, true, true, true, false] rfl rfl (by kernel_rfl) (by decide) (fun K hK => ?_)
 have m3 : j8.cell? ⟨a9, 0, none⟩ = some (.slice none 0 0) := (blk_cell a2.out 0).trans rfl
 have k4 := blk_frozen a2.out 0
 have h7 := a6.out
 have h8 := a7.out
 have h0 := b1.out
 have h2 := b8.out
 have m4 : j8.cell? ⟨a9, 1, none⟩ = some (.slice none 0 0) := (blk_cell a2.out 1).trans rfl
 have k5 := blk_frozen a2.out 1
 have h9 := a6.out
 have i0 := a7.out
 have h3 := b1.out
 have h4 := b8.out
 refine skip_ (w1 := ?_) (by rfl) rfl ?_ ?_
 rotate_left
 ·go_simp
  rfl
 refine hK.out _ _ (((cell_far (p := ⟨a9, _, none⟩) a7.out _).trans (((cell_far (p := ⟨a9, _, none⟩) a7.out _).trans (hHeld))))) (fun hHeld => ?_)
 clear hK K
 refine pure_ (i := 6) (N := some 4) (v := ?_) (a' := ?_) #[true, true, true, true, true, true, true] rfl rfl (by kernel_rfl) (fun _ _ _ h => h) (Or.inl ⟨by rfl, ?_⟩) ?_ ?_
 rotate_left
 ·intro w'
  go_simp
  with_reducible rfl
 rotate_left
 ·simp only [Act.put, lsp, i64_w, i32_w]
  rfl
 refine done_ (by kernel_rfl) ?_
 try go_wp2
 refine bodyPost_ret (results_list (rs := [.cell 2 26, .cell 3 29, .tmp 4]) rfl (by simp) (.cell b5 26 #[.slice b0 a5.length b2] (0, 0) _ rfl (by refine bq ?_; refine blk_far ?_ a6.out _; refine bq ?_; refine blk_far ?_ a6.out _; refine bq ?_; refine blk_put (cs := #[.slice none 0 0]) ?_ 0 _ rfl; refine bq ?_; exact a0.out) Tryz.underlying26 rfl (by kernel_rfl) (.cell a9 29 #[.slice d4 d3.length d8, .slice e2 e0.length e3] (0, 0) _ rfl (by refine bq ?_; refine blk_put (cs := #[.slice d4 d3.length d8, .slice none 0 0]) ?_ 1 _ rfl; refine bq ?_; refine blk_put (cs := #[.slice none 0 0, .slice none 0 0]) ?_ 0 _ rfl; refine bq ?_; refine blk_far ?_ b1.out _; refine bq ?_; exact a2.out) Tryz.underlying29 rfl (by kernel_rfl) (.tmp .nil)))) rfl ?_
 exact ⟨_, _, _, _, by first | rfl | (simp <;> rfl), rq (Kd.R_mono (Kd.R_far (p := ⟨a9, 1, none⟩) (Kd.R_far (p := ⟨a9, 0, none⟩) (Kd.R_far (p := ⟨b5, 0, none⟩) (Kd.R_types (Kd.R_types a4.out a0.out (by decide)) a2.out (by decide)) (fun _ hk => hk.1.2) (.slice b0 a5.length b2)) (fun _ hk => hk.2) (.slice d4 d3.length d8)) (fun _ hk => hk.2) (.slice e2 e0.length e3)) (fun _ hk => trivial)), rq (Kd.R_mono (Kd.R_far (p := ⟨a9, 1, none⟩) (Kd.R_far (p := ⟨a9, 0, none⟩) (Kd.R_far (p := ⟨b5, 0, none⟩) (Kd.R_types (Kd.R_types e4.out a0.out (by decide)) a2.out (by decide)) (fun _ hk => hk.1.2) (.slice b0 a5.length b2)) (fun _ hk => hk.2) (.slice d4 d3.length d8)) (fun _ hk => hk.2) (.slice e2 e0.length e3)) (fun _ hk => hk.1.1)), rq (Kd.R_mono (Kd.R_far (p := ⟨a9, 1, none⟩) (Kd.R_far (p := ⟨a9, 0, none⟩) (Kd.R_far (p := ⟨b5, 0, none⟩) (Kd.R_types (Kd.R_types e5.out a0.out (by decide)) a2.out (by decide)) (fun _ hk => hk.1.2) (.slice b0 a5.length b2)) (fun _ hk => hk.2) (.slice d4 d3.length d8)) (fun _ hk => hk.2) (.slice e2 e0.length e3)) (fun _ hk => hk.1.1)), IsS86.q a1.out, below_step e6.out (hsk HB.out (IsS86.ge a1.out)), hsk HB.out (IsS86.ge a1.out), d5.out⟩
def spec_DrawEquationFault.f (k : Nat) (l0 : List Int) : Option ((List (S90)) × List Int × List Int) := (spec_l4One.f k l0).bind fun a0 => (some (a0.1, a0.2.1, a0.2.2.1))
theorem spec_DrawEquationFault.calls (k : Nat) (A0 : Option Addr) (c0 : Nat) (l0 : List Int) (r1 : List (S90)) (r2 : List Int) (r3 : List Int) (w : World) (o0 : Kd.C (Kd.int .u8) w A0 l0.length l0) (m0 : l0.length ≤ c0) (h : spec_DrawEquationFault.f k l0 = some (r1, r2, r3)) :
  Calls Tryz.prog 47 #[.slice A0 l0.length c0] w fun e w' => ∃ o1 k9 l4 : Value, e = .returned (.tuple #[.agg #[o1], .agg #[k9, l4]]) ∧ Kd.R k90 90 w' w.heap.size (fun _ => True) o1 r1 ∧ Kd.R (Kd.int .i64) 2 w' w.heap.size (fun k_ => some k_ ≠ (l4 : Value).ownBlock) k9 r2 ∧ Kd.R (Kd.int .i64) 2 w' w.heap.size (fun k_ => some k_ ≠ (k9 : Value).ownBlock) l4 r3 ∧ Below w.heap.size w w' := by
 have o9 := Tryz.underlying26
 have p0 := Tryz.underlying29
 have o3 := am o0
 have o2 := am m0
 clear o0 m0
 have HB := am (Below.refl w.heap.size w)
 have H : ((spec_l4One.f k l0).bind fun e6 => (some (e6.1, e6.2.1, e6.2.2.1))) = some (r1, r2, r3) := h
 clear h
 obtain ⟨⟨b3, a5, b2, e8, e9⟩, A2, H⟩ := ob H
 try dsimp only at H
 simp only [Option.some.injEq, Prod.mk.injEq] at H
 obtain ⟨rfl, rfl, rfl⟩ := H
 go_enter Tryz.func47, Tryz.ntmps47
 try go_wp2_with (first | (refine bx 2 rfl #[.slice none 0 0] 26 ?_; intro d2 hg w3 hbox hb; have a1 := am (hbox); have g5 := am (bz hg (hq HB.out)); replace HB := sb HB hb; have l6 := g5; clear hb hbox hg) | (refine bx 3 rfl #[.slice none 0 0, .slice none 0 0] 29 ?_; intro a7 hg w4 hbox hb; have a2 := am (hbox); have g6 := am (bz hg (hs HB.out)); replace HB := sb HB hb; have l7 := g6; have b6 := nl hg a1; have d0 := ng hg a1; replace a1 := bb a1 hb; clear hb hbox hg) | (refine gl (some 9) Tryz.func82 rfl #[.slice A0 l0.length c0] ?_; refine (spec_l4One.calls k _ _ l0 b3 a5 b2 e8 e9 w _ (hs HB.out) o3.out o2.out A2.out).mono ?_; rintro e w5 ⟨p1, p2, p3, e7, rfl, n7, n8, n9, hi, hb, g0, hgw⟩; refine ⟨_, rfl, ?_⟩; have b8 := am (Kd.R_lower n7 (below_size (hs HB.out))); have b9 := am (Kd.R_lower n8 (below_size (hs HB.out))); have c1 := am (Kd.R_lower n9 (below_size (hs HB.out))); replace HB := am (hb); have a3 := am (hi); have g3 := am (IsS86.ne_blk hi (blk_below (bq a1.out) g0) (by decide)); have g1 := am (Ne.symm (IsS86.ne_blk hi (blk_below (bq a1.out) g0) (by decide))); replace a1 := am (blk_below (bq a1.out) g0); have g4 := am (IsS86.ne_blk hi (blk_below (bq a2.out) g0) (by decide)); have g2 := am (Ne.symm (IsS86.ne_blk hi (blk_below (bq a2.out) g0) (by decide))); replace a2 := am (blk_below (bq a2.out) g0); clear hb g0 hgw hi n7 n8 n9; (try clear hk)) | (refine bx 4 rfl #[.slice none 0 0] 26 ?_; intro a8 hg w6 hbox hb; replace b8 := rb b8 hb; replace b9 := rb b9 hb; replace c1 := rb c1 hb; have a6 := am (hbox); have g7 := am (bz hg (hsk HB.out (IsS86.ge a3.out))); replace HB := am (below_step (hsk HB.out (IsS86.ge a3.out)) hb); have l8 := g7; have d9 := nl hg a1; have d3 := ng hg a1; replace a1 := bb a1 hb; have d6 := nl hg a2; have b7 := ng hg a2; replace a2 := bb a2 hb; have e1 := am ((by rw [hg]; exact Nat.ne_of_lt (IsS86.lt (show IsS86 w _ e7 e8 e9 from IsS86.q a3.out)) : e7 ≠ a8)); replace a3 := IsS86.bl a3 hb; have e3 := am e1.out.symm; clear hb hbox hg) | (refine bx 5 rfl #[.slice none 0 0, .slice none 0 0] 29 ?_; intro a0 hg w7 hbox hb; replace b8 := rb b8 hb; replace b9 := rb b9 hb; replace c1 := rb c1 hb; have b0 := am (hbox); have g8 := am (bz hg (hsk HB.out (IsS86.ge a3.out))); replace HB := am (below_step (hsk HB.out (IsS86.ge a3.out)) hb); have l9 := g8; have e0 := nl hg a1; have d1 := ng hg a1; replace a1 := bb a1 hb; have d7 := nl hg a2; have a4 := ng hg a2; replace a2 := bb a2 hb; have d4 := nl hg a6; have e5 := ng hg a6; replace a6 := bb a6 hb; have e2 := am ((by rw [hg]; exact Nat.ne_of_lt (IsS86.lt (show IsS86 w _ e7 e8 e9 from IsS86.q a3.out)) : e7 ≠ a0)); replace a3 := IsS86.bl a3 hb; have e4 := am e2.out.symm; clear hb hbox hg; obtain ⟨d5, d8, rfl⟩ := Kd.R_slice b8.out; obtain ⟨o4, o5⟩ := nn d3; obtain ⟨m4, n0⟩ := nn b7; obtain ⟨m5, n1⟩ := nn d4; obtain ⟨m6, n2⟩ := nn e3; have g9 := c0_ a6; have h3 := blk_frozen a6.out 0; obtain ⟨a9, b1, rfl⟩ := Kd.R_slice b9.out; obtain ⟨m7, n3⟩ := nn d1; obtain ⟨m8, n4⟩ := nn a4; obtain ⟨m9, n6⟩ := nn e4; have h0 := c0_ b0; have h2 := c1_ b0; have h4 := blk_frozen b0.out 0; have h5 := blk_frozen b0.out 1; obtain ⟨b4, b5, rfl⟩ := Kd.R_slice c1.out))
 have k0 : Aside0 (Kd.R k90 90 (((w7.setCell ⟨a8, 0, none⟩ (.slice d5 b3.length d8)).setCell ⟨a0, 0, none⟩ (.slice a9 a5.length b1)).setCell ⟨a0, 1, none⟩ (.slice b4 b2.length b5)) w.heap.size (fun _ => True) (.slice d5 b3.length d8) b3) := ⟨rq (Kd.R_mono (Kd.R_far (p := ⟨a0, 1, none⟩) (Kd.R_far (p := ⟨a0, 0, none⟩) (Kd.R_far (p := ⟨a8, 0, none⟩) (Kd.R_types (Kd.R_types b8.out a6.out (by decide)) b0.out (by decide)) (fun _ hk => hk.1.2) (.slice d5 b3.length d8)) (fun _ hk => hk.2) (.slice a9 a5.length b1)) (fun _ hk => hk.2) (.slice b4 b2.length b5)) (fun _ hk => trivial))⟩
 have k1 : Aside0 (Kd.R (Kd.int .i64) 2 (((w7.setCell ⟨a8, 0, none⟩ (.slice d5 b3.length d8)).setCell ⟨a0, 0, none⟩ (.slice a9 a5.length b1)).setCell ⟨a0, 1, none⟩ (.slice b4 b2.length b5)) w.heap.size (fun k_ => some k_ ≠ (.slice b4 b2.length b5 : Value).ownBlock) (.slice a9 a5.length b1) a5) := ⟨rq (Kd.R_mono (Kd.R_far (p := ⟨a0, 1, none⟩) (Kd.R_far (p := ⟨a0, 0, none⟩) (Kd.R_far (p := ⟨a8, 0, none⟩) (Kd.R_types (Kd.R_types b9.out a6.out (by decide)) b0.out (by decide)) (fun _ hk => hk.1.2) (.slice d5 b3.length d8)) (fun _ hk => hk.2) (.slice a9 a5.length b1)) (fun _ hk => hk.2) (.slice b4 b2.length b5)) (fun _ hk => hk.1.1))⟩
 have k2 : Aside0 (Kd.R (Kd.int .i64) 2 (((w7.setCell ⟨a8, 0, none⟩ (.slice d5 b3.length d8)).setCell ⟨a0, 0, none⟩ (.slice a9 a5.length b1)).setCell ⟨a0, 1, none⟩ (.slice b4 b2.length b5)) w.heap.size (fun k_ => some k_ ≠ (.slice a9 a5.length b1 : Value).ownBlock) (.slice b4 b2.length b5) b2) := ⟨rq (Kd.R_mono (Kd.R_far (p := ⟨a0, 1, none⟩) (Kd.R_far (p := ⟨a0, 0, none⟩) (Kd.R_far (p := ⟨a8, 0, none⟩) (Kd.R_types (Kd.R_types c1.out a6.out (by decide)) b0.out (by decide)) (fun _ hk => hk.1.2) (.slice d5 b3.length d8)) (fun _ hk => hk.2) (.slice a9 a5.length b1)) (fun _ hk => hk.2) (.slice b4 b2.length b5)) (fun _ hk => hk.1.1))⟩
 have k3 : Aside0 ((((w7.setCell ⟨a8, 0, none⟩ (.slice d5 b3.length d8)).setCell ⟨a0, 0, none⟩ (.slice a9 a5.length b1)).setCell ⟨a0, 1, none⟩ (.slice b4 b2.length b5)).heap[d2]? = some (.cells #[.slice none 0 0] 26 (0, 0))) := ⟨bf a1.out⟩
 have k4 : Aside0 ((((w7.setCell ⟨a8, 0, none⟩ (.slice d5 b3.length d8)).setCell ⟨a0, 0, none⟩ (.slice a9 a5.length b1)).setCell ⟨a0, 1, none⟩ (.slice b4 b2.length b5)).heap[a7]? = some (.cells #[.slice none 0 0, .slice none 0 0] 29 (0, 0))) := ⟨bf a2.out⟩
 have k5 : Aside0 ((((w7.setCell ⟨a8, 0, none⟩ (.slice d5 b3.length d8)).setCell ⟨a0, 0, none⟩ (.slice a9 a5.length b1)).setCell ⟨a0, 1, none⟩ (.slice b4 b2.length b5)).heap[a8]? = some (.cells #[.slice d5 b3.length d8] 26 (0, 0))) := ⟨by refine bq ?_; refine blk_far ?_ d4.out _; refine bq ?_; refine blk_far ?_ d4.out _; refine bq ?_; refine blk_put (cs := #[.slice none 0 0]) ?_ 0 _ rfl; refine bq ?_; exact a6.out⟩
 have k6 : Aside0 ((((w7.setCell ⟨a8, 0, none⟩ (.slice d5 b3.length d8)).setCell ⟨a0, 0, none⟩ (.slice a9 a5.length b1)).setCell ⟨a0, 1, none⟩ (.slice b4 b2.length b5)).heap[a0]? = some (.cells #[.slice a9 a5.length b1, .slice b4 b2.length b5] 29 (0, 0))) := ⟨by refine bq ?_; refine blk_put (cs := #[.slice a9 a5.length b1, .slice none 0 0]) ?_ 1 _ rfl; refine bq ?_; refine blk_put (cs := #[.slice none 0 0, .slice none 0 0]) ?_ 0 _ rfl; refine bq ?_; refine blk_far ?_ e5.out _; refine bq ?_; exact b0.out⟩
 have k7 : Aside0 (IsS86 w (((w7.setCell ⟨a8, 0, none⟩ (.slice d5 b3.length d8)).setCell ⟨a0, 0, none⟩ (.slice a9 a5.length b1)).setCell ⟨a0, 1, none⟩ (.slice b4 b2.length b5)) e7 e8 e9) := ⟨IsS86.q a3.out⟩
 have k8 : Aside0 (Below w.heap.size w (((w7.setCell ⟨a8, 0, none⟩ (.slice d5 b3.length d8)).setCell ⟨a0, 0, none⟩ (.slice a9 a5.length b1)).setCell ⟨a0, 1, none⟩ (.slice b4 b2.length b5))) := ⟨hsk HB.out (IsS86.ge a3.out)⟩
 (try clear b8)
 (try clear b9)
 (try clear c1)
 (try clear a1)
 (try clear a2)
 (try clear a6)
 (try clear b0)
 (try clear a3)
 (try clear HB)
 generalize (((w7.setCell ⟨a8, 0, none⟩ (.slice d5 b3.length d8)).setCell ⟨a0, 0, none⟩ (.slice a9 a5.length b1)).setCell ⟨a0, 1, none⟩ (.slice b4 b2.length b5)) = p4 at k0 k1 k2 k3 k4 k5 k6 k7 k8 ⊢
 have b8 := k0
 have b9 := k1
 have c1 := k2
 have a1 := k3
 have a2 := k4
 have a6 := k5
 have b0 := k6
 have a3 := k7
 have HB := k8
 clear k0 k1 k2 k3 k4 k5 k6 k7 k8
 replace b8 := am (Kd.R_drew b8.out)
 replace b9 := am (Kd.R_drew b9.out)
 replace c1 := am (Kd.R_drew c1.out)
 replace a1 := am (blk_drew a1.out)
 replace a2 := am (blk_drew a2.out)
 replace a6 := am (blk_drew a6.out)
 replace b0 := am (blk_drew b0.out)
 replace a3 := am (IsS86.drew a3.out)
 replace HB := am (below_drew1 HB.out)
 refine st_ (n := 4) (S := fun w' => w'.cell? ⟨a8, 0, none⟩ = some (.slice d5 b3.length d8) ∧ w'.cell? ⟨a0, 0, none⟩ = some (.slice a9 a5.length b1) ∧ w'.cell? ⟨a0, 1, none⟩ = some (.slice b4 b2.length b5)) (ds := []) ⟨(blk_cell a6.out 0).trans rfl, (blk_cell b0.out 0).trans rfl, (blk_cell b0.out 1).trans rfl⟩ (fun hHeld => ?_)
 generalize p4.drew = l5 at b8 b9 c1 a1 a2 a6 b0 a3 HB hHeld ⊢
 refine take_ (i := 0) (N := some 13) (v := ?_) (a' := ?_) #[true, false, false, false] rfl rfl (by kernel_rfl) (fun _ _ _ h => h) (Or.inl ⟨by rfl, ?_⟩) hHeld ?_ ?_
 rotate_left
 ·rintro w' ⟨s0, s1, s2⟩
  go_simp
  with_reducible rfl
 rotate_left
 ·simp only [Act.put, lsp, i64_w, i32_w]
  rfl
 refine take_ (i := 1) (N := some 14) (v := ?_) (a' := ?_) #[true, true, false, false] rfl rfl (by kernel_rfl) (fun _ _ _ h => h) (Or.inl ⟨by rfl, ?_⟩) hHeld ?_ ?_
 rotate_left
 ·rintro w' ⟨s0, s1, s2⟩
  go_simp
  with_reducible rfl
 rotate_left
 ·simp only [Act.put, lsp, i64_w, i32_w]
  rfl
 refine one_ (i := 2) (N := none) #[true, true, true, false] rfl rfl (by kernel_rfl) (by decide) (fun K hK => ?_)
 have o6 : l5.cell? ⟨d2, 0, none⟩ = some (.slice none 0 0) := (blk_cell a1.out 0).trans rfl
 have m1 := blk_frozen a1.out 0
 have i5 := d0.out
 have i6 := d3.out
 have i7 := d1.out
 have h6 := b6.out
 have h7 := d9.out
 have h8 := e0.out
 refine skip_ (w1 := ?_) (by rfl) rfl ?_ ?_
 rotate_left
 ·go_simp
  rfl
 refine hK.out _ _ ⟨((cell_far (p := ⟨d2, _, none⟩) d3.out _).trans (hHeld.1)), ((cell_far (p := ⟨d2, _, none⟩) d1.out _).trans (hHeld.2.1)), ((cell_far (p := ⟨d2, _, none⟩) d1.out _).trans (hHeld.2.2))⟩ (fun hHeld => ?_)
 clear hK K
 refine one_ (i := 3) (N := none) #[true, true, true, true] rfl rfl (by kernel_rfl) (by decide) (fun K hK => ?_)
 have o7 : l5.cell? ⟨a7, 0, none⟩ = some (.slice none 0 0) := (blk_cell a2.out 0).trans rfl
 have m2 := blk_frozen a2.out 0
 have i9 := b6.out
 have j5 := b7.out
 have j6 := a4.out
 have h9 := d0.out
 have i0 := d6.out
 have i1 := d7.out
 have o8 : l5.cell? ⟨a7, 1, none⟩ = some (.slice none 0 0) := (blk_cell a2.out 1).trans rfl
 have m3 := blk_frozen a2.out 1
 have j7 := b6.out
 have j8 := b7.out
 have j9 := a4.out
 have i2 := d0.out
 have i3 := d6.out
 have i4 := d7.out
 refine skip_ (w1 := ?_) (by rfl) rfl ?_ ?_
 rotate_left
 ·go_simp
  rfl
 refine hK.out _ _ ⟨((cell_far (p := ⟨a7, _, none⟩) b7.out _).trans (((cell_far (p := ⟨a7, _, none⟩) b7.out _).trans (hHeld.1)))), ((cell_far (p := ⟨a7, _, none⟩) a4.out _).trans (((cell_far (p := ⟨a7, _, none⟩) a4.out _).trans (hHeld.2.1)))), ((cell_far (p := ⟨a7, _, none⟩) a4.out _).trans (((cell_far (p := ⟨a7, _, none⟩) a4.out _).trans (hHeld.2.2))))⟩ (fun hHeld => ?_)
 clear hK K
 refine done_ (by kernel_rfl) ?_
 try go_wp2
 refine bodyPost_ret (results_cc rfl _ _ d2 a7 26 29 #[.slice d5 b3.length d8] #[.slice a9 a5.length b1, .slice b4 b2.length b5] (0, 0) (0, 0) _ _ rfl (by refine bq ?_; refine blk_far ?_ b6.out _; refine bq ?_; refine blk_far ?_ b6.out _; refine bq ?_; refine blk_put (cs := #[.slice none 0 0]) ?_ 0 _ rfl; refine bq ?_; exact a1.out) Tryz.underlying26 rfl (by kernel_rfl) rfl (by refine bq ?_; refine blk_put (cs := #[.slice a9 a5.length b1, .slice none 0 0]) ?_ 1 _ rfl; refine bq ?_; refine blk_put (cs := #[.slice none 0 0, .slice none 0 0]) ?_ 0 _ rfl; refine bq ?_; refine blk_far ?_ d0.out _; refine bq ?_; exact a2.out) Tryz.underlying29 rfl (by kernel_rfl)) rfl ?_
 exact ⟨_, _, _, er, rq (Kd.R_mono (Kd.R_far (p := ⟨a7, 1, none⟩) (Kd.R_far (p := ⟨a7, 0, none⟩) (Kd.R_far (p := ⟨d2, 0, none⟩) (Kd.R_types (Kd.R_types b8.out a1.out (by decide)) a2.out (by decide)) (fun _ hk => hk.1.2) (.slice d5 b3.length d8)) (fun _ hk => hk.2) (.slice a9 a5.length b1)) (fun _ hk => hk.2) (.slice b4 b2.length b5)) (fun _ hk => trivial)), rq (Kd.R_mono (Kd.R_far (p := ⟨a7, 1, none⟩) (Kd.R_far (p := ⟨a7, 0, none⟩) (Kd.R_far (p := ⟨d2, 0, none⟩) (Kd.R_types (Kd.R_types b9.out a1.out (by decide)) a2.out (by decide)) (fun _ hk => hk.1.2) (.slice d5 b3.length d8)) (fun _ hk => hk.2) (.slice a9 a5.length b1)) (fun _ hk => hk.2) (.slice b4 b2.length b5)) (fun _ hk => hk.1.1)), rq (Kd.R_mono (Kd.R_far (p := ⟨a7, 1, none⟩) (Kd.R_far (p := ⟨a7, 0, none⟩) (Kd.R_far (p := ⟨d2, 0, none⟩) (Kd.R_types (Kd.R_types c1.out a1.out (by decide)) a2.out (by decide)) (fun _ hk => hk.1.2) (.slice d5 b3.length d8)) (fun _ hk => hk.2) (.slice a9 a5.length b1)) (fun _ hk => hk.2) (.slice b4 b2.length b5)) (fun _ hk => hk.1.1)), hsk HB.out (IsS86.ge a3.out)⟩
def spec_DrawEquationText.f (k : Nat) (l0 : List Int) : Option ((List (S90)) × List Int × List Int) := (spec_DrawEquationFault.f k l0).bind fun a0 => (some (a0.1, a0.2.1, a0.2.2))
theorem spec_DrawEquationText.calls (k : Nat) (A0 : Option Addr) (c0 : Nat) (l0 : List Int) (r1 : List (S90)) (r2 : List Int) (r3 : List Int) (w : World) (e4 : Kd.C (Kd.int .u8) w A0 l0.length l0) (e0 : l0.length ≤ c0) (h : spec_DrawEquationText.f k l0 = some (r1, r2, r3)) :
  Calls Tryz.prog 16 #[.slice A0 l0.length c0] w fun e w' => ∃ e5 d6 d7 : Value, e = .returned (.tuple #[.agg #[e5], .agg #[d6, d7]]) ∧ Kd.R k90 90 w' w.heap.size (fun _ => True) e5 r1 ∧ Kd.R (Kd.int .i64) 2 w' w.heap.size (fun k_ => some k_ ≠ (d7 : Value).ownBlock) d6 r2 ∧ Kd.R (Kd.int .i64) 2 w' w.heap.size (fun k_ => some k_ ≠ (d6 : Value).ownBlock) d7 r3 ∧ Below w.heap.size w w' := by
 have g0 := Tryz.underlying26
 have g1 := Tryz.underlying29
 have e7 := am e4
 have e6 := am e0
 clear e4 e0
 have HB := am (Below.refl w.heap.size w)
 have H : ((spec_DrawEquationFault.f k l0).bind fun a7 => (some (a7.1, a7.2.1, a7.2.2))) = some (r1, r2, r3) := h
 clear h
 obtain ⟨⟨a8, a6, a9⟩, A2, H⟩ := ob H
 try dsimp only at H
 simp only [Option.some.injEq, Prod.mk.injEq] at H
 obtain ⟨rfl, rfl, rfl⟩ := H
 go_enter Tryz.func16, Tryz.ntmps16
 go_wp2_with (first | (refine bx 2 rfl #[.slice none 0 0] 26 ?_; intro a4 hg w3 hbox hb; have a0 := am (hbox); have b6 := am (bz hg (hq HB.out)); replace HB := sb HB hb; have d8 := b6; clear hb hbox hg) | (refine bx 3 rfl #[.slice none 0 0, .slice none 0 0] 29 ?_; intro a3 hg w4 hbox hb; have a1 := am (hbox); have b7 := am (bz hg (hs HB.out)); replace HB := sb HB hb; have d9 := b7; have a2 := nl hg a0; have a5 := ng hg a0; replace a0 := bb a0 hb; clear hb hbox hg) | (refine gl (some 5) Tryz.func47 rfl #[.slice A0 l0.length c0] ?_; refine (spec_DrawEquationFault.calls k _ _ l0 a8 a6 a9 _ (cq (Kd.C_below e7.out HB.out)) e6.out A2.out).mono ?_; rintro e w5 ⟨g2, g3, g4, rfl, e1, e2, e3, hb⟩; refine ⟨_, rfl, ?_⟩; have b2 := am (Kd.R_lower e1 (below_size (hs HB.out))); have b3 := am (Kd.R_lower e2 (below_size (hs HB.out))); have b4 := am (Kd.R_lower e3 (below_size (hs HB.out))); replace a0 := bb a0 hb; replace a1 := bb a1 hb; replace HB := sb HB hb; (try clear hb); (try clear hk); (try clear e1); (try clear e2); (try clear e3); obtain ⟨b9, c1, rfl⟩ := Kd.R_slice b2.out; obtain ⟨e8, e9⟩ := nn a2; have d4 := c0_ a0; have d5 := blk_frozen a0.out 0; obtain ⟨b5, b8, rfl⟩ := Kd.R_slice b3.out; have d0 := c0_ a1; have d1 := c1_ a1; have d2 := blk_frozen a1.out 0; have d3 := blk_frozen a1.out 1; obtain ⟨b0, b1, rfl⟩ := Kd.R_slice b4.out))
 refine bodyPost_ret (results_cc rfl _ _ a4 a3 26 29 #[.slice b9 a8.length c1] #[.slice b5 a6.length b8, .slice b0 a9.length b1] (0, 0) (0, 0) _ _ rfl (by refine bq ?_; refine blk_far ?_ a2.out _; refine bq ?_; refine blk_far ?_ a2.out _; refine bq ?_; refine blk_put (cs := #[.slice none 0 0]) ?_ 0 _ rfl; refine bq ?_; exact a0.out) Tryz.underlying26 rfl (by kernel_rfl) rfl (by refine bq ?_; refine blk_put (cs := #[.slice b5 a6.length b8, .slice none 0 0]) ?_ 1 _ rfl; refine bq ?_; refine blk_put (cs := #[.slice none 0 0, .slice none 0 0]) ?_ 0 _ rfl; refine bq ?_; refine blk_far ?_ a5.out _; refine bq ?_; exact a1.out) Tryz.underlying29 rfl (by kernel_rfl)) rfl ?_
 exact ⟨_, _, _, er, rq (Kd.R_mono (Kd.R_far (p := ⟨a3, 1, none⟩) (Kd.R_far (p := ⟨a3, 0, none⟩) (Kd.R_far (p := ⟨a4, 0, none⟩) (Kd.R_types (Kd.R_types b2.out a0.out (by decide)) a1.out (by decide)) (fun _ hk => hk.1.2) (.slice b9 a8.length c1)) (fun _ hk => hk.2) (.slice b5 a6.length b8)) (fun _ hk => hk.2) (.slice b0 a9.length b1)) (fun _ hk => trivial)), rq (Kd.R_mono (Kd.R_far (p := ⟨a3, 1, none⟩) (Kd.R_far (p := ⟨a3, 0, none⟩) (Kd.R_far (p := ⟨a4, 0, none⟩) (Kd.R_types (Kd.R_types b3.out a0.out (by decide)) a1.out (by decide)) (fun _ hk => hk.1.2) (.slice b9 a8.length c1)) (fun _ hk => hk.2) (.slice b5 a6.length b8)) (fun _ hk => hk.2) (.slice b0 a9.length b1)) (fun _ hk => hk.1.1)), rq (Kd.R_mono (Kd.R_far (p := ⟨a3, 1, none⟩) (Kd.R_far (p := ⟨a3, 0, none⟩) (Kd.R_far (p := ⟨a4, 0, none⟩) (Kd.R_types (Kd.R_types b4.out a0.out (by decide)) a1.out (by decide)) (fun _ hk => hk.1.2) (.slice b9 a8.length c1)) (fun _ hk => hk.2) (.slice b5 a6.length b8)) (fun _ hk => hk.2) (.slice b0 a9.length b1)) (fun _ hk => hk.1.1)), hs HB.out⟩
def impl_equationText.f (k : Nat) (a1 : List (S90)) (a3 : List Int) (a4 : List Int) : Option (ByteArray) := (impl_textAt.f k a1 a3 0).bind fun a0 => (if a0.size + 1 ≤ 9223372036854775807 then ((impl_textAt.f k a1 a4 0).bind fun a2 => (if (a0 ++ (⟨#[61]⟩ : ByteArray)).size + a2.size ≤ 9223372036854775807 then (some ((a0 ++ (⟨#[61]⟩ : ByteArray)) ++ a2)) else (none))) else (none))
def impl_equationText.T1 : Bool × List (List Nat × List Nat) := (true, [([], []), ([], []), ([1], [1]), ([0, 2], [0, 2]), ([3], [3]), ([], []), ([], []), ([6], [6]), ([5, 7, 3], [5, 7]), ([4, 8], [4, 8]), ([9, 8, 0, 1, 2, 3, 4, 5, 6, 7, 8, 9], [9])])
def impl_equationText.B1 : List Nat := [0, 0, 2, 7, 15, 0, 0, 64, 239, 511, 1023]
theorem impl_equationText.tab1 : rtab .any (opsOf Tryz.f48 1) = impl_equationText.T1 := by kernel_rfl
theorem impl_equationText.bits1 : waitsOk impl_equationText.T1.2 impl_equationText.B1 = true := by kernel_rfl
theorem impl_equationText.calls (k : Nat) (a6 : Option Addr) (a7 : Nat) (a2 : List (S90)) (b0 : Option Addr) (b2 : Nat) (a3 : List Int) (b1 : Option Addr) (b3 : Nat) (a4 : List Int) (r : ByteArray) (w : World) (c0 : Kd.C k90 w a6 a2.length a2) (b7 : a2.length ≤ a7) (c1 : Kd.C (Kd.int .i64) w b0 a3.length a3) (b8 : a3.length ≤ b2) (d0 : Kd.C (Kd.int .i64) w b1 a4.length a4) (b9 : a4.length ≤ b3) (h : impl_equationText.f k a2 a3 a4 = some r) :
  Calls Tryz.prog 48 #[.agg #[.slice a6 a2.length a7], .agg #[.slice b0 a3.length b2, .slice b1 a4.length b3]] w fun e w' => e = .returned (.string r) ∧ Below w.heap.size w w' := by
 have e9 := Tryz.underlying26
 have g0 := Tryz.underlying29
 have b5 := am c0
 have b4 := am b7
 clear c0 b7
 have d7 := am c1
 have d5 := am b8
 clear c1 b8
 have d8 := am d0
 have d6 := am b9
 clear d0 b9
 have HB := am (Below.refl w.heap.size w)
 have H : ((impl_textAt.f k a2 a3 0).bind fun a5 => (if a5.size + 1 ≤ 9223372036854775807 then ((impl_textAt.f k a2 a4 0).bind fun a8 => (if (a5 ++ (⟨#[61]⟩ : ByteArray)).size + a8.size ≤ 9223372036854775807 then (some ((a5 ++ (⟨#[61]⟩ : ByteArray)) ++ a8)) else (none))) else (none))) = some r := h
 clear h
 obtain ⟨a5, A3, H⟩ := ob H
 try dsimp only at H
 obtain ⟨c4, H⟩ := ifs H
 have e3 := eq_true c4
 have e4 := decide_eq_true c4
 try have e5 : (9223372036854775807 < a5.size + 1) = False := eq_false (Nat.not_lt.2 c4)
 obtain ⟨a8, A5, H⟩ := ob H
 try dsimp only at H
 obtain ⟨c6, H⟩ := ifs H
 have e6 := eq_true c6
 have e7 := decide_eq_true c6
 try have e8 : (9223372036854775807 < (a5 ++ (⟨#[61]⟩ : ByteArray)).size + a8.size) = False := eq_false (Nat.not_lt.2 c6)
 try have c6z_ : (9223372036854775807 < a5.size + 1 + a8.size) = False := (by have h_ := c6; simp only [ByteArray.size_append] at h_; exact eq_false (Nat.not_lt.2 h_))
 obtain rfl := Option.some.inj H
 go_enter Tryz.func48, Tryz.ntmps48
 try go_wp2_with (first | (refine bx 2 rfl #[.slice a6 a2.length a7] 26 ?_; intro d9 hg w7 hbox hb; have a0 := am (hbox); have d3 := am (bz hg (hq HB.out)); replace HB := sb HB hb; have e1 := d3; clear hb hbox hg) | (refine bx 3 rfl #[.slice b0 a3.length b2, .slice b1 a4.length b3] 29 ?_; intro b6 hg w8 hbox hb; have a1 := am (hbox); have d4 := am (bz hg (hs HB.out)); replace HB := sb HB hb; have e2 := d4; have d1 := nl hg a0; have d2 := ng hg a0; replace a0 := bb a0 hb; clear hb hbox hg))
 replace a0 := am (blk_drew a0.out)
 replace a1 := am (blk_drew a1.out)
 replace HB := am (below_drew1 HB.out)
 refine st_ (n := 11) (S := fun w' => w'.cell? ⟨d9, 0, none⟩ = some (.slice a6 a2.length a7) ∧ w'.cell? ⟨b6, 0, none⟩ = some (.slice b0 a3.length b2) ∧ w'.cell? ⟨b6, 1, none⟩ = some (.slice b1 a4.length b3)) (ds := []) ⟨(blk_cell a0.out 0).trans rfl, (blk_cell a1.out 0).trans rfl, (blk_cell a1.out 1).trans rfl⟩ (fun hHeld => ?_); refine with_tabW impl_equationText.tab1 impl_equationText.bits1 (fun a9 e0 => ?_)
 generalize w8.drew = w9 at a0 a1 HB hHeld ⊢
 refine pu 1 6 rfl rfl a9 ?_
 refine pu 6 11 rfl rfl a9 ?_
 refine tk 0 5 rfl rfl a9 e0 hHeld ?_
 refine tk 2 7 rfl rfl a9 e0 hHeld ?_
 refine tk 5 10 rfl rfl a9 e0 hHeld ?_
 refine tk 7 12 rfl rfl a9 e0 hHeld ?_
 refine on_ 3 (some 8) rfl rfl a9 (fun K hK => ?_)
 refine gs Tryz.func52 #[.agg #[.slice a6 a2.length a7], .slice b0 a3.length b2, .int .i64 0] ?_
 refine (impl_textAt.calls k _ _ a2 _ _ a3 0 a5 _ (cq (Kd.C_below b5.out HB.out)) b4.out (cq (Kd.C_below d7.out HB.out)) d5.out A3.out).mono ?_
 rintro e g1 ⟨rfl, hb⟩
 refine ⟨_, rfl, ?_⟩
 replace a0 := bb a0 hb
 replace a1 := bb a1 hb
 replace HB := sb HB hb
 (try clear hb)
 refine hK.out _ _ ⟨(blk_cell a0.out 0).trans rfl, (blk_cell a1.out 0).trans rfl, (blk_cell a1.out 1).trans rfl⟩ (fun hHeld => ?_)
 clear hK K
 refine nr (some 8) ?_
 refine pu 4 9 rfl rfl a9 ?_
 refine on_ 8 (some 13) rfl rfl a9 (fun K hK => ?_)
 refine gs Tryz.func52 #[.agg #[.slice a6 a2.length a7], .slice b1 a4.length b3, .int .i64 0] ?_
 refine (impl_textAt.calls k _ _ a2 _ _ a4 0 a8 _ (cq (Kd.C_below b5.out HB.out)) b4.out (cq (Kd.C_below d8.out HB.out)) d6.out A5.out).mono ?_
 rintro e g2 ⟨rfl, hb⟩
 refine ⟨_, rfl, ?_⟩
 replace a0 := bb a0 hb
 replace a1 := bb a1 hb
 replace HB := sb HB hb
 (try clear hb)
 refine hK.out _ _ ⟨(blk_cell a0.out 0).trans rfl, (blk_cell a1.out 0).trans rfl, (blk_cell a1.out 1).trans rfl⟩ (fun hHeld => ?_)
 clear hK K
 refine nr (some 13) ?_
 refine pu 9 14 rfl rfl a9 ?_
 refine pu 10 4 rfl rfl a9 ?_
 refine done_ (done_of a9.out (by kernel_rfl)) ?_
 try go_wp2
 go_ret
 exact ⟨er, hs HB.out⟩
def impl_EquationText.f (k : Nat) (a0 : List (S90)) (a1 : List Int) (a2 : List Int) : Option (Int × ByteArray) := (impl_EquationFault.f k a0 a1 a2).bind fun a3 => (if a3 = 0 then ((impl_equationText.f k a0 a1 a2).bind fun a4 => (some (0, a4))) else (some (a3, (⟨#[]⟩ : ByteArray))))
theorem impl_EquationText.calls (k : Nat) (b3 : Option Addr) (b6 : Nat) (a3 : List (S90)) (b4 : Option Addr) (b7 : Nat) (a4 : List Int) (b5 : Option Addr) (b8 : Nat) (a5 : List Int) (r1 : Int) (r2 : ByteArray) (w : World) (d8 : Kd.C k90 w b3 a3.length a3) (d5 : a3.length ≤ b6) (d9 : Kd.C (Kd.int .i64) w b4 a4.length a4) (d6 : a4.length ≤ b7) (e0 : Kd.C (Kd.int .i64) w b5 a5.length a5) (d7 : a5.length ≤ b8) (h : impl_EquationText.f k a3 a4 a5 = some (r1, r2)) :
  Calls Tryz.prog 17 #[.agg #[.slice b3 a3.length b6], .agg #[.slice b4 a4.length b7, .slice b5 a5.length b8]] w fun e w' => e = .returned (.agg #[.int .i64 r1, .string r2]) ∧ Below w.heap.size w w' := by
 have k7 := Tryz.underlying26
 have k8 := Tryz.underlying29
 have k9 := Tryz.underlying46
 have d1 := am d8
 have c0 := am d5
 clear d8 d5
 have d2 := am d9
 have c1 := am d6
 clear d9 d6
 have d3 := am e0
 have d0 := am d7
 clear e0 d7
 have HB := am (Below.refl w.heap.size w)
 have H : ((impl_EquationFault.f k a3 a4 a5).bind fun b0 => (if b0 = 0 then ((impl_equationText.f k a3 a4 a5).bind fun b9 => (some (0, b9))) else (some (b0, (⟨#[]⟩ : ByteArray))))) = some (r1, r2) := h
 clear h
 obtain ⟨b0, A3, H⟩ := ob H
 try dsimp only at H
 have i1 := am H
 clear H
 go_enter Tryz.func17, Tryz.ntmps17
 go_upto_if 10 with (first | (refine bx 2 rfl #[.slice b3 a3.length b6] 26 ?_; intro i2 hg w5 hbox hb; have a0 := am (hbox); have e2 := am (bz hg (hq HB.out)); replace HB := sb HB hb; have h8 := e2; clear hb hbox hg) | (refine bx 3 rfl #[.slice b4 a4.length b7, .slice b5 a5.length b8] 29 ?_; intro i3 hg w6 hbox hb; have a1 := am (hbox); have e3 := am (bz hg (hs HB.out)); replace HB := sb HB hb; have h9 := e3; have a6 := nl hg a0; have e1 := ng hg a0; replace a0 := bb a0 hb; clear hb hbox hg) | (refine bx 4 rfl #[.int .i64 0, .string (⟨#[]⟩ : ByteArray)] 46 ?_; intro d4 hg w7 hbox hb; have a2 := am (hbox); have e4 := am (bz hg (hs HB.out)); replace HB := sb HB hb; have i0 := e4; have a7 := nl hg a0; have b1 := ng hg a0; replace a0 := bb a0 hb; have a8 := nl hg a1; have b2 := ng hg a1; replace a1 := bb a1 hb; clear hb hbox hg; obtain ⟨k3, k5⟩ := nn a6; obtain ⟨k4, k6⟩ := nn a7; have e7 := c0_ a0; have g7 := blk_frozen a0.out 0; obtain ⟨i4, j6⟩ := nn a8; have e8 := c0_ a1; have e9 := c1_ a1; have g8 := blk_frozen a1.out 0; have g9 := blk_frozen a1.out 1) | (refine gl (some 8) Tryz.func11 rfl #[.agg #[.slice b3 a3.length b6], .agg #[.slice b4 a4.length b7, .slice b5 a5.length b8]] ?_; refine (impl_EquationFault.calls k _ _ a3 (fun k_ => k_ < w.heap.size) _ _ a4 (fun k_ => k_ < w.heap.size) _ _ a5 b0 _ (cq (Kd.C_below d1.out HB.out)) c0.out (Kd.V_mk c1.out (Kd.F_below (Kd.C_F (Kd.heap_int .i64) d2.out) (hs HB.out))) (Kd.V_mk d0.out (Kd.F_below (Kd.C_F (Kd.heap_int .i64) d3.out) (hs HB.out))) A3.out).mono ?_; rintro e l4 ⟨rfl, hb⟩; refine ⟨_, rfl, ?_⟩; replace a0 := bb a0 hb; replace a1 := bb a1 hb; replace a2 := bb a2 hb; replace HB := sb HB hb; clear hb))
 have H := i1.out
 clear i1
 by_cases e5 : b0 = 0
 ·rw [if_pos e5] at H
  obtain ⟨a9, e6⟩ := bqt e5; clear e5
  (first | rw [a9] | (simp only [i64_w, i32_w]; rw [a9]) | skip)
  obtain ⟨b9, k2, H⟩ := ob H
  try dsimp only at H
  simp only [Option.some.injEq, Prod.mk.injEq] at H
  obtain ⟨rfl, rfl⟩ := H
  obtain ⟨i5, j7⟩ := nn a6
  obtain ⟨i6, j8⟩ := nn a7
  have g0 := c0_ a0
  have h0 := blk_frozen a0.out 0
  obtain ⟨i7, j9⟩ := nn a8
  have g1 := c0_ a1
  have g2 := c1_ a1
  have h2 := blk_frozen a1.out 0
  have h3 := blk_frozen a1.out 1
  go_wp2_with (first | (refine gl (some 15) Tryz.func48 rfl #[.agg #[.slice b3 a3.length b6], .agg #[.slice b4 a4.length b7, .slice b5 a5.length b8]] ?_; refine (impl_equationText.calls k _ _ a3 _ _ a4 _ _ a5 b9 _ (cq (Kd.C_below d1.out HB.out)) c0.out (cq (Kd.C_below d2.out HB.out)) c1.out (cq (Kd.C_below d3.out HB.out)) d0.out k2.out).mono ?_; rintro e l5 ⟨rfl, hb⟩; refine ⟨_, rfl, ?_⟩; replace a0 := bb a0 hb; replace a1 := bb a1 hb; replace a2 := bb a2 hb; replace HB := sb HB hb; (try clear hb); have g3 := c0_ a2; have g4 := c1_ a2; have h4 := blk_frozen a2.out 0; have h5 := blk_frozen a2.out 1))
  refine bodyPost_ret (results_cell_row rfl _ _ d4 46 #[.int .i64 0, .string b9] (0, 0) _ rfl (by refine bq ?_; refine blk_put (cs := #[.int .i64 0, .string (⟨#[]⟩ : ByteArray)]) ?_ 1 _ rfl; refine bq ?_; refine blk_put (cs := #[.int .i64 0, .string (⟨#[]⟩ : ByteArray)]) ?_ 0 _ rfl; refine bq ?_; exact a2.out) Tryz.underlying46 rfl (by kernel_rfl)) rfl ?_
  exact ⟨er, hs HB.out⟩
 ·rw [if_neg e5] at H
  obtain ⟨a9, e6⟩ := bqf e5
  (first | rw [a9] | (simp only [i64_w, i32_w]; rw [a9]) | skip)
  simp only [Option.some.injEq, Prod.mk.injEq] at H
  obtain ⟨rfl, rfl⟩ := H
  obtain ⟨i9, k0⟩ := nn b1
  obtain ⟨j5, k1⟩ := nn b2
  have g5 := c0_ a2
  have g6 := c1_ a2
  have h6 := blk_frozen a2.out 0
  have h7 := blk_frozen a2.out 1
  go_wp2
  refine bodyPost_ret (results_cell_row rfl _ _ d4 46 #[.int .i64 b0, .string (⟨#[]⟩ : ByteArray)] (0, 0) _ rfl (by refine bq ?_; refine blk_put (cs := #[.int .i64 b0, .string (⟨#[]⟩ : ByteArray)]) ?_ 1 _ rfl; refine bq ?_; refine blk_put (cs := #[.int .i64 0, .string (⟨#[]⟩ : ByteArray)]) ?_ 0 _ rfl; refine bq ?_; exact a2.out) Tryz.underlying46 rfl (by kernel_rfl)) rfl ?_
  exact ⟨er, hs HB.out⟩
def spec_ReadTerm.f (k : Nat) (a0 : List (S90)) (a1 : ByteArray) : Option (Int × List Int) := (spec_SignatureFault.f k a0).bind fun a2 => (if a2 = 0 then ((spec_l4Read.f k [(⟨a0⟩ : S26)] a1).bind fun a3 => (if (a3.length : Int) = 0 then (some (5, ([] : List Int))) else (some (0, a3)))) else (some (a2, ([] : List Int))))
theorem spec_ReadTerm.calls (k : Nat) (b1 : Option Addr) (b2 : Nat) (a4 : List (S90)) (a1 : ByteArray) (r1 : Int) (r2 : List Int) (w : World) (b7 : Kd.C k90 w b1 a4.length a4) (b6 : a4.length ≤ b2) (h : spec_ReadTerm.f k a4 a1 = some (r1, r2)) :
  Calls Tryz.prog 18 #[.agg #[.slice b1 a4.length b2], .string a1] w fun e w' => ∃ h0 : Value, e = .returned (.agg #[.int .i64 r1, h0]) ∧ Kd.R (Kd.int .i64) 2 w' w.heap.size (fun _ => True) h0 r2 ∧ Below w.heap.size w w' := by
 have h5 := Tryz.underlying26
 have h6 := Tryz.underlying37
 have b5 := am b7
 have b3 := am b6
 clear b7 b6
 have HB := am (Below.refl w.heap.size w)
 have H : ((spec_SignatureFault.f k a4).bind fun a9 => (if a9 = 0 then ((spec_l4Read.f k [(⟨a4⟩ : S26)] a1).bind fun a8 => (if (a8.length : Int) = 0 then (some (5, ([] : List Int))) else (some (0, a8)))) else (some (a9, ([] : List Int))))) = some (r1, r2) := h
 clear h
 obtain ⟨a9, A3, H⟩ := ob H
 try dsimp only at H
 have g1 := am H
 clear H
 go_enter Tryz.func18, Tryz.ntmps18
 go_upto_if 10 with (first | (refine bx 2 rfl #[.slice b1 a4.length b2] 26 ?_; intro d4 hg w5 hbox hb; have a2 := am (hbox); have c0 := am (bz hg (hq HB.out)); replace HB := sb HB hb; have e9 := c0; clear hb hbox hg) | (refine bx 4 rfl #[.int .i64 0, .slice none 0 0] 37 ?_; intro a7 hg w6 hbox hb; have a0 := am (hbox); have c1 := am (bz hg (hs HB.out)); replace HB := sb HB hb; have g0 := c1; have b0 := nl hg a2; have a3 := ng hg a2; replace a2 := bb a2 hb; clear hb hbox hg; obtain ⟨h3, h4⟩ := nn b0; have e7 := c0_ a2; have e8 := blk_frozen a2.out 0) | (refine gl (some 8) Tryz.func49 rfl #[.agg #[.slice b1 a4.length b2]] ?_; refine (spec_SignatureFault.calls k _ _ a4 a9 _ (cq (Kd.C_below b5.out HB.out)) b3.out A3.out).mono ?_; rintro e w9 ⟨rfl, hb⟩; refine ⟨_, rfl, ?_⟩; replace a2 := bb a2 hb; replace a0 := bb a0 hb; replace HB := sb HB hb; clear hb; (try clear hk)))
 have H := g1.out
 clear g1
 by_cases c10 : a9 = 0
 ·rw [if_pos c10] at H
  obtain ⟨a5, d1⟩ := bqt c10; clear c10
  (first | rw [a5] | (simp only [i64_w, i32_w]; rw [a5]) | skip)
  obtain ⟨a8, h2, H⟩ := ob H
  try dsimp only at H
  have d0 := am H
  clear H
  go_upto_if 17 with (first | (refine gl (some 14) Tryz.func50 rfl #[.pointer (some ⟨d4, 0, none⟩), .string a1] ?_; refine (spec_l4Read.calls k _ [(⟨a4⟩ : S26)] a1 a8 _ (k26_box (bq a2.out) (cq (Kd.C_below b5.out HB.out)) (by exact b3.out)) h2.out).mono ?_; rintro e h8 ⟨h7, rfl, g9, hb⟩; refine ⟨_, rfl, ?_⟩; have b4 := am (Kd.R_lower g9 (below_size (hs HB.out))); replace a2 := bb a2 hb; replace a0 := bb a0 hb; replace HB := sb HB hb; (try clear hb); (try clear hk); (try clear g9); obtain ⟨b9, d3, rfl⟩ := Kd.R_slice b4.out))
  have H := d0.out
  clear d0
  by_cases b8 : (a8.length : Int) = 0
  ·rw [if_pos b8] at H
   obtain ⟨a6, d2⟩ := bqt b8; clear b8
   (first | rw [a6] | (simp only [i64_w, i32_w]; rw [a6]) | skip)
   simp only [Option.some.injEq, Prod.mk.injEq] at H
   obtain ⟨rfl, rfl⟩ := H
   obtain ⟨g3, g6⟩ := nn a3
   have d5 := c0_ a0
   have d6 := c1_ a0
   have e1 := blk_frozen a0.out 0
   have e2 := blk_frozen a0.out 1
   go_wp2
   refine bodyPost_ret (results_cell_row rfl _ _ a7 37 #[.int .i64 5, .slice none 0 0] (0, 0) _ rfl (by refine bq ?_; refine blk_put (cs := #[.int .i64 5, .slice none 0 0]) ?_ 1 _ rfl; refine bq ?_; refine blk_put (cs := #[.int .i64 0, .slice none 0 0]) ?_ 0 _ rfl; refine bq ?_; exact a0.out) Tryz.underlying37 rfl (by kernel_rfl)) rfl ?_
   exact ⟨_, er, by first | exact Kd.R_nil _ _ _ _ _ | exact Kd.N_nil _ _ _ _ _ | exact Kd.V_nil _ _ _ _ _ | exact Kd.Q_nil _ _ _ _ _ | exact Kd.S_nil _ _ _ _ _, hs HB.out⟩
  ·rw [if_neg b8] at H
   obtain ⟨a6, d2⟩ := bqf b8
   have g2 : ¬ (a8 = []) := fun h_ => b8 (by rw [h_]; rfl)
   (first | rw [a6] | (simp only [i64_w, i32_w]; rw [a6]) | skip)
   simp only [Option.some.injEq, Prod.mk.injEq] at H
   obtain ⟨rfl, rfl⟩ := H
   obtain ⟨g4, g7⟩ := nn a3
   have d7 := c0_ a0
   have d8 := c1_ a0
   have e3 := blk_frozen a0.out 0
   have e4 := blk_frozen a0.out 1
   go_wp2
   refine bodyPost_ret (results_cell_row rfl _ _ a7 37 #[.int .i64 0, .slice b9 a8.length d3] (0, 0) _ rfl (by refine bq ?_; refine blk_put (cs := #[.int .i64 0, .slice none 0 0]) ?_ 1 _ rfl; refine bq ?_; refine blk_put (cs := #[.int .i64 0, .slice none 0 0]) ?_ 0 _ rfl; refine bq ?_; exact a0.out) Tryz.underlying37 rfl (by kernel_rfl)) rfl ?_
   exact ⟨_, er, rq (Kd.R_mono (Kd.R_far (p := ⟨a7, 1, none⟩) (Kd.R_far (p := ⟨a7, 0, none⟩) (Kd.R_types b4.out a0.out (by decide)) (fun _ hk => hk.2) (.int .i64 0)) (fun _ hk => hk.2) (.slice b9 a8.length d3)) (fun _ hk => trivial)), hs HB.out⟩
 ·rw [if_neg c10] at H
  obtain ⟨a5, d1⟩ := bqf c10
  (first | rw [a5] | (simp only [i64_w, i32_w]; rw [a5]) | skip)
  simp only [Option.some.injEq, Prod.mk.injEq] at H
  obtain ⟨rfl, rfl⟩ := H
  obtain ⟨g5, g8⟩ := nn a3
  have d9 := c0_ a0
  have e0 := c1_ a0
  have e5 := blk_frozen a0.out 0
  have e6 := blk_frozen a0.out 1
  go_wp2
  refine bodyPost_ret (results_cell_row rfl _ _ a7 37 #[.int .i64 a9, .slice none 0 0] (0, 0) _ rfl (by refine bq ?_; refine blk_put (cs := #[.int .i64 a9, .slice none 0 0]) ?_ 1 _ rfl; refine bq ?_; refine blk_put (cs := #[.int .i64 0, .slice none 0 0]) ?_ 0 _ rfl; refine bq ?_; exact a0.out) Tryz.underlying37 rfl (by kernel_rfl)) rfl ?_
  exact ⟨_, er, by first | exact Kd.R_nil _ _ _ _ _ | exact Kd.N_nil _ _ _ _ _ | exact Kd.V_nil _ _ _ _ _ | exact Kd.Q_nil _ _ _ _ _ | exact Kd.S_nil _ _ _ _ _, hs HB.out⟩
def spec_EquationFault.f (k : Nat) (a0 : List (S90)) (a2 : List Int) (a3 : List Int) : Option (Int) := (spec_SignatureFault.f k a0).bind fun a1 => (if a1 = 0 then ((spec_l4Fault.f k [(⟨a0⟩ : S26)] [(⟨a2, a3⟩ : S29)]).bind fun a4 => (some a4)) else (some a1))
theorem spec_EquationFault.calls (k : Nat) (a8 : Option Addr) (a9 : Nat) (a1 : List (S90)) (b8 : Option Addr) (c0 : Nat) (a3 : List Int) (b9 : Option Addr) (c1 : Nat) (a4 : List Int) (r : Int) (w : World) (b5 : Kd.C k90 w a8 a1.length a1) (b2 : a1.length ≤ a9) (b6 : Kd.C (Kd.int .i64) w b8 a3.length a3) (b3 : a3.length ≤ c0) (b7 : Kd.C (Kd.int .i64) w b9 a4.length a4) (b4 : a4.length ≤ c1) (h : spec_EquationFault.f k a1 a3 a4 = some r) :
  Calls Tryz.prog 19 #[.agg #[.slice a8 a1.length a9], .agg #[.slice b8 a3.length c0, .slice b9 a4.length c1]] w fun e w' => e = .returned (.int .i64 r) ∧ Below w.heap.size w w' := by
 have e9 := Tryz.underlying26
 have g0 := Tryz.underlying29
 have b1 := am b5
 have b0 := am b2
 clear b5 b2
 have d6 := am b6
 have d4 := am b3
 clear b6 b3
 have d7 := am b7
 have d5 := am b4
 clear b7 b4
 have HB := am (Below.refl w.heap.size w)
 have H : ((spec_SignatureFault.f k a1).bind fun a7 => (if a7 = 0 then ((spec_l4Fault.f k [(⟨a1⟩ : S26)] [(⟨a3, a4⟩ : S29)]).bind fun d0 => (some d0)) else (some a7))) = some r := h
 clear h
 obtain ⟨a7, A3, H⟩ := ob H
 try dsimp only at H
 have e5 := am H
 clear H
 go_enter Tryz.func19, Tryz.ntmps19
 go_upto_if 9 with (first | (refine bx 2 rfl #[.slice a8 a1.length a9] 26 ?_; intro d9 hg w5 hbox hb; have a0 := am (hbox); have d2 := am (bz hg (hq HB.out)); replace HB := sb HB hb; have e3 := d2; clear hb hbox hg) | (refine bx 3 rfl #[.slice b8 a3.length c0, .slice b9 a4.length c1] 29 ?_; intro e0 hg w6 hbox hb; have a6 := am (hbox); have d3 := am (bz hg (hs HB.out)); replace HB := sb HB hb; have e4 := d3; have a5 := nl hg a0; have d1 := ng hg a0; replace a0 := bb a0 hb; clear hb hbox hg; obtain ⟨e7, e8⟩ := nn a5; have e1 := c0_ a0; have e2 := blk_frozen a0.out 0) | (refine gl (some 7) Tryz.func49 rfl #[.agg #[.slice a8 a1.length a9]] ?_; refine (spec_SignatureFault.calls k _ _ a1 a7 _ (cq (Kd.C_below b1.out HB.out)) b0.out A3.out).mono ?_; rintro e w9 ⟨rfl, hb⟩; refine ⟨_, rfl, ?_⟩; replace a0 := bb a0 hb; replace a6 := bb a6 hb; replace HB := sb HB hb; clear hb))
 have H := e5.out
 clear e5
 by_cases c10 : a7 = 0
 ·rw [if_pos c10] at H
  obtain ⟨a2, d8⟩ := bqt c10; clear c10
  (first | rw [a2] | (simp only [i64_w, i32_w]; rw [a2]) | skip)
  obtain ⟨d0, e6, H⟩ := ob H
  try dsimp only at H
  obtain rfl := Option.some.inj H
  go_wp2_with (first | (refine gl (some 11) Tryz.func51 rfl #[.pointer (some ⟨d9, 0, none⟩), .pointer (some ⟨e0, 0, none⟩)] ?_; refine (spec_l4Fault.calls k _ [(⟨a1⟩ : S26)] _ [(⟨a3, a4⟩ : S29)] d0 _ (k26_box (bq a0.out) (cq (Kd.C_below b1.out HB.out)) (by exact b0.out)) (k29_box (bq a6.out) (cq (Kd.C_below d6.out HB.out)) (by exact d4.out) (cq (Kd.C_below d7.out HB.out)) (by exact d5.out)) e6.out).mono ?_; rintro e w' ⟨rfl, ⟨nd, rfl⟩⟩; refine ⟨_, rfl, ?_⟩))
  go_ret
  exact ⟨er, hs HB.out⟩
 ·rw [if_neg c10] at H
  obtain ⟨a2, d8⟩ := bqf c10
  (first | rw [a2] | (simp only [i64_w, i32_w]; rw [a2]) | skip)
  obtain rfl := Option.some.inj H
  go_wp2
  go_ret
  exact ⟨er, hs HB.out⟩
end Go.Proofs.YtbdpnkpienpnaaaGreatDoor.P
