/- A part of the proof of the law FnTexts. -/
import Derived.Test.YtbdpnkpienpnaaaGreatDoorCFnTexts12
import Derived.Test.YtbdpnkpienpnaaaGreatDoorCFnTexts13
namespace Go.Proofs.YtbdpnkpienpnaaaGreatDoor.P
open Go.RowKit Go.Proofs.YtbdpnkpienpnaaaGreatDoorW.PrintWords Go.Proofs.YtbdpnkpienpnaaaGreatDoorW.PrintLast Go.Proofs.YtbdpnkpienpnaaaGreatDoorW.PrintMore
attribute [local go_sem] max2_int min2_int max_two min_two max_three min_three max_four min_four   -- for this text's walks alone
set_option linter.unusedVariables false
set_option linter.unusedSimpArgs false
attribute [local go_sem high] eqA46
mutual
def laws_FnTexts.j0 : Nat → ByteArray → Bool → List (S90) → Int → List Int → List (S90) → List Int → List Int → Int → ByteArray → Option (Bool)
 | 0, _, _, _, _, _, _, _, _, _, _ => none
 | k + 1, x4, a9, a5, a6, a7, a0, a1, a2, a3, a4 => if a9 = true then (some false) else (if a6 = 0 then ((impl_TermText.f k a5 a7).bind fun a8 => (laws_FnTexts.j1 k (!(a8.1 == 0) || (!(a8.2.toList == x4.toList))) a0 a1 a2 a3 a4)) else (laws_FnTexts.j1 k false a0 a1 a2 a3 a4))
def laws_FnTexts.j1 : Nat → Bool → List (S90) → List Int → List Int → Int → ByteArray → Option (Bool)
 | 0, _, _, _, _, _, _ => none
 | k + 1, b1, a0, a1, a3, a4, a5 => if b1 = true then (some false) else (if a4 = 0 then ((impl_ReadEquation.f k a0 a5).bind fun a2 => ((impl_TermText.f k a0 a1).bind fun a6 => ((impl_ReadTerm.f k a0 a6.2).bind fun a7 => (if a2.1 = 0 then ((laws_lwNums.f k a2.2.1 a1).bind fun a8 => (if a8 = true then ((laws_lwNums.f k a2.2.2 a3).bind fun a9 => (if a9 = true then ((laws_lwNums.f k a7.2 a1).bind fun b0 => (some b0)) else (some false))) else (some false))) else (some false))))) else (some true))
end
def laws_FnTexts.f (k : Nat) (l0 : List Int) : Option (Bool) := (laws_lwBig.f l0).bind fun a5 => (if a5 = true then (some true) else ((spec_DrawReadTerm.f k l0).bind fun a1 => ((impl_ReadTerm.f k a1.1 a1.2).bind fun a3 => ((spec_DrawEquationText.f k l0).bind fun a0 => ((impl_EquationText.f k a0.1 a0.2.1 a0.2.2).bind fun a2 => ((spec_ReadTerm.f k a1.1 a1.2).bind fun a4 => (if a3.1 = a4.1 then ((spec_EquationFault.f k a0.1 a0.2.1 a0.2.2).bind fun a6 => (if a2.1 = a6 then ((impl_EquationFault.f k a0.1 a0.2.1 a0.2.2).bind fun a7 => (laws_FnTexts.j0 k a1.2 (a7 != a2.1) a1.1 a3.1 a3.2 a0.1 a0.2.1 a0.2.2 a2.1 a2.2)) else (laws_FnTexts.j0 k a1.2 true a1.1 a3.1 a3.2 a0.1 a0.2.1 a0.2.2 a2.1 a2.2))) else (laws_FnTexts.j0 k a1.2 true a1.1 a3.1 a3.2 a0.1 a0.2.1 a0.2.2 a2.1 a2.2))))))))
def laws_FnTexts.T7 : Bool × List (List Nat × List Nat) := (true, [([], []), ([0], [0]), ([], []), ([], []), ([2, 3], [2, 3]), ([4], [4]), ([1, 5], [1, 5]), ([6, 4], [6]), ([7], [7]), ([8, 7], [7, 8]), ([7], [7]), ([7], [7]), ([10, 11, 7, 7], [7, 10, 11]), ([9, 12, 7], [7, 9, 12]), ([7, 13], [7, 13]), ([14, 12], [14]), ([15], [15]), ([15], [15]), ([16, 17, 15, 15], [15, 16, 17]), ([15], [15]), ([19, 15], [15, 19]), ([18, 20, 15], [15, 18, 20]), ([15, 21], [15, 21])])
def laws_FnTexts.B7 : List Nat := [0, 1, 0, 0, 12, 28, 63, 127, 255, 511, 255, 255, 3327, 8191, 16383, 32767, 65535, 65535, 262143, 65535, 589823, 2097151, 4194303]
theorem laws_FnTexts.tab7 : rtab .any (opsOf Tryz.f4 7) = laws_FnTexts.T7 := by kernel_rfl
theorem laws_FnTexts.bits7 : waitsOk laws_FnTexts.T7.2 laws_FnTexts.B7 = true := by kernel_rfl
def laws_FnTexts.T14 : Bool × List (List Nat × List Nat) := (true, [([], []), ([], []), ([], []), ([2], [2]), ([1, 3], [1, 3]), ([4], [4]), ([0, 5, 4], [0, 5]), ([], []), ([7, 6, 6, 0, 1, 2, 3, 4, 5, 6, 7], [6, 7])])
def laws_FnTexts.B14 : List Nat := [0, 0, 0, 4, 14, 30, 63, 0, 255]
theorem laws_FnTexts.tab14 : rtab .any (opsOf Tryz.f4 14) = laws_FnTexts.T14 := by kernel_rfl
theorem laws_FnTexts.bits14 : waitsOk laws_FnTexts.T14.2 laws_FnTexts.B14 = true := by kernel_rfl
set_option maxHeartbeats 8000000 in
set_option maxRecDepth 100000 in
theorem laws_FnTexts.calls (k : Nat) (A0 : Option Addr) (c0 : Nat) (l0 : List Int) (r : Bool) (w : World) (S1 : Kd.C (Kd.int .u8) w A0 l0.length l0) (L8 : l0.length ≤ c0) (h : laws_FnTexts.f k l0 = some r) (A1 : r = true := by rfl) (hM : CutVar w := by first | assumption | exact CutVar.below (by assumption) (by repeat (first | (with_reducible first | exact HB.out | apply below_alloc | apply pw_below_drewN | apply below_drew1 | refine below_set ?_ (Aside0.out ‹Aside0 (_ ≤ _)›)) | exact HB.out))) :
  Calls Tryz.prog 4 #[.slice A0 l0.length c0] w fun e w' => e = .returned (.bool r) ∧ Below w.heap.size w w' := by
 have U0 := Tryz.underlying26
 have U3 := Tryz.underlying37
 have U1 := Tryz.underlying29
 have U4 := Tryz.underlying46
 have U2 := Tryz.underlying33
 have D6 : ∀ (F4 F5 : Value) (w_ : World), (Instr.field 37 (.agg #[F4, F5]) 0).run Tryz.prog w_ = .ok (F4) w_ := fun _ _ _ => by kernel_rfl
 have D7 : ∀ (F4 F5 : Value) (w_ : World), (Instr.field 46 (.agg #[F4, F5]) 1).run Tryz.prog w_ = .ok (F5) w_ := fun _ _ _ => by kernel_rfl
 have G0 := am S1
 have F8 := am L8
 clear S1 L8
 have HB := am (Below.refl w.heap.size w)
 have H : ((laws_lwBig.f l0).bind fun o9 => (if o9 = true then (some true) else ((spec_DrawReadTerm.f k l0).bind fun i7 => ((impl_ReadTerm.f k i7.1 i7.2).bind fun k2 => ((spec_DrawEquationText.f k l0).bind fun h8 => ((impl_EquationText.f k h8.1 h8.2.1 h8.2.2).bind fun k1 => ((spec_ReadTerm.f k i7.1 i7.2).bind fun t4 => (if k2.1 = t4.1 then ((spec_EquationFault.f k h8.1 h8.2.1 h8.2.2).bind fun o7 => (if k1.1 = o7 then ((impl_EquationFault.f k h8.1 h8.2.1 h8.2.2).bind fun p1 => (laws_FnTexts.j0 k i7.2 (p1 != k1.1) i7.1 k2.1 k2.2 h8.1 h8.2.1 h8.2.2 k1.1 k1.2)) else (laws_FnTexts.j0 k i7.2 true i7.1 k2.1 k2.2 h8.1 h8.2.1 h8.2.2 k1.1 k1.2))) else (laws_FnTexts.j0 k i7.2 true i7.1 k2.1 k2.2 h8.1 h8.2.1 h8.2.2 k1.1 k1.2))))))))) = some r := h
 clear h
 obtain ⟨o9, A2, H⟩ := ob H
 try dsimp only at H
 have L5 := am H
 clear H
 go_enter Tryz.func4, Tryz.ntmps4
 go_upto_if 12 with (first | (refine gl (some 12) Tryz.func5 rfl #[.slice A0 l0.length c0] ?_; refine (laws_lwBig.calls _ _ l0 o9 _ (cq G0.out) F8.out A2.out).mono ?_; rintro e w' ⟨rfl, ⟨nd, rfl⟩⟩; refine ⟨_, rfl, ?_⟩))
 have H := L5.out
 clear L5
 by_cases c4 : o9 = true
 ·subst c4
  rw [if_pos rfl] at H
  obtain rfl := Option.some.inj H
  go_wp2
  go_ret
  exact ⟨er, hq HB.out⟩
 ·replace c4 := Bool.eq_false_iff.mpr c4
  subst c4
  rw [if_neg (show ¬ (false = true) by decide)] at H
  obtain ⟨⟨e1, k3⟩, A5, H⟩ := ob H
  try dsimp only at H
  obtain ⟨⟨i0, d2⟩, A6, H⟩ := ob H
  try dsimp only at H
  obtain ⟨⟨b6, a8, b4⟩, A7, H⟩ := ob H
  try dsimp only at H
  obtain ⟨⟨b5, b7⟩, A8, H⟩ := ob H
  try dsimp only at H
  have F9 := am H
  clear H
  go_upto_region 7 with (first | (refine gl (some 15) Tryz.func14 rfl #[.slice A0 l0.length c0] ?_; refine (spec_DrawReadTerm.calls k _ _ l0 e1 k3 _ (cq (Kd.C_below G0.out HB.out)) F8.out A5.out).mono ?_; rintro e V8 ⟨U7, rfl, h6, hb⟩; refine ⟨_, rfl, ?_⟩; have a7 := am (Kd.R_lower h6 (below_size (hq HB.out))); replace HB := sb HB hb; clear hb h6; (try clear hk)) | (refine bx 3 rfl #[.slice none 0 0] 26 ?_; intro h9 hg V9 hbox hb; replace a7 := rb a7 hb; have a4 := am (hbox); have s8 := am (bz hg (hq HB.out)); replace HB := sb HB hb; have K9 := s8; clear hb hbox hg; obtain ⟨g3, g2, rfl⟩ := Kd.R_slice a7.out; have C0 := c0_ a4; have D8 := blk_frozen a4.out 0) | (refine gl (some 20) Tryz.func15 rfl #[.agg #[.slice g3 e1.length g2], .string k3] ?_; (with_reducible refine (impl_ReadTerm.calls k _ _ e1 k3 i0 d2 _ ?side1 ?side2 A6.out).mono ?_); (case side1 => refine (Kd.R_reads' (e := 90) (base := w.heap.size) (ok := fun k_ => True) (n := e1.length) (c := g2) ?_).2.2; exact (rq ((Kd.R_mono (Kd.R_far (p := ⟨h9, 0, none⟩) (Kd.R_types a7.out a4.out (by decide)) (fun _ hk => hk.2) (.slice g3 e1.length g2)) (fun _ h_ => h_.1))))); (case side2 => exact (Kd.R_reads' a7.out).2.1); rintro e W0 ⟨U8, rfl, h6, hb⟩; refine ⟨_, rfl, ?_⟩; replace a7 := am (Kd.R_below (rq ((Kd.R_mono (Kd.R_far (p := ⟨h9, 0, none⟩) (Kd.R_types a7.out a4.out (by decide)) (fun _ hk => hk.2) (.slice g3 e1.length g2)) (fun _ h_ => h_.1)))) hb); have b3 := am (Kd.R_lower h6 (below_size (hs HB.out))); replace a4 := am (blk_below (g := h9) (o := .cells #[.slice g3 e1.length g2] 26 (0, 0)) (by refine bq ?_; refine blk_put (cs := #[.slice none 0 0]) ?_ 0 _ rfl; refine bq ?_; exact a4.out) hb); replace HB := sb HB hb; clear hb h6; (try clear hk)) | (refine bx 5 rfl #[.int .i64 0, .slice none 0 0] 37 ?_; intro e8 hg W1 hbox hb; replace a7 := rb a7 hb; replace b3 := rb b3 hb; have a1 := am (hbox); have s9 := am (bz hg (hs HB.out)); replace HB := sb HB hb; have L0 := s9; have s0 := nl hg a4; have j5 := ng hg a4; replace a4 := bb a4 hb; clear hb hbox hg; obtain ⟨L9, P0⟩ := nn j5; have C1 := c0_ a1; have C2 := c1_ a1; have D9 := blk_frozen a1.out 0; have E0 := blk_frozen a1.out 1; obtain ⟨d9, e0, rfl⟩ := Kd.R_slice b3.out) | (refine gl (some 23) Tryz.func16 rfl #[.slice A0 l0.length c0] ?_; refine (spec_DrawEquationText.calls k _ _ l0 b6 a8 b4 _ (Kd.C_below G0.out (hs HB.out)) F8.out A7.out).mono ?_; rintro e W2 ⟨U9, V0, V1, rfl, h6, o8, K1, hb⟩; refine ⟨_, rfl, ?_⟩; have b0 := am (Kd.R_lower (Kd.R_new' h6 (Kd.R_lt (rq ((Kd.R_mono (Kd.R_far (p := ⟨e8, 1, none⟩) (Kd.R_far (p := ⟨e8, 0, none⟩) (Kd.R_types a7.out a1.out (by decide)) (fun _ hk => hk.2) (.int .i64 i0)) (fun _ hk => hk.2) (.slice d9 d2.length e0)) (fun _ h_ => h_.1)))))) (below_size (hs HB.out))); replace a7 := am (Kd.R_elder' (rq ((Kd.R_mono (Kd.R_far (p := ⟨e8, 1, none⟩) (Kd.R_far (p := ⟨e8, 0, none⟩) (Kd.R_types a7.out a1.out (by decide)) (fun _ hk => hk.2) (.int .i64 i0)) (fun _ hk => hk.2) (.slice d9 d2.length e0)) (fun _ h_ => h_.1)))) (Kd.R_base h6) hb); have b1 := am (Kd.R_lower (Kd.R_new' o8 (Kd.R_lt (rq ((Kd.R_mono (Kd.R_far (p := ⟨e8, 1, none⟩) (Kd.R_far (p := ⟨e8, 0, none⟩) (Kd.R_types b3.out a1.out (by decide)) (fun _ hk => hk.2) (.int .i64 i0)) (fun _ hk => hk.2) (.slice d9 d2.length e0)) (fun _ h_ => h_.1)))))) (below_size (hs HB.out))); have b2 := am (Kd.R_lower (Kd.R_new' K1 (Kd.R_lt (rq ((Kd.R_mono (Kd.R_far (p := ⟨e8, 1, none⟩) (Kd.R_far (p := ⟨e8, 0, none⟩) (Kd.R_types b3.out a1.out (by decide)) (fun _ hk => hk.2) (.int .i64 i0)) (fun _ hk => hk.2) (.slice d9 d2.length e0)) (fun _ h_ => h_.1)))))) (below_size (hs HB.out))); replace b3 := am (Kd.R_mono (Kd.R_told (Kd.R_told (Kd.R_old (rq ((Kd.R_mono (Kd.R_far (p := ⟨e8, 1, none⟩) (Kd.R_far (p := ⟨e8, 0, none⟩) (Kd.R_types b3.out a1.out (by decide)) (fun _ hk => hk.2) (.int .i64 i0)) (fun _ hk => hk.2) (.slice d9 d2.length e0)) (fun _ h_ => h_.1)))) hb) (Kd.R_base o8)) (Kd.R_base K1)) (fun _ h_ => h_.1)); replace a4 := am (blk_below (g := h9) (o := .cells #[.slice g3 e1.length g2] 26 (0, 0)) (bf a4.out) hb); replace a1 := am (blk_below (g := e8) (o := .cells #[.int .i64 i0, .slice d9 d2.length e0] 37 (0, 0)) (by refine bq ?_; refine blk_put (cs := #[.int .i64 i0, .slice none 0 0]) ?_ 1 _ rfl; refine bq ?_; refine blk_put (cs := #[.int .i64 0, .slice none 0 0]) ?_ 0 _ rfl; refine bq ?_; exact a1.out) hb); replace HB := sb HB hb; clear hb h6 o8 K1; (try clear hk)) | (refine bx 6 rfl #[.slice none 0 0] 26 ?_; intro g9 hg W3 hbox hb; replace a7 := rb a7 hb; replace b3 := rb b3 hb; replace b0 := rb b0 hb; replace b1 := rb b1 hb; replace b2 := rb b2 hb; have a3 := am (hbox); have t0 := am (bz hg (hs HB.out)); replace HB := sb HB hb; have L1 := t0; have n7 := nl hg a4; have l6 := ng hg a4; replace a4 := bb a4 hb; have k9 := nl hg a1; have l7 := ng hg a1; replace a1 := bb a1 hb; clear hb hbox hg) | (refine bx 7 rfl #[.slice none 0 0, .slice none 0 0] 29 ?_; intro d8 hg W4 hbox hb; replace a7 := rb a7 hb; replace b3 := rb b3 hb; replace b0 := rb b0 hb; replace b1 := rb b1 hb; replace b2 := rb b2 hb; have a0 := am (hbox); have t1 := am (bz hg (hs HB.out)); replace HB := sb HB hb; have L2 := t1; have n8 := nl hg a4; have l8 := ng hg a4; replace a4 := bb a4 hb; have l4 := nl hg a1; have l9 := ng hg a1; replace a1 := bb a1 hb; have i6 := nl hg a3; have o0 := ng hg a3; replace a3 := bb a3 hb; clear hb hbox hg; obtain ⟨e6, e5, rfl⟩ := Kd.R_slice b0.out; obtain ⟨M0, P1⟩ := nn l6; obtain ⟨M1, P2⟩ := nn l7; obtain ⟨M2, P3⟩ := nn i6; have C3 := c0_ a3; have E1 := blk_frozen a3.out 0; obtain ⟨d3, d1, rfl⟩ := Kd.R_slice b1.out; obtain ⟨M3, P4⟩ := nn l8; obtain ⟨M4, P5⟩ := nn l9; have C4 := c0_ a0; have C5 := c1_ a0; have E2 := blk_frozen a0.out 0; have E3 := blk_frozen a0.out 1; obtain ⟨d5, d4, rfl⟩ := Kd.R_slice b2.out) | (refine gl (some 28) Tryz.func17 rfl #[.agg #[.slice e6 b6.length e5], .agg #[.slice d3 a8.length d1, .slice d5 b4.length d4]] ?_; (with_reducible refine (impl_EquationText.calls k _ _ b6 _ _ a8 _ _ b4 b5 b7 _ ?side1 ?side2 ?side3 ?side4 ?side5 ?side6 A8.out).mono ?_); (case side1 => refine (Kd.R_reads' (e := 90) (base := w.heap.size) (ok := fun k_ => (True ∧ some k_ ≠ (.slice g3 e1.length g2 : Value).ownBlock)) (n := b6.length) (c := e5) ?_).2.2; exact (rq ((Kd.R_mono (Kd.R_mono (Kd.R_far (p := ⟨d8, 1, none⟩) (Kd.R_far (p := ⟨d8, 0, none⟩) (Kd.R_far (p := ⟨g9, 0, none⟩) (Kd.R_types (Kd.R_types b0.out a3.out (by decide)) a0.out (by decide)) (fun _ hk => hk.1.2) (.slice e6 b6.length e5)) (fun _ hk => hk.2) (.slice d3 a8.length d1)) (fun _ hk => hk.2) (.slice d5 b4.length d4)) (fun _ h_ => h_.1)) (fun _ h_ => h_.1))))); (case side2 => exact (Kd.R_reads' b0.out).2.1); (case side3 => refine (Kd.R_reads' (e := 2) (base := w.heap.size) (ok := fun k_ => (some k_ ≠ (.slice d5 b4.length d4 : Value).ownBlock ∧ some k_ ≠ (.slice d9 d2.length e0 : Value).ownBlock)) (n := a8.length) (c := d1) ?_).2.2; exact (rq ((Kd.R_mono (Kd.R_mono (Kd.R_far (p := ⟨d8, 1, none⟩) (Kd.R_far (p := ⟨d8, 0, none⟩) (Kd.R_far (p := ⟨g9, 0, none⟩) (Kd.R_types (Kd.R_types b1.out a3.out (by decide)) a0.out (by decide)) (fun _ hk => hk.1.2) (.slice e6 b6.length e5)) (fun _ hk => hk.2) (.slice d3 a8.length d1)) (fun _ hk => hk.2) (.slice d5 b4.length d4)) (fun _ h_ => h_.1)) (fun _ h_ => h_.1))))); (case side4 => exact (Kd.R_reads' b1.out).2.1); (case side5 => refine (Kd.R_reads' (e := 2) (base := w.heap.size) (ok := fun k_ => (some k_ ≠ (.slice d3 a8.length d1 : Value).ownBlock ∧ some k_ ≠ (.slice d9 d2.length e0 : Value).ownBlock)) (n := b4.length) (c := d4) ?_).2.2; exact (rq ((Kd.R_mono (Kd.R_mono (Kd.R_far (p := ⟨d8, 1, none⟩) (Kd.R_far (p := ⟨d8, 0, none⟩) (Kd.R_far (p := ⟨g9, 0, none⟩) (Kd.R_types (Kd.R_types b2.out a3.out (by decide)) a0.out (by decide)) (fun _ hk => hk.1.2) (.slice e6 b6.length e5)) (fun _ hk => hk.2) (.slice d3 a8.length d1)) (fun _ hk => hk.2) (.slice d5 b4.length d4)) (fun _ h_ => h_.1)) (fun _ h_ => h_.1))))); (case side6 => exact (Kd.R_reads' b2.out).2.1); rintro e W5 ⟨rfl, hb⟩; refine ⟨_, rfl, ?_⟩; replace a7 := am (Kd.R_below (rq ((Kd.R_mono (Kd.R_mono (Kd.R_far (p := ⟨d8, 1, none⟩) (Kd.R_far (p := ⟨d8, 0, none⟩) (Kd.R_far (p := ⟨g9, 0, none⟩) (Kd.R_types (Kd.R_types a7.out a3.out (by decide)) a0.out (by decide)) (fun _ hk => hk.1.2) (.slice e6 b6.length e5)) (fun _ hk => hk.2) (.slice d3 a8.length d1)) (fun _ hk => hk.2) (.slice d5 b4.length d4)) (fun _ h_ => h_.1)) (fun _ h_ => h_.1)))) hb); replace b3 := am (Kd.R_below (rq ((Kd.R_mono (Kd.R_mono (Kd.R_far (p := ⟨d8, 1, none⟩) (Kd.R_far (p := ⟨d8, 0, none⟩) (Kd.R_far (p := ⟨g9, 0, none⟩) (Kd.R_types (Kd.R_types b3.out a3.out (by decide)) a0.out (by decide)) (fun _ hk => hk.1.2) (.slice e6 b6.length e5)) (fun _ hk => hk.2) (.slice d3 a8.length d1)) (fun _ hk => hk.2) (.slice d5 b4.length d4)) (fun _ h_ => h_.1)) (fun _ h_ => h_.1)))) hb); replace b0 := am (Kd.R_below (rq ((Kd.R_mono (Kd.R_mono (Kd.R_far (p := ⟨d8, 1, none⟩) (Kd.R_far (p := ⟨d8, 0, none⟩) (Kd.R_far (p := ⟨g9, 0, none⟩) (Kd.R_types (Kd.R_types b0.out a3.out (by decide)) a0.out (by decide)) (fun _ hk => hk.1.2) (.slice e6 b6.length e5)) (fun _ hk => hk.2) (.slice d3 a8.length d1)) (fun _ hk => hk.2) (.slice d5 b4.length d4)) (fun _ h_ => h_.1)) (fun _ h_ => h_.1)))) hb); replace b1 := am (Kd.R_below (rq ((Kd.R_mono (Kd.R_mono (Kd.R_far (p := ⟨d8, 1, none⟩) (Kd.R_far (p := ⟨d8, 0, none⟩) (Kd.R_far (p := ⟨g9, 0, none⟩) (Kd.R_types (Kd.R_types b1.out a3.out (by decide)) a0.out (by decide)) (fun _ hk => hk.1.2) (.slice e6 b6.length e5)) (fun _ hk => hk.2) (.slice d3 a8.length d1)) (fun _ hk => hk.2) (.slice d5 b4.length d4)) (fun _ h_ => h_.1)) (fun _ h_ => h_.1)))) hb); replace b2 := am (Kd.R_below (rq ((Kd.R_mono (Kd.R_mono (Kd.R_far (p := ⟨d8, 1, none⟩) (Kd.R_far (p := ⟨d8, 0, none⟩) (Kd.R_far (p := ⟨g9, 0, none⟩) (Kd.R_types (Kd.R_types b2.out a3.out (by decide)) a0.out (by decide)) (fun _ hk => hk.1.2) (.slice e6 b6.length e5)) (fun _ hk => hk.2) (.slice d3 a8.length d1)) (fun _ hk => hk.2) (.slice d5 b4.length d4)) (fun _ h_ => h_.1)) (fun _ h_ => h_.1)))) hb); replace a4 := am (blk_below (g := h9) (o := .cells #[.slice g3 e1.length g2] 26 (0, 0)) (bf a4.out) hb); replace a1 := am (blk_below (g := e8) (o := .cells #[.int .i64 i0, .slice d9 d2.length e0] 37 (0, 0)) (bf a1.out) hb); replace a3 := am (blk_below (g := g9) (o := .cells #[.slice e6 b6.length e5] 26 (0, 0)) (by refine bq ?_; refine blk_far ?_ i6.out _; refine bq ?_; refine blk_far ?_ i6.out _; refine bq ?_; refine blk_put (cs := #[.slice none 0 0]) ?_ 0 _ rfl; refine bq ?_; exact a3.out) hb); replace a0 := am (blk_below (g := d8) (o := .cells #[.slice d3 a8.length d1, .slice d5 b4.length d4] 29 (0, 0)) (by refine bq ?_; refine blk_put (cs := #[.slice d3 a8.length d1, .slice none 0 0]) ?_ 1 _ rfl; refine bq ?_; refine blk_put (cs := #[.slice none 0 0, .slice none 0 0]) ?_ 0 _ rfl; refine bq ?_; refine blk_far ?_ o0.out _; refine bq ?_; exact a0.out) hb); replace HB := sb HB hb; clear hb; (try clear hk)) | (refine bx 8 rfl #[.int .i64 0, .string (⟨#[]⟩ : ByteArray)] 46 ?_; intro a5 hg i2 hbox hb; replace a7 := rb a7 hb; replace b3 := rb b3 hb; replace b0 := rb b0 hb; replace b1 := rb b1 hb; replace b2 := rb b2 hb; have a2 := am (hbox); have t2 := am (bz hg (hs HB.out)); replace HB := sb HB hb; have L3 := t2; have n9 := nl hg a4; have j6 := ng hg a4; replace a4 := bb a4 hb; have l5 := nl hg a1; have j7 := ng hg a1; replace a1 := bb a1 hb; have s3 := nl hg a3; have j8 := ng hg a3; replace a3 := bb a3 hb; have s5 := nl hg a0; have j9 := ng hg a0; replace a0 := bb a0 hb; clear hb hbox hg; obtain ⟨M5, P6⟩ := nn j6; obtain ⟨M6, P7⟩ := nn j7; obtain ⟨M7, P8⟩ := nn j8; obtain ⟨M8, P9⟩ := nn j9; have C6 := c0_ a2; have C7 := c1_ a2; have E4 := blk_frozen a2.out 0; have E5 := blk_frozen a2.out 1))
  (try simp only [Act.put, lsp])
  go_cut [51] (fun U5 wc => ∃ (kq : Nat) (n6 : Bool), U5 = .bool n6 ∧ Aside0 (laws_FnTexts.j0 kq k3 n6 e1 i0 d2 b6 a8 b4 b5 b7 = some r) ∧ Aside0 (kq ≤ k) ∧ Aside0 (Kd.R k90 90 wc w.heap.size (fun k_ => some k_ ≠ ((.slice e6 b6.length e5) : Value).ownBlock) (.slice g3 e1.length g2) e1) ∧ Aside0 (Kd.R (Kd.int .i64) 2 wc w.heap.size (fun k_ => some k_ ≠ ((.slice d3 a8.length d1) : Value).ownBlock ∧ some k_ ≠ ((.slice d5 b4.length d4) : Value).ownBlock) (.slice d9 d2.length e0) d2) ∧ Aside0 (Kd.R k90 90 wc w.heap.size (fun k_ => some k_ ≠ ((.slice g3 e1.length g2) : Value).ownBlock) (.slice e6 b6.length e5) b6) ∧ Aside0 (Kd.R (Kd.int .i64) 2 wc w.heap.size (fun k_ => some k_ ≠ ((.slice d9 d2.length e0) : Value).ownBlock ∧ some k_ ≠ ((.slice d5 b4.length d4) : Value).ownBlock) (.slice d3 a8.length d1) a8) ∧ Aside0 (Kd.R (Kd.int .i64) 2 wc w.heap.size (fun k_ => some k_ ≠ ((.slice d9 d2.length e0) : Value).ownBlock ∧ some k_ ≠ ((.slice d3 a8.length d1) : Value).ownBlock) (.slice d5 b4.length d4) b4) ∧ Aside0 (wc.heap[h9]? = some (.cells #[(.slice g3 e1.length g2)] 26 (0, 0))) ∧ Aside0 (wc.heap[e8]? = some (.cells #[.int .i64 i0, (.slice d9 d2.length e0)] 37 (0, 0))) ∧ Aside0 (wc.heap[g9]? = some (.cells #[(.slice e6 b6.length e5)] 26 (0, 0))) ∧ Aside0 (wc.heap[d8]? = some (.cells #[(.slice d3 a8.length d1), (.slice d5 b4.length d4)] 29 (0, 0))) ∧ Aside0 (wc.heap[a5]? = some (.cells #[.int .i64 b5, .string b7] 46 (0, 0))) ∧ Aside0 (Below w.heap.size w wc))
  case first =>
   have H := F9.out
   clear F9
   obtain ⟨⟨p0, r7⟩, F6, H⟩ := ob H
   try dsimp only at H
   by_cases t5 : i0 = p0
   ·rw [if_pos t5] at H
    obtain ⟨m2, t6⟩ := bqt t5; clear t5
    (first | rw [m2] | (simp only [i64_w, i32_w]; rw [m2]) | skip)
    obtain ⟨o7, K7, H⟩ := ob H
    try dsimp only at H
    by_cases t7 : b5 = o7
    ·rw [if_pos t7] at H
     obtain ⟨t8, t9⟩ := bqt t7; clear t7
     obtain ⟨p1, S6, H⟩ := ob H
     try dsimp only at H
     have H' := am H
     clear H
     try go_wp2
     have m5 : Aside0 (Kd.R k90 90 ((i2.setCell ⟨a5, 0, none⟩ (.int .i64 b5)).setCell ⟨a5, 1, none⟩ (.string b7)) w.heap.size (fun k_ => some k_ ≠ (.slice e6 b6.length e5 : Value).ownBlock) (.slice g3 e1.length g2) e1) := ⟨rq (Kd.R_mono (Kd.R_far (p := ⟨a5, 1, none⟩) (Kd.R_far (p := ⟨a5, 0, none⟩) (Kd.R_types a7.out a2.out (by decide)) (fun _ hk => hk.2) (.int .i64 b5)) (fun _ hk => hk.2) (.string b7)) (fun _ hk => hk.1.2))⟩
     have m6 : Aside0 (Kd.R (Kd.int .i64) 2 ((i2.setCell ⟨a5, 0, none⟩ (.int .i64 b5)).setCell ⟨a5, 1, none⟩ (.string b7)) w.heap.size (fun k_ => some k_ ≠ (.slice d3 a8.length d1 : Value).ownBlock ∧ some k_ ≠ (.slice d5 b4.length d4 : Value).ownBlock) (.slice d9 d2.length e0) d2) := ⟨by (with_reducible repeat (first | apply Kd.R_alloc | apply Kd.R_drewN | apply Kd.R_drew)); exact Kd.R_mono (Kd.R_far (p := ⟨a5, 1, none⟩) (Kd.R_far (p := ⟨a5, 0, none⟩) (Kd.R_types b3.out a2.out (by decide)) (fun _ hk => hk.2) (.int .i64 b5)) (fun _ hk => hk.2) (.string b7)) (fun _ hk => by first | exact ⟨hk.1.1.2, hk.1.2⟩ | exact ⟨hk.1.2, hk.1.1.2⟩ | trivial)⟩
     have m7 : Aside0 (Kd.R k90 90 ((i2.setCell ⟨a5, 0, none⟩ (.int .i64 b5)).setCell ⟨a5, 1, none⟩ (.string b7)) w.heap.size (fun k_ => some k_ ≠ (.slice g3 e1.length g2 : Value).ownBlock) (.slice e6 b6.length e5) b6) := ⟨rq (Kd.R_mono (Kd.R_far (p := ⟨a5, 1, none⟩) (Kd.R_far (p := ⟨a5, 0, none⟩) (Kd.R_types b0.out a2.out (by decide)) (fun _ hk => hk.2) (.int .i64 b5)) (fun _ hk => hk.2) (.string b7)) (fun _ hk => hk.1.2))⟩
     have m8 : Aside0 (Kd.R (Kd.int .i64) 2 ((i2.setCell ⟨a5, 0, none⟩ (.int .i64 b5)).setCell ⟨a5, 1, none⟩ (.string b7)) w.heap.size (fun k_ => some k_ ≠ (.slice d9 d2.length e0 : Value).ownBlock ∧ some k_ ≠ (.slice d5 b4.length d4 : Value).ownBlock) (.slice d3 a8.length d1) a8) := ⟨by (with_reducible repeat (first | apply Kd.R_alloc | apply Kd.R_drewN | apply Kd.R_drew)); exact Kd.R_mono (Kd.R_far (p := ⟨a5, 1, none⟩) (Kd.R_far (p := ⟨a5, 0, none⟩) (Kd.R_types b1.out a2.out (by decide)) (fun _ hk => hk.2) (.int .i64 b5)) (fun _ hk => hk.2) (.string b7)) (fun _ hk => by first | exact ⟨hk.1.2, hk.1.1⟩ | exact ⟨hk.1.1, hk.1.2⟩ | trivial)⟩
     have m9 : Aside0 (Kd.R (Kd.int .i64) 2 ((i2.setCell ⟨a5, 0, none⟩ (.int .i64 b5)).setCell ⟨a5, 1, none⟩ (.string b7)) w.heap.size (fun k_ => some k_ ≠ (.slice d9 d2.length e0 : Value).ownBlock ∧ some k_ ≠ (.slice d3 a8.length d1 : Value).ownBlock) (.slice d5 b4.length d4) b4) := ⟨by (with_reducible repeat (first | apply Kd.R_alloc | apply Kd.R_drewN | apply Kd.R_drew)); exact Kd.R_mono (Kd.R_far (p := ⟨a5, 1, none⟩) (Kd.R_far (p := ⟨a5, 0, none⟩) (Kd.R_types b2.out a2.out (by decide)) (fun _ hk => hk.2) (.int .i64 b5)) (fun _ hk => hk.2) (.string b7)) (fun _ hk => by first | exact ⟨hk.1.2, hk.1.1⟩ | exact ⟨hk.1.1, hk.1.2⟩ | trivial)⟩
     have n0 : Aside0 (((i2.setCell ⟨a5, 0, none⟩ (.int .i64 b5)).setCell ⟨a5, 1, none⟩ (.string b7)).heap[h9]? = some (.cells #[.slice g3 e1.length g2] 26 (0, 0))) := ⟨bf a4.out⟩
     have n1 : Aside0 (((i2.setCell ⟨a5, 0, none⟩ (.int .i64 b5)).setCell ⟨a5, 1, none⟩ (.string b7)).heap[e8]? = some (.cells #[.int .i64 i0, .slice d9 d2.length e0] 37 (0, 0))) := ⟨bf a1.out⟩
     have n2 : Aside0 (((i2.setCell ⟨a5, 0, none⟩ (.int .i64 b5)).setCell ⟨a5, 1, none⟩ (.string b7)).heap[g9]? = some (.cells #[.slice e6 b6.length e5] 26 (0, 0))) := ⟨bf a3.out⟩
     have n3 : Aside0 (((i2.setCell ⟨a5, 0, none⟩ (.int .i64 b5)).setCell ⟨a5, 1, none⟩ (.string b7)).heap[d8]? = some (.cells #[.slice d3 a8.length d1, .slice d5 b4.length d4] 29 (0, 0))) := ⟨bf a0.out⟩
     have n4 : Aside0 (((i2.setCell ⟨a5, 0, none⟩ (.int .i64 b5)).setCell ⟨a5, 1, none⟩ (.string b7)).heap[a5]? = some (.cells #[.int .i64 b5, .string b7] 46 (0, 0))) := ⟨by refine bq ?_; refine blk_put (cs := #[.int .i64 b5, .string (⟨#[]⟩ : ByteArray)]) ?_ 1 _ rfl; refine bq ?_; refine blk_put (cs := #[.int .i64 0, .string (⟨#[]⟩ : ByteArray)]) ?_ 0 _ rfl; refine bq ?_; exact a2.out⟩
     have i9 : Aside0 (Below w.heap.size w ((i2.setCell ⟨a5, 0, none⟩ (.int .i64 b5)).setCell ⟨a5, 1, none⟩ (.string b7))) := ⟨hs HB.out⟩
     (try clear a7)
     (try clear b3)
     (try clear b0)
     (try clear b1)
     (try clear b2)
     (try clear a4)
     (try clear a1)
     (try clear a3)
     (try clear a0)
     (try clear a2)
     (try clear HB)
     generalize ((i2.setCell ⟨a5, 0, none⟩ (.int .i64 b5)).setCell ⟨a5, 1, none⟩ (.string b7)) = V5 at m5 m6 m7 m8 m9 n0 n1 n2 n3 n4 i9 ⊢
     have a7 := m5
     have b3 := m6
     have b0 := m7
     have b1 := m8
     have b2 := m9
     have a4 := n0
     have a1 := n1
     have a3 := n2
     have a0 := n3
     have a2 := n4
     have HB := i9
     clear m5 m6 m7 m8 m9 n0 n1 n2 n3 n4 i9
     replace a7 := am (Kd.R_drew a7.out)
     replace b3 := am (Kd.R_drew b3.out)
     replace b0 := am (Kd.R_drew b0.out)
     replace b1 := am (Kd.R_drew b1.out)
     replace b2 := am (Kd.R_drew b2.out)
     replace a4 := am (blk_drew a4.out)
     replace a1 := am (blk_drew a1.out)
     replace a3 := am (blk_drew a3.out)
     replace a0 := am (blk_drew a0.out)
     replace a2 := am (blk_drew a2.out)
     replace HB := am (below_drew1 HB.out)
     refine st_ (n := 23) (S := fun w' => w'.cell? ⟨e8, 0, none⟩ = some (.int .i64 i0) ∧ w'.cell? ⟨e8, 1, none⟩ = some (.slice d9 d2.length e0) ∧ w'.cell? ⟨h9, 0, none⟩ = some (.slice g3 e1.length g2) ∧ w'.cell? ⟨a5, 0, none⟩ = some (.int .i64 b5) ∧ w'.cell? ⟨a5, 1, none⟩ = some (.string b7) ∧ w'.cell? ⟨g9, 0, none⟩ = some (.slice e6 b6.length e5) ∧ w'.cell? ⟨d8, 0, none⟩ = some (.slice d3 a8.length d1) ∧ w'.cell? ⟨d8, 1, none⟩ = some (.slice d5 b4.length d4)) (ds := []) ⟨(blk_cell a1.out 0).trans rfl, (blk_cell a1.out 1).trans rfl, (blk_cell a4.out 0).trans rfl, (blk_cell a2.out 0).trans rfl, (blk_cell a2.out 1).trans rfl, (blk_cell a3.out 0).trans rfl, (blk_cell a0.out 0).trans rfl, (blk_cell a0.out 1).trans rfl⟩ (fun hHeld => ?_); refine with_tabW laws_FnTexts.tab7 laws_FnTexts.bits7 (fun e7 k4 => ?_)
     generalize V5.drew = W6 at a7 b3 b0 b1 b2 a4 a1 a3 a0 a2 HB hHeld ⊢
     refine pu 0 29 rfl rfl e7 ?_
     refine pu 3 32 rfl rfl e7 ?_
     refine tk 1 30 rfl rfl e7 k4 hHeld ?_
     refine tk 2 31 rfl rfl e7 k4 hHeld ?_
     refine on_ 4 (some 33) rfl rfl e7 (fun K hK => ?_)
     refine gs Tryz.func18 #[.agg #[.slice g3 e1.length g2], .string k3] ?_
     refine (spec_ReadTerm.calls k _ _ e1 k3 p0 r7 _ (cq (Kd.R_reads' a7.out).2.2) ((Kd.R_reads' a7.out).2.1) F6.out).mono ?_
     rintro e W7 ⟨A9, rfl, h6, hb⟩
     refine ⟨_, rfl, ?_⟩
     replace a7 := rb a7 hb
     replace b0 := rb b0 hb
     have k0 := am (Kd.R_lower (Kd.R_new' (Kd.R_new' (Kd.R_new' h6 (Kd.R_lt (rq b3.out))) (Kd.R_lt (rq b1.out))) (Kd.R_lt (rq b2.out))) (below_size (hs HB.out)))
     replace b3 := am (Kd.R_elder' (rq b3.out) (Kd.R_base h6) hb)
     replace b1 := am (Kd.R_elder' (rq b1.out) (Kd.R_base h6) hb)
     replace b2 := am (Kd.R_elder' (rq b2.out) (Kd.R_base h6) hb)
     replace a4 := bb a4 hb
     replace a1 := bb a1 hb
     replace a3 := bb a3 hb
     replace a0 := bb a0 hb
     replace a2 := bb a2 hb
     replace HB := sb HB hb
     (try clear hb)
     (try clear hk)
     (try clear h6)
     refine hK.out _ _ ⟨(blk_cell a1.out 0).trans rfl, (blk_cell a1.out 1).trans rfl, (blk_cell a4.out 0).trans rfl, (blk_cell a2.out 0).trans rfl, (blk_cell a2.out 1).trans rfl, (blk_cell a3.out 0).trans rfl, (blk_cell a0.out 0).trans rfl, (blk_cell a0.out 1).trans rfl⟩ (fun hHeld => ?_)
     clear hK K
     refine nr (some 33) ?_
     refine pu 5 34 rfl rfl e7 ?_
     refine pu 6 35 rfl rfl e7 ?_
     refine pu 7 36 rfl rfl e7 ?_
     refine pu 8 37 rfl rfl e7 ?_
     refine tk 9 38 rfl rfl e7 k4 hHeld ?_
     refine tk 10 39 rfl rfl e7 k4 hHeld ?_
     refine tk 11 40 rfl rfl e7 k4 hHeld ?_
     refine on_ 12 (some 41) rfl rfl e7 (fun K hK => ?_)
     refine gs Tryz.func19 #[.agg #[.slice e6 b6.length e5], .agg #[.slice d3 a8.length d1, .slice d5 b4.length d4]] ?_
     refine (spec_EquationFault.calls k _ _ b6 _ _ a8 _ _ b4 o7 _ (cq (Kd.R_reads' b0.out).2.2) ((Kd.R_reads' b0.out).2.1) (cq (Kd.R_reads' b1.out).2.2) ((Kd.R_reads' b1.out).2.1) (cq (Kd.R_reads' b2.out).2.2) ((Kd.R_reads' b2.out).2.1) K7.out).mono ?_
     rintro e W8 ⟨rfl, hb⟩
     refine ⟨_, rfl, ?_⟩
     replace a7 := rb a7 hb
     replace b3 := rb b3 hb
     replace b0 := rb b0 hb
     replace b1 := rb b1 hb
     replace b2 := rb b2 hb
     replace k0 := rb k0 hb
     replace a4 := bb a4 hb
     replace a1 := bb a1 hb
     replace a3 := bb a3 hb
     replace a0 := bb a0 hb
     replace a2 := bb a2 hb
     replace HB := sb HB hb
     (try clear hb)
     (try clear hk)
     refine hK.out _ _ ⟨(blk_cell a1.out 0).trans rfl, (blk_cell a1.out 1).trans rfl, (blk_cell a4.out 0).trans rfl, (blk_cell a2.out 0).trans rfl, (blk_cell a2.out 1).trans rfl, (blk_cell a3.out 0).trans rfl, (blk_cell a0.out 0).trans rfl, (blk_cell a0.out 1).trans rfl⟩ (fun hHeld => ?_)
     clear hK K
     refine nr (some 41) ?_
     refine pu 13 42 rfl rfl e7 ?_
     refine pu 14 43 rfl rfl e7 ?_
     refine pu 15 44 rfl rfl e7 ?_
     refine pu 19 48 rfl rfl e7 ?_
     refine tk 16 45 rfl rfl e7 k4 hHeld ?_
     refine tk 17 46 rfl rfl e7 k4 hHeld ?_
     refine tk 20 49 rfl rfl e7 k4 hHeld ?_
     refine on_ 18 (some 47) rfl rfl e7 (fun K hK => ?_)
     refine gs Tryz.func11 #[.agg #[.slice e6 b6.length e5], .agg #[.slice d3 a8.length d1, .slice d5 b4.length d4]] ?_
     refine (impl_EquationFault.calls k _ _ b6 (fun k_ => some k_ = (.slice d3 a8.length d1 : Value).ownBlock) _ _ a8 (fun k_ => some k_ = (.slice d5 b4.length d4 : Value).ownBlock) _ _ b4 p1 _ (cq (Kd.R_reads' b0.out).2.2) ((Kd.R_reads' b0.out).2.1) (Kd.R_V (Kd.R_tight rfl (Kd.R_types (Kd.R_types (Kd.R_types (Kd.R_types (Kd.R_types (Kd.R_apart' (Kd.R_apart' (b1.out) (Kd.R_typed a7.out) (by decide)) (Kd.R_typed b0.out) (by decide)) a4.out (by decide)) a1.out (by decide)) a3.out (by decide)) a0.out (by decide)) a2.out (by decide)))) (Kd.R_V (Kd.R_tight rfl (Kd.R_types (Kd.R_types (Kd.R_types (Kd.R_types (Kd.R_types (Kd.R_apart' (Kd.R_apart' (b2.out) (Kd.R_typed a7.out) (by decide)) (Kd.R_typed b0.out) (by decide)) a4.out (by decide)) a1.out (by decide)) a3.out (by decide)) a0.out (by decide)) a2.out (by decide)))) S6.out).mono ?_
     rintro e W9 ⟨rfl, hb⟩
     refine ⟨_, rfl, ?_⟩
     replace a7 := rb a7 hb
     replace b3 := rb b3 hb
     replace b0 := rb b0 hb
     replace b1 := rb b1 hb
     replace b2 := rb b2 hb
     replace k0 := rb k0 hb
     replace a4 := bb a4 hb
     replace a1 := bb a1 hb
     replace a3 := bb a3 hb
     replace a0 := bb a0 hb
     replace a2 := bb a2 hb
     replace HB := sb HB hb
     (try clear hb)
     (try clear hk)
     refine hK.out _ _ ⟨(blk_cell a1.out 0).trans rfl, (blk_cell a1.out 1).trans rfl, (blk_cell a4.out 0).trans rfl, (blk_cell a2.out 0).trans rfl, (blk_cell a2.out 1).trans rfl, (blk_cell a3.out 0).trans rfl, (blk_cell a0.out 0).trans rfl, (blk_cell a0.out 1).trans rfl⟩ (fun hHeld => ?_)
     clear hK K
     refine nr (some 47) ?_
     refine pu 21 50 rfl rfl e7 ?_
     refine pu 22 51 rfl rfl e7 ?_
     refine done_ (done_of e7.out (by kernel_rfl)) ?_
     try go_wp2
     go_meet
     case rel => exact ⟨_, ((p1 != b5)), et, H', lo, ⟨rq a7.out⟩, ⟨by (with_reducible repeat (first | apply Kd.R_alloc | apply Kd.R_drewN | apply Kd.R_drew)); exact Kd.R_mono b3.out (fun _ hk => by first | exact ⟨hk.1.1, hk.1.2⟩ | exact ⟨hk.1.2, hk.1.1⟩ | trivial)⟩, ⟨rq b0.out⟩, ⟨by (with_reducible repeat (first | apply Kd.R_alloc | apply Kd.R_drewN | apply Kd.R_drew)); exact Kd.R_mono b1.out (fun _ hk => by first | exact ⟨hk.1.1, hk.1.2⟩ | exact ⟨hk.1.2, hk.1.1⟩ | trivial)⟩, ⟨by (with_reducible repeat (first | apply Kd.R_alloc | apply Kd.R_drewN | apply Kd.R_drew)); exact Kd.R_mono b2.out (fun _ hk => by first | exact ⟨hk.1.1, hk.1.2⟩ | exact ⟨hk.1.2, hk.1.1⟩ | trivial)⟩, ⟨bq a4.out⟩, ⟨bq a1.out⟩, ⟨bq a3.out⟩, ⟨bq a0.out⟩, ⟨bq a2.out⟩, ⟨hs HB.out⟩⟩
    ·rw [if_neg t7] at H
     obtain ⟨t8, t9⟩ := bqf t7
     have H' := am H
     clear H
     try go_wp2
     have m5 : Aside0 (Kd.R k90 90 ((i2.setCell ⟨a5, 0, none⟩ (.int .i64 b5)).setCell ⟨a5, 1, none⟩ (.string b7)) w.heap.size (fun k_ => some k_ ≠ (.slice e6 b6.length e5 : Value).ownBlock) (.slice g3 e1.length g2) e1) := ⟨rq (Kd.R_mono (Kd.R_far (p := ⟨a5, 1, none⟩) (Kd.R_far (p := ⟨a5, 0, none⟩) (Kd.R_types a7.out a2.out (by decide)) (fun _ hk => hk.2) (.int .i64 b5)) (fun _ hk => hk.2) (.string b7)) (fun _ hk => hk.1.2))⟩
     have m6 : Aside0 (Kd.R (Kd.int .i64) 2 ((i2.setCell ⟨a5, 0, none⟩ (.int .i64 b5)).setCell ⟨a5, 1, none⟩ (.string b7)) w.heap.size (fun k_ => some k_ ≠ (.slice d3 a8.length d1 : Value).ownBlock ∧ some k_ ≠ (.slice d5 b4.length d4 : Value).ownBlock) (.slice d9 d2.length e0) d2) := ⟨by (with_reducible repeat (first | apply Kd.R_alloc | apply Kd.R_drewN | apply Kd.R_drew)); exact Kd.R_mono (Kd.R_far (p := ⟨a5, 1, none⟩) (Kd.R_far (p := ⟨a5, 0, none⟩) (Kd.R_types b3.out a2.out (by decide)) (fun _ hk => hk.2) (.int .i64 b5)) (fun _ hk => hk.2) (.string b7)) (fun _ hk => by first | exact ⟨hk.1.1.2, hk.1.2⟩ | exact ⟨hk.1.2, hk.1.1.2⟩ | trivial)⟩
     have m7 : Aside0 (Kd.R k90 90 ((i2.setCell ⟨a5, 0, none⟩ (.int .i64 b5)).setCell ⟨a5, 1, none⟩ (.string b7)) w.heap.size (fun k_ => some k_ ≠ (.slice g3 e1.length g2 : Value).ownBlock) (.slice e6 b6.length e5) b6) := ⟨rq (Kd.R_mono (Kd.R_far (p := ⟨a5, 1, none⟩) (Kd.R_far (p := ⟨a5, 0, none⟩) (Kd.R_types b0.out a2.out (by decide)) (fun _ hk => hk.2) (.int .i64 b5)) (fun _ hk => hk.2) (.string b7)) (fun _ hk => hk.1.2))⟩
     have m8 : Aside0 (Kd.R (Kd.int .i64) 2 ((i2.setCell ⟨a5, 0, none⟩ (.int .i64 b5)).setCell ⟨a5, 1, none⟩ (.string b7)) w.heap.size (fun k_ => some k_ ≠ (.slice d9 d2.length e0 : Value).ownBlock ∧ some k_ ≠ (.slice d5 b4.length d4 : Value).ownBlock) (.slice d3 a8.length d1) a8) := ⟨by (with_reducible repeat (first | apply Kd.R_alloc | apply Kd.R_drewN | apply Kd.R_drew)); exact Kd.R_mono (Kd.R_far (p := ⟨a5, 1, none⟩) (Kd.R_far (p := ⟨a5, 0, none⟩) (Kd.R_types b1.out a2.out (by decide)) (fun _ hk => hk.2) (.int .i64 b5)) (fun _ hk => hk.2) (.string b7)) (fun _ hk => by first | exact ⟨hk.1.2, hk.1.1⟩ | exact ⟨hk.1.1, hk.1.2⟩ | trivial)⟩
     have m9 : Aside0 (Kd.R (Kd.int .i64) 2 ((i2.setCell ⟨a5, 0, none⟩ (.int .i64 b5)).setCell ⟨a5, 1, none⟩ (.string b7)) w.heap.size (fun k_ => some k_ ≠ (.slice d9 d2.length e0 : Value).ownBlock ∧ some k_ ≠ (.slice d3 a8.length d1 : Value).ownBlock) (.slice d5 b4.length d4) b4) := ⟨by (with_reducible repeat (first | apply Kd.R_alloc | apply Kd.R_drewN | apply Kd.R_drew)); exact Kd.R_mono (Kd.R_far (p := ⟨a5, 1, none⟩) (Kd.R_far (p := ⟨a5, 0, none⟩) (Kd.R_types b2.out a2.out (by decide)) (fun _ hk => hk.2) (.int .i64 b5)) (fun _ hk => hk.2) (.string b7)) (fun _ hk => by first | exact ⟨hk.1.2, hk.1.1⟩ | exact ⟨hk.1.1, hk.1.2⟩ | trivial)⟩
     have n0 : Aside0 (((i2.setCell ⟨a5, 0, none⟩ (.int .i64 b5)).setCell ⟨a5, 1, none⟩ (.string b7)).heap[h9]? = some (.cells #[.slice g3 e1.length g2] 26 (0, 0))) := ⟨bf a4.out⟩
     have n1 : Aside0 (((i2.setCell ⟨a5, 0, none⟩ (.int .i64 b5)).setCell ⟨a5, 1, none⟩ (.string b7)).heap[e8]? = some (.cells #[.int .i64 i0, .slice d9 d2.length e0] 37 (0, 0))) := ⟨bf a1.out⟩
     have n2 : Aside0 (((i2.setCell ⟨a5, 0, none⟩ (.int .i64 b5)).setCell ⟨a5, 1, none⟩ (.string b7)).heap[g9]? = some (.cells #[.slice e6 b6.length e5] 26 (0, 0))) := ⟨bf a3.out⟩
     have n3 : Aside0 (((i2.setCell ⟨a5, 0, none⟩ (.int .i64 b5)).setCell ⟨a5, 1, none⟩ (.string b7)).heap[d8]? = some (.cells #[.slice d3 a8.length d1, .slice d5 b4.length d4] 29 (0, 0))) := ⟨bf a0.out⟩
     have n4 : Aside0 (((i2.setCell ⟨a5, 0, none⟩ (.int .i64 b5)).setCell ⟨a5, 1, none⟩ (.string b7)).heap[a5]? = some (.cells #[.int .i64 b5, .string b7] 46 (0, 0))) := ⟨by refine bq ?_; refine blk_put (cs := #[.int .i64 b5, .string (⟨#[]⟩ : ByteArray)]) ?_ 1 _ rfl; refine bq ?_; refine blk_put (cs := #[.int .i64 0, .string (⟨#[]⟩ : ByteArray)]) ?_ 0 _ rfl; refine bq ?_; exact a2.out⟩
     have i9 : Aside0 (Below w.heap.size w ((i2.setCell ⟨a5, 0, none⟩ (.int .i64 b5)).setCell ⟨a5, 1, none⟩ (.string b7))) := ⟨hs HB.out⟩
     (try clear a7)
     (try clear b3)
     (try clear b0)
     (try clear b1)
     (try clear b2)
     (try clear a4)
     (try clear a1)
     (try clear a3)
     (try clear a0)
     (try clear a2)
     (try clear HB)
     generalize ((i2.setCell ⟨a5, 0, none⟩ (.int .i64 b5)).setCell ⟨a5, 1, none⟩ (.string b7)) = V6 at m5 m6 m7 m8 m9 n0 n1 n2 n3 n4 i9 ⊢
     have a7 := m5
     have b3 := m6
     have b0 := m7
     have b1 := m8
     have b2 := m9
     have a4 := n0
     have a1 := n1
     have a3 := n2
     have a0 := n3
     have a2 := n4
     have HB := i9
     clear m5 m6 m7 m8 m9 n0 n1 n2 n3 n4 i9
     replace a7 := am (Kd.R_drew a7.out)
     replace b3 := am (Kd.R_drew b3.out)
     replace b0 := am (Kd.R_drew b0.out)
     replace b1 := am (Kd.R_drew b1.out)
     replace b2 := am (Kd.R_drew b2.out)
     replace a4 := am (blk_drew a4.out)
     replace a1 := am (blk_drew a1.out)
     replace a3 := am (blk_drew a3.out)
     replace a0 := am (blk_drew a0.out)
     replace a2 := am (blk_drew a2.out)
     replace HB := am (below_drew1 HB.out)
     refine st_ (n := 23) (S := fun w' => w'.cell? ⟨e8, 0, none⟩ = some (.int .i64 i0) ∧ w'.cell? ⟨e8, 1, none⟩ = some (.slice d9 d2.length e0) ∧ w'.cell? ⟨h9, 0, none⟩ = some (.slice g3 e1.length g2) ∧ w'.cell? ⟨a5, 0, none⟩ = some (.int .i64 b5) ∧ w'.cell? ⟨a5, 1, none⟩ = some (.string b7) ∧ w'.cell? ⟨g9, 0, none⟩ = some (.slice e6 b6.length e5) ∧ w'.cell? ⟨d8, 0, none⟩ = some (.slice d3 a8.length d1) ∧ w'.cell? ⟨d8, 1, none⟩ = some (.slice d5 b4.length d4)) (ds := []) ⟨(blk_cell a1.out 0).trans rfl, (blk_cell a1.out 1).trans rfl, (blk_cell a4.out 0).trans rfl, (blk_cell a2.out 0).trans rfl, (blk_cell a2.out 1).trans rfl, (blk_cell a3.out 0).trans rfl, (blk_cell a0.out 0).trans rfl, (blk_cell a0.out 1).trans rfl⟩ (fun hHeld => ?_); refine with_tabW laws_FnTexts.tab7 laws_FnTexts.bits7 (fun e7 k4 => ?_)
     generalize V6.drew = X0 at a7 b3 b0 b1 b2 a4 a1 a3 a0 a2 HB hHeld ⊢
     refine pu 0 29 rfl rfl e7 ?_
     refine pu 3 32 rfl rfl e7 ?_
     refine tk 1 30 rfl rfl e7 k4 hHeld ?_
     refine tk 2 31 rfl rfl e7 k4 hHeld ?_
     refine on_ 4 (some 33) rfl rfl e7 (fun K hK => ?_)
     refine gs Tryz.func18 #[.agg #[.slice g3 e1.length g2], .string k3] ?_
     refine (spec_ReadTerm.calls k _ _ e1 k3 p0 r7 _ (cq (Kd.R_reads' a7.out).2.2) ((Kd.R_reads' a7.out).2.1) F6.out).mono ?_
     rintro e X1 ⟨A9, rfl, h6, hb⟩
     refine ⟨_, rfl, ?_⟩
     replace a7 := rb a7 hb
     replace b0 := rb b0 hb
     have k0 := am (Kd.R_lower (Kd.R_new' (Kd.R_new' (Kd.R_new' h6 (Kd.R_lt (rq b3.out))) (Kd.R_lt (rq b1.out))) (Kd.R_lt (rq b2.out))) (below_size (hs HB.out)))
     replace b3 := am (Kd.R_elder' (rq b3.out) (Kd.R_base h6) hb)
     replace b1 := am (Kd.R_elder' (rq b1.out) (Kd.R_base h6) hb)
     replace b2 := am (Kd.R_elder' (rq b2.out) (Kd.R_base h6) hb)
     replace a4 := bb a4 hb
     replace a1 := bb a1 hb
     replace a3 := bb a3 hb
     replace a0 := bb a0 hb
     replace a2 := bb a2 hb
     replace HB := sb HB hb
     (try clear hb)
     (try clear hk)
     (try clear h6)
     refine hK.out _ _ ⟨(blk_cell a1.out 0).trans rfl, (blk_cell a1.out 1).trans rfl, (blk_cell a4.out 0).trans rfl, (blk_cell a2.out 0).trans rfl, (blk_cell a2.out 1).trans rfl, (blk_cell a3.out 0).trans rfl, (blk_cell a0.out 0).trans rfl, (blk_cell a0.out 1).trans rfl⟩ (fun hHeld => ?_)
     clear hK K
     refine nr (some 33) ?_
     refine pu 5 34 rfl rfl e7 ?_
     refine pu 6 35 rfl rfl e7 ?_
     refine pu 7 36 rfl rfl e7 ?_
     refine pu 8 37 rfl rfl e7 ?_
     refine tk 9 38 rfl rfl e7 k4 hHeld ?_
     refine tk 10 39 rfl rfl e7 k4 hHeld ?_
     refine tk 11 40 rfl rfl e7 k4 hHeld ?_
     refine on_ 12 (some 41) rfl rfl e7 (fun K hK => ?_)
     refine gs Tryz.func19 #[.agg #[.slice e6 b6.length e5], .agg #[.slice d3 a8.length d1, .slice d5 b4.length d4]] ?_
     refine (spec_EquationFault.calls k _ _ b6 _ _ a8 _ _ b4 o7 _ (cq (Kd.R_reads' b0.out).2.2) ((Kd.R_reads' b0.out).2.1) (cq (Kd.R_reads' b1.out).2.2) ((Kd.R_reads' b1.out).2.1) (cq (Kd.R_reads' b2.out).2.2) ((Kd.R_reads' b2.out).2.1) K7.out).mono ?_
     rintro e X2 ⟨rfl, hb⟩
     refine ⟨_, rfl, ?_⟩
     replace a7 := rb a7 hb
     replace b3 := rb b3 hb
     replace b0 := rb b0 hb
     replace b1 := rb b1 hb
     replace b2 := rb b2 hb
     replace k0 := rb k0 hb
     replace a4 := bb a4 hb
     replace a1 := bb a1 hb
     replace a3 := bb a3 hb
     replace a0 := bb a0 hb
     replace a2 := bb a2 hb
     replace HB := sb HB hb
     (try clear hb)
     (try clear hk)
     refine hK.out _ _ ⟨(blk_cell a1.out 0).trans rfl, (blk_cell a1.out 1).trans rfl, (blk_cell a4.out 0).trans rfl, (blk_cell a2.out 0).trans rfl, (blk_cell a2.out 1).trans rfl, (blk_cell a3.out 0).trans rfl, (blk_cell a0.out 0).trans rfl, (blk_cell a0.out 1).trans rfl⟩ (fun hHeld => ?_)
     clear hK K
     refine nr (some 41) ?_
     refine pu 13 42 rfl rfl e7 ?_
     refine pu 14 43 rfl rfl e7 ?_
     refine pu 15 44 rfl rfl e7 ?_
     refine pz 16 45 rfl rfl e7 ?_
     refine pz 17 46 rfl rfl e7 ?_
     refine pz 18 47 rfl rfl e7 ?_
     refine pz 19 48 rfl rfl e7 ?_
     refine pz 20 49 rfl rfl e7 ?_
     refine pz 21 50 rfl rfl e7 ?_
     refine pu 22 51 rfl rfl e7 ?_
     refine done_ (done_of e7.out (by kernel_rfl)) ?_
     try go_wp2
     go_meet
     case rel => exact ⟨_, (true), et, H', lo, ⟨rq a7.out⟩, ⟨by (with_reducible repeat (first | apply Kd.R_alloc | apply Kd.R_drewN | apply Kd.R_drew)); exact Kd.R_mono b3.out (fun _ hk => by first | exact ⟨hk.1.1, hk.1.2⟩ | exact ⟨hk.1.2, hk.1.1⟩ | trivial)⟩, ⟨rq b0.out⟩, ⟨by (with_reducible repeat (first | apply Kd.R_alloc | apply Kd.R_drewN | apply Kd.R_drew)); exact Kd.R_mono b1.out (fun _ hk => by first | exact ⟨hk.1.1, hk.1.2⟩ | exact ⟨hk.1.2, hk.1.1⟩ | trivial)⟩, ⟨by (with_reducible repeat (first | apply Kd.R_alloc | apply Kd.R_drewN | apply Kd.R_drew)); exact Kd.R_mono b2.out (fun _ hk => by first | exact ⟨hk.1.1, hk.1.2⟩ | exact ⟨hk.1.2, hk.1.1⟩ | trivial)⟩, ⟨bq a4.out⟩, ⟨bq a1.out⟩, ⟨bq a3.out⟩, ⟨bq a0.out⟩, ⟨bq a2.out⟩, ⟨hs HB.out⟩⟩
   ·rw [if_neg t5] at H
    obtain ⟨m2, t6⟩ := bqf t5
    (first | rw [m2] | (simp only [i64_w, i32_w]; rw [m2]) | skip)
    have H' := am H
    clear H
    try go_wp2
    have m5 : Aside0 (Kd.R k90 90 ((i2.setCell ⟨a5, 0, none⟩ (.int .i64 b5)).setCell ⟨a5, 1, none⟩ (.string b7)) w.heap.size (fun k_ => some k_ ≠ (.slice e6 b6.length e5 : Value).ownBlock) (.slice g3 e1.length g2) e1) := ⟨rq (Kd.R_mono (Kd.R_far (p := ⟨a5, 1, none⟩) (Kd.R_far (p := ⟨a5, 0, none⟩) (Kd.R_types a7.out a2.out (by decide)) (fun _ hk => hk.2) (.int .i64 b5)) (fun _ hk => hk.2) (.string b7)) (fun _ hk => hk.1.2))⟩
    have m6 : Aside0 (Kd.R (Kd.int .i64) 2 ((i2.setCell ⟨a5, 0, none⟩ (.int .i64 b5)).setCell ⟨a5, 1, none⟩ (.string b7)) w.heap.size (fun k_ => some k_ ≠ (.slice d3 a8.length d1 : Value).ownBlock ∧ some k_ ≠ (.slice d5 b4.length d4 : Value).ownBlock) (.slice d9 d2.length e0) d2) := ⟨by (with_reducible repeat (first | apply Kd.R_alloc | apply Kd.R_drewN | apply Kd.R_drew)); exact Kd.R_mono (Kd.R_far (p := ⟨a5, 1, none⟩) (Kd.R_far (p := ⟨a5, 0, none⟩) (Kd.R_types b3.out a2.out (by decide)) (fun _ hk => hk.2) (.int .i64 b5)) (fun _ hk => hk.2) (.string b7)) (fun _ hk => by first | exact ⟨hk.1.1.2, hk.1.2⟩ | exact ⟨hk.1.2, hk.1.1.2⟩ | trivial)⟩
    have m7 : Aside0 (Kd.R k90 90 ((i2.setCell ⟨a5, 0, none⟩ (.int .i64 b5)).setCell ⟨a5, 1, none⟩ (.string b7)) w.heap.size (fun k_ => some k_ ≠ (.slice g3 e1.length g2 : Value).ownBlock) (.slice e6 b6.length e5) b6) := ⟨rq (Kd.R_mono (Kd.R_far (p := ⟨a5, 1, none⟩) (Kd.R_far (p := ⟨a5, 0, none⟩) (Kd.R_types b0.out a2.out (by decide)) (fun _ hk => hk.2) (.int .i64 b5)) (fun _ hk => hk.2) (.string b7)) (fun _ hk => hk.1.2))⟩
    have m8 : Aside0 (Kd.R (Kd.int .i64) 2 ((i2.setCell ⟨a5, 0, none⟩ (.int .i64 b5)).setCell ⟨a5, 1, none⟩ (.string b7)) w.heap.size (fun k_ => some k_ ≠ (.slice d9 d2.length e0 : Value).ownBlock ∧ some k_ ≠ (.slice d5 b4.length d4 : Value).ownBlock) (.slice d3 a8.length d1) a8) := ⟨by (with_reducible repeat (first | apply Kd.R_alloc | apply Kd.R_drewN | apply Kd.R_drew)); exact Kd.R_mono (Kd.R_far (p := ⟨a5, 1, none⟩) (Kd.R_far (p := ⟨a5, 0, none⟩) (Kd.R_types b1.out a2.out (by decide)) (fun _ hk => hk.2) (.int .i64 b5)) (fun _ hk => hk.2) (.string b7)) (fun _ hk => by first | exact ⟨hk.1.2, hk.1.1⟩ | exact ⟨hk.1.1, hk.1.2⟩ | trivial)⟩
    have m9 : Aside0 (Kd.R (Kd.int .i64) 2 ((i2.setCell ⟨a5, 0, none⟩ (.int .i64 b5)).setCell ⟨a5, 1, none⟩ (.string b7)) w.heap.size (fun k_ => some k_ ≠ (.slice d9 d2.length e0 : Value).ownBlock ∧ some k_ ≠ (.slice d3 a8.length d1 : Value).ownBlock) (.slice d5 b4.length d4) b4) := ⟨by (with_reducible repeat (first | apply Kd.R_alloc | apply Kd.R_drewN | apply Kd.R_drew)); exact Kd.R_mono (Kd.R_far (p := ⟨a5, 1, none⟩) (Kd.R_far (p := ⟨a5, 0, none⟩) (Kd.R_types b2.out a2.out (by decide)) (fun _ hk => hk.2) (.int .i64 b5)) (fun _ hk => hk.2) (.string b7)) (fun _ hk => by first | exact ⟨hk.1.2, hk.1.1⟩ | exact ⟨hk.1.1, hk.1.2⟩ | trivial)⟩
    have n0 : Aside0 (((i2.setCell ⟨a5, 0, none⟩ (.int .i64 b5)).setCell ⟨a5, 1, none⟩ (.string b7)).heap[h9]? = some (.cells #[.slice g3 e1.length g2] 26 (0, 0))) := ⟨bf a4.out⟩
    have n1 : Aside0 (((i2.setCell ⟨a5, 0, none⟩ (.int .i64 b5)).setCell ⟨a5, 1, none⟩ (.string b7)).heap[e8]? = some (.cells #[.int .i64 i0, .slice d9 d2.length e0] 37 (0, 0))) := ⟨bf a1.out⟩
    have n2 : Aside0 (((i2.setCell ⟨a5, 0, none⟩ (.int .i64 b5)).setCell ⟨a5, 1, none⟩ (.string b7)).heap[g9]? = some (.cells #[.slice e6 b6.length e5] 26 (0, 0))) := ⟨bf a3.out⟩
    have n3 : Aside0 (((i2.setCell ⟨a5, 0, none⟩ (.int .i64 b5)).setCell ⟨a5, 1, none⟩ (.string b7)).heap[d8]? = some (.cells #[.slice d3 a8.length d1, .slice d5 b4.length d4] 29 (0, 0))) := ⟨bf a0.out⟩
    have n4 : Aside0 (((i2.setCell ⟨a5, 0, none⟩ (.int .i64 b5)).setCell ⟨a5, 1, none⟩ (.string b7)).heap[a5]? = some (.cells #[.int .i64 b5, .string b7] 46 (0, 0))) := ⟨by refine bq ?_; refine blk_put (cs := #[.int .i64 b5, .string (⟨#[]⟩ : ByteArray)]) ?_ 1 _ rfl; refine bq ?_; refine blk_put (cs := #[.int .i64 0, .string (⟨#[]⟩ : ByteArray)]) ?_ 0 _ rfl; refine bq ?_; exact a2.out⟩
    have i9 : Aside0 (Below w.heap.size w ((i2.setCell ⟨a5, 0, none⟩ (.int .i64 b5)).setCell ⟨a5, 1, none⟩ (.string b7))) := ⟨hs HB.out⟩
    (try clear a7)
    (try clear b3)
    (try clear b0)
    (try clear b1)
    (try clear b2)
    (try clear a4)
    (try clear a1)
    (try clear a3)
    (try clear a0)
    (try clear a2)
    (try clear HB)
    generalize ((i2.setCell ⟨a5, 0, none⟩ (.int .i64 b5)).setCell ⟨a5, 1, none⟩ (.string b7)) = V7 at m5 m6 m7 m8 m9 n0 n1 n2 n3 n4 i9 ⊢
    have a7 := m5
    have b3 := m6
    have b0 := m7
    have b1 := m8
    have b2 := m9
    have a4 := n0
    have a1 := n1
    have a3 := n2
    have a0 := n3
    have a2 := n4
    have HB := i9
    clear m5 m6 m7 m8 m9 n0 n1 n2 n3 n4 i9
    replace a7 := am (Kd.R_drew a7.out)
    replace b3 := am (Kd.R_drew b3.out)
    replace b0 := am (Kd.R_drew b0.out)
    replace b1 := am (Kd.R_drew b1.out)
    replace b2 := am (Kd.R_drew b2.out)
    replace a4 := am (blk_drew a4.out)
    replace a1 := am (blk_drew a1.out)
    replace a3 := am (blk_drew a3.out)
    replace a0 := am (blk_drew a0.out)
    replace a2 := am (blk_drew a2.out)
    replace HB := am (below_drew1 HB.out)
    refine st_ (n := 23) (S := fun w' => w'.cell? ⟨e8, 0, none⟩ = some (.int .i64 i0) ∧ w'.cell? ⟨e8, 1, none⟩ = some (.slice d9 d2.length e0) ∧ w'.cell? ⟨h9, 0, none⟩ = some (.slice g3 e1.length g2)) (ds := []) ⟨(blk_cell a1.out 0).trans rfl, (blk_cell a1.out 1).trans rfl, (blk_cell a4.out 0).trans rfl⟩ (fun hHeld => ?_); refine with_tabW laws_FnTexts.tab7 laws_FnTexts.bits7 (fun e7 k4 => ?_)
    generalize V7.drew = X3 at a7 b3 b0 b1 b2 a4 a1 a3 a0 a2 HB hHeld ⊢
    refine pu 0 29 rfl rfl e7 ?_
    refine pu 3 32 rfl rfl e7 ?_
    refine tk 1 30 rfl rfl e7 k4 hHeld ?_
    refine tk 2 31 rfl rfl e7 k4 hHeld ?_
    refine on_ 4 (some 33) rfl rfl e7 (fun K hK => ?_)
    refine gs Tryz.func18 #[.agg #[.slice g3 e1.length g2], .string k3] ?_
    refine (spec_ReadTerm.calls k _ _ e1 k3 p0 r7 _ (cq (Kd.R_reads' a7.out).2.2) ((Kd.R_reads' a7.out).2.1) F6.out).mono ?_
    rintro e X4 ⟨A9, rfl, h6, hb⟩
    refine ⟨_, rfl, ?_⟩
    replace a7 := rb a7 hb
    replace b0 := rb b0 hb
    have k0 := am (Kd.R_lower (Kd.R_new' (Kd.R_new' (Kd.R_new' h6 (Kd.R_lt (rq b3.out))) (Kd.R_lt (rq b1.out))) (Kd.R_lt (rq b2.out))) (below_size (hs HB.out)))
    replace b3 := am (Kd.R_elder' (rq b3.out) (Kd.R_base h6) hb)
    replace b1 := am (Kd.R_elder' (rq b1.out) (Kd.R_base h6) hb)
    replace b2 := am (Kd.R_elder' (rq b2.out) (Kd.R_base h6) hb)
    replace a4 := bb a4 hb
    replace a1 := bb a1 hb
    replace a3 := bb a3 hb
    replace a0 := bb a0 hb
    replace a2 := bb a2 hb
    replace HB := sb HB hb
    (try clear hb)
    (try clear hk)
    (try clear h6)
    refine hK.out _ _ ⟨(blk_cell a1.out 0).trans rfl, (blk_cell a1.out 1).trans rfl, (blk_cell a4.out 0).trans rfl⟩ (fun hHeld => ?_)
    clear hK K
    refine nr (some 33) ?_
    refine pu 5 34 rfl rfl e7 ?_
    refine pu 6 35 rfl rfl e7 ?_
    refine pu 7 36 rfl rfl e7 ?_
    refine pz 8 37 rfl rfl e7 ?_
    refine pz 9 38 rfl rfl e7 ?_
    refine pz 10 39 rfl rfl e7 ?_
    refine pz 11 40 rfl rfl e7 ?_
    refine pz 12 41 rfl rfl e7 ?_
    refine pz 13 42 rfl rfl e7 ?_
    refine pu 14 43 rfl rfl e7 ?_
    refine pu 15 44 rfl rfl e7 ?_
    refine pz 16 45 rfl rfl e7 ?_
    refine pz 17 46 rfl rfl e7 ?_
    refine pz 18 47 rfl rfl e7 ?_
    refine pz 19 48 rfl rfl e7 ?_
    refine pz 20 49 rfl rfl e7 ?_
    refine pz 21 50 rfl rfl e7 ?_
    refine pu 22 51 rfl rfl e7 ?_
    refine done_ (done_of e7.out (by kernel_rfl)) ?_
    try go_wp2
    go_meet
    case rel => exact ⟨_, (true), et, H', lo, ⟨rq a7.out⟩, ⟨by (with_reducible repeat (first | apply Kd.R_alloc | apply Kd.R_drewN | apply Kd.R_drew)); exact Kd.R_mono b3.out (fun _ hk => by first | exact ⟨hk.1.1, hk.1.2⟩ | exact ⟨hk.1.2, hk.1.1⟩ | trivial)⟩, ⟨rq b0.out⟩, ⟨by (with_reducible repeat (first | apply Kd.R_alloc | apply Kd.R_drewN | apply Kd.R_drew)); exact Kd.R_mono b1.out (fun _ hk => by first | exact ⟨hk.1.1, hk.1.2⟩ | exact ⟨hk.1.2, hk.1.1⟩ | trivial)⟩, ⟨by (with_reducible repeat (first | apply Kd.R_alloc | apply Kd.R_drewN | apply Kd.R_drew)); exact Kd.R_mono b2.out (fun _ hk => by first | exact ⟨hk.1.1, hk.1.2⟩ | exact ⟨hk.1.2, hk.1.1⟩ | trivial)⟩, ⟨bq a4.out⟩, ⟨bq a1.out⟩, ⟨bq a3.out⟩, ⟨bq a0.out⟩, ⟨bq a2.out⟩, ⟨hs HB.out⟩⟩
  case rest =>
   clear F9
   try clear c4
   obtain ⟨kq, n6, rfl, HA, L6, HO_706000, HO_711001, HO_721000, HO_722000, HO_722001, a4, a1, a3, a0, a2, HB⟩ := hcut
   cases kq with
   | zero => exact absurd HA.out (by simp [laws_FnTexts.j0])
   | succ S5 =>
    have H := HA.out
    clear HA
    simp only [laws_FnTexts.j0] at H
    by_cases u0 : n6 = true
    ·subst u0
     rw [if_pos rfl] at H
     exact absurd ((Option.some.inj H).trans A1) Bool.false_ne_true
    ·replace u0 := Bool.eq_false_iff.mpr u0
     subst u0
     rw [if_neg (show ¬ (false = true) by decide)] at H
     have p3 := am H
     clear H
     go_upto_region 9 with (fail)
     go_cut [63] (fun U6 wc => ∃ (kq : Nat) (m1 : Bool), U6 = .bool m1 ∧ Aside0 (laws_FnTexts.j1 kq m1 b6 a8 b4 b5 b7 = some r) ∧ Aside0 (kq ≤ S5) ∧ Aside0 (Kd.R k90 90 wc w.heap.size (fun k_ => some k_ ≠ ((.slice e6 b6.length e5) : Value).ownBlock) (.slice g3 e1.length g2) e1) ∧ Aside0 (Kd.R (Kd.int .i64) 2 wc w.heap.size (fun k_ => some k_ ≠ ((.slice d3 a8.length d1) : Value).ownBlock ∧ some k_ ≠ ((.slice d5 b4.length d4) : Value).ownBlock) (.slice d9 d2.length e0) d2) ∧ Aside0 (Kd.R k90 90 wc w.heap.size (fun k_ => some k_ ≠ ((.slice g3 e1.length g2) : Value).ownBlock) (.slice e6 b6.length e5) b6) ∧ Aside0 (Kd.R (Kd.int .i64) 2 wc w.heap.size (fun k_ => some k_ ≠ ((.slice d9 d2.length e0) : Value).ownBlock ∧ some k_ ≠ ((.slice d5 b4.length d4) : Value).ownBlock) (.slice d3 a8.length d1) a8) ∧ Aside0 (Kd.R (Kd.int .i64) 2 wc w.heap.size (fun k_ => some k_ ≠ ((.slice d9 d2.length e0) : Value).ownBlock ∧ some k_ ≠ ((.slice d3 a8.length d1) : Value).ownBlock) (.slice d5 b4.length d4) b4) ∧ Aside0 (wc.heap[h9]? = some (.cells #[(.slice g3 e1.length g2)] 26 (0, 0))) ∧ Aside0 (wc.heap[e8]? = some (.cells #[.int .i64 i0, (.slice d9 d2.length e0)] 37 (0, 0))) ∧ Aside0 (wc.heap[g9]? = some (.cells #[(.slice e6 b6.length e5)] 26 (0, 0))) ∧ Aside0 (wc.heap[d8]? = some (.cells #[(.slice d3 a8.length d1), (.slice d5 b4.length d4)] 29 (0, 0))) ∧ Aside0 (wc.heap[a5]? = some (.cells #[.int .i64 b5, .string b7] 46 (0, 0))) ∧ Aside0 (Below w.heap.size w wc))
     case first =>
      have H := p3.out
      clear p3
      by_cases u1 : i0 = 0
      ·rw [if_pos u1] at H
       obtain ⟨m3, u2⟩ := bqt u1; clear u1
       (first | rw [m3] | (simp only [i64_w, i32_w]; rw [m3]) | skip)
       obtain ⟨⟨A3, A4⟩, S7, H⟩ := ob H
       try dsimp only at H
       have H' := am H
       clear H
       obtain ⟨M9, Q0⟩ := nn j5
       obtain ⟨N0, Q1⟩ := nn k9
       obtain ⟨N1, Q2⟩ := nn l4
       obtain ⟨N2, Q3⟩ := nn l5
       have C8 := c0_ a1
       have C9 := c1_ a1
       have E6 := blk_frozen a1.out 0
       have E7 := blk_frozen a1.out 1
       obtain ⟨N3, Q4⟩ := nn n7
       obtain ⟨N4, Q5⟩ := nn n8
       obtain ⟨N5, Q6⟩ := nn n9
       have D0 := c0_ a4
       have E8 := blk_frozen a4.out 0
       go_wp2_with (first | (go_at_call 20; refine (impl_TermText.calls S5 _ _ e1 _ _ d2 A3 A4 _ (cq (Kd.R_reads' HO_706000.out).2.2) ((Kd.R_reads' HO_706000.out).2.1) (cq (Kd.R_reads' HO_711001.out).2.2) ((Kd.R_reads' HO_711001.out).2.1) S7.out).mono ?_; rintro e X5 ⟨rfl, hb⟩; replace HO_706000 := rb HO_706000 hb; replace HO_711001 := rb HO_711001 hb; replace HO_721000 := rb HO_721000 hb; replace HO_722000 := rb HO_722000 hb; replace HO_722001 := rb HO_722001 hb; replace a4 := bb a4 hb; replace a1 := bb a1 hb; replace a3 := bb a3 hb; replace a0 := bb a0 hb; replace a2 := bb a2 hb; replace HB := sb HB hb; (try clear hb); (try clear hk)))
       go_meet
       case rel => exact ⟨_, ((!(A3 == 0) || (!(A4.toList == k3.toList)))), et, H', ⟨by have := L6.out; first | omega | exact Nat.le_refl _⟩, ⟨rq HO_706000.out⟩, ⟨rq HO_711001.out⟩, ⟨rq HO_721000.out⟩, ⟨rq HO_722000.out⟩, ⟨rq HO_722001.out⟩, ⟨bq a4.out⟩, ⟨bq a1.out⟩, ⟨bq a3.out⟩, ⟨bq a0.out⟩, ⟨bq a2.out⟩, ⟨hs HB.out⟩⟩
      ·rw [if_neg u1] at H
       obtain ⟨m3, u2⟩ := bqf u1
       (first | rw [m3] | (simp only [i64_w, i32_w]; rw [m3]) | skip)
       have H' := am H
       clear H
       obtain ⟨N6, Q7⟩ := nn j5
       obtain ⟨N7, Q8⟩ := nn k9
       obtain ⟨N8, Q9⟩ := nn l4
       obtain ⟨N9, R0⟩ := nn l5
       have D1 := c0_ a1
       have D2 := c1_ a1
       have E9 := blk_frozen a1.out 0
       have F0 := blk_frozen a1.out 1
       go_wp2
       go_meet
       case rel => exact ⟨_, (false), et, H', ⟨by have := L6.out; first | omega | exact Nat.le_refl _⟩, ⟨rq HO_706000.out⟩, ⟨rq HO_711001.out⟩, ⟨rq HO_721000.out⟩, ⟨rq HO_722000.out⟩, ⟨rq HO_722001.out⟩, ⟨bq a4.out⟩, ⟨bq a1.out⟩, ⟨bq a3.out⟩, ⟨bq a0.out⟩, ⟨bq a2.out⟩, ⟨hs HB.out⟩⟩
     case rest =>
      clear p3
      try clear c4; try clear u0
      obtain ⟨kq, m1, rfl, HA, T5, HO_706000, HO_711001, HO_721000, HO_722000, HO_722001, a4, a1, a3, a0, a2, HB⟩ := hcut
      cases kq with
      | zero => exact absurd HA.out (by simp [laws_FnTexts.j1])
      | succ m0 =>
       have H := HA.out
       clear HA
       simp only [laws_FnTexts.j1] at H
       by_cases B5 : m1 = true
       ·subst B5
        rw [if_pos rfl] at H
        exact absurd ((Option.some.inj H).trans A1) Bool.false_ne_true
       ·replace B5 := Bool.eq_false_iff.mpr B5
        subst B5
        rw [if_neg (show ¬ (false = true) by decide)] at H
        by_cases u3 : b5 = 0
        ·rw [if_pos u3] at H
         obtain ⟨u4, u5⟩ := bqt u3; clear u3
         obtain ⟨⟨h7, e3, e4⟩, S8, H⟩ := ob H
         try dsimp only at H
         obtain ⟨⟨r8, k5⟩, K8, H⟩ := ob H
         try dsimp only at H
         obtain ⟨⟨k6, i5⟩, F7, H⟩ := ob H
         try dsimp only at H
         by_cases u6 : h7 = 0
         ·rw [if_pos u6] at H
          obtain ⟨u7, u9⟩ := bqt u6; clear u6
          obtain ⟨K2, S9, H⟩ := ob H
          try dsimp only at H
          by_cases B8 : K2 = true
          ·subst B8
           rw [if_pos rfl] at H
           obtain ⟨K3, T0, H⟩ := ob H
           try dsimp only at H
           by_cases B9 : K3 = true
           ·subst B9
            rw [if_pos rfl] at H
            obtain ⟨K4, T4, H⟩ := ob H
            try dsimp only at H
            obtain rfl := Option.some.inj H
            obtain ⟨O0, R1⟩ := nn j6
            obtain ⟨O1, R2⟩ := nn j7
            obtain ⟨O2, R3⟩ := nn j8
            obtain ⟨O3, R4⟩ := nn j9
            have D3 := c0_ a2
            have D4 := c1_ a2
            have F1 := blk_frozen a2.out 0
            have F2 := blk_frozen a2.out 1
            obtain ⟨O4, R5⟩ := nn l6
            obtain ⟨O5, R6⟩ := nn l7
            obtain ⟨O6, R7⟩ := nn i6
            have D5 := c0_ a3
            have F3 := blk_frozen a3.out 0
            try go_wp2_with (first | (refine gl (some 70) Tryz.func21 rfl #[.agg #[.slice e6 b6.length e5], .string b7] ?_; refine (impl_ReadEquation.calls m0 _ _ b6 b7 h7 e3 e4 _ (cq (Kd.R_reads' HO_721000.out).2.2) ((Kd.R_reads' HO_721000.out).2.1) S8.out).mono ?_; rintro e X6 ⟨V2, V3, rfl, h6, o8, hb⟩; refine ⟨_, rfl, ?_⟩; replace HO_706000 := rb HO_706000 hb; replace HO_721000 := rb HO_721000 hb; have d6 := am (Kd.R_lower (Kd.R_new' (Kd.R_new' (Kd.R_new' h6 (Kd.R_lt (rq HO_711001.out))) (Kd.R_lt (rq HO_722000.out))) (Kd.R_lt (rq HO_722001.out))) (below_size (hs HB.out))); have d7 := am (Kd.R_lower (Kd.R_new' (Kd.R_new' (Kd.R_new' o8 (Kd.R_lt (rq HO_711001.out))) (Kd.R_lt (rq HO_722000.out))) (Kd.R_lt (rq HO_722001.out))) (below_size (hs HB.out))); replace HO_711001 := am (Kd.R_mono (Kd.R_told (Kd.R_told (Kd.R_old (rq HO_711001.out) hb) (Kd.R_base h6)) (Kd.R_base o8)) (fun _ h_ => h_.1)); replace HO_722000 := am (Kd.R_mono (Kd.R_told (Kd.R_told (Kd.R_old (rq HO_722000.out) hb) (Kd.R_base h6)) (Kd.R_base o8)) (fun _ h_ => h_.1)); replace HO_722001 := am (Kd.R_mono (Kd.R_told (Kd.R_told (Kd.R_old (rq HO_722001.out) hb) (Kd.R_base h6)) (Kd.R_base o8)) (fun _ h_ => h_.1)); replace a4 := bb a4 hb; replace a1 := bb a1 hb; replace a3 := bb a3 hb; replace a0 := bb a0 hb; replace a2 := bb a2 hb; replace HB := sb HB hb; clear hb h6 o8; (try clear hk)) | (refine bx 9 rfl #[.int .i64 0, .slice none 0 0, .slice none 0 0] 33 ?_; intro a6 hg m4 hbox hb; replace HO_706000 := rb HO_706000 hb; replace HO_711001 := rb HO_711001 hb; replace HO_721000 := rb HO_721000 hb; replace HO_722000 := rb HO_722000 hb; replace HO_722001 := rb HO_722001 hb; replace d6 := rb d6 hb; replace d7 := rb d7 hb; have a9 := am (hbox); have t3 := am (bz hg (hs HB.out)); replace HB := sb HB hb; have L4 := t3; have s1 := nl hg a4; have o1 := ng hg a4; replace a4 := bb a4 hb; have s2 := nl hg a1; have o2 := ng hg a1; replace a1 := bb a1 hb; have s4 := nl hg a3; have o3 := ng hg a3; replace a3 := bb a3 hb; have s6 := nl hg a0; have o4 := ng hg a0; replace a0 := bb a0 hb; have s7 := nl hg a2; have o5 := ng hg a2; replace a2 := bb a2 hb; clear hb hbox hg; obtain ⟨O7, R8⟩ := nn o1; obtain ⟨O8, R9⟩ := nn o2; obtain ⟨O9, S0⟩ := nn o3; obtain ⟨H3, I7⟩ := nn o4; obtain ⟨H4, I8⟩ := nn o5; have v0 := c0_ a9; have v1 := c1_ a9; have v2 : m4.cell? ⟨a6, 2, none⟩ = some (.slice none 0 0) := (blk_cell a9.out 2).trans rfl; have w4 := blk_frozen a9.out 0; have w5 := blk_frozen a9.out 1; have w6 := blk_frozen a9.out 2; obtain ⟨c1, b8, rfl⟩ := Kd.R_slice d6.out; obtain ⟨d0, b9, rfl⟩ := Kd.R_slice d7.out))
            have m5 : Aside0 (Kd.R k90 90 (((m4.setCell ⟨a6, 0, none⟩ (.int .i64 h7)).setCell ⟨a6, 1, none⟩ (.slice c1 e3.length b8)).setCell ⟨a6, 2, none⟩ (.slice d0 e4.length b9)) w.heap.size (fun k_ => some k_ ≠ (.slice e6 b6.length e5 : Value).ownBlock) (.slice g3 e1.length g2) e1) := ⟨rq (Kd.R_mono (Kd.R_far (p := ⟨a6, 2, none⟩) (Kd.R_far (p := ⟨a6, 1, none⟩) (Kd.R_far (p := ⟨a6, 0, none⟩) (Kd.R_types HO_706000.out a9.out (by decide)) (fun _ hk => hk.2) (.int .i64 h7)) (fun _ hk => hk.2) (.slice c1 e3.length b8)) (fun _ hk => hk.2) (.slice d0 e4.length b9)) (fun _ hk => hk.1))⟩
            have m6 : Aside0 (Kd.R (Kd.int .i64) 2 (((m4.setCell ⟨a6, 0, none⟩ (.int .i64 h7)).setCell ⟨a6, 1, none⟩ (.slice c1 e3.length b8)).setCell ⟨a6, 2, none⟩ (.slice d0 e4.length b9)) w.heap.size (fun k_ => some k_ ≠ (.slice d3 a8.length d1 : Value).ownBlock ∧ some k_ ≠ (.slice d5 b4.length d4 : Value).ownBlock ∧ some k_ ≠ (.slice c1 e3.length b8 : Value).ownBlock ∧ some k_ ≠ (.slice d0 e4.length b9 : Value).ownBlock) (.slice d9 d2.length e0) d2) := ⟨rq (Kd.R_mono (Kd.R_far (p := ⟨a6, 2, none⟩) (Kd.R_far (p := ⟨a6, 1, none⟩) (Kd.R_far (p := ⟨a6, 0, none⟩) (Kd.R_types HO_711001.out a9.out (by decide)) (fun _ hk => hk.2) (.int .i64 h7)) (fun _ hk => hk.2) (.slice c1 e3.length b8)) (fun _ hk => hk.2) (.slice d0 e4.length b9)) (fun _ hk => ⟨hk.1.1.1.1, ⟨hk.1.1.1.2, ⟨hk.1.1.2, hk.1.2⟩⟩⟩))⟩
            have m7 : Aside0 (Kd.R k90 90 (((m4.setCell ⟨a6, 0, none⟩ (.int .i64 h7)).setCell ⟨a6, 1, none⟩ (.slice c1 e3.length b8)).setCell ⟨a6, 2, none⟩ (.slice d0 e4.length b9)) w.heap.size (fun k_ => some k_ ≠ (.slice g3 e1.length g2 : Value).ownBlock) (.slice e6 b6.length e5) b6) := ⟨rq (Kd.R_mono (Kd.R_far (p := ⟨a6, 2, none⟩) (Kd.R_far (p := ⟨a6, 1, none⟩) (Kd.R_far (p := ⟨a6, 0, none⟩) (Kd.R_types HO_721000.out a9.out (by decide)) (fun _ hk => hk.2) (.int .i64 h7)) (fun _ hk => hk.2) (.slice c1 e3.length b8)) (fun _ hk => hk.2) (.slice d0 e4.length b9)) (fun _ hk => hk.1))⟩
            have m8 : Aside0 (Kd.R (Kd.int .i64) 2 (((m4.setCell ⟨a6, 0, none⟩ (.int .i64 h7)).setCell ⟨a6, 1, none⟩ (.slice c1 e3.length b8)).setCell ⟨a6, 2, none⟩ (.slice d0 e4.length b9)) w.heap.size (fun k_ => some k_ ≠ (.slice d9 d2.length e0 : Value).ownBlock ∧ some k_ ≠ (.slice d5 b4.length d4 : Value).ownBlock ∧ some k_ ≠ (.slice c1 e3.length b8 : Value).ownBlock ∧ some k_ ≠ (.slice d0 e4.length b9 : Value).ownBlock) (.slice d3 a8.length d1) a8) := ⟨rq (Kd.R_mono (Kd.R_far (p := ⟨a6, 2, none⟩) (Kd.R_far (p := ⟨a6, 1, none⟩) (Kd.R_far (p := ⟨a6, 0, none⟩) (Kd.R_types HO_722000.out a9.out (by decide)) (fun _ hk => hk.2) (.int .i64 h7)) (fun _ hk => hk.2) (.slice c1 e3.length b8)) (fun _ hk => hk.2) (.slice d0 e4.length b9)) (fun _ hk => ⟨hk.1.1.1.1, ⟨hk.1.1.1.2, ⟨hk.1.1.2, hk.1.2⟩⟩⟩))⟩
            have m9 : Aside0 (Kd.R (Kd.int .i64) 2 (((m4.setCell ⟨a6, 0, none⟩ (.int .i64 h7)).setCell ⟨a6, 1, none⟩ (.slice c1 e3.length b8)).setCell ⟨a6, 2, none⟩ (.slice d0 e4.length b9)) w.heap.size (fun k_ => some k_ ≠ (.slice d9 d2.length e0 : Value).ownBlock ∧ some k_ ≠ (.slice d3 a8.length d1 : Value).ownBlock ∧ some k_ ≠ (.slice c1 e3.length b8 : Value).ownBlock ∧ some k_ ≠ (.slice d0 e4.length b9 : Value).ownBlock) (.slice d5 b4.length d4) b4) := ⟨rq (Kd.R_mono (Kd.R_far (p := ⟨a6, 2, none⟩) (Kd.R_far (p := ⟨a6, 1, none⟩) (Kd.R_far (p := ⟨a6, 0, none⟩) (Kd.R_types HO_722001.out a9.out (by decide)) (fun _ hk => hk.2) (.int .i64 h7)) (fun _ hk => hk.2) (.slice c1 e3.length b8)) (fun _ hk => hk.2) (.slice d0 e4.length b9)) (fun _ hk => ⟨hk.1.1.1.1, ⟨hk.1.1.1.2, ⟨hk.1.1.2, hk.1.2⟩⟩⟩))⟩
            have n0 : Aside0 (Kd.R (Kd.int .i64) 2 (((m4.setCell ⟨a6, 0, none⟩ (.int .i64 h7)).setCell ⟨a6, 1, none⟩ (.slice c1 e3.length b8)).setCell ⟨a6, 2, none⟩ (.slice d0 e4.length b9)) w.heap.size (fun k_ => some k_ ≠ (.slice d9 d2.length e0 : Value).ownBlock ∧ some k_ ≠ (.slice d3 a8.length d1 : Value).ownBlock ∧ some k_ ≠ (.slice d5 b4.length d4 : Value).ownBlock ∧ some k_ ≠ (.slice d0 e4.length b9 : Value).ownBlock) (.slice c1 e3.length b8) e3) := ⟨rq (Kd.R_mono (Kd.R_far (p := ⟨a6, 2, none⟩) (Kd.R_far (p := ⟨a6, 1, none⟩) (Kd.R_far (p := ⟨a6, 0, none⟩) (Kd.R_types d6.out a9.out (by decide)) (fun _ hk => hk.2) (.int .i64 h7)) (fun _ hk => hk.2) (.slice c1 e3.length b8)) (fun _ hk => hk.2) (.slice d0 e4.length b9)) (fun _ hk => ⟨hk.1.1.1.2, ⟨hk.1.1.2, ⟨hk.1.2, hk.1.1.1.1⟩⟩⟩))⟩
            have n1 : Aside0 (Kd.R (Kd.int .i64) 2 (((m4.setCell ⟨a6, 0, none⟩ (.int .i64 h7)).setCell ⟨a6, 1, none⟩ (.slice c1 e3.length b8)).setCell ⟨a6, 2, none⟩ (.slice d0 e4.length b9)) w.heap.size (fun k_ => some k_ ≠ (.slice d9 d2.length e0 : Value).ownBlock ∧ some k_ ≠ (.slice d3 a8.length d1 : Value).ownBlock ∧ some k_ ≠ (.slice d5 b4.length d4 : Value).ownBlock ∧ some k_ ≠ (.slice c1 e3.length b8 : Value).ownBlock) (.slice d0 e4.length b9) e4) := ⟨rq (Kd.R_mono (Kd.R_far (p := ⟨a6, 2, none⟩) (Kd.R_far (p := ⟨a6, 1, none⟩) (Kd.R_far (p := ⟨a6, 0, none⟩) (Kd.R_types d7.out a9.out (by decide)) (fun _ hk => hk.2) (.int .i64 h7)) (fun _ hk => hk.2) (.slice c1 e3.length b8)) (fun _ hk => hk.2) (.slice d0 e4.length b9)) (fun _ hk => ⟨hk.1.1.1.2, ⟨hk.1.1.2, ⟨hk.1.2, hk.1.1.1.1⟩⟩⟩))⟩
            have n2 : Aside0 ((((m4.setCell ⟨a6, 0, none⟩ (.int .i64 h7)).setCell ⟨a6, 1, none⟩ (.slice c1 e3.length b8)).setCell ⟨a6, 2, none⟩ (.slice d0 e4.length b9)).heap[h9]? = some (.cells #[.slice g3 e1.length g2] 26 (0, 0))) := ⟨bf a4.out⟩
            have n3 : Aside0 ((((m4.setCell ⟨a6, 0, none⟩ (.int .i64 h7)).setCell ⟨a6, 1, none⟩ (.slice c1 e3.length b8)).setCell ⟨a6, 2, none⟩ (.slice d0 e4.length b9)).heap[e8]? = some (.cells #[.int .i64 i0, .slice d9 d2.length e0] 37 (0, 0))) := ⟨bf a1.out⟩
            have n4 : Aside0 ((((m4.setCell ⟨a6, 0, none⟩ (.int .i64 h7)).setCell ⟨a6, 1, none⟩ (.slice c1 e3.length b8)).setCell ⟨a6, 2, none⟩ (.slice d0 e4.length b9)).heap[g9]? = some (.cells #[.slice e6 b6.length e5] 26 (0, 0))) := ⟨bf a3.out⟩
            have i9 : Aside0 ((((m4.setCell ⟨a6, 0, none⟩ (.int .i64 h7)).setCell ⟨a6, 1, none⟩ (.slice c1 e3.length b8)).setCell ⟨a6, 2, none⟩ (.slice d0 e4.length b9)).heap[d8]? = some (.cells #[.slice d3 a8.length d1, .slice d5 b4.length d4] 29 (0, 0))) := ⟨bf a0.out⟩
            have r4 : Aside0 ((((m4.setCell ⟨a6, 0, none⟩ (.int .i64 h7)).setCell ⟨a6, 1, none⟩ (.slice c1 e3.length b8)).setCell ⟨a6, 2, none⟩ (.slice d0 e4.length b9)).heap[a5]? = some (.cells #[.int .i64 b5, .string b7] 46 (0, 0))) := ⟨bf a2.out⟩
            have r5 : Aside0 ((((m4.setCell ⟨a6, 0, none⟩ (.int .i64 h7)).setCell ⟨a6, 1, none⟩ (.slice c1 e3.length b8)).setCell ⟨a6, 2, none⟩ (.slice d0 e4.length b9)).heap[a6]? = some (.cells #[.int .i64 h7, .slice c1 e3.length b8, .slice d0 e4.length b9] 33 (0, 0))) := ⟨by refine bq ?_; refine blk_put (cs := #[.int .i64 h7, .slice c1 e3.length b8, .slice none 0 0]) ?_ 2 _ rfl; refine bq ?_; refine blk_put (cs := #[.int .i64 h7, .slice none 0 0, .slice none 0 0]) ?_ 1 _ rfl; refine bq ?_; refine blk_put (cs := #[.int .i64 0, .slice none 0 0, .slice none 0 0]) ?_ 0 _ rfl; refine bq ?_; exact a9.out⟩
            have r6 : Aside0 (Below w.heap.size w (((m4.setCell ⟨a6, 0, none⟩ (.int .i64 h7)).setCell ⟨a6, 1, none⟩ (.slice c1 e3.length b8)).setCell ⟨a6, 2, none⟩ (.slice d0 e4.length b9))) := ⟨hs HB.out⟩
            (try clear HO_706000)
            (try clear HO_711001)
            (try clear HO_721000)
            (try clear HO_722000)
            (try clear HO_722001)
            (try clear d6)
            (try clear d7)
            (try clear a4)
            (try clear a1)
            (try clear a3)
            (try clear a0)
            (try clear a2)
            (try clear a9)
            (try clear HB)
            generalize (((m4.setCell ⟨a6, 0, none⟩ (.int .i64 h7)).setCell ⟨a6, 1, none⟩ (.slice c1 e3.length b8)).setCell ⟨a6, 2, none⟩ (.slice d0 e4.length b9)) = K5 at m5 m6 m7 m8 m9 n0 n1 n2 n3 n4 i9 r4 r5 r6 ⊢
            have HO_706000 := m5
            have HO_711001 := m6
            have HO_721000 := m7
            have HO_722000 := m8
            have HO_722001 := m9
            have d6 := n0
            have d7 := n1
            have a4 := n2
            have a1 := n3
            have a3 := n4
            have a0 := i9
            have a2 := r4
            have a9 := r5
            have HB := r6
            clear m5 m6 m7 m8 m9 n0 n1 n2 n3 n4 i9 r4 r5 r6
            replace HO_706000 := am (Kd.R_drew HO_706000.out)
            replace HO_711001 := am (Kd.R_drew HO_711001.out)
            replace HO_721000 := am (Kd.R_drew HO_721000.out)
            replace HO_722000 := am (Kd.R_drew HO_722000.out)
            replace HO_722001 := am (Kd.R_drew HO_722001.out)
            replace d6 := am (Kd.R_drew d6.out)
            replace d7 := am (Kd.R_drew d7.out)
            replace a4 := am (blk_drew a4.out)
            replace a1 := am (blk_drew a1.out)
            replace a3 := am (blk_drew a3.out)
            replace a0 := am (blk_drew a0.out)
            replace a2 := am (blk_drew a2.out)
            replace a9 := am (blk_drew a9.out)
            replace HB := am (below_drew1 HB.out)
            refine st_ (n := 9) (S := fun w' => w'.cell? ⟨g9, 0, none⟩ = some (.slice e6 b6.length e5) ∧ w'.cell? ⟨d8, 0, none⟩ = some (.slice d3 a8.length d1) ∧ w'.cell? ⟨d8, 1, none⟩ = some (.slice d5 b4.length d4)) (ds := []) ⟨(blk_cell a3.out 0).trans rfl, (blk_cell a0.out 0).trans rfl, (blk_cell a0.out 1).trans rfl⟩ (fun hHeld => ?_); refine with_tabW laws_FnTexts.tab14 laws_FnTexts.bits14 (fun e7 k4 => ?_)
            generalize K5.drew = V4 at HO_706000 HO_711001 HO_721000 HO_722000 HO_722001 d6 d7 a4 a1 a3 a0 a2 a9 HB hHeld ⊢
            refine pu 2 73 rfl rfl e7 ?_
            refine tk 0 71 rfl rfl e7 k4 hHeld ?_
            refine tk 1 72 rfl rfl e7 k4 hHeld ?_
            refine tk 3 74 rfl rfl e7 k4 hHeld ?_
            refine join_ (σ := Value × Nat) 1 #[true, true, true, true, true, true, true, true, false] (fun s_ => [(75, .agg #[.int .i64 r8, .string k5]), (77, .agg #[.int .i64 k6, s_.1]), (10, .pointer (some ⟨s_.2, 0, none⟩)), (76, .string k5)]) (fun s_ w' => (w'.cell? ⟨g9, 0, none⟩ = some (.slice e6 b6.length e5) ∧ w'.cell? ⟨d8, 0, none⟩ = some (.slice d3 a8.length d1) ∧ w'.cell? ⟨d8, 1, none⟩ = some (.slice d5 b4.length d4)) ∧ (Kd.R (Kd.int .i64) 2 w' w.heap.size (fun k_ => some k_ ≠ (.slice d0 e4.length b9 : Value).ownBlock ∧ some k_ ≠ (s_.1 : Value).ownBlock ∧ some k_ ≠ (.slice d9 d2.length e0 : Value).ownBlock ∧ some k_ ≠ (.slice d3 a8.length d1 : Value).ownBlock ∧ some k_ ≠ (.slice d5 b4.length d4 : Value).ownBlock) (.slice c1 e3.length b8) e3) ∧ (Kd.R (Kd.int .i64) 2 w' w.heap.size (fun k_ => some k_ ≠ (.slice c1 e3.length b8 : Value).ownBlock ∧ some k_ ≠ (s_.1 : Value).ownBlock ∧ some k_ ≠ (.slice d9 d2.length e0 : Value).ownBlock ∧ some k_ ≠ (.slice d3 a8.length d1 : Value).ownBlock ∧ some k_ ≠ (.slice d5 b4.length d4 : Value).ownBlock) (.slice d0 e4.length b9) e4) ∧ (Kd.R (Kd.int .i64) 2 w' w.heap.size (fun k_ => some k_ ≠ (.slice c1 e3.length b8 : Value).ownBlock ∧ some k_ ≠ (.slice d0 e4.length b9 : Value).ownBlock ∧ some k_ ≠ (.slice d9 d2.length e0 : Value).ownBlock ∧ some k_ ≠ (.slice d3 a8.length d1 : Value).ownBlock ∧ some k_ ≠ (.slice d5 b4.length d4 : Value).ownBlock) s_.1 i5) ∧ (Kd.R k90 90 w' w.heap.size (fun k_ => some k_ ≠ (.slice e6 b6.length e5 : Value).ownBlock) (.slice g3 e1.length g2) e1) ∧ (Kd.R (Kd.int .i64) 2 w' w.heap.size (fun k_ => some k_ ≠ (.slice c1 e3.length b8 : Value).ownBlock ∧ some k_ ≠ (.slice d0 e4.length b9 : Value).ownBlock ∧ some k_ ≠ (s_.1 : Value).ownBlock ∧ some k_ ≠ (.slice d3 a8.length d1 : Value).ownBlock ∧ some k_ ≠ (.slice d5 b4.length d4 : Value).ownBlock) (.slice d9 d2.length e0) d2) ∧ (Kd.R k90 90 w' w.heap.size (fun k_ => some k_ ≠ (.slice g3 e1.length g2 : Value).ownBlock) (.slice e6 b6.length e5) b6) ∧ (Kd.R (Kd.int .i64) 2 w' w.heap.size (fun k_ => some k_ ≠ (.slice c1 e3.length b8 : Value).ownBlock ∧ some k_ ≠ (.slice d0 e4.length b9 : Value).ownBlock ∧ some k_ ≠ (s_.1 : Value).ownBlock ∧ some k_ ≠ (.slice d9 d2.length e0 : Value).ownBlock ∧ some k_ ≠ (.slice d5 b4.length d4 : Value).ownBlock) (.slice d3 a8.length d1) a8) ∧ (Kd.R (Kd.int .i64) 2 w' w.heap.size (fun k_ => some k_ ≠ (.slice c1 e3.length b8 : Value).ownBlock ∧ some k_ ≠ (.slice d0 e4.length b9 : Value).ownBlock ∧ some k_ ≠ (s_.1 : Value).ownBlock ∧ some k_ ≠ (.slice d9 d2.length e0 : Value).ownBlock ∧ some k_ ≠ (.slice d3 a8.length d1 : Value).ownBlock) (.slice d5 b4.length d4) b4) ∧ (w'.heap[h9]? = some (.cells #[.slice g3 e1.length g2] 26 (0, 0))) ∧ (w'.heap[e8]? = some (.cells #[.int .i64 i0, .slice d9 d2.length e0] 37 (0, 0))) ∧ (w'.heap[g9]? = some (.cells #[.slice e6 b6.length e5] 26 (0, 0))) ∧ (w'.heap[d8]? = some (.cells #[.slice d3 a8.length d1, .slice d5 b4.length d4] 29 (0, 0))) ∧ (w'.heap[a5]? = some (.cells #[.int .i64 b5, .string b7] 46 (0, 0))) ∧ (w'.heap[a6]? = some (.cells #[.int .i64 h7, .slice c1 e3.length b8, .slice d0 e4.length b9] 33 (0, 0))) ∧ (w'.heap[s_.2]? = some (.cells #[.int .i64 0, .slice none 0 0] 37 (0, 0))) ∧ (w.heap.size ≤ s_.2) ∧ (w.heap.size ≤ s_.2) ∧ (h9 ≠ s_.2) ∧ (s_.2 ≠ h9) ∧ (e8 ≠ s_.2) ∧ (s_.2 ≠ e8) ∧ (g9 ≠ s_.2) ∧ (s_.2 ≠ g9) ∧ (d8 ≠ s_.2) ∧ (s_.2 ≠ d8) ∧ (a5 ≠ s_.2) ∧ (s_.2 ≠ a5) ∧ (a6 ≠ s_.2) ∧ (s_.2 ≠ a6) ∧ (Below w.heap.size w w')) ?_ ?_
            rotate_left
            ·intro hCont
             refine two_ (i := 4) (j := 7) (Ni := some 75) (Nj := some 10) #[true, true, true, true, true, false, false, false, false] #[true, true, true, true, false, false, false, true, false] rfl rfl rfl rfl (two_of e7.out (by kernel_rfl)) (by decide) (by decide) (fun K hK => ?_) (fun K hK => ?_)
             ·skip
              refine gs Tryz.func20 #[.agg #[.slice e6 b6.length e5], .slice d3 a8.length d1] ?_
              refine (impl_TermText.calls m0 _ _ b6 _ _ a8 r8 k5 _ (cq (Kd.R_reads' HO_721000.out).2.2) ((Kd.R_reads' HO_721000.out).2.1) (cq (Kd.R_reads' HO_722000.out).2.2) ((Kd.R_reads' HO_722000.out).2.1) K8.out).mono ?_
              rintro e K6 ⟨rfl, hb⟩
              refine ⟨_, rfl, ?_⟩
              replace HO_706000 := rb HO_706000 hb
              replace HO_711001 := rb HO_711001 hb
              replace HO_721000 := rb HO_721000 hb
              replace HO_722000 := rb HO_722000 hb
              replace HO_722001 := rb HO_722001 hb
              replace d6 := rb d6 hb
              replace d7 := rb d7 hb
              replace a4 := bb a4 hb
              replace a1 := bb a1 hb
              replace a3 := bb a3 hb
              replace a0 := bb a0 hb
              replace a2 := bb a2 hb
              replace a9 := bb a9 hb
              replace HB := sb HB hb
              (try clear hb)
              (try clear hk)
              refine hK.out _ _ ⟨(blk_cell a3.out 0).trans rfl, (blk_cell a0.out 0).trans rfl, (blk_cell a0.out 1).trans rfl⟩ (fun hHeld => ?_)
              clear hK K
              refine nr (some 75) ?_
              refine pu 5 76 rfl rfl e7 ?_
              refine two_ (i := 6) (j := 7) (Ni := some 77) (Nj := some 10) #[true, true, true, true, true, true, true, false, false] #[true, true, true, true, true, true, false, true, false] rfl rfl rfl rfl (two_of e7.out (by kernel_rfl)) (by decide) (by decide) (fun K hK => ?_) (fun K hK => ?_)
              ·skip
               refine gs Tryz.func15 #[.agg #[.slice e6 b6.length e5], .string k5] ?_
               refine (impl_ReadTerm.calls m0 _ _ b6 k5 k6 i5 _ (cq (Kd.R_reads' HO_721000.out).2.2) ((Kd.R_reads' HO_721000.out).2.1) F7.out).mono ?_
               rintro e B0 ⟨o6, rfl, h6, hb⟩
               refine ⟨_, rfl, ?_⟩
               replace HO_706000 := rb HO_706000 hb
               replace HO_721000 := rb HO_721000 hb
               have i4 := am (Kd.R_lower (Kd.R_new' (Kd.R_new' (Kd.R_new' (Kd.R_new' (Kd.R_new' h6 (Kd.R_lt (rq HO_711001.out))) (Kd.R_lt (rq HO_722000.out))) (Kd.R_lt (rq HO_722001.out))) (Kd.R_lt (rq d6.out))) (Kd.R_lt (rq d7.out))) (below_size (hs HB.out)))
               replace HO_711001 := am (Kd.R_elder' (rq HO_711001.out) (Kd.R_base h6) hb)
               replace HO_722000 := am (Kd.R_elder' (rq HO_722000.out) (Kd.R_base h6) hb)
               replace HO_722001 := am (Kd.R_elder' (rq HO_722001.out) (Kd.R_base h6) hb)
               replace d6 := am (Kd.R_elder' (rq d6.out) (Kd.R_base h6) hb)
               replace d7 := am (Kd.R_elder' (rq d7.out) (Kd.R_base h6) hb)
               replace a4 := bb a4 hb
               replace a1 := bb a1 hb
               replace a3 := bb a3 hb
               replace a0 := bb a0 hb
               replace a2 := bb a2 hb
               replace a9 := bb a9 hb
               replace HB := sb HB hb
               (try clear hb)
               (try clear hk)
               (try clear h6)
               refine hK.out _ _ ⟨(blk_cell a3.out 0).trans rfl, (blk_cell a0.out 0).trans rfl, (blk_cell a0.out 1).trans rfl⟩ (fun hHeld => ?_)
               clear hK K
               refine nr (some 77) ?_
               refine on_ 7 (some 10) rfl rfl e7 (fun K hK => ?_)
               refine box_step ?hg (N := 10) ?hd (cs := #[.int .i64 0, .slice none 0 0]) (t := 37) ?hr ?_; (case hd => rfl); (case hg => rfl); (case hr => first | (go_simp; done) | (go_simp; rfl))
               intro g0 hg B4 hbox hb
               replace HO_706000 := rb HO_706000 hb
               replace HO_711001 := rb HO_711001 hb
               replace HO_721000 := rb HO_721000 hb
               replace HO_722000 := rb HO_722000 hb
               replace HO_722001 := rb HO_722001 hb
               replace d6 := rb d6 hb
               replace d7 := rb d7 hb
               replace i4 := rb i4 hb
               have e9 := am (hbox)
               have k8 := am (bz hg (hs HB.out))
               have k7 := am (bz hg (hs HB.out))
               replace HB := sb HB hb
               have h0 := nl hg a4
               have g5 := ng hg a4
               replace a4 := bb a4 hb
               have h2 := nl hg a1
               have g6 := ng hg a1
               replace a1 := bb a1 hb
               have g1 := nl hg a3
               have g7 := ng hg a3
               replace a3 := bb a3 hb
               have e2 := nl hg a0
               have h4 := ng hg a0
               replace a0 := bb a0 hb
               have h3 := nl hg a2
               have g8 := ng hg a2
               replace a2 := bb a2 hb
               have g4 := nl hg a9
               have h5 := ng hg a9
               replace a9 := bb a9 hb
               clear hb hbox hg
               refine hK.out _ _ ⟨(blk_cell a3.out 0).trans rfl, (blk_cell a0.out 0).trans rfl, (blk_cell a0.out 1).trans rfl⟩ (fun hHeld => ?_)
               clear hK K
               refine nr (some 10) ?_
               exact nj (hCont (o6, g0) _ ⟨hHeld, (rq (Kd.R_mono d6.out (fun _ hk => ⟨hk.1.2.2.2, ⟨hk.2, ⟨hk.1.1, ⟨hk.1.2.1, hk.1.2.2.1⟩⟩⟩⟩))), (rq (Kd.R_mono d7.out (fun _ hk => ⟨hk.1.2.2.2, ⟨hk.2, ⟨hk.1.1, ⟨hk.1.2.1, hk.1.2.2.1⟩⟩⟩⟩))), (rq (Kd.R_mono i4.out (fun _ hk => ⟨hk.1.2, ⟨hk.2, ⟨hk.1.1.1.1.2, ⟨hk.1.1.1.2, hk.1.1.2⟩⟩⟩⟩))), (rq HO_706000.out), (rq (Kd.R_mono HO_711001.out (fun _ hk => ⟨hk.1.2.2.1, ⟨hk.1.2.2.2, ⟨hk.2, ⟨hk.1.1, hk.1.2.1⟩⟩⟩⟩))), (rq HO_721000.out), (rq (Kd.R_mono HO_722000.out (fun _ hk => ⟨hk.1.2.2.1, ⟨hk.1.2.2.2, ⟨hk.2, ⟨hk.1.1, hk.1.2.1⟩⟩⟩⟩))), (rq (Kd.R_mono HO_722001.out (fun _ hk => ⟨hk.1.2.2.1, ⟨hk.1.2.2.2, ⟨hk.2, ⟨hk.1.1, hk.1.2.1⟩⟩⟩⟩))), (bq a4.out), (bq a1.out), (bq a3.out), (bq a0.out), (bq a2.out), (bq a9.out), (bq e9.out), k8.out, k7.out, h0.out, g5.out, h2.out, g6.out, g1.out, g7.out, e2.out, h4.out, h3.out, g8.out, g4.out, h5.out, (hs HB.out)⟩)
              ·skip
               refine box_step ?hg (N := 10) ?hd (cs := #[.int .i64 0, .slice none 0 0]) (t := 37) ?hr ?_; (case hd => rfl); (case hg => rfl); (case hr => first | (go_simp; done) | (go_simp; rfl))
               intro g0 hg B0 hbox hb
               replace HO_706000 := rb HO_706000 hb
               replace HO_711001 := rb HO_711001 hb
               replace HO_721000 := rb HO_721000 hb
               replace HO_722000 := rb HO_722000 hb
               replace HO_722001 := rb HO_722001 hb
               replace d6 := rb d6 hb
               replace d7 := rb d7 hb
               have e9 := am (hbox)
               have k8 := am (bz hg (hs HB.out))
               have k7 := am (bz hg (hs HB.out))
               replace HB := sb HB hb
               have h0 := nl hg a4
               have g5 := ng hg a4
               replace a4 := bb a4 hb
               have h2 := nl hg a1
               have g6 := ng hg a1
               replace a1 := bb a1 hb
               have g1 := nl hg a3
               have g7 := ng hg a3
               replace a3 := bb a3 hb
               have e2 := nl hg a0
               have h4 := ng hg a0
               replace a0 := bb a0 hb
               have h3 := nl hg a2
               have g8 := ng hg a2
               replace a2 := bb a2 hb
               have g4 := nl hg a9
               have h5 := ng hg a9
               replace a9 := bb a9 hb
               clear hb hbox hg
               refine hK.out _ _ ⟨(blk_cell a3.out 0).trans rfl, (blk_cell a0.out 0).trans rfl, (blk_cell a0.out 1).trans rfl⟩ (fun hHeld => ?_)
               clear hK K
               refine nr (some 10) ?_
               refine on_ 6 (some 77) rfl rfl e7 (fun K hK => ?_)
               refine gs Tryz.func15 #[.agg #[.slice e6 b6.length e5], .string k5] ?_
               refine (impl_ReadTerm.calls m0 _ _ b6 k5 k6 i5 _ (cq (Kd.R_reads' HO_721000.out).2.2) ((Kd.R_reads' HO_721000.out).2.1) F7.out).mono ?_
               rintro e B4 ⟨o6, rfl, h6, hb⟩
               refine ⟨_, rfl, ?_⟩
               replace HO_706000 := rb HO_706000 hb
               replace HO_721000 := rb HO_721000 hb
               have i4 := am (Kd.R_lower (Kd.R_new' (Kd.R_new' (Kd.R_new' (Kd.R_new' (Kd.R_new' h6 (Kd.R_lt (rq HO_711001.out))) (Kd.R_lt (rq HO_722000.out))) (Kd.R_lt (rq HO_722001.out))) (Kd.R_lt (rq d6.out))) (Kd.R_lt (rq d7.out))) (below_size (hs HB.out)))
               replace HO_711001 := am (Kd.R_elder' (rq HO_711001.out) (Kd.R_base h6) hb)
               replace HO_722000 := am (Kd.R_elder' (rq HO_722000.out) (Kd.R_base h6) hb)
               replace HO_722001 := am (Kd.R_elder' (rq HO_722001.out) (Kd.R_base h6) hb)
               replace d6 := am (Kd.R_elder' (rq d6.out) (Kd.R_base h6) hb)
               replace d7 := am (Kd.R_elder' (rq d7.out) (Kd.R_base h6) hb)
               replace a4 := bb a4 hb
               replace a1 := bb a1 hb
               replace a3 := bb a3 hb
               replace a0 := bb a0 hb
               replace a2 := bb a2 hb
               replace a9 := bb a9 hb
               replace e9 := bb e9 hb
               replace HB := sb HB hb
               (try clear hb)
               (try clear hk)
               (try clear h6)
               refine hK.out _ _ ⟨(blk_cell a3.out 0).trans rfl, (blk_cell a0.out 0).trans rfl, (blk_cell a0.out 1).trans rfl⟩ (fun hHeld => ?_)
               clear hK K
               refine nr (some 77) ?_
               exact nj (hCont (o6, g0) _ ⟨hHeld, (rq (Kd.R_mono d6.out (fun _ hk => ⟨hk.1.2.2.2, ⟨hk.2, ⟨hk.1.1, ⟨hk.1.2.1, hk.1.2.2.1⟩⟩⟩⟩))), (rq (Kd.R_mono d7.out (fun _ hk => ⟨hk.1.2.2.2, ⟨hk.2, ⟨hk.1.1, ⟨hk.1.2.1, hk.1.2.2.1⟩⟩⟩⟩))), (rq (Kd.R_mono i4.out (fun _ hk => ⟨hk.1.2, ⟨hk.2, ⟨hk.1.1.1.1.2, ⟨hk.1.1.1.2, hk.1.1.2⟩⟩⟩⟩))), (rq HO_706000.out), (rq (Kd.R_mono HO_711001.out (fun _ hk => ⟨hk.1.2.2.1, ⟨hk.1.2.2.2, ⟨hk.2, ⟨hk.1.1, hk.1.2.1⟩⟩⟩⟩))), (rq HO_721000.out), (rq (Kd.R_mono HO_722000.out (fun _ hk => ⟨hk.1.2.2.1, ⟨hk.1.2.2.2, ⟨hk.2, ⟨hk.1.1, hk.1.2.1⟩⟩⟩⟩))), (rq (Kd.R_mono HO_722001.out (fun _ hk => ⟨hk.1.2.2.1, ⟨hk.1.2.2.2, ⟨hk.2, ⟨hk.1.1, hk.1.2.1⟩⟩⟩⟩))), (bq a4.out), (bq a1.out), (bq a3.out), (bq a0.out), (bq a2.out), (bq a9.out), (bq e9.out), k8.out, k7.out, h0.out, g5.out, h2.out, g6.out, g1.out, g7.out, e2.out, h4.out, h3.out, g8.out, g4.out, h5.out, (hs HB.out)⟩)
             ·skip
              refine box_step ?hg (N := 10) ?hd (cs := #[.int .i64 0, .slice none 0 0]) (t := 37) ?hr ?_; (case hd => rfl); (case hg => rfl); (case hr => first | (go_simp; done) | (go_simp; rfl))
              intro g0 hg K6 hbox hb
              replace HO_706000 := rb HO_706000 hb
              replace HO_711001 := rb HO_711001 hb
              replace HO_721000 := rb HO_721000 hb
              replace HO_722000 := rb HO_722000 hb
              replace HO_722001 := rb HO_722001 hb
              replace d6 := rb d6 hb
              replace d7 := rb d7 hb
              have e9 := am (hbox)
              have k8 := am (bz hg (hs HB.out))
              have k7 := am (bz hg (hs HB.out))
              replace HB := sb HB hb
              have h0 := nl hg a4
              have g5 := ng hg a4
              replace a4 := bb a4 hb
              have h2 := nl hg a1
              have g6 := ng hg a1
              replace a1 := bb a1 hb
              have g1 := nl hg a3
              have g7 := ng hg a3
              replace a3 := bb a3 hb
              have e2 := nl hg a0
              have h4 := ng hg a0
              replace a0 := bb a0 hb
              have h3 := nl hg a2
              have g8 := ng hg a2
              replace a2 := bb a2 hb
              have g4 := nl hg a9
              have h5 := ng hg a9
              replace a9 := bb a9 hb
              clear hb hbox hg
              refine hK.out _ _ ⟨(blk_cell a3.out 0).trans rfl, (blk_cell a0.out 0).trans rfl, (blk_cell a0.out 1).trans rfl⟩ (fun hHeld => ?_)
              clear hK K
              refine nr (some 10) ?_
              refine on_ 4 (some 75) rfl rfl e7 (fun K hK => ?_)
              refine gs Tryz.func20 #[.agg #[.slice e6 b6.length e5], .slice d3 a8.length d1] ?_
              refine (impl_TermText.calls m0 _ _ b6 _ _ a8 r8 k5 _ (cq (Kd.R_reads' HO_721000.out).2.2) ((Kd.R_reads' HO_721000.out).2.1) (cq (Kd.R_reads' HO_722000.out).2.2) ((Kd.R_reads' HO_722000.out).2.1) K8.out).mono ?_
              rintro e B0 ⟨rfl, hb⟩
              refine ⟨_, rfl, ?_⟩
              replace HO_706000 := rb HO_706000 hb
              replace HO_711001 := rb HO_711001 hb
              replace HO_721000 := rb HO_721000 hb
              replace HO_722000 := rb HO_722000 hb
              replace HO_722001 := rb HO_722001 hb
              replace d6 := rb d6 hb
              replace d7 := rb d7 hb
              replace a4 := bb a4 hb
              replace a1 := bb a1 hb
              replace a3 := bb a3 hb
              replace a0 := bb a0 hb
              replace a2 := bb a2 hb
              replace a9 := bb a9 hb
              replace e9 := bb e9 hb
              replace HB := sb HB hb
              (try clear hb)
              (try clear hk)
              refine hK.out _ _ ⟨(blk_cell a3.out 0).trans rfl, (blk_cell a0.out 0).trans rfl, (blk_cell a0.out 1).trans rfl⟩ (fun hHeld => ?_)
              clear hK K
              refine nr (some 75) ?_
              refine pu 5 76 rfl rfl e7 ?_
              refine on_ 6 (some 77) rfl rfl e7 (fun K hK => ?_)
              refine gs Tryz.func15 #[.agg #[.slice e6 b6.length e5], .string k5] ?_
              refine (impl_ReadTerm.calls m0 _ _ b6 k5 k6 i5 _ (cq (Kd.R_reads' HO_721000.out).2.2) ((Kd.R_reads' HO_721000.out).2.1) F7.out).mono ?_
              rintro e B4 ⟨o6, rfl, h6, hb⟩
              refine ⟨_, rfl, ?_⟩
              replace HO_706000 := rb HO_706000 hb
              replace HO_721000 := rb HO_721000 hb
              have i4 := am (Kd.R_lower (Kd.R_new' (Kd.R_new' (Kd.R_new' (Kd.R_new' (Kd.R_new' h6 (Kd.R_lt (rq HO_711001.out))) (Kd.R_lt (rq HO_722000.out))) (Kd.R_lt (rq HO_722001.out))) (Kd.R_lt (rq d6.out))) (Kd.R_lt (rq d7.out))) (below_size (hs HB.out)))
              replace HO_711001 := am (Kd.R_elder' (rq HO_711001.out) (Kd.R_base h6) hb)
              replace HO_722000 := am (Kd.R_elder' (rq HO_722000.out) (Kd.R_base h6) hb)
              replace HO_722001 := am (Kd.R_elder' (rq HO_722001.out) (Kd.R_base h6) hb)
              replace d6 := am (Kd.R_elder' (rq d6.out) (Kd.R_base h6) hb)
              replace d7 := am (Kd.R_elder' (rq d7.out) (Kd.R_base h6) hb)
              replace a4 := bb a4 hb
              replace a1 := bb a1 hb
              replace a3 := bb a3 hb
              replace a0 := bb a0 hb
              replace a2 := bb a2 hb
              replace a9 := bb a9 hb
              replace e9 := bb e9 hb
              replace HB := sb HB hb
              (try clear hb)
              (try clear hk)
              (try clear h6)
              refine hK.out _ _ ⟨(blk_cell a3.out 0).trans rfl, (blk_cell a0.out 0).trans rfl, (blk_cell a0.out 1).trans rfl⟩ (fun hHeld => ?_)
              clear hK K
              refine nr (some 77) ?_
              exact nj (hCont (o6, g0) _ ⟨hHeld, (rq (Kd.R_mono d6.out (fun _ hk => ⟨hk.1.2.2.2, ⟨hk.2, ⟨hk.1.1, ⟨hk.1.2.1, hk.1.2.2.1⟩⟩⟩⟩))), (rq (Kd.R_mono d7.out (fun _ hk => ⟨hk.1.2.2.2, ⟨hk.2, ⟨hk.1.1, ⟨hk.1.2.1, hk.1.2.2.1⟩⟩⟩⟩))), (rq (Kd.R_mono i4.out (fun _ hk => ⟨hk.1.2, ⟨hk.2, ⟨hk.1.1.1.1.2, ⟨hk.1.1.1.2, hk.1.1.2⟩⟩⟩⟩))), (rq HO_706000.out), (rq (Kd.R_mono HO_711001.out (fun _ hk => ⟨hk.1.2.2.1, ⟨hk.1.2.2.2, ⟨hk.2, ⟨hk.1.1, hk.1.2.1⟩⟩⟩⟩))), (rq HO_721000.out), (rq (Kd.R_mono HO_722000.out (fun _ hk => ⟨hk.1.2.2.1, ⟨hk.1.2.2.2, ⟨hk.2, ⟨hk.1.1, hk.1.2.1⟩⟩⟩⟩))), (rq (Kd.R_mono HO_722001.out (fun _ hk => ⟨hk.1.2.2.1, ⟨hk.1.2.2.2, ⟨hk.2, ⟨hk.1.1, hk.1.2.1⟩⟩⟩⟩))), (bq a4.out), (bq a1.out), (bq a3.out), (bq a0.out), (bq a2.out), (bq a9.out), (bq e9.out), k8.out, k7.out, h0.out, g5.out, h2.out, g6.out, g1.out, g7.out, e2.out, h4.out, h3.out, g8.out, g4.out, h5.out, (hs HB.out)⟩)
            clear HO_706000 HO_711001 HO_721000 HO_722000 HO_722001 d6 d7 a4 a1 a3 a0 a2 a9 HB
            rintro ⟨o6, g0⟩ r9 ⟨L7, G1, G2, G3, G4, G5, G6, G7, G8, G9, H0, p4, p5, p6, p7, p8, p9, q0, q1, q2, q3, q4, q5, q6, q7, q8, q9, r0, r1, r2, r3⟩
            try dsimp only at L7 G1 G2 G3 G4 G5 G6 G7 G8 G9 H0 p4 p5 p6 p7 p8 p9 q0 q1 q2 q3 q4 q5 q6 q7 q8 q9 r0 r1 r2 r3
            have d6 := am G1; have d7 := am G2; have i4 := am G3; have HO_706000 := am G4; have HO_711001 := am G5; have HO_721000 := am G6; have HO_722000 := am G7; have HO_722001 := am G8; have a4 := am G9; have a1 := am H0; have a3 := am p4; have a0 := am p5; have a2 := am p6; have a9 := am p7; have e9 := am p8; have k8 := am p9; have k7 := am q0; have h0 := am q1; have g5 := am q2; have h2 := am q3; have g6 := am q4; have g1 := am q5; have g7 := am q6; have e2 := am q7; have h4 := am q8; have h3 := am q9; have g8 := am r0; have g4 := am r1; have h5 := am r2; have HB := am r3; clear G1 G2 G3 G4 G5 G6 G7 G8 G9 H0 p4 p5 p6 p7 p8 p9 q0 q1 q2 q3 q4 q5 q6 q7 q8 q9 r0 r1 r2 r3; have hHeld := L7
            obtain ⟨i3, i1, p2⟩ := Kd.R_slice i4.out
            (first | subst p2 | (injection p2 with f1_ f2_ f3_; have T8 := f1_.symm; have T9 := f3_.symm; clear f1_ f2_ f3_; subst T8; subst T9))
            refine nj ?_
            refine on_ 8 none rfl rfl e7 (fun K hK => ?_)
            have S3 : r9.cell? ⟨g0, 0, none⟩ = some (.int .i64 0) := (blk_cell e9.out 0).trans rfl
            have H1 := blk_frozen e9.out 0
            have y8 := h0.out
            have y9 := h2.out
            have z0 := g1.out
            have z1 := e2.out
            have z2 := h3.out
            have z3 := g4.out
            have x6 := g5.out
            have x7 := g6.out
            have x8 := g7.out
            have x9 := h4.out
            have y0 := g8.out
            have y1 := h5.out
            have S4 : r9.cell? ⟨g0, 1, none⟩ = some (.slice none 0 0) := (blk_cell e9.out 1).trans rfl
            have H2 := blk_frozen e9.out 1
            have z4 := h0.out
            have z5 := h2.out
            have z6 := g1.out
            have z7 := e2.out
            have z8 := h3.out
            have z9 := g4.out
            have y2 := g5.out
            have y3 := g6.out
            have y4 := g7.out
            have y5 := h4.out
            have y6 := g8.out
            have y7 := h5.out
            refine skip_ (w1 := ?_) (by rfl) rfl ?_ ?_
            rotate_left
            ·go_simp
             rfl
            refine hK.out _ _ ⟨((cell_far (p := ⟨g0, _, none⟩) g1.out _).trans (((cell_far (p := ⟨g0, _, none⟩) g1.out _).trans (hHeld.1)))), ((cell_far (p := ⟨g0, _, none⟩) e2.out _).trans (((cell_far (p := ⟨g0, _, none⟩) e2.out _).trans (hHeld.2.1)))), ((cell_far (p := ⟨g0, _, none⟩) e2.out _).trans (((cell_far (p := ⟨g0, _, none⟩) e2.out _).trans (hHeld.2.2))))⟩ (fun hHeld => ?_)
            clear hK K
            refine done_ (done_of e7.out (by kernel_rfl)) ?_
            obtain ⟨H5, I9⟩ := nn g4
            have v3 := c0_ a9
            have v4 := c1_ a9
            have v5 : r9.cell? ⟨a6, 2, none⟩ = some (.slice d0 e4.length b9) := (blk_cell a9.out 2).trans rfl
            have w7 := blk_frozen a9.out 0
            have w8 := blk_frozen a9.out 1
            have w9 := blk_frozen a9.out 2
            obtain ⟨H6, J0⟩ := nn l8
            obtain ⟨H7, J1⟩ := nn l9
            obtain ⟨H8, J2⟩ := nn e2
            have v6 := c0_ a0
            have v7 := c1_ a0
            have x0 := blk_frozen a0.out 0
            have x1 := blk_frozen a0.out 1
            try go_wp2_with (first | (go_at_call 22; (with_reducible refine (laws_lwNums.calls m0 _ _ e3 _ _ a8 true _ ?side1 ?side2 ?side3 ?side4 S9.out).mono ?_); (case side1 => refine (Kd.R_reads' (e := 2) (base := w.heap.size) (ok := fun k_ => (some k_ ≠ (.slice d0 e4.length b9 : Value).ownBlock ∧ (some k_ ≠ (.slice i3 i5.length i1 : Value).ownBlock ∧ (some k_ ≠ (.slice d9 d2.length e0 : Value).ownBlock ∧ (some k_ ≠ (.slice d3 a8.length d1 : Value).ownBlock ∧ some k_ ≠ (.slice d5 b4.length d4 : Value).ownBlock))))) (n := e3.length) (c := b8) ?_).2.2; exact (rq ((Kd.R_mono (Kd.R_far (p := ⟨g0, 1, none⟩) (Kd.R_far (p := ⟨g0, 0, none⟩) (Kd.R_types d6.out e9.out (by decide)) (fun _ hk => hk.2) (.int .i64 k6)) (fun _ hk => hk.2) (.slice i3 i5.length i1)) (fun _ h_ => h_.1))))); (case side2 => exact (Kd.R_reads' d6.out).2.1); (case side3 => refine (Kd.R_reads' (e := 2) (base := w.heap.size) (ok := fun k_ => (some k_ ≠ (.slice c1 e3.length b8 : Value).ownBlock ∧ (some k_ ≠ (.slice d0 e4.length b9 : Value).ownBlock ∧ (some k_ ≠ (.slice i3 i5.length i1 : Value).ownBlock ∧ (some k_ ≠ (.slice d9 d2.length e0 : Value).ownBlock ∧ some k_ ≠ (.slice d5 b4.length d4 : Value).ownBlock))))) (n := a8.length) (c := d1) ?_).2.2; exact (rq ((Kd.R_mono (Kd.R_far (p := ⟨g0, 1, none⟩) (Kd.R_far (p := ⟨g0, 0, none⟩) (Kd.R_types HO_722000.out e9.out (by decide)) (fun _ hk => hk.2) (.int .i64 k6)) (fun _ hk => hk.2) (.slice i3 i5.length i1)) (fun _ h_ => h_.1))))); (case side4 => exact (Kd.R_reads' HO_722000.out).2.1); rintro e w' ⟨rfl, ⟨nd, rfl⟩⟩) | (go_at_call 22; (with_reducible refine (laws_lwNums.calls m0 _ _ e4 _ _ b4 true _ ?side1 ?side2 ?side3 ?side4 T0.out).mono ?_); (case side1 => refine (Kd.R_reads' (e := 2) (base := w.heap.size) (ok := fun k_ => (some k_ ≠ (.slice c1 e3.length b8 : Value).ownBlock ∧ (some k_ ≠ (.slice i3 i5.length i1 : Value).ownBlock ∧ (some k_ ≠ (.slice d9 d2.length e0 : Value).ownBlock ∧ (some k_ ≠ (.slice d3 a8.length d1 : Value).ownBlock ∧ some k_ ≠ (.slice d5 b4.length d4 : Value).ownBlock))))) (n := e4.length) (c := b9) ?_).2.2; exact (rq ((Kd.R_mono (Kd.R_far (p := ⟨g0, 1, none⟩) (Kd.R_far (p := ⟨g0, 0, none⟩) (Kd.R_types d7.out e9.out (by decide)) (fun _ hk => hk.2) (.int .i64 k6)) (fun _ hk => hk.2) (.slice i3 i5.length i1)) (fun _ h_ => h_.1))))); (case side2 => exact (Kd.R_reads' d7.out).2.1); (case side3 => refine (Kd.R_reads' (e := 2) (base := w.heap.size) (ok := fun k_ => (some k_ ≠ (.slice c1 e3.length b8 : Value).ownBlock ∧ (some k_ ≠ (.slice d0 e4.length b9 : Value).ownBlock ∧ (some k_ ≠ (.slice i3 i5.length i1 : Value).ownBlock ∧ (some k_ ≠ (.slice d9 d2.length e0 : Value).ownBlock ∧ some k_ ≠ (.slice d3 a8.length d1 : Value).ownBlock))))) (n := b4.length) (c := d4) ?_).2.2; exact (rq ((Kd.R_mono (Kd.R_far (p := ⟨g0, 1, none⟩) (Kd.R_far (p := ⟨g0, 0, none⟩) (Kd.R_types HO_722001.out e9.out (by decide)) (fun _ hk => hk.2) (.int .i64 k6)) (fun _ hk => hk.2) (.slice i3 i5.length i1)) (fun _ h_ => h_.1))))); (case side4 => exact (Kd.R_reads' HO_722001.out).2.1); rintro e w' ⟨rfl, ⟨nd, rfl⟩⟩; obtain ⟨H9, J3⟩ := nn g5; obtain ⟨I0, J4⟩ := nn g6; obtain ⟨I1, J5⟩ := nn g7; obtain ⟨I2, J6⟩ := nn g8; have v8 := c0_ e9; have v9 := c1_ e9; have x2 := blk_frozen e9.out 0; have x3 := blk_frozen e9.out 1) | (go_at_call 22; (with_reducible refine (laws_lwNums.calls m0 _ _ i5 _ _ a8 K4 _ ?side1 ?side2 ?side3 ?side4 T4.out).mono ?_); (case side1 => refine (Kd.R_reads' (e := 2) (base := w.heap.size) (ok := fun k_ => (some k_ ≠ (.slice c1 e3.length b8 : Value).ownBlock ∧ (some k_ ≠ (.slice d0 e4.length b9 : Value).ownBlock ∧ (some k_ ≠ (.slice d9 d2.length e0 : Value).ownBlock ∧ (some k_ ≠ (.slice d3 a8.length d1 : Value).ownBlock ∧ some k_ ≠ (.slice d5 b4.length d4 : Value).ownBlock))))) (n := i5.length) (c := i1) ?_).2.2; exact (rq ((Kd.R_mono (Kd.R_far (p := ⟨g0, 1, none⟩) (Kd.R_far (p := ⟨g0, 0, none⟩) (Kd.R_types i4.out e9.out (by decide)) (fun _ hk => hk.2) (.int .i64 k6)) (fun _ hk => hk.2) (.slice i3 i5.length i1)) (fun _ h_ => h_.1))))); (case side2 => exact (Kd.R_reads' i4.out).2.1); (case side3 => refine (Kd.R_reads' (e := 2) (base := w.heap.size) (ok := fun k_ => (some k_ ≠ (.slice c1 e3.length b8 : Value).ownBlock ∧ (some k_ ≠ (.slice d0 e4.length b9 : Value).ownBlock ∧ (some k_ ≠ (.slice i3 i5.length i1 : Value).ownBlock ∧ (some k_ ≠ (.slice d9 d2.length e0 : Value).ownBlock ∧ some k_ ≠ (.slice d5 b4.length d4 : Value).ownBlock))))) (n := a8.length) (c := d1) ?_).2.2; exact (rq ((Kd.R_mono (Kd.R_far (p := ⟨g0, 1, none⟩) (Kd.R_far (p := ⟨g0, 0, none⟩) (Kd.R_types HO_722000.out e9.out (by decide)) (fun _ hk => hk.2) (.int .i64 k6)) (fun _ hk => hk.2) (.slice i3 i5.length i1)) (fun _ h_ => h_.1))))); (case side4 => exact (Kd.R_reads' HO_722000.out).2.1); rintro e w' ⟨rfl, ⟨nd, rfl⟩⟩))
            go_ret
            exact ⟨er, hs HB.out⟩
           ·replace B9 := Bool.eq_false_iff.mpr B9
            subst B9
            rw [if_neg (show ¬ (false = true) by decide)] at H
            exact absurd ((Option.some.inj H).trans A1) Bool.false_ne_true
          ·replace B8 := Bool.eq_false_iff.mpr B8
           subst B8
           rw [if_neg (show ¬ (false = true) by decide)] at H
           exact absurd ((Option.some.inj H).trans A1) Bool.false_ne_true
         ·rw [if_neg u6] at H
          obtain ⟨u7, u9⟩ := bqf u6
          exact absurd ((Option.some.inj H).trans A1) Bool.false_ne_true
        ·rw [if_neg u3] at H
         obtain ⟨u4, u5⟩ := bqf u3
         obtain rfl := Option.some.inj H
         obtain ⟨I3, J7⟩ := nn j6
         obtain ⟨I4, J8⟩ := nn j7
         obtain ⟨I5, J9⟩ := nn j8
         obtain ⟨I6, K0⟩ := nn j9
         have w2 := c0_ a2
         have w3 := c1_ a2
         have x4 := blk_frozen a2.out 0
         have x5 := blk_frozen a2.out 1
         go_wp2
         go_ret
         exact ⟨er, hs HB.out⟩
end Go.Proofs.YtbdpnkpienpnaaaGreatDoor.P
