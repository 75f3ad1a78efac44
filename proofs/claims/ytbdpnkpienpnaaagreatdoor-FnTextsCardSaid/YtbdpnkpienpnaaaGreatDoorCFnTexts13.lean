/- A part of the proof of the law FnTexts. -/
import Derived.Test.YtbdpnkpienpnaaaGreatDoorCFnTexts9
set_option maxHeartbeats 8000000
set_option maxRecDepth 100000
namespace Go.Proofs.YtbdpnkpienpnaaaGreatDoor.P
open Go.RowKit Go.Proofs.YtbdpnkpienpnaaaGreatDoorW.PrintWords Go.Proofs.YtbdpnkpienpnaaaGreatDoorW.PrintLast Go.Proofs.YtbdpnkpienpnaaaGreatDoorW.PrintMore
attribute [local go_sem] max2_int min2_int max_two min_two max_three min_three max_four min_four   -- for this text's walks alone
set_option linter.unusedVariables false
set_option linter.unusedSimpArgs false
def impl_TermText.f (k : Nat) (a0 : List (S90)) (l1 : List Int) : Option (Int × ByteArray) := (impl_TermFault.f k a0 l1).bind fun a1 => (if a1 = 0 then ((impl_textAt.f k a0 l1 0).bind fun a2 => (some (0, a2))) else (some (a1, (⟨#[]⟩ : ByteArray))))
theorem impl_TermText.calls (k : Nat) (a7 : Option Addr) (a8 : Nat) (a2 : List (S90)) (A1 : Option Addr) (c1 : Nat) (l1 : List Int) (r1 : Int) (r2 : ByteArray) (w : World) (b4 : Kd.C k90 w a7 a2.length a2) (b3 : a2.length ≤ a8) (g0 : Kd.C (Kd.int .i64) w A1 l1.length l1) (e5 : l1.length ≤ c1) (h : impl_TermText.f k a2 l1 = some (r1, r2)) :
  Calls Tryz.prog 20 #[.agg #[.slice a7 a2.length a8], .slice A1 l1.length c1] w fun e w' => e = .returned (.agg #[.int .i64 r1, .string r2]) ∧ Below w.heap.size w w' := by
 have g4 := Tryz.underlying26
 have g5 := Tryz.underlying46
 have b1 := am b4
 have b0 := am b3
 clear b4 b3
 have e3 := am g0
 have e1 := am e5
 clear g0 e5
 have HB := am (Below.refl w.heap.size w)
 have H : ((impl_TermFault.f k a2 l1).bind fun a5 => (if a5 = 0 then ((impl_textAt.f k a2 l1 0).bind fun a9 => (some (0, a9))) else (some (a5, (⟨#[]⟩ : ByteArray))))) = some (r1, r2) := h
 clear h
 obtain ⟨a5, A3, H⟩ := ob H
 try dsimp only at H
 have e2 := am H
 clear H
 go_enter Tryz.func20, Tryz.ntmps20
 go_upto_if 10 with (first | (refine bx 2 rfl #[.slice a7 a2.length a8] 26 ?_; intro e4 hg w5 hbox hb; have a1 := am (hbox); have b5 := am (bz hg (hq HB.out)); replace HB := sb HB hb; have d9 := b5; clear hb hbox hg) | (refine bx 4 rfl #[.int .i64 0, .string (⟨#[]⟩ : ByteArray)] 46 ?_; intro b2 hg w6 hbox hb; have a0 := am (hbox); have b6 := am (bz hg (hs HB.out)); replace HB := sb HB hb; have e0 := b6; have a3 := nl hg a1; have a6 := ng hg a1; replace a1 := bb a1 hb; clear hb hbox hg; obtain ⟨g2, g3⟩ := nn a3; have d7 := c0_ a1; have d8 := blk_frozen a1.out 0) | (refine gl (some 8) Tryz.func28 rfl #[.agg #[.slice a7 a2.length a8], .slice A1 l1.length c1] ?_; refine (impl_TermFault.calls k _ _ a2 _ _ l1 a5 _ (cq (Kd.C_below b1.out HB.out)) b0.out (cq (Kd.C_below e3.out HB.out)) e1.out A3.out).mono ?_; rintro e w9 ⟨rfl, hb⟩; refine ⟨_, rfl, ?_⟩; replace a1 := bb a1 hb; replace a0 := bb a0 hb; replace HB := sb HB hb; clear hb))
 have H := e2.out
 clear e2
 by_cases c10 : a5 = 0
 ·rw [if_pos c10] at H
  obtain ⟨a4, b7⟩ := bqt c10; clear c10
  (first | rw [a4] | (simp only [i64_w, i32_w]; rw [a4]) | skip)
  obtain ⟨a9, g1, H⟩ := ob H
  try dsimp only at H
  simp only [Option.some.injEq, Prod.mk.injEq] at H
  obtain ⟨rfl, rfl⟩ := H
  obtain ⟨e6, e8⟩ := nn a3
  have b8 := c0_ a1
  have d2 := blk_frozen a1.out 0
  go_wp2_with (first | (refine gl (some 15) Tryz.func52 rfl #[.agg #[.slice a7 a2.length a8], .slice A1 l1.length c1, .int .i64 0] ?_; refine (impl_textAt.calls k _ _ a2 _ _ l1 0 a9 _ (cq (Kd.C_below b1.out HB.out)) b0.out (cq (Kd.C_below e3.out HB.out)) e1.out g1.out).mono ?_; rintro e g6 ⟨rfl, hb⟩; refine ⟨_, rfl, ?_⟩; replace a1 := bb a1 hb; replace a0 := bb a0 hb; replace HB := sb HB hb; (try clear hb); have b9 := c0_ a0; have c0 := c1_ a0; have d3 := blk_frozen a0.out 0; have d4 := blk_frozen a0.out 1))
  refine bodyPost_ret (results_cell_row rfl _ _ b2 46 #[.int .i64 0, .string a9] (0, 0) _ rfl (by refine bq ?_; refine blk_put (cs := #[.int .i64 0, .string (⟨#[]⟩ : ByteArray)]) ?_ 1 _ rfl; refine bq ?_; refine blk_put (cs := #[.int .i64 0, .string (⟨#[]⟩ : ByteArray)]) ?_ 0 _ rfl; refine bq ?_; exact a0.out) Tryz.underlying46 rfl (by kernel_rfl)) rfl ?_
  exact ⟨er, hs HB.out⟩
 ·rw [if_neg c10] at H
  obtain ⟨a4, b7⟩ := bqf c10
  (first | rw [a4] | (simp only [i64_w, i32_w]; rw [a4]) | skip)
  simp only [Option.some.injEq, Prod.mk.injEq] at H
  obtain ⟨rfl, rfl⟩ := H
  obtain ⟨e7, e9⟩ := nn a6
  have d0 := c0_ a0
  have d1 := c1_ a0
  have d5 := blk_frozen a0.out 0
  have d6 := blk_frozen a0.out 1
  go_wp2
  refine bodyPost_ret (results_cell_row rfl _ _ b2 46 #[.int .i64 a5, .string (⟨#[]⟩ : ByteArray)] (0, 0) _ rfl (by refine bq ?_; refine blk_put (cs := #[.int .i64 a5, .string (⟨#[]⟩ : ByteArray)]) ?_ 1 _ rfl; refine bq ?_; refine blk_put (cs := #[.int .i64 0, .string (⟨#[]⟩ : ByteArray)]) ?_ 0 _ rfl; refine bq ?_; exact a0.out) Tryz.underlying46 rfl (by kernel_rfl)) rfl ?_
  exact ⟨er, hs HB.out⟩
def CutVar (w : World) : Prop := ∃ m, w.cell? ⟨0, 0, none⟩ = some (.int .i64 m)
theorem CutVar.below {w w' : World} (h : CutVar w) (hb : Below w.heap.size w w') : CutVar w' := by
 obtain ⟨m, h⟩ := h
 exact ⟨m, (hb.cell (World.block_lt_of_cell? w _ h)).trans h⟩
def strings_Cut.f (s sep : ByteArray) : Option (ByteArray × ByteArray × Bool) := if s.size < 4294967281 then some (⟨(Lib.cut s.data.toList sep.data.toList).1.toArray⟩, ⟨(Lib.cut s.data.toList sep.data.toList).2.1.toArray⟩, (Lib.cut s.data.toList sep.data.toList).2.2) else none
theorem strings_Cut.calls (s sep : ByteArray) (r1 r2 : ByteArray) (r3 : Bool) (w : World) (h : strings_Cut.f s sep = some (r1, r2, r3)) (hM : CutVar w := by first | assumption | exact CutVar.below (by assumption) (by repeat (first | (with_reducible first | exact HB.out | apply below_alloc | apply pw_below_drewN | apply below_drew1 | refine below_set ?_ (Aside0.out ‹Aside0 (_ ≤ _)›)) | exact HB.out))) :
  Calls Tryz.prog 53 #[.string s, .string sep] w fun e w' => e = .returned (.tuple #[.string r1, .string r2, .bool r3]) ∧ Below w.heap.size w w' := by
 unfold strings_Cut.f at h
 by_cases c : s.size < 4294967281
 case neg => rw [if_neg c] at h; cases h
 rw [if_pos c] at h
 simp only [Option.some.injEq, Prod.mk.injEq] at h
 obtain ⟨rfl, rfl, rfl⟩ := h
 obtain ⟨m, hm⟩ := hM
 refine (Any.strings_Cut Shelf.lays145 s sep m w c hm).mono fun e w' hw => ?_
 obtain ⟨he, n, rfl⟩ := hw
 exact ⟨he, pw_below_drewN (Below.refl _ _) n⟩
def impl_ReadEquation.f (k : Nat) (a4 : List (S90)) (a1 : ByteArray) : Option (Int × List Int × List Int) := (impl_SignatureFault.f k a4).bind fun a5 => (if a5 = 0 then ((strings_Cut.f a1 (⟨#[61]⟩ : ByteArray)).bind fun a0 => ((impl_readTerm.f k a4 a0.1).bind fun a2 => ((impl_readTerm.f k a4 a0.2.1).bind fun a3 => (if a0.2.2 = true then (if a2.2 = true then (if a3.2 = true then ((impl_EquationFault.f k a4 a2.1 a3.1).bind fun a6 => (if a6 = 0 then (some (0, a2.1, a3.1)) else (some (5, ([] : List Int), ([] : List Int))))) else (some (5, ([] : List Int), ([] : List Int)))) else (some (5, ([] : List Int), ([] : List Int)))) else (some (5, ([] : List Int), ([] : List Int))))))) else (some (a5, ([] : List Int), ([] : List Int))))
theorem impl_ReadEquation.calls (k : Nat) (b7 : Option Addr) (c0 : Nat) (a9 : List (S90)) (a1 : ByteArray) (r1 : Int) (r2 : List Int) (r3 : List Int) (w : World) (e6 : Kd.C k90 w b7 a9.length a9) (e5 : a9.length ≤ c0) (h : impl_ReadEquation.f k a9 a1 = some (r1, r2, r3)) (hM : CutVar w := by first | assumption | exact CutVar.below (by assumption) (by repeat (first | (with_reducible first | exact HB.out | apply below_alloc | apply pw_below_drewN | apply below_drew1 | refine below_set ?_ (Aside0.out ‹Aside0 (_ ≤ _)›)) | exact HB.out))) :
  Calls Tryz.prog 21 #[.agg #[.slice b7 a9.length c0], .string a1] w fun e w' => ∃ q8 q9 : Value, e = .returned (.agg #[.int .i64 r1, q8, q9]) ∧ Kd.R (Kd.int .i64) 2 w' w.heap.size (fun k_ => some k_ ≠ (q9 : Value).ownBlock) q8 r2 ∧ Kd.R (Kd.int .i64) 2 w' w.heap.size (fun k_ => some k_ ≠ (q8 : Value).ownBlock) q9 r3 ∧ Below w.heap.size w w' := by
 have x4 := Tryz.underlying26
 have x6 := Tryz.underlying33
 have x5 := Tryz.underlying29
 have b5 := am e6
 have b4 := am e5
 clear e6 e5
 have HB := am (Below.refl w.heap.size w)
 have H : ((impl_SignatureFault.f k a9).bind fun d9 => (if d9 = 0 then ((strings_Cut.f a1 (⟨#[61]⟩ : ByteArray)).bind fun e1 => ((impl_readTerm.f k a9 e1.1).bind fun e2 => ((impl_readTerm.f k a9 e1.2.1).bind fun e3 => (if e1.2.2 = true then (if e2.2 = true then (if e3.2 = true then ((impl_EquationFault.f k a9 e2.1 e3.1).bind fun e4 => (if e4 = 0 then (some (0, e2.1, e3.1)) else (some (5, ([] : List Int), ([] : List Int))))) else (some (5, ([] : List Int), ([] : List Int)))) else (some (5, ([] : List Int), ([] : List Int)))) else (some (5, ([] : List Int), ([] : List Int))))))) else (some (d9, ([] : List Int), ([] : List Int))))) = some (r1, r2, r3) := h
 clear h
 obtain ⟨d9, A3, H⟩ := ob H
 try dsimp only at H
 have r5 := am H
 clear H
 go_enter Tryz.func21, Tryz.ntmps21
 go_upto_if 17 with (first | (refine bx 2 rfl #[.slice b7 a9.length c0] 26 ?_; intro g7 hg w5 hbox hb; have a2 := am (hbox); have g1 := am (bz hg (hq HB.out)); replace HB := sb HB hb; have r0 := g1; clear hb hbox hg) | (refine bx 4 rfl #[.int .i64 0, .slice none 0 0, .slice none 0 0] 33 ?_; intro b0 hg w6 hbox hb; have a0 := am (hbox); have g2 := am (bz hg (hs HB.out)); replace HB := sb HB hb; have r4 := g2; have b1 := nl hg a2; have b9 := ng hg a2; replace a2 := bb a2 hb; clear hb hbox hg; obtain ⟨x2, x3⟩ := nn b1; have q5 := c0_ a2; have q6 := blk_frozen a2.out 0) | (refine gl (some 15) Tryz.func45 rfl #[.agg #[.slice b7 a9.length c0]] ?_; refine (impl_SignatureFault.calls k _ _ a9 d9 _ (cq (Kd.C_below b5.out HB.out)) b4.out A3.out).mono ?_; rintro e w9 ⟨rfl, hb⟩; refine ⟨_, rfl, ?_⟩; replace a2 := bb a2 hb; replace a0 := bb a0 hb; replace HB := sb HB hb; clear hb; (try clear hk)))
 have H := r5.out
 clear r5
 by_cases c10 : d9 = 0
 ·rw [if_pos c10] at H
  obtain ⟨d7, g4⟩ := bqt c10; clear c10
  (first | rw [d7] | (simp only [i64_w, i32_w]; rw [d7]) | skip)
  obtain ⟨⟨d2, d3, q7⟩, g9, H⟩ := ob H
  try dsimp only at H
  obtain ⟨⟨b2, g8⟩, h0, H⟩ := ob H
  try dsimp only at H
  obtain ⟨⟨b3, e7⟩, h2, H⟩ := ob H
  try dsimp only at H
  by_cases h3 : q7 = true
  ·subst h3
   rw [if_pos rfl] at H
   by_cases h4 : g8 = true
   ·subst h4
    rw [if_pos rfl] at H
    by_cases h5 : e7 = true
    ·subst h5
     rw [if_pos rfl] at H
     obtain ⟨e4, v4, H⟩ := ob H
     try dsimp only at H
     have g3 := am H
     clear H
     go_upto_if 56 with (first | (refine gl (some 22) Tryz.func53 rfl #[.string a1, .string (⟨#[61]⟩ : ByteArray)] ?_; refine (strings_Cut.calls a1 (⟨#[61]⟩ : ByteArray) d2 d3 true _ g9.out).mono ?_; rintro e y7 ⟨rfl, hb⟩; refine ⟨_, rfl, ?_⟩; replace a2 := bb a2 hb; replace a0 := bb a0 hb; replace HB := sb HB hb; (try clear hb); (try clear hk); obtain ⟨r6, t4⟩ := nn b1; have h6 := c0_ a2; have m5 := blk_frozen a2.out 0) | (refine gl (some 29) Tryz.func46 rfl #[.agg #[.slice b7 a9.length c0], .string d2] ?_; refine (impl_readTerm.calls k _ _ a9 d2 b2 true _ (cq (Kd.C_below b5.out HB.out)) b4.out h0.out).mono ?_; rintro e y8 ⟨e8, rfl, c1, hb⟩; refine ⟨_, rfl, ?_⟩; have a4 := am (Kd.R_lower c1 (below_size (hs HB.out))); replace a2 := bb a2 hb; replace a0 := bb a0 hb; replace HB := sb HB hb; (try clear hb); (try clear hk); (try clear c1); have h7 := c0_ a2; have m6 := blk_frozen a2.out 0) | (refine gl (some 35) Tryz.func46 rfl #[.agg #[.slice b7 a9.length c0], .string d3] ?_; refine (impl_readTerm.calls k _ _ a9 d3 b3 true _ (cq (Kd.C_below b5.out HB.out)) b4.out h2.out).mono ?_; rintro e y9 ⟨e9, rfl, c1, hb⟩; refine ⟨_, rfl, ?_⟩; have a6 := am (Kd.R_lower (Kd.R_new' c1 (Kd.R_lt (rq a4.out))) (below_size (hs HB.out))); replace a4 := am (Kd.R_elder' (rq a4.out) (Kd.R_base c1) hb); replace a2 := bb a2 hb; replace a0 := bb a0 hb; replace HB := sb HB hb; (try clear hb); (try clear hk); (try clear c1); obtain ⟨d5, d6, rfl⟩ := Kd.R_slice a6.out; obtain ⟨d0, d1, rfl⟩ := Kd.R_slice a4.out) | (refine bx 13 rfl #[.slice none 0 0, .slice none 0 0] 29 ?_; intro b6 hg y3 hbox hb; replace a4 := rb a4 hb; replace a6 := rb a6 hb; have a3 := am (hbox); have d4 := am (bz hg (hs HB.out)); replace HB := sb HB hb; have e0 := d4; have b8 := nl hg a2; have a7 := ng hg a2; replace a2 := bb a2 hb; have a5 := nl hg a0; have a8 := ng hg a0; replace a0 := bb a0 hb; clear hb hbox hg; obtain ⟨r7, t5⟩ := nn a7; obtain ⟨r8, t6⟩ := nn a8; have h8 := c0_ a3; have h9 := c1_ a3; have m7 := blk_frozen a3.out 0; have m8 := blk_frozen a3.out 1) | ((with_reducible refine gate_store (t := 29) (p := 13) rfl ?_); refine store_event (t := 29) (p := 13) (v := ?vo_w31) (w1 := ((y3.setCell ⟨b6, 0, none⟩ (.slice d0 b2.length d1)).setCell ⟨b6, 1, none⟩ (.slice d5 b3.length d6))) ?hg ?ho ?hn ?hr ?_; (case ho => rfl); (case hg => rfl); (case hn => rfl); (case hr => first | (go_simp; done) | (go_simp; rfl)); intro g0 hw; have x7 : Aside0 (Kd.R (Kd.int .i64) 2 g0 w.heap.size (fun k_ => some k_ ≠ (.slice d5 b3.length d6 : Value).ownBlock) (.slice d0 b2.length d1) b2) := ⟨(by rw [hw]; exact (rq (Kd.R_mono (Kd.R_far (p := ⟨b6, 1, none⟩) (Kd.R_far (p := ⟨b6, 0, none⟩) (Kd.R_types a4.out a3.out (by decide)) (fun _ hk => hk.2) (.slice d0 b2.length d1)) (fun _ hk => hk.2) (.slice d5 b3.length d6)) (fun _ hk => hk.1.2))))⟩; have x8 : Aside0 (Kd.R (Kd.int .i64) 2 g0 w.heap.size (fun k_ => some k_ ≠ (.slice d0 b2.length d1 : Value).ownBlock) (.slice d5 b3.length d6) b3) := ⟨(by rw [hw]; exact (rq (Kd.R_mono (Kd.R_far (p := ⟨b6, 1, none⟩) (Kd.R_far (p := ⟨b6, 0, none⟩) (Kd.R_types a6.out a3.out (by decide)) (fun _ hk => hk.2) (.slice d0 b2.length d1)) (fun _ hk => hk.2) (.slice d5 b3.length d6)) (fun _ hk => hk.1.2))))⟩; have x9 : Aside0 (g0.heap[g7]? = some (.cells #[.slice b7 a9.length c0] 26 (0, 0))) := ⟨(by rw [hw]; exact (bf a2.out))⟩; have y0 : Aside0 (g0.heap[b0]? = some (.cells #[.int .i64 0, .slice none 0 0, .slice none 0 0] 33 (0, 0))) := ⟨(by rw [hw]; exact (bf a0.out))⟩; have y1 : Aside0 (g0.heap[b6]? = some (.cells #[.slice d0 b2.length d1, .slice d5 b3.length d6] 29 (0, 0))) := ⟨(by rw [hw]; exact (by refine bq ?_; refine blk_put (cs := #[.slice d0 b2.length d1, .slice none 0 0]) ?_ 1 _ rfl; refine bq ?_; refine blk_put (cs := #[.slice none 0 0, .slice none 0 0]) ?_ 0 _ rfl; refine bq ?_; exact a3.out))⟩; have y2 : Aside0 (Below w.heap.size w g0) := ⟨(by rw [hw]; exact (hs HB.out))⟩; clear hw a4 a6 a2 a0 a3 HB; revert x7 x8 x9 y0 y1 y2; intro a4 a6 a2 a0 a3 HB; have i0 := c0_ a2; have m9 := blk_frozen a2.out 0; have i1 := c0_ a3; have i2 := c1_ a3; have n0 := blk_frozen a3.out 0; have n1 := blk_frozen a3.out 1) | (go_at_call 11; refine (impl_EquationFault.calls k _ _ a9 (fun k_ => some k_ = (.slice d0 b2.length d1 : Value).ownBlock) _ _ b2 (fun k_ => some k_ = (.slice d5 b3.length d6 : Value).ownBlock) _ _ b3 e4 _ (cq (Kd.C_below b5.out HB.out)) b4.out (Kd.R_V (Kd.R_tight rfl (Kd.R_types (Kd.R_types (Kd.R_types (a4.out) a2.out (by decide)) a0.out (by decide)) a3.out (by decide)))) (Kd.R_V (Kd.R_tight rfl (Kd.R_types (Kd.R_types (Kd.R_types (a6.out) a2.out (by decide)) a0.out (by decide)) a3.out (by decide)))) v4.out).mono ?_; rintro e v3 ⟨rfl, hb⟩; replace a4 := rb a4 hb; replace a6 := rb a6 hb; replace a2 := bb a2 hb; replace a0 := bb a0 hb; replace a3 := bb a3 hb; replace HB := sb HB hb; (try clear hb); (try clear hk)))
     have H := g3.out
     clear g3
     by_cases g5 : e4 = 0
     ·rw [if_pos g5] at H
      obtain ⟨d8, g6⟩ := bqt g5; clear g5
      (first | rw [d8] | (simp only [i64_w, i32_w]; rw [d8]) | skip)
      simp only [Option.some.injEq, Prod.mk.injEq] at H
      obtain ⟨rfl, rfl, rfl⟩ := H
      obtain ⟨r9, t7⟩ := nn a7
      obtain ⟨s0, t8⟩ := nn a8
      have i3 := c0_ a3
      have i4 := c1_ a3
      have n2 := blk_frozen a3.out 0
      have n3 := blk_frozen a3.out 1
      obtain ⟨s1, t9⟩ := nn b9
      have i5 := c0_ a0
      have i6 := c1_ a0
      have i7 : v3.cell? ⟨b0, 2, none⟩ = some (.slice none 0 0) := (blk_cell a0.out 2).trans rfl
      have n4 := blk_frozen a0.out 0
      have n6 := blk_frozen a0.out 1
      have n7 := blk_frozen a0.out 2
      go_wp2
      refine bodyPost_ret (results_cell_row rfl _ _ b0 33 #[.int .i64 0, .slice d0 b2.length d1, .slice d5 b3.length d6] (0, 0) _ rfl (by refine bq ?_; refine blk_put (cs := #[.int .i64 0, .slice d0 b2.length d1, .slice none 0 0]) ?_ 2 _ rfl; refine bq ?_; refine blk_put (cs := #[.int .i64 0, .slice none 0 0, .slice none 0 0]) ?_ 1 _ rfl; refine bq ?_; refine blk_put (cs := #[.int .i64 0, .slice none 0 0, .slice none 0 0]) ?_ 0 _ rfl; refine bq ?_; exact a0.out) Tryz.underlying33 rfl (by kernel_rfl)) rfl ?_
      exact ⟨_, _, er, rq (Kd.R_mono (Kd.R_far (p := ⟨b0, 2, none⟩) (Kd.R_far (p := ⟨b0, 1, none⟩) (Kd.R_far (p := ⟨b0, 0, none⟩) (Kd.R_types a4.out a0.out (by decide)) (fun _ hk => hk.2) (.int .i64 0)) (fun _ hk => hk.2) (.slice d0 b2.length d1)) (fun _ hk => hk.2) (.slice d5 b3.length d6)) (fun _ hk => hk.1)), rq (Kd.R_mono (Kd.R_far (p := ⟨b0, 2, none⟩) (Kd.R_far (p := ⟨b0, 1, none⟩) (Kd.R_far (p := ⟨b0, 0, none⟩) (Kd.R_types a6.out a0.out (by decide)) (fun _ hk => hk.2) (.int .i64 0)) (fun _ hk => hk.2) (.slice d0 b2.length d1)) (fun _ hk => hk.2) (.slice d5 b3.length d6)) (fun _ hk => hk.1)), hs HB.out⟩
     ·rw [if_neg g5] at H
      obtain ⟨d8, g6⟩ := bqf g5
      (first | rw [d8] | (simp only [i64_w, i32_w]; rw [d8]) | skip)
      simp only [Option.some.injEq, Prod.mk.injEq] at H
      obtain ⟨rfl, rfl, rfl⟩ := H
      obtain ⟨s2, u0⟩ := nn b9
      obtain ⟨s3, u1⟩ := nn a5
      have i9 := c0_ a0
      have j5 := c1_ a0
      have j6 : v3.cell? ⟨b0, 2, none⟩ = some (.slice none 0 0) := (blk_cell a0.out 2).trans rfl
      have n8 := blk_frozen a0.out 0
      have n9 := blk_frozen a0.out 1
      have o0 := blk_frozen a0.out 2
      go_wp2
      refine bodyPost_ret (results_cell_row rfl _ _ b0 33 #[.int .i64 5, .slice none 0 0, .slice none 0 0] (0, 0) _ rfl (by refine bq ?_; refine blk_put (cs := #[.int .i64 5, .slice none 0 0, .slice none 0 0]) ?_ 2 _ rfl; refine bq ?_; refine blk_put (cs := #[.int .i64 5, .slice none 0 0, .slice none 0 0]) ?_ 1 _ rfl; refine bq ?_; refine blk_put (cs := #[.int .i64 0, .slice none 0 0, .slice none 0 0]) ?_ 0 _ rfl; refine bq ?_; exact a0.out) Tryz.underlying33 rfl (by kernel_rfl)) rfl ?_
      exact ⟨_, _, er, by first | exact Kd.R_nil _ _ _ _ _ | exact Kd.N_nil _ _ _ _ _ | exact Kd.V_nil _ _ _ _ _ | exact Kd.Q_nil _ _ _ _ _ | exact Kd.S_nil _ _ _ _ _, by first | exact Kd.R_nil _ _ _ _ _ | exact Kd.N_nil _ _ _ _ _ | exact Kd.V_nil _ _ _ _ _ | exact Kd.Q_nil _ _ _ _ _ | exact Kd.S_nil _ _ _ _ _, hs HB.out⟩
    ·replace h5 := Bool.eq_false_iff.mpr h5
     subst h5
     rw [if_neg (show ¬ (false = true) by decide)] at H
     simp only [Option.some.injEq, Prod.mk.injEq] at H
     obtain ⟨rfl, rfl, rfl⟩ := H
     go_wp2_with (first | (refine gl (some 22) Tryz.func53 rfl #[.string a1, .string (⟨#[61]⟩ : ByteArray)] ?_; refine (strings_Cut.calls a1 (⟨#[61]⟩ : ByteArray) d2 d3 true _ g9.out).mono ?_; rintro e z0 ⟨rfl, hb⟩; refine ⟨_, rfl, ?_⟩; replace a2 := bb a2 hb; replace a0 := bb a0 hb; replace HB := sb HB hb; (try clear hb); (try clear hk); obtain ⟨s4, u2⟩ := nn b1; have j7 := c0_ a2; have o1 := blk_frozen a2.out 0) | (refine gl (some 29) Tryz.func46 rfl #[.agg #[.slice b7 a9.length c0], .string d2] ?_; refine (impl_readTerm.calls k _ _ a9 d2 b2 true _ (cq (Kd.C_below b5.out HB.out)) b4.out h0.out).mono ?_; rintro e z1 ⟨e8, rfl, c1, hb⟩; refine ⟨_, rfl, ?_⟩; have a4 := am (Kd.R_lower c1 (below_size (hs HB.out))); replace a2 := bb a2 hb; replace a0 := bb a0 hb; replace HB := sb HB hb; (try clear hb); (try clear hk); (try clear c1); have j8 := c0_ a2; have o2 := blk_frozen a2.out 0) | (refine gl (some 35) Tryz.func46 rfl #[.agg #[.slice b7 a9.length c0], .string d3] ?_; refine (impl_readTerm.calls k _ _ a9 d3 b3 false _ (cq (Kd.C_below b5.out HB.out)) b4.out h2.out).mono ?_; rintro e z2 ⟨e9, rfl, c1, hb⟩; refine ⟨_, rfl, ?_⟩; have a6 := am (Kd.R_lower (Kd.R_new' c1 (Kd.R_lt (rq a4.out))) (below_size (hs HB.out))); replace a4 := am (Kd.R_elder' (rq a4.out) (Kd.R_base c1) hb); replace a2 := bb a2 hb; replace a0 := bb a0 hb; replace HB := sb HB hb; (try clear hb); (try clear hk); (try clear c1); obtain ⟨v5, w3, rfl⟩ := Kd.R_slice a6.out; obtain ⟨v6, w4, rfl⟩ := Kd.R_slice a4.out) | (refine bx 13 rfl #[.slice none 0 0, .slice none 0 0] 29 ?_; intro b6 hg y4 hbox hb; replace a4 := rb a4 hb; replace a6 := rb a6 hb; have a3 := am (hbox); have d4 := am (bz hg (hs HB.out)); replace HB := sb HB hb; have e0 := d4; have b8 := nl hg a2; have a7 := ng hg a2; replace a2 := bb a2 hb; have a5 := nl hg a0; have a8 := ng hg a0; replace a0 := bb a0 hb; clear hb hbox hg; obtain ⟨s5, u3⟩ := nn a7; obtain ⟨s6, u4⟩ := nn a8; have j9 := c0_ a3; have k0 := c1_ a3; have o3 := blk_frozen a3.out 0; have o4 := blk_frozen a3.out 1; have k1 := c0_ a0; have k2 := c1_ a0; have k3 : y4.cell? ⟨b0, 2, none⟩ = some (.slice none 0 0) := (blk_cell a0.out 2).trans rfl; have o5 := blk_frozen a0.out 0; have o6 := blk_frozen a0.out 1; have o7 := blk_frozen a0.out 2))
     refine bodyPost_ret (results_cell_row rfl _ _ b0 33 #[.int .i64 5, .slice none 0 0, .slice none 0 0] (0, 0) _ rfl (by refine bq ?_; refine blk_put (cs := #[.int .i64 5, .slice none 0 0, .slice none 0 0]) ?_ 2 _ rfl; refine bq ?_; refine blk_put (cs := #[.int .i64 5, .slice none 0 0, .slice none 0 0]) ?_ 1 _ rfl; refine bq ?_; refine blk_put (cs := #[.int .i64 0, .slice none 0 0, .slice none 0 0]) ?_ 0 _ rfl; refine bq ?_; refine blk_far ?_ a5.out _; refine bq ?_; refine blk_far ?_ a5.out _; refine bq ?_; exact a0.out) Tryz.underlying33 rfl (by kernel_rfl)) rfl ?_
     exact ⟨_, _, er, by first | exact Kd.R_nil _ _ _ _ _ | exact Kd.N_nil _ _ _ _ _ | exact Kd.V_nil _ _ _ _ _ | exact Kd.Q_nil _ _ _ _ _ | exact Kd.S_nil _ _ _ _ _, by first | exact Kd.R_nil _ _ _ _ _ | exact Kd.N_nil _ _ _ _ _ | exact Kd.V_nil _ _ _ _ _ | exact Kd.Q_nil _ _ _ _ _ | exact Kd.S_nil _ _ _ _ _, hs HB.out⟩
   ·replace h4 := Bool.eq_false_iff.mpr h4
    subst h4
    rw [if_neg (show ¬ (false = true) by decide)] at H
    simp only [Option.some.injEq, Prod.mk.injEq] at H
    obtain ⟨rfl, rfl, rfl⟩ := H
    go_wp2_with (first | (refine gl (some 22) Tryz.func53 rfl #[.string a1, .string (⟨#[61]⟩ : ByteArray)] ?_; refine (strings_Cut.calls a1 (⟨#[61]⟩ : ByteArray) d2 d3 true _ g9.out).mono ?_; rintro e z3 ⟨rfl, hb⟩; refine ⟨_, rfl, ?_⟩; replace a2 := bb a2 hb; replace a0 := bb a0 hb; replace HB := sb HB hb; (try clear hb); (try clear hk); obtain ⟨s7, u5⟩ := nn b1; have k4 := c0_ a2; have o8 := blk_frozen a2.out 0) | (refine gl (some 29) Tryz.func46 rfl #[.agg #[.slice b7 a9.length c0], .string d2] ?_; refine (impl_readTerm.calls k _ _ a9 d2 b2 false _ (cq (Kd.C_below b5.out HB.out)) b4.out h0.out).mono ?_; rintro e z4 ⟨e8, rfl, c1, hb⟩; refine ⟨_, rfl, ?_⟩; have a4 := am (Kd.R_lower c1 (below_size (hs HB.out))); replace a2 := bb a2 hb; replace a0 := bb a0 hb; replace HB := sb HB hb; (try clear hb); (try clear hk); (try clear c1); have k5 := c0_ a2; have o9 := blk_frozen a2.out 0) | (refine gl (some 35) Tryz.func46 rfl #[.agg #[.slice b7 a9.length c0], .string d3] ?_; refine (impl_readTerm.calls k _ _ a9 d3 b3 e7 _ (cq (Kd.C_below b5.out HB.out)) b4.out h2.out).mono ?_; rintro e z5 ⟨e9, rfl, c1, hb⟩; refine ⟨_, rfl, ?_⟩; have a6 := am (Kd.R_lower (Kd.R_new' c1 (Kd.R_lt (rq a4.out))) (below_size (hs HB.out))); replace a4 := am (Kd.R_elder' (rq a4.out) (Kd.R_base c1) hb); replace a2 := bb a2 hb; replace a0 := bb a0 hb; replace HB := sb HB hb; (try clear hb); (try clear hk); (try clear c1); obtain ⟨v7, w7, rfl⟩ := Kd.R_slice a6.out; obtain ⟨v8, w8, rfl⟩ := Kd.R_slice a4.out) | (refine bx 13 rfl #[.slice none 0 0, .slice none 0 0] 29 ?_; intro b6 hg y5 hbox hb; replace a4 := rb a4 hb; replace a6 := rb a6 hb; have a3 := am (hbox); have d4 := am (bz hg (hs HB.out)); replace HB := sb HB hb; have e0 := d4; have b8 := nl hg a2; have a7 := ng hg a2; replace a2 := bb a2 hb; have a5 := nl hg a0; have a8 := ng hg a0; replace a0 := bb a0 hb; clear hb hbox hg; obtain ⟨s8, u6⟩ := nn a7; obtain ⟨s9, u7⟩ := nn a8; have k6 := c0_ a3; have k7 := c1_ a3; have p0 := blk_frozen a3.out 0; have p1 := blk_frozen a3.out 1; have k8 := c0_ a0; have k9 := c1_ a0; have l4 : y5.cell? ⟨b0, 2, none⟩ = some (.slice none 0 0) := (blk_cell a0.out 2).trans rfl; have p2 := blk_frozen a0.out 0; have p3 := blk_frozen a0.out 1; have p4 := blk_frozen a0.out 2))
    refine bodyPost_ret (results_cell_row rfl _ _ b0 33 #[.int .i64 5, .slice none 0 0, .slice none 0 0] (0, 0) _ rfl (by refine bq ?_; refine blk_put (cs := #[.int .i64 5, .slice none 0 0, .slice none 0 0]) ?_ 2 _ rfl; refine bq ?_; refine blk_put (cs := #[.int .i64 5, .slice none 0 0, .slice none 0 0]) ?_ 1 _ rfl; refine bq ?_; refine blk_put (cs := #[.int .i64 0, .slice none 0 0, .slice none 0 0]) ?_ 0 _ rfl; refine bq ?_; refine blk_far ?_ a5.out _; refine bq ?_; refine blk_far ?_ a5.out _; refine bq ?_; exact a0.out) Tryz.underlying33 rfl (by kernel_rfl)) rfl ?_
    exact ⟨_, _, er, by first | exact Kd.R_nil _ _ _ _ _ | exact Kd.N_nil _ _ _ _ _ | exact Kd.V_nil _ _ _ _ _ | exact Kd.Q_nil _ _ _ _ _ | exact Kd.S_nil _ _ _ _ _, by first | exact Kd.R_nil _ _ _ _ _ | exact Kd.N_nil _ _ _ _ _ | exact Kd.V_nil _ _ _ _ _ | exact Kd.Q_nil _ _ _ _ _ | exact Kd.S_nil _ _ _ _ _, hs HB.out⟩
  ·replace h3 := Bool.eq_false_iff.mpr h3
   subst h3
   rw [if_neg (show ¬ (false = true) by decide)] at H
   simp only [Option.some.injEq, Prod.mk.injEq] at H
   obtain ⟨rfl, rfl, rfl⟩ := H
   go_wp2_with (first | (refine gl (some 22) Tryz.func53 rfl #[.string a1, .string (⟨#[61]⟩ : ByteArray)] ?_; refine (strings_Cut.calls a1 (⟨#[61]⟩ : ByteArray) d2 d3 false _ g9.out).mono ?_; rintro e z6 ⟨rfl, hb⟩; refine ⟨_, rfl, ?_⟩; replace a2 := bb a2 hb; replace a0 := bb a0 hb; replace HB := sb HB hb; (try clear hb); (try clear hk); obtain ⟨t0, u9⟩ := nn b1; have l5 := c0_ a2; have p5 := blk_frozen a2.out 0) | (refine gl (some 29) Tryz.func46 rfl #[.agg #[.slice b7 a9.length c0], .string d2] ?_; refine (impl_readTerm.calls k _ _ a9 d2 b2 g8 _ (cq (Kd.C_below b5.out HB.out)) b4.out h0.out).mono ?_; rintro e z7 ⟨e8, rfl, c1, hb⟩; refine ⟨_, rfl, ?_⟩; have a4 := am (Kd.R_lower c1 (below_size (hs HB.out))); replace a2 := bb a2 hb; replace a0 := bb a0 hb; replace HB := sb HB hb; (try clear hb); (try clear hk); (try clear c1); have l6 := c0_ a2; have p6 := blk_frozen a2.out 0) | (refine gl (some 35) Tryz.func46 rfl #[.agg #[.slice b7 a9.length c0], .string d3] ?_; refine (impl_readTerm.calls k _ _ a9 d3 b3 e7 _ (cq (Kd.C_below b5.out HB.out)) b4.out h2.out).mono ?_; rintro e z8 ⟨e9, rfl, c1, hb⟩; refine ⟨_, rfl, ?_⟩; have a6 := am (Kd.R_lower (Kd.R_new' c1 (Kd.R_lt (rq a4.out))) (below_size (hs HB.out))); replace a4 := am (Kd.R_elder' (rq a4.out) (Kd.R_base c1) hb); replace a2 := bb a2 hb; replace a0 := bb a0 hb; replace HB := sb HB hb; (try clear hb); (try clear hk); (try clear c1); obtain ⟨v9, x0, rfl⟩ := Kd.R_slice a6.out; obtain ⟨w2, x1, rfl⟩ := Kd.R_slice a4.out) | (refine bx 13 rfl #[.slice none 0 0, .slice none 0 0] 29 ?_; intro b6 hg y6 hbox hb; replace a4 := rb a4 hb; replace a6 := rb a6 hb; have a3 := am (hbox); have d4 := am (bz hg (hs HB.out)); replace HB := sb HB hb; have e0 := d4; have b8 := nl hg a2; have a7 := ng hg a2; replace a2 := bb a2 hb; have a5 := nl hg a0; have a8 := ng hg a0; replace a0 := bb a0 hb; clear hb hbox hg; obtain ⟨t1, v0⟩ := nn a7; obtain ⟨t2, v1⟩ := nn a8; have l7 := c0_ a3; have l8 := c1_ a3; have p7 := blk_frozen a3.out 0; have p8 := blk_frozen a3.out 1; have l9 := c0_ a0; have m0 := c1_ a0; have m1 : y6.cell? ⟨b0, 2, none⟩ = some (.slice none 0 0) := (blk_cell a0.out 2).trans rfl; have p9 := blk_frozen a0.out 0; have q0 := blk_frozen a0.out 1; have q1 := blk_frozen a0.out 2))
   refine bodyPost_ret (results_cell_row rfl _ _ b0 33 #[.int .i64 5, .slice none 0 0, .slice none 0 0] (0, 0) _ rfl (by refine bq ?_; refine blk_put (cs := #[.int .i64 5, .slice none 0 0, .slice none 0 0]) ?_ 2 _ rfl; refine bq ?_; refine blk_put (cs := #[.int .i64 5, .slice none 0 0, .slice none 0 0]) ?_ 1 _ rfl; refine bq ?_; refine blk_put (cs := #[.int .i64 0, .slice none 0 0, .slice none 0 0]) ?_ 0 _ rfl; refine bq ?_; refine blk_far ?_ a5.out _; refine bq ?_; refine blk_far ?_ a5.out _; refine bq ?_; exact a0.out) Tryz.underlying33 rfl (by kernel_rfl)) rfl ?_
   exact ⟨_, _, er, by first | exact Kd.R_nil _ _ _ _ _ | exact Kd.N_nil _ _ _ _ _ | exact Kd.V_nil _ _ _ _ _ | exact Kd.Q_nil _ _ _ _ _ | exact Kd.S_nil _ _ _ _ _, by first | exact Kd.R_nil _ _ _ _ _ | exact Kd.N_nil _ _ _ _ _ | exact Kd.V_nil _ _ _ _ _ | exact Kd.Q_nil _ _ _ _ _ | exact Kd.S_nil _ _ _ _ _, hs HB.out⟩
 ·rw [if_neg c10] at H
  obtain ⟨d7, g4⟩ := bqf c10
  (first | rw [d7] | (simp only [i64_w, i32_w]; rw [d7]) | skip)
  simp only [Option.some.injEq, Prod.mk.injEq] at H
  obtain ⟨rfl, rfl, rfl⟩ := H
  obtain ⟨t3, v2⟩ := nn b9
  have m2 := c0_ a0
  have m3 := c1_ a0
  have m4 : w9.cell? ⟨b0, 2, none⟩ = some (.slice none 0 0) := (blk_cell a0.out 2).trans rfl
  have q2 := blk_frozen a0.out 0
  have q3 := blk_frozen a0.out 1
  have q4 := blk_frozen a0.out 2
  go_wp2
  refine bodyPost_ret (results_cell_row rfl _ _ b0 33 #[.int .i64 d9, .slice none 0 0, .slice none 0 0] (0, 0) _ rfl (by refine bq ?_; refine blk_put (cs := #[.int .i64 d9, .slice none 0 0, .slice none 0 0]) ?_ 2 _ rfl; refine bq ?_; refine blk_put (cs := #[.int .i64 d9, .slice none 0 0, .slice none 0 0]) ?_ 1 _ rfl; refine bq ?_; refine blk_put (cs := #[.int .i64 0, .slice none 0 0, .slice none 0 0]) ?_ 0 _ rfl; refine bq ?_; exact a0.out) Tryz.underlying33 rfl (by kernel_rfl)) rfl ?_
  exact ⟨_, _, er, by first | exact Kd.R_nil _ _ _ _ _ | exact Kd.N_nil _ _ _ _ _ | exact Kd.V_nil _ _ _ _ _ | exact Kd.Q_nil _ _ _ _ _ | exact Kd.S_nil _ _ _ _ _, by first | exact Kd.R_nil _ _ _ _ _ | exact Kd.N_nil _ _ _ _ _ | exact Kd.V_nil _ _ _ _ _ | exact Kd.Q_nil _ _ _ _ _ | exact Kd.S_nil _ _ _ _ _, hs HB.out⟩
def laws_lwNums.l0 : Nat → List Int → List Int → Int → Option (Bool)
 | 0, _, _, _ => none
 | k + 1, x0, x1, x5 => if x5 < (x0.length : Int) then (if 0 ≤ x5 then (if x5 < (x1.length : Int) then (if (rd x0 x5) = (rd x1 x5) then (laws_lwNums.l0 k x0 x1 (wrap64 (x5 + 1))) else (some false)) else (none)) else (none)) else (some true)
def laws_lwNums.f (k : Nat) (l0 : List Int) (l1 : List Int) : Option (Bool) := if (l0.length : Int) = (l1.length : Int) then (laws_lwNums.l0 k l0 l1 0) else (some false)
theorem laws_lwNums.calls (k : Nat) (A0 : Option Addr) (c0 : Nat) (l0 : List Int) (A1 : Option Addr) (c1 : Nat) (l1 : List Int) (r : Bool) (w : World) (d2 : Kd.C (Kd.int .i64) w A0 l0.length l0) (d0 : l0.length ≤ c0) (d3 : Kd.C (Kd.int .i64) w A1 l1.length l1) (d1 : l1.length ≤ c1) (h : laws_lwNums.f k l0 l1 = some r) :
  Calls Tryz.prog 22 #[.slice A0 l0.length c0, .slice A1 l1.length c1] w fun e w' => e = .returned (.bool r) ∧ Drawn0 w w' := by
 have b8 := am d2
 have d6 := am d0
 clear d2 d0
 have b9 := am d3
 have d7 := am d1
 clear d3 d1
 have H : (if (l0.length : Int) = (l1.length : Int) then (laws_lwNums.l0 k l0 l1 0) else (some false)) = some r := h
 clear h
 by_cases c3 : (l0.length : Int) = (l1.length : Int)
 ·rw [if_pos c3] at H
  have b1 : ((l0.length : Int) == (l1.length : Int)) = true := beq_iff_eq.mpr c3
  have b2 : ((l0.length : Int) != (l1.length : Int)) = false := bne_eq_false_iff_eq.mpr c3
  have b3 : (l0.length == l1.length) = true := by first | simpa using c3 | (simp at c3 ⊢; omega)
  clear c3
  have H' := am H
  clear H
  go_enter Tryz.func22, Tryz.ntmps22
  go_wp2
  repeat (go_quiet (fail); try go_wp2)
  go_loopg [5] k (fun kq v5 w' => ∃ (a0 : Int), v5 = .int .i64 a0 ∧ Aside0 (laws_lwNums.l0 kq l0 l1 a0 = some r) ∧ Aside0 (kq ≤ k) ∧ Drawn0 w w')
  case atStart => exact ⟨(0), et, H', ⟨Nat.le_refl _⟩, dn⟩
  case round =>
   clear H'
   try clear c1; try clear c3; try clear b1; try clear b2; try clear b3
   obtain ⟨a0, rfl, HA, b7, ⟨m1, rfl⟩⟩ := hrel
   cases gk with
   | zero => exact absurd HA.out (by simp [laws_lwNums.l0])
   | succ k1 =>
    have H := HA.out
    clear HA
    simp only [laws_lwNums.l0] at H
    by_cases c4 : a0 < (l0.length : Int)
    ·rw [if_pos c4] at H
     have b4 := decide_eq_true c4
     clear c4
     obtain ⟨d4, H⟩ := ife H
     obtain ⟨d5, H⟩ := ife H
     by_cases c7 : (rd l0 a0) = (rd l1 a0)
     ·rw [if_pos c7] at H
      obtain ⟨b5, b6⟩ := bqt c7; clear c7
      have H' := am H
      clear H
      have a1 : 0 ≤ (a0 : Int) := od
      have a3 : a0 < (l0.length : Int) := od
      obtain ⟨a9, a7, a5⟩ := Kd.at_int b8.out a0 a1 a3
      cases a7
      obtain ⟨a1, a3⟩ := ee a1 a3
      have a2 : 0 ≤ (a0 : Int) := od
      have a4 : a0 < (l1.length : Int) := od
      obtain ⟨b0, a8, a6⟩ := Kd.at_int b9.out a0 a2 a4
      cases a8
      obtain ⟨a2, a4⟩ := ee a2 a4
      go_wp2
      repeat (go_quiet (fail); try go_wp2)
      go_roundg k1
      case measure => have := b7.out; omega
      case rel => exact ⟨(wrap64 (a0 + 1)), et, H', ⟨by have := b7.out; omega⟩, dn⟩
     ·rw [if_neg c7] at H
      obtain ⟨b5, b6⟩ := bqf c7
      obtain rfl := Option.some.inj H
      have a1 : 0 ≤ (a0 : Int) := od
      have a3 : a0 < (l0.length : Int) := od
      obtain ⟨a9, a7, a5⟩ := Kd.at_int b8.out a0 a1 a3
      cases a7
      obtain ⟨a1, a3⟩ := ee a1 a3
      have a2 : 0 ≤ (a0 : Int) := od
      have a4 : a0 < (l1.length : Int) := od
      obtain ⟨b0, a8, a6⟩ := Kd.at_int b9.out a0 a2 a4
      cases a8
      obtain ⟨a2, a4⟩ := ee a2 a4
      go_wp2
      repeat (go_quiet (fail); try go_wp2)
      go_ret
      exact ⟨et, dn⟩
    ·rw [if_neg c4] at H
     have b4 := decide_eq_false c4
     clear c4
     obtain rfl := Option.some.inj H
     go_wp2
     repeat (go_quiet (fail); try go_wp2)
     go_ret
     exact ⟨et, dn⟩
 ·rw [if_neg c3] at H
  obtain ⟨b1, b2⟩ := bqf c3
  have b3 : (l0.length == l1.length) = false := by first | simpa using c3 | (simp at c3 ⊢; omega)
  obtain rfl := Option.some.inj H
  go_enter Tryz.func22, Tryz.ntmps22
  go_wp2
  repeat (go_quiet (fail); try go_wp2)
  go_ret
  exact ⟨et, dn⟩
end Go.Proofs.YtbdpnkpienpnaaaGreatDoor.P
