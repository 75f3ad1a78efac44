/- A part of the proof of the law FnStrict. -/
import Derived.Test.YtgichahebemmiaaGreatDoorCFnStrict14
set_option maxHeartbeats 8000000
set_option maxRecDepth 100000
namespace Go.Proofs.YtgichahebemmiaaGreatDoor.P
open Go.RowKit Go.Proofs.YtgichahebemmiaaGreatDoorW.PrintWords Go.Proofs.YtgichahebemmiaaGreatDoorW.PrintLast Go.Proofs.YtgichahebemmiaaGreatDoorW.PrintMore
attribute [local go_sem] Ai1 Ah9 Ak5 Ak4 Ah0 Ag9 Ai2 Ai0   -- for this text's walks alone
set_option linter.unusedVariables false
set_option linter.unusedSimpArgs false
def Ar6.f (l0 : List Int) : Option (Int) := if (l0.length : Int) = 0 then (some 0) else (if 0 < (l0.length : Int) then (some (rd l0 0)) else (none))
theorem Ar6.calls (A0 : Option Addr) (c0 : Nat) (l0 : List Int) (r : Int) (w : World) (a6 : Kd.C (Kd.int .u8) w A0 l0.length l0) (a7 : l0.length ≤ c0) (h : Ar6.f l0 = some r) :
  Calls Tryz.prog 43 #[.slice A0 l0.length c0] w fun e w' => e = .returned (.int .u8 r) ∧ Drawn0 w w' := by
 have b0 := am a6
 have b4 := am a7
 clear a6 a7
 have H : (if (l0.length : Int) = 0 then (some 0) else (if 0 < (l0.length : Int) then (some (rd l0 0)) else (none))) = some r := h
 clear h
 by_cases c2 : (l0.length : Int) = 0
 ·rw [if_pos c2] at H
  obtain ⟨a3, a4⟩ := bqt c2; clear c2
  obtain rfl := Option.some.inj H
  go_enter Tryz.func43, Tryz.ntmps43
  go_wp2
  go_ret
  exact ⟨et, dn⟩
 ·rw [if_neg c2] at H
  obtain ⟨a3, a4⟩ := bqf c2
  have b1 : ¬ (l0 = []) := fun h_ => c2 (by rw [h_]; rfl)
  obtain ⟨c3, H⟩ := ifs H
  have b2 := decide_eq_true c3
  have b3 : decide (0 < l0.length) = true := decide_eq_true (by omega)
  clear c3
  obtain rfl := Option.some.inj H
  have a1 : 0 ≤ (0 : Int) := (by omega)
  have a2 : 0 < (l0.length : Int) := od
  obtain ⟨a8, a5, a0⟩ := Kd.at_int b0.out 0 a1 a2
  cases a5
  have a9 : (0 < l0.length) = True := eq_true (by omega)
  (try simp only [t0_] at a0)
  obtain ⟨a1, a2⟩ := ee a1 a2
  go_enter Tryz.func43, Tryz.ntmps43
  go_wp2
  go_ret
  exact ⟨et, dn⟩
def Aq5.f (k : Nat) (l0 : List Int) : Option ((List (S79)) × List Int × List Int × List Int × List Int) := (Ac4.f k l0).bind fun a0 => ((Ar6.f l0).bind fun a3 => ((some (([a3, 2] : List Int) : List Int)).bind fun a1 => (if a1.length + l0.length < 140737488355328 then ((Ac4.f k (a1 ++ l0)).bind fun a2 => (some (a0.1, a0.2.1, a0.2.2.1, a0.2.2.2, a2.2.2.1))) else (none))))
theorem Aq5.calls (k : Nat) (A0 : Option Addr) (c0 : Nat) (l0 : List Int) (r1 : List (S79)) (r2 : List Int) (r3 : List Int) (r4 : List Int) (r5 : List Int) (w : World) (j5 : Kd.C (Kd.int .u8) w A0 l0.length l0) (j6 : l0.length ≤ c0) (h : Aq5.f k l0 = some (r1, r2, r3, r4, r5)) :
  Calls Tryz.prog 22 #[.slice A0 l0.length c0] w fun e w' => ∃ j7 g4 g5 g6 g7 : Value, e = .returned (.tuple #[.agg #[j7], g4, g5, g6, g7]) ∧ Kd.R k79 79 w' w.heap.size (fun _ => True) j7 r1 ∧ Kd.Q (Kd.int .i64) 2 w' w.heap.size (fun k_ => some k_ ≠ (g5 : Value).ownBlock ∧ some k_ ≠ (g6 : Value).ownBlock ∧ some k_ ≠ (g7 : Value).ownBlock) g4 r2 ∧ Kd.R (Kd.int .i64) 2 w' w.heap.size (fun k_ => some k_ ≠ (g4 : Value).ownBlock ∧ some k_ ≠ (g6 : Value).ownBlock ∧ some k_ ≠ (g7 : Value).ownBlock) g5 r3 ∧ Kd.R (Kd.int .i64) 2 w' w.heap.size (fun k_ => some k_ ≠ (g4 : Value).ownBlock ∧ some k_ ≠ (g5 : Value).ownBlock ∧ some k_ ≠ (g7 : Value).ownBlock) g6 r4 ∧ Kd.R (Kd.int .i64) 2 w' w.heap.size (fun k_ => some k_ ≠ (g4 : Value).ownBlock ∧ some k_ ≠ (g5 : Value).ownBlock ∧ some k_ ≠ (g6 : Value).ownBlock) g7 r5 ∧ Below w.heap.size w w' := by
 have l5 := Tryz.underlying36
 have i3 := am j5
 have j8 := am j6
 clear j5 j6
 have HB := am (Below.refl w.heap.size w)
 have H : ((Ac4.f k l0).bind fun d0 => ((Ar6.f l0).bind fun b2 => ((some (([b2, 2] : List Int) : List Int)).bind fun b5 => (if b5.length + l0.length < 140737488355328 then ((Ac4.f k (b5 ++ l0)).bind fun b3 => (some (d0.1, d0.2.1, d0.2.2.1, d0.2.2.2, b3.2.2.1))) else (none))))) = some (r1, r2, r3, r4, r5) := h
 clear h
 obtain ⟨⟨a7, e6, e7, e8⟩, A2, H⟩ := ob H
 try dsimp only at H
 obtain ⟨b2, A3, H⟩ := ob H
 try dsimp only at H
 obtain ⟨b5, d1⟩ : ∃ y_ : List Int, y_ = (([b2, 2] : List Int)) := ⟨_, rfl⟩
 replace H : (if b5.length + l0.length < 140737488355328 then ((Ac4.f k (b5 ++ l0)).bind fun b3 => (some (a7, e6, e7, e8, b3.2.2.1))) else (none)) = some (r1, r2, r3, r4, r5) := by first | (rw [d1]; first | with_reducible exact H | with_reducible exact bs H) | with_reducible exact bs H | with_reducible exact H | (rw [d1]; exact H) | exact H
 have e2 := am d1
 clear d1
 obtain ⟨c4, H⟩ := ifs H
 have i4 := am c4
 clear c4
 obtain ⟨e9, d2⟩ : ∃ y_ : List Int, y_ = (b5 ++ l0) := ⟨_, rfl⟩
 replace H : ((Ac4.f k e9).bind fun b3 => (some (a7, e6, e7, e8, b3.2.2.1))) = some (r1, r2, r3, r4, r5) := by first | (rw [d2]; first | with_reducible exact H | with_reducible exact bs H) | with_reducible exact bs H | with_reducible exact H | (rw [d2]; exact H) | exact H
 have g8 := am d2
 clear d2
 obtain ⟨⟨d3, g9, h0, h2⟩, A5, H⟩ := ob H
 try dsimp only at H
 simp only [Option.some.injEq, Prod.mk.injEq] at H
 obtain ⟨rfl, rfl, rfl, rfl, rfl⟩ := H
 go_enter Tryz.func22, Tryz.ntmps22
 go_wp2_with (first | (refine bx 2 rfl #[.slice none 0 0] 36 ?_; intro a9 hg w6 hbox hb; have a0 := am (hbox); have h3 := am (bz hg (hq HB.out)); replace HB := sb HB hb; have j9 := h3; clear hb hbox hg) | (refine gl (some 17) Tryz.func42 rfl #[.slice A0 l0.length c0] ?_; refine (Ac4.calls k _ _ l0 a7 e6 e7 e8 _ (cq (Kd.C_below i3.out HB.out)) j8.out A2.out).mono ?_; rintro e w7 ⟨l6, l7, l8, l9, rfl, g2, e3, e4, e5, hb⟩; refine ⟨_, rfl, ?_⟩; have a5 := am (Kd.R_lower g2 (Ac5 (hs HB.out))); have a2 := am (Kd.Q_lower e3 (Ac5 (hs HB.out))); have a3 := am (Kd.R_lower e4 (Ac5 (hs HB.out))); have a4 := am (Kd.R_lower e5 (Ac5 (hs HB.out))); replace a0 := bb a0 hb; replace HB := sb HB hb; clear hb g2 e3 e4 e5; (try clear hk)) | (refine bx 7 rfl #[.slice none 0 0] 36 ?_; intro b4 hg w8 hbox hb; replace a5 := rb a5 hb; replace a2 := am (Kd.Q_below (qq a2.out) hb); replace a3 := rb a3 hb; replace a4 := rb a4 hb; have a1 := am (hbox); have h4 := am (bz hg (hs HB.out)); replace HB := sb HB hb; have k0 := h4; have g3 := nl hg a0; have d4 := ng hg a0; replace a0 := bb a0 hb; clear hb hbox hg; obtain ⟨d5, d6, rfl⟩ := Kd.R_slice a5.out; obtain ⟨k1, k2⟩ := nn d4; have h5 := c0_ a1; have h6 := Aa2 a1.out 0) | (refine gl (some 24) Tryz.func43 rfl #[.slice A0 l0.length c0] ?_; refine (Ar6.calls _ _ l0 b2 _ (Kd.C_below i3.out (hs HB.out)) j8.out A3.out).mono ?_; rintro e w' ⟨rfl, ⟨nd, rfl⟩⟩; refine ⟨_, rfl, ?_⟩) | ((with_reducible refine An6 (N := 25) rfl ?_); refine Kd.R_lit (Kd.int .u8) _ 5 ?hg (N := 25) ?hd (xs := ([b2, 2] : List Int)) (inner := [.int .u8 b2, .int .u8 2]) (ok := fun _ => True) (okp := fun _ => True) ?hr ?hp (fun _ hk => hk) trivial (Below.refl _ _) (Nat.le_refl _) (by simp) ?_; (case hd => rfl); (case hg => rfl); (case hr => first | (go_simp; done) | (go_simp; rfl)); (case hp => exact (Aj9.one (show Kd.M (Kd.int .u8) _ _ _ b2 [.int .u8 b2] from rfl) (Aj9.one (show Kd.M (Kd.int .u8) _ _ _ 2 [.int .u8 2] from rfl) (Aj9.none _ _)))); intro i5 m2 d7 hb m0 hnew_; clear m0 hnew_; (first | rw [← e2.out] at d7 | (simp only [Int.reduceToNat] at d7; rw [← e2.out] at d7)); replace a5 := am (Kd.R_below (rq ((Kd.R_mono (Kd.R_far (p := ⟨b4, 0, none⟩) (Kd.R_types a5.out a1.out (by decide)) (fun _ hk => hk.2) (.slice d5 a7.length d6)) (fun _ h_ => h_.1)))) hb); replace a2 := am (Kd.Q_below (qq ((Kd.Q_mono (Kd.Q_far (p := ⟨b4, 0, none⟩) (Kd.Q_types a2.out a1.out (by decide)) (fun _ hk => hk.2) (.slice d5 a7.length d6)) (fun _ h_ => h_.1)))) hb); replace a3 := am (Kd.R_below (rq ((Kd.R_mono (Kd.R_far (p := ⟨b4, 0, none⟩) (Kd.R_types a3.out a1.out (by decide)) (fun _ hk => hk.2) (.slice d5 a7.length d6)) (fun _ h_ => h_.1)))) hb); replace a4 := am (Kd.R_below (rq ((Kd.R_mono (Kd.R_far (p := ⟨b4, 0, none⟩) (Kd.R_types a4.out a1.out (by decide)) (fun _ hk => hk.2) (.slice d5 a7.length d6)) (fun _ h_ => h_.1)))) hb); have a8 := am (Kd.R_lower d7 (Ac5 (hs HB.out))); replace a0 := am (Af8 (g := a9) (o := .cells #[.slice none 0 0] 36 (0, 0)) (bf a0.out) hb); replace a1 := am (Af8 (g := b4) (o := .cells #[.slice d5 a7.length d6] 36 (0, 0)) (by refine bq ?_; refine Ac7 (cs := #[.slice none 0 0]) ?_ 0 _ rfl; refine bq ?_; exact a1.out) hb); replace HB := sb HB hb; clear hb d7) | ((with_reducible refine Ah1 (b := .append) (xs := #[.tmp 25, .tmp 26]) rfl ?_); at_builtin; refine Kd.R_append_rows (Kd.int .u8) (w0 := w) w.heap.size rfl (.tmp 25) (.tmp 26) 49 5 (.int .u8 0) 1 rfl Tryz.underlying49 info5 rfl (by decide) (by omega) i5 b5 l0 _ _ _ (fun _ => True) (fun _ => False) rfl rfl ?aO ?aR (fun _ _ h => h) (fun _ h => h.elim) ?aF ?aB ?aS ?aL ?_; (case aR => exact cq (Kd.C_below i3.out HB.out)); (case aB => exact (hs HB.out)); (case aF => exact (fun _ _ => trivial)); (case aO => exact (rq a8.out)); (case aS => exact (Ac5 (hs HB.out))); (case aL => have := i4.out; omega); intro m1 m3 ho hb hg hat; rw [← g8.out] at ho; replace a0 := am (Am6 (bq a0.out) hg (Kd.R_ne a8.out a0.out (by decide))); replace a5 := am (Kd.R_over' (rq a5.out) (Kd.R_typed (rq a8.out)) (by decide) hg); replace a2 := am (Kd.Q_over' (qq a2.out) (Kd.R_typed (rq a8.out)) (by decide) hg); replace a3 := am (Kd.R_over' (rq a3.out) (Kd.R_typed (rq a8.out)) (by decide) hg); replace a4 := am (Kd.R_over' (rq a4.out) (Kd.R_typed (rq a8.out)) (by decide) hg); replace a1 := am (Am6 (bq a1.out) hg (Kd.R_ne a8.out a1.out (by decide))); replace HB := am (hb); have b0 := am (ho); clear a8; clear ho hb hg hat; obtain ⟨i6, i7, rfl⟩ := Kd.R_slice b0.out) | (refine gl (some 28) Tryz.func42 rfl #[.slice i6 e9.length i7] ?_; refine (Ac4.calls k _ _ e9 d3 g9 h0 h2 _ (cq (Kd.R_reads' b0.out).2.2) ((Kd.R_reads' b0.out).2.1) A5.out).mono ?_; rintro e m4 ⟨k3, k4, k5, k6, rfl, g2, e3, e4, e5, hb⟩; refine ⟨_, rfl, ?_⟩; replace b0 := rb b0 hb; have b6 := am (Kd.R_lower (Kd.R_new' g2 (Kd.R_lt (rq a5.out))) (Ac5 (hs HB.out))); replace a5 := am (Kd.R_elder' (rq a5.out) (Kd.R_base g2) hb); have d8 := am (Kd.Q_lower (Kd.Q_new' (Kd.Q_new' (Kd.Q_new' e3 (Kd.Q_lt (qq a2.out))) (Kd.R_lt (rq a3.out))) (Kd.R_lt (rq a4.out))) (Ac5 (hs HB.out))); have b7 := am (Kd.R_lower (Kd.R_new' (Kd.R_new' (Kd.R_new' e4 (Kd.Q_lt (qq a2.out))) (Kd.R_lt (rq a3.out))) (Kd.R_lt (rq a4.out))) (Ac5 (hs HB.out))); have d9 := am (Kd.R_lower (Kd.R_new' (Kd.R_new' (Kd.R_new' e5 (Kd.Q_lt (qq a2.out))) (Kd.R_lt (rq a3.out))) (Kd.R_lt (rq a4.out))) (Ac5 (hs HB.out))); replace a2 := am (Kd.Q_mono (Kd.Q_told (Kd.Q_told (Kd.Q_told (Kd.Q_old (qq a2.out) hb) (Kd.Q_base e3)) (Kd.R_base e4)) (Kd.R_base e5)) (fun _ h_ => h_.1)); replace a3 := am (Kd.R_mono (Kd.R_told (Kd.R_told (Kd.R_told (Kd.R_old (rq a3.out) hb) (Kd.Q_base e3)) (Kd.R_base e4)) (Kd.R_base e5)) (fun _ h_ => h_.1)); replace a4 := am (Kd.R_mono (Kd.R_told (Kd.R_told (Kd.R_told (Kd.R_old (rq a4.out) hb) (Kd.Q_base e3)) (Kd.R_base e4)) (Kd.R_base e5)) (fun _ h_ => h_.1)); replace a0 := bb a0 hb; replace a1 := bb a1 hb; replace HB := sb HB hb; clear hb g2 e3 e4 e5; (try clear hk)) | (refine bx 11 rfl #[.slice none 0 0] 36 ?_; intro b1 hg m5 hbox hb; replace a5 := rb a5 hb; replace a2 := am (Kd.Q_below (qq a2.out) hb); replace a3 := rb a3 hb; replace a4 := rb a4 hb; replace b0 := rb b0 hb; replace b6 := rb b6 hb; replace d8 := am (Kd.Q_below (qq d8.out) hb); replace b7 := rb b7 hb; replace d9 := rb d9 hb; have a6 := am (hbox); have g0 := am (bz hg (hs HB.out)); replace HB := sb HB hb; have i9 := g0; have b8 := nl hg a0; have b9 := ng hg a0; replace a0 := bb a0 hb; have g1 := nl hg a1; have c1 := ng hg a1; replace a1 := bb a1 hb; clear hb hbox hg; obtain ⟨e0, e1, rfl⟩ := Kd.R_slice b6.out; obtain ⟨k7, k8⟩ := nn b9; obtain ⟨k9, l4⟩ := nn c1; have h7 := c0_ a6; have h8 := Aa2 a6.out 0; have h9 := c0_ a1; have i0 := Aa2 a1.out 0; have i1 := c0_ a0; have i2 := Aa2 a0.out 0))
 refine bodyPost_ret (At6 (rs := [.cell 2 36, .tmp 3, .tmp 4, .tmp 5, .tmp 6]) rfl (by simp) (.cell a9 36 #[.slice d5 a7.length d6] (0, 0) _ rfl (by refine bq ?_; refine Ac7 (cs := #[.slice none 0 0]) ?_ 0 _ rfl; refine bq ?_; refine Aq1 ?_ b8.out _; refine bq ?_; exact a0.out) Tryz.underlying36 rfl (by kernel_rfl) (.tmp (.tmp (.tmp (.tmp .nil)))))) rfl ?_
 exact ⟨_, _, _, _, _, er, rq (Kd.R_mono (Kd.R_far (p := ⟨a9, 0, none⟩) (Kd.R_far (p := ⟨b1, 0, none⟩) (Kd.R_types (Kd.R_types a5.out a6.out (by decide)) a0.out (by decide)) (fun _ hk => hk.1.2) (.slice e0 d3.length e1)) (fun _ hk => hk.2) (.slice d5 a7.length d6)) (fun _ hk => trivial)), qq (Kd.Q_mono (Kd.Q_far (p := ⟨a9, 0, none⟩) (Kd.Q_far (p := ⟨b1, 0, none⟩) (Kd.Q_types (Kd.Q_types a2.out a6.out (by decide)) a0.out (by decide)) (fun _ hk => hk.1.2) (.slice e0 d3.length e1)) (fun _ hk => hk.2) (.slice d5 a7.length d6)) (fun _ hk => ⟨hk.1.1.1.1.1.1, ⟨hk.1.1.1.1.1.2, hk.1.1.1.2⟩⟩)), rq (Kd.R_mono (Kd.R_far (p := ⟨a9, 0, none⟩) (Kd.R_far (p := ⟨b1, 0, none⟩) (Kd.R_types (Kd.R_types a3.out a6.out (by decide)) a0.out (by decide)) (fun _ hk => hk.1.2) (.slice e0 d3.length e1)) (fun _ hk => hk.2) (.slice d5 a7.length d6)) (fun _ hk => ⟨hk.1.1.1.1.1.1, ⟨hk.1.1.1.1.1.2, hk.1.1.1.2⟩⟩)), rq (Kd.R_mono (Kd.R_far (p := ⟨a9, 0, none⟩) (Kd.R_far (p := ⟨b1, 0, none⟩) (Kd.R_types (Kd.R_types a4.out a6.out (by decide)) a0.out (by decide)) (fun _ hk => hk.1.2) (.slice e0 d3.length e1)) (fun _ hk => hk.2) (.slice d5 a7.length d6)) (fun _ hk => ⟨hk.1.1.1.1.1.1, ⟨hk.1.1.1.1.1.2, hk.1.1.1.2⟩⟩)), rq (Kd.R_mono (Kd.R_far (p := ⟨a9, 0, none⟩) (Kd.R_far (p := ⟨b1, 0, none⟩) (Kd.R_types (Kd.R_types b7.out a6.out (by decide)) a0.out (by decide)) (fun _ hk => hk.1.2) (.slice e0 d3.length e1)) (fun _ hk => hk.2) (.slice d5 a7.length d6)) (fun _ hk => ⟨hk.1.1.1.1.2, ⟨hk.1.1.1.2, hk.1.1.2⟩⟩)), hs HB.out⟩
def Ae3.f (k : Nat) (a0 : List (S79)) (l1 : List Int) (l2 : List Int) (l3 : List Int) : Option (Int × Int) := (Ag2.f k a0 l1).bind fun a2 => ((Af9.f k a0 l2).bind fun a3 => ((Af9.f k a0 l3).bind fun a4 => ((An0.f k (([a2, a3, a4] : List Int))).bind fun a1 => (if a1 = 0 then ((Al0.f k a0 l1 l2 l3).bind fun a5 => (some (0, a5))) else (some (a1, 0))))))
def Ae3.T1 : Bool × List (List Nat × List Nat) := (true, [([], []), ([], []), ([0, 1], [0, 1]), ([], []), ([], []), ([3, 4, 2], [3, 4]), ([], []), ([], []), ([6, 7, 5], [6, 7]), ([2, 5, 8], [2, 5, 8]), ([9, 8], [9]), ([10, 10, 0, 1, 2, 3, 4, 5, 6, 7, 8, 9, 10], [10])])
def Ae3.B1 : List Nat := [0, 0, 3, 0, 0, 31, 0, 0, 255, 511, 1023, 2047]
theorem Ae3.tab1 : Au3 .any (Au5 Tryz.f23 1) = Ae3.T1 := by kernel_rfl
theorem Ae3.bits1 : Al2 Ae3.T1.2 Ae3.B1 = true := by kernel_rfl
theorem Ae3.calls (k : Nat) (b0 : Option Addr) (b1 : Nat) (a2 : List (S79)) (A1 : Option Addr) (c1 : Nat) (l1 : List Int) (A2 : Option Addr) (c2 : Nat) (l2 : List Int) (A3 : Option Addr) (c3 : Nat) (l3 : List Int) (r1 : Int) (r2 : Int) (w : World) (d1 : Kd.C k79 w b0 a2.length a2) (d2 : a2.length ≤ b1) (g4 : Kd.C (Kd.int .i64) w A1 l1.length l1) (g5 : l1.length ≤ c1) (g6 : Kd.C (Kd.int .i64) w A2 l2.length l2) (g7 : l2.length ≤ c2) (g8 : Kd.C (Kd.int .i64) w A3 l3.length l3) (g9 : l3.length ≤ c3) (h : Ae3.f k a2 l1 l2 l3 = some (r1, r2)) :
  Calls Tryz.prog 23 #[.agg #[.slice b0 a2.length b1], .slice A1 l1.length c1, .slice A2 l2.length c2, .slice A3 l3.length c3] w fun e w' => e = .returned (.agg #[.int .i64 r1, .int .i64 r2]) ∧ Below w.heap.size w w' := by
 have i5 := Tryz.underlying36
 have i6 := Tryz.underlying54
 have b5 := am d1
 have b6 := am d2
 clear d1 d2
 have h0 := am g4
 have h2 := am g5
 clear g4 g5
 have h3 := am g6
 have h4 := am g7
 clear g6 g7
 have h5 := am g8
 have h6 := am g9
 clear g8 g9
 have HB := am (Below.refl w.heap.size w)
 have H : ((Ag2.f k a2 l1).bind fun a5 => ((Af9.f k a2 l2).bind fun a6 => ((Af9.f k a2 l3).bind fun a7 => ((An0.f k (([a5, a6, a7] : List Int))).bind fun a3 => (if a3 = 0 then ((Al0.f k a2 l1 l2 l3).bind fun a8 => (some (0, a8))) else (some (a3, 0))))))) = some (r1, r2) := h
 clear h
 obtain ⟨a5, A5, H⟩ := ob H
 try dsimp only at H
 obtain ⟨a6, A6, H⟩ := ob H
 try dsimp only at H
 obtain ⟨a7, A7, H⟩ := ob H
 try dsimp only at H
 obtain ⟨b8, a9⟩ : ∃ y_ : List Int, y_ = (([a5, a6, a7] : List Int)) := ⟨_, rfl⟩
 replace H : ((An0.f k b8).bind fun a3 => (if a3 = 0 then ((Al0.f k a2 l1 l2 l3).bind fun a8 => (some (0, a8))) else (some (a3, 0)))) = some (r1, r2) := by first | (rw [a9]; first | with_reducible exact H | with_reducible exact bs H) | with_reducible exact bs H | with_reducible exact H | (rw [a9]; exact H) | exact H
 have b9 := am a9
 clear a9
 obtain ⟨a3, A8, H⟩ := ob H
 try dsimp only at H
 have h7 := am H
 clear H
 go_enter Tryz.func23, Tryz.ntmps23
 try go_wp2_with (first | (refine bx 4 rfl #[.slice b0 a2.length b1] 36 ?_; intro d3 hg j9 hbox hb; have a0 := am (hbox); have d4 := am (bz hg (hq HB.out)); replace HB := sb HB hb; have e9 := d4; clear hb hbox hg) | (refine bx 8 rfl #[.int .i64 0, .int .i64 0] 54 ?_; intro c0 hg i7 hbox hb; have a1 := am (hbox); have d5 := am (bz hg (hs HB.out)); replace HB := sb HB hb; have g0 := d5; have b2 := nl hg a0; have b3 := ng hg a0; replace a0 := bb a0 hb; clear hb hbox hg))
 replace a0 := am (Ah2 a0.out)
 replace a1 := am (Ah2 a1.out)
 replace HB := am (Af1 HB.out)
 refine st_ (n := 12) (S := fun w' => w'.cell? ⟨d3, 0, none⟩ = some (.slice b0 a2.length b1)) (ds := []) ((Ad1 a0.out 0).trans rfl) (fun hHeld => ?_); refine Ah6 Ae3.tab1 Ae3.bits1 (fun b7 g1 => ?_)
 generalize i7.drew = k0 at a0 a1 HB hHeld ⊢
 refine pu 1 11 rfl rfl b7 ?_
 refine pu 4 14 rfl rfl b7 ?_
 refine pu 7 17 rfl rfl b7 ?_
 refine tk 0 10 rfl rfl b7 g1 hHeld ?_
 refine tk 3 13 rfl rfl b7 g1 hHeld ?_
 refine tk 6 16 rfl rfl b7 g1 hHeld ?_
 refine on_ 2 (some 12) rfl rfl b7 (fun K hK => ?_)
 refine gs Tryz.func35 #[.agg #[.slice b0 a2.length b1], .slice A1 l1.length c1] ?_
 refine (Ag2.calls k _ _ a2 _ _ l1 a5 _ (cq (Kd.C_below b5.out HB.out)) b6.out (cq (Kd.C_below h0.out HB.out)) h2.out A5.out).mono ?_
 rintro e k1 ⟨rfl, hb⟩
 refine ⟨_, rfl, ?_⟩
 replace a0 := bb a0 hb
 replace a1 := bb a1 hb
 replace HB := sb HB hb
 (try clear hb)
 (try clear hk)
 refine hK.out _ _ ((Ad1 a0.out 0).trans rfl) (fun hHeld => ?_)
 clear hK K
 refine nr (some 12) ?_
 refine on_ 5 (some 15) rfl rfl b7 (fun K hK => ?_)
 refine gs Tryz.func36 #[.agg #[.slice b0 a2.length b1], .slice A2 l2.length c2] ?_
 refine (Af9.calls k _ _ a2 _ _ l2 a6 _ (cq (Kd.C_below b5.out HB.out)) b6.out (cq (Kd.C_below h3.out HB.out)) h4.out A6.out).mono ?_
 rintro e k2 ⟨rfl, hb⟩
 refine ⟨_, rfl, ?_⟩
 replace a0 := bb a0 hb
 replace a1 := bb a1 hb
 replace HB := sb HB hb
 (try clear hb)
 (try clear hk)
 refine hK.out _ _ ((Ad1 a0.out 0).trans rfl) (fun hHeld => ?_)
 clear hK K
 refine nr (some 15) ?_
 refine on_ 8 (some 18) rfl rfl b7 (fun K hK => ?_)
 refine gs Tryz.func36 #[.agg #[.slice b0 a2.length b1], .slice A3 l3.length c3] ?_
 refine (Af9.calls k _ _ a2 _ _ l3 a7 _ (cq (Kd.C_below b5.out HB.out)) b6.out (cq (Kd.C_below h5.out HB.out)) h6.out A7.out).mono ?_
 rintro e k3 ⟨rfl, hb⟩
 refine ⟨_, rfl, ?_⟩
 replace a0 := bb a0 hb
 replace a1 := bb a1 hb
 replace HB := sb HB hb
 (try clear hb)
 (try clear hk)
 refine hK.out _ _ ((Ad1 a0.out 0).trans rfl) (fun hHeld => ?_)
 clear hK K
 refine nr (some 18) ?_
 refine on_ 9 (some 19) rfl rfl b7 (fun K hK => ?_)
 refine Kd.R_lit_step (Kd.int .i64) _ 2 ?hg (N := 19) ?hd (xs := ([a5, a6, a7] : List Int)) (inner := [.int .i64 a5, .int .i64 a6, .int .i64 a7]) (ok := fun _ => True) (okp := fun _ => True) ?hr ?hp (fun _ hk => hk) trivial (Below.refl _ _) (Nat.le_refl _) (by simp) ?_; (case hd => rfl); (case hg => rfl); (case hr => first | (go_simp; done) | (go_simp; rfl)); (case hp => exact (Aj9.one (show Kd.M (Kd.int .i64) _ _ _ a5 [.int .i64 a5] from rfl) (Aj9.one (show Kd.M (Kd.int .i64) _ _ _ a6 [.int .i64 a6] from rfl) (Aj9.one (show Kd.M (Kd.int .i64) _ _ _ a7 [.int .i64 a7] from rfl) (Aj9.none _ _)))))
 intro h8 k4 d0 hb i9 hnew_
 clear i9 hnew_
 (first | rw [← b9.out] at d0 | (simp only [Int.reduceToNat] at d0; rw [← b9.out] at d0))
 have a4 := am (Kd.R_lower d0 (Ac5 (hs HB.out)))
 replace a0 := bb a0 hb
 replace a1 := bb a1 hb
 replace HB := sb HB hb
 clear hb d0
 obtain ⟨g2, g3, d6⟩ := Kd.R_slice a4.out
 (first | subst d6 | (injection d6 with h9 j5 i0; have j6 := h9.symm; have j7 := i0.symm; clear h9 j5 i0; subst j6; subst j7))
 refine hK.out _ _ ((Ad1 a0.out 0).trans rfl) (fun hHeld => ?_)
 clear hK K
 refine nr (some 19) ?_
 refine on_ 10 (some 20) rfl rfl b7 (fun K hK => ?_)
 refine gs Tryz.func34 #[.slice g2 b8.length g3] ?_
 refine (An0.calls k _ _ b8 a3 _ (cq (Kd.R_reads' a4.out).2.2) ((Kd.R_reads' a4.out).2.1) A8.out).mono ?_
 rintro e k5 ⟨rfl, hb⟩
 refine ⟨_, rfl, ?_⟩
 replace a4 := rb a4 hb
 replace a0 := bb a0 hb
 replace a1 := bb a1 hb
 replace HB := sb HB hb
 (try clear hb)
 (try clear hk)
 refine hK.out _ _ ((Ad1 a0.out 0).trans rfl) (fun hHeld => ?_)
 clear hK K
 refine nr (some 20) ?_
 refine pu 11 9 rfl rfl b7 ?_
 refine Ar3 (Al8 b7.out (by kernel_rfl)) ?_
 go_upto_if 22 with (fail)
 have H := h7.out
 clear h7
 by_cases d7 : a3 = 0
 ·rw [if_pos d7] at H
  obtain ⟨b4, d8⟩ := bqt d7; clear d7
  (first | rw [b4] | (simp only [Ae6, Ae7]; rw [b4]) | skip)
  obtain ⟨a8, j8, H⟩ := ob H
  try dsimp only at H
  simp only [Option.some.injEq, Prod.mk.injEq] at H
  obtain ⟨rfl, rfl⟩ := H
  obtain ⟨i1, i2⟩ := nn b2
  have d9 := c0_ a0
  have e0 := Aa2 a0.out 0
  go_wp2_with (first | (refine gl (some 29) Tryz.func37 rfl #[.agg #[.slice b0 a2.length b1], .slice A1 l1.length c1, .slice A2 l2.length c2, .slice A3 l3.length c3] ?_; refine (Al0.calls k _ _ a2 _ _ l1 _ _ l2 _ _ l3 a8 _ (cq (Kd.C_below b5.out HB.out)) b6.out (cq (Kd.C_below h0.out HB.out)) h2.out (cq (Kd.C_below h3.out HB.out)) h4.out (cq (Kd.C_below h5.out HB.out)) h6.out j8.out).mono ?_; rintro e k6 ⟨rfl, hb⟩; refine ⟨_, rfl, ?_⟩; replace a4 := rb a4 hb; replace a0 := bb a0 hb; replace a1 := bb a1 hb; replace HB := sb HB hb; (try clear hb); (try clear hk); have e1 := c0_ a1; have e2 := c1_ a1; have e3 := Aa2 a1.out 0; have e4 := Aa2 a1.out 1))
  refine bodyPost_ret (results_cell_row rfl _ _ c0 54 #[.int .i64 0, .int .i64 a8] (0, 0) _ rfl (by refine bq ?_; refine Ac7 (cs := #[.int .i64 0, .int .i64 0]) ?_ 1 _ rfl; refine bq ?_; refine Ac7 (cs := #[.int .i64 0, .int .i64 0]) ?_ 0 _ rfl; refine bq ?_; exact a1.out) Tryz.underlying54 rfl (by kernel_rfl)) rfl ?_
  exact ⟨er, hs HB.out⟩
 ·rw [if_neg d7] at H
  obtain ⟨b4, d8⟩ := bqf d7
  (first | rw [b4] | (simp only [Ae6, Ae7]; rw [b4]) | skip)
  simp only [Option.some.injEq, Prod.mk.injEq] at H
  obtain ⟨rfl, rfl⟩ := H
  obtain ⟨i3, i4⟩ := nn b3
  have e5 := c0_ a1
  have e6 := c1_ a1
  have e7 := Aa2 a1.out 0
  have e8 := Aa2 a1.out 1
  go_wp2
  refine bodyPost_ret (results_cell_row rfl _ _ c0 54 #[.int .i64 a3, .int .i64 0] (0, 0) _ rfl (by refine bq ?_; refine Ac7 (cs := #[.int .i64 a3, .int .i64 0]) ?_ 1 _ rfl; refine bq ?_; refine Ac7 (cs := #[.int .i64 0, .int .i64 0]) ?_ 0 _ rfl; refine bq ?_; exact a1.out) Tryz.underlying54 rfl (by kernel_rfl)) rfl ?_
  exact ⟨er, hs HB.out⟩
def Ak3.f (k : Nat) (a0 : List (S79)) (l1 : List Int) (l2 : List Int) (l3 : List Int) : Option (Int × Int) := (An2.f k a0 l1).bind fun a1 => (if a1 = 0 then ((Ad4.f k [(⟨a0⟩ : S36)] l2).bind fun a2 => (if a2 = 0 then ((Ad4.f k [(⟨a0⟩ : S36)] l3).bind fun a3 => (if a3 = 0 then ((Ao1.f k [(⟨a0⟩ : S36)] l1 l2 l3).bind fun a4 => (some (0, a4))) else (some (a3, 0)))) else (some (a2, 0)))) else (some (a1, 0)))
theorem Ak3.calls (k : Nat) (b6 : Option Addr) (b7 : Nat) (a3 : List (S79)) (A1 : Option Addr) (c1 : Nat) (l1 : List Int) (A2 : Option Addr) (c2 : Nat) (l2 : List Int) (A3 : Option Addr) (c3 : Nat) (l3 : List Int) (r1 : Int) (r2 : Int) (w : World) (b8 : Kd.C k79 w b6 a3.length a3) (b9 : a3.length ≤ b7) (g9 : Kd.C (Kd.int .i64) w A1 l1.length l1) (h0 : l1.length ≤ c1) (h2 : Kd.C (Kd.int .i64) w A2 l2.length l2) (h3 : l2.length ≤ c2) (h4 : Kd.C (Kd.int .i64) w A3 l3.length l3) (h5 : l3.length ≤ c3) (h : Ak3.f k a3 l1 l2 l3 = some (r1, r2)) :
  Calls Tryz.prog 24 #[.agg #[.slice b6 a3.length b7], .slice A1 l1.length c1, .slice A2 l2.length c2, .slice A3 l3.length c3] w fun e w' => e = .returned (.agg #[.int .i64 r1, .int .i64 r2]) ∧ Below w.heap.size w w' := by
 have j7 := Tryz.underlying36
 have j8 := Tryz.underlying54
 have b3 := am b8
 have b4 := am b9
 clear b8 b9
 have h6 := am g9
 have h7 := am h0
 clear g9 h0
 have h8 := am h2
 have h9 := am h3
 clear h2 h3
 have i0 := am h4
 have i1 := am h5
 clear h4 h5
 have HB := am (Below.refl w.heap.size w)
 have H : ((An2.f k a3 l1).bind fun a4 => (if a4 = 0 then ((Ad4.f k [(⟨a3⟩ : S36)] l2).bind fun a5 => (if a5 = 0 then ((Ad4.f k [(⟨a3⟩ : S36)] l3).bind fun a6 => (if a6 = 0 then ((Ao1.f k [(⟨a3⟩ : S36)] l1 l2 l3).bind fun b5 => (some (0, b5))) else (some (a6, 0)))) else (some (a5, 0)))) else (some (a4, 0)))) = some (r1, r2) := h
 clear h
 obtain ⟨a4, A5, H⟩ := ob H
 try dsimp only at H
 have i2 := am H
 clear H
 go_enter Tryz.func24, Tryz.ntmps24
 go_upto_if 16 with (first | (refine bx 4 rfl #[.slice b6 a3.length b7] 36 ?_; intro b2 hg w7 hbox hb; have a1 := am (hbox); have c0 := am (bz hg (hq HB.out)); replace HB := sb HB hb; have g7 := c0; clear hb hbox hg) | (refine bx 8 rfl #[.int .i64 0, .int .i64 0] 54 ?_; intro a7 hg w8 hbox hb; have a0 := am (hbox); have d0 := am (bz hg (hs HB.out)); replace HB := sb HB hb; have g8 := d0; have a8 := nl hg a1; have a2 := ng hg a1; replace a1 := bb a1 hb; clear hb hbox hg; obtain ⟨j9, k0⟩ := nn a8; have d9 := c0_ a1; have e0 := Aa2 a1.out 0) | (refine gl (some 14) Tryz.func28 rfl #[.agg #[.slice b6 a3.length b7], .slice A1 l1.length c1] ?_; refine (An2.calls k _ _ a3 _ _ l1 a4 _ (cq (Kd.C_below b3.out HB.out)) b4.out (cq (Kd.C_below h6.out HB.out)) h7.out A5.out).mono ?_; rintro e k4 ⟨rfl, hb⟩; refine ⟨_, rfl, ?_⟩; replace a1 := bb a1 hb; replace a0 := bb a0 hb; replace HB := sb HB hb; clear hb))
 have H := i2.out
 clear i2
 by_cases d1 : a4 = 0
 ·rw [if_pos d1] at H
  obtain ⟨a9, d2⟩ := bqt d1; clear d1
  (first | rw [a9] | (simp only [Ae6, Ae7]; rw [a9]) | skip)
  obtain ⟨a5, k1, H⟩ := ob H
  try dsimp only at H
  have d3 := am H
  clear H
  go_upto_if 22 with (first | (refine gl (some 20) Tryz.func29 rfl #[.pointer (some ⟨b2, 0, none⟩), .slice A2 l2.length c2] ?_; refine (Ad4.calls k _ [(⟨a3⟩ : S36)] _ _ l2 a5 _ (Ao2 (bq a1.out) (cq (Kd.C_below b3.out HB.out)) (by exact b4.out)) (cq (Kd.C_below h8.out HB.out)) h9.out k1.out).mono ?_; rintro e k5 ⟨rfl, hb⟩; refine ⟨_, rfl, ?_⟩; replace a1 := bb a1 hb; replace a0 := bb a0 hb; replace HB := sb HB hb; clear hb))
  have H := d3.out
  clear d3
  by_cases d4 : a5 = 0
  ·rw [if_pos d4] at H
   obtain ⟨b0, d5⟩ := bqt d4; clear d4
   (first | rw [b0] | (simp only [Ae6, Ae7]; rw [b0]) | skip)
   obtain ⟨a6, k2, H⟩ := ob H
   try dsimp only at H
   have d6 := am H
   clear H
   go_upto_if 28 with (first | (refine gl (some 26) Tryz.func29 rfl #[.pointer (some ⟨b2, 0, none⟩), .slice A3 l3.length c3] ?_; refine (Ad4.calls k _ [(⟨a3⟩ : S36)] _ _ l3 a6 _ (Ao2 (bq a1.out) (cq (Kd.C_below b3.out HB.out)) (by exact b4.out)) (cq (Kd.C_below i0.out HB.out)) i1.out k2.out).mono ?_; rintro e k6 ⟨rfl, hb⟩; refine ⟨_, rfl, ?_⟩; replace a1 := bb a1 hb; replace a0 := bb a0 hb; replace HB := sb HB hb; clear hb))
   have H := d6.out
   clear d6
   by_cases d7 : a6 = 0
   ·rw [if_pos d7] at H
    obtain ⟨b1, d8⟩ := bqt d7; clear d7
    (first | rw [b1] | (simp only [Ae6, Ae7]; rw [b1]) | skip)
    obtain ⟨b5, k3, H⟩ := ob H
    try dsimp only at H
    simp only [Option.some.injEq, Prod.mk.injEq] at H
    obtain ⟨rfl, rfl⟩ := H
    go_wp2_with (first | (refine gl (some 34) Tryz.func30 rfl #[.pointer (some ⟨b2, 0, none⟩), .slice A1 l1.length c1, .slice A2 l2.length c2, .slice A3 l3.length c3] ?_; refine (Ao1.calls k _ [(⟨a3⟩ : S36)] _ _ l1 _ _ l2 _ _ l3 b5 _ (Ao2 (bq a1.out) (cq (Kd.C_below b3.out HB.out)) (by exact b4.out)) (cq (Kd.C_below h6.out HB.out)) h7.out (cq (Kd.C_below h8.out HB.out)) h9.out (cq (Kd.C_below i0.out HB.out)) i1.out k3.out).mono ?_; rintro e k7 ⟨rfl, hb⟩; refine ⟨_, rfl, ?_⟩; replace a1 := bb a1 hb; replace a0 := bb a0 hb; replace HB := sb HB hb; (try clear hb); obtain ⟨i3, i4⟩ := nn a2; have e1 := c0_ a0; have e2 := c1_ a0; have e3 := Aa2 a0.out 0; have e4 := Aa2 a0.out 1))
    refine bodyPost_ret (results_cell_row rfl _ _ a7 54 #[.int .i64 0, .int .i64 b5] (0, 0) _ rfl (by refine bq ?_; refine Ac7 (cs := #[.int .i64 0, .int .i64 0]) ?_ 1 _ rfl; refine bq ?_; refine Ac7 (cs := #[.int .i64 0, .int .i64 0]) ?_ 0 _ rfl; refine bq ?_; exact a0.out) Tryz.underlying54 rfl (by kernel_rfl)) rfl ?_
    exact ⟨er, hs HB.out⟩
   ·rw [if_neg d7] at H
    obtain ⟨b1, d8⟩ := bqf d7
    (first | rw [b1] | (simp only [Ae6, Ae7]; rw [b1]) | skip)
    simp only [Option.some.injEq, Prod.mk.injEq] at H
    obtain ⟨rfl, rfl⟩ := H
    obtain ⟨i5, i6⟩ := nn a2
    have e5 := c0_ a0
    have e6 := c1_ a0
    have e7 := Aa2 a0.out 0
    have e8 := Aa2 a0.out 1
    go_wp2
    refine bodyPost_ret (results_cell_row rfl _ _ a7 54 #[.int .i64 a6, .int .i64 0] (0, 0) _ rfl (by refine bq ?_; refine Ac7 (cs := #[.int .i64 a6, .int .i64 0]) ?_ 1 _ rfl; refine bq ?_; refine Ac7 (cs := #[.int .i64 0, .int .i64 0]) ?_ 0 _ rfl; refine bq ?_; exact a0.out) Tryz.underlying54 rfl (by kernel_rfl)) rfl ?_
    exact ⟨er, hs HB.out⟩
  ·rw [if_neg d4] at H
   obtain ⟨b0, d5⟩ := bqf d4
   (first | rw [b0] | (simp only [Ae6, Ae7]; rw [b0]) | skip)
   simp only [Option.some.injEq, Prod.mk.injEq] at H
   obtain ⟨rfl, rfl⟩ := H
   obtain ⟨i7, i9⟩ := nn a2
   have e9 := c0_ a0
   have g0 := c1_ a0
   have g1 := Aa2 a0.out 0
   have g2 := Aa2 a0.out 1
   go_wp2
   refine bodyPost_ret (results_cell_row rfl _ _ a7 54 #[.int .i64 a5, .int .i64 0] (0, 0) _ rfl (by refine bq ?_; refine Ac7 (cs := #[.int .i64 a5, .int .i64 0]) ?_ 1 _ rfl; refine bq ?_; refine Ac7 (cs := #[.int .i64 0, .int .i64 0]) ?_ 0 _ rfl; refine bq ?_; exact a0.out) Tryz.underlying54 rfl (by kernel_rfl)) rfl ?_
   exact ⟨er, hs HB.out⟩
 ·rw [if_neg d1] at H
  obtain ⟨a9, d2⟩ := bqf d1
  (first | rw [a9] | (simp only [Ae6, Ae7]; rw [a9]) | skip)
  simp only [Option.some.injEq, Prod.mk.injEq] at H
  obtain ⟨rfl, rfl⟩ := H
  obtain ⟨j5, j6⟩ := nn a2
  have g3 := c0_ a0
  have g4 := c1_ a0
  have g5 := Aa2 a0.out 0
  have g6 := Aa2 a0.out 1
  go_wp2
  refine bodyPost_ret (results_cell_row rfl _ _ a7 54 #[.int .i64 a4, .int .i64 0] (0, 0) _ rfl (by refine bq ?_; refine Ac7 (cs := #[.int .i64 a4, .int .i64 0]) ?_ 1 _ rfl; refine bq ?_; refine Ac7 (cs := #[.int .i64 0, .int .i64 0]) ?_ 0 _ rfl; refine bq ?_; exact a0.out) Tryz.underlying54 rfl (by kernel_rfl)) rfl ?_
  exact ⟨er, hs HB.out⟩
def Ak0.l0 : Nat → List Int → List Int → Int → Option (Bool)
 | 0, _, _, _ => none
 | k + 1, x0, x1, x5 => if x5 < (x0.length : Int) then (if 0 ≤ x5 then (if x5 < (x1.length : Int) then (if (rd x0 x5) = (rd x1 x5) then (Ak0.l0 k x0 x1 (wrap64 (x5 + 1))) else (some false)) else (none)) else (none)) else (some true)
def Ak0.f (k : Nat) (l0 : List Int) (l1 : List Int) : Option (Bool) := if (l0.length : Int) = (l1.length : Int) then (Ak0.l0 k l0 l1 0) else (some false)
theorem Ak0.calls (k : Nat) (A0 : Option Addr) (c0 : Nat) (l0 : List Int) (A1 : Option Addr) (c1 : Nat) (l1 : List Int) (r : Bool) (w : World) (b7 : Kd.C (Kd.int .i64) w A0 l0.length l0) (b8 : l0.length ≤ c0) (b9 : Kd.C (Kd.int .i64) w A1 l1.length l1) (d0 : l1.length ≤ c1) (h : Ak0.f k l0 l1 = some r) :
  Calls Tryz.prog 25 #[.slice A0 l0.length c0, .slice A1 l1.length c1] w fun e w' => e = .returned (.bool r) ∧ Drawn0 w w' := by
 have d1 := am b7
 have d6 := am b8
 clear b7 b8
 have d2 := am b9
 have d7 := am d0
 clear b9 d0
 have H : (if (l0.length : Int) = (l1.length : Int) then (Ak0.l0 k l0 l1 0) else (some false)) = some r := h
 clear h
 by_cases c3 : (l0.length : Int) = (l1.length : Int)
 ·rw [if_pos c3] at H
  have b1 : ((l0.length : Int) == (l1.length : Int)) = true := beq_iff_eq.mpr c3
  have b2 : ((l0.length : Int) != (l1.length : Int)) = false := bne_eq_false_iff_eq.mpr c3
  have b3 : (l0.length == l1.length) = true := by first | simpa using c3 | (simp at c3 ⊢; omega)
  clear c3
  have H' := am H
  clear H
  go_enter Tryz.func25, Tryz.ntmps25
  go_wp2
  repeat (go_quiet (fail); try go_wp2)
  go_loopg [5] k (fun kq v5 w' => ∃ (a0 : Int), v5 = .int .i64 a0 ∧ Aside0 (Ak0.l0 kq l0 l1 a0 = some r) ∧ Aside0 (kq ≤ k) ∧ Drawn0 w w')
  case atStart => exact ⟨(0), et, H', ⟨Nat.le_refl _⟩, dn⟩
  case round =>
   clear H'
   try clear c1; try clear c3; try clear b1; try clear b2; try clear b3
   obtain ⟨a0, rfl, HA, d3, ⟨m1, rfl⟩⟩ := hrel
   cases gk with
   | zero => exact absurd HA.out (by simp [Ak0.l0])
   | succ k1 =>
    have H := HA.out
    clear HA
    simp only [Ak0.l0] at H
    by_cases c4 : a0 < (l0.length : Int)
    ·rw [if_pos c4] at H
     have b4 := decide_eq_true c4
     clear c4
     obtain ⟨d4, H⟩ := ife H
     obtain ⟨d5, H⟩ := ife H
     by_cases c7 : (rd l0 a0) = (rd l1 a0)
     ·rw [if_pos c7] at H
      obtain ⟨b5, b6⟩ := bqt c7; clear c7
      have H' := am H
      clear H
      have a1 : 0 ≤ (a0 : Int) := od
      have a2 : a0 < (l0.length : Int) := od
      obtain ⟨a9, a5, a6⟩ := Kd.at_int d1.out a0 a1 a2
      cases a5
      obtain ⟨a1, a2⟩ := ee a1 a2
      have a3 : 0 ≤ (a0 : Int) := od
      have a4 : a0 < (l1.length : Int) := od
      obtain ⟨b0, a7, a8⟩ := Kd.at_int d2.out a0 a3 a4
      cases a7
      obtain ⟨a3, a4⟩ := ee a3 a4
      go_wp2
      repeat (go_quiet (fail); try go_wp2)
      go_roundg k1
      case measure => have := d3.out; omega
      case rel => exact ⟨(wrap64 (a0 + 1)), et, H', ⟨by have := d3.out; omega⟩, dn⟩
     ·rw [if_neg c7] at H
      obtain ⟨b5, b6⟩ := bqf c7
      obtain rfl := Option.some.inj H
      have a1 : 0 ≤ (a0 : Int) := od
      have a2 : a0 < (l0.length : Int) := od
      obtain ⟨a9, a5, a6⟩ := Kd.at_int d1.out a0 a1 a2
      cases a5
      obtain ⟨a1, a2⟩ := ee a1 a2
      have a3 : 0 ≤ (a0 : Int) := od
      have a4 : a0 < (l1.length : Int) := od
      obtain ⟨b0, a7, a8⟩ := Kd.at_int d2.out a0 a3 a4
      cases a7
      obtain ⟨a3, a4⟩ := ee a3 a4
      go_wp2
      repeat (go_quiet (fail); try go_wp2)
      go_ret
      exact ⟨et, dn⟩
    ·rw [if_neg c4] at H
     have b4 := decide_eq_false c4
     clear c4
     obtain rfl := Option.some.inj H
     go_wp2
     repeat (go_quiet (fail); try go_wp2)
     go_ret
     exact ⟨et, dn⟩
 ·rw [if_neg c3] at H
  obtain ⟨b1, b2⟩ := bqf c3
  have b3 : (l0.length == l1.length) = false := by first | simpa using c3 | (simp at c3 ⊢; omega)
  obtain rfl := Option.some.inj H
  go_enter Tryz.func25, Tryz.ntmps25
  go_wp2
  repeat (go_quiet (fail); try go_wp2)
  go_ret
  exact ⟨et, dn⟩
end Go.Proofs.YtgichahebemmiaaGreatDoor.P
