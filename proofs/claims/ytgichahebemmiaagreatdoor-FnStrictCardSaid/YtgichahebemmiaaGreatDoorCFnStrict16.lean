/- A part of the proof of the law FnStrict. -/
import Derived.Test.YtgichahebemmiaaGreatDoorCFnStrict15
namespace Go.Proofs.YtgichahebemmiaaGreatDoor.P
open Go.RowKit Go.Proofs.YtgichahebemmiaaGreatDoorW.PrintWords Go.Proofs.YtgichahebemmiaaGreatDoorW.PrintLast Go.Proofs.YtgichahebemmiaaGreatDoorW.PrintMore
attribute [local go_sem] Ai1 Ah9 Ak5 Ak4 Ah0 Ag9 Ai2 Ai0   -- for this text's walks alone
set_option linter.unusedVariables false
set_option linter.unusedSimpArgs false
attribute [local go_sem high] eqA54
mutual
def Ab8.j0 : Nat → List Int → List Int → List Int → List Int → Int → Int → List (S79) → Int → Int → Option (Bool)
 | 0, _, _, _, _, _, _, _, _, _ => none
 | k + 1, x4, x5, x6, x7, x9, a3, a1, a2, a0 => if a0 = 2 then (Ab8.j1 k x4 x5 x6 x7 x9 1 a1 a2 a0) else (Ab8.j1 k x4 x5 x6 x7 x9 a3 a1 a2 a0)
def Ab8.j1 : Nat → List Int → List Int → List Int → List Int → Int → Int → List (S79) → Int → Int → Option (Bool)
 | 0, _, _, _, _, _, _, _, _, _ => none
 | k + 1, x4, x5, x6, x7, x9, a5, a0, a2, a1 => if x9 = a5 then ((Ak0.f k x5 x6).bind fun a4 => (if ((a1 == 3) != a4) = true then (Ab8.j2 k x4 x5 x6 x7 true a0 a2 a1) else ((Ae3.f k a0 x4 x5 x5).bind fun a3 => (Ab8.j2 k x4 x5 x6 x7 (a3.2 != 3) a0 a2 a1)))) else (Ab8.j2 k x4 x5 x6 x7 true a0 a2 a1)
def Ab8.j2 : Nat → List Int → List Int → List Int → List Int → Bool → List (S79) → Int → Int → Option (Bool)
 | 0, _, _, _, _, _, _, _, _ => none
 | k + 1, x4, x5, x6, x7, a4, a1, a3, a2 => if a4 = true then (some false) else ((Ae3.f k a1 x4 x6 x7).bind fun a0 => (if a0.1 = 0 then (if a2 = 1 then (Ab8.j3 k x4 x5 x6 x7 (a0.2 != 1) a1 a0.1 a0.2) else (Ab8.j3 k x4 x5 x6 x7 true a1 a0.1 a0.2)) else (Ab8.j3 k x4 x5 x6 x7 true a1 a0.1 a0.2)))
def Ab8.j3 : Nat → List Int → List Int → List Int → List Int → Bool → List (S79) → Int → Int → Option (Bool)
 | 0, _, _, _, _, _, _, _, _ => none
 | k + 1, x4, x5, x6, x7, a5, a0, a1, a4 => if a5 = true then ((Ak3.f k a0 x4 x6 x7).bind fun a2 => (some (a1 == a2.1))) else ((Ae3.f k a0 x4 x5 x7).bind fun a3 => (some (a3.2 == 1)))
end
def Ab8.f (k : Nat) (l0 : List Int) : Option (Bool) := (Au9.f l0).bind fun a4 => (if a4 = true then (some true) else ((Aq5.f k l0).bind fun a0 => ((Ae3.f k a0.1 a0.2.1 a0.2.2.1 a0.2.2.2.1).bind fun a1 => ((Ak3.f k a0.1 a0.2.1 a0.2.2.1 a0.2.2.2.1).bind fun a2 => (if (!(a1.1 == a2.1) || (!(a1.2 == a2.2))) = true then (some false) else (if a1.1 = 0 then ((Ae3.f k a0.1 a0.2.1 a0.2.2.2.1 a0.2.2.1).bind fun a3 => (if a1.2 = 1 then (Ab8.j0 k a0.2.1 a0.2.2.1 a0.2.2.2.1 a0.2.2.2.2 a3.2 2 a0.1 a1.1 a1.2) else (Ab8.j0 k a0.2.1 a0.2.2.1 a0.2.2.2.1 a0.2.2.2.2 a3.2 a1.2 a0.1 a1.1 a1.2))) else (some true)))))))
def Ab8.T15 : Bool × List (List Nat × List Nat) := (true, [([], []), ([], []), ([0, 1], [0, 1]), ([2], [2]), ([3], [3]), ([4, 3], [3, 4]), ([5, 3], [3, 5]), ([3], [3]), ([3], [3]), ([7, 8, 3, 3], [3, 7, 8]), ([6, 9, 3], [3, 6, 9]), ([3, 10], [3, 10]), ([11, 9], [11]), ([12], [12]), ([12], [12]), ([12], [12]), ([12], [12]), ([13, 14, 15, 16, 12, 12], [12, 13, 14, 15, 16]), ([17, 12], [12, 17]), ([18, 12], [12, 18]), ([12, 19], [12, 19])])
def Ab8.B15 : List Nat := [0, 0, 3, 7, 15, 31, 63, 15, 15, 399, 1023, 2047, 4095, 8191, 8191, 8191, 8191, 131071, 262143, 524287, 1048575]
theorem Ab8.tab15 : Au3 .any (Au5 Tryz.f4 15) = Ab8.T15 := by kernel_rfl
theorem Ab8.bits15 : Al2 Ab8.T15.2 Ab8.B15 = true := by kernel_rfl
def Ab8.T19 : Bool × List (List Nat × List Nat) := (true, [([], []), ([0], [0]), ([], []), ([], []), ([], []), ([], []), ([2, 3, 4, 5], [2, 3, 4, 5]), ([6], [6]), ([1, 7], [1, 7]), ([8, 6, 0, 1, 2, 3, 4, 5, 6, 7, 8], [8])])
def Ab8.B19 : List Nat := [0, 1, 0, 0, 0, 0, 60, 124, 255, 511]
theorem Ab8.tab19 : Au3 .any (Au5 Tryz.f4 19) = Ab8.T19 := by kernel_rfl
theorem Ab8.bits19 : Al2 Ab8.T19.2 Ab8.B19 = true := by kernel_rfl
set_option maxHeartbeats 8000000 in
set_option maxRecDepth 100000 in
theorem Ab8.calls (k : Nat) (A0 : Option Addr) (c0 : Nat) (l0 : List Int) (r : Bool) (w : World) (u3 : Kd.C (Kd.int .u8) w A0 l0.length l0) (u4 : l0.length ≤ c0) (h : Ab8.f k l0 = some r) (u5 : r = true := by rfl) :
  Calls Tryz.prog 4 #[.slice A0 l0.length c0] w fun e w' => e = .returned (.bool r) ∧ Below w.heap.size w w' := by
 have A1 := Tryz.underlying36
 have A3 := Tryz.underlying54
 have p4 : ∀ (p5 p6 : Value) (w_ : World), (Instr.field 54 (.agg #[p5, p6]) 1).run Tryz.prog w_ = .ok (p6) w_ := fun _ _ _ => by kernel_rfl
 have p7 : ∀ (p5 p6 : Value) (w_ : World), (Instr.field 54 (.agg #[p5, p6]) 0).run Tryz.prog w_ = .ok (p5) w_ := fun _ _ _ => by kernel_rfl
 have u6 := am u3
 have u7 := am u4
 clear u3 u4
 have HB := am (Below.refl w.heap.size w)
 have H : ((Au9.f l0).bind fun g9 => (if g9 = true then (some true) else ((Aq5.f k l0).bind fun b5 => ((Ae3.f k b5.1 b5.2.1 b5.2.2.1 b5.2.2.2.1).bind fun e3 => ((Ak3.f k b5.1 b5.2.1 b5.2.2.1 b5.2.2.2.1).bind fun j7 => (if (!(e3.1 == j7.1) || (!(e3.2 == j7.2))) = true then (some false) else (if e3.1 = 0 then ((Ae3.f k b5.1 b5.2.1 b5.2.2.2.1 b5.2.2.1).bind fun j8 => (if e3.2 = 1 then (Ab8.j0 k b5.2.1 b5.2.2.1 b5.2.2.2.1 b5.2.2.2.2 j8.2 2 b5.1 e3.1 e3.2) else (Ab8.j0 k b5.2.1 b5.2.2.1 b5.2.2.2.1 b5.2.2.2.2 j8.2 e3.2 b5.1 e3.1 e3.2))) else (some true)))))))) = some r := h
 clear h
 obtain ⟨g9, A2, H⟩ := ob H
 try dsimp only at H
 have u9 := am H
 clear H
 go_enter Tryz.func4, Tryz.ntmps4
 go_upto_if 13 with (first | (refine gl (some 13) Tryz.func21 rfl #[.slice A0 l0.length c0] ?_; refine (Au9.calls _ _ l0 g9 _ (cq u6.out) u7.out A2.out).mono ?_; rintro e w' ⟨rfl, ⟨nd, rfl⟩⟩; refine ⟨_, rfl, ?_⟩))
 have H := u9.out
 clear u9
 by_cases c4 : g9 = true
 ·subst c4
  rw [if_pos rfl] at H
  obtain rfl := Option.some.inj H
  go_wp2
  go_ret
  exact ⟨er, hq HB.out⟩
 ·replace c4 := Bool.eq_false_iff.mpr c4
  subst c4
  rw [if_neg (show ¬ (false = true) by decide)] at H
  obtain ⟨⟨a5, a6, a4, a7, d1⟩, A5, H⟩ := ob H
  try dsimp only at H
  obtain ⟨⟨b4, a9⟩, A6, H⟩ := ob H
  try dsimp only at H
  obtain ⟨⟨h0, h2⟩, A7, H⟩ := ob H
  try dsimp only at H
  have v0 := am H
  clear H
  try go_wp2_with (first | (refine gl (some 16) Tryz.func22 rfl #[.slice A0 l0.length c0] ?_; refine (Aq5.calls k _ _ l0 a5 a6 a4 a7 d1 _ (cq (Kd.C_below u6.out HB.out)) u7.out A5.out).mono ?_; rintro e w9 ⟨v2, v3, v4, v5, d8, rfl, v6, v7, v8, v9, w2, hb⟩; refine ⟨_, rfl, ?_⟩; have b0 := am (Kd.R_lower v6 (Ac5 (hq HB.out))); have b1 := am (Kd.Q_lower v7 (Ac5 (hq HB.out))); have b2 := am (Kd.R_lower v8 (Ac5 (hq HB.out))); have b3 := am (Kd.R_lower v9 (Ac5 (hq HB.out))); have b7 := am (Kd.R_lower w2 (Ac5 (hq HB.out))); replace HB := sb HB hb; clear hb v6 v7 v8 v9 w2; (try clear hk)) | (refine bx 3 rfl #[.slice none 0 0] 36 ?_; intro b8 hg C0 hbox hb; replace b0 := rb b0 hb; replace b1 := am (Kd.Q_below (qq b1.out) hb); replace b2 := rb b2 hb; replace b3 := rb b3 hb; replace b7 := rb b7 hb; have a1 := am (hbox); have m2 := am (bz hg (hq HB.out)); replace HB := sb HB hb; have s8 := m2; clear hb hbox hg; obtain ⟨d4, c1, rfl⟩ := Kd.R_slice b0.out; have h3 := c0_ a1; have h4 := Aa2 a1.out 0; obtain ⟨d9, d5, s9, _⟩ := Kd.Q_slice b1.out; subst s9; obtain ⟨d6, d0, rfl⟩ := Kd.R_slice b2.out; obtain ⟨e0, d7, rfl⟩ := Kd.R_slice b3.out) | (refine gl (some 26) Tryz.func23 rfl #[.agg #[.slice d4 a5.length c1], .slice d9 a6.length d5, .slice d6 a4.length d0, .slice e0 a7.length d7] ?_; (with_reducible refine (Ae3.calls k _ _ a5 _ _ a6 _ _ a4 _ _ a7 b4 a9 _ ?side1 ?side2 ?side3 ?side4 ?side5 ?side6 ?side7 ?side8 A6.out).mono ?_); (case side1 => refine (Kd.R_reads' (e := 79) (base := w.heap.size) (ok := fun k_ => True) (n := a5.length) (c := c1) ?_).2.2; exact (rq ((Kd.R_mono (Kd.R_far (p := ⟨b8, 0, none⟩) (Kd.R_types b0.out a1.out (by decide)) (fun _ hk => hk.2) (.slice d4 a5.length c1)) (fun _ h_ => h_.1))))); (case side2 => exact (Kd.R_reads' b0.out).2.1); (case side3 => refine (Kd.Q_reads' (e := 2) (base := w.heap.size) (ok := fun k_ => (some k_ ≠ (.slice d6 a4.length d0 : Value).ownBlock ∧ (some k_ ≠ (.slice e0 a7.length d7 : Value).ownBlock ∧ some k_ ≠ (d8 : Value).ownBlock))) (n := a6.length) (c := d5) ?_).2.2; exact (qq ((Kd.Q_mono (Kd.Q_far (p := ⟨b8, 0, none⟩) (Kd.Q_types b1.out a1.out (by decide)) (fun _ hk => hk.2) (.slice d4 a5.length c1)) (fun _ h_ => h_.1))))); (case side4 => exact (Kd.Q_reads' b1.out).2.1); (case side5 => refine (Kd.R_reads' (e := 2) (base := w.heap.size) (ok := fun k_ => (some k_ ≠ (.slice d9 a6.length d5 : Value).ownBlock ∧ (some k_ ≠ (.slice e0 a7.length d7 : Value).ownBlock ∧ some k_ ≠ (d8 : Value).ownBlock))) (n := a4.length) (c := d0) ?_).2.2; exact (rq ((Kd.R_mono (Kd.R_far (p := ⟨b8, 0, none⟩) (Kd.R_types b2.out a1.out (by decide)) (fun _ hk => hk.2) (.slice d4 a5.length c1)) (fun _ h_ => h_.1))))); (case side6 => exact (Kd.R_reads' b2.out).2.1); (case side7 => refine (Kd.R_reads' (e := 2) (base := w.heap.size) (ok := fun k_ => (some k_ ≠ (.slice d9 a6.length d5 : Value).ownBlock ∧ (some k_ ≠ (.slice d6 a4.length d0 : Value).ownBlock ∧ some k_ ≠ (d8 : Value).ownBlock))) (n := a7.length) (c := d7) ?_).2.2; exact (rq ((Kd.R_mono (Kd.R_far (p := ⟨b8, 0, none⟩) (Kd.R_types b3.out a1.out (by decide)) (fun _ hk => hk.2) (.slice d4 a5.length c1)) (fun _ h_ => h_.1))))); (case side8 => exact (Kd.R_reads' b3.out).2.1); rintro e C1 ⟨rfl, hb⟩; refine ⟨_, rfl, ?_⟩; replace b0 := am (Kd.R_below (rq ((Kd.R_mono (Kd.R_far (p := ⟨b8, 0, none⟩) (Kd.R_types b0.out a1.out (by decide)) (fun _ hk => hk.2) (.slice d4 a5.length c1)) (fun _ h_ => h_.1)))) hb); replace b1 := am (Kd.Q_below (qq ((Kd.Q_mono (Kd.Q_far (p := ⟨b8, 0, none⟩) (Kd.Q_types b1.out a1.out (by decide)) (fun _ hk => hk.2) (.slice d4 a5.length c1)) (fun _ h_ => h_.1)))) hb); replace b2 := am (Kd.R_below (rq ((Kd.R_mono (Kd.R_far (p := ⟨b8, 0, none⟩) (Kd.R_types b2.out a1.out (by decide)) (fun _ hk => hk.2) (.slice d4 a5.length c1)) (fun _ h_ => h_.1)))) hb); replace b3 := am (Kd.R_below (rq ((Kd.R_mono (Kd.R_far (p := ⟨b8, 0, none⟩) (Kd.R_types b3.out a1.out (by decide)) (fun _ hk => hk.2) (.slice d4 a5.length c1)) (fun _ h_ => h_.1)))) hb); replace b7 := am (Kd.R_below (rq ((Kd.R_mono (Kd.R_far (p := ⟨b8, 0, none⟩) (Kd.R_types b7.out a1.out (by decide)) (fun _ hk => hk.2) (.slice d4 a5.length c1)) (fun _ h_ => h_.1)))) hb); replace a1 := am (Af8 (g := b8) (o := .cells #[.slice d4 a5.length c1] 36 (0, 0)) (by refine bq ?_; refine Ac7 (cs := #[.slice none 0 0]) ?_ 0 _ rfl; refine bq ?_; exact a1.out) hb); replace HB := sb HB hb; clear hb; (try clear hk)) | (refine bx 8 rfl #[.int .i64 0, .int .i64 0] 54 ?_; intro a3 hg k3 hbox hb; replace b0 := rb b0 hb; replace b1 := am (Kd.Q_below (qq b1.out) hb); replace b2 := rb b2 hb; replace b3 := rb b3 hb; replace b7 := rb b7 hb; have a0 := am (hbox); have m3 := am (bz hg (hs HB.out)); replace HB := sb HB hb; have t0 := m3; have e5 := nl hg a1; have d2 := ng hg a1; replace a1 := bb a1 hb; clear hb hbox hg; obtain ⟨w3, w4⟩ := nn d2; have h5 := c0_ a0; have h6 := c1_ a0; have h7 := Aa2 a0.out 0; have h8 := Aa2 a0.out 1))
  have t1 : Aside0 (Kd.R k79 79 ((k3.setCell ⟨a3, 0, none⟩ (.int .i64 b4)).setCell ⟨a3, 1, none⟩ (.int .i64 a9)) w.heap.size (fun _ => True) (.slice d4 a5.length c1) a5) := ⟨rq (Kd.R_mono (Kd.R_far (p := ⟨a3, 1, none⟩) (Kd.R_far (p := ⟨a3, 0, none⟩) (Kd.R_types b0.out a0.out (by decide)) (fun _ hk => hk.2) (.int .i64 b4)) (fun _ hk => hk.2) (.int .i64 a9)) (fun _ hk => trivial))⟩
  have t2 : Aside0 (Kd.Q (Kd.int .i64) 2 ((k3.setCell ⟨a3, 0, none⟩ (.int .i64 b4)).setCell ⟨a3, 1, none⟩ (.int .i64 a9)) w.heap.size (fun k_ => some k_ ≠ (.slice d6 a4.length d0 : Value).ownBlock ∧ some k_ ≠ (.slice e0 a7.length d7 : Value).ownBlock ∧ some k_ ≠ (d8 : Value).ownBlock) (.slice d9 a6.length d5) a6) := ⟨qq (Kd.Q_mono (Kd.Q_far (p := ⟨a3, 1, none⟩) (Kd.Q_far (p := ⟨a3, 0, none⟩) (Kd.Q_types b1.out a0.out (by decide)) (fun _ hk => hk.2) (.int .i64 b4)) (fun _ hk => hk.2) (.int .i64 a9)) (fun _ hk => ⟨hk.1.1, ⟨hk.1.2.1, hk.1.2.2⟩⟩))⟩
  have t3 : Aside0 (Kd.R (Kd.int .i64) 2 ((k3.setCell ⟨a3, 0, none⟩ (.int .i64 b4)).setCell ⟨a3, 1, none⟩ (.int .i64 a9)) w.heap.size (fun k_ => some k_ ≠ (.slice d9 a6.length d5 : Value).ownBlock ∧ some k_ ≠ (.slice e0 a7.length d7 : Value).ownBlock ∧ some k_ ≠ (d8 : Value).ownBlock) (.slice d6 a4.length d0) a4) := ⟨rq (Kd.R_mono (Kd.R_far (p := ⟨a3, 1, none⟩) (Kd.R_far (p := ⟨a3, 0, none⟩) (Kd.R_types b2.out a0.out (by decide)) (fun _ hk => hk.2) (.int .i64 b4)) (fun _ hk => hk.2) (.int .i64 a9)) (fun _ hk => ⟨hk.1.1, ⟨hk.1.2.1, hk.1.2.2⟩⟩))⟩
  have t4 : Aside0 (Kd.R (Kd.int .i64) 2 ((k3.setCell ⟨a3, 0, none⟩ (.int .i64 b4)).setCell ⟨a3, 1, none⟩ (.int .i64 a9)) w.heap.size (fun k_ => some k_ ≠ (.slice d9 a6.length d5 : Value).ownBlock ∧ some k_ ≠ (.slice d6 a4.length d0 : Value).ownBlock ∧ some k_ ≠ (d8 : Value).ownBlock) (.slice e0 a7.length d7) a7) := ⟨rq (Kd.R_mono (Kd.R_far (p := ⟨a3, 1, none⟩) (Kd.R_far (p := ⟨a3, 0, none⟩) (Kd.R_types b3.out a0.out (by decide)) (fun _ hk => hk.2) (.int .i64 b4)) (fun _ hk => hk.2) (.int .i64 a9)) (fun _ hk => ⟨hk.1.1, ⟨hk.1.2.1, hk.1.2.2⟩⟩))⟩
  have t5 : Aside0 (Kd.R (Kd.int .i64) 2 ((k3.setCell ⟨a3, 0, none⟩ (.int .i64 b4)).setCell ⟨a3, 1, none⟩ (.int .i64 a9)) w.heap.size (fun k_ => some k_ ≠ (.slice d9 a6.length d5 : Value).ownBlock ∧ some k_ ≠ (.slice d6 a4.length d0 : Value).ownBlock ∧ some k_ ≠ (.slice e0 a7.length d7 : Value).ownBlock) d8 d1) := ⟨rq (Kd.R_mono (Kd.R_far (p := ⟨a3, 1, none⟩) (Kd.R_far (p := ⟨a3, 0, none⟩) (Kd.R_types b7.out a0.out (by decide)) (fun _ hk => hk.2) (.int .i64 b4)) (fun _ hk => hk.2) (.int .i64 a9)) (fun _ hk => ⟨hk.1.1, ⟨hk.1.2.1, hk.1.2.2⟩⟩))⟩
  have t6 : Aside0 (((k3.setCell ⟨a3, 0, none⟩ (.int .i64 b4)).setCell ⟨a3, 1, none⟩ (.int .i64 a9)).heap[b8]? = some (.cells #[.slice d4 a5.length c1] 36 (0, 0))) := ⟨bf a1.out⟩
  have t7 : Aside0 (((k3.setCell ⟨a3, 0, none⟩ (.int .i64 b4)).setCell ⟨a3, 1, none⟩ (.int .i64 a9)).heap[a3]? = some (.cells #[.int .i64 b4, .int .i64 a9] 54 (0, 0))) := ⟨by refine bq ?_; refine Ac7 (cs := #[.int .i64 b4, .int .i64 0]) ?_ 1 _ rfl; refine bq ?_; refine Ac7 (cs := #[.int .i64 0, .int .i64 0]) ?_ 0 _ rfl; refine bq ?_; exact a0.out⟩
  have t8 : Aside0 (Below w.heap.size w ((k3.setCell ⟨a3, 0, none⟩ (.int .i64 b4)).setCell ⟨a3, 1, none⟩ (.int .i64 a9))) := ⟨hs HB.out⟩
  (try clear b0)
  (try clear b1)
  (try clear b2)
  (try clear b3)
  (try clear b7)
  (try clear a1)
  (try clear a0)
  (try clear HB)
  generalize ((k3.setCell ⟨a3, 0, none⟩ (.int .i64 b4)).setCell ⟨a3, 1, none⟩ (.int .i64 a9)) = A4 at t1 t2 t3 t4 t5 t6 t7 t8 ⊢
  have b0 := t1
  have b1 := t2
  have b2 := t3
  have b3 := t4
  have b7 := t5
  have a1 := t6
  have a0 := t7
  have HB := t8
  clear t1 t2 t3 t4 t5 t6 t7 t8
  replace b0 := am (Kd.R_drew b0.out)
  replace b1 := am (Kd.Q_drew b1.out)
  replace b2 := am (Kd.R_drew b2.out)
  replace b3 := am (Kd.R_drew b3.out)
  replace b7 := am (Kd.R_drew b7.out)
  replace a1 := am (Ah2 a1.out)
  replace a0 := am (Ah2 a0.out)
  replace HB := am (Af1 HB.out)
  refine st_ (n := 7) (S := fun w' => w'.cell? ⟨a3, 0, none⟩ = some (.int .i64 b4) ∧ w'.cell? ⟨a3, 1, none⟩ = some (.int .i64 a9) ∧ w'.cell? ⟨b8, 0, none⟩ = some (.slice d4 a5.length c1)) (ds := []) ⟨(Ad1 a0.out 0).trans rfl, (Ad1 a0.out 1).trans rfl, (Ad1 a1.out 0).trans rfl⟩ (fun hHeld => ?_)
  generalize A4.drew = C2 at b0 b1 b2 b3 b7 a1 a0 HB hHeld ⊢
  refine As2 (i := 2) (N := some 29) (v := ?_) (a' := ?_) #[false, false, true, false, false, false, false] rfl rfl (by kernel_rfl) (fun _ _ _ h => h) (Or.inl ⟨by rfl, ?_⟩) ?_ ?_
  rotate_left
  ·intro w'
   go_simp
   with_reducible rfl
  rotate_left
  ·simp only [Act.put, lsp, Ae6, Ae7]
   rfl
  refine As2 (i := 3) (N := some 30) (v := ?_) (a' := ?_) #[false, false, true, true, false, false, false] rfl rfl (by kernel_rfl) (fun _ _ _ h => h) (Or.inl ⟨by rfl, ?_⟩) ?_ ?_
  rotate_left
  ·intro w'
   go_simp
   with_reducible rfl
  rotate_left
  ·simp only [Act.put, lsp, Ae6, Ae7]
   rfl
  refine As2 (i := 4) (N := some 31) (v := ?_) (a' := ?_) #[false, false, true, true, true, false, false] rfl rfl (by kernel_rfl) (fun _ _ _ h => h) (Or.inl ⟨by rfl, ?_⟩) ?_ ?_
  rotate_left
  ·intro w'
   go_simp
   with_reducible rfl
  rotate_left
  ·simp only [Act.put, lsp, Ae6, Ae7]
   rfl
  refine take_ (i := 0) (N := some 27) (v := ?_) (a' := ?_) #[true, false, true, true, true, false, false] rfl rfl (by kernel_rfl) (fun _ _ _ h => h) (Or.inl ⟨by rfl, ?_⟩) hHeld ?_ ?_
  rotate_left
  ·rintro w' ⟨s0, s1, s2⟩
   go_simp
   with_reducible rfl
  rotate_left
  ·simp only [Act.put, lsp, Ae6, Ae7]
   rfl
  refine take_ (i := 1) (N := some 28) (v := ?_) (a' := ?_) #[true, true, true, true, true, false, false] rfl rfl (by kernel_rfl) (fun _ _ _ h => h) (Or.inl ⟨by rfl, ?_⟩) hHeld ?_ ?_
  rotate_left
  ·rintro w' ⟨s0, s1, s2⟩
   go_simp
   with_reducible rfl
  rotate_left
  ·simp only [Act.put, lsp, Ae6, Ae7]
   rfl
  refine Bo9 (i := 5) (N := some 32) #[true, true, true, true, true, true, false] rfl rfl (by kernel_rfl) (by decide) (fun K hK => ?_)
  refine gs Tryz.func24 #[.agg #[.slice d4 a5.length c1], .slice d9 a6.length d5, .slice d6 a4.length d0, .slice e0 a7.length d7] ?_
  refine (Ak3.calls k _ _ a5 _ _ a6 _ _ a4 _ _ a7 h0 h2 _ (cq (Kd.R_reads' b0.out).2.2) ((Kd.R_reads' b0.out).2.1) (cq (Kd.Q_reads' b1.out).2.2) ((Kd.Q_reads' b1.out).2.1) (cq (Kd.R_reads' b2.out).2.2) ((Kd.R_reads' b2.out).2.1) (cq (Kd.R_reads' b3.out).2.2) ((Kd.R_reads' b3.out).2.1) A7.out).mono ?_
  rintro e C3 ⟨rfl, hb⟩
  refine ⟨_, rfl, ?_⟩
  replace b0 := rb b0 hb
  replace b1 := am (Kd.Q_below (qq b1.out) hb)
  replace b2 := rb b2 hb
  replace b3 := rb b3 hb
  replace b7 := rb b7 hb
  replace a1 := bb a1 hb
  replace a0 := bb a0 hb
  replace HB := sb HB hb
  (try clear hb)
  (try clear hk)
  refine hK.out _ _ ⟨(Ad1 a0.out 0).trans rfl, (Ad1 a0.out 1).trans rfl, (Ad1 a1.out 0).trans rfl⟩ (fun hHeld => ?_)
  clear hK K
  refine nr (some 32) ?_
  refine As2 (i := 6) (N := some 33) (v := ?_) (a' := ?_) #[true, true, true, true, true, true, true] rfl rfl (by kernel_rfl) (fun _ _ _ h => h) (Or.inl ⟨by rfl, ?_⟩) ?_ ?_
  rotate_left
  ·intro w'
   go_simp
   with_reducible rfl
  rotate_left
  ·simp only [Act.put, lsp, Ae6, Ae7]
   rfl
  refine Ar3 (by kernel_rfl) ?_
  go_upto_if 33 with (fail)
  have H := v0.out
  clear v0
  by_cases k2 : (!(b4 == h0) || (!(a9 == h2))) = true
  ·rw [if_pos k2] at H
   have e6 : (!(b4 == h0) || (!(a9 == h2))) = true := k2
   clear k2
   (first | rw [e6] | (simp only [Ae6, Ae7]; rw [e6]) | skip)
   exact absurd ((Option.some.inj H).trans u5) Bool.false_ne_true
  ·rw [if_neg k2] at H
   have e6 : (!(b4 == h0) || (!(a9 == h2))) = false := by simpa using k2
   clear k2
   (first | rw [e6] | (simp only [Ae6, Ae7]; rw [e6]) | skip)
   by_cases m4 : b4 = 0
   ·rw [if_pos m4] at H
    obtain ⟨j9, k0⟩ := bqt m4; clear m4
    obtain ⟨⟨n1, h9⟩, A8, H⟩ := ob H
    try dsimp only at H
    have m5 := am H
    clear H
    obtain ⟨w5, w6⟩ := nn d2
    have i0 := c0_ a0
    have i1 := c1_ a0
    have i2 := Aa2 a0.out 0
    have i3 := Aa2 a0.out 1
    have i4 := c0_ a1
    have i5 := Aa2 a1.out 0
    go_upto_if 47 with (first | (refine gl (some 41) Tryz.func23 rfl #[.agg #[.slice d4 a5.length c1], .slice d9 a6.length d5, .slice e0 a7.length d7, .slice d6 a4.length d0] ?_; refine (Ae3.calls k _ _ a5 _ _ a6 _ _ a7 _ _ a4 n1 h9 _ (cq (Kd.R_reads' b0.out).2.2) ((Kd.R_reads' b0.out).2.1) (cq (Kd.Q_reads' b1.out).2.2) ((Kd.Q_reads' b1.out).2.1) (cq (Kd.R_reads' b3.out).2.2) ((Kd.R_reads' b3.out).2.1) (cq (Kd.R_reads' b2.out).2.2) ((Kd.R_reads' b2.out).2.1) A8.out).mono ?_; rintro e C4 ⟨rfl, hb⟩; refine ⟨_, rfl, ?_⟩; replace b0 := rb b0 hb; replace b1 := am (Kd.Q_below (qq b1.out) hb); replace b2 := rb b2 hb; replace b3 := rb b3 hb; replace b7 := rb b7 hb; replace a1 := bb a1 hb; replace a0 := bb a0 hb; replace HB := sb HB hb; (try clear hb); (try clear hk); have i6 := c0_ a0; have i7 := c1_ a0; have i9 := Aa2 a0.out 0; have j5 := Aa2 a0.out 1))
    (try simp only [Act.put, lsp])
    go_cut [10] (fun t9 wc => ∃ (kq : Nat) (e7 : Int), t9 = .int .i64 e7 ∧ Aside0 (Ab8.j0 kq a6 a4 a7 d1 h9 e7 a5 b4 a9 = some r) ∧ Aside0 (kq ≤ k) ∧ Aside0 (Kd.Q (Kd.int .i64) 2 wc w.heap.size (fun k_ => some k_ ≠ ((.slice d6 a4.length d0) : Value).ownBlock ∧ some k_ ≠ ((.slice e0 a7.length d7) : Value).ownBlock ∧ some k_ ≠ (d8 : Value).ownBlock) (.slice d9 a6.length d5) a6) ∧ Aside0 (Kd.R (Kd.int .i64) 2 wc w.heap.size (fun k_ => some k_ ≠ ((.slice d9 a6.length d5) : Value).ownBlock ∧ some k_ ≠ ((.slice e0 a7.length d7) : Value).ownBlock ∧ some k_ ≠ (d8 : Value).ownBlock) (.slice d6 a4.length d0) a4) ∧ Aside0 (Kd.R (Kd.int .i64) 2 wc w.heap.size (fun k_ => some k_ ≠ ((.slice d9 a6.length d5) : Value).ownBlock ∧ some k_ ≠ ((.slice d6 a4.length d0) : Value).ownBlock ∧ some k_ ≠ (d8 : Value).ownBlock) (.slice e0 a7.length d7) a7) ∧ Aside0 (Kd.R (Kd.int .i64) 2 wc w.heap.size (fun k_ => some k_ ≠ ((.slice d9 a6.length d5) : Value).ownBlock ∧ some k_ ≠ ((.slice d6 a4.length d0) : Value).ownBlock ∧ some k_ ≠ ((.slice e0 a7.length d7) : Value).ownBlock) d8 d1) ∧ Aside0 (Kd.R k79 79 wc w.heap.size (fun _ => True) (.slice d4 a5.length c1) a5) ∧ Aside0 (wc.heap[b8]? = some (.cells #[(.slice d4 a5.length c1)] 36 (0, 0))) ∧ Aside0 (wc.heap[a3]? = some (.cells #[.int .i64 b4, .int .i64 a9] 54 (0, 0))) ∧ Aside0 (Below w.heap.size w wc))
    case first =>
     have H := m5.out
     clear m5
     by_cases n2 : a9 = 1
     ·rw [if_pos n2] at H
      obtain ⟨g1, n3⟩ := bqt n2; clear n2
      (first | rw [g1] | (simp only [Ae6, Ae7]; rw [g1]) | skip)
      have H' := am H
      clear H
      go_wp2
      go_meet
      case rel => exact ⟨_, (2), et, H', lo, ⟨qq b1.out⟩, ⟨rq b2.out⟩, ⟨rq b3.out⟩, ⟨rq b7.out⟩, ⟨rq b0.out⟩, ⟨bq a1.out⟩, ⟨bq a0.out⟩, ⟨hs HB.out⟩⟩
     ·rw [if_neg n2] at H
      obtain ⟨g1, n3⟩ := bqf n2
      (first | rw [g1] | (simp only [Ae6, Ae7]; rw [g1]) | skip)
      have H' := am H
      clear H
      go_wp2
      go_meet
      case rel => exact ⟨_, (a9), et, H', lo, ⟨qq b1.out⟩, ⟨rq b2.out⟩, ⟨rq b3.out⟩, ⟨rq b7.out⟩, ⟨rq b0.out⟩, ⟨bq a1.out⟩, ⟨bq a0.out⟩, ⟨hs HB.out⟩⟩
    case rest =>
     clear m5
     try clear c4; try clear k2; try clear e6; try clear m4; try clear j9; try clear k0; try clear h3; try clear h5; try clear h6; try clear i0; try clear i1; try clear i4; try clear i6; try clear i7; try clear h4; try clear h7; try clear h8; try clear i2; try clear i3; try clear i5; try clear i9; try clear j5
     obtain ⟨kq, e7, rfl, HA, g2, HO_4, HO_5, HO_6, HO_7, HO_1047000, a1, a0, HB⟩ := hcut
     cases kq with
     | zero => exact absurd HA.out (by simp [Ab8.j0])
     | succ u0 =>
      have H := HA.out
      clear HA
      simp only [Ab8.j0] at H
      have m6 := am H
      clear H
      obtain ⟨w7, w8⟩ := nn d2
      have k4 := c0_ a0
      have k5 := c1_ a0
      have k6 := Aa2 a0.out 0
      have k7 := Aa2 a0.out 1
      go_upto_if 50 with (fail)
      go_cut [10] (fun t9 wc => ∃ (kq : Nat) (e8 : Int), t9 = .int .i64 e8 ∧ Aside0 (Ab8.j1 kq a6 a4 a7 d1 h9 e8 a5 b4 a9 = some r) ∧ Aside0 (kq ≤ u0) ∧ Aside0 (Kd.Q (Kd.int .i64) 2 wc w.heap.size (fun k_ => some k_ ≠ ((.slice d6 a4.length d0) : Value).ownBlock ∧ some k_ ≠ ((.slice e0 a7.length d7) : Value).ownBlock ∧ some k_ ≠ (d8 : Value).ownBlock) (.slice d9 a6.length d5) a6) ∧ Aside0 (Kd.R (Kd.int .i64) 2 wc w.heap.size (fun k_ => some k_ ≠ ((.slice d9 a6.length d5) : Value).ownBlock ∧ some k_ ≠ ((.slice e0 a7.length d7) : Value).ownBlock ∧ some k_ ≠ (d8 : Value).ownBlock) (.slice d6 a4.length d0) a4) ∧ Aside0 (Kd.R (Kd.int .i64) 2 wc w.heap.size (fun k_ => some k_ ≠ ((.slice d9 a6.length d5) : Value).ownBlock ∧ some k_ ≠ ((.slice d6 a4.length d0) : Value).ownBlock ∧ some k_ ≠ (d8 : Value).ownBlock) (.slice e0 a7.length d7) a7) ∧ Aside0 (Kd.R (Kd.int .i64) 2 wc w.heap.size (fun k_ => some k_ ≠ ((.slice d9 a6.length d5) : Value).ownBlock ∧ some k_ ≠ ((.slice d6 a4.length d0) : Value).ownBlock ∧ some k_ ≠ ((.slice e0 a7.length d7) : Value).ownBlock) d8 d1) ∧ Aside0 (Kd.R k79 79 wc w.heap.size (fun _ => True) (.slice d4 a5.length c1) a5) ∧ Aside0 (wc.heap[b8]? = some (.cells #[(.slice d4 a5.length c1)] 36 (0, 0))) ∧ Aside0 (wc.heap[a3]? = some (.cells #[.int .i64 b4, .int .i64 a9] 54 (0, 0))) ∧ Aside0 (Below w.heap.size w wc))
      case first =>
       have H := m6.out
       clear m6
       by_cases n4 : a9 = 2
       ·rw [if_pos n4] at H
        obtain ⟨g3, n5⟩ := bqt n4; clear n4
        (first | rw [g3] | (simp only [Ae6, Ae7]; rw [g3]) | skip)
        have H' := am H
        clear H
        go_wp2
        go_meet
        case rel => exact ⟨_, (1), et, H', ⟨by have := g2.out; first | omega | exact Nat.le_refl _⟩, ⟨qq HO_4.out⟩, ⟨rq HO_5.out⟩, ⟨rq HO_6.out⟩, ⟨rq HO_7.out⟩, ⟨rq HO_1047000.out⟩, ⟨bq a1.out⟩, ⟨bq a0.out⟩, ⟨hs HB.out⟩⟩
       ·rw [if_neg n4] at H
        obtain ⟨g3, n5⟩ := bqf n4
        (first | rw [g3] | (simp only [Ae6, Ae7]; rw [g3]) | skip)
        have H' := am H
        clear H
        go_wp2
        go_meet
        case rel => exact ⟨_, (e7), et, H', ⟨by have := g2.out; first | omega | exact Nat.le_refl _⟩, ⟨qq HO_4.out⟩, ⟨rq HO_5.out⟩, ⟨rq HO_6.out⟩, ⟨rq HO_7.out⟩, ⟨rq HO_1047000.out⟩, ⟨bq a1.out⟩, ⟨bq a0.out⟩, ⟨hs HB.out⟩⟩
      case rest =>
       clear m6
       try clear c4; try clear k2; try clear e6; try clear m4; try clear j9; try clear k0; try clear h3; try clear h5; try clear h6; try clear i0; try clear i1; try clear i4; try clear i6; try clear i7; try clear k4; try clear k5; try clear h4; try clear h7; try clear h8; try clear i2; try clear i3; try clear i5; try clear i9; try clear j5; try clear k6; try clear k7
       obtain ⟨kq, e8, rfl, HA, j6, HO_4, HO_5, HO_6, HO_7, HO_1047000, a1, a0, HB⟩ := hcut
       cases kq with
       | zero => exact absurd HA.out (by simp [Ab8.j1])
       | succ k8 =>
        have H := HA.out
        clear HA
        simp only [Ab8.j1] at H
        have m7 := am H
        clear H
        go_upto_region 15 with (fail)
        go_cut [71] (fun A9 wc => ∃ (kq : Nat) (e9 : Bool), A9 = .bool e9 ∧ Aside0 (Ab8.j2 kq a6 a4 a7 d1 e9 a5 b4 a9 = some r) ∧ Aside0 (kq ≤ k8) ∧ Aside0 (Kd.Q (Kd.int .i64) 2 wc w.heap.size (fun k_ => some k_ ≠ ((.slice d6 a4.length d0) : Value).ownBlock ∧ some k_ ≠ ((.slice e0 a7.length d7) : Value).ownBlock ∧ some k_ ≠ (d8 : Value).ownBlock) (.slice d9 a6.length d5) a6) ∧ Aside0 (Kd.R (Kd.int .i64) 2 wc w.heap.size (fun k_ => some k_ ≠ ((.slice d9 a6.length d5) : Value).ownBlock ∧ some k_ ≠ ((.slice e0 a7.length d7) : Value).ownBlock ∧ some k_ ≠ (d8 : Value).ownBlock) (.slice d6 a4.length d0) a4) ∧ Aside0 (Kd.R (Kd.int .i64) 2 wc w.heap.size (fun k_ => some k_ ≠ ((.slice d9 a6.length d5) : Value).ownBlock ∧ some k_ ≠ ((.slice d6 a4.length d0) : Value).ownBlock ∧ some k_ ≠ (d8 : Value).ownBlock) (.slice e0 a7.length d7) a7) ∧ Aside0 (Kd.R (Kd.int .i64) 2 wc w.heap.size (fun k_ => some k_ ≠ ((.slice d9 a6.length d5) : Value).ownBlock ∧ some k_ ≠ ((.slice d6 a4.length d0) : Value).ownBlock ∧ some k_ ≠ ((.slice e0 a7.length d7) : Value).ownBlock) d8 d1) ∧ Aside0 (Kd.R k79 79 wc w.heap.size (fun _ => True) (.slice d4 a5.length c1) a5) ∧ Aside0 (wc.heap[b8]? = some (.cells #[(.slice d4 a5.length c1)] 36 (0, 0))) ∧ Aside0 (wc.heap[a3]? = some (.cells #[.int .i64 b4, .int .i64 a9] 54 (0, 0))) ∧ Aside0 (Below w.heap.size w wc))
        case first =>
         have H := m7.out
         clear m7
         by_cases n6 : h9 = e8
         ·rw [if_pos n6] at H
          obtain ⟨g4, n7⟩ := bqt n6; clear n6
          (first | rw [g4] | (simp only [Ae6, Ae7]; rw [g4]) | skip)
          obtain ⟨e4, x0, H⟩ := ob H
          try dsimp only at H
          by_cases k1 : ((a9 == 3) != e4) = true
          ·rw [if_pos k1] at H
           have n8 : ((a9 == 3) != e4) = true := k1
           (try (have n9 : decide ((a9 == 3) = e4) = false := by simpa using k1))
           (try (have o0 : ((a9 == 3) == e4) = false := by simpa using k1))
           (try (have x1 : ¬ ((a9 == 3) = e4) := by simpa using k1))
           clear k1
           have H' := am H
           clear H
           try go_wp2
           replace HO_4 := am (Kd.Q_drew HO_4.out)
           replace HO_5 := am (Kd.R_drew HO_5.out)
           replace HO_6 := am (Kd.R_drew HO_6.out)
           replace HO_7 := am (Kd.R_drew HO_7.out)
           replace HO_1047000 := am (Kd.R_drew HO_1047000.out)
           replace a1 := am (Ah2 a1.out)
           replace a0 := am (Ah2 a0.out)
           replace HB := am (Af1 HB.out)
           refine st_ (n := 21) (S := fun w' => w'.cell? ⟨a3, 0, none⟩ = some (.int .i64 b4) ∧ w'.cell? ⟨a3, 1, none⟩ = some (.int .i64 a9)) (ds := []) ⟨(Ad1 a0.out 0).trans rfl, (Ad1 a0.out 1).trans rfl⟩ (fun hHeld => ?_); refine Ah6 Ab8.tab15 Ab8.bits15 (fun b6 l9 => ?_)
           generalize wc.drew = C5 at HO_4 HO_5 HO_6 HO_7 HO_1047000 a1 a0 HB hHeld ⊢
           refine pu 0 51 rfl rfl b6 ?_
           refine pu 1 52 rfl rfl b6 ?_
           refine pu 2 53 rfl rfl b6 ?_
           refine pu 3 54 rfl rfl b6 ?_
           refine pu 4 55 rfl rfl b6 ?_
           refine pu 7 58 rfl rfl b6 ?_
           refine pu 8 59 rfl rfl b6 ?_
           refine tk 5 56 rfl rfl b6 l9 hHeld ?_
           refine pu 6 57 rfl rfl b6 ?_
           refine on_ 9 (some 60) rfl rfl b6 (fun K hK => ?_)
           refine gs Tryz.func25 #[.slice d6 a4.length d0, .slice e0 a7.length d7] ?_
           refine (Ak0.calls k8 _ _ a4 _ _ a7 e4 _ (cq (Kd.R_reads' HO_5.out).2.2) ((Kd.R_reads' HO_5.out).2.1) (cq (Kd.R_reads' HO_6.out).2.2) ((Kd.R_reads' HO_6.out).2.1) x0.out).mono ?_
           rintro e w' ⟨rfl, ⟨nd, rfl⟩⟩
           refine ⟨_, rfl, ?_⟩
           refine hK.out _ _ ⟨(Ad1 a0.out 0).trans rfl, (Ad1 a0.out 1).trans rfl⟩ (fun hHeld => ?_)
           clear hK K
           refine nr (some 60) ?_
           refine pu 10 61 rfl rfl b6 ?_
           refine pu 11 62 rfl rfl b6 ?_
           refine pu 12 63 rfl rfl b6 ?_
           refine pz 13 64 rfl rfl b6 ?_
           refine pz 14 65 rfl rfl b6 ?_
           refine pz 15 66 rfl rfl b6 ?_
           refine pz 16 67 rfl rfl b6 ?_
           refine pz 17 68 rfl rfl b6 ?_
           refine pz 18 69 rfl rfl b6 ?_
           refine pz 19 70 rfl rfl b6 ?_
           refine pu 20 71 rfl rfl b6 ?_
           refine Ar3 (Al8 b6.out (by kernel_rfl)) ?_
           try go_wp2
           go_meet
           case rel => exact ⟨_, (true), et, H', ⟨by have := g2.out; have := j6.out; first | omega | exact Nat.le_refl _⟩, ⟨qq HO_4.out⟩, ⟨rq HO_5.out⟩, ⟨rq HO_6.out⟩, ⟨rq HO_7.out⟩, ⟨rq HO_1047000.out⟩, ⟨bq a1.out⟩, ⟨bq a0.out⟩, ⟨hs HB.out⟩⟩
          ·rw [if_neg k1] at H
           have n8 : ((a9 == 3) != e4) = false := by simpa using k1
           (try (have n9 : decide ((a9 == 3) = e4) = true := by simpa using k1))
           (try (have o0 : ((a9 == 3) == e4) = true := by simpa using k1))
           clear k1
           obtain ⟨⟨o1, m0⟩, B0, H⟩ := ob H
           try dsimp only at H
           have H' := am H
           clear H
           try go_wp2
           replace HO_4 := am (Kd.Q_drew HO_4.out)
           replace HO_5 := am (Kd.R_drew HO_5.out)
           replace HO_6 := am (Kd.R_drew HO_6.out)
           replace HO_7 := am (Kd.R_drew HO_7.out)
           replace HO_1047000 := am (Kd.R_drew HO_1047000.out)
           replace a1 := am (Ah2 a1.out)
           replace a0 := am (Ah2 a0.out)
           replace HB := am (Af1 HB.out)
           refine st_ (n := 21) (S := fun w' => w'.cell? ⟨a3, 0, none⟩ = some (.int .i64 b4) ∧ w'.cell? ⟨a3, 1, none⟩ = some (.int .i64 a9) ∧ w'.cell? ⟨b8, 0, none⟩ = some (.slice d4 a5.length c1)) (ds := []) ⟨(Ad1 a0.out 0).trans rfl, (Ad1 a0.out 1).trans rfl, (Ad1 a1.out 0).trans rfl⟩ (fun hHeld => ?_); refine Ah6 Ab8.tab15 Ab8.bits15 (fun b6 l9 => ?_)
           generalize wc.drew = C6 at HO_4 HO_5 HO_6 HO_7 HO_1047000 a1 a0 HB hHeld ⊢
           refine pu 0 51 rfl rfl b6 ?_
           refine pu 1 52 rfl rfl b6 ?_
           refine pu 2 53 rfl rfl b6 ?_
           refine pu 3 54 rfl rfl b6 ?_
           refine pu 4 55 rfl rfl b6 ?_
           refine pu 7 58 rfl rfl b6 ?_
           refine pu 8 59 rfl rfl b6 ?_
           refine tk 5 56 rfl rfl b6 l9 hHeld ?_
           refine pu 6 57 rfl rfl b6 ?_
           refine on_ 9 (some 60) rfl rfl b6 (fun K hK => ?_)
           refine gs Tryz.func25 #[.slice d6 a4.length d0, .slice e0 a7.length d7] ?_
           refine (Ak0.calls k8 _ _ a4 _ _ a7 e4 _ (cq (Kd.R_reads' HO_5.out).2.2) ((Kd.R_reads' HO_5.out).2.1) (cq (Kd.R_reads' HO_6.out).2.2) ((Kd.R_reads' HO_6.out).2.1) x0.out).mono ?_
           rintro e w' ⟨rfl, ⟨nd, rfl⟩⟩
           refine ⟨_, rfl, ?_⟩
           refine hK.out _ _ ⟨(Ad1 a0.out 0).trans rfl, (Ad1 a0.out 1).trans rfl, (Ad1 a1.out 0).trans rfl⟩ (fun hHeld => ?_)
           clear hK K
           refine nr (some 60) ?_
           refine pu 10 61 rfl rfl b6 ?_
           refine pu 11 62 rfl rfl b6 ?_
           refine pu 12 63 rfl rfl b6 ?_
           refine pu 14 65 rfl rfl b6 ?_
           refine pu 15 66 rfl rfl b6 ?_
           refine pu 16 67 rfl rfl b6 ?_
           refine tk 13 64 rfl rfl b6 l9 hHeld ?_
           refine on_ 17 (some 68) rfl rfl b6 (fun K hK => ?_)
           refine gs Tryz.func23 #[.agg #[.slice d4 a5.length c1], .slice d9 a6.length d5, .slice d6 a4.length d0, .slice d6 a4.length d0] ?_
           refine (Ae3.calls k8 _ _ a5 _ _ a6 _ _ a4 _ _ a4 o1 m0 _ (cq (Kd.R_reads' HO_1047000.out).2.2) ((Kd.R_reads' HO_1047000.out).2.1) (cq (Kd.Q_reads' HO_4.out).2.2) ((Kd.Q_reads' HO_4.out).2.1) (cq (Kd.R_reads' HO_5.out).2.2) ((Kd.R_reads' HO_5.out).2.1) (cq (Kd.R_reads' HO_5.out).2.2) ((Kd.R_reads' HO_5.out).2.1) B0.out).mono ?_
           rintro e C7 ⟨rfl, hb⟩
           refine ⟨_, rfl, ?_⟩
           replace HO_4 := am (Kd.Q_below (qq HO_4.out) hb)
           replace HO_5 := rb HO_5 hb
           replace HO_6 := rb HO_6 hb
           replace HO_7 := rb HO_7 hb
           replace HO_1047000 := rb HO_1047000 hb
           replace a1 := bb a1 hb
           replace a0 := bb a0 hb
           replace HB := sb HB hb
           (try clear hb)
           (try clear hk)
           refine hK.out _ _ ⟨(Ad1 a0.out 0).trans rfl, (Ad1 a0.out 1).trans rfl, (Ad1 a1.out 0).trans rfl⟩ (fun hHeld => ?_)
           clear hK K
           refine nr (some 68) ?_
           refine pu 18 69 rfl rfl b6 ?_
           refine pu 19 70 rfl rfl b6 ?_
           refine pu 20 71 rfl rfl b6 ?_
           refine Ar3 (Al8 b6.out (by kernel_rfl)) ?_
           try go_wp2
           go_meet
           case rel => exact ⟨_, ((m0 != 3)), et, H', ⟨by have := g2.out; have := j6.out; first | omega | exact Nat.le_refl _⟩, ⟨qq HO_4.out⟩, ⟨rq HO_5.out⟩, ⟨rq HO_6.out⟩, ⟨rq HO_7.out⟩, ⟨rq HO_1047000.out⟩, ⟨bq a1.out⟩, ⟨bq a0.out⟩, ⟨hs HB.out⟩⟩
         ·rw [if_neg n6] at H
          obtain ⟨g4, n7⟩ := bqf n6
          (first | rw [g4] | (simp only [Ae6, Ae7]; rw [g4]) | skip)
          have H' := am H
          clear H
          try go_wp2
          replace HO_4 := am (Kd.Q_drew HO_4.out)
          replace HO_5 := am (Kd.R_drew HO_5.out)
          replace HO_6 := am (Kd.R_drew HO_6.out)
          replace HO_7 := am (Kd.R_drew HO_7.out)
          replace HO_1047000 := am (Kd.R_drew HO_1047000.out)
          replace a1 := am (Ah2 a1.out)
          replace a0 := am (Ah2 a0.out)
          replace HB := am (Af1 HB.out)
          refine st_ (n := 21) (S := fun w' => True) (ds := []) trivial (fun hHeld => ?_); refine Ah6 Ab8.tab15 Ab8.bits15 (fun b6 l9 => ?_)
          generalize wc.drew = C8 at HO_4 HO_5 HO_6 HO_7 HO_1047000 a1 a0 HB hHeld ⊢
          refine pu 0 51 rfl rfl b6 ?_
          refine pu 1 52 rfl rfl b6 ?_
          refine pu 2 53 rfl rfl b6 ?_
          refine pu 3 54 rfl rfl b6 ?_
          refine pz 4 55 rfl rfl b6 ?_
          refine pz 5 56 rfl rfl b6 ?_
          refine pz 6 57 rfl rfl b6 ?_
          refine pz 7 58 rfl rfl b6 ?_
          refine pz 8 59 rfl rfl b6 ?_
          refine pz 9 60 rfl rfl b6 ?_
          refine pz 10 61 rfl rfl b6 ?_
          refine pu 11 62 rfl rfl b6 ?_
          refine pu 12 63 rfl rfl b6 ?_
          refine pz 13 64 rfl rfl b6 ?_
          refine pz 14 65 rfl rfl b6 ?_
          refine pz 15 66 rfl rfl b6 ?_
          refine pz 16 67 rfl rfl b6 ?_
          refine pz 17 68 rfl rfl b6 ?_
          refine pz 18 69 rfl rfl b6 ?_
          refine pz 19 70 rfl rfl b6 ?_
          refine pu 20 71 rfl rfl b6 ?_
          refine Ar3 (Al8 b6.out (by kernel_rfl)) ?_
          try go_wp2
          go_meet
          case rel => exact ⟨_, (true), et, H', ⟨by have := g2.out; have := j6.out; first | omega | exact Nat.le_refl _⟩, ⟨qq HO_4.out⟩, ⟨rq HO_5.out⟩, ⟨rq HO_6.out⟩, ⟨rq HO_7.out⟩, ⟨rq HO_1047000.out⟩, ⟨bq a1.out⟩, ⟨bq a0.out⟩, ⟨hs HB.out⟩⟩
        case rest =>
         clear m7
         try clear c4; try clear k2
         obtain ⟨kq, e9, rfl, HA, m8, HO_4, HO_5, HO_6, HO_7, HO_1047000, a1, a0, HB⟩ := hcut
         cases kq with
         | zero => exact absurd HA.out (by simp [Ab8.j2])
         | succ o2 =>
          have H := HA.out
          clear HA
          simp only [Ab8.j2] at H
          by_cases o3 : e9 = true
          ·subst o3
           rw [if_pos rfl] at H
           exact absurd ((Option.some.inj H).trans u5) Bool.false_ne_true
          ·replace o3 := Bool.eq_false_iff.mpr o3
           subst o3
           rw [if_neg (show ¬ (false = true) by decide)] at H
           obtain ⟨⟨b9, d3⟩, B2, H⟩ := ob H
           try dsimp only at H
           have m9 := am H
           clear H
           obtain ⟨x2, x3⟩ := nn e5
           have k9 := c0_ a1
           have l4 := Aa2 a1.out 0
           obtain ⟨g7, g8, u1⟩ := Kd.R_slice HO_7.out
           subst u1
           go_upto_region 18 with (first | (refine gl (some 76) Tryz.func23 rfl #[.agg #[.slice d4 a5.length c1], .slice d9 a6.length d5, .slice e0 a7.length d7, .slice g7 d1.length g8] ?_; refine (Ae3.calls o2 _ _ a5 _ _ a6 _ _ a7 _ _ d1 b9 d3 _ (cq (Kd.R_reads' HO_1047000.out).2.2) ((Kd.R_reads' HO_1047000.out).2.1) (cq (Kd.Q_reads' HO_4.out).2.2) ((Kd.Q_reads' HO_4.out).2.1) (cq (Kd.R_reads' HO_6.out).2.2) ((Kd.R_reads' HO_6.out).2.1) (cq (Kd.R_reads' HO_7.out).2.2) ((Kd.R_reads' HO_7.out).2.1) B2.out).mono ?_; rintro e C9 ⟨rfl, hb⟩; refine ⟨_, rfl, ?_⟩; replace HO_4 := am (Kd.Q_below (qq HO_4.out) hb); replace HO_5 := rb HO_5 hb; replace HO_6 := rb HO_6 hb; replace HO_7 := rb HO_7 hb; replace HO_1047000 := rb HO_1047000 hb; replace a1 := bb a1 hb; replace a0 := bb a0 hb; replace HB := sb HB hb; clear hb; (try clear hk)) | (refine bx 11 rfl #[.int .i64 0, .int .i64 0] 54 ?_; intro a8 hg D0 hbox hb; replace HO_4 := am (Kd.Q_below (qq HO_4.out) hb); replace HO_5 := rb HO_5 hb; replace HO_6 := rb HO_6 hb; replace HO_7 := rb HO_7 hb; replace HO_1047000 := rb HO_1047000 hb; have a2 := am (hbox); have n0 := am (bz hg (hs HB.out)); replace HB := sb HB hb; have u2 := n0; have g5 := nl hg a1; have e1 := ng hg a1; replace a1 := bb a1 hb; have m1 := nl hg a0; have e2 := ng hg a0; replace a0 := bb a0 hb; clear hb hbox hg; obtain ⟨x4, x5⟩ := nn e1; obtain ⟨x6, x7⟩ := nn e2; have l5 := c0_ a2; have l6 := c1_ a2; have l7 := Aa2 a2.out 0; have l8 := Aa2 a2.out 1))
           (try simp only [Act.put, lsp])
           go_cut [89] (fun B4 wc => ∃ (kq : Nat) (g0 : Bool), B4 = .bool g0 ∧ Aside0 (Ab8.j3 kq a6 a4 a7 d1 g0 a5 b9 d3 = some r) ∧ Aside0 (kq ≤ o2) ∧ Aside0 (Kd.Q (Kd.int .i64) 2 wc w.heap.size (fun k_ => some k_ ≠ ((.slice d6 a4.length d0) : Value).ownBlock ∧ some k_ ≠ ((.slice e0 a7.length d7) : Value).ownBlock ∧ some k_ ≠ ((.slice g7 d1.length g8) : Value).ownBlock) (.slice d9 a6.length d5) a6) ∧ Aside0 (Kd.R (Kd.int .i64) 2 wc w.heap.size (fun k_ => some k_ ≠ ((.slice d9 a6.length d5) : Value).ownBlock ∧ some k_ ≠ ((.slice e0 a7.length d7) : Value).ownBlock ∧ some k_ ≠ ((.slice g7 d1.length g8) : Value).ownBlock) (.slice d6 a4.length d0) a4) ∧ Aside0 (Kd.R (Kd.int .i64) 2 wc w.heap.size (fun k_ => some k_ ≠ ((.slice d9 a6.length d5) : Value).ownBlock ∧ some k_ ≠ ((.slice d6 a4.length d0) : Value).ownBlock ∧ some k_ ≠ ((.slice g7 d1.length g8) : Value).ownBlock) (.slice e0 a7.length d7) a7) ∧ Aside0 (Kd.R (Kd.int .i64) 2 wc w.heap.size (fun k_ => some k_ ≠ ((.slice d9 a6.length d5) : Value).ownBlock ∧ some k_ ≠ ((.slice d6 a4.length d0) : Value).ownBlock ∧ some k_ ≠ ((.slice e0 a7.length d7) : Value).ownBlock) (.slice g7 d1.length g8) d1) ∧ Aside0 (Kd.R k79 79 wc w.heap.size (fun _ => True) (.slice d4 a5.length c1) a5) ∧ Aside0 (wc.heap[b8]? = some (.cells #[(.slice d4 a5.length c1)] 36 (0, 0))) ∧ Aside0 (wc.heap[a3]? = some (.cells #[.int .i64 b4, .int .i64 a9] 54 (0, 0))) ∧ Aside0 (wc.heap[a8]? = some (.cells #[.int .i64 b9, .int .i64 d3] 54 (0, 0))) ∧ Aside0 (Below w.heap.size w wc))
           case first =>
            have H := m9.out
            clear m9
            by_cases o4 : b9 = 0
            ·rw [if_pos o4] at H
             obtain ⟨g6, o5⟩ := bqt o4; clear o4
             (first | rw [g6] | (simp only [Ae6, Ae7]; rw [g6]) | skip)
             by_cases o6 : a9 = 1
             ·rw [if_pos o6] at H
              obtain ⟨o7, o8⟩ := bqt o6; clear o6
              have H' := am H
              clear H
              obtain ⟨x8, x9⟩ := nn e1
              obtain ⟨y0, y1⟩ := nn e2
              have p8 := c0_ a2
              have p9 := c1_ a2
              have q0 := Aa2 a2.out 0
              have q1 := Aa2 a2.out 1
              obtain ⟨y2, y3⟩ := nn d2
              have q2 := c0_ a0
              have q3 := c1_ a0
              have q4 := Aa2 a0.out 0
              have q5 := Aa2 a0.out 1
              go_wp2
              go_meet
              case rel => exact ⟨_, ((d3 != 1)), et, H', ⟨by have := g2.out; have := j6.out; have := m8.out; first | omega | exact Nat.le_refl _⟩, ⟨qq (Kd.Q_mono (Kd.Q_far (p := ⟨a8, 1, none⟩) (Kd.Q_far (p := ⟨a8, 0, none⟩) (Kd.Q_types HO_4.out a2.out (by decide)) (fun _ hk => hk.2) (.int .i64 b9)) (fun _ hk => hk.2) (.int .i64 d3)) (fun _ hk => ⟨hk.1.1, ⟨hk.1.2.1, hk.1.2.2⟩⟩))⟩, ⟨rq (Kd.R_mono (Kd.R_far (p := ⟨a8, 1, none⟩) (Kd.R_far (p := ⟨a8, 0, none⟩) (Kd.R_types HO_5.out a2.out (by decide)) (fun _ hk => hk.2) (.int .i64 b9)) (fun _ hk => hk.2) (.int .i64 d3)) (fun _ hk => ⟨hk.1.1, ⟨hk.1.2.1, hk.1.2.2⟩⟩))⟩, ⟨rq (Kd.R_mono (Kd.R_far (p := ⟨a8, 1, none⟩) (Kd.R_far (p := ⟨a8, 0, none⟩) (Kd.R_types HO_6.out a2.out (by decide)) (fun _ hk => hk.2) (.int .i64 b9)) (fun _ hk => hk.2) (.int .i64 d3)) (fun _ hk => ⟨hk.1.1, ⟨hk.1.2.1, hk.1.2.2⟩⟩))⟩, ⟨rq (Kd.R_mono (Kd.R_far (p := ⟨a8, 1, none⟩) (Kd.R_far (p := ⟨a8, 0, none⟩) (Kd.R_types HO_7.out a2.out (by decide)) (fun _ hk => hk.2) (.int .i64 b9)) (fun _ hk => hk.2) (.int .i64 d3)) (fun _ hk => ⟨hk.1.1, ⟨hk.1.2.1, hk.1.2.2⟩⟩))⟩, ⟨rq (Kd.R_mono (Kd.R_far (p := ⟨a8, 1, none⟩) (Kd.R_far (p := ⟨a8, 0, none⟩) (Kd.R_types HO_1047000.out a2.out (by decide)) (fun _ hk => hk.2) (.int .i64 b9)) (fun _ hk => hk.2) (.int .i64 d3)) (fun _ hk => trivial))⟩, ⟨bf a1.out⟩, ⟨bf a0.out⟩, ⟨by refine bq ?_; refine Ac7 (cs := #[.int .i64 b9, .int .i64 0]) ?_ 1 _ rfl; refine bq ?_; refine Ac7 (cs := #[.int .i64 0, .int .i64 0]) ?_ 0 _ rfl; refine bq ?_; exact a2.out⟩, ⟨hs HB.out⟩⟩
             ·rw [if_neg o6] at H
              obtain ⟨o7, o8⟩ := bqf o6
              have H' := am H
              clear H
              obtain ⟨y4, y5⟩ := nn e1
              obtain ⟨y6, y7⟩ := nn e2
              have q6 := c0_ a2
              have q7 := c1_ a2
              have q8 := Aa2 a2.out 0
              have q9 := Aa2 a2.out 1
              obtain ⟨y8, y9⟩ := nn d2
              have r0 := c0_ a0
              have r1 := c1_ a0
              have r2 := Aa2 a0.out 0
              have r3 := Aa2 a0.out 1
              go_wp2
              go_meet
              case rel => exact ⟨_, (true), et, H', ⟨by have := g2.out; have := j6.out; have := m8.out; first | omega | exact Nat.le_refl _⟩, ⟨qq (Kd.Q_mono (Kd.Q_far (p := ⟨a8, 1, none⟩) (Kd.Q_far (p := ⟨a8, 0, none⟩) (Kd.Q_types HO_4.out a2.out (by decide)) (fun _ hk => hk.2) (.int .i64 b9)) (fun _ hk => hk.2) (.int .i64 d3)) (fun _ hk => ⟨hk.1.1, ⟨hk.1.2.1, hk.1.2.2⟩⟩))⟩, ⟨rq (Kd.R_mono (Kd.R_far (p := ⟨a8, 1, none⟩) (Kd.R_far (p := ⟨a8, 0, none⟩) (Kd.R_types HO_5.out a2.out (by decide)) (fun _ hk => hk.2) (.int .i64 b9)) (fun _ hk => hk.2) (.int .i64 d3)) (fun _ hk => ⟨hk.1.1, ⟨hk.1.2.1, hk.1.2.2⟩⟩))⟩, ⟨rq (Kd.R_mono (Kd.R_far (p := ⟨a8, 1, none⟩) (Kd.R_far (p := ⟨a8, 0, none⟩) (Kd.R_types HO_6.out a2.out (by decide)) (fun _ hk => hk.2) (.int .i64 b9)) (fun _ hk => hk.2) (.int .i64 d3)) (fun _ hk => ⟨hk.1.1, ⟨hk.1.2.1, hk.1.2.2⟩⟩))⟩, ⟨rq (Kd.R_mono (Kd.R_far (p := ⟨a8, 1, none⟩) (Kd.R_far (p := ⟨a8, 0, none⟩) (Kd.R_types HO_7.out a2.out (by decide)) (fun _ hk => hk.2) (.int .i64 b9)) (fun _ hk => hk.2) (.int .i64 d3)) (fun _ hk => ⟨hk.1.1, ⟨hk.1.2.1, hk.1.2.2⟩⟩))⟩, ⟨rq (Kd.R_mono (Kd.R_far (p := ⟨a8, 1, none⟩) (Kd.R_far (p := ⟨a8, 0, none⟩) (Kd.R_types HO_1047000.out a2.out (by decide)) (fun _ hk => hk.2) (.int .i64 b9)) (fun _ hk => hk.2) (.int .i64 d3)) (fun _ hk => trivial))⟩, ⟨bf a1.out⟩, ⟨bf a0.out⟩, ⟨by refine bq ?_; refine Ac7 (cs := #[.int .i64 b9, .int .i64 0]) ?_ 1 _ rfl; refine bq ?_; refine Ac7 (cs := #[.int .i64 0, .int .i64 0]) ?_ 0 _ rfl; refine bq ?_; exact a2.out⟩, ⟨hs HB.out⟩⟩
            ·rw [if_neg o4] at H
             obtain ⟨g6, o5⟩ := bqf o4
             (first | rw [g6] | (simp only [Ae6, Ae7]; rw [g6]) | skip)
             have H' := am H
             clear H
             obtain ⟨z0, z1⟩ := nn e1
             obtain ⟨z2, z3⟩ := nn e2
             have r4 := c0_ a2
             have r5 := c1_ a2
             have r6 := Aa2 a2.out 0
             have r7 := Aa2 a2.out 1
             go_wp2
             go_meet
             case rel => exact ⟨_, (true), et, H', ⟨by have := g2.out; have := j6.out; have := m8.out; first | omega | exact Nat.le_refl _⟩, ⟨qq (Kd.Q_mono (Kd.Q_far (p := ⟨a8, 1, none⟩) (Kd.Q_far (p := ⟨a8, 0, none⟩) (Kd.Q_types HO_4.out a2.out (by decide)) (fun _ hk => hk.2) (.int .i64 b9)) (fun _ hk => hk.2) (.int .i64 d3)) (fun _ hk => ⟨hk.1.1, ⟨hk.1.2.1, hk.1.2.2⟩⟩))⟩, ⟨rq (Kd.R_mono (Kd.R_far (p := ⟨a8, 1, none⟩) (Kd.R_far (p := ⟨a8, 0, none⟩) (Kd.R_types HO_5.out a2.out (by decide)) (fun _ hk => hk.2) (.int .i64 b9)) (fun _ hk => hk.2) (.int .i64 d3)) (fun _ hk => ⟨hk.1.1, ⟨hk.1.2.1, hk.1.2.2⟩⟩))⟩, ⟨rq (Kd.R_mono (Kd.R_far (p := ⟨a8, 1, none⟩) (Kd.R_far (p := ⟨a8, 0, none⟩) (Kd.R_types HO_6.out a2.out (by decide)) (fun _ hk => hk.2) (.int .i64 b9)) (fun _ hk => hk.2) (.int .i64 d3)) (fun _ hk => ⟨hk.1.1, ⟨hk.1.2.1, hk.1.2.2⟩⟩))⟩, ⟨rq (Kd.R_mono (Kd.R_far (p := ⟨a8, 1, none⟩) (Kd.R_far (p := ⟨a8, 0, none⟩) (Kd.R_types HO_7.out a2.out (by decide)) (fun _ hk => hk.2) (.int .i64 b9)) (fun _ hk => hk.2) (.int .i64 d3)) (fun _ hk => ⟨hk.1.1, ⟨hk.1.2.1, hk.1.2.2⟩⟩))⟩, ⟨rq (Kd.R_mono (Kd.R_far (p := ⟨a8, 1, none⟩) (Kd.R_far (p := ⟨a8, 0, none⟩) (Kd.R_types HO_1047000.out a2.out (by decide)) (fun _ hk => hk.2) (.int .i64 b9)) (fun _ hk => hk.2) (.int .i64 d3)) (fun _ hk => trivial))⟩, ⟨bf a1.out⟩, ⟨bf a0.out⟩, ⟨by refine bq ?_; refine Ac7 (cs := #[.int .i64 b9, .int .i64 0]) ?_ 1 _ rfl; refine bq ?_; refine Ac7 (cs := #[.int .i64 0, .int .i64 0]) ?_ 0 _ rfl; refine bq ?_; exact a2.out⟩, ⟨hs HB.out⟩⟩
           case rest =>
            clear m9
            try clear c4; try clear k2; try clear o3; try clear k9; try clear l5; try clear l6; try clear l4; try clear l7; try clear l8
            obtain ⟨kq, g0, rfl, HA, B5, HO_4, HO_5, HO_6, HO_7, HO_1047000, a1, a0, a2, HB⟩ := hcut
            cases kq with
            | zero => exact absurd HA.out (by simp [Ab8.j3])
            | succ o9 =>
             have H := HA.out
             clear HA
             simp only [Ab8.j3] at H
             by_cases r8 : g0 = true
             ·subst r8
              rw [if_pos rfl] at H
              obtain ⟨⟨p0, p1⟩, B8, H⟩ := ob H
              try dsimp only at H
              obtain rfl := Option.some.inj H
              try go_wp2
              replace HO_4 := am (Kd.Q_drew HO_4.out)
              replace HO_5 := am (Kd.R_drew HO_5.out)
              replace HO_6 := am (Kd.R_drew HO_6.out)
              replace HO_7 := am (Kd.R_drew HO_7.out)
              replace HO_1047000 := am (Kd.R_drew HO_1047000.out)
              replace a1 := am (Ah2 a1.out)
              replace a0 := am (Ah2 a0.out)
              replace a2 := am (Ah2 a2.out)
              replace HB := am (Af1 HB.out)
              refine st_ (n := 10) (S := fun w' => w'.cell? ⟨a8, 0, none⟩ = some (.int .i64 b9) ∧ w'.cell? ⟨a8, 1, none⟩ = some (.int .i64 d3) ∧ w'.cell? ⟨b8, 0, none⟩ = some (.slice d4 a5.length c1)) (ds := []) ⟨(Ad1 a2.out 0).trans rfl, (Ad1 a2.out 1).trans rfl, (Ad1 a1.out 0).trans rfl⟩ (fun hHeld => ?_); refine Ah6 Ab8.tab19 Ab8.bits19 (fun b6 l9 => ?_)
              generalize wc.drew = D1 at HO_4 HO_5 HO_6 HO_7 HO_1047000 a1 a0 a2 HB hHeld ⊢
              refine pu 0 90 rfl rfl b6 ?_
              refine pu 3 93 rfl rfl b6 ?_
              refine pu 4 94 rfl rfl b6 ?_
              refine pu 5 95 rfl rfl b6 ?_
              refine tk 1 91 rfl rfl b6 l9 hHeld ?_
              refine tk 2 92 rfl rfl b6 l9 hHeld ?_
              refine on_ 6 (some 96) rfl rfl b6 (fun K hK => ?_)
              refine gs Tryz.func24 #[.agg #[.slice d4 a5.length c1], .slice d9 a6.length d5, .slice e0 a7.length d7, .slice g7 d1.length g8] ?_
              refine (Ak3.calls o9 _ _ a5 _ _ a6 _ _ a7 _ _ d1 p0 p1 _ (cq (Kd.R_reads' HO_1047000.out).2.2) ((Kd.R_reads' HO_1047000.out).2.1) (cq (Kd.Q_reads' HO_4.out).2.2) ((Kd.Q_reads' HO_4.out).2.1) (cq (Kd.R_reads' HO_6.out).2.2) ((Kd.R_reads' HO_6.out).2.1) (cq (Kd.R_reads' HO_7.out).2.2) ((Kd.R_reads' HO_7.out).2.1) B8.out).mono ?_
              rintro e D2 ⟨rfl, hb⟩
              refine ⟨_, rfl, ?_⟩
              replace HO_4 := am (Kd.Q_below (qq HO_4.out) hb)
              replace HO_5 := rb HO_5 hb
              replace HO_6 := rb HO_6 hb
              replace HO_7 := rb HO_7 hb
              replace HO_1047000 := rb HO_1047000 hb
              replace a1 := bb a1 hb
              replace a0 := bb a0 hb
              replace a2 := bb a2 hb
              replace HB := sb HB hb
              (try clear hb)
              (try clear hk)
              refine hK.out _ _ ⟨(Ad1 a2.out 0).trans rfl, (Ad1 a2.out 1).trans rfl, (Ad1 a1.out 0).trans rfl⟩ (fun hHeld => ?_)
              clear hK K
              refine nr (some 96) ?_
              refine pu 7 97 rfl rfl b6 ?_
              refine pu 8 98 rfl rfl b6 ?_
              refine pu 9 2 rfl rfl b6 ?_
              refine Ar3 (Al8 b6.out (by kernel_rfl)) ?_
              try go_wp2
              go_ret
              exact ⟨er, hs HB.out⟩
             ·replace r8 := Bool.eq_false_iff.mpr r8
              subst r8
              rw [if_neg (show ¬ (false = true) by decide)] at H
              obtain ⟨⟨p2, p3⟩, B9, H⟩ := ob H
              try dsimp only at H
              obtain rfl := Option.some.inj H
              obtain ⟨z4, z5⟩ := nn e5
              obtain ⟨z6, z7⟩ := nn g5
              have r9 := c0_ a1
              have s3 := Aa2 a1.out 0
              go_wp2_with (first | (refine gl (some 103) Tryz.func23 rfl #[.agg #[.slice d4 a5.length c1], .slice d9 a6.length d5, .slice d6 a4.length d0, .slice g7 d1.length g8] ?_; refine (Ae3.calls o9 _ _ a5 _ _ a6 _ _ a4 _ _ d1 p2 p3 _ (cq (Kd.R_reads' HO_1047000.out).2.2) ((Kd.R_reads' HO_1047000.out).2.1) (cq (Kd.Q_reads' HO_4.out).2.2) ((Kd.Q_reads' HO_4.out).2.1) (cq (Kd.R_reads' HO_5.out).2.2) ((Kd.R_reads' HO_5.out).2.1) (cq (Kd.R_reads' HO_7.out).2.2) ((Kd.R_reads' HO_7.out).2.1) B9.out).mono ?_; rintro e D3 ⟨rfl, hb⟩; refine ⟨_, rfl, ?_⟩; replace HO_4 := am (Kd.Q_below (qq HO_4.out) hb); replace HO_5 := rb HO_5 hb; replace HO_6 := rb HO_6 hb; replace HO_7 := rb HO_7 hb; replace HO_1047000 := rb HO_1047000 hb; replace a1 := bb a1 hb; replace a0 := bb a0 hb; replace a2 := bb a2 hb; replace HB := sb HB hb; clear hb; (try clear hk)))
              go_ret
              exact ⟨er, hs HB.out⟩
   ·rw [if_neg m4] at H
    obtain ⟨j9, k0⟩ := bqf m4
    obtain rfl := Option.some.inj H
    obtain ⟨z8, z9⟩ := nn d2
    have s4 := c0_ a0
    have s5 := c1_ a0
    have s6 := Aa2 a0.out 0
    have s7 := Aa2 a0.out 1
    go_wp2
    go_ret
    exact ⟨er, hs HB.out⟩
end Go.Proofs.YtgichahebemmiaaGreatDoor.P
