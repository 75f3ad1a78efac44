/- A part of the proof of the law FnPlain. -/
import Derived.Laws.StructEq
import Derived.Test.YtbdpnkpienpnaaaGreatDoorCFnPlain0
import Derived.Test.YtbdpnkpienpnaaaGreatDoorCFnPlain1
import Derived.Test.YtbdpnkpienpnaaaGreatDoorCFnPlain2
import Derived.Test.YtbdpnkpienpnaaaGreatDoorCFnPlain3
import Derived.Test.YtbdpnkpienpnaaaGreatDoorCFnPlain5
import Derived.Test.YtbdpnkpienpnaaaGreatDoorCFnPlain7
import Derived.Test.YtbdpnkpienpnaaaGreatDoorCFnPlain8
import Derived.Test.YtbdpnkpienpnaaaGreatDoorCFnPlain9
import Derived.Test.YtbdpnkpienpnaaaGreatDoorCFnPlain10
import Derived.Test.YtbdpnkpienpnaaaGreatDoorCFnPlain11
import Derived.Test.YtbdpnkpienpnaaaGreatDoorCFnPlain20
namespace Go.Proofs.YtbdpnkpienpnaaaGreatDoor.P
open Go.RowKit Go.Proofs.YtbdpnkpienpnaaaGreatDoorW.PrintWords Go.Proofs.YtbdpnkpienpnaaaGreatDoorW.PrintLast Go.Proofs.YtbdpnkpienpnaaaGreatDoorW.PrintMore
attribute [local go_sem] Ae7 Ae6 Af7 Af8 Ad8 Ad9 Ae2 Ae4   -- for this text's walks alone
set_option linter.unusedVariables false
set_option linter.unusedSimpArgs false
def spec_PlainEquation.f (k : Nat) (l0_0 : List (S90)) (l1_0 : List Int) (l1_1 : List Int) : Option (Int × List Int × List Int) := (spec_TermFault.f k l0_0 l1_0).bind fun t430 => (if t430 = 0 then ((spec_l3Fault.f k [(⟨l0_0⟩ : S26)] l1_1).bind fun t431 => (if t431 = 0 then ((spec_l4Plain.f k [(⟨l1_0, l1_1⟩ : S29)]).bind fun bt432 => (if bt432.2.2 = true then (some (0, bt432.1, bt432.2.1)) else (some (2, ([] : List Int), ([] : List Int))))) else (some (t431, ([] : List Int), ([] : List Int))))) else (some (t430, ([] : List Int), ([] : List Int))))
set_option maxHeartbeats 8000000 in
set_option maxRecDepth 100000 in
theorem spec_PlainEquation.calls (k : Nat) (A0_0 : Option Addr) (c0_0 : Nat) (l0_0 : List (S90)) (A1_0 : Option Addr) (c1_0 : Nat) (l1_0 : List Int) (A1_1 : Option Addr) (c1_1 : Nat) (l1_1 : List Int) (r1 : Int) (r2 : List Int) (r3 : List Int) (w : World) (hr0_0 : Kd.C k90 w A0_0 l0_0.length l0_0) (hc0_0 : l0_0.length ≤ c0_0) (hr1_0 : Kd.C (Kd.int .i64) w A1_0 l1_0.length l1_0) (hc1_0 : l1_0.length ≤ c1_0) (hr1_1 : Kd.C (Kd.int .i64) w A1_1 l1_1.length l1_1) (hc1_1 : l1_1.length ≤ c1_1) (h : spec_PlainEquation.f k l0_0 l1_0 l1_1 = some (r1, r2, r3)) :
  Calls Tryz.prog 8 #[.agg #[.slice A0_0 l0_0.length c0_0], .agg #[.slice A1_0 l1_0.length c1_0, .slice A1_1 l1_1.length c1_1]] w fun e w' => ∃ v1_ v2_ : Value, e = .returned (.agg #[.int .i64 r1, v1_, v2_]) ∧ Kd.R (Kd.int .i64) 2 w' w.heap.size (fun k_ => some k_ ≠ (v2_ : Value).ownBlock) v1_ r2 ∧ Kd.R (Kd.int .i64) 2 w' w.heap.size (fun k_ => some k_ ≠ (v1_ : Value).ownBlock) v2_ r3 ∧ Below w.heap.size w w' := by
 have hu26 := Tryz.underlying26
 have hu29 := Tryz.underlying29
 have hu33 := Tryz.underlying33
 have HR0_0 := am hr0_0
 have HC0_0 := am hc0_0
 clear hr0_0 hc0_0
 have HR1_0 := am hr1_0
 have HC1_0 := am hc1_0
 clear hr1_0 hc1_0
 have HR1_1 := am hr1_1
 have HC1_1 := am hc1_1
 clear hr1_1 hc1_1
 have HB := am (Below.refl w.heap.size w)
 have H : ((spec_TermFault.f k l0_0 l1_0).bind fun t430 => (if t430 = 0 then ((spec_l3Fault.f k [(⟨l0_0⟩ : S26)] l1_1).bind fun t431 => (if t431 = 0 then ((spec_l4Plain.f k [(⟨l1_0, l1_1⟩ : S29)]).bind fun bt432 => (if bt432.2.2 = true then (some (0, bt432.1, bt432.2.1)) else (some (2, ([] : List Int), ([] : List Int))))) else (some (t431, ([] : List Int), ([] : List Int))))) else (some (t430, ([] : List Int), ([] : List Int))))) = some (r1, r2, r3) := h
 clear h
 obtain ⟨t430, A3, H⟩ := ob H
 try dsimp only at H
 by_cases c4 : t430 = 0
 ·rw [if_pos c4] at H
  obtain ⟨c4b0, c4b1⟩ := bqt c4; clear c4
  obtain ⟨t431, A5, H⟩ := ob H
  try dsimp only at H
  by_cases c6 : t431 = 0
  ·rw [if_pos c6] at H
   obtain ⟨c6b0, c6b1⟩ := bqt c6; clear c6
   obtain ⟨⟨t432, t435, t438⟩, A7, H⟩ := ob H
   try dsimp only at H
   by_cases c8 : t438 = true
   ·subst c8
    rw [if_pos rfl] at H
    simp only [Option.some.injEq, Prod.mk.injEq] at H
    obtain ⟨rfl, rfl, rfl⟩ := H
    go_enter Tryz.func8, Tryz.ntmps8
    go_wp2_with (first | (refine bx 2 rfl #[.slice A0_0 l0_0.length c0_0] 26 ?_; intro gb427 hg w9 hbox hb; have BK427 := am (hbox); have GW427 := am (bz hg (hq HB.out)); replace HB := sb HB hb; have GE427 := GW427; clear hb hbox hg) | (refine bx 3 rfl #[.slice A1_0 l1_0.length c1_0, .slice A1_1 l1_1.length c1_1] 29 ?_; intro gb428 hg w10 hbox hb; have BK428 := am (hbox); have GW428 := am (bz hg (hs HB.out)); replace HB := sb HB hb; have GE428 := GW428; have NB427_428 := nl hg BK427; have NB428_427 := ng hg BK427; replace BK427 := bb BK427 hb; clear hb hbox hg) | (refine bx 4 rfl #[.int .i64 0, .slice none 0 0, .slice none 0 0] 33 ?_; intro gb429 hg w11 hbox hb; have BK429 := am (hbox); have GW429 := am (bz hg (hs HB.out)); replace HB := sb HB hb; have GE429 := GW429; have NB427_429 := nl hg BK427; have NB429_427 := ng hg BK427; replace BK427 := bb BK427 hb; have NB428_429 := nl hg BK428; have NB429_428 := ng hg BK428; replace BK428 := bb BK428 hb; clear hb hbox hg; have hnb12 := NB427_428.out; have hnc12 := NB428_427.out; have hnb13 := NB427_429.out; have hnc13 := NB429_427.out; have hcz14_0 : w11.cell? ⟨gb427, 0, none⟩ = some (.slice A0_0 l0_0.length c0_0) := (Aa0 BK427.out 0).trans rfl; have hfz14_0 := Aa1 BK427.out 0; have hnb15 := NB428_429.out; have hnc15 := NB429_428.out; have hcz16_0 : w11.cell? ⟨gb428, 0, none⟩ = some (.slice A1_0 l1_0.length c1_0) := (Aa0 BK428.out 0).trans rfl; have hcz16_1 : w11.cell? ⟨gb428, 1, none⟩ = some (.slice A1_1 l1_1.length c1_1) := (Aa0 BK428.out 1).trans rfl; have hfz16_0 := Aa1 BK428.out 0; have hfz16_1 := Aa1 BK428.out 1) | (refine gl (some 12) Tryz.func30 rfl #[.agg #[.slice A0_0 l0_0.length c0_0], .slice A1_0 l1_0.length c1_0] ?_; refine (spec_TermFault.calls k _ _ l0_0 _ _ l1_0 t430 _ (cq (Kd.C_below HR0_0.out HB.out)) HC0_0.out (cq (Kd.C_below HR1_0.out HB.out)) HC1_0.out A3.out).mono ?_; rintro e w17 ⟨rfl, hb⟩; refine ⟨_, rfl, ?_⟩; replace BK427 := bb BK427 hb; replace BK428 := bb BK428 hb; replace BK429 := bb BK429 hb; replace HB := sb HB hb; (try clear hb); (try clear hk); have hcz18_0 : w17.cell? ⟨gb428, 0, none⟩ = some (.slice A1_0 l1_0.length c1_0) := (Aa0 BK428.out 0).trans rfl; have hcz18_1 : w17.cell? ⟨gb428, 1, none⟩ = some (.slice A1_1 l1_1.length c1_1) := (Aa0 BK428.out 1).trans rfl; have hfz18_0 := Aa1 BK428.out 0; have hfz18_1 := Aa1 BK428.out 1) | (refine gl (some 19) Tryz.func31 rfl #[.pointer (some ⟨gb427, 0, none⟩), .slice A1_1 l1_1.length c1_1] ?_; refine (spec_l3Fault.calls k _ [(⟨l0_0⟩ : S26)] _ _ l1_1 t431 _ (Ak3 (bq BK427.out) (cq (Kd.C_below HR0_0.out HB.out)) (by exact HC0_0.out)) (cq (Kd.C_below HR1_1.out HB.out)) HC1_1.out A5.out).mono ?_; rintro e w' ⟨rfl, ⟨nd, rfl⟩⟩; refine ⟨_, rfl, ?_⟩; (try (rw [Ae1 w17]; generalize hq_ : World.drewN w17 _ = w17; have n0_ : Aside0 (w17.heap[gb427]? = some (.cells #[.slice A0_0 l0_0.length c0_0] 26 (0, 0))) := ⟨by rw [← hq_]; exact (bq BK427.out)⟩; have n1_ : Aside0 (w17.heap[gb428]? = some (.cells #[.slice A1_0 l1_0.length c1_0, .slice A1_1 l1_1.length c1_1] 29 (0, 0))) := ⟨by rw [← hq_]; exact (bq BK428.out)⟩; have n2_ : Aside0 (w17.heap[gb429]? = some (.cells #[.int .i64 0, .slice none 0 0, .slice none 0 0] 33 (0, 0))) := ⟨by rw [← hq_]; exact (bq BK429.out)⟩; have n3_ : Aside0 (Below w.heap.size w w17) := ⟨by rw [← hq_]; exact (hs HB.out)⟩; clear BK427 BK428 BK429 HB hq_; have BK427 := n0_; have BK428 := n1_; have BK429 := n2_; have HB := n3_; clear n0_ n1_ n2_ n3_))) | (refine gl (some 25) Tryz.func32 rfl #[.pointer (some ⟨gb428, 0, none⟩)] ?_; refine (spec_l4Plain.calls k _ [(⟨l1_0, l1_1⟩ : S29)] t432 t435 true _ (k29_box (bq BK428.out) (cq (Kd.C_below HR1_0.out HB.out)) (by exact HC1_0.out) (cq (Kd.C_below HR1_1.out HB.out)) (by exact HC1_1.out)) A7.out).mono ?_; rintro e w19 ⟨v433, v436, rfl, ho0, ho1, hb⟩; refine ⟨_, rfl, ?_⟩; have HO434 := am (Kd.R_lower ho0 (Aa8 (hs HB.out))); have HO437 := am (Kd.R_lower ho1 (Aa8 (hs HB.out))); replace BK427 := bb BK427 hb; replace BK428 := bb BK428 hb; replace BK429 := bb BK429 hb; replace HB := sb HB hb; (try clear hb); (try clear hk); (try clear ho0); (try clear ho1)) | (refine bx 7 rfl #[.slice none 0 0, .slice none 0 0] 29 ?_; intro gb439 hg w20 hbox hb; replace HO434 := rb HO434 hb; replace HO437 := rb HO437 hb; have BK439 := am (hbox); have GW439 := am (bz hg (hs HB.out)); replace HB := sb HB hb; have GE439 := GW439; have NB427_439 := nl hg BK427; have NB439_427 := ng hg BK427; replace BK427 := bb BK427 hb; have NB428_439 := nl hg BK428; have NB439_428 := ng hg BK428; replace BK428 := bb BK428 hb; have NB429_439 := nl hg BK429; have NB439_429 := ng hg BK429; replace BK429 := bb BK429 hb; clear hb hbox hg; obtain ⟨Ao21, co21, rfl⟩ := Kd.R_slice HO434.out; have hnb22 := NB439_427.out; have hnc22 := NB427_439.out; have hnb23 := NB439_428.out; have hnc23 := NB428_439.out; have hnb24 := NB439_429.out; have hnc24 := NB429_439.out; have hcz25_0 : w20.cell? ⟨gb439, 0, none⟩ = some (.slice none 0 0) := (Aa0 BK439.out 0).trans rfl; have hcz25_1 : w20.cell? ⟨gb439, 1, none⟩ = some (.slice none 0 0) := (Aa0 BK439.out 1).trans rfl; have hfz25_0 := Aa1 BK439.out 0; have hfz25_1 := Aa1 BK439.out 1; obtain ⟨Ao26, co26, rfl⟩ := Kd.R_slice HO437.out; have hcz27_0 : w20.cell? ⟨gb429, 0, none⟩ = some (.int .i64 0) := (Aa0 BK429.out 0).trans rfl; have hcz27_1 : w20.cell? ⟨gb429, 1, none⟩ = some (.slice none 0 0) := (Aa0 BK429.out 1).trans rfl; have hcz27_2 : w20.cell? ⟨gb429, 2, none⟩ = some (.slice none 0 0) := (Aa0 BK429.out 2).trans rfl; have hfz27_0 := Aa1 BK429.out 0; have hfz27_1 := Aa1 BK429.out 1; have hfz27_2 := Aa1 BK429.out 2))
    refine bodyPost_ret (results_cell_row rfl _ _ gb429 33 #[.int .i64 0, .slice Ao21 t432.length co21, .slice Ao26 t435.length co26] (0, 0) _ rfl (by refine bq ?_; refine Aa6 (cs := #[.int .i64 0, .slice Ao21 t432.length co21, .slice none 0 0]) ?_ 2 _ rfl; refine bq ?_; refine Aa6 (cs := #[.int .i64 0, .slice none 0 0, .slice none 0 0]) ?_ 1 _ rfl; refine bq ?_; refine Aa6 (cs := #[.int .i64 0, .slice none 0 0, .slice none 0 0]) ?_ 0 _ rfl; refine bq ?_; refine Aa4 ?_ NB429_439.out _; refine bq ?_; refine Aa4 ?_ NB429_439.out _; refine bq ?_; exact BK429.out) Tryz.underlying33 rfl (by kernel_rfl)) rfl ?_
    exact ⟨_, _, er, rq (Kd.R_mono (Kd.R_far (p := ⟨gb429, 2, none⟩) (Kd.R_far (p := ⟨gb429, 1, none⟩) (Kd.R_far (p := ⟨gb429, 0, none⟩) (Kd.R_far (p := ⟨gb439, 1, none⟩) (Kd.R_far (p := ⟨gb439, 0, none⟩) (Kd.R_types (Kd.R_types HO434.out BK439.out (by decide)) BK429.out (by decide)) (fun _ hk => hk.1.2) (.slice Ao21 t432.length co21)) (fun _ hk => hk.1.2) (.slice Ao26 t435.length co26)) (fun _ hk => hk.2) (.int .i64 0)) (fun _ hk => hk.2) (.slice Ao21 t432.length co21)) (fun _ hk => hk.2) (.slice Ao26 t435.length co26)) (fun _ hk => hk.1.1)), rq (Kd.R_mono (Kd.R_far (p := ⟨gb429, 2, none⟩) (Kd.R_far (p := ⟨gb429, 1, none⟩) (Kd.R_far (p := ⟨gb429, 0, none⟩) (Kd.R_far (p := ⟨gb439, 1, none⟩) (Kd.R_far (p := ⟨gb439, 0, none⟩) (Kd.R_types (Kd.R_types HO437.out BK439.out (by decide)) BK429.out (by decide)) (fun _ hk => hk.1.2) (.slice Ao21 t432.length co21)) (fun _ hk => hk.1.2) (.slice Ao26 t435.length co26)) (fun _ hk => hk.2) (.int .i64 0)) (fun _ hk => hk.2) (.slice Ao21 t432.length co21)) (fun _ hk => hk.2) (.slice Ao26 t435.length co26)) (fun _ hk => hk.1.1)), hs HB.out⟩
   ·replace c8 := Bool.eq_false_iff.mpr c8
    subst c8
    rw [if_neg (show ¬ (false = true) by decide)] at H
    simp only [Option.some.injEq, Prod.mk.injEq] at H
    obtain ⟨rfl, rfl, rfl⟩ := H
    go_enter Tryz.func8, Tryz.ntmps8
    go_wp2_with (first | (refine bx 2 rfl #[.slice A0_0 l0_0.length c0_0] 26 ?_; intro gb427 hg w28 hbox hb; have BK427 := am (hbox); have GW427 := am (bz hg (hq HB.out)); replace HB := sb HB hb; have GE427 := GW427; clear hb hbox hg) | (refine bx 3 rfl #[.slice A1_0 l1_0.length c1_0, .slice A1_1 l1_1.length c1_1] 29 ?_; intro gb428 hg w29 hbox hb; have BK428 := am (hbox); have GW428 := am (bz hg (hs HB.out)); replace HB := sb HB hb; have GE428 := GW428; have NB427_428 := nl hg BK427; have NB428_427 := ng hg BK427; replace BK427 := bb BK427 hb; clear hb hbox hg) | (refine bx 4 rfl #[.int .i64 0, .slice none 0 0, .slice none 0 0] 33 ?_; intro gb429 hg w30 hbox hb; have BK429 := am (hbox); have GW429 := am (bz hg (hs HB.out)); replace HB := sb HB hb; have GE429 := GW429; have NB427_429 := nl hg BK427; have NB429_427 := ng hg BK427; replace BK427 := bb BK427 hb; have NB428_429 := nl hg BK428; have NB429_428 := ng hg BK428; replace BK428 := bb BK428 hb; clear hb hbox hg; have hnb31 := NB427_428.out; have hnc31 := NB428_427.out; have hnb32 := NB427_429.out; have hnc32 := NB429_427.out; have hcz33_0 : w30.cell? ⟨gb427, 0, none⟩ = some (.slice A0_0 l0_0.length c0_0) := (Aa0 BK427.out 0).trans rfl; have hfz33_0 := Aa1 BK427.out 0; have hnb34 := NB428_429.out; have hnc34 := NB429_428.out; have hcz35_0 : w30.cell? ⟨gb428, 0, none⟩ = some (.slice A1_0 l1_0.length c1_0) := (Aa0 BK428.out 0).trans rfl; have hcz35_1 : w30.cell? ⟨gb428, 1, none⟩ = some (.slice A1_1 l1_1.length c1_1) := (Aa0 BK428.out 1).trans rfl; have hfz35_0 := Aa1 BK428.out 0; have hfz35_1 := Aa1 BK428.out 1) | (refine gl (some 12) Tryz.func30 rfl #[.agg #[.slice A0_0 l0_0.length c0_0], .slice A1_0 l1_0.length c1_0] ?_; refine (spec_TermFault.calls k _ _ l0_0 _ _ l1_0 t430 _ (cq (Kd.C_below HR0_0.out HB.out)) HC0_0.out (cq (Kd.C_below HR1_0.out HB.out)) HC1_0.out A3.out).mono ?_; rintro e w36 ⟨rfl, hb⟩; refine ⟨_, rfl, ?_⟩; replace BK427 := bb BK427 hb; replace BK428 := bb BK428 hb; replace BK429 := bb BK429 hb; replace HB := sb HB hb; (try clear hb); (try clear hk); have hcz37_0 : w36.cell? ⟨gb428, 0, none⟩ = some (.slice A1_0 l1_0.length c1_0) := (Aa0 BK428.out 0).trans rfl; have hcz37_1 : w36.cell? ⟨gb428, 1, none⟩ = some (.slice A1_1 l1_1.length c1_1) := (Aa0 BK428.out 1).trans rfl; have hfz37_0 := Aa1 BK428.out 0; have hfz37_1 := Aa1 BK428.out 1) | (refine gl (some 19) Tryz.func31 rfl #[.pointer (some ⟨gb427, 0, none⟩), .slice A1_1 l1_1.length c1_1] ?_; refine (spec_l3Fault.calls k _ [(⟨l0_0⟩ : S26)] _ _ l1_1 t431 _ (Ak3 (bq BK427.out) (cq (Kd.C_below HR0_0.out HB.out)) (by exact HC0_0.out)) (cq (Kd.C_below HR1_1.out HB.out)) HC1_1.out A5.out).mono ?_; rintro e w' ⟨rfl, ⟨nd, rfl⟩⟩; refine ⟨_, rfl, ?_⟩; (try (rw [Ae1 w36]; generalize hq_ : World.drewN w36 _ = w36; have n0_ : Aside0 (w36.heap[gb427]? = some (.cells #[.slice A0_0 l0_0.length c0_0] 26 (0, 0))) := ⟨by rw [← hq_]; exact (bq BK427.out)⟩; have n1_ : Aside0 (w36.heap[gb428]? = some (.cells #[.slice A1_0 l1_0.length c1_0, .slice A1_1 l1_1.length c1_1] 29 (0, 0))) := ⟨by rw [← hq_]; exact (bq BK428.out)⟩; have n2_ : Aside0 (w36.heap[gb429]? = some (.cells #[.int .i64 0, .slice none 0 0, .slice none 0 0] 33 (0, 0))) := ⟨by rw [← hq_]; exact (bq BK429.out)⟩; have n3_ : Aside0 (Below w.heap.size w w36) := ⟨by rw [← hq_]; exact (hs HB.out)⟩; clear BK427 BK428 BK429 HB hq_; have BK427 := n0_; have BK428 := n1_; have BK429 := n2_; have HB := n3_; clear n0_ n1_ n2_ n3_))) | (refine gl (some 25) Tryz.func32 rfl #[.pointer (some ⟨gb428, 0, none⟩)] ?_; refine (spec_l4Plain.calls k _ [(⟨l1_0, l1_1⟩ : S29)] t432 t435 false _ (k29_box (bq BK428.out) (cq (Kd.C_below HR1_0.out HB.out)) (by exact HC1_0.out) (cq (Kd.C_below HR1_1.out HB.out)) (by exact HC1_1.out)) A7.out).mono ?_; rintro e w38 ⟨v433, v436, rfl, ho0, ho1, hb⟩; refine ⟨_, rfl, ?_⟩; have HO434 := am (Kd.R_lower ho0 (Aa8 (hs HB.out))); have HO437 := am (Kd.R_lower ho1 (Aa8 (hs HB.out))); replace BK427 := bb BK427 hb; replace BK428 := bb BK428 hb; replace BK429 := bb BK429 hb; replace HB := sb HB hb; (try clear hb); (try clear hk); (try clear ho0); (try clear ho1)) | (refine bx 7 rfl #[.slice none 0 0, .slice none 0 0] 29 ?_; intro gb439 hg w39 hbox hb; replace HO434 := rb HO434 hb; replace HO437 := rb HO437 hb; have BK439 := am (hbox); have GW439 := am (bz hg (hs HB.out)); replace HB := sb HB hb; have GE439 := GW439; have NB427_439 := nl hg BK427; have NB439_427 := ng hg BK427; replace BK427 := bb BK427 hb; have NB428_439 := nl hg BK428; have NB439_428 := ng hg BK428; replace BK428 := bb BK428 hb; have NB429_439 := nl hg BK429; have NB439_429 := ng hg BK429; replace BK429 := bb BK429 hb; clear hb hbox hg; obtain ⟨Ao40, co40, rfl⟩ := Kd.R_slice HO434.out; have hnb41 := NB439_427.out; have hnc41 := NB427_439.out; have hnb42 := NB439_428.out; have hnc42 := NB428_439.out; have hnb43 := NB439_429.out; have hnc43 := NB429_439.out; have hcz44_0 : w39.cell? ⟨gb439, 0, none⟩ = some (.slice none 0 0) := (Aa0 BK439.out 0).trans rfl; have hcz44_1 : w39.cell? ⟨gb439, 1, none⟩ = some (.slice none 0 0) := (Aa0 BK439.out 1).trans rfl; have hfz44_0 := Aa1 BK439.out 0; have hfz44_1 := Aa1 BK439.out 1; obtain ⟨Ao45, co45, rfl⟩ := Kd.R_slice HO437.out; have hcz46_0 : w39.cell? ⟨gb429, 0, none⟩ = some (.int .i64 0) := (Aa0 BK429.out 0).trans rfl; have hcz46_1 : w39.cell? ⟨gb429, 1, none⟩ = some (.slice none 0 0) := (Aa0 BK429.out 1).trans rfl; have hcz46_2 : w39.cell? ⟨gb429, 2, none⟩ = some (.slice none 0 0) := (Aa0 BK429.out 2).trans rfl; have hfz46_0 := Aa1 BK429.out 0; have hfz46_1 := Aa1 BK429.out 1; have hfz46_2 := Aa1 BK429.out 2))
    refine bodyPost_ret (results_cell_row rfl _ _ gb429 33 #[.int .i64 2, .slice none 0 0, .slice none 0 0] (0, 0) _ rfl (by refine bq ?_; refine Aa6 (cs := #[.int .i64 2, .slice none 0 0, .slice none 0 0]) ?_ 2 _ rfl; refine bq ?_; refine Aa6 (cs := #[.int .i64 2, .slice none 0 0, .slice none 0 0]) ?_ 1 _ rfl; refine bq ?_; refine Aa6 (cs := #[.int .i64 0, .slice none 0 0, .slice none 0 0]) ?_ 0 _ rfl; refine bq ?_; refine Aa4 ?_ NB429_439.out _; refine bq ?_; refine Aa4 ?_ NB429_439.out _; refine bq ?_; exact BK429.out) Tryz.underlying33 rfl (by kernel_rfl)) rfl ?_
    exact ⟨_, _, er, by first | exact Kd.R_nil _ _ _ _ _ | exact Kd.N_nil _ _ _ _ _ | exact Kd.V_nil _ _ _ _ _ | exact Kd.Q_nil _ _ _ _ _ | exact Kd.S_nil _ _ _ _ _, by first | exact Kd.R_nil _ _ _ _ _ | exact Kd.N_nil _ _ _ _ _ | exact Kd.V_nil _ _ _ _ _ | exact Kd.Q_nil _ _ _ _ _ | exact Kd.S_nil _ _ _ _ _, hs HB.out⟩
  ·rw [if_neg c6] at H
   obtain ⟨c6b0, c6b1⟩ := bqf c6
   simp only [Option.some.injEq, Prod.mk.injEq] at H
   obtain ⟨rfl, rfl, rfl⟩ := H
   go_enter Tryz.func8, Tryz.ntmps8
   go_wp2_with (first | (refine bx 2 rfl #[.slice A0_0 l0_0.length c0_0] 26 ?_; intro gb427 hg w47 hbox hb; have BK427 := am (hbox); have GW427 := am (bz hg (hq HB.out)); replace HB := sb HB hb; have GE427 := GW427; clear hb hbox hg) | (refine bx 3 rfl #[.slice A1_0 l1_0.length c1_0, .slice A1_1 l1_1.length c1_1] 29 ?_; intro gb428 hg w48 hbox hb; have BK428 := am (hbox); have GW428 := am (bz hg (hs HB.out)); replace HB := sb HB hb; have GE428 := GW428; have NB427_428 := nl hg BK427; have NB428_427 := ng hg BK427; replace BK427 := bb BK427 hb; clear hb hbox hg) | (refine bx 4 rfl #[.int .i64 0, .slice none 0 0, .slice none 0 0] 33 ?_; intro gb429 hg w49 hbox hb; have BK429 := am (hbox); have GW429 := am (bz hg (hs HB.out)); replace HB := sb HB hb; have GE429 := GW429; have NB427_429 := nl hg BK427; have NB429_427 := ng hg BK427; replace BK427 := bb BK427 hb; have NB428_429 := nl hg BK428; have NB429_428 := ng hg BK428; replace BK428 := bb BK428 hb; clear hb hbox hg; have hnb50 := NB427_428.out; have hnc50 := NB428_427.out; have hnb51 := NB427_429.out; have hnc51 := NB429_427.out; have hcz52_0 : w49.cell? ⟨gb427, 0, none⟩ = some (.slice A0_0 l0_0.length c0_0) := (Aa0 BK427.out 0).trans rfl; have hfz52_0 := Aa1 BK427.out 0; have hnb53 := NB428_429.out; have hnc53 := NB429_428.out; have hcz54_0 : w49.cell? ⟨gb428, 0, none⟩ = some (.slice A1_0 l1_0.length c1_0) := (Aa0 BK428.out 0).trans rfl; have hcz54_1 : w49.cell? ⟨gb428, 1, none⟩ = some (.slice A1_1 l1_1.length c1_1) := (Aa0 BK428.out 1).trans rfl; have hfz54_0 := Aa1 BK428.out 0; have hfz54_1 := Aa1 BK428.out 1) | (refine gl (some 12) Tryz.func30 rfl #[.agg #[.slice A0_0 l0_0.length c0_0], .slice A1_0 l1_0.length c1_0] ?_; refine (spec_TermFault.calls k _ _ l0_0 _ _ l1_0 t430 _ (cq (Kd.C_below HR0_0.out HB.out)) HC0_0.out (cq (Kd.C_below HR1_0.out HB.out)) HC1_0.out A3.out).mono ?_; rintro e w55 ⟨rfl, hb⟩; refine ⟨_, rfl, ?_⟩; replace BK427 := bb BK427 hb; replace BK428 := bb BK428 hb; replace BK429 := bb BK429 hb; replace HB := sb HB hb; (try clear hb); (try clear hk); have hcz56_0 : w55.cell? ⟨gb428, 0, none⟩ = some (.slice A1_0 l1_0.length c1_0) := (Aa0 BK428.out 0).trans rfl; have hcz56_1 : w55.cell? ⟨gb428, 1, none⟩ = some (.slice A1_1 l1_1.length c1_1) := (Aa0 BK428.out 1).trans rfl; have hfz56_0 := Aa1 BK428.out 0; have hfz56_1 := Aa1 BK428.out 1) | (refine gl (some 19) Tryz.func31 rfl #[.pointer (some ⟨gb427, 0, none⟩), .slice A1_1 l1_1.length c1_1] ?_; refine (spec_l3Fault.calls k _ [(⟨l0_0⟩ : S26)] _ _ l1_1 t431 _ (Ak3 (bq BK427.out) (cq (Kd.C_below HR0_0.out HB.out)) (by exact HC0_0.out)) (cq (Kd.C_below HR1_1.out HB.out)) HC1_1.out A5.out).mono ?_; rintro e w' ⟨rfl, ⟨nd, rfl⟩⟩; refine ⟨_, rfl, ?_⟩; (try (rw [Ae1 w55]; generalize hq_ : World.drewN w55 _ = w55; have n0_ : Aside0 (w55.heap[gb427]? = some (.cells #[.slice A0_0 l0_0.length c0_0] 26 (0, 0))) := ⟨by rw [← hq_]; exact (bq BK427.out)⟩; have n1_ : Aside0 (w55.heap[gb428]? = some (.cells #[.slice A1_0 l1_0.length c1_0, .slice A1_1 l1_1.length c1_1] 29 (0, 0))) := ⟨by rw [← hq_]; exact (bq BK428.out)⟩; have n2_ : Aside0 (w55.heap[gb429]? = some (.cells #[.int .i64 0, .slice none 0 0, .slice none 0 0] 33 (0, 0))) := ⟨by rw [← hq_]; exact (bq BK429.out)⟩; have n3_ : Aside0 (Below w.heap.size w w55) := ⟨by rw [← hq_]; exact (hs HB.out)⟩; clear BK427 BK428 BK429 HB hq_; have BK427 := n0_; have BK428 := n1_; have BK429 := n2_; have HB := n3_; clear n0_ n1_ n2_ n3_)); have hcz57_0 : w55.cell? ⟨gb429, 0, none⟩ = some (.int .i64 0) := (Aa0 BK429.out 0).trans rfl; have hcz57_1 : w55.cell? ⟨gb429, 1, none⟩ = some (.slice none 0 0) := (Aa0 BK429.out 1).trans rfl; have hcz57_2 : w55.cell? ⟨gb429, 2, none⟩ = some (.slice none 0 0) := (Aa0 BK429.out 2).trans rfl; have hfz57_0 := Aa1 BK429.out 0; have hfz57_1 := Aa1 BK429.out 1; have hfz57_2 := Aa1 BK429.out 2))
   refine bodyPost_ret (results_cell_row rfl _ _ gb429 33 #[.int .i64 t431, .slice none 0 0, .slice none 0 0] (0, 0) _ rfl (by refine bq ?_; refine Aa6 (cs := #[.int .i64 t431, .slice none 0 0, .slice none 0 0]) ?_ 2 _ rfl; refine bq ?_; refine Aa6 (cs := #[.int .i64 t431, .slice none 0 0, .slice none 0 0]) ?_ 1 _ rfl; refine bq ?_; refine Aa6 (cs := #[.int .i64 0, .slice none 0 0, .slice none 0 0]) ?_ 0 _ rfl; refine bq ?_; exact BK429.out) Tryz.underlying33 rfl (by kernel_rfl)) rfl ?_
   exact ⟨_, _, er, by first | exact Kd.R_nil _ _ _ _ _ | exact Kd.N_nil _ _ _ _ _ | exact Kd.V_nil _ _ _ _ _ | exact Kd.Q_nil _ _ _ _ _ | exact Kd.S_nil _ _ _ _ _, by first | exact Kd.R_nil _ _ _ _ _ | exact Kd.N_nil _ _ _ _ _ | exact Kd.V_nil _ _ _ _ _ | exact Kd.Q_nil _ _ _ _ _ | exact Kd.S_nil _ _ _ _ _, hs HB.out⟩
 ·rw [if_neg c4] at H
  obtain ⟨c4b0, c4b1⟩ := bqf c4
  simp only [Option.some.injEq, Prod.mk.injEq] at H
  obtain ⟨rfl, rfl, rfl⟩ := H
  go_enter Tryz.func8, Tryz.ntmps8
  go_wp2_with (first | (refine bx 2 rfl #[.slice A0_0 l0_0.length c0_0] 26 ?_; intro gb427 hg w58 hbox hb; have BK427 := am (hbox); have GW427 := am (bz hg (hq HB.out)); replace HB := sb HB hb; have GE427 := GW427; clear hb hbox hg) | (refine bx 3 rfl #[.slice A1_0 l1_0.length c1_0, .slice A1_1 l1_1.length c1_1] 29 ?_; intro gb428 hg w59 hbox hb; have BK428 := am (hbox); have GW428 := am (bz hg (hs HB.out)); replace HB := sb HB hb; have GE428 := GW428; have NB427_428 := nl hg BK427; have NB428_427 := ng hg BK427; replace BK427 := bb BK427 hb; clear hb hbox hg) | (refine bx 4 rfl #[.int .i64 0, .slice none 0 0, .slice none 0 0] 33 ?_; intro gb429 hg w60 hbox hb; have BK429 := am (hbox); have GW429 := am (bz hg (hs HB.out)); replace HB := sb HB hb; have GE429 := GW429; have NB427_429 := nl hg BK427; have NB429_427 := ng hg BK427; replace BK427 := bb BK427 hb; have NB428_429 := nl hg BK428; have NB429_428 := ng hg BK428; replace BK428 := bb BK428 hb; clear hb hbox hg; have hnb61 := NB427_428.out; have hnc61 := NB428_427.out; have hnb62 := NB427_429.out; have hnc62 := NB429_427.out; have hcz63_0 : w60.cell? ⟨gb427, 0, none⟩ = some (.slice A0_0 l0_0.length c0_0) := (Aa0 BK427.out 0).trans rfl; have hfz63_0 := Aa1 BK427.out 0; have hnb64 := NB428_429.out; have hnc64 := NB429_428.out; have hcz65_0 : w60.cell? ⟨gb428, 0, none⟩ = some (.slice A1_0 l1_0.length c1_0) := (Aa0 BK428.out 0).trans rfl; have hcz65_1 : w60.cell? ⟨gb428, 1, none⟩ = some (.slice A1_1 l1_1.length c1_1) := (Aa0 BK428.out 1).trans rfl; have hfz65_0 := Aa1 BK428.out 0; have hfz65_1 := Aa1 BK428.out 1) | (refine gl (some 12) Tryz.func30 rfl #[.agg #[.slice A0_0 l0_0.length c0_0], .slice A1_0 l1_0.length c1_0] ?_; refine (spec_TermFault.calls k _ _ l0_0 _ _ l1_0 t430 _ (cq (Kd.C_below HR0_0.out HB.out)) HC0_0.out (cq (Kd.C_below HR1_0.out HB.out)) HC1_0.out A3.out).mono ?_; rintro e w66 ⟨rfl, hb⟩; refine ⟨_, rfl, ?_⟩; replace BK427 := bb BK427 hb; replace BK428 := bb BK428 hb; replace BK429 := bb BK429 hb; replace HB := sb HB hb; (try clear hb); (try clear hk); have hcz67_0 : w66.cell? ⟨gb429, 0, none⟩ = some (.int .i64 0) := (Aa0 BK429.out 0).trans rfl; have hcz67_1 : w66.cell? ⟨gb429, 1, none⟩ = some (.slice none 0 0) := (Aa0 BK429.out 1).trans rfl; have hcz67_2 : w66.cell? ⟨gb429, 2, none⟩ = some (.slice none 0 0) := (Aa0 BK429.out 2).trans rfl; have hfz67_0 := Aa1 BK429.out 0; have hfz67_1 := Aa1 BK429.out 1; have hfz67_2 := Aa1 BK429.out 2))
  refine bodyPost_ret (results_cell_row rfl _ _ gb429 33 #[.int .i64 t430, .slice none 0 0, .slice none 0 0] (0, 0) _ rfl (by refine bq ?_; refine Aa6 (cs := #[.int .i64 t430, .slice none 0 0, .slice none 0 0]) ?_ 2 _ rfl; refine bq ?_; refine Aa6 (cs := #[.int .i64 t430, .slice none 0 0, .slice none 0 0]) ?_ 1 _ rfl; refine bq ?_; refine Aa6 (cs := #[.int .i64 0, .slice none 0 0, .slice none 0 0]) ?_ 0 _ rfl; refine bq ?_; exact BK429.out) Tryz.underlying33 rfl (by kernel_rfl)) rfl ?_
  exact ⟨_, _, er, by first | exact Kd.R_nil _ _ _ _ _ | exact Kd.N_nil _ _ _ _ _ | exact Kd.V_nil _ _ _ _ _ | exact Kd.Q_nil _ _ _ _ _ | exact Kd.S_nil _ _ _ _ _, by first | exact Kd.R_nil _ _ _ _ _ | exact Kd.N_nil _ _ _ _ _ | exact Kd.V_nil _ _ _ _ _ | exact Kd.Q_nil _ _ _ _ _ | exact Kd.S_nil _ _ _ _ _, hs HB.out⟩
def laws_lwAt.f (l0 : List Int) (a1 : Int) (a2 : Int) : Option (Int) := if a2 ≤ 1 then (some 0) else (if (l0.length : Int) = 0 then (if a2 = 0 then (none) else (some (Int.tmod (wrap64 (a1 * 7)) a2))) else (if 0 ≤ (Int.tmod a1 (l0.length : Int)) then (if (Int.tmod a1 (l0.length : Int)) < (l0.length : Int) then (if a2 > 200 then (if 0 ≤ (Int.tmod (wrap64 (a1 + 1)) (l0.length : Int)) then (if (Int.tmod (wrap64 (a1 + 1)) (l0.length : Int)) < (l0.length : Int) then (if a2 = 0 then (none) else (some (Int.tmod (wrap64 ((wrap64 ((wrap64 ((wrap64 (rd l0 (Int.tmod a1 (l0.length : Int)))) + (wrap64 ((wrap64 (Int.tdiv a1 (l0.length : Int))) * 3)))) * 251)) + (wrap64 (rd l0 (Int.tmod (wrap64 (a1 + 1)) (l0.length : Int)))))) a2))) else (none)) else (none)) else (if a2 = 0 then (none) else (some (Int.tmod (wrap64 ((wrap64 (rd l0 (Int.tmod a1 (l0.length : Int)))) + (wrap64 ((wrap64 (Int.tdiv a1 (l0.length : Int))) * 3)))) a2)))) else (none)) else (none)))
set_option maxHeartbeats 8000000 in
set_option maxRecDepth 100000 in
theorem laws_lwAt.calls (A0 : Option Addr) (c0 : Nat) (l0 : List Int) (a1 : Int) (a2 : Int) (r : Int) (w : World) (hr0 : Kd.C (Kd.int .u8) w A0 l0.length l0) (hc0 : l0.length ≤ c0) (h : laws_lwAt.f l0 a1 a2 = some r) :
  Calls Tryz.prog 9 #[.slice A0 l0.length c0, .int .i64 a1, .int .i64 a2] w fun e w' => e = .returned (.int .i64 r) ∧ Below w.heap.size w w' := by
 have HR0 := am hr0
 have HC0 := am hc0
 clear hr0 hc0
 have HB := am (Below.refl w.heap.size w)
 have H : (if a2 ≤ 1 then (some 0) else (if (l0.length : Int) = 0 then (if a2 = 0 then (none) else (some (Int.tmod (wrap64 (a1 * 7)) a2))) else (if 0 ≤ (Int.tmod a1 (l0.length : Int)) then (if (Int.tmod a1 (l0.length : Int)) < (l0.length : Int) then (if a2 > 200 then (if 0 ≤ (Int.tmod (wrap64 (a1 + 1)) (l0.length : Int)) then (if (Int.tmod (wrap64 (a1 + 1)) (l0.length : Int)) < (l0.length : Int) then (if a2 = 0 then (none) else (some (Int.tmod (wrap64 ((wrap64 ((wrap64 ((wrap64 (rd l0 (Int.tmod a1 (l0.length : Int)))) + (wrap64 ((wrap64 (Int.tdiv a1 (l0.length : Int))) * 3)))) * 251)) + (wrap64 (rd l0 (Int.tmod (wrap64 (a1 + 1)) (l0.length : Int)))))) a2))) else (none)) else (none)) else (if a2 = 0 then (none) else (some (Int.tmod (wrap64 ((wrap64 (rd l0 (Int.tmod a1 (l0.length : Int)))) + (wrap64 ((wrap64 (Int.tdiv a1 (l0.length : Int))) * 3)))) a2)))) else (none)) else (none)))) = some r := h
 clear h
 by_cases c4 : a2 ≤ 1
 ·rw [if_pos c4] at H
  have c4b0 : decide (a2 ≤ 1) = true := decide_eq_true c4
  clear c4
  obtain rfl := Option.some.inj H
  go_enter Tryz.func9, Tryz.ntmps9
  go_wp2
  repeat (go_quiet (fail); try go_wp2)
  go_ret
  exact ⟨er, hq HB.out⟩
 ·rw [if_neg c4] at H
  have c4b0 : decide (a2 ≤ 1) = false := decide_eq_false c4
  clear c4
  by_cases c5 : (l0.length : Int) = 0
  ·rw [if_pos c5] at H
   obtain ⟨c5b0, c5b1⟩ := bqt c5; clear c5
   by_cases c6 : a2 = 0
   ·rw [if_pos c6] at H
    exact absurd H (by simp)
   ·rw [if_neg c6] at H
    obtain ⟨c6b0, c6b1⟩ := bqf c6
    obtain rfl := Option.some.inj H
    go_enter Tryz.func9, Tryz.ntmps9
    go_wp2
    repeat (go_quiet (fail); try go_wp2)
    go_ret
    exact ⟨er, hq HB.out⟩
  ·rw [if_neg c5] at H
   obtain ⟨c5b0, c5b1⟩ := bqf c5
   have c5b2 : ¬ (l0 = []) := fun h_ => c5 (by rw [h_]; rfl)
   obtain ⟨ji7, hji7⟩ : ∃ j_ : Int, (Int.tmod a1 (l0.length : Int)) = j_ := ⟨_, rfl⟩
   replace H : (if 0 ≤ (ji7) then (if (ji7) < (l0.length : Int) then (if a2 > 200 then (if 0 ≤ (Int.tmod (wrap64 (a1 + 1)) (l0.length : Int)) then (if (Int.tmod (wrap64 (a1 + 1)) (l0.length : Int)) < (l0.length : Int) then (if a2 = 0 then (none) else (some (Int.tmod (wrap64 ((wrap64 ((wrap64 ((wrap64 (rd l0 (ji7))) + (wrap64 ((wrap64 (Int.tdiv a1 (l0.length : Int))) * 3)))) * 251)) + (wrap64 (rd l0 (Int.tmod (wrap64 (a1 + 1)) (l0.length : Int)))))) a2))) else (none)) else (none)) else (if a2 = 0 then (none) else (some (Int.tmod (wrap64 ((wrap64 (rd l0 (ji7))) + (wrap64 ((wrap64 (Int.tdiv a1 (l0.length : Int))) * 3)))) a2)))) else (none)) else (none)) = some r := by first | (rw [hji7] at H; exact H) | (simp only [hji7] at H ⊢; exact H)
   obtain ⟨c8b0, H⟩ := ife H
   obtain ⟨c9b0, H⟩ := ife H
   by_cases c10 : a2 > 200
   ·rw [if_pos c10] at H
    have c10b0 : decide (200 < a2) = true := decide_eq_true c10
    clear c10
    obtain ⟨ji11, hji11⟩ : ∃ j_ : Int, (Int.tmod (wrap64 (a1 + 1)) (l0.length : Int)) = j_ := ⟨_, rfl⟩
    replace H : (if 0 ≤ (ji11) then (if (ji11) < (l0.length : Int) then (if a2 = 0 then (none) else (some (Int.tmod (wrap64 ((wrap64 ((wrap64 ((wrap64 (rd l0 (ji7))) + (wrap64 ((wrap64 (Int.tdiv a1 (l0.length : Int))) * 3)))) * 251)) + (wrap64 (rd l0 (ji11))))) a2))) else (none)) else (none)) = some r := by first | (rw [hji11] at H; exact H) | (simp only [hji11] at H ⊢; exact H)
    obtain ⟨c12b0, H⟩ := ife H
    obtain ⟨c13b0, H⟩ := ife H
    by_cases c14 : a2 = 0
    ·rw [if_pos c14] at H
     exact absurd H (by simp)
    ·rw [if_neg c14] at H
     obtain ⟨c14b0, c14b1⟩ := bqf c14
     obtain rfl := Option.some.inj H
     have p440 : 0 ≤ ((ji7) : Int) := od
     have q440 : (ji7) < (l0.length : Int) := od
     obtain ⟨ad440, e440, hx440_0⟩ := Kd.at_int HR0.out (ji7) p440 q440
     cases e440
     replace p440 := eq_true p440
     replace q440 := eq_true q440
     have p441 : 0 ≤ ((ji11) : Int) := od
     have q441 : (ji11) < (l0.length : Int) := od
     obtain ⟨ad441, e441, hx441_0⟩ := Kd.at_int HR0.out (ji11) p441 q441
     obtain rfl : ad440 = ad441 := (by injection e441)
     replace p441 := eq_true p441
     replace q441 := eq_true q441
     go_enter Tryz.func9, Tryz.ntmps9
     go_wp2
     repeat (go_quiet (fail); try go_wp2)
     go_ret
     exact ⟨by first | rfl | (simp [Ad4, Ad3] <;> rfl) | (simp only [← hji7, ← hji11]; first | rfl | (simp [Ad4, Ad3] <;> rfl)) | (simp [*, Ad4, Ad3] <;> rfl), hq HB.out⟩
   ·rw [if_neg c10] at H
    have c10b0 : decide (200 < a2) = false := decide_eq_false c10
    clear c10
    by_cases c15 : a2 = 0
    ·rw [if_pos c15] at H
     exact absurd H (by simp)
    ·rw [if_neg c15] at H
     obtain ⟨c15b0, c15b1⟩ := bqf c15
     obtain rfl := Option.some.inj H
     have p440 : 0 ≤ ((ji7) : Int) := od
     have q440 : (ji7) < (l0.length : Int) := od
     obtain ⟨ad440, e440, hx440_0⟩ := Kd.at_int HR0.out (ji7) p440 q440
     cases e440
     replace p440 := eq_true p440
     replace q440 := eq_true q440
     go_enter Tryz.func9, Tryz.ntmps9
     go_wp2
     repeat (go_quiet (fail); try go_wp2)
     go_ret
     exact ⟨by first | rfl | (simp [Ad4, Ad3] <;> rfl) | (simp only [← hji7]; first | rfl | (simp [Ad4, Ad3] <;> rfl)) | (simp [*, Ad4, Ad3] <;> rfl), hq HB.out⟩
def impl_shifted.l0 : Nat → Int → List Int → Int → Int → Option (List Int)
 | 0, _, _, _, _ => none
 | k + 1, x1, x5, x11, x12 => if x12 < x11 then (if 0 ≤ x12 then (if x12 < (x5.length : Int) then (if (rd x5 x12) < 0 then (impl_shifted.l0 k x1 (x5.set (x12 : Int).toNat (wrap64 ((rd x5 x12) - x1))) x11 (wrap64 (x12 + 1))) else (impl_shifted.l0 k x1 x5 x11 (wrap64 (x12 + 1)))) else (none)) else (none)) else (some x5)
def impl_shifted.f (k : Nat) (l0 : List Int) (a1 : Int) : Option (List Int) := (slices_Clone_int64_int64.f l0).bind fun t442 => (impl_shifted.l0 k a1 t442 (t442.length : Int) 0)
set_option maxHeartbeats 8000000 in
set_option maxRecDepth 100000 in
theorem impl_shifted.calls (k : Nat) (A0 : Option Addr) (c0 : Nat) (l0 : List Int) (a1 : Int) (r : List Int) (w : World) (hr0 : Kd.C (Kd.int .i64) w A0 l0.length l0) (hc0 : l0.length ≤ c0) (h : impl_shifted.f k l0 a1 = some r) :
  Calls Tryz.prog 34 #[.slice A0 l0.length c0, .int .i64 a1] w fun e w' => ∃ v0_ : Value, e = .returned (v0_) ∧ Kd.R (Kd.int .i64) 2 w' w.heap.size (fun _ => True) v0_ r ∧ Below w.heap.size w w' := by
 have HR0 := am hr0
 have HC0 := am hc0
 clear hr0 hc0
 have HB := am (Below.refl w.heap.size w)
 have H : ((slices_Clone_int64_int64.f l0).bind fun t442 => (impl_shifted.l0 k a1 t442 (t442.length : Int) 0)) = some r := h
 clear h
 obtain ⟨t442, A3, H⟩ := ob H
 try dsimp only at H
 have H' := am H
 clear H
 go_enter Tryz.func34, Tryz.ntmps34
 go_wp2_with (first | (refine gl (some 9) Tryz.func69 rfl #[.slice A0 l0.length c0] ?_; refine (slices_Clone_int64_int64.calls _ _ l0 t442 _ (cq HR0.out) HC0.out A3.out).mono ?_; rintro e w4 ⟨v443, rfl, ho0, hb⟩; refine ⟨_, rfl, ?_⟩; have HO444 := am (Kd.R_lower ho0 (Aa8 (hq HB.out))); replace HB := sb HB hb; (try clear hb); (try clear ho0); obtain ⟨Ao5, co5, rfl⟩ := Kd.R_slice HO444.out))
 go_loopg [12] k (fun kq v12 w' => ∃ (x5_1 : List Int) (x12_1 : Int), v12 = .int .i64 x12_1 ∧ Aside0 (impl_shifted.l0 kq a1 x5_1 (t442.length : Int) x12_1 = some r) ∧ Aside0 (kq ≤ k) ∧ Aside0 (Kd.R (Kd.int .i64) 2 w' w.heap.size (fun _ => True) (.slice Ao5 t442.length co5) x5_1) ∧ Aside0 (Below w.heap.size w w'))
 case atStart => exact ⟨(t442), (0), et, H', ⟨Nat.le_refl _⟩, ⟨rq HO444.out⟩, ⟨hq HB.out⟩⟩
 case round =>
  clear H'
  obtain ⟨x5_1, x12_1, rfl, HA, HK1, HO_5, HB⟩ := hrel
  have hl5_1 := (Kd.R_reads' HO_5.out).1
  rw [hl5_1] at HO_5
  (try simp only [hl5_1])
  cases gk with
  | zero => exact absurd HA.out (by simp [impl_shifted.l0])
  | succ k1 =>
   have H := HA.out
   clear HA
   simp only [impl_shifted.l0] at H
   by_cases c6 : x12_1 < (t442.length : Int)
   ·rw [if_pos c6] at H
    have c6b0 : decide (x12_1 < (t442.length : Int)) = true := decide_eq_true c6
    clear c6
    obtain ⟨c7b0, H⟩ := ife H
    obtain ⟨c8b0, H⟩ := ife H
    by_cases c9 : (rd x5_1 x12_1) < 0
    ·rw [if_pos c9] at H
     have c9b0 : decide ((rd x5_1 x12_1) < 0) = true := decide_eq_true c9
     clear c9
     obtain ⟨y446, hy446⟩ : ∃ y_ : List Int, y_ = (x5_1.set (x12_1 : Int).toNat (wrap64 ((rd x5_1 x12_1) - a1))) := ⟨_, rfl⟩
     replace H : (impl_shifted.l0 k1 a1 y446 (t442.length : Int) (wrap64 (x12_1 + 1))) = some r := by first | (rw [hy446]; with_reducible exact H) | (have H2_ := (Option.bind_some _ _).symm.trans H; rw [hy446]; with_reducible exact H2_) | (have H2_ := (Option.bind_some _ _).symm.trans H; with_reducible exact H2_) | with_reducible exact H | (rw [hy446]; exact H) | exact H
     have Ny446 := am hy446
     clear hy446
     have H' := am H
     clear H
     have p445 : 0 ≤ (x12_1 : Int) := od
     have q445 : x12_1 < (x5_1.length : Int) := od
     obtain ⟨ad445, e445, hx445_0⟩ := Kd.at_int (Kd.R_reads' HO_5.out).2.2 x12_1 p445 q445
     cases e445
     replace p445 := eq_true p445
     replace q445 := eq_true q445
     have p10 : 0 ≤ (x12_1 : Int) := od
     have q10 : (x12_1 : Int) < ((x5_1.length : Int) : Int) := od
     obtain ⟨go10, co10, eo10, gb10, gl10, cl10, HG10⟩ := Kd.R_form HO_5.out (by omega)
     (first | cases eo10 | (injection eo10 with ea_ en_ ec_; (first | subst ea_ | (injection ea_ with ea_; subst ea_)); subst ec_; clear en_))
     have GB10 := am gb10
     have GG10 := am HG10
     clear gb10 gl10 HG10
     (first | simp only [Af5] at hx445_0 | skip)
     obtain ⟨hx10_0, hf10_0⟩ := Kd.R_celln 0 HO_5.out (x12_1 : Int) p10 q10
     replace p10 := eq_true p10
     replace q10 := eq_true q10
     have HP11 := Kd.R_putg HO_5.out (x12_1 : Int) (wrap64 ((rd x5_1 x12_1) - a1))
     go_wp2_with (first | ((with_reducible refine Ah9 (t := 2) (p := 24) rfl ?_); refine Ah0 (t := 2) (p := 24) (v := ?vo_w12) (w1 := (wr.setCell ⟨go10, (x12_1 : Int).toNat, none⟩ (.int .i64 (wrap64 ((rd x5_1 x12_1) - a1))))) ?hg ?ho ?hn ?hr ?_; (case ho => rfl); (case hg => rfl); (case hn => rfl); (case hr => first | (go_simp; done) | (go_simp; rfl)); intro w12 hw; have hg : wr.grownBy w12 (some go10) := (by rw [hw]; exact HP11.2); have hp_ : Kd.R (Kd.int .i64) 2 w12 w.heap.size (fun _ => True) (.slice (some ⟨go10, 0, none⟩) x5_1.length co5) y446 := (by rw [hw, Ny446.out]; exact HP11.1); clear HP11; replace HO_5 := am (hp_); replace HB := am ((by rw [hw]; exact Ac2 (HB.out) GB10.out : Below w.heap.size w w12)); clear hg hw hp_))
     (try simp only [← hl5_1])
     go_roundg k1
     case measure => have := HK1.out; omega
     case rel => exact ⟨(y446), (wrap64 (x12_1 + 1)), et, H', ⟨by have := HK1.out; omega⟩, ⟨by (try simp only [hl5_1]); (with_reducible repeat (first | apply Kd.R_alloc | apply Kd.R_drewN | apply Kd.R_drew)); exact HO_5.out⟩, ⟨hq HB.out⟩⟩
    ·rw [if_neg c9] at H
     have c9b0 : decide ((rd x5_1 x12_1) < 0) = false := decide_eq_false c9
     clear c9
     have H' := am H
     clear H
     have p445 : 0 ≤ (x12_1 : Int) := od
     have q445 : x12_1 < (x5_1.length : Int) := od
     obtain ⟨ad445, e445, hx445_0⟩ := Kd.at_int (Kd.R_reads' HO_5.out).2.2 x12_1 p445 q445
     cases e445
     replace p445 := eq_true p445
     replace q445 := eq_true q445
     go_wp2
     (try simp only [← hl5_1])
     go_roundg k1
     case measure => have := HK1.out; omega
     case rel => exact ⟨(x5_1), (wrap64 (x12_1 + 1)), et, H', ⟨by have := HK1.out; omega⟩, ⟨by (try simp only [hl5_1]); (with_reducible repeat (first | apply Kd.R_alloc | apply Kd.R_drewN | apply Kd.R_drew)); exact HO_5.out⟩, ⟨hq HB.out⟩⟩
   ·rw [if_neg c6] at H
    have c6b0 : decide (x12_1 < (t442.length : Int)) = false := decide_eq_false c6
    try (have c6b9 := c6b0; rw [hl5_1] at c6b9)
    clear c6
    obtain rfl := Option.some.inj H
    go_wp2
    go_ret
    exact ⟨_, er, rq HO_5.out, hq HB.out⟩
theorem spot_none {w : World} {ad : Addr} {v : Value} (h : w.cell? ad = some v) : ad.spot = none := by
 unfold World.cell? at h
 cases hs : ad.spot with
 | none => rfl
 | some x =>
  rw [hs] at h
  simp at h
  split at h <;> cases h
theorem kd_cells {k : IntKind} {w : World} {A : Option Addr} {xs : List Int} (h : Kd.C (Kd.int k) w A xs.length xs) (hp : 0 < xs.length) :
  ∃ b off, A = some ⟨b, off, none⟩ ∧ ∀ j, j < xs.length → w.cell? ⟨b, off + j, none⟩ = some (.int k (xs.getD j 0)) := by
 obtain ⟨ad, rfl, h0⟩ := Kd.at_int h 0 (by omega) (by omega)
 have hs := spot_none h0
 have e0 : ad.add (0 : Int).toNat = ad := rfl
 rw [e0] at hs
 obtain ⟨b, off, sp⟩ := ad
 simp only at hs
 subst hs
 refine ⟨b, off, rfl, fun j hj => ?_⟩
 obtain ⟨ad, e, h1⟩ := Kd.at_int h (j : Int) (by omega) (by omega)
 obtain rfl := Option.some.inj e
 rw [Int.toNat_natCast] at h1
 cases j with
 | zero => exact h1
 | succ j => exact h1
def slices_Min_int64_int64.f (l0 : List Int) : Option Int := if 0 < l0.length then some (Lib.minOf l0) else none
theorem slices_Min_int64_int64.calls (A0 : Option Addr) (c0 : Nat) (l0 : List Int) (r : Int) (w : World) (hr0 : Kd.C (Kd.int .i64) w A0 l0.length l0) (hc0 : l0.length ≤ c0) (h : slices_Min_int64_int64.f l0 = some r) :
  Calls Tryz.prog 35 #[.slice A0 l0.length c0] w fun e w' => e = .returned (.int .i64 r) ∧ Drawn0 w w' := by
 unfold slices_Min_int64_int64.f at h
 by_cases c2 : 0 < l0.length
 case neg => rw [if_neg c2] at h; cases h
 rw [if_pos c2] at h
 obtain rfl := Option.some.inj h
 obtain ⟨b, off, rfl, hc⟩ := kd_cells hr0 c2
 refine (AnyG.slices_Min_int Shelf.laysSlLaysN39 b off l0.length c0 l0 w c2 (Nat.le_refl _) hr0.2.1 hc).mono fun e w' h => ?_
 rw [List.take_length] at h
 exact ⟨h.1, by rw [h.2]; exact Drawn0.refl _⟩
def impl_ShiftTerm.f (k : Nat) (l0_0 : List (S90)) (l1 : List Int) (a2 : Int) : Option (Int × List Int) := (impl_TermFault.f k l0_0 l1).bind fun t449 => (if t449 = 0 then ((impl_within.f a2 0 11).bind fun t450 => (if t450 = true then ((impl_shifted.f k l1 a2).bind fun t451 => ((slices_Min_int64_int64.f t451).bind fun t454 => (if t454 < (-12) then (some (3, ([] : List Int))) else (some (0, t451))))) else (some (3, ([] : List Int))))) else (some (t449, ([] : List Int))))
set_option maxHeartbeats 8000000 in
set_option maxRecDepth 100000 in
theorem impl_ShiftTerm.calls (k : Nat) (A0_0 : Option Addr) (c0_0 : Nat) (l0_0 : List (S90)) (A1 : Option Addr) (c1 : Nat) (l1 : List Int) (a2 : Int) (r1 : Int) (r2 : List Int) (w : World) (hr0_0 : Kd.C k90 w A0_0 l0_0.length l0_0) (hc0_0 : l0_0.length ≤ c0_0) (hr1 : Kd.C (Kd.int .i64) w A1 l1.length l1) (hc1 : l1.length ≤ c1) (h : impl_ShiftTerm.f k l0_0 l1 a2 = some (r1, r2)) :
  Calls Tryz.prog 10 #[.agg #[.slice A0_0 l0_0.length c0_0], .slice A1 l1.length c1, .int .i64 a2] w fun e w' => ∃ v1_ : Value, e = .returned (.agg #[.int .i64 r1, v1_]) ∧ Kd.R (Kd.int .i64) 2 w' w.heap.size (fun _ => True) v1_ r2 ∧ Below w.heap.size w w' := by
 have hu26 := Tryz.underlying26
 have hu37 := Tryz.underlying37
 have HR0_0 := am hr0_0
 have HC0_0 := am hc0_0
 clear hr0_0 hc0_0
 have HR1 := am hr1
 have HC1 := am hc1
 clear hr1 hc1
 have HB := am (Below.refl w.heap.size w)
 have H : ((impl_TermFault.f k l0_0 l1).bind fun t449 => (if t449 = 0 then ((impl_within.f a2 0 11).bind fun t450 => (if t450 = true then ((impl_shifted.f k l1 a2).bind fun t451 => ((slices_Min_int64_int64.f t451).bind fun t454 => (if t454 < (-12) then (some (3, ([] : List Int))) else (some (0, t451))))) else (some (3, ([] : List Int))))) else (some (t449, ([] : List Int))))) = some (r1, r2) := h
 clear h
 obtain ⟨t449, A4, H⟩ := ob H
 try dsimp only at H
 by_cases c5 : t449 = 0
 ·rw [if_pos c5] at H
  obtain ⟨c5b0, c5b1⟩ := bqt c5; clear c5
  obtain ⟨t450, A6, H⟩ := ob H
  try dsimp only at H
  by_cases c7 : t450 = true
  ·subst c7
   rw [if_pos rfl] at H
   obtain ⟨t451, A8, H⟩ := ob H
   try dsimp only at H
   obtain ⟨t454, A9, H⟩ := ob H
   try dsimp only at H
   by_cases c10 : t454 < (-12)
   ·rw [if_pos c10] at H
    have c10b0 : decide (t454 < (-12)) = true := decide_eq_true c10
    clear c10
    simp only [Option.some.injEq, Prod.mk.injEq] at H
    obtain ⟨rfl, rfl⟩ := H
    go_enter Tryz.func10, Tryz.ntmps10
    go_wp2_with (first | (refine bx 3 rfl #[.slice A0_0 l0_0.length c0_0] 26 ?_; intro gb447 hg w11 hbox hb; have BK447 := am (hbox); have GW447 := am (bz hg (hq HB.out)); replace HB := sb HB hb; have GE447 := GW447; clear hb hbox hg) | (refine bx 6 rfl #[.int .i64 0, .slice none 0 0] 37 ?_; intro gb448 hg w12 hbox hb; have BK448 := am (hbox); have GW448 := am (bz hg (hs HB.out)); replace HB := sb HB hb; have GE448 := GW448; have NB447_448 := nl hg BK447; have NB448_447 := ng hg BK447; replace BK447 := bb BK447 hb; clear hb hbox hg; have hnb13 := NB447_448.out; have hnc13 := NB448_447.out; have hcz14_0 : w12.cell? ⟨gb447, 0, none⟩ = some (.slice A0_0 l0_0.length c0_0) := (Aa0 BK447.out 0).trans rfl; have hfz14_0 := Aa1 BK447.out 0) | (refine gl (some 11) Tryz.func28 rfl #[.agg #[.slice A0_0 l0_0.length c0_0], .slice A1 l1.length c1] ?_; refine (impl_TermFault.calls k _ _ l0_0 _ _ l1 t449 _ (cq (Kd.C_below HR0_0.out HB.out)) HC0_0.out (cq (Kd.C_below HR1.out HB.out)) HC1.out A4.out).mono ?_; rintro e w15 ⟨rfl, hb⟩; refine ⟨_, rfl, ?_⟩; replace BK447 := bb BK447 hb; replace BK448 := bb BK448 hb; replace HB := sb HB hb; (try clear hb); (try clear hk)) | (refine gl (some 17) Tryz.func33 rfl #[.int .i64 a2, .int .i64 0, .int .i64 11] ?_; refine (impl_within.calls a2 0 11 true _ A6.out).mono ?_; rintro e w' ⟨rfl, ⟨nd, rfl⟩⟩; refine ⟨_, rfl, ?_⟩; (try (rw [Ae1 w15]; generalize hq_ : World.drewN w15 _ = w15; have n0_ : Aside0 (w15.heap[gb447]? = some (.cells #[.slice A0_0 l0_0.length c0_0] 26 (0, 0))) := ⟨by rw [← hq_]; exact (bq BK447.out)⟩; have n1_ : Aside0 (w15.heap[gb448]? = some (.cells #[.int .i64 0, .slice none 0 0] 37 (0, 0))) := ⟨by rw [← hq_]; exact (bq BK448.out)⟩; have n2_ : Aside0 (Below w.heap.size w w15) := ⟨by rw [← hq_]; exact (hs HB.out)⟩; clear BK447 BK448 HB hq_; have BK447 := n0_; have BK448 := n1_; have HB := n2_; clear n0_ n1_ n2_))) | (refine gl (some 22) Tryz.func34 rfl #[.slice A1 l1.length c1, .int .i64 a2] ?_; refine (impl_shifted.calls k _ _ l1 a2 t451 _ (cq (Kd.C_below HR1.out HB.out)) HC1.out A8.out).mono ?_; rintro e w16 ⟨v452, rfl, ho0, hb⟩; refine ⟨_, rfl, ?_⟩; have HO453 := am (Kd.R_lower ho0 (Aa8 (hs HB.out))); replace BK447 := bb BK447 hb; replace BK448 := bb BK448 hb; replace HB := sb HB hb; (try clear hb); (try clear hk); (try clear ho0); obtain ⟨Ao17, co17, rfl⟩ := Kd.R_slice HO453.out) | (refine gl (some 24) Tryz.func35 rfl #[.slice Ao17 t451.length co17] ?_; refine (slices_Min_int64_int64.calls _ _ t451 t454 _ (cq (Kd.R_reads' HO453.out).2.2) ((Kd.R_reads' HO453.out).2.1) A9.out).mono ?_; rintro e w' ⟨rfl, ⟨nd, rfl⟩⟩; refine ⟨_, rfl, ?_⟩; (try (rw [Ae1 w16]; generalize hq_ : World.drewN w16 _ = w16; have n0_ : Aside0 (Kd.R (Kd.int .i64) 2 w16 w.heap.size (fun _ => True) (.slice Ao17 t451.length co17) t451) := ⟨by rw [← hq_]; exact (rq HO453.out)⟩; have n1_ : Aside0 (w16.heap[gb447]? = some (.cells #[.slice A0_0 l0_0.length c0_0] 26 (0, 0))) := ⟨by rw [← hq_]; exact (bq BK447.out)⟩; have n2_ : Aside0 (w16.heap[gb448]? = some (.cells #[.int .i64 0, .slice none 0 0] 37 (0, 0))) := ⟨by rw [← hq_]; exact (bq BK448.out)⟩; have n3_ : Aside0 (Below w.heap.size w w16) := ⟨by rw [← hq_]; exact (hs HB.out)⟩; clear HO453 BK447 BK448 HB hq_; have HO453 := n0_; have BK447 := n1_; have BK448 := n2_; have HB := n3_; clear n0_ n1_ n2_ n3_)); have hcz18_0 : w16.cell? ⟨gb448, 0, none⟩ = some (.int .i64 0) := (Aa0 BK448.out 0).trans rfl; have hcz18_1 : w16.cell? ⟨gb448, 1, none⟩ = some (.slice none 0 0) := (Aa0 BK448.out 1).trans rfl; have hfz18_0 := Aa1 BK448.out 0; have hfz18_1 := Aa1 BK448.out 1))
    refine bodyPost_ret (results_cell_row rfl _ _ gb448 37 #[.int .i64 3, .slice none 0 0] (0, 0) _ rfl (by refine bq ?_; refine Aa6 (cs := #[.int .i64 3, .slice none 0 0]) ?_ 1 _ rfl; refine bq ?_; refine Aa6 (cs := #[.int .i64 0, .slice none 0 0]) ?_ 0 _ rfl; refine bq ?_; exact BK448.out) Tryz.underlying37 rfl (by kernel_rfl)) rfl ?_
    exact ⟨_, er, by first | exact Kd.R_nil _ _ _ _ _ | exact Kd.N_nil _ _ _ _ _ | exact Kd.V_nil _ _ _ _ _ | exact Kd.Q_nil _ _ _ _ _ | exact Kd.S_nil _ _ _ _ _, hs HB.out⟩
   ·rw [if_neg c10] at H
    have c10b0 : decide (t454 < (-12)) = false := decide_eq_false c10
    clear c10
    simp only [Option.some.injEq, Prod.mk.injEq] at H
    obtain ⟨rfl, rfl⟩ := H
    go_enter Tryz.func10, Tryz.ntmps10
    go_wp2_with (first | (refine bx 3 rfl #[.slice A0_0 l0_0.length c0_0] 26 ?_; intro gb447 hg w19 hbox hb; have BK447 := am (hbox); have GW447 := am (bz hg (hq HB.out)); replace HB := sb HB hb; have GE447 := GW447; clear hb hbox hg) | (refine bx 6 rfl #[.int .i64 0, .slice none 0 0] 37 ?_; intro gb448 hg w20 hbox hb; have BK448 := am (hbox); have GW448 := am (bz hg (hs HB.out)); replace HB := sb HB hb; have GE448 := GW448; have NB447_448 := nl hg BK447; have NB448_447 := ng hg BK447; replace BK447 := bb BK447 hb; clear hb hbox hg; have hnb21 := NB447_448.out; have hnc21 := NB448_447.out; have hcz22_0 : w20.cell? ⟨gb447, 0, none⟩ = some (.slice A0_0 l0_0.length c0_0) := (Aa0 BK447.out 0).trans rfl; have hfz22_0 := Aa1 BK447.out 0) | (refine gl (some 11) Tryz.func28 rfl #[.agg #[.slice A0_0 l0_0.length c0_0], .slice A1 l1.length c1] ?_; refine (impl_TermFault.calls k _ _ l0_0 _ _ l1 t449 _ (cq (Kd.C_below HR0_0.out HB.out)) HC0_0.out (cq (Kd.C_below HR1.out HB.out)) HC1.out A4.out).mono ?_; rintro e w23 ⟨rfl, hb⟩; refine ⟨_, rfl, ?_⟩; replace BK447 := bb BK447 hb; replace BK448 := bb BK448 hb; replace HB := sb HB hb; (try clear hb); (try clear hk)) | (refine gl (some 17) Tryz.func33 rfl #[.int .i64 a2, .int .i64 0, .int .i64 11] ?_; refine (impl_within.calls a2 0 11 true _ A6.out).mono ?_; rintro e w' ⟨rfl, ⟨nd, rfl⟩⟩; refine ⟨_, rfl, ?_⟩; (try (rw [Ae1 w23]; generalize hq_ : World.drewN w23 _ = w23; have n0_ : Aside0 (w23.heap[gb447]? = some (.cells #[.slice A0_0 l0_0.length c0_0] 26 (0, 0))) := ⟨by rw [← hq_]; exact (bq BK447.out)⟩; have n1_ : Aside0 (w23.heap[gb448]? = some (.cells #[.int .i64 0, .slice none 0 0] 37 (0, 0))) := ⟨by rw [← hq_]; exact (bq BK448.out)⟩; have n2_ : Aside0 (Below w.heap.size w w23) := ⟨by rw [← hq_]; exact (hs HB.out)⟩; clear BK447 BK448 HB hq_; have BK447 := n0_; have BK448 := n1_; have HB := n2_; clear n0_ n1_ n2_))) | (refine gl (some 22) Tryz.func34 rfl #[.slice A1 l1.length c1, .int .i64 a2] ?_; refine (impl_shifted.calls k _ _ l1 a2 t451 _ (cq (Kd.C_below HR1.out HB.out)) HC1.out A8.out).mono ?_; rintro e w24 ⟨v452, rfl, ho0, hb⟩; refine ⟨_, rfl, ?_⟩; have HO453 := am (Kd.R_lower ho0 (Aa8 (hs HB.out))); replace BK447 := bb BK447 hb; replace BK448 := bb BK448 hb; replace HB := sb HB hb; (try clear hb); (try clear hk); (try clear ho0); obtain ⟨Ao25, co25, rfl⟩ := Kd.R_slice HO453.out) | (refine gl (some 24) Tryz.func35 rfl #[.slice Ao25 t451.length co25] ?_; refine (slices_Min_int64_int64.calls _ _ t451 t454 _ (cq (Kd.R_reads' HO453.out).2.2) ((Kd.R_reads' HO453.out).2.1) A9.out).mono ?_; rintro e w' ⟨rfl, ⟨nd, rfl⟩⟩; refine ⟨_, rfl, ?_⟩; (try (rw [Ae1 w24]; generalize hq_ : World.drewN w24 _ = w24; have n0_ : Aside0 (Kd.R (Kd.int .i64) 2 w24 w.heap.size (fun _ => True) (.slice Ao25 t451.length co25) t451) := ⟨by rw [← hq_]; exact (rq HO453.out)⟩; have n1_ : Aside0 (w24.heap[gb447]? = some (.cells #[.slice A0_0 l0_0.length c0_0] 26 (0, 0))) := ⟨by rw [← hq_]; exact (bq BK447.out)⟩; have n2_ : Aside0 (w24.heap[gb448]? = some (.cells #[.int .i64 0, .slice none 0 0] 37 (0, 0))) := ⟨by rw [← hq_]; exact (bq BK448.out)⟩; have n3_ : Aside0 (Below w.heap.size w w24) := ⟨by rw [← hq_]; exact (hs HB.out)⟩; clear HO453 BK447 BK448 HB hq_; have HO453 := n0_; have BK447 := n1_; have BK448 := n2_; have HB := n3_; clear n0_ n1_ n2_ n3_)); have hcz26_0 : w24.cell? ⟨gb448, 0, none⟩ = some (.int .i64 0) := (Aa0 BK448.out 0).trans rfl; have hcz26_1 : w24.cell? ⟨gb448, 1, none⟩ = some (.slice none 0 0) := (Aa0 BK448.out 1).trans rfl; have hfz26_0 := Aa1 BK448.out 0; have hfz26_1 := Aa1 BK448.out 1))
    refine bodyPost_ret (results_cell_row rfl _ _ gb448 37 #[.int .i64 0, .slice Ao25 t451.length co25] (0, 0) _ rfl (by refine bq ?_; refine Aa6 (cs := #[.int .i64 0, .slice none 0 0]) ?_ 1 _ rfl; refine bq ?_; refine Aa6 (cs := #[.int .i64 0, .slice none 0 0]) ?_ 0 _ rfl; refine bq ?_; exact BK448.out) Tryz.underlying37 rfl (by kernel_rfl)) rfl ?_
    exact ⟨_, er, rq (Kd.R_mono (Kd.R_far (p := ⟨gb448, 1, none⟩) (Kd.R_far (p := ⟨gb448, 0, none⟩) (Kd.R_types HO453.out BK448.out (by decide)) (fun _ hk => hk.2) (.int .i64 0)) (fun _ hk => hk.2) (.slice Ao25 t451.length co25)) (fun _ hk => trivial)), hs HB.out⟩
  ·replace c7 := Bool.eq_false_iff.mpr c7
   subst c7
   rw [if_neg (show ¬ (false = true) by decide)] at H
   simp only [Option.some.injEq, Prod.mk.injEq] at H
   obtain ⟨rfl, rfl⟩ := H
   go_enter Tryz.func10, Tryz.ntmps10
   go_wp2_with (first | (refine bx 3 rfl #[.slice A0_0 l0_0.length c0_0] 26 ?_; intro gb447 hg w27 hbox hb; have BK447 := am (hbox); have GW447 := am (bz hg (hq HB.out)); replace HB := sb HB hb; have GE447 := GW447; clear hb hbox hg) | (refine bx 6 rfl #[.int .i64 0, .slice none 0 0] 37 ?_; intro gb448 hg w28 hbox hb; have BK448 := am (hbox); have GW448 := am (bz hg (hs HB.out)); replace HB := sb HB hb; have GE448 := GW448; have NB447_448 := nl hg BK447; have NB448_447 := ng hg BK447; replace BK447 := bb BK447 hb; clear hb hbox hg; have hnb29 := NB447_448.out; have hnc29 := NB448_447.out; have hcz30_0 : w28.cell? ⟨gb447, 0, none⟩ = some (.slice A0_0 l0_0.length c0_0) := (Aa0 BK447.out 0).trans rfl; have hfz30_0 := Aa1 BK447.out 0) | (refine gl (some 11) Tryz.func28 rfl #[.agg #[.slice A0_0 l0_0.length c0_0], .slice A1 l1.length c1] ?_; refine (impl_TermFault.calls k _ _ l0_0 _ _ l1 t449 _ (cq (Kd.C_below HR0_0.out HB.out)) HC0_0.out (cq (Kd.C_below HR1.out HB.out)) HC1.out A4.out).mono ?_; rintro e w31 ⟨rfl, hb⟩; refine ⟨_, rfl, ?_⟩; replace BK447 := bb BK447 hb; replace BK448 := bb BK448 hb; replace HB := sb HB hb; (try clear hb); (try clear hk)) | (refine gl (some 17) Tryz.func33 rfl #[.int .i64 a2, .int .i64 0, .int .i64 11] ?_; refine (impl_within.calls a2 0 11 false _ A6.out).mono ?_; rintro e w' ⟨rfl, ⟨nd, rfl⟩⟩; refine ⟨_, rfl, ?_⟩; (try (rw [Ae1 w31]; generalize hq_ : World.drewN w31 _ = w31; have n0_ : Aside0 (w31.heap[gb447]? = some (.cells #[.slice A0_0 l0_0.length c0_0] 26 (0, 0))) := ⟨by rw [← hq_]; exact (bq BK447.out)⟩; have n1_ : Aside0 (w31.heap[gb448]? = some (.cells #[.int .i64 0, .slice none 0 0] 37 (0, 0))) := ⟨by rw [← hq_]; exact (bq BK448.out)⟩; have n2_ : Aside0 (Below w.heap.size w w31) := ⟨by rw [← hq_]; exact (hs HB.out)⟩; clear BK447 BK448 HB hq_; have BK447 := n0_; have BK448 := n1_; have HB := n2_; clear n0_ n1_ n2_)); have hcz32_0 : w31.cell? ⟨gb448, 0, none⟩ = some (.int .i64 0) := (Aa0 BK448.out 0).trans rfl; have hcz32_1 : w31.cell? ⟨gb448, 1, none⟩ = some (.slice none 0 0) := (Aa0 BK448.out 1).trans rfl; have hfz32_0 := Aa1 BK448.out 0; have hfz32_1 := Aa1 BK448.out 1))
   refine bodyPost_ret (results_cell_row rfl _ _ gb448 37 #[.int .i64 3, .slice none 0 0] (0, 0) _ rfl (by refine bq ?_; refine Aa6 (cs := #[.int .i64 3, .slice none 0 0]) ?_ 1 _ rfl; refine bq ?_; refine Aa6 (cs := #[.int .i64 0, .slice none 0 0]) ?_ 0 _ rfl; refine bq ?_; exact BK448.out) Tryz.underlying37 rfl (by kernel_rfl)) rfl ?_
   exact ⟨_, er, by first | exact Kd.R_nil _ _ _ _ _ | exact Kd.N_nil _ _ _ _ _ | exact Kd.V_nil _ _ _ _ _ | exact Kd.Q_nil _ _ _ _ _ | exact Kd.S_nil _ _ _ _ _, hs HB.out⟩
 ·rw [if_neg c5] at H
  obtain ⟨c5b0, c5b1⟩ := bqf c5
  simp only [Option.some.injEq, Prod.mk.injEq] at H
  obtain ⟨rfl, rfl⟩ := H
  go_enter Tryz.func10, Tryz.ntmps10
  go_wp2_with (first | (refine bx 3 rfl #[.slice A0_0 l0_0.length c0_0] 26 ?_; intro gb447 hg w33 hbox hb; have BK447 := am (hbox); have GW447 := am (bz hg (hq HB.out)); replace HB := sb HB hb; have GE447 := GW447; clear hb hbox hg) | (refine bx 6 rfl #[.int .i64 0, .slice none 0 0] 37 ?_; intro gb448 hg w34 hbox hb; have BK448 := am (hbox); have GW448 := am (bz hg (hs HB.out)); replace HB := sb HB hb; have GE448 := GW448; have NB447_448 := nl hg BK447; have NB448_447 := ng hg BK447; replace BK447 := bb BK447 hb; clear hb hbox hg; have hnb35 := NB447_448.out; have hnc35 := NB448_447.out; have hcz36_0 : w34.cell? ⟨gb447, 0, none⟩ = some (.slice A0_0 l0_0.length c0_0) := (Aa0 BK447.out 0).trans rfl; have hfz36_0 := Aa1 BK447.out 0) | (refine gl (some 11) Tryz.func28 rfl #[.agg #[.slice A0_0 l0_0.length c0_0], .slice A1 l1.length c1] ?_; refine (impl_TermFault.calls k _ _ l0_0 _ _ l1 t449 _ (cq (Kd.C_below HR0_0.out HB.out)) HC0_0.out (cq (Kd.C_below HR1.out HB.out)) HC1.out A4.out).mono ?_; rintro e w37 ⟨rfl, hb⟩; refine ⟨_, rfl, ?_⟩; replace BK447 := bb BK447 hb; replace BK448 := bb BK448 hb; replace HB := sb HB hb; (try clear hb); (try clear hk); have hcz38_0 : w37.cell? ⟨gb448, 0, none⟩ = some (.int .i64 0) := (Aa0 BK448.out 0).trans rfl; have hcz38_1 : w37.cell? ⟨gb448, 1, none⟩ = some (.slice none 0 0) := (Aa0 BK448.out 1).trans rfl; have hfz38_0 := Aa1 BK448.out 0; have hfz38_1 := Aa1 BK448.out 1))
  refine bodyPost_ret (results_cell_row rfl _ _ gb448 37 #[.int .i64 t449, .slice none 0 0] (0, 0) _ rfl (by refine bq ?_; refine Aa6 (cs := #[.int .i64 t449, .slice none 0 0]) ?_ 1 _ rfl; refine bq ?_; refine Aa6 (cs := #[.int .i64 0, .slice none 0 0]) ?_ 0 _ rfl; refine bq ?_; exact BK448.out) Tryz.underlying37 rfl (by kernel_rfl)) rfl ?_
  exact ⟨_, er, by first | exact Kd.R_nil _ _ _ _ _ | exact Kd.N_nil _ _ _ _ _ | exact Kd.V_nil _ _ _ _ _ | exact Kd.Q_nil _ _ _ _ _ | exact Kd.S_nil _ _ _ _ _, hs HB.out⟩
def slices_Sort_int64_int64.f (l0 : List Int) : Option (List Int) := if l0.length < 4611686018427387904 then some (l0.mergeSort fun x y => decide (x ≤ y)) else none
theorem slices_Sort_int64_int64.calls (P0_ : Nat → Prop) (u9000_ : Value) (l0 : List Int) (r : List Int) (w0 w : World) (hB : Below w0.heap.size w0 w) (ho0 : Kd.R (Kd.int .i64) 2 w w0.heap.size P0_ u9000_ l0) (h : slices_Sort_int64_int64.f l0 = some r) :
  Calls Tryz.prog 71 #[u9000_] w fun e w' => e = .returned (.tuple #[]) ∧ Kd.R (Kd.int .i64) 2 w' w0.heap.size (fun k_ => (P0_ k_ ∨ w.heap.size ≤ k_)) u9000_ r ∧ Below w0.heap.size w0 w' ∧ Al7 w w' (fun k_ => P0_ k_) := by
 unfold slices_Sort_int64_int64.f at h
 by_cases h63 : l0.length < 4611686018427387904
 case neg => rw [if_neg h63] at h; cases h
 rw [if_pos h63] at h
 obtain rfl := Option.some.inj h
 have hown : w.ownsRow w0.heap.size 2 1 u9000_ l0.length (l0.map (Value.int .i64)) := Kd.own_of_R ho0
 rcases hown.2 with ⟨rfl, hn⟩ | ⟨g, cap, cur, rfl, hbase, hg, hnc, hcap, hsz, htk⟩
 ·obtain rfl : l0 = [] := List.eq_nil_of_length_eq_zero hn
  refine (AnyM.slices_Sort_int_none Shelf.laysSlLaysM5 none 0 w).mono fun e w' hw => ?_
  obtain ⟨he, rfl⟩ := hw
  exact ⟨he, by rw [List.mergeSort_nil]; exact Kd.R_nil _ _ _ _ _, hB, Al7.refl _ _⟩
 ·have hb : g < w.heap.size := (Array.getElem?_eq_some_iff.1 hg).1
  refine (AnyM.slices_Sort_int Shelf.laysSlLaysM5 g 0 cap l0 w (holds_of_blockI hg (by simpa using htk)) hb h63).mono fun e w' hw => ?_
  obtain ⟨he, n, os, rfl⟩ := hw
  have hl : (l0.mergeSort fun x y => decide (x ≤ y)).length = l0.length := List.length_mergeSort l0
  have hR := ownsRow_sortedI (n := n) (os := os) hl hbase hg hnc hcap hsz
  rw [← hl] at hR
  have hgr := grownBy_sortedI (w := w) (g := g) (n := n) (os := os) (l0.mergeSort fun x y => decide (x ≤ y)).toArray
  refine ⟨he, ?_, hB.grown hgr hB.size (fun k hk => ?_), Al7.of_grown (S := fun k_ => P0_ k_) hgr (Al7.refl _ _) (fun k hk => .inl ?_)⟩
  ·rw [hl] at hR
   refine Kd.R_of_own (h1 := fun _ => rfl) ?_ (fun k hk => .inl (ho0.1 k hk))
   rw [hl]
   exact hR
  ·injection hk with hk
   omega
  ·injection hk with hk
   subst hk
   exact ho0.1 _ rfl
def slices_Compact_int64_int64.f (l0 : List Int) : Option (List Int) := if l0.length ≤ 9223372036854775807 ∧ (Lib.compact l0).length ≤ l0.length then some (Lib.compact l0) else none
theorem slices_Compact_int64_int64.calls (P0_ : Nat → Prop) (u9000_ : Value) (l0 : List Int) (r : List Int) (w0 w : World) (hB : Below w0.heap.size w0 w) (ho0 : Kd.R (Kd.int .i64) 2 w w0.heap.size P0_ u9000_ l0) (h : slices_Compact_int64_int64.f l0 = some r) :
  Calls Tryz.prog 72 #[u9000_] w fun e w' => ∃ v0_ : Value, e = .returned (v0_) ∧ Kd.R (Kd.int .i64) 2 w' w0.heap.size (fun k_ => (P0_ k_ ∨ w.heap.size ≤ k_)) v0_ r ∧ Below w0.heap.size w0 w' ∧ Al7 w w' (fun k_ => P0_ k_) := by
 unfold slices_Compact_int64_int64.f at h
 by_cases h63 : l0.length ≤ 9223372036854775807 ∧ (Lib.compact l0).length ≤ l0.length
 case neg => rw [if_neg h63] at h; cases h
 rw [if_pos h63] at h
 obtain rfl := Option.some.inj h
 have hown : w.ownsRow w0.heap.size 2 1 u9000_ l0.length (l0.map (Value.int .i64)) := Kd.own_of_R ho0
 rcases hown.2 with ⟨rfl, hn⟩ | ⟨g, cap, cur, rfl, hbase, hg, hnc, hcap, hsz, htk⟩
 ·obtain rfl : l0 = [] := List.eq_nil_of_length_eq_zero hn
  refine (AnyG.slices_Compact_int_empty Shelf.laysSlLaysN43 none 0 w).mono fun e w' hw => ?_
  obtain ⟨he, rfl⟩ := hw
  exact ⟨_, he, Kd.R_nil _ _ _ _ _, hB, Al7.refl _ _⟩
 ·refine (AnyG.slices_Compact_int Shelf.laysSlLaysN43 g 0 cap l0 w (holds_of_blockI hg (by simpa using htk)) h63.1 hnc).mono fun e w' hw => ?_
  obtain ⟨he, q, rfl⟩ := hw
  have hl : (Lib.compact l0 ++ List.replicate (l0.length - (Lib.compact l0).length) 0).length = l0.length := by
   rw [List.length_append, List.length_replicate]; omega
  have hR := Lib.ownsRow_putRow (q := q) (k := (Lib.compact l0).length) hown hl h63.2
  rw [List.take_left' rfl] at hR
  have hgr : w.grownBy (Sort.putRow (Value.int .i64) (Sort.ahead w q) g 0 (Lib.compact l0 ++ List.replicate (l0.length - (Lib.compact l0).length) 0).toArray) (some g) := by
   have h0 := grownBy_sortedI (w := w) (g := g) (n := q) (os := #[]) (Lib.compact l0 ++ List.replicate (l0.length - (Lib.compact l0).length) 0).toArray
   rwa [Sort.grow_empty] at h0
  refine ⟨_, he, Kd.R_of_own (h1 := fun _ => rfl) hR (fun k hk => .inl ?_), hB.grown hgr hB.size (fun k hk => ?_), Al7.of_grown (S := fun k_ => P0_ k_) hgr (Al7.refl _ _) (fun k hk => .inl ?_)⟩
  ·exact ho0.1 k (by simpa [Value.ownBlock] using hk)
  ·injection hk with hk
   omega
  ·injection hk with hk
   subst hk
   exact ho0.1 _ rfl
mutual
def impl_varsOf.l0 : Nat → List Int → List (List Int) → Int → Int → Option (List Int)
 | 0, _, _, _, _ => none
 | k + 1, x3, x9, x10, x11 => if x11 < x10 then (if 0 ≤ x11 then (if x11 < (x9.length : Int) then (impl_varsOf.l1 k x3 x9 x10 x11 (Ak6 x9 x11) ((Ak6 x9 x11).length : Int) 0) else (none)) else (none)) else ((slices_Sort_int64_int64.f x3).bind fun t458 => ((slices_Compact_int64_int64.f t458).bind fun t459 => (some t459)))
def impl_varsOf.l1 : Nat → List Int → List (List Int) → Int → Int → List Int → Int → Int → Option (List Int)
 | 0, _, _, _, _, _, _, _ => none
 | k + 1, x3, x9, x10, x11, x15, x16, x17 => if x17 < x16 then (if 0 ≤ x17 then (if x17 < (x15.length : Int) then (if (rd x15 x17) < 0 then (if x3.length < 17592186044416 then (impl_varsOf.l1 k (x3 ++ [wrap64 ((-1) - (rd x15 x17))]) x9 x10 x11 x15 x16 (wrap64 (x17 + 1))) else (none)) else (impl_varsOf.l1 k x3 x9 x10 x11 x15 x16 (wrap64 (x17 + 1)))) else (none)) else (none)) else (impl_varsOf.l0 k x3 x9 x10 (wrap64 (x11 + 1)))
end
def impl_varsOf.f (k : Nat) (l0 : List (List Int)) : Option (List Int) := impl_varsOf.l0 k (([] : List Int)) l0 (l0.length : Int) 0
set_option maxHeartbeats 8000000 in
set_option maxRecDepth 100000 in
theorem impl_varsOf.calls (k : Nat) (A0 : Option Addr) (c0 : Nat) (l0 : List (List Int)) (r : List Int) (w : World) (hr0 : Kd.C (Kd.slice 2 (Kd.int .i64)) w A0 l0.length l0) (hc0 : l0.length ≤ c0) (h : impl_varsOf.f k l0 = some r) :
  Calls Tryz.prog 37 #[.slice A0 l0.length c0] w fun e w' => ∃ v0_ : Value, e = .returned (v0_) ∧ Kd.R (Kd.int .i64) 2 w' w.heap.size (fun _ => True) v0_ r ∧ Below w.heap.size w w' := by
 have HR0 := am hr0
 have HC0 := am hc0
 clear hr0 hc0
 have HB := am (Below.refl w.heap.size w)
 have H : (impl_varsOf.l0 k (([] : List Int)) l0 (l0.length : Int) 0) = some r := h
 clear h
 obtain ⟨y455, hy455⟩ : ∃ y_ : List Int, y_ = (([] : List Int)) := ⟨_, rfl⟩
 replace H : (impl_varsOf.l0 k y455 l0 (l0.length : Int) 0) = some r := by first | (rw [hy455]; with_reducible exact H) | (have H2_ := (Option.bind_some _ _).symm.trans H; rw [hy455]; with_reducible exact H2_) | (have H2_ := (Option.bind_some _ _).symm.trans H; with_reducible exact H2_) | with_reducible exact H | (rw [hy455]; exact H) | exact H
 have Ny455 := am hy455
 clear hy455
 have H' := am H
 clear H
 go_enter Tryz.func37, Tryz.ntmps37
 go_wp2_with (first | (refine rl 8 rfl 2 [] ?_; intro v456 w2 ho3 hb hg_ hnew_; clear hg_ hnew_; (first | rw [← Ny455.out] at ho3 | (simp only [Int.reduceToNat] at ho3; rw [← Ny455.out] at ho3)); have HO457 := am (Kd.R_lower ho3 (Aa8 (hq HB.out))); replace HB := sb HB hb; clear hb ho3))
 go_loopg [3, 11] k (fun kq v3 v11 w' => ∃ (x3_1 : List Int) (x11_1 : Int), v11 = .int .i64 x11_1 ∧ Aside0 (impl_varsOf.l0 kq x3_1 l0 (l0.length : Int) x11_1 = some r) ∧ Aside0 (kq ≤ k) ∧ Aside0 (Kd.R (Kd.int .i64) 2 w' w.heap.size (fun _ => True) v3 x3_1) ∧ Aside0 (Below w.heap.size w w'))
 case atStart => exact ⟨(y455), (0), et, H', ⟨Nat.le_refl _⟩, ⟨rq HO457.out⟩, ⟨hq HB.out⟩⟩
 case round =>
  clear H'
  obtain ⟨x3_1, x11_1, rfl, HA, HK1, HO_3, HB⟩ := hrel
  cases gk with
  | zero => exact absurd HA.out (by simp [impl_varsOf.l0])
  | succ k1 =>
   have H := HA.out
   clear HA
   simp only [impl_varsOf.l0] at H
   by_cases c4 : x11_1 < (l0.length : Int)
   ·rw [if_pos c4] at H
    have c4b0 : decide (x11_1 < (l0.length : Int)) = true := decide_eq_true c4
    clear c4
    obtain ⟨c5b0, H⟩ := ife H
    obtain ⟨c6b0, H⟩ := ife H
    have H' := am H
    clear H
    have p462 : 0 ≤ (x11_1 : Int) := od
    have q462 : x11_1 < (l0.length : Int) := od
    obtain ⟨ad462, A462_0, c462_0, e462, hx462_0, hl462_0, hi462_0⟩ := at_L6 HR0.out x11_1 p462 q462
    cases e462
    replace hx462_0 := cz HB.out hx462_0
    have HR462_0 := am hi462_0
    have HC462_0 := am hl462_0
    clear hi462_0 hl462_0
    replace p462 := eq_true p462
    replace q462 := eq_true q462
    go_wp2
    go_loopg [3, 17] k1 (fun kq v3 v17 w' => ∃ (x3_2 : List Int) (x17_2 : Int), v17 = .int .i64 x17_2 ∧ Aside0 (impl_varsOf.l1 kq x3_2 l0 (l0.length : Int) x11_1 (Ak6 l0 x11_1) ((Ak6 l0 x11_1).length : Int) x17_2 = some r) ∧ Aside0 (kq ≤ k1) ∧ Aside0 (Kd.R (Kd.int .i64) 2 w' w.heap.size (fun _ => True) v3 x3_2) ∧ Aside0 (Below w.heap.size w w'))
    case atStart => exact ⟨(x3_1), (0), et, H', ⟨Nat.le_refl _⟩, ⟨rq HO_3.out⟩, ⟨hq HB.out⟩⟩
    case round =>
     clear H'
     try clear c4; try clear c4b0; try clear c5b0; try clear c6b0; try clear hx462_0; try clear p462; try clear q462
     obtain ⟨x3_2, x17_2, rfl, HA, HK2, HO_3, HB⟩ := hrel
     cases gk with
     | zero => exact absurd HA.out (by simp [impl_varsOf.l1])
     | succ k2 =>
      have H := HA.out
      clear HA
      simp only [impl_varsOf.l1] at H
      by_cases c7 : x17_2 < ((Ak6 l0 x11_1).length : Int)
      ·rw [if_pos c7] at H
       have c7b0 : decide (x17_2 < ((Ak6 l0 x11_1).length : Int)) = true := decide_eq_true c7
       clear c7
       obtain ⟨c8b0, H⟩ := ife H
       obtain ⟨c9b0, H⟩ := ife H
       by_cases c10 : (rd (Ak6 l0 x11_1) x17_2) < 0
       ·rw [if_pos c10] at H
        have c10b0 : decide ((rd (Ak6 l0 x11_1) x17_2) < 0) = true := decide_eq_true c10
        clear c10
        obtain ⟨c11, H⟩ := ifs H
        have LMc11 := am c11
        clear c11
        obtain ⟨y464, hy464⟩ : ∃ y_ : List Int, y_ = (x3_2 ++ [wrap64 ((-1) - (rd (Ak6 l0 x11_1) x17_2))]) := ⟨_, rfl⟩
        replace H : (impl_varsOf.l1 k2 y464 l0 (l0.length : Int) x11_1 (Ak6 l0 x11_1) ((Ak6 l0 x11_1).length : Int) (wrap64 (x17_2 + 1))) = some r := by first | (rw [hy464]; with_reducible exact H) | (have H2_ := (Option.bind_some _ _).symm.trans H; rw [hy464]; with_reducible exact H2_) | (have H2_ := (Option.bind_some _ _).symm.trans H; with_reducible exact H2_) | with_reducible exact H | (rw [hy464]; exact H) | exact H
        have Ny464 := am hy464
        clear hy464
        have H' := am H
        clear H
        have p463 : 0 ≤ (x17_2 : Int) := od
        have q463 : x17_2 < ((Ak6 l0 x11_1).length : Int) := od
        obtain ⟨ad463, e463, hx463_0⟩ := Kd.at_int HR462_0.out x17_2 p463 q463
        cases e463
        replace hx463_0 := cz HB.out hx463_0
        replace p463 := eq_true p463
        replace q463 := eq_true q463
        go_wp2_with (first | ((with_reducible refine Ae8 (b := .append) (xs := #[.tmp 23, .tmp 26]) rfl ?_); at_builtin; refine Kd.R_append (Kd.int .i64) (w0 := w) w.heap.size rfl (.tmp 23) (.tmp 26) 27 2 (.int .i64 0) 8 rfl Tryz.underlying27 An3 rfl (by decide) (by omega) u3 x3_2 (wrap64 ((-1) - (rd (Ak6 l0 x11_1) x17_2))) [.int .i64 (wrap64 ((-1) - (rd (Ak6 l0 x11_1) x17_2)))] (fun _ => True) (fun _ => False) rfl rfl ?aP (fun _ hk => hk.elim) ?aF ?aO ?aB ?aS ?aL ?_; (case aP => exact rfl); (case aB => exact (hq HB.out)); (case aF => exact (fun _ _ => trivial)); (case aO => exact (rq HO_3.out)); (case aS => exact (Aa8 (hq HB.out))); (case aL => have := LMc11.out; omega); intro v465 w12 ho hb hg hat; rw [← Ny464.out] at ho; replace HB := am (hb); have HO466 := am (ho); clear HO_3; clear ho hb hg hat))
        go_roundg k2
        case measure => have := HK1.out; have := HK2.out; omega
        case rel => exact ⟨(y464), (wrap64 (x17_2 + 1)), et, H', ⟨by have := HK1.out; have := HK2.out; omega⟩, ⟨rq HO466.out⟩, ⟨hq HB.out⟩⟩
       ·rw [if_neg c10] at H
        have c10b0 : decide ((rd (Ak6 l0 x11_1) x17_2) < 0) = false := decide_eq_false c10
        clear c10
        have H' := am H
        clear H
        have p463 : 0 ≤ (x17_2 : Int) := od
        have q463 : x17_2 < ((Ak6 l0 x11_1).length : Int) := od
        obtain ⟨ad463, e463, hx463_0⟩ := Kd.at_int HR462_0.out x17_2 p463 q463
        cases e463
        replace hx463_0 := cz HB.out hx463_0
        replace p463 := eq_true p463
        replace q463 := eq_true q463
        go_wp2
        go_roundg k2
        case measure => have := HK1.out; have := HK2.out; omega
        case rel => exact ⟨(x3_2), (wrap64 (x17_2 + 1)), et, H', ⟨by have := HK1.out; have := HK2.out; omega⟩, ⟨rq HO_3.out⟩, ⟨hq HB.out⟩⟩
      ·rw [if_neg c7] at H
       have c7b0 : decide (x17_2 < ((Ak6 l0 x11_1).length : Int)) = false := decide_eq_false c7
       clear c7
       have H' := am H
       clear H
       go_wp2
       go_roundg k2
       case measure => have := HK1.out; have := HK2.out; omega
       case rel => exact ⟨(x3_2), (wrap64 (x11_1 + 1)), et, H', ⟨by have := HK1.out; have := HK2.out; omega⟩, ⟨rq HO_3.out⟩, ⟨hq HB.out⟩⟩
   ·rw [if_neg c4] at H
    have c4b0 : decide (x11_1 < (l0.length : Int)) = false := decide_eq_false c4
    clear c4
    obtain ⟨t458, A13, H⟩ := ob H
    try dsimp only at H
    obtain ⟨t459, A14, H⟩ := ob H
    try dsimp only at H
    obtain rfl := Option.some.inj H
    obtain ⟨Ao15, co15, eo15⟩ := Kd.R_slice HO_3.out
    subst eo15
    go_wp2_with (first | (refine gl (some 31) Tryz.func71 rfl #[.slice Ao15 x3_1.length co15] ?_; refine (slices_Sort_int64_int64.calls (fun k_ => some k_ = (.slice Ao15 x3_1.length co15 : Value).ownBlock) (.slice Ao15 x3_1.length co15) x3_1 t458 w _ (hq HB.out) (Kd.R_tight rfl HO_3.out) A13.out).mono ?_; rintro e w16 ⟨rfl, hy0, hb, hkp⟩; refine ⟨_, rfl, ?_⟩; replace HO_3 := am (Kd.R_reok rfl hy0 (fun k_ e_ => HO_3.out.1 k_ e_)); replace HB := am (hb); (try clear hb); (try clear hkp); (try clear hy0)) | (refine gl (some 33) Tryz.func72 rfl #[.slice Ao15 x3_1.length co15] ?_; refine (slices_Compact_int64_int64.calls (fun k_ => some k_ = (.slice Ao15 x3_1.length co15 : Value).ownBlock) (.slice Ao15 x3_1.length co15) t458 t459 w _ (hq HB.out) (Kd.R_tight rfl HO_3.out) A14.out).mono ?_; rintro e w17 ⟨v460, rfl, ho0, hb, hkp⟩; refine ⟨_, rfl, ?_⟩; have HO461 := am (Kd.R_mono (ok' := fun k_ => True) ho0 (fun k_ hk_ => trivial)); replace HB := am (hb); clear HO_3; (try clear hb); (try clear hkp); (try clear ho0)))
    go_ret
    exact ⟨_, er, rq HO461.out, hq HB.out⟩
def impl_EquationFault_1.f (a0 : Int) : Option (Bool) := some (decide (a0 ≥ 6))
set_option maxHeartbeats 8000000 in
set_option maxRecDepth 100000 in
theorem impl_EquationFault_1.calls (a0 : Int) (r : Bool) (w : World) (h : impl_EquationFault_1.f a0 = some r) :
  Calls Tryz.prog 38 #[.int .i64 a0] w fun e w' => e = .returned (.bool r) ∧ Drawn0 w w' := by
 have H : (some (decide (a0 ≥ 6))) = some r := h
 clear h
 obtain rfl := Option.some.inj H
 go_enter Tryz.func38, Tryz.ntmps38
 go_wp2
 go_ret
 exact ⟨et, by repeat (first | exact Drawn0.refl _ | apply Drawn0.step)⟩
end Go.Proofs.YtbdpnkpienpnaaaGreatDoor.P
namespace Go.Proofs.YtbdpnkpienpnaaaGreatDoor.P
open Go.RowKit Go.Proofs.YtbdpnkpienpnaaaGreatDoorW.PrintWords Go.Proofs.YtbdpnkpienpnaaaGreatDoorW.PrintLast Go.Proofs.YtbdpnkpienpnaaaGreatDoorW.PrintMore
attribute [local go_sem] Ae7 Ae6 Af7 Af8 Ad8 Ad9 Ae2 Ae4   -- for this text's walks alone
set_option linter.unusedVariables false
set_option linter.unusedSimpArgs false
def slices_IndexFunc_int64_int64_impl_EquationFault_1.l0 : Nat → List Int → Int → Int → Option (Int)
 | 0, _, _, _ => none
 | k + 1, x0, x7, x8 => if x8 < x7 then (if 0 ≤ x8 then (if x8 < (x0.length : Int) then ((impl_EquationFault_1.f (rd x0 x8)).bind fun t468 => (if t468 = true then (some x8) else (slices_IndexFunc_int64_int64_impl_EquationFault_1.l0 k x0 x7 (wrap64 (x8 + 1))))) else (none)) else (none)) else (some (-1))
def slices_IndexFunc_int64_int64_impl_EquationFault_1.f (k : Nat) (l0 : List Int)  : Option (Int) := slices_IndexFunc_int64_int64_impl_EquationFault_1.l0 k l0 (l0.length : Int) 0
set_option maxHeartbeats 8000000 in
set_option maxRecDepth 100000 in
theorem slices_IndexFunc_int64_int64_impl_EquationFault_1.calls (k : Nat) (A0 : Option Addr) (c0 : Nat) (l0 : List Int)  (r : Int) (w : World) (hr0 : Kd.C (Kd.int .i64) w A0 l0.length l0) (hc0 : l0.length ≤ c0) (h : slices_IndexFunc_int64_int64_impl_EquationFault_1.f k l0 = some r) :
  Calls Tryz.prog 70 #[.slice A0 l0.length c0, .func (.func 38) #[] #[]] w fun e w' => e = .returned (.int .i64 r) ∧ Below w.heap.size w w' := by
 have HR0 := am hr0
 have HC0 := am hc0
 clear hr0 hc0
 have HB := am (Below.refl w.heap.size w)
 have H : (slices_IndexFunc_int64_int64_impl_EquationFault_1.l0 k l0 (l0.length : Int) 0) = some r := h
 clear h
 have H' := am H
 clear H
 go_enter Tryz.func70, Tryz.ntmps70
 go_wp2
 go_loopg [8] k (fun kq v8 w' => ∃ (x8_1 : Int), v8 = .int .i64 x8_1 ∧ Aside0 (slices_IndexFunc_int64_int64_impl_EquationFault_1.l0 kq l0 (l0.length : Int) x8_1 = some r) ∧ Aside0 (kq ≤ k) ∧ Aside0 (Below w.heap.size w w'))
 case atStart => exact ⟨(0), et, H', ⟨Nat.le_refl _⟩, ⟨hq HB.out⟩⟩
 case round =>
  clear H'
  obtain ⟨x8_1, rfl, HA, HK1, HB⟩ := hrel
  cases gk with
  | zero => exact absurd HA.out (by simp [slices_IndexFunc_int64_int64_impl_EquationFault_1.l0])
  | succ k1 =>
   have H := HA.out
   clear HA
   simp only [slices_IndexFunc_int64_int64_impl_EquationFault_1.l0] at H
   by_cases c3 : x8_1 < (l0.length : Int)
   ·rw [if_pos c3] at H
    have c3b0 : decide (x8_1 < (l0.length : Int)) = true := decide_eq_true c3
    clear c3
    obtain ⟨c4b0, H⟩ := ife H
    obtain ⟨c5b0, H⟩ := ife H
    obtain ⟨t468, A6, H⟩ := ob H
    try dsimp only at H
    by_cases c7 : t468 = true
    ·subst c7
     rw [if_pos rfl] at H
     obtain rfl := Option.some.inj H
     have p467 : 0 ≤ (x8_1 : Int) := od
     have q467 : x8_1 < (l0.length : Int) := od
     obtain ⟨ad467, e467, hx467_0⟩ := Kd.at_int HR0.out x8_1 p467 q467
     cases e467
     replace hx467_0 := cz HB.out hx467_0
     replace p467 := eq_true p467
     replace q467 := eq_true q467
     go_wp2_with (first | ((first | (refine gl (some 16) Tryz.func38 rfl #[.int .i64 (rd l0 x8_1)] ?_) | ((with_reducible refine Af4 _ rfl ?_); refine An1 (some 16) rfl rfl Tryz.func38 (by kernel_rfl) rfl #[.int .i64 (rd l0 x8_1)] rfl rfl (by first | rfl | (simp <;> first | rfl | exact ⟨rfl, rfl⟩ | exact ⟨rfl, rfl, rfl⟩) | ((try simp only [List.map_toArray, List.map_cons, List.map_nil]); first | done | rfl | (simp only [List.length_drop, List.length_take]; rfl))) ?_)); refine (impl_EquationFault_1.calls (rd l0 x8_1) true _ A6.out).mono ?_; rintro e w' ⟨rfl, ⟨nd, rfl⟩⟩; refine ⟨_, rfl, ?_⟩))
     go_ret
     exact ⟨er, hq HB.out⟩
    ·replace c7 := Bool.eq_false_iff.mpr c7
     subst c7
     rw [if_neg (show ¬ (false = true) by decide)] at H
     have H' := am H
     clear H
     have p467 : 0 ≤ (x8_1 : Int) := od
     have q467 : x8_1 < (l0.length : Int) := od
     obtain ⟨ad467, e467, hx467_0⟩ := Kd.at_int HR0.out x8_1 p467 q467
     cases e467
     replace hx467_0 := cz HB.out hx467_0
     replace p467 := eq_true p467
     replace q467 := eq_true q467
     go_wp2_with (first | ((first | (refine gl (some 16) Tryz.func38 rfl #[.int .i64 (rd l0 x8_1)] ?_) | ((with_reducible refine Af4 _ rfl ?_); refine An1 (some 16) rfl rfl Tryz.func38 (by kernel_rfl) rfl #[.int .i64 (rd l0 x8_1)] rfl rfl (by first | rfl | (simp <;> first | rfl | exact ⟨rfl, rfl⟩ | exact ⟨rfl, rfl, rfl⟩) | ((try simp only [List.map_toArray, List.map_cons, List.map_nil]); first | done | rfl | (simp only [List.length_drop, List.length_take]; rfl))) ?_)); refine (impl_EquationFault_1.calls (rd l0 x8_1) false _ A6.out).mono ?_; rintro e w' ⟨rfl, ⟨nd, rfl⟩⟩; refine ⟨_, rfl, ?_⟩))
     go_roundg k1
     case measure => have := HK1.out; omega
     case rel => exact ⟨(wrap64 (x8_1 + 1)), et, H', ⟨by have := HK1.out; omega⟩, ⟨hq HB.out⟩⟩
   ·rw [if_neg c3] at H
    have c3b0 : decide (x8_1 < (l0.length : Int)) = false := decide_eq_false c3
    clear c3
    obtain rfl := Option.some.inj H
    go_wp2
    go_ret
    exact ⟨er, hq HB.out⟩
def slices_ContainsFunc_int64_int64_impl_EquationFault_1.f (k : Nat) (l0 : List Int)  : Option (Bool) := (slices_IndexFunc_int64_int64_impl_EquationFault_1.f k l0).bind fun t469 => (some (decide (t469 ≥ 0)))
set_option maxHeartbeats 8000000 in
set_option maxRecDepth 100000 in
theorem slices_ContainsFunc_int64_int64_impl_EquationFault_1.calls (k : Nat) (A0 : Option Addr) (c0 : Nat) (l0 : List Int)  (r : Bool) (w : World) (hr0 : Kd.C (Kd.int .i64) w A0 l0.length l0) (hc0 : l0.length ≤ c0) (h : slices_ContainsFunc_int64_int64_impl_EquationFault_1.f k l0 = some r) :
  Calls Tryz.prog 36 #[.slice A0 l0.length c0, .func (.func 38) #[] #[]] w fun e w' => e = .returned (.bool r) ∧ Below w.heap.size w w' := by
 have HR0 := am hr0
 have HC0 := am hc0
 clear hr0 hc0
 have HB := am (Below.refl w.heap.size w)
 have H : ((slices_IndexFunc_int64_int64_impl_EquationFault_1.f k l0).bind fun t469 => (some (decide (t469 ≥ 0)))) = some r := h
 clear h
 obtain ⟨t469, A3, H⟩ := ob H
 try dsimp only at H
 obtain rfl := Option.some.inj H
 go_enter Tryz.func36, Tryz.ntmps36
 go_wp2_with (first | (refine gl (some 7) Tryz.func70 rfl #[.slice A0 l0.length c0, .func (.func 38) #[] #[]] ?_; refine (slices_IndexFunc_int64_int64_impl_EquationFault_1.calls k _ _ l0  t469 _ (cq HR0.out) HC0.out A3.out).mono ?_; rintro e w4 ⟨rfl, hb⟩; refine ⟨_, rfl, ?_⟩; replace HB := sb HB hb; (try clear hb)))
 go_ret
 exact ⟨er, hq HB.out⟩
end Go.Proofs.YtbdpnkpienpnaaaGreatDoor.P
