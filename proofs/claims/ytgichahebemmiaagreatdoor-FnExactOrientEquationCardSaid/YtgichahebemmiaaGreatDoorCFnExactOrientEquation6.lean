/- A part of the proof of the law FnExactOrientEquation. -/
import Derived.Laws.StructEq
import Derived.Test.YtgichahebemmiaaGreatDoorCFnExactOrientEquation0
import Derived.Test.YtgichahebemmiaaGreatDoorCFnExactOrientEquation1
import Derived.Test.YtgichahebemmiaaGreatDoorCFnExactOrientEquation2
import Derived.Test.YtgichahebemmiaaGreatDoorCFnExactOrientEquation3
import Derived.Test.YtgichahebemmiaaGreatDoorCFnExactOrientEquation4
import Derived.Test.YtgichahebemmiaaGreatDoorCFnExactOrientEquation5
import Derived.Test.YtgichahebemmiaaGreatDoorCFnExactOrientEquation17
namespace Go.Proofs.YtgichahebemmiaaGreatDoor.P
open Go.RowKit Go.Proofs.YtgichahebemmiaaGreatDoorW.PrintWords Go.Proofs.YtgichahebemmiaaGreatDoorW.PrintLast Go.Proofs.YtgichahebemmiaaGreatDoorW.PrintMore
attribute [local go_sem] Ae7 Ae4 Af9 Ag0 Ad3 Ad2 Ae8 Ae5   -- for this text's walks alone
set_option linter.unusedVariables false
set_option linter.unusedSimpArgs false
def spec_OrientEquation.f (k : Nat) (l0_0 : List (S79)) (l1 : List Int) (l2_0 : List Int) (l2_1 : List Int) : Option (Int × List Int × List Int) := (spec_OrderFault.f k l0_0 l1).bind fun t223 => (if t223 = 0 then ((spec_l3Fault.f k [(⟨l0_0⟩ : S36)] l2_0).bind fun t224 => (if t224 = 0 then ((spec_l3Fault.f k [(⟨l0_0⟩ : S36)] l2_1).bind fun t225 => (if t225 = 0 then ((spec_l7Compare.f k [(⟨l0_0⟩ : S36)] l1 l2_0 l2_1).bind fun t226 => (if t226 = 1 then ((spec_l4Copy.f [(⟨l2_0, l2_1⟩ : S30)]).bind fun bt227 => (some (0, bt227.1, bt227.2))) else (if t226 = 2 then ((spec_l1Ints.f l2_1).bind fun t233 => ((spec_l1Ints.f l2_0).bind fun t236 => (some (0, t233, t236)))) else (some (10, ([] : List Int), ([] : List Int)))))) else (some (t225, ([] : List Int), ([] : List Int))))) else (some (t224, ([] : List Int), ([] : List Int))))) else (some (t223, ([] : List Int), ([] : List Int))))
def spec_OrientEquation.T14 : Bool × List (List Nat × List Nat) := (true, [([], []), ([0], [0]), ([1], [1]), ([], []), ([3], [3]), ([4, 2], [4]), ([2, 5], [2, 5]), ([6], [6]), ([7, 5, 0, 1, 2, 3, 4, 5, 6, 7], [7])])
def spec_OrientEquation.B14 : List Nat := [0, 1, 3, 0, 8, 31, 63, 127, 255]
theorem spec_OrientEquation.tab14 : Aj9 .any (Ak7 Tryz.f7 14) = spec_OrientEquation.T14 := by kernel_rfl
theorem spec_OrientEquation.bits14 : Ae6 spec_OrientEquation.T14.2 spec_OrientEquation.B14 = true := by kernel_rfl
set_option maxHeartbeats 8000000 in
set_option maxRecDepth 100000 in
theorem spec_OrientEquation.calls (k : Nat) (A0_0 : Option Addr) (c0_0 : Nat) (l0_0 : List (S79)) (A1 : Option Addr) (c1 : Nat) (l1 : List Int) (A2_0 : Option Addr) (c2_0 : Nat) (l2_0 : List Int) (A2_1 : Option Addr) (c2_1 : Nat) (l2_1 : List Int) (r1 : Int) (r2 : List Int) (r3 : List Int) (w : World) (hr0_0 : Kd.C k79 w A0_0 l0_0.length l0_0) (hc0_0 : l0_0.length ≤ c0_0) (hr1 : Kd.C (Kd.int .i64) w A1 l1.length l1) (hc1 : l1.length ≤ c1) (hr2_0 : Kd.C (Kd.int .i64) w A2_0 l2_0.length l2_0) (hc2_0 : l2_0.length ≤ c2_0) (hr2_1 : Kd.C (Kd.int .i64) w A2_1 l2_1.length l2_1) (hc2_1 : l2_1.length ≤ c2_1) (h : spec_OrientEquation.f k l0_0 l1 l2_0 l2_1 = some (r1, r2, r3)) :
  Calls Tryz.prog 7 #[.agg #[.slice A0_0 l0_0.length c0_0], .slice A1 l1.length c1, .agg #[.slice A2_0 l2_0.length c2_0, .slice A2_1 l2_1.length c2_1]] w fun e w' => ∃ v1_ v2_ : Value, e = .returned (.agg #[.int .i64 r1, v1_, v2_]) ∧ Kd.R (Kd.int .i64) 2 w' w.heap.size (fun k_ => some k_ ≠ (v2_ : Value).ownBlock) v1_ r2 ∧ Kd.R (Kd.int .i64) 2 w' w.heap.size (fun k_ => some k_ ≠ (v1_ : Value).ownBlock) v2_ r3 ∧ Below w.heap.size w w' := by
 have hu36 := Tryz.underlying36
 have hu30 := Tryz.underlying30
 have hu32 := Tryz.underlying32
 have HR0_0 := am hr0_0
 have HC0_0 := am hc0_0
 clear hr0_0 hc0_0
 have HR1 := am hr1
 have HC1 := am hc1
 clear hr1 hc1
 have HR2_0 := am hr2_0
 have HC2_0 := am hc2_0
 clear hr2_0 hc2_0
 have HR2_1 := am hr2_1
 have HC2_1 := am hc2_1
 clear hr2_1 hc2_1
 have HB := am (Below.refl w.heap.size w)
 have H : ((spec_OrderFault.f k l0_0 l1).bind fun t223 => (if t223 = 0 then ((spec_l3Fault.f k [(⟨l0_0⟩ : S36)] l2_0).bind fun t224 => (if t224 = 0 then ((spec_l3Fault.f k [(⟨l0_0⟩ : S36)] l2_1).bind fun t225 => (if t225 = 0 then ((spec_l7Compare.f k [(⟨l0_0⟩ : S36)] l1 l2_0 l2_1).bind fun t226 => (if t226 = 1 then ((spec_l4Copy.f [(⟨l2_0, l2_1⟩ : S30)]).bind fun bt227 => (some (0, bt227.1, bt227.2))) else (if t226 = 2 then ((spec_l1Ints.f l2_1).bind fun t233 => ((spec_l1Ints.f l2_0).bind fun t236 => (some (0, t233, t236)))) else (some (10, ([] : List Int), ([] : List Int)))))) else (some (t225, ([] : List Int), ([] : List Int))))) else (some (t224, ([] : List Int), ([] : List Int))))) else (some (t223, ([] : List Int), ([] : List Int))))) = some (r1, r2, r3) := h
 clear h
 obtain ⟨t223, A4, H⟩ := ob H
 try dsimp only at H
 by_cases c5 : t223 = 0
 ·rw [if_pos c5] at H
  obtain ⟨c5b0, c5b1⟩ := bqt c5; clear c5
  obtain ⟨t224, A6, H⟩ := ob H
  try dsimp only at H
  by_cases c7 : t224 = 0
  ·rw [if_pos c7] at H
   obtain ⟨c7b0, c7b1⟩ := bqt c7; clear c7
   obtain ⟨t225, A8, H⟩ := ob H
   try dsimp only at H
   by_cases c9 : t225 = 0
   ·rw [if_pos c9] at H
    obtain ⟨c9b0, c9b1⟩ := bqt c9; clear c9
    obtain ⟨t226, A10, H⟩ := ob H
    try dsimp only at H
    by_cases c11 : t226 = 1
    ·rw [if_pos c11] at H
     obtain ⟨c11b0, c11b1⟩ := bqt c11; clear c11
     obtain ⟨⟨t227, t230⟩, A12, H⟩ := ob H
     try dsimp only at H
     simp only [Option.some.injEq, Prod.mk.injEq] at H
     obtain ⟨rfl, rfl, rfl⟩ := H
     go_enter Tryz.func7, Tryz.ntmps7
     go_wp2_with (first | (refine bx 3 rfl #[.slice A0_0 l0_0.length c0_0] 36 ?_; intro gb220 hg w13 hbox hb; have BK220 := am (hbox); have GW220 := am (bz hg (hq HB.out)); replace HB := sb HB hb; have GE220 := GW220; clear hb hbox hg) | (refine bx 5 rfl #[.slice A2_0 l2_0.length c2_0, .slice A2_1 l2_1.length c2_1] 30 ?_; intro gb221 hg w14 hbox hb; have BK221 := am (hbox); have GW221 := am (bz hg (hs HB.out)); replace HB := sb HB hb; have GE221 := GW221; have NB220_221 := nl hg BK220; have NB221_220 := ng hg BK220; replace BK220 := bb BK220 hb; clear hb hbox hg) | (refine bx 6 rfl #[.int .i64 0, .slice none 0 0, .slice none 0 0] 32 ?_; intro gb222 hg w15 hbox hb; have BK222 := am (hbox); have GW222 := am (bz hg (hs HB.out)); replace HB := sb HB hb; have GE222 := GW222; have NB220_222 := nl hg BK220; have NB222_220 := ng hg BK220; replace BK220 := bb BK220 hb; have NB221_222 := nl hg BK221; have NB222_221 := ng hg BK221; replace BK221 := bb BK221 hb; clear hb hbox hg; have hnb16 := NB220_221.out; have hnc16 := NB221_220.out; have hnb17 := NB220_222.out; have hnc17 := NB222_220.out; have hcz18_0 : w15.cell? ⟨gb220, 0, none⟩ = some (.slice A0_0 l0_0.length c0_0) := (Aa0 BK220.out 0).trans rfl; have hfz18_0 := Aa1 BK220.out 0) | (refine gl (some 12) Tryz.func28 rfl #[.agg #[.slice A0_0 l0_0.length c0_0], .slice A1 l1.length c1] ?_; refine (spec_OrderFault.calls k _ _ l0_0 _ _ l1 t223 _ (cq (Kd.C_below HR0_0.out HB.out)) HC0_0.out (cq (Kd.C_below HR1.out HB.out)) HC1.out A4.out).mono ?_; rintro e w19 ⟨rfl, hb⟩; refine ⟨_, rfl, ?_⟩; replace BK220 := bb BK220 hb; replace BK221 := bb BK221 hb; replace BK222 := bb BK222 hb; replace HB := sb HB hb; (try clear hb); (try clear hk); have hnb20 := NB221_222.out; have hnc20 := NB222_221.out; have hcz21_0 : w19.cell? ⟨gb221, 0, none⟩ = some (.slice A2_0 l2_0.length c2_0) := (Aa0 BK221.out 0).trans rfl; have hcz21_1 : w19.cell? ⟨gb221, 1, none⟩ = some (.slice A2_1 l2_1.length c2_1) := (Aa0 BK221.out 1).trans rfl; have hfz21_0 := Aa1 BK221.out 0; have hfz21_1 := Aa1 BK221.out 1) | (refine gl (some 19) Tryz.func29 rfl #[.pointer (some ⟨gb220, 0, none⟩), .slice A2_0 l2_0.length c2_0] ?_; refine (spec_l3Fault.calls k _ [(⟨l0_0⟩ : S36)] _ _ l2_0 t224 _ (Ag4 (bq BK220.out) (cq (Kd.C_below HR0_0.out HB.out)) (by exact HC0_0.out)) (cq (Kd.C_below HR2_0.out HB.out)) HC2_0.out A6.out).mono ?_; rintro e w22 ⟨rfl, hb⟩; refine ⟨_, rfl, ?_⟩; replace BK220 := bb BK220 hb; replace BK221 := bb BK221 hb; replace BK222 := bb BK222 hb; replace HB := sb HB hb; (try clear hb); (try clear hk); have hcz23_0 : w22.cell? ⟨gb221, 0, none⟩ = some (.slice A2_0 l2_0.length c2_0) := (Aa0 BK221.out 0).trans rfl; have hcz23_1 : w22.cell? ⟨gb221, 1, none⟩ = some (.slice A2_1 l2_1.length c2_1) := (Aa0 BK221.out 1).trans rfl; have hfz23_0 := Aa1 BK221.out 0; have hfz23_1 := Aa1 BK221.out 1) | (refine gl (some 26) Tryz.func29 rfl #[.pointer (some ⟨gb220, 0, none⟩), .slice A2_1 l2_1.length c2_1] ?_; refine (spec_l3Fault.calls k _ [(⟨l0_0⟩ : S36)] _ _ l2_1 t225 _ (Ag4 (bq BK220.out) (cq (Kd.C_below HR0_0.out HB.out)) (by exact HC0_0.out)) (cq (Kd.C_below HR2_1.out HB.out)) HC2_1.out A8.out).mono ?_; rintro e w24 ⟨rfl, hb⟩; refine ⟨_, rfl, ?_⟩; replace BK220 := bb BK220 hb; replace BK221 := bb BK221 hb; replace BK222 := bb BK222 hb; replace HB := sb HB hb; (try clear hb); (try clear hk); have hcz25_0 : w24.cell? ⟨gb221, 0, none⟩ = some (.slice A2_0 l2_0.length c2_0) := (Aa0 BK221.out 0).trans rfl; have hcz25_1 : w24.cell? ⟨gb221, 1, none⟩ = some (.slice A2_1 l2_1.length c2_1) := (Aa0 BK221.out 1).trans rfl; have hfz25_0 := Aa1 BK221.out 0; have hfz25_1 := Aa1 BK221.out 1) | (refine gl (some 36) Tryz.func30 rfl #[.pointer (some ⟨gb220, 0, none⟩), .slice A1 l1.length c1, .slice A2_0 l2_0.length c2_0, .slice A2_1 l2_1.length c2_1] ?_; refine (spec_l7Compare.calls k _ [(⟨l0_0⟩ : S36)] _ _ l1 _ _ l2_0 _ _ l2_1 t226 _ (Ag4 (bq BK220.out) (cq (Kd.C_below HR0_0.out HB.out)) (by exact HC0_0.out)) (cq (Kd.C_below HR1.out HB.out)) HC1.out (cq (Kd.C_below HR2_0.out HB.out)) HC2_0.out (cq (Kd.C_below HR2_1.out HB.out)) HC2_1.out A10.out).mono ?_; rintro e w26 ⟨rfl, hb⟩; refine ⟨_, rfl, ?_⟩; replace BK220 := bb BK220 hb; replace BK221 := bb BK221 hb; replace BK222 := bb BK222 hb; replace HB := sb HB hb; (try clear hb); (try clear hk)) | (refine gl (some 39) Tryz.func31 rfl #[.pointer (some ⟨gb221, 0, none⟩)] ?_; refine (spec_l4Copy.calls _ [(⟨l2_0, l2_1⟩ : S30)] t227 t230 _ (k30_box (bq BK221.out) (cq (Kd.C_below HR2_0.out HB.out)) (by exact HC2_0.out) (cq (Kd.C_below HR2_1.out HB.out)) (by exact HC2_1.out)) A12.out).mono ?_; rintro e w27 ⟨v228, v231, rfl, ho0, ho1, hb⟩; refine ⟨_, rfl, ?_⟩; have HO229 := am (Kd.R_lower ho0 (Aa6 (hs HB.out))); have HO232 := am (Kd.R_lower ho1 (Aa6 (hs HB.out))); replace BK220 := bb BK220 hb; replace BK221 := bb BK221 hb; replace BK222 := bb BK222 hb; replace HB := sb HB hb; (try clear hb); (try clear hk); (try clear ho0); (try clear ho1); obtain ⟨Ao28, co28, rfl⟩ := Kd.R_slice HO232.out; obtain ⟨Ao29, co29, rfl⟩ := Kd.R_slice HO229.out; have hcz30_0 : w27.cell? ⟨gb222, 0, none⟩ = some (.int .i64 0) := (Aa0 BK222.out 0).trans rfl; have hcz30_1 : w27.cell? ⟨gb222, 1, none⟩ = some (.slice none 0 0) := (Aa0 BK222.out 1).trans rfl; have hcz30_2 : w27.cell? ⟨gb222, 2, none⟩ = some (.slice none 0 0) := (Aa0 BK222.out 2).trans rfl; have hfz30_0 := Aa1 BK222.out 0; have hfz30_1 := Aa1 BK222.out 1; have hfz30_2 := Aa1 BK222.out 2))
     refine bodyPost_ret (results_cell_row rfl _ _ gb222 32 #[.int .i64 0, .slice Ao29 t227.length co29, .slice Ao28 t230.length co28] (0, 0) _ rfl (by refine bq ?_; refine Ab4 (cs := #[.int .i64 0, .slice Ao29 t227.length co29, .slice none 0 0]) ?_ 2 _ rfl; refine bq ?_; refine Ab4 (cs := #[.int .i64 0, .slice none 0 0, .slice none 0 0]) ?_ 1 _ rfl; refine bq ?_; refine Ab4 (cs := #[.int .i64 0, .slice none 0 0, .slice none 0 0]) ?_ 0 _ rfl; refine bq ?_; exact BK222.out) Tryz.underlying32 rfl (by kernel_rfl)) rfl ?_
     exact ⟨_, _, er, rq (Kd.R_mono (Kd.R_far (p := ⟨gb222, 2, none⟩) (Kd.R_far (p := ⟨gb222, 1, none⟩) (Kd.R_far (p := ⟨gb222, 0, none⟩) (Kd.R_types HO229.out BK222.out (by decide)) (fun _ hk => hk.2) (.int .i64 0)) (fun _ hk => hk.2) (.slice Ao29 t227.length co29)) (fun _ hk => hk.2) (.slice Ao28 t230.length co28)) (fun _ hk => hk.1)), rq (Kd.R_mono (Kd.R_far (p := ⟨gb222, 2, none⟩) (Kd.R_far (p := ⟨gb222, 1, none⟩) (Kd.R_far (p := ⟨gb222, 0, none⟩) (Kd.R_types HO232.out BK222.out (by decide)) (fun _ hk => hk.2) (.int .i64 0)) (fun _ hk => hk.2) (.slice Ao29 t227.length co29)) (fun _ hk => hk.2) (.slice Ao28 t230.length co28)) (fun _ hk => hk.1)), hs HB.out⟩
    ·rw [if_neg c11] at H
     obtain ⟨c11b0, c11b1⟩ := bqf c11
     by_cases c31 : t226 = 2
     ·rw [if_pos c31] at H
      obtain ⟨c31b0, c31b1⟩ := bqt c31; clear c31
      obtain ⟨t233, A32, H⟩ := ob H
      try dsimp only at H
      obtain ⟨t236, A33, H⟩ := ob H
      try dsimp only at H
      simp only [Option.some.injEq, Prod.mk.injEq] at H
      obtain ⟨rfl, rfl, rfl⟩ := H
      go_enter Tryz.func7, Tryz.ntmps7
      try go_wp2_with (first | (refine bx 3 rfl #[.slice A0_0 l0_0.length c0_0] 36 ?_; intro gb220 hg w34 hbox hb; have BK220 := am (hbox); have GW220 := am (bz hg (hq HB.out)); replace HB := sb HB hb; have GE220 := GW220; clear hb hbox hg) | (refine bx 5 rfl #[.slice A2_0 l2_0.length c2_0, .slice A2_1 l2_1.length c2_1] 30 ?_; intro gb221 hg w35 hbox hb; have BK221 := am (hbox); have GW221 := am (bz hg (hs HB.out)); replace HB := sb HB hb; have GE221 := GW221; have NB220_221 := nl hg BK220; have NB221_220 := ng hg BK220; replace BK220 := bb BK220 hb; clear hb hbox hg) | (refine bx 6 rfl #[.int .i64 0, .slice none 0 0, .slice none 0 0] 32 ?_; intro gb222 hg w36 hbox hb; have BK222 := am (hbox); have GW222 := am (bz hg (hs HB.out)); replace HB := sb HB hb; have GE222 := GW222; have NB220_222 := nl hg BK220; have NB222_220 := ng hg BK220; replace BK220 := bb BK220 hb; have NB221_222 := nl hg BK221; have NB222_221 := ng hg BK221; replace BK221 := bb BK221 hb; clear hb hbox hg; have hnb37 := NB220_221.out; have hnc37 := NB221_220.out; have hnb38 := NB220_222.out; have hnc38 := NB222_220.out; have hcz39_0 : w36.cell? ⟨gb220, 0, none⟩ = some (.slice A0_0 l0_0.length c0_0) := (Aa0 BK220.out 0).trans rfl; have hfz39_0 := Aa1 BK220.out 0) | (refine gl (some 12) Tryz.func28 rfl #[.agg #[.slice A0_0 l0_0.length c0_0], .slice A1 l1.length c1] ?_; refine (spec_OrderFault.calls k _ _ l0_0 _ _ l1 t223 _ (cq (Kd.C_below HR0_0.out HB.out)) HC0_0.out (cq (Kd.C_below HR1.out HB.out)) HC1.out A4.out).mono ?_; rintro e w40 ⟨rfl, hb⟩; refine ⟨_, rfl, ?_⟩; replace BK220 := bb BK220 hb; replace BK221 := bb BK221 hb; replace BK222 := bb BK222 hb; replace HB := sb HB hb; (try clear hb); (try clear hk); have hnb41 := NB221_222.out; have hnc41 := NB222_221.out; have hcz42_0 : w40.cell? ⟨gb221, 0, none⟩ = some (.slice A2_0 l2_0.length c2_0) := (Aa0 BK221.out 0).trans rfl; have hcz42_1 : w40.cell? ⟨gb221, 1, none⟩ = some (.slice A2_1 l2_1.length c2_1) := (Aa0 BK221.out 1).trans rfl; have hfz42_0 := Aa1 BK221.out 0; have hfz42_1 := Aa1 BK221.out 1) | (refine gl (some 19) Tryz.func29 rfl #[.pointer (some ⟨gb220, 0, none⟩), .slice A2_0 l2_0.length c2_0] ?_; refine (spec_l3Fault.calls k _ [(⟨l0_0⟩ : S36)] _ _ l2_0 t224 _ (Ag4 (bq BK220.out) (cq (Kd.C_below HR0_0.out HB.out)) (by exact HC0_0.out)) (cq (Kd.C_below HR2_0.out HB.out)) HC2_0.out A6.out).mono ?_; rintro e w43 ⟨rfl, hb⟩; refine ⟨_, rfl, ?_⟩; replace BK220 := bb BK220 hb; replace BK221 := bb BK221 hb; replace BK222 := bb BK222 hb; replace HB := sb HB hb; (try clear hb); (try clear hk); have hcz44_0 : w43.cell? ⟨gb221, 0, none⟩ = some (.slice A2_0 l2_0.length c2_0) := (Aa0 BK221.out 0).trans rfl; have hcz44_1 : w43.cell? ⟨gb221, 1, none⟩ = some (.slice A2_1 l2_1.length c2_1) := (Aa0 BK221.out 1).trans rfl; have hfz44_0 := Aa1 BK221.out 0; have hfz44_1 := Aa1 BK221.out 1) | (refine gl (some 26) Tryz.func29 rfl #[.pointer (some ⟨gb220, 0, none⟩), .slice A2_1 l2_1.length c2_1] ?_; refine (spec_l3Fault.calls k _ [(⟨l0_0⟩ : S36)] _ _ l2_1 t225 _ (Ag4 (bq BK220.out) (cq (Kd.C_below HR0_0.out HB.out)) (by exact HC0_0.out)) (cq (Kd.C_below HR2_1.out HB.out)) HC2_1.out A8.out).mono ?_; rintro e w45 ⟨rfl, hb⟩; refine ⟨_, rfl, ?_⟩; replace BK220 := bb BK220 hb; replace BK221 := bb BK221 hb; replace BK222 := bb BK222 hb; replace HB := sb HB hb; (try clear hb); (try clear hk); have hcz46_0 : w45.cell? ⟨gb221, 0, none⟩ = some (.slice A2_0 l2_0.length c2_0) := (Aa0 BK221.out 0).trans rfl; have hcz46_1 : w45.cell? ⟨gb221, 1, none⟩ = some (.slice A2_1 l2_1.length c2_1) := (Aa0 BK221.out 1).trans rfl; have hfz46_0 := Aa1 BK221.out 0; have hfz46_1 := Aa1 BK221.out 1) | (refine gl (some 36) Tryz.func30 rfl #[.pointer (some ⟨gb220, 0, none⟩), .slice A1 l1.length c1, .slice A2_0 l2_0.length c2_0, .slice A2_1 l2_1.length c2_1] ?_; refine (spec_l7Compare.calls k _ [(⟨l0_0⟩ : S36)] _ _ l1 _ _ l2_0 _ _ l2_1 t226 _ (Ag4 (bq BK220.out) (cq (Kd.C_below HR0_0.out HB.out)) (by exact HC0_0.out)) (cq (Kd.C_below HR1.out HB.out)) HC1.out (cq (Kd.C_below HR2_0.out HB.out)) HC2_0.out (cq (Kd.C_below HR2_1.out HB.out)) HC2_1.out A10.out).mono ?_; rintro e w47 ⟨rfl, hb⟩; refine ⟨_, rfl, ?_⟩; replace BK220 := bb BK220 hb; replace BK221 := bb BK221 hb; replace BK222 := bb BK222 hb; replace HB := sb HB hb; (try clear hb); (try clear hk)))
      replace BK220 := am (Ab7 BK220.out)
      replace BK221 := am (Ab7 BK221.out)
      replace BK222 := am (Ab7 BK222.out)
      replace HB := am (Ab0 HB.out)
      refine Ad5 (n := 9) (S := fun w' => w'.cell? ⟨gb221, 0, none⟩ = some (.slice A2_0 l2_0.length c2_0) ∧ w'.cell? ⟨gb221, 1, none⟩ = some (.slice A2_1 l2_1.length c2_1)) (ds := []) #[false, false, false, false, false, false, false, false, false] (by kernel_rfl) rfl rfl ⟨(Aa0 BK221.out 0).trans rfl, (Aa0 BK221.out 1).trans rfl⟩ (fun hHeld => ?_); refine Ac1 spec_OrientEquation.tab14 spec_OrientEquation.bits14 (fun HT_ HW_ => ?_)
      generalize w47.drew = w48 at BK220 BK221 BK222 HB hHeld ⊢
      refine pu 0 43 rfl rfl HT_ ?_
      refine pu 3 46 rfl rfl HT_ ?_
      refine tk 1 44 rfl rfl HT_ HW_ hHeld ?_
      refine tk 4 47 rfl rfl HT_ HW_ hHeld ?_
      refine on_ 2 (some 45) rfl rfl HT_ (fun K hK => ?_)
      refine gs Tryz.func32 #[.slice A2_1 l2_1.length c2_1] ?_
      refine (spec_l1Ints.calls _ _ l2_1 t233 _ (cq (Kd.C_below HR2_1.out HB.out)) HC2_1.out A32.out).mono ?_
      rintro e w49 ⟨v234, rfl, ho0, hb⟩
      refine ⟨_, rfl, ?_⟩
      have HO235 := am (Kd.R_lower ho0 (Aa6 (hs HB.out)))
      replace BK220 := bb BK220 hb
      replace BK221 := bb BK221 hb
      replace BK222 := bb BK222 hb
      replace HB := sb HB hb
      (try clear hb)
      (try clear hk)
      (try clear ho0)
      refine hK.out _ _ ⟨(Aa0 BK221.out 0).trans rfl, (Aa0 BK221.out 1).trans rfl⟩ (fun hHeld => ?_)
      clear hK K
      refine nr (some 45) ?_
      refine on_ 5 (some 48) rfl rfl HT_ (fun K hK => ?_)
      refine gs Tryz.func32 #[.slice A2_0 l2_0.length c2_0] ?_
      refine (spec_l1Ints.calls _ _ l2_0 t236 _ (cq (Kd.C_below HR2_0.out HB.out)) HC2_0.out A33.out).mono ?_
      rintro e w50 ⟨v237, rfl, ho0, hb⟩
      refine ⟨_, rfl, ?_⟩
      have HO238 := am (Kd.R_lower (Kd.R_new' ho0 (Kd.R_lt (rq HO235.out))) (Aa6 (hs HB.out)))
      replace HO235 := am (Kd.R_elder' (rq HO235.out) (Kd.R_base ho0) hb)
      replace BK220 := bb BK220 hb
      replace BK221 := bb BK221 hb
      replace BK222 := bb BK222 hb
      replace HB := sb HB hb
      (try clear hb)
      (try clear hk)
      (try clear ho0)
      obtain ⟨Ao51, co51, eo51⟩ := Kd.R_slice HO238.out
      (first | subst eo51 | (injection eo51 with f1_ f2_ f3_; have f4_ := f1_.symm; have f5_ := f3_.symm; clear f1_ f2_ f3_; subst f4_; subst f5_))
      obtain ⟨Ao52, co52, eo52⟩ := Kd.R_slice HO235.out
      (first | subst eo52 | (injection eo52 with f1_ f2_ f3_; have f4_ := f1_.symm; have f5_ := f3_.symm; clear f1_ f2_ f3_; subst f4_; subst f5_))
      refine hK.out _ _ ⟨(Aa0 BK221.out 0).trans rfl, (Aa0 BK221.out 1).trans rfl⟩ (fun hHeld => ?_)
      clear hK K
      refine nr (some 48) ?_
      refine pu 6 49 rfl rfl HT_ ?_
      refine pu 7 50 rfl rfl HT_ ?_
      refine on_ 8 none rfl rfl HT_ (fun K hK => ?_)
      have hs53 : w50.cell? ⟨gb222, 0, none⟩ = some (.int .i64 0) := (Aa0 BK222.out 0).trans rfl
      have hfs53 := Aa1 BK222.out 0
      have hns53_0 := NB220_222.out
      have hns53_1 := NB221_222.out
      have hms53_0 := NB222_220.out
      have hms53_1 := NB222_221.out
      have hs54 : w50.cell? ⟨gb222, 1, none⟩ = some (.slice none 0 0) := (Aa0 BK222.out 1).trans rfl
      have hfs54 := Aa1 BK222.out 1
      have hns54_0 := NB220_222.out
      have hns54_1 := NB221_222.out
      have hms54_0 := NB222_220.out
      have hms54_1 := NB222_221.out
      have hs55 : w50.cell? ⟨gb222, 2, none⟩ = some (.slice none 0 0) := (Aa0 BK222.out 2).trans rfl
      have hfs55 := Aa1 BK222.out 2
      have hns55_0 := NB220_222.out
      have hns55_1 := NB221_222.out
      have hms55_0 := NB222_220.out
      have hms55_1 := NB222_221.out
      refine Au9 (w1 := ?_) (by rfl) rfl ?_ ?_
      rotate_left
      ·go_simp
       rfl
      refine hK.out _ _ ⟨((Ab6 (p := ⟨gb222, _, none⟩) NB221_222.out _).trans (((Ab6 (p := ⟨gb222, _, none⟩) NB221_222.out _).trans (((Ab6 (p := ⟨gb222, _, none⟩) NB221_222.out _).trans (hHeld.1)))))), ((Ab6 (p := ⟨gb222, _, none⟩) NB221_222.out _).trans (((Ab6 (p := ⟨gb222, _, none⟩) NB221_222.out _).trans (((Ab6 (p := ⟨gb222, _, none⟩) NB221_222.out _).trans (hHeld.2))))))⟩ (fun hHeld => ?_)
      clear hK K
      refine Ag1 (Ac8 HT_.out (by kernel_rfl)) ?_
      try go_wp2
      refine bodyPost_ret (results_cell_row rfl _ _ gb222 32 #[.int .i64 0, .slice Ao52 t233.length co52, .slice Ao51 t236.length co51] (0, 0) _ rfl (by refine bq ?_; refine Ab4 (cs := #[.int .i64 0, .slice Ao52 t233.length co52, .slice none 0 0]) ?_ 2 _ rfl; refine bq ?_; refine Ab4 (cs := #[.int .i64 0, .slice none 0 0, .slice none 0 0]) ?_ 1 _ rfl; refine bq ?_; refine Ab4 (cs := #[.int .i64 0, .slice none 0 0, .slice none 0 0]) ?_ 0 _ rfl; refine bq ?_; exact BK222.out) Tryz.underlying32 rfl (by kernel_rfl)) rfl ?_
      exact ⟨_, _, er, rq (Kd.R_mono (Kd.R_far (p := ⟨gb222, 2, none⟩) (Kd.R_far (p := ⟨gb222, 1, none⟩) (Kd.R_far (p := ⟨gb222, 0, none⟩) (Kd.R_types HO235.out BK222.out (by decide)) (fun _ hk => hk.2) (.int .i64 0)) (fun _ hk => hk.2) (.slice Ao52 t233.length co52)) (fun _ hk => hk.2) (.slice Ao51 t236.length co51)) (fun _ hk => hk.1.2)), rq (Kd.R_mono (Kd.R_far (p := ⟨gb222, 2, none⟩) (Kd.R_far (p := ⟨gb222, 1, none⟩) (Kd.R_far (p := ⟨gb222, 0, none⟩) (Kd.R_types HO238.out BK222.out (by decide)) (fun _ hk => hk.2) (.int .i64 0)) (fun _ hk => hk.2) (.slice Ao52 t233.length co52)) (fun _ hk => hk.2) (.slice Ao51 t236.length co51)) (fun _ hk => hk.1.2)), hs HB.out⟩
     ·rw [if_neg c31] at H
      obtain ⟨c31b0, c31b1⟩ := bqf c31
      simp only [Option.some.injEq, Prod.mk.injEq] at H
      obtain ⟨rfl, rfl, rfl⟩ := H
      go_enter Tryz.func7, Tryz.ntmps7
      go_wp2_with (first | (refine bx 3 rfl #[.slice A0_0 l0_0.length c0_0] 36 ?_; intro gb220 hg w56 hbox hb; have BK220 := am (hbox); have GW220 := am (bz hg (hq HB.out)); replace HB := sb HB hb; have GE220 := GW220; clear hb hbox hg) | (refine bx 5 rfl #[.slice A2_0 l2_0.length c2_0, .slice A2_1 l2_1.length c2_1] 30 ?_; intro gb221 hg w57 hbox hb; have BK221 := am (hbox); have GW221 := am (bz hg (hs HB.out)); replace HB := sb HB hb; have GE221 := GW221; have NB220_221 := nl hg BK220; have NB221_220 := ng hg BK220; replace BK220 := bb BK220 hb; clear hb hbox hg) | (refine bx 6 rfl #[.int .i64 0, .slice none 0 0, .slice none 0 0] 32 ?_; intro gb222 hg w58 hbox hb; have BK222 := am (hbox); have GW222 := am (bz hg (hs HB.out)); replace HB := sb HB hb; have GE222 := GW222; have NB220_222 := nl hg BK220; have NB222_220 := ng hg BK220; replace BK220 := bb BK220 hb; have NB221_222 := nl hg BK221; have NB222_221 := ng hg BK221; replace BK221 := bb BK221 hb; clear hb hbox hg; have hnb59 := NB220_221.out; have hnc59 := NB221_220.out; have hnb60 := NB220_222.out; have hnc60 := NB222_220.out; have hcz61_0 : w58.cell? ⟨gb220, 0, none⟩ = some (.slice A0_0 l0_0.length c0_0) := (Aa0 BK220.out 0).trans rfl; have hfz61_0 := Aa1 BK220.out 0) | (refine gl (some 12) Tryz.func28 rfl #[.agg #[.slice A0_0 l0_0.length c0_0], .slice A1 l1.length c1] ?_; refine (spec_OrderFault.calls k _ _ l0_0 _ _ l1 t223 _ (cq (Kd.C_below HR0_0.out HB.out)) HC0_0.out (cq (Kd.C_below HR1.out HB.out)) HC1.out A4.out).mono ?_; rintro e w62 ⟨rfl, hb⟩; refine ⟨_, rfl, ?_⟩; replace BK220 := bb BK220 hb; replace BK221 := bb BK221 hb; replace BK222 := bb BK222 hb; replace HB := sb HB hb; (try clear hb); (try clear hk); have hnb63 := NB221_222.out; have hnc63 := NB222_221.out; have hcz64_0 : w62.cell? ⟨gb221, 0, none⟩ = some (.slice A2_0 l2_0.length c2_0) := (Aa0 BK221.out 0).trans rfl; have hcz64_1 : w62.cell? ⟨gb221, 1, none⟩ = some (.slice A2_1 l2_1.length c2_1) := (Aa0 BK221.out 1).trans rfl; have hfz64_0 := Aa1 BK221.out 0; have hfz64_1 := Aa1 BK221.out 1) | (refine gl (some 19) Tryz.func29 rfl #[.pointer (some ⟨gb220, 0, none⟩), .slice A2_0 l2_0.length c2_0] ?_; refine (spec_l3Fault.calls k _ [(⟨l0_0⟩ : S36)] _ _ l2_0 t224 _ (Ag4 (bq BK220.out) (cq (Kd.C_below HR0_0.out HB.out)) (by exact HC0_0.out)) (cq (Kd.C_below HR2_0.out HB.out)) HC2_0.out A6.out).mono ?_; rintro e w65 ⟨rfl, hb⟩; refine ⟨_, rfl, ?_⟩; replace BK220 := bb BK220 hb; replace BK221 := bb BK221 hb; replace BK222 := bb BK222 hb; replace HB := sb HB hb; (try clear hb); (try clear hk); have hcz66_0 : w65.cell? ⟨gb221, 0, none⟩ = some (.slice A2_0 l2_0.length c2_0) := (Aa0 BK221.out 0).trans rfl; have hcz66_1 : w65.cell? ⟨gb221, 1, none⟩ = some (.slice A2_1 l2_1.length c2_1) := (Aa0 BK221.out 1).trans rfl; have hfz66_0 := Aa1 BK221.out 0; have hfz66_1 := Aa1 BK221.out 1) | (refine gl (some 26) Tryz.func29 rfl #[.pointer (some ⟨gb220, 0, none⟩), .slice A2_1 l2_1.length c2_1] ?_; refine (spec_l3Fault.calls k _ [(⟨l0_0⟩ : S36)] _ _ l2_1 t225 _ (Ag4 (bq BK220.out) (cq (Kd.C_below HR0_0.out HB.out)) (by exact HC0_0.out)) (cq (Kd.C_below HR2_1.out HB.out)) HC2_1.out A8.out).mono ?_; rintro e w67 ⟨rfl, hb⟩; refine ⟨_, rfl, ?_⟩; replace BK220 := bb BK220 hb; replace BK221 := bb BK221 hb; replace BK222 := bb BK222 hb; replace HB := sb HB hb; (try clear hb); (try clear hk); have hcz68_0 : w67.cell? ⟨gb221, 0, none⟩ = some (.slice A2_0 l2_0.length c2_0) := (Aa0 BK221.out 0).trans rfl; have hcz68_1 : w67.cell? ⟨gb221, 1, none⟩ = some (.slice A2_1 l2_1.length c2_1) := (Aa0 BK221.out 1).trans rfl; have hfz68_0 := Aa1 BK221.out 0; have hfz68_1 := Aa1 BK221.out 1) | (refine gl (some 36) Tryz.func30 rfl #[.pointer (some ⟨gb220, 0, none⟩), .slice A1 l1.length c1, .slice A2_0 l2_0.length c2_0, .slice A2_1 l2_1.length c2_1] ?_; refine (spec_l7Compare.calls k _ [(⟨l0_0⟩ : S36)] _ _ l1 _ _ l2_0 _ _ l2_1 t226 _ (Ag4 (bq BK220.out) (cq (Kd.C_below HR0_0.out HB.out)) (by exact HC0_0.out)) (cq (Kd.C_below HR1.out HB.out)) HC1.out (cq (Kd.C_below HR2_0.out HB.out)) HC2_0.out (cq (Kd.C_below HR2_1.out HB.out)) HC2_1.out A10.out).mono ?_; rintro e w69 ⟨rfl, hb⟩; refine ⟨_, rfl, ?_⟩; replace BK220 := bb BK220 hb; replace BK221 := bb BK221 hb; replace BK222 := bb BK222 hb; replace HB := sb HB hb; (try clear hb); (try clear hk); have hcz70_0 : w69.cell? ⟨gb222, 0, none⟩ = some (.int .i64 0) := (Aa0 BK222.out 0).trans rfl; have hcz70_1 : w69.cell? ⟨gb222, 1, none⟩ = some (.slice none 0 0) := (Aa0 BK222.out 1).trans rfl; have hcz70_2 : w69.cell? ⟨gb222, 2, none⟩ = some (.slice none 0 0) := (Aa0 BK222.out 2).trans rfl; have hfz70_0 := Aa1 BK222.out 0; have hfz70_1 := Aa1 BK222.out 1; have hfz70_2 := Aa1 BK222.out 2))
      refine bodyPost_ret (results_cell_row rfl _ _ gb222 32 #[.int .i64 10, .slice none 0 0, .slice none 0 0] (0, 0) _ rfl (by refine bq ?_; refine Ab4 (cs := #[.int .i64 10, .slice none 0 0, .slice none 0 0]) ?_ 2 _ rfl; refine bq ?_; refine Ab4 (cs := #[.int .i64 10, .slice none 0 0, .slice none 0 0]) ?_ 1 _ rfl; refine bq ?_; refine Ab4 (cs := #[.int .i64 0, .slice none 0 0, .slice none 0 0]) ?_ 0 _ rfl; refine bq ?_; exact BK222.out) Tryz.underlying32 rfl (by kernel_rfl)) rfl ?_
      exact ⟨_, _, er, by first | exact Kd.R_nil _ _ _ _ _ | exact Kd.N_nil _ _ _ _ _ | exact Kd.V_nil _ _ _ _ _ | exact Kd.Q_nil _ _ _ _ _ | exact Kd.S_nil _ _ _ _ _, by first | exact Kd.R_nil _ _ _ _ _ | exact Kd.N_nil _ _ _ _ _ | exact Kd.V_nil _ _ _ _ _ | exact Kd.Q_nil _ _ _ _ _ | exact Kd.S_nil _ _ _ _ _, hs HB.out⟩
   ·rw [if_neg c9] at H
    obtain ⟨c9b0, c9b1⟩ := bqf c9
    simp only [Option.some.injEq, Prod.mk.injEq] at H
    obtain ⟨rfl, rfl, rfl⟩ := H
    go_enter Tryz.func7, Tryz.ntmps7
    go_wp2_with (first | (refine bx 3 rfl #[.slice A0_0 l0_0.length c0_0] 36 ?_; intro gb220 hg w71 hbox hb; have BK220 := am (hbox); have GW220 := am (bz hg (hq HB.out)); replace HB := sb HB hb; have GE220 := GW220; clear hb hbox hg) | (refine bx 5 rfl #[.slice A2_0 l2_0.length c2_0, .slice A2_1 l2_1.length c2_1] 30 ?_; intro gb221 hg w72 hbox hb; have BK221 := am (hbox); have GW221 := am (bz hg (hs HB.out)); replace HB := sb HB hb; have GE221 := GW221; have NB220_221 := nl hg BK220; have NB221_220 := ng hg BK220; replace BK220 := bb BK220 hb; clear hb hbox hg) | (refine bx 6 rfl #[.int .i64 0, .slice none 0 0, .slice none 0 0] 32 ?_; intro gb222 hg w73 hbox hb; have BK222 := am (hbox); have GW222 := am (bz hg (hs HB.out)); replace HB := sb HB hb; have GE222 := GW222; have NB220_222 := nl hg BK220; have NB222_220 := ng hg BK220; replace BK220 := bb BK220 hb; have NB221_222 := nl hg BK221; have NB222_221 := ng hg BK221; replace BK221 := bb BK221 hb; clear hb hbox hg; have hnb74 := NB220_221.out; have hnc74 := NB221_220.out; have hnb75 := NB220_222.out; have hnc75 := NB222_220.out; have hcz76_0 : w73.cell? ⟨gb220, 0, none⟩ = some (.slice A0_0 l0_0.length c0_0) := (Aa0 BK220.out 0).trans rfl; have hfz76_0 := Aa1 BK220.out 0) | (refine gl (some 12) Tryz.func28 rfl #[.agg #[.slice A0_0 l0_0.length c0_0], .slice A1 l1.length c1] ?_; refine (spec_OrderFault.calls k _ _ l0_0 _ _ l1 t223 _ (cq (Kd.C_below HR0_0.out HB.out)) HC0_0.out (cq (Kd.C_below HR1.out HB.out)) HC1.out A4.out).mono ?_; rintro e w77 ⟨rfl, hb⟩; refine ⟨_, rfl, ?_⟩; replace BK220 := bb BK220 hb; replace BK221 := bb BK221 hb; replace BK222 := bb BK222 hb; replace HB := sb HB hb; (try clear hb); (try clear hk); have hnb78 := NB221_222.out; have hnc78 := NB222_221.out; have hcz79_0 : w77.cell? ⟨gb221, 0, none⟩ = some (.slice A2_0 l2_0.length c2_0) := (Aa0 BK221.out 0).trans rfl; have hcz79_1 : w77.cell? ⟨gb221, 1, none⟩ = some (.slice A2_1 l2_1.length c2_1) := (Aa0 BK221.out 1).trans rfl; have hfz79_0 := Aa1 BK221.out 0; have hfz79_1 := Aa1 BK221.out 1) | (refine gl (some 19) Tryz.func29 rfl #[.pointer (some ⟨gb220, 0, none⟩), .slice A2_0 l2_0.length c2_0] ?_; refine (spec_l3Fault.calls k _ [(⟨l0_0⟩ : S36)] _ _ l2_0 t224 _ (Ag4 (bq BK220.out) (cq (Kd.C_below HR0_0.out HB.out)) (by exact HC0_0.out)) (cq (Kd.C_below HR2_0.out HB.out)) HC2_0.out A6.out).mono ?_; rintro e w80 ⟨rfl, hb⟩; refine ⟨_, rfl, ?_⟩; replace BK220 := bb BK220 hb; replace BK221 := bb BK221 hb; replace BK222 := bb BK222 hb; replace HB := sb HB hb; (try clear hb); (try clear hk); have hcz81_0 : w80.cell? ⟨gb221, 0, none⟩ = some (.slice A2_0 l2_0.length c2_0) := (Aa0 BK221.out 0).trans rfl; have hcz81_1 : w80.cell? ⟨gb221, 1, none⟩ = some (.slice A2_1 l2_1.length c2_1) := (Aa0 BK221.out 1).trans rfl; have hfz81_0 := Aa1 BK221.out 0; have hfz81_1 := Aa1 BK221.out 1) | (refine gl (some 26) Tryz.func29 rfl #[.pointer (some ⟨gb220, 0, none⟩), .slice A2_1 l2_1.length c2_1] ?_; refine (spec_l3Fault.calls k _ [(⟨l0_0⟩ : S36)] _ _ l2_1 t225 _ (Ag4 (bq BK220.out) (cq (Kd.C_below HR0_0.out HB.out)) (by exact HC0_0.out)) (cq (Kd.C_below HR2_1.out HB.out)) HC2_1.out A8.out).mono ?_; rintro e w82 ⟨rfl, hb⟩; refine ⟨_, rfl, ?_⟩; replace BK220 := bb BK220 hb; replace BK221 := bb BK221 hb; replace BK222 := bb BK222 hb; replace HB := sb HB hb; (try clear hb); (try clear hk); have hcz83_0 : w82.cell? ⟨gb222, 0, none⟩ = some (.int .i64 0) := (Aa0 BK222.out 0).trans rfl; have hcz83_1 : w82.cell? ⟨gb222, 1, none⟩ = some (.slice none 0 0) := (Aa0 BK222.out 1).trans rfl; have hcz83_2 : w82.cell? ⟨gb222, 2, none⟩ = some (.slice none 0 0) := (Aa0 BK222.out 2).trans rfl; have hfz83_0 := Aa1 BK222.out 0; have hfz83_1 := Aa1 BK222.out 1; have hfz83_2 := Aa1 BK222.out 2))
    refine bodyPost_ret (results_cell_row rfl _ _ gb222 32 #[.int .i64 t225, .slice none 0 0, .slice none 0 0] (0, 0) _ rfl (by refine bq ?_; refine Ab4 (cs := #[.int .i64 t225, .slice none 0 0, .slice none 0 0]) ?_ 2 _ rfl; refine bq ?_; refine Ab4 (cs := #[.int .i64 t225, .slice none 0 0, .slice none 0 0]) ?_ 1 _ rfl; refine bq ?_; refine Ab4 (cs := #[.int .i64 0, .slice none 0 0, .slice none 0 0]) ?_ 0 _ rfl; refine bq ?_; exact BK222.out) Tryz.underlying32 rfl (by kernel_rfl)) rfl ?_
    exact ⟨_, _, er, by first | exact Kd.R_nil _ _ _ _ _ | exact Kd.N_nil _ _ _ _ _ | exact Kd.V_nil _ _ _ _ _ | exact Kd.Q_nil _ _ _ _ _ | exact Kd.S_nil _ _ _ _ _, by first | exact Kd.R_nil _ _ _ _ _ | exact Kd.N_nil _ _ _ _ _ | exact Kd.V_nil _ _ _ _ _ | exact Kd.Q_nil _ _ _ _ _ | exact Kd.S_nil _ _ _ _ _, hs HB.out⟩
  ·rw [if_neg c7] at H
   obtain ⟨c7b0, c7b1⟩ := bqf c7
   simp only [Option.some.injEq, Prod.mk.injEq] at H
   obtain ⟨rfl, rfl, rfl⟩ := H
   go_enter Tryz.func7, Tryz.ntmps7
   go_wp2_with (first | (refine bx 3 rfl #[.slice A0_0 l0_0.length c0_0] 36 ?_; intro gb220 hg w84 hbox hb; have BK220 := am (hbox); have GW220 := am (bz hg (hq HB.out)); replace HB := sb HB hb; have GE220 := GW220; clear hb hbox hg) | (refine bx 5 rfl #[.slice A2_0 l2_0.length c2_0, .slice A2_1 l2_1.length c2_1] 30 ?_; intro gb221 hg w85 hbox hb; have BK221 := am (hbox); have GW221 := am (bz hg (hs HB.out)); replace HB := sb HB hb; have GE221 := GW221; have NB220_221 := nl hg BK220; have NB221_220 := ng hg BK220; replace BK220 := bb BK220 hb; clear hb hbox hg) | (refine bx 6 rfl #[.int .i64 0, .slice none 0 0, .slice none 0 0] 32 ?_; intro gb222 hg w86 hbox hb; have BK222 := am (hbox); have GW222 := am (bz hg (hs HB.out)); replace HB := sb HB hb; have GE222 := GW222; have NB220_222 := nl hg BK220; have NB222_220 := ng hg BK220; replace BK220 := bb BK220 hb; have NB221_222 := nl hg BK221; have NB222_221 := ng hg BK221; replace BK221 := bb BK221 hb; clear hb hbox hg; have hnb87 := NB220_221.out; have hnc87 := NB221_220.out; have hnb88 := NB220_222.out; have hnc88 := NB222_220.out; have hcz89_0 : w86.cell? ⟨gb220, 0, none⟩ = some (.slice A0_0 l0_0.length c0_0) := (Aa0 BK220.out 0).trans rfl; have hfz89_0 := Aa1 BK220.out 0) | (refine gl (some 12) Tryz.func28 rfl #[.agg #[.slice A0_0 l0_0.length c0_0], .slice A1 l1.length c1] ?_; refine (spec_OrderFault.calls k _ _ l0_0 _ _ l1 t223 _ (cq (Kd.C_below HR0_0.out HB.out)) HC0_0.out (cq (Kd.C_below HR1.out HB.out)) HC1.out A4.out).mono ?_; rintro e w90 ⟨rfl, hb⟩; refine ⟨_, rfl, ?_⟩; replace BK220 := bb BK220 hb; replace BK221 := bb BK221 hb; replace BK222 := bb BK222 hb; replace HB := sb HB hb; (try clear hb); (try clear hk); have hnb91 := NB221_222.out; have hnc91 := NB222_221.out; have hcz92_0 : w90.cell? ⟨gb221, 0, none⟩ = some (.slice A2_0 l2_0.length c2_0) := (Aa0 BK221.out 0).trans rfl; have hcz92_1 : w90.cell? ⟨gb221, 1, none⟩ = some (.slice A2_1 l2_1.length c2_1) := (Aa0 BK221.out 1).trans rfl; have hfz92_0 := Aa1 BK221.out 0; have hfz92_1 := Aa1 BK221.out 1) | (refine gl (some 19) Tryz.func29 rfl #[.pointer (some ⟨gb220, 0, none⟩), .slice A2_0 l2_0.length c2_0] ?_; refine (spec_l3Fault.calls k _ [(⟨l0_0⟩ : S36)] _ _ l2_0 t224 _ (Ag4 (bq BK220.out) (cq (Kd.C_below HR0_0.out HB.out)) (by exact HC0_0.out)) (cq (Kd.C_below HR2_0.out HB.out)) HC2_0.out A6.out).mono ?_; rintro e w93 ⟨rfl, hb⟩; refine ⟨_, rfl, ?_⟩; replace BK220 := bb BK220 hb; replace BK221 := bb BK221 hb; replace BK222 := bb BK222 hb; replace HB := sb HB hb; (try clear hb); (try clear hk); have hcz94_0 : w93.cell? ⟨gb222, 0, none⟩ = some (.int .i64 0) := (Aa0 BK222.out 0).trans rfl; have hcz94_1 : w93.cell? ⟨gb222, 1, none⟩ = some (.slice none 0 0) := (Aa0 BK222.out 1).trans rfl; have hcz94_2 : w93.cell? ⟨gb222, 2, none⟩ = some (.slice none 0 0) := (Aa0 BK222.out 2).trans rfl; have hfz94_0 := Aa1 BK222.out 0; have hfz94_1 := Aa1 BK222.out 1; have hfz94_2 := Aa1 BK222.out 2))
   refine bodyPost_ret (results_cell_row rfl _ _ gb222 32 #[.int .i64 t224, .slice none 0 0, .slice none 0 0] (0, 0) _ rfl (by refine bq ?_; refine Ab4 (cs := #[.int .i64 t224, .slice none 0 0, .slice none 0 0]) ?_ 2 _ rfl; refine bq ?_; refine Ab4 (cs := #[.int .i64 t224, .slice none 0 0, .slice none 0 0]) ?_ 1 _ rfl; refine bq ?_; refine Ab4 (cs := #[.int .i64 0, .slice none 0 0, .slice none 0 0]) ?_ 0 _ rfl; refine bq ?_; exact BK222.out) Tryz.underlying32 rfl (by kernel_rfl)) rfl ?_
   exact ⟨_, _, er, by first | exact Kd.R_nil _ _ _ _ _ | exact Kd.N_nil _ _ _ _ _ | exact Kd.V_nil _ _ _ _ _ | exact Kd.Q_nil _ _ _ _ _ | exact Kd.S_nil _ _ _ _ _, by first | exact Kd.R_nil _ _ _ _ _ | exact Kd.N_nil _ _ _ _ _ | exact Kd.V_nil _ _ _ _ _ | exact Kd.Q_nil _ _ _ _ _ | exact Kd.S_nil _ _ _ _ _, hs HB.out⟩
 ·rw [if_neg c5] at H
  obtain ⟨c5b0, c5b1⟩ := bqf c5
  simp only [Option.some.injEq, Prod.mk.injEq] at H
  obtain ⟨rfl, rfl, rfl⟩ := H
  go_enter Tryz.func7, Tryz.ntmps7
  go_wp2_with (first | (refine bx 3 rfl #[.slice A0_0 l0_0.length c0_0] 36 ?_; intro gb220 hg w95 hbox hb; have BK220 := am (hbox); have GW220 := am (bz hg (hq HB.out)); replace HB := sb HB hb; have GE220 := GW220; clear hb hbox hg) | (refine bx 5 rfl #[.slice A2_0 l2_0.length c2_0, .slice A2_1 l2_1.length c2_1] 30 ?_; intro gb221 hg w96 hbox hb; have BK221 := am (hbox); have GW221 := am (bz hg (hs HB.out)); replace HB := sb HB hb; have GE221 := GW221; have NB220_221 := nl hg BK220; have NB221_220 := ng hg BK220; replace BK220 := bb BK220 hb; clear hb hbox hg) | (refine bx 6 rfl #[.int .i64 0, .slice none 0 0, .slice none 0 0] 32 ?_; intro gb222 hg w97 hbox hb; have BK222 := am (hbox); have GW222 := am (bz hg (hs HB.out)); replace HB := sb HB hb; have GE222 := GW222; have NB220_222 := nl hg BK220; have NB222_220 := ng hg BK220; replace BK220 := bb BK220 hb; have NB221_222 := nl hg BK221; have NB222_221 := ng hg BK221; replace BK221 := bb BK221 hb; clear hb hbox hg; have hnb98 := NB220_221.out; have hnc98 := NB221_220.out; have hnb99 := NB220_222.out; have hnc99 := NB222_220.out; have hcz100_0 : w97.cell? ⟨gb220, 0, none⟩ = some (.slice A0_0 l0_0.length c0_0) := (Aa0 BK220.out 0).trans rfl; have hfz100_0 := Aa1 BK220.out 0) | (refine gl (some 12) Tryz.func28 rfl #[.agg #[.slice A0_0 l0_0.length c0_0], .slice A1 l1.length c1] ?_; refine (spec_OrderFault.calls k _ _ l0_0 _ _ l1 t223 _ (cq (Kd.C_below HR0_0.out HB.out)) HC0_0.out (cq (Kd.C_below HR1.out HB.out)) HC1.out A4.out).mono ?_; rintro e w101 ⟨rfl, hb⟩; refine ⟨_, rfl, ?_⟩; replace BK220 := bb BK220 hb; replace BK221 := bb BK221 hb; replace BK222 := bb BK222 hb; replace HB := sb HB hb; (try clear hb); (try clear hk); have hnb102 := NB222_221.out; have hnc102 := NB221_222.out; have hcz103_0 : w101.cell? ⟨gb222, 0, none⟩ = some (.int .i64 0) := (Aa0 BK222.out 0).trans rfl; have hcz103_1 : w101.cell? ⟨gb222, 1, none⟩ = some (.slice none 0 0) := (Aa0 BK222.out 1).trans rfl; have hcz103_2 : w101.cell? ⟨gb222, 2, none⟩ = some (.slice none 0 0) := (Aa0 BK222.out 2).trans rfl; have hfz103_0 := Aa1 BK222.out 0; have hfz103_1 := Aa1 BK222.out 1; have hfz103_2 := Aa1 BK222.out 2))
  refine bodyPost_ret (results_cell_row rfl _ _ gb222 32 #[.int .i64 t223, .slice none 0 0, .slice none 0 0] (0, 0) _ rfl (by refine bq ?_; refine Ab4 (cs := #[.int .i64 t223, .slice none 0 0, .slice none 0 0]) ?_ 2 _ rfl; refine bq ?_; refine Ab4 (cs := #[.int .i64 t223, .slice none 0 0, .slice none 0 0]) ?_ 1 _ rfl; refine bq ?_; refine Ab4 (cs := #[.int .i64 0, .slice none 0 0, .slice none 0 0]) ?_ 0 _ rfl; refine bq ?_; exact BK222.out) Tryz.underlying32 rfl (by kernel_rfl)) rfl ?_
  exact ⟨_, _, er, by first | exact Kd.R_nil _ _ _ _ _ | exact Kd.N_nil _ _ _ _ _ | exact Kd.V_nil _ _ _ _ _ | exact Kd.Q_nil _ _ _ _ _ | exact Kd.S_nil _ _ _ _ _, by first | exact Kd.R_nil _ _ _ _ _ | exact Kd.N_nil _ _ _ _ _ | exact Kd.V_nil _ _ _ _ _ | exact Kd.Q_nil _ _ _ _ _ | exact Kd.S_nil _ _ _ _ _, hs HB.out⟩
def laws_toSymbol.f (a0_0 : ByteArray) (a0_1 : Int) : Option (ByteArray × Int) := some (a0_0, a0_1)
set_option maxHeartbeats 8000000 in
set_option maxRecDepth 100000 in
theorem laws_toSymbol.calls (a0_0 : ByteArray) (a0_1 : Int) (r1 : ByteArray) (r2 : Int) (w : World) (h : laws_toSymbol.f a0_0 a0_1 = some (r1, r2)) :
  Calls Tryz.prog 51 #[.agg #[.string a0_0, .int .i64 a0_1]] w fun e w' => e = .returned (.agg #[.string r1, .int .i64 r2]) ∧ Below w.heap.size w w' := by
 have hu74 := Tryz.underlying74
 have hu79 := Tryz.underlying79
 have HB := am (Below.refl w.heap.size w)
 have H : (some (a0_0, a0_1)) = some (r1, r2) := h
 clear h
 simp only [Option.some.injEq, Prod.mk.injEq] at H
 obtain ⟨rfl, rfl⟩ := H
 go_enter Tryz.func51, Tryz.ntmps51
 go_wp2_with (first | (refine bx 1 rfl #[.string a0_0, .int .i64 a0_1] 74 ?_; intro gb239 hg w2 hbox hb; have BK239 := am (hbox); have GW239 := am (bz hg (hq HB.out)); replace HB := sb HB hb; have GE239 := GW239; clear hb hbox hg) | (refine bx 2 rfl #[.string (⟨#[]⟩ : ByteArray), .int .i64 0] 79 ?_; intro gb240 hg w3 hbox hb; have BK240 := am (hbox); have GW240 := am (bz hg (hs HB.out)); replace HB := sb HB hb; have GE240 := GW240; have NB239_240 := nl hg BK239; have NB240_239 := ng hg BK239; replace BK239 := bb BK239 hb; clear hb hbox hg) | (refine bx 3 rfl #[.string (⟨#[]⟩ : ByteArray), .int .i64 0] 79 ?_; intro gb241 hg w4 hbox hb; have BK241 := am (hbox); have GW241 := am (bz hg (hs HB.out)); replace HB := sb HB hb; have GE241 := GW241; have NB239_241 := nl hg BK239; have NB241_239 := ng hg BK239; replace BK239 := bb BK239 hb; have NB240_241 := nl hg BK240; have NB241_240 := ng hg BK240; replace BK240 := bb BK240 hb; clear hb hbox hg; have hnb5 := NB239_240.out; have hnc5 := NB240_239.out; have hnb6 := NB239_241.out; have hnc6 := NB241_239.out; have hcz7_0 : w4.cell? ⟨gb239, 0, none⟩ = some (.string a0_0) := (Aa0 BK239.out 0).trans rfl; have hcz7_1 : w4.cell? ⟨gb239, 1, none⟩ = some (.int .i64 a0_1) := (Aa0 BK239.out 1).trans rfl; have hfz7_0 := Aa1 BK239.out 0; have hfz7_1 := Aa1 BK239.out 1; have hnb8 := NB241_240.out; have hnc8 := NB240_241.out; have hcz9_0 : w4.cell? ⟨gb241, 0, none⟩ = some (.string (⟨#[]⟩ : ByteArray)) := (Aa0 BK241.out 0).trans rfl; have hcz9_1 : w4.cell? ⟨gb241, 1, none⟩ = some (.int .i64 0) := (Aa0 BK241.out 1).trans rfl; have hfz9_0 := Aa1 BK241.out 0; have hfz9_1 := Aa1 BK241.out 1; have hcz10_0 : w4.cell? ⟨gb240, 0, none⟩ = some (.string (⟨#[]⟩ : ByteArray)) := (Aa0 BK240.out 0).trans rfl; have hcz10_1 : w4.cell? ⟨gb240, 1, none⟩ = some (.int .i64 0) := (Aa0 BK240.out 1).trans rfl; have hfz10_0 := Aa1 BK240.out 0; have hfz10_1 := Aa1 BK240.out 1))
 refine bodyPost_ret (results_cell_row rfl _ _ gb240 79 #[.string a0_0, .int .i64 a0_1] (0, 0) _ rfl (by refine bq ?_; refine Ab4 (cs := #[.string a0_0, .int .i64 0]) ?_ 1 _ rfl; refine bq ?_; refine Ab4 (cs := #[.string (⟨#[]⟩ : ByteArray), .int .i64 0]) ?_ 0 _ rfl; refine bq ?_; refine Ab3 ?_ NB240_241.out _; refine bq ?_; refine Ab3 ?_ NB240_241.out _; refine bq ?_; exact BK240.out) Tryz.underlying79 rfl (by kernel_rfl)) rfl ?_
 exact ⟨er, hs HB.out⟩
def laws_toSymbolS.l0 : Nat → List (S74) → List (S79) → Int → Option ((List (S79)))
 | 0, _, _, _ => none
 | k + 1, x0, x3, x4 => if x4 < (x0.length : Int) then (if 0 ≤ x4 then ((laws_toSymbol.f ((Ah1 x0 x4).f0) ((Ah1 x0 x4).f1)).bind fun bt246 => (if x4 < (x3.length : Int) then (laws_toSymbolS.l0 k x0 (x3.set (x4 : Int).toNat (⟨bt246.1, bt246.2⟩ : S79)) (wrap64 (x4 + 1))) else (none))) else (none)) else (some x3)
def laws_toSymbolS.f (k : Nat) (l0 : List (S74)) : Option ((List (S79))) := if 0 ≤ (l0.length : Int) then (if ((l0.length : Int) : Int).toNat ≤ 11728124029610 then (laws_toSymbolS.l0 k l0 (List.replicate ((l0.length : Int) : Int).toNat z79) 0) else (none)) else (none)
set_option maxHeartbeats 8000000 in
set_option maxRecDepth 100000 in
theorem laws_toSymbolS.calls (k : Nat) (A0 : Option Addr) (c0 : Nat) (l0 : List (S74)) (r : List (S79)) (w : World) (hr0 : Kd.C k74 w A0 l0.length l0) (hc0 : l0.length ≤ c0) (h : laws_toSymbolS.f k l0 = some r) :
  Calls Tryz.prog 33 #[.slice A0 l0.length c0] w fun e w' => ∃ v0_ : Value, e = .returned (v0_) ∧ Kd.R k79 79 w' w.heap.size (fun _ => True) v0_ r ∧ Below w.heap.size w w' := by
 have hu74 := Tryz.underlying74
 have hu79 := Tryz.underlying79
 have HR0 := am hr0
 have HC0 := am hc0
 clear hr0 hc0
 have HB := am (Below.refl w.heap.size w)
 have H : (if 0 ≤ (l0.length : Int) then (if ((l0.length : Int) : Int).toNat ≤ 11728124029610 then (laws_toSymbolS.l0 k l0 (List.replicate ((l0.length : Int) : Int).toNat z79) 0) else (none)) else (none)) = some r := h
 clear h
 obtain ⟨c2b0, c2b1, H⟩ := ifd H
 obtain ⟨c3b0, c3b1, H⟩ := ifd H
 obtain ⟨y242, hy242⟩ : ∃ y_ : List (S79), y_ = (List.replicate ((l0.length : Int) : Int).toNat z79) := ⟨_, rfl⟩
 replace H : (laws_toSymbolS.l0 k l0 y242 0) = some r := by first | (rw [hy242]; with_reducible exact H) | (have H2_ := (Option.bind_some _ _).symm.trans H; rw [hy242]; with_reducible exact H2_) | (have H2_ := (Option.bind_some _ _).symm.trans H; with_reducible exact H2_) | with_reducible exact H | (rw [hy242]; exact H) | exact H
 have Ny242 := am hy242
 clear hy242
 have H' := am H
 clear H
 go_enter Tryz.func33, Tryz.ntmps33
 go_wp2_with (first | ((with_reducible refine Ae9 (N := 7) rfl ?_); refine Kd.R_make k79 _ 79 rfl (N := 7) rfl 34 _ _ rfl (l0.length : Int) rfl rfl Tryz.underlying34 (.agg #[(.string ⟨#[]⟩), (.int .i64 0)]) 24 info79 rfl (by decide) (by omega) z79 (ok := fun _ => True) (okp := fun _ => True) (As3 _ _ _ z79 ) (fun _ hk => hk) trivial od (Nat.le_trans (Nat.mul_le_mul_right _ (of_decide_eq_true (by first | (with_reducible assumption) | assumption) : (l0.length : Int).toNat ≤ 11728124029610)) (by omega)) (Below.refl _ _) (Nat.le_refl _) ?_; intro v243 w4 ho5 hb hg_ hnew_; clear hg_ hnew_; (first | rw [← Ny242.out] at ho5 | (simp only [Int.reduceToNat] at ho5; rw [← Ny242.out] at ho5)); have HO244 := am (Kd.R_lower ho5 (Aa6 (hq HB.out))); replace HB := sb HB hb; clear hb ho5))
 go_loopg [4] k (fun kq v4 w' => ∃ (x3_1 : List (S79)) (x4_1 : Int), v4 = .int .i64 x4_1 ∧ Aside0 (laws_toSymbolS.l0 kq l0 x3_1 x4_1 = some r) ∧ Aside0 (kq ≤ k) ∧ Aside0 (Kd.R k79 79 w' w.heap.size (fun _ => True) v243 x3_1) ∧ Aside0 (Below w.heap.size w w'))
 case atStart => exact ⟨(y242), (0), et, H', ⟨Nat.le_refl _⟩, ⟨rq HO244.out⟩, ⟨hq HB.out⟩⟩
 case round =>
  clear H'
  try clear c2b0; try clear c2b1; try clear c3b0; try clear c3b1
  obtain ⟨x3_1, x4_1, rfl, HA, HK1, HO_3, HB⟩ := hrel
  cases gk with
  | zero => exact absurd HA.out (by simp [laws_toSymbolS.l0])
  | succ k1 =>
   have H := HA.out
   clear HA
   simp only [laws_toSymbolS.l0] at H
   by_cases c6 : x4_1 < (l0.length : Int)
   ·rw [if_pos c6] at H
    have c6b0 : decide (x4_1 < (l0.length : Int)) = true := decide_eq_true c6
    clear c6
    obtain ⟨c7b0, H⟩ := ife H
    obtain ⟨⟨t246, t247⟩, A8, H⟩ := ob H
    try dsimp only at H
    obtain ⟨c9b0, H⟩ := ife H
    obtain ⟨y248, hy248⟩ : ∃ y_ : List (S79), y_ = (x3_1.set (x4_1 : Int).toNat (⟨t246, t247⟩ : S79)) := ⟨_, rfl⟩
    replace H : (laws_toSymbolS.l0 k1 l0 y248 (wrap64 (x4_1 + 1))) = some r := by first | (rw [hy248]; with_reducible exact H) | (have H2_ := (Option.bind_some _ _).symm.trans H; rw [hy248]; with_reducible exact H2_) | (have H2_ := (Option.bind_some _ _).symm.trans H; with_reducible exact H2_) | with_reducible exact H | (rw [hy248]; exact H) | exact H
    have Ny248 := am hy248
    clear hy248
    have H' := am H
    clear H
    have p245 : 0 ≤ (x4_1 : Int) := od
    have q245 : x4_1 < (l0.length : Int) := od
    obtain ⟨ad245, e245, hx245_0, hx245_1⟩ := Av2 HR0.out x4_1 p245 q245
    cases e245
    replace hx245_0 := cz HB.out hx245_0
    replace hx245_1 := cz HB.out hx245_1
    replace p245 := eq_true p245
    replace q245 := eq_true q245
    go_wp2_with (first | (refine gl (some 20) Tryz.func51 rfl #[.agg #[.string ((Ah1 l0 x4_1).f0), .int .i64 ((Ah1 l0 x4_1).f1)]] ?_; (with_reducible refine (laws_toSymbol.calls ((Ah1 l0 x4_1).f0) ((Ah1 l0 x4_1).f1) t246 t247 _ A8.out).mono ?_); rintro e w11 ⟨rfl, hb⟩; refine ⟨_, rfl, ?_⟩; replace HO_3 := rb HO_3 hb; replace HB := sb HB hb; (try clear hb); (try clear hk); have p10 : 0 ≤ (x4_1 : Int) := od; have q10 : (x4_1 : Int) < ((x3_1.length : Int) : Int) := od; obtain ⟨go10, co10, eo10, gb10, gl10, cl10, HG10⟩ := Kd.R_form HO_3.out (by omega); (first | cases eo10 | (injection eo10 with ea_ en_ ec_; (first | subst ea_ | (injection ea_ with ea_; subst ea_)); subst ec_; clear en_)); have GB10 := am gb10; have GG10 := am HG10; clear gb10 gl10 HG10; obtain ⟨ce10, hcl10, hM10, hcc10, hfr10⟩ := Kd.R_elem HO_3.out z79 (x4_1 : Int) p10 q10; obtain rfl := Ak4 hM10; have hx10_0 : w11.cell? ⟨go10, (x4_1 : Int).toNat * 2, none⟩ = some (.string ((Aa7 x3_1 x4_1).f0)) := hcc10 0 _ rfl; have hx10_1 : w11.cell? ⟨go10, (x4_1 : Int).toNat * 2 + 1, none⟩ = some (.int .i64 ((Aa7 x3_1 x4_1).f1)) := hcc10 1 _ rfl; have hf10_0 : w11.frozen? ⟨go10, (x4_1 : Int).toNat * 2, none⟩ = false := hfr10 0; have hf10_1 : w11.frozen? ⟨go10, (x4_1 : Int).toNat * 2 + 1, none⟩ = false := hfr10 1; clear hcl10 hcc10 hfr10; (try clear hM10); replace p10 := eq_true p10; replace q10 := eq_true q10; have HX12 := am (show Kd.R k79 79 w11 w.heap.size (fun _ => True) (.slice (some ⟨go10, 0, none⟩) x3_1.length co10) x3_1 from (rq HO_3.out)); obtain ⟨ce12, hcl12, hM12, hcc12, hfr12⟩ := Kd.R_elem HX12.out z79 (x4_1 : Int) od (by have h_ : (x4_1 : Int) < ((x3_1.length : Int) : Int) := od; first | exact h_ | (have e_ := (Kd.R_reads' HO_3.out).1; omega) | simpa using h_); obtain rfl := Ak4 hM12; have HP12 := Kd.R_seg HX12.out (x4_1 : Int) od (by have h_ : (x4_1 : Int) < ((x3_1.length : Int) : Int) := od; first | exact h_ | (have e_ := (Kd.R_reads' HO_3.out).1; omega) | simpa using h_) (seg := [.string t246, .int .i64 t247]) (j := 0) hcl12 hcc12 (show 2 ≤ 2 from by decide) (x' := (⟨t246, t247⟩ : S79)) (As3 _ _ _ (⟨t246, t247⟩ : S79) ) (fun _ hk => hk); have hx12_0 := hcc12 0 _ rfl; (try simp only [show (k79).sz = 2 from rfl, Nat.mul_one, Nat.add_zero] at hx12_0); have hf12_0 := hfr12 0; (try simp only [show (k79).sz = 2 from rfl, Nat.mul_one, Nat.add_zero] at hf12_0); have hx12_1 := hcc12 1 _ rfl; (try simp only [show (k79).sz = 2 from rfl, Nat.mul_one, Nat.add_zero] at hx12_1); have hf12_1 := hfr12 1; (try simp only [show (k79).sz = 2 from rfl, Nat.mul_one, Nat.add_zero] at hf12_1); clear hcl12 hcc12 hfr12; (try clear hM12)) | ((with_reducible refine Aj2 (t := 79) (p := 21) rfl ?_); refine Ai1 (t := 79) (p := 21) (v := ?vo_w13) (w1 := ((w11.setCell ⟨go10, (x4_1 : Int).toNat * 2, none⟩ (.string t246)).setCell ⟨go10, (x4_1 : Int).toNat * 2 + 1, none⟩ (.int .i64 t247))) ?hg ?ho ?hn ?hr ?_; (case ho => rfl); (case hg => rfl); (case hn => rfl); (case hr => first | (go_simp; done) | (go_simp; rfl)); intro w13 hw; have hg : w11.grownBy w13 (some go10) := (by rw [hw]; exact HP12.2); have hp_ : Kd.R k79 79 w13 w.heap.size (fun _ => True) (.slice (some ⟨go10, 0, none⟩) x3_1.length co10) y248 := (by rw [hw, Ny248.out]; exact HP12.1); clear HP12; replace HO_3 := am (hp_); replace HB := am ((by rw [hw]; exact Ah5 (Ah5 (HB.out) GB10.out) GB10.out : Below w.heap.size w w13)); clear hg hw hp_))
    go_roundg k1
    case measure => have := HK1.out; omega
    case rel => exact ⟨(y248), (wrap64 (x4_1 + 1)), et, H', ⟨by have := HK1.out; omega⟩, ⟨rq HO_3.out⟩, ⟨hq HB.out⟩⟩
   ·rw [if_neg c6] at H
    have c6b0 : decide (x4_1 < (l0.length : Int)) = false := decide_eq_false c6
    clear c6
    obtain rfl := Option.some.inj H
    go_wp2
    go_ret
    exact ⟨_, er, rq HO_3.out, hq HB.out⟩
def laws_toSignature.f (k : Nat) (l0_0 : List (S74)) : Option ((List (S79))) := (laws_toSymbolS.f k l0_0).bind fun t252 => (some t252)
set_option maxHeartbeats 8000000 in
set_option maxRecDepth 100000 in
theorem laws_toSignature.calls (k : Nat) (A0_0 : Option Addr) (c0_0 : Nat) (l0_0 : List (S74)) (r : List (S79)) (w : World) (hr0_0 : Kd.C k74 w A0_0 l0_0.length l0_0) (hc0_0 : l0_0.length ≤ c0_0) (h : laws_toSignature.f k l0_0 = some r) :
  Calls Tryz.prog 8 #[.agg #[.slice A0_0 l0_0.length c0_0]] w fun e w' => ∃ v0_ : Value, e = .returned (.agg #[v0_]) ∧ Kd.R k79 79 w' w.heap.size (fun _ => True) v0_ r ∧ Below w.heap.size w w' := by
 have hu24 := Tryz.underlying24
 have hu36 := Tryz.underlying36
 have HR0_0 := am hr0_0
 have HC0_0 := am hc0_0
 clear hr0_0 hc0_0
 have HB := am (Below.refl w.heap.size w)
 have H : ((laws_toSymbolS.f k l0_0).bind fun t252 => (some t252)) = some r := h
 clear h
 obtain ⟨t252, A2, H⟩ := ob H
 try dsimp only at H
 obtain rfl := Option.some.inj H
 go_enter Tryz.func8, Tryz.ntmps8
 go_wp2_with (first | (refine bx 1 rfl #[.slice A0_0 l0_0.length c0_0] 24 ?_; intro gb249 hg w3 hbox hb; have BK249 := am (hbox); have GW249 := am (bz hg (hq HB.out)); replace HB := sb HB hb; have GE249 := GW249; clear hb hbox hg) | (refine bx 2 rfl #[.slice none 0 0] 36 ?_; intro gb250 hg w4 hbox hb; have BK250 := am (hbox); have GW250 := am (bz hg (hs HB.out)); replace HB := sb HB hb; have GE250 := GW250; have NB249_250 := nl hg BK249; have NB250_249 := ng hg BK249; replace BK249 := bb BK249 hb; clear hb hbox hg) | (refine bx 3 rfl #[.slice none 0 0] 36 ?_; intro gb251 hg w5 hbox hb; have BK251 := am (hbox); have GW251 := am (bz hg (hs HB.out)); replace HB := sb HB hb; have GE251 := GW251; have NB249_251 := nl hg BK249; have NB251_249 := ng hg BK249; replace BK249 := bb BK249 hb; have NB250_251 := nl hg BK250; have NB251_250 := ng hg BK250; replace BK250 := bb BK250 hb; clear hb hbox hg; have hnb6 := NB249_250.out; have hnc6 := NB250_249.out; have hnb7 := NB249_251.out; have hnc7 := NB251_249.out; have hcz8_0 : w5.cell? ⟨gb249, 0, none⟩ = some (.slice A0_0 l0_0.length c0_0) := (Aa0 BK249.out 0).trans rfl; have hfz8_0 := Aa1 BK249.out 0) | (refine gl (some 6) Tryz.func33 rfl #[.slice A0_0 l0_0.length c0_0] ?_; refine (laws_toSymbolS.calls k _ _ l0_0 t252 _ (cq (Kd.C_below HR0_0.out HB.out)) HC0_0.out A2.out).mono ?_; rintro e w9 ⟨v253, rfl, ho0, hb⟩; refine ⟨_, rfl, ?_⟩; have HO254 := am (Kd.R_lower ho0 (Aa6 (hs HB.out))); replace BK249 := bb BK249 hb; replace BK250 := bb BK250 hb; replace BK251 := bb BK251 hb; replace HB := sb HB hb; (try clear hb); (try clear hk); (try clear ho0); obtain ⟨Ao10, co10, rfl⟩ := Kd.R_slice HO254.out; have hnb11 := NB251_250.out; have hnc11 := NB250_251.out; have hcz12_0 : w9.cell? ⟨gb251, 0, none⟩ = some (.slice none 0 0) := (Aa0 BK251.out 0).trans rfl; have hfz12_0 := Aa1 BK251.out 0; have hcz13_0 : w9.cell? ⟨gb250, 0, none⟩ = some (.slice none 0 0) := (Aa0 BK250.out 0).trans rfl; have hfz13_0 := Aa1 BK250.out 0))
 refine bodyPost_ret (results_cell_row rfl _ _ gb250 36 #[.slice Ao10 t252.length co10] (0, 0) _ rfl (by refine bq ?_; refine Ab4 (cs := #[.slice none 0 0]) ?_ 0 _ rfl; refine bq ?_; refine Ab3 ?_ NB250_251.out _; refine bq ?_; exact BK250.out) Tryz.underlying36 rfl (by kernel_rfl)) rfl ?_
 exact ⟨_, er, rq (Kd.R_mono (Kd.R_far (p := ⟨gb250, 0, none⟩) (Kd.R_far (p := ⟨gb251, 0, none⟩) (Kd.R_types (Kd.R_types HO254.out BK251.out (by decide)) BK250.out (by decide)) (fun _ hk => hk.1.2) (.slice Ao10 t252.length co10)) (fun _ hk => hk.2) (.slice Ao10 t252.length co10)) (fun _ hk => trivial)), hs HB.out⟩
def laws_toInt64S.l0 : Nat → List Int → List Int → Int → Option (List Int)
 | 0, _, _, _ => none
 | k + 1, x0, x3, x4 => if x4 < (x0.length : Int) then (if 0 ≤ x4 then (if x4 < (x3.length : Int) then (laws_toInt64S.l0 k x0 (x3.set (x4 : Int).toNat (rd x0 x4)) (wrap64 (x4 + 1))) else (none)) else (none)) else (some x3)
def laws_toInt64S.f (k : Nat) (l0 : List Int) : Option (List Int) := if 0 ≤ (l0.length : Int) then (if ((l0.length : Int) : Int).toNat ≤ 35184372088832 then (laws_toInt64S.l0 k l0 (List.replicate ((l0.length : Int) : Int).toNat 0) 0) else (none)) else (none)
set_option maxHeartbeats 8000000 in
set_option maxRecDepth 100000 in
theorem laws_toInt64S.calls (k : Nat) (A0 : Option Addr) (c0 : Nat) (l0 : List Int) (r : List Int) (w : World) (hr0 : Kd.C (Kd.int .i64) w A0 l0.length l0) (hc0 : l0.length ≤ c0) (h : laws_toInt64S.f k l0 = some r) :
  Calls Tryz.prog 9 #[.slice A0 l0.length c0] w fun e w' => ∃ v0_ : Value, e = .returned (v0_) ∧ Kd.R (Kd.int .i64) 2 w' w.heap.size (fun _ => True) v0_ r ∧ Below w.heap.size w w' := by
 have HR0 := am hr0
 have HC0 := am hc0
 clear hr0 hc0
 have HB := am (Below.refl w.heap.size w)
 have H : (if 0 ≤ (l0.length : Int) then (if ((l0.length : Int) : Int).toNat ≤ 35184372088832 then (laws_toInt64S.l0 k l0 (List.replicate ((l0.length : Int) : Int).toNat 0) 0) else (none)) else (none)) = some r := h
 clear h
 obtain ⟨c2b0, c2b1, H⟩ := ifd H
 obtain ⟨c3b0, c3b1, H⟩ := ifd H
 obtain ⟨y255, hy255⟩ : ∃ y_ : List Int, y_ = (List.replicate ((l0.length : Int) : Int).toNat 0) := ⟨_, rfl⟩
 replace H : (laws_toInt64S.l0 k l0 y255 0) = some r := by first | (rw [hy255]; with_reducible exact H) | (have H2_ := (Option.bind_some _ _).symm.trans H; rw [hy255]; with_reducible exact H2_) | (have H2_ := (Option.bind_some _ _).symm.trans H; with_reducible exact H2_) | with_reducible exact H | (rw [hy255]; exact H) | exact H
 have Ny255 := am hy255
 clear hy255
 have H' := am H
 clear H
 go_enter Tryz.func9, Tryz.ntmps9
 go_wp2_with (first | ((with_reducible refine Ae9 (N := 7) rfl ?_); refine Kd.R_make (Kd.int .i64) _ 2 rfl (N := 7) rfl 25 _ _ rfl (l0.length : Int) rfl rfl Tryz.underlying25 (.int .i64 0) 8 Ap0 rfl (by decide) (by omega) 0 (ok := fun _ => True) (okp := fun _ => True) rfl (fun _ hk => hk) trivial od (Nat.le_trans (Nat.mul_le_mul_right _ (of_decide_eq_true (by first | (with_reducible assumption) | assumption) : (l0.length : Int).toNat ≤ 35184372088832)) (by omega)) (Below.refl _ _) (Nat.le_refl _) ?_; intro v256 w4 ho5 hb hg_ hnew_; clear hg_ hnew_; (first | rw [← Ny255.out] at ho5 | (simp only [Int.reduceToNat] at ho5; rw [← Ny255.out] at ho5)); have HO257 := am (Kd.R_lower ho5 (Aa6 (hq HB.out))); replace HB := sb HB hb; clear hb ho5))
 go_loopg [4] k (fun kq v4 w' => ∃ (x3_1 : List Int) (x4_1 : Int), v4 = .int .i64 x4_1 ∧ Aside0 (laws_toInt64S.l0 kq l0 x3_1 x4_1 = some r) ∧ Aside0 (kq ≤ k) ∧ Aside0 (Kd.R (Kd.int .i64) 2 w' w.heap.size (fun _ => True) v256 x3_1) ∧ Aside0 (Below w.heap.size w w'))
 case atStart => exact ⟨(y255), (0), et, H', ⟨Nat.le_refl _⟩, ⟨rq HO257.out⟩, ⟨hq HB.out⟩⟩
 case round =>
  clear H'
  try clear c2b0; try clear c2b1; try clear c3b0; try clear c3b1
  obtain ⟨x3_1, x4_1, rfl, HA, HK1, HO_3, HB⟩ := hrel
  cases gk with
  | zero => exact absurd HA.out (by simp [laws_toInt64S.l0])
  | succ k1 =>
   have H := HA.out
   clear HA
   simp only [laws_toInt64S.l0] at H
   by_cases c6 : x4_1 < (l0.length : Int)
   ·rw [if_pos c6] at H
    have c6b0 : decide (x4_1 < (l0.length : Int)) = true := decide_eq_true c6
    clear c6
    obtain ⟨c7b0, H⟩ := ife H
    obtain ⟨c8b0, H⟩ := ife H
    obtain ⟨y259, hy259⟩ : ∃ y_ : List Int, y_ = (x3_1.set (x4_1 : Int).toNat (rd l0 x4_1)) := ⟨_, rfl⟩
    replace H : (laws_toInt64S.l0 k1 l0 y259 (wrap64 (x4_1 + 1))) = some r := by first | (rw [hy259]; with_reducible exact H) | (have H2_ := (Option.bind_some _ _).symm.trans H; rw [hy259]; with_reducible exact H2_) | (have H2_ := (Option.bind_some _ _).symm.trans H; with_reducible exact H2_) | with_reducible exact H | (rw [hy259]; exact H) | exact H
    have Ny259 := am hy259
    clear hy259
    have H' := am H
    clear H
    have p258 : 0 ≤ (x4_1 : Int) := od
    have q258 : x4_1 < (l0.length : Int) := od
    obtain ⟨ad258, e258, hx258_0⟩ := Kd.at_int HR0.out x4_1 p258 q258
    cases e258
    replace hx258_0 := cz HB.out hx258_0
    replace p258 := eq_true p258
    replace q258 := eq_true q258
    have p9 : 0 ≤ (x4_1 : Int) := od
    have q9 : (x4_1 : Int) < ((x3_1.length : Int) : Int) := od
    obtain ⟨go9, co9, eo9, gb9, gl9, cl9, HG9⟩ := Kd.R_form HO_3.out (by omega)
    (first | cases eo9 | (injection eo9 with ea_ en_ ec_; (first | subst ea_ | (injection ea_ with ea_; subst ea_)); subst ec_; clear en_))
    have GB9 := am gb9
    have GG9 := am HG9
    clear gb9 gl9 HG9
    obtain ⟨hx9_0, hf9_0⟩ := Kd.R_celln 0 HO_3.out (x4_1 : Int) p9 q9
    replace p9 := eq_true p9
    replace q9 := eq_true q9
    have HP10 := Kd.R_putg HO_3.out (x4_1 : Int) (rd l0 x4_1)
    go_wp2_with (first | ((with_reducible refine Aj2 (t := 2) (p := 20) rfl ?_); refine Ai1 (t := 2) (p := 20) (v := ?vo_w11) (w1 := (wr.setCell ⟨go9, (x4_1 : Int).toNat, none⟩ (.int .i64 (rd l0 x4_1)))) ?hg ?ho ?hn ?hr ?_; (case ho => rfl); (case hg => rfl); (case hn => rfl); (case hr => first | (go_simp; done) | (go_simp; rfl)); intro w11 hw; have hg : wr.grownBy w11 (some go9) := (by rw [hw]; exact HP10.2); have hp_ : Kd.R (Kd.int .i64) 2 w11 w.heap.size (fun _ => True) (.slice (some ⟨go9, 0, none⟩) x3_1.length co9) y259 := (by rw [hw, Ny259.out]; exact HP10.1); clear HP10; replace HO_3 := am (hp_); replace HB := am ((by rw [hw]; exact Ah5 (HB.out) GB9.out : Below w.heap.size w w11)); clear hg hw hp_))
    go_roundg k1
    case measure => have := HK1.out; omega
    case rel => exact ⟨(y259), (wrap64 (x4_1 + 1)), et, H', ⟨by have := HK1.out; omega⟩, ⟨rq HO_3.out⟩, ⟨hq HB.out⟩⟩
   ·rw [if_neg c6] at H
    have c6b0 : decide (x4_1 < (l0.length : Int)) = false := decide_eq_false c6
    clear c6
    obtain rfl := Option.some.inj H
    go_wp2
    go_ret
    exact ⟨_, er, rq HO_3.out, hq HB.out⟩
def laws_toEquation.f (k : Nat) (l0_0 : List Int) (l0_1 : List Int) : Option (List Int × List Int) := (laws_toInt64S.f k l0_0).bind fun t263 => ((laws_toInt64S.f k l0_1).bind fun t266 => (some (t263, t266)))
set_option maxHeartbeats 8000000 in
set_option maxRecDepth 100000 in
theorem laws_toEquation.calls (k : Nat) (A0_0 : Option Addr) (c0_0 : Nat) (l0_0 : List Int) (A0_1 : Option Addr) (c0_1 : Nat) (l0_1 : List Int) (r1 : List Int) (r2 : List Int) (w : World) (hr0_0 : Kd.C (Kd.int .i64) w A0_0 l0_0.length l0_0) (hc0_0 : l0_0.length ≤ c0_0) (hr0_1 : Kd.C (Kd.int .i64) w A0_1 l0_1.length l0_1) (hc0_1 : l0_1.length ≤ c0_1) (h : laws_toEquation.f k l0_0 l0_1 = some (r1, r2)) :
  Calls Tryz.prog 10 #[.agg #[.slice A0_0 l0_0.length c0_0, .slice A0_1 l0_1.length c0_1]] w fun e w' => ∃ v0_ v1_ : Value, e = .returned (.agg #[v0_, v1_]) ∧ Kd.R (Kd.int .i64) 2 w' w.heap.size (fun k_ => some k_ ≠ (v1_ : Value).ownBlock) v0_ r1 ∧ Kd.R (Kd.int .i64) 2 w' w.heap.size (fun k_ => some k_ ≠ (v0_ : Value).ownBlock) v1_ r2 ∧ Below w.heap.size w w' := by
 have hu27 := Tryz.underlying27
 have hu30 := Tryz.underlying30
 have HR0_0 := am hr0_0
 have HC0_0 := am hc0_0
 clear hr0_0 hc0_0
 have HR0_1 := am hr0_1
 have HC0_1 := am hc0_1
 clear hr0_1 hc0_1
 have HB := am (Below.refl w.heap.size w)
 have H : ((laws_toInt64S.f k l0_0).bind fun t263 => ((laws_toInt64S.f k l0_1).bind fun t266 => (some (t263, t266)))) = some (r1, r2) := h
 clear h
 obtain ⟨t263, A2, H⟩ := ob H
 try dsimp only at H
 obtain ⟨t266, A3, H⟩ := ob H
 try dsimp only at H
 simp only [Option.some.injEq, Prod.mk.injEq] at H
 obtain ⟨rfl, rfl⟩ := H
 go_enter Tryz.func10, Tryz.ntmps10
 go_wp2_with (first | (refine bx 1 rfl #[.slice A0_0 l0_0.length c0_0, .slice A0_1 l0_1.length c0_1] 27 ?_; intro gb260 hg w4 hbox hb; have BK260 := am (hbox); have GW260 := am (bz hg (hq HB.out)); replace HB := sb HB hb; have GE260 := GW260; clear hb hbox hg) | (refine bx 2 rfl #[.slice none 0 0, .slice none 0 0] 30 ?_; intro gb261 hg w5 hbox hb; have BK261 := am (hbox); have GW261 := am (bz hg (hs HB.out)); replace HB := sb HB hb; have GE261 := GW261; have NB260_261 := nl hg BK260; have NB261_260 := ng hg BK260; replace BK260 := bb BK260 hb; clear hb hbox hg) | (refine bx 3 rfl #[.slice none 0 0, .slice none 0 0] 30 ?_; intro gb262 hg w6 hbox hb; have BK262 := am (hbox); have GW262 := am (bz hg (hs HB.out)); replace HB := sb HB hb; have GE262 := GW262; have NB260_262 := nl hg BK260; have NB262_260 := ng hg BK260; replace BK260 := bb BK260 hb; have NB261_262 := nl hg BK261; have NB262_261 := ng hg BK261; replace BK261 := bb BK261 hb; clear hb hbox hg; have hnb7 := NB260_261.out; have hnc7 := NB261_260.out; have hnb8 := NB260_262.out; have hnc8 := NB262_260.out; have hcz9_0 : w6.cell? ⟨gb260, 0, none⟩ = some (.slice A0_0 l0_0.length c0_0) := (Aa0 BK260.out 0).trans rfl; have hcz9_1 : w6.cell? ⟨gb260, 1, none⟩ = some (.slice A0_1 l0_1.length c0_1) := (Aa0 BK260.out 1).trans rfl; have hfz9_0 := Aa1 BK260.out 0; have hfz9_1 := Aa1 BK260.out 1) | (refine gl (some 6) Tryz.func9 rfl #[.slice A0_0 l0_0.length c0_0] ?_; refine (laws_toInt64S.calls k _ _ l0_0 t263 _ (cq (Kd.C_below HR0_0.out HB.out)) HC0_0.out A2.out).mono ?_; rintro e w10 ⟨v264, rfl, ho0, hb⟩; refine ⟨_, rfl, ?_⟩; have HO265 := am (Kd.R_lower ho0 (Aa6 (hs HB.out))); replace BK260 := bb BK260 hb; replace BK261 := bb BK261 hb; replace BK262 := bb BK262 hb; replace HB := sb HB hb; (try clear hb); (try clear hk); (try clear ho0); obtain ⟨Ao11, co11, rfl⟩ := Kd.R_slice HO265.out; have hnb12 := NB262_261.out; have hnc12 := NB261_262.out; have hcz13_0 : w10.cell? ⟨gb262, 0, none⟩ = some (.slice none 0 0) := (Aa0 BK262.out 0).trans rfl; have hcz13_1 : w10.cell? ⟨gb262, 1, none⟩ = some (.slice none 0 0) := (Aa0 BK262.out 1).trans rfl; have hfz13_0 := Aa1 BK262.out 0; have hfz13_1 := Aa1 BK262.out 1; have hcz14_0 : w10.cell? ⟨gb260, 0, none⟩ = some (.slice A0_0 l0_0.length c0_0) := (Aa0 BK260.out 0).trans rfl; have hcz14_1 : w10.cell? ⟨gb260, 1, none⟩ = some (.slice A0_1 l0_1.length c0_1) := (Aa0 BK260.out 1).trans rfl; have hfz14_0 := Aa1 BK260.out 0; have hfz14_1 := Aa1 BK260.out 1) | (refine gl (some 10) Tryz.func9 rfl #[.slice A0_1 l0_1.length c0_1] ?_; refine (laws_toInt64S.calls k _ _ l0_1 t266 _ (Kd.C_below HR0_1.out (hs HB.out)) HC0_1.out A3.out).mono ?_; rintro e w15 ⟨v267, rfl, ho0, hb⟩; refine ⟨_, rfl, ?_⟩; have HO268 := am (Kd.R_lower (Kd.R_new' ho0 (Kd.R_lt (rq ((Kd.R_mono (Kd.R_far (p := ⟨gb262, 0, none⟩) (Kd.R_types HO265.out BK262.out (by decide)) (fun _ hk => hk.2) (.slice Ao11 t263.length co11)) (fun _ h_ => h_.1)))))) (Aa6 (hs HB.out))); replace HO265 := am (Kd.R_elder' (rq ((Kd.R_mono (Kd.R_far (p := ⟨gb262, 0, none⟩) (Kd.R_types HO265.out BK262.out (by decide)) (fun _ hk => hk.2) (.slice Ao11 t263.length co11)) (fun _ h_ => h_.1)))) (Kd.R_base ho0) hb); replace BK260 := am (Ab5 (g := gb260) (o := .cells #[.slice A0_0 l0_0.length c0_0, .slice A0_1 l0_1.length c0_1] 27 (0, 0)) (by refine bq ?_; refine Ab3 ?_ NB260_262.out _; refine bq ?_; exact BK260.out) hb); replace BK261 := am (Ab5 (g := gb261) (o := .cells #[.slice none 0 0, .slice none 0 0] 30 (0, 0)) (by refine bq ?_; refine Ab3 ?_ NB261_262.out _; refine bq ?_; exact BK261.out) hb); replace BK262 := am (Ab5 (g := gb262) (o := .cells #[.slice Ao11 t263.length co11, .slice none 0 0] 30 (0, 0)) (by refine bq ?_; refine Ab4 (cs := #[.slice none 0 0, .slice none 0 0]) ?_ 0 _ rfl; refine bq ?_; exact BK262.out) hb); replace HB := sb HB hb; (try clear hb); (try clear hk); (try clear ho0); obtain ⟨Ao16, co16, rfl⟩ := Kd.R_slice HO268.out; have hcz17_0 : w15.cell? ⟨gb262, 0, none⟩ = some (.slice Ao11 t263.length co11) := (Aa0 BK262.out 0).trans rfl; have hcz17_1 : w15.cell? ⟨gb262, 1, none⟩ = some (.slice none 0 0) := (Aa0 BK262.out 1).trans rfl; have hfz17_0 := Aa1 BK262.out 0; have hfz17_1 := Aa1 BK262.out 1; have hcz18_0 : w15.cell? ⟨gb261, 0, none⟩ = some (.slice none 0 0) := (Aa0 BK261.out 0).trans rfl; have hcz18_1 : w15.cell? ⟨gb261, 1, none⟩ = some (.slice none 0 0) := (Aa0 BK261.out 1).trans rfl; have hfz18_0 := Aa1 BK261.out 0; have hfz18_1 := Aa1 BK261.out 1))
 refine bodyPost_ret (results_cell_row rfl _ _ gb261 30 #[.slice Ao11 t263.length co11, .slice Ao16 t266.length co16] (0, 0) _ rfl (by refine bq ?_; refine Ab4 (cs := #[.slice Ao11 t263.length co11, .slice none 0 0]) ?_ 1 _ rfl; refine bq ?_; refine Ab4 (cs := #[.slice none 0 0, .slice none 0 0]) ?_ 0 _ rfl; refine bq ?_; refine Ab3 ?_ NB261_262.out _; refine bq ?_; exact BK261.out) Tryz.underlying30 rfl (by kernel_rfl)) rfl ?_
 exact ⟨_, _, er, rq (Kd.R_mono (Kd.R_far (p := ⟨gb261, 1, none⟩) (Kd.R_far (p := ⟨gb261, 0, none⟩) (Kd.R_far (p := ⟨gb262, 1, none⟩) (Kd.R_types (Kd.R_types HO265.out BK262.out (by decide)) BK261.out (by decide)) (fun _ hk => hk.1.2) (.slice Ao16 t266.length co16)) (fun _ hk => hk.2) (.slice Ao11 t263.length co11)) (fun _ hk => hk.2) (.slice Ao16 t266.length co16)) (fun _ hk => hk.1.1.2)), rq (Kd.R_mono (Kd.R_far (p := ⟨gb261, 1, none⟩) (Kd.R_far (p := ⟨gb261, 0, none⟩) (Kd.R_far (p := ⟨gb262, 1, none⟩) (Kd.R_types (Kd.R_types HO268.out BK262.out (by decide)) BK261.out (by decide)) (fun _ hk => hk.1.2) (.slice Ao16 t266.length co16)) (fun _ hk => hk.2) (.slice Ao11 t263.length co11)) (fun _ hk => hk.2) (.slice Ao16 t266.length co16)) (fun _ hk => hk.1.1.2)), hs HB.out⟩
def cmp_Or_int64.l0 : Nat → Int → List Int → Int → Int → Option (Int)
 | 0, _, _, _, _ => none
 | k + 1, x3, x6, x7, x8 => if x8 < x7 then (if 0 ≤ x8 then (if x8 < (x6.length : Int) then (if (rd x6 x8) = x3 then (cmp_Or_int64.l0 k x3 x6 x7 (wrap64 (x8 + 1))) else (some (rd x6 x8))) else (none)) else (none)) else (some x3)
def cmp_Or_int64.f (k : Nat) (l0 : List Int) : Option (Int) := cmp_Or_int64.l0 k 0 l0 (l0.length : Int) 0
set_option maxHeartbeats 8000000 in
set_option maxRecDepth 100000 in
theorem cmp_Or_int64.calls (k : Nat) (A0 : Option Addr) (c0 : Nat) (l0 : List Int) (r : Int) (w : World) (hr0 : Kd.C (Kd.int .i64) w A0 l0.length l0) (hc0 : l0.length ≤ c0) (h : cmp_Or_int64.f k l0 = some r) :
  Calls Tryz.prog 52 #[.slice A0 l0.length c0] w fun e w' => e = .returned (.int .i64 r) ∧ Drawn0 w w' := by
 have HR0 := am hr0
 have HC0 := am hc0
 clear hr0 hc0
 have H : (cmp_Or_int64.l0 k 0 l0 (l0.length : Int) 0) = some r := h
 clear h
 have H' := am H
 clear H
 go_enter Tryz.func52, Tryz.ntmps52
 go_wp2
 go_loopg [8] k (fun kq v8 w' => ∃ (x8_1 : Int), v8 = .int .i64 x8_1 ∧ Aside0 (cmp_Or_int64.l0 kq 0 l0 (l0.length : Int) x8_1 = some r) ∧ Aside0 (kq ≤ k) ∧ Drawn0 w w')
 case atStart => exact ⟨(0), et, H', ⟨Nat.le_refl _⟩, by repeat (first | exact Drawn0.refl _ | apply Drawn0.step)⟩
 case round =>
  clear H'
  obtain ⟨x8_1, rfl, HA, HK1, ⟨m1, rfl⟩⟩ := hrel
  cases gk with
  | zero => exact absurd HA.out (by simp [cmp_Or_int64.l0])
  | succ k1 =>
   have H := HA.out
   clear HA
   simp only [cmp_Or_int64.l0] at H
   by_cases c2 : x8_1 < (l0.length : Int)
   ·rw [if_pos c2] at H
    have c2b0 : decide (x8_1 < (l0.length : Int)) = true := decide_eq_true c2
    clear c2
    obtain ⟨c3b0, H⟩ := ife H
    obtain ⟨c4b0, H⟩ := ife H
    by_cases c5 : (rd l0 x8_1) = 0
    ·rw [if_pos c5] at H
     obtain ⟨c5b0, c5b1⟩ := bqt c5; clear c5
     have H' := am H
     clear H
     have p269 : 0 ≤ (x8_1 : Int) := od
     have q269 : x8_1 < (l0.length : Int) := od
     obtain ⟨ad269, e269, hx269_0⟩ := Kd.at_int HR0.out x8_1 p269 q269
     cases e269
     replace p269 := eq_true p269
     replace q269 := eq_true q269
     go_wp2
     go_roundg k1
     case measure => have := HK1.out; omega
     case rel => exact ⟨(wrap64 (x8_1 + 1)), et, H', ⟨by have := HK1.out; omega⟩, by repeat (first | exact Drawn0.refl _ | apply Drawn0.step)⟩
    ·rw [if_neg c5] at H
     obtain ⟨c5b0, c5b1⟩ := bqf c5
     obtain rfl := Option.some.inj H
     have p269 : 0 ≤ (x8_1 : Int) := od
     have q269 : x8_1 < (l0.length : Int) := od
     obtain ⟨ad269, e269, hx269_0⟩ := Kd.at_int HR0.out x8_1 p269 q269
     cases e269
     replace p269 := eq_true p269
     replace q269 := eq_true q269
     go_wp2
     go_ret
     exact ⟨et, by repeat (first | exact Drawn0.refl _ | apply Drawn0.step)⟩
   ·rw [if_neg c2] at H
    have c2b0 : decide (x8_1 < (l0.length : Int)) = false := decide_eq_false c2
    clear c2
    obtain rfl := Option.some.inj H
    go_wp2
    go_ret
    exact ⟨et, by repeat (first | exact Drawn0.refl _ | apply Drawn0.step)⟩
def impl_firstCode.f (k : Nat) (l0 : List Int) : Option (Int) := (cmp_Or_int64.f k l0).bind fun t270 => (some t270)
set_option maxHeartbeats 8000000 in
set_option maxRecDepth 100000 in
theorem impl_firstCode.calls (k : Nat) (A0 : Option Addr) (c0 : Nat) (l0 : List Int) (r : Int) (w : World) (hr0 : Kd.C (Kd.int .i64) w A0 l0.length l0) (hc0 : l0.length ≤ c0) (h : impl_firstCode.f k l0 = some r) :
  Calls Tryz.prog 34 #[.slice A0 l0.length c0] w fun e w' => e = .returned (.int .i64 r) ∧ Below w.heap.size w w' := by
 have HR0 := am hr0
 have HC0 := am hc0
 clear hr0 hc0
 have HB := am (Below.refl w.heap.size w)
 have H : ((cmp_Or_int64.f k l0).bind fun t270 => (some t270)) = some r := h
 clear h
 obtain ⟨t270, A2, H⟩ := ob H
 try dsimp only at H
 obtain rfl := Option.some.inj H
 go_enter Tryz.func34, Tryz.ntmps34
 go_wp2_with (first | (refine gl (some 4) Tryz.func52 rfl #[.slice A0 l0.length c0] ?_; refine (cmp_Or_int64.calls k _ _ l0 t270 _ (cq HR0.out) HC0.out A2.out).mono ?_; rintro e w' ⟨rfl, ⟨nd, rfl⟩⟩; refine ⟨_, rfl, ?_⟩))
 go_ret
 exact ⟨er, hq HB.out⟩
def strings_Trim.f (s cut : ByteArray) : Option ByteArray := if s.size ≤ 9223372036854775807 ∧ cut.size < 4294967281 ∧ (cut.data.toList.all fun b => decide (b.toNat < 128)) = true then some ⟨(Lib.trimS s.data.toList cut.data.toList).toArray⟩ else none
theorem strings_Trim.calls (s cut : ByteArray) (r : ByteArray) (w : World) (h : strings_Trim.f s cut = some r) :
  Calls Tryz.prog 97 #[.string s, .string cut] w fun e w' => e = .returned (.string r) ∧ Below w.heap.size w w' := by
 unfold strings_Trim.f at h
 by_cases hc : s.size ≤ 9223372036854775807 ∧ cut.size < 4294967281 ∧ (cut.data.toList.all fun b => decide (b.toNat < 128)) = true
 ·rw [if_pos hc] at h
  obtain rfl := Option.some.inj h
  exact Any.strings_Trim_laid Shelf.lays160 (by kernel_rfl) s cut w hc.1 hc.2.1 (ascii_of_all hc.2.2)
 ·rw [if_neg hc] at h
  cases h
def impl_isName.f (a0 : ByteArray) : Option (Bool) := if (a0.size : Int) ≥ 1 then (if (a0.size : Int) ≤ 3 then ((strings_Trim.f a0 (⟨#[97, 98, 99, 100, 101, 102, 103, 104, 105, 106, 107, 108, 109, 110, 111, 112, 113, 114, 115, 116, 117, 118, 119, 120, 121, 122]⟩ : ByteArray)).bind fun t271 => (some (t271.toList == ([] : List UInt8)))) else (some false)) else (some false)
set_option maxHeartbeats 8000000 in
set_option maxRecDepth 100000 in
theorem impl_isName.calls (a0 : ByteArray) (r : Bool) (w : World) (h : impl_isName.f a0 = some r) :
  Calls Tryz.prog 80 #[.string a0] w fun e w' => e = .returned (.bool r) ∧ Below w.heap.size w w' := by
 have HB := am (Below.refl w.heap.size w)
 have H : (if (a0.size : Int) ≥ 1 then (if (a0.size : Int) ≤ 3 then ((strings_Trim.f a0 (⟨#[97, 98, 99, 100, 101, 102, 103, 104, 105, 106, 107, 108, 109, 110, 111, 112, 113, 114, 115, 116, 117, 118, 119, 120, 121, 122]⟩ : ByteArray)).bind fun t271 => (some (t271.toList == ([] : List UInt8)))) else (some false)) else (some false)) = some r := h
 clear h
 by_cases c2 : (a0.size : Int) ≥ 1
 ·rw [if_pos c2] at H
  have c2b0 : decide (1 ≤ (a0.size : Int)) = true := decide_eq_true c2
  have c2b1 : decide (1 ≤ a0.size) = true := decide_eq_true (by omega)
  clear c2
  by_cases c3 : (a0.size : Int) ≤ 3
  ·rw [if_pos c3] at H
   have c3b0 : decide ((a0.size : Int) ≤ 3) = true := decide_eq_true c3
   have c3b1 : decide (a0.size ≤ 3) = true := decide_eq_true (by omega)
   clear c3
   obtain ⟨t271, A4, H⟩ := ob H
   try dsimp only at H
   obtain rfl := Option.some.inj H
   go_enter Tryz.func80, Tryz.ntmps80
   go_wp2_with (first | (go_at_call 97; refine (strings_Trim.calls a0 (⟨#[97, 98, 99, 100, 101, 102, 103, 104, 105, 106, 107, 108, 109, 110, 111, 112, 113, 114, 115, 116, 117, 118, 119, 120, 121, 122]⟩ : ByteArray) t271 _ A4.out).mono ?_; rintro e w5 ⟨rfl, hb⟩; replace HB := sb HB hb; (try clear hb)))
   go_ret
   exact ⟨er, hq HB.out⟩
  ·rw [if_neg c3] at H
   have c3b0 : decide ((a0.size : Int) ≤ 3) = false := decide_eq_false c3
   have c3b1 : decide (a0.size ≤ 3) = false := decide_eq_false (by omega)
   clear c3
   obtain rfl := Option.some.inj H
   go_enter Tryz.func80, Tryz.ntmps80
   go_wp2
   go_ret
   exact ⟨er, hq HB.out⟩
 ·rw [if_neg c2] at H
  have c2b0 : decide (1 ≤ (a0.size : Int)) = false := decide_eq_false c2
  have c2b1 : decide (1 ≤ a0.size) = false := decide_eq_false (by omega)
  clear c2
  obtain rfl := Option.some.inj H
  go_enter Tryz.func80, Tryz.ntmps80
  go_wp2
  go_ret
  exact ⟨er, hq HB.out⟩
end Go.Proofs.YtgichahebemmiaaGreatDoor.P
