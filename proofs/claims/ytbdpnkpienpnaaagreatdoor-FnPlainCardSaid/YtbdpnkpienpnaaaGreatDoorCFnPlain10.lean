/- A part of the proof of the law FnPlain. -/
import Derived.Laws.StructEq
import Derived.Test.YtbdpnkpienpnaaaGreatDoorCFnPlain0
import Derived.Test.YtbdpnkpienpnaaaGreatDoorCFnPlain1
import Derived.Test.YtbdpnkpienpnaaaGreatDoorCFnPlain2
import Derived.Test.YtbdpnkpienpnaaaGreatDoorCFnPlain3
import Derived.Test.YtbdpnkpienpnaaaGreatDoorCFnPlain5
import Derived.Test.YtbdpnkpienpnaaaGreatDoorCFnPlain7
import Derived.Test.YtbdpnkpienpnaaaGreatDoorCFnPlain8
import Derived.Test.YtbdpnkpienpnaaaGreatDoorCFnPlain9
import Derived.Test.YtbdpnkpienpnaaaGreatDoorCFnPlain20
namespace Go.Proofs.YtbdpnkpienpnaaaGreatDoor.P
open Go.RowKit Go.Proofs.YtbdpnkpienpnaaaGreatDoorW.PrintWords Go.Proofs.YtbdpnkpienpnaaaGreatDoorW.PrintLast Go.Proofs.YtbdpnkpienpnaaaGreatDoorW.PrintMore
attribute [local go_sem] Ae7 Ae6 Af7 Af8 Ad8 Ad9 Ae2 Ae4   -- for this text's walks alone
set_option linter.unusedVariables false
set_option linter.unusedSimpArgs false
def impl_PlainEquation.f (k : Nat) (l0_0 : List (S90)) (l1_0 : List Int) (l1_1 : List Int) : Option (Int × List Int × List Int) := (impl_TermFault.f k l0_0 l1_0).bind fun t350 => ((impl_TermFault.f k l0_0 l1_1).bind fun t351 => ((impl_firstCode.f k (([t350, t351] : List Int))).bind fun t355 => (if t355 = 0 then ((impl_plain.f k l1_0 l1_1).bind fun bt356 => (if bt356.2.2 = true then (some (0, bt356.1, bt356.2.1)) else (some (2, ([] : List Int), ([] : List Int))))) else (some (t355, ([] : List Int), ([] : List Int))))))
def impl_PlainEquation.T1 : Bool × List (List Nat × List Nat) := (true, [([], []), ([], []), ([1], [1]), ([0, 2], [0, 2]), ([], []), ([], []), ([5], [5]), ([4, 6, 3], [4, 6]), ([3, 7], [3, 7]), ([8, 7], [8]), ([9, 9, 0, 1, 2, 3, 4, 5, 6, 7, 8, 9], [9])])
def impl_PlainEquation.B1 : List Nat := [0, 0, 2, 7, 0, 0, 32, 127, 255, 511, 1023]
theorem impl_PlainEquation.tab1 : Am6 .any (Ar3 Tryz.f7 1) = impl_PlainEquation.T1 := by kernel_rfl
theorem impl_PlainEquation.bits1 : Ai2 impl_PlainEquation.T1.2 impl_PlainEquation.B1 = true := by kernel_rfl
set_option maxHeartbeats 8000000 in
set_option maxRecDepth 100000 in
theorem impl_PlainEquation.calls (k : Nat) (A0_0 : Option Addr) (c0_0 : Nat) (l0_0 : List (S90)) (A1_0 : Option Addr) (c1_0 : Nat) (l1_0 : List Int) (A1_1 : Option Addr) (c1_1 : Nat) (l1_1 : List Int) (r1 : Int) (r2 : List Int) (r3 : List Int) (w : World) (hr0_0 : Kd.C k90 w A0_0 l0_0.length l0_0) (hc0_0 : l0_0.length ≤ c0_0) (hr1_0 : Kd.C (Kd.int .i64) w A1_0 l1_0.length l1_0) (hc1_0 : l1_0.length ≤ c1_0) (hr1_1 : Kd.C (Kd.int .i64) w A1_1 l1_1.length l1_1) (hc1_1 : l1_1.length ≤ c1_1) (h : impl_PlainEquation.f k l0_0 l1_0 l1_1 = some (r1, r2, r3)) :
  Calls Tryz.prog 7 #[.agg #[.slice A0_0 l0_0.length c0_0], .agg #[.slice A1_0 l1_0.length c1_0, .slice A1_1 l1_1.length c1_1]] w fun e w' => ∃ v1_ v2_ : Value, e = .returned (.agg #[.int .i64 r1, v1_, v2_]) ∧ Kd.R (Kd.int .i64) 2 w' w.heap.size (fun k_ => some k_ ≠ (v2_ : Value).ownBlock) v1_ r2 ∧ Kd.R (Kd.int .i64) 2 w' w.heap.size (fun k_ => some k_ ≠ (v1_ : Value).ownBlock) v2_ r3 ∧ Below w.heap.size w w' := by
 have hu26 := Tryz.underlying26
 have hu29 := Tryz.underlying29
 have hu33 := Tryz.underlying33
 have HR0_0 := am hr0_0
 have HC0_0 := am hc0_0
 clear hr0_0 hc0_0
 have HR1_0 := am hr1_0
 have HC1_0 := am hc1_0
 clear hr1_0 hc1_0
 have HR1_1 := am hr1_1
 have HC1_1 := am hc1_1
 clear hr1_1 hc1_1
 have HB := am (Below.refl w.heap.size w)
 have H : ((impl_TermFault.f k l0_0 l1_0).bind fun t350 => ((impl_TermFault.f k l0_0 l1_1).bind fun t351 => ((impl_firstCode.f k (([t350, t351] : List Int))).bind fun t355 => (if t355 = 0 then ((impl_plain.f k l1_0 l1_1).bind fun bt356 => (if bt356.2.2 = true then (some (0, bt356.1, bt356.2.1)) else (some (2, ([] : List Int), ([] : List Int))))) else (some (t355, ([] : List Int), ([] : List Int))))))) = some (r1, r2, r3) := h
 clear h
 obtain ⟨t350, A3, H⟩ := ob H
 try dsimp only at H
 obtain ⟨t351, A4, H⟩ := ob H
 try dsimp only at H
 obtain ⟨y352, hy352⟩ : ∃ y_ : List Int, y_ = (([t350, t351] : List Int)) := ⟨_, rfl⟩
 replace H : ((impl_firstCode.f k y352).bind fun t355 => (if t355 = 0 then ((impl_plain.f k l1_0 l1_1).bind fun bt356 => (if bt356.2.2 = true then (some (0, bt356.1, bt356.2.1)) else (some (2, ([] : List Int), ([] : List Int))))) else (some (t355, ([] : List Int), ([] : List Int))))) = some (r1, r2, r3) := by first | (rw [hy352]; with_reducible exact H) | (have H2_ := (Option.bind_some _ _).symm.trans H; rw [hy352]; with_reducible exact H2_) | (have H2_ := (Option.bind_some _ _).symm.trans H; with_reducible exact H2_) | with_reducible exact H | (rw [hy352]; exact H) | exact H
 have Ny352 := am hy352
 clear hy352
 obtain ⟨t355, A5, H⟩ := ob H
 try dsimp only at H
 by_cases c6 : t355 = 0
 ·rw [if_pos c6] at H
  obtain ⟨c6b0, c6b1⟩ := bqt c6; clear c6
  obtain ⟨⟨t356, t359, t362⟩, A7, H⟩ := ob H
  try dsimp only at H
  by_cases c8 : t362 = true
  ·subst c8
   rw [if_pos rfl] at H
   simp only [Option.some.injEq, Prod.mk.injEq] at H
   obtain ⟨rfl, rfl, rfl⟩ := H
   go_enter Tryz.func7, Tryz.ntmps7
   try go_wp2_with (first | (refine bx 2 rfl #[.slice A0_0 l0_0.length c0_0] 26 ?_; intro gb347 hg w9 hbox hb; have BK347 := am (hbox); have GW347 := am (bz hg (hq HB.out)); replace HB := sb HB hb; have GE347 := GW347; clear hb hbox hg) | (refine bx 3 rfl #[.slice A1_0 l1_0.length c1_0, .slice A1_1 l1_1.length c1_1] 29 ?_; intro gb348 hg w10 hbox hb; have BK348 := am (hbox); have GW348 := am (bz hg (hs HB.out)); replace HB := sb HB hb; have GE348 := GW348; have NB347_348 := nl hg BK347; have NB348_347 := ng hg BK347; replace BK347 := bb BK347 hb; clear hb hbox hg) | (refine bx 4 rfl #[.int .i64 0, .slice none 0 0, .slice none 0 0] 33 ?_; intro gb349 hg w11 hbox hb; have BK349 := am (hbox); have GW349 := am (bz hg (hs HB.out)); replace HB := sb HB hb; have GE349 := GW349; have NB347_349 := nl hg BK347; have NB349_347 := ng hg BK347; replace BK347 := bb BK347 hb; have NB348_349 := nl hg BK348; have NB349_348 := ng hg BK348; replace BK348 := bb BK348 hb; clear hb hbox hg))
   replace BK347 := am (Ad0 BK347.out)
   replace BK348 := am (Ad0 BK348.out)
   replace BK349 := am (Ad0 BK349.out)
   replace HB := am (Ab3 HB.out)
   refine Ak0 (n := 11) (S := fun w' => w'.cell? ⟨gb347, 0, none⟩ = some (.slice A0_0 l0_0.length c0_0) ∧ w'.cell? ⟨gb348, 0, none⟩ = some (.slice A1_0 l1_0.length c1_0) ∧ w'.cell? ⟨gb348, 1, none⟩ = some (.slice A1_1 l1_1.length c1_1)) (ds := []) #[false, false, false, false, false, false, false, false, false, false, false] (by kernel_rfl) rfl rfl ⟨(Aa0 BK347.out 0).trans rfl, (Aa0 BK348.out 0).trans rfl, (Aa0 BK348.out 1).trans rfl⟩ (fun hHeld => ?_); refine Af6 impl_PlainEquation.tab1 impl_PlainEquation.bits1 (fun HT_ HW_ => ?_)
   generalize w11.drew = w12 at BK347 BK348 BK349 HB hHeld ⊢
   refine pu 1 9 rfl rfl HT_ ?_
   refine pu 5 13 rfl rfl HT_ ?_
   refine tk 0 8 rfl rfl HT_ HW_ hHeld ?_
   refine tk 2 10 rfl rfl HT_ HW_ hHeld ?_
   refine tk 4 12 rfl rfl HT_ HW_ hHeld ?_
   refine tk 6 14 rfl rfl HT_ HW_ hHeld ?_
   refine on_ 3 (some 11) rfl rfl HT_ (fun K hK => ?_)
   refine gs Tryz.func28 #[.agg #[.slice A0_0 l0_0.length c0_0], .slice A1_0 l1_0.length c1_0] ?_
   refine (impl_TermFault.calls k _ _ l0_0 _ _ l1_0 t350 _ (cq (Kd.C_below HR0_0.out HB.out)) HC0_0.out (cq (Kd.C_below HR1_0.out HB.out)) HC1_0.out A3.out).mono ?_
   rintro e w13 ⟨rfl, hb⟩
   refine ⟨_, rfl, ?_⟩
   replace BK347 := bb BK347 hb
   replace BK348 := bb BK348 hb
   replace BK349 := bb BK349 hb
   replace HB := sb HB hb
   (try clear hb)
   (try clear hk)
   refine hK.out _ _ ⟨(Aa0 BK347.out 0).trans rfl, (Aa0 BK348.out 0).trans rfl, (Aa0 BK348.out 1).trans rfl⟩ (fun hHeld => ?_)
   clear hK K
   refine nr (some 11) ?_
   refine on_ 7 (some 15) rfl rfl HT_ (fun K hK => ?_)
   refine gs Tryz.func28 #[.agg #[.slice A0_0 l0_0.length c0_0], .slice A1_1 l1_1.length c1_1] ?_
   refine (impl_TermFault.calls k _ _ l0_0 _ _ l1_1 t351 _ (cq (Kd.C_below HR0_0.out HB.out)) HC0_0.out (cq (Kd.C_below HR1_1.out HB.out)) HC1_1.out A4.out).mono ?_
   rintro e w14 ⟨rfl, hb⟩
   refine ⟨_, rfl, ?_⟩
   replace BK347 := bb BK347 hb
   replace BK348 := bb BK348 hb
   replace BK349 := bb BK349 hb
   replace HB := sb HB hb
   (try clear hb)
   (try clear hk)
   refine hK.out _ _ ⟨(Aa0 BK347.out 0).trans rfl, (Aa0 BK348.out 0).trans rfl, (Aa0 BK348.out 1).trans rfl⟩ (fun hHeld => ?_)
   clear hK K
   refine nr (some 15) ?_
   refine on_ 8 (some 16) rfl rfl HT_ (fun K hK => ?_)
   refine Kd.R_lit_step (Kd.int .i64) _ 2 ?hg (N := 16) ?hd (xs := ([t350, t351] : List Int)) (inner := [.int .i64 t350, .int .i64 t351]) (ok := fun _ => True) (okp := fun _ => True) ?hr ?hp (fun _ hk => hk) trivial (Below.refl _ _) (Nat.le_refl _) (by simp) ?_; (case hd => rfl); (case hg => rfl); (case hr => first | (go_simp; done) | (go_simp; rfl)); (case hp => exact (Ad5.one (show Kd.M (Kd.int .i64) _ _ _ t350 [.int .i64 t350] from rfl) (Ad5.one (show Kd.M (Kd.int .i64) _ _ _ t351 [.int .i64 t351] from rfl) (Ad5.none _ _))))
   intro v353 w15 ho16 hb hg_ hnew_
   clear hg_ hnew_
   (first | rw [← Ny352.out] at ho16 | (simp only [Int.reduceToNat] at ho16; rw [← Ny352.out] at ho16))
   have HO354 := am (Kd.R_lower ho16 (Aa8 (hs HB.out)))
   replace BK347 := bb BK347 hb
   replace BK348 := bb BK348 hb
   replace BK349 := bb BK349 hb
   replace HB := sb HB hb
   clear hb ho16
   obtain ⟨Ao17, co17, eo17⟩ := Kd.R_slice HO354.out
   (first | subst eo17 | (injection eo17 with f1_ f2_ f3_; have f4_ := f1_.symm; have f5_ := f3_.symm; clear f1_ f2_ f3_; subst f4_; subst f5_))
   refine hK.out _ _ ⟨(Aa0 BK347.out 0).trans rfl, (Aa0 BK348.out 0).trans rfl, (Aa0 BK348.out 1).trans rfl⟩ (fun hHeld => ?_)
   clear hK K
   refine nr (some 16) ?_
   refine on_ 9 (some 17) rfl rfl HT_ (fun K hK => ?_)
   refine gs Tryz.func27 #[.slice Ao17 y352.length co17] ?_
   refine (impl_firstCode.calls k _ _ y352 t355 _ (cq (Kd.R_reads' HO354.out).2.2) ((Kd.R_reads' HO354.out).2.1) A5.out).mono ?_
   rintro e w18 ⟨rfl, hb⟩
   refine ⟨_, rfl, ?_⟩
   replace HO354 := rb HO354 hb
   replace BK347 := bb BK347 hb
   replace BK348 := bb BK348 hb
   replace BK349 := bb BK349 hb
   replace HB := sb HB hb
   (try clear hb)
   (try clear hk)
   refine hK.out _ _ ⟨(Aa0 BK347.out 0).trans rfl, (Aa0 BK348.out 0).trans rfl, (Aa0 BK348.out 1).trans rfl⟩ (fun hHeld => ?_)
   clear hK K
   refine nr (some 17) ?_
   refine pu 10 5 rfl rfl HT_ ?_
   refine Am5 (Ai6 HT_.out (by kernel_rfl)) ?_
   have hnb19 := NB348_347.out
   have hnc19 := NB347_348.out
   have hnb20 := NB348_349.out
   have hnc20 := NB349_348.out
   have hcz21_0 : w18.cell? ⟨gb348, 0, none⟩ = some (.slice A1_0 l1_0.length c1_0) := (Aa0 BK348.out 0).trans rfl
   have hcz21_1 : w18.cell? ⟨gb348, 1, none⟩ = some (.slice A1_1 l1_1.length c1_1) := (Aa0 BK348.out 1).trans rfl
   have hfz21_0 := Aa1 BK348.out 0
   have hfz21_1 := Aa1 BK348.out 1
   try go_wp2_with (first | (refine gl (some 24) Tryz.func29 rfl #[.agg #[.slice A1_0 l1_0.length c1_0, .slice A1_1 l1_1.length c1_1]] ?_; refine (impl_plain.calls k _ _ l1_0 _ _ l1_1 t356 t359 true _ (cq (Kd.C_below HR1_0.out HB.out)) HC1_0.out (cq (Kd.C_below HR1_1.out HB.out)) HC1_1.out A7.out).mono ?_; rintro e w22 ⟨v357, v360, rfl, ho0, ho1, hb⟩; refine ⟨_, rfl, ?_⟩; have HO358 := am (Kd.R_lower (Kd.R_new' ho0 (Kd.R_lt (rq HO354.out))) (Aa8 (hs HB.out))); have HO361 := am (Kd.R_lower (Kd.R_new' ho1 (Kd.R_lt (rq HO354.out))) (Aa8 (hs HB.out))); replace HO354 := am (Kd.R_mono (Kd.R_told (Kd.R_told (Kd.R_old (rq HO354.out) hb) (Kd.R_base ho0)) (Kd.R_base ho1)) (fun _ h_ => h_.1)); replace BK347 := bb BK347 hb; replace BK348 := bb BK348 hb; replace BK349 := bb BK349 hb; replace HB := sb HB hb; (try clear hb); (try clear hk); (try clear ho0); (try clear ho1)) | (refine bx 6 rfl #[.slice none 0 0, .slice none 0 0] 29 ?_; intro gb363 hg w23 hbox hb; replace HO354 := rb HO354 hb; replace HO358 := rb HO358 hb; replace HO361 := rb HO361 hb; have BK363 := am (hbox); have GW363 := am (bz hg (hs HB.out)); replace HB := sb HB hb; have GE363 := GW363; have NB347_363 := nl hg BK347; have NB363_347 := ng hg BK347; replace BK347 := bb BK347 hb; have NB348_363 := nl hg BK348; have NB363_348 := ng hg BK348; replace BK348 := bb BK348 hb; have NB349_363 := nl hg BK349; have NB363_349 := ng hg BK349; replace BK349 := bb BK349 hb; clear hb hbox hg; obtain ⟨Ao24, co24, rfl⟩ := Kd.R_slice HO358.out; have hnb25 := NB363_347.out; have hnc25 := NB347_363.out; have hnb26 := NB363_348.out; have hnc26 := NB348_363.out; have hnb27 := NB363_349.out; have hnc27 := NB349_363.out; have hcz28_0 : w23.cell? ⟨gb363, 0, none⟩ = some (.slice none 0 0) := (Aa0 BK363.out 0).trans rfl; have hcz28_1 : w23.cell? ⟨gb363, 1, none⟩ = some (.slice none 0 0) := (Aa0 BK363.out 1).trans rfl; have hfz28_0 := Aa1 BK363.out 0; have hfz28_1 := Aa1 BK363.out 1; obtain ⟨Ao29, co29, rfl⟩ := Kd.R_slice HO361.out; have hnb30 := NB349_347.out; have hnc30 := NB347_349.out; have hcz31_0 : w23.cell? ⟨gb349, 0, none⟩ = some (.int .i64 0) := (Aa0 BK349.out 0).trans rfl; have hcz31_1 : w23.cell? ⟨gb349, 1, none⟩ = some (.slice none 0 0) := (Aa0 BK349.out 1).trans rfl; have hcz31_2 : w23.cell? ⟨gb349, 2, none⟩ = some (.slice none 0 0) := (Aa0 BK349.out 2).trans rfl; have hfz31_0 := Aa1 BK349.out 0; have hfz31_1 := Aa1 BK349.out 1; have hfz31_2 := Aa1 BK349.out 2))
   refine bodyPost_ret (results_cell_row rfl _ _ gb349 33 #[.int .i64 0, .slice Ao24 t356.length co24, .slice Ao29 t359.length co29] (0, 0) _ rfl (by refine bq ?_; refine Aa6 (cs := #[.int .i64 0, .slice Ao24 t356.length co24, .slice none 0 0]) ?_ 2 _ rfl; refine bq ?_; refine Aa6 (cs := #[.int .i64 0, .slice none 0 0, .slice none 0 0]) ?_ 1 _ rfl; refine bq ?_; refine Aa6 (cs := #[.int .i64 0, .slice none 0 0, .slice none 0 0]) ?_ 0 _ rfl; refine bq ?_; refine Aa4 ?_ NB349_363.out _; refine bq ?_; refine Aa4 ?_ NB349_363.out _; refine bq ?_; exact BK349.out) Tryz.underlying33 rfl (by kernel_rfl)) rfl ?_
   exact ⟨_, _, er, rq (Kd.R_mono (Kd.R_far (p := ⟨gb349, 2, none⟩) (Kd.R_far (p := ⟨gb349, 1, none⟩) (Kd.R_far (p := ⟨gb349, 0, none⟩) (Kd.R_far (p := ⟨gb363, 1, none⟩) (Kd.R_far (p := ⟨gb363, 0, none⟩) (Kd.R_types (Kd.R_types HO358.out BK363.out (by decide)) BK349.out (by decide)) (fun _ hk => hk.1.2) (.slice Ao24 t356.length co24)) (fun _ hk => hk.1.2) (.slice Ao29 t359.length co29)) (fun _ hk => hk.2) (.int .i64 0)) (fun _ hk => hk.2) (.slice Ao24 t356.length co24)) (fun _ hk => hk.2) (.slice Ao29 t359.length co29)) (fun _ hk => hk.1.1.1)), rq (Kd.R_mono (Kd.R_far (p := ⟨gb349, 2, none⟩) (Kd.R_far (p := ⟨gb349, 1, none⟩) (Kd.R_far (p := ⟨gb349, 0, none⟩) (Kd.R_far (p := ⟨gb363, 1, none⟩) (Kd.R_far (p := ⟨gb363, 0, none⟩) (Kd.R_types (Kd.R_types HO361.out BK363.out (by decide)) BK349.out (by decide)) (fun _ hk => hk.1.2) (.slice Ao24 t356.length co24)) (fun _ hk => hk.1.2) (.slice Ao29 t359.length co29)) (fun _ hk => hk.2) (.int .i64 0)) (fun _ hk => hk.2) (.slice Ao24 t356.length co24)) (fun _ hk => hk.2) (.slice Ao29 t359.length co29)) (fun _ hk => hk.1.1.1)), hs HB.out⟩
  ·replace c8 := Bool.eq_false_iff.mpr c8
   subst c8
   rw [if_neg (show ¬ (false = true) by decide)] at H
   simp only [Option.some.injEq, Prod.mk.injEq] at H
   obtain ⟨rfl, rfl, rfl⟩ := H
   go_enter Tryz.func7, Tryz.ntmps7
   try go_wp2_with (first | (refine bx 2 rfl #[.slice A0_0 l0_0.length c0_0] 26 ?_; intro gb347 hg w32 hbox hb; have BK347 := am (hbox); have GW347 := am (bz hg (hq HB.out)); replace HB := sb HB hb; have GE347 := GW347; clear hb hbox hg) | (refine bx 3 rfl #[.slice A1_0 l1_0.length c1_0, .slice A1_1 l1_1.length c1_1] 29 ?_; intro gb348 hg w33 hbox hb; have BK348 := am (hbox); have GW348 := am (bz hg (hs HB.out)); replace HB := sb HB hb; have GE348 := GW348; have NB347_348 := nl hg BK347; have NB348_347 := ng hg BK347; replace BK347 := bb BK347 hb; clear hb hbox hg) | (refine bx 4 rfl #[.int .i64 0, .slice none 0 0, .slice none 0 0] 33 ?_; intro gb349 hg w34 hbox hb; have BK349 := am (hbox); have GW349 := am (bz hg (hs HB.out)); replace HB := sb HB hb; have GE349 := GW349; have NB347_349 := nl hg BK347; have NB349_347 := ng hg BK347; replace BK347 := bb BK347 hb; have NB348_349 := nl hg BK348; have NB349_348 := ng hg BK348; replace BK348 := bb BK348 hb; clear hb hbox hg))
   replace BK347 := am (Ad0 BK347.out)
   replace BK348 := am (Ad0 BK348.out)
   replace BK349 := am (Ad0 BK349.out)
   replace HB := am (Ab3 HB.out)
   refine Ak0 (n := 11) (S := fun w' => w'.cell? ⟨gb347, 0, none⟩ = some (.slice A0_0 l0_0.length c0_0) ∧ w'.cell? ⟨gb348, 0, none⟩ = some (.slice A1_0 l1_0.length c1_0) ∧ w'.cell? ⟨gb348, 1, none⟩ = some (.slice A1_1 l1_1.length c1_1)) (ds := []) #[false, false, false, false, false, false, false, false, false, false, false] (by kernel_rfl) rfl rfl ⟨(Aa0 BK347.out 0).trans rfl, (Aa0 BK348.out 0).trans rfl, (Aa0 BK348.out 1).trans rfl⟩ (fun hHeld => ?_); refine Af6 impl_PlainEquation.tab1 impl_PlainEquation.bits1 (fun HT_ HW_ => ?_)
   generalize w34.drew = w35 at BK347 BK348 BK349 HB hHeld ⊢
   refine pu 1 9 rfl rfl HT_ ?_
   refine pu 5 13 rfl rfl HT_ ?_
   refine tk 0 8 rfl rfl HT_ HW_ hHeld ?_
   refine tk 2 10 rfl rfl HT_ HW_ hHeld ?_
   refine tk 4 12 rfl rfl HT_ HW_ hHeld ?_
   refine tk 6 14 rfl rfl HT_ HW_ hHeld ?_
   refine on_ 3 (some 11) rfl rfl HT_ (fun K hK => ?_)
   refine gs Tryz.func28 #[.agg #[.slice A0_0 l0_0.length c0_0], .slice A1_0 l1_0.length c1_0] ?_
   refine (impl_TermFault.calls k _ _ l0_0 _ _ l1_0 t350 _ (cq (Kd.C_below HR0_0.out HB.out)) HC0_0.out (cq (Kd.C_below HR1_0.out HB.out)) HC1_0.out A3.out).mono ?_
   rintro e w36 ⟨rfl, hb⟩
   refine ⟨_, rfl, ?_⟩
   replace BK347 := bb BK347 hb
   replace BK348 := bb BK348 hb
   replace BK349 := bb BK349 hb
   replace HB := sb HB hb
   (try clear hb)
   (try clear hk)
   refine hK.out _ _ ⟨(Aa0 BK347.out 0).trans rfl, (Aa0 BK348.out 0).trans rfl, (Aa0 BK348.out 1).trans rfl⟩ (fun hHeld => ?_)
   clear hK K
   refine nr (some 11) ?_
   refine on_ 7 (some 15) rfl rfl HT_ (fun K hK => ?_)
   refine gs Tryz.func28 #[.agg #[.slice A0_0 l0_0.length c0_0], .slice A1_1 l1_1.length c1_1] ?_
   refine (impl_TermFault.calls k _ _ l0_0 _ _ l1_1 t351 _ (cq (Kd.C_below HR0_0.out HB.out)) HC0_0.out (cq (Kd.C_below HR1_1.out HB.out)) HC1_1.out A4.out).mono ?_
   rintro e w37 ⟨rfl, hb⟩
   refine ⟨_, rfl, ?_⟩
   replace BK347 := bb BK347 hb
   replace BK348 := bb BK348 hb
   replace BK349 := bb BK349 hb
   replace HB := sb HB hb
   (try clear hb)
   (try clear hk)
   refine hK.out _ _ ⟨(Aa0 BK347.out 0).trans rfl, (Aa0 BK348.out 0).trans rfl, (Aa0 BK348.out 1).trans rfl⟩ (fun hHeld => ?_)
   clear hK K
   refine nr (some 15) ?_
   refine on_ 8 (some 16) rfl rfl HT_ (fun K hK => ?_)
   refine Kd.R_lit_step (Kd.int .i64) _ 2 ?hg (N := 16) ?hd (xs := ([t350, t351] : List Int)) (inner := [.int .i64 t350, .int .i64 t351]) (ok := fun _ => True) (okp := fun _ => True) ?hr ?hp (fun _ hk => hk) trivial (Below.refl _ _) (Nat.le_refl _) (by simp) ?_; (case hd => rfl); (case hg => rfl); (case hr => first | (go_simp; done) | (go_simp; rfl)); (case hp => exact (Ad5.one (show Kd.M (Kd.int .i64) _ _ _ t350 [.int .i64 t350] from rfl) (Ad5.one (show Kd.M (Kd.int .i64) _ _ _ t351 [.int .i64 t351] from rfl) (Ad5.none _ _))))
   intro v353 w38 ho39 hb hg_ hnew_
   clear hg_ hnew_
   (first | rw [← Ny352.out] at ho39 | (simp only [Int.reduceToNat] at ho39; rw [← Ny352.out] at ho39))
   have HO354 := am (Kd.R_lower ho39 (Aa8 (hs HB.out)))
   replace BK347 := bb BK347 hb
   replace BK348 := bb BK348 hb
   replace BK349 := bb BK349 hb
   replace HB := sb HB hb
   clear hb ho39
   obtain ⟨Ao40, co40, eo40⟩ := Kd.R_slice HO354.out
   (first | subst eo40 | (injection eo40 with f1_ f2_ f3_; have f4_ := f1_.symm; have f5_ := f3_.symm; clear f1_ f2_ f3_; subst f4_; subst f5_))
   refine hK.out _ _ ⟨(Aa0 BK347.out 0).trans rfl, (Aa0 BK348.out 0).trans rfl, (Aa0 BK348.out 1).trans rfl⟩ (fun hHeld => ?_)
   clear hK K
   refine nr (some 16) ?_
   refine on_ 9 (some 17) rfl rfl HT_ (fun K hK => ?_)
   refine gs Tryz.func27 #[.slice Ao40 y352.length co40] ?_
   refine (impl_firstCode.calls k _ _ y352 t355 _ (cq (Kd.R_reads' HO354.out).2.2) ((Kd.R_reads' HO354.out).2.1) A5.out).mono ?_
   rintro e w41 ⟨rfl, hb⟩
   refine ⟨_, rfl, ?_⟩
   replace HO354 := rb HO354 hb
   replace BK347 := bb BK347 hb
   replace BK348 := bb BK348 hb
   replace BK349 := bb BK349 hb
   replace HB := sb HB hb
   (try clear hb)
   (try clear hk)
   refine hK.out _ _ ⟨(Aa0 BK347.out 0).trans rfl, (Aa0 BK348.out 0).trans rfl, (Aa0 BK348.out 1).trans rfl⟩ (fun hHeld => ?_)
   clear hK K
   refine nr (some 17) ?_
   refine pu 10 5 rfl rfl HT_ ?_
   refine Am5 (Ai6 HT_.out (by kernel_rfl)) ?_
   have hnb42 := NB348_347.out
   have hnc42 := NB347_348.out
   have hnb43 := NB348_349.out
   have hnc43 := NB349_348.out
   have hcz44_0 : w41.cell? ⟨gb348, 0, none⟩ = some (.slice A1_0 l1_0.length c1_0) := (Aa0 BK348.out 0).trans rfl
   have hcz44_1 : w41.cell? ⟨gb348, 1, none⟩ = some (.slice A1_1 l1_1.length c1_1) := (Aa0 BK348.out 1).trans rfl
   have hfz44_0 := Aa1 BK348.out 0
   have hfz44_1 := Aa1 BK348.out 1
   try go_wp2_with (first | (refine gl (some 24) Tryz.func29 rfl #[.agg #[.slice A1_0 l1_0.length c1_0, .slice A1_1 l1_1.length c1_1]] ?_; refine (impl_plain.calls k _ _ l1_0 _ _ l1_1 t356 t359 false _ (cq (Kd.C_below HR1_0.out HB.out)) HC1_0.out (cq (Kd.C_below HR1_1.out HB.out)) HC1_1.out A7.out).mono ?_; rintro e w45 ⟨v357, v360, rfl, ho0, ho1, hb⟩; refine ⟨_, rfl, ?_⟩; have HO358 := am (Kd.R_lower (Kd.R_new' ho0 (Kd.R_lt (rq HO354.out))) (Aa8 (hs HB.out))); have HO361 := am (Kd.R_lower (Kd.R_new' ho1 (Kd.R_lt (rq HO354.out))) (Aa8 (hs HB.out))); replace HO354 := am (Kd.R_mono (Kd.R_told (Kd.R_told (Kd.R_old (rq HO354.out) hb) (Kd.R_base ho0)) (Kd.R_base ho1)) (fun _ h_ => h_.1)); replace BK347 := bb BK347 hb; replace BK348 := bb BK348 hb; replace BK349 := bb BK349 hb; replace HB := sb HB hb; (try clear hb); (try clear hk); (try clear ho0); (try clear ho1)) | (refine bx 6 rfl #[.slice none 0 0, .slice none 0 0] 29 ?_; intro gb363 hg w46 hbox hb; replace HO354 := rb HO354 hb; replace HO358 := rb HO358 hb; replace HO361 := rb HO361 hb; have BK363 := am (hbox); have GW363 := am (bz hg (hs HB.out)); replace HB := sb HB hb; have GE363 := GW363; have NB347_363 := nl hg BK347; have NB363_347 := ng hg BK347; replace BK347 := bb BK347 hb; have NB348_363 := nl hg BK348; have NB363_348 := ng hg BK348; replace BK348 := bb BK348 hb; have NB349_363 := nl hg BK349; have NB363_349 := ng hg BK349; replace BK349 := bb BK349 hb; clear hb hbox hg; obtain ⟨Ao47, co47, rfl⟩ := Kd.R_slice HO358.out; have hnb48 := NB363_347.out; have hnc48 := NB347_363.out; have hnb49 := NB363_348.out; have hnc49 := NB348_363.out; have hnb50 := NB363_349.out; have hnc50 := NB349_363.out; have hcz51_0 : w46.cell? ⟨gb363, 0, none⟩ = some (.slice none 0 0) := (Aa0 BK363.out 0).trans rfl; have hcz51_1 : w46.cell? ⟨gb363, 1, none⟩ = some (.slice none 0 0) := (Aa0 BK363.out 1).trans rfl; have hfz51_0 := Aa1 BK363.out 0; have hfz51_1 := Aa1 BK363.out 1; obtain ⟨Ao52, co52, rfl⟩ := Kd.R_slice HO361.out; have hnb53 := NB349_347.out; have hnc53 := NB347_349.out; have hcz54_0 : w46.cell? ⟨gb349, 0, none⟩ = some (.int .i64 0) := (Aa0 BK349.out 0).trans rfl; have hcz54_1 : w46.cell? ⟨gb349, 1, none⟩ = some (.slice none 0 0) := (Aa0 BK349.out 1).trans rfl; have hcz54_2 : w46.cell? ⟨gb349, 2, none⟩ = some (.slice none 0 0) := (Aa0 BK349.out 2).trans rfl; have hfz54_0 := Aa1 BK349.out 0; have hfz54_1 := Aa1 BK349.out 1; have hfz54_2 := Aa1 BK349.out 2))
   refine bodyPost_ret (results_cell_row rfl _ _ gb349 33 #[.int .i64 2, .slice none 0 0, .slice none 0 0] (0, 0) _ rfl (by refine bq ?_; refine Aa6 (cs := #[.int .i64 2, .slice none 0 0, .slice none 0 0]) ?_ 2 _ rfl; refine bq ?_; refine Aa6 (cs := #[.int .i64 2, .slice none 0 0, .slice none 0 0]) ?_ 1 _ rfl; refine bq ?_; refine Aa6 (cs := #[.int .i64 0, .slice none 0 0, .slice none 0 0]) ?_ 0 _ rfl; refine bq ?_; refine Aa4 ?_ NB349_363.out _; refine bq ?_; refine Aa4 ?_ NB349_363.out _; refine bq ?_; exact BK349.out) Tryz.underlying33 rfl (by kernel_rfl)) rfl ?_
   exact ⟨_, _, er, by first | exact Kd.R_nil _ _ _ _ _ | exact Kd.N_nil _ _ _ _ _ | exact Kd.V_nil _ _ _ _ _ | exact Kd.Q_nil _ _ _ _ _ | exact Kd.S_nil _ _ _ _ _, by first | exact Kd.R_nil _ _ _ _ _ | exact Kd.N_nil _ _ _ _ _ | exact Kd.V_nil _ _ _ _ _ | exact Kd.Q_nil _ _ _ _ _ | exact Kd.S_nil _ _ _ _ _, hs HB.out⟩
 ·rw [if_neg c6] at H
  obtain ⟨c6b0, c6b1⟩ := bqf c6
  simp only [Option.some.injEq, Prod.mk.injEq] at H
  obtain ⟨rfl, rfl, rfl⟩ := H
  go_enter Tryz.func7, Tryz.ntmps7
  try go_wp2_with (first | (refine bx 2 rfl #[.slice A0_0 l0_0.length c0_0] 26 ?_; intro gb347 hg w55 hbox hb; have BK347 := am (hbox); have GW347 := am (bz hg (hq HB.out)); replace HB := sb HB hb; have GE347 := GW347; clear hb hbox hg) | (refine bx 3 rfl #[.slice A1_0 l1_0.length c1_0, .slice A1_1 l1_1.length c1_1] 29 ?_; intro gb348 hg w56 hbox hb; have BK348 := am (hbox); have GW348 := am (bz hg (hs HB.out)); replace HB := sb HB hb; have GE348 := GW348; have NB347_348 := nl hg BK347; have NB348_347 := ng hg BK347; replace BK347 := bb BK347 hb; clear hb hbox hg) | (refine bx 4 rfl #[.int .i64 0, .slice none 0 0, .slice none 0 0] 33 ?_; intro gb349 hg w57 hbox hb; have BK349 := am (hbox); have GW349 := am (bz hg (hs HB.out)); replace HB := sb HB hb; have GE349 := GW349; have NB347_349 := nl hg BK347; have NB349_347 := ng hg BK347; replace BK347 := bb BK347 hb; have NB348_349 := nl hg BK348; have NB349_348 := ng hg BK348; replace BK348 := bb BK348 hb; clear hb hbox hg))
  replace BK347 := am (Ad0 BK347.out)
  replace BK348 := am (Ad0 BK348.out)
  replace BK349 := am (Ad0 BK349.out)
  replace HB := am (Ab3 HB.out)
  refine Ak0 (n := 11) (S := fun w' => w'.cell? ⟨gb347, 0, none⟩ = some (.slice A0_0 l0_0.length c0_0) ∧ w'.cell? ⟨gb348, 0, none⟩ = some (.slice A1_0 l1_0.length c1_0) ∧ w'.cell? ⟨gb348, 1, none⟩ = some (.slice A1_1 l1_1.length c1_1)) (ds := []) #[false, false, false, false, false, false, false, false, false, false, false] (by kernel_rfl) rfl rfl ⟨(Aa0 BK347.out 0).trans rfl, (Aa0 BK348.out 0).trans rfl, (Aa0 BK348.out 1).trans rfl⟩ (fun hHeld => ?_); refine Af6 impl_PlainEquation.tab1 impl_PlainEquation.bits1 (fun HT_ HW_ => ?_)
  generalize w57.drew = w58 at BK347 BK348 BK349 HB hHeld ⊢
  refine pu 1 9 rfl rfl HT_ ?_
  refine pu 5 13 rfl rfl HT_ ?_
  refine tk 0 8 rfl rfl HT_ HW_ hHeld ?_
  refine tk 2 10 rfl rfl HT_ HW_ hHeld ?_
  refine tk 4 12 rfl rfl HT_ HW_ hHeld ?_
  refine tk 6 14 rfl rfl HT_ HW_ hHeld ?_
  refine on_ 3 (some 11) rfl rfl HT_ (fun K hK => ?_)
  refine gs Tryz.func28 #[.agg #[.slice A0_0 l0_0.length c0_0], .slice A1_0 l1_0.length c1_0] ?_
  refine (impl_TermFault.calls k _ _ l0_0 _ _ l1_0 t350 _ (cq (Kd.C_below HR0_0.out HB.out)) HC0_0.out (cq (Kd.C_below HR1_0.out HB.out)) HC1_0.out A3.out).mono ?_
  rintro e w59 ⟨rfl, hb⟩
  refine ⟨_, rfl, ?_⟩
  replace BK347 := bb BK347 hb
  replace BK348 := bb BK348 hb
  replace BK349 := bb BK349 hb
  replace HB := sb HB hb
  (try clear hb)
  (try clear hk)
  refine hK.out _ _ ⟨(Aa0 BK347.out 0).trans rfl, (Aa0 BK348.out 0).trans rfl, (Aa0 BK348.out 1).trans rfl⟩ (fun hHeld => ?_)
  clear hK K
  refine nr (some 11) ?_
  refine on_ 7 (some 15) rfl rfl HT_ (fun K hK => ?_)
  refine gs Tryz.func28 #[.agg #[.slice A0_0 l0_0.length c0_0], .slice A1_1 l1_1.length c1_1] ?_
  refine (impl_TermFault.calls k _ _ l0_0 _ _ l1_1 t351 _ (cq (Kd.C_below HR0_0.out HB.out)) HC0_0.out (cq (Kd.C_below HR1_1.out HB.out)) HC1_1.out A4.out).mono ?_
  rintro e w60 ⟨rfl, hb⟩
  refine ⟨_, rfl, ?_⟩
  replace BK347 := bb BK347 hb
  replace BK348 := bb BK348 hb
  replace BK349 := bb BK349 hb
  replace HB := sb HB hb
  (try clear hb)
  (try clear hk)
  refine hK.out _ _ ⟨(Aa0 BK347.out 0).trans rfl, (Aa0 BK348.out 0).trans rfl, (Aa0 BK348.out 1).trans rfl⟩ (fun hHeld => ?_)
  clear hK K
  refine nr (some 15) ?_
  refine on_ 8 (some 16) rfl rfl HT_ (fun K hK => ?_)
  refine Kd.R_lit_step (Kd.int .i64) _ 2 ?hg (N := 16) ?hd (xs := ([t350, t351] : List Int)) (inner := [.int .i64 t350, .int .i64 t351]) (ok := fun _ => True) (okp := fun _ => True) ?hr ?hp (fun _ hk => hk) trivial (Below.refl _ _) (Nat.le_refl _) (by simp) ?_; (case hd => rfl); (case hg => rfl); (case hr => first | (go_simp; done) | (go_simp; rfl)); (case hp => exact (Ad5.one (show Kd.M (Kd.int .i64) _ _ _ t350 [.int .i64 t350] from rfl) (Ad5.one (show Kd.M (Kd.int .i64) _ _ _ t351 [.int .i64 t351] from rfl) (Ad5.none _ _))))
  intro v353 w61 ho62 hb hg_ hnew_
  clear hg_ hnew_
  (first | rw [← Ny352.out] at ho62 | (simp only [Int.reduceToNat] at ho62; rw [← Ny352.out] at ho62))
  have HO354 := am (Kd.R_lower ho62 (Aa8 (hs HB.out)))
  replace BK347 := bb BK347 hb
  replace BK348 := bb BK348 hb
  replace BK349 := bb BK349 hb
  replace HB := sb HB hb
  clear hb ho62
  obtain ⟨Ao63, co63, eo63⟩ := Kd.R_slice HO354.out
  (first | subst eo63 | (injection eo63 with f1_ f2_ f3_; have f4_ := f1_.symm; have f5_ := f3_.symm; clear f1_ f2_ f3_; subst f4_; subst f5_))
  refine hK.out _ _ ⟨(Aa0 BK347.out 0).trans rfl, (Aa0 BK348.out 0).trans rfl, (Aa0 BK348.out 1).trans rfl⟩ (fun hHeld => ?_)
  clear hK K
  refine nr (some 16) ?_
  refine on_ 9 (some 17) rfl rfl HT_ (fun K hK => ?_)
  refine gs Tryz.func27 #[.slice Ao63 y352.length co63] ?_
  refine (impl_firstCode.calls k _ _ y352 t355 _ (cq (Kd.R_reads' HO354.out).2.2) ((Kd.R_reads' HO354.out).2.1) A5.out).mono ?_
  rintro e w64 ⟨rfl, hb⟩
  refine ⟨_, rfl, ?_⟩
  replace HO354 := rb HO354 hb
  replace BK347 := bb BK347 hb
  replace BK348 := bb BK348 hb
  replace BK349 := bb BK349 hb
  replace HB := sb HB hb
  (try clear hb)
  (try clear hk)
  refine hK.out _ _ ⟨(Aa0 BK347.out 0).trans rfl, (Aa0 BK348.out 0).trans rfl, (Aa0 BK348.out 1).trans rfl⟩ (fun hHeld => ?_)
  clear hK K
  refine nr (some 17) ?_
  refine pu 10 5 rfl rfl HT_ ?_
  refine Am5 (Ai6 HT_.out (by kernel_rfl)) ?_
  have hnb65 := NB349_347.out
  have hnc65 := NB347_349.out
  have hnb66 := NB349_348.out
  have hnc66 := NB348_349.out
  have hcz67_0 : w64.cell? ⟨gb349, 0, none⟩ = some (.int .i64 0) := (Aa0 BK349.out 0).trans rfl
  have hcz67_1 : w64.cell? ⟨gb349, 1, none⟩ = some (.slice none 0 0) := (Aa0 BK349.out 1).trans rfl
  have hcz67_2 : w64.cell? ⟨gb349, 2, none⟩ = some (.slice none 0 0) := (Aa0 BK349.out 2).trans rfl
  have hfz67_0 := Aa1 BK349.out 0
  have hfz67_1 := Aa1 BK349.out 1
  have hfz67_2 := Aa1 BK349.out 2
  try go_wp2
  refine bodyPost_ret (results_cell_row rfl _ _ gb349 33 #[.int .i64 t355, .slice none 0 0, .slice none 0 0] (0, 0) _ rfl (by refine bq ?_; refine Aa6 (cs := #[.int .i64 t355, .slice none 0 0, .slice none 0 0]) ?_ 2 _ rfl; refine bq ?_; refine Aa6 (cs := #[.int .i64 t355, .slice none 0 0, .slice none 0 0]) ?_ 1 _ rfl; refine bq ?_; refine Aa6 (cs := #[.int .i64 0, .slice none 0 0, .slice none 0 0]) ?_ 0 _ rfl; refine bq ?_; exact BK349.out) Tryz.underlying33 rfl (by kernel_rfl)) rfl ?_
  exact ⟨_, _, er, by first | exact Kd.R_nil _ _ _ _ _ | exact Kd.N_nil _ _ _ _ _ | exact Kd.V_nil _ _ _ _ _ | exact Kd.Q_nil _ _ _ _ _ | exact Kd.S_nil _ _ _ _ _, by first | exact Kd.R_nil _ _ _ _ _ | exact Kd.N_nil _ _ _ _ _ | exact Kd.V_nil _ _ _ _ _ | exact Kd.Q_nil _ _ _ _ _ | exact Kd.S_nil _ _ _ _ _, hs HB.out⟩
def spec_l2Symbol.f (l0 : List (S26)) (a1 : Int) : Option (Bool) := if 0 < (l0.length : Int) then ((spec_l1In.f a1 0 (wrap64 ((((Ac3 l0 0).f0).length : Int) - 1))).bind fun t366 => (some t366)) else (none)
set_option maxHeartbeats 8000000 in
set_option maxRecDepth 100000 in
theorem spec_l2Symbol.calls (A0 : Option Addr) (l0 : List (S26)) (a1 : Int) (r : Bool) (w : World) (hr0 : Kd.C k26 w A0 l0.length l0) (h : spec_l2Symbol.f l0 a1 = some r) :
  Calls Tryz.prog 92 #[.pointer A0, .int .i64 a1] w fun e w' => e = .returned (.bool r) ∧ Drawn0 w w' := by
 have HR0 := am hr0
 clear hr0
 have H : (if 0 < (l0.length : Int) then ((spec_l1In.f a1 0 (wrap64 ((((Ac3 l0 0).f0).length : Int) - 1))).bind fun t366 => (some t366)) else (none)) = some r := h
 clear h
 obtain ⟨c3, H⟩ := ifs H
 have c3b0 : decide (0 < (l0.length : Int)) = true := decide_eq_true c3
 have c3b1 : decide (0 < l0.length) = true := decide_eq_true (by omega)
 clear c3
 obtain ⟨t366, A4, H⟩ := ob H
 try dsimp only at H
 obtain rfl := Option.some.inj H
 have p364 : 0 ≤ (0 : Int) := (by omega)
 have q364 : 0 < (l0.length : Int) := od
 obtain ⟨ad364, A364_0, c364_0, e364, hx364_0, hl364_0, hi364_0⟩ := Af2 HR0.out 0 p364 q364
 cases e364
 have qi364 : (0 < l0.length) = True := eq_true (by omega)
 (try rw [show ((0 : Int)).toNat = 0 from rfl] at hx364_0)
 (try rw [Addr.add_zero'] at hx364_0)
 have HR364_0 := am hi364_0
 have HC364_0 := am hl364_0
 clear hi364_0 hl364_0
 replace p364 := eq_true p364
 replace q364 := eq_true q364
 have p365 : 0 ≤ (0 : Int) := (by omega)
 have q365 : 0 < (l0.length : Int) := od
 obtain ⟨ad365, A365_0, c365_0, e365, hx365_0, hl365_0, hi365_0⟩ := Af2 HR0.out 0 p365 q365
 obtain rfl : ad364 = ad365 := (by injection e365)
 have qi365 : (0 < l0.length) = True := eq_true (by omega)
 (try rw [show ((0 : Int)).toNat = 0 from rfl] at hx365_0)
 (try rw [Addr.add_zero'] at hx365_0)
 have HR365_0 := am hi365_0
 have HC365_0 := am hl365_0
 clear hi365_0 hl365_0
 replace p365 := eq_true p365
 replace q365 := eq_true q365
 have ea_ := Option.some.inj (hx364_0.symm.trans hx365_0)
 injection ea_ with ea_ en_ ec_
 subst ea_
 subst ec_
 clear en_
 go_enter Tryz.func92, Tryz.ntmps92
 go_wp2_with (first | (refine gl (some 12) Tryz.func84 rfl #[.int .i64 a1, .int .i64 0, .int .i64 (wrap64 ((((Ac3 l0 0).f0).length : Int) - 1))] ?_; (with_reducible refine (spec_l1In.calls a1 0 (wrap64 ((((Ac3 l0 0).f0).length : Int) - 1)) t366 _ A4.out).mono ?_); rintro e w' ⟨rfl, ⟨nd, rfl⟩⟩; refine ⟨_, rfl, ?_⟩))
 go_ret
 exact ⟨et, by repeat (first | exact Drawn0.refl _ | apply Drawn0.step)⟩
def spec_l3Node.f (l0 : List (S26)) (a1 : Int) : Option (Bool) := (spec_l2Symbol.f l0 a1).bind fun t367 => (if t367 = true then (some true) else ((spec_l1In.f a1 (-12) (-1)).bind fun t368 => (some t368)))
set_option maxHeartbeats 8000000 in
set_option maxRecDepth 100000 in
theorem spec_l3Node.calls (A0 : Option Addr) (l0 : List (S26)) (a1 : Int) (r : Bool) (w : World) (hr0 : Kd.C k26 w A0 l0.length l0) (h : spec_l3Node.f l0 a1 = some r) :
  Calls Tryz.prog 65 #[.pointer A0, .int .i64 a1] w fun e w' => e = .returned (.bool r) ∧ Drawn0 w w' := by
 have HR0 := am hr0
 clear hr0
 have H : ((spec_l2Symbol.f l0 a1).bind fun t367 => (if t367 = true then (some true) else ((spec_l1In.f a1 (-12) (-1)).bind fun t368 => (some t368)))) = some r := h
 clear h
 obtain ⟨t367, A3, H⟩ := ob H
 try dsimp only at H
 by_cases c4 : t367 = true
 ·subst c4
  rw [if_pos rfl] at H
  obtain rfl := Option.some.inj H
  go_enter Tryz.func65, Tryz.ntmps65
  go_wp2_with (first | (refine gl (some 7) Tryz.func92 rfl #[.pointer A0, .int .i64 a1] ?_; refine (spec_l2Symbol.calls _ l0 a1 true _ (cq HR0.out) A3.out).mono ?_; rintro e w' ⟨rfl, ⟨nd, rfl⟩⟩; refine ⟨_, rfl, ?_⟩))
  go_ret
  exact ⟨et, by repeat (first | exact Drawn0.refl _ | apply Drawn0.step)⟩
 ·replace c4 := Bool.eq_false_iff.mpr c4
  subst c4
  rw [if_neg (show ¬ (false = true) by decide)] at H
  obtain ⟨t368, A5, H⟩ := ob H
  try dsimp only at H
  obtain rfl := Option.some.inj H
  go_enter Tryz.func65, Tryz.ntmps65
  go_wp2_with (first | (refine gl (some 7) Tryz.func92 rfl #[.pointer A0, .int .i64 a1] ?_; refine (spec_l2Symbol.calls _ l0 a1 false _ (cq HR0.out) A3.out).mono ?_; rintro e w' ⟨rfl, ⟨nd, rfl⟩⟩; refine ⟨_, rfl, ?_⟩) | (go_at_call 84; refine (spec_l1In.calls a1 (-12) (-1) t368 _ A5.out).mono ?_; rintro e w' ⟨rfl, ⟨nd, rfl⟩⟩))
  go_ret
  exact ⟨et, by repeat (first | exact Drawn0.refl _ | apply Drawn0.step)⟩
end Go.Proofs.YtbdpnkpienpnaaaGreatDoor.P
namespace Go.Proofs.YtbdpnkpienpnaaaGreatDoor.P
open Go.RowKit Go.Proofs.YtbdpnkpienpnaaaGreatDoorW.PrintWords Go.Proofs.YtbdpnkpienpnaaaGreatDoorW.PrintLast Go.Proofs.YtbdpnkpienpnaaaGreatDoorW.PrintMore
attribute [local go_sem] Ae7 Ae6 Af7 Af8 Ad8 Ad9 Ae2 Ae4   -- for this text's walks alone
set_option linter.unusedVariables false
set_option linter.unusedSimpArgs false
mutual
def spec_l3End.l0 : Nat → List (S26) → List Int → Int → Int → Int → Option (Int)
 | 0, _, _, _, _, _ => none
 | k + 1, x0, x1, x2, x7, x8 => if 0 < (x0.length : Int) then (if 0 ≤ x2 then (if x2 < (x1.length : Int) then (if 0 ≤ (rd x1 x2) then (if (rd x1 x2) < (((Ac3 x0 0).f0).length : Int) then (if x8 < ((Aa7 ((Ac3 x0 0).f0) (rd x1 x2)).f1) then ((spec_l3End.f k x0 x1 x7).bind fun t374 => (if t374 < 0 then (some (-1)) else (spec_l3End.l0 k x0 x1 x2 t374 (wrap64 (x8 + 1))))) else (some x7)) else (none)) else (none)) else (none)) else (none)) else (none)
def spec_l3End.f : Nat → List (S26) → List Int → Int → Option (Int)
 | 0, _, _, _ => none
 | k + 1, l0, l1, a2 => if a2 ≥ (l1.length : Int) then (some (-1)) else (if 0 ≤ a2 then (if a2 < (l1.length : Int) then (if (rd l1 a2) < 0 then (some (wrap64 (a2 + 1))) else (spec_l3End.l0 k l0 l1 a2 (wrap64 (a2 + 1)) 0)) else (none)) else (none))
end
set_option maxHeartbeats 8000000 in
set_option maxRecDepth 100000 in
theorem spec_l3End.calls (k : Nat) : ∀ (A0 : Option Addr) (l0 : List (S26)) (A1 : Option Addr) (c1 : Nat) (l1 : List Int) (a2 : Int) (r : Int) (w : World) (hr0 : Kd.C k26 w A0 l0.length l0) (hr1 : Kd.C (Kd.int .i64) w A1 l1.length l1) (hc1 : l1.length ≤ c1) (h : spec_l3End.f k l0 l1 a2 = some r),
  Calls Tryz.prog 66 #[.pointer A0, .slice A1 l1.length c1, .int .i64 a2] w fun e w' => e = .returned (.int .i64 r) ∧ Drawn0 w w' := by
 induction k using Nat.strongRecOn with
 | _ k ih =>
 intro A0 l0 A1 c1 l1 a2 r w hr0 hr1 hc1 h
 cases k with
 | zero => exact absurd h (by simp [spec_l3End.f])
 | succ k =>
 simp only [spec_l3End.f] at h
 have HR0 := am hr0
 clear hr0
 have HR1 := am hr1
 have HC1 := am hc1
 clear hr1 hc1
 have H : (if a2 ≥ (l1.length : Int) then (some (-1)) else (if 0 ≤ a2 then (if a2 < (l1.length : Int) then (if (rd l1 a2) < 0 then (some (wrap64 (a2 + 1))) else (spec_l3End.l0 k l0 l1 a2 (wrap64 (a2 + 1)) 0)) else (none)) else (none))) = some r := h
 clear h
 by_cases c4 : a2 ≥ (l1.length : Int)
 ·rw [if_pos c4] at H
  have c4b0 : decide ((l1.length : Int) ≤ a2) = true := decide_eq_true c4
  clear c4
  obtain rfl := Option.some.inj H
  go_enter Tryz.func66, Tryz.ntmps66
  go_wp2
  repeat (go_quiet (fail); try go_wp2)
  go_ret
  exact ⟨et, by repeat (first | exact Drawn0.refl _ | apply Drawn0.step)⟩
 ·rw [if_neg c4] at H
  have c4b0 : decide ((l1.length : Int) ≤ a2) = false := decide_eq_false c4
  clear c4
  obtain ⟨c5b0, H⟩ := ife H
  obtain ⟨c6b0, H⟩ := ife H
  by_cases c7 : (rd l1 a2) < 0
  ·rw [if_pos c7] at H
   have c7b0 : decide ((rd l1 a2) < 0) = true := decide_eq_true c7
   clear c7
   obtain rfl := Option.some.inj H
   have p369 : 0 ≤ (a2 : Int) := od
   have q369 : a2 < (l1.length : Int) := od
   obtain ⟨ad369, e369, hx369_0⟩ := Kd.at_int HR1.out a2 p369 q369
   cases e369
   replace p369 := eq_true p369
   replace q369 := eq_true q369
   go_enter Tryz.func66, Tryz.ntmps66
   go_wp2
   repeat (go_quiet (fail); try go_wp2)
   go_ret
   exact ⟨et, by repeat (first | exact Drawn0.refl _ | apply Drawn0.step)⟩
  ·rw [if_neg c7] at H
   have c7b0 : decide ((rd l1 a2) < 0) = false := decide_eq_false c7
   clear c7
   have H' := am H
   clear H
   have p369 : 0 ≤ (a2 : Int) := od
   have q369 : a2 < (l1.length : Int) := od
   obtain ⟨ad369, e369, hx369_0⟩ := Kd.at_int HR1.out a2 p369 q369
   cases e369
   replace p369 := eq_true p369
   replace q369 := eq_true q369
   go_enter Tryz.func66, Tryz.ntmps66
   go_wp2
   repeat (go_quiet (fail); try go_wp2)
   go_loopg [7, 8] k (fun kq v7 v8 w' => ∃ (x7_1 : Int) (x8_1 : Int), v7 = .int .i64 x7_1 ∧ v8 = .int .i64 x8_1 ∧ Aside0 (spec_l3End.l0 kq l0 l1 a2 x7_1 x8_1 = some r) ∧ Aside0 (kq ≤ k) ∧ Drawn0 w w')
   case atStart => exact ⟨(wrap64 (a2 + 1)), (0), et, et, H', ⟨Nat.le_refl _⟩, by repeat (first | exact Drawn0.refl _ | apply Drawn0.step)⟩
   case round =>
    clear H'
    try clear c1; try clear c4; try clear c4b0; try clear c5b0; try clear c6b0; try clear c7; try clear c7b0; try clear hx369_0; try clear p369; try clear q369
    obtain ⟨x7_1, x8_1, rfl, rfl, HA, HK1, ⟨m1, rfl⟩⟩ := hrel
    cases gk with
    | zero => exact absurd HA.out (by simp [spec_l3End.l0])
    | succ k1 =>
     have H := HA.out
     clear HA
     simp only [spec_l3End.l0] at H
     obtain ⟨c8, H⟩ := ifs H
     have c8b0 : decide (0 < (l0.length : Int)) = true := decide_eq_true c8
     have c8b1 : decide (0 < l0.length) = true := decide_eq_true (by omega)
     clear c8
     obtain ⟨c9b0, H⟩ := ife H
     obtain ⟨c10b0, H⟩ := ife H
     obtain ⟨c11b0, H⟩ := ife H
     obtain ⟨c12b0, H⟩ := ife H
     by_cases c13 : x8_1 < ((Aa7 ((Ac3 l0 0).f0) (rd l1 a2)).f1)
     ·rw [if_pos c13] at H
      have c13b0 : decide (x8_1 < ((Aa7 ((Ac3 l0 0).f0) (rd l1 a2)).f1)) = true := decide_eq_true c13
      clear c13
      obtain ⟨t374, A14, H⟩ := ob H
      try dsimp only at H
      by_cases c15 : t374 < 0
      ·rw [if_pos c15] at H
       have c15b0 : decide (t374 < 0) = true := decide_eq_true c15
       clear c15
       obtain rfl := Option.some.inj H
       have p370 : 0 ≤ (0 : Int) := (by omega)
       have q370 : 0 < (l0.length : Int) := od
       obtain ⟨ad370, A370_0, c370_0, e370, hx370_0, hl370_0, hi370_0⟩ := Af2 HR0.out 0 p370 q370
       cases e370
       have qi370 : (0 < l0.length) = True := eq_true (by omega)
       (try rw [show ((0 : Int)).toNat = 0 from rfl] at hx370_0)
       (try rw [Addr.add_zero'] at hx370_0)
       have HR370_0 := am hi370_0
       have HC370_0 := am hl370_0
       clear hi370_0 hl370_0
       replace p370 := eq_true p370
       replace q370 := eq_true q370
       have p371 : 0 ≤ (0 : Int) := (by omega)
       have q371 : 0 < (l0.length : Int) := od
       obtain ⟨ad371, A371_0, c371_0, e371, hx371_0, hl371_0, hi371_0⟩ := Af2 HR0.out 0 p371 q371
       obtain rfl : ad370 = ad371 := (by injection e371)
       have qi371 : (0 < l0.length) = True := eq_true (by omega)
       (try rw [show ((0 : Int)).toNat = 0 from rfl] at hx371_0)
       (try rw [Addr.add_zero'] at hx371_0)
       have HR371_0 := am hi371_0
       have HC371_0 := am hl371_0
       clear hi371_0 hl371_0
       replace p371 := eq_true p371
       replace q371 := eq_true q371
       have ea_ := Option.some.inj (hx370_0.symm.trans hx371_0)
       injection ea_ with ea_ en_ ec_
       subst ea_
       subst ec_
       clear en_
       have p372 : 0 ≤ (a2 : Int) := od
       have q372 : a2 < (l1.length : Int) := od
       obtain ⟨ad372, e372, hx372_0⟩ := Kd.at_int HR1.out a2 p372 q372
       obtain rfl : ad369 = ad372 := (by injection e372)
       replace p372 := eq_true p372
       replace q372 := eq_true q372
       have p373 : 0 ≤ ((rd l1 a2) : Int) := od
       have q373 : (rd l1 a2) < (((Ac3 l0 0).f0).length : Int) := od
       obtain ⟨ad373, e373, hx373_0, hx373_1⟩ := Ae9 HR371_0.out (rd l1 a2) p373 q373
       cases e373
       replace p373 := eq_true p373
       replace q373 := eq_true q373
       go_wp2_with (first | (go_at_call 66; refine (ih k1 (by have := HK1.out; omega) _ l0 _ _ l1 x7_1 t374 _ (cq HR0.out) (cq HR1.out) HC1.out A14.out).mono ?_; rintro e w' ⟨rfl, ⟨nd, rfl⟩⟩; (try first | exact ⟨rfl, _, World.drewN_drewN _ _ _⟩ | exact ⟨rfl, _, Eq.trans (World.drewN_drewN _ _ _) (congrArg (World.drewN _) (Nat.add_assoc _ _ _))⟩)))
       repeat (go_quiet (first | (go_at_call 66; refine (ih k1 (by have := HK1.out; omega) _ l0 _ _ l1 x7_1 t374 _ (cq HR0.out) (cq HR1.out) HC1.out A14.out).mono ?_; rintro e w' ⟨rfl, ⟨nd, rfl⟩⟩; (try first | exact ⟨rfl, _, World.drewN_drewN _ _ _⟩ | exact ⟨rfl, _, Eq.trans (World.drewN_drewN _ _ _) (congrArg (World.drewN _) (Nat.add_assoc _ _ _))⟩))); try go_wp2_with (first | (go_at_call 66; refine (ih k1 (by have := HK1.out; omega) _ l0 _ _ l1 x7_1 t374 _ (cq HR0.out) (cq HR1.out) HC1.out A14.out).mono ?_; rintro e w' ⟨rfl, ⟨nd, rfl⟩⟩; (try first | exact ⟨rfl, _, World.drewN_drewN _ _ _⟩ | exact ⟨rfl, _, Eq.trans (World.drewN_drewN _ _ _) (congrArg (World.drewN _) (Nat.add_assoc _ _ _))⟩))))
       go_ret
       exact ⟨et, by repeat (first | exact Drawn0.refl _ | apply Drawn0.step)⟩
      ·rw [if_neg c15] at H
       have c15b0 : decide (t374 < 0) = false := decide_eq_false c15
       clear c15
       have H' := am H
       clear H
       have p370 : 0 ≤ (0 : Int) := (by omega)
       have q370 : 0 < (l0.length : Int) := od
       obtain ⟨ad370, A370_0, c370_0, e370, hx370_0, hl370_0, hi370_0⟩ := Af2 HR0.out 0 p370 q370
       cases e370
       have qi370 : (0 < l0.length) = True := eq_true (by omega)
       (try rw [show ((0 : Int)).toNat = 0 from rfl] at hx370_0)
       (try rw [Addr.add_zero'] at hx370_0)
       have HR370_0 := am hi370_0
       have HC370_0 := am hl370_0
       clear hi370_0 hl370_0
       replace p370 := eq_true p370
       replace q370 := eq_true q370
       have p371 : 0 ≤ (0 : Int) := (by omega)
       have q371 : 0 < (l0.length : Int) := od
       obtain ⟨ad371, A371_0, c371_0, e371, hx371_0, hl371_0, hi371_0⟩ := Af2 HR0.out 0 p371 q371
       obtain rfl : ad370 = ad371 := (by injection e371)
       have qi371 : (0 < l0.length) = True := eq_true (by omega)
       (try rw [show ((0 : Int)).toNat = 0 from rfl] at hx371_0)
       (try rw [Addr.add_zero'] at hx371_0)
       have HR371_0 := am hi371_0
       have HC371_0 := am hl371_0
       clear hi371_0 hl371_0
       replace p371 := eq_true p371
       replace q371 := eq_true q371
       have ea_ := Option.some.inj (hx370_0.symm.trans hx371_0)
       injection ea_ with ea_ en_ ec_
       subst ea_
       subst ec_
       clear en_
       have p372 : 0 ≤ (a2 : Int) := od
       have q372 : a2 < (l1.length : Int) := od
       obtain ⟨ad372, e372, hx372_0⟩ := Kd.at_int HR1.out a2 p372 q372
       obtain rfl : ad369 = ad372 := (by injection e372)
       replace p372 := eq_true p372
       replace q372 := eq_true q372
       have p373 : 0 ≤ ((rd l1 a2) : Int) := od
       have q373 : (rd l1 a2) < (((Ac3 l0 0).f0).length : Int) := od
       obtain ⟨ad373, e373, hx373_0, hx373_1⟩ := Ae9 HR371_0.out (rd l1 a2) p373 q373
       cases e373
       replace p373 := eq_true p373
       replace q373 := eq_true q373
       go_wp2_with (first | (go_at_call 66; refine (ih k1 (by have := HK1.out; omega) _ l0 _ _ l1 x7_1 t374 _ (cq HR0.out) (cq HR1.out) HC1.out A14.out).mono ?_; rintro e w' ⟨rfl, ⟨nd, rfl⟩⟩; (try first | exact ⟨rfl, _, World.drewN_drewN _ _ _⟩ | exact ⟨rfl, _, Eq.trans (World.drewN_drewN _ _ _) (congrArg (World.drewN _) (Nat.add_assoc _ _ _))⟩)))
       repeat (go_quiet (first | (go_at_call 66; refine (ih k1 (by have := HK1.out; omega) _ l0 _ _ l1 x7_1 t374 _ (cq HR0.out) (cq HR1.out) HC1.out A14.out).mono ?_; rintro e w' ⟨rfl, ⟨nd, rfl⟩⟩; (try first | exact ⟨rfl, _, World.drewN_drewN _ _ _⟩ | exact ⟨rfl, _, Eq.trans (World.drewN_drewN _ _ _) (congrArg (World.drewN _) (Nat.add_assoc _ _ _))⟩))); try go_wp2_with (first | (go_at_call 66; refine (ih k1 (by have := HK1.out; omega) _ l0 _ _ l1 x7_1 t374 _ (cq HR0.out) (cq HR1.out) HC1.out A14.out).mono ?_; rintro e w' ⟨rfl, ⟨nd, rfl⟩⟩; (try first | exact ⟨rfl, _, World.drewN_drewN _ _ _⟩ | exact ⟨rfl, _, Eq.trans (World.drewN_drewN _ _ _) (congrArg (World.drewN _) (Nat.add_assoc _ _ _))⟩))))
       go_roundg k1
       case measure => have := HK1.out; omega
       case rel => exact ⟨(t374), (wrap64 (x8_1 + 1)), et, et, H', ⟨by have := HK1.out; omega⟩, by repeat (first | exact Drawn0.refl _ | apply Drawn0.step)⟩
     ·rw [if_neg c13] at H
      have c13b0 : decide (x8_1 < ((Aa7 ((Ac3 l0 0).f0) (rd l1 a2)).f1)) = false := decide_eq_false c13
      clear c13
      obtain rfl := Option.some.inj H
      have p370 : 0 ≤ (0 : Int) := (by omega)
      have q370 : 0 < (l0.length : Int) := od
      obtain ⟨ad370, A370_0, c370_0, e370, hx370_0, hl370_0, hi370_0⟩ := Af2 HR0.out 0 p370 q370
      cases e370
      have qi370 : (0 < l0.length) = True := eq_true (by omega)
      (try rw [show ((0 : Int)).toNat = 0 from rfl] at hx370_0)
      (try rw [Addr.add_zero'] at hx370_0)
      have HR370_0 := am hi370_0
      have HC370_0 := am hl370_0
      clear hi370_0 hl370_0
      replace p370 := eq_true p370
      replace q370 := eq_true q370
      have p371 : 0 ≤ (0 : Int) := (by omega)
      have q371 : 0 < (l0.length : Int) := od
      obtain ⟨ad371, A371_0, c371_0, e371, hx371_0, hl371_0, hi371_0⟩ := Af2 HR0.out 0 p371 q371
      obtain rfl : ad370 = ad371 := (by injection e371)
      have qi371 : (0 < l0.length) = True := eq_true (by omega)
      (try rw [show ((0 : Int)).toNat = 0 from rfl] at hx371_0)
      (try rw [Addr.add_zero'] at hx371_0)
      have HR371_0 := am hi371_0
      have HC371_0 := am hl371_0
      clear hi371_0 hl371_0
      replace p371 := eq_true p371
      replace q371 := eq_true q371
      have ea_ := Option.some.inj (hx370_0.symm.trans hx371_0)
      injection ea_ with ea_ en_ ec_
      subst ea_
      subst ec_
      clear en_
      have p372 : 0 ≤ (a2 : Int) := od
      have q372 : a2 < (l1.length : Int) := od
      obtain ⟨ad372, e372, hx372_0⟩ := Kd.at_int HR1.out a2 p372 q372
      obtain rfl : ad369 = ad372 := (by injection e372)
      replace p372 := eq_true p372
      replace q372 := eq_true q372
      have p373 : 0 ≤ ((rd l1 a2) : Int) := od
      have q373 : (rd l1 a2) < (((Ac3 l0 0).f0).length : Int) := od
      obtain ⟨ad373, e373, hx373_0, hx373_1⟩ := Ae9 HR371_0.out (rd l1 a2) p373 q373
      cases e373
      replace p373 := eq_true p373
      replace q373 := eq_true q373
      go_wp2
      repeat (go_quiet (fail); try go_wp2)
      go_ret
      exact ⟨et, by repeat (first | exact Drawn0.refl _ | apply Drawn0.step)⟩
mutual
def spec_l3Fault.j0 : Nat → List (S26) → List Int → Bool → Option (Int)
 | 0, _, _, _ => none
 | k + 1, x0, x1, x13 => if x13 = true then (some 2) else (spec_l3Fault.l0 k x0 x1 0)
def spec_l3Fault.l0 : Nat → List (S26) → List Int → Int → Option (Int)
 | 0, _, _, _ => none
 | k + 1, x0, x1, x5 => if x5 < (x1.length : Int) then (if 0 ≤ x5 then ((spec_l3Node.f x0 (rd x1 x5)).bind fun t376 => (if t376 = true then (spec_l3Fault.l0 k x0 x1 (wrap64 (x5 + 1))) else (some 3))) else (none)) else ((spec_l3End.f k x0 x1 0).bind fun t377 => (if t377 = (x1.length : Int) then (some 0) else (some 1)))
end
def spec_l3Fault.f (k : Nat) (l0 : List (S26)) (l1 : List Int) : Option (Int) := if (l1.length : Int) < 1 then (spec_l3Fault.j0 k l0 l1 true) else (spec_l3Fault.j0 k l0 l1 (decide ((l1.length : Int) > 24)))
set_option maxHeartbeats 8000000 in
set_option maxRecDepth 100000 in
theorem spec_l3Fault.calls (k : Nat) (A0 : Option Addr) (l0 : List (S26)) (A1 : Option Addr) (c1 : Nat) (l1 : List Int) (r : Int) (w : World) (hr0 : Kd.C k26 w A0 l0.length l0) (hr1 : Kd.C (Kd.int .i64) w A1 l1.length l1) (hc1 : l1.length ≤ c1) (h : spec_l3Fault.f k l0 l1 = some r) :
  Calls Tryz.prog 31 #[.pointer A0, .slice A1 l1.length c1] w fun e w' => e = .returned (.int .i64 r) ∧ Drawn0 w w' := by
 have HR0 := am hr0
 clear hr0
 have HR1 := am hr1
 have HC1 := am hc1
 clear hr1 hc1
 have H : (if (l1.length : Int) < 1 then (spec_l3Fault.j0 k l0 l1 true) else (spec_l3Fault.j0 k l0 l1 (decide ((l1.length : Int) > 24)))) = some r := h
 clear h
 have HC3 := am H
 clear H
 go_enter Tryz.func31, Tryz.ntmps31
 go_upto_region 1 with (fail)
 go_cut [13] (fun v13 wc => ∃ (kq : Nat) (x13_2 : Bool), v13 = .bool x13_2 ∧ Aside0 (spec_l3Fault.j0 kq l0 l1 x13_2 = some r) ∧ Aside0 (kq ≤ k) ∧ Drawn0 w wc)
 case first =>
  have H := HC3.out
  clear HC3
  by_cases c4 : (l1.length : Int) < 1
  ·rw [if_pos c4] at H
   have c4b0 : decide ((l1.length : Int) < 1) = true := decide_eq_true c4
   have c4b1 : decide (l1.length < 1) = true := decide_eq_true (by omega)
   clear c4
   (first | rw [c4b0] | (simp only [Ag7, Ah2]; rw [c4b0]) | skip)
   have H' := am H
   clear H
   go_wp2
   go_meet
   case rel => exact ⟨_, (true), et, H', ⟨by first | omega | exact Nat.le_refl _⟩, by repeat (first | exact Drawn0.refl _ | apply Drawn0.step)⟩
  ·rw [if_neg c4] at H
   have c4b0 : decide ((l1.length : Int) < 1) = false := decide_eq_false c4
   have c4b1 : decide (l1.length < 1) = false := decide_eq_false (by omega)
   clear c4
   (first | rw [c4b0] | (simp only [Ag7, Ah2]; rw [c4b0]) | skip)
   have H' := am H
   clear H
   go_wp2
   go_meet
   case rel => exact ⟨_, (decide ((l1.length : Int) > 24)), et, H', ⟨by first | omega | exact Nat.le_refl _⟩, by repeat (first | exact Drawn0.refl _ | apply Drawn0.step)⟩
 case rest =>
  clear HC3
  try clear c1; try clear c4; try clear c4b0; try clear c4b1
  obtain ⟨kq, x13_2, rfl, HA, HJ2, ⟨mc2, rfl⟩⟩ := hcut
  cases kq with
  | zero => exact absurd HA.out (by simp [spec_l3Fault.j0])
  | succ kj2 =>
   have H := HA.out
   clear HA
   simp only [spec_l3Fault.j0] at H
   by_cases c5 : x13_2 = true
   ·subst c5
    rw [if_pos rfl] at H
    obtain rfl := Option.some.inj H
    go_wp2
    go_ret
    exact ⟨et, by repeat (first | exact Drawn0.refl _ | apply Drawn0.step)⟩
   ·replace c5 := Bool.eq_false_iff.mpr c5
    subst c5
    rw [if_neg (show ¬ (false = true) by decide)] at H
    have H' := am H
    clear H
    go_wp2
    go_loopg [5] kj2 (fun kq v5 w' => ∃ (x5_2 : Int), v5 = .int .i64 x5_2 ∧ Aside0 (spec_l3Fault.l0 kq l0 l1 x5_2 = some r) ∧ Aside0 (kq ≤ kj2) ∧ Drawn0 w w')
    case atStart => exact ⟨(0), et, H', ⟨Nat.le_refl _⟩, by repeat (first | exact Drawn0.refl _ | apply Drawn0.step)⟩
    case round =>
     clear H'
     try clear c1; try clear c4; try clear c4b0; try clear c4b1; try clear c5
     obtain ⟨x5_2, rfl, HA, HK2, ⟨m2, rfl⟩⟩ := hrel
     cases gk with
     | zero => exact absurd HA.out (by simp [spec_l3Fault.l0])
     | succ k2 =>
      have H := HA.out
      clear HA
      simp only [spec_l3Fault.l0] at H
      by_cases c6 : x5_2 < (l1.length : Int)
      ·rw [if_pos c6] at H
       have c6b0 : decide (x5_2 < (l1.length : Int)) = true := decide_eq_true c6
       clear c6
       obtain ⟨c7b0, H⟩ := ife H
       obtain ⟨t376, A8, H⟩ := ob H
       try dsimp only at H
       by_cases c9 : t376 = true
       ·subst c9
        rw [if_pos rfl] at H
        have H' := am H
        clear H
        have p375 : 0 ≤ (x5_2 : Int) := od
        have q375 : x5_2 < (l1.length : Int) := od
        obtain ⟨ad375, e375, hx375_0⟩ := Kd.at_int HR1.out x5_2 p375 q375
        cases e375
        replace p375 := eq_true p375
        replace q375 := eq_true q375
        go_wp2_with (first | (refine gl (some 25) Tryz.func65 rfl #[.pointer A0, .int .i64 (rd l1 x5_2)] ?_; refine (spec_l3Node.calls _ l0 (rd l1 x5_2) true _ (cq HR0.out) A8.out).mono ?_; rintro e w' ⟨rfl, ⟨nd, rfl⟩⟩; refine ⟨_, rfl, ?_⟩))
        go_roundg k2
        case measure => have := HJ2.out; have := HK2.out; omega
        case rel => exact ⟨(wrap64 (x5_2 + 1)), et, H', ⟨by have := HJ2.out; have := HK2.out; omega⟩, by repeat (first | exact Drawn0.refl _ | apply Drawn0.step)⟩
       ·replace c9 := Bool.eq_false_iff.mpr c9
        subst c9
        rw [if_neg (show ¬ (false = true) by decide)] at H
        obtain rfl := Option.some.inj H
        have p375 : 0 ≤ (x5_2 : Int) := od
        have q375 : x5_2 < (l1.length : Int) := od
        obtain ⟨ad375, e375, hx375_0⟩ := Kd.at_int HR1.out x5_2 p375 q375
        cases e375
        replace p375 := eq_true p375
        replace q375 := eq_true q375
        go_wp2_with (first | (refine gl (some 25) Tryz.func65 rfl #[.pointer A0, .int .i64 (rd l1 x5_2)] ?_; refine (spec_l3Node.calls _ l0 (rd l1 x5_2) false _ (cq HR0.out) A8.out).mono ?_; rintro e w' ⟨rfl, ⟨nd, rfl⟩⟩; refine ⟨_, rfl, ?_⟩))
        go_ret
        exact ⟨et, by repeat (first | exact Drawn0.refl _ | apply Drawn0.step)⟩
      ·rw [if_neg c6] at H
       have c6b0 : decide (x5_2 < (l1.length : Int)) = false := decide_eq_false c6
       clear c6
       obtain ⟨t377, A10, H⟩ := ob H
       try dsimp only at H
       by_cases c11 : t377 = (l1.length : Int)
       ·rw [if_pos c11] at H
        obtain ⟨c11b0, c11b1⟩ := bqt c11; clear c11
        obtain rfl := Option.some.inj H
        go_wp2_with (first | (refine gl (some 29) Tryz.func66 rfl #[.pointer A0, .slice A1 l1.length c1, .int .i64 0] ?_; refine (spec_l3End.calls k2 _ l0 _ _ l1 0 t377 _ (cq HR0.out) (cq HR1.out) HC1.out A10.out).mono ?_; rintro e w' ⟨rfl, ⟨nd, rfl⟩⟩; refine ⟨_, rfl, ?_⟩))
        go_ret
        exact ⟨et, by repeat (first | exact Drawn0.refl _ | apply Drawn0.step)⟩
       ·rw [if_neg c11] at H
        obtain ⟨c11b0, c11b1⟩ := bqf c11
        obtain rfl := Option.some.inj H
        go_wp2_with (first | (refine gl (some 29) Tryz.func66 rfl #[.pointer A0, .slice A1 l1.length c1, .int .i64 0] ?_; refine (spec_l3End.calls k2 _ l0 _ _ l1 0 t377 _ (cq HR0.out) (cq HR1.out) HC1.out A10.out).mono ?_; rintro e w' ⟨rfl, ⟨nd, rfl⟩⟩; refine ⟨_, rfl, ?_⟩))
        go_ret
        exact ⟨et, by repeat (first | exact Drawn0.refl _ | apply Drawn0.step)⟩
def spec_TermFault.f (k : Nat) (l0_0 : List (S90)) (l1 : List Int) : Option (Int) := (spec_SignatureFault.f k l0_0).bind fun t379 => (if t379 = 0 then ((spec_l3Fault.f k [(⟨l0_0⟩ : S26)] l1).bind fun t380 => (some t380)) else (some t379))
set_option maxHeartbeats 8000000 in
set_option maxRecDepth 100000 in
theorem spec_TermFault.calls (k : Nat) (A0_0 : Option Addr) (c0_0 : Nat) (l0_0 : List (S90)) (A1 : Option Addr) (c1 : Nat) (l1 : List Int) (r : Int) (w : World) (hr0_0 : Kd.C k90 w A0_0 l0_0.length l0_0) (hc0_0 : l0_0.length ≤ c0_0) (hr1 : Kd.C (Kd.int .i64) w A1 l1.length l1) (hc1 : l1.length ≤ c1) (h : spec_TermFault.f k l0_0 l1 = some r) :
  Calls Tryz.prog 30 #[.agg #[.slice A0_0 l0_0.length c0_0], .slice A1 l1.length c1] w fun e w' => e = .returned (.int .i64 r) ∧ Below w.heap.size w w' := by
 have hu26 := Tryz.underlying26
 have HR0_0 := am hr0_0
 have HC0_0 := am hc0_0
 clear hr0_0 hc0_0
 have HR1 := am hr1
 have HC1 := am hc1
 clear hr1 hc1
 have HB := am (Below.refl w.heap.size w)
 have H : ((spec_SignatureFault.f k l0_0).bind fun t379 => (if t379 = 0 then ((spec_l3Fault.f k [(⟨l0_0⟩ : S26)] l1).bind fun t380 => (some t380)) else (some t379))) = some r := h
 clear h
 obtain ⟨t379, A3, H⟩ := ob H
 try dsimp only at H
 by_cases c4 : t379 = 0
 ·rw [if_pos c4] at H
  obtain ⟨c4b0, c4b1⟩ := bqt c4; clear c4
  obtain ⟨t380, A5, H⟩ := ob H
  try dsimp only at H
  obtain rfl := Option.some.inj H
  go_enter Tryz.func30, Tryz.ntmps30
  go_wp2_with (first | (refine bx 2 rfl #[.slice A0_0 l0_0.length c0_0] 26 ?_; intro gb378 hg w6 hbox hb; have BK378 := am (hbox); have GW378 := am (bz hg (hq HB.out)); replace HB := sb HB hb; have GE378 := GW378; clear hb hbox hg; have hcz7_0 : w6.cell? ⟨gb378, 0, none⟩ = some (.slice A0_0 l0_0.length c0_0) := (Aa0 BK378.out 0).trans rfl; have hfz7_0 := Aa1 BK378.out 0) | (refine gl (some 7) Tryz.func49 rfl #[.agg #[.slice A0_0 l0_0.length c0_0]] ?_; refine (spec_SignatureFault.calls k _ _ l0_0 t379 _ (cq (Kd.C_below HR0_0.out HB.out)) HC0_0.out A3.out).mono ?_; rintro e w8 ⟨rfl, hb⟩; refine ⟨_, rfl, ?_⟩; replace BK378 := bb BK378 hb; replace HB := sb HB hb; (try clear hb)) | (refine gl (some 12) Tryz.func31 rfl #[.pointer (some ⟨gb378, 0, none⟩), .slice A1 l1.length c1] ?_; refine (spec_l3Fault.calls k _ [(⟨l0_0⟩ : S26)] _ _ l1 t380 _ (Ak3 (bq BK378.out) (cq (Kd.C_below HR0_0.out HB.out)) (by exact HC0_0.out)) (cq (Kd.C_below HR1.out HB.out)) HC1.out A5.out).mono ?_; rintro e w' ⟨rfl, ⟨nd, rfl⟩⟩; refine ⟨_, rfl, ?_⟩))
  go_ret
  exact ⟨er, hs HB.out⟩
 ·rw [if_neg c4] at H
  obtain ⟨c4b0, c4b1⟩ := bqf c4
  obtain rfl := Option.some.inj H
  go_enter Tryz.func30, Tryz.ntmps30
  go_wp2_with (first | (refine bx 2 rfl #[.slice A0_0 l0_0.length c0_0] 26 ?_; intro gb378 hg w9 hbox hb; have BK378 := am (hbox); have GW378 := am (bz hg (hq HB.out)); replace HB := sb HB hb; have GE378 := GW378; clear hb hbox hg; have hcz10_0 : w9.cell? ⟨gb378, 0, none⟩ = some (.slice A0_0 l0_0.length c0_0) := (Aa0 BK378.out 0).trans rfl; have hfz10_0 := Aa1 BK378.out 0) | (refine gl (some 7) Tryz.func49 rfl #[.agg #[.slice A0_0 l0_0.length c0_0]] ?_; refine (spec_SignatureFault.calls k _ _ l0_0 t379 _ (cq (Kd.C_below HR0_0.out HB.out)) HC0_0.out A3.out).mono ?_; rintro e w11 ⟨rfl, hb⟩; refine ⟨_, rfl, ?_⟩; replace BK378 := bb BK378 hb; replace HB := sb HB hb; (try clear hb)))
  go_ret
  exact ⟨er, hs HB.out⟩
def spec_l1Ints.f (l0 : List Int) : Option (List Int) := (some (([] : List Int) : List Int)).bind fun y381 => (if y381.length + l0.length < 17592186044416 then (some (y381 ++ l0)) else (none))
set_option maxHeartbeats 8000000 in
set_option maxRecDepth 100000 in
theorem spec_l1Ints.calls (A0 : Option Addr) (c0 : Nat) (l0 : List Int) (r : List Int) (w : World) (hr0 : Kd.C (Kd.int .i64) w A0 l0.length l0) (hc0 : l0.length ≤ c0) (h : spec_l1Ints.f l0 = some r) :
  Calls Tryz.prog 67 #[.slice A0 l0.length c0] w fun e w' => ∃ v0_ : Value, e = .returned (v0_) ∧ Kd.R (Kd.int .i64) 2 w' w.heap.size (fun _ => True) v0_ r ∧ Below w.heap.size w w' := by
 have HR0 := am hr0
 have HC0 := am hc0
 clear hr0 hc0
 have HB := am (Below.refl w.heap.size w)
 have H : ((some (([] : List Int) : List Int)).bind fun y381 => (if y381.length + l0.length < 17592186044416 then (some (y381 ++ l0)) else (none))) = some r := h
 clear h
 obtain ⟨y381, hy381⟩ : ∃ y_ : List Int, y_ = (([] : List Int)) := ⟨_, rfl⟩
 replace H : (if y381.length + l0.length < 17592186044416 then (some (y381 ++ l0)) else (none)) = some r := by first | (rw [hy381]; with_reducible exact H) | (have H2_ := (Option.bind_some _ _).symm.trans H; rw [hy381]; with_reducible exact H2_) | (have H2_ := (Option.bind_some _ _).symm.trans H; with_reducible exact H2_) | with_reducible exact H | (rw [hy381]; exact H) | exact H
 have Ny381 := am hy381
 clear hy381
 obtain ⟨c2, H⟩ := ifs H
 have LMc2 := am c2
 clear c2
 obtain ⟨y384, hy384⟩ : ∃ y_ : List Int, y_ = (y381 ++ l0) := ⟨_, rfl⟩
 replace H : (some y384) = some r := by first | (rw [hy384]; with_reducible exact H) | (have H2_ := (Option.bind_some _ _).symm.trans H; rw [hy384]; with_reducible exact H2_) | (have H2_ := (Option.bind_some _ _).symm.trans H; with_reducible exact H2_) | with_reducible exact H | (rw [hy384]; exact H) | exact H
 have Ny384 := am hy384
 clear hy384
 obtain rfl := Option.some.inj H
 go_enter Tryz.func67, Tryz.ntmps67
 go_wp2_with (first | (refine rl 3 rfl 2 [] ?_; intro v382 w3 ho4 hb hg_ hnew_; clear hg_ hnew_; (first | rw [← Ny381.out] at ho4 | (simp only [Int.reduceToNat] at ho4; rw [← Ny381.out] at ho4)); have HO383 := am (Kd.R_lower ho4 (Aa8 (hq HB.out))); replace HB := sb HB hb; clear hb ho4) | ((with_reducible refine Ae8 (b := .append) (xs := #[.tmp 3, .tmp 4]) rfl ?_); at_builtin; refine Kd.R_append_rows (Kd.int .i64) (w0 := w) w.heap.size rfl (.tmp 3) (.tmp 4) 27 2 (.int .i64 0) 8 rfl Tryz.underlying27 An3 rfl (by decide) (by omega) v382 y381 l0 _ _ _ (fun _ => True) (fun _ => False) rfl rfl ?aO ?aR (fun _ _ h => h) (fun _ h => h.elim) ?aF ?aB ?aS ?aL ?_; (case aR => exact cq (Kd.C_below HR0.out HB.out)); (case aB => exact (hq HB.out)); (case aF => exact (fun _ _ => trivial)); (case aO => exact (rq HO383.out)); (case aS => exact (Aa8 (hq HB.out))); (case aL => have := LMc2.out; omega); intro v385 w5 ho hb hg hat; rw [← Ny384.out] at ho; replace HB := am (hb); have HO386 := am (ho); clear HO383; clear ho hb hg hat))
 go_ret
 exact ⟨_, er, rq HO386.out, hq HB.out⟩
def spec_l2Rank.l0 : Nat → List Int → Int → Int → Option (Int)
 | 0, _, _, _ => none
 | k + 1, x0, x1, x5 => if x5 < (x0.length : Int) then (if 0 ≤ x5 then (if (rd x0 x5) = x1 then (some x5) else (spec_l2Rank.l0 k x0 x1 (wrap64 (x5 + 1)))) else (none)) else (some (-1))
def spec_l2Rank.f (k : Nat) (l0 : List Int) (a1 : Int) : Option (Int) := spec_l2Rank.l0 k l0 a1 0
set_option maxHeartbeats 8000000 in
set_option maxRecDepth 100000 in
theorem spec_l2Rank.calls (k : Nat) (A0 : Option Addr) (c0 : Nat) (l0 : List Int) (a1 : Int) (r : Int) (w : World) (hr0 : Kd.C (Kd.int .i64) w A0 l0.length l0) (hc0 : l0.length ≤ c0) (h : spec_l2Rank.f k l0 a1 = some r) :
  Calls Tryz.prog 68 #[.slice A0 l0.length c0, .int .i64 a1] w fun e w' => e = .returned (.int .i64 r) ∧ Drawn0 w w' := by
 have HR0 := am hr0
 have HC0 := am hc0
 clear hr0 hc0
 have H : (spec_l2Rank.l0 k l0 a1 0) = some r := h
 clear h
 have H' := am H
 clear H
 go_enter Tryz.func68, Tryz.ntmps68
 go_wp2
 go_loopg [5] k (fun kq v5 w' => ∃ (x5_1 : Int), v5 = .int .i64 x5_1 ∧ Aside0 (spec_l2Rank.l0 kq l0 a1 x5_1 = some r) ∧ Aside0 (kq ≤ k) ∧ Drawn0 w w')
 case atStart => exact ⟨(0), et, H', ⟨Nat.le_refl _⟩, by repeat (first | exact Drawn0.refl _ | apply Drawn0.step)⟩
 case round =>
  clear H'
  obtain ⟨x5_1, rfl, HA, HK1, ⟨m1, rfl⟩⟩ := hrel
  cases gk with
  | zero => exact absurd HA.out (by simp [spec_l2Rank.l0])
  | succ k1 =>
   have H := HA.out
   clear HA
   simp only [spec_l2Rank.l0] at H
   by_cases c3 : x5_1 < (l0.length : Int)
   ·rw [if_pos c3] at H
    have c3b0 : decide (x5_1 < (l0.length : Int)) = true := decide_eq_true c3
    clear c3
    obtain ⟨c4b0, H⟩ := ife H
    by_cases c5 : (rd l0 x5_1) = a1
    ·rw [if_pos c5] at H
     obtain ⟨c5b0, c5b1⟩ := bqt c5; clear c5
     obtain rfl := Option.some.inj H
     have p387 : 0 ≤ (x5_1 : Int) := od
     have q387 : x5_1 < (l0.length : Int) := od
     obtain ⟨ad387, e387, hx387_0⟩ := Kd.at_int HR0.out x5_1 p387 q387
     cases e387
     replace p387 := eq_true p387
     replace q387 := eq_true q387
     go_wp2
     go_ret
     exact ⟨et, by repeat (first | exact Drawn0.refl _ | apply Drawn0.step)⟩
    ·rw [if_neg c5] at H
     obtain ⟨c5b0, c5b1⟩ := bqf c5
     have H' := am H
     clear H
     have p387 : 0 ≤ (x5_1 : Int) := od
     have q387 : x5_1 < (l0.length : Int) := od
     obtain ⟨ad387, e387, hx387_0⟩ := Kd.at_int HR0.out x5_1 p387 q387
     cases e387
     replace p387 := eq_true p387
     replace q387 := eq_true q387
     go_wp2
     go_roundg k1
     case measure => have := HK1.out; omega
     case rel => exact ⟨(wrap64 (x5_1 + 1)), et, H', ⟨by have := HK1.out; omega⟩, by repeat (first | exact Drawn0.refl _ | apply Drawn0.step)⟩
   ·rw [if_neg c3] at H
    have c3b0 : decide (x5_1 < (l0.length : Int)) = false := decide_eq_false c3
    clear c3
    obtain rfl := Option.some.inj H
    go_wp2
    go_ret
    exact ⟨et, by repeat (first | exact Drawn0.refl _ | apply Drawn0.step)⟩
end Go.Proofs.YtbdpnkpienpnaaaGreatDoor.P
