/- A part of the proof of the law FnPlain. -/
import Derived.Laws.StructEq
import Derived.Test.YtbdpnkpienpnaaaGreatDoorCFnPlain0
import Derived.Test.YtbdpnkpienpnaaaGreatDoorCFnPlain1
import Derived.Test.YtbdpnkpienpnaaaGreatDoorCFnPlain2
import Derived.Test.YtbdpnkpienpnaaaGreatDoorCFnPlain3
import Derived.Test.YtbdpnkpienpnaaaGreatDoorCFnPlain4
import Derived.Test.YtbdpnkpienpnaaaGreatDoorCFnPlain5
import Derived.Test.YtbdpnkpienpnaaaGreatDoorCFnPlain6
import Derived.Test.YtbdpnkpienpnaaaGreatDoorCFnPlain20
namespace Go.Proofs.YtbdpnkpienpnaaaGreatDoor.P
open Go.RowKit Go.Proofs.YtbdpnkpienpnaaaGreatDoorW.PrintWords Go.Proofs.YtbdpnkpienpnaaaGreatDoorW.PrintLast Go.Proofs.YtbdpnkpienpnaaaGreatDoorW.PrintMore
attribute [local go_sem] Ae7 Ae6 Af7 Af8 Ad8 Ad9 Ae2 Ae4   -- for this text's walks alone
set_option linter.unusedVariables false
set_option linter.unusedSimpArgs false
def spec_DrawPlainEquation.f (k : Nat) (l0 : List Int) : Option ((List (S90)) × List Int × List Int) := (spec_l1Source.f l0).bind fun bt269 => ((spec_l2Bent.f k bt269.1 bt269.2).bind fun bt272 => ((spec_l1Pick.f bt269.1 bt272.2 (([5, 9, 24] : List Int))).bind fun bt280 => ((spec_l3BentTerm.f k bt269.1 bt280.2 [(⟨bt272.1⟩ : S26)] bt280.1 12).bind fun bt282 => ((spec_l1Pick.f bt269.1 bt282.2 (([5, 20] : List Int))).bind fun bt289 => ((spec_l3BentTerm.f k bt269.1 bt289.2 [(⟨bt272.1⟩ : S26)] bt289.1 12).bind fun bt291 => (some (bt272.1, bt282.1, bt291.1)))))))
def spec_DrawPlainEquation.T3 : Bool × List (List Nat × List Nat) := (true, [([], []), ([], []), ([], []), ([], []), ([2, 3], [2, 3]), ([1, 4, 4], [1, 4]), ([], []), ([], []), ([], []), ([7, 8, 5], [7, 8]), ([6, 9, 9], [6, 9]), ([5, 10], [5, 10]), ([0, 10, 0], [0]), ([11, 12, 0, 1, 2, 3, 4, 5, 6, 7, 8, 9, 10, 11, 12], [11])])
def spec_DrawPlainEquation.B3 : List Nat := [0, 0, 0, 0, 12, 30, 0, 0, 0, 446, 1022, 2046, 2047, 8191]
theorem spec_DrawPlainEquation.tab3 : Am6 .any (Ar3 Tryz.f6 3) = spec_DrawPlainEquation.T3 := by kernel_rfl
theorem spec_DrawPlainEquation.bits3 : Ai2 spec_DrawPlainEquation.T3.2 spec_DrawPlainEquation.B3 = true := by kernel_rfl
set_option maxHeartbeats 8000000 in
set_option maxRecDepth 100000 in
theorem spec_DrawPlainEquation.calls (k : Nat) (A0 : Option Addr) (c0 : Nat) (l0 : List Int) (r1 : List (S90)) (r2 : List Int) (r3 : List Int) (w : World) (hr0 : Kd.C (Kd.int .u8) w A0 l0.length l0) (hc0 : l0.length ≤ c0) (h : spec_DrawPlainEquation.f k l0 = some (r1, r2, r3)) :
  Calls Tryz.prog 6 #[.slice A0 l0.length c0] w fun e w' => ∃ v0_ v1_ v2_ : Value, e = .returned (.tuple #[.agg #[v0_], .agg #[v1_, v2_]]) ∧ Kd.R k90 90 w' w.heap.size (fun _ => True) v0_ r1 ∧ Kd.R (Kd.int .i64) 2 w' w.heap.size (fun k_ => some k_ ≠ (v2_ : Value).ownBlock) v1_ r2 ∧ Kd.R (Kd.int .i64) 2 w' w.heap.size (fun k_ => some k_ ≠ (v1_ : Value).ownBlock) v2_ r3 ∧ Below w.heap.size w w' := by
 have hu26 := Tryz.underlying26
 have hu29 := Tryz.underlying29
 have HR0 := am hr0
 have HC0 := am hc0
 clear hr0 hc0
 have HB := am (Below.refl w.heap.size w)
 have H : ((spec_l1Source.f l0).bind fun bt269 => ((spec_l2Bent.f k bt269.1 bt269.2).bind fun bt272 => ((spec_l1Pick.f bt269.1 bt272.2 (([5, 9, 24] : List Int))).bind fun bt280 => ((spec_l3BentTerm.f k bt269.1 bt280.2 [(⟨bt272.1⟩ : S26)] bt280.1 12).bind fun bt282 => ((spec_l1Pick.f bt269.1 bt282.2 (([5, 20] : List Int))).bind fun bt289 => ((spec_l3BentTerm.f k bt269.1 bt289.2 [(⟨bt272.1⟩ : S26)] bt289.1 12).bind fun bt291 => (some (bt272.1, bt282.1, bt291.1)))))))) = some (r1, r2, r3) := h
 clear h
 obtain ⟨⟨t269, t270⟩, A2, H⟩ := ob H
 try dsimp only at H
 obtain ⟨⟨t272, t275⟩, A3, H⟩ := ob H
 try dsimp only at H
 obtain ⟨y277, hy277⟩ : ∃ y_ : List Int, y_ = (([5, 9, 24] : List Int)) := ⟨_, rfl⟩
 replace H : ((spec_l1Pick.f t269 t275 y277).bind fun bt280 => ((spec_l3BentTerm.f k t269 bt280.2 [(⟨t272⟩ : S26)] bt280.1 12).bind fun bt282 => ((spec_l1Pick.f t269 bt282.2 (([5, 20] : List Int))).bind fun bt289 => ((spec_l3BentTerm.f k t269 bt289.2 [(⟨t272⟩ : S26)] bt289.1 12).bind fun bt291 => (some (t272, bt282.1, bt291.1)))))) = some (r1, r2, r3) := by first | (rw [hy277]; with_reducible exact H) | (have H2_ := (Option.bind_some _ _).symm.trans H; rw [hy277]; with_reducible exact H2_) | (have H2_ := (Option.bind_some _ _).symm.trans H; with_reducible exact H2_) | with_reducible exact H | (rw [hy277]; exact H) | exact H
 have Ny277 := am hy277
 clear hy277
 obtain ⟨⟨t280, t281⟩, A4, H⟩ := ob H
 try dsimp only at H
 obtain ⟨⟨t282, t285⟩, A5, H⟩ := ob H
 try dsimp only at H
 obtain ⟨y286, hy286⟩ : ∃ y_ : List Int, y_ = (([5, 20] : List Int)) := ⟨_, rfl⟩
 replace H : ((spec_l1Pick.f t269 t285 y286).bind fun bt289 => ((spec_l3BentTerm.f k t269 bt289.2 [(⟨t272⟩ : S26)] bt289.1 12).bind fun bt291 => (some (t272, t282, bt291.1)))) = some (r1, r2, r3) := by first | (rw [hy286]; with_reducible exact H) | (have H2_ := (Option.bind_some _ _).symm.trans H; rw [hy286]; with_reducible exact H2_) | (have H2_ := (Option.bind_some _ _).symm.trans H; with_reducible exact H2_) | with_reducible exact H | (rw [hy286]; exact H) | exact H
 have Ny286 := am hy286
 clear hy286
 obtain ⟨⟨t289, t290⟩, A6, H⟩ := ob H
 try dsimp only at H
 obtain ⟨⟨t291, t294⟩, A7, H⟩ := ob H
 try dsimp only at H
 simp only [Option.some.injEq, Prod.mk.injEq] at H
 obtain ⟨rfl, rfl, rfl⟩ := H
 go_enter Tryz.func6, Tryz.ntmps6
 try go_wp2_with (first | (refine bx 2 rfl #[.slice none 0 0] 26 ?_; intro gb267 hg w8 hbox hb; have BK267 := am (hbox); have GW267 := am (bz hg (hq HB.out)); replace HB := sb HB hb; have GE267 := GW267; clear hb hbox hg) | (refine bx 3 rfl #[.slice none 0 0, .slice none 0 0] 29 ?_; intro gb268 hg w9 hbox hb; have BK268 := am (hbox); have GW268 := am (bz hg (hs HB.out)); replace HB := sb HB hb; have GE268 := GW268; have NB267_268 := nl hg BK267; have NB268_267 := ng hg BK267; replace BK267 := bb BK267 hb; clear hb hbox hg) | (refine gl (some 7) Tryz.func23 rfl #[.slice A0 l0.length c0] ?_; refine (spec_l1Source.calls _ _ l0 t269 t270 w _ (hs HB.out) HR0.out HC0.out A2.out).mono ?_; rintro e w10 ⟨g271, rfl, hi, hb, hb2, hgw⟩; refine ⟨_, rfl, ?_⟩; replace HB := am (hb); have HI271 := am (hi); have NB271_267 := am (Aa2.ne_blk hi (Ab5 (bq BK267.out) hb2) (by decide)); have NB267_271 := am (Ne.symm (Aa2.ne_blk hi (Ab5 (bq BK267.out) hb2) (by decide))); replace BK267 := am (Ab5 (bq BK267.out) hb2); have NB271_268 := am (Aa2.ne_blk hi (Ab5 (bq BK268.out) hb2) (by decide)); have NB268_271 := am (Ne.symm (Aa2.ne_blk hi (Ab5 (bq BK268.out) hb2) (by decide))); replace BK268 := am (Ab5 (bq BK268.out) hb2); (try clear hb); (try clear hb2); (try clear hgw); (try clear hk); (try clear hi)) | (refine gl (some 9) Tryz.func24 rfl #[.pointer (some ⟨g271, 0, none⟩)] ?_; refine (spec_l2Bent.calls k g271 t269 t270 t272 t275 w _ (Aa2.q HI271.out) (hsk HB.out (Aa2.ge HI271.out)) A3.out).mono ?_; rintro e w11 ⟨v273, rfl, ho0, hi, hb, hk⟩; refine ⟨_, rfl, ?_⟩; replace BK267 := kb hk BK267 NB267_271; replace BK268 := kb hk BK268 NB268_271; have HO274 := am (Kd.R_lower ho0 (Aa8 (hsk HB.out (Aa2.ge HI271.out)))); replace HB := am (hb); replace HI271 := am (hi); (try clear hb); (try clear hb2); (try clear hgw); (try clear hk); (try clear hi); (try clear ho0)) | (refine bx 5 rfl #[.slice none 0 0] 26 ?_; intro gb276 hg w12 hbox hb; replace HO274 := rb HO274 hb; have BK276 := am (hbox); have GW276 := am (bz hg (hsk HB.out (Aa2.ge HI271.out))); replace HB := am (Ab8 (hsk HB.out (Aa2.ge HI271.out)) hb); have GE276 := GW276; have NB267_276 := nl hg BK267; have NB276_267 := ng hg BK267; replace BK267 := bb BK267 hb; have NB268_276 := nl hg BK268; have NB276_268 := ng hg BK268; replace BK268 := bb BK268 hb; have NB271_276 := am ((by rw [hg]; exact Nat.ne_of_lt (Aa2.lt (show Aa2 w _ g271 t269 t275 from Aa2.q HI271.out)) : g271 ≠ gb276)); replace HI271 := Aa2.bl HI271 hb; have NB276_271 := am NB271_276.out.symm; clear hb hbox hg; obtain ⟨Ao13, co13, rfl⟩ := Kd.R_slice HO274.out; have hnb14 := NB276_267.out; have hnc14 := NB267_276.out; have hnb15 := NB276_268.out; have hnc15 := NB268_276.out; have hnb16 := NB276_271.out; have hnc16 := NB271_276.out; have hcz17_0 : w12.cell? ⟨gb276, 0, none⟩ = some (.slice none 0 0) := (Aa0 BK276.out 0).trans rfl; have hfz17_0 := Aa1 BK276.out 0))
 have n0_ : Aside0 (Kd.R k90 90 (w12.setCell ⟨gb276, 0, none⟩ (.slice Ao13 t272.length co13)) w.heap.size (fun _ => True) (.slice Ao13 t272.length co13) t272) := ⟨rq (Kd.R_mono (Kd.R_far (p := ⟨gb276, 0, none⟩) (Kd.R_types HO274.out BK276.out (by decide)) (fun _ hk => hk.2) (.slice Ao13 t272.length co13)) (fun _ hk => trivial))⟩
 have n1_ : Aside0 ((w12.setCell ⟨gb276, 0, none⟩ (.slice Ao13 t272.length co13)).heap[gb267]? = some (.cells #[.slice none 0 0] 26 (0, 0))) := ⟨by refine bq ?_; refine Aa4 ?_ NB267_276.out _; refine bq ?_; exact BK267.out⟩
 have n2_ : Aside0 ((w12.setCell ⟨gb276, 0, none⟩ (.slice Ao13 t272.length co13)).heap[gb268]? = some (.cells #[.slice none 0 0, .slice none 0 0] 29 (0, 0))) := ⟨by refine bq ?_; refine Aa4 ?_ NB268_276.out _; refine bq ?_; exact BK268.out⟩
 have n3_ : Aside0 ((w12.setCell ⟨gb276, 0, none⟩ (.slice Ao13 t272.length co13)).heap[gb276]? = some (.cells #[.slice Ao13 t272.length co13] 26 (0, 0))) := ⟨by refine bq ?_; refine Aa6 (cs := #[.slice none 0 0]) ?_ 0 _ rfl; refine bq ?_; exact BK276.out⟩
 have n4_ : Aside0 (Aa2 w (w12.setCell ⟨gb276, 0, none⟩ (.slice Ao13 t272.length co13)) g271 t269 t275) := ⟨Aa2.q HI271.out⟩
 have n5_ : Aside0 (Below w.heap.size w (w12.setCell ⟨gb276, 0, none⟩ (.slice Ao13 t272.length co13))) := ⟨hsk HB.out (Aa2.ge HI271.out)⟩
 (try clear HO274)
 (try clear BK267)
 (try clear BK268)
 (try clear BK276)
 (try clear HI271)
 (try clear HB)
 (try simp only [Go.IntKind.wrap_u8])
 generalize (w12.setCell ⟨gb276, 0, none⟩ (.slice Ao13 t272.length co13)) = w18 at n0_ n1_ n2_ n3_ n4_ n5_ ⊢
 have HO274 := n0_
 have BK267 := n1_
 have BK268 := n2_
 have BK276 := n3_
 have HI271 := n4_
 have HB := n5_
 clear n0_ n1_ n2_ n3_ n4_ n5_
 replace HO274 := am (Kd.R_drew HO274.out)
 replace BK267 := am (Ad0 BK267.out)
 replace BK268 := am (Ad0 BK268.out)
 replace BK276 := am (Ad0 BK276.out)
 replace HI271 := am (Aa2.drew HI271.out)
 replace HB := am (Ab3 HB.out)
 refine Ak0 (n := 14) (S := fun w' => w'.cell? ⟨gb276, 0, none⟩ = some (.slice Ao13 t272.length co13)) (ds := []) #[false, false, false, false, false, false, false, false, false, false, false, false, false, false] (by kernel_rfl) rfl rfl ((Aa0 BK276.out 0).trans rfl) (fun hHeld => ?_); refine Af6 spec_DrawPlainEquation.tab3 spec_DrawPlainEquation.bits3 (fun HT_ HW_ => ?_)
 generalize w18.drew = w19 at HO274 BK267 BK268 BK276 HI271 HB hHeld ⊢
 refine pu 1 11 rfl rfl HT_ ?_
 refine pu 2 12 rfl rfl HT_ ?_
 refine pu 6 16 rfl rfl HT_ ?_
 refine pu 7 17 rfl rfl HT_ ?_
 refine tk 0 10 rfl rfl HT_ HW_ hHeld ?_
 refine Ax6 (σ := Value × Value × Value) 5 #[true, true, true, true, true, true, true, true, true, false, false, false, false, false] (fun s_ => [(13, s_.1), (14, .int .i64 t280), (15, s_.2.1), (18, s_.2.2)]) (fun s_ w' => (w'.cell? ⟨gb276, 0, none⟩ = some (.slice Ao13 t272.length co13)) ∧ (Kd.R k90 90 w' w.heap.size (fun _ => True) (.slice Ao13 t272.length co13) t272) ∧ (Kd.R (Kd.int .i64) 2 w' w.heap.size (fun k_ => some k_ ≠ (s_.2.1 : Value).ownBlock ∧ some k_ ≠ (s_.2.2 : Value).ownBlock) s_.1 y277) ∧ (Kd.R (Kd.int .i64) 2 w' w.heap.size (fun k_ => some k_ ≠ (s_.1 : Value).ownBlock ∧ some k_ ≠ (s_.2.2 : Value).ownBlock) s_.2.1 t282) ∧ (Kd.R (Kd.int .i64) 2 w' w.heap.size (fun k_ => some k_ ≠ (s_.1 : Value).ownBlock ∧ some k_ ≠ (s_.2.1 : Value).ownBlock) s_.2.2 y286) ∧ (w'.heap[gb267]? = some (.cells #[.slice none 0 0] 26 (0, 0))) ∧ (w'.heap[gb268]? = some (.cells #[.slice none 0 0, .slice none 0 0] 29 (0, 0))) ∧ (w'.heap[gb276]? = some (.cells #[.slice Ao13 t272.length co13] 26 (0, 0))) ∧ (Aa2 w w' g271 t269 t285) ∧ (Below w.heap.size w w')) ?_ ?_
 rotate_left
 ·intro hCont
  refine Ay2 (i := 3) (j := 8) (Ni := some 13) (Nj := some 18) #[true, true, true, true, false, false, true, true, false, false, false, false, false, false] #[true, true, true, false, false, false, true, true, true, false, false, false, false, false] rfl rfl rfl rfl (Au2 HT_.out (by kernel_rfl)) (by decide) (by decide) (fun K hK => ?_) (fun K hK => ?_)
  ·skip
   refine Kd.R_lit_step (Kd.int .i64) _ 2 ?hg (N := 13) ?hd (xs := ([5, 9, 24] : List Int)) (inner := [.int .i64 5, .int .i64 9, .int .i64 24]) (ok := fun _ => True) (okp := fun _ => True) ?hr ?hp (fun _ hk => hk) trivial (Below.refl _ _) (Nat.le_refl _) (by simp) ?_; (case hd => rfl); (case hg => rfl); (case hr => first | (go_simp; done) | (go_simp; rfl)); (case hp => exact (Ad5.one (show Kd.M (Kd.int .i64) _ _ _ 5 [.int .i64 5] from rfl) (Ad5.one (show Kd.M (Kd.int .i64) _ _ _ 9 [.int .i64 9] from rfl) (Ad5.one (show Kd.M (Kd.int .i64) _ _ _ 24 [.int .i64 24] from rfl) (Ad5.none _ _)))))
   intro v278 w20 ho21 hb hg_ hnew_
   clear hg_ hnew_
   (first | rw [← Ny277.out] at ho21 | (simp only [Int.reduceToNat] at ho21; rw [← Ny277.out] at ho21))
   replace HO274 := rb HO274 hb
   have HO279 := am (Kd.R_lower ho21 (Aa8 (hsk HB.out (Aa2.ge HI271.out))))
   replace BK267 := bb BK267 hb
   replace BK268 := bb BK268 hb
   replace BK276 := bb BK276 hb
   replace HB := am (Ab8 (hsk HB.out (Aa2.ge HI271.out)) hb)
   replace HI271 := Aa2.bl HI271 hb
   clear hb ho21
   obtain ⟨Ao22, co22, eo22⟩ := Kd.R_slice HO279.out
   (first | subst eo22 | (injection eo22 with f1_ f2_ f3_; have f4_ := f1_.symm; have f5_ := f3_.symm; clear f1_ f2_ f3_; subst f4_; subst f5_))
   refine hK.out _ _ ((Aa0 BK276.out 0).trans rfl) (fun hHeld => ?_)
   clear hK K
   refine nr (some 13) ?_
   refine Ay2 (i := 4) (j := 8) (Ni := some 14) (Nj := some 18) #[true, true, true, true, true, false, true, true, false, false, false, false, false, false] #[true, true, true, true, false, false, true, true, true, false, false, false, false, false] rfl rfl rfl rfl (Au2 HT_.out (by kernel_rfl)) (by decide) (by decide) (fun K hK => ?_) (fun K hK => ?_)
   ·skip
    refine gs Tryz.func26 #[.pointer (some ⟨g271, 0, none⟩), .slice Ao22 y277.length co22] ?_
    refine (spec_l1Pick.calls g271 t269 t275 _ _ y277 t280 t281 w _ (Aa2.q HI271.out) (hsk HB.out (Aa2.ge HI271.out)) (cq (Kd.R_reads' HO279.out).2.2) ((Kd.R_reads' HO279.out).2.1) (Aj4 (Aa2.own_ne HI271.out HO279.out (by decide))) A4.out).mono ?_
    rintro e w23 ⟨rfl, hi, hb, hk⟩
    refine ⟨_, rfl, ?_⟩
    replace BK267 := kb hk BK267 NB267_271
    replace BK268 := kb hk BK268 NB268_271
    replace HO274 := Aa2.rk HI271 HO274 hk
    replace BK276 := kb hk BK276 NB276_271
    replace HO279 := Aa2.rk HI271 HO279 hk
    replace HB := am (hb)
    replace HI271 := am (hi)
    (try clear hb)
    (try clear hb2)
    (try clear hgw)
    (try clear hk)
    (try clear hi)
    refine hK.out _ _ ((Aa0 BK276.out 0).trans rfl) (fun hHeld => ?_)
    clear hK K
    refine nr (some 14) ?_
    refine Ay2 (i := 5) (j := 8) (Ni := some 15) (Nj := some 18) #[true, true, true, true, true, true, true, true, false, false, false, false, false, false] #[true, true, true, true, true, false, true, true, true, false, false, false, false, false] rfl rfl rfl rfl (Au2 HT_.out (by kernel_rfl)) (by decide) (by decide) (fun K hK => ?_) (fun K hK => ?_)
    ·skip
     refine gs Tryz.func25 #[.pointer (some ⟨g271, 0, none⟩), .pointer (some ⟨gb276, 0, none⟩), .int .i64 t280, .int .i64 12] ?_
     with_reducible refine (spec_l3BentTerm.calls k g271 t269 t281 _ [(⟨t272⟩ : S26)] t280 12 t282 t285 w _ ?side1 ?side2 ?side3 A5.out).mono ?_
     (case side1 => exact Aa2.q HI271.out)
     (case side2 => exact hsk HB.out (Aa2.ge HI271.out))
     (case side3 => exact fun W_ hk_ => Ak3 (hk_.blk (show (World.heap _)[gb276]? = some (.cells #[.slice Ao13 t272.length co13] 26 (0, 0)) from by refine bq ?_; exact BK276.out) (by first | exact NB276_271.out | exact NB271_276.out.symm) (by simp)) ((by exact Kd.C_foot_own (Aa2.apart (show Aa2 w _ g271 t269 t281 from Aa2.q HI271.out) (rq HO274.out) (by decide)) (fun _ h_ => h_.2) : ∀ W_, Aa3 _ W_ g271 none → Kd.C k90 W_ Ao13 t272.length t272) W_ hk_) (by exact (Kd.R_reads' HO274.out).2.1))
     rintro e w24 ⟨v283, rfl, ho0, hi, hb, hk⟩
     refine ⟨_, rfl, ?_⟩
     replace BK267 := kb hk BK267 NB267_271
     replace BK268 := kb hk BK268 NB268_271
     replace HO274 := Aa2.rk HI271 HO274 hk
     replace BK276 := kb hk BK276 NB276_271
     have HO284 := am (Kd.R_lower (Kd.R_new' ho0 (Kd.R_lt (rq HO279.out))) (Aa8 (hsk HB.out (Aa2.ge HI271.out))))
     replace HO279 := am (Kd.R_mono (Kd.R_told (Kd.R_oldK (Aa2.apart (show Aa2 w _ g271 t269 t281 from Aa2.q HI271.out) (rq HO279.out) (by decide)) hk) (Kd.R_base ho0)) (fun _ h_ => h_.1))
     replace HB := am (hb)
     replace HI271 := am (hi)
     (try clear hb)
     (try clear hb2)
     (try clear hgw)
     (try clear hk)
     (try clear hi)
     (try clear ho0)
     refine hK.out _ _ ((Aa0 BK276.out 0).trans rfl) (fun hHeld => ?_)
     clear hK K
     refine nr (some 15) ?_
     refine on_ 8 (some 18) rfl rfl HT_ (fun K hK => ?_)
     refine Kd.R_lit_step (Kd.int .i64) _ 2 ?hg (N := 18) ?hd (xs := ([5, 20] : List Int)) (inner := [.int .i64 5, .int .i64 20]) (ok := fun _ => True) (okp := fun _ => True) ?hr ?hp (fun _ hk => hk) trivial (Below.refl _ _) (Nat.le_refl _) (by simp) ?_; (case hd => rfl); (case hg => rfl); (case hr => first | (go_simp; done) | (go_simp; rfl)); (case hp => exact (Ad5.one (show Kd.M (Kd.int .i64) _ _ _ 5 [.int .i64 5] from rfl) (Ad5.one (show Kd.M (Kd.int .i64) _ _ _ 20 [.int .i64 20] from rfl) (Ad5.none _ _))))
     intro v287 w25 ho26 hb hg_ hnew_
     clear hg_ hnew_
     (first | rw [← Ny286.out] at ho26 | (simp only [Int.reduceToNat] at ho26; rw [← Ny286.out] at ho26))
     replace HO274 := rb HO274 hb
     have HO288 := am (Kd.R_lower (Kd.R_new' (Kd.R_new' ho26 (Kd.R_lt (rq HO279.out))) (Kd.R_lt (rq HO284.out))) (Aa8 (hsk HB.out (Aa2.ge HI271.out))))
     replace HO279 := am (Kd.R_elder' (rq HO279.out) (Kd.R_base ho26) hb)
     replace HO284 := am (Kd.R_elder' (rq HO284.out) (Kd.R_base ho26) hb)
     replace BK267 := bb BK267 hb
     replace BK268 := bb BK268 hb
     replace BK276 := bb BK276 hb
     replace HB := am (Ab8 (hsk HB.out (Aa2.ge HI271.out)) hb)
     replace HI271 := Aa2.bl HI271 hb
     clear hb ho26
     refine hK.out _ _ ((Aa0 BK276.out 0).trans rfl) (fun hHeld => ?_)
     clear hK K
     refine nr (some 18) ?_
     exact nj (hCont (.slice Ao22 y277.length co22, v283, v287) _ ⟨hHeld, (rq HO274.out), (by (with_reducible repeat (first | apply Kd.R_alloc | apply Kd.R_drewN | apply Kd.R_drew)); exact Kd.R_mono HO279.out (fun _ hk => by first | exact ⟨hk.1.2, hk.2⟩ | exact ⟨hk.2, hk.1.2⟩ | trivial)), (by (with_reducible repeat (first | apply Kd.R_alloc | apply Kd.R_drewN | apply Kd.R_drew)); exact Kd.R_mono HO284.out (fun _ hk => by first | exact ⟨hk.1.2, hk.2⟩ | exact ⟨hk.2, hk.1.2⟩ | trivial)), (by (with_reducible repeat (first | apply Kd.R_alloc | apply Kd.R_drewN | apply Kd.R_drew)); exact Kd.R_mono HO288.out (fun _ hk => by first | exact ⟨hk.1.2, hk.2⟩ | exact ⟨hk.2, hk.1.2⟩ | trivial)), (bq BK267.out), (bq BK268.out), (bq BK276.out), (Aa2.q HI271.out), (hsk HB.out (Aa2.ge HI271.out))⟩)
    ·skip
     refine Kd.R_lit_step (Kd.int .i64) _ 2 ?hg (N := 18) ?hd (xs := ([5, 20] : List Int)) (inner := [.int .i64 5, .int .i64 20]) (ok := fun _ => True) (okp := fun _ => True) ?hr ?hp (fun _ hk => hk) trivial (Below.refl _ _) (Nat.le_refl _) (by simp) ?_; (case hd => rfl); (case hg => rfl); (case hr => first | (go_simp; done) | (go_simp; rfl)); (case hp => exact (Ad5.one (show Kd.M (Kd.int .i64) _ _ _ 5 [.int .i64 5] from rfl) (Ad5.one (show Kd.M (Kd.int .i64) _ _ _ 20 [.int .i64 20] from rfl) (Ad5.none _ _))))
     intro v287 w24 ho25 hb hg_ hnew_
     clear hg_ hnew_
     (first | rw [← Ny286.out] at ho25 | (simp only [Int.reduceToNat] at ho25; rw [← Ny286.out] at ho25))
     replace HO274 := rb HO274 hb
     have HO288 := am (Kd.R_lower (Kd.R_new' ho25 (Kd.R_lt (rq HO279.out))) (Aa8 (hsk HB.out (Aa2.ge HI271.out))))
     replace HO279 := am (Kd.R_elder' (rq HO279.out) (Kd.R_base ho25) hb)
     replace BK267 := bb BK267 hb
     replace BK268 := bb BK268 hb
     replace BK276 := bb BK276 hb
     replace HB := am (Ab8 (hsk HB.out (Aa2.ge HI271.out)) hb)
     replace HI271 := Aa2.bl HI271 hb
     clear hb ho25
     refine hK.out _ _ ((Aa0 BK276.out 0).trans rfl) (fun hHeld => ?_)
     clear hK K
     refine nr (some 18) ?_
     refine on_ 5 (some 15) rfl rfl HT_ (fun K hK => ?_)
     refine gs Tryz.func25 #[.pointer (some ⟨g271, 0, none⟩), .pointer (some ⟨gb276, 0, none⟩), .int .i64 t280, .int .i64 12] ?_
     with_reducible refine (spec_l3BentTerm.calls k g271 t269 t281 _ [(⟨t272⟩ : S26)] t280 12 t282 t285 w _ ?side1 ?side2 ?side3 A5.out).mono ?_
     (case side1 => exact Aa2.q HI271.out)
     (case side2 => exact hsk HB.out (Aa2.ge HI271.out))
     (case side3 => exact fun W_ hk_ => Ak3 (hk_.blk (show (World.heap _)[gb276]? = some (.cells #[.slice Ao13 t272.length co13] 26 (0, 0)) from by refine bq ?_; exact BK276.out) (by first | exact NB276_271.out | exact NB271_276.out.symm) (by simp)) ((by exact Kd.C_foot_own (Aa2.apart (show Aa2 w _ g271 t269 t281 from Aa2.q HI271.out) (rq HO274.out) (by decide)) (fun _ h_ => h_.2) : ∀ W_, Aa3 _ W_ g271 none → Kd.C k90 W_ Ao13 t272.length t272) W_ hk_) (by exact (Kd.R_reads' HO274.out).2.1))
     rintro e w26 ⟨v283, rfl, ho0, hi, hb, hk⟩
     refine ⟨_, rfl, ?_⟩
     replace BK267 := kb hk BK267 NB267_271
     replace BK268 := kb hk BK268 NB268_271
     replace HO274 := Aa2.rk HI271 HO274 hk
     replace BK276 := kb hk BK276 NB276_271
     have HO284 := am (Kd.R_lower (Kd.R_new' (Kd.R_new' ho0 (Kd.R_lt (rq HO279.out))) (Kd.R_lt (rq HO288.out))) (Aa8 (hsk HB.out (Aa2.ge HI271.out))))
     replace HO279 := am (Kd.R_mono (Kd.R_told (Kd.R_oldK (Aa2.apart (show Aa2 w _ g271 t269 t281 from Aa2.q HI271.out) (rq HO279.out) (by decide)) hk) (Kd.R_base ho0)) (fun _ h_ => h_.1))
     replace HO288 := am (Kd.R_mono (Kd.R_told (Kd.R_oldK (Aa2.apart (show Aa2 w _ g271 t269 t281 from Aa2.q HI271.out) (rq HO288.out) (by decide)) hk) (Kd.R_base ho0)) (fun _ h_ => h_.1))
     replace HB := am (hb)
     replace HI271 := am (hi)
     (try clear hb)
     (try clear hb2)
     (try clear hgw)
     (try clear hk)
     (try clear hi)
     (try clear ho0)
     refine hK.out _ _ ((Aa0 BK276.out 0).trans rfl) (fun hHeld => ?_)
     clear hK K
     refine nr (some 15) ?_
     exact nj (hCont (.slice Ao22 y277.length co22, v283, v287) _ ⟨hHeld, (rq HO274.out), (by (with_reducible repeat (first | apply Kd.R_alloc | apply Kd.R_drewN | apply Kd.R_drew)); exact Kd.R_mono HO279.out (fun _ hk => by first | exact ⟨hk.2, hk.1.2⟩ | exact ⟨hk.1.2, hk.2⟩ | trivial)), (by (with_reducible repeat (first | apply Kd.R_alloc | apply Kd.R_drewN | apply Kd.R_drew)); exact Kd.R_mono HO284.out (fun _ hk => by first | exact ⟨hk.1.2, hk.2⟩ | exact ⟨hk.2, hk.1.2⟩ | trivial)), (by (with_reducible repeat (first | apply Kd.R_alloc | apply Kd.R_drewN | apply Kd.R_drew)); exact Kd.R_mono HO288.out (fun _ hk => by first | exact ⟨hk.1.2, hk.2⟩ | exact ⟨hk.2, hk.1.2⟩ | trivial)), (bq BK267.out), (bq BK268.out), (bq BK276.out), (Aa2.q HI271.out), (hsk HB.out (Aa2.ge HI271.out))⟩)
   ·skip
    refine Kd.R_lit_step (Kd.int .i64) _ 2 ?hg (N := 18) ?hd (xs := ([5, 20] : List Int)) (inner := [.int .i64 5, .int .i64 20]) (ok := fun _ => True) (okp := fun _ => True) ?hr ?hp (fun _ hk => hk) trivial (Below.refl _ _) (Nat.le_refl _) (by simp) ?_; (case hd => rfl); (case hg => rfl); (case hr => first | (go_simp; done) | (go_simp; rfl)); (case hp => exact (Ad5.one (show Kd.M (Kd.int .i64) _ _ _ 5 [.int .i64 5] from rfl) (Ad5.one (show Kd.M (Kd.int .i64) _ _ _ 20 [.int .i64 20] from rfl) (Ad5.none _ _))))
    intro v287 w22 ho23 hb hg_ hnew_
    clear hg_ hnew_
    (first | rw [← Ny286.out] at ho23 | (simp only [Int.reduceToNat] at ho23; rw [← Ny286.out] at ho23))
    replace HO274 := rb HO274 hb
    have HO288 := am (Kd.R_lower (Kd.R_new' ho23 (Kd.R_lt (rq HO279.out))) (Aa8 (hsk HB.out (Aa2.ge HI271.out))))
    replace HO279 := am (Kd.R_elder' (rq HO279.out) (Kd.R_base ho23) hb)
    replace BK267 := bb BK267 hb
    replace BK268 := bb BK268 hb
    replace BK276 := bb BK276 hb
    replace HB := am (Ab8 (hsk HB.out (Aa2.ge HI271.out)) hb)
    replace HI271 := Aa2.bl HI271 hb
    clear hb ho23
    obtain ⟨Ao24, co24, eo24⟩ := Kd.R_slice HO279.out
    (first | subst eo24 | (injection eo24 with f1_ f2_ f3_; have f4_ := f1_.symm; have f5_ := f3_.symm; clear f1_ f2_ f3_; subst f4_; subst f5_))
    refine hK.out _ _ ((Aa0 BK276.out 0).trans rfl) (fun hHeld => ?_)
    clear hK K
    refine nr (some 18) ?_
    refine on_ 4 (some 14) rfl rfl HT_ (fun K hK => ?_)
    refine gs Tryz.func26 #[.pointer (some ⟨g271, 0, none⟩), .slice Ao24 y277.length co24] ?_
    refine (spec_l1Pick.calls g271 t269 t275 _ _ y277 t280 t281 w _ (Aa2.q HI271.out) (hsk HB.out (Aa2.ge HI271.out)) (cq (Kd.R_reads' HO279.out).2.2) ((Kd.R_reads' HO279.out).2.1) (Aj4 (Aa2.own_ne HI271.out HO279.out (by decide))) A4.out).mono ?_
    rintro e w25 ⟨rfl, hi, hb, hk⟩
    refine ⟨_, rfl, ?_⟩
    replace BK267 := kb hk BK267 NB267_271
    replace BK268 := kb hk BK268 NB268_271
    replace HO274 := Aa2.rk HI271 HO274 hk
    replace BK276 := kb hk BK276 NB276_271
    replace HO279 := Aa2.rk HI271 HO279 hk
    replace HO288 := Aa2.rk HI271 HO288 hk
    replace HB := am (hb)
    replace HI271 := am (hi)
    (try clear hb)
    (try clear hb2)
    (try clear hgw)
    (try clear hk)
    (try clear hi)
    refine hK.out _ _ ((Aa0 BK276.out 0).trans rfl) (fun hHeld => ?_)
    clear hK K
    refine nr (some 14) ?_
    refine on_ 5 (some 15) rfl rfl HT_ (fun K hK => ?_)
    refine gs Tryz.func25 #[.pointer (some ⟨g271, 0, none⟩), .pointer (some ⟨gb276, 0, none⟩), .int .i64 t280, .int .i64 12] ?_
    with_reducible refine (spec_l3BentTerm.calls k g271 t269 t281 _ [(⟨t272⟩ : S26)] t280 12 t282 t285 w _ ?side1 ?side2 ?side3 A5.out).mono ?_
    (case side1 => exact Aa2.q HI271.out)
    (case side2 => exact hsk HB.out (Aa2.ge HI271.out))
    (case side3 => exact fun W_ hk_ => Ak3 (hk_.blk (show (World.heap _)[gb276]? = some (.cells #[.slice Ao13 t272.length co13] 26 (0, 0)) from by refine bq ?_; exact BK276.out) (by first | exact NB276_271.out | exact NB271_276.out.symm) (by simp)) ((by exact Kd.C_foot_own (Aa2.apart (show Aa2 w _ g271 t269 t281 from Aa2.q HI271.out) (rq HO274.out) (by decide)) (fun _ h_ => h_.2) : ∀ W_, Aa3 _ W_ g271 none → Kd.C k90 W_ Ao13 t272.length t272) W_ hk_) (by exact (Kd.R_reads' HO274.out).2.1))
    rintro e w26 ⟨v283, rfl, ho0, hi, hb, hk⟩
    refine ⟨_, rfl, ?_⟩
    replace BK267 := kb hk BK267 NB267_271
    replace BK268 := kb hk BK268 NB268_271
    replace HO274 := Aa2.rk HI271 HO274 hk
    replace BK276 := kb hk BK276 NB276_271
    have HO284 := am (Kd.R_lower (Kd.R_new' (Kd.R_new' ho0 (Kd.R_lt (rq HO279.out))) (Kd.R_lt (rq HO288.out))) (Aa8 (hsk HB.out (Aa2.ge HI271.out))))
    replace HO279 := am (Kd.R_mono (Kd.R_told (Kd.R_oldK (Aa2.apart (show Aa2 w _ g271 t269 t281 from Aa2.q HI271.out) (rq HO279.out) (by decide)) hk) (Kd.R_base ho0)) (fun _ h_ => h_.1))
    replace HO288 := am (Kd.R_mono (Kd.R_told (Kd.R_oldK (Aa2.apart (show Aa2 w _ g271 t269 t281 from Aa2.q HI271.out) (rq HO288.out) (by decide)) hk) (Kd.R_base ho0)) (fun _ h_ => h_.1))
    replace HB := am (hb)
    replace HI271 := am (hi)
    (try clear hb)
    (try clear hb2)
    (try clear hgw)
    (try clear hk)
    (try clear hi)
    (try clear ho0)
    refine hK.out _ _ ((Aa0 BK276.out 0).trans rfl) (fun hHeld => ?_)
    clear hK K
    refine nr (some 15) ?_
    exact nj (hCont (.slice Ao24 y277.length co24, v283, v287) _ ⟨hHeld, (rq HO274.out), (by (with_reducible repeat (first | apply Kd.R_alloc | apply Kd.R_drewN | apply Kd.R_drew)); exact Kd.R_mono HO279.out (fun _ hk => by first | exact ⟨hk.2, hk.1.2⟩ | exact ⟨hk.1.2, hk.2⟩ | trivial)), (by (with_reducible repeat (first | apply Kd.R_alloc | apply Kd.R_drewN | apply Kd.R_drew)); exact Kd.R_mono HO284.out (fun _ hk => by first | exact ⟨hk.1.2, hk.2⟩ | exact ⟨hk.2, hk.1.2⟩ | trivial)), (by (with_reducible repeat (first | apply Kd.R_alloc | apply Kd.R_drewN | apply Kd.R_drew)); exact Kd.R_mono HO288.out (fun _ hk => by first | exact ⟨hk.1.2, hk.2⟩ | exact ⟨hk.2, hk.1.2⟩ | trivial)), (bq BK267.out), (bq BK268.out), (bq BK276.out), (Aa2.q HI271.out), (hsk HB.out (Aa2.ge HI271.out))⟩)
  ·skip
   refine Kd.R_lit_step (Kd.int .i64) _ 2 ?hg (N := 18) ?hd (xs := ([5, 20] : List Int)) (inner := [.int .i64 5, .int .i64 20]) (ok := fun _ => True) (okp := fun _ => True) ?hr ?hp (fun _ hk => hk) trivial (Below.refl _ _) (Nat.le_refl _) (by simp) ?_; (case hd => rfl); (case hg => rfl); (case hr => first | (go_simp; done) | (go_simp; rfl)); (case hp => exact (Ad5.one (show Kd.M (Kd.int .i64) _ _ _ 5 [.int .i64 5] from rfl) (Ad5.one (show Kd.M (Kd.int .i64) _ _ _ 20 [.int .i64 20] from rfl) (Ad5.none _ _))))
   intro v287 w20 ho21 hb hg_ hnew_
   clear hg_ hnew_
   (first | rw [← Ny286.out] at ho21 | (simp only [Int.reduceToNat] at ho21; rw [← Ny286.out] at ho21))
   replace HO274 := rb HO274 hb
   have HO288 := am (Kd.R_lower ho21 (Aa8 (hsk HB.out (Aa2.ge HI271.out))))
   replace BK267 := bb BK267 hb
   replace BK268 := bb BK268 hb
   replace BK276 := bb BK276 hb
   replace HB := am (Ab8 (hsk HB.out (Aa2.ge HI271.out)) hb)
   replace HI271 := Aa2.bl HI271 hb
   clear hb ho21
   refine hK.out _ _ ((Aa0 BK276.out 0).trans rfl) (fun hHeld => ?_)
   clear hK K
   refine nr (some 18) ?_
   refine on_ 3 (some 13) rfl rfl HT_ (fun K hK => ?_)
   refine Kd.R_lit_step (Kd.int .i64) _ 2 ?hg (N := 13) ?hd (xs := ([5, 9, 24] : List Int)) (inner := [.int .i64 5, .int .i64 9, .int .i64 24]) (ok := fun _ => True) (okp := fun _ => True) ?hr ?hp (fun _ hk => hk) trivial (Below.refl _ _) (Nat.le_refl _) (by simp) ?_; (case hd => rfl); (case hg => rfl); (case hr => first | (go_simp; done) | (go_simp; rfl)); (case hp => exact (Ad5.one (show Kd.M (Kd.int .i64) _ _ _ 5 [.int .i64 5] from rfl) (Ad5.one (show Kd.M (Kd.int .i64) _ _ _ 9 [.int .i64 9] from rfl) (Ad5.one (show Kd.M (Kd.int .i64) _ _ _ 24 [.int .i64 24] from rfl) (Ad5.none _ _)))))
   intro v278 w22 ho23 hb hg_ hnew_
   clear hg_ hnew_
   (first | rw [← Ny277.out] at ho23 | (simp only [Int.reduceToNat] at ho23; rw [← Ny277.out] at ho23))
   replace HO274 := rb HO274 hb
   have HO279 := am (Kd.R_lower (Kd.R_new' ho23 (Kd.R_lt (rq HO288.out))) (Aa8 (hsk HB.out (Aa2.ge HI271.out))))
   replace HO288 := am (Kd.R_elder' (rq HO288.out) (Kd.R_base ho23) hb)
   replace BK267 := bb BK267 hb
   replace BK268 := bb BK268 hb
   replace BK276 := bb BK276 hb
   replace HB := am (Ab8 (hsk HB.out (Aa2.ge HI271.out)) hb)
   replace HI271 := Aa2.bl HI271 hb
   clear hb ho23
   obtain ⟨Ao24, co24, eo24⟩ := Kd.R_slice HO279.out
   (first | subst eo24 | (injection eo24 with f1_ f2_ f3_; have f4_ := f1_.symm; have f5_ := f3_.symm; clear f1_ f2_ f3_; subst f4_; subst f5_))
   refine hK.out _ _ ((Aa0 BK276.out 0).trans rfl) (fun hHeld => ?_)
   clear hK K
   refine nr (some 13) ?_
   refine on_ 4 (some 14) rfl rfl HT_ (fun K hK => ?_)
   refine gs Tryz.func26 #[.pointer (some ⟨g271, 0, none⟩), .slice Ao24 y277.length co24] ?_
   refine (spec_l1Pick.calls g271 t269 t275 _ _ y277 t280 t281 w _ (Aa2.q HI271.out) (hsk HB.out (Aa2.ge HI271.out)) (cq (Kd.R_reads' HO279.out).2.2) ((Kd.R_reads' HO279.out).2.1) (Aj4 (Aa2.own_ne HI271.out HO279.out (by decide))) A4.out).mono ?_
   rintro e w25 ⟨rfl, hi, hb, hk⟩
   refine ⟨_, rfl, ?_⟩
   replace BK267 := kb hk BK267 NB267_271
   replace BK268 := kb hk BK268 NB268_271
   replace HO274 := Aa2.rk HI271 HO274 hk
   replace BK276 := kb hk BK276 NB276_271
   replace HO288 := Aa2.rk HI271 HO288 hk
   replace HO279 := Aa2.rk HI271 HO279 hk
   replace HB := am (hb)
   replace HI271 := am (hi)
   (try clear hb)
   (try clear hb2)
   (try clear hgw)
   (try clear hk)
   (try clear hi)
   refine hK.out _ _ ((Aa0 BK276.out 0).trans rfl) (fun hHeld => ?_)
   clear hK K
   refine nr (some 14) ?_
   refine on_ 5 (some 15) rfl rfl HT_ (fun K hK => ?_)
   refine gs Tryz.func25 #[.pointer (some ⟨g271, 0, none⟩), .pointer (some ⟨gb276, 0, none⟩), .int .i64 t280, .int .i64 12] ?_
   with_reducible refine (spec_l3BentTerm.calls k g271 t269 t281 _ [(⟨t272⟩ : S26)] t280 12 t282 t285 w _ ?side1 ?side2 ?side3 A5.out).mono ?_
   (case side1 => exact Aa2.q HI271.out)
   (case side2 => exact hsk HB.out (Aa2.ge HI271.out))
   (case side3 => exact fun W_ hk_ => Ak3 (hk_.blk (show (World.heap _)[gb276]? = some (.cells #[.slice Ao13 t272.length co13] 26 (0, 0)) from by refine bq ?_; exact BK276.out) (by first | exact NB276_271.out | exact NB271_276.out.symm) (by simp)) ((by exact Kd.C_foot_own (Aa2.apart (show Aa2 w _ g271 t269 t281 from Aa2.q HI271.out) (rq HO274.out) (by decide)) (fun _ h_ => h_.2) : ∀ W_, Aa3 _ W_ g271 none → Kd.C k90 W_ Ao13 t272.length t272) W_ hk_) (by exact (Kd.R_reads' HO274.out).2.1))
   rintro e w26 ⟨v283, rfl, ho0, hi, hb, hk⟩
   refine ⟨_, rfl, ?_⟩
   replace BK267 := kb hk BK267 NB267_271
   replace BK268 := kb hk BK268 NB268_271
   replace HO274 := Aa2.rk HI271 HO274 hk
   replace BK276 := kb hk BK276 NB276_271
   have HO284 := am (Kd.R_lower (Kd.R_new' (Kd.R_new' ho0 (Kd.R_lt (rq HO288.out))) (Kd.R_lt (rq HO279.out))) (Aa8 (hsk HB.out (Aa2.ge HI271.out))))
   replace HO288 := am (Kd.R_mono (Kd.R_told (Kd.R_oldK (Aa2.apart (show Aa2 w _ g271 t269 t281 from Aa2.q HI271.out) (rq HO288.out) (by decide)) hk) (Kd.R_base ho0)) (fun _ h_ => h_.1))
   replace HO279 := am (Kd.R_mono (Kd.R_told (Kd.R_oldK (Aa2.apart (show Aa2 w _ g271 t269 t281 from Aa2.q HI271.out) (rq HO279.out) (by decide)) hk) (Kd.R_base ho0)) (fun _ h_ => h_.1))
   replace HB := am (hb)
   replace HI271 := am (hi)
   (try clear hb)
   (try clear hb2)
   (try clear hgw)
   (try clear hk)
   (try clear hi)
   (try clear ho0)
   refine hK.out _ _ ((Aa0 BK276.out 0).trans rfl) (fun hHeld => ?_)
   clear hK K
   refine nr (some 15) ?_
   exact nj (hCont (.slice Ao24 y277.length co24, v283, v287) _ ⟨hHeld, (rq HO274.out), (by (with_reducible repeat (first | apply Kd.R_alloc | apply Kd.R_drewN | apply Kd.R_drew)); exact Kd.R_mono HO279.out (fun _ hk => by first | exact ⟨hk.2, hk.1.2⟩ | exact ⟨hk.1.2, hk.2⟩ | trivial)), (by (with_reducible repeat (first | apply Kd.R_alloc | apply Kd.R_drewN | apply Kd.R_drew)); exact Kd.R_mono HO284.out (fun _ hk => by first | exact ⟨hk.2, hk.1.2⟩ | exact ⟨hk.1.2, hk.2⟩ | trivial)), (by (with_reducible repeat (first | apply Kd.R_alloc | apply Kd.R_drewN | apply Kd.R_drew)); exact Kd.R_mono HO288.out (fun _ hk => by first | exact ⟨hk.1.2, hk.2⟩ | exact ⟨hk.2, hk.1.2⟩ | trivial)), (bq BK267.out), (bq BK268.out), (bq BK276.out), (Aa2.q HI271.out), (hsk HB.out (Aa2.ge HI271.out))⟩)
 clear HO274 BK267 BK268 BK276 HI271 HB
 rintro ⟨v278, v283, v287⟩ w27 ⟨hS_, h0_, h1_, h2_, h3_, h4_, h5_, h6_, h7_, h8_⟩
 try dsimp only at hS_ h0_ h1_ h2_ h3_ h4_ h5_ h6_ h7_ h8_
 have HO274 := am h0_; have HO279 := am h1_; have HO284 := am h2_; have HO288 := am h3_; have BK267 := am h4_; have BK268 := am h5_; have BK276 := am h6_; have HI271 := am h7_; have HB := am h8_; clear h0_ h1_ h2_ h3_ h4_ h5_ h6_ h7_ h8_; have hHeld := hS_
 obtain ⟨Ao28, co28, eo28⟩ := Kd.R_slice HO288.out
 (first | subst eo28 | (injection eo28 with f1_ f2_ f3_; have f4_ := f1_.symm; have f5_ := f3_.symm; clear f1_ f2_ f3_; subst f4_; subst f5_))
 refine nj ?_
 refine on_ 9 (some 19) rfl rfl HT_ (fun K hK => ?_)
 refine gs Tryz.func26 #[.pointer (some ⟨g271, 0, none⟩), .slice Ao28 y286.length co28] ?_
 refine (spec_l1Pick.calls g271 t269 t285 _ _ y286 t289 t290 w _ (Aa2.q HI271.out) (hsk HB.out (Aa2.ge HI271.out)) (cq (Kd.R_reads' HO288.out).2.2) ((Kd.R_reads' HO288.out).2.1) (Aj4 (Aa2.own_ne HI271.out HO288.out (by decide))) A6.out).mono ?_
 rintro e w29 ⟨rfl, hi, hb, hk⟩
 refine ⟨_, rfl, ?_⟩
 replace BK267 := kb hk BK267 NB267_271
 replace BK268 := kb hk BK268 NB268_271
 replace HO274 := Aa2.rk HI271 HO274 hk
 replace BK276 := kb hk BK276 NB276_271
 replace HO279 := Aa2.rk HI271 HO279 hk
 replace HO284 := Aa2.rk HI271 HO284 hk
 replace HO288 := Aa2.rk HI271 HO288 hk
 replace HB := am (hb)
 replace HI271 := am (hi)
 (try clear hb)
 (try clear hb2)
 (try clear hgw)
 (try clear hk)
 (try clear hi)
 refine hK.out _ _ ((Aa0 BK276.out 0).trans rfl) (fun hHeld => ?_)
 clear hK K
 refine nr (some 19) ?_
 refine on_ 10 (some 20) rfl rfl HT_ (fun K hK => ?_)
 refine gs Tryz.func25 #[.pointer (some ⟨g271, 0, none⟩), .pointer (some ⟨gb276, 0, none⟩), .int .i64 t289, .int .i64 12] ?_
 with_reducible refine (spec_l3BentTerm.calls k g271 t269 t290 _ [(⟨t272⟩ : S26)] t289 12 t291 t294 w _ ?side1 ?side2 ?side3 A7.out).mono ?_
 (case side1 => exact Aa2.q HI271.out)
 (case side2 => exact hsk HB.out (Aa2.ge HI271.out))
 (case side3 => exact fun W_ hk_ => Ak3 (hk_.blk (show (World.heap _)[gb276]? = some (.cells #[.slice Ao13 t272.length co13] 26 (0, 0)) from by refine bq ?_; exact BK276.out) (by first | exact NB276_271.out | exact NB271_276.out.symm) (by simp)) ((by exact Kd.C_foot_own (Aa2.apart (show Aa2 w _ g271 t269 t290 from Aa2.q HI271.out) (rq HO274.out) (by decide)) (fun _ h_ => h_.2) : ∀ W_, Aa3 _ W_ g271 none → Kd.C k90 W_ Ao13 t272.length t272) W_ hk_) (by exact (Kd.R_reads' HO274.out).2.1))
 rintro e w30 ⟨v292, rfl, ho0, hi, hb, hk⟩
 refine ⟨_, rfl, ?_⟩
 replace BK267 := kb hk BK267 NB267_271
 replace BK268 := kb hk BK268 NB268_271
 replace HO274 := Aa2.rk HI271 HO274 hk
 replace BK276 := kb hk BK276 NB276_271
 have HO293 := am (Kd.R_lower (Kd.R_new' (Kd.R_new' (Kd.R_new' ho0 (Kd.R_lt (rq HO279.out))) (Kd.R_lt (rq HO284.out))) (Kd.R_lt (rq HO288.out))) (Aa8 (hsk HB.out (Aa2.ge HI271.out))))
 replace HO279 := am (Kd.R_mono (Kd.R_told (Kd.R_oldK (Aa2.apart (show Aa2 w _ g271 t269 t290 from Aa2.q HI271.out) (rq HO279.out) (by decide)) hk) (Kd.R_base ho0)) (fun _ h_ => h_.1))
 replace HO284 := am (Kd.R_mono (Kd.R_told (Kd.R_oldK (Aa2.apart (show Aa2 w _ g271 t269 t290 from Aa2.q HI271.out) (rq HO284.out) (by decide)) hk) (Kd.R_base ho0)) (fun _ h_ => h_.1))
 replace HO288 := am (Kd.R_mono (Kd.R_told (Kd.R_oldK (Aa2.apart (show Aa2 w _ g271 t269 t290 from Aa2.q HI271.out) (rq HO288.out) (by decide)) hk) (Kd.R_base ho0)) (fun _ h_ => h_.1))
 replace HB := am (hb)
 replace HI271 := am (hi)
 (try clear hb)
 (try clear hb2)
 (try clear hgw)
 (try clear hk)
 (try clear hi)
 (try clear ho0)
 obtain ⟨Ao31, co31, eo31⟩ := Kd.R_slice HO293.out
 (first | subst eo31 | (injection eo31 with f1_ f2_ f3_; have f4_ := f1_.symm; have f5_ := f3_.symm; clear f1_ f2_ f3_; subst f4_; subst f5_))
 obtain ⟨Ao32, co32, eo32⟩ := Kd.R_slice HO284.out
 (first | subst eo32 | (injection eo32 with f1_ f2_ f3_; have f4_ := f1_.symm; have f5_ := f3_.symm; clear f1_ f2_ f3_; subst f4_; subst f5_))
 refine hK.out _ _ ((Aa0 BK276.out 0).trans rfl) (fun hHeld => ?_)
 clear hK K
 refine nr (some 20) ?_
 refine pu 11 21 rfl rfl HT_ ?_
 refine on_ 12 none rfl rfl HT_ (fun K hK => ?_)
 have hs33 : w30.cell? ⟨gb267, 0, none⟩ = some (.slice none 0 0) := (Aa0 BK267.out 0).trans rfl
 have hfs33 := Aa1 BK267.out 0
 have hns33_1 := NB268_267.out
 have hns33_2 := NB276_267.out
 have hms33_1 := NB267_268.out
 have hms33_2 := NB267_276.out
 refine At8 (w1 := ?_) (by rfl) rfl ?_ ?_
 rotate_left
 ·go_simp
  rfl
 refine hK.out _ _ (((Af9 (p := ⟨gb267, _, none⟩) NB276_267.out _).trans (hHeld))) (fun hHeld => ?_)
 clear hK K
 refine on_ 13 none rfl rfl HT_ (fun K hK => ?_)
 have hs34 : w30.cell? ⟨gb268, 0, none⟩ = some (.slice none 0 0) := (Aa0 BK268.out 0).trans rfl
 have hfs34 := Aa1 BK268.out 0
 have hns34_0 := NB267_268.out
 have hns34_2 := NB276_268.out
 have hms34_0 := NB268_267.out
 have hms34_2 := NB268_276.out
 have hs35 : w30.cell? ⟨gb268, 1, none⟩ = some (.slice none 0 0) := (Aa0 BK268.out 1).trans rfl
 have hfs35 := Aa1 BK268.out 1
 have hns35_0 := NB267_268.out
 have hns35_2 := NB276_268.out
 have hms35_0 := NB268_267.out
 have hms35_2 := NB268_276.out
 refine At8 (w1 := ?_) (by rfl) rfl ?_ ?_
 rotate_left
 ·go_simp
  rfl
 refine hK.out _ _ (((Af9 (p := ⟨gb268, _, none⟩) NB276_268.out _).trans (((Af9 (p := ⟨gb268, _, none⟩) NB276_268.out _).trans (hHeld))))) (fun hHeld => ?_)
 clear hK K
 refine Am5 (Ai6 HT_.out (by kernel_rfl)) ?_
 try go_wp2
 refine bodyPost_ret (results_cc rfl _ _ gb267 gb268 26 29 #[.slice Ao13 t272.length co13] #[.slice Ao32 t282.length co32, .slice Ao31 t291.length co31] (0, 0) (0, 0) _ _ rfl (by refine bq ?_; refine Aa4 ?_ NB267_268.out _; refine bq ?_; refine Aa4 ?_ NB267_268.out _; refine bq ?_; refine Aa6 (cs := #[.slice none 0 0]) ?_ 0 _ rfl; refine bq ?_; exact BK267.out) Tryz.underlying26 rfl (by kernel_rfl) rfl (by refine bq ?_; refine Aa6 (cs := #[.slice Ao32 t282.length co32, .slice none 0 0]) ?_ 1 _ rfl; refine bq ?_; refine Aa6 (cs := #[.slice none 0 0, .slice none 0 0]) ?_ 0 _ rfl; refine bq ?_; refine Aa4 ?_ NB268_267.out _; refine bq ?_; exact BK268.out) Tryz.underlying29 rfl (by kernel_rfl)) rfl ?_
 exact ⟨_, _, _, er, rq (Kd.R_mono (Kd.R_far (p := ⟨gb268, 1, none⟩) (Kd.R_far (p := ⟨gb268, 0, none⟩) (Kd.R_far (p := ⟨gb267, 0, none⟩) (Kd.R_types (Kd.R_types HO274.out BK267.out (by decide)) BK268.out (by decide)) (fun _ hk => hk.1.2) (.slice Ao13 t272.length co13)) (fun _ hk => hk.2) (.slice Ao32 t282.length co32)) (fun _ hk => hk.2) (.slice Ao31 t291.length co31)) (fun _ hk => trivial)), rq (Kd.R_mono (Kd.R_far (p := ⟨gb268, 1, none⟩) (Kd.R_far (p := ⟨gb268, 0, none⟩) (Kd.R_far (p := ⟨gb267, 0, none⟩) (Kd.R_types (Kd.R_types HO284.out BK267.out (by decide)) BK268.out (by decide)) (fun _ hk => hk.1.2) (.slice Ao13 t272.length co13)) (fun _ hk => hk.2) (.slice Ao32 t282.length co32)) (fun _ hk => hk.2) (.slice Ao31 t291.length co31)) (fun _ hk => hk.1.1.2)), rq (Kd.R_mono (Kd.R_far (p := ⟨gb268, 1, none⟩) (Kd.R_far (p := ⟨gb268, 0, none⟩) (Kd.R_far (p := ⟨gb267, 0, none⟩) (Kd.R_types (Kd.R_types HO293.out BK267.out (by decide)) BK268.out (by decide)) (fun _ hk => hk.1.2) (.slice Ao13 t272.length co13)) (fun _ hk => hk.2) (.slice Ao32 t282.length co32)) (fun _ hk => hk.2) (.slice Ao31 t291.length co31)) (fun _ hk => hk.1.1.1.2)), hsk HB.out (Aa2.ge HI271.out)⟩
end Go.Proofs.YtbdpnkpienpnaaaGreatDoor.P
namespace Go.Proofs.YtbdpnkpienpnaaaGreatDoor.P
open Go.RowKit Go.Proofs.YtbdpnkpienpnaaaGreatDoorW.PrintWords Go.Proofs.YtbdpnkpienpnaaaGreatDoorW.PrintLast Go.Proofs.YtbdpnkpienpnaaaGreatDoorW.PrintMore
attribute [local go_sem] Ae7 Ae6 Af7 Af8 Ad8 Ad9 Ae2 Ae4   -- for this text's walks alone
set_option linter.unusedVariables false
set_option linter.unusedSimpArgs false
def cmp_Or_int64.l0 : Nat → Int → List Int → Int → Int → Option (Int)
 | 0, _, _, _, _ => none
 | k + 1, x3, x6, x7, x8 => if x8 < x7 then (if 0 ≤ x8 then (if x8 < (x6.length : Int) then (if (rd x6 x8) = x3 then (cmp_Or_int64.l0 k x3 x6 x7 (wrap64 (x8 + 1))) else (some (rd x6 x8))) else (none)) else (none)) else (some x3)
def cmp_Or_int64.f (k : Nat) (l0 : List Int) : Option (Int) := cmp_Or_int64.l0 k 0 l0 (l0.length : Int) 0
set_option maxHeartbeats 8000000 in
set_option maxRecDepth 100000 in
theorem cmp_Or_int64.calls (k : Nat) (A0 : Option Addr) (c0 : Nat) (l0 : List Int) (r : Int) (w : World) (hr0 : Kd.C (Kd.int .i64) w A0 l0.length l0) (hc0 : l0.length ≤ c0) (h : cmp_Or_int64.f k l0 = some r) :
  Calls Tryz.prog 58 #[.slice A0 l0.length c0] w fun e w' => e = .returned (.int .i64 r) ∧ Drawn0 w w' := by
 have HR0 := am hr0
 have HC0 := am hc0
 clear hr0 hc0
 have H : (cmp_Or_int64.l0 k 0 l0 (l0.length : Int) 0) = some r := h
 clear h
 have H' := am H
 clear H
 go_enter Tryz.func58, Tryz.ntmps58
 go_wp2
 go_loopg [8] k (fun kq v8 w' => ∃ (x8_1 : Int), v8 = .int .i64 x8_1 ∧ Aside0 (cmp_Or_int64.l0 kq 0 l0 (l0.length : Int) x8_1 = some r) ∧ Aside0 (kq ≤ k) ∧ Drawn0 w w')
 case atStart => exact ⟨(0), et, H', ⟨Nat.le_refl _⟩, by repeat (first | exact Drawn0.refl _ | apply Drawn0.step)⟩
 case round =>
  clear H'
  obtain ⟨x8_1, rfl, HA, HK1, ⟨m1, rfl⟩⟩ := hrel
  cases gk with
  | zero => exact absurd HA.out (by simp [cmp_Or_int64.l0])
  | succ k1 =>
   have H := HA.out
   clear HA
   simp only [cmp_Or_int64.l0] at H
   by_cases c2 : x8_1 < (l0.length : Int)
   ·rw [if_pos c2] at H
    have c2b0 : decide (x8_1 < (l0.length : Int)) = true := decide_eq_true c2
    clear c2
    obtain ⟨c3b0, H⟩ := ife H
    obtain ⟨c4b0, H⟩ := ife H
    by_cases c5 : (rd l0 x8_1) = 0
    ·rw [if_pos c5] at H
     obtain ⟨c5b0, c5b1⟩ := bqt c5; clear c5
     have H' := am H
     clear H
     have p295 : 0 ≤ (x8_1 : Int) := od
     have q295 : x8_1 < (l0.length : Int) := od
     obtain ⟨ad295, e295, hx295_0⟩ := Kd.at_int HR0.out x8_1 p295 q295
     cases e295
     replace p295 := eq_true p295
     replace q295 := eq_true q295
     go_wp2
     go_roundg k1
     case measure => have := HK1.out; omega
     case rel => exact ⟨(wrap64 (x8_1 + 1)), et, H', ⟨by have := HK1.out; omega⟩, by repeat (first | exact Drawn0.refl _ | apply Drawn0.step)⟩
    ·rw [if_neg c5] at H
     obtain ⟨c5b0, c5b1⟩ := bqf c5
     obtain rfl := Option.some.inj H
     have p295 : 0 ≤ (x8_1 : Int) := od
     have q295 : x8_1 < (l0.length : Int) := od
     obtain ⟨ad295, e295, hx295_0⟩ := Kd.at_int HR0.out x8_1 p295 q295
     cases e295
     replace p295 := eq_true p295
     replace q295 := eq_true q295
     go_wp2
     go_ret
     exact ⟨et, by repeat (first | exact Drawn0.refl _ | apply Drawn0.step)⟩
   ·rw [if_neg c2] at H
    have c2b0 : decide (x8_1 < (l0.length : Int)) = false := decide_eq_false c2
    clear c2
    obtain rfl := Option.some.inj H
    go_wp2
    go_ret
    exact ⟨et, by repeat (first | exact Drawn0.refl _ | apply Drawn0.step)⟩
def impl_firstCode.f (k : Nat) (l0 : List Int) : Option (Int) := (cmp_Or_int64.f k l0).bind fun t296 => (some t296)
set_option maxHeartbeats 8000000 in
set_option maxRecDepth 100000 in
theorem impl_firstCode.calls (k : Nat) (A0 : Option Addr) (c0 : Nat) (l0 : List Int) (r : Int) (w : World) (hr0 : Kd.C (Kd.int .i64) w A0 l0.length l0) (hc0 : l0.length ≤ c0) (h : impl_firstCode.f k l0 = some r) :
  Calls Tryz.prog 27 #[.slice A0 l0.length c0] w fun e w' => e = .returned (.int .i64 r) ∧ Below w.heap.size w w' := by
 have HR0 := am hr0
 have HC0 := am hc0
 clear hr0 hc0
 have HB := am (Below.refl w.heap.size w)
 have H : ((cmp_Or_int64.f k l0).bind fun t296 => (some t296)) = some r := h
 clear h
 obtain ⟨t296, A2, H⟩ := ob H
 try dsimp only at H
 obtain rfl := Option.some.inj H
 go_enter Tryz.func27, Tryz.ntmps27
 go_wp2_with (first | (refine gl (some 4) Tryz.func58 rfl #[.slice A0 l0.length c0] ?_; refine (cmp_Or_int64.calls k _ _ l0 t296 _ (cq HR0.out) HC0.out A2.out).mono ?_; rintro e w' ⟨rfl, ⟨nd, rfl⟩⟩; refine ⟨_, rfl, ?_⟩))
 go_ret
 exact ⟨er, hq HB.out⟩
def impl_within.f (a0 : Int) (a1 : Int) (a2 : Int) : Option (Bool) := if a0 ≥ a1 then (some (decide (a0 ≤ a2))) else (some false)
set_option maxHeartbeats 8000000 in
set_option maxRecDepth 100000 in
theorem impl_within.calls (a0 : Int) (a1 : Int) (a2 : Int) (r : Bool) (w : World) (h : impl_within.f a0 a1 a2 = some r) :
  Calls Tryz.prog 33 #[.int .i64 a0, .int .i64 a1, .int .i64 a2] w fun e w' => e = .returned (.bool r) ∧ Drawn0 w w' := by
 have H : (if a0 ≥ a1 then (some (decide (a0 ≤ a2))) else (some false)) = some r := h
 clear h
 by_cases c4 : a0 ≥ a1
 ·rw [if_pos c4] at H
  have c4b0 : decide (a1 ≤ a0) = true := decide_eq_true c4
  clear c4
  obtain rfl := Option.some.inj H
  go_enter Tryz.func33, Tryz.ntmps33
  go_wp2
  go_ret
  exact ⟨et, by repeat (first | exact Drawn0.refl _ | apply Drawn0.step)⟩
 ·rw [if_neg c4] at H
  have c4b0 : decide (a1 ≤ a0) = false := decide_eq_false c4
  clear c4
  obtain rfl := Option.some.inj H
  go_enter Tryz.func33, Tryz.ntmps33
  go_wp2
  go_ret
  exact ⟨et, by repeat (first | exact Drawn0.refl _ | apply Drawn0.step)⟩
def strings_Trim.f (s cut : ByteArray) : Option ByteArray := if s.size ≤ 9223372036854775807 ∧ cut.size < 4294967281 ∧ (cut.data.toList.all fun b => decide (b.toNat < 128)) = true then some ⟨(Lib.trimS s.data.toList cut.data.toList).toArray⟩ else none
theorem strings_Trim.calls (s cut : ByteArray) (r : ByteArray) (w : World) (h : strings_Trim.f s cut = some r) :
  Calls Tryz.prog 95 #[.string s, .string cut] w fun e w' => e = .returned (.string r) ∧ Below w.heap.size w w' := by
 unfold strings_Trim.f at h
 by_cases hc : s.size ≤ 9223372036854775807 ∧ cut.size < 4294967281 ∧ (cut.data.toList.all fun b => decide (b.toNat < 128)) = true
 ·rw [if_pos hc] at h
  obtain rfl := Option.some.inj h
  exact Any.strings_Trim_laid Shelf.lays160 (by kernel_rfl) s cut w hc.1 hc.2.1 (ascii_of_all hc.2.2)
 ·rw [if_neg hc] at h
  cases h
def impl_isName.f (a0 : ByteArray) : Option (Bool) := if (a0.size : Int) ≥ 1 then (if (a0.size : Int) ≤ 3 then ((strings_Trim.f a0 (⟨#[97, 98, 99, 100, 101, 102, 103, 104, 105, 106, 107, 108, 109, 110, 111, 112, 113, 114, 115, 116, 117, 118, 119, 120, 121, 122]⟩ : ByteArray)).bind fun t297 => (some (t297.toList == ([] : List UInt8)))) else (some false)) else (some false)
set_option maxHeartbeats 8000000 in
set_option maxRecDepth 100000 in
theorem impl_isName.calls (a0 : ByteArray) (r : Bool) (w : World) (h : impl_isName.f a0 = some r) :
  Calls Tryz.prog 76 #[.string a0] w fun e w' => e = .returned (.bool r) ∧ Below w.heap.size w w' := by
 have HB := am (Below.refl w.heap.size w)
 have H : (if (a0.size : Int) ≥ 1 then (if (a0.size : Int) ≤ 3 then ((strings_Trim.f a0 (⟨#[97, 98, 99, 100, 101, 102, 103, 104, 105, 106, 107, 108, 109, 110, 111, 112, 113, 114, 115, 116, 117, 118, 119, 120, 121, 122]⟩ : ByteArray)).bind fun t297 => (some (t297.toList == ([] : List UInt8)))) else (some false)) else (some false)) = some r := h
 clear h
 by_cases c2 : (a0.size : Int) ≥ 1
 ·rw [if_pos c2] at H
  have c2b0 : decide (1 ≤ (a0.size : Int)) = true := decide_eq_true c2
  have c2b1 : decide (1 ≤ a0.size) = true := decide_eq_true (by omega)
  clear c2
  by_cases c3 : (a0.size : Int) ≤ 3
  ·rw [if_pos c3] at H
   have c3b0 : decide ((a0.size : Int) ≤ 3) = true := decide_eq_true c3
   have c3b1 : decide (a0.size ≤ 3) = true := decide_eq_true (by omega)
   clear c3
   obtain ⟨t297, A4, H⟩ := ob H
   try dsimp only at H
   obtain rfl := Option.some.inj H
   go_enter Tryz.func76, Tryz.ntmps76
   go_wp2_with (first | (go_at_call 95; refine (strings_Trim.calls a0 (⟨#[97, 98, 99, 100, 101, 102, 103, 104, 105, 106, 107, 108, 109, 110, 111, 112, 113, 114, 115, 116, 117, 118, 119, 120, 121, 122]⟩ : ByteArray) t297 _ A4.out).mono ?_; rintro e w5 ⟨rfl, hb⟩; replace HB := sb HB hb; (try clear hb)))
   go_ret
   exact ⟨er, hq HB.out⟩
  ·rw [if_neg c3] at H
   have c3b0 : decide ((a0.size : Int) ≤ 3) = false := decide_eq_false c3
   have c3b1 : decide (a0.size ≤ 3) = false := decide_eq_false (by omega)
   clear c3
   obtain rfl := Option.some.inj H
   go_enter Tryz.func76, Tryz.ntmps76
   go_wp2
   go_ret
   exact ⟨er, hq HB.out⟩
 ·rw [if_neg c2] at H
  have c2b0 : decide (1 ≤ (a0.size : Int)) = false := decide_eq_false c2
  have c2b1 : decide (1 ≤ a0.size) = false := decide_eq_false (by omega)
  clear c2
  obtain rfl := Option.some.inj H
  go_enter Tryz.func76, Tryz.ntmps76
  go_wp2
  go_ret
  exact ⟨er, hq HB.out⟩
def impl_symbolIndex_1_with.f (a0_0 : ByteArray) (a0_1 : Int) (l1 : List ByteArray) : Option (Bool) := if 0 < (l1.length : Int) then (some (a0_0.toList == (Ax9 ByteArray.empty l1 0).toList)) else (none)
set_option maxHeartbeats 8000000 in
set_option maxRecDepth 100000 in
theorem impl_symbolIndex_1_with.calls (a0_0 : ByteArray) (a0_1 : Int) (A1 : Option Addr) (l1 : List ByteArray) (r : Bool) (w : World) (hr1 : Kd.C Kd.string w A1 l1.length l1) (h : impl_symbolIndex_1_with.f a0_0 a0_1 l1 = some r) :
  Calls Tryz.prog 97 #[.agg #[.string a0_0, .int .i64 a0_1], .pointer A1] w fun e w' => e = .returned (.bool r) ∧ Below w.heap.size w w' := by
 have hu90 := Tryz.underlying90
 have HR1 := am hr1
 clear hr1
 have HB := am (Below.refl w.heap.size w)
 have H : (if 0 < (l1.length : Int) then (some (a0_0.toList == (Ax9 ByteArray.empty l1 0).toList)) else (none)) = some r := h
 clear h
 obtain ⟨c3, H⟩ := ifs H
 have c3b0 : decide (0 < (l1.length : Int)) = true := decide_eq_true c3
 have c3b1 : decide (0 < l1.length) = true := decide_eq_true (by omega)
 clear c3
 obtain rfl := Option.some.inj H
 go_enter Tryz.func97, Tryz.ntmps97
 go_wp2_with (first | (refine bx 2 rfl #[.string a0_0, .int .i64 a0_1] 90 ?_; intro gb298 hg w4 hbox hb; have BK298 := am (hbox); have GW298 := am (bz hg (hq HB.out)); replace HB := sb HB hb; have GE298 := GW298; clear hb hbox hg; have hcz5_0 : w4.cell? ⟨gb298, 0, none⟩ = some (.string a0_0) := (Aa0 BK298.out 0).trans rfl; have hcz5_1 : w4.cell? ⟨gb298, 1, none⟩ = some (.int .i64 a0_1) := (Aa0 BK298.out 1).trans rfl; have hfz5_0 := Aa1 BK298.out 0; have hfz5_1 := Aa1 BK298.out 1; have p299 : 0 ≤ (0 : Int) := (by omega); have q299 : 0 < (l1.length : Int) := od; obtain ⟨ad299, e299, hx299_0⟩ := Kd.at_string HR1.out 0 p299 q299; cases e299; have qi299 : (0 < l1.length) = True := eq_true (by omega); (try rw [show ((0 : Int)).toNat = 0 from rfl] at hx299_0); (try rw [Addr.add_zero'] at hx299_0); replace hx299_0 := cz HB.out hx299_0; replace p299 := eq_true p299; replace q299 := eq_true q299))
 go_ret
 exact ⟨er, hs HB.out⟩
def slices_IndexFunc_impl_Symbol_impl_Symbol_impl_symbolIndex_1.l0 : Nat → List (S90) → Int → Int → List ByteArray → Option (Int)
 | 0, _, _, _, _ => none
 | k + 1, x0, x7, x8, x910 => if x8 < x7 then (if 0 ≤ x8 then (if x8 < (x0.length : Int) then ((impl_symbolIndex_1_with.f ((Aa7 x0 x8).f0) ((Aa7 x0 x8).f1) x910).bind fun t301 => (if t301 = true then (some x8) else (slices_IndexFunc_impl_Symbol_impl_Symbol_impl_symbolIndex_1.l0 k x0 x7 (wrap64 (x8 + 1)) x910))) else (none)) else (none)) else (some (-1))
def slices_IndexFunc_impl_Symbol_impl_Symbol_impl_symbolIndex_1.f (k : Nat) (l0 : List (S90)) (l1_0 : List ByteArray) : Option (Int) := slices_IndexFunc_impl_Symbol_impl_Symbol_impl_symbolIndex_1.l0 k l0 (l0.length : Int) 0 l1_0
set_option maxHeartbeats 8000000 in
set_option maxRecDepth 100000 in
theorem slices_IndexFunc_impl_Symbol_impl_Symbol_impl_symbolIndex_1.calls (k : Nat) (A0 : Option Addr) (c0 : Nat) (l0 : List (S90)) (A1_0 : Option Addr) (l1_0 : List ByteArray) (r : Int) (w : World) (hr0 : Kd.C k90 w A0 l0.length l0) (hc0 : l0.length ≤ c0) (hr1_0 : Kd.C Kd.string w A1_0 l1_0.length l1_0) (h : slices_IndexFunc_impl_Symbol_impl_Symbol_impl_symbolIndex_1.f k l0 l1_0 = some r) :
  Calls Tryz.prog 96 #[.slice A0 l0.length c0, .func (.func 97) #[] #[.pointer A1_0]] w fun e w' => e = .returned (.int .i64 r) ∧ Below w.heap.size w w' := by
 have hu90 := Tryz.underlying90
 have HR0 := am hr0
 have HC0 := am hc0
 clear hr0 hc0
 have HR1_0 := am hr1_0
 clear hr1_0
 have HB := am (Below.refl w.heap.size w)
 have H : (slices_IndexFunc_impl_Symbol_impl_Symbol_impl_symbolIndex_1.l0 k l0 (l0.length : Int) 0 l1_0) = some r := h
 clear h
 have H' := am H
 clear H
 go_enter Tryz.func96, Tryz.ntmps96
 go_wp2
 go_loopg [8] k (fun kq v8 w' => ∃ (x8_1 : Int), v8 = .int .i64 x8_1 ∧ Aside0 (slices_IndexFunc_impl_Symbol_impl_Symbol_impl_symbolIndex_1.l0 kq l0 (l0.length : Int) x8_1 l1_0 = some r) ∧ Aside0 (kq ≤ k) ∧ Aside0 (Below w.heap.size w w'))
 case atStart => exact ⟨(0), et, H', ⟨Nat.le_refl _⟩, ⟨hq HB.out⟩⟩
 case round =>
  clear H'
  obtain ⟨x8_1, rfl, HA, HK1, HB⟩ := hrel
  cases gk with
  | zero => exact absurd HA.out (by simp [slices_IndexFunc_impl_Symbol_impl_Symbol_impl_symbolIndex_1.l0])
  | succ k1 =>
   have H := HA.out
   clear HA
   simp only [slices_IndexFunc_impl_Symbol_impl_Symbol_impl_symbolIndex_1.l0] at H
   by_cases c3 : x8_1 < (l0.length : Int)
   ·rw [if_pos c3] at H
    have c3b0 : decide (x8_1 < (l0.length : Int)) = true := decide_eq_true c3
    clear c3
    obtain ⟨c4b0, H⟩ := ife H
    obtain ⟨c5b0, H⟩ := ife H
    obtain ⟨t301, A6, H⟩ := ob H
    try dsimp only at H
    by_cases c7 : t301 = true
    ·subst c7
     rw [if_pos rfl] at H
     obtain rfl := Option.some.inj H
     have p300 : 0 ≤ (x8_1 : Int) := od
     have q300 : x8_1 < (l0.length : Int) := od
     obtain ⟨ad300, e300, hx300_0, hx300_1⟩ := Ae9 HR0.out x8_1 p300 q300
     cases e300
     replace hx300_0 := cz HB.out hx300_0
     replace hx300_1 := cz HB.out hx300_1
     replace p300 := eq_true p300
     replace q300 := eq_true q300
     go_wp2_with (first | ((first | (refine gl (some 16) Tryz.func97 rfl #[.agg #[.string ((Aa7 l0 x8_1).f0), .int .i64 ((Aa7 l0 x8_1).f1)], .pointer A1_0] ?_) | ((with_reducible refine Af4 _ rfl ?_); refine An1 (some 16) rfl rfl Tryz.func97 (by kernel_rfl) rfl #[.agg #[.string ((Aa7 l0 x8_1).f0), .int .i64 ((Aa7 l0 x8_1).f1)], .pointer A1_0] rfl rfl (by first | rfl | (simp <;> first | rfl | exact ⟨rfl, rfl⟩ | exact ⟨rfl, rfl, rfl⟩) | ((try simp only [List.map_toArray, List.map_cons, List.map_nil]); first | done | rfl | (simp only [List.length_drop, List.length_take]; rfl))) ?_)); refine (impl_symbolIndex_1_with.calls ((Aa7 l0 x8_1).f0) ((Aa7 l0 x8_1).f1) _ l1_0 true _ (cq (Kd.C_below HR1_0.out HB.out)) A6.out).mono ?_; rintro e w8 ⟨rfl, hb⟩; refine ⟨_, rfl, ?_⟩; replace HB := sb HB hb; (try clear hb)))
     go_ret
     exact ⟨er, hq HB.out⟩
    ·replace c7 := Bool.eq_false_iff.mpr c7
     subst c7
     rw [if_neg (show ¬ (false = true) by decide)] at H
     have H' := am H
     clear H
     have p300 : 0 ≤ (x8_1 : Int) := od
     have q300 : x8_1 < (l0.length : Int) := od
     obtain ⟨ad300, e300, hx300_0, hx300_1⟩ := Ae9 HR0.out x8_1 p300 q300
     cases e300
     replace hx300_0 := cz HB.out hx300_0
     replace hx300_1 := cz HB.out hx300_1
     replace p300 := eq_true p300
     replace q300 := eq_true q300
     go_wp2_with (first | ((first | (refine gl (some 16) Tryz.func97 rfl #[.agg #[.string ((Aa7 l0 x8_1).f0), .int .i64 ((Aa7 l0 x8_1).f1)], .pointer A1_0] ?_) | ((with_reducible refine Af4 _ rfl ?_); refine An1 (some 16) rfl rfl Tryz.func97 (by kernel_rfl) rfl #[.agg #[.string ((Aa7 l0 x8_1).f0), .int .i64 ((Aa7 l0 x8_1).f1)], .pointer A1_0] rfl rfl (by first | rfl | (simp <;> first | rfl | exact ⟨rfl, rfl⟩ | exact ⟨rfl, rfl, rfl⟩) | ((try simp only [List.map_toArray, List.map_cons, List.map_nil]); first | done | rfl | (simp only [List.length_drop, List.length_take]; rfl))) ?_)); refine (impl_symbolIndex_1_with.calls ((Aa7 l0 x8_1).f0) ((Aa7 l0 x8_1).f1) _ l1_0 false _ (cq (Kd.C_below HR1_0.out HB.out)) A6.out).mono ?_; rintro e w9 ⟨rfl, hb⟩; refine ⟨_, rfl, ?_⟩; replace HB := sb HB hb; (try clear hb)))
     go_roundg k1
     case measure => have := HK1.out; omega
     case rel => exact ⟨(wrap64 (x8_1 + 1)), et, H', ⟨by have := HK1.out; omega⟩, ⟨hq HB.out⟩⟩
   ·rw [if_neg c3] at H
    have c3b0 : decide (x8_1 < (l0.length : Int)) = false := decide_eq_false c3
    clear c3
    obtain rfl := Option.some.inj H
    go_wp2
    go_ret
    exact ⟨er, hq HB.out⟩
def impl_symbolIndex.f (k : Nat) (l0_0 : List (S90)) (a1 : ByteArray) : Option (Int) := (slices_IndexFunc_impl_Symbol_impl_Symbol_impl_symbolIndex_1.f k l0_0 [a1]).bind fun t304 => (some t304)
set_option maxHeartbeats 8000000 in
set_option maxRecDepth 100000 in
theorem impl_symbolIndex.calls (k : Nat) (A0_0 : Option Addr) (c0_0 : Nat) (l0_0 : List (S90)) (a1 : ByteArray) (r : Int) (w : World) (hr0_0 : Kd.C k90 w A0_0 l0_0.length l0_0) (hc0_0 : l0_0.length ≤ c0_0) (h : impl_symbolIndex.f k l0_0 a1 = some r) :
  Calls Tryz.prog 77 #[.agg #[.slice A0_0 l0_0.length c0_0], .string a1] w fun e w' => e = .returned (.int .i64 r) ∧ Below w.heap.size w w' := by
 have hu26 := Tryz.underlying26
 have HR0_0 := am hr0_0
 have HC0_0 := am hc0_0
 clear hr0_0 hc0_0
 have HB := am (Below.refl w.heap.size w)
 have H : ((slices_IndexFunc_impl_Symbol_impl_Symbol_impl_symbolIndex_1.f k l0_0 [a1]).bind fun t304 => (some t304)) = some r := h
 clear h
 obtain ⟨t304, A3, H⟩ := ob H
 try dsimp only at H
 obtain rfl := Option.some.inj H
 go_enter Tryz.func77, Tryz.ntmps77
 go_wp2_with (first | (refine bx 2 rfl #[.slice A0_0 l0_0.length c0_0] 26 ?_; intro gb302 hg w4 hbox hb; have BK302 := am (hbox); have GW302 := am (bz hg (hq HB.out)); replace HB := sb HB hb; have GE302 := GW302; clear hb hbox hg) | (refine bx 3 rfl #[.string a1] 9 ?_; intro gb303 hg w5 hbox hb; have BK303 := am (hbox); have GW303 := am (bz hg (hs HB.out)); replace HB := sb HB hb; have GE303 := GW303; have NB302_303 := nl hg BK302; have NB303_302 := ng hg BK302; replace BK302 := bb BK302 hb; clear hb hbox hg; have hnb6 := NB302_303.out; have hnc6 := NB303_302.out; have hcz7_0 : w5.cell? ⟨gb302, 0, none⟩ = some (.slice A0_0 l0_0.length c0_0) := (Aa0 BK302.out 0).trans rfl; have hfz7_0 := Aa1 BK302.out 0) | (refine gl (some 8) Tryz.func96 rfl #[.slice A0_0 l0_0.length c0_0, .func (.func 97) #[] #[.pointer (some ⟨gb303, 0, none⟩)]] ?_; refine (slices_IndexFunc_impl_Symbol_impl_Symbol_impl_symbolIndex_1.calls k _ _ l0_0 _ [a1] t304 _ (cq (Kd.C_below HR0_0.out HB.out)) HC0_0.out (k9_box (bq BK303.out)) A3.out).mono ?_; rintro e w8 ⟨rfl, hb⟩; refine ⟨_, rfl, ?_⟩; replace BK302 := bb BK302 hb; replace BK303 := bb BK303 hb; replace HB := sb HB hb; (try clear hb)))
 go_ret
 exact ⟨er, hs HB.out⟩
def impl_SignatureFault_1.f (a0_0 : ByteArray) (a0_1 : Int) : Option (Bool) := some (a0_1 == 0)
set_option maxHeartbeats 8000000 in
set_option maxRecDepth 100000 in
theorem impl_SignatureFault_1.calls (a0_0 : ByteArray) (a0_1 : Int) (r : Bool) (w : World) (h : impl_SignatureFault_1.f a0_0 a0_1 = some r) :
  Calls Tryz.prog 79 #[.agg #[.string a0_0, .int .i64 a0_1]] w fun e w' => e = .returned (.bool r) ∧ Below w.heap.size w w' := by
 have hu90 := Tryz.underlying90
 have HB := am (Below.refl w.heap.size w)
 have H : (some (a0_1 == 0)) = some r := h
 clear h
 obtain rfl := Option.some.inj H
 go_enter Tryz.func79, Tryz.ntmps79
 go_wp2_with (first | (refine bx 1 rfl #[.string a0_0, .int .i64 a0_1] 90 ?_; intro gb305 hg w2 hbox hb; have BK305 := am (hbox); have GW305 := am (bz hg (hq HB.out)); replace HB := sb HB hb; have GE305 := GW305; clear hb hbox hg; have hcz3_0 : w2.cell? ⟨gb305, 0, none⟩ = some (.string a0_0) := (Aa0 BK305.out 0).trans rfl; have hcz3_1 : w2.cell? ⟨gb305, 1, none⟩ = some (.int .i64 a0_1) := (Aa0 BK305.out 1).trans rfl; have hfz3_0 := Aa1 BK305.out 0; have hfz3_1 := Aa1 BK305.out 1))
 go_ret
 exact ⟨er, hs HB.out⟩
def slices_IndexFunc_impl_Symbol_impl_Symbol_impl_SignatureFault_1.l0 : Nat → List (S90) → Int → Int → Option (Int)
 | 0, _, _, _ => none
 | k + 1, x0, x7, x8 => if x8 < x7 then (if 0 ≤ x8 then (if x8 < (x0.length : Int) then ((impl_SignatureFault_1.f ((Aa7 x0 x8).f0) ((Aa7 x0 x8).f1)).bind fun t307 => (if t307 = true then (some x8) else (slices_IndexFunc_impl_Symbol_impl_Symbol_impl_SignatureFault_1.l0 k x0 x7 (wrap64 (x8 + 1))))) else (none)) else (none)) else (some (-1))
def slices_IndexFunc_impl_Symbol_impl_Symbol_impl_SignatureFault_1.f (k : Nat) (l0 : List (S90))  : Option (Int) := slices_IndexFunc_impl_Symbol_impl_Symbol_impl_SignatureFault_1.l0 k l0 (l0.length : Int) 0
set_option maxHeartbeats 8000000 in
set_option maxRecDepth 100000 in
theorem slices_IndexFunc_impl_Symbol_impl_Symbol_impl_SignatureFault_1.calls (k : Nat) (A0 : Option Addr) (c0 : Nat) (l0 : List (S90))  (r : Int) (w : World) (hr0 : Kd.C k90 w A0 l0.length l0) (hc0 : l0.length ≤ c0) (h : slices_IndexFunc_impl_Symbol_impl_Symbol_impl_SignatureFault_1.f k l0 = some r) :
  Calls Tryz.prog 96 #[.slice A0 l0.length c0, .func (.func 79) #[] #[]] w fun e w' => e = .returned (.int .i64 r) ∧ Below w.heap.size w w' := by
 have hu90 := Tryz.underlying90
 have HR0 := am hr0
 have HC0 := am hc0
 clear hr0 hc0
 have HB := am (Below.refl w.heap.size w)
 have H : (slices_IndexFunc_impl_Symbol_impl_Symbol_impl_SignatureFault_1.l0 k l0 (l0.length : Int) 0) = some r := h
 clear h
 have H' := am H
 clear H
 go_enter Tryz.func96, Tryz.ntmps96
 go_wp2
 go_loopg [8] k (fun kq v8 w' => ∃ (x8_1 : Int), v8 = .int .i64 x8_1 ∧ Aside0 (slices_IndexFunc_impl_Symbol_impl_Symbol_impl_SignatureFault_1.l0 kq l0 (l0.length : Int) x8_1 = some r) ∧ Aside0 (kq ≤ k) ∧ Aside0 (Below w.heap.size w w'))
 case atStart => exact ⟨(0), et, H', ⟨Nat.le_refl _⟩, ⟨hq HB.out⟩⟩
 case round =>
  clear H'
  obtain ⟨x8_1, rfl, HA, HK1, HB⟩ := hrel
  cases gk with
  | zero => exact absurd HA.out (by simp [slices_IndexFunc_impl_Symbol_impl_Symbol_impl_SignatureFault_1.l0])
  | succ k1 =>
   have H := HA.out
   clear HA
   simp only [slices_IndexFunc_impl_Symbol_impl_Symbol_impl_SignatureFault_1.l0] at H
   by_cases c3 : x8_1 < (l0.length : Int)
   ·rw [if_pos c3] at H
    have c3b0 : decide (x8_1 < (l0.length : Int)) = true := decide_eq_true c3
    clear c3
    obtain ⟨c4b0, H⟩ := ife H
    obtain ⟨c5b0, H⟩ := ife H
    obtain ⟨t307, A6, H⟩ := ob H
    try dsimp only at H
    by_cases c7 : t307 = true
    ·subst c7
     rw [if_pos rfl] at H
     obtain rfl := Option.some.inj H
     have p306 : 0 ≤ (x8_1 : Int) := od
     have q306 : x8_1 < (l0.length : Int) := od
     obtain ⟨ad306, e306, hx306_0, hx306_1⟩ := Ae9 HR0.out x8_1 p306 q306
     cases e306
     replace hx306_0 := cz HB.out hx306_0
     replace hx306_1 := cz HB.out hx306_1
     replace p306 := eq_true p306
     replace q306 := eq_true q306
     go_wp2_with (first | ((first | (refine gl (some 16) Tryz.func79 rfl #[.agg #[.string ((Aa7 l0 x8_1).f0), .int .i64 ((Aa7 l0 x8_1).f1)]] ?_) | ((with_reducible refine Af4 _ rfl ?_); refine An1 (some 16) rfl rfl Tryz.func79 (by kernel_rfl) rfl #[.agg #[.string ((Aa7 l0 x8_1).f0), .int .i64 ((Aa7 l0 x8_1).f1)]] rfl rfl (by first | rfl | (simp <;> first | rfl | exact ⟨rfl, rfl⟩ | exact ⟨rfl, rfl, rfl⟩) | ((try simp only [List.map_toArray, List.map_cons, List.map_nil]); first | done | rfl | (simp only [List.length_drop, List.length_take]; rfl))) ?_)); (with_reducible refine (impl_SignatureFault_1.calls ((Aa7 l0 x8_1).f0) ((Aa7 l0 x8_1).f1) true _ A6.out).mono ?_); rintro e w8 ⟨rfl, hb⟩; refine ⟨_, rfl, ?_⟩; replace HB := sb HB hb; (try clear hb)))
     go_ret
     exact ⟨er, hq HB.out⟩
    ·replace c7 := Bool.eq_false_iff.mpr c7
     subst c7
     rw [if_neg (show ¬ (false = true) by decide)] at H
     have H' := am H
     clear H
     have p306 : 0 ≤ (x8_1 : Int) := od
     have q306 : x8_1 < (l0.length : Int) := od
     obtain ⟨ad306, e306, hx306_0, hx306_1⟩ := Ae9 HR0.out x8_1 p306 q306
     cases e306
     replace hx306_0 := cz HB.out hx306_0
     replace hx306_1 := cz HB.out hx306_1
     replace p306 := eq_true p306
     replace q306 := eq_true q306
     go_wp2_with (first | ((first | (refine gl (some 16) Tryz.func79 rfl #[.agg #[.string ((Aa7 l0 x8_1).f0), .int .i64 ((Aa7 l0 x8_1).f1)]] ?_) | ((with_reducible refine Af4 _ rfl ?_); refine An1 (some 16) rfl rfl Tryz.func79 (by kernel_rfl) rfl #[.agg #[.string ((Aa7 l0 x8_1).f0), .int .i64 ((Aa7 l0 x8_1).f1)]] rfl rfl (by first | rfl | (simp <;> first | rfl | exact ⟨rfl, rfl⟩ | exact ⟨rfl, rfl, rfl⟩) | ((try simp only [List.map_toArray, List.map_cons, List.map_nil]); first | done | rfl | (simp only [List.length_drop, List.length_take]; rfl))) ?_)); (with_reducible refine (impl_SignatureFault_1.calls ((Aa7 l0 x8_1).f0) ((Aa7 l0 x8_1).f1) false _ A6.out).mono ?_); rintro e w9 ⟨rfl, hb⟩; refine ⟨_, rfl, ?_⟩; replace HB := sb HB hb; (try clear hb)))
     go_roundg k1
     case measure => have := HK1.out; omega
     case rel => exact ⟨(wrap64 (x8_1 + 1)), et, H', ⟨by have := HK1.out; omega⟩, ⟨hq HB.out⟩⟩
   ·rw [if_neg c3] at H
    have c3b0 : decide (x8_1 < (l0.length : Int)) = false := decide_eq_false c3
    clear c3
    obtain rfl := Option.some.inj H
    go_wp2
    go_ret
    exact ⟨er, hq HB.out⟩
def slices_ContainsFunc_impl_Symbol_impl_Symbol_impl_SignatureFault_1.f (k : Nat) (l0 : List (S90))  : Option (Bool) := (slices_IndexFunc_impl_Symbol_impl_Symbol_impl_SignatureFault_1.f k l0).bind fun t308 => (some (decide (t308 ≥ 0)))
set_option maxHeartbeats 8000000 in
set_option maxRecDepth 100000 in
theorem slices_ContainsFunc_impl_Symbol_impl_Symbol_impl_SignatureFault_1.calls (k : Nat) (A0 : Option Addr) (c0 : Nat) (l0 : List (S90))  (r : Bool) (w : World) (hr0 : Kd.C k90 w A0 l0.length l0) (hc0 : l0.length ≤ c0) (h : slices_ContainsFunc_impl_Symbol_impl_Symbol_impl_SignatureFault_1.f k l0 = some r) :
  Calls Tryz.prog 78 #[.slice A0 l0.length c0, .func (.func 79) #[] #[]] w fun e w' => e = .returned (.bool r) ∧ Below w.heap.size w w' := by
 have HR0 := am hr0
 have HC0 := am hc0
 clear hr0 hc0
 have HB := am (Below.refl w.heap.size w)
 have H : ((slices_IndexFunc_impl_Symbol_impl_Symbol_impl_SignatureFault_1.f k l0).bind fun t308 => (some (decide (t308 ≥ 0)))) = some r := h
 clear h
 obtain ⟨t308, A3, H⟩ := ob H
 try dsimp only at H
 obtain rfl := Option.some.inj H
 go_enter Tryz.func78, Tryz.ntmps78
 go_wp2_with (first | (refine gl (some 7) Tryz.func96 rfl #[.slice A0 l0.length c0, .func (.func 79) #[] #[]] ?_; refine (slices_IndexFunc_impl_Symbol_impl_Symbol_impl_SignatureFault_1.calls k _ _ l0  t308 _ (cq HR0.out) HC0.out A3.out).mono ?_; rintro e w4 ⟨rfl, hb⟩; refine ⟨_, rfl, ?_⟩; replace HB := sb HB hb; (try clear hb)))
 go_ret
 exact ⟨er, hq HB.out⟩
end Go.Proofs.YtbdpnkpienpnaaaGreatDoor.P
