/- A part of the proof of the law FnPlain. -/
import Derived.Laws.StructEq
import Derived.Test.YtbdpnkpienpnaaaGreatDoorCFnPlain0
import Derived.Test.YtbdpnkpienpnaaaGreatDoorCFnPlain1
import Derived.Test.YtbdpnkpienpnaaaGreatDoorCFnPlain2
import Derived.Test.YtbdpnkpienpnaaaGreatDoorCFnPlain3
import Derived.Test.YtbdpnkpienpnaaaGreatDoorCFnPlain5
import Derived.Test.YtbdpnkpienpnaaaGreatDoorCFnPlain7
import Derived.Test.YtbdpnkpienpnaaaGreatDoorCFnPlain8
import Derived.Test.YtbdpnkpienpnaaaGreatDoorCFnPlain9
import Derived.Test.YtbdpnkpienpnaaaGreatDoorCFnPlain10
import Derived.Test.YtbdpnkpienpnaaaGreatDoorCFnPlain11
import Derived.Test.YtbdpnkpienpnaaaGreatDoorCFnPlain12
import Derived.Test.YtbdpnkpienpnaaaGreatDoorCFnPlain20
namespace Go.Proofs.YtbdpnkpienpnaaaGreatDoor.P
open Go.RowKit Go.Proofs.YtbdpnkpienpnaaaGreatDoorW.PrintWords Go.Proofs.YtbdpnkpienpnaaaGreatDoorW.PrintLast Go.Proofs.YtbdpnkpienpnaaaGreatDoorW.PrintMore
attribute [local go_sem] Ae7 Ae6 Af7 Af8 Ad8 Ad9 Ae2 Ae4   -- for this text's walks alone
set_option linter.unusedVariables false
set_option linter.unusedSimpArgs false
def impl_EquationFault.f (k : Nat) (l0_0 : List (S90)) (l1_0 : List Int) (l1_1 : List Int) : Option (Int) := (impl_TermFault.f k l0_0 l1_0).bind fun t472 => ((impl_TermFault.f k l0_0 l1_1).bind fun t473 => ((impl_firstCode.f k (([t472, t473] : List Int))).bind fun t477 => (if t477 = 0 then ((impl_varsOf.f k (([l1_0, l1_1] : List (List Int)))).bind fun t481 => ((slices_ContainsFunc_int64_int64_impl_EquationFault_1.f k t481).bind fun t484 => (if t484 = true then (some 3) else (some 0)))) else (some t477))))
def impl_EquationFault.T1 : Bool × List (List Nat × List Nat) := (true, [([], []), ([], []), ([1], [1]), ([0, 2], [0, 2]), ([], []), ([], []), ([5], [5]), ([4, 6, 3], [4, 6]), ([3, 7], [3, 7]), ([8, 7], [8]), ([9, 9, 0, 1, 2, 3, 4, 5, 6, 7, 8, 9], [9])])
def impl_EquationFault.B1 : List Nat := [0, 0, 2, 7, 0, 0, 32, 127, 255, 511, 1023]
theorem impl_EquationFault.tab1 : Am6 .any (Ar3 Tryz.f11 1) = impl_EquationFault.T1 := by kernel_rfl
theorem impl_EquationFault.bits1 : Ai2 impl_EquationFault.T1.2 impl_EquationFault.B1 = true := by kernel_rfl
set_option maxHeartbeats 8000000 in
set_option maxRecDepth 100000 in
theorem impl_EquationFault.calls (k : Nat) (A0_0 : Option Addr) (c0_0 : Nat) (l0_0 : List (S90)) (P1_0_ : Nat → Prop) (A1_0 : Option Addr) (c1_0 : Nat) (l1_0 : List Int) (P1_1_ : Nat → Prop) (A1_1 : Option Addr) (c1_1 : Nat) (l1_1 : List Int) (r : Int) (w : World) (hr0_0 : Kd.C k90 w A0_0 l0_0.length l0_0) (hc0_0 : l0_0.length ≤ c0_0) (hs1_0 : Kd.V (Kd.int .i64) 2 w w.heap.size (fun k_ => P1_0_ k_) (.slice A1_0 l1_0.length c1_0) l1_0) (hs1_1 : Kd.V (Kd.int .i64) 2 w w.heap.size (fun k_ => P1_1_ k_) (.slice A1_1 l1_1.length c1_1) l1_1) (h : impl_EquationFault.f k l0_0 l1_0 l1_1 = some r) :
  Calls Tryz.prog 11 #[.agg #[.slice A0_0 l0_0.length c0_0], .agg #[.slice A1_0 l1_0.length c1_0, .slice A1_1 l1_1.length c1_1]] w fun e w' => e = .returned (.int .i64 r) ∧ Below w.heap.size w w' := by
 have hu26 := Tryz.underlying26
 have hu29 := Tryz.underlying29
 have HR0_0 := am hr0_0
 have HC0_0 := am hc0_0
 clear hr0_0 hc0_0
 have HO1_0 := am (show Kd.V (Kd.int .i64) 2 w w.heap.size (fun k_ => ((P1_0_ k_ ∨ P1_1_ k_) ∨ w.heap.size ≤ k_)) (.slice A1_0 l1_0.length c1_0) l1_0 from Kd.V_mono hs1_0 (fun k_ hk => .inl (.inl hk)))
 have HO1_1 := am (show Kd.V (Kd.int .i64) 2 w w.heap.size (fun k_ => ((P1_0_ k_ ∨ P1_1_ k_) ∨ w.heap.size ≤ k_)) (.slice A1_1 l1_1.length c1_1) l1_1 from Kd.V_mono hs1_1 (fun k_ hk => .inl (.inr hk)))
 have HB := am (Below.refl w.heap.size w)
 have H : ((impl_TermFault.f k l0_0 l1_0).bind fun t472 => ((impl_TermFault.f k l0_0 l1_1).bind fun t473 => ((impl_firstCode.f k (([t472, t473] : List Int))).bind fun t477 => (if t477 = 0 then ((impl_varsOf.f k (([l1_0, l1_1] : List (List Int)))).bind fun t481 => ((slices_ContainsFunc_int64_int64_impl_EquationFault_1.f k t481).bind fun t484 => (if t484 = true then (some 3) else (some 0)))) else (some t477))))) = some r := h
 clear h
 obtain ⟨t472, A3, H⟩ := ob H
 try dsimp only at H
 obtain ⟨t473, A4, H⟩ := ob H
 try dsimp only at H
 obtain ⟨y474, hy474⟩ : ∃ y_ : List Int, y_ = (([t472, t473] : List Int)) := ⟨_, rfl⟩
 replace H : ((impl_firstCode.f k y474).bind fun t477 => (if t477 = 0 then ((impl_varsOf.f k (([l1_0, l1_1] : List (List Int)))).bind fun t481 => ((slices_ContainsFunc_int64_int64_impl_EquationFault_1.f k t481).bind fun t484 => (if t484 = true then (some 3) else (some 0)))) else (some t477))) = some r := by first | (rw [hy474]; with_reducible exact H) | (have H2_ := (Option.bind_some _ _).symm.trans H; rw [hy474]; with_reducible exact H2_) | (have H2_ := (Option.bind_some _ _).symm.trans H; with_reducible exact H2_) | with_reducible exact H | (rw [hy474]; exact H) | exact H
 have Ny474 := am hy474
 clear hy474
 obtain ⟨t477, A5, H⟩ := ob H
 try dsimp only at H
 by_cases c6 : t477 = 0
 ·rw [if_pos c6] at H
  obtain ⟨c6b0, c6b1⟩ := bqt c6; clear c6
  obtain ⟨y478, hy478⟩ : ∃ y_ : List (List Int), y_ = (([l1_0, l1_1] : List (List Int))) := ⟨_, rfl⟩
  replace H : ((impl_varsOf.f k y478).bind fun t481 => ((slices_ContainsFunc_int64_int64_impl_EquationFault_1.f k t481).bind fun t484 => (if t484 = true then (some 3) else (some 0)))) = some r := by first | (rw [hy478]; with_reducible exact H) | (have H2_ := (Option.bind_some _ _).symm.trans H; rw [hy478]; with_reducible exact H2_) | (have H2_ := (Option.bind_some _ _).symm.trans H; with_reducible exact H2_) | with_reducible exact H | (rw [hy478]; exact H) | exact H
  have Ny478 := am hy478
  clear hy478
  obtain ⟨t481, A7, H⟩ := ob H
  try dsimp only at H
  obtain ⟨t484, A8, H⟩ := ob H
  try dsimp only at H
  by_cases c9 : t484 = true
  ·subst c9
   rw [if_pos rfl] at H
   obtain rfl := Option.some.inj H
   go_enter Tryz.func11, Tryz.ntmps11
   try go_wp2_with (first | (refine bx 2 rfl #[.slice A0_0 l0_0.length c0_0] 26 ?_; intro gb470 hg w10 hbox hb; replace HO1_0 := am (Kd.V_below (Kd.V_elderB (vq HO1_0.out) gb470 (Nat.le_of_eq hg.symm)) hb); replace HO1_1 := am (Kd.V_below (Kd.V_elderB (vq HO1_1.out) gb470 (Nat.le_of_eq hg.symm)) hb); have BK470 := am (hbox); have GW470 := am (bz hg (hq HB.out)); replace HB := sb HB hb; have GE470 := GW470; clear hb hbox hg) | (refine bx 3 rfl #[.slice A1_0 l1_0.length c1_0, .slice A1_1 l1_1.length c1_1] 29 ?_; intro gb471 hg w11 hbox hb; replace HO1_0 := am (Kd.V_below (Kd.V_elderB (vq HO1_0.out) gb471 (Nat.le_of_eq hg.symm)) hb); replace HO1_1 := am (Kd.V_below (Kd.V_elderB (vq HO1_1.out) gb471 (Nat.le_of_eq hg.symm)) hb); have BK471 := am (hbox); have GW471 := am (bz hg (hs HB.out)); replace HB := sb HB hb; have GE471 := GW471; have NB470_471 := nl hg BK470; have NB471_470 := ng hg BK470; replace BK470 := bb BK470 hb; clear hb hbox hg))
   replace HO1_0 := am (Kd.V_drew HO1_0.out)
   replace HO1_1 := am (Kd.V_drew HO1_1.out)
   replace BK470 := am (Ad0 BK470.out)
   replace BK471 := am (Ad0 BK471.out)
   replace HB := am (Ab3 HB.out)
   refine Ak0 (n := 11) (S := fun w' => w'.cell? ⟨gb470, 0, none⟩ = some (.slice A0_0 l0_0.length c0_0) ∧ w'.cell? ⟨gb471, 0, none⟩ = some (.slice A1_0 l1_0.length c1_0) ∧ w'.cell? ⟨gb471, 1, none⟩ = some (.slice A1_1 l1_1.length c1_1)) (ds := []) #[false, false, false, false, false, false, false, false, false, false, false] (by kernel_rfl) rfl rfl ⟨(Aa0 BK470.out 0).trans rfl, (Aa0 BK471.out 0).trans rfl, (Aa0 BK471.out 1).trans rfl⟩ (fun hHeld => ?_); refine Af6 impl_EquationFault.tab1 impl_EquationFault.bits1 (fun HT_ HW_ => ?_)
   generalize w11.drew = w12 at HO1_0 HO1_1 BK470 BK471 HB hHeld ⊢
   refine pu 1 7 rfl rfl HT_ ?_
   refine pu 5 11 rfl rfl HT_ ?_
   refine tk 0 6 rfl rfl HT_ HW_ hHeld ?_
   refine tk 2 8 rfl rfl HT_ HW_ hHeld ?_
   refine tk 4 10 rfl rfl HT_ HW_ hHeld ?_
   refine tk 6 12 rfl rfl HT_ HW_ hHeld ?_
   refine on_ 3 (some 9) rfl rfl HT_ (fun K hK => ?_)
   refine gs Tryz.func28 #[.agg #[.slice A0_0 l0_0.length c0_0], .slice A1_0 l1_0.length c1_0] ?_
   refine (impl_TermFault.calls k _ _ l0_0 _ _ l1_0 t472 _ (cq (Kd.C_below HR0_0.out HB.out)) HC0_0.out (cq (Kd.V_reads' HO1_0.out).2.2) ((Kd.V_reads' HO1_0.out).2.1) A3.out).mono ?_
   rintro e w13 ⟨rfl, hb⟩
   refine ⟨_, rfl, ?_⟩
   replace HO1_0 := am (Kd.V_below (vq HO1_0.out) hb)
   replace HO1_1 := am (Kd.V_below (vq HO1_1.out) hb)
   replace BK470 := bb BK470 hb
   replace BK471 := bb BK471 hb
   replace HB := sb HB hb
   (try clear hb)
   (try clear hk)
   refine hK.out _ _ ⟨(Aa0 BK470.out 0).trans rfl, (Aa0 BK471.out 0).trans rfl, (Aa0 BK471.out 1).trans rfl⟩ (fun hHeld => ?_)
   clear hK K
   refine nr (some 9) ?_
   refine on_ 7 (some 13) rfl rfl HT_ (fun K hK => ?_)
   refine gs Tryz.func28 #[.agg #[.slice A0_0 l0_0.length c0_0], .slice A1_1 l1_1.length c1_1] ?_
   refine (impl_TermFault.calls k _ _ l0_0 _ _ l1_1 t473 _ (cq (Kd.C_below HR0_0.out HB.out)) HC0_0.out (cq (Kd.V_reads' HO1_1.out).2.2) ((Kd.V_reads' HO1_1.out).2.1) A4.out).mono ?_
   rintro e w14 ⟨rfl, hb⟩
   refine ⟨_, rfl, ?_⟩
   replace HO1_0 := am (Kd.V_below (vq HO1_0.out) hb)
   replace HO1_1 := am (Kd.V_below (vq HO1_1.out) hb)
   replace BK470 := bb BK470 hb
   replace BK471 := bb BK471 hb
   replace HB := sb HB hb
   (try clear hb)
   (try clear hk)
   refine hK.out _ _ ⟨(Aa0 BK470.out 0).trans rfl, (Aa0 BK471.out 0).trans rfl, (Aa0 BK471.out 1).trans rfl⟩ (fun hHeld => ?_)
   clear hK K
   refine nr (some 13) ?_
   refine on_ 8 (some 14) rfl rfl HT_ (fun K hK => ?_)
   refine Kd.R_lit_step (Kd.int .i64) _ 2 ?hg (N := 14) ?hd (xs := ([t472, t473] : List Int)) (inner := [.int .i64 t472, .int .i64 t473]) (ok := fun _ => True) (okp := fun _ => True) ?hr ?hp (fun _ hk => hk) trivial (Below.refl _ _) (Nat.le_refl _) (by simp) ?_; (case hd => rfl); (case hg => rfl); (case hr => first | (go_simp; done) | (go_simp; rfl)); (case hp => exact (Ad5.one (show Kd.M (Kd.int .i64) _ _ _ t472 [.int .i64 t472] from rfl) (Ad5.one (show Kd.M (Kd.int .i64) _ _ _ t473 [.int .i64 t473] from rfl) (Ad5.none _ _))))
   intro v475 w15 ho16 hb hg_ hnew_
   clear hg_ hnew_
   (first | rw [← Ny474.out] at ho16 | (simp only [Int.reduceToNat] at ho16; rw [← Ny474.out] at ho16))
   replace HO1_0 := am (Kd.V_elder' (vq HO1_0.out) (Kd.R_base ho16) hb)
   replace HO1_1 := am (Kd.V_elder' (vq HO1_1.out) (Kd.R_base ho16) hb)
   have HO476 := am (Kd.R_lower (Kd.R_newM (M := fun k_ => (w.heap.size ≤ k_)) ho16 (Aa8 (hs HB.out)) (fun k_ h_ => h_)) (Aa8 (hs HB.out)))
   replace BK470 := bb BK470 hb
   replace BK471 := bb BK471 hb
   replace HB := sb HB hb
   clear hb ho16
   obtain ⟨Ao17, co17, eo17⟩ := Kd.R_slice HO476.out
   (first | subst eo17 | (injection eo17 with f1_ f2_ f3_; have f4_ := f1_.symm; have f5_ := f3_.symm; clear f1_ f2_ f3_; subst f4_; subst f5_))
   refine hK.out _ _ ⟨(Aa0 BK470.out 0).trans rfl, (Aa0 BK471.out 0).trans rfl, (Aa0 BK471.out 1).trans rfl⟩ (fun hHeld => ?_)
   clear hK K
   refine nr (some 14) ?_
   refine on_ 9 (some 15) rfl rfl HT_ (fun K hK => ?_)
   refine gs Tryz.func27 #[.slice Ao17 y474.length co17] ?_
   refine (impl_firstCode.calls k _ _ y474 t477 _ (cq (Kd.R_reads' HO476.out).2.2) ((Kd.R_reads' HO476.out).2.1) A5.out).mono ?_
   rintro e w18 ⟨rfl, hb⟩
   refine ⟨_, rfl, ?_⟩
   replace HO1_0 := am (Kd.V_below (vq HO1_0.out) hb)
   replace HO1_1 := am (Kd.V_below (vq HO1_1.out) hb)
   replace HO476 := rb HO476 hb
   replace BK470 := bb BK470 hb
   replace BK471 := bb BK471 hb
   replace HB := sb HB hb
   (try clear hb)
   (try clear hk)
   refine hK.out _ _ ⟨(Aa0 BK470.out 0).trans rfl, (Aa0 BK471.out 0).trans rfl, (Aa0 BK471.out 1).trans rfl⟩ (fun hHeld => ?_)
   clear hK K
   refine nr (some 15) ?_
   refine pu 10 5 rfl rfl HT_ ?_
   refine Am5 (Ai6 HT_.out (by kernel_rfl)) ?_
   have hnb19 := NB471_470.out
   have hnc19 := NB470_471.out
   have hcz20_0 : w18.cell? ⟨gb471, 0, none⟩ = some (.slice A1_0 l1_0.length c1_0) := (Aa0 BK471.out 0).trans rfl
   have hcz20_1 : w18.cell? ⟨gb471, 1, none⟩ = some (.slice A1_1 l1_1.length c1_1) := (Aa0 BK471.out 1).trans rfl
   have hfz20_0 := Aa1 BK471.out 0
   have hfz20_1 := Aa1 BK471.out 1
   try go_wp2_with (first | ((with_reducible refine Ad2 (N := 23) rfl ?_); refine Kd.N_lit (Kd.slice 2 (Kd.int .i64)) _ 27 ?hg (N' := 23) ?hd (xs := ([l1_0, l1_1] : List (List Int))) (inner := [.slice A1_0 l1_0.length c1_0, .slice A1_1 l1_1.length c1_1]) (ok := (fun k_ => ((P1_0_ k_ ∨ P1_1_ k_) ∨ w.heap.size ≤ k_) ∧ some k_ ≠ (.slice Ao17 y474.length co17 : Value).ownBlock ∧ k_ ≠ gb470 ∧ k_ ≠ gb471)) (okp := (fun k_ => ((P1_0_ k_ ∨ P1_1_ k_) ∨ w.heap.size ≤ k_) ∧ some k_ ≠ (.slice Ao17 y474.length co17 : Value).ownBlock ∧ k_ ≠ gb470 ∧ k_ ≠ gb471)) ?hr ?hp (fun _ hk => hk) ((show ∀ k_, w18.heap.size ≤ k_ → (fun k_ => ((P1_0_ k_ ∨ P1_1_ k_) ∨ w.heap.size ≤ k_) ∧ some k_ ≠ (.slice Ao17 y474.length co17 : Value).ownBlock ∧ k_ ≠ gb470 ∧ k_ ≠ gb471) k_ from fun k_ hk => ⟨(.inr (Nat.le_trans (Aa8 (hs HB.out)) hk)), Kd.fresh' (Kd.R_lt (rq HO476.out)) k_ hk, Kd.freshB (bq BK470.out) k_ hk, Kd.freshB (bq BK471.out) k_ hk⟩) _ (Nat.le_refl _)) (Below.refl _ _) (Nat.le_refl _) (by simp) ?_; (case hd => rfl); (case hg => rfl); (case hr => first | (go_simp; done) | (go_simp; rfl)); (case hp => exact (Ad5.one (show Kd.FK (Kd.slice 2 (Kd.int .i64)) _ _ l1_0 [.slice A1_0 l1_0.length c1_0] from (Kd.FK_slice_mk (Kd.V_reads' (Kd.V_mono (ok' := (fun k_ => ((P1_0_ k_ ∨ P1_1_ k_) ∨ w.heap.size ≤ k_) ∧ some k_ ≠ (.slice Ao17 y474.length co17 : Value).ownBlock ∧ k_ ≠ gb470 ∧ k_ ≠ gb471)) (HO1_0.out) (fun k_ hk => ⟨hk.1.1.1, ⟨hk.2, ⟨hk.1.1.2, hk.1.2⟩⟩⟩))).2.1 (Kd.V_F (Kd.V_mono (ok' := (fun k_ => ((P1_0_ k_ ∨ P1_1_ k_) ∨ w.heap.size ≤ k_) ∧ some k_ ≠ (.slice Ao17 y474.length co17 : Value).ownBlock ∧ k_ ≠ gb470 ∧ k_ ≠ gb471)) (HO1_0.out) (fun k_ hk => ⟨hk.1.1.1, ⟨hk.2, ⟨hk.1.1.2, hk.1.2⟩⟩⟩))))) (Ad5.one (show Kd.FK (Kd.slice 2 (Kd.int .i64)) _ _ l1_1 [.slice A1_1 l1_1.length c1_1] from (Kd.FK_slice_mk (Kd.V_reads' (Kd.V_mono (ok' := (fun k_ => ((P1_0_ k_ ∨ P1_1_ k_) ∨ w.heap.size ≤ k_) ∧ some k_ ≠ (.slice Ao17 y474.length co17 : Value).ownBlock ∧ k_ ≠ gb470 ∧ k_ ≠ gb471)) (HO1_1.out) (fun k_ hk => ⟨hk.1.1.1, ⟨hk.2, ⟨hk.1.1.2, hk.1.2⟩⟩⟩))).2.1 (Kd.V_F (Kd.V_mono (ok' := (fun k_ => ((P1_0_ k_ ∨ P1_1_ k_) ∨ w.heap.size ≤ k_) ∧ some k_ ≠ (.slice Ao17 y474.length co17 : Value).ownBlock ∧ k_ ≠ gb470 ∧ k_ ≠ gb471)) (HO1_1.out) (fun k_ hk => ⟨hk.1.1.1, ⟨hk.2, ⟨hk.1.1.2, hk.1.2⟩⟩⟩))))) (Ad5.none _ _)))); intro v479 w21 ho22 hb hg_ hnew_; clear hg_ hnew_; (first | rw [← Ny478.out] at ho22 | (simp only [Int.reduceToNat] at ho22; rw [← Ny478.out] at ho22)); replace HO1_0 := am (Kd.V_elder' (vq HO1_0.out) (Kd.N_base ho22) hb); replace HO1_1 := am (Kd.V_elder' (vq HO1_1.out) (Kd.N_base ho22) hb); replace HO476 := rb HO476 hb; have HO480 := am (Kd.N_lower ho22 (Aa8 (hs HB.out))); replace BK470 := bb BK470 hb; replace BK471 := bb BK471 hb; replace HB := sb HB hb; clear hb ho22; obtain ⟨Ao23, co23, eo23⟩ := Kd.N_slice HO480.out; subst eo23) | (refine gl (some 24) Tryz.func37 rfl #[.slice Ao23 y478.length co23] ?_; refine (impl_varsOf.calls k _ _ y478 t481 _ (cq (Kd.N_reads' HO480.out).2.2) ((Kd.N_reads' HO480.out).2.1) A7.out).mono ?_; rintro e w24 ⟨v482, rfl, ho0, hb⟩; refine ⟨_, rfl, ?_⟩; replace HO1_0 := am (Kd.V_elder' (vq HO1_0.out) (Kd.R_base ho0) hb); replace HO1_1 := am (Kd.V_elder' (vq HO1_1.out) (Kd.R_base ho0) hb); replace HO480 := am (Kd.N_elder' (by (with_reducible repeat (first | apply Kd.N_alloc | apply Kd.N_drewN | apply Kd.N_drew)); exact HO480.out) (Kd.R_base ho0) hb); have HO483 := am (Kd.R_lower (Kd.R_new' (Kd.R_newM (M := fun k_ => (w.heap.size ≤ k_)) ho0 (Aa8 (hs HB.out)) (fun k_ h_ => h_)) (Kd.R_lt (rq HO476.out))) (Aa8 (hs HB.out))); replace HO476 := am (Kd.R_elder' (rq HO476.out) (Kd.R_base ho0) hb); replace BK470 := bb BK470 hb; replace BK471 := bb BK471 hb; replace HB := sb HB hb; (try clear hb); (try clear hk); (try clear ho0); obtain ⟨Ao25, co25, rfl⟩ := Kd.R_slice HO483.out) | (refine gl (some 25) Tryz.func36 rfl #[.slice Ao25 t481.length co25, .func (.func 38) #[] #[]] ?_; refine (slices_ContainsFunc_int64_int64_impl_EquationFault_1.calls k _ _ t481  true _ (cq (Kd.R_reads' HO483.out).2.2) ((Kd.R_reads' HO483.out).2.1) A8.out).mono ?_; rintro e w26 ⟨rfl, hb⟩; refine ⟨_, rfl, ?_⟩; replace HO1_0 := am (Kd.V_below (vq HO1_0.out) hb); replace HO1_1 := am (Kd.V_below (vq HO1_1.out) hb); replace HO476 := rb HO476 hb; replace HO480 := am (Kd.N_below (by (with_reducible repeat (first | apply Kd.N_alloc | apply Kd.N_drewN | apply Kd.N_drew)); exact HO480.out) hb); replace HO483 := rb HO483 hb; replace BK470 := bb BK470 hb; replace BK471 := bb BK471 hb; replace HB := sb HB hb; (try clear hb); (try clear hk)))
   go_ret
   exact ⟨er, hs HB.out⟩
  ·replace c9 := Bool.eq_false_iff.mpr c9
   subst c9
   rw [if_neg (show ¬ (false = true) by decide)] at H
   obtain rfl := Option.some.inj H
   go_enter Tryz.func11, Tryz.ntmps11
   try go_wp2_with (first | (refine bx 2 rfl #[.slice A0_0 l0_0.length c0_0] 26 ?_; intro gb470 hg w27 hbox hb; replace HO1_0 := am (Kd.V_below (Kd.V_elderB (vq HO1_0.out) gb470 (Nat.le_of_eq hg.symm)) hb); replace HO1_1 := am (Kd.V_below (Kd.V_elderB (vq HO1_1.out) gb470 (Nat.le_of_eq hg.symm)) hb); have BK470 := am (hbox); have GW470 := am (bz hg (hq HB.out)); replace HB := sb HB hb; have GE470 := GW470; clear hb hbox hg) | (refine bx 3 rfl #[.slice A1_0 l1_0.length c1_0, .slice A1_1 l1_1.length c1_1] 29 ?_; intro gb471 hg w28 hbox hb; replace HO1_0 := am (Kd.V_below (Kd.V_elderB (vq HO1_0.out) gb471 (Nat.le_of_eq hg.symm)) hb); replace HO1_1 := am (Kd.V_below (Kd.V_elderB (vq HO1_1.out) gb471 (Nat.le_of_eq hg.symm)) hb); have BK471 := am (hbox); have GW471 := am (bz hg (hs HB.out)); replace HB := sb HB hb; have GE471 := GW471; have NB470_471 := nl hg BK470; have NB471_470 := ng hg BK470; replace BK470 := bb BK470 hb; clear hb hbox hg))
   replace HO1_0 := am (Kd.V_drew HO1_0.out)
   replace HO1_1 := am (Kd.V_drew HO1_1.out)
   replace BK470 := am (Ad0 BK470.out)
   replace BK471 := am (Ad0 BK471.out)
   replace HB := am (Ab3 HB.out)
   refine Ak0 (n := 11) (S := fun w' => w'.cell? ⟨gb470, 0, none⟩ = some (.slice A0_0 l0_0.length c0_0) ∧ w'.cell? ⟨gb471, 0, none⟩ = some (.slice A1_0 l1_0.length c1_0) ∧ w'.cell? ⟨gb471, 1, none⟩ = some (.slice A1_1 l1_1.length c1_1)) (ds := []) #[false, false, false, false, false, false, false, false, false, false, false] (by kernel_rfl) rfl rfl ⟨(Aa0 BK470.out 0).trans rfl, (Aa0 BK471.out 0).trans rfl, (Aa0 BK471.out 1).trans rfl⟩ (fun hHeld => ?_); refine Af6 impl_EquationFault.tab1 impl_EquationFault.bits1 (fun HT_ HW_ => ?_)
   generalize w28.drew = w29 at HO1_0 HO1_1 BK470 BK471 HB hHeld ⊢
   refine pu 1 7 rfl rfl HT_ ?_
   refine pu 5 11 rfl rfl HT_ ?_
   refine tk 0 6 rfl rfl HT_ HW_ hHeld ?_
   refine tk 2 8 rfl rfl HT_ HW_ hHeld ?_
   refine tk 4 10 rfl rfl HT_ HW_ hHeld ?_
   refine tk 6 12 rfl rfl HT_ HW_ hHeld ?_
   refine on_ 3 (some 9) rfl rfl HT_ (fun K hK => ?_)
   refine gs Tryz.func28 #[.agg #[.slice A0_0 l0_0.length c0_0], .slice A1_0 l1_0.length c1_0] ?_
   refine (impl_TermFault.calls k _ _ l0_0 _ _ l1_0 t472 _ (cq (Kd.C_below HR0_0.out HB.out)) HC0_0.out (cq (Kd.V_reads' HO1_0.out).2.2) ((Kd.V_reads' HO1_0.out).2.1) A3.out).mono ?_
   rintro e w30 ⟨rfl, hb⟩
   refine ⟨_, rfl, ?_⟩
   replace HO1_0 := am (Kd.V_below (vq HO1_0.out) hb)
   replace HO1_1 := am (Kd.V_below (vq HO1_1.out) hb)
   replace BK470 := bb BK470 hb
   replace BK471 := bb BK471 hb
   replace HB := sb HB hb
   (try clear hb)
   (try clear hk)
   refine hK.out _ _ ⟨(Aa0 BK470.out 0).trans rfl, (Aa0 BK471.out 0).trans rfl, (Aa0 BK471.out 1).trans rfl⟩ (fun hHeld => ?_)
   clear hK K
   refine nr (some 9) ?_
   refine on_ 7 (some 13) rfl rfl HT_ (fun K hK => ?_)
   refine gs Tryz.func28 #[.agg #[.slice A0_0 l0_0.length c0_0], .slice A1_1 l1_1.length c1_1] ?_
   refine (impl_TermFault.calls k _ _ l0_0 _ _ l1_1 t473 _ (cq (Kd.C_below HR0_0.out HB.out)) HC0_0.out (cq (Kd.V_reads' HO1_1.out).2.2) ((Kd.V_reads' HO1_1.out).2.1) A4.out).mono ?_
   rintro e w31 ⟨rfl, hb⟩
   refine ⟨_, rfl, ?_⟩
   replace HO1_0 := am (Kd.V_below (vq HO1_0.out) hb)
   replace HO1_1 := am (Kd.V_below (vq HO1_1.out) hb)
   replace BK470 := bb BK470 hb
   replace BK471 := bb BK471 hb
   replace HB := sb HB hb
   (try clear hb)
   (try clear hk)
   refine hK.out _ _ ⟨(Aa0 BK470.out 0).trans rfl, (Aa0 BK471.out 0).trans rfl, (Aa0 BK471.out 1).trans rfl⟩ (fun hHeld => ?_)
   clear hK K
   refine nr (some 13) ?_
   refine on_ 8 (some 14) rfl rfl HT_ (fun K hK => ?_)
   refine Kd.R_lit_step (Kd.int .i64) _ 2 ?hg (N := 14) ?hd (xs := ([t472, t473] : List Int)) (inner := [.int .i64 t472, .int .i64 t473]) (ok := fun _ => True) (okp := fun _ => True) ?hr ?hp (fun _ hk => hk) trivial (Below.refl _ _) (Nat.le_refl _) (by simp) ?_; (case hd => rfl); (case hg => rfl); (case hr => first | (go_simp; done) | (go_simp; rfl)); (case hp => exact (Ad5.one (show Kd.M (Kd.int .i64) _ _ _ t472 [.int .i64 t472] from rfl) (Ad5.one (show Kd.M (Kd.int .i64) _ _ _ t473 [.int .i64 t473] from rfl) (Ad5.none _ _))))
   intro v475 w32 ho33 hb hg_ hnew_
   clear hg_ hnew_
   (first | rw [← Ny474.out] at ho33 | (simp only [Int.reduceToNat] at ho33; rw [← Ny474.out] at ho33))
   replace HO1_0 := am (Kd.V_elder' (vq HO1_0.out) (Kd.R_base ho33) hb)
   replace HO1_1 := am (Kd.V_elder' (vq HO1_1.out) (Kd.R_base ho33) hb)
   have HO476 := am (Kd.R_lower (Kd.R_newM (M := fun k_ => (w.heap.size ≤ k_)) ho33 (Aa8 (hs HB.out)) (fun k_ h_ => h_)) (Aa8 (hs HB.out)))
   replace BK470 := bb BK470 hb
   replace BK471 := bb BK471 hb
   replace HB := sb HB hb
   clear hb ho33
   obtain ⟨Ao34, co34, eo34⟩ := Kd.R_slice HO476.out
   (first | subst eo34 | (injection eo34 with f1_ f2_ f3_; have f4_ := f1_.symm; have f5_ := f3_.symm; clear f1_ f2_ f3_; subst f4_; subst f5_))
   refine hK.out _ _ ⟨(Aa0 BK470.out 0).trans rfl, (Aa0 BK471.out 0).trans rfl, (Aa0 BK471.out 1).trans rfl⟩ (fun hHeld => ?_)
   clear hK K
   refine nr (some 14) ?_
   refine on_ 9 (some 15) rfl rfl HT_ (fun K hK => ?_)
   refine gs Tryz.func27 #[.slice Ao34 y474.length co34] ?_
   refine (impl_firstCode.calls k _ _ y474 t477 _ (cq (Kd.R_reads' HO476.out).2.2) ((Kd.R_reads' HO476.out).2.1) A5.out).mono ?_
   rintro e w35 ⟨rfl, hb⟩
   refine ⟨_, rfl, ?_⟩
   replace HO1_0 := am (Kd.V_below (vq HO1_0.out) hb)
   replace HO1_1 := am (Kd.V_below (vq HO1_1.out) hb)
   replace HO476 := rb HO476 hb
   replace BK470 := bb BK470 hb
   replace BK471 := bb BK471 hb
   replace HB := sb HB hb
   (try clear hb)
   (try clear hk)
   refine hK.out _ _ ⟨(Aa0 BK470.out 0).trans rfl, (Aa0 BK471.out 0).trans rfl, (Aa0 BK471.out 1).trans rfl⟩ (fun hHeld => ?_)
   clear hK K
   refine nr (some 15) ?_
   refine pu 10 5 rfl rfl HT_ ?_
   refine Am5 (Ai6 HT_.out (by kernel_rfl)) ?_
   have hnb36 := NB471_470.out
   have hnc36 := NB470_471.out
   have hcz37_0 : w35.cell? ⟨gb471, 0, none⟩ = some (.slice A1_0 l1_0.length c1_0) := (Aa0 BK471.out 0).trans rfl
   have hcz37_1 : w35.cell? ⟨gb471, 1, none⟩ = some (.slice A1_1 l1_1.length c1_1) := (Aa0 BK471.out 1).trans rfl
   have hfz37_0 := Aa1 BK471.out 0
   have hfz37_1 := Aa1 BK471.out 1
   try go_wp2_with (first | ((with_reducible refine Ad2 (N := 23) rfl ?_); refine Kd.N_lit (Kd.slice 2 (Kd.int .i64)) _ 27 ?hg (N' := 23) ?hd (xs := ([l1_0, l1_1] : List (List Int))) (inner := [.slice A1_0 l1_0.length c1_0, .slice A1_1 l1_1.length c1_1]) (ok := (fun k_ => ((P1_0_ k_ ∨ P1_1_ k_) ∨ w.heap.size ≤ k_) ∧ some k_ ≠ (.slice Ao34 y474.length co34 : Value).ownBlock ∧ k_ ≠ gb470 ∧ k_ ≠ gb471)) (okp := (fun k_ => ((P1_0_ k_ ∨ P1_1_ k_) ∨ w.heap.size ≤ k_) ∧ some k_ ≠ (.slice Ao34 y474.length co34 : Value).ownBlock ∧ k_ ≠ gb470 ∧ k_ ≠ gb471)) ?hr ?hp (fun _ hk => hk) ((show ∀ k_, w35.heap.size ≤ k_ → (fun k_ => ((P1_0_ k_ ∨ P1_1_ k_) ∨ w.heap.size ≤ k_) ∧ some k_ ≠ (.slice Ao34 y474.length co34 : Value).ownBlock ∧ k_ ≠ gb470 ∧ k_ ≠ gb471) k_ from fun k_ hk => ⟨(.inr (Nat.le_trans (Aa8 (hs HB.out)) hk)), Kd.fresh' (Kd.R_lt (rq HO476.out)) k_ hk, Kd.freshB (bq BK470.out) k_ hk, Kd.freshB (bq BK471.out) k_ hk⟩) _ (Nat.le_refl _)) (Below.refl _ _) (Nat.le_refl _) (by simp) ?_; (case hd => rfl); (case hg => rfl); (case hr => first | (go_simp; done) | (go_simp; rfl)); (case hp => exact (Ad5.one (show Kd.FK (Kd.slice 2 (Kd.int .i64)) _ _ l1_0 [.slice A1_0 l1_0.length c1_0] from (Kd.FK_slice_mk (Kd.V_reads' (Kd.V_mono (ok' := (fun k_ => ((P1_0_ k_ ∨ P1_1_ k_) ∨ w.heap.size ≤ k_) ∧ some k_ ≠ (.slice Ao34 y474.length co34 : Value).ownBlock ∧ k_ ≠ gb470 ∧ k_ ≠ gb471)) (HO1_0.out) (fun k_ hk => ⟨hk.1.1.1, ⟨hk.2, ⟨hk.1.1.2, hk.1.2⟩⟩⟩))).2.1 (Kd.V_F (Kd.V_mono (ok' := (fun k_ => ((P1_0_ k_ ∨ P1_1_ k_) ∨ w.heap.size ≤ k_) ∧ some k_ ≠ (.slice Ao34 y474.length co34 : Value).ownBlock ∧ k_ ≠ gb470 ∧ k_ ≠ gb471)) (HO1_0.out) (fun k_ hk => ⟨hk.1.1.1, ⟨hk.2, ⟨hk.1.1.2, hk.1.2⟩⟩⟩))))) (Ad5.one (show Kd.FK (Kd.slice 2 (Kd.int .i64)) _ _ l1_1 [.slice A1_1 l1_1.length c1_1] from (Kd.FK_slice_mk (Kd.V_reads' (Kd.V_mono (ok' := (fun k_ => ((P1_0_ k_ ∨ P1_1_ k_) ∨ w.heap.size ≤ k_) ∧ some k_ ≠ (.slice Ao34 y474.length co34 : Value).ownBlock ∧ k_ ≠ gb470 ∧ k_ ≠ gb471)) (HO1_1.out) (fun k_ hk => ⟨hk.1.1.1, ⟨hk.2, ⟨hk.1.1.2, hk.1.2⟩⟩⟩))).2.1 (Kd.V_F (Kd.V_mono (ok' := (fun k_ => ((P1_0_ k_ ∨ P1_1_ k_) ∨ w.heap.size ≤ k_) ∧ some k_ ≠ (.slice Ao34 y474.length co34 : Value).ownBlock ∧ k_ ≠ gb470 ∧ k_ ≠ gb471)) (HO1_1.out) (fun k_ hk => ⟨hk.1.1.1, ⟨hk.2, ⟨hk.1.1.2, hk.1.2⟩⟩⟩))))) (Ad5.none _ _)))); intro v479 w38 ho39 hb hg_ hnew_; clear hg_ hnew_; (first | rw [← Ny478.out] at ho39 | (simp only [Int.reduceToNat] at ho39; rw [← Ny478.out] at ho39)); replace HO1_0 := am (Kd.V_elder' (vq HO1_0.out) (Kd.N_base ho39) hb); replace HO1_1 := am (Kd.V_elder' (vq HO1_1.out) (Kd.N_base ho39) hb); replace HO476 := rb HO476 hb; have HO480 := am (Kd.N_lower ho39 (Aa8 (hs HB.out))); replace BK470 := bb BK470 hb; replace BK471 := bb BK471 hb; replace HB := sb HB hb; clear hb ho39; obtain ⟨Ao40, co40, eo40⟩ := Kd.N_slice HO480.out; subst eo40) | (refine gl (some 24) Tryz.func37 rfl #[.slice Ao40 y478.length co40] ?_; refine (impl_varsOf.calls k _ _ y478 t481 _ (cq (Kd.N_reads' HO480.out).2.2) ((Kd.N_reads' HO480.out).2.1) A7.out).mono ?_; rintro e w41 ⟨v482, rfl, ho0, hb⟩; refine ⟨_, rfl, ?_⟩; replace HO1_0 := am (Kd.V_elder' (vq HO1_0.out) (Kd.R_base ho0) hb); replace HO1_1 := am (Kd.V_elder' (vq HO1_1.out) (Kd.R_base ho0) hb); replace HO480 := am (Kd.N_elder' (by (with_reducible repeat (first | apply Kd.N_alloc | apply Kd.N_drewN | apply Kd.N_drew)); exact HO480.out) (Kd.R_base ho0) hb); have HO483 := am (Kd.R_lower (Kd.R_new' (Kd.R_newM (M := fun k_ => (w.heap.size ≤ k_)) ho0 (Aa8 (hs HB.out)) (fun k_ h_ => h_)) (Kd.R_lt (rq HO476.out))) (Aa8 (hs HB.out))); replace HO476 := am (Kd.R_elder' (rq HO476.out) (Kd.R_base ho0) hb); replace BK470 := bb BK470 hb; replace BK471 := bb BK471 hb; replace HB := sb HB hb; (try clear hb); (try clear hk); (try clear ho0); obtain ⟨Ao42, co42, rfl⟩ := Kd.R_slice HO483.out) | (refine gl (some 25) Tryz.func36 rfl #[.slice Ao42 t481.length co42, .func (.func 38) #[] #[]] ?_; refine (slices_ContainsFunc_int64_int64_impl_EquationFault_1.calls k _ _ t481  false _ (cq (Kd.R_reads' HO483.out).2.2) ((Kd.R_reads' HO483.out).2.1) A8.out).mono ?_; rintro e w43 ⟨rfl, hb⟩; refine ⟨_, rfl, ?_⟩; replace HO1_0 := am (Kd.V_below (vq HO1_0.out) hb); replace HO1_1 := am (Kd.V_below (vq HO1_1.out) hb); replace HO476 := rb HO476 hb; replace HO480 := am (Kd.N_below (by (with_reducible repeat (first | apply Kd.N_alloc | apply Kd.N_drewN | apply Kd.N_drew)); exact HO480.out) hb); replace HO483 := rb HO483 hb; replace BK470 := bb BK470 hb; replace BK471 := bb BK471 hb; replace HB := sb HB hb; (try clear hb); (try clear hk)))
   go_ret
   exact ⟨er, hs HB.out⟩
 ·rw [if_neg c6] at H
  obtain ⟨c6b0, c6b1⟩ := bqf c6
  obtain rfl := Option.some.inj H
  go_enter Tryz.func11, Tryz.ntmps11
  try go_wp2_with (first | (refine bx 2 rfl #[.slice A0_0 l0_0.length c0_0] 26 ?_; intro gb470 hg w44 hbox hb; replace HO1_0 := am (Kd.V_below (Kd.V_elderB (vq HO1_0.out) gb470 (Nat.le_of_eq hg.symm)) hb); replace HO1_1 := am (Kd.V_below (Kd.V_elderB (vq HO1_1.out) gb470 (Nat.le_of_eq hg.symm)) hb); have BK470 := am (hbox); have GW470 := am (bz hg (hq HB.out)); replace HB := sb HB hb; have GE470 := GW470; clear hb hbox hg) | (refine bx 3 rfl #[.slice A1_0 l1_0.length c1_0, .slice A1_1 l1_1.length c1_1] 29 ?_; intro gb471 hg w45 hbox hb; replace HO1_0 := am (Kd.V_below (Kd.V_elderB (vq HO1_0.out) gb471 (Nat.le_of_eq hg.symm)) hb); replace HO1_1 := am (Kd.V_below (Kd.V_elderB (vq HO1_1.out) gb471 (Nat.le_of_eq hg.symm)) hb); have BK471 := am (hbox); have GW471 := am (bz hg (hs HB.out)); replace HB := sb HB hb; have GE471 := GW471; have NB470_471 := nl hg BK470; have NB471_470 := ng hg BK470; replace BK470 := bb BK470 hb; clear hb hbox hg))
  replace HO1_0 := am (Kd.V_drew HO1_0.out)
  replace HO1_1 := am (Kd.V_drew HO1_1.out)
  replace BK470 := am (Ad0 BK470.out)
  replace BK471 := am (Ad0 BK471.out)
  replace HB := am (Ab3 HB.out)
  refine Ak0 (n := 11) (S := fun w' => w'.cell? ⟨gb470, 0, none⟩ = some (.slice A0_0 l0_0.length c0_0) ∧ w'.cell? ⟨gb471, 0, none⟩ = some (.slice A1_0 l1_0.length c1_0) ∧ w'.cell? ⟨gb471, 1, none⟩ = some (.slice A1_1 l1_1.length c1_1)) (ds := []) #[false, false, false, false, false, false, false, false, false, false, false] (by kernel_rfl) rfl rfl ⟨(Aa0 BK470.out 0).trans rfl, (Aa0 BK471.out 0).trans rfl, (Aa0 BK471.out 1).trans rfl⟩ (fun hHeld => ?_); refine Af6 impl_EquationFault.tab1 impl_EquationFault.bits1 (fun HT_ HW_ => ?_)
  generalize w45.drew = w46 at HO1_0 HO1_1 BK470 BK471 HB hHeld ⊢
  refine pu 1 7 rfl rfl HT_ ?_
  refine pu 5 11 rfl rfl HT_ ?_
  refine tk 0 6 rfl rfl HT_ HW_ hHeld ?_
  refine tk 2 8 rfl rfl HT_ HW_ hHeld ?_
  refine tk 4 10 rfl rfl HT_ HW_ hHeld ?_
  refine tk 6 12 rfl rfl HT_ HW_ hHeld ?_
  refine on_ 3 (some 9) rfl rfl HT_ (fun K hK => ?_)
  refine gs Tryz.func28 #[.agg #[.slice A0_0 l0_0.length c0_0], .slice A1_0 l1_0.length c1_0] ?_
  refine (impl_TermFault.calls k _ _ l0_0 _ _ l1_0 t472 _ (cq (Kd.C_below HR0_0.out HB.out)) HC0_0.out (cq (Kd.V_reads' HO1_0.out).2.2) ((Kd.V_reads' HO1_0.out).2.1) A3.out).mono ?_
  rintro e w47 ⟨rfl, hb⟩
  refine ⟨_, rfl, ?_⟩
  replace HO1_0 := am (Kd.V_below (vq HO1_0.out) hb)
  replace HO1_1 := am (Kd.V_below (vq HO1_1.out) hb)
  replace BK470 := bb BK470 hb
  replace BK471 := bb BK471 hb
  replace HB := sb HB hb
  (try clear hb)
  (try clear hk)
  refine hK.out _ _ ⟨(Aa0 BK470.out 0).trans rfl, (Aa0 BK471.out 0).trans rfl, (Aa0 BK471.out 1).trans rfl⟩ (fun hHeld => ?_)
  clear hK K
  refine nr (some 9) ?_
  refine on_ 7 (some 13) rfl rfl HT_ (fun K hK => ?_)
  refine gs Tryz.func28 #[.agg #[.slice A0_0 l0_0.length c0_0], .slice A1_1 l1_1.length c1_1] ?_
  refine (impl_TermFault.calls k _ _ l0_0 _ _ l1_1 t473 _ (cq (Kd.C_below HR0_0.out HB.out)) HC0_0.out (cq (Kd.V_reads' HO1_1.out).2.2) ((Kd.V_reads' HO1_1.out).2.1) A4.out).mono ?_
  rintro e w48 ⟨rfl, hb⟩
  refine ⟨_, rfl, ?_⟩
  replace HO1_0 := am (Kd.V_below (vq HO1_0.out) hb)
  replace HO1_1 := am (Kd.V_below (vq HO1_1.out) hb)
  replace BK470 := bb BK470 hb
  replace BK471 := bb BK471 hb
  replace HB := sb HB hb
  (try clear hb)
  (try clear hk)
  refine hK.out _ _ ⟨(Aa0 BK470.out 0).trans rfl, (Aa0 BK471.out 0).trans rfl, (Aa0 BK471.out 1).trans rfl⟩ (fun hHeld => ?_)
  clear hK K
  refine nr (some 13) ?_
  refine on_ 8 (some 14) rfl rfl HT_ (fun K hK => ?_)
  refine Kd.R_lit_step (Kd.int .i64) _ 2 ?hg (N := 14) ?hd (xs := ([t472, t473] : List Int)) (inner := [.int .i64 t472, .int .i64 t473]) (ok := fun _ => True) (okp := fun _ => True) ?hr ?hp (fun _ hk => hk) trivial (Below.refl _ _) (Nat.le_refl _) (by simp) ?_; (case hd => rfl); (case hg => rfl); (case hr => first | (go_simp; done) | (go_simp; rfl)); (case hp => exact (Ad5.one (show Kd.M (Kd.int .i64) _ _ _ t472 [.int .i64 t472] from rfl) (Ad5.one (show Kd.M (Kd.int .i64) _ _ _ t473 [.int .i64 t473] from rfl) (Ad5.none _ _))))
  intro v475 w49 ho50 hb hg_ hnew_
  clear hg_ hnew_
  (first | rw [← Ny474.out] at ho50 | (simp only [Int.reduceToNat] at ho50; rw [← Ny474.out] at ho50))
  replace HO1_0 := am (Kd.V_elder' (vq HO1_0.out) (Kd.R_base ho50) hb)
  replace HO1_1 := am (Kd.V_elder' (vq HO1_1.out) (Kd.R_base ho50) hb)
  have HO476 := am (Kd.R_lower (Kd.R_newM (M := fun k_ => (w.heap.size ≤ k_)) ho50 (Aa8 (hs HB.out)) (fun k_ h_ => h_)) (Aa8 (hs HB.out)))
  replace BK470 := bb BK470 hb
  replace BK471 := bb BK471 hb
  replace HB := sb HB hb
  clear hb ho50
  obtain ⟨Ao51, co51, eo51⟩ := Kd.R_slice HO476.out
  (first | subst eo51 | (injection eo51 with f1_ f2_ f3_; have f4_ := f1_.symm; have f5_ := f3_.symm; clear f1_ f2_ f3_; subst f4_; subst f5_))
  refine hK.out _ _ ⟨(Aa0 BK470.out 0).trans rfl, (Aa0 BK471.out 0).trans rfl, (Aa0 BK471.out 1).trans rfl⟩ (fun hHeld => ?_)
  clear hK K
  refine nr (some 14) ?_
  refine on_ 9 (some 15) rfl rfl HT_ (fun K hK => ?_)
  refine gs Tryz.func27 #[.slice Ao51 y474.length co51] ?_
  refine (impl_firstCode.calls k _ _ y474 t477 _ (cq (Kd.R_reads' HO476.out).2.2) ((Kd.R_reads' HO476.out).2.1) A5.out).mono ?_
  rintro e w52 ⟨rfl, hb⟩
  refine ⟨_, rfl, ?_⟩
  replace HO1_0 := am (Kd.V_below (vq HO1_0.out) hb)
  replace HO1_1 := am (Kd.V_below (vq HO1_1.out) hb)
  replace HO476 := rb HO476 hb
  replace BK470 := bb BK470 hb
  replace BK471 := bb BK471 hb
  replace HB := sb HB hb
  (try clear hb)
  (try clear hk)
  refine hK.out _ _ ⟨(Aa0 BK470.out 0).trans rfl, (Aa0 BK471.out 0).trans rfl, (Aa0 BK471.out 1).trans rfl⟩ (fun hHeld => ?_)
  clear hK K
  refine nr (some 15) ?_
  refine pu 10 5 rfl rfl HT_ ?_
  refine Am5 (Ai6 HT_.out (by kernel_rfl)) ?_
  try go_wp2
  go_ret
  exact ⟨er, hs HB.out⟩
end Go.Proofs.YtbdpnkpienpnaaaGreatDoor.P
namespace Go.Proofs.YtbdpnkpienpnaaaGreatDoor.P
open Go.RowKit Go.Proofs.YtbdpnkpienpnaaaGreatDoorW.PrintWords Go.Proofs.YtbdpnkpienpnaaaGreatDoorW.PrintLast Go.Proofs.YtbdpnkpienpnaaaGreatDoorW.PrintMore
attribute [local go_sem] Ae7 Ae6 Af7 Af8 Ad8 Ad9 Ae2 Ae4   -- for this text's walks alone
set_option linter.unusedVariables false
set_option linter.unusedSimpArgs false
def slices_Equal_int64_int64.l0 : Nat → List Int → List Int → Int → Int → Option (Bool)
 | 0, _, _, _, _ => none
 | k + 1, x0, x1, x12, x13 => if x13 < x12 then (if 0 ≤ x13 then (if x13 < (x0.length : Int) then (if x13 < (x1.length : Int) then (if (rd x0 x13) = (rd x1 x13) then (slices_Equal_int64_int64.l0 k x0 x1 x12 (wrap64 (x13 + 1))) else (some false)) else (none)) else (none)) else (none)) else (some true)
def slices_Equal_int64_int64.f (k : Nat) (l0 : List Int) (l1 : List Int) : Option (Bool) := if (l0.length : Int) = (l1.length : Int) then (slices_Equal_int64_int64.l0 k l0 l1 (l0.length : Int) 0) else (some false)
set_option maxHeartbeats 8000000 in
set_option maxRecDepth 100000 in
theorem slices_Equal_int64_int64.calls (k : Nat) (A0 : Option Addr) (c0 : Nat) (l0 : List Int) (A1 : Option Addr) (c1 : Nat) (l1 : List Int) (r : Bool) (w : World) (hr0 : Kd.C (Kd.int .i64) w A0 l0.length l0) (hc0 : l0.length ≤ c0) (hr1 : Kd.C (Kd.int .i64) w A1 l1.length l1) (hc1 : l1.length ≤ c1) (h : slices_Equal_int64_int64.f k l0 l1 = some r) :
  Calls Tryz.prog 73 #[.slice A0 l0.length c0, .slice A1 l1.length c1] w fun e w' => e = .returned (.bool r) ∧ Drawn0 w w' := by
 have HR0 := am hr0
 have HC0 := am hc0
 clear hr0 hc0
 have HR1 := am hr1
 have HC1 := am hc1
 clear hr1 hc1
 have H : (if (l0.length : Int) = (l1.length : Int) then (slices_Equal_int64_int64.l0 k l0 l1 (l0.length : Int) 0) else (some false)) = some r := h
 clear h
 by_cases c3 : (l0.length : Int) = (l1.length : Int)
 ·rw [if_pos c3] at H
  have c3b0 : ((l0.length : Int) == (l1.length : Int)) = true := beq_iff_eq.mpr c3
  have c3b1 : ((l0.length : Int) != (l1.length : Int)) = false := bne_eq_false_iff_eq.mpr c3
  have c3b2 : (l0.length == l1.length) = true := by first | simpa using c3 | (simp at c3 ⊢; omega)
  clear c3
  have H' := am H
  clear H
  go_enter Tryz.func73, Tryz.ntmps73
  go_wp2
  repeat (go_quiet (fail); try go_wp2)
  go_loopg [13] k (fun kq v13 w' => ∃ (x13_1 : Int), v13 = .int .i64 x13_1 ∧ Aside0 (slices_Equal_int64_int64.l0 kq l0 l1 (l0.length : Int) x13_1 = some r) ∧ Aside0 (kq ≤ k) ∧ Drawn0 w w')
  case atStart => exact ⟨(0), et, H', ⟨Nat.le_refl _⟩, by repeat (first | exact Drawn0.refl _ | apply Drawn0.step)⟩
  case round =>
   clear H'
   try clear c1; try clear c3; try clear c3b0; try clear c3b1; try clear c3b2
   obtain ⟨x13_1, rfl, HA, HK1, ⟨m1, rfl⟩⟩ := hrel
   cases gk with
   | zero => exact absurd HA.out (by simp [slices_Equal_int64_int64.l0])
   | succ k1 =>
    have H := HA.out
    clear HA
    simp only [slices_Equal_int64_int64.l0] at H
    by_cases c4 : x13_1 < (l0.length : Int)
    ·rw [if_pos c4] at H
     have c4b0 : decide (x13_1 < (l0.length : Int)) = true := decide_eq_true c4
     clear c4
     obtain ⟨c5b0, H⟩ := ife H
     obtain ⟨c6b0, H⟩ := ife H
     obtain ⟨c7b0, H⟩ := ife H
     by_cases c8 : (rd l0 x13_1) = (rd l1 x13_1)
     ·rw [if_pos c8] at H
      obtain ⟨c8b0, c8b1⟩ := bqt c8; clear c8
      have H' := am H
      clear H
      have p485 : 0 ≤ (x13_1 : Int) := od
      have q485 : x13_1 < (l0.length : Int) := od
      obtain ⟨ad485, e485, hx485_0⟩ := Kd.at_int HR0.out x13_1 p485 q485
      cases e485
      replace p485 := eq_true p485
      replace q485 := eq_true q485
      have p486 : 0 ≤ (x13_1 : Int) := od
      have q486 : x13_1 < (l1.length : Int) := od
      obtain ⟨ad486, e486, hx486_0⟩ := Kd.at_int HR1.out x13_1 p486 q486
      cases e486
      replace p486 := eq_true p486
      replace q486 := eq_true q486
      go_wp2
      repeat (go_quiet (fail); try go_wp2)
      go_roundg k1
      case measure => have := HK1.out; omega
      case rel => exact ⟨(wrap64 (x13_1 + 1)), et, H', ⟨by have := HK1.out; omega⟩, by repeat (first | exact Drawn0.refl _ | apply Drawn0.step)⟩
     ·rw [if_neg c8] at H
      obtain ⟨c8b0, c8b1⟩ := bqf c8
      obtain rfl := Option.some.inj H
      have p485 : 0 ≤ (x13_1 : Int) := od
      have q485 : x13_1 < (l0.length : Int) := od
      obtain ⟨ad485, e485, hx485_0⟩ := Kd.at_int HR0.out x13_1 p485 q485
      cases e485
      replace p485 := eq_true p485
      replace q485 := eq_true q485
      have p486 : 0 ≤ (x13_1 : Int) := od
      have q486 : x13_1 < (l1.length : Int) := od
      obtain ⟨ad486, e486, hx486_0⟩ := Kd.at_int HR1.out x13_1 p486 q486
      cases e486
      replace p486 := eq_true p486
      replace q486 := eq_true q486
      go_wp2
      repeat (go_quiet (fail); try go_wp2)
      go_ret
      exact ⟨et, by repeat (first | exact Drawn0.refl _ | apply Drawn0.step)⟩
    ·rw [if_neg c4] at H
     have c4b0 : decide (x13_1 < (l0.length : Int)) = false := decide_eq_false c4
     clear c4
     obtain rfl := Option.some.inj H
     go_wp2
     repeat (go_quiet (fail); try go_wp2)
     go_ret
     exact ⟨et, by repeat (first | exact Drawn0.refl _ | apply Drawn0.step)⟩
 ·rw [if_neg c3] at H
  obtain ⟨c3b0, c3b1⟩ := bqf c3
  have c3b2 : (l0.length == l1.length) = false := by first | simpa using c3 | (simp at c3 ⊢; omega)
  obtain rfl := Option.some.inj H
  go_enter Tryz.func73, Tryz.ntmps73
  go_wp2
  repeat (go_quiet (fail); try go_wp2)
  go_ret
  exact ⟨et, by repeat (first | exact Drawn0.refl _ | apply Drawn0.step)⟩
def impl_sameEquation.f (k : Nat) (l0_0 : List Int) (l0_1 : List Int) (l1_0 : List Int) (l1_1 : List Int) : Option (Bool) := (slices_Equal_int64_int64.f k l0_0 l1_0).bind fun t489 => (if t489 = true then ((slices_Equal_int64_int64.f k l0_1 l1_1).bind fun t490 => (some t490)) else (some false))
set_option maxHeartbeats 8000000 in
set_option maxRecDepth 100000 in
theorem impl_sameEquation.calls (k : Nat) (A0_0 : Option Addr) (c0_0 : Nat) (l0_0 : List Int) (A0_1 : Option Addr) (c0_1 : Nat) (l0_1 : List Int) (A1_0 : Option Addr) (c1_0 : Nat) (l1_0 : List Int) (A1_1 : Option Addr) (c1_1 : Nat) (l1_1 : List Int) (r : Bool) (w : World) (hr0_0 : Kd.C (Kd.int .i64) w A0_0 l0_0.length l0_0) (hc0_0 : l0_0.length ≤ c0_0) (hr0_1 : Kd.C (Kd.int .i64) w A0_1 l0_1.length l0_1) (hc0_1 : l0_1.length ≤ c0_1) (hr1_0 : Kd.C (Kd.int .i64) w A1_0 l1_0.length l1_0) (hc1_0 : l1_0.length ≤ c1_0) (hr1_1 : Kd.C (Kd.int .i64) w A1_1 l1_1.length l1_1) (hc1_1 : l1_1.length ≤ c1_1) (h : impl_sameEquation.f k l0_0 l0_1 l1_0 l1_1 = some r) :
  Calls Tryz.prog 40 #[.agg #[.slice A0_0 l0_0.length c0_0, .slice A0_1 l0_1.length c0_1], .agg #[.slice A1_0 l1_0.length c1_0, .slice A1_1 l1_1.length c1_1]] w fun e w' => e = .returned (.bool r) ∧ Below w.heap.size w w' := by
 have hu29 := Tryz.underlying29
 have HR0_0 := am hr0_0
 have HC0_0 := am hc0_0
 clear hr0_0 hc0_0
 have HR0_1 := am hr0_1
 have HC0_1 := am hc0_1
 clear hr0_1 hc0_1
 have HR1_0 := am hr1_0
 have HC1_0 := am hc1_0
 clear hr1_0 hc1_0
 have HR1_1 := am hr1_1
 have HC1_1 := am hc1_1
 clear hr1_1 hc1_1
 have HB := am (Below.refl w.heap.size w)
 have H : ((slices_Equal_int64_int64.f k l0_0 l1_0).bind fun t489 => (if t489 = true then ((slices_Equal_int64_int64.f k l0_1 l1_1).bind fun t490 => (some t490)) else (some false))) = some r := h
 clear h
 obtain ⟨t489, A3, H⟩ := ob H
 try dsimp only at H
 by_cases c4 : t489 = true
 ·subst c4
  rw [if_pos rfl] at H
  obtain ⟨t490, A5, H⟩ := ob H
  try dsimp only at H
  obtain rfl := Option.some.inj H
  go_enter Tryz.func40, Tryz.ntmps40
  go_wp2_with (first | (refine bx 2 rfl #[.slice A0_0 l0_0.length c0_0, .slice A0_1 l0_1.length c0_1] 29 ?_; intro gb487 hg w6 hbox hb; have BK487 := am (hbox); have GW487 := am (bz hg (hq HB.out)); replace HB := sb HB hb; have GE487 := GW487; clear hb hbox hg) | (refine bx 3 rfl #[.slice A1_0 l1_0.length c1_0, .slice A1_1 l1_1.length c1_1] 29 ?_; intro gb488 hg w7 hbox hb; have BK488 := am (hbox); have GW488 := am (bz hg (hs HB.out)); replace HB := sb HB hb; have GE488 := GW488; have NB487_488 := nl hg BK487; have NB488_487 := ng hg BK487; replace BK487 := bb BK487 hb; clear hb hbox hg; have hnb8 := NB487_488.out; have hnc8 := NB488_487.out; have hcz9_0 : w7.cell? ⟨gb487, 0, none⟩ = some (.slice A0_0 l0_0.length c0_0) := (Aa0 BK487.out 0).trans rfl; have hcz9_1 : w7.cell? ⟨gb487, 1, none⟩ = some (.slice A0_1 l0_1.length c0_1) := (Aa0 BK487.out 1).trans rfl; have hfz9_0 := Aa1 BK487.out 0; have hfz9_1 := Aa1 BK487.out 1; have hcz10_0 : w7.cell? ⟨gb488, 0, none⟩ = some (.slice A1_0 l1_0.length c1_0) := (Aa0 BK488.out 0).trans rfl; have hcz10_1 : w7.cell? ⟨gb488, 1, none⟩ = some (.slice A1_1 l1_1.length c1_1) := (Aa0 BK488.out 1).trans rfl; have hfz10_0 := Aa1 BK488.out 0; have hfz10_1 := Aa1 BK488.out 1) | (refine gl (some 9) Tryz.func73 rfl #[.slice A0_0 l0_0.length c0_0, .slice A1_0 l1_0.length c1_0] ?_; refine (slices_Equal_int64_int64.calls k _ _ l0_0 _ _ l1_0 true _ (cq (Kd.C_below HR0_0.out HB.out)) HC0_0.out (cq (Kd.C_below HR1_0.out HB.out)) HC1_0.out A3.out).mono ?_; rintro e w' ⟨rfl, ⟨nd, rfl⟩⟩; refine ⟨_, rfl, ?_⟩) | (go_at_call 73; refine (slices_Equal_int64_int64.calls k _ _ l0_1 _ _ l1_1 t490 _ (cq (Kd.C_below HR0_1.out (hs HB.out))) HC0_1.out (cq (Kd.C_below HR1_1.out (hs HB.out))) HC1_1.out A5.out).mono ?_; rintro e w' ⟨rfl, ⟨nd, rfl⟩⟩))
  go_ret
  exact ⟨er, hs HB.out⟩
 ·replace c4 := Bool.eq_false_iff.mpr c4
  subst c4
  rw [if_neg (show ¬ (false = true) by decide)] at H
  obtain rfl := Option.some.inj H
  go_enter Tryz.func40, Tryz.ntmps40
  go_wp2_with (first | (refine bx 2 rfl #[.slice A0_0 l0_0.length c0_0, .slice A0_1 l0_1.length c0_1] 29 ?_; intro gb487 hg w11 hbox hb; have BK487 := am (hbox); have GW487 := am (bz hg (hq HB.out)); replace HB := sb HB hb; have GE487 := GW487; clear hb hbox hg) | (refine bx 3 rfl #[.slice A1_0 l1_0.length c1_0, .slice A1_1 l1_1.length c1_1] 29 ?_; intro gb488 hg w12 hbox hb; have BK488 := am (hbox); have GW488 := am (bz hg (hs HB.out)); replace HB := sb HB hb; have GE488 := GW488; have NB487_488 := nl hg BK487; have NB488_487 := ng hg BK487; replace BK487 := bb BK487 hb; clear hb hbox hg; have hnb13 := NB487_488.out; have hnc13 := NB488_487.out; have hcz14_0 : w12.cell? ⟨gb487, 0, none⟩ = some (.slice A0_0 l0_0.length c0_0) := (Aa0 BK487.out 0).trans rfl; have hcz14_1 : w12.cell? ⟨gb487, 1, none⟩ = some (.slice A0_1 l0_1.length c0_1) := (Aa0 BK487.out 1).trans rfl; have hfz14_0 := Aa1 BK487.out 0; have hfz14_1 := Aa1 BK487.out 1; have hcz15_0 : w12.cell? ⟨gb488, 0, none⟩ = some (.slice A1_0 l1_0.length c1_0) := (Aa0 BK488.out 0).trans rfl; have hcz15_1 : w12.cell? ⟨gb488, 1, none⟩ = some (.slice A1_1 l1_1.length c1_1) := (Aa0 BK488.out 1).trans rfl; have hfz15_0 := Aa1 BK488.out 0; have hfz15_1 := Aa1 BK488.out 1) | (refine gl (some 9) Tryz.func73 rfl #[.slice A0_0 l0_0.length c0_0, .slice A1_0 l1_0.length c1_0] ?_; refine (slices_Equal_int64_int64.calls k _ _ l0_0 _ _ l1_0 false _ (cq (Kd.C_below HR0_0.out HB.out)) HC0_0.out (cq (Kd.C_below HR1_0.out HB.out)) HC1_0.out A3.out).mono ?_; rintro e w' ⟨rfl, ⟨nd, rfl⟩⟩; refine ⟨_, rfl, ?_⟩))
  go_ret
  exact ⟨er, hs HB.out⟩
def slices_EqualFunc_impl_Equation_impl_Equation_impl_Equation_impl_Equation_impl_sameEquation.l0 : Nat → List (S29) → List (S29) → Int → Int → Option (Bool)
 | 0, _, _, _, _ => none
 | k + 1, x1, x15, x16, x17 => if x17 < x16 then (if 0 ≤ x17 then (if x17 < (x15.length : Int) then (if x17 < (x1.length : Int) then ((impl_sameEquation.f k ((Ab0 x15 x17).f0) ((Ab0 x15 x17).f1) ((Ab0 x1 x17).f0) ((Ab0 x1 x17).f1)).bind fun t495 => (if t495 = true then (slices_EqualFunc_impl_Equation_impl_Equation_impl_Equation_impl_Equation_impl_sameEquation.l0 k x1 x15 x16 (wrap64 (x17 + 1))) else (some false))) else (none)) else (none)) else (none)) else (some true)
def slices_EqualFunc_impl_Equation_impl_Equation_impl_Equation_impl_Equation_impl_sameEquation.f (k : Nat) (l0 : List (S29)) (l1 : List (S29))  : Option (Bool) := if (l0.length : Int) = (l1.length : Int) then (slices_EqualFunc_impl_Equation_impl_Equation_impl_Equation_impl_Equation_impl_sameEquation.l0 k l1 l0 (l0.length : Int) 0) else (some false)
set_option maxHeartbeats 8000000 in
set_option maxRecDepth 100000 in
theorem slices_EqualFunc_impl_Equation_impl_Equation_impl_Equation_impl_Equation_impl_sameEquation.calls (k : Nat) (A0 : Option Addr) (c0 : Nat) (l0 : List (S29)) (A1 : Option Addr) (c1 : Nat) (l1 : List (S29))  (r : Bool) (w : World) (hr0 : Kd.C k29 w A0 l0.length l0) (hc0 : l0.length ≤ c0) (hr1 : Kd.C k29 w A1 l1.length l1) (hc1 : l1.length ≤ c1) (h : slices_EqualFunc_impl_Equation_impl_Equation_impl_Equation_impl_Equation_impl_sameEquation.f k l0 l1 = some r) :
  Calls Tryz.prog 39 #[.slice A0 l0.length c0, .slice A1 l1.length c1, .func (.func 40) #[] #[]] w fun e w' => e = .returned (.bool r) ∧ Below w.heap.size w w' := by
 have hu29 := Tryz.underlying29
 have HR0 := am hr0
 have HC0 := am hc0
 clear hr0 hc0
 have HR1 := am hr1
 have HC1 := am hc1
 clear hr1 hc1
 have HB := am (Below.refl w.heap.size w)
 have H : (if (l0.length : Int) = (l1.length : Int) then (slices_EqualFunc_impl_Equation_impl_Equation_impl_Equation_impl_Equation_impl_sameEquation.l0 k l1 l0 (l0.length : Int) 0) else (some false)) = some r := h
 clear h
 by_cases c4 : (l0.length : Int) = (l1.length : Int)
 ·rw [if_pos c4] at H
  have c4b0 : ((l0.length : Int) == (l1.length : Int)) = true := beq_iff_eq.mpr c4
  have c4b1 : ((l0.length : Int) != (l1.length : Int)) = false := bne_eq_false_iff_eq.mpr c4
  have c4b2 : (l0.length == l1.length) = true := by first | simpa using c4 | (simp at c4 ⊢; omega)
  clear c4
  have H' := am H
  clear H
  go_enter Tryz.func39, Tryz.ntmps39
  go_wp2
  go_loopg [17] k (fun kq v17 w' => ∃ (x17_1 : Int), v17 = .int .i64 x17_1 ∧ Aside0 (slices_EqualFunc_impl_Equation_impl_Equation_impl_Equation_impl_Equation_impl_sameEquation.l0 kq l1 l0 (l0.length : Int) x17_1 = some r) ∧ Aside0 (kq ≤ k) ∧ Aside0 (Below w.heap.size w w'))
  case atStart => exact ⟨(0), et, H', ⟨Nat.le_refl _⟩, ⟨hq HB.out⟩⟩
  case round =>
   clear H'
   try clear c1; try clear c4; try clear c4b0; try clear c4b1; try clear c4b2
   obtain ⟨x17_1, rfl, HA, HK1, HB⟩ := hrel
   cases gk with
   | zero => exact absurd HA.out (by simp [slices_EqualFunc_impl_Equation_impl_Equation_impl_Equation_impl_Equation_impl_sameEquation.l0])
   | succ k1 =>
    have H := HA.out
    clear HA
    simp only [slices_EqualFunc_impl_Equation_impl_Equation_impl_Equation_impl_Equation_impl_sameEquation.l0] at H
    by_cases c5 : x17_1 < (l0.length : Int)
    ·rw [if_pos c5] at H
     have c5b0 : decide (x17_1 < (l0.length : Int)) = true := decide_eq_true c5
     clear c5
     obtain ⟨c6b0, H⟩ := ife H
     obtain ⟨c7b0, H⟩ := ife H
     obtain ⟨c8b0, H⟩ := ife H
     obtain ⟨t495, A9, H⟩ := ob H
     try dsimp only at H
     by_cases c10 : t495 = true
     ·subst c10
      rw [if_pos rfl] at H
      have H' := am H
      clear H
      have p491 : 0 ≤ (x17_1 : Int) := od
      have q491 : x17_1 < (l0.length : Int) := od
      obtain ⟨ad491, A491_0, c491_0, A491_1, c491_1, e491, hx491_0, hx491_1, hl491_0, hi491_0, hl491_1, hi491_1⟩ := Af0 HR0.out x17_1 p491 q491
      cases e491
      replace hx491_0 := cz HB.out hx491_0
      replace hx491_1 := cz HB.out hx491_1
      have HR491_0 := am hi491_0
      have HC491_0 := am hl491_0
      clear hi491_0 hl491_0
      have HR491_1 := am hi491_1
      have HC491_1 := am hl491_1
      clear hi491_1 hl491_1
      replace p491 := eq_true p491
      replace q491 := eq_true q491
      go_wp2_with (first | (refine bx 8 rfl #[.slice none 0 0, .slice none 0 0] 29 ?_; intro gb492 hg w11 hbox hb; have BK492 := am (hbox); have GW492 := am (bz hg (hq HB.out)); replace HB := sb HB hb; have GE492 := GW492; clear hb hbox hg; have hcz12_0 : w11.cell? ⟨gb492, 0, none⟩ = some (.slice none 0 0) := (Aa0 BK492.out 0).trans rfl; have hcz12_1 : w11.cell? ⟨gb492, 1, none⟩ = some (.slice none 0 0) := (Aa0 BK492.out 1).trans rfl; have hfz12_0 := Aa1 BK492.out 0; have hfz12_1 := Aa1 BK492.out 1; have p493 : 0 ≤ (x17_1 : Int) := od; have q493 : x17_1 < (l1.length : Int) := od; obtain ⟨ad493, A493_0, c493_0, A493_1, c493_1, e493, hx493_0, hx493_1, hl493_0, hi493_0, hl493_1, hi493_1⟩ := Af0 HR1.out x17_1 p493 q493; cases e493; have hn493_0 : ad493.block ≠ gb492 := Nat.ne_of_lt (Nat.lt_of_lt_of_le (by have := World.block_lt_of_cell? _ _ hx493_0; first | rwa [Ac8] at this | exact this) GW492.out); have hn493_1 : ad493.block ≠ gb492 := Nat.ne_of_lt (Nat.lt_of_lt_of_le (by have := World.block_lt_of_cell? _ _ hx493_0; first | rwa [Ac8] at this | exact this) GW492.out); replace hx493_0 := cz HB.out hx493_0; replace hx493_1 := cz HB.out hx493_1; have HR493_0 := am hi493_0; have HC493_0 := am hl493_0; clear hi493_0 hl493_0; have HR493_1 := am hi493_1; have HC493_1 := am hl493_1; clear hi493_1 hl493_1; replace hx493_0 := (Af9 (p := ⟨gb492, 0, none⟩) (by first | (rw [Ac8]; exact hn493_0) | (show (Addr.add _ _).block ≠ _; rw [Ac8]; exact hn493_0) | exact hn493_0) (.slice A491_0 ((Ab0 l0 x17_1).f0).length c491_0)).trans hx493_0; replace hx493_1 := (Af9 (p := ⟨gb492, 0, none⟩) (by first | (rw [Ac8]; exact hn493_0) | (show (Addr.add _ _).block ≠ _; rw [Ac8]; exact hn493_0) | exact hn493_0) (.slice A491_0 ((Ab0 l0 x17_1).f0).length c491_0)).trans hx493_1; replace hx493_0 := (Af9 (p := ⟨gb492, 1, none⟩) (by first | (rw [Ac8]; exact hn493_1) | (show (Addr.add _ _).block ≠ _; rw [Ac8]; exact hn493_1) | exact hn493_1) (.slice A491_1 ((Ab0 l0 x17_1).f1).length c491_1)).trans hx493_0; replace hx493_1 := (Af9 (p := ⟨gb492, 1, none⟩) (by first | (rw [Ac8]; exact hn493_1) | (show (Addr.add _ _).block ≠ _; rw [Ac8]; exact hn493_1) | exact hn493_1) (.slice A491_1 ((Ab0 l0 x17_1).f1).length c491_1)).trans hx493_1; clear hn493_0; clear hn493_1; replace p493 := eq_true p493; replace q493 := eq_true q493) | (refine bx 9 rfl #[.slice none 0 0, .slice none 0 0] 29 ?_; intro gb494 hg w13 hbox hb; have BK494 := am (hbox); have GW494 := am (bz hg (hs HB.out)); replace HB := sb HB hb; have GE494 := GW494; have NB492_494 := am ((by rw [hg]; exact Nat.ne_of_lt (Ad1 (g := gb492) (o := .cells #[.slice A491_0 ((Ab0 l0 x17_1).f0).length c491_0, .slice A491_1 ((Ab0 l0 x17_1).f1).length c491_1] 29 (0, 0)) (by refine bq ?_; refine Aa6 (cs := #[.slice A491_0 ((Ab0 l0 x17_1).f0).length c491_0, .slice none 0 0]) ?_ 1 _ rfl; refine bq ?_; refine Aa6 (cs := #[.slice none 0 0, .slice none 0 0]) ?_ 0 _ rfl; refine bq ?_; exact BK492.out)) : gb492 ≠ gb494)); have NB494_492 := am ((by rw [hg]; exact Nat.ne_of_gt (Ad1 (g := gb492) (o := .cells #[.slice A491_0 ((Ab0 l0 x17_1).f0).length c491_0, .slice A491_1 ((Ab0 l0 x17_1).f1).length c491_1] 29 (0, 0)) (by refine bq ?_; refine Aa6 (cs := #[.slice A491_0 ((Ab0 l0 x17_1).f0).length c491_0, .slice none 0 0]) ?_ 1 _ rfl; refine bq ?_; refine Aa6 (cs := #[.slice none 0 0, .slice none 0 0]) ?_ 0 _ rfl; refine bq ?_; exact BK492.out)) : gb494 ≠ gb492)); replace BK492 := am (Ab5 (g := gb492) (o := .cells #[.slice A491_0 ((Ab0 l0 x17_1).f0).length c491_0, .slice A491_1 ((Ab0 l0 x17_1).f1).length c491_1] 29 (0, 0)) (by refine bq ?_; refine Aa6 (cs := #[.slice A491_0 ((Ab0 l0 x17_1).f0).length c491_0, .slice none 0 0]) ?_ 1 _ rfl; refine bq ?_; refine Aa6 (cs := #[.slice none 0 0, .slice none 0 0]) ?_ 0 _ rfl; refine bq ?_; exact BK492.out) hb); clear hb hbox hg; have hnb14 := NB494_492.out; have hnc14 := NB492_494.out; have hcz15_0 : w13.cell? ⟨gb494, 0, none⟩ = some (.slice none 0 0) := (Aa0 BK494.out 0).trans rfl; have hcz15_1 : w13.cell? ⟨gb494, 1, none⟩ = some (.slice none 0 0) := (Aa0 BK494.out 1).trans rfl; have hfz15_0 := Aa1 BK494.out 0; have hfz15_1 := Aa1 BK494.out 1; have hcz16_0 : w13.cell? ⟨gb492, 0, none⟩ = some (.slice A491_0 ((Ab0 l0 x17_1).f0).length c491_0) := (Aa0 BK492.out 0).trans rfl; have hcz16_1 : w13.cell? ⟨gb492, 1, none⟩ = some (.slice A491_1 ((Ab0 l0 x17_1).f1).length c491_1) := (Aa0 BK492.out 1).trans rfl; have hfz16_0 := Aa1 BK492.out 0; have hfz16_1 := Aa1 BK492.out 1) | ((first | (refine gl (some 29) Tryz.func40 rfl #[.agg #[.slice A491_0 ((Ab0 l0 x17_1).f0).length c491_0, .slice A491_1 ((Ab0 l0 x17_1).f1).length c491_1], .agg #[.slice A493_0 ((Ab0 l1 x17_1).f0).length c493_0, .slice A493_1 ((Ab0 l1 x17_1).f1).length c493_1]] ?_) | ((with_reducible refine Af4 _ rfl ?_); refine An1 (some 29) rfl rfl Tryz.func40 (by kernel_rfl) rfl #[.agg #[.slice A491_0 ((Ab0 l0 x17_1).f0).length c491_0, .slice A491_1 ((Ab0 l0 x17_1).f1).length c491_1], .agg #[.slice A493_0 ((Ab0 l1 x17_1).f0).length c493_0, .slice A493_1 ((Ab0 l1 x17_1).f1).length c493_1]] rfl rfl (by first | rfl | (simp <;> first | rfl | exact ⟨rfl, rfl⟩ | exact ⟨rfl, rfl, rfl⟩) | ((try simp only [List.map_toArray, List.map_cons, List.map_nil]); first | done | rfl | (simp only [List.length_drop, List.length_take]; rfl))) ?_)); refine (impl_sameEquation.calls k1 _ _ ((Ab0 l0 x17_1).f0) _ _ ((Ab0 l0 x17_1).f1) _ _ ((Ab0 l1 x17_1).f0) _ _ ((Ab0 l1 x17_1).f1) true _ (Kd.C_below HR491_0.out (hs HB.out)) HC491_0.out (Kd.C_below HR491_1.out (hs HB.out)) HC491_1.out (Kd.C_below HR493_0.out (hs HB.out)) HC493_0.out (Kd.C_below HR493_1.out (hs HB.out)) HC493_1.out A9.out).mono ?_; rintro e w17 ⟨rfl, hb⟩; refine ⟨_, rfl, ?_⟩; replace BK492 := am (Ab5 (g := gb492) (o := .cells #[.slice A491_0 ((Ab0 l0 x17_1).f0).length c491_0, .slice A491_1 ((Ab0 l0 x17_1).f1).length c491_1] 29 (0, 0)) (by refine bq ?_; refine Aa4 ?_ NB492_494.out _; refine bq ?_; refine Aa4 ?_ NB492_494.out _; refine bq ?_; exact BK492.out) hb); replace BK494 := am (Ab5 (g := gb494) (o := .cells #[.slice A493_0 ((Ab0 l1 x17_1).f0).length c493_0, .slice A493_1 ((Ab0 l1 x17_1).f1).length c493_1] 29 (0, 0)) (by refine bq ?_; refine Aa6 (cs := #[.slice A493_0 ((Ab0 l1 x17_1).f0).length c493_0, .slice none 0 0]) ?_ 1 _ rfl; refine bq ?_; refine Aa6 (cs := #[.slice none 0 0, .slice none 0 0]) ?_ 0 _ rfl; refine bq ?_; exact BK494.out) hb); replace HB := sb HB hb; (try clear hb)))
      go_roundg k1
      case measure => have := HK1.out; omega
      case rel => exact ⟨(wrap64 (x17_1 + 1)), et, H', ⟨by have := HK1.out; omega⟩, ⟨hs HB.out⟩⟩
     ·replace c10 := Bool.eq_false_iff.mpr c10
      subst c10
      rw [if_neg (show ¬ (false = true) by decide)] at H
      obtain rfl := Option.some.inj H
      have p491 : 0 ≤ (x17_1 : Int) := od
      have q491 : x17_1 < (l0.length : Int) := od
      obtain ⟨ad491, A491_0, c491_0, A491_1, c491_1, e491, hx491_0, hx491_1, hl491_0, hi491_0, hl491_1, hi491_1⟩ := Af0 HR0.out x17_1 p491 q491
      cases e491
      replace hx491_0 := cz HB.out hx491_0
      replace hx491_1 := cz HB.out hx491_1
      have HR491_0 := am hi491_0
      have HC491_0 := am hl491_0
      clear hi491_0 hl491_0
      have HR491_1 := am hi491_1
      have HC491_1 := am hl491_1
      clear hi491_1 hl491_1
      replace p491 := eq_true p491
      replace q491 := eq_true q491
      go_wp2_with (first | (refine bx 8 rfl #[.slice none 0 0, .slice none 0 0] 29 ?_; intro gb492 hg w18 hbox hb; have BK492 := am (hbox); have GW492 := am (bz hg (hq HB.out)); replace HB := sb HB hb; have GE492 := GW492; clear hb hbox hg; have hcz19_0 : w18.cell? ⟨gb492, 0, none⟩ = some (.slice none 0 0) := (Aa0 BK492.out 0).trans rfl; have hcz19_1 : w18.cell? ⟨gb492, 1, none⟩ = some (.slice none 0 0) := (Aa0 BK492.out 1).trans rfl; have hfz19_0 := Aa1 BK492.out 0; have hfz19_1 := Aa1 BK492.out 1; have p493 : 0 ≤ (x17_1 : Int) := od; have q493 : x17_1 < (l1.length : Int) := od; obtain ⟨ad493, A493_0, c493_0, A493_1, c493_1, e493, hx493_0, hx493_1, hl493_0, hi493_0, hl493_1, hi493_1⟩ := Af0 HR1.out x17_1 p493 q493; cases e493; have hn493_0 : ad493.block ≠ gb492 := Nat.ne_of_lt (Nat.lt_of_lt_of_le (by have := World.block_lt_of_cell? _ _ hx493_0; first | rwa [Ac8] at this | exact this) GW492.out); have hn493_1 : ad493.block ≠ gb492 := Nat.ne_of_lt (Nat.lt_of_lt_of_le (by have := World.block_lt_of_cell? _ _ hx493_0; first | rwa [Ac8] at this | exact this) GW492.out); replace hx493_0 := cz HB.out hx493_0; replace hx493_1 := cz HB.out hx493_1; have HR493_0 := am hi493_0; have HC493_0 := am hl493_0; clear hi493_0 hl493_0; have HR493_1 := am hi493_1; have HC493_1 := am hl493_1; clear hi493_1 hl493_1; replace hx493_0 := (Af9 (p := ⟨gb492, 0, none⟩) (by first | (rw [Ac8]; exact hn493_0) | (show (Addr.add _ _).block ≠ _; rw [Ac8]; exact hn493_0) | exact hn493_0) (.slice A491_0 ((Ab0 l0 x17_1).f0).length c491_0)).trans hx493_0; replace hx493_1 := (Af9 (p := ⟨gb492, 0, none⟩) (by first | (rw [Ac8]; exact hn493_0) | (show (Addr.add _ _).block ≠ _; rw [Ac8]; exact hn493_0) | exact hn493_0) (.slice A491_0 ((Ab0 l0 x17_1).f0).length c491_0)).trans hx493_1; replace hx493_0 := (Af9 (p := ⟨gb492, 1, none⟩) (by first | (rw [Ac8]; exact hn493_1) | (show (Addr.add _ _).block ≠ _; rw [Ac8]; exact hn493_1) | exact hn493_1) (.slice A491_1 ((Ab0 l0 x17_1).f1).length c491_1)).trans hx493_0; replace hx493_1 := (Af9 (p := ⟨gb492, 1, none⟩) (by first | (rw [Ac8]; exact hn493_1) | (show (Addr.add _ _).block ≠ _; rw [Ac8]; exact hn493_1) | exact hn493_1) (.slice A491_1 ((Ab0 l0 x17_1).f1).length c491_1)).trans hx493_1; clear hn493_0; clear hn493_1; replace p493 := eq_true p493; replace q493 := eq_true q493) | (refine bx 9 rfl #[.slice none 0 0, .slice none 0 0] 29 ?_; intro gb494 hg w20 hbox hb; have BK494 := am (hbox); have GW494 := am (bz hg (hs HB.out)); replace HB := sb HB hb; have GE494 := GW494; have NB492_494 := am ((by rw [hg]; exact Nat.ne_of_lt (Ad1 (g := gb492) (o := .cells #[.slice A491_0 ((Ab0 l0 x17_1).f0).length c491_0, .slice A491_1 ((Ab0 l0 x17_1).f1).length c491_1] 29 (0, 0)) (by refine bq ?_; refine Aa6 (cs := #[.slice A491_0 ((Ab0 l0 x17_1).f0).length c491_0, .slice none 0 0]) ?_ 1 _ rfl; refine bq ?_; refine Aa6 (cs := #[.slice none 0 0, .slice none 0 0]) ?_ 0 _ rfl; refine bq ?_; exact BK492.out)) : gb492 ≠ gb494)); have NB494_492 := am ((by rw [hg]; exact Nat.ne_of_gt (Ad1 (g := gb492) (o := .cells #[.slice A491_0 ((Ab0 l0 x17_1).f0).length c491_0, .slice A491_1 ((Ab0 l0 x17_1).f1).length c491_1] 29 (0, 0)) (by refine bq ?_; refine Aa6 (cs := #[.slice A491_0 ((Ab0 l0 x17_1).f0).length c491_0, .slice none 0 0]) ?_ 1 _ rfl; refine bq ?_; refine Aa6 (cs := #[.slice none 0 0, .slice none 0 0]) ?_ 0 _ rfl; refine bq ?_; exact BK492.out)) : gb494 ≠ gb492)); replace BK492 := am (Ab5 (g := gb492) (o := .cells #[.slice A491_0 ((Ab0 l0 x17_1).f0).length c491_0, .slice A491_1 ((Ab0 l0 x17_1).f1).length c491_1] 29 (0, 0)) (by refine bq ?_; refine Aa6 (cs := #[.slice A491_0 ((Ab0 l0 x17_1).f0).length c491_0, .slice none 0 0]) ?_ 1 _ rfl; refine bq ?_; refine Aa6 (cs := #[.slice none 0 0, .slice none 0 0]) ?_ 0 _ rfl; refine bq ?_; exact BK492.out) hb); clear hb hbox hg; have hnb21 := NB494_492.out; have hnc21 := NB492_494.out; have hcz22_0 : w20.cell? ⟨gb494, 0, none⟩ = some (.slice none 0 0) := (Aa0 BK494.out 0).trans rfl; have hcz22_1 : w20.cell? ⟨gb494, 1, none⟩ = some (.slice none 0 0) := (Aa0 BK494.out 1).trans rfl; have hfz22_0 := Aa1 BK494.out 0; have hfz22_1 := Aa1 BK494.out 1; have hcz23_0 : w20.cell? ⟨gb492, 0, none⟩ = some (.slice A491_0 ((Ab0 l0 x17_1).f0).length c491_0) := (Aa0 BK492.out 0).trans rfl; have hcz23_1 : w20.cell? ⟨gb492, 1, none⟩ = some (.slice A491_1 ((Ab0 l0 x17_1).f1).length c491_1) := (Aa0 BK492.out 1).trans rfl; have hfz23_0 := Aa1 BK492.out 0; have hfz23_1 := Aa1 BK492.out 1) | ((first | (refine gl (some 29) Tryz.func40 rfl #[.agg #[.slice A491_0 ((Ab0 l0 x17_1).f0).length c491_0, .slice A491_1 ((Ab0 l0 x17_1).f1).length c491_1], .agg #[.slice A493_0 ((Ab0 l1 x17_1).f0).length c493_0, .slice A493_1 ((Ab0 l1 x17_1).f1).length c493_1]] ?_) | ((with_reducible refine Af4 _ rfl ?_); refine An1 (some 29) rfl rfl Tryz.func40 (by kernel_rfl) rfl #[.agg #[.slice A491_0 ((Ab0 l0 x17_1).f0).length c491_0, .slice A491_1 ((Ab0 l0 x17_1).f1).length c491_1], .agg #[.slice A493_0 ((Ab0 l1 x17_1).f0).length c493_0, .slice A493_1 ((Ab0 l1 x17_1).f1).length c493_1]] rfl rfl (by first | rfl | (simp <;> first | rfl | exact ⟨rfl, rfl⟩ | exact ⟨rfl, rfl, rfl⟩) | ((try simp only [List.map_toArray, List.map_cons, List.map_nil]); first | done | rfl | (simp only [List.length_drop, List.length_take]; rfl))) ?_)); refine (impl_sameEquation.calls k1 _ _ ((Ab0 l0 x17_1).f0) _ _ ((Ab0 l0 x17_1).f1) _ _ ((Ab0 l1 x17_1).f0) _ _ ((Ab0 l1 x17_1).f1) false _ (Kd.C_below HR491_0.out (hs HB.out)) HC491_0.out (Kd.C_below HR491_1.out (hs HB.out)) HC491_1.out (Kd.C_below HR493_0.out (hs HB.out)) HC493_0.out (Kd.C_below HR493_1.out (hs HB.out)) HC493_1.out A9.out).mono ?_; rintro e w24 ⟨rfl, hb⟩; refine ⟨_, rfl, ?_⟩; replace BK492 := am (Ab5 (g := gb492) (o := .cells #[.slice A491_0 ((Ab0 l0 x17_1).f0).length c491_0, .slice A491_1 ((Ab0 l0 x17_1).f1).length c491_1] 29 (0, 0)) (by refine bq ?_; refine Aa4 ?_ NB492_494.out _; refine bq ?_; refine Aa4 ?_ NB492_494.out _; refine bq ?_; exact BK492.out) hb); replace BK494 := am (Ab5 (g := gb494) (o := .cells #[.slice A493_0 ((Ab0 l1 x17_1).f0).length c493_0, .slice A493_1 ((Ab0 l1 x17_1).f1).length c493_1] 29 (0, 0)) (by refine bq ?_; refine Aa6 (cs := #[.slice A493_0 ((Ab0 l1 x17_1).f0).length c493_0, .slice none 0 0]) ?_ 1 _ rfl; refine bq ?_; refine Aa6 (cs := #[.slice none 0 0, .slice none 0 0]) ?_ 0 _ rfl; refine bq ?_; exact BK494.out) hb); replace HB := sb HB hb; (try clear hb)))
      go_ret
      exact ⟨er, hs HB.out⟩
    ·rw [if_neg c5] at H
     have c5b0 : decide (x17_1 < (l0.length : Int)) = false := decide_eq_false c5
     clear c5
     obtain rfl := Option.some.inj H
     go_wp2
     go_ret
     exact ⟨er, hq HB.out⟩
 ·rw [if_neg c4] at H
  obtain ⟨c4b0, c4b1⟩ := bqf c4
  have c4b2 : (l0.length == l1.length) = false := by first | simpa using c4 | (simp at c4 ⊢; omega)
  obtain rfl := Option.some.inj H
  go_enter Tryz.func39, Tryz.ntmps39
  go_wp2
  go_ret
  exact ⟨er, hq HB.out⟩
def impl_SameEquations.f (k : Nat) (l0 : List (S29)) (l1 : List (S29)) : Option (Bool) := (slices_EqualFunc_impl_Equation_impl_Equation_impl_Equation_impl_Equation_impl_sameEquation.f k l0 l1).bind fun t496 => (some t496)
set_option maxHeartbeats 8000000 in
set_option maxRecDepth 100000 in
theorem impl_SameEquations.calls (k : Nat) (A0 : Option Addr) (c0 : Nat) (l0 : List (S29)) (A1 : Option Addr) (c1 : Nat) (l1 : List (S29)) (r : Bool) (w : World) (hr0 : Kd.C k29 w A0 l0.length l0) (hc0 : l0.length ≤ c0) (hr1 : Kd.C k29 w A1 l1.length l1) (hc1 : l1.length ≤ c1) (h : impl_SameEquations.f k l0 l1 = some r) :
  Calls Tryz.prog 12 #[.slice A0 l0.length c0, .slice A1 l1.length c1] w fun e w' => e = .returned (.bool r) ∧ Below w.heap.size w w' := by
 have HR0 := am hr0
 have HC0 := am hc0
 clear hr0 hc0
 have HR1 := am hr1
 have HC1 := am hc1
 clear hr1 hc1
 have HB := am (Below.refl w.heap.size w)
 have H : ((slices_EqualFunc_impl_Equation_impl_Equation_impl_Equation_impl_Equation_impl_sameEquation.f k l0 l1).bind fun t496 => (some t496)) = some r := h
 clear h
 obtain ⟨t496, A3, H⟩ := ob H
 try dsimp only at H
 obtain rfl := Option.some.inj H
 go_enter Tryz.func12, Tryz.ntmps12
 go_wp2_with (first | (refine gl (some 7) Tryz.func39 rfl #[.slice A0 l0.length c0, .slice A1 l1.length c1, .func (.func 40) #[] #[]] ?_; refine (slices_EqualFunc_impl_Equation_impl_Equation_impl_Equation_impl_Equation_impl_sameEquation.calls k _ _ l0 _ _ l1  t496 _ (cq HR0.out) HC0.out (cq HR1.out) HC1.out A3.out).mono ?_; rintro e w4 ⟨rfl, hb⟩; refine ⟨_, rfl, ?_⟩; replace HB := sb HB hb; (try clear hb)))
 go_ret
 exact ⟨er, hq HB.out⟩
def spec_l1Same.l0 : Nat → List Int → List Int → Int → Option (Bool)
 | 0, _, _, _ => none
 | k + 1, x0, x1, x5 => if x5 < (x0.length : Int) then (if 0 ≤ x5 then (if x5 < (x1.length : Int) then (if (rd x0 x5) = (rd x1 x5) then (spec_l1Same.l0 k x0 x1 (wrap64 (x5 + 1))) else (some false)) else (none)) else (none)) else (some true)
def spec_l1Same.f (k : Nat) (l0 : List Int) (l1 : List Int) : Option (Bool) := if (l0.length : Int) = (l1.length : Int) then (spec_l1Same.l0 k l0 l1 0) else (some false)
set_option maxHeartbeats 8000000 in
set_option maxRecDepth 100000 in
theorem spec_l1Same.calls (k : Nat) (A0 : Option Addr) (c0 : Nat) (l0 : List Int) (A1 : Option Addr) (c1 : Nat) (l1 : List Int) (r : Bool) (w : World) (hr0 : Kd.C (Kd.int .i64) w A0 l0.length l0) (hc0 : l0.length ≤ c0) (hr1 : Kd.C (Kd.int .i64) w A1 l1.length l1) (hc1 : l1.length ≤ c1) (h : spec_l1Same.f k l0 l1 = some r) :
  Calls Tryz.prog 74 #[.slice A0 l0.length c0, .slice A1 l1.length c1] w fun e w' => e = .returned (.bool r) ∧ Drawn0 w w' := by
 have HR0 := am hr0
 have HC0 := am hc0
 clear hr0 hc0
 have HR1 := am hr1
 have HC1 := am hc1
 clear hr1 hc1
 have H : (if (l0.length : Int) = (l1.length : Int) then (spec_l1Same.l0 k l0 l1 0) else (some false)) = some r := h
 clear h
 by_cases c3 : (l0.length : Int) = (l1.length : Int)
 ·rw [if_pos c3] at H
  have c3b0 : ((l0.length : Int) == (l1.length : Int)) = true := beq_iff_eq.mpr c3
  have c3b1 : ((l0.length : Int) != (l1.length : Int)) = false := bne_eq_false_iff_eq.mpr c3
  have c3b2 : (l0.length == l1.length) = true := by first | simpa using c3 | (simp at c3 ⊢; omega)
  clear c3
  have H' := am H
  clear H
  go_enter Tryz.func74, Tryz.ntmps74
  go_wp2
  repeat (go_quiet (fail); try go_wp2)
  go_loopg [5] k (fun kq v5 w' => ∃ (x5_1 : Int), v5 = .int .i64 x5_1 ∧ Aside0 (spec_l1Same.l0 kq l0 l1 x5_1 = some r) ∧ Aside0 (kq ≤ k) ∧ Drawn0 w w')
  case atStart => exact ⟨(0), et, H', ⟨Nat.le_refl _⟩, by repeat (first | exact Drawn0.refl _ | apply Drawn0.step)⟩
  case round =>
   clear H'
   try clear c1; try clear c3; try clear c3b0; try clear c3b1; try clear c3b2
   obtain ⟨x5_1, rfl, HA, HK1, ⟨m1, rfl⟩⟩ := hrel
   cases gk with
   | zero => exact absurd HA.out (by simp [spec_l1Same.l0])
   | succ k1 =>
    have H := HA.out
    clear HA
    simp only [spec_l1Same.l0] at H
    by_cases c4 : x5_1 < (l0.length : Int)
    ·rw [if_pos c4] at H
     have c4b0 : decide (x5_1 < (l0.length : Int)) = true := decide_eq_true c4
     clear c4
     obtain ⟨c5b0, H⟩ := ife H
     obtain ⟨c6b0, H⟩ := ife H
     by_cases c7 : (rd l0 x5_1) = (rd l1 x5_1)
     ·rw [if_pos c7] at H
      obtain ⟨c7b0, c7b1⟩ := bqt c7; clear c7
      have H' := am H
      clear H
      have p497 : 0 ≤ (x5_1 : Int) := od
      have q497 : x5_1 < (l0.length : Int) := od
      obtain ⟨ad497, e497, hx497_0⟩ := Kd.at_int HR0.out x5_1 p497 q497
      cases e497
      replace p497 := eq_true p497
      replace q497 := eq_true q497
      have p498 : 0 ≤ (x5_1 : Int) := od
      have q498 : x5_1 < (l1.length : Int) := od
      obtain ⟨ad498, e498, hx498_0⟩ := Kd.at_int HR1.out x5_1 p498 q498
      cases e498
      replace p498 := eq_true p498
      replace q498 := eq_true q498
      go_wp2
      repeat (go_quiet (fail); try go_wp2)
      go_roundg k1
      case measure => have := HK1.out; omega
      case rel => exact ⟨(wrap64 (x5_1 + 1)), et, H', ⟨by have := HK1.out; omega⟩, by repeat (first | exact Drawn0.refl _ | apply Drawn0.step)⟩
     ·rw [if_neg c7] at H
      obtain ⟨c7b0, c7b1⟩ := bqf c7
      obtain rfl := Option.some.inj H
      have p497 : 0 ≤ (x5_1 : Int) := od
      have q497 : x5_1 < (l0.length : Int) := od
      obtain ⟨ad497, e497, hx497_0⟩ := Kd.at_int HR0.out x5_1 p497 q497
      cases e497
      replace p497 := eq_true p497
      replace q497 := eq_true q497
      have p498 : 0 ≤ (x5_1 : Int) := od
      have q498 : x5_1 < (l1.length : Int) := od
      obtain ⟨ad498, e498, hx498_0⟩ := Kd.at_int HR1.out x5_1 p498 q498
      cases e498
      replace p498 := eq_true p498
      replace q498 := eq_true q498
      go_wp2
      repeat (go_quiet (fail); try go_wp2)
      go_ret
      exact ⟨et, by repeat (first | exact Drawn0.refl _ | apply Drawn0.step)⟩
    ·rw [if_neg c4] at H
     have c4b0 : decide (x5_1 < (l0.length : Int)) = false := decide_eq_false c4
     clear c4
     obtain rfl := Option.some.inj H
     go_wp2
     repeat (go_quiet (fail); try go_wp2)
     go_ret
     exact ⟨et, by repeat (first | exact Drawn0.refl _ | apply Drawn0.step)⟩
 ·rw [if_neg c3] at H
  obtain ⟨c3b0, c3b1⟩ := bqf c3
  have c3b2 : (l0.length == l1.length) = false := by first | simpa using c3 | (simp at c3 ⊢; omega)
  obtain rfl := Option.some.inj H
  go_enter Tryz.func74, Tryz.ntmps74
  go_wp2
  repeat (go_quiet (fail); try go_wp2)
  go_ret
  exact ⟨et, by repeat (first | exact Drawn0.refl _ | apply Drawn0.step)⟩
def spec_l4Same.f (k : Nat) (l0 : List (S29)) (l1 : List (S29)) : Option (Bool) := if 0 < (l0.length : Int) then (if 0 < (l1.length : Int) then ((spec_l1Same.f k ((Ab0 l0 0).f0) ((Ab0 l1 0).f0)).bind fun t503 => (if t503 = true then ((spec_l1Same.f k ((Ab0 l0 0).f1) ((Ab0 l1 0).f1)).bind fun t508 => (some t508)) else (some false))) else (none)) else (none)
set_option maxHeartbeats 8000000 in
set_option maxRecDepth 100000 in
theorem spec_l4Same.calls (k : Nat) (A0 : Option Addr) (l0 : List (S29)) (A1 : Option Addr) (l1 : List (S29)) (r : Bool) (w : World) (hr0 : Kd.C k29 w A0 l0.length l0) (hr1 : Kd.C k29 w A1 l1.length l1) (h : spec_l4Same.f k l0 l1 = some r) :
  Calls Tryz.prog 41 #[.pointer A0, .pointer A1] w fun e w' => e = .returned (.bool r) ∧ Drawn0 w w' := by
 have HR0 := Aside0.mk hr0
 clear hr0
 have HR1 := Aside0.mk hr1
 clear hr1
 have H : (if 0 < (l0.length : Int) then (if 0 < (l1.length : Int) then ((spec_l1Same.f k ((Ab0 l0 0).f0) ((Ab0 l1 0).f0)).bind fun t503 => (if t503 = true then ((spec_l1Same.f k ((Ab0 l0 0).f1) ((Ab0 l1 0).f1)).bind fun t508 => (some t508)) else (some false))) else (none)) else (none)) = some r := h
 clear h
 by_cases c3 : 0 < (l0.length : Int)
 ·rw [if_pos c3] at H
  have c3b0 : decide (0 < (l0.length : Int)) = true := decide_eq_true c3
  have c3b1 : decide (0 < l0.length) = true := decide_eq_true (by omega)
  clear c3
  by_cases c4 : 0 < (l1.length : Int)
  ·rw [if_pos c4] at H
   have c4b0 : decide (0 < (l1.length : Int)) = true := decide_eq_true c4
   have c4b1 : decide (0 < l1.length) = true := decide_eq_true (by omega)
   clear c4
   replace H := Option.bind_eq_some_iff.mp H
   obtain ⟨t503, A50, H⟩ := H
   replace H : (if t503 = true then ((spec_l1Same.f k ((Ab0 l0 0).f1) ((Ab0 l1 0).f1)).bind fun t508 => (some t508)) else (some false)) = some r := H
   have A5 := Aside0.mk A50
   clear A50
   by_cases c6 : t503 = true
   ·subst c6
    have H1 : ((spec_l1Same.f k ((Ab0 l0 0).f1) ((Ab0 l1 0).f1)).bind fun t508 => (some t508)) = some r := by rw [if_pos rfl] at H; exact H
    clear H
    have H := H1
    clear H1
    replace H := Option.bind_eq_some_iff.mp H
    obtain ⟨t508, A70, H⟩ := H
    replace H : (some t508) = some r := H
    have A7 := Aside0.mk A70
    clear A70
    obtain rfl := Option.some.inj H
    have p499 : 0 ≤ (0 : Int) := (by omega)
    have q499 : 0 < (l0.length : Int) := of_decide_eq_true (by first | (with_reducible assumption) | assumption)
    obtain ⟨ad499, A499_0, c499_0, A499_1, c499_1, e499, hx499_0, hx499_1, hl499_0, hi499_0, hl499_1, hi499_1⟩ := Af0 HR0.out 0 p499 q499
    cases e499
    have qi499 : (0 < l0.length) = True := eq_true (by omega)
    (try rw [show ((0 : Int)).toNat = 0 from rfl] at hx499_0)
    (try rw [show 0 * 2 = 0 from rfl] at hx499_0)
    (try rw [Addr.add_zero'] at hx499_0)
    (try rw [show ((0 : Int)).toNat = 0 from rfl] at hx499_1)
    (try rw [show 0 * 2 = 0 from rfl] at hx499_1)
    (try rw [Addr.add_zero'] at hx499_1)
    have HR499_0 := Aside0.mk hi499_0
    have HC499_0 := Aside0.mk hl499_0
    clear hi499_0 hl499_0
    have HR499_1 := Aside0.mk hi499_1
    have HC499_1 := Aside0.mk hl499_1
    clear hi499_1 hl499_1
    replace p499 := eq_true p499
    replace q499 := eq_true q499
    have p500 : 0 ≤ (0 : Int) := (by omega)
    have q500 : 0 < (l0.length : Int) := of_decide_eq_true (by first | (with_reducible assumption) | assumption)
    obtain ⟨ad500, A500_0, c500_0, A500_1, c500_1, e500, hx500_0, hx500_1, hl500_0, hi500_0, hl500_1, hi500_1⟩ := Af0 HR0.out 0 p500 q500
    obtain rfl : ad499 = ad500 := (by injection e500)
    have qi500 : (0 < l0.length) = True := eq_true (by omega)
    (try rw [show ((0 : Int)).toNat = 0 from rfl] at hx500_0)
    (try rw [show 0 * 2 = 0 from rfl] at hx500_0)
    (try rw [Addr.add_zero'] at hx500_0)
    (try rw [show ((0 : Int)).toNat = 0 from rfl] at hx500_1)
    (try rw [show 0 * 2 = 0 from rfl] at hx500_1)
    (try rw [Addr.add_zero'] at hx500_1)
    have HR500_0 := Aside0.mk hi500_0
    have HC500_0 := Aside0.mk hl500_0
    clear hi500_0 hl500_0
    have HR500_1 := Aside0.mk hi500_1
    have HC500_1 := Aside0.mk hl500_1
    clear hi500_1 hl500_1
    replace p500 := eq_true p500
    replace q500 := eq_true q500
    have ea_ := Option.some.inj (hx499_0.symm.trans hx500_0)
    injection ea_ with ea_ en_ ec_
    subst ea_
    subst ec_
    clear en_
    have ea_ := Option.some.inj (hx499_1.symm.trans hx500_1)
    injection ea_ with ea_ en_ ec_
    subst ea_
    subst ec_
    clear en_
    have p501 : 0 ≤ (0 : Int) := (by omega)
    have q501 : 0 < (l1.length : Int) := of_decide_eq_true (by first | (with_reducible assumption) | assumption)
    obtain ⟨ad501, A501_0, c501_0, A501_1, c501_1, e501, hx501_0, hx501_1, hl501_0, hi501_0, hl501_1, hi501_1⟩ := Af0 HR1.out 0 p501 q501
    cases e501
    have qi501 : (0 < l1.length) = True := eq_true (by omega)
    (try rw [show ((0 : Int)).toNat = 0 from rfl] at hx501_0)
    (try rw [show 0 * 2 = 0 from rfl] at hx501_0)
    (try rw [Addr.add_zero'] at hx501_0)
    (try rw [show ((0 : Int)).toNat = 0 from rfl] at hx501_1)
    (try rw [show 0 * 2 = 0 from rfl] at hx501_1)
    (try rw [Addr.add_zero'] at hx501_1)
    have HR501_0 := Aside0.mk hi501_0
    have HC501_0 := Aside0.mk hl501_0
    clear hi501_0 hl501_0
    have HR501_1 := Aside0.mk hi501_1
    have HC501_1 := Aside0.mk hl501_1
    clear hi501_1 hl501_1
    replace p501 := eq_true p501
    replace q501 := eq_true q501
    have p502 : 0 ≤ (0 : Int) := (by omega)
    have q502 : 0 < (l1.length : Int) := of_decide_eq_true (by first | (with_reducible assumption) | assumption)
    obtain ⟨ad502, A502_0, c502_0, A502_1, c502_1, e502, hx502_0, hx502_1, hl502_0, hi502_0, hl502_1, hi502_1⟩ := Af0 HR1.out 0 p502 q502
    obtain rfl : ad501 = ad502 := (by injection e502)
    have qi502 : (0 < l1.length) = True := eq_true (by omega)
    (try rw [show ((0 : Int)).toNat = 0 from rfl] at hx502_0)
    (try rw [show 0 * 2 = 0 from rfl] at hx502_0)
    (try rw [Addr.add_zero'] at hx502_0)
    (try rw [show ((0 : Int)).toNat = 0 from rfl] at hx502_1)
    (try rw [show 0 * 2 = 0 from rfl] at hx502_1)
    (try rw [Addr.add_zero'] at hx502_1)
    have HR502_0 := Aside0.mk hi502_0
    have HC502_0 := Aside0.mk hl502_0
    clear hi502_0 hl502_0
    have HR502_1 := Aside0.mk hi502_1
    have HC502_1 := Aside0.mk hl502_1
    clear hi502_1 hl502_1
    replace p502 := eq_true p502
    replace q502 := eq_true q502
    have ea_ := Option.some.inj (hx501_0.symm.trans hx502_0)
    injection ea_ with ea_ en_ ec_
    subst ea_
    subst ec_
    clear en_
    have ea_ := Option.some.inj (hx501_1.symm.trans hx502_1)
    injection ea_ with ea_ en_ ec_
    subst ea_
    subst ec_
    clear en_
    go_enter Tryz.func41, Tryz.ntmps41
    go_wp2_with (first | (go_at_call 74; (with_reducible refine (spec_l1Same.calls k _ _ ((Ab0 l0 0).f0) _ _ ((Ab0 l1 0).f0) true _ ?side1 ?side2 ?side3 ?side4 A5.out).mono ?_); (case side1 => repeat (first | exact HR500_0.out | (with_reducible refine Kd.C_alloc ?_ _) | (with_reducible refine Kd.C_drewN ?_ _) | (with_reducible refine Kd.C_drew ?_))); (case side2 => exact HC500_0.out); (case side3 => repeat (first | exact HR502_0.out | (with_reducible refine Kd.C_alloc ?_ _) | (with_reducible refine Kd.C_drewN ?_ _) | (with_reducible refine Kd.C_drew ?_))); (case side4 => exact HC502_0.out); rintro e w' ⟨rfl, ⟨nd, rfl⟩⟩; (try first | exact ⟨rfl, _, World.drewN_drewN _ _ _⟩ | exact ⟨rfl, _, Eq.trans (World.drewN_drewN _ _ _) (congrArg (World.drewN _) (Nat.add_assoc _ _ _))⟩); have p504 : 0 ≤ (0 : Int) := (by omega); have q504 : 0 < (l0.length : Int) := of_decide_eq_true (by first | (with_reducible assumption) | assumption); obtain ⟨ad504, A504_0, c504_0, A504_1, c504_1, e504, hx504_0, hx504_1, hl504_0, hi504_0, hl504_1, hi504_1⟩ := Af0 HR0.out 0 p504 q504; obtain rfl : ad499 = ad504 := (by injection e504); have qi504 : (0 < l0.length) = True := eq_true (by omega); (try rw [show ((0 : Int)).toNat = 0 from rfl] at hx504_0); (try rw [show 0 * 2 = 0 from rfl] at hx504_0); (try rw [Addr.add_zero'] at hx504_0); (try rw [show ((0 : Int)).toNat = 0 from rfl] at hx504_1); (try rw [show 0 * 2 = 0 from rfl] at hx504_1); (try rw [Addr.add_zero'] at hx504_1); have HR504_0 := Aside0.mk hi504_0; have HC504_0 := Aside0.mk hl504_0; clear hi504_0 hl504_0; have HR504_1 := Aside0.mk hi504_1; have HC504_1 := Aside0.mk hl504_1; clear hi504_1 hl504_1; replace p504 := eq_true p504; replace q504 := eq_true q504; have ea_ := Option.some.inj (hx499_0.symm.trans hx504_0); injection ea_ with ea_ en_ ec_; subst ea_; subst ec_; clear en_; have ea_ := Option.some.inj (hx499_1.symm.trans hx504_1); injection ea_ with ea_ en_ ec_; subst ea_; subst ec_; clear en_; have p505 : 0 ≤ (0 : Int) := (by omega); have q505 : 0 < (l0.length : Int) := of_decide_eq_true (by first | (with_reducible assumption) | assumption); obtain ⟨ad505, A505_0, c505_0, A505_1, c505_1, e505, hx505_0, hx505_1, hl505_0, hi505_0, hl505_1, hi505_1⟩ := Af0 HR0.out 0 p505 q505; obtain rfl : ad499 = ad505 := (by injection e505); have qi505 : (0 < l0.length) = True := eq_true (by omega); (try rw [show ((0 : Int)).toNat = 0 from rfl] at hx505_0); (try rw [show 0 * 2 = 0 from rfl] at hx505_0); (try rw [Addr.add_zero'] at hx505_0); (try rw [show ((0 : Int)).toNat = 0 from rfl] at hx505_1); (try rw [show 0 * 2 = 0 from rfl] at hx505_1); (try rw [Addr.add_zero'] at hx505_1); have HR505_0 := Aside0.mk hi505_0; have HC505_0 := Aside0.mk hl505_0; clear hi505_0 hl505_0; have HR505_1 := Aside0.mk hi505_1; have HC505_1 := Aside0.mk hl505_1; clear hi505_1 hl505_1; replace p505 := eq_true p505; replace q505 := eq_true q505; have ea_ := Option.some.inj (hx499_0.symm.trans hx505_0); injection ea_ with ea_ en_ ec_; subst ea_; subst ec_; clear en_; have ea_ := Option.some.inj (hx499_1.symm.trans hx505_1); injection ea_ with ea_ en_ ec_; subst ea_; subst ec_; clear en_; have p506 : 0 ≤ (0 : Int) := (by omega); have q506 : 0 < (l1.length : Int) := of_decide_eq_true (by first | (with_reducible assumption) | assumption); obtain ⟨ad506, A506_0, c506_0, A506_1, c506_1, e506, hx506_0, hx506_1, hl506_0, hi506_0, hl506_1, hi506_1⟩ := Af0 HR1.out 0 p506 q506; obtain rfl : ad501 = ad506 := (by injection e506); have qi506 : (0 < l1.length) = True := eq_true (by omega); (try rw [show ((0 : Int)).toNat = 0 from rfl] at hx506_0); (try rw [show 0 * 2 = 0 from rfl] at hx506_0); (try rw [Addr.add_zero'] at hx506_0); (try rw [show ((0 : Int)).toNat = 0 from rfl] at hx506_1); (try rw [show 0 * 2 = 0 from rfl] at hx506_1); (try rw [Addr.add_zero'] at hx506_1); have HR506_0 := Aside0.mk hi506_0; have HC506_0 := Aside0.mk hl506_0; clear hi506_0 hl506_0; have HR506_1 := Aside0.mk hi506_1; have HC506_1 := Aside0.mk hl506_1; clear hi506_1 hl506_1; replace p506 := eq_true p506; replace q506 := eq_true q506; have ea_ := Option.some.inj (hx501_0.symm.trans hx506_0); injection ea_ with ea_ en_ ec_; subst ea_; subst ec_; clear en_; have ea_ := Option.some.inj (hx501_1.symm.trans hx506_1); injection ea_ with ea_ en_ ec_; subst ea_; subst ec_; clear en_; have p507 : 0 ≤ (0 : Int) := (by omega); have q507 : 0 < (l1.length : Int) := of_decide_eq_true (by first | (with_reducible assumption) | assumption); obtain ⟨ad507, A507_0, c507_0, A507_1, c507_1, e507, hx507_0, hx507_1, hl507_0, hi507_0, hl507_1, hi507_1⟩ := Af0 HR1.out 0 p507 q507; obtain rfl : ad501 = ad507 := (by injection e507); have qi507 : (0 < l1.length) = True := eq_true (by omega); (try rw [show ((0 : Int)).toNat = 0 from rfl] at hx507_0); (try rw [show 0 * 2 = 0 from rfl] at hx507_0); (try rw [Addr.add_zero'] at hx507_0); (try rw [show ((0 : Int)).toNat = 0 from rfl] at hx507_1); (try rw [show 0 * 2 = 0 from rfl] at hx507_1); (try rw [Addr.add_zero'] at hx507_1); have HR507_0 := Aside0.mk hi507_0; have HC507_0 := Aside0.mk hl507_0; clear hi507_0 hl507_0; have HR507_1 := Aside0.mk hi507_1; have HC507_1 := Aside0.mk hl507_1; clear hi507_1 hl507_1; replace p507 := eq_true p507; replace q507 := eq_true q507; have ea_ := Option.some.inj (hx501_0.symm.trans hx507_0); injection ea_ with ea_ en_ ec_; subst ea_; subst ec_; clear en_; have ea_ := Option.some.inj (hx501_1.symm.trans hx507_1); injection ea_ with ea_ en_ ec_; subst ea_; subst ec_; clear en_) | (go_at_call 74; (with_reducible refine (spec_l1Same.calls k _ _ ((Ab0 l0 0).f1) _ _ ((Ab0 l1 0).f1) t508 _ ?side1 ?side2 ?side3 ?side4 A7.out).mono ?_); (case side1 => repeat (first | exact HR505_1.out | (with_reducible refine Kd.C_alloc ?_ _) | (with_reducible refine Kd.C_drewN ?_ _) | (with_reducible refine Kd.C_drew ?_))); (case side2 => exact HC505_1.out); (case side3 => repeat (first | exact HR507_1.out | (with_reducible refine Kd.C_alloc ?_ _) | (with_reducible refine Kd.C_drewN ?_ _) | (with_reducible refine Kd.C_drew ?_))); (case side4 => exact HC507_1.out); rintro e w' ⟨rfl, ⟨nd, rfl⟩⟩; (try first | exact ⟨rfl, _, World.drewN_drewN _ _ _⟩ | exact ⟨rfl, _, Eq.trans (World.drewN_drewN _ _ _) (congrArg (World.drewN _) (Nat.add_assoc _ _ _))⟩)))
    repeat (go_quiet (first | (go_at_call 74; (with_reducible refine (spec_l1Same.calls k _ _ ((Ab0 l0 0).f0) _ _ ((Ab0 l1 0).f0) true _ ?side1 ?side2 ?side3 ?side4 A5.out).mono ?_); (case side1 => repeat (first | exact HR500_0.out | (with_reducible refine Kd.C_alloc ?_ _) | (with_reducible refine Kd.C_drewN ?_ _) | (with_reducible refine Kd.C_drew ?_))); (case side2 => exact HC500_0.out); (case side3 => repeat (first | exact HR502_0.out | (with_reducible refine Kd.C_alloc ?_ _) | (with_reducible refine Kd.C_drewN ?_ _) | (with_reducible refine Kd.C_drew ?_))); (case side4 => exact HC502_0.out); rintro e w' ⟨rfl, ⟨nd, rfl⟩⟩; (try first | exact ⟨rfl, _, World.drewN_drewN _ _ _⟩ | exact ⟨rfl, _, Eq.trans (World.drewN_drewN _ _ _) (congrArg (World.drewN _) (Nat.add_assoc _ _ _))⟩); have p504 : 0 ≤ (0 : Int) := (by omega); have q504 : 0 < (l0.length : Int) := of_decide_eq_true (by first | (with_reducible assumption) | assumption); obtain ⟨ad504, A504_0, c504_0, A504_1, c504_1, e504, hx504_0, hx504_1, hl504_0, hi504_0, hl504_1, hi504_1⟩ := Af0 HR0.out 0 p504 q504; obtain rfl : ad499 = ad504 := (by injection e504); have qi504 : (0 < l0.length) = True := eq_true (by omega); (try rw [show ((0 : Int)).toNat = 0 from rfl] at hx504_0); (try rw [show 0 * 2 = 0 from rfl] at hx504_0); (try rw [Addr.add_zero'] at hx504_0); (try rw [show ((0 : Int)).toNat = 0 from rfl] at hx504_1); (try rw [show 0 * 2 = 0 from rfl] at hx504_1); (try rw [Addr.add_zero'] at hx504_1); have HR504_0 := Aside0.mk hi504_0; have HC504_0 := Aside0.mk hl504_0; clear hi504_0 hl504_0; have HR504_1 := Aside0.mk hi504_1; have HC504_1 := Aside0.mk hl504_1; clear hi504_1 hl504_1; replace p504 := eq_true p504; replace q504 := eq_true q504; have ea_ := Option.some.inj (hx499_0.symm.trans hx504_0); injection ea_ with ea_ en_ ec_; subst ea_; subst ec_; clear en_; have ea_ := Option.some.inj (hx499_1.symm.trans hx504_1); injection ea_ with ea_ en_ ec_; subst ea_; subst ec_; clear en_; have p505 : 0 ≤ (0 : Int) := (by omega); have q505 : 0 < (l0.length : Int) := of_decide_eq_true (by first | (with_reducible assumption) | assumption); obtain ⟨ad505, A505_0, c505_0, A505_1, c505_1, e505, hx505_0, hx505_1, hl505_0, hi505_0, hl505_1, hi505_1⟩ := Af0 HR0.out 0 p505 q505; obtain rfl : ad499 = ad505 := (by injection e505); have qi505 : (0 < l0.length) = True := eq_true (by omega); (try rw [show ((0 : Int)).toNat = 0 from rfl] at hx505_0); (try rw [show 0 * 2 = 0 from rfl] at hx505_0); (try rw [Addr.add_zero'] at hx505_0); (try rw [show ((0 : Int)).toNat = 0 from rfl] at hx505_1); (try rw [show 0 * 2 = 0 from rfl] at hx505_1); (try rw [Addr.add_zero'] at hx505_1); have HR505_0 := Aside0.mk hi505_0; have HC505_0 := Aside0.mk hl505_0; clear hi505_0 hl505_0; have HR505_1 := Aside0.mk hi505_1; have HC505_1 := Aside0.mk hl505_1; clear hi505_1 hl505_1; replace p505 := eq_true p505; replace q505 := eq_true q505; have ea_ := Option.some.inj (hx499_0.symm.trans hx505_0); injection ea_ with ea_ en_ ec_; subst ea_; subst ec_; clear en_; have ea_ := Option.some.inj (hx499_1.symm.trans hx505_1); injection ea_ with ea_ en_ ec_; subst ea_; subst ec_; clear en_; have p506 : 0 ≤ (0 : Int) := (by omega); have q506 : 0 < (l1.length : Int) := of_decide_eq_true (by first | (with_reducible assumption) | assumption); obtain ⟨ad506, A506_0, c506_0, A506_1, c506_1, e506, hx506_0, hx506_1, hl506_0, hi506_0, hl506_1, hi506_1⟩ := Af0 HR1.out 0 p506 q506; obtain rfl : ad501 = ad506 := (by injection e506); have qi506 : (0 < l1.length) = True := eq_true (by omega); (try rw [show ((0 : Int)).toNat = 0 from rfl] at hx506_0); (try rw [show 0 * 2 = 0 from rfl] at hx506_0); (try rw [Addr.add_zero'] at hx506_0); (try rw [show ((0 : Int)).toNat = 0 from rfl] at hx506_1); (try rw [show 0 * 2 = 0 from rfl] at hx506_1); (try rw [Addr.add_zero'] at hx506_1); have HR506_0 := Aside0.mk hi506_0; have HC506_0 := Aside0.mk hl506_0; clear hi506_0 hl506_0; have HR506_1 := Aside0.mk hi506_1; have HC506_1 := Aside0.mk hl506_1; clear hi506_1 hl506_1; replace p506 := eq_true p506; replace q506 := eq_true q506; have ea_ := Option.some.inj (hx501_0.symm.trans hx506_0); injection ea_ with ea_ en_ ec_; subst ea_; subst ec_; clear en_; have ea_ := Option.some.inj (hx501_1.symm.trans hx506_1); injection ea_ with ea_ en_ ec_; subst ea_; subst ec_; clear en_; have p507 : 0 ≤ (0 : Int) := (by omega); have q507 : 0 < (l1.length : Int) := of_decide_eq_true (by first | (with_reducible assumption) | assumption); obtain ⟨ad507, A507_0, c507_0, A507_1, c507_1, e507, hx507_0, hx507_1, hl507_0, hi507_0, hl507_1, hi507_1⟩ := Af0 HR1.out 0 p507 q507; obtain rfl : ad501 = ad507 := (by injection e507); have qi507 : (0 < l1.length) = True := eq_true (by omega); (try rw [show ((0 : Int)).toNat = 0 from rfl] at hx507_0); (try rw [show 0 * 2 = 0 from rfl] at hx507_0); (try rw [Addr.add_zero'] at hx507_0); (try rw [show ((0 : Int)).toNat = 0 from rfl] at hx507_1); (try rw [show 0 * 2 = 0 from rfl] at hx507_1); (try rw [Addr.add_zero'] at hx507_1); have HR507_0 := Aside0.mk hi507_0; have HC507_0 := Aside0.mk hl507_0; clear hi507_0 hl507_0; have HR507_1 := Aside0.mk hi507_1; have HC507_1 := Aside0.mk hl507_1; clear hi507_1 hl507_1; replace p507 := eq_true p507; replace q507 := eq_true q507; have ea_ := Option.some.inj (hx501_0.symm.trans hx507_0); injection ea_ with ea_ en_ ec_; subst ea_; subst ec_; clear en_; have ea_ := Option.some.inj (hx501_1.symm.trans hx507_1); injection ea_ with ea_ en_ ec_; subst ea_; subst ec_; clear en_) | (go_at_call 74; (with_reducible refine (spec_l1Same.calls k _ _ ((Ab0 l0 0).f1) _ _ ((Ab0 l1 0).f1) t508 _ ?side1 ?side2 ?side3 ?side4 A7.out).mono ?_); (case side1 => repeat (first | exact HR505_1.out | (with_reducible refine Kd.C_alloc ?_ _) | (with_reducible refine Kd.C_drewN ?_ _) | (with_reducible refine Kd.C_drew ?_))); (case side2 => exact HC505_1.out); (case side3 => repeat (first | exact HR507_1.out | (with_reducible refine Kd.C_alloc ?_ _) | (with_reducible refine Kd.C_drewN ?_ _) | (with_reducible refine Kd.C_drew ?_))); (case side4 => exact HC507_1.out); rintro e w' ⟨rfl, ⟨nd, rfl⟩⟩; (try first | exact ⟨rfl, _, World.drewN_drewN _ _ _⟩ | exact ⟨rfl, _, Eq.trans (World.drewN_drewN _ _ _) (congrArg (World.drewN _) (Nat.add_assoc _ _ _))⟩))); try go_wp2_with (first | (go_at_call 74; (with_reducible refine (spec_l1Same.calls k _ _ ((Ab0 l0 0).f0) _ _ ((Ab0 l1 0).f0) true _ ?side1 ?side2 ?side3 ?side4 A5.out).mono ?_); (case side1 => repeat (first | exact HR500_0.out | (with_reducible refine Kd.C_alloc ?_ _) | (with_reducible refine Kd.C_drewN ?_ _) | (with_reducible refine Kd.C_drew ?_))); (case side2 => exact HC500_0.out); (case side3 => repeat (first | exact HR502_0.out | (with_reducible refine Kd.C_alloc ?_ _) | (with_reducible refine Kd.C_drewN ?_ _) | (with_reducible refine Kd.C_drew ?_))); (case side4 => exact HC502_0.out); rintro e w' ⟨rfl, ⟨nd, rfl⟩⟩; (try first | exact ⟨rfl, _, World.drewN_drewN _ _ _⟩ | exact ⟨rfl, _, Eq.trans (World.drewN_drewN _ _ _) (congrArg (World.drewN _) (Nat.add_assoc _ _ _))⟩); have p504 : 0 ≤ (0 : Int) := (by omega); have q504 : 0 < (l0.length : Int) := of_decide_eq_true (by first | (with_reducible assumption) | assumption); obtain ⟨ad504, A504_0, c504_0, A504_1, c504_1, e504, hx504_0, hx504_1, hl504_0, hi504_0, hl504_1, hi504_1⟩ := Af0 HR0.out 0 p504 q504; obtain rfl : ad499 = ad504 := (by injection e504); have qi504 : (0 < l0.length) = True := eq_true (by omega); (try rw [show ((0 : Int)).toNat = 0 from rfl] at hx504_0); (try rw [show 0 * 2 = 0 from rfl] at hx504_0); (try rw [Addr.add_zero'] at hx504_0); (try rw [show ((0 : Int)).toNat = 0 from rfl] at hx504_1); (try rw [show 0 * 2 = 0 from rfl] at hx504_1); (try rw [Addr.add_zero'] at hx504_1); have HR504_0 := Aside0.mk hi504_0; have HC504_0 := Aside0.mk hl504_0; clear hi504_0 hl504_0; have HR504_1 := Aside0.mk hi504_1; have HC504_1 := Aside0.mk hl504_1; clear hi504_1 hl504_1; replace p504 := eq_true p504; replace q504 := eq_true q504; have ea_ := Option.some.inj (hx499_0.symm.trans hx504_0); injection ea_ with ea_ en_ ec_; subst ea_; subst ec_; clear en_; have ea_ := Option.some.inj (hx499_1.symm.trans hx504_1); injection ea_ with ea_ en_ ec_; subst ea_; subst ec_; clear en_; have p505 : 0 ≤ (0 : Int) := (by omega); have q505 : 0 < (l0.length : Int) := of_decide_eq_true (by first | (with_reducible assumption) | assumption); obtain ⟨ad505, A505_0, c505_0, A505_1, c505_1, e505, hx505_0, hx505_1, hl505_0, hi505_0, hl505_1, hi505_1⟩ := Af0 HR0.out 0 p505 q505; obtain rfl : ad499 = ad505 := (by injection e505); have qi505 : (0 < l0.length) = True := eq_true (by omega); (try rw [show ((0 : Int)).toNat = 0 from rfl] at hx505_0); (try rw [show 0 * 2 = 0 from rfl] at hx505_0); (try rw [Addr.add_zero'] at hx505_0); (try rw [show ((0 : Int)).toNat = 0 from rfl] at hx505_1); (try rw [show 0 * 2 = 0 from rfl] at hx505_1); (try rw [Addr.add_zero'] at hx505_1); have HR505_0 := Aside0.mk hi505_0; have HC505_0 := Aside0.mk hl505_0; clear hi505_0 hl505_0; have HR505_1 := Aside0.mk hi505_1; have HC505_1 := Aside0.mk hl505_1; clear hi505_1 hl505_1; replace p505 := eq_true p505; replace q505 := eq_true q505; have ea_ := Option.some.inj (hx499_0.symm.trans hx505_0); injection ea_ with ea_ en_ ec_; subst ea_; subst ec_; clear en_; have ea_ := Option.some.inj (hx499_1.symm.trans hx505_1); injection ea_ with ea_ en_ ec_; subst ea_; subst ec_; clear en_; have p506 : 0 ≤ (0 : Int) := (by omega); have q506 : 0 < (l1.length : Int) := of_decide_eq_true (by first | (with_reducible assumption) | assumption); obtain ⟨ad506, A506_0, c506_0, A506_1, c506_1, e506, hx506_0, hx506_1, hl506_0, hi506_0, hl506_1, hi506_1⟩ := Af0 HR1.out 0 p506 q506; obtain rfl : ad501 = ad506 := (by injection e506); have qi506 : (0 < l1.length) = True := eq_true (by omega); (try rw [show ((0 : Int)).toNat = 0 from rfl] at hx506_0); (try rw [show 0 * 2 = 0 from rfl] at hx506_0); (try rw [Addr.add_zero'] at hx506_0); (try rw [show ((0 : Int)).toNat = 0 from rfl] at hx506_1); (try rw [show 0 * 2 = 0 from rfl] at hx506_1); (try rw [Addr.add_zero'] at hx506_1); have HR506_0 := Aside0.mk hi506_0; have HC506_0 := Aside0.mk hl506_0; clear hi506_0 hl506_0; have HR506_1 := Aside0.mk hi506_1; have HC506_1 := Aside0.mk hl506_1; clear hi506_1 hl506_1; replace p506 := eq_true p506; replace q506 := eq_true q506; have ea_ := Option.some.inj (hx501_0.symm.trans hx506_0); injection ea_ with ea_ en_ ec_; subst ea_; subst ec_; clear en_; have ea_ := Option.some.inj (hx501_1.symm.trans hx506_1); injection ea_ with ea_ en_ ec_; subst ea_; subst ec_; clear en_; have p507 : 0 ≤ (0 : Int) := (by omega); have q507 : 0 < (l1.length : Int) := of_decide_eq_true (by first | (with_reducible assumption) | assumption); obtain ⟨ad507, A507_0, c507_0, A507_1, c507_1, e507, hx507_0, hx507_1, hl507_0, hi507_0, hl507_1, hi507_1⟩ := Af0 HR1.out 0 p507 q507; obtain rfl : ad501 = ad507 := (by injection e507); have qi507 : (0 < l1.length) = True := eq_true (by omega); (try rw [show ((0 : Int)).toNat = 0 from rfl] at hx507_0); (try rw [show 0 * 2 = 0 from rfl] at hx507_0); (try rw [Addr.add_zero'] at hx507_0); (try rw [show ((0 : Int)).toNat = 0 from rfl] at hx507_1); (try rw [show 0 * 2 = 0 from rfl] at hx507_1); (try rw [Addr.add_zero'] at hx507_1); have HR507_0 := Aside0.mk hi507_0; have HC507_0 := Aside0.mk hl507_0; clear hi507_0 hl507_0; have HR507_1 := Aside0.mk hi507_1; have HC507_1 := Aside0.mk hl507_1; clear hi507_1 hl507_1; replace p507 := eq_true p507; replace q507 := eq_true q507; have ea_ := Option.some.inj (hx501_0.symm.trans hx507_0); injection ea_ with ea_ en_ ec_; subst ea_; subst ec_; clear en_; have ea_ := Option.some.inj (hx501_1.symm.trans hx507_1); injection ea_ with ea_ en_ ec_; subst ea_; subst ec_; clear en_) | (go_at_call 74; (with_reducible refine (spec_l1Same.calls k _ _ ((Ab0 l0 0).f1) _ _ ((Ab0 l1 0).f1) t508 _ ?side1 ?side2 ?side3 ?side4 A7.out).mono ?_); (case side1 => repeat (first | exact HR505_1.out | (with_reducible refine Kd.C_alloc ?_ _) | (with_reducible refine Kd.C_drewN ?_ _) | (with_reducible refine Kd.C_drew ?_))); (case side2 => exact HC505_1.out); (case side3 => repeat (first | exact HR507_1.out | (with_reducible refine Kd.C_alloc ?_ _) | (with_reducible refine Kd.C_drewN ?_ _) | (with_reducible refine Kd.C_drew ?_))); (case side4 => exact HC507_1.out); rintro e w' ⟨rfl, ⟨nd, rfl⟩⟩; (try first | exact ⟨rfl, _, World.drewN_drewN _ _ _⟩ | exact ⟨rfl, _, Eq.trans (World.drewN_drewN _ _ _) (congrArg (World.drewN _) (Nat.add_assoc _ _ _))⟩))))
    go_ret
    exact ⟨by first | rfl | (simp; done) | (simp [*]; done), by repeat (first | exact Drawn0.refl _ | apply Drawn0.step)⟩
   ·replace c6 := Bool.eq_false_iff.mpr c6
    subst c6
    have H1 : (some false) = some r := by rw [if_neg (show ¬ (false = true) by decide)] at H; exact H
    clear H
    have H := H1
    clear H1
    obtain rfl := Option.some.inj H
    have p499 : 0 ≤ (0 : Int) := (by omega)
    have q499 : 0 < (l0.length : Int) := of_decide_eq_true (by first | (with_reducible assumption) | assumption)
    obtain ⟨ad499, A499_0, c499_0, A499_1, c499_1, e499, hx499_0, hx499_1, hl499_0, hi499_0, hl499_1, hi499_1⟩ := Af0 HR0.out 0 p499 q499
    cases e499
    have qi499 : (0 < l0.length) = True := eq_true (by omega)
    (try rw [show ((0 : Int)).toNat = 0 from rfl] at hx499_0)
    (try rw [show 0 * 2 = 0 from rfl] at hx499_0)
    (try rw [Addr.add_zero'] at hx499_0)
    (try rw [show ((0 : Int)).toNat = 0 from rfl] at hx499_1)
    (try rw [show 0 * 2 = 0 from rfl] at hx499_1)
    (try rw [Addr.add_zero'] at hx499_1)
    have HR499_0 := Aside0.mk hi499_0
    have HC499_0 := Aside0.mk hl499_0
    clear hi499_0 hl499_0
    have HR499_1 := Aside0.mk hi499_1
    have HC499_1 := Aside0.mk hl499_1
    clear hi499_1 hl499_1
    replace p499 := eq_true p499
    replace q499 := eq_true q499
    have p500 : 0 ≤ (0 : Int) := (by omega)
    have q500 : 0 < (l0.length : Int) := of_decide_eq_true (by first | (with_reducible assumption) | assumption)
    obtain ⟨ad500, A500_0, c500_0, A500_1, c500_1, e500, hx500_0, hx500_1, hl500_0, hi500_0, hl500_1, hi500_1⟩ := Af0 HR0.out 0 p500 q500
    obtain rfl : ad499 = ad500 := (by injection e500)
    have qi500 : (0 < l0.length) = True := eq_true (by omega)
    (try rw [show ((0 : Int)).toNat = 0 from rfl] at hx500_0)
    (try rw [show 0 * 2 = 0 from rfl] at hx500_0)
    (try rw [Addr.add_zero'] at hx500_0)
    (try rw [show ((0 : Int)).toNat = 0 from rfl] at hx500_1)
    (try rw [show 0 * 2 = 0 from rfl] at hx500_1)
    (try rw [Addr.add_zero'] at hx500_1)
    have HR500_0 := Aside0.mk hi500_0
    have HC500_0 := Aside0.mk hl500_0
    clear hi500_0 hl500_0
    have HR500_1 := Aside0.mk hi500_1
    have HC500_1 := Aside0.mk hl500_1
    clear hi500_1 hl500_1
    replace p500 := eq_true p500
    replace q500 := eq_true q500
    have ea_ := Option.some.inj (hx499_0.symm.trans hx500_0)
    injection ea_ with ea_ en_ ec_
    subst ea_
    subst ec_
    clear en_
    have ea_ := Option.some.inj (hx499_1.symm.trans hx500_1)
    injection ea_ with ea_ en_ ec_
    subst ea_
    subst ec_
    clear en_
    have p501 : 0 ≤ (0 : Int) := (by omega)
    have q501 : 0 < (l1.length : Int) := of_decide_eq_true (by first | (with_reducible assumption) | assumption)
    obtain ⟨ad501, A501_0, c501_0, A501_1, c501_1, e501, hx501_0, hx501_1, hl501_0, hi501_0, hl501_1, hi501_1⟩ := Af0 HR1.out 0 p501 q501
    cases e501
    have qi501 : (0 < l1.length) = True := eq_true (by omega)
    (try rw [show ((0 : Int)).toNat = 0 from rfl] at hx501_0)
    (try rw [show 0 * 2 = 0 from rfl] at hx501_0)
    (try rw [Addr.add_zero'] at hx501_0)
    (try rw [show ((0 : Int)).toNat = 0 from rfl] at hx501_1)
    (try rw [show 0 * 2 = 0 from rfl] at hx501_1)
    (try rw [Addr.add_zero'] at hx501_1)
    have HR501_0 := Aside0.mk hi501_0
    have HC501_0 := Aside0.mk hl501_0
    clear hi501_0 hl501_0
    have HR501_1 := Aside0.mk hi501_1
    have HC501_1 := Aside0.mk hl501_1
    clear hi501_1 hl501_1
    replace p501 := eq_true p501
    replace q501 := eq_true q501
    have p502 : 0 ≤ (0 : Int) := (by omega)
    have q502 : 0 < (l1.length : Int) := of_decide_eq_true (by first | (with_reducible assumption) | assumption)
    obtain ⟨ad502, A502_0, c502_0, A502_1, c502_1, e502, hx502_0, hx502_1, hl502_0, hi502_0, hl502_1, hi502_1⟩ := Af0 HR1.out 0 p502 q502
    obtain rfl : ad501 = ad502 := (by injection e502)
    have qi502 : (0 < l1.length) = True := eq_true (by omega)
    (try rw [show ((0 : Int)).toNat = 0 from rfl] at hx502_0)
    (try rw [show 0 * 2 = 0 from rfl] at hx502_0)
    (try rw [Addr.add_zero'] at hx502_0)
    (try rw [show ((0 : Int)).toNat = 0 from rfl] at hx502_1)
    (try rw [show 0 * 2 = 0 from rfl] at hx502_1)
    (try rw [Addr.add_zero'] at hx502_1)
    have HR502_0 := Aside0.mk hi502_0
    have HC502_0 := Aside0.mk hl502_0
    clear hi502_0 hl502_0
    have HR502_1 := Aside0.mk hi502_1
    have HC502_1 := Aside0.mk hl502_1
    clear hi502_1 hl502_1
    replace p502 := eq_true p502
    replace q502 := eq_true q502
    have ea_ := Option.some.inj (hx501_0.symm.trans hx502_0)
    injection ea_ with ea_ en_ ec_
    subst ea_
    subst ec_
    clear en_
    have ea_ := Option.some.inj (hx501_1.symm.trans hx502_1)
    injection ea_ with ea_ en_ ec_
    subst ea_
    subst ec_
    clear en_
    go_enter Tryz.func41, Tryz.ntmps41
    go_wp2_with (first | (go_at_call 74; (with_reducible refine (spec_l1Same.calls k _ _ ((Ab0 l0 0).f0) _ _ ((Ab0 l1 0).f0) false _ ?side1 ?side2 ?side3 ?side4 A5.out).mono ?_); (case side1 => repeat (first | exact HR500_0.out | (with_reducible refine Kd.C_alloc ?_ _) | (with_reducible refine Kd.C_drewN ?_ _) | (with_reducible refine Kd.C_drew ?_))); (case side2 => exact HC500_0.out); (case side3 => repeat (first | exact HR502_0.out | (with_reducible refine Kd.C_alloc ?_ _) | (with_reducible refine Kd.C_drewN ?_ _) | (with_reducible refine Kd.C_drew ?_))); (case side4 => exact HC502_0.out); rintro e w' ⟨rfl, ⟨nd, rfl⟩⟩; (try first | exact ⟨rfl, _, World.drewN_drewN _ _ _⟩ | exact ⟨rfl, _, Eq.trans (World.drewN_drewN _ _ _) (congrArg (World.drewN _) (Nat.add_assoc _ _ _))⟩)))
    repeat (go_quiet (first | (go_at_call 74; (with_reducible refine (spec_l1Same.calls k _ _ ((Ab0 l0 0).f0) _ _ ((Ab0 l1 0).f0) false _ ?side1 ?side2 ?side3 ?side4 A5.out).mono ?_); (case side1 => repeat (first | exact HR500_0.out | (with_reducible refine Kd.C_alloc ?_ _) | (with_reducible refine Kd.C_drewN ?_ _) | (with_reducible refine Kd.C_drew ?_))); (case side2 => exact HC500_0.out); (case side3 => repeat (first | exact HR502_0.out | (with_reducible refine Kd.C_alloc ?_ _) | (with_reducible refine Kd.C_drewN ?_ _) | (with_reducible refine Kd.C_drew ?_))); (case side4 => exact HC502_0.out); rintro e w' ⟨rfl, ⟨nd, rfl⟩⟩; (try first | exact ⟨rfl, _, World.drewN_drewN _ _ _⟩ | exact ⟨rfl, _, Eq.trans (World.drewN_drewN _ _ _) (congrArg (World.drewN _) (Nat.add_assoc _ _ _))⟩))); try go_wp2_with (first | (go_at_call 74; (with_reducible refine (spec_l1Same.calls k _ _ ((Ab0 l0 0).f0) _ _ ((Ab0 l1 0).f0) false _ ?side1 ?side2 ?side3 ?side4 A5.out).mono ?_); (case side1 => repeat (first | exact HR500_0.out | (with_reducible refine Kd.C_alloc ?_ _) | (with_reducible refine Kd.C_drewN ?_ _) | (with_reducible refine Kd.C_drew ?_))); (case side2 => exact HC500_0.out); (case side3 => repeat (first | exact HR502_0.out | (with_reducible refine Kd.C_alloc ?_ _) | (with_reducible refine Kd.C_drewN ?_ _) | (with_reducible refine Kd.C_drew ?_))); (case side4 => exact HC502_0.out); rintro e w' ⟨rfl, ⟨nd, rfl⟩⟩; (try first | exact ⟨rfl, _, World.drewN_drewN _ _ _⟩ | exact ⟨rfl, _, Eq.trans (World.drewN_drewN _ _ _) (congrArg (World.drewN _) (Nat.add_assoc _ _ _))⟩))))
    go_ret
    exact ⟨by first | rfl | (simp; done) | (simp [*]; done), by repeat (first | exact Drawn0.refl _ | apply Drawn0.step)⟩
  ·rw [if_neg c4] at H
   exact absurd H (by simp)
 ·rw [if_neg c3] at H
  exact absurd H (by simp)

end Go.Proofs.YtbdpnkpienpnaaaGreatDoor.P
