/- A part of the proof of the law FnNodes. -/
import Derived.Laws.StructEq
import Derived.Test.YtcanokiehjjbgaaDoorCFnNodes0
import Derived.Test.YtcanokiehjjbgaaDoorCFnNodes1
import Derived.Test.YtcanokiehjjbgaaDoorCFnNodes2
import Derived.Test.YtcanokiehjjbgaaDoorCFnNodes3
import Derived.Test.YtcanokiehjjbgaaDoorCFnNodes4
import Derived.Test.YtcanokiehjjbgaaDoorCFnNodes5
import Derived.Test.YtcanokiehjjbgaaDoorCFnNodes6
import Derived.Test.YtcanokiehjjbgaaDoorCFnNodes15
namespace Go.Proofs.YtcanokiehjjbgaaDoor.P
open Go.RowKit Go.Proofs.YtcanokiehjjbgaaDoorW.PrintWords Go.Proofs.YtcanokiehjjbgaaDoorW.PrintLast Go.Proofs.YtcanokiehjjbgaaDoorW.PrintMore
attribute [local go_sem] max2_int min2_int max_two min_two max_three min_three max_four min_four   -- for this text's walks alone
set_option linter.unusedVariables false
set_option linter.unusedSimpArgs false
def spec_l3One.f (k : Nat) (l0 : List Int) : Option ((List (S110)) × List Int × List Int × Int) := (spec_l1Source.f l0).bind fun bt268 => ((spec_l2Bent.f k bt268.1 bt268.2).bind fun bt271 => ((spec_l1Pick.f bt268.1 bt271.2 (([3, 6, 10, 16, 24] : List Int))).bind fun bt279 => ((spec_l1Pick.f bt268.1 bt279.2 (([0, 3, 6, 12] : List Int))).bind fun bt284 => ((spec_l3BentTerm.f k bt268.1 bt284.2 [(⟨bt271.1⟩ : S26)] bt279.1 bt284.1).bind fun bt286 => (some (bt271.1, bt286.1, bt268.1, bt286.2))))))
def spec_l3One.T3 : Bool × List (List Nat × List Nat) := (true, [([], []), ([], []), ([], []), ([], []), ([2, 3], [2, 3]), ([], []), ([], []), ([5, 6, 4], [5, 6]), ([1, 4, 7, 7], [1, 4, 7]), ([], []), ([0, 8, 0], [0]), ([8, 10, 0, 1, 2, 3, 4, 5, 6, 7, 8, 10], [8]), ([9, 11, 0, 1, 2, 3, 4, 5, 6, 7, 8, 9, 10, 11], [9])])
def spec_l3One.B3 : List Nat := [0, 0, 0, 0, 12, 0, 0, 124, 254, 0, 511, 1535, 4095]
theorem spec_l3One.tab3 : rtab .any (opsOf Tryd.f75 3) = spec_l3One.T3 := by kernel_rfl
theorem spec_l3One.bits3 : waitsOk spec_l3One.T3.2 spec_l3One.B3 = true := by kernel_rfl
set_option maxHeartbeats 8000000 in
set_option maxRecDepth 100000 in
theorem spec_l3One.calls (k : Nat) (A0 : Option Addr) (c0 : Nat) (l0 : List Int) (r1 : List (S110)) (r2 : List Int) (r3 : List Int) (r4 : Int) (w0 w : World) (hB : Below w0.heap.size w0 w) (hr0 : Kd.C (Kd.int .u8) w0 A0 l0.length l0) (hc0 : l0.length ≤ c0) (h : spec_l3One.f k l0 = some (r1, r2, r3, r4)) :
  Calls Tryd.prog 75 #[.slice A0 l0.length c0] w fun e w' => ∃ v0_ v1_ : Value, ∃ g_ : Nat, e = .returned (.tuple #[.agg #[v0_], v1_, .pointer (some ⟨g_, 0, none⟩)]) ∧ Kd.R k110 110 w' w.heap.size (fun _ => True) v0_ r1 ∧ Kd.R (Kd.int .i64) 2 w' w.heap.size (fun _ => True) v1_ r2 ∧ IsS145 w0 w' g_ r3 r4 ∧ Below w0.heap.size w0 w' ∧ Below w.heap.size w w' ∧ w.heap.size ≤ g_ := by
 have hu26 := Tryd.underlying26
 have HR0 := am hr0
 have HC0 := am hc0
 clear hr0 hc0
 have HB0 := am hB
 clear hB
 have HB := am (Below.refl w.heap.size w)
 have H : ((spec_l1Source.f l0).bind fun bt268 => ((spec_l2Bent.f k bt268.1 bt268.2).bind fun bt271 => ((spec_l1Pick.f bt268.1 bt271.2 (([3, 6, 10, 16, 24] : List Int))).bind fun bt279 => ((spec_l1Pick.f bt268.1 bt279.2 (([0, 3, 6, 12] : List Int))).bind fun bt284 => ((spec_l3BentTerm.f k bt268.1 bt284.2 [(⟨bt271.1⟩ : S26)] bt279.1 bt284.1).bind fun bt286 => (some (bt271.1, bt286.1, bt268.1, bt286.2))))))) = some (r1, r2, r3, r4) := h
 clear h
 replace H := Option.bind_eq_some_iff.mp H
 obtain ⟨⟨t268, t269⟩, A20, H⟩ := H
 replace H : ((spec_l2Bent.f k t268 t269).bind fun bt271 => ((spec_l1Pick.f t268 bt271.2 (([3, 6, 10, 16, 24] : List Int))).bind fun bt279 => ((spec_l1Pick.f t268 bt279.2 (([0, 3, 6, 12] : List Int))).bind fun bt284 => ((spec_l3BentTerm.f k t268 bt284.2 [(⟨bt271.1⟩ : S26)] bt279.1 bt284.1).bind fun bt286 => (some (bt271.1, bt286.1, t268, bt286.2)))))) = some (r1, r2, r3, r4) := H
 have A2 := am A20
 clear A20
 replace H := Option.bind_eq_some_iff.mp H
 obtain ⟨⟨t271, t274⟩, A30, H⟩ := H
 replace H : ((spec_l1Pick.f t268 t274 (([3, 6, 10, 16, 24] : List Int))).bind fun bt279 => ((spec_l1Pick.f t268 bt279.2 (([0, 3, 6, 12] : List Int))).bind fun bt284 => ((spec_l3BentTerm.f k t268 bt284.2 [(⟨t271⟩ : S26)] bt279.1 bt284.1).bind fun bt286 => (some (t271, bt286.1, t268, bt286.2))))) = some (r1, r2, r3, r4) := H
 have A3 := am A30
 clear A30
 obtain ⟨y276, hy276⟩ : ∃ y_ : List Int, y_ = (([3, 6, 10, 16, 24] : List Int)) := ⟨_, rfl⟩
 replace H : ((spec_l1Pick.f t268 t274 y276).bind fun bt279 => ((spec_l1Pick.f t268 bt279.2 (([0, 3, 6, 12] : List Int))).bind fun bt284 => ((spec_l3BentTerm.f k t268 bt284.2 [(⟨t271⟩ : S26)] bt279.1 bt284.1).bind fun bt286 => (some (t271, bt286.1, t268, bt286.2))))) = some (r1, r2, r3, r4) := by first | (rw [hy276]; with_reducible exact H) | (have H2_ := (Option.bind_some _ _).symm.trans H; rw [hy276]; with_reducible exact H2_) | (have H2_ := (Option.bind_some _ _).symm.trans H; with_reducible exact H2_) | with_reducible exact H | (rw [hy276]; exact H) | exact H
 have Ny276 := am hy276
 clear hy276
 replace H := Option.bind_eq_some_iff.mp H
 obtain ⟨⟨t279, t280⟩, A40, H⟩ := H
 replace H : ((spec_l1Pick.f t268 t280 (([0, 3, 6, 12] : List Int))).bind fun bt284 => ((spec_l3BentTerm.f k t268 bt284.2 [(⟨t271⟩ : S26)] t279 bt284.1).bind fun bt286 => (some (t271, bt286.1, t268, bt286.2)))) = some (r1, r2, r3, r4) := H
 have A4 := am A40
 clear A40
 obtain ⟨y281, hy281⟩ : ∃ y_ : List Int, y_ = (([0, 3, 6, 12] : List Int)) := ⟨_, rfl⟩
 replace H : ((spec_l1Pick.f t268 t280 y281).bind fun bt284 => ((spec_l3BentTerm.f k t268 bt284.2 [(⟨t271⟩ : S26)] t279 bt284.1).bind fun bt286 => (some (t271, bt286.1, t268, bt286.2)))) = some (r1, r2, r3, r4) := by first | (rw [hy281]; with_reducible exact H) | (have H2_ := (Option.bind_some _ _).symm.trans H; rw [hy281]; with_reducible exact H2_) | (have H2_ := (Option.bind_some _ _).symm.trans H; with_reducible exact H2_) | with_reducible exact H | (rw [hy281]; exact H) | exact H
 have Ny281 := am hy281
 clear hy281
 replace H := Option.bind_eq_some_iff.mp H
 obtain ⟨⟨t284, t285⟩, A50, H⟩ := H
 replace H : ((spec_l3BentTerm.f k t268 t285 [(⟨t271⟩ : S26)] t279 t284).bind fun bt286 => (some (t271, bt286.1, t268, bt286.2))) = some (r1, r2, r3, r4) := H
 have A5 := am A50
 clear A50
 replace H := Option.bind_eq_some_iff.mp H
 obtain ⟨⟨t286, t289⟩, A60, H⟩ := H
 replace H : (some (t271, t286, t268, t289)) = some (r1, r2, r3, r4) := H
 have A6 := am A60
 clear A60
 simp only [Option.some.injEq, Prod.mk.injEq] at H
 obtain ⟨rfl, rfl, rfl, rfl⟩ := H
 go_enter Tryd.func75, Tryd.ntmps75
 try go_wp2_with (first | ((with_reducible refine gate_dst (N := 2) rfl ?_); refine box_event ?hg (N := 2) ?hd (cs := #[.slice none 0 0]) (t := 26) ?hr ?_; (case hd => rfl); (case hg => rfl); (case hr => first | (go_simp; done) | (go_simp; rfl)); intro gb267 hg w7 hbox hb; have n0_ := am (below_step (hq HB.out) hb); have n1_ := am (hbox); have n2_ := am (bz hg (hq HB.out)); have n3_ := n2_; clear HB; revert n0_ n1_ n2_ n3_; intro HB BK267 GW267 GE267; clear hb hbox hg) | ((with_reducible refine gate_callee (f := 106) rfl ?_); refine goesL_ (some 8) rfl rfl Tryd.func106 (by kernel_rfl) rfl #[.slice A0 l0.length c0] rfl el ?_; (with_reducible refine (spec_l1Source.calls _ _ l0 t268 t269 w0 _ ?side1 ?side2 ?side3 A2.out).mono ?_); (case side1 => exact below_step HB0.out (hs HB.out)); (case side2 => exact HR0.out); (case side3 => exact HC0.out); rintro e w8 ⟨g270, rfl, hi, hb, hb2, hgw⟩; refine ⟨_, rfl, ?_⟩; have n0_ := am (blk_below (bq BK267.out) hb2); have n1_ := am (below_step (hs HB.out) hb2); have n2_ := am (hi); have n3_ := am (Nat.le_trans (below_size (hs HB.out)) hgw); have n4_ := am (IsS145.ne_blk hi (blk_below (bq BK267.out) hb2) (by decide)); have n5_ := am (Ne.symm (IsS145.ne_blk hi (blk_below (bq BK267.out) hb2) (by decide))); clear BK267 HB; revert n0_ n1_ n2_ n3_ n4_ n5_; intro BK267 HB HI270 GS270 NB270_267 NB267_270; (try clear hb); (try clear hb2); (try clear hgw); (try clear hk); (try clear hi)) | ((with_reducible refine gate_callee (f := 107) rfl ?_); refine goesL_ (some 10) rfl rfl Tryd.func107 (by kernel_rfl) rfl #[.pointer (some ⟨g270, 0, none⟩)] rfl el ?_; (with_reducible refine (spec_l2Bent.calls k g270 t268 t269 t271 t274 w0 _ ?side1 ?side2 A3.out).mono ?_); (case side1 => exact IsS145.q HI270.out); (case side2 => exact below_step HB0.out (hsk HB.out (IsS145.ge HI270.out))); rintro e w9 ⟨v272, rfl, ho0, hi, hb, hk⟩; refine ⟨_, rfl, ?_⟩; have n0_ := am (KeepBut.blk hk (g' := gb267) (o := .cells #[.slice none 0 0] 26 (0, 0)) (bq BK267.out) NB267_270.out (by simp)); have n1_ := am (Kd.R_lower ho0 (below_size (hsk HB.out (IsS145.ge HI270.out)))); have n2_ := am (below_keep HB0.out (hsk HB.out (IsS145.ge HI270.out)) hk GS270.out hb); have n3_ := am (hi); clear BK267 HB HI270; revert n0_ n1_ n2_ n3_; intro BK267 HO273 HB HI270; (try clear hb); (try clear hb2); (try clear hgw); (try clear hk); (try clear hi); (try clear ho0)) | ((with_reducible refine gate_dst (N := 6) rfl ?_); refine box_event ?hg (N := 6) ?hd (cs := #[.slice none 0 0]) (t := 26) ?hr ?_; (case hd => rfl); (case hg => rfl); (case hr => first | (go_simp; done) | (go_simp; rfl)); intro gb275 hg w10 hbox hb; have n0_ := am (Kd.R_below (rq HO273.out) hb); have n1_ := am (blk_below (bq BK267.out) hb); have n2_ := am (IsS145.below (IsS145.q HI270.out) hb); have n3_ := am (below_step (hsk HB.out (IsS145.ge HI270.out)) hb); have n4_ := am (hbox); have n5_ := am (bz hg (hsk HB.out (IsS145.ge HI270.out))); have n6_ := n5_; have n7_ := am ((by rw [hg]; exact Nat.ne_of_lt (blk_lt (bq BK267.out)) : gb267 ≠ gb275)); have n8_ := am ((by rw [hg]; exact Nat.ne_of_gt (blk_lt (bq BK267.out)) : gb275 ≠ gb267)); have n9_ := am ((by rw [hg]; exact Nat.ne_of_lt (IsS145.lt (show IsS145 w0 _ g270 t268 t274 from by exact IsS145.q HI270.out)) : g270 ≠ gb275)); have n10_ := am n9_.out.symm; clear HO273 BK267 HI270 HB; revert n0_ n1_ n2_ n3_ n4_ n5_ n6_ n7_ n8_ n9_ n10_; intro HO273 BK267 HI270 HB BK275 GW275 GE275 NB267_275 NB275_267 NB270_275 NB275_270; clear hb hbox hg; obtain ⟨Ao11, co11, eo11⟩ := Kd.R_slice HO273.out; subst eo11; have hnb12 := NB275_267.out; have hnc12 := NB267_275.out; have hnb13 := NB275_270.out; have hnc13 := NB270_275.out; have hcz14_0 : w10.cell? ⟨gb275, 0, none⟩ = some (.slice none 0 0) := (blk_cell BK275.out 0).trans rfl; have hfz14_0 := blk_frozen BK275.out 0))
 have n0_ : Aside0 (Kd.R k110 110 (w10.setCell ⟨gb275, 0, none⟩ (.slice Ao11 t271.length co11)) w.heap.size (fun _ => True) (.slice Ao11 t271.length co11) t271) := ⟨by (with_reducible repeat (first | apply Kd.R_alloc | apply Kd.R_drewN | apply Kd.R_drew)); exact Kd.R_mono (Kd.R_far (p := ⟨gb275, 0, none⟩) (Kd.R_types HO273.out BK275.out (by decide)) (fun _ hk => hk.2) (.slice Ao11 t271.length co11)) (fun _ hk => trivial)⟩
 have n1_ : Aside0 ((w10.setCell ⟨gb275, 0, none⟩ (.slice Ao11 t271.length co11)).heap[gb267]? = some (.cells #[.slice none 0 0] 26 (0, 0))) := ⟨by refine bq ?_; refine blk_far ?_ NB267_275.out _; refine bq ?_; exact BK267.out⟩
 have n2_ : Aside0 ((w10.setCell ⟨gb275, 0, none⟩ (.slice Ao11 t271.length co11)).heap[gb275]? = some (.cells #[.slice Ao11 t271.length co11] 26 (0, 0))) := ⟨by refine bq ?_; refine blk_put (cs := #[.slice none 0 0]) ?_ 0 _ rfl; refine bq ?_; exact BK275.out⟩
 have n3_ : Aside0 (IsS145 w0 (w10.setCell ⟨gb275, 0, none⟩ (.slice Ao11 t271.length co11)) g270 t268 t274) := ⟨by exact IsS145.q HI270.out⟩
 have n4_ : Aside0 (Below w.heap.size w (w10.setCell ⟨gb275, 0, none⟩ (.slice Ao11 t271.length co11))) := ⟨by exact hsk HB.out (IsS145.ge HI270.out)⟩
 (try clear HO273)
 (try clear BK267)
 (try clear BK275)
 (try clear HI270)
 (try clear HB)
 (try simp only [Go.IntKind.wrap_u8])
 generalize (w10.setCell ⟨gb275, 0, none⟩ (.slice Ao11 t271.length co11)) = w15 at n0_ n1_ n2_ n3_ n4_ ⊢
 have HO273 := n0_
 have BK267 := n1_
 have BK275 := n2_
 have HI270 := n3_
 have HB := n4_
 clear n0_ n1_ n2_ n3_ n4_
 have n0_ := am (Kd.R_drew HO273.out)
 have n1_ := am (blk_drew BK267.out)
 have n2_ := am (blk_drew BK275.out)
 have n3_ := am (IsS145.drew HI270.out)
 have n4_ := am (below_drew1 HB.out)
 clear HO273
 clear BK267
 clear BK275
 clear HI270
 clear HB
 have HO273 := n0_
 have BK267 := n1_
 have BK275 := n2_
 have HI270 := n3_
 have HB := n4_
 clear n0_ n1_ n2_ n3_ n4_
 refine start_ (n := 13) (S := fun w' => True) (ds := []) #[false, false, false, false, false, false, false, false, false, false, false, false, false] (by kernel_rfl) rfl rfl trivial (fun hHeld => ?_); refine with_tabW spec_l3One.tab3 spec_l3One.bits3 (fun HT_ HW_ => ?_)
 generalize w15.drew = w16 at HO273 BK267 BK275 HI270 HB hHeld ⊢
 refine pure_ (i := 1) (N := some 12) (v := ?_) (a' := ?_) #[false, true, false, false, false, false, false, false, false, false, false, false, false] rfl rfl (any_of HT_.out (by kernel_rfl)) (fun _ _ _ h => h) (Or.inl ⟨by rfl, ?_⟩) ?_ ?_
 rotate_left
 ·intro w'
  go_simp
  with_reducible rfl
 rotate_left
 ·simp only [Act.put, lsp, i64_w, i32_w]
  rfl
 refine pure_ (i := 2) (N := some 13) (v := ?_) (a' := ?_) #[false, true, true, false, false, false, false, false, false, false, false, false, false] rfl rfl (any_of HT_.out (by kernel_rfl)) (fun _ _ _ h => h) (Or.inl ⟨by rfl, ?_⟩) ?_ ?_
 rotate_left
 ·intro w'
  go_simp
  with_reducible rfl
 rotate_left
 ·simp only [Act.put, lsp, i64_w, i32_w]
  rfl
 refine pure_ (i := 5) (N := some 16) (v := ?_) (a' := ?_) #[false, true, true, false, false, true, false, false, false, false, false, false, false] rfl rfl (any_of HT_.out (by kernel_rfl)) (fun _ _ _ h => h) (Or.inl ⟨by rfl, ?_⟩) ?_ ?_
 rotate_left
 ·intro w'
  go_simp
  with_reducible rfl
 rotate_left
 ·simp only [Act.put, lsp, i64_w, i32_w]
  rfl
 refine pure_ (i := 9) (N := some 20) (v := ?_) (a' := ?_) #[false, true, true, false, false, true, false, false, false, true, false, false, false] rfl rfl (any_of HT_.out (by kernel_rfl)) (fun _ _ _ h => h) (Or.inl ⟨by rfl, ?_⟩) ?_ ?_
 rotate_left
 ·intro w'
  go_simp
  with_reducible rfl
 rotate_left
 ·simp only [Act.put, lsp, i64_w, i32_w]
  rfl
 refine inv_at [0, 3, 4, 6, 7, 8, 10, 11, 12] (fun a0_ b a w' => ∃ (v277 : Value) (v282 : Value) (v287 : Value) (m11_ : Value), a = putSel a0_ b [(0, 11, .agg #[.slice Ao11 t271.length co11]), (3, 14, v277), (4, 15, .int .i64 t279), (6, 17, v282), (7, 18, .int .i64 t284), (8, 19, v287), (11, 3, m11_), (12, 4, .pointer (some ⟨g270, 0, none⟩))] ∧ (Kd.R k110 110 w' w.heap.size (fun _ => True) (.slice Ao11 t271.length co11) t271) ∧ (b 10 = false → w'.heap[gb267]? = some (.cells #[.slice none 0 0] 26 (0, 0))) ∧ (w'.heap[gb275]? = some (.cells #[.slice Ao11 t271.length co11] 26 (0, 0))) ∧ (b 4 = false → IsS145 w0 w' g270 t268 t274) ∧ (Below w.heap.size w w') ∧ (b 3 = true → Kd.R (Kd.int .i64) 2 w' w.heap.size (fun _ => True) v277 y276) ∧ (b 4 = true → b 7 = false → IsS145 w0 w' g270 t268 t280) ∧ (b 6 = true → Kd.R (Kd.int .i64) 2 w' w.heap.size (fun _ => True) v282 y281) ∧ (b 7 = true → b 8 = false → IsS145 w0 w' g270 t268 t285) ∧ (b 8 = true → Kd.R (Kd.int .i64) 2 w' w.heap.size (fun _ => True) v287 t286) ∧ (b 8 = true → IsS145 w0 w' g270 t268 t289) ∧ (b 10 = true → w'.heap[gb267]? = some (.cells #[.slice Ao11 t271.length co11] 26 (0, 0))) ∧ (b 11 = true → (m11_ : Value) = v287)) HT_.out HW_.out (by kernel_rfl) (by kernel_rfl) ?_ ?_ ?_
 ·exact ⟨.bool false, .bool false, .bool false, .bool false, by simp only [putSel, Bool.false_eq_true, if_false], HO273.out, fun _ => BK267.out, BK275.out, fun _ => HI270.out, HB.out, fun h_ => absurd h_ (by decide), fun h_ => absurd h_ (by decide), fun h_ => absurd h_ (by decide), fun h_ => absurd h_ (by decide), fun h_ => absurd h_ (by decide), fun h_ => absurd h_ (by decide), fun h_ => absurd h_ (by decide), fun h_ => absurd h_ (by decide)⟩
 ·skip
  clear BK267 BK275 HB HI270 HO273
  refine steps_cons ?_ ?_
  ·rintro b a w' ⟨v277, v282, v287, m11_, ha, Q_HO273, Q_BK267, Q_BK275, Q_HI270, Q_HB, Q_HO278, Q_HI270_e4, Q_HO283, Q_HI270_e7, Q_HO288, Q_HI270_e8, Q_BK267_e10, Q_X11_⟩ hb_ hon hoff
   refine ⟨_, rfl, fun K hK => ?_⟩
   have e6 : a.tmps[6]? = some (.pointer (some ⟨gb275, 0, none⟩)) := by rw [ha]; exact (putSel_off rfl).trans rfl
   replace ha := am ha
   have HO273 := am Q_HO273
   have BK267 := am (Q_BK267 (hoff 10 (by kernel_rfl)))
   have BK275 := am Q_BK275
   have HB := am Q_HB
   have hc0_ : w'.cell? ⟨gb275, 0, none⟩ = some (.slice Ao11 t271.length co11) := (blk_cell BK275.out 0).trans rfl
   refine value_ (w1 := w') (v := .agg #[.slice Ao11 t271.length co11]) (by rfl) rfl ?_ ?_
   ·go_simp
    (try simp only [i64_w])
    try rfl
   refine hK.out _ _ ⟨v277, v282, v287, m11_, (by rw [ha.out]; exact putSel_upk 0 hb_ rfl rfl rfl), Q_HO273, Q_BK267, Q_BK275, Q_HI270, Q_HB, Q_HO278, Q_HI270_e4, Q_HO283, Q_HI270_e7, Q_HO288, Q_HI270_e8, fun h0_ => absurd ((hoff 10 (by kernel_rfl)).symm.trans h0_) (by decide), fun h0_ => absurd ((hoff 11 (by kernel_rfl)).symm.trans h0_) (by decide)⟩
  refine steps_cons ?_ ?_
  ·rintro b a w' ⟨v277, v282, v287, m11_, ha, Q_HO273, Q_BK267, Q_BK275, Q_HI270, Q_HB, Q_HO278, Q_HI270_e4, Q_HO283, Q_HI270_e7, Q_HO288, Q_HI270_e8, Q_BK267_e10, Q_X11_⟩ hb_ hon hoff
   refine ⟨_, rfl, fun K hK => ?_⟩
   replace ha := am ha
   have HO273 := am Q_HO273
   have BK267 := am (Q_BK267 (hoff 10 (by kernel_rfl)))
   have BK275 := am Q_BK275
   have HI270 := am (Q_HI270 (hoff 4 (by kernel_rfl)))
   have HB := am Q_HB
   refine Kd.R_lit_step (Kd.int .i64) _ 2 ?hg (N := 14) ?hd (xs := ([3, 6, 10, 16, 24] : List Int)) (inner := [.int .i64 3, .int .i64 6, .int .i64 10, .int .i64 16, .int .i64 24]) (ok := fun _ => True) (okp := fun _ => True) ?hr ?hp (fun _ hk => hk) trivial (Below.refl _ _) (Nat.le_refl _) (by simp) ?_; (case hd => rfl); (case hg => rfl); (case hr => first | (go_simp; done) | (go_simp; rfl)); (case hp => exact (Reps.one (show Kd.M (Kd.int .i64) _ _ _ 3 [.int .i64 3] from rfl) (Reps.one (show Kd.M (Kd.int .i64) _ _ _ 6 [.int .i64 6] from rfl) (Reps.one (show Kd.M (Kd.int .i64) _ _ _ 10 [.int .i64 10] from rfl) (Reps.one (show Kd.M (Kd.int .i64) _ _ _ 16 [.int .i64 16] from rfl) (Reps.one (show Kd.M (Kd.int .i64) _ _ _ 24 [.int .i64 24] from rfl) (Reps.none _ _)))))))
   intro v277 w17 ho18 hb hg_ hnew_
   clear hg_ hnew_
   (first | rw [← Ny276.out] at ho18 | (simp only [Int.reduceToNat] at ho18; rw [← Ny276.out] at ho18))
   have n0_ := am (Kd.R_below (rq HO273.out) hb)
   have n1_ := am (Kd.R_lower ho18 (below_size (hsk HB.out (IsS145.ge HI270.out))))
   have n2_ := am (blk_below (bq BK267.out) hb)
   have n3_ := am (IsS145.below (IsS145.q HI270.out) hb)
   have n4_ := am (blk_below (bq BK275.out) hb)
   have n5_ := am (below_step (hsk HB.out (IsS145.ge HI270.out)) hb)
   have z_HO283 := fun (h0_ : b 6 = true) => (show Kd.R (Kd.int .i64) 2 w17 w.heap.size (fun _ => True) v282 y281 from by first | exact (Kd.R_elder' (by (with_reducible repeat (first | apply Kd.R_alloc | apply Kd.R_drewN | apply Kd.R_drew)); exact (Q_HO283 h0_)) (Kd.R_base ho18) hb) | exact Kd.R_mono (Kd.R_elder' (by (with_reducible repeat (first | apply Kd.R_alloc | apply Kd.R_drewN | apply Kd.R_drew)); exact (Q_HO283 h0_)) (Kd.R_base ho18) hb) (fun _ h_ => by first | trivial | exact h_ | exact h_.1))
   clear HO273
   clear BK267
   clear HI270
   clear BK275
   clear HB
   have HO273 := n0_
   have HO278 := n1_
   have BK267 := n2_
   have HI270 := n3_
   have BK275 := n4_
   have HB := n5_
   clear n0_ n1_ n2_ n3_ n4_ n5_
   clear hb ho18
   refine hK.out _ _ ⟨v277, v282, v287, m11_, (by rw [ha.out]; exact putSel_upk 1 hb_ rfl rfl rfl), (by (with_reducible repeat (first | apply Kd.R_alloc | apply Kd.R_drewN | apply Kd.R_drew)); first | exact HO273.out | exact Kd.R_mono HO273.out (fun _ _ => trivial) | exact Kd.R_mono HO273.out (fun _ hk => hk.1)), fun _ => (bq BK267.out), (bq BK275.out), fun _ => (IsS145.q HI270.out), (hsk HB.out (IsS145.ge HI270.out)), fun _ => (by (with_reducible repeat (first | apply Kd.R_alloc | apply Kd.R_drewN | apply Kd.R_drew)); first | exact HO278.out | exact Kd.R_mono HO278.out (fun _ _ => trivial) | exact Kd.R_mono HO278.out (fun _ hk => hk.1)), fun h0_ _ => absurd ((hoff 4 (by kernel_rfl)).symm.trans h0_) (by decide), z_HO283, fun h0_ _ => absurd ((hoff 7 (by kernel_rfl)).symm.trans h0_) (by decide), fun h0_ => absurd ((hoff 8 (by kernel_rfl)).symm.trans h0_) (by decide), fun h0_ => absurd ((hoff 8 (by kernel_rfl)).symm.trans h0_) (by decide), fun h0_ => absurd ((hoff 10 (by kernel_rfl)).symm.trans h0_) (by decide), fun h0_ => absurd ((hoff 11 (by kernel_rfl)).symm.trans h0_) (by decide)⟩
  refine steps_cons ?_ ?_
  ·rintro b a w' ⟨v277, v282, v287, m11_, ha, Q_HO273, Q_BK267, Q_BK275, Q_HI270, Q_HB, Q_HO278, Q_HI270_e4, Q_HO283, Q_HI270_e7, Q_HO288, Q_HI270_e8, Q_BK267_e10, Q_X11_⟩ hb_ hon hoff
   refine ⟨_, rfl, fun K hK => ?_⟩
   have e13 : a.tmps[13]? = some (.pointer (some ⟨g270, 0, none⟩)) := by rw [ha]; exact (putSel_off rfl).trans rfl
   have e14 : a.tmps[14]? = some (v277) := by rw [ha]; exact putSel_on (e := (3, 14, v277)) 1 rfl rfl (hon 3 (by kernel_rfl)) rfl
   replace ha := am ha
   have HO273 := am Q_HO273
   have BK267 := am (Q_BK267 (hoff 10 (by kernel_rfl)))
   have BK275 := am Q_BK275
   have HI270 := am (Q_HI270 hb_)
   have HB := am Q_HB
   have HO278 := am (Q_HO278 (hon 3 (by kernel_rfl)))
   obtain ⟨Ao20, co20, eo20⟩ := Kd.R_slice HO278.out
   (first | subst eo20 | (injection eo20 with f1_ f2_ f3_; have f4_ := f1_.symm; have f5_ := f3_.symm; clear f1_ f2_ f3_; subst f4_; subst f5_))
   refine goes_ Tryd.func109 (by kernel_rfl) rfl #[.pointer (some ⟨g270, 0, none⟩), .slice Ao20 y276.length co20] (by rfl) rfl rfl (by first | (simp only [List.map_toArray, List.map_cons, List.map_nil, Act.eval, Array.getD_eq_getD_getElem?, Option.getD_some, e13, e14]; done) | (simp only [List.map_toArray, List.map_cons, List.map_nil, Act.eval, Array.getD_eq_getD_getElem?, Option.getD_some, e13, e14]; rfl)) ?_
   with_reducible refine (spec_l1Pick.calls g270 t268 t274 _ _ y276 t279 t280 w0 _ ?side1 ?side2 ?side3 ?side4 ?side5 A4.out).mono ?_
   (case side1 => exact IsS145.q HI270.out)
   (case side2 => exact below_step HB0.out (hsk HB.out (IsS145.ge HI270.out)))
   (case side3 => repeat (first | exact (Kd.R_reads' HO278.out).2.2 | (with_reducible refine Kd.C_alloc ?_ _) | (with_reducible refine Kd.C_drewN ?_ _) | (with_reducible refine Kd.C_drew ?_)))
   (case side4 => exact (Kd.R_reads' HO278.out).2.1)
   (case side5 => exact far_slice (IsS145.own_ne HI270.out HO278.out (by decide)))
   rintro e w21 ⟨rfl, hi, hb, hk⟩
   refine ⟨_, rfl, ?_⟩
   have n0_ := am (KeepBut.blk hk (g' := gb267) (o := .cells #[.slice none 0 0] 26 (0, 0)) (bq BK267.out) NB267_270.out (by simp))
   have n1_ := am (Kd.R_mono (Kd.R_keep (IsS145.apart (show IsS145 w0 _ g270 t268 t274 from by exact IsS145.q HI270.out) (rq HO273.out) (by decide)) hk (fun _ h => h.2)) (fun _ h => h.1))
   have n2_ := am (KeepBut.blk hk (g' := gb275) (o := .cells #[.slice Ao11 t271.length co11] 26 (0, 0)) (bq BK275.out) NB275_270.out (by simp))
   have n3_ := am (Kd.R_mono (Kd.R_keep (IsS145.apart (show IsS145 w0 _ g270 t268 t274 from by exact IsS145.q HI270.out) (rq HO278.out) (by decide)) hk (fun _ h => h.2)) (fun _ h => h.1))
   have n4_ := am (below_keep HB0.out (hsk HB.out (IsS145.ge HI270.out)) hk GS270.out hb)
   have n5_ := am (hi)
   have z_HO283 := fun (h0_ : b 6 = true) => (show Kd.R (Kd.int .i64) 2 w21 w.heap.size (fun _ => True) v282 y281 from by first | exact (Kd.R_mono (Kd.R_keep (IsS145.apart (show IsS145 w0 _ g270 t268 t274 from by exact IsS145.q HI270.out) (by (with_reducible repeat (first | apply Kd.R_alloc | apply Kd.R_drewN | apply Kd.R_drew)); exact (Q_HO283 h0_)) (by decide)) hk (fun _ h => h.2)) (fun _ h => h.1)) | exact Kd.R_mono (Kd.R_mono (Kd.R_keep (IsS145.apart (show IsS145 w0 _ g270 t268 t274 from by exact IsS145.q HI270.out) (by (with_reducible repeat (first | apply Kd.R_alloc | apply Kd.R_drewN | apply Kd.R_drew)); exact (Q_HO283 h0_)) (by decide)) hk (fun _ h => h.2)) (fun _ h => h.1)) (fun _ h_ => by first | trivial | exact h_ | exact h_.1))
   clear BK267
   clear HO273
   clear BK275
   clear HO278
   clear HB
   clear HI270
   have BK267 := n0_
   have HO273 := n1_
   have BK275 := n2_
   have HO278 := n3_
   have HB := n4_
   have HI270 := n5_
   clear n0_ n1_ n2_ n3_ n4_ n5_
   (try clear hb)
   (try clear hb2)
   (try clear hgw)
   (try clear hk)
   (try clear hi)
   refine hK.out _ _ ⟨.slice Ao20 y276.length co20, v282, v287, m11_, (by rw [ha.out]; exact putSel_upk 2 hb_ rfl rfl rfl), (by (with_reducible repeat (first | apply Kd.R_alloc | apply Kd.R_drewN | apply Kd.R_drew)); first | exact HO273.out | exact Kd.R_mono HO273.out (fun _ _ => trivial) | exact Kd.R_mono HO273.out (fun _ hk => hk.1)), fun _ => (bq BK267.out), (bq BK275.out), fun h0_ => absurd ((up_self b 4).symm.trans h0_) (by decide), (hsk HB.out (IsS145.ge HI270.out)), fun _ => (by (with_reducible repeat (first | apply Kd.R_alloc | apply Kd.R_drewN | apply Kd.R_drew)); first | exact HO278.out | exact Kd.R_mono HO278.out (fun _ _ => trivial) | exact Kd.R_mono HO278.out (fun _ hk => hk.1)), fun _ _ => (IsS145.q HI270.out), z_HO283, fun h0_ _ => absurd ((hoff 7 (by kernel_rfl)).symm.trans h0_) (by decide), fun h0_ => absurd ((hoff 8 (by kernel_rfl)).symm.trans h0_) (by decide), fun h0_ => absurd ((hoff 8 (by kernel_rfl)).symm.trans h0_) (by decide), fun h0_ => absurd ((hoff 10 (by kernel_rfl)).symm.trans h0_) (by decide), fun h0_ => absurd ((hoff 11 (by kernel_rfl)).symm.trans h0_) (by decide)⟩
  refine steps_cons ?_ ?_
  ·rintro b a w' ⟨v277, v282, v287, m11_, ha, Q_HO273, Q_BK267, Q_BK275, Q_HI270, Q_HB, Q_HO278, Q_HI270_e4, Q_HO283, Q_HI270_e7, Q_HO288, Q_HI270_e8, Q_BK267_e10, Q_X11_⟩ hb_ hon hoff
   refine ⟨_, rfl, fun K hK => ?_⟩
   replace ha := am ha
   have HO273 := am Q_HO273
   have BK267 := am (Q_BK267 (hoff 10 (by kernel_rfl)))
   have BK275 := am Q_BK275
   have HB := am Q_HB
   refine Kd.R_lit_step (Kd.int .i64) _ 2 ?hg (N := 17) ?hd (xs := ([0, 3, 6, 12] : List Int)) (inner := [.int .i64 0, .int .i64 3, .int .i64 6, .int .i64 12]) (ok := fun _ => True) (okp := fun _ => True) ?hr ?hp (fun _ hk => hk) trivial (Below.refl _ _) (Nat.le_refl _) (by simp) ?_; (case hd => rfl); (case hg => rfl); (case hr => first | (go_simp; done) | (go_simp; rfl)); (case hp => exact (Reps.one (show Kd.M (Kd.int .i64) _ _ _ 0 [.int .i64 0] from rfl) (Reps.one (show Kd.M (Kd.int .i64) _ _ _ 3 [.int .i64 3] from rfl) (Reps.one (show Kd.M (Kd.int .i64) _ _ _ 6 [.int .i64 6] from rfl) (Reps.one (show Kd.M (Kd.int .i64) _ _ _ 12 [.int .i64 12] from rfl) (Reps.none _ _))))))
   intro v282 w17 ho18 hb hg_ hnew_
   clear hg_ hnew_
   (first | rw [← Ny281.out] at ho18 | (simp only [Int.reduceToNat] at ho18; rw [← Ny281.out] at ho18))
   have n0_ := am (Kd.R_below (rq HO273.out) hb)
   have n1_ := am (Kd.R_lower ho18 (below_size (hs HB.out)))
   have n2_ := am (blk_below (bq BK267.out) hb)
   have n4_ := am (blk_below (bq BK275.out) hb)
   have n5_ := am (below_step (hs HB.out) hb)
   have z_HI270 := fun (h0_ : b 4 = false) => (show IsS145 w0 w17 g270 t268 t274 from by first | exact (IsS145.below (by repeat (first | (with_reducible first | exact (Q_HI270 h0_) | apply IsS145.alloc | apply IsS145.drewN | apply IsS145.drew | apply IsS145.set_1 | refine IsS145.far ?_ NB270_267.out _ | refine IsS145.far ?_ NB270_275.out _) | exact (Q_HI270 h0_))) hb))
   have z_HO278 := fun (h0_ : b 3 = true) => (show Kd.R (Kd.int .i64) 2 w17 w.heap.size (fun _ => True) v277 y276 from by first | exact (Kd.R_elder' (by (with_reducible repeat (first | apply Kd.R_alloc | apply Kd.R_drewN | apply Kd.R_drew)); exact (Q_HO278 h0_)) (Kd.R_base ho18) hb) | exact Kd.R_mono (Kd.R_elder' (by (with_reducible repeat (first | apply Kd.R_alloc | apply Kd.R_drewN | apply Kd.R_drew)); exact (Q_HO278 h0_)) (Kd.R_base ho18) hb) (fun _ h_ => by first | trivial | exact h_ | exact h_.1))
   have z_HI270_e4 := fun (h0_ : b 4 = true) (h1_ : b 7 = false) => (show IsS145 w0 w17 g270 t268 t280 from by first | exact (IsS145.below (by repeat (first | (with_reducible first | exact (Q_HI270_e4 h0_ h1_) | apply IsS145.alloc | apply IsS145.drewN | apply IsS145.drew | apply IsS145.set_1 | refine IsS145.far ?_ NB270_267.out _ | refine IsS145.far ?_ NB270_275.out _) | exact (Q_HI270_e4 h0_ h1_))) hb))
   clear HO273
   clear BK267
   clear BK275
   clear HB
   have HO273 := n0_
   have HO283 := n1_
   have BK267 := n2_
   have BK275 := n4_
   have HB := n5_
   clear n0_ n1_ n2_ n4_ n5_
   clear hb ho18
   refine hK.out _ _ ⟨v277, v282, v287, m11_, (by rw [ha.out]; exact putSel_upk 3 hb_ rfl rfl rfl), (by (with_reducible repeat (first | apply Kd.R_alloc | apply Kd.R_drewN | apply Kd.R_drew)); first | exact HO273.out | exact Kd.R_mono HO273.out (fun _ _ => trivial) | exact Kd.R_mono HO273.out (fun _ hk => hk.1)), fun _ => (bq BK267.out), (bq BK275.out), z_HI270, (hs HB.out), z_HO278, z_HI270_e4, fun _ => (by (with_reducible repeat (first | apply Kd.R_alloc | apply Kd.R_drewN | apply Kd.R_drew)); first | exact HO283.out | exact Kd.R_mono HO283.out (fun _ _ => trivial) | exact Kd.R_mono HO283.out (fun _ hk => hk.1)), fun h0_ _ => absurd ((hoff 7 (by kernel_rfl)).symm.trans h0_) (by decide), fun h0_ => absurd ((hoff 8 (by kernel_rfl)).symm.trans h0_) (by decide), fun h0_ => absurd ((hoff 8 (by kernel_rfl)).symm.trans h0_) (by decide), fun h0_ => absurd ((hoff 10 (by kernel_rfl)).symm.trans h0_) (by decide), fun h0_ => absurd ((hoff 11 (by kernel_rfl)).symm.trans h0_) (by decide)⟩
  refine steps_cons ?_ ?_
  ·rintro b a w' ⟨v277, v282, v287, m11_, ha, Q_HO273, Q_BK267, Q_BK275, Q_HI270, Q_HB, Q_HO278, Q_HI270_e4, Q_HO283, Q_HI270_e7, Q_HO288, Q_HI270_e8, Q_BK267_e10, Q_X11_⟩ hb_ hon hoff
   refine ⟨_, rfl, fun K hK => ?_⟩
   have e16 : a.tmps[16]? = some (.pointer (some ⟨g270, 0, none⟩)) := by rw [ha]; exact (putSel_off rfl).trans rfl
   have e17 : a.tmps[17]? = some (v282) := by rw [ha]; exact putSel_on (e := (6, 17, v282)) 3 rfl rfl (hon 6 (by kernel_rfl)) rfl
   replace ha := am ha
   have HO273 := am Q_HO273
   have BK267 := am (Q_BK267 (hoff 10 (by kernel_rfl)))
   have BK275 := am Q_BK275
   have HB := am Q_HB
   have HO278 := am (Q_HO278 (hon 3 (by kernel_rfl)))
   have HI270 := am (Q_HI270_e4 (hon 4 (by kernel_rfl)) hb_)
   have HO283 := am (Q_HO283 (hon 6 (by kernel_rfl)))
   obtain ⟨Ao24, co24, eo24⟩ := Kd.R_slice HO283.out
   (first | subst eo24 | (injection eo24 with f1_ f2_ f3_; have f4_ := f1_.symm; have f5_ := f3_.symm; clear f1_ f2_ f3_; subst f4_; subst f5_))
   refine goes_ Tryd.func109 (by kernel_rfl) rfl #[.pointer (some ⟨g270, 0, none⟩), .slice Ao24 y281.length co24] (by rfl) rfl rfl (by first | (simp only [List.map_toArray, List.map_cons, List.map_nil, Act.eval, Array.getD_eq_getD_getElem?, Option.getD_some, e16, e17]; done) | (simp only [List.map_toArray, List.map_cons, List.map_nil, Act.eval, Array.getD_eq_getD_getElem?, Option.getD_some, e16, e17]; rfl)) ?_
   with_reducible refine (spec_l1Pick.calls g270 t268 t280 _ _ y281 t284 t285 w0 _ ?side1 ?side2 ?side3 ?side4 ?side5 A5.out).mono ?_
   (case side1 => exact IsS145.q HI270.out)
   (case side2 => exact below_step HB0.out (hsk HB.out (IsS145.ge HI270.out)))
   (case side3 => repeat (first | exact (Kd.R_reads' HO283.out).2.2 | (with_reducible refine Kd.C_alloc ?_ _) | (with_reducible refine Kd.C_drewN ?_ _) | (with_reducible refine Kd.C_drew ?_)))
   (case side4 => exact (Kd.R_reads' HO283.out).2.1)
   (case side5 => exact far_slice (IsS145.own_ne HI270.out HO283.out (by decide)))
   rintro e w25 ⟨rfl, hi, hb, hk⟩
   refine ⟨_, rfl, ?_⟩
   have n0_ := am (KeepBut.blk hk (g' := gb267) (o := .cells #[.slice none 0 0] 26 (0, 0)) (bq BK267.out) NB267_270.out (by simp))
   have n1_ := am (Kd.R_mono (Kd.R_keep (IsS145.apart (show IsS145 w0 _ g270 t268 t280 from by exact IsS145.q HI270.out) (rq HO273.out) (by decide)) hk (fun _ h => h.2)) (fun _ h => h.1))
   have n2_ := am (KeepBut.blk hk (g' := gb275) (o := .cells #[.slice Ao11 t271.length co11] 26 (0, 0)) (bq BK275.out) NB275_270.out (by simp))
   have n3_ := am (Kd.R_mono (Kd.R_keep (IsS145.apart (show IsS145 w0 _ g270 t268 t280 from by exact IsS145.q HI270.out) (rq HO278.out) (by decide)) hk (fun _ h => h.2)) (fun _ h => h.1))
   have n4_ := am (Kd.R_mono (Kd.R_keep (IsS145.apart (show IsS145 w0 _ g270 t268 t280 from by exact IsS145.q HI270.out) (rq HO283.out) (by decide)) hk (fun _ h => h.2)) (fun _ h => h.1))
   have n5_ := am (below_keep HB0.out (hsk HB.out (IsS145.ge HI270.out)) hk GS270.out hb)
   have n6_ := am (hi)
   clear BK267
   clear HO273
   clear BK275
   clear HO278
   clear HO283
   clear HB
   clear HI270
   have BK267 := n0_
   have HO273 := n1_
   have BK275 := n2_
   have HO278 := n3_
   have HO283 := n4_
   have HB := n5_
   have HI270 := n6_
   clear n0_ n1_ n2_ n3_ n4_ n5_ n6_
   (try clear hb)
   (try clear hb2)
   (try clear hgw)
   (try clear hk)
   (try clear hi)
   refine hK.out _ _ ⟨v277, .slice Ao24 y281.length co24, v287, m11_, (by rw [ha.out]; exact putSel_upk 4 hb_ rfl rfl rfl), (by (with_reducible repeat (first | apply Kd.R_alloc | apply Kd.R_drewN | apply Kd.R_drew)); first | exact HO273.out | exact Kd.R_mono HO273.out (fun _ _ => trivial) | exact Kd.R_mono HO273.out (fun _ hk => hk.1)), fun _ => (bq BK267.out), (bq BK275.out), fun h0_ => absurd ((hon 4 (by kernel_rfl)).symm.trans h0_) (by decide), (hsk HB.out (IsS145.ge HI270.out)), fun _ => (by (with_reducible repeat (first | apply Kd.R_alloc | apply Kd.R_drewN | apply Kd.R_drew)); first | exact HO278.out | exact Kd.R_mono HO278.out (fun _ _ => trivial) | exact Kd.R_mono HO278.out (fun _ hk => hk.1)), fun _ h1_ => absurd ((up_self b 7).symm.trans h1_) (by decide), fun _ => (by (with_reducible repeat (first | apply Kd.R_alloc | apply Kd.R_drewN | apply Kd.R_drew)); first | exact HO283.out | exact Kd.R_mono HO283.out (fun _ _ => trivial) | exact Kd.R_mono HO283.out (fun _ hk => hk.1)), fun _ _ => (IsS145.q HI270.out), fun h0_ => absurd ((hoff 8 (by kernel_rfl)).symm.trans h0_) (by decide), fun h0_ => absurd ((hoff 8 (by kernel_rfl)).symm.trans h0_) (by decide), fun h0_ => absurd ((hoff 10 (by kernel_rfl)).symm.trans h0_) (by decide), fun h0_ => absurd ((hoff 11 (by kernel_rfl)).symm.trans h0_) (by decide)⟩
  refine steps_cons ?_ ?_
  ·rintro b a w' ⟨v277, v282, v287, m11_, ha, Q_HO273, Q_BK267, Q_BK275, Q_HI270, Q_HB, Q_HO278, Q_HI270_e4, Q_HO283, Q_HI270_e7, Q_HO288, Q_HI270_e8, Q_BK267_e10, Q_X11_⟩ hb_ hon hoff
   refine ⟨_, rfl, fun K hK => ?_⟩
   have e12 : a.tmps[12]? = some (.pointer (some ⟨g270, 0, none⟩)) := by rw [ha]; exact (putSel_off rfl).trans rfl
   have e6 : a.tmps[6]? = some (.pointer (some ⟨gb275, 0, none⟩)) := by rw [ha]; exact (putSel_off rfl).trans rfl
   have e15 : a.tmps[15]? = some (.int .i64 t279) := by rw [ha]; exact putSel_on (e := (4, 15, .int .i64 t279)) 2 rfl rfl (hon 4 (by kernel_rfl)) rfl
   have e18 : a.tmps[18]? = some (.int .i64 t284) := by rw [ha]; exact putSel_on (e := (7, 18, .int .i64 t284)) 4 rfl rfl (hon 7 (by kernel_rfl)) rfl
   replace ha := am ha
   have HO273 := am Q_HO273
   have BK267 := am (Q_BK267 (hoff 10 (by kernel_rfl)))
   have BK275 := am Q_BK275
   have HB := am Q_HB
   have HO278 := am (Q_HO278 (hon 3 (by kernel_rfl)))
   have HO283 := am (Q_HO283 (hon 6 (by kernel_rfl)))
   have HI270 := am (Q_HI270_e7 (hon 7 (by kernel_rfl)) hb_)
   refine goes_ Tryd.func108 (by kernel_rfl) rfl #[.pointer (some ⟨g270, 0, none⟩), .pointer (some ⟨gb275, 0, none⟩), .int .i64 t279, .int .i64 t284] (by rfl) rfl rfl (by first | (simp only [List.map_toArray, List.map_cons, List.map_nil, Act.eval, Array.getD_eq_getD_getElem?, Option.getD_some, e12, e6, e15, e18]; done) | (simp only [List.map_toArray, List.map_cons, List.map_nil, Act.eval, Array.getD_eq_getD_getElem?, Option.getD_some, e12, e6, e15, e18]; rfl)) ?_
   with_reducible refine (spec_l3BentTerm.calls k g270 t268 t285 _ [(⟨t271⟩ : S26)] t279 t284 t286 t289 w0 _ ?side1 ?side2 ?side3 A6.out).mono ?_
   (case side1 => exact IsS145.q HI270.out)
   (case side2 => exact below_step HB0.out (hsk HB.out (IsS145.ge HI270.out)))
   (case side3 => exact fun W_ hk_ => k26_box (hk_.blk (show (World.heap _)[gb275]? = some (.cells #[.slice Ao11 t271.length co11] 26 (0, 0)) from by refine bq ?_; exact BK275.out) (by first | exact NB275_270.out | exact NB270_275.out.symm) (by simp)) ((by exact Kd.C_foot_own (IsS145.apart (show IsS145 w0 _ g270 t268 t285 from by exact IsS145.q HI270.out) (rq HO273.out) (by decide)) (fun _ h_ => h_.2) : ∀ W_, KeepBut _ W_ g270 none → Kd.C k110 W_ Ao11 t271.length t271) W_ hk_) (by exact (Kd.R_reads' HO273.out).2.1))
   rintro e w26 ⟨v287, rfl, ho0, hi, hb, hk⟩
   refine ⟨_, rfl, ?_⟩
   have n0_ := am (KeepBut.blk hk (g' := gb267) (o := .cells #[.slice none 0 0] 26 (0, 0)) (bq BK267.out) NB267_270.out (by simp))
   have n1_ := am (Kd.R_mono (Kd.R_keep (IsS145.apart (show IsS145 w0 _ g270 t268 t285 from by exact IsS145.q HI270.out) (rq HO273.out) (by decide)) hk (fun _ h => h.2)) (fun _ h => h.1))
   have n2_ := am (KeepBut.blk hk (g' := gb275) (o := .cells #[.slice Ao11 t271.length co11] 26 (0, 0)) (bq BK275.out) NB275_270.out (by simp))
   have n3_ := am (Kd.R_mono (Kd.R_told (Kd.R_oldK (IsS145.apart (show IsS145 w0 _ g270 t268 t285 from by exact IsS145.q HI270.out) (rq HO278.out) (by decide)) hk) (Kd.R_base ho0)) (fun _ h_ => h_.1))
   have n4_ := am (Kd.R_mono (Kd.R_told (Kd.R_oldK (IsS145.apart (show IsS145 w0 _ g270 t268 t285 from by exact IsS145.q HI270.out) (rq HO283.out) (by decide)) hk) (Kd.R_base ho0)) (fun _ h_ => h_.1))
   have n5_ := am (Kd.R_lower (Kd.R_new' (Kd.R_new' ho0 (Kd.R_lt (rq HO278.out))) (Kd.R_lt (rq HO283.out))) (below_size (hsk HB.out (IsS145.ge HI270.out))))
   have n6_ := am (below_keep HB0.out (hsk HB.out (IsS145.ge HI270.out)) hk GS270.out hb)
   have n7_ := am (hi)
   clear BK267
   clear HO273
   clear BK275
   clear HO278
   clear HO283
   clear HB
   clear HI270
   have BK267 := n0_
   have HO273 := n1_
   have BK275 := n2_
   have HO278 := n3_
   have HO283 := n4_
   have HO288 := n5_
   have HB := n6_
   have HI270 := n7_
   clear n0_ n1_ n2_ n3_ n4_ n5_ n6_ n7_
   (try clear hb)
   (try clear hb2)
   (try clear hgw)
   (try clear hk)
   (try clear hi)
   (try clear ho0)
   refine hK.out _ _ ⟨v277, v282, v287, m11_, (by rw [ha.out]; exact putSel_upk 5 hb_ rfl rfl rfl), (by (with_reducible repeat (first | apply Kd.R_alloc | apply Kd.R_drewN | apply Kd.R_drew)); first | exact HO273.out | exact Kd.R_mono HO273.out (fun _ _ => trivial) | exact Kd.R_mono HO273.out (fun _ hk => hk.1)), fun _ => (bq BK267.out), (bq BK275.out), fun h0_ => absurd ((hon 4 (by kernel_rfl)).symm.trans h0_) (by decide), (hsk HB.out (IsS145.ge HI270.out)), fun _ => (by (with_reducible repeat (first | apply Kd.R_alloc | apply Kd.R_drewN | apply Kd.R_drew)); first | exact HO278.out | exact Kd.R_mono HO278.out (fun _ _ => trivial) | exact Kd.R_mono HO278.out (fun _ hk => hk.1)), fun _ h1_ => absurd ((hon 7 (by kernel_rfl)).symm.trans h1_) (by decide), fun _ => (by (with_reducible repeat (first | apply Kd.R_alloc | apply Kd.R_drewN | apply Kd.R_drew)); first | exact HO283.out | exact Kd.R_mono HO283.out (fun _ _ => trivial) | exact Kd.R_mono HO283.out (fun _ hk => hk.1)), fun _ h1_ => absurd ((up_self b 8).symm.trans h1_) (by decide), fun _ => (by (with_reducible repeat (first | apply Kd.R_alloc | apply Kd.R_drewN | apply Kd.R_drew)); exact Kd.R_mono HO288.out (fun _ hk => by first | exact ⟨hk.1.2, hk.2⟩ | exact ⟨hk.2, hk.1.2⟩ | trivial)), fun _ => (IsS145.q HI270.out), fun h0_ => absurd ((hoff 10 (by kernel_rfl)).symm.trans h0_) (by decide), fun h0_ => absurd ((hoff 11 (by kernel_rfl)).symm.trans h0_) (by decide)⟩
  refine steps_cons ?_ ?_
  ·rintro b a w' ⟨v277, v282, v287, m11_, ha, Q_HO273, Q_BK267, Q_BK275, Q_HI270, Q_HB, Q_HO278, Q_HI270_e4, Q_HO283, Q_HI270_e7, Q_HO288, Q_HI270_e8, Q_BK267_e10, Q_X11_⟩ hb_ hon hoff
   refine ⟨_, rfl, fun K hK => ?_⟩
   have e2 : a.tmps[2]? = some (.pointer (some ⟨gb267, 0, none⟩)) := by rw [ha]; exact (putSel_off rfl).trans rfl
   have e11 : a.tmps[11]? = some (.agg #[.slice Ao11 t271.length co11]) := by rw [ha]; exact putSel_on (e := (0, 11, .agg #[.slice Ao11 t271.length co11])) 0 rfl rfl (hon 0 (by kernel_rfl)) rfl
   replace ha := am ha
   have HO273 := am Q_HO273
   have BK267 := am (Q_BK267 hb_)
   have BK275 := am Q_BK275
   have HB := am Q_HB
   have HO278 := am (Q_HO278 (hon 3 (by kernel_rfl)))
   have HO283 := am (Q_HO283 (hon 6 (by kernel_rfl)))
   have HO288 := am (Q_HO288 (hon 8 (by kernel_rfl)))
   have HI270 := am (Q_HI270_e8 (hon 8 (by kernel_rfl)))
   have hs27 : w'.cell? ⟨gb267, 0, none⟩ = some (.slice none 0 0) := (blk_cell BK267.out 0).trans rfl
   have hfs27 := blk_frozen BK267.out 0
   have hns27_1 := NB275_267.out
   have hms27_1 := NB267_275.out
   refine skip_ (w1 := ?_) (by rfl) rfl ?_ ?_
   rotate_left
   ·go_simp
    rfl
   refine hK.out _ _ ⟨v277, v282, v287, m11_, (by rw [ha.out]; exact putSel_none (v := undef) rfl), (by (with_reducible repeat (first | apply Kd.R_alloc | apply Kd.R_drewN | apply Kd.R_drew)); exact Kd.R_mono (Kd.R_far (p := ⟨gb267, 0, none⟩) (Kd.R_types HO273.out BK267.out (by decide)) (fun _ hk => hk.2) (.slice Ao11 t271.length co11)) (fun _ hk => trivial)), fun h0_ => absurd ((up_self b 10).symm.trans h0_) (by decide), (by refine bq ?_; refine blk_far ?_ NB275_267.out _; refine bq ?_; exact BK275.out), fun h0_ => absurd ((hon 4 (by kernel_rfl)).symm.trans h0_) (by decide), (hsk HB.out (IsS145.ge HI270.out)), fun _ => (by (with_reducible repeat (first | apply Kd.R_alloc | apply Kd.R_drewN | apply Kd.R_drew)); exact Kd.R_mono (Kd.R_far (p := ⟨gb267, 0, none⟩) (Kd.R_types HO278.out BK267.out (by decide)) (fun _ hk => hk.2) (.slice Ao11 t271.length co11)) (fun _ hk => by first | exact ⟨hk.1.1, hk.1.2⟩ | exact ⟨hk.1.2, hk.1.1⟩ | trivial)), fun _ h1_ => absurd ((hon 7 (by kernel_rfl)).symm.trans h1_) (by decide), fun _ => (by (with_reducible repeat (first | apply Kd.R_alloc | apply Kd.R_drewN | apply Kd.R_drew)); exact Kd.R_mono (Kd.R_far (p := ⟨gb267, 0, none⟩) (Kd.R_types HO283.out BK267.out (by decide)) (fun _ hk => hk.2) (.slice Ao11 t271.length co11)) (fun _ hk => by first | exact ⟨hk.1.1, hk.1.2⟩ | exact ⟨hk.1.2, hk.1.1⟩ | trivial)), fun _ h1_ => absurd ((hon 8 (by kernel_rfl)).symm.trans h1_) (by decide), fun _ => (by (with_reducible repeat (first | apply Kd.R_alloc | apply Kd.R_drewN | apply Kd.R_drew)); exact Kd.R_mono (Kd.R_far (p := ⟨gb267, 0, none⟩) (Kd.R_types HO288.out BK267.out (by decide)) (fun _ hk => hk.2) (.slice Ao11 t271.length co11)) (fun _ hk => by first | exact ⟨hk.1.1, hk.1.2⟩ | exact ⟨hk.1.2, hk.1.1⟩ | trivial)), fun _ => (IsS145.q HI270.out), fun _ => (by refine bq ?_; refine blk_put (cs := #[.slice none 0 0]) ?_ 0 _ rfl; refine bq ?_; exact BK267.out), fun h0_ => absurd ((hoff 11 (by kernel_rfl)).symm.trans h0_) (by decide)⟩
  refine steps_cons ?_ ?_
  ·rintro b a w' ⟨v277, v282, v287, m11_, ha, Q_HO273, Q_BK267, Q_BK275, Q_HI270, Q_HB, Q_HO278, Q_HI270_e4, Q_HO283, Q_HI270_e7, Q_HO288, Q_HI270_e8, Q_BK267_e10, Q_X11_⟩ hb_ hon hoff
   refine ⟨_, rfl, fun K hK => ?_⟩
   have e19 : a.tmps[19]? = some (v287) := by rw [ha]; exact putSel_on (e := (8, 19, v287)) 5 rfl rfl (hon 8 (by kernel_rfl)) rfl
   replace ha := am ha
   have HO273 := am Q_HO273
   have BK275 := am Q_BK275
   have HB := am Q_HB
   have HO278 := am (Q_HO278 (hon 3 (by kernel_rfl)))
   have HO283 := am (Q_HO283 (hon 6 (by kernel_rfl)))
   have HO288 := am (Q_HO288 (hon 8 (by kernel_rfl)))
   have HI270 := am (Q_HI270_e8 (hon 8 (by kernel_rfl)))
   have BK267 := am (Q_BK267_e10 (hon 10 (by kernel_rfl)))
   refine value_ (w1 := w') (v := v287) (by rfl) rfl ?_ ?_
   ·go_simp
    (try simp only [i64_w])
    try rfl
   refine hK.out _ _ ⟨v277, v282, v287, (v287), (by rw [ha.out]; exact putSel_upk 6 hb_ rfl rfl rfl), Q_HO273, fun h0_ => absurd ((hon 10 (by kernel_rfl)).symm.trans h0_) (by decide), Q_BK275, fun h0_ => absurd ((hon 4 (by kernel_rfl)).symm.trans h0_) (by decide), Q_HB, Q_HO278, fun _ h1_ => absurd ((hon 7 (by kernel_rfl)).symm.trans h1_) (by decide), Q_HO283, fun _ h1_ => absurd ((hon 8 (by kernel_rfl)).symm.trans h1_) (by decide), Q_HO288, Q_HI270_e8, Q_BK267_e10, fun _ => rfl⟩
  refine steps_cons ?_ ?_
  ·rintro b a w' ⟨v277, v282, v287, m11_, ha, Q_HO273, Q_BK267, Q_BK275, Q_HI270, Q_HB, Q_HO278, Q_HI270_e4, Q_HO283, Q_HI270_e7, Q_HO288, Q_HI270_e8, Q_BK267_e10, Q_X11_⟩ hb_ hon hoff
   refine ⟨_, rfl, fun K hK => ?_⟩
   have e20 : a.tmps[20]? = some (.pointer (some ⟨g270, 0, none⟩)) := by rw [ha]; exact (putSel_off rfl).trans rfl
   replace ha := am ha
   have HO273 := am Q_HO273
   have BK275 := am Q_BK275
   have HB := am Q_HB
   have HO278 := am (Q_HO278 (hon 3 (by kernel_rfl)))
   have HO283 := am (Q_HO283 (hon 6 (by kernel_rfl)))
   have HO288 := am (Q_HO288 (hon 8 (by kernel_rfl)))
   have HI270 := am (Q_HI270_e8 (hon 8 (by kernel_rfl)))
   have BK267 := am (Q_BK267_e10 (hon 10 (by kernel_rfl)))
   refine value_ (w1 := w') (v := .pointer (some ⟨g270, 0, none⟩)) (by rfl) rfl ?_ ?_
   ·go_simp
    (try simp only [i64_w])
    try rfl
   refine hK.out _ _ ⟨v277, v282, v287, m11_, (by rw [ha.out]; exact putSel_upk 7 hb_ rfl rfl rfl), Q_HO273, fun h0_ => absurd ((hon 10 (by kernel_rfl)).symm.trans h0_) (by decide), Q_BK275, fun h0_ => absurd ((hon 4 (by kernel_rfl)).symm.trans h0_) (by decide), Q_HB, Q_HO278, fun _ h1_ => absurd ((hon 7 (by kernel_rfl)).symm.trans h1_) (by decide), Q_HO283, fun _ h1_ => absurd ((hon 8 (by kernel_rfl)).symm.trans h1_) (by decide), Q_HO288, Q_HI270_e8, Q_BK267_e10, Q_X11_⟩
  exact steps_nil
 rintro b a w27 hall ⟨v277, v282, v287, m11_, ha, Q_HO273, Q_BK267, Q_BK275, Q_HI270, Q_HB, Q_HO278, Q_HI270_e4, Q_HO283, Q_HI270_e7, Q_HO288, Q_HI270_e8, Q_BK267_e10, Q_X11_⟩
 clear BK267 BK275 HB HI270 HO273
 have hb0_ := hall 0 (by kernel_rfl)
 have hb3_ := hall 3 (by kernel_rfl)
 have hb4_ := hall 4 (by kernel_rfl)
 have hb6_ := hall 6 (by kernel_rfl)
 have hb7_ := hall 7 (by kernel_rfl)
 have hb8_ := hall 8 (by kernel_rfl)
 have hb10_ := hall 10 (by kernel_rfl)
 have hb11_ := hall 11 (by kernel_rfl)
 have hb12_ := hall 12 (by kernel_rfl)
 subst ha
 obtain rfl := Q_X11_ hb11_
 simp only [putSel, hb0_, hb3_, hb4_, hb6_, hb7_, hb8_, hb10_, hb11_, hb12_, if_true, Act.put, lsp]
 have HO273 := am Q_HO273
 clear Q_HO273
 clear Q_BK267
 have BK275 := am Q_BK275
 clear Q_BK275
 clear Q_HI270
 have HB := am Q_HB
 clear Q_HB
 have HO278 := am (Q_HO278 hb3_)
 clear Q_HO278
 clear Q_HI270_e4
 have HO283 := am (Q_HO283 hb6_)
 clear Q_HO283
 clear Q_HI270_e7
 have HO288 := am (Q_HO288 hb8_)
 clear Q_HO288
 have HI270 := am (Q_HI270_e8 hb8_)
 clear Q_HI270_e8
 have BK267 := am (Q_BK267_e10 hb10_)
 clear Q_BK267_e10
 clear hall hb0_ hb3_ hb4_ hb6_ hb7_ hb8_ hb10_ hb11_ hb12_
 try go_wp2
 refine bodyPost_ret (results_ctt rfl _ _ gb267 26 #[.slice Ao11 t271.length co11] (0, 0) _ rfl (bq BK267.out) Tryd.underlying26 rfl (by kernel_rfl)) rfl ?_
 exact ⟨_, _, _, by first | rfl | (simp <;> rfl), by (with_reducible repeat (first | apply Kd.R_alloc | apply Kd.R_drewN | apply Kd.R_drew)); exact HO273.out, by (with_reducible repeat (first | apply Kd.R_alloc | apply Kd.R_drewN | apply Kd.R_drew)); exact Kd.R_mono HO288.out (fun _ hk => trivial), by exact IsS145.q HI270.out, below_step HB0.out (hsk HB.out (IsS145.ge HI270.out)), by exact hsk HB.out (IsS145.ge HI270.out), GS270.out⟩
def spec_DrawTermFault.f (k : Nat) (l0 : List Int) : Option ((List (S110)) × List Int) := (spec_l3One.f k l0).bind fun bt291 => (some (bt291.1, bt291.2.1))
set_option maxHeartbeats 8000000 in
set_option maxRecDepth 100000 in
theorem spec_DrawTermFault.calls (k : Nat) (A0 : Option Addr) (c0 : Nat) (l0 : List Int) (r1 : List (S110)) (r2 : List Int) (w : World) (hr0 : Kd.C (Kd.int .u8) w A0 l0.length l0) (hc0 : l0.length ≤ c0) (h : spec_DrawTermFault.f k l0 = some (r1, r2)) :
  Calls Tryd.prog 42 #[.slice A0 l0.length c0] w fun e w' => ∃ v0_ v1_ : Value, e = .returned (.tuple #[.agg #[v0_], v1_]) ∧ Kd.R k110 110 w' w.heap.size (fun _ => True) v0_ r1 ∧ Kd.R (Kd.int .i64) 2 w' w.heap.size (fun _ => True) v1_ r2 ∧ Below w.heap.size w w' := by
 have hu26 := Tryd.underlying26
 have HR0 := am hr0
 have HC0 := am hc0
 clear hr0 hc0
 have HB := am (Below.refl w.heap.size w)
 have H : ((spec_l3One.f k l0).bind fun bt291 => (some (bt291.1, bt291.2.1))) = some (r1, r2) := h
 clear h
 replace H := Option.bind_eq_some_iff.mp H
 obtain ⟨⟨t291, t294, t297, t298⟩, A20, H⟩ := H
 replace H : (some (t291, t294)) = some (r1, r2) := H
 have A2 := am A20
 clear A20
 simp only [Option.some.injEq, Prod.mk.injEq] at H
 obtain ⟨rfl, rfl⟩ := H
 go_enter Tryd.func42, Tryd.ntmps42
 go_wp2_with (first | ((with_reducible refine gate_dst (N := 2) rfl ?_); refine box_event ?hg (N := 2) ?hd (cs := #[.slice none 0 0]) (t := 26) ?hr ?_; (case hd => rfl); (case hg => rfl); (case hr => first | (go_simp; done) | (go_simp; rfl)); intro gb290 hg w3 hbox hb; have n0_ := am (below_step (hq HB.out) hb); have n1_ := am (hbox); have n2_ := am (bz hg (hq HB.out)); have n3_ := n2_; clear HB; revert n0_ n1_ n2_ n3_; intro HB BK290 GW290 GE290; clear hb hbox hg) | ((with_reducible refine gate_callee (f := 75) rfl ?_); refine goesL_ (some 9) rfl rfl Tryd.func75 (by kernel_rfl) rfl #[.slice A0 l0.length c0] rfl el ?_; (with_reducible refine (spec_l3One.calls k _ _ l0 t291 t294 t297 t298 w _ ?side1 ?side2 ?side3 A2.out).mono ?_); (case side1 => exact hs HB.out); (case side2 => exact HR0.out); (case side3 => exact HC0.out); rintro e w4 ⟨v292, v295, g299, rfl, ho0, ho1, hi, hb, hb2, hgw⟩; refine ⟨_, rfl, ?_⟩; have n0_ := am (Kd.R_lower ho0 (below_size (hs HB.out))); have n1_ := am (Kd.R_lower ho1 (below_size (hs HB.out))); have n2_ := am (blk_below (bq BK290.out) hb2); have n3_ := am (hb); have n4_ := am (hi); have n5_ := am (IsS145.ne_blk hi (blk_below (bq BK290.out) hb2) (by decide)); have n6_ := am (Ne.symm (IsS145.ne_blk hi (blk_below (bq BK290.out) hb2) (by decide))); clear BK290 HB; revert n0_ n1_ n2_ n3_ n4_ n5_ n6_; intro HO293 HO296 BK290 HB HI299 NB299_290 NB290_299; (try clear hb); (try clear hb2); (try clear hgw); (try clear hk); (try clear hi); (try clear ho0); (try clear ho1)) | ((with_reducible refine gate_dst (N := 4) rfl ?_); refine box_event ?hg (N := 4) ?hd (cs := #[.slice none 0 0]) (t := 26) ?hr ?_; (case hd => rfl); (case hg => rfl); (case hr => first | (go_simp; done) | (go_simp; rfl)); intro gb300 hg w5 hbox hb; have n0_ := am (Kd.R_below (rq HO293.out) hb); have n1_ := am (Kd.R_below (rq HO296.out) hb); have n2_ := am (blk_below (bq BK290.out) hb); have n3_ := am (IsS145.below (IsS145.q HI299.out) hb); have n4_ := am (below_step (hsk HB.out (IsS145.ge HI299.out)) hb); have n5_ := am (hbox); have n6_ := am (bz hg (hsk HB.out (IsS145.ge HI299.out))); have n7_ := n6_; have n8_ := am ((by rw [hg]; exact Nat.ne_of_lt (blk_lt (bq BK290.out)) : gb290 ≠ gb300)); have n9_ := am ((by rw [hg]; exact Nat.ne_of_gt (blk_lt (bq BK290.out)) : gb300 ≠ gb290)); have n10_ := am ((by rw [hg]; exact Nat.ne_of_lt (IsS145.lt (show IsS145 w _ g299 t297 t298 from by exact IsS145.q HI299.out)) : g299 ≠ gb300)); have n11_ := am n10_.out.symm; clear HO293 HO296 BK290 HI299 HB; revert n0_ n1_ n2_ n3_ n4_ n5_ n6_ n7_ n8_ n9_ n10_ n11_; intro HO293 HO296 BK290 HI299 HB BK300 GW300 GE300 NB290_300 NB300_290 NB299_300 NB300_299; clear hb hbox hg; obtain ⟨Ao6, co6, eo6⟩ := Kd.R_slice HO293.out; subst eo6; have hnb7 := NB300_290.out; have hnc7 := NB290_300.out; have hnb8 := NB300_299.out; have hnc8 := NB299_300.out; have hcz9_0 : w5.cell? ⟨gb300, 0, none⟩ = some (.slice none 0 0) := (blk_cell BK300.out 0).trans rfl; have hfz9_0 := blk_frozen BK300.out 0; have hnb10 := NB290_299.out; have hnc10 := NB299_290.out; have hcz11_0 : w5.cell? ⟨gb290, 0, none⟩ = some (.slice none 0 0) := (blk_cell BK290.out 0).trans rfl; have hfz11_0 := blk_frozen BK290.out 0))
 refine bodyPost_ret (results_ct rfl _ _ gb290 26 #[.slice Ao6 t291.length co6] (0, 0) _ rfl (by refine bq ?_; refine blk_put (cs := #[.slice none 0 0]) ?_ 0 _ rfl; refine bq ?_; refine blk_far ?_ NB290_300.out _; refine bq ?_; exact BK290.out) Tryd.underlying26 rfl (by kernel_rfl)) rfl ?_
 exact ⟨_, _, by first | rfl | (simp [errW_none, errW_some] <;> rfl) | (simp [*, errW_none, errW_some] <;> rfl), by (with_reducible repeat (first | apply Kd.R_alloc | apply Kd.R_drewN | apply Kd.R_drew)); exact Kd.R_mono (Kd.R_far (p := ⟨gb290, 0, none⟩) (Kd.R_far (p := ⟨gb300, 0, none⟩) (Kd.R_types (Kd.R_types HO293.out BK300.out (by decide)) BK290.out (by decide)) (fun _ hk => hk.1.2) (.slice Ao6 t291.length co6)) (fun _ hk => hk.2) (.slice Ao6 t291.length co6)) (fun _ hk => trivial), by (with_reducible repeat (first | apply Kd.R_alloc | apply Kd.R_drewN | apply Kd.R_drew)); exact Kd.R_mono (Kd.R_far (p := ⟨gb290, 0, none⟩) (Kd.R_far (p := ⟨gb300, 0, none⟩) (Kd.R_types (Kd.R_types HO296.out BK300.out (by decide)) BK290.out (by decide)) (fun _ hk => hk.1.2) (.slice Ao6 t291.length co6)) (fun _ hk => hk.2) (.slice Ao6 t291.length co6)) (fun _ hk => trivial), by exact hsk HB.out (IsS145.ge HI299.out)⟩
def spec_DrawVarsOf.f (k : Nat) (l0 : List Int) : Option ((List (S110)) × List Int) := (spec_DrawTermFault.f k l0).bind fun bt302 => (some (bt302.1, bt302.2))
set_option maxHeartbeats 8000000 in
set_option maxRecDepth 100000 in
theorem spec_DrawVarsOf.calls (k : Nat) (A0 : Option Addr) (c0 : Nat) (l0 : List Int) (r1 : List (S110)) (r2 : List Int) (w : World) (hr0 : Kd.C (Kd.int .u8) w A0 l0.length l0) (hc0 : l0.length ≤ c0) (h : spec_DrawVarsOf.f k l0 = some (r1, r2)) :
  Calls Tryd.prog 7 #[.slice A0 l0.length c0] w fun e w' => ∃ v0_ v1_ : Value, e = .returned (.tuple #[.agg #[v0_], v1_]) ∧ Kd.R k110 110 w' w.heap.size (fun _ => True) v0_ r1 ∧ Kd.R (Kd.int .i64) 2 w' w.heap.size (fun _ => True) v1_ r2 ∧ Below w.heap.size w w' := by
 have hu26 := Tryd.underlying26
 have HR0 := am hr0
 have HC0 := am hc0
 clear hr0 hc0
 have HB := am (Below.refl w.heap.size w)
 have H : ((spec_DrawTermFault.f k l0).bind fun bt302 => (some (bt302.1, bt302.2))) = some (r1, r2) := h
 clear h
 replace H := Option.bind_eq_some_iff.mp H
 obtain ⟨⟨t302, t305⟩, A20, H⟩ := H
 replace H : (some (t302, t305)) = some (r1, r2) := H
 have A2 := am A20
 clear A20
 simp only [Option.some.injEq, Prod.mk.injEq] at H
 obtain ⟨rfl, rfl⟩ := H
 go_enter Tryd.func7, Tryd.ntmps7
 go_wp2_with (first | ((with_reducible refine gate_dst (N := 2) rfl ?_); refine box_event ?hg (N := 2) ?hd (cs := #[.slice none 0 0]) (t := 26) ?hr ?_; (case hd => rfl); (case hg => rfl); (case hr => first | (go_simp; done) | (go_simp; rfl)); intro gb301 hg w3 hbox hb; have n0_ := am (below_step (hq HB.out) hb); have n1_ := am (hbox); have n2_ := am (bz hg (hq HB.out)); have n3_ := n2_; clear HB; revert n0_ n1_ n2_ n3_; intro HB BK301 GW301 GE301; clear hb hbox hg) | ((with_reducible refine gate_callee (f := 42) rfl ?_); refine goesL_ (some 5) rfl rfl Tryd.func42 (by kernel_rfl) rfl #[.slice A0 l0.length c0] rfl el ?_; (with_reducible refine (spec_DrawTermFault.calls k _ _ l0 t302 t305 _ ?side1 ?side2 A2.out).mono ?_); (case side1 => exact cq (Kd.C_below HR0.out HB.out)); (case side2 => exact HC0.out); rintro e w4 ⟨v303, v306, rfl, ho0, ho1, hb⟩; refine ⟨_, rfl, ?_⟩; have n0_ := am (Kd.R_lower ho0 (below_size (hs HB.out))); have n1_ := am (Kd.R_lower ho1 (below_size (hs HB.out))); have n2_ := am (blk_below (bq BK301.out) hb); have n3_ := am (below_step (hs HB.out) hb); clear BK301 HB; revert n0_ n1_ n2_ n3_; intro HO304 HO307 BK301 HB; (try clear hb); (try clear hb2); (try clear hgw); (try clear hk); (try clear hi); (try clear ho0); (try clear ho1); obtain ⟨Ao5, co5, eo5⟩ := Kd.R_slice HO304.out; subst eo5; have hcz6_0 : w4.cell? ⟨gb301, 0, none⟩ = some (.slice none 0 0) := (blk_cell BK301.out 0).trans rfl; have hfz6_0 := blk_frozen BK301.out 0))
 refine bodyPost_ret (results_ct rfl _ _ gb301 26 #[.slice Ao5 t302.length co5] (0, 0) _ rfl (by refine bq ?_; refine blk_put (cs := #[.slice none 0 0]) ?_ 0 _ rfl; refine bq ?_; exact BK301.out) Tryd.underlying26 rfl (by kernel_rfl)) rfl ?_
 exact ⟨_, _, by first | rfl | (simp [errW_none, errW_some] <;> rfl) | (simp [*, errW_none, errW_some] <;> rfl), by (with_reducible repeat (first | apply Kd.R_alloc | apply Kd.R_drewN | apply Kd.R_drew)); exact Kd.R_mono (Kd.R_far (p := ⟨gb301, 0, none⟩) (Kd.R_types HO304.out BK301.out (by decide)) (fun _ hk => hk.2) (.slice Ao5 t302.length co5)) (fun _ hk => trivial), by (with_reducible repeat (first | apply Kd.R_alloc | apply Kd.R_drewN | apply Kd.R_drew)); exact Kd.R_mono (Kd.R_far (p := ⟨gb301, 0, none⟩) (Kd.R_types HO307.out BK301.out (by decide)) (fun _ hk => hk.2) (.slice Ao5 t302.length co5)) (fun _ hk => trivial), by exact hs HB.out⟩
def strings_Trim.f (s cut : ByteArray) : Option ByteArray := if s.size ≤ 9223372036854775807 ∧ cut.size < 4294967281 ∧ (cut.data.toList.all fun b => decide (b.toNat < 128)) = true then some ⟨(Lib.trimS s.data.toList cut.data.toList).toArray⟩ else none
theorem strings_Trim.calls (s cut : ByteArray) (r : ByteArray) (w : World) (h : strings_Trim.f s cut = some r) :
  Calls Tryd.prog 113 #[.string s, .string cut] w fun e w' => e = .returned (.string r) ∧ Below w.heap.size w w' := by
 unfold strings_Trim.f at h
 by_cases hc : s.size ≤ 9223372036854775807 ∧ cut.size < 4294967281 ∧ (cut.data.toList.all fun b => decide (b.toNat < 128)) = true
 ·rw [if_pos hc] at h
  obtain rfl := Option.some.inj h
  exact Any.strings_Trim_laid Shelf.lays160 (by kernel_rfl) s cut w hc.1 hc.2.1 (ascii_of_all hc.2.2)
 ·rw [if_neg hc] at h
  cases h
def impl_isName.f (a0 : ByteArray) : Option (Bool) := if (a0.size : Int) ≥ 1 then (if (a0.size : Int) ≤ 3 then ((strings_Trim.f a0 (⟨#[97, 98, 99, 100, 101, 102, 103, 104, 105, 106, 107, 108, 109, 110, 111, 112, 113, 114, 115, 116, 117, 118, 119, 120, 121, 122]⟩ : ByteArray)).bind fun t308 => (some (t308.toList == ([] : List UInt8)))) else (some false)) else (some false)
set_option maxHeartbeats 8000000 in
set_option maxRecDepth 100000 in
theorem impl_isName.calls (a0 : ByteArray) (r : Bool) (w : World) (h : impl_isName.f a0 = some r) :
  Calls Tryd.prog 82 #[.string a0] w fun e w' => e = .returned (.bool r) ∧ Below w.heap.size w w' := by
 have HB := am (Below.refl w.heap.size w)
 have H : (if (a0.size : Int) ≥ 1 then (if (a0.size : Int) ≤ 3 then ((strings_Trim.f a0 (⟨#[97, 98, 99, 100, 101, 102, 103, 104, 105, 106, 107, 108, 109, 110, 111, 112, 113, 114, 115, 116, 117, 118, 119, 120, 121, 122]⟩ : ByteArray)).bind fun t308 => (some (t308.toList == ([] : List UInt8)))) else (some false)) else (some false)) = some r := h
 clear h
 by_cases c2 : (a0.size : Int) ≥ 1
 ·rw [if_pos c2] at H
  have c2b0 : decide (1 ≤ (a0.size : Int)) = true := decide_eq_true c2
  have c2b1 : decide (1 ≤ a0.size) = true := decide_eq_true (by omega)
  clear c2
  by_cases c3 : (a0.size : Int) ≤ 3
  ·rw [if_pos c3] at H
   have c3b0 : decide ((a0.size : Int) ≤ 3) = true := decide_eq_true c3
   have c3b1 : decide (a0.size ≤ 3) = true := decide_eq_true (by omega)
   clear c3
   replace H := Option.bind_eq_some_iff.mp H
   obtain ⟨t308, A40, H⟩ := H
   replace H : (some (t308.toList == ([] : List UInt8))) = some r := H
   have A4 := am A40
   clear A40
   obtain rfl := Option.some.inj H
   go_enter Tryd.func82, Tryd.ntmps82
   go_wp2_with (first | (go_at_call 113; (with_reducible refine (strings_Trim.calls a0 (⟨#[97, 98, 99, 100, 101, 102, 103, 104, 105, 106, 107, 108, 109, 110, 111, 112, 113, 114, 115, 116, 117, 118, 119, 120, 121, 122]⟩ : ByteArray) t308 _ A4.out).mono ?_); rintro e w5 ⟨rfl, hb⟩; have n0_ := am (below_step (hq HB.out) hb); clear HB; revert n0_; intro HB; (try clear hb); (try clear hb2); (try clear hgw); (try clear hk); (try clear hi)))
   go_ret
   exact ⟨by first | rfl | (simp [errW_none, errW_some] <;> rfl) | (simp [*, errW_none, errW_some] <;> rfl), by exact hq HB.out⟩
  ·rw [if_neg c3] at H
   have c3b0 : decide ((a0.size : Int) ≤ 3) = false := decide_eq_false c3
   have c3b1 : decide (a0.size ≤ 3) = false := decide_eq_false (by omega)
   clear c3
   obtain rfl := Option.some.inj H
   go_enter Tryd.func82, Tryd.ntmps82
   go_wp2
   go_ret
   exact ⟨by first | rfl | (simp [errW_none, errW_some] <;> rfl) | (simp [*, errW_none, errW_some] <;> rfl), by exact hq HB.out⟩
 ·rw [if_neg c2] at H
  have c2b0 : decide (1 ≤ (a0.size : Int)) = false := decide_eq_false c2
  have c2b1 : decide (1 ≤ a0.size) = false := decide_eq_false (by omega)
  clear c2
  obtain rfl := Option.some.inj H
  go_enter Tryd.func82, Tryd.ntmps82
  go_wp2
  go_ret
  exact ⟨by first | rfl | (simp [errW_none, errW_some] <;> rfl) | (simp [*, errW_none, errW_some] <;> rfl), by exact hq HB.out⟩
def impl_within.f (a0 : Int) (a1 : Int) (a2 : Int) : Option (Bool) := if a0 ≥ a1 then (some (decide (a0 ≤ a2))) else (some false)
set_option maxHeartbeats 8000000 in
set_option maxRecDepth 100000 in
theorem impl_within.calls (a0 : Int) (a1 : Int) (a2 : Int) (r : Bool) (w : World) (h : impl_within.f a0 a1 a2 = some r) :
  Calls Tryd.prog 83 #[.int .i64 a0, .int .i64 a1, .int .i64 a2] w fun e w' => e = .returned (.bool r) ∧ Drawn0 w w' := by
 have H : (if a0 ≥ a1 then (some (decide (a0 ≤ a2))) else (some false)) = some r := h
 clear h
 by_cases c4 : a0 ≥ a1
 ·rw [if_pos c4] at H
  have c4b0 : decide (a1 ≤ a0) = true := decide_eq_true c4
  clear c4
  obtain rfl := Option.some.inj H
  go_enter Tryd.func83, Tryd.ntmps83
  go_wp2
  go_ret
  exact ⟨by first | rfl | (simp; done) | (simp [*]; done), by repeat (first | exact Drawn0.refl _ | apply Drawn0.step)⟩
 ·rw [if_neg c4] at H
  have c4b0 : decide (a1 ≤ a0) = false := decide_eq_false c4
  clear c4
  obtain rfl := Option.some.inj H
  go_enter Tryd.func83, Tryd.ntmps83
  go_wp2
  go_ret
  exact ⟨by first | rfl | (simp; done) | (simp [*]; done), by repeat (first | exact Drawn0.refl _ | apply Drawn0.step)⟩
def impl_symbolIndex_1_with.f (a0_0 : ByteArray) (a0_1 : Int) (l1 : List ByteArray) : Option (Bool) := if 0 < (l1.length : Int) then (some (a0_0.toList == (rdOf ByteArray.empty l1 0).toList)) else (none)
set_option maxHeartbeats 8000000 in
set_option maxRecDepth 100000 in
theorem impl_symbolIndex_1_with.calls (a0_0 : ByteArray) (a0_1 : Int) (A1 : Option Addr) (l1 : List ByteArray) (r : Bool) (w : World) (hr1 : Kd.C Kd.string w A1 l1.length l1) (h : impl_symbolIndex_1_with.f a0_0 a0_1 l1 = some r) :
  Calls Tryd.prog 115 #[.agg #[.string a0_0, .int .i64 a0_1], .pointer A1] w fun e w' => e = .returned (.bool r) ∧ Below w.heap.size w w' := by
 have hu110 := Tryd.underlying110
 have HR1 := am hr1
 clear hr1
 have HB := am (Below.refl w.heap.size w)
 have H : (if 0 < (l1.length : Int) then (some (a0_0.toList == (rdOf ByteArray.empty l1 0).toList)) else (none)) = some r := h
 clear h
 by_cases c3 : 0 < (l1.length : Int)
 ·rw [if_pos c3] at H
  have c3b0 : decide (0 < (l1.length : Int)) = true := decide_eq_true c3
  have c3b1 : decide (0 < l1.length) = true := decide_eq_true (by omega)
  clear c3
  obtain rfl := Option.some.inj H
  go_enter Tryd.func115, Tryd.ntmps115
  go_wp2_with (first | ((with_reducible refine gate_dst (N := 2) rfl ?_); refine box_event ?hg (N := 2) ?hd (cs := #[.string a0_0, .int .i64 a0_1]) (t := 110) ?hr ?_; (case hd => rfl); (case hg => rfl); (case hr => first | (go_simp; done) | (go_simp; rfl)); intro gb309 hg w4 hbox hb; have n0_ := am (below_step (hq HB.out) hb); have n1_ := am (hbox); have n2_ := am (bz hg (hq HB.out)); have n3_ := n2_; clear HB; revert n0_ n1_ n2_ n3_; intro HB BK309 GW309 GE309; clear hb hbox hg; have hcz5_0 : w4.cell? ⟨gb309, 0, none⟩ = some (.string a0_0) := (blk_cell BK309.out 0).trans rfl; have hcz5_1 : w4.cell? ⟨gb309, 1, none⟩ = some (.int .i64 a0_1) := (blk_cell BK309.out 1).trans rfl; have hfz5_0 := blk_frozen BK309.out 0; have hfz5_1 := blk_frozen BK309.out 1; have p310 : 0 ≤ (0 : Int) := (by omega); have q310 : 0 < (l1.length : Int) := of_decide_eq_true (by first | (with_reducible assumption) | assumption); obtain ⟨ad310, e310, hx310_0⟩ := Kd.at_string HR1.out 0 p310 q310; cases e310; have qi310 : (0 < l1.length) = True := eq_true (by omega); (try rw [show ((0 : Int)).toNat = 0 from rfl] at hx310_0); (try rw [Addr.add_zero'] at hx310_0); replace hx310_0 := (HB.out.cell (World.block_lt_of_cell? w _ hx310_0)).trans hx310_0; replace p310 := eq_true p310; replace q310 := eq_true q310))
  go_ret
  exact ⟨by first | rfl | (simp [errW_none, errW_some] <;> rfl) | (simp [*, errW_none, errW_some] <;> rfl), by exact hs HB.out⟩
 ·rw [if_neg c3] at H
  exact absurd H (by simp)
def slices_IndexFunc_impl_Symbol_impl_Symbol_impl_symbolIndex_1.l0 : Nat → List (S110) → Int → Int → List ByteArray → Option (Int)
 | 0, _, _, _, _ => none
 | k + 1, x0, x7, x8, x910 => if x8 < x7 then (if 0 ≤ x8 then (if x8 < (x0.length : Int) then ((impl_symbolIndex_1_with.f ((rd_T110 x0 x8).f0) ((rd_T110 x0 x8).f1) x910).bind fun t312 => (if t312 = true then (some x8) else (slices_IndexFunc_impl_Symbol_impl_Symbol_impl_symbolIndex_1.l0 k x0 x7 (wrap64 (x8 + 1)) x910))) else (none)) else (none)) else (some (-1))
def slices_IndexFunc_impl_Symbol_impl_Symbol_impl_symbolIndex_1.f (k : Nat) (l0 : List (S110)) (l1_0 : List ByteArray) : Option (Int) := slices_IndexFunc_impl_Symbol_impl_Symbol_impl_symbolIndex_1.l0 k l0 (l0.length : Int) 0 l1_0
set_option maxHeartbeats 8000000 in
set_option maxRecDepth 100000 in
theorem slices_IndexFunc_impl_Symbol_impl_Symbol_impl_symbolIndex_1.calls (k : Nat) (A0 : Option Addr) (c0 : Nat) (l0 : List (S110)) (A1_0 : Option Addr) (l1_0 : List ByteArray) (r : Int) (w : World) (hr0 : Kd.C k110 w A0 l0.length l0) (hc0 : l0.length ≤ c0) (hr1_0 : Kd.C Kd.string w A1_0 l1_0.length l1_0) (h : slices_IndexFunc_impl_Symbol_impl_Symbol_impl_symbolIndex_1.f k l0 l1_0 = some r) :
  Calls Tryd.prog 114 #[.slice A0 l0.length c0, .func (.func 115) #[] #[.pointer A1_0]] w fun e w' => e = .returned (.int .i64 r) ∧ Below w.heap.size w w' := by
 have hu110 := Tryd.underlying110
 have HR0 := am hr0
 have HC0 := am hc0
 clear hr0 hc0
 have HR1_0 := am hr1_0
 clear hr1_0
 have HB := am (Below.refl w.heap.size w)
 have H : (slices_IndexFunc_impl_Symbol_impl_Symbol_impl_symbolIndex_1.l0 k l0 (l0.length : Int) 0 l1_0) = some r := h
 clear h
 have H' := am H
 clear H
 go_enter Tryd.func114, Tryd.ntmps114
 go_wp2
 go_loopg [8] k (fun kq v8 w' => ∃ (x8_1 : Int), v8 = .int .i64 x8_1 ∧ Aside0 (slices_IndexFunc_impl_Symbol_impl_Symbol_impl_symbolIndex_1.l0 kq l0 (l0.length : Int) x8_1 l1_0 = some r) ∧ Aside0 (kq ≤ k) ∧ Aside0 (Below w.heap.size w w'))
 case atStart => exact ⟨(0), (by first | rfl | (simp; done) | (simp [*]; done)), H', ⟨Nat.le_refl _⟩, ⟨by exact hq HB.out⟩⟩
 case round =>
  clear H'
  try clear c1
  try clear p2
  obtain ⟨x8_1, rfl, HA, HK1, HB⟩ := hrel
  cases gk with
  | zero => exact absurd HA.out (by simp [slices_IndexFunc_impl_Symbol_impl_Symbol_impl_symbolIndex_1.l0])
  | succ k1 =>
   have H := HA.out
   clear HA
   simp only [slices_IndexFunc_impl_Symbol_impl_Symbol_impl_symbolIndex_1.l0] at H
   by_cases c3 : x8_1 < (l0.length : Int)
   ·rw [if_pos c3] at H
    have c3b0 : decide (x8_1 < (l0.length : Int)) = true := decide_eq_true c3
    clear c3
    by_cases c4 : 0 ≤ x8_1
    ·rw [if_pos c4] at H
     have c4b0 : decide (0 ≤ x8_1) = true := decide_eq_true c4
     clear c4
     by_cases c5 : x8_1 < (l0.length : Int)
     ·rw [if_pos c5] at H
      have c5b0 : decide (x8_1 < (l0.length : Int)) = true := decide_eq_true c5
      clear c5
      replace H := Option.bind_eq_some_iff.mp H
      obtain ⟨t312, A60, H⟩ := H
      replace H : (if t312 = true then (some x8_1) else (slices_IndexFunc_impl_Symbol_impl_Symbol_impl_symbolIndex_1.l0 k1 l0 (l0.length : Int) (wrap64 (x8_1 + 1)) l1_0)) = some r := H
      have A6 := am A60
      clear A60
      by_cases c7 : t312 = true
      ·subst c7
       have H1 : (some x8_1) = some r := by rw [if_pos rfl] at H; exact H
       clear H
       have H := H1
       clear H1
       obtain rfl := Option.some.inj H
       have p311 : 0 ≤ (x8_1 : Int) := of_decide_eq_true (by first | (with_reducible assumption) | assumption)
       have q311 : x8_1 < (l0.length : Int) := of_decide_eq_true (by first | (with_reducible assumption) | assumption)
       obtain ⟨ad311, e311, hx311_0, hx311_1⟩ := at_T110 HR0.out x8_1 p311 q311
       cases e311
       replace hx311_0 := (HB.out.cell (World.block_lt_of_cell? w _ hx311_0)).trans hx311_0
       replace hx311_1 := (HB.out.cell (World.block_lt_of_cell? w _ hx311_1)).trans hx311_1
       replace p311 := eq_true p311
       replace q311 := eq_true q311
       go_wp2_with (first | ((first | ((with_reducible refine gate_callee (f := 115) rfl ?_); refine goesL_ (some 16) rfl rfl Tryd.func115 (by kernel_rfl) rfl #[.agg #[.string ((rd_T110 l0 x8_1).f0), .int .i64 ((rd_T110 l0 x8_1).f1)], .pointer A1_0] rfl el ?_) | ((with_reducible refine gate_calleeV _ rfl ?_); refine goesV_ (some 16) rfl rfl Tryd.func115 (by kernel_rfl) rfl #[.agg #[.string ((rd_T110 l0 x8_1).f0), .int .i64 ((rd_T110 l0 x8_1).f1)], .pointer A1_0] rfl rfl (by first | rfl | (simp <;> first | rfl | exact ⟨rfl, rfl⟩ | exact ⟨rfl, rfl, rfl⟩) | ((try simp only [List.map_toArray, List.map_cons, List.map_nil]); first | done | rfl | (simp only [List.length_drop, List.length_take]; rfl))) ?_)); (with_reducible refine (impl_symbolIndex_1_with.calls ((rd_T110 l0 x8_1).f0) ((rd_T110 l0 x8_1).f1) _ l1_0 true _ ?side1 A6.out).mono ?_); (case side1 => exact cq (Kd.C_below HR1_0.out HB.out)); rintro e w8 ⟨rfl, hb⟩; refine ⟨_, rfl, ?_⟩; have n0_ := am (below_step (hq HB.out) hb); clear HB; revert n0_; intro HB; (try clear hb); (try clear hb2); (try clear hgw); (try clear hk); (try clear hi)))
       go_ret
       exact ⟨by first | rfl | (simp [errW_none, errW_some] <;> rfl) | (simp [*, errW_none, errW_some] <;> rfl), by exact hq HB.out⟩
      ·replace c7 := Bool.eq_false_iff.mpr c7
       subst c7
       have H1 : (slices_IndexFunc_impl_Symbol_impl_Symbol_impl_symbolIndex_1.l0 k1 l0 (l0.length : Int) (wrap64 (x8_1 + 1)) l1_0) = some r := by rw [if_neg (show ¬ (false = true) by decide)] at H; exact H
       clear H
       have H := H1
       clear H1
       have H' := am H
       clear H
       have p311 : 0 ≤ (x8_1 : Int) := of_decide_eq_true (by first | (with_reducible assumption) | assumption)
       have q311 : x8_1 < (l0.length : Int) := of_decide_eq_true (by first | (with_reducible assumption) | assumption)
       obtain ⟨ad311, e311, hx311_0, hx311_1⟩ := at_T110 HR0.out x8_1 p311 q311
       cases e311
       replace hx311_0 := (HB.out.cell (World.block_lt_of_cell? w _ hx311_0)).trans hx311_0
       replace hx311_1 := (HB.out.cell (World.block_lt_of_cell? w _ hx311_1)).trans hx311_1
       replace p311 := eq_true p311
       replace q311 := eq_true q311
       go_wp2_with (first | ((first | ((with_reducible refine gate_callee (f := 115) rfl ?_); refine goesL_ (some 16) rfl rfl Tryd.func115 (by kernel_rfl) rfl #[.agg #[.string ((rd_T110 l0 x8_1).f0), .int .i64 ((rd_T110 l0 x8_1).f1)], .pointer A1_0] rfl el ?_) | ((with_reducible refine gate_calleeV _ rfl ?_); refine goesV_ (some 16) rfl rfl Tryd.func115 (by kernel_rfl) rfl #[.agg #[.string ((rd_T110 l0 x8_1).f0), .int .i64 ((rd_T110 l0 x8_1).f1)], .pointer A1_0] rfl rfl (by first | rfl | (simp <;> first | rfl | exact ⟨rfl, rfl⟩ | exact ⟨rfl, rfl, rfl⟩) | ((try simp only [List.map_toArray, List.map_cons, List.map_nil]); first | done | rfl | (simp only [List.length_drop, List.length_take]; rfl))) ?_)); (with_reducible refine (impl_symbolIndex_1_with.calls ((rd_T110 l0 x8_1).f0) ((rd_T110 l0 x8_1).f1) _ l1_0 false _ ?side1 A6.out).mono ?_); (case side1 => exact cq (Kd.C_below HR1_0.out HB.out)); rintro e w9 ⟨rfl, hb⟩; refine ⟨_, rfl, ?_⟩; have n0_ := am (below_step (hq HB.out) hb); clear HB; revert n0_; intro HB; (try clear hb); (try clear hb2); (try clear hgw); (try clear hk); (try clear hi)))
       go_roundg k1
       case measure => have := HK1.out; omega
       case rel => exact ⟨(wrap64 (x8_1 + 1)), (by first | rfl | (simp; done) | (simp [*]; done)), H', ⟨by have := HK1.out; omega⟩, ⟨by exact hq HB.out⟩⟩
     ·rw [if_neg c5] at H
      exact absurd H (by simp)
    ·rw [if_neg c4] at H
     exact absurd H (by simp)
   ·rw [if_neg c3] at H
    have c3b0 : decide (x8_1 < (l0.length : Int)) = false := decide_eq_false c3
    clear c3
    obtain rfl := Option.some.inj H
    go_wp2
    go_ret
    exact ⟨by first | rfl | (simp [errW_none, errW_some] <;> rfl) | (simp [*, errW_none, errW_some] <;> rfl), by exact hq HB.out⟩
def impl_symbolIndex.f (k : Nat) (l0_0 : List (S110)) (a1 : ByteArray) : Option (Int) := (slices_IndexFunc_impl_Symbol_impl_Symbol_impl_symbolIndex_1.f k l0_0 [a1]).bind fun t315 => (some t315)
set_option maxHeartbeats 8000000 in
set_option maxRecDepth 100000 in
theorem impl_symbolIndex.calls (k : Nat) (A0_0 : Option Addr) (c0_0 : Nat) (l0_0 : List (S110)) (a1 : ByteArray) (r : Int) (w : World) (hr0_0 : Kd.C k110 w A0_0 l0_0.length l0_0) (hc0_0 : l0_0.length ≤ c0_0) (h : impl_symbolIndex.f k l0_0 a1 = some r) :
  Calls Tryd.prog 84 #[.agg #[.slice A0_0 l0_0.length c0_0], .string a1] w fun e w' => e = .returned (.int .i64 r) ∧ Below w.heap.size w w' := by
 have hu26 := Tryd.underlying26
 have HR0_0 := am hr0_0
 have HC0_0 := am hc0_0
 clear hr0_0 hc0_0
 have HB := am (Below.refl w.heap.size w)
 have H : ((slices_IndexFunc_impl_Symbol_impl_Symbol_impl_symbolIndex_1.f k l0_0 [a1]).bind fun t315 => (some t315)) = some r := h
 clear h
 replace H := Option.bind_eq_some_iff.mp H
 obtain ⟨t315, A30, H⟩ := H
 replace H : (some t315) = some r := H
 have A3 := am A30
 clear A30
 obtain rfl := Option.some.inj H
 go_enter Tryd.func84, Tryd.ntmps84
 go_wp2_with (first | ((with_reducible refine gate_dst (N := 2) rfl ?_); refine box_event ?hg (N := 2) ?hd (cs := #[.slice A0_0 l0_0.length c0_0]) (t := 26) ?hr ?_; (case hd => rfl); (case hg => rfl); (case hr => first | (go_simp; done) | (go_simp; rfl)); intro gb313 hg w4 hbox hb; have n0_ := am (below_step (hq HB.out) hb); have n1_ := am (hbox); have n2_ := am (bz hg (hq HB.out)); have n3_ := n2_; clear HB; revert n0_ n1_ n2_ n3_; intro HB BK313 GW313 GE313; clear hb hbox hg) | ((with_reducible refine gate_dst (N := 3) rfl ?_); refine box_event ?hg (N := 3) ?hd (cs := #[.string a1]) (t := 9) ?hr ?_; (case hd => rfl); (case hg => rfl); (case hr => first | (go_simp; done) | (go_simp; rfl)); intro gb314 hg w5 hbox hb; have n0_ := am (blk_below (bq BK313.out) hb); have n1_ := am (below_step (hs HB.out) hb); have n2_ := am (hbox); have n3_ := am (bz hg (hs HB.out)); have n4_ := n3_; have n5_ := am ((by rw [hg]; exact Nat.ne_of_lt (blk_lt (bq BK313.out)) : gb313 ≠ gb314)); have n6_ := am ((by rw [hg]; exact Nat.ne_of_gt (blk_lt (bq BK313.out)) : gb314 ≠ gb313)); clear BK313 HB; revert n0_ n1_ n2_ n3_ n4_ n5_ n6_; intro BK313 HB BK314 GW314 GE314 NB313_314 NB314_313; clear hb hbox hg; have hnb6 := NB313_314.out; have hnc6 := NB314_313.out; have hcz7_0 : w5.cell? ⟨gb313, 0, none⟩ = some (.slice A0_0 l0_0.length c0_0) := (blk_cell BK313.out 0).trans rfl; have hfz7_0 := blk_frozen BK313.out 0) | ((with_reducible refine gate_callee (f := 114) rfl ?_); refine goesL_ (some 8) rfl rfl Tryd.func114 (by kernel_rfl) rfl #[.slice A0_0 l0_0.length c0_0, .func (.func 115) #[] #[.pointer (some ⟨gb314, 0, none⟩)]] rfl el ?_; (with_reducible refine (slices_IndexFunc_impl_Symbol_impl_Symbol_impl_symbolIndex_1.calls k _ _ l0_0 _ [a1] t315 _ ?side1 ?side2 ?side3 A3.out).mono ?_); (case side1 => exact cq (Kd.C_below HR0_0.out HB.out)); (case side2 => exact HC0_0.out); (case side3 => exact k9_box (bq BK314.out)); rintro e w8 ⟨rfl, hb⟩; refine ⟨_, rfl, ?_⟩; have n0_ := am (blk_below (bq BK313.out) hb); have n1_ := am (blk_below (bq BK314.out) hb); have n2_ := am (below_step (hs HB.out) hb); clear BK313 BK314 HB; revert n0_ n1_ n2_; intro BK313 BK314 HB; (try clear hb); (try clear hb2); (try clear hgw); (try clear hk); (try clear hi)))
 go_ret
 exact ⟨by first | rfl | (simp [errW_none, errW_some] <;> rfl) | (simp [*, errW_none, errW_some] <;> rfl), by exact hs HB.out⟩
def impl_SignatureFault_1.f (a0_0 : ByteArray) (a0_1 : Int) : Option (Bool) := some (a0_1 == 0)
set_option maxHeartbeats 8000000 in
set_option maxRecDepth 100000 in
theorem impl_SignatureFault_1.calls (a0_0 : ByteArray) (a0_1 : Int) (r : Bool) (w : World) (h : impl_SignatureFault_1.f a0_0 a0_1 = some r) :
  Calls Tryd.prog 86 #[.agg #[.string a0_0, .int .i64 a0_1]] w fun e w' => e = .returned (.bool r) ∧ Below w.heap.size w w' := by
 have hu110 := Tryd.underlying110
 have HB := am (Below.refl w.heap.size w)
 have H : (some (a0_1 == 0)) = some r := h
 clear h
 obtain rfl := Option.some.inj H
 go_enter Tryd.func86, Tryd.ntmps86
 go_wp2_with (first | ((with_reducible refine gate_dst (N := 1) rfl ?_); refine box_event ?hg (N := 1) ?hd (cs := #[.string a0_0, .int .i64 a0_1]) (t := 110) ?hr ?_; (case hd => rfl); (case hg => rfl); (case hr => first | (go_simp; done) | (go_simp; rfl)); intro gb316 hg w2 hbox hb; have n0_ := am (below_step (hq HB.out) hb); have n1_ := am (hbox); have n2_ := am (bz hg (hq HB.out)); have n3_ := n2_; clear HB; revert n0_ n1_ n2_ n3_; intro HB BK316 GW316 GE316; clear hb hbox hg; have hcz3_0 : w2.cell? ⟨gb316, 0, none⟩ = some (.string a0_0) := (blk_cell BK316.out 0).trans rfl; have hcz3_1 : w2.cell? ⟨gb316, 1, none⟩ = some (.int .i64 a0_1) := (blk_cell BK316.out 1).trans rfl; have hfz3_0 := blk_frozen BK316.out 0; have hfz3_1 := blk_frozen BK316.out 1))
 go_ret
 exact ⟨by first | rfl | (simp [errW_none, errW_some] <;> rfl) | (simp [*, errW_none, errW_some] <;> rfl), by exact hs HB.out⟩
end Go.Proofs.YtcanokiehjjbgaaDoor.P
namespace Go.Proofs.YtcanokiehjjbgaaDoor.P
open Go.RowKit Go.Proofs.YtcanokiehjjbgaaDoorW.PrintWords Go.Proofs.YtcanokiehjjbgaaDoorW.PrintLast Go.Proofs.YtcanokiehjjbgaaDoorW.PrintMore
attribute [local go_sem] max2_int min2_int max_two min_two max_three min_three max_four min_four   -- for this text's walks alone
set_option linter.unusedVariables false
set_option linter.unusedSimpArgs false
def slices_IndexFunc_impl_Symbol_impl_Symbol_impl_SignatureFault_1.l0 : Nat → List (S110) → Int → Int → Option (Int)
 | 0, _, _, _ => none
 | k + 1, x0, x7, x8 => if x8 < x7 then (if 0 ≤ x8 then (if x8 < (x0.length : Int) then ((impl_SignatureFault_1.f ((rd_T110 x0 x8).f0) ((rd_T110 x0 x8).f1)).bind fun t318 => (if t318 = true then (some x8) else (slices_IndexFunc_impl_Symbol_impl_Symbol_impl_SignatureFault_1.l0 k x0 x7 (wrap64 (x8 + 1))))) else (none)) else (none)) else (some (-1))
def slices_IndexFunc_impl_Symbol_impl_Symbol_impl_SignatureFault_1.f (k : Nat) (l0 : List (S110))  : Option (Int) := slices_IndexFunc_impl_Symbol_impl_Symbol_impl_SignatureFault_1.l0 k l0 (l0.length : Int) 0
set_option maxHeartbeats 8000000 in
set_option maxRecDepth 100000 in
theorem slices_IndexFunc_impl_Symbol_impl_Symbol_impl_SignatureFault_1.calls (k : Nat) (A0 : Option Addr) (c0 : Nat) (l0 : List (S110))  (r : Int) (w : World) (hr0 : Kd.C k110 w A0 l0.length l0) (hc0 : l0.length ≤ c0) (h : slices_IndexFunc_impl_Symbol_impl_Symbol_impl_SignatureFault_1.f k l0 = some r) :
  Calls Tryd.prog 114 #[.slice A0 l0.length c0, .func (.func 86) #[] #[]] w fun e w' => e = .returned (.int .i64 r) ∧ Below w.heap.size w w' := by
 have hu110 := Tryd.underlying110
 have HR0 := am hr0
 have HC0 := am hc0
 clear hr0 hc0
 have HB := am (Below.refl w.heap.size w)
 have H : (slices_IndexFunc_impl_Symbol_impl_Symbol_impl_SignatureFault_1.l0 k l0 (l0.length : Int) 0) = some r := h
 clear h
 have H' := am H
 clear H
 go_enter Tryd.func114, Tryd.ntmps114
 go_wp2
 go_loopg [8] k (fun kq v8 w' => ∃ (x8_1 : Int), v8 = .int .i64 x8_1 ∧ Aside0 (slices_IndexFunc_impl_Symbol_impl_Symbol_impl_SignatureFault_1.l0 kq l0 (l0.length : Int) x8_1 = some r) ∧ Aside0 (kq ≤ k) ∧ Aside0 (Below w.heap.size w w'))
 case atStart => exact ⟨(0), (by first | rfl | (simp; done) | (simp [*]; done)), H', ⟨Nat.le_refl _⟩, ⟨by exact hq HB.out⟩⟩
 case round =>
  clear H'
  try clear c1
  try clear p2
  obtain ⟨x8_1, rfl, HA, HK1, HB⟩ := hrel
  cases gk with
  | zero => exact absurd HA.out (by simp [slices_IndexFunc_impl_Symbol_impl_Symbol_impl_SignatureFault_1.l0])
  | succ k1 =>
   have H := HA.out
   clear HA
   simp only [slices_IndexFunc_impl_Symbol_impl_Symbol_impl_SignatureFault_1.l0] at H
   by_cases c3 : x8_1 < (l0.length : Int)
   ·rw [if_pos c3] at H
    have c3b0 : decide (x8_1 < (l0.length : Int)) = true := decide_eq_true c3
    clear c3
    by_cases c4 : 0 ≤ x8_1
    ·rw [if_pos c4] at H
     have c4b0 : decide (0 ≤ x8_1) = true := decide_eq_true c4
     clear c4
     by_cases c5 : x8_1 < (l0.length : Int)
     ·rw [if_pos c5] at H
      have c5b0 : decide (x8_1 < (l0.length : Int)) = true := decide_eq_true c5
      clear c5
      replace H := Option.bind_eq_some_iff.mp H
      obtain ⟨t318, A60, H⟩ := H
      replace H : (if t318 = true then (some x8_1) else (slices_IndexFunc_impl_Symbol_impl_Symbol_impl_SignatureFault_1.l0 k1 l0 (l0.length : Int) (wrap64 (x8_1 + 1)))) = some r := H
      have A6 := am A60
      clear A60
      by_cases c7 : t318 = true
      ·subst c7
       have H1 : (some x8_1) = some r := by rw [if_pos rfl] at H; exact H
       clear H
       have H := H1
       clear H1
       obtain rfl := Option.some.inj H
       have p317 : 0 ≤ (x8_1 : Int) := of_decide_eq_true (by first | (with_reducible assumption) | assumption)
       have q317 : x8_1 < (l0.length : Int) := of_decide_eq_true (by first | (with_reducible assumption) | assumption)
       obtain ⟨ad317, e317, hx317_0, hx317_1⟩ := at_T110 HR0.out x8_1 p317 q317
       cases e317
       replace hx317_0 := (HB.out.cell (World.block_lt_of_cell? w _ hx317_0)).trans hx317_0
       replace hx317_1 := (HB.out.cell (World.block_lt_of_cell? w _ hx317_1)).trans hx317_1
       replace p317 := eq_true p317
       replace q317 := eq_true q317
       go_wp2_with (first | ((first | ((with_reducible refine gate_callee (f := 86) rfl ?_); refine goesL_ (some 16) rfl rfl Tryd.func86 (by kernel_rfl) rfl #[.agg #[.string ((rd_T110 l0 x8_1).f0), .int .i64 ((rd_T110 l0 x8_1).f1)]] rfl el ?_) | ((with_reducible refine gate_calleeV _ rfl ?_); refine goesV_ (some 16) rfl rfl Tryd.func86 (by kernel_rfl) rfl #[.agg #[.string ((rd_T110 l0 x8_1).f0), .int .i64 ((rd_T110 l0 x8_1).f1)]] rfl rfl (by first | rfl | (simp <;> first | rfl | exact ⟨rfl, rfl⟩ | exact ⟨rfl, rfl, rfl⟩) | ((try simp only [List.map_toArray, List.map_cons, List.map_nil]); first | done | rfl | (simp only [List.length_drop, List.length_take]; rfl))) ?_)); (with_reducible refine (impl_SignatureFault_1.calls ((rd_T110 l0 x8_1).f0) ((rd_T110 l0 x8_1).f1) true _ A6.out).mono ?_); rintro e w8 ⟨rfl, hb⟩; refine ⟨_, rfl, ?_⟩; have n0_ := am (below_step (hq HB.out) hb); clear HB; revert n0_; intro HB; (try clear hb); (try clear hb2); (try clear hgw); (try clear hk); (try clear hi)))
       go_ret
       exact ⟨by first | rfl | (simp [errW_none, errW_some] <;> rfl) | (simp [*, errW_none, errW_some] <;> rfl), by exact hq HB.out⟩
      ·replace c7 := Bool.eq_false_iff.mpr c7
       subst c7
       have H1 : (slices_IndexFunc_impl_Symbol_impl_Symbol_impl_SignatureFault_1.l0 k1 l0 (l0.length : Int) (wrap64 (x8_1 + 1))) = some r := by rw [if_neg (show ¬ (false = true) by decide)] at H; exact H
       clear H
       have H := H1
       clear H1
       have H' := am H
       clear H
       have p317 : 0 ≤ (x8_1 : Int) := of_decide_eq_true (by first | (with_reducible assumption) | assumption)
       have q317 : x8_1 < (l0.length : Int) := of_decide_eq_true (by first | (with_reducible assumption) | assumption)
       obtain ⟨ad317, e317, hx317_0, hx317_1⟩ := at_T110 HR0.out x8_1 p317 q317
       cases e317
       replace hx317_0 := (HB.out.cell (World.block_lt_of_cell? w _ hx317_0)).trans hx317_0
       replace hx317_1 := (HB.out.cell (World.block_lt_of_cell? w _ hx317_1)).trans hx317_1
       replace p317 := eq_true p317
       replace q317 := eq_true q317
       go_wp2_with (first | ((first | ((with_reducible refine gate_callee (f := 86) rfl ?_); refine goesL_ (some 16) rfl rfl Tryd.func86 (by kernel_rfl) rfl #[.agg #[.string ((rd_T110 l0 x8_1).f0), .int .i64 ((rd_T110 l0 x8_1).f1)]] rfl el ?_) | ((with_reducible refine gate_calleeV _ rfl ?_); refine goesV_ (some 16) rfl rfl Tryd.func86 (by kernel_rfl) rfl #[.agg #[.string ((rd_T110 l0 x8_1).f0), .int .i64 ((rd_T110 l0 x8_1).f1)]] rfl rfl (by first | rfl | (simp <;> first | rfl | exact ⟨rfl, rfl⟩ | exact ⟨rfl, rfl, rfl⟩) | ((try simp only [List.map_toArray, List.map_cons, List.map_nil]); first | done | rfl | (simp only [List.length_drop, List.length_take]; rfl))) ?_)); (with_reducible refine (impl_SignatureFault_1.calls ((rd_T110 l0 x8_1).f0) ((rd_T110 l0 x8_1).f1) false _ A6.out).mono ?_); rintro e w9 ⟨rfl, hb⟩; refine ⟨_, rfl, ?_⟩; have n0_ := am (below_step (hq HB.out) hb); clear HB; revert n0_; intro HB; (try clear hb); (try clear hb2); (try clear hgw); (try clear hk); (try clear hi)))
       go_roundg k1
       case measure => have := HK1.out; omega
       case rel => exact ⟨(wrap64 (x8_1 + 1)), (by first | rfl | (simp; done) | (simp [*]; done)), H', ⟨by have := HK1.out; omega⟩, ⟨by exact hq HB.out⟩⟩
     ·rw [if_neg c5] at H
      exact absurd H (by simp)
    ·rw [if_neg c4] at H
     exact absurd H (by simp)
   ·rw [if_neg c3] at H
    have c3b0 : decide (x8_1 < (l0.length : Int)) = false := decide_eq_false c3
    clear c3
    obtain rfl := Option.some.inj H
    go_wp2
    go_ret
    exact ⟨by first | rfl | (simp [errW_none, errW_some] <;> rfl) | (simp [*, errW_none, errW_some] <;> rfl), by exact hq HB.out⟩
def slices_ContainsFunc_impl_Symbol_impl_Symbol_impl_SignatureFault_1.f (k : Nat) (l0 : List (S110))  : Option (Bool) := (slices_IndexFunc_impl_Symbol_impl_Symbol_impl_SignatureFault_1.f k l0).bind fun t319 => (some (decide (t319 ≥ 0)))
set_option maxHeartbeats 8000000 in
set_option maxRecDepth 100000 in
theorem slices_ContainsFunc_impl_Symbol_impl_Symbol_impl_SignatureFault_1.calls (k : Nat) (A0 : Option Addr) (c0 : Nat) (l0 : List (S110))  (r : Bool) (w : World) (hr0 : Kd.C k110 w A0 l0.length l0) (hc0 : l0.length ≤ c0) (h : slices_ContainsFunc_impl_Symbol_impl_Symbol_impl_SignatureFault_1.f k l0 = some r) :
  Calls Tryd.prog 85 #[.slice A0 l0.length c0, .func (.func 86) #[] #[]] w fun e w' => e = .returned (.bool r) ∧ Below w.heap.size w w' := by
 have HR0 := am hr0
 have HC0 := am hc0
 clear hr0 hc0
 have HB := am (Below.refl w.heap.size w)
 have H : ((slices_IndexFunc_impl_Symbol_impl_Symbol_impl_SignatureFault_1.f k l0).bind fun t319 => (some (decide (t319 ≥ 0)))) = some r := h
 clear h
 replace H := Option.bind_eq_some_iff.mp H
 obtain ⟨t319, A30, H⟩ := H
 replace H : (some (decide (t319 ≥ 0))) = some r := H
 have A3 := am A30
 clear A30
 obtain rfl := Option.some.inj H
 go_enter Tryd.func85, Tryd.ntmps85
 go_wp2_with (first | ((with_reducible refine gate_callee (f := 114) rfl ?_); refine goesL_ (some 7) rfl rfl Tryd.func114 (by kernel_rfl) rfl #[.slice A0 l0.length c0, .func (.func 86) #[] #[]] rfl el ?_; (with_reducible refine (slices_IndexFunc_impl_Symbol_impl_Symbol_impl_SignatureFault_1.calls k _ _ l0  t319 _ ?side1 ?side2 A3.out).mono ?_); (case side1 => exact cq HR0.out); (case side2 => exact HC0.out); rintro e w4 ⟨rfl, hb⟩; refine ⟨_, rfl, ?_⟩; have n0_ := am (below_step (hq HB.out) hb); clear HB; revert n0_; intro HB; (try clear hb); (try clear hb2); (try clear hgw); (try clear hk); (try clear hi)))
 go_ret
 exact ⟨by first | rfl | (simp [errW_none, errW_some] <;> rfl) | (simp [*, errW_none, errW_some] <;> rfl), by exact hq HB.out⟩
mutual
def impl_SignatureFault.j0 : Nat → Bool → List (S110) → Option (Int)
 | 0, _, _ => none
 | k + 1, x16, x321000 => if x16 = true then (some 2) else (impl_SignatureFault.l0 k x321000 (x321000.length : Int) 0 x321000)
def impl_SignatureFault.l0 : Nat → List (S110) → Int → Int → List (S110) → Option (Int)
 | 0, _, _, _, _ => none
 | k + 1, x18, x19, x20, x321000 => if x20 < x19 then (if 0 ≤ x20 then (if x20 < (x18.length : Int) then ((impl_isName.f ((rd_T110 x18 x20).f0)).bind fun t323 => (if t323 = true then ((impl_within.f ((rd_T110 x18 x20).f1) 0 2).bind fun t324 => (if t324 = true then (impl_SignatureFault.l0 k x18 x19 (wrap64 (x20 + 1)) x321000) else (some 3))) else (some 5))) else (none)) else (none)) else (impl_SignatureFault.l1 k x321000 (x321000.length : Int) 0 x321000)
def impl_SignatureFault.l1 : Nat → List (S110) → Int → Int → List (S110) → Option (Int)
 | 0, _, _, _, _ => none
 | k + 1, x34, x35, x36, x321000 => if x36 < x35 then (if 0 ≤ x36 then (if x36 < (x34.length : Int) then ((impl_symbolIndex.f k x321000 ((rd_T110 x34 x36).f0)).bind fun t327 => (if t327 = x36 then (impl_SignatureFault.l1 k x34 x35 (wrap64 (x36 + 1)) x321000) else (some 6))) else (none)) else (none)) else ((slices_ContainsFunc_impl_Symbol_impl_Symbol_impl_SignatureFault_1.f k x321000).bind fun t328 => (if t328 = true then (some 0) else (some 4)))
end
def impl_SignatureFault.f (k : Nat) (l0_0 : List (S110)) : Option (Int) := if (l0_0.length : Int) < 1 then (impl_SignatureFault.j0 k true l0_0) else (impl_SignatureFault.j0 k (decide ((l0_0.length : Int) > 6)) l0_0)
set_option maxHeartbeats 8000000 in
set_option maxRecDepth 100000 in
theorem impl_SignatureFault.calls (k : Nat) (A0_0 : Option Addr) (c0_0 : Nat) (l0_0 : List (S110)) (r : Int) (w : World) (hr0_0 : Kd.C k110 w A0_0 l0_0.length l0_0) (hc0_0 : l0_0.length ≤ c0_0) (h : impl_SignatureFault.f k l0_0 = some r) :
  Calls Tryd.prog 46 #[.agg #[.slice A0_0 l0_0.length c0_0]] w fun e w' => e = .returned (.int .i64 r) ∧ Below w.heap.size w w' := by
 have hu26 := Tryd.underlying26
 have hu110 := Tryd.underlying110
 have HR0_0 := am hr0_0
 have HC0_0 := am hc0_0
 clear hr0_0 hc0_0
 have HB := am (Below.refl w.heap.size w)
 have H : (if (l0_0.length : Int) < 1 then (impl_SignatureFault.j0 k true l0_0) else (impl_SignatureFault.j0 k (decide ((l0_0.length : Int) > 6)) l0_0)) = some r := h
 clear h
 have HC2 := am H
 clear H
 go_enter Tryd.func46, Tryd.ntmps46
 go_upto_region 1 with (first | ((with_reducible refine gate_dst (N := 1) rfl ?_); (try (refine gate_guard (by rfl) ?_; dsimp only)); refine box_event ?hg (N := 1) ?hd (cs := #[.slice A0_0 l0_0.length c0_0]) (t := 26) ?hr ?_; (case hd => rfl); (case hg => rfl); (case hr => first | (go_simp; done) | (go_simp; rfl)); intro gb320 hg w3 hbox hb; have n0_ := am (below_step (hq HB.out) hb); have n1_ := am (hbox); have n2_ := am (bz hg (hq HB.out)); have n3_ := n2_; clear HB; revert n0_ n1_ n2_ n3_; intro HB BK320 GW320 GE320; clear hb hbox hg))
 (try simp only [Act.put, lsp])
 go_cut [16] (fun v16 wc => ∃ (kq : Nat) (x16_1 : Bool), v16 = .bool x16_1 ∧ Aside0 (impl_SignatureFault.j0 kq x16_1 l0_0 = some r) ∧ Aside0 (kq ≤ k) ∧ Aside0 (wc.heap[gb320]? = some (.cells #[(.slice A0_0 l0_0.length c0_0)] 26 (0, 0))) ∧ Aside0 (Below w.heap.size w wc))
 case first =>
  have H := HC2.out
  clear HC2
  by_cases c4 : (l0_0.length : Int) < 1
  ·rw [if_pos c4] at H
   have c4b0 : decide ((l0_0.length : Int) < 1) = true := decide_eq_true c4
   have c4b1 : decide (l0_0.length < 1) = true := decide_eq_true (by omega)
   clear c4
   (first | rw [c4b0] | (simp only [i64_w, i32_w]; rw [c4b0]) | skip)
   have H' := am H
   clear H
   have hcz5_0 : w3.cell? ⟨gb320, 0, none⟩ = some (.slice A0_0 l0_0.length c0_0) := (blk_cell BK320.out 0).trans rfl
   have hfz5_0 := blk_frozen BK320.out 0
   go_wp2
   go_meet
   case rel => exact ⟨_, (true), (by first | rfl | (simp; done) | (simp [*]; done)), H', ⟨by first | omega | exact Nat.le_refl _⟩, ⟨by refine bq ?_; exact BK320.out⟩, ⟨by exact hs HB.out⟩⟩
  ·rw [if_neg c4] at H
   have c4b0 : decide ((l0_0.length : Int) < 1) = false := decide_eq_false c4
   have c4b1 : decide (l0_0.length < 1) = false := decide_eq_false (by omega)
   clear c4
   (first | rw [c4b0] | (simp only [i64_w, i32_w]; rw [c4b0]) | skip)
   have H' := am H
   clear H
   have hcz6_0 : w3.cell? ⟨gb320, 0, none⟩ = some (.slice A0_0 l0_0.length c0_0) := (blk_cell BK320.out 0).trans rfl
   have hfz6_0 := blk_frozen BK320.out 0
   go_wp2
   go_meet
   case rel => exact ⟨_, (decide ((l0_0.length : Int) > 6)), (by first | rfl | (simp; done) | (simp [*]; done)), H', ⟨by first | omega | exact Nat.le_refl _⟩, ⟨by refine bq ?_; exact BK320.out⟩, ⟨by exact hs HB.out⟩⟩
 case rest =>
  clear HC2
  try clear p2
  try clear c4
  try clear c4b0
  try clear c4b1
  try clear hcz5_0
  try clear hcz6_0
  try clear hfz5_0
  try clear hfz6_0
  obtain ⟨kq, x16_1, rfl, HA, HJ1, BK320, HB⟩ := hcut
  cases kq with
  | zero => exact absurd HA.out (by simp [impl_SignatureFault.j0])
  | succ kj1 =>
   have H := HA.out
   clear HA
   simp only [impl_SignatureFault.j0] at H
   by_cases c7 : x16_1 = true
   ·subst c7
    have H1 : (some 2) = some r := by rw [if_pos rfl] at H; exact H
    clear H
    have H := H1
    clear H1
    obtain rfl := Option.some.inj H
    go_wp2
    go_ret
    exact ⟨by first | rfl | (simp [errW_none, errW_some] <;> rfl) | (simp [*, errW_none, errW_some] <;> rfl), by exact hs HB.out⟩
   ·replace c7 := Bool.eq_false_iff.mpr c7
    subst c7
    have H1 : (impl_SignatureFault.l0 kj1 l0_0 (l0_0.length : Int) 0 l0_0) = some r := by rw [if_neg (show ¬ (false = true) by decide)] at H; exact H
    clear H
    have H := H1
    clear H1
    have H' := am H
    clear H
    have hcz8_0 : wc.cell? ⟨gb320, 0, none⟩ = some (.slice A0_0 l0_0.length c0_0) := (blk_cell BK320.out 0).trans rfl
    have hfz8_0 := blk_frozen BK320.out 0
    go_wp2
    go_loopg [20] kj1 (fun kq v20 w' => ∃ (x20_2 : Int), v20 = .int .i64 x20_2 ∧ Aside0 (impl_SignatureFault.l0 kq l0_0 (l0_0.length : Int) x20_2 l0_0 = some r) ∧ Aside0 (kq ≤ kj1) ∧ Aside0 (w'.heap[gb320]? = some (.cells #[(.slice A0_0 l0_0.length c0_0)] 26 (0, 0))) ∧ Aside0 (Below w.heap.size w w'))
    case atStart => exact ⟨(0), (by first | rfl | (simp; done) | (simp [*]; done)), H', ⟨Nat.le_refl _⟩, ⟨by refine bq ?_; exact BK320.out⟩, ⟨by exact hs HB.out⟩⟩
    case round =>
     clear H'
     try clear p2
     try clear c4
     try clear c4b0
     try clear c4b1
     try clear c7
     try clear hcz5_0
     try clear hcz6_0
     try clear hcz8_0
     try clear hfz5_0
     try clear hfz6_0
     try clear hfz8_0
     try clear p2
     obtain ⟨x20_2, rfl, HA, HK2, BK320, HB⟩ := hrel
     cases gk with
     | zero => exact absurd HA.out (by simp [impl_SignatureFault.l0])
     | succ k2 =>
      have H := HA.out
      clear HA
      simp only [impl_SignatureFault.l0] at H
      by_cases c9 : x20_2 < (l0_0.length : Int)
      ·rw [if_pos c9] at H
       have c9b0 : decide (x20_2 < (l0_0.length : Int)) = true := decide_eq_true c9
       clear c9
       by_cases c10 : 0 ≤ x20_2
       ·rw [if_pos c10] at H
        have c10b0 : decide (0 ≤ x20_2) = true := decide_eq_true c10
        clear c10
        by_cases c11 : x20_2 < (l0_0.length : Int)
        ·rw [if_pos c11] at H
         have c11b0 : decide (x20_2 < (l0_0.length : Int)) = true := decide_eq_true c11
         clear c11
         replace H := Option.bind_eq_some_iff.mp H
         obtain ⟨t323, A120, H⟩ := H
         replace H : (if t323 = true then ((impl_within.f ((rd_T110 l0_0 x20_2).f1) 0 2).bind fun t324 => (if t324 = true then (impl_SignatureFault.l0 k2 l0_0 (l0_0.length : Int) (wrap64 (x20_2 + 1)) l0_0) else (some 3))) else (some 5)) = some r := H
         have A12 := am A120
         clear A120
         by_cases c13 : t323 = true
         ·subst c13
          have H1 : ((impl_within.f ((rd_T110 l0_0 x20_2).f1) 0 2).bind fun t324 => (if t324 = true then (impl_SignatureFault.l0 k2 l0_0 (l0_0.length : Int) (wrap64 (x20_2 + 1)) l0_0) else (some 3))) = some r := by rw [if_pos rfl] at H; exact H
          clear H
          have H := H1
          clear H1
          replace H := Option.bind_eq_some_iff.mp H
          obtain ⟨t324, A140, H⟩ := H
          replace H : (if t324 = true then (impl_SignatureFault.l0 k2 l0_0 (l0_0.length : Int) (wrap64 (x20_2 + 1)) l0_0) else (some 3)) = some r := H
          have A14 := am A140
          clear A140
          by_cases c15 : t324 = true
          ·subst c15
           have H1 : (impl_SignatureFault.l0 k2 l0_0 (l0_0.length : Int) (wrap64 (x20_2 + 1)) l0_0) = some r := by rw [if_pos rfl] at H; exact H
           clear H
           have H := H1
           clear H1
           have H' := am H
           clear H
           have p321 : 0 ≤ (x20_2 : Int) := of_decide_eq_true (by first | (with_reducible assumption) | assumption)
           have q321 : x20_2 < (l0_0.length : Int) := of_decide_eq_true (by first | (with_reducible assumption) | assumption)
           obtain ⟨ad321, e321, hx321_0, hx321_1⟩ := at_T110 HR0_0.out x20_2 p321 q321
           cases e321
           replace hx321_0 := (HB.out.cell (World.block_lt_of_cell? w _ hx321_0)).trans hx321_0
           replace hx321_1 := (HB.out.cell (World.block_lt_of_cell? w _ hx321_1)).trans hx321_1
           replace p321 := eq_true p321
           replace q321 := eq_true q321
           go_wp2_with (first | ((with_reducible refine gate_dst (N := 4) rfl ?_); (try (refine gate_guard (by rfl) ?_; dsimp only)); refine box_event ?hg (N := 4) ?hd (cs := #[.string (⟨#[]⟩ : ByteArray), .int .i64 0]) (t := 110) ?hr ?_; (case hd => rfl); (case hg => rfl); (case hr => first | (go_simp; done) | (go_simp; rfl)); intro gb322 hg w16 hbox hb; have n0_ := am (blk_below (bq BK320.out) hb); have n1_ := am (below_step (hs HB.out) hb); have n2_ := am (hbox); have n3_ := am (bz hg (hs HB.out)); have n4_ := n3_; have n5_ := am ((by rw [hg]; exact Nat.ne_of_lt (blk_lt (bq BK320.out)) : gb320 ≠ gb322)); have n6_ := am ((by rw [hg]; exact Nat.ne_of_gt (blk_lt (bq BK320.out)) : gb322 ≠ gb320)); clear BK320 HB; revert n0_ n1_ n2_ n3_ n4_ n5_ n6_; intro BK320 HB BK322 GW322 GE322 NB320_322 NB322_320; clear hb hbox hg; have hnb17 := NB322_320.out; have hnc17 := NB320_322.out; have hcz18_0 : w16.cell? ⟨gb322, 0, none⟩ = some (.string (⟨#[]⟩ : ByteArray)) := (blk_cell BK322.out 0).trans rfl; have hcz18_1 : w16.cell? ⟨gb322, 1, none⟩ = some (.int .i64 0) := (blk_cell BK322.out 1).trans rfl; have hfz18_0 := blk_frozen BK322.out 0; have hfz18_1 := blk_frozen BK322.out 1) | ((with_reducible refine gate_callee (f := 82) rfl ?_); refine goesL_ (some 26) rfl rfl Tryd.func82 (by kernel_rfl) rfl #[.string ((rd_T110 l0_0 x20_2).f0)] rfl el ?_; (with_reducible refine (impl_isName.calls ((rd_T110 l0_0 x20_2).f0) true _ A12.out).mono ?_); rintro e w19 ⟨rfl, hb⟩; refine ⟨_, rfl, ?_⟩; have n0_ := am (blk_below (g := gb320) (o := .cells #[.slice (some ad321) l0_0.length c0_0] 26 (0, 0)) (by refine bq ?_; refine blk_far ?_ NB320_322.out _; refine bq ?_; refine blk_far ?_ NB320_322.out _; refine bq ?_; exact BK320.out) hb); have n1_ := am (blk_below (g := gb322) (o := .cells #[.string ((rd_T110 l0_0 x20_2).f0), .int .i64 ((rd_T110 l0_0 x20_2).f1)] 110 (0, 0)) (by refine bq ?_; refine blk_put (cs := #[.string ((rd_T110 l0_0 x20_2).f0), .int .i64 0]) ?_ 1 _ rfl; refine bq ?_; refine blk_put (cs := #[.string (⟨#[]⟩ : ByteArray), .int .i64 0]) ?_ 0 _ rfl; refine bq ?_; exact BK322.out) hb); have n2_ := am (below_step (hs HB.out) hb); clear BK320 BK322 HB; revert n0_ n1_ n2_; intro BK320 BK322 HB; (try clear hb); (try clear hb2); (try clear hgw); (try clear hk); (try clear hi); have hcz20_0 : w19.cell? ⟨gb322, 0, none⟩ = some (.string ((rd_T110 l0_0 x20_2).f0)) := (blk_cell BK322.out 0).trans rfl; have hcz20_1 : w19.cell? ⟨gb322, 1, none⟩ = some (.int .i64 ((rd_T110 l0_0 x20_2).f1)) := (blk_cell BK322.out 1).trans rfl; have hfz20_0 := blk_frozen BK322.out 0; have hfz20_1 := blk_frozen BK322.out 1) | ((with_reducible refine gate_callee (f := 83) rfl ?_); refine goesL_ (some 30) rfl rfl Tryd.func83 (by kernel_rfl) rfl #[.int .i64 ((rd_T110 l0_0 x20_2).f1), .int .i64 0, .int .i64 2] rfl el ?_; (with_reducible refine (impl_within.calls ((rd_T110 l0_0 x20_2).f1) 0 2 true _ A14.out).mono ?_); rintro e w' ⟨rfl, ⟨nd, rfl⟩⟩; refine ⟨_, rfl, ?_⟩))
           go_roundg k2
           case measure => have := HJ1.out; have := HK2.out; omega
           case rel => exact ⟨(wrap64 (x20_2 + 1)), (by first | rfl | (simp; done) | (simp [*]; done)), H', ⟨by have := HJ1.out; have := HK2.out; omega⟩, ⟨by refine bq ?_; exact BK320.out⟩, ⟨by exact hs HB.out⟩⟩
          ·replace c15 := Bool.eq_false_iff.mpr c15
           subst c15
           have H1 : (some 3) = some r := by rw [if_neg (show ¬ (false = true) by decide)] at H; exact H
           clear H
           have H := H1
           clear H1
           obtain rfl := Option.some.inj H
           have p321 : 0 ≤ (x20_2 : Int) := of_decide_eq_true (by first | (with_reducible assumption) | assumption)
           have q321 : x20_2 < (l0_0.length : Int) := of_decide_eq_true (by first | (with_reducible assumption) | assumption)
           obtain ⟨ad321, e321, hx321_0, hx321_1⟩ := at_T110 HR0_0.out x20_2 p321 q321
           cases e321
           replace hx321_0 := (HB.out.cell (World.block_lt_of_cell? w _ hx321_0)).trans hx321_0
           replace hx321_1 := (HB.out.cell (World.block_lt_of_cell? w _ hx321_1)).trans hx321_1
           replace p321 := eq_true p321
           replace q321 := eq_true q321
           go_wp2_with (first | ((with_reducible refine gate_dst (N := 4) rfl ?_); (try (refine gate_guard (by rfl) ?_; dsimp only)); refine box_event ?hg (N := 4) ?hd (cs := #[.string (⟨#[]⟩ : ByteArray), .int .i64 0]) (t := 110) ?hr ?_; (case hd => rfl); (case hg => rfl); (case hr => first | (go_simp; done) | (go_simp; rfl)); intro gb322 hg w21 hbox hb; have n0_ := am (blk_below (bq BK320.out) hb); have n1_ := am (below_step (hs HB.out) hb); have n2_ := am (hbox); have n3_ := am (bz hg (hs HB.out)); have n4_ := n3_; have n5_ := am ((by rw [hg]; exact Nat.ne_of_lt (blk_lt (bq BK320.out)) : gb320 ≠ gb322)); have n6_ := am ((by rw [hg]; exact Nat.ne_of_gt (blk_lt (bq BK320.out)) : gb322 ≠ gb320)); clear BK320 HB; revert n0_ n1_ n2_ n3_ n4_ n5_ n6_; intro BK320 HB BK322 GW322 GE322 NB320_322 NB322_320; clear hb hbox hg; have hnb22 := NB322_320.out; have hnc22 := NB320_322.out; have hcz23_0 : w21.cell? ⟨gb322, 0, none⟩ = some (.string (⟨#[]⟩ : ByteArray)) := (blk_cell BK322.out 0).trans rfl; have hcz23_1 : w21.cell? ⟨gb322, 1, none⟩ = some (.int .i64 0) := (blk_cell BK322.out 1).trans rfl; have hfz23_0 := blk_frozen BK322.out 0; have hfz23_1 := blk_frozen BK322.out 1) | ((with_reducible refine gate_callee (f := 82) rfl ?_); refine goesL_ (some 26) rfl rfl Tryd.func82 (by kernel_rfl) rfl #[.string ((rd_T110 l0_0 x20_2).f0)] rfl el ?_; (with_reducible refine (impl_isName.calls ((rd_T110 l0_0 x20_2).f0) true _ A12.out).mono ?_); rintro e w24 ⟨rfl, hb⟩; refine ⟨_, rfl, ?_⟩; have n0_ := am (blk_below (g := gb320) (o := .cells #[.slice (some ad321) l0_0.length c0_0] 26 (0, 0)) (by refine bq ?_; refine blk_far ?_ NB320_322.out _; refine bq ?_; refine blk_far ?_ NB320_322.out _; refine bq ?_; exact BK320.out) hb); have n1_ := am (blk_below (g := gb322) (o := .cells #[.string ((rd_T110 l0_0 x20_2).f0), .int .i64 ((rd_T110 l0_0 x20_2).f1)] 110 (0, 0)) (by refine bq ?_; refine blk_put (cs := #[.string ((rd_T110 l0_0 x20_2).f0), .int .i64 0]) ?_ 1 _ rfl; refine bq ?_; refine blk_put (cs := #[.string (⟨#[]⟩ : ByteArray), .int .i64 0]) ?_ 0 _ rfl; refine bq ?_; exact BK322.out) hb); have n2_ := am (below_step (hs HB.out) hb); clear BK320 BK322 HB; revert n0_ n1_ n2_; intro BK320 BK322 HB; (try clear hb); (try clear hb2); (try clear hgw); (try clear hk); (try clear hi); have hcz25_0 : w24.cell? ⟨gb322, 0, none⟩ = some (.string ((rd_T110 l0_0 x20_2).f0)) := (blk_cell BK322.out 0).trans rfl; have hcz25_1 : w24.cell? ⟨gb322, 1, none⟩ = some (.int .i64 ((rd_T110 l0_0 x20_2).f1)) := (blk_cell BK322.out 1).trans rfl; have hfz25_0 := blk_frozen BK322.out 0; have hfz25_1 := blk_frozen BK322.out 1) | ((with_reducible refine gate_callee (f := 83) rfl ?_); refine goesL_ (some 30) rfl rfl Tryd.func83 (by kernel_rfl) rfl #[.int .i64 ((rd_T110 l0_0 x20_2).f1), .int .i64 0, .int .i64 2] rfl el ?_; (with_reducible refine (impl_within.calls ((rd_T110 l0_0 x20_2).f1) 0 2 false _ A14.out).mono ?_); rintro e w' ⟨rfl, ⟨nd, rfl⟩⟩; refine ⟨_, rfl, ?_⟩))
           go_ret
           exact ⟨by first | rfl | (simp [errW_none, errW_some] <;> rfl) | (simp [*, errW_none, errW_some] <;> rfl), by exact hs HB.out⟩
         ·replace c13 := Bool.eq_false_iff.mpr c13
          subst c13
          have H1 : (some 5) = some r := by rw [if_neg (show ¬ (false = true) by decide)] at H; exact H
          clear H
          have H := H1
          clear H1
          obtain rfl := Option.some.inj H
          have p321 : 0 ≤ (x20_2 : Int) := of_decide_eq_true (by first | (with_reducible assumption) | assumption)
          have q321 : x20_2 < (l0_0.length : Int) := of_decide_eq_true (by first | (with_reducible assumption) | assumption)
          obtain ⟨ad321, e321, hx321_0, hx321_1⟩ := at_T110 HR0_0.out x20_2 p321 q321
          cases e321
          replace hx321_0 := (HB.out.cell (World.block_lt_of_cell? w _ hx321_0)).trans hx321_0
          replace hx321_1 := (HB.out.cell (World.block_lt_of_cell? w _ hx321_1)).trans hx321_1
          replace p321 := eq_true p321
          replace q321 := eq_true q321
          go_wp2_with (first | ((with_reducible refine gate_dst (N := 4) rfl ?_); (try (refine gate_guard (by rfl) ?_; dsimp only)); refine box_event ?hg (N := 4) ?hd (cs := #[.string (⟨#[]⟩ : ByteArray), .int .i64 0]) (t := 110) ?hr ?_; (case hd => rfl); (case hg => rfl); (case hr => first | (go_simp; done) | (go_simp; rfl)); intro gb322 hg w26 hbox hb; have n0_ := am (blk_below (bq BK320.out) hb); have n1_ := am (below_step (hs HB.out) hb); have n2_ := am (hbox); have n3_ := am (bz hg (hs HB.out)); have n4_ := n3_; have n5_ := am ((by rw [hg]; exact Nat.ne_of_lt (blk_lt (bq BK320.out)) : gb320 ≠ gb322)); have n6_ := am ((by rw [hg]; exact Nat.ne_of_gt (blk_lt (bq BK320.out)) : gb322 ≠ gb320)); clear BK320 HB; revert n0_ n1_ n2_ n3_ n4_ n5_ n6_; intro BK320 HB BK322 GW322 GE322 NB320_322 NB322_320; clear hb hbox hg; have hnb27 := NB322_320.out; have hnc27 := NB320_322.out; have hcz28_0 : w26.cell? ⟨gb322, 0, none⟩ = some (.string (⟨#[]⟩ : ByteArray)) := (blk_cell BK322.out 0).trans rfl; have hcz28_1 : w26.cell? ⟨gb322, 1, none⟩ = some (.int .i64 0) := (blk_cell BK322.out 1).trans rfl; have hfz28_0 := blk_frozen BK322.out 0; have hfz28_1 := blk_frozen BK322.out 1) | ((with_reducible refine gate_callee (f := 82) rfl ?_); refine goesL_ (some 26) rfl rfl Tryd.func82 (by kernel_rfl) rfl #[.string ((rd_T110 l0_0 x20_2).f0)] rfl el ?_; (with_reducible refine (impl_isName.calls ((rd_T110 l0_0 x20_2).f0) false _ A12.out).mono ?_); rintro e w29 ⟨rfl, hb⟩; refine ⟨_, rfl, ?_⟩; have n0_ := am (blk_below (g := gb320) (o := .cells #[.slice (some ad321) l0_0.length c0_0] 26 (0, 0)) (by refine bq ?_; refine blk_far ?_ NB320_322.out _; refine bq ?_; refine blk_far ?_ NB320_322.out _; refine bq ?_; exact BK320.out) hb); have n1_ := am (blk_below (g := gb322) (o := .cells #[.string ((rd_T110 l0_0 x20_2).f0), .int .i64 ((rd_T110 l0_0 x20_2).f1)] 110 (0, 0)) (by refine bq ?_; refine blk_put (cs := #[.string ((rd_T110 l0_0 x20_2).f0), .int .i64 0]) ?_ 1 _ rfl; refine bq ?_; refine blk_put (cs := #[.string (⟨#[]⟩ : ByteArray), .int .i64 0]) ?_ 0 _ rfl; refine bq ?_; exact BK322.out) hb); have n2_ := am (below_step (hs HB.out) hb); clear BK320 BK322 HB; revert n0_ n1_ n2_; intro BK320 BK322 HB; (try clear hb); (try clear hb2); (try clear hgw); (try clear hk); (try clear hi)))
          go_ret
          exact ⟨by first | rfl | (simp [errW_none, errW_some] <;> rfl) | (simp [*, errW_none, errW_some] <;> rfl), by exact hs HB.out⟩
        ·rw [if_neg c11] at H
         exact absurd H (by simp)
       ·rw [if_neg c10] at H
        exact absurd H (by simp)
      ·rw [if_neg c9] at H
       have c9b0 : decide (x20_2 < (l0_0.length : Int)) = false := decide_eq_false c9
       clear c9
       have H' := am H
       clear H
       have hcz30_0 : wr.cell? ⟨gb320, 0, none⟩ = some (.slice A0_0 l0_0.length c0_0) := (blk_cell BK320.out 0).trans rfl
       have hfz30_0 := blk_frozen BK320.out 0
       go_wp2
       go_loopg [36] k2 (fun kq v36 w' => ∃ (x36_3 : Int), v36 = .int .i64 x36_3 ∧ Aside0 (impl_SignatureFault.l1 kq l0_0 (l0_0.length : Int) x36_3 l0_0 = some r) ∧ Aside0 (kq ≤ k2) ∧ Aside0 (w'.heap[gb320]? = some (.cells #[(.slice A0_0 l0_0.length c0_0)] 26 (0, 0))) ∧ Aside0 (Below w.heap.size w w'))
       case atStart => exact ⟨(0), (by first | rfl | (simp; done) | (simp [*]; done)), H', ⟨Nat.le_refl _⟩, ⟨by refine bq ?_; exact BK320.out⟩, ⟨by exact hs HB.out⟩⟩
       case round =>
        clear H'
        try clear c1
        try clear c2
        try clear p2
        try clear p3
        try clear q3
        try clear hx3
        try clear c4
        try clear c4b0
        try clear c4b1
        try clear p6
        try clear c7
        try clear c8
        try clear c9
        try clear c9b0
        try clear c10
        try clear c10b0
        try clear c11
        try clear c11b0
        try clear c13
        try clear c15
        try clear c17
        try clear c22
        try clear c27
        try clear hcz18_0
        try clear hcz18_1
        try clear hcz20_0
        try clear hcz20_1
        try clear hcz23_0
        try clear hcz23_1
        try clear hcz25_0
        try clear hcz25_1
        try clear hcz28_0
        try clear hcz28_1
        try clear hcz30_0
        try clear hcz5_0
        try clear hcz6_0
        try clear hcz8_0
        try clear hfz18_0
        try clear hfz18_1
        try clear hfz20_0
        try clear hfz20_1
        try clear hfz23_0
        try clear hfz23_1
        try clear hfz25_0
        try clear hfz25_1
        try clear hfz28_0
        try clear hfz28_1
        try clear hfz30_0
        try clear hfz5_0
        try clear hfz6_0
        try clear hfz8_0
        try clear hx321_0
        try clear hx321_1
        try clear p2
        try clear p321
        try clear q321
        obtain ⟨x36_3, rfl, HA, HK3, BK320, HB⟩ := hrel
        cases gk with
        | zero => exact absurd HA.out (by simp [impl_SignatureFault.l1])
        | succ k3 =>
         have H := HA.out
         clear HA
         simp only [impl_SignatureFault.l1] at H
         by_cases c31 : x36_3 < (l0_0.length : Int)
         ·rw [if_pos c31] at H
          have c31b0 : decide (x36_3 < (l0_0.length : Int)) = true := decide_eq_true c31
          clear c31
          by_cases c32 : 0 ≤ x36_3
          ·rw [if_pos c32] at H
           have c32b0 : decide (0 ≤ x36_3) = true := decide_eq_true c32
           clear c32
           by_cases c33 : x36_3 < (l0_0.length : Int)
           ·rw [if_pos c33] at H
            have c33b0 : decide (x36_3 < (l0_0.length : Int)) = true := decide_eq_true c33
            clear c33
            replace H := Option.bind_eq_some_iff.mp H
            obtain ⟨t327, A340, H⟩ := H
            replace H : (if t327 = x36_3 then (impl_SignatureFault.l1 k3 l0_0 (l0_0.length : Int) (wrap64 (x36_3 + 1)) l0_0) else (some 6)) = some r := H
            have A34 := am A340
            clear A340
            by_cases c35 : t327 = x36_3
            ·rw [if_pos c35] at H
             have c35b0 : (t327 == x36_3) = true := beq_iff_eq.mpr c35
             have c35b1 : (t327 != x36_3) = false := bne_eq_false_iff_eq.mpr c35
             clear c35
             have H' := am H
             clear H
             have p325 : 0 ≤ (x36_3 : Int) := of_decide_eq_true (by first | (with_reducible assumption) | assumption)
             have q325 : x36_3 < (l0_0.length : Int) := of_decide_eq_true (by first | (with_reducible assumption) | assumption)
             obtain ⟨ad325, e325, hx325_0, hx325_1⟩ := at_T110 HR0_0.out x36_3 p325 q325
             cases e325
             replace hx325_0 := (HB.out.cell (World.block_lt_of_cell? w _ hx325_0)).trans hx325_0
             replace hx325_1 := (HB.out.cell (World.block_lt_of_cell? w _ hx325_1)).trans hx325_1
             replace p325 := eq_true p325
             replace q325 := eq_true q325
             go_wp2_with (first | ((with_reducible refine gate_dst (N := 6) rfl ?_); (try (refine gate_guard (by rfl) ?_; dsimp only)); refine box_event ?hg (N := 6) ?hd (cs := #[.string (⟨#[]⟩ : ByteArray), .int .i64 0]) (t := 110) ?hr ?_; (case hd => rfl); (case hg => rfl); (case hr => first | (go_simp; done) | (go_simp; rfl)); intro gb326 hg w36 hbox hb; have n0_ := am (blk_below (bq BK320.out) hb); have n1_ := am (below_step (hs HB.out) hb); have n2_ := am (hbox); have n3_ := am (bz hg (hs HB.out)); have n4_ := n3_; have n5_ := am ((by rw [hg]; exact Nat.ne_of_lt (blk_lt (bq BK320.out)) : gb320 ≠ gb326)); have n6_ := am ((by rw [hg]; exact Nat.ne_of_gt (blk_lt (bq BK320.out)) : gb326 ≠ gb320)); clear BK320 HB; revert n0_ n1_ n2_ n3_ n4_ n5_ n6_; intro BK320 HB BK326 GW326 GE326 NB320_326 NB326_320; clear hb hbox hg; have hnb37 := NB326_320.out; have hnc37 := NB320_326.out; have hcz38_0 : w36.cell? ⟨gb326, 0, none⟩ = some (.string (⟨#[]⟩ : ByteArray)) := (blk_cell BK326.out 0).trans rfl; have hcz38_1 : w36.cell? ⟨gb326, 1, none⟩ = some (.int .i64 0) := (blk_cell BK326.out 1).trans rfl; have hfz38_0 := blk_frozen BK326.out 0; have hfz38_1 := blk_frozen BK326.out 1; have hcz39_0 : w36.cell? ⟨gb320, 0, none⟩ = some (.slice (some ad325) l0_0.length c0_0) := (blk_cell BK320.out 0).trans rfl; have hfz39_0 := blk_frozen BK320.out 0) | ((with_reducible refine gate_callee (f := 84) rfl ?_); refine goesL_ (some 44) rfl rfl Tryd.func84 (by kernel_rfl) rfl #[.agg #[.slice (some ad325) l0_0.length c0_0], .string ((rd_T110 l0_0 x36_3).f0)] rfl el ?_; (with_reducible refine (impl_symbolIndex.calls k3 _ _ l0_0 ((rd_T110 l0_0 x36_3).f0) t327 _ ?side1 ?side2 A34.out).mono ?_); (case side1 => exact Kd.C_below HR0_0.out (hs HB.out)); (case side2 => exact HC0_0.out); rintro e w40 ⟨rfl, hb⟩; refine ⟨_, rfl, ?_⟩; have n0_ := am (blk_below (g := gb320) (o := .cells #[.slice (some ad325) l0_0.length c0_0] 26 (0, 0)) (by refine bq ?_; refine blk_far ?_ NB320_326.out _; refine bq ?_; refine blk_far ?_ NB320_326.out _; refine bq ?_; exact BK320.out) hb); have n1_ := am (blk_below (g := gb326) (o := .cells #[.string ((rd_T110 l0_0 x36_3).f0), .int .i64 ((rd_T110 l0_0 x36_3).f1)] 110 (0, 0)) (by refine bq ?_; refine blk_put (cs := #[.string ((rd_T110 l0_0 x36_3).f0), .int .i64 0]) ?_ 1 _ rfl; refine bq ?_; refine blk_put (cs := #[.string (⟨#[]⟩ : ByteArray), .int .i64 0]) ?_ 0 _ rfl; refine bq ?_; exact BK326.out) hb); have n2_ := am (below_step (hs HB.out) hb); clear BK320 BK326 HB; revert n0_ n1_ n2_; intro BK320 BK326 HB; (try clear hb); (try clear hb2); (try clear hgw); (try clear hk); (try clear hi)))
             go_roundg k3
             case measure => have := HJ1.out; have := HK2.out; have := HK3.out; omega
             case rel => exact ⟨(wrap64 (x36_3 + 1)), (by first | rfl | (simp; done) | (simp [*]; done)), H', ⟨by have := HJ1.out; have := HK2.out; have := HK3.out; omega⟩, ⟨by refine bq ?_; exact BK320.out⟩, ⟨by exact hs HB.out⟩⟩
            ·rw [if_neg c35] at H
             have c35b0 : (t327 == x36_3) = false := beq_eq_false_iff_ne.mpr c35
             have c35b1 : (t327 != x36_3) = true := bne_iff_ne.mpr c35
             obtain rfl := Option.some.inj H
             have p325 : 0 ≤ (x36_3 : Int) := of_decide_eq_true (by first | (with_reducible assumption) | assumption)
             have q325 : x36_3 < (l0_0.length : Int) := of_decide_eq_true (by first | (with_reducible assumption) | assumption)
             obtain ⟨ad325, e325, hx325_0, hx325_1⟩ := at_T110 HR0_0.out x36_3 p325 q325
             cases e325
             replace hx325_0 := (HB.out.cell (World.block_lt_of_cell? w _ hx325_0)).trans hx325_0
             replace hx325_1 := (HB.out.cell (World.block_lt_of_cell? w _ hx325_1)).trans hx325_1
             replace p325 := eq_true p325
             replace q325 := eq_true q325
             go_wp2_with (first | ((with_reducible refine gate_dst (N := 6) rfl ?_); (try (refine gate_guard (by rfl) ?_; dsimp only)); refine box_event ?hg (N := 6) ?hd (cs := #[.string (⟨#[]⟩ : ByteArray), .int .i64 0]) (t := 110) ?hr ?_; (case hd => rfl); (case hg => rfl); (case hr => first | (go_simp; done) | (go_simp; rfl)); intro gb326 hg w41 hbox hb; have n0_ := am (blk_below (bq BK320.out) hb); have n1_ := am (below_step (hs HB.out) hb); have n2_ := am (hbox); have n3_ := am (bz hg (hs HB.out)); have n4_ := n3_; have n5_ := am ((by rw [hg]; exact Nat.ne_of_lt (blk_lt (bq BK320.out)) : gb320 ≠ gb326)); have n6_ := am ((by rw [hg]; exact Nat.ne_of_gt (blk_lt (bq BK320.out)) : gb326 ≠ gb320)); clear BK320 HB; revert n0_ n1_ n2_ n3_ n4_ n5_ n6_; intro BK320 HB BK326 GW326 GE326 NB320_326 NB326_320; clear hb hbox hg; have hnb42 := NB326_320.out; have hnc42 := NB320_326.out; have hcz43_0 : w41.cell? ⟨gb326, 0, none⟩ = some (.string (⟨#[]⟩ : ByteArray)) := (blk_cell BK326.out 0).trans rfl; have hcz43_1 : w41.cell? ⟨gb326, 1, none⟩ = some (.int .i64 0) := (blk_cell BK326.out 1).trans rfl; have hfz43_0 := blk_frozen BK326.out 0; have hfz43_1 := blk_frozen BK326.out 1; have hcz44_0 : w41.cell? ⟨gb320, 0, none⟩ = some (.slice (some ad325) l0_0.length c0_0) := (blk_cell BK320.out 0).trans rfl; have hfz44_0 := blk_frozen BK320.out 0) | ((with_reducible refine gate_callee (f := 84) rfl ?_); refine goesL_ (some 44) rfl rfl Tryd.func84 (by kernel_rfl) rfl #[.agg #[.slice (some ad325) l0_0.length c0_0], .string ((rd_T110 l0_0 x36_3).f0)] rfl el ?_; (with_reducible refine (impl_symbolIndex.calls k3 _ _ l0_0 ((rd_T110 l0_0 x36_3).f0) t327 _ ?side1 ?side2 A34.out).mono ?_); (case side1 => exact Kd.C_below HR0_0.out (hs HB.out)); (case side2 => exact HC0_0.out); rintro e w45 ⟨rfl, hb⟩; refine ⟨_, rfl, ?_⟩; have n0_ := am (blk_below (g := gb320) (o := .cells #[.slice (some ad325) l0_0.length c0_0] 26 (0, 0)) (by refine bq ?_; refine blk_far ?_ NB320_326.out _; refine bq ?_; refine blk_far ?_ NB320_326.out _; refine bq ?_; exact BK320.out) hb); have n1_ := am (blk_below (g := gb326) (o := .cells #[.string ((rd_T110 l0_0 x36_3).f0), .int .i64 ((rd_T110 l0_0 x36_3).f1)] 110 (0, 0)) (by refine bq ?_; refine blk_put (cs := #[.string ((rd_T110 l0_0 x36_3).f0), .int .i64 0]) ?_ 1 _ rfl; refine bq ?_; refine blk_put (cs := #[.string (⟨#[]⟩ : ByteArray), .int .i64 0]) ?_ 0 _ rfl; refine bq ?_; exact BK326.out) hb); have n2_ := am (below_step (hs HB.out) hb); clear BK320 BK326 HB; revert n0_ n1_ n2_; intro BK320 BK326 HB; (try clear hb); (try clear hb2); (try clear hgw); (try clear hk); (try clear hi)))
             go_ret
             exact ⟨by first | rfl | (simp [errW_none, errW_some] <;> rfl) | (simp [*, errW_none, errW_some] <;> rfl), by exact hs HB.out⟩
           ·rw [if_neg c33] at H
            exact absurd H (by simp)
          ·rw [if_neg c32] at H
           exact absurd H (by simp)
         ·rw [if_neg c31] at H
          have c31b0 : decide (x36_3 < (l0_0.length : Int)) = false := decide_eq_false c31
          clear c31
          replace H := Option.bind_eq_some_iff.mp H
          obtain ⟨t328, A460, H⟩ := H
          replace H : (if t328 = true then (some 0) else (some 4)) = some r := H
          have A46 := am A460
          clear A460
          by_cases c47 : t328 = true
          ·subst c47
           have H1 : (some 0) = some r := by rw [if_pos rfl] at H; exact H
           clear H
           have H := H1
           clear H1
           obtain rfl := Option.some.inj H
           have hcz48_0 : wr.cell? ⟨gb320, 0, none⟩ = some (.slice A0_0 l0_0.length c0_0) := (blk_cell BK320.out 0).trans rfl
           have hfz48_0 := blk_frozen BK320.out 0
           go_wp2_with (first | ((with_reducible refine gate_callee (f := 85) rfl ?_); refine goesL_ (some 50) rfl rfl Tryd.func85 (by kernel_rfl) rfl #[.slice A0_0 l0_0.length c0_0, .func (.func 86) #[] #[]] rfl el ?_; (with_reducible refine (slices_ContainsFunc_impl_Symbol_impl_Symbol_impl_SignatureFault_1.calls k3 _ _ l0_0  true _ ?side1 ?side2 A46.out).mono ?_); (case side1 => exact cq (Kd.C_below HR0_0.out HB.out)); (case side2 => exact HC0_0.out); rintro e w49 ⟨rfl, hb⟩; refine ⟨_, rfl, ?_⟩; have n0_ := am (blk_below (bq BK320.out) hb); have n1_ := am (below_step (hs HB.out) hb); clear BK320 HB; revert n0_ n1_; intro BK320 HB; (try clear hb); (try clear hb2); (try clear hgw); (try clear hk); (try clear hi)))
           go_ret
           exact ⟨by first | rfl | (simp [errW_none, errW_some] <;> rfl) | (simp [*, errW_none, errW_some] <;> rfl), by exact hs HB.out⟩
          ·replace c47 := Bool.eq_false_iff.mpr c47
           subst c47
           have H1 : (some 4) = some r := by rw [if_neg (show ¬ (false = true) by decide)] at H; exact H
           clear H
           have H := H1
           clear H1
           obtain rfl := Option.some.inj H
           have hcz50_0 : wr.cell? ⟨gb320, 0, none⟩ = some (.slice A0_0 l0_0.length c0_0) := (blk_cell BK320.out 0).trans rfl
           have hfz50_0 := blk_frozen BK320.out 0
           go_wp2_with (first | ((with_reducible refine gate_callee (f := 85) rfl ?_); refine goesL_ (some 50) rfl rfl Tryd.func85 (by kernel_rfl) rfl #[.slice A0_0 l0_0.length c0_0, .func (.func 86) #[] #[]] rfl el ?_; (with_reducible refine (slices_ContainsFunc_impl_Symbol_impl_Symbol_impl_SignatureFault_1.calls k3 _ _ l0_0  false _ ?side1 ?side2 A46.out).mono ?_); (case side1 => exact cq (Kd.C_below HR0_0.out HB.out)); (case side2 => exact HC0_0.out); rintro e w51 ⟨rfl, hb⟩; refine ⟨_, rfl, ?_⟩; have n0_ := am (blk_below (bq BK320.out) hb); have n1_ := am (below_step (hs HB.out) hb); clear BK320 HB; revert n0_ n1_; intro BK320 HB; (try clear hb); (try clear hb2); (try clear hgw); (try clear hk); (try clear hi)))
           go_ret
           exact ⟨by first | rfl | (simp [errW_none, errW_some] <;> rfl) | (simp [*, errW_none, errW_some] <;> rfl), by exact hs HB.out⟩
def impl_arityOf.f (l0_0 : List (S110)) (a1 : Int) : Option (Int) := if a1 < 0 then (some 0) else (if 0 ≤ a1 then (if a1 < (l0_0.length : Int) then (some ((rd_T110 l0_0 a1).f1)) else (none)) else (none))
set_option maxHeartbeats 8000000 in
set_option maxRecDepth 100000 in
theorem impl_arityOf.calls (A0_0 : Option Addr) (c0_0 : Nat) (l0_0 : List (S110)) (a1 : Int) (r : Int) (w : World) (hr0_0 : Kd.C k110 w A0_0 l0_0.length l0_0) (hc0_0 : l0_0.length ≤ c0_0) (h : impl_arityOf.f l0_0 a1 = some r) :
  Calls Tryd.prog 89 #[.agg #[.slice A0_0 l0_0.length c0_0], .int .i64 a1] w fun e w' => e = .returned (.int .i64 r) ∧ Below w.heap.size w w' := by
 have hu26 := Tryd.underlying26
 have HR0_0 := am hr0_0
 have HC0_0 := am hc0_0
 clear hr0_0 hc0_0
 have HB := am (Below.refl w.heap.size w)
 have H : (if a1 < 0 then (some 0) else (if 0 ≤ a1 then (if a1 < (l0_0.length : Int) then (some ((rd_T110 l0_0 a1).f1)) else (none)) else (none))) = some r := h
 clear h
 by_cases c3 : a1 < 0
 ·rw [if_pos c3] at H
  have c3b0 : decide (a1 < 0) = true := decide_eq_true c3
  clear c3
  obtain rfl := Option.some.inj H
  go_enter Tryd.func89, Tryd.ntmps89
  go_wp2_with (first | ((with_reducible refine gate_dst (N := 2) rfl ?_); refine box_event ?hg (N := 2) ?hd (cs := #[.slice A0_0 l0_0.length c0_0]) (t := 26) ?hr ?_; (case hd => rfl); (case hg => rfl); (case hr => first | (go_simp; done) | (go_simp; rfl)); intro gb329 hg w4 hbox hb; have n0_ := am (below_step (hq HB.out) hb); have n1_ := am (hbox); have n2_ := am (bz hg (hq HB.out)); have n3_ := n2_; clear HB; revert n0_ n1_ n2_ n3_; intro HB BK329 GW329 GE329; clear hb hbox hg))
  go_ret
  exact ⟨by first | rfl | (simp [errW_none, errW_some] <;> rfl) | (simp [*, errW_none, errW_some] <;> rfl), by exact hs HB.out⟩
 ·rw [if_neg c3] at H
  have c3b0 : decide (a1 < 0) = false := decide_eq_false c3
  clear c3
  by_cases c5 : 0 ≤ a1
  ·rw [if_pos c5] at H
   have c5b0 : decide (0 ≤ a1) = true := decide_eq_true c5
   clear c5
   by_cases c6 : a1 < (l0_0.length : Int)
   ·rw [if_pos c6] at H
    have c6b0 : decide (a1 < (l0_0.length : Int)) = true := decide_eq_true c6
    clear c6
    obtain rfl := Option.some.inj H
    go_enter Tryd.func89, Tryd.ntmps89
    go_wp2_with (first | ((with_reducible refine gate_dst (N := 2) rfl ?_); refine box_event ?hg (N := 2) ?hd (cs := #[.slice A0_0 l0_0.length c0_0]) (t := 26) ?hr ?_; (case hd => rfl); (case hg => rfl); (case hr => first | (go_simp; done) | (go_simp; rfl)); intro gb329 hg w7 hbox hb; have n0_ := am (below_step (hq HB.out) hb); have n1_ := am (hbox); have n2_ := am (bz hg (hq HB.out)); have n3_ := n2_; clear HB; revert n0_ n1_ n2_ n3_; intro HB BK329 GW329 GE329; clear hb hbox hg; have hcz8_0 : w7.cell? ⟨gb329, 0, none⟩ = some (.slice A0_0 l0_0.length c0_0) := (blk_cell BK329.out 0).trans rfl; have hfz8_0 := blk_frozen BK329.out 0; have p330 : 0 ≤ (a1 : Int) := of_decide_eq_true (by first | (with_reducible assumption) | assumption); have q330 : a1 < (l0_0.length : Int) := of_decide_eq_true (by first | (with_reducible assumption) | assumption); obtain ⟨ad330, e330, hx330_0, hx330_1⟩ := at_T110 HR0_0.out a1 p330 q330; cases e330; replace hx330_0 := (HB.out.cell (World.block_lt_of_cell? w _ hx330_0)).trans hx330_0; replace hx330_1 := (HB.out.cell (World.block_lt_of_cell? w _ hx330_1)).trans hx330_1; replace p330 := eq_true p330; replace q330 := eq_true q330))
    go_ret
    exact ⟨by first | rfl | (simp [errW_none, errW_some] <;> rfl) | (simp [*, errW_none, errW_some] <;> rfl), by exact hs HB.out⟩
   ·rw [if_neg c6] at H
    exact absurd H (by simp)
  ·rw [if_neg c5] at H
   exact absurd H (by simp)
def impl_endOf.l0 : Nat → List Int → Int → Int → List (S110) → Option (Int)
 | 0, _, _, _, _ => none
 | k + 1, x1, x2, x7, x332000 => if x7 > 0 then (if x2 ≥ (x1.length : Int) then (some (wrap64 ((x1.length : Int) + 1))) else (if 0 ≤ x2 then (if x2 < (x1.length : Int) then ((impl_arityOf.f x332000 (rd x1 x2)).bind fun t333 => (impl_endOf.l0 k x1 (wrap64 (x2 + 1)) (wrap64 (x7 + (wrap64 (t333 - 1)))) x332000)) else (none)) else (none))) else (some x2)
def impl_endOf.f (k : Nat) (l0_0 : List (S110)) (l1 : List Int) (a2 : Int) : Option (Int) := impl_endOf.l0 k l1 a2 1 l0_0
def impl_endOf.T6 : Bool × List (List Nat × List Nat) := (true, [([], []), ([], []), ([], []), ([], []), ([2, 3], [2, 3]), ([4], [4]), ([1, 5], [1, 5]), ([6], [6]), ([0, 7], [0, 7]), ([8, 6, 0, 1, 2, 3, 4, 5, 6, 7, 8], [0, 8])])
def impl_endOf.B6 : List Nat := [0, 0, 0, 0, 12, 28, 62, 126, 255, 511]
theorem impl_endOf.tab6 : rtab .any (opsOf Tryd.f50 6) = impl_endOf.T6 := by kernel_rfl
theorem impl_endOf.bits6 : waitsOk impl_endOf.T6.2 impl_endOf.B6 = true := by kernel_rfl
set_option maxHeartbeats 8000000 in
set_option maxRecDepth 100000 in
theorem impl_endOf.calls (k : Nat) (A0_0 : Option Addr) (c0_0 : Nat) (l0_0 : List (S110)) (A1 : Option Addr) (c1 : Nat) (l1 : List Int) (a2 : Int) (r : Int) (w : World) (hr0_0 : Kd.C k110 w A0_0 l0_0.length l0_0) (hc0_0 : l0_0.length ≤ c0_0) (hr1 : Kd.C (Kd.int .i64) w A1 l1.length l1) (hc1 : l1.length ≤ c1) (h : impl_endOf.f k l0_0 l1 a2 = some r) :
  Calls Tryd.prog 50 #[.agg #[.slice A0_0 l0_0.length c0_0], .slice A1 l1.length c1, .int .i64 a2] w fun e w' => e = .returned (.int .i64 r) ∧ Below w.heap.size w w' := by
 have hu26 := Tryd.underlying26
 have HR0_0 := am hr0_0
 have HC0_0 := am hc0_0
 clear hr0_0 hc0_0
 have HR1 := am hr1
 have HC1 := am hc1
 clear hr1 hc1
 have HB := am (Below.refl w.heap.size w)
 have H : (impl_endOf.l0 k l1 a2 1 l0_0) = some r := h
 clear h
 have H' := am H
 clear H
 go_enter Tryd.func50, Tryd.ntmps50
 go_wp2_with (first | ((with_reducible refine gate_dst (N := 3) rfl ?_); refine box_event ?hg (N := 3) ?hd (cs := #[.slice A0_0 l0_0.length c0_0]) (t := 26) ?hr ?_; (case hd => rfl); (case hg => rfl); (case hr => first | (go_simp; done) | (go_simp; rfl)); intro gb331 hg w4 hbox hb; have n0_ := am (below_step (hq HB.out) hb); have n1_ := am (hbox); have n2_ := am (bz hg (hq HB.out)); have n3_ := n2_; clear HB; revert n0_ n1_ n2_ n3_; intro HB BK331 GW331 GE331; clear hb hbox hg))
 go_loopg [2, 7] k (fun kq v2 v7 w' => ∃ (x2_1 : Int) (x7_1 : Int), v2 = .int .i64 x2_1 ∧ v7 = .int .i64 x7_1 ∧ Aside0 (impl_endOf.l0 kq l1 x2_1 x7_1 l0_0 = some r) ∧ Aside0 (kq ≤ k) ∧ Aside0 (w'.heap[gb331]? = some (.cells #[(.slice A0_0 l0_0.length c0_0)] 26 (0, 0))) ∧ Aside0 (Below w.heap.size w w'))
 case atStart => exact ⟨(a2), (1), (by first | rfl | (simp; done) | (simp [*]; done)), (by first | rfl | (simp; done) | (simp [*]; done)), H', ⟨Nat.le_refl _⟩, ⟨by refine bq ?_; exact BK331.out⟩, ⟨by exact hs HB.out⟩⟩
 case round =>
  clear H'
  try clear c1
  try clear p2
  obtain ⟨x2_1, x7_1, rfl, rfl, HA, HK1, BK331, HB⟩ := hrel
  cases gk with
  | zero => exact absurd HA.out (by simp [impl_endOf.l0])
  | succ k1 =>
   have H := HA.out
   clear HA
   simp only [impl_endOf.l0] at H
   by_cases c5 : x7_1 > 0
   ·rw [if_pos c5] at H
    have c5b0 : decide (0 < x7_1) = true := decide_eq_true c5
    clear c5
    by_cases c6 : x2_1 ≥ (l1.length : Int)
    ·rw [if_pos c6] at H
     have c6b0 : decide ((l1.length : Int) ≤ x2_1) = true := decide_eq_true c6
     clear c6
     obtain rfl := Option.some.inj H
     go_wp2
     go_ret
     exact ⟨by first | rfl | (simp [errW_none, errW_some] <;> rfl) | (simp [*, errW_none, errW_some] <;> rfl), by exact hs HB.out⟩
    ·rw [if_neg c6] at H
     have c6b0 : decide ((l1.length : Int) ≤ x2_1) = false := decide_eq_false c6
     clear c6
     by_cases c7 : 0 ≤ x2_1
     ·rw [if_pos c7] at H
      have c7b0 : decide (0 ≤ x2_1) = true := decide_eq_true c7
      clear c7
      by_cases c8 : x2_1 < (l1.length : Int)
      ·rw [if_pos c8] at H
       have c8b0 : decide (x2_1 < (l1.length : Int)) = true := decide_eq_true c8
       clear c8
       replace H := Option.bind_eq_some_iff.mp H
       obtain ⟨t333, A90, H⟩ := H
       replace H : (impl_endOf.l0 k1 l1 (wrap64 (x2_1 + 1)) (wrap64 (x7_1 + (wrap64 (t333 - 1)))) l0_0) = some r := H
       have A9 := am A90
       clear A90
       have H' := am H
       clear H
       try go_wp2
       have n0_ := am (blk_drew BK331.out)
       have n1_ := am (below_drew1 HB.out)
       clear BK331
       clear HB
       have BK331 := n0_
       have HB := n1_
       clear n0_ n1_
       have p332 : 0 ≤ (x2_1 : Int) := of_decide_eq_true (by first | (with_reducible assumption) | assumption)
       have q332 : x2_1 < (l1.length : Int) := of_decide_eq_true (by first | (with_reducible assumption) | assumption)
       obtain ⟨ad332, e332, hx332_0⟩ := Kd.at_int HR1.out x2_1 p332 q332
       have hw332_0 := hx332_0
       cases e332
       replace hx332_0 := (HB.out.cell (World.block_lt_of_cell? w _ hx332_0)).trans hx332_0
       replace p332 := eq_true p332
       replace q332 := eq_true q332
       refine start_ (n := 10) (S := fun w' => w'.cell? ⟨gb331, 0, none⟩ = some (.slice A0_0 l0_0.length c0_0) ∧ w'.cell? (ad332.add (x2_1).toNat) = some (.int .i64 (rd l1 x2_1))) (ds := []) #[false, false, false, false, false, false, false, false, false, false] (by kernel_rfl) rfl rfl ⟨(blk_cell BK331.out 0).trans rfl, ((HB.out.cell (World.block_lt_of_cell? w _ hw332_0)).trans hw332_0)⟩ (fun hHeld => ?_); refine with_tabW impl_endOf.tab6 impl_endOf.bits6 (fun HT_ HW_ => ?_)
       generalize wr.drew = w10 at BK331 HB hx332_0 hHeld ⊢
       refine pure_ (i := 0) (N := some 19) (v := ?_) (a' := ?_) #[true, false, false, false, false, false, false, false, false, false] rfl rfl (any_of HT_.out (by kernel_rfl)) (fun _ _ _ h => h) (Or.inl ⟨by rfl, ?_⟩) ?_ ?_
       rotate_left
       ·intro w'
        go_simp
        with_reducible rfl
       rotate_left
       ·simp only [Act.put, lsp, i64_w, i32_w]
        rfl
       refine pure_ (i := 2) (N := some 21) (v := ?_) (a' := ?_) #[true, false, true, false, false, false, false, false, false, false] rfl rfl (any_of HT_.out (by kernel_rfl)) (fun _ _ _ h => h) (Or.inl ⟨by rfl, ?_⟩) ?_ ?_
       rotate_left
       ·intro w'
        go_simp
        with_reducible rfl
       rotate_left
       ·simp only [Act.put, lsp, i64_w, i32_w]
        rfl
       refine pure_ (i := 3) (N := some 22) (v := ?_) (a' := ?_) #[true, false, true, true, false, false, false, false, false, false] rfl rfl (any_of HT_.out (by kernel_rfl)) (fun _ _ _ h => h) (Or.inl ⟨by rfl, ?_⟩) ?_ ?_
       rotate_left
       ·intro w'
        go_simp
        with_reducible rfl
       rotate_left
       ·simp only [Act.put, lsp, i64_w, i32_w]
        rfl
       refine pure_ (i := 4) (N := some 23) (v := ?_) (a' := ?_) #[true, false, true, true, true, false, false, false, false, false] rfl rfl (any_of HT_.out (by kernel_rfl)) (fun _ _ _ h => h) (Or.inl ⟨by rfl, ?_⟩) ?_ ?_
       rotate_left
       ·intro w'
        go_simp
        with_reducible rfl
       rotate_left
       ·simp only [Act.put, lsp, i64_w, i32_w]
        rfl
       refine take_ (i := 1) (N := some 20) (v := ?_) (a' := ?_) #[true, true, true, true, true, false, false, false, false, false] rfl rfl (take_ofW HT_.out HW_.out (by kernel_rfl)) (fun _ _ _ h => h) (Or.inl ⟨by rfl, ?_⟩) hHeld ?_ ?_
       rotate_left
       ·rintro w' ⟨s0, s1⟩
        go_simp
        with_reducible rfl
       rotate_left
       ·simp only [Act.put, lsp, i64_w, i32_w]
        rfl
       refine take_ (i := 5) (N := some 24) (v := ?_) (a' := ?_) #[true, true, true, true, true, true, false, false, false, false] rfl rfl (take_ofW HT_.out HW_.out (by kernel_rfl)) (fun _ _ _ h => h) (Or.inl ⟨by rfl, ?_⟩) hHeld ?_ ?_
       rotate_left
       ·rintro w' ⟨s0, s1⟩
        go_simp
        with_reducible rfl
       rotate_left
       ·simp only [Act.put, lsp, i64_w, i32_w]
        rfl
       refine one_ (i := 6) (N := some 25) #[true, true, true, true, true, true, true, false, false, false] rfl rfl (one_of HT_.out (by kernel_rfl)) (by decide) (fun K hK => ?_)
       refine goes_ Tryd.func89 (by kernel_rfl) rfl #[.agg #[.slice A0_0 l0_0.length c0_0], .int .i64 (rd l1 x2_1)] (by rfl) rfl rfl el ?_
       with_reducible refine (impl_arityOf.calls _ _ l0_0 (rd l1 x2_1) t333 _ ?side1 ?side2 A9.out).mono ?_
       (case side1 => exact cq (Kd.C_below HR0_0.out HB.out))
       (case side2 => exact HC0_0.out)
       rintro e w11 ⟨rfl, hb⟩
       refine ⟨_, rfl, ?_⟩
       have n0_ := am (blk_below (bq BK331.out) hb)
       have n1_ := am (below_step (hs HB.out) hb)
       clear BK331
       clear HB
       have BK331 := n0_
       have HB := n1_
       clear n0_ n1_
       (try clear hb)
       (try clear hb2)
       (try clear hgw)
       (try clear hk)
       (try clear hi)
       refine hK.out _ _ ⟨(blk_cell BK331.out 0).trans rfl, ((HB.out.cell (World.block_lt_of_cell? w _ hw332_0)).trans hw332_0)⟩ (fun hHeld => ?_)
       clear hK K
       refine norm_ (a' := ?_) ?_ ?_
       rotate_left
       ·show Act.put _ (some 25) _ = _
        simp only [Act.put, lsp, i64_w, i32_w]
        rfl
       refine pure_ (i := 7) (N := some 26) (v := ?_) (a' := ?_) #[true, true, true, true, true, true, true, true, false, false] rfl rfl (any_of HT_.out (by kernel_rfl)) (fun _ _ _ h => h) (Or.inl ⟨by rfl, ?_⟩) ?_ ?_
       rotate_left
       ·intro w'
        go_simp
        with_reducible rfl
       rotate_left
       ·simp only [Act.put, lsp, i64_w, i32_w]
        rfl
       refine pure_ (i := 8) (N := some 27) (v := ?_) (a' := ?_) #[true, true, true, true, true, true, true, true, true, false] rfl rfl (any_of HT_.out (by kernel_rfl)) (fun _ _ _ h => h) (Or.inl ⟨by rfl, ?_⟩) ?_ ?_
       rotate_left
       ·intro w'
        go_simp
        with_reducible rfl
       rotate_left
       ·simp only [Act.put, lsp, i64_w, i32_w]
        rfl
       refine pure_ (i := 9) (N := some 7) (v := ?_) (a' := ?_) #[true, true, true, true, true, true, true, true, true, true] rfl rfl (any_of HT_.out (by kernel_rfl)) (fun _ _ _ h => h) (Or.inl ⟨by rfl, ?_⟩) ?_ ?_
       rotate_left
       ·intro w'
        go_simp
        with_reducible rfl
       rotate_left
       ·simp only [Act.put, lsp, i64_w, i32_w]
        rfl
       refine done_ (done_of HT_.out (by kernel_rfl)) ?_
       try go_wp2
       go_roundg k1
       case measure => have := HK1.out; omega
       case rel => exact ⟨(wrap64 (x2_1 + 1)), (wrap64 (x7_1 + (wrap64 (t333 - 1)))), (by first | rfl | (simp; done) | (simp [*]; done)), (by first | rfl | (simp; done) | (simp [*]; done)), H', ⟨by have := HK1.out; omega⟩, ⟨by refine bq ?_; exact BK331.out⟩, ⟨by exact hs HB.out⟩⟩
      ·rw [if_neg c8] at H
       exact absurd H (by simp)
     ·rw [if_neg c7] at H
      exact absurd H (by simp)
   ·rw [if_neg c5] at H
    have c5b0 : decide (0 < x7_1) = false := decide_eq_false c5
    clear c5
    obtain rfl := Option.some.inj H
    go_wp2
    go_ret
    exact ⟨by first | rfl | (simp [errW_none, errW_some] <;> rfl) | (simp [*, errW_none, errW_some] <;> rfl), by exact hs HB.out⟩
end Go.Proofs.YtcanokiehjjbgaaDoor.P
