/- A part of the proof of the law FnReplaces. -/
import Derived.Laws.StructEq
import Derived.Test.YtedkbpbodkmhlaaDoorCFnReplaces0
import Derived.Test.YtedkbpbodkmhlaaDoorCFnReplaces1
import Derived.Test.YtedkbpbodkmhlaaDoorCFnReplaces2
import Derived.Test.YtedkbpbodkmhlaaDoorCFnReplaces3
import Derived.Test.YtedkbpbodkmhlaaDoorCFnReplaces4
import Derived.Test.YtedkbpbodkmhlaaDoorCFnReplaces5
import Derived.Test.YtedkbpbodkmhlaaDoorCFnReplaces6
import Derived.Test.YtedkbpbodkmhlaaDoorCFnReplaces7
import Derived.Test.YtedkbpbodkmhlaaDoorCFnReplaces8
import Derived.Test.YtedkbpbodkmhlaaDoorCFnReplaces9
import Derived.Test.YtedkbpbodkmhlaaDoorCFnReplaces16
namespace Go.Proofs.YtedkbpbodkmhlaaDoor.P
open Go.RowKit Go.Proofs.YtedkbpbodkmhlaaDoorW.PrintWords Go.Proofs.YtedkbpbodkmhlaaDoorW.PrintLast Go.Proofs.YtedkbpbodkmhlaaDoorW.PrintMore
attribute [local go_sem] max2_int min2_int max_two min_two max_three min_three max_four min_four   -- for this text's walks alone
set_option linter.unusedVariables false
set_option linter.unusedSimpArgs false
def spec_DrawReplaceAt.f (k : Nat) (l0 : List Int) : Option ((List (S99)) × List Int × Int × List Int) := (spec_l3One.f k l0).bind fun bt1032 => ((spec_l3At.f bt1032.2.2.1 bt1032.2.2.2 bt1032.2.1).bind fun bt1042 => ((spec_l1Pick.f bt1032.2.2.1 bt1042.2 (([1, 3, 8, 20] : List Int))).bind fun bt1047 => ((spec_l3BentTerm.f k bt1032.2.2.1 bt1047.2 [(⟨bt1032.1⟩ : S42)] bt1047.1 3).bind fun bt1049 => (some (bt1032.1, bt1032.2.1, bt1042.1, bt1049.1)))))
def spec_DrawReplaceAt.T2 : Bool × List (List Nat × List Nat) := (true, [([], []), ([], []), ([], []), ([], []), ([2, 3], [2, 3]), ([], []), ([], []), ([], []), ([6, 7, 4], [6, 7]), ([5, 8, 8], [5, 8]), ([0, 9, 0], [0]), ([1, 10, 0, 1, 10], [1]), ([4, 11, 0, 1, 2, 3, 4, 10, 11], [4]), ([9, 12, 0, 1, 2, 3, 4, 5, 6, 7, 8, 9, 10, 11, 12], [9])])
def spec_DrawReplaceAt.B2 : List Nat := [0, 0, 0, 0, 12, 0, 0, 0, 220, 508, 1021, 2047, 4095, 8191]
theorem spec_DrawReplaceAt.tab2 : rtab .any (opsOf Tryd.f53 2) = spec_DrawReplaceAt.T2 := by kernel_rfl
theorem spec_DrawReplaceAt.bits2 : waitsOk spec_DrawReplaceAt.T2.2 spec_DrawReplaceAt.B2 = true := by kernel_rfl
set_option maxHeartbeats 8000000 in
set_option maxRecDepth 100000 in
theorem spec_DrawReplaceAt.calls (k : Nat) (A0 : Option Addr) (c0 : Nat) (l0 : List Int) (r1 : List (S99)) (r2 : List Int) (r3 : Int) (r4 : List Int) (w : World) (hr0 : Kd.C (Kd.int .u8) w A0 l0.length l0) (hc0 : l0.length ≤ c0) (h : spec_DrawReplaceAt.f k l0 = some (r1, r2, r3, r4)) :
  Calls Tryd.prog 53 #[.slice A0 l0.length c0] w fun e w' => ∃ v0_ v1_ v3_ : Value, e = .returned (.tuple #[.agg #[v0_], v1_, .int .i64 r3, v3_]) ∧ Kd.R k99 99 w' w.heap.size (fun _ => True) v0_ r1 ∧ Kd.R (Kd.int .i64) 2 w' w.heap.size (fun k_ => some k_ ≠ (v3_ : Value).ownBlock) v1_ r2 ∧ Kd.R (Kd.int .i64) 2 w' w.heap.size (fun k_ => some k_ ≠ (v1_ : Value).ownBlock) v3_ r4 ∧ Below w.heap.size w w' := by
 have hu42 := Tryd.underlying42
 have HR0 := am hr0
 have HC0 := am hc0
 clear hr0 hc0
 have HB := am (Below.refl w.heap.size w)
 have H : ((spec_l3One.f k l0).bind fun bt1032 => ((spec_l3At.f bt1032.2.2.1 bt1032.2.2.2 bt1032.2.1).bind fun bt1042 => ((spec_l1Pick.f bt1032.2.2.1 bt1042.2 (([1, 3, 8, 20] : List Int))).bind fun bt1047 => ((spec_l3BentTerm.f k bt1032.2.2.1 bt1047.2 [(⟨bt1032.1⟩ : S42)] bt1047.1 3).bind fun bt1049 => (some (bt1032.1, bt1032.2.1, bt1042.1, bt1049.1)))))) = some (r1, r2, r3, r4) := h
 clear h
 replace H := Option.bind_eq_some_iff.mp H
 obtain ⟨⟨t1032, t1035, t1038, t1039⟩, A20, H⟩ := H
 replace H : ((spec_l3At.f t1038 t1039 t1035).bind fun bt1042 => ((spec_l1Pick.f t1038 bt1042.2 (([1, 3, 8, 20] : List Int))).bind fun bt1047 => ((spec_l3BentTerm.f k t1038 bt1047.2 [(⟨t1032⟩ : S42)] bt1047.1 3).bind fun bt1049 => (some (t1032, t1035, bt1042.1, bt1049.1))))) = some (r1, r2, r3, r4) := H
 have A2 := am A20
 clear A20
 replace H := Option.bind_eq_some_iff.mp H
 obtain ⟨⟨t1042, t1043⟩, A30, H⟩ := H
 replace H : ((spec_l1Pick.f t1038 t1043 (([1, 3, 8, 20] : List Int))).bind fun bt1047 => ((spec_l3BentTerm.f k t1038 bt1047.2 [(⟨t1032⟩ : S42)] bt1047.1 3).bind fun bt1049 => (some (t1032, t1035, t1042, bt1049.1)))) = some (r1, r2, r3, r4) := H
 have A3 := am A30
 clear A30
 obtain ⟨y1044, hy1044⟩ : ∃ y_ : List Int, y_ = (([1, 3, 8, 20] : List Int)) := ⟨_, rfl⟩
 replace H : ((spec_l1Pick.f t1038 t1043 y1044).bind fun bt1047 => ((spec_l3BentTerm.f k t1038 bt1047.2 [(⟨t1032⟩ : S42)] bt1047.1 3).bind fun bt1049 => (some (t1032, t1035, t1042, bt1049.1)))) = some (r1, r2, r3, r4) := by first | (rw [hy1044]; with_reducible exact H) | (have H2_ := (Option.bind_some _ _).symm.trans H; rw [hy1044]; with_reducible exact H2_) | (have H2_ := (Option.bind_some _ _).symm.trans H; with_reducible exact H2_) | with_reducible exact H | (rw [hy1044]; exact H) | exact H
 have Ny1044 := am hy1044
 clear hy1044
 replace H := Option.bind_eq_some_iff.mp H
 obtain ⟨⟨t1047, t1048⟩, A40, H⟩ := H
 replace H : ((spec_l3BentTerm.f k t1038 t1048 [(⟨t1032⟩ : S42)] t1047 3).bind fun bt1049 => (some (t1032, t1035, t1042, bt1049.1))) = some (r1, r2, r3, r4) := H
 have A4 := am A40
 clear A40
 replace H := Option.bind_eq_some_iff.mp H
 obtain ⟨⟨t1049, t1052⟩, A50, H⟩ := H
 replace H : (some (t1032, t1035, t1042, t1049)) = some (r1, r2, r3, r4) := H
 have A5 := am A50
 clear A50
 simp only [Option.some.injEq, Prod.mk.injEq] at H
 obtain ⟨rfl, rfl, rfl, rfl⟩ := H
 go_enter Tryd.func53, Tryd.ntmps53
 try go_wp2_with (first | ((with_reducible refine gate_dst (N := 2) rfl ?_); refine box_event ?hg (N := 2) ?hd (cs := #[.slice none 0 0]) (t := 42) ?hr ?_; (case hd => rfl); (case hg => rfl); (case hr => first | (go_simp; done) | (go_simp; rfl)); intro gb1031 hg w6 hbox hb; have n0_ := am (below_step (hq HB.out) hb); have n1_ := am (hbox); have n2_ := am (bz hg (hq HB.out)); have n3_ := n2_; clear HB; revert n0_ n1_ n2_ n3_; intro HB BK1031 GW1031 GE1031; clear hb hbox hg) | ((with_reducible refine gate_callee (f := 110) rfl ?_); refine goesL_ (some 11) rfl rfl Tryd.func110 (by kernel_rfl) rfl #[.slice A0 l0.length c0] rfl el ?_; (with_reducible refine (spec_l3One.calls k _ _ l0 t1032 t1035 t1038 t1039 w _ ?side1 ?side2 ?side3 A2.out).mono ?_); (case side1 => exact hs HB.out); (case side2 => exact HR0.out); (case side3 => exact HC0.out); rintro e w7 ⟨v1033, v1036, g1040, rfl, ho0, ho1, hi, hb, hb2, hgw⟩; refine ⟨_, rfl, ?_⟩; have n0_ := am (Kd.R_lower ho0 (below_size (hs HB.out))); have n1_ := am (Kd.R_lower ho1 (below_size (hs HB.out))); have n2_ := am (blk_below (bq BK1031.out) hb2); have n3_ := am (hb); have n4_ := am (hi); have n5_ := am (IsS148.ne_blk hi (blk_below (bq BK1031.out) hb2) (by decide)); have n6_ := am (Ne.symm (IsS148.ne_blk hi (blk_below (bq BK1031.out) hb2) (by decide))); clear BK1031 HB; revert n0_ n1_ n2_ n3_ n4_ n5_ n6_; intro HO1034 HO1037 BK1031 HB HI1040 NB1040_1031 NB1031_1040; (try clear hb); (try clear hb2); (try clear hgw); (try clear hk); (try clear hi); (try clear ho0); (try clear ho1)) | ((with_reducible refine gate_dst (N := 6) rfl ?_); refine box_event ?hg (N := 6) ?hd (cs := #[.slice none 0 0]) (t := 42) ?hr ?_; (case hd => rfl); (case hg => rfl); (case hr => first | (go_simp; done) | (go_simp; rfl)); intro gb1041 hg w8 hbox hb; have n0_ := am (Kd.R_below (rq HO1034.out) hb); have n1_ := am (Kd.R_below (rq HO1037.out) hb); have n2_ := am (blk_below (bq BK1031.out) hb); have n3_ := am (IsS148.below (IsS148.q HI1040.out) hb); have n4_ := am (below_step (hsk HB.out (IsS148.ge HI1040.out)) hb); have n5_ := am (hbox); have n6_ := am (bz hg (hsk HB.out (IsS148.ge HI1040.out))); have n7_ := n6_; have n8_ := am ((by rw [hg]; exact Nat.ne_of_lt (blk_lt (bq BK1031.out)) : gb1031 ≠ gb1041)); have n9_ := am ((by rw [hg]; exact Nat.ne_of_gt (blk_lt (bq BK1031.out)) : gb1041 ≠ gb1031)); have n10_ := am ((by rw [hg]; exact Nat.ne_of_lt (IsS148.lt (show IsS148 w _ g1040 t1038 t1039 from by exact IsS148.q HI1040.out)) : g1040 ≠ gb1041)); have n11_ := am n10_.out.symm; clear HO1034 HO1037 BK1031 HI1040 HB; revert n0_ n1_ n2_ n3_ n4_ n5_ n6_ n7_ n8_ n9_ n10_ n11_; intro HO1034 HO1037 BK1031 HI1040 HB BK1041 GW1041 GE1041 NB1031_1041 NB1041_1031 NB1040_1041 NB1041_1040; clear hb hbox hg; obtain ⟨Ao9, co9, eo9⟩ := Kd.R_slice HO1034.out; subst eo9; have hnb10 := NB1041_1031.out; have hnc10 := NB1031_1041.out; have hnb11 := NB1041_1040.out; have hnc11 := NB1040_1041.out; have hcz12_0 : w8.cell? ⟨gb1041, 0, none⟩ = some (.slice none 0 0) := (blk_cell BK1041.out 0).trans rfl; have hfz12_0 := blk_frozen BK1041.out 0; obtain ⟨Ao13, co13, eo13⟩ := Kd.R_slice HO1037.out; subst eo13))
 have n0_ : Aside0 (Kd.R k99 99 (w8.setCell ⟨gb1041, 0, none⟩ (.slice Ao9 t1032.length co9)) w.heap.size (fun _ => True) (.slice Ao9 t1032.length co9) t1032) := ⟨by (with_reducible repeat (first | apply Kd.R_alloc | apply Kd.R_drewN | apply Kd.R_drew)); exact Kd.R_mono (Kd.R_far (p := ⟨gb1041, 0, none⟩) (Kd.R_types HO1034.out BK1041.out (by decide)) (fun _ hk => hk.2) (.slice Ao9 t1032.length co9)) (fun _ hk => trivial)⟩
 have n1_ : Aside0 (Kd.R (Kd.int .i64) 2 (w8.setCell ⟨gb1041, 0, none⟩ (.slice Ao9 t1032.length co9)) w.heap.size (fun _ => True) (.slice Ao13 t1035.length co13) t1035) := ⟨by (with_reducible repeat (first | apply Kd.R_alloc | apply Kd.R_drewN | apply Kd.R_drew)); exact Kd.R_mono (Kd.R_far (p := ⟨gb1041, 0, none⟩) (Kd.R_types HO1037.out BK1041.out (by decide)) (fun _ hk => hk.2) (.slice Ao9 t1032.length co9)) (fun _ hk => trivial)⟩
 have n2_ : Aside0 ((w8.setCell ⟨gb1041, 0, none⟩ (.slice Ao9 t1032.length co9)).heap[gb1031]? = some (.cells #[.slice none 0 0] 42 (0, 0))) := ⟨by refine bq ?_; refine blk_far ?_ NB1031_1041.out _; refine bq ?_; exact BK1031.out⟩
 have n3_ : Aside0 ((w8.setCell ⟨gb1041, 0, none⟩ (.slice Ao9 t1032.length co9)).heap[gb1041]? = some (.cells #[.slice Ao9 t1032.length co9] 42 (0, 0))) := ⟨by refine bq ?_; refine blk_put (cs := #[.slice none 0 0]) ?_ 0 _ rfl; refine bq ?_; exact BK1041.out⟩
 have n4_ : Aside0 (IsS148 w (w8.setCell ⟨gb1041, 0, none⟩ (.slice Ao9 t1032.length co9)) g1040 t1038 t1039) := ⟨by exact IsS148.q HI1040.out⟩
 have n5_ : Aside0 (Below w.heap.size w (w8.setCell ⟨gb1041, 0, none⟩ (.slice Ao9 t1032.length co9))) := ⟨by exact hsk HB.out (IsS148.ge HI1040.out)⟩
 (try clear HO1034)
 (try clear HO1037)
 (try clear BK1031)
 (try clear BK1041)
 (try clear HI1040)
 (try clear HB)
 (try simp only [Go.IntKind.wrap_u8])
 generalize (w8.setCell ⟨gb1041, 0, none⟩ (.slice Ao9 t1032.length co9)) = w14 at n0_ n1_ n2_ n3_ n4_ n5_ ⊢
 have HO1034 := n0_
 have HO1037 := n1_
 have BK1031 := n2_
 have BK1041 := n3_
 have HI1040 := n4_
 have HB := n5_
 clear n0_ n1_ n2_ n3_ n4_ n5_
 have n0_ := am (Kd.R_drew HO1034.out)
 have n1_ := am (Kd.R_drew HO1037.out)
 have n2_ := am (blk_drew BK1031.out)
 have n3_ := am (blk_drew BK1041.out)
 have n4_ := am (IsS148.drew HI1040.out)
 have n5_ := am (below_drew1 HB.out)
 clear HO1034
 clear HO1037
 clear BK1031
 clear BK1041
 clear HI1040
 clear HB
 have HO1034 := n0_
 have HO1037 := n1_
 have BK1031 := n2_
 have BK1041 := n3_
 have HI1040 := n4_
 have HB := n5_
 clear n0_ n1_ n2_ n3_ n4_ n5_
 refine start_ (n := 14) (S := fun w' => w'.cell? ⟨gb1041, 0, none⟩ = some (.slice Ao9 t1032.length co9)) (ds := []) #[false, false, false, false, false, false, false, false, false, false, false, false, false, false] (by kernel_rfl) rfl rfl ((blk_cell BK1041.out 0).trans rfl) (fun hHeld => ?_); refine with_tabW spec_DrawReplaceAt.tab2 spec_DrawReplaceAt.bits2 (fun HT_ HW_ => ?_)
 generalize w14.drew = w15 at HO1034 HO1037 BK1031 BK1041 HI1040 HB hHeld ⊢
 refine pure_ (i := 1) (N := some 16) (v := ?_) (a' := ?_) #[false, true, false, false, false, false, false, false, false, false, false, false, false, false] rfl rfl (any_of HT_.out (by kernel_rfl)) (fun _ _ _ h => h) (Or.inl ⟨by rfl, ?_⟩) ?_ ?_
 rotate_left
 ·intro w'
  go_simp
  with_reducible rfl
 rotate_left
 ·simp only [Act.put, lsp, i64_w, i32_w]
  rfl
 refine pure_ (i := 2) (N := some 17) (v := ?_) (a' := ?_) #[false, true, true, false, false, false, false, false, false, false, false, false, false, false] rfl rfl (any_of HT_.out (by kernel_rfl)) (fun _ _ _ h => h) (Or.inl ⟨by rfl, ?_⟩) ?_ ?_
 rotate_left
 ·intro w'
  go_simp
  with_reducible rfl
 rotate_left
 ·simp only [Act.put, lsp, i64_w, i32_w]
  rfl
 refine pure_ (i := 3) (N := some 18) (v := ?_) (a' := ?_) #[false, true, true, true, false, false, false, false, false, false, false, false, false, false] rfl rfl (any_of HT_.out (by kernel_rfl)) (fun _ _ _ h => h) (Or.inl ⟨by rfl, ?_⟩) ?_ ?_
 rotate_left
 ·intro w'
  go_simp
  with_reducible rfl
 rotate_left
 ·simp only [Act.put, lsp, i64_w, i32_w]
  rfl
 refine pure_ (i := 5) (N := some 20) (v := ?_) (a' := ?_) #[false, true, true, true, false, true, false, false, false, false, false, false, false, false] rfl rfl (any_of HT_.out (by kernel_rfl)) (fun _ _ _ h => h) (Or.inl ⟨by rfl, ?_⟩) ?_ ?_
 rotate_left
 ·intro w'
  go_simp
  with_reducible rfl
 rotate_left
 ·simp only [Act.put, lsp, i64_w, i32_w]
  rfl
 refine pure_ (i := 6) (N := some 21) (v := ?_) (a' := ?_) #[false, true, true, true, false, true, true, false, false, false, false, false, false, false] rfl rfl (any_of HT_.out (by kernel_rfl)) (fun _ _ _ h => h) (Or.inl ⟨by rfl, ?_⟩) ?_ ?_
 rotate_left
 ·intro w'
  go_simp
  with_reducible rfl
 rotate_left
 ·simp only [Act.put, lsp, i64_w, i32_w]
  rfl
 refine take_ (i := 0) (N := some 15) (v := ?_) (a' := ?_) #[true, true, true, true, false, true, true, false, false, false, false, false, false, false] rfl rfl (take_ofW HT_.out HW_.out (by kernel_rfl)) (fun _ _ _ h => h) (Or.inl ⟨by rfl, ?_⟩) hHeld ?_ ?_
 rotate_left
 ·intro w' s0
  go_simp
  with_reducible rfl
 rotate_left
 ·simp only [Act.put, lsp, i64_w, i32_w]
  rfl
 refine join_ (σ := Value) 6 #[true, true, true, true, true, true, true, true, false, false, false, false, false, false] (fun s_ => [(19, .int .i64 t1042), (22, s_)]) (fun s_ w' => (w'.cell? ⟨gb1041, 0, none⟩ = some (.slice Ao9 t1032.length co9)) ∧ (Kd.R k99 99 w' w.heap.size (fun _ => True) (.slice Ao9 t1032.length co9) t1032) ∧ (Kd.R (Kd.int .i64) 2 w' w.heap.size (fun k_ => some k_ ≠ (s_ : Value).ownBlock) (.slice Ao13 t1035.length co13) t1035) ∧ (Kd.R (Kd.int .i64) 2 w' w.heap.size (fun k_ => some k_ ≠ (.slice Ao13 t1035.length co13 : Value).ownBlock) s_ y1044) ∧ (w'.heap[gb1031]? = some (.cells #[.slice none 0 0] 42 (0, 0))) ∧ (w'.heap[gb1041]? = some (.cells #[.slice Ao9 t1032.length co9] 42 (0, 0))) ∧ (IsS148 w w' g1040 t1038 t1043) ∧ (Below w.heap.size w w')) ?_ ?_
 rotate_left
 ·intro hCont
  refine two_ (i := 4) (j := 7) (Ni := some 19) (Nj := some 22) #[true, true, true, true, true, true, true, false, false, false, false, false, false, false] #[true, true, true, true, false, true, true, true, false, false, false, false, false, false] rfl rfl rfl rfl (two_of HT_.out (by kernel_rfl)) (by decide) (by decide) (fun K hK => ?_) (fun K hK => ?_)
  ·skip
   refine goes_ Tryd.func111 (by kernel_rfl) rfl #[.pointer (some ⟨g1040, 0, none⟩), .slice Ao13 t1035.length co13] (by rfl) rfl rfl el ?_
   with_reducible refine (spec_l3At.calls g1040 t1038 t1039 _ _ t1035 t1042 t1043 w _ ?side1 ?side2 ?side3 ?side4 ?side5 A3.out).mono ?_
   (case side1 => exact IsS148.q HI1040.out)
   (case side2 => exact hsk HB.out (IsS148.ge HI1040.out))
   (case side3 => repeat (first | exact (Kd.R_reads' HO1037.out).2.2 | (with_reducible refine Kd.C_alloc ?_ _) | (with_reducible refine Kd.C_drewN ?_ _) | (with_reducible refine Kd.C_drew ?_)))
   (case side4 => exact (Kd.R_reads' HO1037.out).2.1)
   (case side5 => exact far_slice (IsS148.own_ne HI1040.out HO1037.out (by decide)))
   rintro e w16 ⟨rfl, hi, hb, hk⟩
   refine ⟨_, rfl, ?_⟩
   have n0_ := am (KeepBut.blk hk (g' := gb1031) (o := .cells #[.slice none 0 0] 42 (0, 0)) (bq BK1031.out) NB1031_1040.out (by simp))
   have n1_ := am (Kd.R_mono (Kd.R_keep (IsS148.apart (show IsS148 w _ g1040 t1038 t1039 from by exact IsS148.q HI1040.out) (rq HO1034.out) (by decide)) hk (fun _ h => h.2)) (fun _ h => h.1))
   have n2_ := am (Kd.R_mono (Kd.R_keep (IsS148.apart (show IsS148 w _ g1040 t1038 t1039 from by exact IsS148.q HI1040.out) (rq HO1037.out) (by decide)) hk (fun _ h => h.2)) (fun _ h => h.1))
   have n3_ := am (KeepBut.blk hk (g' := gb1041) (o := .cells #[.slice Ao9 t1032.length co9] 42 (0, 0)) (bq BK1041.out) NB1041_1040.out (by simp))
   have n4_ := am (hb)
   have n5_ := am (hi)
   clear BK1031
   clear HO1034
   clear HO1037
   clear BK1041
   clear HB
   clear HI1040
   have BK1031 := n0_
   have HO1034 := n1_
   have HO1037 := n2_
   have BK1041 := n3_
   have HB := n4_
   have HI1040 := n5_
   clear n0_ n1_ n2_ n3_ n4_ n5_
   (try clear hb)
   (try clear hb2)
   (try clear hgw)
   (try clear hk)
   (try clear hi)
   refine hK.out _ _ ((blk_cell BK1041.out 0).trans rfl) (fun hHeld => ?_)
   clear hK K
   refine norm_ (a' := ?_) ?_ ?_
   rotate_left
   ·show Act.put _ (some 19) _ = _
    simp only [Act.put, lsp, i64_w, i32_w]
    rfl
   refine one_ (i := 7) (N := some 22) #[true, true, true, true, true, true, true, true, false, false, false, false, false, false] rfl rfl (one_of HT_.out (by kernel_rfl)) (by decide) (fun K hK => ?_)
   refine Kd.R_lit_step (Kd.int .i64) _ 2 ?hg (N := 22) ?hd (xs := ([1, 3, 8, 20] : List Int)) (inner := [.int .i64 1, .int .i64 3, .int .i64 8, .int .i64 20]) (ok := fun _ => True) (okp := fun _ => True) ?hr ?hp (fun _ hk => hk) trivial (Below.refl _ _) (Nat.le_refl _) (by simp) ?_; (case hd => rfl); (case hg => rfl); (case hr => first | (go_simp; done) | (go_simp; rfl)); (case hp => exact (Reps.one (show Kd.M (Kd.int .i64) _ _ _ 1 [.int .i64 1] from rfl) (Reps.one (show Kd.M (Kd.int .i64) _ _ _ 3 [.int .i64 3] from rfl) (Reps.one (show Kd.M (Kd.int .i64) _ _ _ 8 [.int .i64 8] from rfl) (Reps.one (show Kd.M (Kd.int .i64) _ _ _ 20 [.int .i64 20] from rfl) (Reps.none _ _))))))
   intro v1045 w17 ho18 hb hg_ hnew_
   clear hg_ hnew_
   (first | rw [← Ny1044.out] at ho18 | (simp only [Int.reduceToNat] at ho18; rw [← Ny1044.out] at ho18))
   have n0_ := am (Kd.R_below (rq HO1034.out) hb)
   have n1_ := am (Kd.R_elder' (rq HO1037.out) (Kd.R_base ho18) hb)
   have n2_ := am (Kd.R_lower (Kd.R_new' ho18 (Kd.R_lt (rq HO1037.out))) (below_size (hsk HB.out (IsS148.ge HI1040.out))))
   have n3_ := am (blk_below (bq BK1031.out) hb)
   have n4_ := am (IsS148.below (IsS148.q HI1040.out) hb)
   have n5_ := am (blk_below (bq BK1041.out) hb)
   have n6_ := am (below_step (hsk HB.out (IsS148.ge HI1040.out)) hb)
   clear HO1034
   clear HO1037
   clear BK1031
   clear HI1040
   clear BK1041
   clear HB
   have HO1034 := n0_
   have HO1037 := n1_
   have HO1046 := n2_
   have BK1031 := n3_
   have HI1040 := n4_
   have BK1041 := n5_
   have HB := n6_
   clear n0_ n1_ n2_ n3_ n4_ n5_ n6_
   clear hb ho18
   refine hK.out _ _ ((blk_cell BK1041.out 0).trans rfl) (fun hHeld => ?_)
   clear hK K
   refine norm_ (a' := ?_) ?_ ?_
   rotate_left
   ·show Act.put _ (some 22) _ = _
    simp only [Act.put, lsp, i64_w, i32_w]
    rfl
   exact norm_ (by simp only [putAll, Act.put, lsp]) (hCont (v1045) _ ⟨hHeld, (rq HO1034.out), (by (with_reducible repeat (first | apply Kd.R_alloc | apply Kd.R_drewN | apply Kd.R_drew)); exact Kd.R_mono HO1037.out (fun _ hk => hk.2)), (by (with_reducible repeat (first | apply Kd.R_alloc | apply Kd.R_drewN | apply Kd.R_drew)); exact Kd.R_mono HO1046.out (fun _ hk => hk.2)), (bq BK1031.out), (bq BK1041.out), (IsS148.q HI1040.out), (hsk HB.out (IsS148.ge HI1040.out))⟩)
  ·skip
   refine Kd.R_lit_step (Kd.int .i64) _ 2 ?hg (N := 22) ?hd (xs := ([1, 3, 8, 20] : List Int)) (inner := [.int .i64 1, .int .i64 3, .int .i64 8, .int .i64 20]) (ok := fun _ => True) (okp := fun _ => True) ?hr ?hp (fun _ hk => hk) trivial (Below.refl _ _) (Nat.le_refl _) (by simp) ?_; (case hd => rfl); (case hg => rfl); (case hr => first | (go_simp; done) | (go_simp; rfl)); (case hp => exact (Reps.one (show Kd.M (Kd.int .i64) _ _ _ 1 [.int .i64 1] from rfl) (Reps.one (show Kd.M (Kd.int .i64) _ _ _ 3 [.int .i64 3] from rfl) (Reps.one (show Kd.M (Kd.int .i64) _ _ _ 8 [.int .i64 8] from rfl) (Reps.one (show Kd.M (Kd.int .i64) _ _ _ 20 [.int .i64 20] from rfl) (Reps.none _ _))))))
   intro v1045 w16 ho17 hb hg_ hnew_
   clear hg_ hnew_
   (first | rw [← Ny1044.out] at ho17 | (simp only [Int.reduceToNat] at ho17; rw [← Ny1044.out] at ho17))
   have n0_ := am (Kd.R_below (rq HO1034.out) hb)
   have n1_ := am (Kd.R_elder' (rq HO1037.out) (Kd.R_base ho17) hb)
   have n2_ := am (Kd.R_lower (Kd.R_new' ho17 (Kd.R_lt (rq HO1037.out))) (below_size (hsk HB.out (IsS148.ge HI1040.out))))
   have n3_ := am (blk_below (bq BK1031.out) hb)
   have n4_ := am (IsS148.below (IsS148.q HI1040.out) hb)
   have n5_ := am (blk_below (bq BK1041.out) hb)
   have n6_ := am (below_step (hsk HB.out (IsS148.ge HI1040.out)) hb)
   clear HO1034
   clear HO1037
   clear BK1031
   clear HI1040
   clear BK1041
   clear HB
   have HO1034 := n0_
   have HO1037 := n1_
   have HO1046 := n2_
   have BK1031 := n3_
   have HI1040 := n4_
   have BK1041 := n5_
   have HB := n6_
   clear n0_ n1_ n2_ n3_ n4_ n5_ n6_
   clear hb ho17
   refine hK.out _ _ ((blk_cell BK1041.out 0).trans rfl) (fun hHeld => ?_)
   clear hK K
   refine norm_ (a' := ?_) ?_ ?_
   rotate_left
   ·show Act.put _ (some 22) _ = _
    simp only [Act.put, lsp, i64_w, i32_w]
    rfl
   refine one_ (i := 4) (N := some 19) #[true, true, true, true, true, true, true, true, false, false, false, false, false, false] rfl rfl (one_of HT_.out (by kernel_rfl)) (by decide) (fun K hK => ?_)
   refine goes_ Tryd.func111 (by kernel_rfl) rfl #[.pointer (some ⟨g1040, 0, none⟩), .slice Ao13 t1035.length co13] (by rfl) rfl rfl el ?_
   with_reducible refine (spec_l3At.calls g1040 t1038 t1039 _ _ t1035 t1042 t1043 w _ ?side1 ?side2 ?side3 ?side4 ?side5 A3.out).mono ?_
   (case side1 => exact IsS148.q HI1040.out)
   (case side2 => exact hsk HB.out (IsS148.ge HI1040.out))
   (case side3 => repeat (first | exact (Kd.R_reads' HO1037.out).2.2 | (with_reducible refine Kd.C_alloc ?_ _) | (with_reducible refine Kd.C_drewN ?_ _) | (with_reducible refine Kd.C_drew ?_)))
   (case side4 => exact (Kd.R_reads' HO1037.out).2.1)
   (case side5 => exact far_slice (IsS148.own_ne HI1040.out HO1037.out (by decide)))
   rintro e w18 ⟨rfl, hi, hb, hk⟩
   refine ⟨_, rfl, ?_⟩
   have n0_ := am (KeepBut.blk hk (g' := gb1031) (o := .cells #[.slice none 0 0] 42 (0, 0)) (bq BK1031.out) NB1031_1040.out (by simp))
   have n1_ := am (Kd.R_mono (Kd.R_keep (IsS148.apart (show IsS148 w _ g1040 t1038 t1039 from by exact IsS148.q HI1040.out) (rq HO1034.out) (by decide)) hk (fun _ h => h.2)) (fun _ h => h.1))
   have n2_ := am (Kd.R_mono (Kd.R_keep (IsS148.apart (show IsS148 w _ g1040 t1038 t1039 from by exact IsS148.q HI1040.out) (rq HO1037.out) (by decide)) hk (fun _ h => h.2)) (fun _ h => h.1))
   have n3_ := am (KeepBut.blk hk (g' := gb1041) (o := .cells #[.slice Ao9 t1032.length co9] 42 (0, 0)) (bq BK1041.out) NB1041_1040.out (by simp))
   have n4_ := am (Kd.R_mono (Kd.R_keep (IsS148.apart (show IsS148 w _ g1040 t1038 t1039 from by exact IsS148.q HI1040.out) (rq HO1046.out) (by decide)) hk (fun _ h => h.2)) (fun _ h => h.1))
   have n5_ := am (hb)
   have n6_ := am (hi)
   clear BK1031
   clear HO1034
   clear HO1037
   clear BK1041
   clear HO1046
   clear HB
   clear HI1040
   have BK1031 := n0_
   have HO1034 := n1_
   have HO1037 := n2_
   have BK1041 := n3_
   have HO1046 := n4_
   have HB := n5_
   have HI1040 := n6_
   clear n0_ n1_ n2_ n3_ n4_ n5_ n6_
   (try clear hb)
   (try clear hb2)
   (try clear hgw)
   (try clear hk)
   (try clear hi)
   refine hK.out _ _ ((blk_cell BK1041.out 0).trans rfl) (fun hHeld => ?_)
   clear hK K
   refine norm_ (a' := ?_) ?_ ?_
   rotate_left
   ·show Act.put _ (some 19) _ = _
    simp only [Act.put, lsp, i64_w, i32_w]
    rfl
   exact norm_ (by simp only [putAll, Act.put, lsp]) (hCont (v1045) _ ⟨hHeld, (rq HO1034.out), (by (with_reducible repeat (first | apply Kd.R_alloc | apply Kd.R_drewN | apply Kd.R_drew)); exact Kd.R_mono HO1037.out (fun _ hk => hk.2)), (by (with_reducible repeat (first | apply Kd.R_alloc | apply Kd.R_drewN | apply Kd.R_drew)); exact Kd.R_mono HO1046.out (fun _ hk => hk.2)), (bq BK1031.out), (bq BK1041.out), (IsS148.q HI1040.out), (hsk HB.out (IsS148.ge HI1040.out))⟩)
 rintro v1045 w19 ⟨hS_, h0_, h1_, h2_, h3_, h4_, h5_, h6_⟩
 have n0_ : Aside0 (Kd.R k99 99 w19 w.heap.size (fun _ => True) (.slice Ao9 t1032.length co9) t1032) := ⟨h0_⟩
 have n1_ : Aside0 (Kd.R (Kd.int .i64) 2 w19 w.heap.size (fun k_ => some k_ ≠ (v1045 : Value).ownBlock) (.slice Ao13 t1035.length co13) t1035) := ⟨h1_⟩
 have n2_ : Aside0 (Kd.R (Kd.int .i64) 2 w19 w.heap.size (fun k_ => some k_ ≠ (.slice Ao13 t1035.length co13 : Value).ownBlock) v1045 y1044) := ⟨h2_⟩
 have n3_ : Aside0 (w19.heap[gb1031]? = some (.cells #[.slice none 0 0] 42 (0, 0))) := ⟨h3_⟩
 have n4_ : Aside0 (w19.heap[gb1041]? = some (.cells #[.slice Ao9 t1032.length co9] 42 (0, 0))) := ⟨h4_⟩
 have n5_ : Aside0 (IsS148 w w19 g1040 t1038 t1043) := ⟨h5_⟩
 have n6_ : Aside0 (Below w.heap.size w w19) := ⟨h6_⟩
 clear HO1034
 clear HO1037
 clear BK1031
 clear BK1041
 clear HI1040
 clear HB
 clear h0_ h1_ h2_ h3_ h4_ h5_ h6_
 have HO1034 := n0_
 have HO1037 := n1_
 have HO1046 := n2_
 have BK1031 := n3_
 have BK1041 := n4_
 have HI1040 := n5_
 have HB := n6_
 clear n0_ n1_ n2_ n3_ n4_ n5_ n6_
 have hHeld : w19.cell? ⟨gb1041, 0, none⟩ = some (.slice Ao9 t1032.length co9) := hS_
 obtain ⟨Ao20, co20, eo20⟩ := Kd.R_slice HO1046.out
 (first | subst eo20 | (injection eo20 with f1_ f2_ f3_; have f4_ := f1_.symm; have f5_ := f3_.symm; clear f1_ f2_ f3_; subst f4_; subst f5_))
 refine norm_ (a' := ?_) ?_ ?_
 rotate_left
 ·simp only [putAll, Act.put, lsp]
  rfl
 refine one_ (i := 8) (N := some 23) #[true, true, true, true, true, true, true, true, true, false, false, false, false, false] rfl rfl (one_of HT_.out (by kernel_rfl)) (by decide) (fun K hK => ?_)
 refine goes_ Tryd.func84 (by kernel_rfl) rfl #[.pointer (some ⟨g1040, 0, none⟩), .slice Ao20 y1044.length co20] (by rfl) rfl rfl el ?_
 with_reducible refine (spec_l1Pick.calls g1040 t1038 t1043 _ _ y1044 t1047 t1048 w _ ?side1 ?side2 ?side3 ?side4 ?side5 A4.out).mono ?_
 (case side1 => exact IsS148.q HI1040.out)
 (case side2 => exact hsk HB.out (IsS148.ge HI1040.out))
 (case side3 => repeat (first | exact (Kd.R_reads' HO1046.out).2.2 | (with_reducible refine Kd.C_alloc ?_ _) | (with_reducible refine Kd.C_drewN ?_ _) | (with_reducible refine Kd.C_drew ?_)))
 (case side4 => exact (Kd.R_reads' HO1046.out).2.1)
 (case side5 => exact far_slice (IsS148.own_ne HI1040.out HO1046.out (by decide)))
 rintro e w21 ⟨rfl, hi, hb, hk⟩
 refine ⟨_, rfl, ?_⟩
 have n0_ := am (KeepBut.blk hk (g' := gb1031) (o := .cells #[.slice none 0 0] 42 (0, 0)) (bq BK1031.out) NB1031_1040.out (by simp))
 have n1_ := am (Kd.R_mono (Kd.R_keep (IsS148.apart (show IsS148 w _ g1040 t1038 t1043 from by exact IsS148.q HI1040.out) (rq HO1034.out) (by decide)) hk (fun _ h => h.2)) (fun _ h => h.1))
 have n2_ := am (Kd.R_mono (Kd.R_keep (IsS148.apart (show IsS148 w _ g1040 t1038 t1043 from by exact IsS148.q HI1040.out) (rq HO1037.out) (by decide)) hk (fun _ h => h.2)) (fun _ h => h.1))
 have n3_ := am (KeepBut.blk hk (g' := gb1041) (o := .cells #[.slice Ao9 t1032.length co9] 42 (0, 0)) (bq BK1041.out) NB1041_1040.out (by simp))
 have n4_ := am (Kd.R_mono (Kd.R_keep (IsS148.apart (show IsS148 w _ g1040 t1038 t1043 from by exact IsS148.q HI1040.out) (rq HO1046.out) (by decide)) hk (fun _ h => h.2)) (fun _ h => h.1))
 have n5_ := am (hb)
 have n6_ := am (hi)
 clear BK1031
 clear HO1034
 clear HO1037
 clear BK1041
 clear HO1046
 clear HB
 clear HI1040
 have BK1031 := n0_
 have HO1034 := n1_
 have HO1037 := n2_
 have BK1041 := n3_
 have HO1046 := n4_
 have HB := n5_
 have HI1040 := n6_
 clear n0_ n1_ n2_ n3_ n4_ n5_ n6_
 (try clear hb)
 (try clear hb2)
 (try clear hgw)
 (try clear hk)
 (try clear hi)
 refine hK.out _ _ ((blk_cell BK1041.out 0).trans rfl) (fun hHeld => ?_)
 clear hK K
 refine norm_ (a' := ?_) ?_ ?_
 rotate_left
 ·show Act.put _ (some 23) _ = _
  simp only [Act.put, lsp, i64_w, i32_w]
  rfl
 refine one_ (i := 9) (N := some 24) #[true, true, true, true, true, true, true, true, true, true, false, false, false, false] rfl rfl (one_of HT_.out (by kernel_rfl)) (by decide) (fun K hK => ?_)
 refine goes_ Tryd.func112 (by kernel_rfl) rfl #[.pointer (some ⟨g1040, 0, none⟩), .pointer (some ⟨gb1041, 0, none⟩), .int .i64 t1047, .int .i64 3] (by rfl) rfl rfl el ?_
 with_reducible refine (spec_l3BentTerm.calls k g1040 t1038 t1048 _ [(⟨t1032⟩ : S42)] t1047 3 t1049 t1052 w _ ?side1 ?side2 ?side3 A5.out).mono ?_
 (case side1 => exact IsS148.q HI1040.out)
 (case side2 => exact hsk HB.out (IsS148.ge HI1040.out))
 (case side3 => exact fun W_ hk_ => k42_box (hk_.blk (show (World.heap _)[gb1041]? = some (.cells #[.slice Ao9 t1032.length co9] 42 (0, 0)) from by refine bq ?_; exact BK1041.out) (by first | exact NB1041_1040.out | exact NB1040_1041.out.symm) (by simp)) ((by exact Kd.C_foot_own (IsS148.apart (show IsS148 w _ g1040 t1038 t1048 from by exact IsS148.q HI1040.out) (rq HO1034.out) (by decide)) (fun _ h_ => h_.2) : ∀ W_, KeepBut _ W_ g1040 none → Kd.C k99 W_ Ao9 t1032.length t1032) W_ hk_) (by exact (Kd.R_reads' HO1034.out).2.1))
 rintro e w22 ⟨v1050, rfl, ho0, hi, hb, hk⟩
 refine ⟨_, rfl, ?_⟩
 have n0_ := am (KeepBut.blk hk (g' := gb1031) (o := .cells #[.slice none 0 0] 42 (0, 0)) (bq BK1031.out) NB1031_1040.out (by simp))
 have n1_ := am (Kd.R_mono (Kd.R_keep (IsS148.apart (show IsS148 w _ g1040 t1038 t1048 from by exact IsS148.q HI1040.out) (rq HO1034.out) (by decide)) hk (fun _ h => h.2)) (fun _ h => h.1))
 have n2_ := am (Kd.R_mono (Kd.R_told (Kd.R_oldK (IsS148.apart (show IsS148 w _ g1040 t1038 t1048 from by exact IsS148.q HI1040.out) (rq HO1037.out) (by decide)) hk) (Kd.R_base ho0)) (fun _ h_ => h_.1))
 have n3_ := am (KeepBut.blk hk (g' := gb1041) (o := .cells #[.slice Ao9 t1032.length co9] 42 (0, 0)) (bq BK1041.out) NB1041_1040.out (by simp))
 have n4_ := am (Kd.R_mono (Kd.R_told (Kd.R_oldK (IsS148.apart (show IsS148 w _ g1040 t1038 t1048 from by exact IsS148.q HI1040.out) (rq HO1046.out) (by decide)) hk) (Kd.R_base ho0)) (fun _ h_ => h_.1))
 have n5_ := am (Kd.R_lower (Kd.R_new' (Kd.R_new' ho0 (Kd.R_lt (rq HO1037.out))) (Kd.R_lt (rq HO1046.out))) (below_size (hsk HB.out (IsS148.ge HI1040.out))))
 have n6_ := am (hb)
 have n7_ := am (hi)
 clear BK1031
 clear HO1034
 clear HO1037
 clear BK1041
 clear HO1046
 clear HB
 clear HI1040
 have BK1031 := n0_
 have HO1034 := n1_
 have HO1037 := n2_
 have BK1041 := n3_
 have HO1046 := n4_
 have HO1051 := n5_
 have HB := n6_
 have HI1040 := n7_
 clear n0_ n1_ n2_ n3_ n4_ n5_ n6_ n7_
 (try clear hb)
 (try clear hb2)
 (try clear hgw)
 (try clear hk)
 (try clear hi)
 (try clear ho0)
 refine hK.out _ _ ((blk_cell BK1041.out 0).trans rfl) (fun hHeld => ?_)
 clear hK K
 refine norm_ (a' := ?_) ?_ ?_
 rotate_left
 ·show Act.put _ (some 24) _ = _
  simp only [Act.put, lsp, i64_w, i32_w]
  rfl
 refine one_ (i := 10) (N := none) #[true, true, true, true, true, true, true, true, true, true, true, false, false, false] rfl rfl (one_of HT_.out (by kernel_rfl)) (by decide) (fun K hK => ?_)
 have hs23 : w22.cell? ⟨gb1031, 0, none⟩ = some (.slice none 0 0) := (blk_cell BK1031.out 0).trans rfl
 have hfs23 := blk_frozen BK1031.out 0
 have hns23_1 := NB1041_1031.out
 have hms23_1 := NB1031_1041.out
 refine skip_ (w1 := ?_) (by rfl) rfl ?_ ?_
 rotate_left
 ·go_simp
  rfl
 refine hK.out _ _ (((cell_far (p := ⟨gb1031, _, none⟩) NB1041_1031.out _).trans (hHeld))) (fun hHeld => ?_)
 clear hK K
 refine pure_ (i := 11) (N := some 3) (v := ?_) (a' := ?_) #[true, true, true, true, true, true, true, true, true, true, true, true, false, false] rfl rfl (any_of HT_.out (by kernel_rfl)) (fun _ _ _ h => h) (Or.inl ⟨by rfl, ?_⟩) ?_ ?_
 rotate_left
 ·intro w'
  go_simp
  with_reducible rfl
 rotate_left
 ·simp only [Act.put, lsp, i64_w, i32_w]
  rfl
 refine pure_ (i := 12) (N := some 4) (v := ?_) (a' := ?_) #[true, true, true, true, true, true, true, true, true, true, true, true, true, false] rfl rfl (any_of HT_.out (by kernel_rfl)) (fun _ _ _ h => h) (Or.inl ⟨by rfl, ?_⟩) ?_ ?_
 rotate_left
 ·intro w'
  go_simp
  with_reducible rfl
 rotate_left
 ·simp only [Act.put, lsp, i64_w, i32_w]
  rfl
 refine pure_ (i := 13) (N := some 5) (v := ?_) (a' := ?_) #[true, true, true, true, true, true, true, true, true, true, true, true, true, true] rfl rfl (any_of HT_.out (by kernel_rfl)) (fun _ _ _ h => h) (Or.inl ⟨by rfl, ?_⟩) ?_ ?_
 rotate_left
 ·intro w'
  go_simp
  with_reducible rfl
 rotate_left
 ·simp only [Act.put, lsp, i64_w, i32_w]
  rfl
 refine done_ (done_of HT_.out (by kernel_rfl)) ?_
 try go_wp2
 refine bodyPost_ret (results_list (rs := [.cell 2 42, .tmp 3, .tmp 4, .tmp 5]) rfl (by simp) (.cell gb1031 42 #[.slice Ao9 t1032.length co9] (0, 0) _ rfl (by refine bq ?_; refine blk_put (cs := #[.slice none 0 0]) ?_ 0 _ rfl; refine bq ?_; exact BK1031.out) Tryd.underlying42 rfl (by kernel_rfl) (.tmp (.tmp (.tmp .nil))))) rfl ?_
 exact ⟨_, _, _, by first | rfl | (simp [errW_none, errW_some] <;> rfl) | (simp [*, errW_none, errW_some] <;> rfl), by (with_reducible repeat (first | apply Kd.R_alloc | apply Kd.R_drewN | apply Kd.R_drew)); exact Kd.R_mono (Kd.R_far (p := ⟨gb1031, 0, none⟩) (Kd.R_types HO1034.out BK1031.out (by decide)) (fun _ hk => hk.2) (.slice Ao9 t1032.length co9)) (fun _ hk => trivial), by (with_reducible repeat (first | apply Kd.R_alloc | apply Kd.R_drewN | apply Kd.R_drew)); exact Kd.R_mono (Kd.R_far (p := ⟨gb1031, 0, none⟩) (Kd.R_types HO1037.out BK1031.out (by decide)) (fun _ hk => hk.2) (.slice Ao9 t1032.length co9)) (fun _ hk => hk.1.2), by (with_reducible repeat (first | apply Kd.R_alloc | apply Kd.R_drewN | apply Kd.R_drew)); exact Kd.R_mono (Kd.R_far (p := ⟨gb1031, 0, none⟩) (Kd.R_types HO1051.out BK1031.out (by decide)) (fun _ hk => hk.2) (.slice Ao9 t1032.length co9)) (fun _ hk => hk.1.1.2), by exact hsk HB.out (IsS148.ge HI1040.out)⟩
def impl_subterm.f (k : Nat) (l0_0 : List (S99)) (l1 : List Int) (a2 : Int) : Option (List Int) := (impl_endOf.f k l0_0 l1 a2).bind fun t1054 => (if 0 ≤ a2 then (if a2 ≤ t1054 then (if t1054 ≤ (l1.length : Int) then (some ((l1.take (t1054 : Int).toNat).drop (a2 : Int).toNat)) else (none)) else (none)) else (none))
set_option maxHeartbeats 8000000 in
set_option maxRecDepth 100000 in
theorem impl_subterm.calls (k : Nat) (A0_0 : Option Addr) (c0_0 : Nat) (l0_0 : List (S99)) (P1_ : Nat → Prop) (A1 : Option Addr) (c1 : Nat) (l1 : List Int) (a2 : Int) (r : List Int) (w : World) (hr0_0 : Kd.C k99 w A0_0 l0_0.length l0_0) (hc0_0 : l0_0.length ≤ c0_0) (hs1 : Kd.V (Kd.int .i64) 2 w w.heap.size (fun k_ => P1_ k_) (.slice A1 l1.length c1) l1) (h : impl_subterm.f k l0_0 l1 a2 = some r) :
  Calls Tryd.prog 113 #[.agg #[.slice A0_0 l0_0.length c0_0], .slice A1 l1.length c1, .int .i64 a2] w fun e w' => ∃ v0_ : Value, e = .returned (v0_) ∧ Kd.V (Kd.int .i64) 2 w' w.heap.size (fun k_ => (P1_ k_ ∨ w.heap.size ≤ k_)) v0_ r ∧ Below w.heap.size w w' := by
 have hu42 := Tryd.underlying42
 have HR0_0 := am hr0_0
 have HC0_0 := am hc0_0
 clear hr0_0 hc0_0
 have HO1 := am (show Kd.V (Kd.int .i64) 2 w w.heap.size (fun k_ => (P1_ k_ ∨ w.heap.size ≤ k_)) (.slice A1 l1.length c1) l1 from Kd.V_mono hs1 (fun k_ hk => .inl hk))
 have HB := am (Below.refl w.heap.size w)
 have H : ((impl_endOf.f k l0_0 l1 a2).bind fun t1054 => (if 0 ≤ a2 then (if a2 ≤ t1054 then (if t1054 ≤ (l1.length : Int) then (some ((l1.take (t1054 : Int).toNat).drop (a2 : Int).toNat)) else (none)) else (none)) else (none))) = some r := h
 clear h
 replace H := Option.bind_eq_some_iff.mp H
 obtain ⟨t1054, A40, H⟩ := H
 replace H : (if 0 ≤ a2 then (if a2 ≤ t1054 then (if t1054 ≤ (l1.length : Int) then (some ((l1.take (t1054 : Int).toNat).drop (a2 : Int).toNat)) else (none)) else (none)) else (none)) = some r := H
 have A4 := am A40
 clear A40
 by_cases c5 : 0 ≤ a2
 ·rw [if_pos c5] at H
  have c5b0 := eq_true c5
  have c5b1 : decide (0 ≤ a2) = true := decide_eq_true c5
  clear c5
  by_cases c6 : a2 ≤ t1054
  ·rw [if_pos c6] at H
   have c6b0 := eq_true c6
   have c6b1 : decide (a2 ≤ t1054) = true := decide_eq_true c6
   clear c6
   by_cases c7 : t1054 ≤ (l1.length : Int)
   ·rw [if_pos c7] at H
    have c7b0 := eq_true c7
    have c7b1 : decide (t1054 ≤ (l1.length : Int)) = true := decide_eq_true c7
    clear c7
    obtain ⟨y1055, hy1055⟩ : ∃ y_ : List Int, y_ = ((l1.take (t1054 : Int).toNat).drop (a2 : Int).toNat) := ⟨_, rfl⟩
    replace H : (some y1055) = some r := by first | (rw [hy1055]; with_reducible exact H) | (have H2_ := (Option.bind_some _ _).symm.trans H; rw [hy1055]; with_reducible exact H2_) | (have H2_ := (Option.bind_some _ _).symm.trans H; with_reducible exact H2_) | with_reducible exact H | (rw [hy1055]; exact H) | exact H
    have Ny1055 := am hy1055
    clear hy1055
    obtain rfl := Option.some.inj H
    go_enter Tryd.func113, Tryd.ntmps113
    go_wp2_with (first | ((with_reducible refine gate_dst (N := 3) rfl ?_); refine box_event ?hg (N := 3) ?hd (cs := #[.slice A0_0 l0_0.length c0_0]) (t := 42) ?hr ?_; (case hd => rfl); (case hg => rfl); (case hr => first | (go_simp; done) | (go_simp; rfl)); intro gb1053 hg w8 hbox hb; have n0_ := am (Kd.V_below (Kd.V_elderB (by (with_reducible repeat (first | apply Kd.V_alloc | apply Kd.V_drewN | apply Kd.V_drew)); exact HO1.out) gb1053 (Nat.le_of_eq hg.symm)) hb); have n1_ := am (below_step (hq HB.out) hb); have n2_ := am (hbox); have n3_ := am (bz hg (hq HB.out)); have n4_ := n3_; clear HO1 HB; revert n0_ n1_ n2_ n3_ n4_; intro HO1 HB BK1053 GW1053 GE1053; clear hb hbox hg; have hcz9_0 : w8.cell? ⟨gb1053, 0, none⟩ = some (.slice A0_0 l0_0.length c0_0) := (blk_cell BK1053.out 0).trans rfl; have hfz9_0 := blk_frozen BK1053.out 0) | ((with_reducible refine gate_callee (f := 117) rfl ?_); refine goesL_ (some 12) rfl rfl Tryd.func117 (by kernel_rfl) rfl #[.agg #[.slice A0_0 l0_0.length c0_0], .slice A1 l1.length c1, .int .i64 a2] rfl el ?_; (with_reducible refine (impl_endOf.calls k _ _ l0_0 _ _ l1 a2 t1054 _ ?side1 ?side2 ?side3 ?side4 A4.out).mono ?_); (case side1 => exact cq (Kd.C_below HR0_0.out HB.out)); (case side2 => exact HC0_0.out); (case side3 => repeat (first | exact (Kd.V_reads' HO1.out).2.2 | (with_reducible refine Kd.C_alloc ?_ _) | (with_reducible refine Kd.C_drewN ?_ _) | (with_reducible refine Kd.C_drew ?_))); (case side4 => exact (Kd.V_reads' HO1.out).2.1); rintro e w10 ⟨rfl, hb⟩; refine ⟨_, rfl, ?_⟩; have n0_ := am (Kd.V_below (by (with_reducible repeat (first | apply Kd.V_alloc | apply Kd.V_drewN | apply Kd.V_drew)); exact HO1.out) hb); have n1_ := am (blk_below (bq BK1053.out) hb); have n2_ := am (below_step (hs HB.out) hb); clear HO1 BK1053 HB; revert n0_ n1_ n2_; intro HO1 BK1053 HB; (try clear hb); (try clear hb2); (try clear hgw); (try clear hk); (try clear hi); have q11 : (t1054 : Int) ≤ ((l1.length : Int) : Int) := of_decide_eq_true (by first | (with_reducible assumption) | assumption); obtain ⟨i011, hi011, _, hsz11, _⟩ := info_parts info2; have hroom11 : l1.length ≤ c1 := (Kd.V_reads' HO1.out).2.1; have hC11 : Kd.F (Kd.int .i64) _ _ A1 l1.length l1 := (Kd.V_at (base := w.heap.size) HO1.out).2.2; have ql11 : (a2 : Int) ≤ (t1054 : Int) := of_decide_eq_true (by first | (with_reducible assumption) | assumption); have q011 : (0 : Int) ≤ (a2 : Int) := of_decide_eq_true (by first | (with_reducible assumption) | assumption); have hcut11 := cut_mid (P := Tryd.prog) 52 2 .i64 .i64 Tryd.underlying52 hi011 1 hsz11 A1 l1.length c1 a2 t1054 q011 ql11 q11 hroom11; have hr11 := Kd.F_mid (lo := (a2 : Int).toNat) (hi := (t1054 : Int).toNat) (c := c1) hC11 (by omega) (by omega) hroom11; obtain ⟨A11, hA11⟩ : ∃ Az_, Az_ = (if c1 = (a2 : Int).toNat then A1 else (A1 : Option Addr).map (·.add ((a2 : Int).toNat * 1))) := ⟨_, rfl⟩; obtain ⟨c11, hc11⟩ : ∃ cz_, cz_ = c1 - (a2 : Int).toNat := ⟨_, rfl⟩; have hy11 : y1055.length = (t1054 : Int).toNat - (a2 : Int).toNat := (by rw [Ny1055.out, List.length_drop, List.length_take] <;> omega); rw [show ((l1).take (t1054 : Int).toNat).drop (a2 : Int).toNat = y1055 from Ny1055.out.symm] at hr11; replace hr11 : Kd.F (Kd.int .i64) _ _ A11 y1055.length y1055 := (by rw [hA11]; exact hr11); rw [← hy11, ← hA11, ← hc11] at hcut11; have HO1059 := am (show Kd.V (Kd.int .i64) 2 _ w.heap.size _ (.slice A11 y1055.length c11) y1055 from Kd.V_mk (by rw [hy11, hc11]; exact Nat.sub_le_sub_right (Nat.le_trans (by omega) hroom11) _) hr11); have HC1059 := am (show y1055.length ≤ c11 from by rw [hy11, hc11]; exact Nat.sub_le_sub_right (Nat.le_trans (by omega) hroom11) _); clear hr11 hC11 hroom11 hi011 hsz11 hc11; have KY11 := am hy11; have KA11 := am hA11; clear hy11 hA11; replace q11 := eq_true q11))
    go_ret
    exact ⟨_, by first | rfl | (simp [errW_none, errW_some] <;> rfl) | (simp [*, errW_none, errW_some] <;> rfl), by (with_reducible repeat (first | apply Kd.V_alloc | apply Kd.V_drewN | apply Kd.V_drew)); exact Kd.V_mono HO1059.out (fun _ hk => hk.1), by exact hs HB.out⟩
   ·rw [if_neg c7] at H
    exact absurd H (by simp)
  ·rw [if_neg c6] at H
   exact absurd H (by simp)
 ·rw [if_neg c5] at H
  exact absurd H (by simp)
def impl_SubtermAt.f (k : Nat) (l0_0 : List (S99)) (l1 : List Int) (a2 : Int) : Option (Int × List Int) := (impl_placeFault.f k l0_0 l1 a2).bind fun t1062 => (if t1062 = 0 then ((impl_subterm.f k l0_0 l1 a2).bind fun t1063 => ((slices_Clone_int64_int64.f t1063).bind fun t1066 => (some (0, t1066)))) else (some (t1062, ([] : List Int))))
set_option maxHeartbeats 8000000 in
set_option maxRecDepth 100000 in
theorem impl_SubtermAt.calls (k : Nat) (A0_0 : Option Addr) (c0_0 : Nat) (l0_0 : List (S99)) (A1 : Option Addr) (c1 : Nat) (l1 : List Int) (a2 : Int) (r1 : Int) (r2 : List Int) (w : World) (hr0_0 : Kd.C k99 w A0_0 l0_0.length l0_0) (hc0_0 : l0_0.length ≤ c0_0) (hr1 : Kd.C (Kd.int .i64) w A1 l1.length l1) (hc1 : l1.length ≤ c1) (h : impl_SubtermAt.f k l0_0 l1 a2 = some (r1, r2)) :
  Calls Tryd.prog 54 #[.agg #[.slice A0_0 l0_0.length c0_0], .slice A1 l1.length c1, .int .i64 a2] w fun e w' => ∃ v1_ : Value, e = .returned (.agg #[.int .i64 r1, v1_]) ∧ Kd.R (Kd.int .i64) 2 w' w.heap.size (fun _ => True) v1_ r2 ∧ Below w.heap.size w w' := by
 have hu42 := Tryd.underlying42
 have hu67 := Tryd.underlying67
 have HR0_0 := am hr0_0
 have HC0_0 := am hc0_0
 clear hr0_0 hc0_0
 have HR1 := am hr1
 have HC1 := am hc1
 clear hr1 hc1
 have HB := am (Below.refl w.heap.size w)
 have H : ((impl_placeFault.f k l0_0 l1 a2).bind fun t1062 => (if t1062 = 0 then ((impl_subterm.f k l0_0 l1 a2).bind fun t1063 => ((slices_Clone_int64_int64.f t1063).bind fun t1066 => (some (0, t1066)))) else (some (t1062, ([] : List Int))))) = some (r1, r2) := h
 clear h
 replace H := Option.bind_eq_some_iff.mp H
 obtain ⟨t1062, A40, H⟩ := H
 replace H : (if t1062 = 0 then ((impl_subterm.f k l0_0 l1 a2).bind fun t1063 => ((slices_Clone_int64_int64.f t1063).bind fun t1066 => (some (0, t1066)))) else (some (t1062, ([] : List Int)))) = some (r1, r2) := H
 have A4 := am A40
 clear A40
 by_cases c5 : t1062 = 0
 ·rw [if_pos c5] at H
  have c5b0 : (t1062 == 0) = true := beq_iff_eq.mpr c5
  have c5b1 : (t1062 != 0) = false := bne_eq_false_iff_eq.mpr c5
  clear c5
  replace H := Option.bind_eq_some_iff.mp H
  obtain ⟨t1063, A60, H⟩ := H
  replace H : ((slices_Clone_int64_int64.f t1063).bind fun t1066 => (some (0, t1066))) = some (r1, r2) := H
  have A6 := am A60
  clear A60
  replace H := Option.bind_eq_some_iff.mp H
  obtain ⟨t1066, A70, H⟩ := H
  replace H : (some (0, t1066)) = some (r1, r2) := H
  have A7 := am A70
  clear A70
  simp only [Option.some.injEq, Prod.mk.injEq] at H
  obtain ⟨rfl, rfl⟩ := H
  go_enter Tryd.func54, Tryd.ntmps54
  go_wp2_with (first | ((with_reducible refine gate_dst (N := 3) rfl ?_); refine box_event ?hg (N := 3) ?hd (cs := #[.slice A0_0 l0_0.length c0_0]) (t := 42) ?hr ?_; (case hd => rfl); (case hg => rfl); (case hr => first | (go_simp; done) | (go_simp; rfl)); intro gb1060 hg w8 hbox hb; have n0_ := am (below_step (hq HB.out) hb); have n1_ := am (hbox); have n2_ := am (bz hg (hq HB.out)); have n3_ := n2_; clear HB; revert n0_ n1_ n2_ n3_; intro HB BK1060 GW1060 GE1060; clear hb hbox hg) | ((with_reducible refine gate_dst (N := 6) rfl ?_); refine box_event ?hg (N := 6) ?hd (cs := #[.int .i64 0, .slice none 0 0]) (t := 67) ?hr ?_; (case hd => rfl); (case hg => rfl); (case hr => first | (go_simp; done) | (go_simp; rfl)); intro gb1061 hg w9 hbox hb; have n0_ := am (blk_below (bq BK1060.out) hb); have n1_ := am (below_step (hs HB.out) hb); have n2_ := am (hbox); have n3_ := am (bz hg (hs HB.out)); have n4_ := n3_; have n5_ := am ((by rw [hg]; exact Nat.ne_of_lt (blk_lt (bq BK1060.out)) : gb1060 ≠ gb1061)); have n6_ := am ((by rw [hg]; exact Nat.ne_of_gt (blk_lt (bq BK1060.out)) : gb1061 ≠ gb1060)); clear BK1060 HB; revert n0_ n1_ n2_ n3_ n4_ n5_ n6_; intro BK1060 HB BK1061 GW1061 GE1061 NB1060_1061 NB1061_1060; clear hb hbox hg; have hnb10 := NB1060_1061.out; have hnc10 := NB1061_1060.out; have hcz11_0 : w9.cell? ⟨gb1060, 0, none⟩ = some (.slice A0_0 l0_0.length c0_0) := (blk_cell BK1060.out 0).trans rfl; have hfz11_0 := blk_frozen BK1060.out 0) | ((with_reducible refine gate_callee (f := 107) rfl ?_); refine goesL_ (some 11) rfl rfl Tryd.func107 (by kernel_rfl) rfl #[.agg #[.slice A0_0 l0_0.length c0_0], .slice A1 l1.length c1, .int .i64 a2] rfl el ?_; (with_reducible refine (impl_placeFault.calls k _ _ l0_0 _ _ l1 a2 t1062 _ ?side1 ?side2 ?side3 ?side4 A4.out).mono ?_); (case side1 => exact cq (Kd.C_below HR0_0.out HB.out)); (case side2 => exact HC0_0.out); (case side3 => exact cq (Kd.C_below HR1.out HB.out)); (case side4 => exact HC1.out); rintro e w12 ⟨rfl, hb⟩; refine ⟨_, rfl, ?_⟩; have n0_ := am (blk_below (bq BK1060.out) hb); have n1_ := am (blk_below (bq BK1061.out) hb); have n2_ := am (below_step (hs HB.out) hb); clear BK1060 BK1061 HB; revert n0_ n1_ n2_; intro BK1060 BK1061 HB; (try clear hb); (try clear hb2); (try clear hgw); (try clear hk); (try clear hi); have hcz13_0 : w12.cell? ⟨gb1060, 0, none⟩ = some (.slice A0_0 l0_0.length c0_0) := (blk_cell BK1060.out 0).trans rfl; have hfz13_0 := blk_frozen BK1060.out 0) | ((with_reducible refine gate_callee (f := 113) rfl ?_); refine goesL_ (some 19) rfl rfl Tryd.func113 (by kernel_rfl) rfl #[.agg #[.slice A0_0 l0_0.length c0_0], .slice A1 l1.length c1, .int .i64 a2] rfl el ?_; (with_reducible refine (impl_subterm.calls k _ _ l0_0 (fun k_ => k_ < w.heap.size) _ _ l1 a2 t1063 _ ?side1 ?side2 ?side3 A6.out).mono ?_); (case side1 => exact cq (Kd.C_below HR0_0.out HB.out)); (case side2 => exact HC0_0.out); (case side3 => exact Kd.V_mk HC1.out (Kd.F_below (Kd.C_F (Kd.heap_int .i64) HR1.out) (hs HB.out))); rintro e w14 ⟨v1064, rfl, ho0, hb⟩; refine ⟨_, rfl, ?_⟩; have n0_ := am (Kd.V_lower (Kd.V_mono (ok' := fun k_ => k_ ≠ gb1060 ∧ k_ ≠ gb1061) ho0 (fun k_ hk_ => ⟨Or.elim hk_ (fun hs_ => fun e_ => Nat.not_le.2 hs_ (by rw [e_]; exact GW1060.out)) (fun hn_ => (Kd.freshB (bq BK1060.out) k_ hn_)), Or.elim hk_ (fun hs_ => fun e_ => Nat.not_le.2 hs_ (by rw [e_]; exact GW1061.out)) (fun hn_ => (Kd.freshB (bq BK1061.out) k_ hn_))⟩)) (below_size (hs HB.out))); have n1_ := am (blk_below (bq BK1060.out) hb); have n2_ := am (blk_below (bq BK1061.out) hb); have n3_ := am (below_step (hs HB.out) hb); clear BK1060 BK1061 HB; revert n0_ n1_ n2_ n3_; intro HO1065 BK1060 BK1061 HB; (try clear hb); (try clear hb2); (try clear hgw); (try clear hk); (try clear hi); (try clear ho0); obtain ⟨Ao15, co15, eo15⟩ := Kd.V_slice HO1065.out; subst eo15) | ((with_reducible refine gate_callee (f := 88) rfl ?_); refine goesL_ (some 20) rfl rfl Tryd.func88 (by kernel_rfl) rfl #[.slice Ao15 t1063.length co15] rfl el ?_; (with_reducible refine (slices_Clone_int64_int64.calls _ _ t1063 t1066 _ ?side1 ?side2 A7.out).mono ?_); (case side1 => repeat (first | exact (Kd.V_reads' HO1065.out).2.2 | (with_reducible refine Kd.C_alloc ?_ _) | (with_reducible refine Kd.C_drewN ?_ _) | (with_reducible refine Kd.C_drew ?_))); (case side2 => exact (Kd.V_reads' HO1065.out).2.1); rintro e w16 ⟨v1067, rfl, ho0, hb⟩; refine ⟨_, rfl, ?_⟩; have n0_ := am (Kd.V_elder' (by (with_reducible repeat (first | apply Kd.V_alloc | apply Kd.V_drewN | apply Kd.V_drew)); exact HO1065.out) (Kd.R_base ho0) hb); have n1_ := am (Kd.R_lower ho0 (below_size (hs HB.out))); have n2_ := am (blk_below (bq BK1060.out) hb); have n3_ := am (blk_below (bq BK1061.out) hb); have n4_ := am (below_step (hs HB.out) hb); clear HO1065 BK1060 BK1061 HB; revert n0_ n1_ n2_ n3_ n4_; intro HO1065 HO1068 BK1060 BK1061 HB; (try clear hb); (try clear hb2); (try clear hgw); (try clear hk); (try clear hi); (try clear ho0); obtain ⟨Ao17, co17, eo17⟩ := Kd.R_slice HO1068.out; subst eo17; have hcz18_0 : w16.cell? ⟨gb1061, 0, none⟩ = some (.int .i64 0) := (blk_cell BK1061.out 0).trans rfl; have hcz18_1 : w16.cell? ⟨gb1061, 1, none⟩ = some (.slice none 0 0) := (blk_cell BK1061.out 1).trans rfl; have hfz18_0 := blk_frozen BK1061.out 0; have hfz18_1 := blk_frozen BK1061.out 1))
  refine bodyPost_ret (results_cell_row rfl _ _ gb1061 67 #[.int .i64 0, .slice Ao17 t1066.length co17] (0, 0) _ rfl (by refine bq ?_; refine blk_put (cs := #[.int .i64 0, .slice none 0 0]) ?_ 1 _ rfl; refine bq ?_; refine blk_put (cs := #[.int .i64 0, .slice none 0 0]) ?_ 0 _ rfl; refine bq ?_; exact BK1061.out) Tryd.underlying67 rfl (by kernel_rfl)) rfl ?_
  exact ⟨_, by first | rfl | (simp [errW_none, errW_some] <;> rfl) | (simp [*, errW_none, errW_some] <;> rfl), by (with_reducible repeat (first | apply Kd.R_alloc | apply Kd.R_drewN | apply Kd.R_drew)); exact Kd.R_mono (Kd.R_far (p := ⟨gb1061, 1, none⟩) (Kd.R_far (p := ⟨gb1061, 0, none⟩) (Kd.R_types HO1068.out BK1061.out (by decide)) (fun _ hk => hk.2) (.int .i64 0)) (fun _ hk => hk.2) (.slice Ao17 t1066.length co17)) (fun _ hk => trivial), by exact hs HB.out⟩
 ·rw [if_neg c5] at H
  have c5b0 : (t1062 == 0) = false := beq_eq_false_iff_ne.mpr c5
  have c5b1 : (t1062 != 0) = true := bne_iff_ne.mpr c5
  simp only [Option.some.injEq, Prod.mk.injEq] at H
  obtain ⟨rfl, rfl⟩ := H
  go_enter Tryd.func54, Tryd.ntmps54
  go_wp2_with (first | ((with_reducible refine gate_dst (N := 3) rfl ?_); refine box_event ?hg (N := 3) ?hd (cs := #[.slice A0_0 l0_0.length c0_0]) (t := 42) ?hr ?_; (case hd => rfl); (case hg => rfl); (case hr => first | (go_simp; done) | (go_simp; rfl)); intro gb1060 hg w19 hbox hb; have n0_ := am (below_step (hq HB.out) hb); have n1_ := am (hbox); have n2_ := am (bz hg (hq HB.out)); have n3_ := n2_; clear HB; revert n0_ n1_ n2_ n3_; intro HB BK1060 GW1060 GE1060; clear hb hbox hg) | ((with_reducible refine gate_dst (N := 6) rfl ?_); refine box_event ?hg (N := 6) ?hd (cs := #[.int .i64 0, .slice none 0 0]) (t := 67) ?hr ?_; (case hd => rfl); (case hg => rfl); (case hr => first | (go_simp; done) | (go_simp; rfl)); intro gb1061 hg w20 hbox hb; have n0_ := am (blk_below (bq BK1060.out) hb); have n1_ := am (below_step (hs HB.out) hb); have n2_ := am (hbox); have n3_ := am (bz hg (hs HB.out)); have n4_ := n3_; have n5_ := am ((by rw [hg]; exact Nat.ne_of_lt (blk_lt (bq BK1060.out)) : gb1060 ≠ gb1061)); have n6_ := am ((by rw [hg]; exact Nat.ne_of_gt (blk_lt (bq BK1060.out)) : gb1061 ≠ gb1060)); clear BK1060 HB; revert n0_ n1_ n2_ n3_ n4_ n5_ n6_; intro BK1060 HB BK1061 GW1061 GE1061 NB1060_1061 NB1061_1060; clear hb hbox hg; have hnb21 := NB1060_1061.out; have hnc21 := NB1061_1060.out; have hcz22_0 : w20.cell? ⟨gb1060, 0, none⟩ = some (.slice A0_0 l0_0.length c0_0) := (blk_cell BK1060.out 0).trans rfl; have hfz22_0 := blk_frozen BK1060.out 0) | ((with_reducible refine gate_callee (f := 107) rfl ?_); refine goesL_ (some 11) rfl rfl Tryd.func107 (by kernel_rfl) rfl #[.agg #[.slice A0_0 l0_0.length c0_0], .slice A1 l1.length c1, .int .i64 a2] rfl el ?_; (with_reducible refine (impl_placeFault.calls k _ _ l0_0 _ _ l1 a2 t1062 _ ?side1 ?side2 ?side3 ?side4 A4.out).mono ?_); (case side1 => exact cq (Kd.C_below HR0_0.out HB.out)); (case side2 => exact HC0_0.out); (case side3 => exact cq (Kd.C_below HR1.out HB.out)); (case side4 => exact HC1.out); rintro e w23 ⟨rfl, hb⟩; refine ⟨_, rfl, ?_⟩; have n0_ := am (blk_below (bq BK1060.out) hb); have n1_ := am (blk_below (bq BK1061.out) hb); have n2_ := am (below_step (hs HB.out) hb); clear BK1060 BK1061 HB; revert n0_ n1_ n2_; intro BK1060 BK1061 HB; (try clear hb); (try clear hb2); (try clear hgw); (try clear hk); (try clear hi); have hcz24_0 : w23.cell? ⟨gb1061, 0, none⟩ = some (.int .i64 0) := (blk_cell BK1061.out 0).trans rfl; have hcz24_1 : w23.cell? ⟨gb1061, 1, none⟩ = some (.slice none 0 0) := (blk_cell BK1061.out 1).trans rfl; have hfz24_0 := blk_frozen BK1061.out 0; have hfz24_1 := blk_frozen BK1061.out 1))
  refine bodyPost_ret (results_cell_row rfl _ _ gb1061 67 #[.int .i64 t1062, .slice none 0 0] (0, 0) _ rfl (by refine bq ?_; refine blk_put (cs := #[.int .i64 t1062, .slice none 0 0]) ?_ 1 _ rfl; refine bq ?_; refine blk_put (cs := #[.int .i64 0, .slice none 0 0]) ?_ 0 _ rfl; refine bq ?_; exact BK1061.out) Tryd.underlying67 rfl (by kernel_rfl)) rfl ?_
  exact ⟨_, by first | rfl | (simp [errW_none, errW_some] <;> rfl) | (simp [*, errW_none, errW_some] <;> rfl), by first | exact Kd.R_nil _ _ _ _ _ | exact Kd.N_nil _ _ _ _ _ | exact Kd.V_nil _ _ _ _ _ | exact Kd.Q_nil _ _ _ _ _ | exact Kd.S_nil _ _ _ _ _, by exact hs HB.out⟩
def spec_l3Sub.f (k : Nat) (l0 : List (S42)) (l1 : List Int) (a2 : Int) : Option (List Int) := (spec_l3End.f k l0 l1 a2).bind fun t1069 => (if 0 ≤ a2 then (if a2 ≤ t1069 then (if t1069 ≤ (l1.length : Int) then ((spec_l1Ints.f ((l1.take (t1069 : Int).toNat).drop (a2 : Int).toNat)).bind fun t1071 => (some t1071)) else (none)) else (none)) else (none))
set_option maxHeartbeats 8000000 in
set_option maxRecDepth 100000 in
theorem spec_l3Sub.calls (k : Nat) (A0 : Option Addr) (l0 : List (S42)) (A1 : Option Addr) (c1 : Nat) (l1 : List Int) (a2 : Int) (r : List Int) (w : World) (hr0 : Kd.C k42 w A0 l0.length l0) (hr1 : Kd.C (Kd.int .i64) w A1 l1.length l1) (hc1 : l1.length ≤ c1) (h : spec_l3Sub.f k l0 l1 a2 = some r) :
  Calls Tryd.prog 114 #[.pointer A0, .slice A1 l1.length c1, .int .i64 a2] w fun e w' => ∃ v0_ : Value, e = .returned (v0_) ∧ Kd.R (Kd.int .i64) 2 w' w.heap.size (fun _ => True) v0_ r ∧ Below w.heap.size w w' := by
 have HR0 := am hr0
 clear hr0
 have HR1 := am hr1
 have HC1 := am hc1
 clear hr1 hc1
 have HB := am (Below.refl w.heap.size w)
 have H : ((spec_l3End.f k l0 l1 a2).bind fun t1069 => (if 0 ≤ a2 then (if a2 ≤ t1069 then (if t1069 ≤ (l1.length : Int) then ((spec_l1Ints.f ((l1.take (t1069 : Int).toNat).drop (a2 : Int).toNat)).bind fun t1071 => (some t1071)) else (none)) else (none)) else (none))) = some r := h
 clear h
 replace H := Option.bind_eq_some_iff.mp H
 obtain ⟨t1069, A40, H⟩ := H
 replace H : (if 0 ≤ a2 then (if a2 ≤ t1069 then (if t1069 ≤ (l1.length : Int) then ((spec_l1Ints.f ((l1.take (t1069 : Int).toNat).drop (a2 : Int).toNat)).bind fun t1071 => (some t1071)) else (none)) else (none)) else (none)) = some r := H
 have A4 := am A40
 clear A40
 by_cases c5 : 0 ≤ a2
 ·rw [if_pos c5] at H
  have c5b0 := eq_true c5
  have c5b1 : decide (0 ≤ a2) = true := decide_eq_true c5
  clear c5
  by_cases c6 : a2 ≤ t1069
  ·rw [if_pos c6] at H
   have c6b0 := eq_true c6
   have c6b1 : decide (a2 ≤ t1069) = true := decide_eq_true c6
   clear c6
   by_cases c7 : t1069 ≤ (l1.length : Int)
   ·rw [if_pos c7] at H
    have c7b0 := eq_true c7
    have c7b1 : decide (t1069 ≤ (l1.length : Int)) = true := decide_eq_true c7
    clear c7
    replace H := Option.bind_eq_some_iff.mp H
    obtain ⟨t1071, A80, H⟩ := H
    replace H : (some t1071) = some r := H
    have A8 := am A80
    clear A80
    obtain rfl := Option.some.inj H
    go_enter Tryd.func114, Tryd.ntmps114
    go_wp2_with (first | ((with_reducible refine gate_callee (f := 143) rfl ?_); refine goesL_ (some 12) rfl rfl Tryd.func143 (by kernel_rfl) rfl #[.pointer A0, .slice A1 l1.length c1, .int .i64 a2] rfl el ?_; (with_reducible refine (spec_l3End.calls k _ l0 _ _ l1 a2 t1069 _ ?side1 ?side2 ?side3 A4.out).mono ?_); (case side1 => exact cq HR0.out); (case side2 => exact cq HR1.out); (case side3 => exact HC1.out); rintro e w' ⟨rfl, ⟨nd, rfl⟩⟩; refine ⟨_, rfl, ?_⟩; obtain ⟨i09, hi09, _, hsz9, _⟩ := info_parts info2; obtain ⟨A9, hcut9, hA9, hC9⟩ := print_mid_of (P := Tryd.prog) (Value.int .i64) 0 52 2 .i64 .i64 Tryd.underlying52 hi09 hsz9 A1 c1 l1 a2 t1069 (of_decide_eq_true (by first | (with_reducible assumption) | assumption)) (by first | omega | exact of_decide_eq_true (by first | (with_reducible assumption) | assumption)) (of_decide_eq_true (by first | (with_reducible assumption) | assumption)) HC1.out; have HR1070 := am (Kd.C_of_reads (h1 := fun _ => rfl) (hA9 _ (Kd.reads_of_C HR1.out))); have HC1070 := am hC9; clear hA9 hC9 hi09 hsz9) | ((with_reducible refine gate_callee (f := 91) rfl ?_); refine goesL_ (some 14) rfl rfl Tryd.func91 (by kernel_rfl) rfl #[.slice A9 ((l1.take (t1069 : Int).toNat).drop (a2 : Int).toNat).length (c1 - a2.toNat)] rfl (by (try simp only [List.map_toArray, List.map_cons, List.map_nil]); first | done | (rw [show ((l1.take (t1069 : Int).toNat).drop (a2 : Int).toNat).length = (t1069.toNat - a2.toNat) from (by rw [List.length_drop, List.length_take]; have h_ : (t1069 : Int) ≤ (l1.length : Int) := of_decide_eq_true (by first | (with_reducible assumption) | assumption); omega)] <;> rfl) | rfl | (simp only [List.length_drop, List.length_take]; rfl)) ?_; (with_reducible refine (spec_l1Ints.calls _ _ ((l1.take (t1069 : Int).toNat).drop (a2 : Int).toNat) t1071 _ ?side1 ?side2 A8.out).mono ?_); (case side1 => exact cq HR1070.out); (case side2 => exact HC1070.out); rintro e w10 ⟨v1072, rfl, ho0, hb⟩; refine ⟨_, rfl, ?_⟩; have n0_ := am (Kd.R_lower ho0 (below_size (hq HB.out))); have n1_ := am (below_step (hq HB.out) hb); clear HB; revert n0_ n1_; intro HO1073 HB; (try clear hb); (try clear hb2); (try clear hgw); (try clear hk); (try clear hi); (try clear ho0)))
    go_ret
    exact ⟨_, by first | rfl | (simp [errW_none, errW_some] <;> rfl) | (simp [*, errW_none, errW_some] <;> rfl), by (with_reducible repeat (first | apply Kd.R_alloc | apply Kd.R_drewN | apply Kd.R_drew)); exact HO1073.out, by exact hq HB.out⟩
   ·rw [if_neg c7] at H
    exact absurd H (by simp)
  ·rw [if_neg c6] at H
   exact absurd H (by simp)
 ·rw [if_neg c5] at H
  exact absurd H (by simp)
def spec_SubtermAt.f (k : Nat) (l0_0 : List (S99)) (l1 : List Int) (a2 : Int) : Option (Int × List Int) := (spec_TermFault.f k l0_0 l1).bind fun t1076 => (if t1076 = 0 then ((spec_l3Place.f l1 a2).bind fun t1077 => (if t1077 = true then ((spec_l3Sub.f k [(⟨l0_0⟩ : S42)] l1 a2).bind fun t1078 => (some (0, t1078))) else (some (3, ([] : List Int))))) else (some (t1076, ([] : List Int))))
set_option maxHeartbeats 8000000 in
set_option maxRecDepth 100000 in
theorem spec_SubtermAt.calls (k : Nat) (A0_0 : Option Addr) (c0_0 : Nat) (l0_0 : List (S99)) (A1 : Option Addr) (c1 : Nat) (l1 : List Int) (a2 : Int) (r1 : Int) (r2 : List Int) (w : World) (hr0_0 : Kd.C k99 w A0_0 l0_0.length l0_0) (hc0_0 : l0_0.length ≤ c0_0) (hr1 : Kd.C (Kd.int .i64) w A1 l1.length l1) (hc1 : l1.length ≤ c1) (h : spec_SubtermAt.f k l0_0 l1 a2 = some (r1, r2)) :
  Calls Tryd.prog 55 #[.agg #[.slice A0_0 l0_0.length c0_0], .slice A1 l1.length c1, .int .i64 a2] w fun e w' => ∃ v1_ : Value, e = .returned (.agg #[.int .i64 r1, v1_]) ∧ Kd.R (Kd.int .i64) 2 w' w.heap.size (fun _ => True) v1_ r2 ∧ Below w.heap.size w w' := by
 have hu42 := Tryd.underlying42
 have hu67 := Tryd.underlying67
 have HR0_0 := am hr0_0
 have HC0_0 := am hc0_0
 clear hr0_0 hc0_0
 have HR1 := am hr1
 have HC1 := am hc1
 clear hr1 hc1
 have HB := am (Below.refl w.heap.size w)
 have H : ((spec_TermFault.f k l0_0 l1).bind fun t1076 => (if t1076 = 0 then ((spec_l3Place.f l1 a2).bind fun t1077 => (if t1077 = true then ((spec_l3Sub.f k [(⟨l0_0⟩ : S42)] l1 a2).bind fun t1078 => (some (0, t1078))) else (some (3, ([] : List Int))))) else (some (t1076, ([] : List Int))))) = some (r1, r2) := h
 clear h
 replace H := Option.bind_eq_some_iff.mp H
 obtain ⟨t1076, A40, H⟩ := H
 replace H : (if t1076 = 0 then ((spec_l3Place.f l1 a2).bind fun t1077 => (if t1077 = true then ((spec_l3Sub.f k [(⟨l0_0⟩ : S42)] l1 a2).bind fun t1078 => (some (0, t1078))) else (some (3, ([] : List Int))))) else (some (t1076, ([] : List Int)))) = some (r1, r2) := H
 have A4 := am A40
 clear A40
 by_cases c5 : t1076 = 0
 ·rw [if_pos c5] at H
  have c5b0 : (t1076 == 0) = true := beq_iff_eq.mpr c5
  have c5b1 : (t1076 != 0) = false := bne_eq_false_iff_eq.mpr c5
  clear c5
  replace H := Option.bind_eq_some_iff.mp H
  obtain ⟨t1077, A60, H⟩ := H
  replace H : (if t1077 = true then ((spec_l3Sub.f k [(⟨l0_0⟩ : S42)] l1 a2).bind fun t1078 => (some (0, t1078))) else (some (3, ([] : List Int)))) = some (r1, r2) := H
  have A6 := am A60
  clear A60
  by_cases c7 : t1077 = true
  ·subst c7
   have H1 : ((spec_l3Sub.f k [(⟨l0_0⟩ : S42)] l1 a2).bind fun t1078 => (some (0, t1078))) = some (r1, r2) := by rw [if_pos rfl] at H; exact H
   clear H
   have H := H1
   clear H1
   replace H := Option.bind_eq_some_iff.mp H
   obtain ⟨t1078, A80, H⟩ := H
   replace H : (some (0, t1078)) = some (r1, r2) := H
   have A8 := am A80
   clear A80
   simp only [Option.some.injEq, Prod.mk.injEq] at H
   obtain ⟨rfl, rfl⟩ := H
   go_enter Tryd.func55, Tryd.ntmps55
   go_wp2_with (first | ((with_reducible refine gate_dst (N := 3) rfl ?_); refine box_event ?hg (N := 3) ?hd (cs := #[.slice A0_0 l0_0.length c0_0]) (t := 42) ?hr ?_; (case hd => rfl); (case hg => rfl); (case hr => first | (go_simp; done) | (go_simp; rfl)); intro gb1074 hg w9 hbox hb; have n0_ := am (below_step (hq HB.out) hb); have n1_ := am (hbox); have n2_ := am (bz hg (hq HB.out)); have n3_ := n2_; clear HB; revert n0_ n1_ n2_ n3_; intro HB BK1074 GW1074 GE1074; clear hb hbox hg) | ((with_reducible refine gate_dst (N := 6) rfl ?_); refine box_event ?hg (N := 6) ?hd (cs := #[.int .i64 0, .slice none 0 0]) (t := 67) ?hr ?_; (case hd => rfl); (case hg => rfl); (case hr => first | (go_simp; done) | (go_simp; rfl)); intro gb1075 hg w10 hbox hb; have n0_ := am (blk_below (bq BK1074.out) hb); have n1_ := am (below_step (hs HB.out) hb); have n2_ := am (hbox); have n3_ := am (bz hg (hs HB.out)); have n4_ := n3_; have n5_ := am ((by rw [hg]; exact Nat.ne_of_lt (blk_lt (bq BK1074.out)) : gb1074 ≠ gb1075)); have n6_ := am ((by rw [hg]; exact Nat.ne_of_gt (blk_lt (bq BK1074.out)) : gb1075 ≠ gb1074)); clear BK1074 HB; revert n0_ n1_ n2_ n3_ n4_ n5_ n6_; intro BK1074 HB BK1075 GW1075 GE1075 NB1074_1075 NB1075_1074; clear hb hbox hg; have hnb11 := NB1074_1075.out; have hnc11 := NB1075_1074.out; have hcz12_0 : w10.cell? ⟨gb1074, 0, none⟩ = some (.slice A0_0 l0_0.length c0_0) := (blk_cell BK1074.out 0).trans rfl; have hfz12_0 := blk_frozen BK1074.out 0) | ((with_reducible refine gate_callee (f := 99) rfl ?_); refine goesL_ (some 10) rfl rfl Tryd.func99 (by kernel_rfl) rfl #[.agg #[.slice A0_0 l0_0.length c0_0], .slice A1 l1.length c1] rfl el ?_; (with_reducible refine (spec_TermFault.calls k _ _ l0_0 _ _ l1 t1076 _ ?side1 ?side2 ?side3 ?side4 A4.out).mono ?_); (case side1 => exact cq (Kd.C_below HR0_0.out HB.out)); (case side2 => exact HC0_0.out); (case side3 => exact cq (Kd.C_below HR1.out HB.out)); (case side4 => exact HC1.out); rintro e w13 ⟨rfl, hb⟩; refine ⟨_, rfl, ?_⟩; have n0_ := am (blk_below (bq BK1074.out) hb); have n1_ := am (blk_below (bq BK1075.out) hb); have n2_ := am (below_step (hs HB.out) hb); clear BK1074 BK1075 HB; revert n0_ n1_ n2_; intro BK1074 BK1075 HB; (try clear hb); (try clear hb2); (try clear hgw); (try clear hk); (try clear hi)) | ((with_reducible refine gate_callee (f := 104) rfl ?_); refine goesL_ (some 17) rfl rfl Tryd.func104 (by kernel_rfl) rfl #[.slice A1 l1.length c1, .int .i64 a2] rfl el ?_; (with_reducible refine (spec_l3Place.calls _ _ l1 a2 true _ ?side1 ?side2 A6.out).mono ?_); (case side1 => exact cq (Kd.C_below HR1.out HB.out)); (case side2 => exact HC1.out); rintro e w' ⟨rfl, ⟨nd, rfl⟩⟩; refine ⟨_, rfl, ?_⟩; (try (rw [drewN_self w13]; generalize hq_ : World.drewN w13 _ = w13; have n0_ : Aside0 (w13.heap[gb1074]? = some (.cells #[.slice A0_0 l0_0.length c0_0] 42 (0, 0))) := ⟨by rw [← hq_]; exact (bq BK1074.out)⟩; have n1_ : Aside0 (w13.heap[gb1075]? = some (.cells #[.int .i64 0, .slice none 0 0] 67 (0, 0))) := ⟨by rw [← hq_]; exact (bq BK1075.out)⟩; have n2_ : Aside0 (Below w.heap.size w w13) := ⟨by rw [← hq_]; exact (hs HB.out)⟩; clear BK1074 BK1075 HB hq_; have BK1074 := n0_; have BK1075 := n1_; have HB := n2_; clear n0_ n1_ n2_))) | ((with_reducible refine gate_callee (f := 114) rfl ?_); refine goesL_ (some 22) rfl rfl Tryd.func114 (by kernel_rfl) rfl #[.pointer (some ⟨gb1074, 0, none⟩), .slice A1 l1.length c1, .int .i64 a2] rfl el ?_; (with_reducible refine (spec_l3Sub.calls k _ [(⟨l0_0⟩ : S42)] _ _ l1 a2 t1078 _ ?side1 ?side2 ?side3 A8.out).mono ?_); (case side1 => exact k42_box (bq BK1074.out) (cq (Kd.C_below HR0_0.out HB.out)) (by exact HC0_0.out)); (case side2 => exact cq (Kd.C_below HR1.out HB.out)); (case side3 => exact HC1.out); rintro e w14 ⟨v1079, rfl, ho0, hb⟩; refine ⟨_, rfl, ?_⟩; have n0_ := am (Kd.R_lower ho0 (below_size (hs HB.out))); have n1_ := am (blk_below (bq BK1074.out) hb); have n2_ := am (blk_below (bq BK1075.out) hb); have n3_ := am (below_step (hs HB.out) hb); clear BK1074 BK1075 HB; revert n0_ n1_ n2_ n3_; intro HO1080 BK1074 BK1075 HB; (try clear hb); (try clear hb2); (try clear hgw); (try clear hk); (try clear hi); (try clear ho0); obtain ⟨Ao15, co15, eo15⟩ := Kd.R_slice HO1080.out; subst eo15; have hcz16_0 : w14.cell? ⟨gb1075, 0, none⟩ = some (.int .i64 0) := (blk_cell BK1075.out 0).trans rfl; have hcz16_1 : w14.cell? ⟨gb1075, 1, none⟩ = some (.slice none 0 0) := (blk_cell BK1075.out 1).trans rfl; have hfz16_0 := blk_frozen BK1075.out 0; have hfz16_1 := blk_frozen BK1075.out 1))
   refine bodyPost_ret (results_cell_row rfl _ _ gb1075 67 #[.int .i64 0, .slice Ao15 t1078.length co15] (0, 0) _ rfl (by refine bq ?_; refine blk_put (cs := #[.int .i64 0, .slice none 0 0]) ?_ 1 _ rfl; refine bq ?_; refine blk_put (cs := #[.int .i64 0, .slice none 0 0]) ?_ 0 _ rfl; refine bq ?_; exact BK1075.out) Tryd.underlying67 rfl (by kernel_rfl)) rfl ?_
   exact ⟨_, by first | rfl | (simp [errW_none, errW_some] <;> rfl) | (simp [*, errW_none, errW_some] <;> rfl), by (with_reducible repeat (first | apply Kd.R_alloc | apply Kd.R_drewN | apply Kd.R_drew)); exact Kd.R_mono (Kd.R_far (p := ⟨gb1075, 1, none⟩) (Kd.R_far (p := ⟨gb1075, 0, none⟩) (Kd.R_types HO1080.out BK1075.out (by decide)) (fun _ hk => hk.2) (.int .i64 0)) (fun _ hk => hk.2) (.slice Ao15 t1078.length co15)) (fun _ hk => trivial), by exact hs HB.out⟩
  ·replace c7 := Bool.eq_false_iff.mpr c7
   subst c7
   have H1 : (some (3, ([] : List Int))) = some (r1, r2) := by rw [if_neg (show ¬ (false = true) by decide)] at H; exact H
   clear H
   have H := H1
   clear H1
   simp only [Option.some.injEq, Prod.mk.injEq] at H
   obtain ⟨rfl, rfl⟩ := H
   go_enter Tryd.func55, Tryd.ntmps55
   go_wp2_with (first | ((with_reducible refine gate_dst (N := 3) rfl ?_); refine box_event ?hg (N := 3) ?hd (cs := #[.slice A0_0 l0_0.length c0_0]) (t := 42) ?hr ?_; (case hd => rfl); (case hg => rfl); (case hr => first | (go_simp; done) | (go_simp; rfl)); intro gb1074 hg w17 hbox hb; have n0_ := am (below_step (hq HB.out) hb); have n1_ := am (hbox); have n2_ := am (bz hg (hq HB.out)); have n3_ := n2_; clear HB; revert n0_ n1_ n2_ n3_; intro HB BK1074 GW1074 GE1074; clear hb hbox hg) | ((with_reducible refine gate_dst (N := 6) rfl ?_); refine box_event ?hg (N := 6) ?hd (cs := #[.int .i64 0, .slice none 0 0]) (t := 67) ?hr ?_; (case hd => rfl); (case hg => rfl); (case hr => first | (go_simp; done) | (go_simp; rfl)); intro gb1075 hg w18 hbox hb; have n0_ := am (blk_below (bq BK1074.out) hb); have n1_ := am (below_step (hs HB.out) hb); have n2_ := am (hbox); have n3_ := am (bz hg (hs HB.out)); have n4_ := n3_; have n5_ := am ((by rw [hg]; exact Nat.ne_of_lt (blk_lt (bq BK1074.out)) : gb1074 ≠ gb1075)); have n6_ := am ((by rw [hg]; exact Nat.ne_of_gt (blk_lt (bq BK1074.out)) : gb1075 ≠ gb1074)); clear BK1074 HB; revert n0_ n1_ n2_ n3_ n4_ n5_ n6_; intro BK1074 HB BK1075 GW1075 GE1075 NB1074_1075 NB1075_1074; clear hb hbox hg; have hnb19 := NB1074_1075.out; have hnc19 := NB1075_1074.out; have hcz20_0 : w18.cell? ⟨gb1074, 0, none⟩ = some (.slice A0_0 l0_0.length c0_0) := (blk_cell BK1074.out 0).trans rfl; have hfz20_0 := blk_frozen BK1074.out 0) | ((with_reducible refine gate_callee (f := 99) rfl ?_); refine goesL_ (some 10) rfl rfl Tryd.func99 (by kernel_rfl) rfl #[.agg #[.slice A0_0 l0_0.length c0_0], .slice A1 l1.length c1] rfl el ?_; (with_reducible refine (spec_TermFault.calls k _ _ l0_0 _ _ l1 t1076 _ ?side1 ?side2 ?side3 ?side4 A4.out).mono ?_); (case side1 => exact cq (Kd.C_below HR0_0.out HB.out)); (case side2 => exact HC0_0.out); (case side3 => exact cq (Kd.C_below HR1.out HB.out)); (case side4 => exact HC1.out); rintro e w21 ⟨rfl, hb⟩; refine ⟨_, rfl, ?_⟩; have n0_ := am (blk_below (bq BK1074.out) hb); have n1_ := am (blk_below (bq BK1075.out) hb); have n2_ := am (below_step (hs HB.out) hb); clear BK1074 BK1075 HB; revert n0_ n1_ n2_; intro BK1074 BK1075 HB; (try clear hb); (try clear hb2); (try clear hgw); (try clear hk); (try clear hi)) | ((with_reducible refine gate_callee (f := 104) rfl ?_); refine goesL_ (some 17) rfl rfl Tryd.func104 (by kernel_rfl) rfl #[.slice A1 l1.length c1, .int .i64 a2] rfl el ?_; (with_reducible refine (spec_l3Place.calls _ _ l1 a2 false _ ?side1 ?side2 A6.out).mono ?_); (case side1 => exact cq (Kd.C_below HR1.out HB.out)); (case side2 => exact HC1.out); rintro e w' ⟨rfl, ⟨nd, rfl⟩⟩; refine ⟨_, rfl, ?_⟩; (try (rw [drewN_self w21]; generalize hq_ : World.drewN w21 _ = w21; have n0_ : Aside0 (w21.heap[gb1074]? = some (.cells #[.slice A0_0 l0_0.length c0_0] 42 (0, 0))) := ⟨by rw [← hq_]; exact (bq BK1074.out)⟩; have n1_ : Aside0 (w21.heap[gb1075]? = some (.cells #[.int .i64 0, .slice none 0 0] 67 (0, 0))) := ⟨by rw [← hq_]; exact (bq BK1075.out)⟩; have n2_ : Aside0 (Below w.heap.size w w21) := ⟨by rw [← hq_]; exact (hs HB.out)⟩; clear BK1074 BK1075 HB hq_; have BK1074 := n0_; have BK1075 := n1_; have HB := n2_; clear n0_ n1_ n2_)); have hcz22_0 : w21.cell? ⟨gb1075, 0, none⟩ = some (.int .i64 0) := (blk_cell BK1075.out 0).trans rfl; have hcz22_1 : w21.cell? ⟨gb1075, 1, none⟩ = some (.slice none 0 0) := (blk_cell BK1075.out 1).trans rfl; have hfz22_0 := blk_frozen BK1075.out 0; have hfz22_1 := blk_frozen BK1075.out 1))
   refine bodyPost_ret (results_cell_row rfl _ _ gb1075 67 #[.int .i64 3, .slice none 0 0] (0, 0) _ rfl (by refine bq ?_; refine blk_put (cs := #[.int .i64 3, .slice none 0 0]) ?_ 1 _ rfl; refine bq ?_; refine blk_put (cs := #[.int .i64 0, .slice none 0 0]) ?_ 0 _ rfl; refine bq ?_; exact BK1075.out) Tryd.underlying67 rfl (by kernel_rfl)) rfl ?_
   exact ⟨_, by first | rfl | (simp [errW_none, errW_some] <;> rfl) | (simp [*, errW_none, errW_some] <;> rfl), by first | exact Kd.R_nil _ _ _ _ _ | exact Kd.N_nil _ _ _ _ _ | exact Kd.V_nil _ _ _ _ _ | exact Kd.Q_nil _ _ _ _ _ | exact Kd.S_nil _ _ _ _ _, by exact hs HB.out⟩
 ·rw [if_neg c5] at H
  have c5b0 : (t1076 == 0) = false := beq_eq_false_iff_ne.mpr c5
  have c5b1 : (t1076 != 0) = true := bne_iff_ne.mpr c5
  simp only [Option.some.injEq, Prod.mk.injEq] at H
  obtain ⟨rfl, rfl⟩ := H
  go_enter Tryd.func55, Tryd.ntmps55
  go_wp2_with (first | ((with_reducible refine gate_dst (N := 3) rfl ?_); refine box_event ?hg (N := 3) ?hd (cs := #[.slice A0_0 l0_0.length c0_0]) (t := 42) ?hr ?_; (case hd => rfl); (case hg => rfl); (case hr => first | (go_simp; done) | (go_simp; rfl)); intro gb1074 hg w23 hbox hb; have n0_ := am (below_step (hq HB.out) hb); have n1_ := am (hbox); have n2_ := am (bz hg (hq HB.out)); have n3_ := n2_; clear HB; revert n0_ n1_ n2_ n3_; intro HB BK1074 GW1074 GE1074; clear hb hbox hg) | ((with_reducible refine gate_dst (N := 6) rfl ?_); refine box_event ?hg (N := 6) ?hd (cs := #[.int .i64 0, .slice none 0 0]) (t := 67) ?hr ?_; (case hd => rfl); (case hg => rfl); (case hr => first | (go_simp; done) | (go_simp; rfl)); intro gb1075 hg w24 hbox hb; have n0_ := am (blk_below (bq BK1074.out) hb); have n1_ := am (below_step (hs HB.out) hb); have n2_ := am (hbox); have n3_ := am (bz hg (hs HB.out)); have n4_ := n3_; have n5_ := am ((by rw [hg]; exact Nat.ne_of_lt (blk_lt (bq BK1074.out)) : gb1074 ≠ gb1075)); have n6_ := am ((by rw [hg]; exact Nat.ne_of_gt (blk_lt (bq BK1074.out)) : gb1075 ≠ gb1074)); clear BK1074 HB; revert n0_ n1_ n2_ n3_ n4_ n5_ n6_; intro BK1074 HB BK1075 GW1075 GE1075 NB1074_1075 NB1075_1074; clear hb hbox hg; have hnb25 := NB1074_1075.out; have hnc25 := NB1075_1074.out; have hcz26_0 : w24.cell? ⟨gb1074, 0, none⟩ = some (.slice A0_0 l0_0.length c0_0) := (blk_cell BK1074.out 0).trans rfl; have hfz26_0 := blk_frozen BK1074.out 0) | ((with_reducible refine gate_callee (f := 99) rfl ?_); refine goesL_ (some 10) rfl rfl Tryd.func99 (by kernel_rfl) rfl #[.agg #[.slice A0_0 l0_0.length c0_0], .slice A1 l1.length c1] rfl el ?_; (with_reducible refine (spec_TermFault.calls k _ _ l0_0 _ _ l1 t1076 _ ?side1 ?side2 ?side3 ?side4 A4.out).mono ?_); (case side1 => exact cq (Kd.C_below HR0_0.out HB.out)); (case side2 => exact HC0_0.out); (case side3 => exact cq (Kd.C_below HR1.out HB.out)); (case side4 => exact HC1.out); rintro e w27 ⟨rfl, hb⟩; refine ⟨_, rfl, ?_⟩; have n0_ := am (blk_below (bq BK1074.out) hb); have n1_ := am (blk_below (bq BK1075.out) hb); have n2_ := am (below_step (hs HB.out) hb); clear BK1074 BK1075 HB; revert n0_ n1_ n2_; intro BK1074 BK1075 HB; (try clear hb); (try clear hb2); (try clear hgw); (try clear hk); (try clear hi); have hcz28_0 : w27.cell? ⟨gb1075, 0, none⟩ = some (.int .i64 0) := (blk_cell BK1075.out 0).trans rfl; have hcz28_1 : w27.cell? ⟨gb1075, 1, none⟩ = some (.slice none 0 0) := (blk_cell BK1075.out 1).trans rfl; have hfz28_0 := blk_frozen BK1075.out 0; have hfz28_1 := blk_frozen BK1075.out 1))
  refine bodyPost_ret (results_cell_row rfl _ _ gb1075 67 #[.int .i64 t1076, .slice none 0 0] (0, 0) _ rfl (by refine bq ?_; refine blk_put (cs := #[.int .i64 t1076, .slice none 0 0]) ?_ 1 _ rfl; refine bq ?_; refine blk_put (cs := #[.int .i64 0, .slice none 0 0]) ?_ 0 _ rfl; refine bq ?_; exact BK1075.out) Tryd.underlying67 rfl (by kernel_rfl)) rfl ?_
  exact ⟨_, by first | rfl | (simp [errW_none, errW_some] <;> rfl) | (simp [*, errW_none, errW_some] <;> rfl), by first | exact Kd.R_nil _ _ _ _ _ | exact Kd.N_nil _ _ _ _ _ | exact Kd.V_nil _ _ _ _ _ | exact Kd.Q_nil _ _ _ _ _ | exact Kd.S_nil _ _ _ _ _, by exact hs HB.out⟩
def laws_lwNums.l0 : Nat → List Int → List Int → Int → Option (Bool)
 | 0, _, _, _ => none
 | k + 1, x0, x1, x5 => if x5 < (x0.length : Int) then (if 0 ≤ x5 then (if x5 < (x1.length : Int) then (if (rd x0 x5) = (rd x1 x5) then (laws_lwNums.l0 k x0 x1 (wrap64 (x5 + 1))) else (some false)) else (none)) else (none)) else (some true)
def laws_lwNums.f (k : Nat) (l0 : List Int) (l1 : List Int) : Option (Bool) := if (l0.length : Int) = (l1.length : Int) then (laws_lwNums.l0 k l0 l1 0) else (some false)
set_option maxHeartbeats 8000000 in
set_option maxRecDepth 100000 in
theorem laws_lwNums.calls (k : Nat) (A0 : Option Addr) (c0 : Nat) (l0 : List Int) (A1 : Option Addr) (c1 : Nat) (l1 : List Int) (r : Bool) (w : World) (hr0 : Kd.C (Kd.int .i64) w A0 l0.length l0) (hc0 : l0.length ≤ c0) (hr1 : Kd.C (Kd.int .i64) w A1 l1.length l1) (hc1 : l1.length ≤ c1) (h : laws_lwNums.f k l0 l1 = some r) :
  Calls Tryd.prog 56 #[.slice A0 l0.length c0, .slice A1 l1.length c1] w fun e w' => e = .returned (.bool r) ∧ Drawn0 w w' := by
 have HR0 := am hr0
 have HC0 := am hc0
 clear hr0 hc0
 have HR1 := am hr1
 have HC1 := am hc1
 clear hr1 hc1
 have H : (if (l0.length : Int) = (l1.length : Int) then (laws_lwNums.l0 k l0 l1 0) else (some false)) = some r := h
 clear h
 by_cases c3 : (l0.length : Int) = (l1.length : Int)
 ·rw [if_pos c3] at H
  have c3b0 : ((l0.length : Int) == (l1.length : Int)) = true := beq_iff_eq.mpr c3
  have c3b1 : ((l0.length : Int) != (l1.length : Int)) = false := bne_eq_false_iff_eq.mpr c3
  have c3b2 : (l0.length == l1.length) = true := by first | simpa using c3 | (simp at c3 ⊢; omega)
  clear c3
  have H' := am H
  clear H
  go_enter Tryd.func56, Tryd.ntmps56
  go_wp2
  repeat (go_quiet (fail); try go_wp2)
  go_loopg [5] k (fun kq v5 w' => ∃ (x5_1 : Int), v5 = .int .i64 x5_1 ∧ Aside0 (laws_lwNums.l0 kq l0 l1 x5_1 = some r) ∧ Aside0 (kq ≤ k) ∧ Drawn0 w w')
  case atStart => exact ⟨(0), (by first | rfl | (simp; done) | (simp [*]; done)), H', ⟨Nat.le_refl _⟩, by repeat (first | exact Drawn0.refl _ | apply Drawn0.step)⟩
  case round =>
   clear H'
   try clear c1
   try clear p2
   try clear c3
   try clear c3b0
   try clear c3b1
   try clear c3b2
   obtain ⟨x5_1, rfl, HA, HK1, ⟨m1, rfl⟩⟩ := hrel
   cases gk with
   | zero => exact absurd HA.out (by simp [laws_lwNums.l0])
   | succ k1 =>
    have H := HA.out
    clear HA
    simp only [laws_lwNums.l0] at H
    by_cases c4 : x5_1 < (l0.length : Int)
    ·rw [if_pos c4] at H
     have c4b0 : decide (x5_1 < (l0.length : Int)) = true := decide_eq_true c4
     clear c4
     by_cases c5 : 0 ≤ x5_1
     ·rw [if_pos c5] at H
      have c5b0 : decide (0 ≤ x5_1) = true := decide_eq_true c5
      clear c5
      by_cases c6 : x5_1 < (l1.length : Int)
      ·rw [if_pos c6] at H
       have c6b0 : decide (x5_1 < (l1.length : Int)) = true := decide_eq_true c6
       clear c6
       by_cases c7 : (rd l0 x5_1) = (rd l1 x5_1)
       ·rw [if_pos c7] at H
        have c7b0 : ((rd l0 x5_1) == (rd l1 x5_1)) = true := beq_iff_eq.mpr c7
        have c7b1 : ((rd l0 x5_1) != (rd l1 x5_1)) = false := bne_eq_false_iff_eq.mpr c7
        clear c7
        have H' := am H
        clear H
        have p1081 : 0 ≤ (x5_1 : Int) := of_decide_eq_true (by first | (with_reducible assumption) | assumption)
        have q1081 : x5_1 < (l0.length : Int) := of_decide_eq_true (by first | (with_reducible assumption) | assumption)
        obtain ⟨ad1081, e1081, hx1081_0⟩ := Kd.at_int HR0.out x5_1 p1081 q1081
        cases e1081
        replace p1081 := eq_true p1081
        replace q1081 := eq_true q1081
        have p1082 : 0 ≤ (x5_1 : Int) := of_decide_eq_true (by first | (with_reducible assumption) | assumption)
        have q1082 : x5_1 < (l1.length : Int) := of_decide_eq_true (by first | (with_reducible assumption) | assumption)
        obtain ⟨ad1082, e1082, hx1082_0⟩ := Kd.at_int HR1.out x5_1 p1082 q1082
        cases e1082
        replace p1082 := eq_true p1082
        replace q1082 := eq_true q1082
        go_wp2
        repeat (go_quiet (fail); try go_wp2)
        go_roundg k1
        case measure => have := HK1.out; omega
        case rel => exact ⟨(wrap64 (x5_1 + 1)), (by first | rfl | (simp; done) | (simp [*]; done)), H', ⟨by have := HK1.out; omega⟩, by repeat (first | exact Drawn0.refl _ | apply Drawn0.step)⟩
       ·rw [if_neg c7] at H
        have c7b0 : ((rd l0 x5_1) == (rd l1 x5_1)) = false := beq_eq_false_iff_ne.mpr c7
        have c7b1 : ((rd l0 x5_1) != (rd l1 x5_1)) = true := bne_iff_ne.mpr c7
        obtain rfl := Option.some.inj H
        have p1081 : 0 ≤ (x5_1 : Int) := of_decide_eq_true (by first | (with_reducible assumption) | assumption)
        have q1081 : x5_1 < (l0.length : Int) := of_decide_eq_true (by first | (with_reducible assumption) | assumption)
        obtain ⟨ad1081, e1081, hx1081_0⟩ := Kd.at_int HR0.out x5_1 p1081 q1081
        cases e1081
        replace p1081 := eq_true p1081
        replace q1081 := eq_true q1081
        have p1082 : 0 ≤ (x5_1 : Int) := of_decide_eq_true (by first | (with_reducible assumption) | assumption)
        have q1082 : x5_1 < (l1.length : Int) := of_decide_eq_true (by first | (with_reducible assumption) | assumption)
        obtain ⟨ad1082, e1082, hx1082_0⟩ := Kd.at_int HR1.out x5_1 p1082 q1082
        cases e1082
        replace p1082 := eq_true p1082
        replace q1082 := eq_true q1082
        go_wp2
        repeat (go_quiet (fail); try go_wp2)
        go_ret
        exact ⟨by first | rfl | (simp; done) | (simp [*]; done), by repeat (first | exact Drawn0.refl _ | apply Drawn0.step)⟩
      ·rw [if_neg c6] at H
       exact absurd H (by simp)
     ·rw [if_neg c5] at H
      exact absurd H (by simp)
    ·rw [if_neg c4] at H
     have c4b0 : decide (x5_1 < (l0.length : Int)) = false := decide_eq_false c4
     clear c4
     obtain rfl := Option.some.inj H
     go_wp2
     repeat (go_quiet (fail); try go_wp2)
     go_ret
     exact ⟨by first | rfl | (simp; done) | (simp [*]; done), by repeat (first | exact Drawn0.refl _ | apply Drawn0.step)⟩
 ·rw [if_neg c3] at H
  have c3b0 : ((l0.length : Int) == (l1.length : Int)) = false := beq_eq_false_iff_ne.mpr c3
  have c3b1 : ((l0.length : Int) != (l1.length : Int)) = true := bne_iff_ne.mpr c3
  have c3b2 : (l0.length == l1.length) = false := by first | simpa using c3 | (simp at c3 ⊢; omega)
  obtain rfl := Option.some.inj H
  go_enter Tryd.func56, Tryd.ntmps56
  go_wp2
  repeat (go_quiet (fail); try go_wp2)
  go_ret
  exact ⟨by first | rfl | (simp; done) | (simp [*]; done), by repeat (first | exact Drawn0.refl _ | apply Drawn0.step)⟩
end Go.Proofs.YtedkbpbodkmhlaaDoor.P
namespace Go.Proofs.YtedkbpbodkmhlaaDoor.P
open Go.RowKit Go.Proofs.YtedkbpbodkmhlaaDoorW.PrintWords Go.Proofs.YtedkbpbodkmhlaaDoorW.PrintLast Go.Proofs.YtedkbpbodkmhlaaDoorW.PrintMore
attribute [local go_sem] max2_int min2_int max_two min_two max_three min_three max_four min_four   -- for this text's walks alone
set_option linter.unusedVariables false
set_option linter.unusedSimpArgs false
def impl_SizeAt.f (k : Nat) (l0_0 : List (S99)) (l1 : List Int) (a2 : Int) : Option (Int × Int) := (impl_placeFault.f k l0_0 l1 a2).bind fun t1085 => (if t1085 = 0 then ((impl_subterm.f k l0_0 l1 a2).bind fun t1086 => (some (0, (t1086.length : Int)))) else (some (t1085, 0)))
set_option maxHeartbeats 8000000 in
set_option maxRecDepth 100000 in
theorem impl_SizeAt.calls (k : Nat) (A0_0 : Option Addr) (c0_0 : Nat) (l0_0 : List (S99)) (A1 : Option Addr) (c1 : Nat) (l1 : List Int) (a2 : Int) (r1 : Int) (r2 : Int) (w : World) (hr0_0 : Kd.C k99 w A0_0 l0_0.length l0_0) (hc0_0 : l0_0.length ≤ c0_0) (hr1 : Kd.C (Kd.int .i64) w A1 l1.length l1) (hc1 : l1.length ≤ c1) (h : impl_SizeAt.f k l0_0 l1 a2 = some (r1, r2)) :
  Calls Tryd.prog 57 #[.agg #[.slice A0_0 l0_0.length c0_0], .slice A1 l1.length c1, .int .i64 a2] w fun e w' => e = .returned (.agg #[.int .i64 r1, .int .i64 r2]) ∧ Below w.heap.size w w' := by
 have hu42 := Tryd.underlying42
 have hu28 := Tryd.underlying28
 have HR0_0 := am hr0_0
 have HC0_0 := am hc0_0
 clear hr0_0 hc0_0
 have HR1 := am hr1
 have HC1 := am hc1
 clear hr1 hc1
 have HB := am (Below.refl w.heap.size w)
 have H : ((impl_placeFault.f k l0_0 l1 a2).bind fun t1085 => (if t1085 = 0 then ((impl_subterm.f k l0_0 l1 a2).bind fun t1086 => (some (0, (t1086.length : Int)))) else (some (t1085, 0)))) = some (r1, r2) := h
 clear h
 replace H := Option.bind_eq_some_iff.mp H
 obtain ⟨t1085, A40, H⟩ := H
 replace H : (if t1085 = 0 then ((impl_subterm.f k l0_0 l1 a2).bind fun t1086 => (some (0, (t1086.length : Int)))) else (some (t1085, 0))) = some (r1, r2) := H
 have A4 := am A40
 clear A40
 by_cases c5 : t1085 = 0
 ·rw [if_pos c5] at H
  have c5b0 : (t1085 == 0) = true := beq_iff_eq.mpr c5
  have c5b1 : (t1085 != 0) = false := bne_eq_false_iff_eq.mpr c5
  clear c5
  replace H := Option.bind_eq_some_iff.mp H
  obtain ⟨t1086, A60, H⟩ := H
  replace H : (some (0, (t1086.length : Int))) = some (r1, r2) := H
  have A6 := am A60
  clear A60
  simp only [Option.some.injEq, Prod.mk.injEq] at H
  obtain ⟨rfl, rfl⟩ := H
  go_enter Tryd.func57, Tryd.ntmps57
  go_wp2_with (first | ((with_reducible refine gate_dst (N := 3) rfl ?_); refine box_event ?hg (N := 3) ?hd (cs := #[.slice A0_0 l0_0.length c0_0]) (t := 42) ?hr ?_; (case hd => rfl); (case hg => rfl); (case hr => first | (go_simp; done) | (go_simp; rfl)); intro gb1083 hg w7 hbox hb; have n0_ := am (below_step (hq HB.out) hb); have n1_ := am (hbox); have n2_ := am (bz hg (hq HB.out)); have n3_ := n2_; clear HB; revert n0_ n1_ n2_ n3_; intro HB BK1083 GW1083 GE1083; clear hb hbox hg) | ((with_reducible refine gate_dst (N := 6) rfl ?_); refine box_event ?hg (N := 6) ?hd (cs := #[.int .i64 0, .int .i64 0]) (t := 28) ?hr ?_; (case hd => rfl); (case hg => rfl); (case hr => first | (go_simp; done) | (go_simp; rfl)); intro gb1084 hg w8 hbox hb; have n0_ := am (blk_below (bq BK1083.out) hb); have n1_ := am (below_step (hs HB.out) hb); have n2_ := am (hbox); have n3_ := am (bz hg (hs HB.out)); have n4_ := n3_; have n5_ := am ((by rw [hg]; exact Nat.ne_of_lt (blk_lt (bq BK1083.out)) : gb1083 ≠ gb1084)); have n6_ := am ((by rw [hg]; exact Nat.ne_of_gt (blk_lt (bq BK1083.out)) : gb1084 ≠ gb1083)); clear BK1083 HB; revert n0_ n1_ n2_ n3_ n4_ n5_ n6_; intro BK1083 HB BK1084 GW1084 GE1084 NB1083_1084 NB1084_1083; clear hb hbox hg; have hnb9 := NB1083_1084.out; have hnc9 := NB1084_1083.out; have hcz10_0 : w8.cell? ⟨gb1083, 0, none⟩ = some (.slice A0_0 l0_0.length c0_0) := (blk_cell BK1083.out 0).trans rfl; have hfz10_0 := blk_frozen BK1083.out 0) | ((with_reducible refine gate_callee (f := 107) rfl ?_); refine goesL_ (some 11) rfl rfl Tryd.func107 (by kernel_rfl) rfl #[.agg #[.slice A0_0 l0_0.length c0_0], .slice A1 l1.length c1, .int .i64 a2] rfl el ?_; (with_reducible refine (impl_placeFault.calls k _ _ l0_0 _ _ l1 a2 t1085 _ ?side1 ?side2 ?side3 ?side4 A4.out).mono ?_); (case side1 => exact cq (Kd.C_below HR0_0.out HB.out)); (case side2 => exact HC0_0.out); (case side3 => exact cq (Kd.C_below HR1.out HB.out)); (case side4 => exact HC1.out); rintro e w11 ⟨rfl, hb⟩; refine ⟨_, rfl, ?_⟩; have n0_ := am (blk_below (bq BK1083.out) hb); have n1_ := am (blk_below (bq BK1084.out) hb); have n2_ := am (below_step (hs HB.out) hb); clear BK1083 BK1084 HB; revert n0_ n1_ n2_; intro BK1083 BK1084 HB; (try clear hb); (try clear hb2); (try clear hgw); (try clear hk); (try clear hi); have hcz12_0 : w11.cell? ⟨gb1083, 0, none⟩ = some (.slice A0_0 l0_0.length c0_0) := (blk_cell BK1083.out 0).trans rfl; have hfz12_0 := blk_frozen BK1083.out 0) | ((with_reducible refine gate_callee (f := 113) rfl ?_); refine goesL_ (some 19) rfl rfl Tryd.func113 (by kernel_rfl) rfl #[.agg #[.slice A0_0 l0_0.length c0_0], .slice A1 l1.length c1, .int .i64 a2] rfl el ?_; (with_reducible refine (impl_subterm.calls k _ _ l0_0 (fun k_ => k_ < w.heap.size) _ _ l1 a2 t1086 _ ?side1 ?side2 ?side3 A6.out).mono ?_); (case side1 => exact cq (Kd.C_below HR0_0.out HB.out)); (case side2 => exact HC0_0.out); (case side3 => exact Kd.V_mk HC1.out (Kd.F_below (Kd.C_F (Kd.heap_int .i64) HR1.out) (hs HB.out))); rintro e w13 ⟨v1087, rfl, ho0, hb⟩; refine ⟨_, rfl, ?_⟩; have n0_ := am (Kd.V_lower (Kd.V_mono (ok' := fun k_ => k_ ≠ gb1083 ∧ k_ ≠ gb1084) ho0 (fun k_ hk_ => ⟨Or.elim hk_ (fun hs_ => fun e_ => Nat.not_le.2 hs_ (by rw [e_]; exact GW1083.out)) (fun hn_ => (Kd.freshB (bq BK1083.out) k_ hn_)), Or.elim hk_ (fun hs_ => fun e_ => Nat.not_le.2 hs_ (by rw [e_]; exact GW1084.out)) (fun hn_ => (Kd.freshB (bq BK1084.out) k_ hn_))⟩)) (below_size (hs HB.out))); have n1_ := am (blk_below (bq BK1083.out) hb); have n2_ := am (blk_below (bq BK1084.out) hb); have n3_ := am (below_step (hs HB.out) hb); clear BK1083 BK1084 HB; revert n0_ n1_ n2_ n3_; intro HO1088 BK1083 BK1084 HB; (try clear hb); (try clear hb2); (try clear hgw); (try clear hk); (try clear hi); (try clear ho0); obtain ⟨Ao14, co14, eo14⟩ := Kd.V_slice HO1088.out; subst eo14; have hcz15_0 : w13.cell? ⟨gb1084, 0, none⟩ = some (.int .i64 0) := (blk_cell BK1084.out 0).trans rfl; have hcz15_1 : w13.cell? ⟨gb1084, 1, none⟩ = some (.int .i64 0) := (blk_cell BK1084.out 1).trans rfl; have hfz15_0 := blk_frozen BK1084.out 0; have hfz15_1 := blk_frozen BK1084.out 1))
  refine bodyPost_ret (results_cell_row rfl _ _ gb1084 28 #[.int .i64 0, .int .i64 (t1086.length : Int)] (0, 0) _ rfl (by refine bq ?_; refine blk_put (cs := #[.int .i64 0, .int .i64 0]) ?_ 1 _ rfl; refine bq ?_; refine blk_put (cs := #[.int .i64 0, .int .i64 0]) ?_ 0 _ rfl; refine bq ?_; exact BK1084.out) Tryd.underlying28 rfl (by kernel_rfl)) rfl ?_
  exact ⟨by first | rfl | (simp [errW_none, errW_some] <;> rfl) | (simp [*, errW_none, errW_some] <;> rfl), by exact hs HB.out⟩
 ·rw [if_neg c5] at H
  have c5b0 : (t1085 == 0) = false := beq_eq_false_iff_ne.mpr c5
  have c5b1 : (t1085 != 0) = true := bne_iff_ne.mpr c5
  simp only [Option.some.injEq, Prod.mk.injEq] at H
  obtain ⟨rfl, rfl⟩ := H
  go_enter Tryd.func57, Tryd.ntmps57
  go_wp2_with (first | ((with_reducible refine gate_dst (N := 3) rfl ?_); refine box_event ?hg (N := 3) ?hd (cs := #[.slice A0_0 l0_0.length c0_0]) (t := 42) ?hr ?_; (case hd => rfl); (case hg => rfl); (case hr => first | (go_simp; done) | (go_simp; rfl)); intro gb1083 hg w16 hbox hb; have n0_ := am (below_step (hq HB.out) hb); have n1_ := am (hbox); have n2_ := am (bz hg (hq HB.out)); have n3_ := n2_; clear HB; revert n0_ n1_ n2_ n3_; intro HB BK1083 GW1083 GE1083; clear hb hbox hg) | ((with_reducible refine gate_dst (N := 6) rfl ?_); refine box_event ?hg (N := 6) ?hd (cs := #[.int .i64 0, .int .i64 0]) (t := 28) ?hr ?_; (case hd => rfl); (case hg => rfl); (case hr => first | (go_simp; done) | (go_simp; rfl)); intro gb1084 hg w17 hbox hb; have n0_ := am (blk_below (bq BK1083.out) hb); have n1_ := am (below_step (hs HB.out) hb); have n2_ := am (hbox); have n3_ := am (bz hg (hs HB.out)); have n4_ := n3_; have n5_ := am ((by rw [hg]; exact Nat.ne_of_lt (blk_lt (bq BK1083.out)) : gb1083 ≠ gb1084)); have n6_ := am ((by rw [hg]; exact Nat.ne_of_gt (blk_lt (bq BK1083.out)) : gb1084 ≠ gb1083)); clear BK1083 HB; revert n0_ n1_ n2_ n3_ n4_ n5_ n6_; intro BK1083 HB BK1084 GW1084 GE1084 NB1083_1084 NB1084_1083; clear hb hbox hg; have hnb18 := NB1083_1084.out; have hnc18 := NB1084_1083.out; have hcz19_0 : w17.cell? ⟨gb1083, 0, none⟩ = some (.slice A0_0 l0_0.length c0_0) := (blk_cell BK1083.out 0).trans rfl; have hfz19_0 := blk_frozen BK1083.out 0) | ((with_reducible refine gate_callee (f := 107) rfl ?_); refine goesL_ (some 11) rfl rfl Tryd.func107 (by kernel_rfl) rfl #[.agg #[.slice A0_0 l0_0.length c0_0], .slice A1 l1.length c1, .int .i64 a2] rfl el ?_; (with_reducible refine (impl_placeFault.calls k _ _ l0_0 _ _ l1 a2 t1085 _ ?side1 ?side2 ?side3 ?side4 A4.out).mono ?_); (case side1 => exact cq (Kd.C_below HR0_0.out HB.out)); (case side2 => exact HC0_0.out); (case side3 => exact cq (Kd.C_below HR1.out HB.out)); (case side4 => exact HC1.out); rintro e w20 ⟨rfl, hb⟩; refine ⟨_, rfl, ?_⟩; have n0_ := am (blk_below (bq BK1083.out) hb); have n1_ := am (blk_below (bq BK1084.out) hb); have n2_ := am (below_step (hs HB.out) hb); clear BK1083 BK1084 HB; revert n0_ n1_ n2_; intro BK1083 BK1084 HB; (try clear hb); (try clear hb2); (try clear hgw); (try clear hk); (try clear hi); have hcz21_0 : w20.cell? ⟨gb1084, 0, none⟩ = some (.int .i64 0) := (blk_cell BK1084.out 0).trans rfl; have hcz21_1 : w20.cell? ⟨gb1084, 1, none⟩ = some (.int .i64 0) := (blk_cell BK1084.out 1).trans rfl; have hfz21_0 := blk_frozen BK1084.out 0; have hfz21_1 := blk_frozen BK1084.out 1))
  refine bodyPost_ret (results_cell_row rfl _ _ gb1084 28 #[.int .i64 t1085, .int .i64 0] (0, 0) _ rfl (by refine bq ?_; refine blk_put (cs := #[.int .i64 t1085, .int .i64 0]) ?_ 1 _ rfl; refine bq ?_; refine blk_put (cs := #[.int .i64 0, .int .i64 0]) ?_ 0 _ rfl; refine bq ?_; exact BK1084.out) Tryd.underlying28 rfl (by kernel_rfl)) rfl ?_
  exact ⟨by first | rfl | (simp [errW_none, errW_some] <;> rfl) | (simp [*, errW_none, errW_some] <;> rfl), by exact hs HB.out⟩
end Go.Proofs.YtedkbpbodkmhlaaDoor.P
