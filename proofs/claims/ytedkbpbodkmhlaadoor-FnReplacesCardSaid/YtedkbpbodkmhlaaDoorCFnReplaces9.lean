/- A part of the proof of the law FnReplaces. -/
import Derived.Laws.StructEq
import Derived.Test.YtedkbpbodkmhlaaDoorCFnReplaces0
import Derived.Test.YtedkbpbodkmhlaaDoorCFnReplaces1
import Derived.Test.YtedkbpbodkmhlaaDoorCFnReplaces2
import Derived.Test.YtedkbpbodkmhlaaDoorCFnReplaces5
import Derived.Test.YtedkbpbodkmhlaaDoorCFnReplaces6
import Derived.Test.YtedkbpbodkmhlaaDoorCFnReplaces7
import Derived.Test.YtedkbpbodkmhlaaDoorCFnReplaces8
import Derived.Test.YtedkbpbodkmhlaaDoorCFnReplaces16
namespace Go.Proofs.YtedkbpbodkmhlaaDoor.P
open Go.RowKit Go.Proofs.YtedkbpbodkmhlaaDoorW.PrintWords Go.Proofs.YtedkbpbodkmhlaaDoorW.PrintLast Go.Proofs.YtedkbpbodkmhlaaDoorW.PrintMore
attribute [local go_sem] max2_int min2_int max_two min_two max_three min_three max_four min_four   -- for this text's walks alone
set_option linter.unusedVariables false
set_option linter.unusedSimpArgs false
def spec_l3One.f (k : Nat) (l0 : List Int) : Option ((List (S99)) × List Int × List Int × Int) := (spec_l1Source.f l0).bind fun bt998 => ((spec_l2Bent.f k bt998.1 bt998.2).bind fun bt1001 => ((spec_l1Pick.f bt998.1 bt1001.2 (([3, 6, 10, 16, 24] : List Int))).bind fun bt1009 => ((spec_l1Pick.f bt998.1 bt1009.2 (([0, 3, 6, 12] : List Int))).bind fun bt1014 => ((spec_l3BentTerm.f k bt998.1 bt1014.2 [(⟨bt1001.1⟩ : S42)] bt1009.1 bt1014.1).bind fun bt1016 => (some (bt1001.1, bt1016.1, bt998.1, bt1016.2))))))
def spec_l3One.T3 : Bool × List (List Nat × List Nat) := (true, [([], []), ([], []), ([], []), ([], []), ([2, 3], [2, 3]), ([], []), ([], []), ([5, 6, 4], [5, 6]), ([1, 4, 7, 7], [1, 4, 7]), ([], []), ([0, 8, 0], [0]), ([8, 10, 0, 1, 2, 3, 4, 5, 6, 7, 8, 10], [8]), ([9, 11, 0, 1, 2, 3, 4, 5, 6, 7, 8, 9, 10, 11], [9])])
def spec_l3One.B3 : List Nat := [0, 0, 0, 0, 12, 0, 0, 124, 254, 0, 511, 1535, 4095]
theorem spec_l3One.tab3 : rtab .any (opsOf Tryd.f110 3) = spec_l3One.T3 := by kernel_rfl
theorem spec_l3One.bits3 : waitsOk spec_l3One.T3.2 spec_l3One.B3 = true := by kernel_rfl
set_option maxHeartbeats 8000000 in
set_option maxRecDepth 100000 in
theorem spec_l3One.calls (k : Nat) (A0 : Option Addr) (c0 : Nat) (l0 : List Int) (r1 : List (S99)) (r2 : List Int) (r3 : List Int) (r4 : Int) (w0 w : World) (hB : Below w0.heap.size w0 w) (hr0 : Kd.C (Kd.int .u8) w0 A0 l0.length l0) (hc0 : l0.length ≤ c0) (h : spec_l3One.f k l0 = some (r1, r2, r3, r4)) :
  Calls Tryd.prog 110 #[.slice A0 l0.length c0] w fun e w' => ∃ v0_ v1_ : Value, ∃ g_ : Nat, e = .returned (.tuple #[.agg #[v0_], v1_, .pointer (some ⟨g_, 0, none⟩)]) ∧ Kd.R k99 99 w' w.heap.size (fun _ => True) v0_ r1 ∧ Kd.R (Kd.int .i64) 2 w' w.heap.size (fun _ => True) v1_ r2 ∧ IsS148 w0 w' g_ r3 r4 ∧ Below w0.heap.size w0 w' ∧ Below w.heap.size w w' ∧ w.heap.size ≤ g_ := by
 have hu42 := Tryd.underlying42
 have HR0 := am hr0
 have HC0 := am hc0
 clear hr0 hc0
 have HB0 := am hB
 clear hB
 have HB := am (Below.refl w.heap.size w)
 have H : ((spec_l1Source.f l0).bind fun bt998 => ((spec_l2Bent.f k bt998.1 bt998.2).bind fun bt1001 => ((spec_l1Pick.f bt998.1 bt1001.2 (([3, 6, 10, 16, 24] : List Int))).bind fun bt1009 => ((spec_l1Pick.f bt998.1 bt1009.2 (([0, 3, 6, 12] : List Int))).bind fun bt1014 => ((spec_l3BentTerm.f k bt998.1 bt1014.2 [(⟨bt1001.1⟩ : S42)] bt1009.1 bt1014.1).bind fun bt1016 => (some (bt1001.1, bt1016.1, bt998.1, bt1016.2))))))) = some (r1, r2, r3, r4) := h
 clear h
 replace H := Option.bind_eq_some_iff.mp H
 obtain ⟨⟨t998, t999⟩, A20, H⟩ := H
 replace H : ((spec_l2Bent.f k t998 t999).bind fun bt1001 => ((spec_l1Pick.f t998 bt1001.2 (([3, 6, 10, 16, 24] : List Int))).bind fun bt1009 => ((spec_l1Pick.f t998 bt1009.2 (([0, 3, 6, 12] : List Int))).bind fun bt1014 => ((spec_l3BentTerm.f k t998 bt1014.2 [(⟨bt1001.1⟩ : S42)] bt1009.1 bt1014.1).bind fun bt1016 => (some (bt1001.1, bt1016.1, t998, bt1016.2)))))) = some (r1, r2, r3, r4) := H
 have A2 := am A20
 clear A20
 replace H := Option.bind_eq_some_iff.mp H
 obtain ⟨⟨t1001, t1004⟩, A30, H⟩ := H
 replace H : ((spec_l1Pick.f t998 t1004 (([3, 6, 10, 16, 24] : List Int))).bind fun bt1009 => ((spec_l1Pick.f t998 bt1009.2 (([0, 3, 6, 12] : List Int))).bind fun bt1014 => ((spec_l3BentTerm.f k t998 bt1014.2 [(⟨t1001⟩ : S42)] bt1009.1 bt1014.1).bind fun bt1016 => (some (t1001, bt1016.1, t998, bt1016.2))))) = some (r1, r2, r3, r4) := H
 have A3 := am A30
 clear A30
 obtain ⟨y1006, hy1006⟩ : ∃ y_ : List Int, y_ = (([3, 6, 10, 16, 24] : List Int)) := ⟨_, rfl⟩
 replace H : ((spec_l1Pick.f t998 t1004 y1006).bind fun bt1009 => ((spec_l1Pick.f t998 bt1009.2 (([0, 3, 6, 12] : List Int))).bind fun bt1014 => ((spec_l3BentTerm.f k t998 bt1014.2 [(⟨t1001⟩ : S42)] bt1009.1 bt1014.1).bind fun bt1016 => (some (t1001, bt1016.1, t998, bt1016.2))))) = some (r1, r2, r3, r4) := by first | (rw [hy1006]; with_reducible exact H) | (have H2_ := (Option.bind_some _ _).symm.trans H; rw [hy1006]; with_reducible exact H2_) | (have H2_ := (Option.bind_some _ _).symm.trans H; with_reducible exact H2_) | with_reducible exact H | (rw [hy1006]; exact H) | exact H
 have Ny1006 := am hy1006
 clear hy1006
 replace H := Option.bind_eq_some_iff.mp H
 obtain ⟨⟨t1009, t1010⟩, A40, H⟩ := H
 replace H : ((spec_l1Pick.f t998 t1010 (([0, 3, 6, 12] : List Int))).bind fun bt1014 => ((spec_l3BentTerm.f k t998 bt1014.2 [(⟨t1001⟩ : S42)] t1009 bt1014.1).bind fun bt1016 => (some (t1001, bt1016.1, t998, bt1016.2)))) = some (r1, r2, r3, r4) := H
 have A4 := am A40
 clear A40
 obtain ⟨y1011, hy1011⟩ : ∃ y_ : List Int, y_ = (([0, 3, 6, 12] : List Int)) := ⟨_, rfl⟩
 replace H : ((spec_l1Pick.f t998 t1010 y1011).bind fun bt1014 => ((spec_l3BentTerm.f k t998 bt1014.2 [(⟨t1001⟩ : S42)] t1009 bt1014.1).bind fun bt1016 => (some (t1001, bt1016.1, t998, bt1016.2)))) = some (r1, r2, r3, r4) := by first | (rw [hy1011]; with_reducible exact H) | (have H2_ := (Option.bind_some _ _).symm.trans H; rw [hy1011]; with_reducible exact H2_) | (have H2_ := (Option.bind_some _ _).symm.trans H; with_reducible exact H2_) | with_reducible exact H | (rw [hy1011]; exact H) | exact H
 have Ny1011 := am hy1011
 clear hy1011
 replace H := Option.bind_eq_some_iff.mp H
 obtain ⟨⟨t1014, t1015⟩, A50, H⟩ := H
 replace H : ((spec_l3BentTerm.f k t998 t1015 [(⟨t1001⟩ : S42)] t1009 t1014).bind fun bt1016 => (some (t1001, bt1016.1, t998, bt1016.2))) = some (r1, r2, r3, r4) := H
 have A5 := am A50
 clear A50
 replace H := Option.bind_eq_some_iff.mp H
 obtain ⟨⟨t1016, t1019⟩, A60, H⟩ := H
 replace H : (some (t1001, t1016, t998, t1019)) = some (r1, r2, r3, r4) := H
 have A6 := am A60
 clear A60
 simp only [Option.some.injEq, Prod.mk.injEq] at H
 obtain ⟨rfl, rfl, rfl, rfl⟩ := H
 go_enter Tryd.func110, Tryd.ntmps110
 try go_wp2_with (first | ((with_reducible refine gate_dst (N := 2) rfl ?_); refine box_event ?hg (N := 2) ?hd (cs := #[.slice none 0 0]) (t := 42) ?hr ?_; (case hd => rfl); (case hg => rfl); (case hr => first | (go_simp; done) | (go_simp; rfl)); intro gb997 hg w7 hbox hb; have n0_ := am (below_step (hq HB.out) hb); have n1_ := am (hbox); have n2_ := am (bz hg (hq HB.out)); have n3_ := n2_; clear HB; revert n0_ n1_ n2_ n3_; intro HB BK997 GW997 GE997; clear hb hbox hg) | ((with_reducible refine gate_callee (f := 83) rfl ?_); refine goesL_ (some 8) rfl rfl Tryd.func83 (by kernel_rfl) rfl #[.slice A0 l0.length c0] rfl el ?_; (with_reducible refine (spec_l1Source.calls _ _ l0 t998 t999 w0 _ ?side1 ?side2 ?side3 A2.out).mono ?_); (case side1 => exact below_step HB0.out (hs HB.out)); (case side2 => exact HR0.out); (case side3 => exact HC0.out); rintro e w8 ⟨g1000, rfl, hi, hb, hb2, hgw⟩; refine ⟨_, rfl, ?_⟩; have n0_ := am (blk_below (bq BK997.out) hb2); have n1_ := am (below_step (hs HB.out) hb2); have n2_ := am (hi); have n3_ := am (Nat.le_trans (below_size (hs HB.out)) hgw); have n4_ := am (IsS148.ne_blk hi (blk_below (bq BK997.out) hb2) (by decide)); have n5_ := am (Ne.symm (IsS148.ne_blk hi (blk_below (bq BK997.out) hb2) (by decide))); clear BK997 HB; revert n0_ n1_ n2_ n3_ n4_ n5_; intro BK997 HB HI1000 GS1000 NB1000_997 NB997_1000; (try clear hb); (try clear hb2); (try clear hgw); (try clear hk); (try clear hi)) | ((with_reducible refine gate_callee (f := 139) rfl ?_); refine goesL_ (some 10) rfl rfl Tryd.func139 (by kernel_rfl) rfl #[.pointer (some ⟨g1000, 0, none⟩)] rfl el ?_; (with_reducible refine (spec_l2Bent.calls k g1000 t998 t999 t1001 t1004 w0 _ ?side1 ?side2 A3.out).mono ?_); (case side1 => exact IsS148.q HI1000.out); (case side2 => exact below_step HB0.out (hsk HB.out (IsS148.ge HI1000.out))); rintro e w9 ⟨v1002, rfl, ho0, hi, hb, hk⟩; refine ⟨_, rfl, ?_⟩; have n0_ := am (KeepBut.blk hk (g' := gb997) (o := .cells #[.slice none 0 0] 42 (0, 0)) (bq BK997.out) NB997_1000.out (by simp)); have n1_ := am (Kd.R_lower ho0 (below_size (hsk HB.out (IsS148.ge HI1000.out)))); have n2_ := am (below_keep HB0.out (hsk HB.out (IsS148.ge HI1000.out)) hk GS1000.out hb); have n3_ := am (hi); clear BK997 HB HI1000; revert n0_ n1_ n2_ n3_; intro BK997 HO1003 HB HI1000; (try clear hb); (try clear hb2); (try clear hgw); (try clear hk); (try clear hi); (try clear ho0)) | ((with_reducible refine gate_dst (N := 6) rfl ?_); refine box_event ?hg (N := 6) ?hd (cs := #[.slice none 0 0]) (t := 42) ?hr ?_; (case hd => rfl); (case hg => rfl); (case hr => first | (go_simp; done) | (go_simp; rfl)); intro gb1005 hg w10 hbox hb; have n0_ := am (Kd.R_below (rq HO1003.out) hb); have n1_ := am (blk_below (bq BK997.out) hb); have n2_ := am (IsS148.below (IsS148.q HI1000.out) hb); have n3_ := am (below_step (hsk HB.out (IsS148.ge HI1000.out)) hb); have n4_ := am (hbox); have n5_ := am (bz hg (hsk HB.out (IsS148.ge HI1000.out))); have n6_ := n5_; have n7_ := am ((by rw [hg]; exact Nat.ne_of_lt (blk_lt (bq BK997.out)) : gb997 ≠ gb1005)); have n8_ := am ((by rw [hg]; exact Nat.ne_of_gt (blk_lt (bq BK997.out)) : gb1005 ≠ gb997)); have n9_ := am ((by rw [hg]; exact Nat.ne_of_lt (IsS148.lt (show IsS148 w0 _ g1000 t998 t1004 from by exact IsS148.q HI1000.out)) : g1000 ≠ gb1005)); have n10_ := am n9_.out.symm; clear HO1003 BK997 HI1000 HB; revert n0_ n1_ n2_ n3_ n4_ n5_ n6_ n7_ n8_ n9_ n10_; intro HO1003 BK997 HI1000 HB BK1005 GW1005 GE1005 NB997_1005 NB1005_997 NB1000_1005 NB1005_1000; clear hb hbox hg; obtain ⟨Ao11, co11, eo11⟩ := Kd.R_slice HO1003.out; subst eo11; have hnb12 := NB1005_997.out; have hnc12 := NB997_1005.out; have hnb13 := NB1005_1000.out; have hnc13 := NB1000_1005.out; have hcz14_0 : w10.cell? ⟨gb1005, 0, none⟩ = some (.slice none 0 0) := (blk_cell BK1005.out 0).trans rfl; have hfz14_0 := blk_frozen BK1005.out 0))
 have n0_ : Aside0 (Kd.R k99 99 (w10.setCell ⟨gb1005, 0, none⟩ (.slice Ao11 t1001.length co11)) w.heap.size (fun _ => True) (.slice Ao11 t1001.length co11) t1001) := ⟨by (with_reducible repeat (first | apply Kd.R_alloc | apply Kd.R_drewN | apply Kd.R_drew)); exact Kd.R_mono (Kd.R_far (p := ⟨gb1005, 0, none⟩) (Kd.R_types HO1003.out BK1005.out (by decide)) (fun _ hk => hk.2) (.slice Ao11 t1001.length co11)) (fun _ hk => trivial)⟩
 have n1_ : Aside0 ((w10.setCell ⟨gb1005, 0, none⟩ (.slice Ao11 t1001.length co11)).heap[gb997]? = some (.cells #[.slice none 0 0] 42 (0, 0))) := ⟨by refine bq ?_; refine blk_far ?_ NB997_1005.out _; refine bq ?_; exact BK997.out⟩
 have n2_ : Aside0 ((w10.setCell ⟨gb1005, 0, none⟩ (.slice Ao11 t1001.length co11)).heap[gb1005]? = some (.cells #[.slice Ao11 t1001.length co11] 42 (0, 0))) := ⟨by refine bq ?_; refine blk_put (cs := #[.slice none 0 0]) ?_ 0 _ rfl; refine bq ?_; exact BK1005.out⟩
 have n3_ : Aside0 (IsS148 w0 (w10.setCell ⟨gb1005, 0, none⟩ (.slice Ao11 t1001.length co11)) g1000 t998 t1004) := ⟨by exact IsS148.q HI1000.out⟩
 have n4_ : Aside0 (Below w.heap.size w (w10.setCell ⟨gb1005, 0, none⟩ (.slice Ao11 t1001.length co11))) := ⟨by exact hsk HB.out (IsS148.ge HI1000.out)⟩
 (try clear HO1003)
 (try clear BK997)
 (try clear BK1005)
 (try clear HI1000)
 (try clear HB)
 (try simp only [Go.IntKind.wrap_u8])
 generalize (w10.setCell ⟨gb1005, 0, none⟩ (.slice Ao11 t1001.length co11)) = w15 at n0_ n1_ n2_ n3_ n4_ ⊢
 have HO1003 := n0_
 have BK997 := n1_
 have BK1005 := n2_
 have HI1000 := n3_
 have HB := n4_
 clear n0_ n1_ n2_ n3_ n4_
 have n0_ := am (Kd.R_drew HO1003.out)
 have n1_ := am (blk_drew BK997.out)
 have n2_ := am (blk_drew BK1005.out)
 have n3_ := am (IsS148.drew HI1000.out)
 have n4_ := am (below_drew1 HB.out)
 clear HO1003
 clear BK997
 clear BK1005
 clear HI1000
 clear HB
 have HO1003 := n0_
 have BK997 := n1_
 have BK1005 := n2_
 have HI1000 := n3_
 have HB := n4_
 clear n0_ n1_ n2_ n3_ n4_
 refine start_ (n := 13) (S := fun w' => True) (ds := []) #[false, false, false, false, false, false, false, false, false, false, false, false, false] (by kernel_rfl) rfl rfl trivial (fun hHeld => ?_); refine with_tabW spec_l3One.tab3 spec_l3One.bits3 (fun HT_ HW_ => ?_)
 generalize w15.drew = w16 at HO1003 BK997 BK1005 HI1000 HB hHeld ⊢
 refine pure_ (i := 1) (N := some 12) (v := ?_) (a' := ?_) #[false, true, false, false, false, false, false, false, false, false, false, false, false] rfl rfl (any_of HT_.out (by kernel_rfl)) (fun _ _ _ h => h) (Or.inl ⟨by rfl, ?_⟩) ?_ ?_
 rotate_left
 ·intro w'
  go_simp
  with_reducible rfl
 rotate_left
 ·simp only [Act.put, lsp, i64_w, i32_w]
  rfl
 refine pure_ (i := 2) (N := some 13) (v := ?_) (a' := ?_) #[false, true, true, false, false, false, false, false, false, false, false, false, false] rfl rfl (any_of HT_.out (by kernel_rfl)) (fun _ _ _ h => h) (Or.inl ⟨by rfl, ?_⟩) ?_ ?_
 rotate_left
 ·intro w'
  go_simp
  with_reducible rfl
 rotate_left
 ·simp only [Act.put, lsp, i64_w, i32_w]
  rfl
 refine pure_ (i := 5) (N := some 16) (v := ?_) (a' := ?_) #[false, true, true, false, false, true, false, false, false, false, false, false, false] rfl rfl (any_of HT_.out (by kernel_rfl)) (fun _ _ _ h => h) (Or.inl ⟨by rfl, ?_⟩) ?_ ?_
 rotate_left
 ·intro w'
  go_simp
  with_reducible rfl
 rotate_left
 ·simp only [Act.put, lsp, i64_w, i32_w]
  rfl
 refine pure_ (i := 9) (N := some 20) (v := ?_) (a' := ?_) #[false, true, true, false, false, true, false, false, false, true, false, false, false] rfl rfl (any_of HT_.out (by kernel_rfl)) (fun _ _ _ h => h) (Or.inl ⟨by rfl, ?_⟩) ?_ ?_
 rotate_left
 ·intro w'
  go_simp
  with_reducible rfl
 rotate_left
 ·simp only [Act.put, lsp, i64_w, i32_w]
  rfl
 refine inv_at [0, 3, 4, 6, 7, 8, 10, 11, 12] (fun a0_ b a w' => ∃ (v1007 : Value) (v1012 : Value) (v1017 : Value) (m11_ : Value), a = putSel a0_ b [(0, 11, .agg #[.slice Ao11 t1001.length co11]), (3, 14, v1007), (4, 15, .int .i64 t1009), (6, 17, v1012), (7, 18, .int .i64 t1014), (8, 19, v1017), (11, 3, m11_), (12, 4, .pointer (some ⟨g1000, 0, none⟩))] ∧ (Kd.R k99 99 w' w.heap.size (fun _ => True) (.slice Ao11 t1001.length co11) t1001) ∧ (w'.heap[gb1005]? = some (.cells #[.slice Ao11 t1001.length co11] 42 (0, 0))) ∧ (b 10 = false → w'.heap[gb997]? = some (.cells #[.slice none 0 0] 42 (0, 0))) ∧ (b 4 = false → IsS148 w0 w' g1000 t998 t1004) ∧ (Below w.heap.size w w') ∧ (b 3 = true → Kd.R (Kd.int .i64) 2 w' w.heap.size (fun _ => True) v1007 y1006) ∧ (b 4 = true → b 7 = false → IsS148 w0 w' g1000 t998 t1010) ∧ (b 6 = true → Kd.R (Kd.int .i64) 2 w' w.heap.size (fun _ => True) v1012 y1011) ∧ (b 7 = true → b 8 = false → IsS148 w0 w' g1000 t998 t1015) ∧ (b 8 = true → Kd.R (Kd.int .i64) 2 w' w.heap.size (fun _ => True) v1017 t1016) ∧ (b 8 = true → IsS148 w0 w' g1000 t998 t1019) ∧ (b 10 = true → w'.heap[gb997]? = some (.cells #[.slice Ao11 t1001.length co11] 42 (0, 0))) ∧ (b 11 = true → (m11_ : Value) = v1017)) HT_.out HW_.out (by kernel_rfl) (by kernel_rfl) ?_ ?_ ?_
 ·exact ⟨.bool false, .bool false, .bool false, .bool false, by simp only [putSel, Bool.false_eq_true, if_false], HO1003.out, BK1005.out, fun _ => BK997.out, fun _ => HI1000.out, HB.out, fun h_ => absurd h_ (by decide), fun h_ => absurd h_ (by decide), fun h_ => absurd h_ (by decide), fun h_ => absurd h_ (by decide), fun h_ => absurd h_ (by decide), fun h_ => absurd h_ (by decide), fun h_ => absurd h_ (by decide), fun h_ => absurd h_ (by decide)⟩
 ·skip
  clear BK1005 BK997 HB HI1000 HO1003
  refine steps_cons ?_ ?_
  ·rintro b a w' ⟨v1007, v1012, v1017, m11_, ha, Q_HO1003, Q_BK1005, Q_BK997, Q_HI1000, Q_HB, Q_HO1008, Q_HI1000_e4, Q_HO1013, Q_HI1000_e7, Q_HO1018, Q_HI1000_e8, Q_BK997_e10, Q_X11_⟩ hb_ hon hoff
   refine ⟨_, rfl, fun K hK => ?_⟩
   have e6 : a.tmps[6]? = some (.pointer (some ⟨gb1005, 0, none⟩)) := by rw [ha]; exact (putSel_off rfl).trans rfl
   replace ha := am ha
   have HO1003 := am Q_HO1003
   have BK1005 := am Q_BK1005
   have BK997 := am (Q_BK997 (hoff 10 (by kernel_rfl)))
   have HB := am Q_HB
   have hc0_ : w'.cell? ⟨gb1005, 0, none⟩ = some (.slice Ao11 t1001.length co11) := (blk_cell BK1005.out 0).trans rfl
   refine value_ (w1 := w') (v := .agg #[.slice Ao11 t1001.length co11]) (by rfl) rfl ?_ ?_
   ·go_simp
    (try simp only [i64_w])
    try rfl
   refine hK.out _ _ ⟨v1007, v1012, v1017, m11_, (by rw [ha.out]; exact putSel_upk 0 hb_ rfl rfl rfl), Q_HO1003, Q_BK1005, Q_BK997, Q_HI1000, Q_HB, Q_HO1008, Q_HI1000_e4, Q_HO1013, Q_HI1000_e7, Q_HO1018, Q_HI1000_e8, fun h0_ => absurd ((hoff 10 (by kernel_rfl)).symm.trans h0_) (by decide), fun h0_ => absurd ((hoff 11 (by kernel_rfl)).symm.trans h0_) (by decide)⟩
  refine steps_cons ?_ ?_
  ·rintro b a w' ⟨v1007, v1012, v1017, m11_, ha, Q_HO1003, Q_BK1005, Q_BK997, Q_HI1000, Q_HB, Q_HO1008, Q_HI1000_e4, Q_HO1013, Q_HI1000_e7, Q_HO1018, Q_HI1000_e8, Q_BK997_e10, Q_X11_⟩ hb_ hon hoff
   refine ⟨_, rfl, fun K hK => ?_⟩
   replace ha := am ha
   have HO1003 := am Q_HO1003
   have BK1005 := am Q_BK1005
   have BK997 := am (Q_BK997 (hoff 10 (by kernel_rfl)))
   have HI1000 := am (Q_HI1000 (hoff 4 (by kernel_rfl)))
   have HB := am Q_HB
   refine Kd.R_lit_step (Kd.int .i64) _ 2 ?hg (N := 14) ?hd (xs := ([3, 6, 10, 16, 24] : List Int)) (inner := [.int .i64 3, .int .i64 6, .int .i64 10, .int .i64 16, .int .i64 24]) (ok := fun _ => True) (okp := fun _ => True) ?hr ?hp (fun _ hk => hk) trivial (Below.refl _ _) (Nat.le_refl _) (by simp) ?_; (case hd => rfl); (case hg => rfl); (case hr => first | (go_simp; done) | (go_simp; rfl)); (case hp => exact (Reps.one (show Kd.M (Kd.int .i64) _ _ _ 3 [.int .i64 3] from rfl) (Reps.one (show Kd.M (Kd.int .i64) _ _ _ 6 [.int .i64 6] from rfl) (Reps.one (show Kd.M (Kd.int .i64) _ _ _ 10 [.int .i64 10] from rfl) (Reps.one (show Kd.M (Kd.int .i64) _ _ _ 16 [.int .i64 16] from rfl) (Reps.one (show Kd.M (Kd.int .i64) _ _ _ 24 [.int .i64 24] from rfl) (Reps.none _ _)))))))
   intro v1007 w17 ho18 hb hg_ hnew_
   clear hg_ hnew_
   (first | rw [← Ny1006.out] at ho18 | (simp only [Int.reduceToNat] at ho18; rw [← Ny1006.out] at ho18))
   have n0_ := am (Kd.R_below (rq HO1003.out) hb)
   have n1_ := am (Kd.R_lower ho18 (below_size (hsk HB.out (IsS148.ge HI1000.out))))
   have n2_ := am (blk_below (bq BK997.out) hb)
   have n3_ := am (IsS148.below (IsS148.q HI1000.out) hb)
   have n4_ := am (blk_below (bq BK1005.out) hb)
   have n5_ := am (below_step (hsk HB.out (IsS148.ge HI1000.out)) hb)
   have z_HO1013 := fun (h0_ : b 6 = true) => (show Kd.R (Kd.int .i64) 2 w17 w.heap.size (fun _ => True) v1012 y1011 from by first | exact (Kd.R_elder' (by (with_reducible repeat (first | apply Kd.R_alloc | apply Kd.R_drewN | apply Kd.R_drew)); exact (Q_HO1013 h0_)) (Kd.R_base ho18) hb) | exact Kd.R_mono (Kd.R_elder' (by (with_reducible repeat (first | apply Kd.R_alloc | apply Kd.R_drewN | apply Kd.R_drew)); exact (Q_HO1013 h0_)) (Kd.R_base ho18) hb) (fun _ h_ => by first | trivial | exact h_ | exact h_.1))
   clear HO1003
   clear BK997
   clear HI1000
   clear BK1005
   clear HB
   have HO1003 := n0_
   have HO1008 := n1_
   have BK997 := n2_
   have HI1000 := n3_
   have BK1005 := n4_
   have HB := n5_
   clear n0_ n1_ n2_ n3_ n4_ n5_
   clear hb ho18
   refine hK.out _ _ ⟨v1007, v1012, v1017, m11_, (by rw [ha.out]; exact putSel_upk 1 hb_ rfl rfl rfl), (by (with_reducible repeat (first | apply Kd.R_alloc | apply Kd.R_drewN | apply Kd.R_drew)); first | exact HO1003.out | exact Kd.R_mono HO1003.out (fun _ _ => trivial) | exact Kd.R_mono HO1003.out (fun _ hk => hk.1)), (bq BK1005.out), fun _ => (bq BK997.out), fun _ => (IsS148.q HI1000.out), (hsk HB.out (IsS148.ge HI1000.out)), fun _ => (by (with_reducible repeat (first | apply Kd.R_alloc | apply Kd.R_drewN | apply Kd.R_drew)); first | exact HO1008.out | exact Kd.R_mono HO1008.out (fun _ _ => trivial) | exact Kd.R_mono HO1008.out (fun _ hk => hk.1)), fun h0_ _ => absurd ((hoff 4 (by kernel_rfl)).symm.trans h0_) (by decide), z_HO1013, fun h0_ _ => absurd ((hoff 7 (by kernel_rfl)).symm.trans h0_) (by decide), fun h0_ => absurd ((hoff 8 (by kernel_rfl)).symm.trans h0_) (by decide), fun h0_ => absurd ((hoff 8 (by kernel_rfl)).symm.trans h0_) (by decide), fun h0_ => absurd ((hoff 10 (by kernel_rfl)).symm.trans h0_) (by decide), fun h0_ => absurd ((hoff 11 (by kernel_rfl)).symm.trans h0_) (by decide)⟩
  refine steps_cons ?_ ?_
  ·rintro b a w' ⟨v1007, v1012, v1017, m11_, ha, Q_HO1003, Q_BK1005, Q_BK997, Q_HI1000, Q_HB, Q_HO1008, Q_HI1000_e4, Q_HO1013, Q_HI1000_e7, Q_HO1018, Q_HI1000_e8, Q_BK997_e10, Q_X11_⟩ hb_ hon hoff
   refine ⟨_, rfl, fun K hK => ?_⟩
   have e13 : a.tmps[13]? = some (.pointer (some ⟨g1000, 0, none⟩)) := by rw [ha]; exact (putSel_off rfl).trans rfl
   have e14 : a.tmps[14]? = some (v1007) := by rw [ha]; exact putSel_on (e := (3, 14, v1007)) 1 rfl rfl (hon 3 (by kernel_rfl)) rfl
   replace ha := am ha
   have HO1003 := am Q_HO1003
   have BK1005 := am Q_BK1005
   have BK997 := am (Q_BK997 (hoff 10 (by kernel_rfl)))
   have HI1000 := am (Q_HI1000 hb_)
   have HB := am Q_HB
   have HO1008 := am (Q_HO1008 (hon 3 (by kernel_rfl)))
   obtain ⟨Ao20, co20, eo20⟩ := Kd.R_slice HO1008.out
   (first | subst eo20 | (injection eo20 with f1_ f2_ f3_; have f4_ := f1_.symm; have f5_ := f3_.symm; clear f1_ f2_ f3_; subst f4_; subst f5_))
   refine goes_ Tryd.func84 (by kernel_rfl) rfl #[.pointer (some ⟨g1000, 0, none⟩), .slice Ao20 y1006.length co20] (by rfl) rfl rfl (by first | (simp only [List.map_toArray, List.map_cons, List.map_nil, Act.eval, Array.getD_eq_getD_getElem?, Option.getD_some, e13, e14]; done) | (simp only [List.map_toArray, List.map_cons, List.map_nil, Act.eval, Array.getD_eq_getD_getElem?, Option.getD_some, e13, e14]; rfl)) ?_
   with_reducible refine (spec_l1Pick.calls g1000 t998 t1004 _ _ y1006 t1009 t1010 w0 _ ?side1 ?side2 ?side3 ?side4 ?side5 A4.out).mono ?_
   (case side1 => exact IsS148.q HI1000.out)
   (case side2 => exact below_step HB0.out (hsk HB.out (IsS148.ge HI1000.out)))
   (case side3 => repeat (first | exact (Kd.R_reads' HO1008.out).2.2 | (with_reducible refine Kd.C_alloc ?_ _) | (with_reducible refine Kd.C_drewN ?_ _) | (with_reducible refine Kd.C_drew ?_)))
   (case side4 => exact (Kd.R_reads' HO1008.out).2.1)
   (case side5 => exact far_slice (IsS148.own_ne HI1000.out HO1008.out (by decide)))
   rintro e w21 ⟨rfl, hi, hb, hk⟩
   refine ⟨_, rfl, ?_⟩
   have n0_ := am (KeepBut.blk hk (g' := gb997) (o := .cells #[.slice none 0 0] 42 (0, 0)) (bq BK997.out) NB997_1000.out (by simp))
   have n1_ := am (Kd.R_mono (Kd.R_keep (IsS148.apart (show IsS148 w0 _ g1000 t998 t1004 from by exact IsS148.q HI1000.out) (rq HO1003.out) (by decide)) hk (fun _ h => h.2)) (fun _ h => h.1))
   have n2_ := am (KeepBut.blk hk (g' := gb1005) (o := .cells #[.slice Ao11 t1001.length co11] 42 (0, 0)) (bq BK1005.out) NB1005_1000.out (by simp))
   have n3_ := am (Kd.R_mono (Kd.R_keep (IsS148.apart (show IsS148 w0 _ g1000 t998 t1004 from by exact IsS148.q HI1000.out) (rq HO1008.out) (by decide)) hk (fun _ h => h.2)) (fun _ h => h.1))
   have n4_ := am (below_keep HB0.out (hsk HB.out (IsS148.ge HI1000.out)) hk GS1000.out hb)
   have n5_ := am (hi)
   have z_HO1013 := fun (h0_ : b 6 = true) => (show Kd.R (Kd.int .i64) 2 w21 w.heap.size (fun _ => True) v1012 y1011 from by first | exact (Kd.R_mono (Kd.R_keep (IsS148.apart (show IsS148 w0 _ g1000 t998 t1004 from by exact IsS148.q HI1000.out) (by (with_reducible repeat (first | apply Kd.R_alloc | apply Kd.R_drewN | apply Kd.R_drew)); exact (Q_HO1013 h0_)) (by decide)) hk (fun _ h => h.2)) (fun _ h => h.1)) | exact Kd.R_mono (Kd.R_mono (Kd.R_keep (IsS148.apart (show IsS148 w0 _ g1000 t998 t1004 from by exact IsS148.q HI1000.out) (by (with_reducible repeat (first | apply Kd.R_alloc | apply Kd.R_drewN | apply Kd.R_drew)); exact (Q_HO1013 h0_)) (by decide)) hk (fun _ h => h.2)) (fun _ h => h.1)) (fun _ h_ => by first | trivial | exact h_ | exact h_.1))
   clear BK997
   clear HO1003
   clear BK1005
   clear HO1008
   clear HB
   clear HI1000
   have BK997 := n0_
   have HO1003 := n1_
   have BK1005 := n2_
   have HO1008 := n3_
   have HB := n4_
   have HI1000 := n5_
   clear n0_ n1_ n2_ n3_ n4_ n5_
   (try clear hb)
   (try clear hb2)
   (try clear hgw)
   (try clear hk)
   (try clear hi)
   refine hK.out _ _ ⟨.slice Ao20 y1006.length co20, v1012, v1017, m11_, (by rw [ha.out]; exact putSel_upk 2 hb_ rfl rfl rfl), (by (with_reducible repeat (first | apply Kd.R_alloc | apply Kd.R_drewN | apply Kd.R_drew)); first | exact HO1003.out | exact Kd.R_mono HO1003.out (fun _ _ => trivial) | exact Kd.R_mono HO1003.out (fun _ hk => hk.1)), (bq BK1005.out), fun _ => (bq BK997.out), fun h0_ => absurd ((up_self b 4).symm.trans h0_) (by decide), (hsk HB.out (IsS148.ge HI1000.out)), fun _ => (by (with_reducible repeat (first | apply Kd.R_alloc | apply Kd.R_drewN | apply Kd.R_drew)); first | exact HO1008.out | exact Kd.R_mono HO1008.out (fun _ _ => trivial) | exact Kd.R_mono HO1008.out (fun _ hk => hk.1)), fun _ _ => (IsS148.q HI1000.out), z_HO1013, fun h0_ _ => absurd ((hoff 7 (by kernel_rfl)).symm.trans h0_) (by decide), fun h0_ => absurd ((hoff 8 (by kernel_rfl)).symm.trans h0_) (by decide), fun h0_ => absurd ((hoff 8 (by kernel_rfl)).symm.trans h0_) (by decide), fun h0_ => absurd ((hoff 10 (by kernel_rfl)).symm.trans h0_) (by decide), fun h0_ => absurd ((hoff 11 (by kernel_rfl)).symm.trans h0_) (by decide)⟩
  refine steps_cons ?_ ?_
  ·rintro b a w' ⟨v1007, v1012, v1017, m11_, ha, Q_HO1003, Q_BK1005, Q_BK997, Q_HI1000, Q_HB, Q_HO1008, Q_HI1000_e4, Q_HO1013, Q_HI1000_e7, Q_HO1018, Q_HI1000_e8, Q_BK997_e10, Q_X11_⟩ hb_ hon hoff
   refine ⟨_, rfl, fun K hK => ?_⟩
   replace ha := am ha
   have HO1003 := am Q_HO1003
   have BK1005 := am Q_BK1005
   have BK997 := am (Q_BK997 (hoff 10 (by kernel_rfl)))
   have HB := am Q_HB
   refine Kd.R_lit_step (Kd.int .i64) _ 2 ?hg (N := 17) ?hd (xs := ([0, 3, 6, 12] : List Int)) (inner := [.int .i64 0, .int .i64 3, .int .i64 6, .int .i64 12]) (ok := fun _ => True) (okp := fun _ => True) ?hr ?hp (fun _ hk => hk) trivial (Below.refl _ _) (Nat.le_refl _) (by simp) ?_; (case hd => rfl); (case hg => rfl); (case hr => first | (go_simp; done) | (go_simp; rfl)); (case hp => exact (Reps.one (show Kd.M (Kd.int .i64) _ _ _ 0 [.int .i64 0] from rfl) (Reps.one (show Kd.M (Kd.int .i64) _ _ _ 3 [.int .i64 3] from rfl) (Reps.one (show Kd.M (Kd.int .i64) _ _ _ 6 [.int .i64 6] from rfl) (Reps.one (show Kd.M (Kd.int .i64) _ _ _ 12 [.int .i64 12] from rfl) (Reps.none _ _))))))
   intro v1012 w17 ho18 hb hg_ hnew_
   clear hg_ hnew_
   (first | rw [← Ny1011.out] at ho18 | (simp only [Int.reduceToNat] at ho18; rw [← Ny1011.out] at ho18))
   have n0_ := am (Kd.R_below (rq HO1003.out) hb)
   have n1_ := am (Kd.R_lower ho18 (below_size (hs HB.out)))
   have n2_ := am (blk_below (bq BK997.out) hb)
   have n4_ := am (blk_below (bq BK1005.out) hb)
   have n5_ := am (below_step (hs HB.out) hb)
   have z_HI1000 := fun (h0_ : b 4 = false) => (show IsS148 w0 w17 g1000 t998 t1004 from by first | exact (IsS148.below (by repeat (first | (with_reducible first | exact (Q_HI1000 h0_) | apply IsS148.alloc | apply IsS148.drewN | apply IsS148.drew | apply IsS148.set_1 | refine IsS148.far ?_ NB1000_997.out _ | refine IsS148.far ?_ NB1000_1005.out _) | exact (Q_HI1000 h0_))) hb))
   have z_HO1008 := fun (h0_ : b 3 = true) => (show Kd.R (Kd.int .i64) 2 w17 w.heap.size (fun _ => True) v1007 y1006 from by first | exact (Kd.R_elder' (by (with_reducible repeat (first | apply Kd.R_alloc | apply Kd.R_drewN | apply Kd.R_drew)); exact (Q_HO1008 h0_)) (Kd.R_base ho18) hb) | exact Kd.R_mono (Kd.R_elder' (by (with_reducible repeat (first | apply Kd.R_alloc | apply Kd.R_drewN | apply Kd.R_drew)); exact (Q_HO1008 h0_)) (Kd.R_base ho18) hb) (fun _ h_ => by first | trivial | exact h_ | exact h_.1))
   have z_HI1000_e4 := fun (h0_ : b 4 = true) (h1_ : b 7 = false) => (show IsS148 w0 w17 g1000 t998 t1010 from by first | exact (IsS148.below (by repeat (first | (with_reducible first | exact (Q_HI1000_e4 h0_ h1_) | apply IsS148.alloc | apply IsS148.drewN | apply IsS148.drew | apply IsS148.set_1 | refine IsS148.far ?_ NB1000_997.out _ | refine IsS148.far ?_ NB1000_1005.out _) | exact (Q_HI1000_e4 h0_ h1_))) hb))
   clear HO1003
   clear BK997
   clear BK1005
   clear HB
   have HO1003 := n0_
   have HO1013 := n1_
   have BK997 := n2_
   have BK1005 := n4_
   have HB := n5_
   clear n0_ n1_ n2_ n4_ n5_
   clear hb ho18
   refine hK.out _ _ ⟨v1007, v1012, v1017, m11_, (by rw [ha.out]; exact putSel_upk 3 hb_ rfl rfl rfl), (by (with_reducible repeat (first | apply Kd.R_alloc | apply Kd.R_drewN | apply Kd.R_drew)); first | exact HO1003.out | exact Kd.R_mono HO1003.out (fun _ _ => trivial) | exact Kd.R_mono HO1003.out (fun _ hk => hk.1)), (bq BK1005.out), fun _ => (bq BK997.out), z_HI1000, (hs HB.out), z_HO1008, z_HI1000_e4, fun _ => (by (with_reducible repeat (first | apply Kd.R_alloc | apply Kd.R_drewN | apply Kd.R_drew)); first | exact HO1013.out | exact Kd.R_mono HO1013.out (fun _ _ => trivial) | exact Kd.R_mono HO1013.out (fun _ hk => hk.1)), fun h0_ _ => absurd ((hoff 7 (by kernel_rfl)).symm.trans h0_) (by decide), fun h0_ => absurd ((hoff 8 (by kernel_rfl)).symm.trans h0_) (by decide), fun h0_ => absurd ((hoff 8 (by kernel_rfl)).symm.trans h0_) (by decide), fun h0_ => absurd ((hoff 10 (by kernel_rfl)).symm.trans h0_) (by decide), fun h0_ => absurd ((hoff 11 (by kernel_rfl)).symm.trans h0_) (by decide)⟩
  refine steps_cons ?_ ?_
  ·rintro b a w' ⟨v1007, v1012, v1017, m11_, ha, Q_HO1003, Q_BK1005, Q_BK997, Q_HI1000, Q_HB, Q_HO1008, Q_HI1000_e4, Q_HO1013, Q_HI1000_e7, Q_HO1018, Q_HI1000_e8, Q_BK997_e10, Q_X11_⟩ hb_ hon hoff
   refine ⟨_, rfl, fun K hK => ?_⟩
   have e16 : a.tmps[16]? = some (.pointer (some ⟨g1000, 0, none⟩)) := by rw [ha]; exact (putSel_off rfl).trans rfl
   have e17 : a.tmps[17]? = some (v1012) := by rw [ha]; exact putSel_on (e := (6, 17, v1012)) 3 rfl rfl (hon 6 (by kernel_rfl)) rfl
   replace ha := am ha
   have HO1003 := am Q_HO1003
   have BK1005 := am Q_BK1005
   have BK997 := am (Q_BK997 (hoff 10 (by kernel_rfl)))
   have HB := am Q_HB
   have HO1008 := am (Q_HO1008 (hon 3 (by kernel_rfl)))
   have HI1000 := am (Q_HI1000_e4 (hon 4 (by kernel_rfl)) hb_)
   have HO1013 := am (Q_HO1013 (hon 6 (by kernel_rfl)))
   obtain ⟨Ao24, co24, eo24⟩ := Kd.R_slice HO1013.out
   (first | subst eo24 | (injection eo24 with f1_ f2_ f3_; have f4_ := f1_.symm; have f5_ := f3_.symm; clear f1_ f2_ f3_; subst f4_; subst f5_))
   refine goes_ Tryd.func84 (by kernel_rfl) rfl #[.pointer (some ⟨g1000, 0, none⟩), .slice Ao24 y1011.length co24] (by rfl) rfl rfl (by first | (simp only [List.map_toArray, List.map_cons, List.map_nil, Act.eval, Array.getD_eq_getD_getElem?, Option.getD_some, e16, e17]; done) | (simp only [List.map_toArray, List.map_cons, List.map_nil, Act.eval, Array.getD_eq_getD_getElem?, Option.getD_some, e16, e17]; rfl)) ?_
   with_reducible refine (spec_l1Pick.calls g1000 t998 t1010 _ _ y1011 t1014 t1015 w0 _ ?side1 ?side2 ?side3 ?side4 ?side5 A5.out).mono ?_
   (case side1 => exact IsS148.q HI1000.out)
   (case side2 => exact below_step HB0.out (hsk HB.out (IsS148.ge HI1000.out)))
   (case side3 => repeat (first | exact (Kd.R_reads' HO1013.out).2.2 | (with_reducible refine Kd.C_alloc ?_ _) | (with_reducible refine Kd.C_drewN ?_ _) | (with_reducible refine Kd.C_drew ?_)))
   (case side4 => exact (Kd.R_reads' HO1013.out).2.1)
   (case side5 => exact far_slice (IsS148.own_ne HI1000.out HO1013.out (by decide)))
   rintro e w25 ⟨rfl, hi, hb, hk⟩
   refine ⟨_, rfl, ?_⟩
   have n0_ := am (KeepBut.blk hk (g' := gb997) (o := .cells #[.slice none 0 0] 42 (0, 0)) (bq BK997.out) NB997_1000.out (by simp))
   have n1_ := am (Kd.R_mono (Kd.R_keep (IsS148.apart (show IsS148 w0 _ g1000 t998 t1010 from by exact IsS148.q HI1000.out) (rq HO1003.out) (by decide)) hk (fun _ h => h.2)) (fun _ h => h.1))
   have n2_ := am (KeepBut.blk hk (g' := gb1005) (o := .cells #[.slice Ao11 t1001.length co11] 42 (0, 0)) (bq BK1005.out) NB1005_1000.out (by simp))
   have n3_ := am (Kd.R_mono (Kd.R_keep (IsS148.apart (show IsS148 w0 _ g1000 t998 t1010 from by exact IsS148.q HI1000.out) (rq HO1008.out) (by decide)) hk (fun _ h => h.2)) (fun _ h => h.1))
   have n4_ := am (Kd.R_mono (Kd.R_keep (IsS148.apart (show IsS148 w0 _ g1000 t998 t1010 from by exact IsS148.q HI1000.out) (rq HO1013.out) (by decide)) hk (fun _ h => h.2)) (fun _ h => h.1))
   have n5_ := am (below_keep HB0.out (hsk HB.out (IsS148.ge HI1000.out)) hk GS1000.out hb)
   have n6_ := am (hi)
   clear BK997
   clear HO1003
   clear BK1005
   clear HO1008
   clear HO1013
   clear HB
   clear HI1000
   have BK997 := n0_
   have HO1003 := n1_
   have BK1005 := n2_
   have HO1008 := n3_
   have HO1013 := n4_
   have HB := n5_
   have HI1000 := n6_
   clear n0_ n1_ n2_ n3_ n4_ n5_ n6_
   (try clear hb)
   (try clear hb2)
   (try clear hgw)
   (try clear hk)
   (try clear hi)
   refine hK.out _ _ ⟨v1007, .slice Ao24 y1011.length co24, v1017, m11_, (by rw [ha.out]; exact putSel_upk 4 hb_ rfl rfl rfl), (by (with_reducible repeat (first | apply Kd.R_alloc | apply Kd.R_drewN | apply Kd.R_drew)); first | exact HO1003.out | exact Kd.R_mono HO1003.out (fun _ _ => trivial) | exact Kd.R_mono HO1003.out (fun _ hk => hk.1)), (bq BK1005.out), fun _ => (bq BK997.out), fun h0_ => absurd ((hon 4 (by kernel_rfl)).symm.trans h0_) (by decide), (hsk HB.out (IsS148.ge HI1000.out)), fun _ => (by (with_reducible repeat (first | apply Kd.R_alloc | apply Kd.R_drewN | apply Kd.R_drew)); first | exact HO1008.out | exact Kd.R_mono HO1008.out (fun _ _ => trivial) | exact Kd.R_mono HO1008.out (fun _ hk => hk.1)), fun _ h1_ => absurd ((up_self b 7).symm.trans h1_) (by decide), fun _ => (by (with_reducible repeat (first | apply Kd.R_alloc | apply Kd.R_drewN | apply Kd.R_drew)); first | exact HO1013.out | exact Kd.R_mono HO1013.out (fun _ _ => trivial) | exact Kd.R_mono HO1013.out (fun _ hk => hk.1)), fun _ _ => (IsS148.q HI1000.out), fun h0_ => absurd ((hoff 8 (by kernel_rfl)).symm.trans h0_) (by decide), fun h0_ => absurd ((hoff 8 (by kernel_rfl)).symm.trans h0_) (by decide), fun h0_ => absurd ((hoff 10 (by kernel_rfl)).symm.trans h0_) (by decide), fun h0_ => absurd ((hoff 11 (by kernel_rfl)).symm.trans h0_) (by decide)⟩
  refine steps_cons ?_ ?_
  ·rintro b a w' ⟨v1007, v1012, v1017, m11_, ha, Q_HO1003, Q_BK1005, Q_BK997, Q_HI1000, Q_HB, Q_HO1008, Q_HI1000_e4, Q_HO1013, Q_HI1000_e7, Q_HO1018, Q_HI1000_e8, Q_BK997_e10, Q_X11_⟩ hb_ hon hoff
   refine ⟨_, rfl, fun K hK => ?_⟩
   have e12 : a.tmps[12]? = some (.pointer (some ⟨g1000, 0, none⟩)) := by rw [ha]; exact (putSel_off rfl).trans rfl
   have e6 : a.tmps[6]? = some (.pointer (some ⟨gb1005, 0, none⟩)) := by rw [ha]; exact (putSel_off rfl).trans rfl
   have e15 : a.tmps[15]? = some (.int .i64 t1009) := by rw [ha]; exact putSel_on (e := (4, 15, .int .i64 t1009)) 2 rfl rfl (hon 4 (by kernel_rfl)) rfl
   have e18 : a.tmps[18]? = some (.int .i64 t1014) := by rw [ha]; exact putSel_on (e := (7, 18, .int .i64 t1014)) 4 rfl rfl (hon 7 (by kernel_rfl)) rfl
   replace ha := am ha
   have HO1003 := am Q_HO1003
   have BK1005 := am Q_BK1005
   have BK997 := am (Q_BK997 (hoff 10 (by kernel_rfl)))
   have HB := am Q_HB
   have HO1008 := am (Q_HO1008 (hon 3 (by kernel_rfl)))
   have HO1013 := am (Q_HO1013 (hon 6 (by kernel_rfl)))
   have HI1000 := am (Q_HI1000_e7 (hon 7 (by kernel_rfl)) hb_)
   refine goes_ Tryd.func112 (by kernel_rfl) rfl #[.pointer (some ⟨g1000, 0, none⟩), .pointer (some ⟨gb1005, 0, none⟩), .int .i64 t1009, .int .i64 t1014] (by rfl) rfl rfl (by first | (simp only [List.map_toArray, List.map_cons, List.map_nil, Act.eval, Array.getD_eq_getD_getElem?, Option.getD_some, e12, e6, e15, e18]; done) | (simp only [List.map_toArray, List.map_cons, List.map_nil, Act.eval, Array.getD_eq_getD_getElem?, Option.getD_some, e12, e6, e15, e18]; rfl)) ?_
   with_reducible refine (spec_l3BentTerm.calls k g1000 t998 t1015 _ [(⟨t1001⟩ : S42)] t1009 t1014 t1016 t1019 w0 _ ?side1 ?side2 ?side3 A6.out).mono ?_
   (case side1 => exact IsS148.q HI1000.out)
   (case side2 => exact below_step HB0.out (hsk HB.out (IsS148.ge HI1000.out)))
   (case side3 => exact fun W_ hk_ => k42_box (hk_.blk (show (World.heap _)[gb1005]? = some (.cells #[.slice Ao11 t1001.length co11] 42 (0, 0)) from by refine bq ?_; exact BK1005.out) (by first | exact NB1005_1000.out | exact NB1000_1005.out.symm) (by simp)) ((by exact Kd.C_foot_own (IsS148.apart (show IsS148 w0 _ g1000 t998 t1015 from by exact IsS148.q HI1000.out) (rq HO1003.out) (by decide)) (fun _ h_ => h_.2) : ∀ W_, KeepBut _ W_ g1000 none → Kd.C k99 W_ Ao11 t1001.length t1001) W_ hk_) (by exact (Kd.R_reads' HO1003.out).2.1))
   rintro e w26 ⟨v1017, rfl, ho0, hi, hb, hk⟩
   refine ⟨_, rfl, ?_⟩
   have n0_ := am (KeepBut.blk hk (g' := gb997) (o := .cells #[.slice none 0 0] 42 (0, 0)) (bq BK997.out) NB997_1000.out (by simp))
   have n1_ := am (Kd.R_mono (Kd.R_keep (IsS148.apart (show IsS148 w0 _ g1000 t998 t1015 from by exact IsS148.q HI1000.out) (rq HO1003.out) (by decide)) hk (fun _ h => h.2)) (fun _ h => h.1))
   have n2_ := am (KeepBut.blk hk (g' := gb1005) (o := .cells #[.slice Ao11 t1001.length co11] 42 (0, 0)) (bq BK1005.out) NB1005_1000.out (by simp))
   have n3_ := am (Kd.R_mono (Kd.R_told (Kd.R_oldK (IsS148.apart (show IsS148 w0 _ g1000 t998 t1015 from by exact IsS148.q HI1000.out) (rq HO1008.out) (by decide)) hk) (Kd.R_base ho0)) (fun _ h_ => h_.1))
   have n4_ := am (Kd.R_mono (Kd.R_told (Kd.R_oldK (IsS148.apart (show IsS148 w0 _ g1000 t998 t1015 from by exact IsS148.q HI1000.out) (rq HO1013.out) (by decide)) hk) (Kd.R_base ho0)) (fun _ h_ => h_.1))
   have n5_ := am (Kd.R_lower (Kd.R_new' (Kd.R_new' ho0 (Kd.R_lt (rq HO1008.out))) (Kd.R_lt (rq HO1013.out))) (below_size (hsk HB.out (IsS148.ge HI1000.out))))
   have n6_ := am (below_keep HB0.out (hsk HB.out (IsS148.ge HI1000.out)) hk GS1000.out hb)
   have n7_ := am (hi)
   clear BK997
   clear HO1003
   clear BK1005
   clear HO1008
   clear HO1013
   clear HB
   clear HI1000
   have BK997 := n0_
   have HO1003 := n1_
   have BK1005 := n2_
   have HO1008 := n3_
   have HO1013 := n4_
   have HO1018 := n5_
   have HB := n6_
   have HI1000 := n7_
   clear n0_ n1_ n2_ n3_ n4_ n5_ n6_ n7_
   (try clear hb)
   (try clear hb2)
   (try clear hgw)
   (try clear hk)
   (try clear hi)
   (try clear ho0)
   refine hK.out _ _ ⟨v1007, v1012, v1017, m11_, (by rw [ha.out]; exact putSel_upk 5 hb_ rfl rfl rfl), (by (with_reducible repeat (first | apply Kd.R_alloc | apply Kd.R_drewN | apply Kd.R_drew)); first | exact HO1003.out | exact Kd.R_mono HO1003.out (fun _ _ => trivial) | exact Kd.R_mono HO1003.out (fun _ hk => hk.1)), (bq BK1005.out), fun _ => (bq BK997.out), fun h0_ => absurd ((hon 4 (by kernel_rfl)).symm.trans h0_) (by decide), (hsk HB.out (IsS148.ge HI1000.out)), fun _ => (by (with_reducible repeat (first | apply Kd.R_alloc | apply Kd.R_drewN | apply Kd.R_drew)); first | exact HO1008.out | exact Kd.R_mono HO1008.out (fun _ _ => trivial) | exact Kd.R_mono HO1008.out (fun _ hk => hk.1)), fun _ h1_ => absurd ((hon 7 (by kernel_rfl)).symm.trans h1_) (by decide), fun _ => (by (with_reducible repeat (first | apply Kd.R_alloc | apply Kd.R_drewN | apply Kd.R_drew)); first | exact HO1013.out | exact Kd.R_mono HO1013.out (fun _ _ => trivial) | exact Kd.R_mono HO1013.out (fun _ hk => hk.1)), fun _ h1_ => absurd ((up_self b 8).symm.trans h1_) (by decide), fun _ => (by (with_reducible repeat (first | apply Kd.R_alloc | apply Kd.R_drewN | apply Kd.R_drew)); exact Kd.R_mono HO1018.out (fun _ hk => by first | exact ⟨hk.1.2, hk.2⟩ | exact ⟨hk.2, hk.1.2⟩ | trivial)), fun _ => (IsS148.q HI1000.out), fun h0_ => absurd ((hoff 10 (by kernel_rfl)).symm.trans h0_) (by decide), fun h0_ => absurd ((hoff 11 (by kernel_rfl)).symm.trans h0_) (by decide)⟩
  refine steps_cons ?_ ?_
  ·rintro b a w' ⟨v1007, v1012, v1017, m11_, ha, Q_HO1003, Q_BK1005, Q_BK997, Q_HI1000, Q_HB, Q_HO1008, Q_HI1000_e4, Q_HO1013, Q_HI1000_e7, Q_HO1018, Q_HI1000_e8, Q_BK997_e10, Q_X11_⟩ hb_ hon hoff
   refine ⟨_, rfl, fun K hK => ?_⟩
   have e2 : a.tmps[2]? = some (.pointer (some ⟨gb997, 0, none⟩)) := by rw [ha]; exact (putSel_off rfl).trans rfl
   have e11 : a.tmps[11]? = some (.agg #[.slice Ao11 t1001.length co11]) := by rw [ha]; exact putSel_on (e := (0, 11, .agg #[.slice Ao11 t1001.length co11])) 0 rfl rfl (hon 0 (by kernel_rfl)) rfl
   replace ha := am ha
   have HO1003 := am Q_HO1003
   have BK1005 := am Q_BK1005
   have BK997 := am (Q_BK997 hb_)
   have HB := am Q_HB
   have HO1008 := am (Q_HO1008 (hon 3 (by kernel_rfl)))
   have HO1013 := am (Q_HO1013 (hon 6 (by kernel_rfl)))
   have HO1018 := am (Q_HO1018 (hon 8 (by kernel_rfl)))
   have HI1000 := am (Q_HI1000_e8 (hon 8 (by kernel_rfl)))
   have hs27 : w'.cell? ⟨gb997, 0, none⟩ = some (.slice none 0 0) := (blk_cell BK997.out 0).trans rfl
   have hfs27 := blk_frozen BK997.out 0
   have hns27_1 := NB1005_997.out
   have hms27_1 := NB997_1005.out
   refine skip_ (w1 := ?_) (by rfl) rfl ?_ ?_
   rotate_left
   ·go_simp
    rfl
   refine hK.out _ _ ⟨v1007, v1012, v1017, m11_, (by rw [ha.out]; exact putSel_none (v := undef) rfl), (by (with_reducible repeat (first | apply Kd.R_alloc | apply Kd.R_drewN | apply Kd.R_drew)); exact Kd.R_mono (Kd.R_far (p := ⟨gb997, 0, none⟩) (Kd.R_types HO1003.out BK997.out (by decide)) (fun _ hk => hk.2) (.slice Ao11 t1001.length co11)) (fun _ hk => trivial)), (by refine bq ?_; refine blk_far ?_ NB1005_997.out _; refine bq ?_; exact BK1005.out), fun h0_ => absurd ((up_self b 10).symm.trans h0_) (by decide), fun h0_ => absurd ((hon 4 (by kernel_rfl)).symm.trans h0_) (by decide), (hsk HB.out (IsS148.ge HI1000.out)), fun _ => (by (with_reducible repeat (first | apply Kd.R_alloc | apply Kd.R_drewN | apply Kd.R_drew)); exact Kd.R_mono (Kd.R_far (p := ⟨gb997, 0, none⟩) (Kd.R_types HO1008.out BK997.out (by decide)) (fun _ hk => hk.2) (.slice Ao11 t1001.length co11)) (fun _ hk => by first | exact ⟨hk.1.1, hk.1.2⟩ | exact ⟨hk.1.2, hk.1.1⟩ | trivial)), fun _ h1_ => absurd ((hon 7 (by kernel_rfl)).symm.trans h1_) (by decide), fun _ => (by (with_reducible repeat (first | apply Kd.R_alloc | apply Kd.R_drewN | apply Kd.R_drew)); exact Kd.R_mono (Kd.R_far (p := ⟨gb997, 0, none⟩) (Kd.R_types HO1013.out BK997.out (by decide)) (fun _ hk => hk.2) (.slice Ao11 t1001.length co11)) (fun _ hk => by first | exact ⟨hk.1.1, hk.1.2⟩ | exact ⟨hk.1.2, hk.1.1⟩ | trivial)), fun _ h1_ => absurd ((hon 8 (by kernel_rfl)).symm.trans h1_) (by decide), fun _ => (by (with_reducible repeat (first | apply Kd.R_alloc | apply Kd.R_drewN | apply Kd.R_drew)); exact Kd.R_mono (Kd.R_far (p := ⟨gb997, 0, none⟩) (Kd.R_types HO1018.out BK997.out (by decide)) (fun _ hk => hk.2) (.slice Ao11 t1001.length co11)) (fun _ hk => by first | exact ⟨hk.1.1, hk.1.2⟩ | exact ⟨hk.1.2, hk.1.1⟩ | trivial)), fun _ => (IsS148.q HI1000.out), fun _ => (by refine bq ?_; refine blk_put (cs := #[.slice none 0 0]) ?_ 0 _ rfl; refine bq ?_; exact BK997.out), fun h0_ => absurd ((hoff 11 (by kernel_rfl)).symm.trans h0_) (by decide)⟩
  refine steps_cons ?_ ?_
  ·rintro b a w' ⟨v1007, v1012, v1017, m11_, ha, Q_HO1003, Q_BK1005, Q_BK997, Q_HI1000, Q_HB, Q_HO1008, Q_HI1000_e4, Q_HO1013, Q_HI1000_e7, Q_HO1018, Q_HI1000_e8, Q_BK997_e10, Q_X11_⟩ hb_ hon hoff
   refine ⟨_, rfl, fun K hK => ?_⟩
   have e19 : a.tmps[19]? = some (v1017) := by rw [ha]; exact putSel_on (e := (8, 19, v1017)) 5 rfl rfl (hon 8 (by kernel_rfl)) rfl
   replace ha := am ha
   have HO1003 := am Q_HO1003
   have BK1005 := am Q_BK1005
   have HB := am Q_HB
   have HO1008 := am (Q_HO1008 (hon 3 (by kernel_rfl)))
   have HO1013 := am (Q_HO1013 (hon 6 (by kernel_rfl)))
   have HO1018 := am (Q_HO1018 (hon 8 (by kernel_rfl)))
   have HI1000 := am (Q_HI1000_e8 (hon 8 (by kernel_rfl)))
   have BK997 := am (Q_BK997_e10 (hon 10 (by kernel_rfl)))
   refine value_ (w1 := w') (v := v1017) (by rfl) rfl ?_ ?_
   ·go_simp
    (try simp only [i64_w])
    try rfl
   refine hK.out _ _ ⟨v1007, v1012, v1017, (v1017), (by rw [ha.out]; exact putSel_upk 6 hb_ rfl rfl rfl), Q_HO1003, Q_BK1005, fun h0_ => absurd ((hon 10 (by kernel_rfl)).symm.trans h0_) (by decide), fun h0_ => absurd ((hon 4 (by kernel_rfl)).symm.trans h0_) (by decide), Q_HB, Q_HO1008, fun _ h1_ => absurd ((hon 7 (by kernel_rfl)).symm.trans h1_) (by decide), Q_HO1013, fun _ h1_ => absurd ((hon 8 (by kernel_rfl)).symm.trans h1_) (by decide), Q_HO1018, Q_HI1000_e8, Q_BK997_e10, fun _ => rfl⟩
  refine steps_cons ?_ ?_
  ·rintro b a w' ⟨v1007, v1012, v1017, m11_, ha, Q_HO1003, Q_BK1005, Q_BK997, Q_HI1000, Q_HB, Q_HO1008, Q_HI1000_e4, Q_HO1013, Q_HI1000_e7, Q_HO1018, Q_HI1000_e8, Q_BK997_e10, Q_X11_⟩ hb_ hon hoff
   refine ⟨_, rfl, fun K hK => ?_⟩
   have e20 : a.tmps[20]? = some (.pointer (some ⟨g1000, 0, none⟩)) := by rw [ha]; exact (putSel_off rfl).trans rfl
   replace ha := am ha
   have HO1003 := am Q_HO1003
   have BK1005 := am Q_BK1005
   have HB := am Q_HB
   have HO1008 := am (Q_HO1008 (hon 3 (by kernel_rfl)))
   have HO1013 := am (Q_HO1013 (hon 6 (by kernel_rfl)))
   have HO1018 := am (Q_HO1018 (hon 8 (by kernel_rfl)))
   have HI1000 := am (Q_HI1000_e8 (hon 8 (by kernel_rfl)))
   have BK997 := am (Q_BK997_e10 (hon 10 (by kernel_rfl)))
   refine value_ (w1 := w') (v := .pointer (some ⟨g1000, 0, none⟩)) (by rfl) rfl ?_ ?_
   ·go_simp
    (try simp only [i64_w])
    try rfl
   refine hK.out _ _ ⟨v1007, v1012, v1017, m11_, (by rw [ha.out]; exact putSel_upk 7 hb_ rfl rfl rfl), Q_HO1003, Q_BK1005, fun h0_ => absurd ((hon 10 (by kernel_rfl)).symm.trans h0_) (by decide), fun h0_ => absurd ((hon 4 (by kernel_rfl)).symm.trans h0_) (by decide), Q_HB, Q_HO1008, fun _ h1_ => absurd ((hon 7 (by kernel_rfl)).symm.trans h1_) (by decide), Q_HO1013, fun _ h1_ => absurd ((hon 8 (by kernel_rfl)).symm.trans h1_) (by decide), Q_HO1018, Q_HI1000_e8, Q_BK997_e10, Q_X11_⟩
  exact steps_nil
 rintro b a w27 hall ⟨v1007, v1012, v1017, m11_, ha, Q_HO1003, Q_BK1005, Q_BK997, Q_HI1000, Q_HB, Q_HO1008, Q_HI1000_e4, Q_HO1013, Q_HI1000_e7, Q_HO1018, Q_HI1000_e8, Q_BK997_e10, Q_X11_⟩
 clear BK1005 BK997 HB HI1000 HO1003
 have hb0_ := hall 0 (by kernel_rfl)
 have hb3_ := hall 3 (by kernel_rfl)
 have hb4_ := hall 4 (by kernel_rfl)
 have hb6_ := hall 6 (by kernel_rfl)
 have hb7_ := hall 7 (by kernel_rfl)
 have hb8_ := hall 8 (by kernel_rfl)
 have hb10_ := hall 10 (by kernel_rfl)
 have hb11_ := hall 11 (by kernel_rfl)
 have hb12_ := hall 12 (by kernel_rfl)
 subst ha
 obtain rfl := Q_X11_ hb11_
 simp only [putSel, hb0_, hb3_, hb4_, hb6_, hb7_, hb8_, hb10_, hb11_, hb12_, if_true, Act.put, lsp]
 have HO1003 := am Q_HO1003
 clear Q_HO1003
 have BK1005 := am Q_BK1005
 clear Q_BK1005
 clear Q_BK997
 clear Q_HI1000
 have HB := am Q_HB
 clear Q_HB
 have HO1008 := am (Q_HO1008 hb3_)
 clear Q_HO1008
 clear Q_HI1000_e4
 have HO1013 := am (Q_HO1013 hb6_)
 clear Q_HO1013
 clear Q_HI1000_e7
 have HO1018 := am (Q_HO1018 hb8_)
 clear Q_HO1018
 have HI1000 := am (Q_HI1000_e8 hb8_)
 clear Q_HI1000_e8
 have BK997 := am (Q_BK997_e10 hb10_)
 clear Q_BK997_e10
 clear hall hb0_ hb3_ hb4_ hb6_ hb7_ hb8_ hb10_ hb11_ hb12_
 try go_wp2
 refine bodyPost_ret (results_ctt rfl _ _ gb997 42 #[.slice Ao11 t1001.length co11] (0, 0) _ rfl (bq BK997.out) Tryd.underlying42 rfl (by kernel_rfl)) rfl ?_
 exact ⟨_, _, _, by first | rfl | (simp <;> rfl), by (with_reducible repeat (first | apply Kd.R_alloc | apply Kd.R_drewN | apply Kd.R_drew)); exact HO1003.out, by (with_reducible repeat (first | apply Kd.R_alloc | apply Kd.R_drewN | apply Kd.R_drew)); exact Kd.R_mono HO1018.out (fun _ hk => trivial), by exact IsS148.q HI1000.out, below_step HB0.out (hsk HB.out (IsS148.ge HI1000.out)), by exact hsk HB.out (IsS148.ge HI1000.out), GS1000.out⟩
def spec_l3At.f (s0_0 : List Int) (s0_1 : Int) (l1 : List Int) : Option (Int × Int) := (spec_l1Next.f s0_0 s0_1 (l1.length : Int)).bind fun bt1020 => ((spec_l1Next.f s0_0 bt1020.2 (l1.length : Int)).bind fun bt1022 => ((spec_l1Next.f s0_0 bt1022.2 (l1.length : Int)).bind fun bt1024 => ((spec_l1Pick.f s0_0 bt1024.2 (([0, wrap64 ((l1.length : Int) - 1), bt1020.1, bt1022.1, bt1024.1, (l1.length : Int), (-1)] : List Int))).bind fun bt1029 => (some (bt1029.1, bt1029.2)))))
set_option maxHeartbeats 8000000 in
set_option maxRecDepth 100000 in
theorem spec_l3At.calls (g : Nat) (s0_0 : List Int) (s0_1 : Int) (A1 : Option Addr) (c1 : Nat) (l1 : List Int) (r1 : Int) (r2 : Int) (w0 w : World) (hI : IsS148 w0 w g s0_0 s0_1) (hB : Below w0.heap.size w0 w) (hr1 : Kd.C (Kd.int .i64) w A1 l1.length l1) (hc1 : l1.length ≤ c1) (hf1 : ∀ ad, A1 = some ad → 0 < l1.length → ad.block ≠ g) (h : spec_l3At.f s0_0 s0_1 l1 = some (r1, r2)) :
  Calls Tryd.prog 111 #[.pointer (some ⟨g, 0, none⟩), .slice A1 l1.length c1] w fun e w' => e = .returned (.int .i64 r1) ∧ IsS148 w0 w' g s0_0 r2 ∧ Below w0.heap.size w0 w' ∧ KeepBut w w' g none := by
 have HR1 := am hr1
 have HC1 := am hc1
 clear hr1 hc1
 have HI0 := am hI
 have HK := am (KeepBut.refl w g none)
 have HL := am hB.size
 clear hI
 have HW0 := am hB.size
 have HB := am hB
 clear hB
 have H : ((spec_l1Next.f s0_0 s0_1 (l1.length : Int)).bind fun bt1020 => ((spec_l1Next.f s0_0 bt1020.2 (l1.length : Int)).bind fun bt1022 => ((spec_l1Next.f s0_0 bt1022.2 (l1.length : Int)).bind fun bt1024 => ((spec_l1Pick.f s0_0 bt1024.2 (([0, wrap64 ((l1.length : Int) - 1), bt1020.1, bt1022.1, bt1024.1, (l1.length : Int), (-1)] : List Int))).bind fun bt1029 => (some (bt1029.1, bt1029.2)))))) = some (r1, r2) := h
 clear h
 replace H := Option.bind_eq_some_iff.mp H
 obtain ⟨⟨t1020, t1021⟩, A30, H⟩ := H
 replace H : ((spec_l1Next.f s0_0 t1021 (l1.length : Int)).bind fun bt1022 => ((spec_l1Next.f s0_0 bt1022.2 (l1.length : Int)).bind fun bt1024 => ((spec_l1Pick.f s0_0 bt1024.2 (([0, wrap64 ((l1.length : Int) - 1), t1020, bt1022.1, bt1024.1, (l1.length : Int), (-1)] : List Int))).bind fun bt1029 => (some (bt1029.1, bt1029.2))))) = some (r1, r2) := H
 have A3 := am A30
 clear A30
 replace H := Option.bind_eq_some_iff.mp H
 obtain ⟨⟨t1022, t1023⟩, A40, H⟩ := H
 replace H : ((spec_l1Next.f s0_0 t1023 (l1.length : Int)).bind fun bt1024 => ((spec_l1Pick.f s0_0 bt1024.2 (([0, wrap64 ((l1.length : Int) - 1), t1020, t1022, bt1024.1, (l1.length : Int), (-1)] : List Int))).bind fun bt1029 => (some (bt1029.1, bt1029.2)))) = some (r1, r2) := H
 have A4 := am A40
 clear A40
 replace H := Option.bind_eq_some_iff.mp H
 obtain ⟨⟨t1024, t1025⟩, A50, H⟩ := H
 replace H : ((spec_l1Pick.f s0_0 t1025 (([0, wrap64 ((l1.length : Int) - 1), t1020, t1022, t1024, (l1.length : Int), (-1)] : List Int))).bind fun bt1029 => (some (bt1029.1, bt1029.2))) = some (r1, r2) := H
 have A5 := am A50
 clear A50
 obtain ⟨y1026, hy1026⟩ : ∃ y_ : List Int, y_ = (([0, wrap64 ((l1.length : Int) - 1), t1020, t1022, t1024, (l1.length : Int), (-1)] : List Int)) := ⟨_, rfl⟩
 replace H : ((spec_l1Pick.f s0_0 t1025 y1026).bind fun bt1029 => (some (bt1029.1, bt1029.2))) = some (r1, r2) := by first | (rw [hy1026]; with_reducible exact H) | (have H2_ := (Option.bind_some _ _).symm.trans H; rw [hy1026]; with_reducible exact H2_) | (have H2_ := (Option.bind_some _ _).symm.trans H; with_reducible exact H2_) | with_reducible exact H | (rw [hy1026]; exact H) | exact H
 have Ny1026 := am hy1026
 clear hy1026
 replace H := Option.bind_eq_some_iff.mp H
 obtain ⟨⟨t1029, t1030⟩, A60, H⟩ := H
 replace H : (some (t1029, t1030)) = some (r1, r2) := H
 have A6 := am A60
 clear A60
 simp only [Option.some.injEq, Prod.mk.injEq] at H
 obtain ⟨rfl, rfl⟩ := H
 go_enter Tryd.func111, Tryd.ntmps111
 go_wp2_with (first | ((with_reducible refine gate_callee (f := 85) rfl ?_); refine goesL_ (some 12) rfl rfl Tryd.func85 (by kernel_rfl) rfl #[.pointer (some ⟨g, 0, none⟩), .int .i64 (l1.length : Int)] rfl el ?_; (with_reducible refine (spec_l1Next.calls g s0_0 s0_1 (l1.length : Int) t1020 t1021 w0 _ ?side1 ?side2 A3.out).mono ?_); (case side1 => exact IsS148.q HI0.out); (case side2 => exact hsk HB.out (IsS148.ge HI0.out)); rintro e w7 ⟨rfl, hi, hb, hk⟩; refine ⟨_, rfl, ?_⟩; have n0_ := am (KeepBut.trans (kq HK.out) hk (.inl rfl)); have n1_ := am (hb); have n2_ := am (hi); clear HK HB HI0; revert n0_ n1_ n2_; intro HK HB HI0; (try clear hb); (try clear hb2); (try clear hgw); (try clear hk); (try clear hi)) | ((with_reducible refine gate_callee (f := 85) rfl ?_); refine goesL_ (some 16) rfl rfl Tryd.func85 (by kernel_rfl) rfl #[.pointer (some ⟨g, 0, none⟩), .int .i64 (l1.length : Int)] rfl el ?_; (with_reducible refine (spec_l1Next.calls g s0_0 t1021 (l1.length : Int) t1022 t1023 w0 _ ?side1 ?side2 A4.out).mono ?_); (case side1 => exact IsS148.q HI0.out); (case side2 => exact hsk HB.out (IsS148.ge HI0.out)); rintro e w8 ⟨rfl, hi, hb, hk⟩; refine ⟨_, rfl, ?_⟩; have n0_ := am (KeepBut.trans (kq HK.out) hk (.inl rfl)); have n1_ := am (hb); have n2_ := am (hi); clear HK HB HI0; revert n0_ n1_ n2_; intro HK HB HI0; (try clear hb); (try clear hb2); (try clear hgw); (try clear hk); (try clear hi)) | ((with_reducible refine gate_callee (f := 85) rfl ?_); refine goesL_ (some 20) rfl rfl Tryd.func85 (by kernel_rfl) rfl #[.pointer (some ⟨g, 0, none⟩), .int .i64 (l1.length : Int)] rfl el ?_; (with_reducible refine (spec_l1Next.calls g s0_0 t1023 (l1.length : Int) t1024 t1025 w0 _ ?side1 ?side2 A5.out).mono ?_); (case side1 => exact IsS148.q HI0.out); (case side2 => exact hsk HB.out (IsS148.ge HI0.out)); rintro e w9 ⟨rfl, hi, hb, hk⟩; refine ⟨_, rfl, ?_⟩; have n0_ := am (KeepBut.trans (kq HK.out) hk (.inl rfl)); have n1_ := am (hb); have n2_ := am (hi); clear HK HB HI0; revert n0_ n1_ n2_; intro HK HB HI0; (try clear hb); (try clear hb2); (try clear hgw); (try clear hk); (try clear hi)) | ((with_reducible refine gate_dst (N := 23) rfl ?_); refine Kd.R_lit (Kd.int .i64) _ 2 ?hg (N := 23) ?hd (xs := ([0, wrap64 ((l1.length : Int) - 1), t1020, t1022, t1024, (l1.length : Int), (-1)] : List Int)) (inner := [.int .i64 0, .int .i64 (wrap64 ((l1.length : Int) - 1)), .int .i64 t1020, .int .i64 t1022, .int .i64 t1024, .int .i64 (l1.length : Int), .int .i64 (-1)]) (ok := fun _ => True) (okp := fun _ => True) ?hr ?hp (fun _ hk => hk) trivial (Below.refl _ _) (Nat.le_refl _) (by simp) ?_; (case hd => rfl); (case hg => rfl); (case hr => first | (go_simp; done) | (go_simp; rfl)); (case hp => exact (Reps.one (show Kd.M (Kd.int .i64) _ _ _ 0 [.int .i64 0] from rfl) (Reps.one (show Kd.M (Kd.int .i64) _ _ _ (wrap64 ((l1.length : Int) - 1)) [.int .i64 (wrap64 ((l1.length : Int) - 1))] from rfl) (Reps.one (show Kd.M (Kd.int .i64) _ _ _ t1020 [.int .i64 t1020] from rfl) (Reps.one (show Kd.M (Kd.int .i64) _ _ _ t1022 [.int .i64 t1022] from rfl) (Reps.one (show Kd.M (Kd.int .i64) _ _ _ t1024 [.int .i64 t1024] from rfl) (Reps.one (show Kd.M (Kd.int .i64) _ _ _ (l1.length : Int) [.int .i64 (l1.length : Int)] from rfl) (Reps.one (show Kd.M (Kd.int .i64) _ _ _ (-1) [.int .i64 (-1)] from rfl) (Reps.none _ _))))))))); intro v1027 w10 ho11 hb hg_ hnew_; clear hg_ hnew_; (first | rw [← Ny1026.out] at ho11 | (simp only [Int.reduceToNat] at ho11; rw [← Ny1026.out] at ho11)); have n0_ := am (Kd.R_lower ho11 (keep_size (w := w) (g := g) (row := none) (kq HK.out))); have n1_ := am (IsS148.below (IsS148.q HI0.out) hb); have n2_ := am (KeepBut.trans (kq HK.out) (KeepBut.of_below hb g none) (.inl rfl)); have n3_ := am (below_step (hsk HB.out (IsS148.ge HI0.out)) hb); clear HI0 HK HB; revert n0_ n1_ n2_ n3_; intro HO1028 HI0 HK HB; clear hb ho11; obtain ⟨Ao12, co12, eo12⟩ := Kd.R_slice HO1028.out; subst eo12) | ((with_reducible refine gate_callee (f := 84) rfl ?_); refine goesL_ (some 24) rfl rfl Tryd.func84 (by kernel_rfl) rfl #[.pointer (some ⟨g, 0, none⟩), .slice Ao12 y1026.length co12] rfl el ?_; (with_reducible refine (spec_l1Pick.calls g s0_0 t1025 _ _ y1026 t1029 t1030 w0 _ ?side1 ?side2 ?side3 ?side4 ?side5 A6.out).mono ?_); (case side1 => exact IsS148.q HI0.out); (case side2 => exact hsk HB.out (IsS148.ge HI0.out)); (case side3 => repeat (first | exact (Kd.R_reads' HO1028.out).2.2 | (with_reducible refine Kd.C_alloc ?_ _) | (with_reducible refine Kd.C_drewN ?_ _) | (with_reducible refine Kd.C_drew ?_))); (case side4 => exact (Kd.R_reads' HO1028.out).2.1); (case side5 => exact far_slice (IsS148.own_ne HI0.out HO1028.out (by decide))); rintro e w13 ⟨rfl, hi, hb, hk⟩; refine ⟨_, rfl, ?_⟩; have n0_ := am (Kd.R_mono (Kd.R_keep (IsS148.apart (show IsS148 w0 _ g s0_0 t1025 from by exact IsS148.q HI0.out) (rq HO1028.out) (by decide)) hk (fun _ h => h.2)) (fun _ h => h.1)); have n1_ := am (KeepBut.trans (kq HK.out) hk (.inl rfl)); have n2_ := am (hb); have n3_ := am (hi); clear HO1028 HK HB HI0; revert n0_ n1_ n2_ n3_; intro HO1028 HK HB HI0; (try clear hb); (try clear hb2); (try clear hgw); (try clear hk); (try clear hi)))
 go_ret
 exact ⟨by first | rfl | (simp [errW_none, errW_some] <;> rfl) | (simp [*, errW_none, errW_some] <;> rfl), by exact IsS148.q HI0.out, by exact hsk HB.out (IsS148.ge HI0.out), by exact kq HK.out⟩
end Go.Proofs.YtedkbpbodkmhlaaDoor.P
