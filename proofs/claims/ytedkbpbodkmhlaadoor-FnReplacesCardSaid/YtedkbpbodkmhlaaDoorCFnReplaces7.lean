/- A part of the proof of the law FnReplaces. -/
import Derived.Laws.StructEq
import Derived.Test.YtedkbpbodkmhlaaDoorCFnReplaces0
import Derived.Test.YtedkbpbodkmhlaaDoorCFnReplaces1
import Derived.Test.YtedkbpbodkmhlaaDoorCFnReplaces2
import Derived.Test.YtedkbpbodkmhlaaDoorCFnReplaces16
namespace Go.Proofs.YtedkbpbodkmhlaaDoor.P
open Go.RowKit Go.Proofs.YtedkbpbodkmhlaaDoorW.PrintWords Go.Proofs.YtedkbpbodkmhlaaDoorW.PrintLast Go.Proofs.YtedkbpbodkmhlaaDoorW.PrintMore
attribute [local go_sem] max2_int min2_int max_two min_two max_three min_three max_four min_four   -- for this text's walks alone
set_option linter.unusedVariables false
set_option linter.unusedSimpArgs false
mutual
def spec_l2Sig.j0 : Nat → Int → Bool → List Int → Int → ByteArray → Int → ByteArray → Int → ByteArray → Int → ByteArray → Int → ByteArray → Int → ByteArray → Int → Option ((List (S99)) × Int)
 | 0, _, _, _, _, _, _, _, _, _, _, _, _, _, _, _, _ => none
 | k + 1, x16, x17, x1000, x1001, x357000, x357001, x358000, x358001, x359000, x359001, x360000, x360001, x361000, x361001, x362000, x362001 => if x17 = true then (some ((([(⟨x357000, x357001⟩ : S99), (⟨x358000, x358001⟩ : S99), (⟨x359000, x359001⟩ : S99), (⟨x361000, x361001⟩ : S99)] : List (S99))), x1001)) else (if x16 = 3 then (spec_l2Sig.j1 k x16 (x16 == 3) x1000 x1001 x357000 x357001 x358000 x358001 x359000 x359001 x360000 x360001 x361000 x361001 x362000 x362001) else (spec_l2Sig.j1 k x16 (x16 == 4) x1000 x1001 x357000 x357001 x358000 x358001 x359000 x359001 x360000 x360001 x361000 x361001 x362000 x362001))
def spec_l2Sig.j1 : Nat → Int → Bool → List Int → Int → ByteArray → Int → ByteArray → Int → ByteArray → Int → ByteArray → Int → ByteArray → Int → ByteArray → Int → Option ((List (S99)) × Int)
 | 0, _, _, _, _, _, _, _, _, _, _, _, _, _, _, _, _ => none
 | k + 1, x16, x27, x1000, x1001, x357000, x357001, x358000, x358001, x359000, x359001, x360000, x360001, x361000, x361001, x362000, x362001 => if x27 = true then (some ((([(⟨x361000, x361001⟩ : S99), (⟨x360000, x360001⟩ : S99), (⟨(⟨#[97, 100, 100]⟩ : ByteArray), 2⟩ : S99), (⟨x362000, x362001⟩ : S99)] : List (S99))), x1001)) else (if x16 = 5 then (some ((([(⟨x361000, x361001⟩ : S99), (⟨(⟨#[102]⟩ : ByteArray), 1⟩ : S99), (⟨(⟨#[103]⟩ : ByteArray), 1⟩ : S99)] : List (S99))), x1001)) else (if x16 = 6 then (some ((([(⟨x361000, x361001⟩ : S99), (⟨x362000, x362001⟩ : S99), (⟨x357000, x357001⟩ : S99), (⟨x359000, x359001⟩ : S99), (⟨x358000, x358001⟩ : S99), (⟨x360000, x360001⟩ : S99)] : List (S99))), x1001)) else (some ((([(⟨x361000, x361001⟩ : S99)] : List (S99))), x1001))))
end
def spec_l2Sig.f (k : Nat) (s0_0 : List Int) (s0_1 : Int) : Option ((List (S99)) × Int) := (spec_l1Next.f s0_0 s0_1 8).bind fun bt362 => (if bt362.1 = 0 then (spec_l2Sig.j0 k bt362.1 (bt362.1 == 0) s0_0 bt362.2 (⟨#[101]⟩ : ByteArray) 0 (⟨#[105]⟩ : ByteArray) 1 (⟨#[109]⟩ : ByteArray) 2 (⟨#[115, 117, 99]⟩ : ByteArray) 1 (⟨#[97]⟩ : ByteArray) 0 (⟨#[98]⟩ : ByteArray) 0) else (if bt362.1 = 1 then (spec_l2Sig.j0 k bt362.1 (bt362.1 == 1) s0_0 bt362.2 (⟨#[101]⟩ : ByteArray) 0 (⟨#[105]⟩ : ByteArray) 1 (⟨#[109]⟩ : ByteArray) 2 (⟨#[115, 117, 99]⟩ : ByteArray) 1 (⟨#[97]⟩ : ByteArray) 0 (⟨#[98]⟩ : ByteArray) 0) else (spec_l2Sig.j0 k bt362.1 (bt362.1 == 2) s0_0 bt362.2 (⟨#[101]⟩ : ByteArray) 0 (⟨#[105]⟩ : ByteArray) 1 (⟨#[109]⟩ : ByteArray) 2 (⟨#[115, 117, 99]⟩ : ByteArray) 1 (⟨#[97]⟩ : ByteArray) 0 (⟨#[98]⟩ : ByteArray) 0)))
set_option maxHeartbeats 8000000 in
set_option maxRecDepth 100000 in
theorem spec_l2Sig.calls (k : Nat) (g : Nat) (s0_0 : List Int) (s0_1 : Int) (r1 : List (S99)) (r2 : Int) (w0 w : World) (hI : IsS148 w0 w g s0_0 s0_1) (hB : Below w0.heap.size w0 w) (h : spec_l2Sig.f k s0_0 s0_1 = some (r1, r2)) :
  Calls Tryd.prog 163 #[.pointer (some ⟨g, 0, none⟩)] w fun e w' => ∃ v0_ : Value, e = .returned (.agg #[v0_]) ∧ Kd.R k99 99 w' w.heap.size (fun _ => True) v0_ r1 ∧ IsS148 w0 w' g s0_0 r2 ∧ Below w0.heap.size w0 w' ∧ KeepBut w w' g none := by
 have hu42 := Tryd.underlying42
 have hu99 := Tryd.underlying99
 have HI0 := am hI
 have HK := am (KeepBut.refl w g none)
 have HL := am hB.size
 clear hI
 have HW0 := am hB.size
 have HB := am hB
 clear hB
 have H : ((spec_l1Next.f s0_0 s0_1 8).bind fun bt362 => (if bt362.1 = 0 then (spec_l2Sig.j0 k bt362.1 (bt362.1 == 0) s0_0 bt362.2 (⟨#[101]⟩ : ByteArray) 0 (⟨#[105]⟩ : ByteArray) 1 (⟨#[109]⟩ : ByteArray) 2 (⟨#[115, 117, 99]⟩ : ByteArray) 1 (⟨#[97]⟩ : ByteArray) 0 (⟨#[98]⟩ : ByteArray) 0) else (if bt362.1 = 1 then (spec_l2Sig.j0 k bt362.1 (bt362.1 == 1) s0_0 bt362.2 (⟨#[101]⟩ : ByteArray) 0 (⟨#[105]⟩ : ByteArray) 1 (⟨#[109]⟩ : ByteArray) 2 (⟨#[115, 117, 99]⟩ : ByteArray) 1 (⟨#[97]⟩ : ByteArray) 0 (⟨#[98]⟩ : ByteArray) 0) else (spec_l2Sig.j0 k bt362.1 (bt362.1 == 2) s0_0 bt362.2 (⟨#[101]⟩ : ByteArray) 0 (⟨#[105]⟩ : ByteArray) 1 (⟨#[109]⟩ : ByteArray) 2 (⟨#[115, 117, 99]⟩ : ByteArray) 1 (⟨#[97]⟩ : ByteArray) 0 (⟨#[98]⟩ : ByteArray) 0)))) = some (r1, r2) := h
 clear h
 replace H := Option.bind_eq_some_iff.mp H
 obtain ⟨⟨t362, t363⟩, A20, H⟩ := H
 replace H : (if t362 = 0 then (spec_l2Sig.j0 k t362 (t362 == 0) s0_0 t363 (⟨#[101]⟩ : ByteArray) 0 (⟨#[105]⟩ : ByteArray) 1 (⟨#[109]⟩ : ByteArray) 2 (⟨#[115, 117, 99]⟩ : ByteArray) 1 (⟨#[97]⟩ : ByteArray) 0 (⟨#[98]⟩ : ByteArray) 0) else (if t362 = 1 then (spec_l2Sig.j0 k t362 (t362 == 1) s0_0 t363 (⟨#[101]⟩ : ByteArray) 0 (⟨#[105]⟩ : ByteArray) 1 (⟨#[109]⟩ : ByteArray) 2 (⟨#[115, 117, 99]⟩ : ByteArray) 1 (⟨#[97]⟩ : ByteArray) 0 (⟨#[98]⟩ : ByteArray) 0) else (spec_l2Sig.j0 k t362 (t362 == 2) s0_0 t363 (⟨#[101]⟩ : ByteArray) 0 (⟨#[105]⟩ : ByteArray) 1 (⟨#[109]⟩ : ByteArray) 2 (⟨#[115, 117, 99]⟩ : ByteArray) 1 (⟨#[97]⟩ : ByteArray) 0 (⟨#[98]⟩ : ByteArray) 0))) = some (r1, r2) := H
 have A2 := am A20
 clear A20
 have HC3 := am H
 clear H
 go_enter Tryd.func163, Tryd.ntmps163
 go_upto_if 17 with (first | ((with_reducible refine gate_dst (N := 2) rfl ?_); refine box_event ?hg (N := 2) ?hd (cs := #[.slice none 0 0]) (t := 42) ?hr ?_; (case hd => rfl); (case hg => rfl); (case hr => first | (go_simp; done) | (go_simp; rfl)); intro gb355 hg w4 hbox hb; have n0_ := am (IsS148.below (IsS148.q HI0.out) hb); have n1_ := am (KeepBut.trans (kq HK.out) (KeepBut.of_below hb g none) (.inl rfl)); have n2_ := am (below_step (hsk HB.out (IsS148.ge HI0.out)) hb); have n3_ := am (hbox); have n4_ := am ((by rw [hg]; exact (keep_size (w := w) (g := g) (row := none) (kq HK.out)) : w.heap.size ≤ gb355)); have n5_ := am (Nat.le_trans HW0.out n4_.out); have n6_ := am ((by rw [hg]; exact Nat.ne_of_lt (IsS148.lt (show IsS148 w0 _ g s0_0 s0_1 from by exact IsS148.q HI0.out)) : g ≠ gb355)); have n7_ := am n6_.out.symm; clear HI0 HK HB; revert n0_ n1_ n2_ n3_ n4_ n5_ n6_ n7_; intro HI0 HK HB BK355 GW355 GE355 NB0_355 NB355_0; clear hb hbox hg) | ((with_reducible refine gate_dst (N := 3) rfl ?_); refine box_event ?hg (N := 3) ?hd (cs := #[.string (⟨#[]⟩ : ByteArray), .int .i64 0]) (t := 99) ?hr ?_; (case hd => rfl); (case hg => rfl); (case hr => first | (go_simp; done) | (go_simp; rfl)); intro gb356 hg w5 hbox hb; have n0_ := am (IsS148.below (IsS148.q HI0.out) hb); have n1_ := am (blk_below (bq BK355.out) hb); have n2_ := am (KeepBut.trans (ks HK.out) (KeepBut.of_below hb g none) (.inl rfl)); have n3_ := am (below_step (hsk HB.out (IsS148.ge HI0.out)) hb); have n4_ := am (hbox); have n5_ := am ((by rw [hg]; exact (keep_size (w := w) (g := g) (row := none) (ks HK.out)) : w.heap.size ≤ gb356)); have n6_ := am (Nat.le_trans HW0.out n5_.out); have n7_ := am ((by rw [hg]; exact Nat.ne_of_lt (blk_lt (bq BK355.out)) : gb355 ≠ gb356)); have n8_ := am ((by rw [hg]; exact Nat.ne_of_gt (blk_lt (bq BK355.out)) : gb356 ≠ gb355)); have n9_ := am ((by rw [hg]; exact Nat.ne_of_lt (IsS148.lt (show IsS148 w0 _ g s0_0 s0_1 from by exact IsS148.q HI0.out)) : g ≠ gb356)); have n10_ := am n9_.out.symm; clear HI0 BK355 HK HB; revert n0_ n1_ n2_ n3_ n4_ n5_ n6_ n7_ n8_ n9_ n10_; intro HI0 BK355 HK HB BK356 GW356 GE356 NB355_356 NB356_355 NB0_356 NB356_0; clear hb hbox hg; have hnb6 := NB356_355.out; have hnc6 := NB355_356.out; have hnb7 := NB356_0.out; have hnc7 := NB0_356.out; have hcz8_0 : w5.cell? ⟨gb356, 0, none⟩ = some (.string (⟨#[]⟩ : ByteArray)) := (blk_cell BK356.out 0).trans rfl; have hcz8_1 : w5.cell? ⟨gb356, 1, none⟩ = some (.int .i64 0) := (blk_cell BK356.out 1).trans rfl; have hfz8_0 := blk_frozen BK356.out 0; have hfz8_1 := blk_frozen BK356.out 1) | ((with_reducible refine gate_dst (N := 4) rfl ?_); refine box_event ?hg (N := 4) ?hd (cs := #[.string (⟨#[]⟩ : ByteArray), .int .i64 0]) (t := 99) ?hr ?_; (case hd => rfl); (case hg => rfl); (case hr => first | (go_simp; done) | (go_simp; rfl)); intro gb357 hg w9 hbox hb; have n0_ := am (IsS148.below (show IsS148 w0 ((w5.setCell ⟨gb356, 0, none⟩ (.string (⟨#[101]⟩ : ByteArray))).setCell ⟨gb356, 1, none⟩ (.int .i64 0)) g s0_0 s0_1 from by exact IsS148.q HI0.out) hb); have n1_ := am (blk_below (g := gb355) (o := .cells #[.slice none 0 0] 42 (0, 0)) (by refine bq ?_; refine blk_far ?_ NB355_356.out _; refine bq ?_; refine blk_far ?_ NB355_356.out _; refine bq ?_; exact BK355.out) hb); have n2_ := am (blk_below (g := gb356) (o := .cells #[.string (⟨#[101]⟩ : ByteArray), .int .i64 0] 99 (0, 0)) (by refine bq ?_; refine blk_put (cs := #[.string (⟨#[101]⟩ : ByteArray), .int .i64 0]) ?_ 1 _ rfl; refine bq ?_; refine blk_put (cs := #[.string (⟨#[]⟩ : ByteArray), .int .i64 0]) ?_ 0 _ rfl; refine bq ?_; exact BK356.out) hb); have n3_ := am (KeepBut.trans (ks HK.out) (KeepBut.of_below hb g none) (.inl rfl)); have n4_ := am (below_step (hsk HB.out (IsS148.ge HI0.out)) hb); have n5_ := am (hbox); have n6_ := am ((by rw [hg]; exact (keep_size (w := w) (g := g) (row := none) (ks HK.out)) : w.heap.size ≤ gb357)); have n7_ := am (Nat.le_trans HW0.out n6_.out); have n8_ := am ((by rw [hg]; exact Nat.ne_of_lt (blk_lt (g := gb355) (o := .cells #[.slice none 0 0] 42 (0, 0)) (by refine bq ?_; refine blk_far ?_ NB355_356.out _; refine bq ?_; refine blk_far ?_ NB355_356.out _; refine bq ?_; exact BK355.out)) : gb355 ≠ gb357)); have n9_ := am ((by rw [hg]; exact Nat.ne_of_gt (blk_lt (g := gb355) (o := .cells #[.slice none 0 0] 42 (0, 0)) (by refine bq ?_; refine blk_far ?_ NB355_356.out _; refine bq ?_; refine blk_far ?_ NB355_356.out _; refine bq ?_; exact BK355.out)) : gb357 ≠ gb355)); have n10_ := am ((by rw [hg]; exact Nat.ne_of_lt (blk_lt (g := gb356) (o := .cells #[.string (⟨#[101]⟩ : ByteArray), .int .i64 0] 99 (0, 0)) (by refine bq ?_; refine blk_put (cs := #[.string (⟨#[101]⟩ : ByteArray), .int .i64 0]) ?_ 1 _ rfl; refine bq ?_; refine blk_put (cs := #[.string (⟨#[]⟩ : ByteArray), .int .i64 0]) ?_ 0 _ rfl; refine bq ?_; exact BK356.out)) : gb356 ≠ gb357)); have n11_ := am ((by rw [hg]; exact Nat.ne_of_gt (blk_lt (g := gb356) (o := .cells #[.string (⟨#[101]⟩ : ByteArray), .int .i64 0] 99 (0, 0)) (by refine bq ?_; refine blk_put (cs := #[.string (⟨#[101]⟩ : ByteArray), .int .i64 0]) ?_ 1 _ rfl; refine bq ?_; refine blk_put (cs := #[.string (⟨#[]⟩ : ByteArray), .int .i64 0]) ?_ 0 _ rfl; refine bq ?_; exact BK356.out)) : gb357 ≠ gb356)); have n12_ := am ((by rw [hg]; exact Nat.ne_of_lt (IsS148.lt (show IsS148 w0 _ g s0_0 s0_1 from by exact IsS148.q HI0.out)) : g ≠ gb357)); have n13_ := am n12_.out.symm; clear HI0 BK355 BK356 HK HB; revert n0_ n1_ n2_ n3_ n4_ n5_ n6_ n7_ n8_ n9_ n10_ n11_ n12_ n13_; intro HI0 BK355 BK356 HK HB BK357 GW357 GE357 NB355_357 NB357_355 NB356_357 NB357_356 NB0_357 NB357_0; clear hb hbox hg; have hnb10 := NB357_355.out; have hnc10 := NB355_357.out; have hnb11 := NB357_356.out; have hnc11 := NB356_357.out; have hnb12 := NB357_0.out; have hnc12 := NB0_357.out; have hcz13_0 : w9.cell? ⟨gb357, 0, none⟩ = some (.string (⟨#[]⟩ : ByteArray)) := (blk_cell BK357.out 0).trans rfl; have hcz13_1 : w9.cell? ⟨gb357, 1, none⟩ = some (.int .i64 0) := (blk_cell BK357.out 1).trans rfl; have hfz13_0 := blk_frozen BK357.out 0; have hfz13_1 := blk_frozen BK357.out 1) | ((with_reducible refine gate_dst (N := 5) rfl ?_); refine box_event ?hg (N := 5) ?hd (cs := #[.string (⟨#[]⟩ : ByteArray), .int .i64 0]) (t := 99) ?hr ?_; (case hd => rfl); (case hg => rfl); (case hr => first | (go_simp; done) | (go_simp; rfl)); intro gb358 hg w14 hbox hb; have n0_ := am (IsS148.below (show IsS148 w0 ((w9.setCell ⟨gb357, 0, none⟩ (.string (⟨#[105]⟩ : ByteArray))).setCell ⟨gb357, 1, none⟩ (.int .i64 1)) g s0_0 s0_1 from by exact IsS148.q HI0.out) hb); have n1_ := am (blk_below (g := gb355) (o := .cells #[.slice none 0 0] 42 (0, 0)) (by refine bq ?_; refine blk_far ?_ NB355_357.out _; refine bq ?_; refine blk_far ?_ NB355_357.out _; refine bq ?_; exact BK355.out) hb); have n2_ := am (blk_below (g := gb356) (o := .cells #[.string (⟨#[101]⟩ : ByteArray), .int .i64 0] 99 (0, 0)) (by refine bq ?_; refine blk_far ?_ NB356_357.out _; refine bq ?_; refine blk_far ?_ NB356_357.out _; refine bq ?_; exact BK356.out) hb); have n3_ := am (blk_below (g := gb357) (o := .cells #[.string (⟨#[105]⟩ : ByteArray), .int .i64 1] 99 (0, 0)) (by refine bq ?_; refine blk_put (cs := #[.string (⟨#[105]⟩ : ByteArray), .int .i64 0]) ?_ 1 _ rfl; refine bq ?_; refine blk_put (cs := #[.string (⟨#[]⟩ : ByteArray), .int .i64 0]) ?_ 0 _ rfl; refine bq ?_; exact BK357.out) hb); have n4_ := am (KeepBut.trans (ks HK.out) (KeepBut.of_below hb g none) (.inl rfl)); have n5_ := am (below_step (hsk HB.out (IsS148.ge HI0.out)) hb); have n6_ := am (hbox); have n7_ := am ((by rw [hg]; exact (keep_size (w := w) (g := g) (row := none) (ks HK.out)) : w.heap.size ≤ gb358)); have n8_ := am (Nat.le_trans HW0.out n7_.out); have n9_ := am ((by rw [hg]; exact Nat.ne_of_lt (blk_lt (g := gb355) (o := .cells #[.slice none 0 0] 42 (0, 0)) (by refine bq ?_; refine blk_far ?_ NB355_357.out _; refine bq ?_; refine blk_far ?_ NB355_357.out _; refine bq ?_; exact BK355.out)) : gb355 ≠ gb358)); have n10_ := am ((by rw [hg]; exact Nat.ne_of_gt (blk_lt (g := gb355) (o := .cells #[.slice none 0 0] 42 (0, 0)) (by refine bq ?_; refine blk_far ?_ NB355_357.out _; refine bq ?_; refine blk_far ?_ NB355_357.out _; refine bq ?_; exact BK355.out)) : gb358 ≠ gb355)); have n11_ := am ((by rw [hg]; exact Nat.ne_of_lt (blk_lt (g := gb356) (o := .cells #[.string (⟨#[101]⟩ : ByteArray), .int .i64 0] 99 (0, 0)) (by refine bq ?_; refine blk_far ?_ NB356_357.out _; refine bq ?_; refine blk_far ?_ NB356_357.out _; refine bq ?_; exact BK356.out)) : gb356 ≠ gb358)); have n12_ := am ((by rw [hg]; exact Nat.ne_of_gt (blk_lt (g := gb356) (o := .cells #[.string (⟨#[101]⟩ : ByteArray), .int .i64 0] 99 (0, 0)) (by refine bq ?_; refine blk_far ?_ NB356_357.out _; refine bq ?_; refine blk_far ?_ NB356_357.out _; refine bq ?_; exact BK356.out)) : gb358 ≠ gb356)); have n13_ := am ((by rw [hg]; exact Nat.ne_of_lt (blk_lt (g := gb357) (o := .cells #[.string (⟨#[105]⟩ : ByteArray), .int .i64 1] 99 (0, 0)) (by refine bq ?_; refine blk_put (cs := #[.string (⟨#[105]⟩ : ByteArray), .int .i64 0]) ?_ 1 _ rfl; refine bq ?_; refine blk_put (cs := #[.string (⟨#[]⟩ : ByteArray), .int .i64 0]) ?_ 0 _ rfl; refine bq ?_; exact BK357.out)) : gb357 ≠ gb358)); have n14_ := am ((by rw [hg]; exact Nat.ne_of_gt (blk_lt (g := gb357) (o := .cells #[.string (⟨#[105]⟩ : ByteArray), .int .i64 1] 99 (0, 0)) (by refine bq ?_; refine blk_put (cs := #[.string (⟨#[105]⟩ : ByteArray), .int .i64 0]) ?_ 1 _ rfl; refine bq ?_; refine blk_put (cs := #[.string (⟨#[]⟩ : ByteArray), .int .i64 0]) ?_ 0 _ rfl; refine bq ?_; exact BK357.out)) : gb358 ≠ gb357)); have n15_ := am ((by rw [hg]; exact Nat.ne_of_lt (IsS148.lt (show IsS148 w0 _ g s0_0 s0_1 from by exact IsS148.q HI0.out)) : g ≠ gb358)); have n16_ := am n15_.out.symm; clear HI0 BK355 BK356 BK357 HK HB; revert n0_ n1_ n2_ n3_ n4_ n5_ n6_ n7_ n8_ n9_ n10_ n11_ n12_ n13_ n14_ n15_ n16_; intro HI0 BK355 BK356 BK357 HK HB BK358 GW358 GE358 NB355_358 NB358_355 NB356_358 NB358_356 NB357_358 NB358_357 NB0_358 NB358_0; clear hb hbox hg; have hnb15 := NB358_355.out; have hnc15 := NB355_358.out; have hnb16 := NB358_356.out; have hnc16 := NB356_358.out; have hnb17 := NB358_357.out; have hnc17 := NB357_358.out; have hnb18 := NB358_0.out; have hnc18 := NB0_358.out; have hcz19_0 : w14.cell? ⟨gb358, 0, none⟩ = some (.string (⟨#[]⟩ : ByteArray)) := (blk_cell BK358.out 0).trans rfl; have hcz19_1 : w14.cell? ⟨gb358, 1, none⟩ = some (.int .i64 0) := (blk_cell BK358.out 1).trans rfl; have hfz19_0 := blk_frozen BK358.out 0; have hfz19_1 := blk_frozen BK358.out 1) | ((with_reducible refine gate_dst (N := 6) rfl ?_); refine box_event ?hg (N := 6) ?hd (cs := #[.string (⟨#[]⟩ : ByteArray), .int .i64 0]) (t := 99) ?hr ?_; (case hd => rfl); (case hg => rfl); (case hr => first | (go_simp; done) | (go_simp; rfl)); intro gb359 hg w20 hbox hb; have n0_ := am (IsS148.below (show IsS148 w0 ((w14.setCell ⟨gb358, 0, none⟩ (.string (⟨#[109]⟩ : ByteArray))).setCell ⟨gb358, 1, none⟩ (.int .i64 2)) g s0_0 s0_1 from by exact IsS148.q HI0.out) hb); have n1_ := am (blk_below (g := gb355) (o := .cells #[.slice none 0 0] 42 (0, 0)) (by refine bq ?_; refine blk_far ?_ NB355_358.out _; refine bq ?_; refine blk_far ?_ NB355_358.out _; refine bq ?_; exact BK355.out) hb); have n2_ := am (blk_below (g := gb356) (o := .cells #[.string (⟨#[101]⟩ : ByteArray), .int .i64 0] 99 (0, 0)) (by refine bq ?_; refine blk_far ?_ NB356_358.out _; refine bq ?_; refine blk_far ?_ NB356_358.out _; refine bq ?_; exact BK356.out) hb); have n3_ := am (blk_below (g := gb357) (o := .cells #[.string (⟨#[105]⟩ : ByteArray), .int .i64 1] 99 (0, 0)) (by refine bq ?_; refine blk_far ?_ NB357_358.out _; refine bq ?_; refine blk_far ?_ NB357_358.out _; refine bq ?_; exact BK357.out) hb); have n4_ := am (blk_below (g := gb358) (o := .cells #[.string (⟨#[109]⟩ : ByteArray), .int .i64 2] 99 (0, 0)) (by refine bq ?_; refine blk_put (cs := #[.string (⟨#[109]⟩ : ByteArray), .int .i64 0]) ?_ 1 _ rfl; refine bq ?_; refine blk_put (cs := #[.string (⟨#[]⟩ : ByteArray), .int .i64 0]) ?_ 0 _ rfl; refine bq ?_; exact BK358.out) hb); have n5_ := am (KeepBut.trans (ks HK.out) (KeepBut.of_below hb g none) (.inl rfl)); have n6_ := am (below_step (hsk HB.out (IsS148.ge HI0.out)) hb); have n7_ := am (hbox); have n8_ := am ((by rw [hg]; exact (keep_size (w := w) (g := g) (row := none) (ks HK.out)) : w.heap.size ≤ gb359)); have n9_ := am (Nat.le_trans HW0.out n8_.out); have n10_ := am ((by rw [hg]; exact Nat.ne_of_lt (blk_lt (g := gb355) (o := .cells #[.slice none 0 0] 42 (0, 0)) (by refine bq ?_; refine blk_far ?_ NB355_358.out _; refine bq ?_; refine blk_far ?_ NB355_358.out _; refine bq ?_; exact BK355.out)) : gb355 ≠ gb359)); have n11_ := am ((by rw [hg]; exact Nat.ne_of_gt (blk_lt (g := gb355) (o := .cells #[.slice none 0 0] 42 (0, 0)) (by refine bq ?_; refine blk_far ?_ NB355_358.out _; refine bq ?_; refine blk_far ?_ NB355_358.out _; refine bq ?_; exact BK355.out)) : gb359 ≠ gb355)); have n12_ := am ((by rw [hg]; exact Nat.ne_of_lt (blk_lt (g := gb356) (o := .cells #[.string (⟨#[101]⟩ : ByteArray), .int .i64 0] 99 (0, 0)) (by refine bq ?_; refine blk_far ?_ NB356_358.out _; refine bq ?_; refine blk_far ?_ NB356_358.out _; refine bq ?_; exact BK356.out)) : gb356 ≠ gb359)); have n13_ := am ((by rw [hg]; exact Nat.ne_of_gt (blk_lt (g := gb356) (o := .cells #[.string (⟨#[101]⟩ : ByteArray), .int .i64 0] 99 (0, 0)) (by refine bq ?_; refine blk_far ?_ NB356_358.out _; refine bq ?_; refine blk_far ?_ NB356_358.out _; refine bq ?_; exact BK356.out)) : gb359 ≠ gb356)); have n14_ := am ((by rw [hg]; exact Nat.ne_of_lt (blk_lt (g := gb357) (o := .cells #[.string (⟨#[105]⟩ : ByteArray), .int .i64 1] 99 (0, 0)) (by refine bq ?_; refine blk_far ?_ NB357_358.out _; refine bq ?_; refine blk_far ?_ NB357_358.out _; refine bq ?_; exact BK357.out)) : gb357 ≠ gb359)); have n15_ := am ((by rw [hg]; exact Nat.ne_of_gt (blk_lt (g := gb357) (o := .cells #[.string (⟨#[105]⟩ : ByteArray), .int .i64 1] 99 (0, 0)) (by refine bq ?_; refine blk_far ?_ NB357_358.out _; refine bq ?_; refine blk_far ?_ NB357_358.out _; refine bq ?_; exact BK357.out)) : gb359 ≠ gb357)); have n16_ := am ((by rw [hg]; exact Nat.ne_of_lt (blk_lt (g := gb358) (o := .cells #[.string (⟨#[109]⟩ : ByteArray), .int .i64 2] 99 (0, 0)) (by refine bq ?_; refine blk_put (cs := #[.string (⟨#[109]⟩ : ByteArray), .int .i64 0]) ?_ 1 _ rfl; refine bq ?_; refine blk_put (cs := #[.string (⟨#[]⟩ : ByteArray), .int .i64 0]) ?_ 0 _ rfl; refine bq ?_; exact BK358.out)) : gb358 ≠ gb359)); have n17_ := am ((by rw [hg]; exact Nat.ne_of_gt (blk_lt (g := gb358) (o := .cells #[.string (⟨#[109]⟩ : ByteArray), .int .i64 2] 99 (0, 0)) (by refine bq ?_; refine blk_put (cs := #[.string (⟨#[109]⟩ : ByteArray), .int .i64 0]) ?_ 1 _ rfl; refine bq ?_; refine blk_put (cs := #[.string (⟨#[]⟩ : ByteArray), .int .i64 0]) ?_ 0 _ rfl; refine bq ?_; exact BK358.out)) : gb359 ≠ gb358)); have n18_ := am ((by rw [hg]; exact Nat.ne_of_lt (IsS148.lt (show IsS148 w0 _ g s0_0 s0_1 from by exact IsS148.q HI0.out)) : g ≠ gb359)); have n19_ := am n18_.out.symm; clear HI0 BK355 BK356 BK357 BK358 HK HB; revert n0_ n1_ n2_ n3_ n4_ n5_ n6_ n7_ n8_ n9_ n10_ n11_ n12_ n13_ n14_ n15_ n16_ n17_ n18_ n19_; intro HI0 BK355 BK356 BK357 BK358 HK HB BK359 GW359 GE359 NB355_359 NB359_355 NB356_359 NB359_356 NB357_359 NB359_357 NB358_359 NB359_358 NB0_359 NB359_0; clear hb hbox hg; have hnb21 := NB359_355.out; have hnc21 := NB355_359.out; have hnb22 := NB359_356.out; have hnc22 := NB356_359.out; have hnb23 := NB359_357.out; have hnc23 := NB357_359.out; have hnb24 := NB359_358.out; have hnc24 := NB358_359.out; have hnb25 := NB359_0.out; have hnc25 := NB0_359.out; have hcz26_0 : w20.cell? ⟨gb359, 0, none⟩ = some (.string (⟨#[]⟩ : ByteArray)) := (blk_cell BK359.out 0).trans rfl; have hcz26_1 : w20.cell? ⟨gb359, 1, none⟩ = some (.int .i64 0) := (blk_cell BK359.out 1).trans rfl; have hfz26_0 := blk_frozen BK359.out 0; have hfz26_1 := blk_frozen BK359.out 1) | ((with_reducible refine gate_dst (N := 7) rfl ?_); refine box_event ?hg (N := 7) ?hd (cs := #[.string (⟨#[]⟩ : ByteArray), .int .i64 0]) (t := 99) ?hr ?_; (case hd => rfl); (case hg => rfl); (case hr => first | (go_simp; done) | (go_simp; rfl)); intro gb360 hg w27 hbox hb; have n0_ := am (IsS148.below (show IsS148 w0 ((w20.setCell ⟨gb359, 0, none⟩ (.string (⟨#[115, 117, 99]⟩ : ByteArray))).setCell ⟨gb359, 1, none⟩ (.int .i64 1)) g s0_0 s0_1 from by exact IsS148.q HI0.out) hb); have n1_ := am (blk_below (g := gb355) (o := .cells #[.slice none 0 0] 42 (0, 0)) (by refine bq ?_; refine blk_far ?_ NB355_359.out _; refine bq ?_; refine blk_far ?_ NB355_359.out _; refine bq ?_; exact BK355.out) hb); have n2_ := am (blk_below (g := gb356) (o := .cells #[.string (⟨#[101]⟩ : ByteArray), .int .i64 0] 99 (0, 0)) (by refine bq ?_; refine blk_far ?_ NB356_359.out _; refine bq ?_; refine blk_far ?_ NB356_359.out _; refine bq ?_; exact BK356.out) hb); have n3_ := am (blk_below (g := gb357) (o := .cells #[.string (⟨#[105]⟩ : ByteArray), .int .i64 1] 99 (0, 0)) (by refine bq ?_; refine blk_far ?_ NB357_359.out _; refine bq ?_; refine blk_far ?_ NB357_359.out _; refine bq ?_; exact BK357.out) hb); have n4_ := am (blk_below (g := gb358) (o := .cells #[.string (⟨#[109]⟩ : ByteArray), .int .i64 2] 99 (0, 0)) (by refine bq ?_; refine blk_far ?_ NB358_359.out _; refine bq ?_; refine blk_far ?_ NB358_359.out _; refine bq ?_; exact BK358.out) hb); have n5_ := am (blk_below (g := gb359) (o := .cells #[.string (⟨#[115, 117, 99]⟩ : ByteArray), .int .i64 1] 99 (0, 0)) (by refine bq ?_; refine blk_put (cs := #[.string (⟨#[115, 117, 99]⟩ : ByteArray), .int .i64 0]) ?_ 1 _ rfl; refine bq ?_; refine blk_put (cs := #[.string (⟨#[]⟩ : ByteArray), .int .i64 0]) ?_ 0 _ rfl; refine bq ?_; exact BK359.out) hb); have n6_ := am (KeepBut.trans (ks HK.out) (KeepBut.of_below hb g none) (.inl rfl)); have n7_ := am (below_step (hsk HB.out (IsS148.ge HI0.out)) hb); have n8_ := am (hbox); have n9_ := am ((by rw [hg]; exact (keep_size (w := w) (g := g) (row := none) (ks HK.out)) : w.heap.size ≤ gb360)); have n10_ := am (Nat.le_trans HW0.out n9_.out); have n11_ := am ((by rw [hg]; exact Nat.ne_of_lt (blk_lt (g := gb355) (o := .cells #[.slice none 0 0] 42 (0, 0)) (by refine bq ?_; refine blk_far ?_ NB355_359.out _; refine bq ?_; refine blk_far ?_ NB355_359.out _; refine bq ?_; exact BK355.out)) : gb355 ≠ gb360)); have n12_ := am ((by rw [hg]; exact Nat.ne_of_gt (blk_lt (g := gb355) (o := .cells #[.slice none 0 0] 42 (0, 0)) (by refine bq ?_; refine blk_far ?_ NB355_359.out _; refine bq ?_; refine blk_far ?_ NB355_359.out _; refine bq ?_; exact BK355.out)) : gb360 ≠ gb355)); have n13_ := am ((by rw [hg]; exact Nat.ne_of_lt (blk_lt (g := gb356) (o := .cells #[.string (⟨#[101]⟩ : ByteArray), .int .i64 0] 99 (0, 0)) (by refine bq ?_; refine blk_far ?_ NB356_359.out _; refine bq ?_; refine blk_far ?_ NB356_359.out _; refine bq ?_; exact BK356.out)) : gb356 ≠ gb360)); have n14_ := am ((by rw [hg]; exact Nat.ne_of_gt (blk_lt (g := gb356) (o := .cells #[.string (⟨#[101]⟩ : ByteArray), .int .i64 0] 99 (0, 0)) (by refine bq ?_; refine blk_far ?_ NB356_359.out _; refine bq ?_; refine blk_far ?_ NB356_359.out _; refine bq ?_; exact BK356.out)) : gb360 ≠ gb356)); have n15_ := am ((by rw [hg]; exact Nat.ne_of_lt (blk_lt (g := gb357) (o := .cells #[.string (⟨#[105]⟩ : ByteArray), .int .i64 1] 99 (0, 0)) (by refine bq ?_; refine blk_far ?_ NB357_359.out _; refine bq ?_; refine blk_far ?_ NB357_359.out _; refine bq ?_; exact BK357.out)) : gb357 ≠ gb360)); have n16_ := am ((by rw [hg]; exact Nat.ne_of_gt (blk_lt (g := gb357) (o := .cells #[.string (⟨#[105]⟩ : ByteArray), .int .i64 1] 99 (0, 0)) (by refine bq ?_; refine blk_far ?_ NB357_359.out _; refine bq ?_; refine blk_far ?_ NB357_359.out _; refine bq ?_; exact BK357.out)) : gb360 ≠ gb357)); have n17_ := am ((by rw [hg]; exact Nat.ne_of_lt (blk_lt (g := gb358) (o := .cells #[.string (⟨#[109]⟩ : ByteArray), .int .i64 2] 99 (0, 0)) (by refine bq ?_; refine blk_far ?_ NB358_359.out _; refine bq ?_; refine blk_far ?_ NB358_359.out _; refine bq ?_; exact BK358.out)) : gb358 ≠ gb360)); have n18_ := am ((by rw [hg]; exact Nat.ne_of_gt (blk_lt (g := gb358) (o := .cells #[.string (⟨#[109]⟩ : ByteArray), .int .i64 2] 99 (0, 0)) (by refine bq ?_; refine blk_far ?_ NB358_359.out _; refine bq ?_; refine blk_far ?_ NB358_359.out _; refine bq ?_; exact BK358.out)) : gb360 ≠ gb358)); have n19_ := am ((by rw [hg]; exact Nat.ne_of_lt (blk_lt (g := gb359) (o := .cells #[.string (⟨#[115, 117, 99]⟩ : ByteArray), .int .i64 1] 99 (0, 0)) (by refine bq ?_; refine blk_put (cs := #[.string (⟨#[115, 117, 99]⟩ : ByteArray), .int .i64 0]) ?_ 1 _ rfl; refine bq ?_; refine blk_put (cs := #[.string (⟨#[]⟩ : ByteArray), .int .i64 0]) ?_ 0 _ rfl; refine bq ?_; exact BK359.out)) : gb359 ≠ gb360)); have n20_ := am ((by rw [hg]; exact Nat.ne_of_gt (blk_lt (g := gb359) (o := .cells #[.string (⟨#[115, 117, 99]⟩ : ByteArray), .int .i64 1] 99 (0, 0)) (by refine bq ?_; refine blk_put (cs := #[.string (⟨#[115, 117, 99]⟩ : ByteArray), .int .i64 0]) ?_ 1 _ rfl; refine bq ?_; refine blk_put (cs := #[.string (⟨#[]⟩ : ByteArray), .int .i64 0]) ?_ 0 _ rfl; refine bq ?_; exact BK359.out)) : gb360 ≠ gb359)); have n21_ := am ((by rw [hg]; exact Nat.ne_of_lt (IsS148.lt (show IsS148 w0 _ g s0_0 s0_1 from by exact IsS148.q HI0.out)) : g ≠ gb360)); have n22_ := am n21_.out.symm; clear HI0 BK355 BK356 BK357 BK358 BK359 HK HB; revert n0_ n1_ n2_ n3_ n4_ n5_ n6_ n7_ n8_ n9_ n10_ n11_ n12_ n13_ n14_ n15_ n16_ n17_ n18_ n19_ n20_ n21_ n22_; intro HI0 BK355 BK356 BK357 BK358 BK359 HK HB BK360 GW360 GE360 NB355_360 NB360_355 NB356_360 NB360_356 NB357_360 NB360_357 NB358_360 NB360_358 NB359_360 NB360_359 NB0_360 NB360_0; clear hb hbox hg; have hnb28 := NB360_355.out; have hnc28 := NB355_360.out; have hnb29 := NB360_356.out; have hnc29 := NB356_360.out; have hnb30 := NB360_357.out; have hnc30 := NB357_360.out; have hnb31 := NB360_358.out; have hnc31 := NB358_360.out; have hnb32 := NB360_359.out; have hnc32 := NB359_360.out; have hnb33 := NB360_0.out; have hnc33 := NB0_360.out; have hcz34_0 : w27.cell? ⟨gb360, 0, none⟩ = some (.string (⟨#[]⟩ : ByteArray)) := (blk_cell BK360.out 0).trans rfl; have hcz34_1 : w27.cell? ⟨gb360, 1, none⟩ = some (.int .i64 0) := (blk_cell BK360.out 1).trans rfl; have hfz34_0 := blk_frozen BK360.out 0; have hfz34_1 := blk_frozen BK360.out 1) | ((with_reducible refine gate_dst (N := 8) rfl ?_); refine box_event ?hg (N := 8) ?hd (cs := #[.string (⟨#[]⟩ : ByteArray), .int .i64 0]) (t := 99) ?hr ?_; (case hd => rfl); (case hg => rfl); (case hr => first | (go_simp; done) | (go_simp; rfl)); intro gb361 hg w35 hbox hb; have n0_ := am (IsS148.below (show IsS148 w0 ((w27.setCell ⟨gb360, 0, none⟩ (.string (⟨#[97]⟩ : ByteArray))).setCell ⟨gb360, 1, none⟩ (.int .i64 0)) g s0_0 s0_1 from by exact IsS148.q HI0.out) hb); have n1_ := am (blk_below (g := gb355) (o := .cells #[.slice none 0 0] 42 (0, 0)) (by refine bq ?_; refine blk_far ?_ NB355_360.out _; refine bq ?_; refine blk_far ?_ NB355_360.out _; refine bq ?_; exact BK355.out) hb); have n2_ := am (blk_below (g := gb356) (o := .cells #[.string (⟨#[101]⟩ : ByteArray), .int .i64 0] 99 (0, 0)) (by refine bq ?_; refine blk_far ?_ NB356_360.out _; refine bq ?_; refine blk_far ?_ NB356_360.out _; refine bq ?_; exact BK356.out) hb); have n3_ := am (blk_below (g := gb357) (o := .cells #[.string (⟨#[105]⟩ : ByteArray), .int .i64 1] 99 (0, 0)) (by refine bq ?_; refine blk_far ?_ NB357_360.out _; refine bq ?_; refine blk_far ?_ NB357_360.out _; refine bq ?_; exact BK357.out) hb); have n4_ := am (blk_below (g := gb358) (o := .cells #[.string (⟨#[109]⟩ : ByteArray), .int .i64 2] 99 (0, 0)) (by refine bq ?_; refine blk_far ?_ NB358_360.out _; refine bq ?_; refine blk_far ?_ NB358_360.out _; refine bq ?_; exact BK358.out) hb); have n5_ := am (blk_below (g := gb359) (o := .cells #[.string (⟨#[115, 117, 99]⟩ : ByteArray), .int .i64 1] 99 (0, 0)) (by refine bq ?_; refine blk_far ?_ NB359_360.out _; refine bq ?_; refine blk_far ?_ NB359_360.out _; refine bq ?_; exact BK359.out) hb); have n6_ := am (blk_below (g := gb360) (o := .cells #[.string (⟨#[97]⟩ : ByteArray), .int .i64 0] 99 (0, 0)) (by refine bq ?_; refine blk_put (cs := #[.string (⟨#[97]⟩ : ByteArray), .int .i64 0]) ?_ 1 _ rfl; refine bq ?_; refine blk_put (cs := #[.string (⟨#[]⟩ : ByteArray), .int .i64 0]) ?_ 0 _ rfl; refine bq ?_; exact BK360.out) hb); have n7_ := am (KeepBut.trans (ks HK.out) (KeepBut.of_below hb g none) (.inl rfl)); have n8_ := am (below_step (hsk HB.out (IsS148.ge HI0.out)) hb); have n9_ := am (hbox); have n10_ := am ((by rw [hg]; exact (keep_size (w := w) (g := g) (row := none) (ks HK.out)) : w.heap.size ≤ gb361)); have n11_ := am (Nat.le_trans HW0.out n10_.out); have n12_ := am ((by rw [hg]; exact Nat.ne_of_lt (blk_lt (g := gb355) (o := .cells #[.slice none 0 0] 42 (0, 0)) (by refine bq ?_; refine blk_far ?_ NB355_360.out _; refine bq ?_; refine blk_far ?_ NB355_360.out _; refine bq ?_; exact BK355.out)) : gb355 ≠ gb361)); have n13_ := am ((by rw [hg]; exact Nat.ne_of_gt (blk_lt (g := gb355) (o := .cells #[.slice none 0 0] 42 (0, 0)) (by refine bq ?_; refine blk_far ?_ NB355_360.out _; refine bq ?_; refine blk_far ?_ NB355_360.out _; refine bq ?_; exact BK355.out)) : gb361 ≠ gb355)); have n14_ := am ((by rw [hg]; exact Nat.ne_of_lt (blk_lt (g := gb356) (o := .cells #[.string (⟨#[101]⟩ : ByteArray), .int .i64 0] 99 (0, 0)) (by refine bq ?_; refine blk_far ?_ NB356_360.out _; refine bq ?_; refine blk_far ?_ NB356_360.out _; refine bq ?_; exact BK356.out)) : gb356 ≠ gb361)); have n15_ := am ((by rw [hg]; exact Nat.ne_of_gt (blk_lt (g := gb356) (o := .cells #[.string (⟨#[101]⟩ : ByteArray), .int .i64 0] 99 (0, 0)) (by refine bq ?_; refine blk_far ?_ NB356_360.out _; refine bq ?_; refine blk_far ?_ NB356_360.out _; refine bq ?_; exact BK356.out)) : gb361 ≠ gb356)); have n16_ := am ((by rw [hg]; exact Nat.ne_of_lt (blk_lt (g := gb357) (o := .cells #[.string (⟨#[105]⟩ : ByteArray), .int .i64 1] 99 (0, 0)) (by refine bq ?_; refine blk_far ?_ NB357_360.out _; refine bq ?_; refine blk_far ?_ NB357_360.out _; refine bq ?_; exact BK357.out)) : gb357 ≠ gb361)); have n17_ := am ((by rw [hg]; exact Nat.ne_of_gt (blk_lt (g := gb357) (o := .cells #[.string (⟨#[105]⟩ : ByteArray), .int .i64 1] 99 (0, 0)) (by refine bq ?_; refine blk_far ?_ NB357_360.out _; refine bq ?_; refine blk_far ?_ NB357_360.out _; refine bq ?_; exact BK357.out)) : gb361 ≠ gb357)); have n18_ := am ((by rw [hg]; exact Nat.ne_of_lt (blk_lt (g := gb358) (o := .cells #[.string (⟨#[109]⟩ : ByteArray), .int .i64 2] 99 (0, 0)) (by refine bq ?_; refine blk_far ?_ NB358_360.out _; refine bq ?_; refine blk_far ?_ NB358_360.out _; refine bq ?_; exact BK358.out)) : gb358 ≠ gb361)); have n19_ := am ((by rw [hg]; exact Nat.ne_of_gt (blk_lt (g := gb358) (o := .cells #[.string (⟨#[109]⟩ : ByteArray), .int .i64 2] 99 (0, 0)) (by refine bq ?_; refine blk_far ?_ NB358_360.out _; refine bq ?_; refine blk_far ?_ NB358_360.out _; refine bq ?_; exact BK358.out)) : gb361 ≠ gb358)); have n20_ := am ((by rw [hg]; exact Nat.ne_of_lt (blk_lt (g := gb359) (o := .cells #[.string (⟨#[115, 117, 99]⟩ : ByteArray), .int .i64 1] 99 (0, 0)) (by refine bq ?_; refine blk_far ?_ NB359_360.out _; refine bq ?_; refine blk_far ?_ NB359_360.out _; refine bq ?_; exact BK359.out)) : gb359 ≠ gb361)); have n21_ := am ((by rw [hg]; exact Nat.ne_of_gt (blk_lt (g := gb359) (o := .cells #[.string (⟨#[115, 117, 99]⟩ : ByteArray), .int .i64 1] 99 (0, 0)) (by refine bq ?_; refine blk_far ?_ NB359_360.out _; refine bq ?_; refine blk_far ?_ NB359_360.out _; refine bq ?_; exact BK359.out)) : gb361 ≠ gb359)); have n22_ := am ((by rw [hg]; exact Nat.ne_of_lt (blk_lt (g := gb360) (o := .cells #[.string (⟨#[97]⟩ : ByteArray), .int .i64 0] 99 (0, 0)) (by refine bq ?_; refine blk_put (cs := #[.string (⟨#[97]⟩ : ByteArray), .int .i64 0]) ?_ 1 _ rfl; refine bq ?_; refine blk_put (cs := #[.string (⟨#[]⟩ : ByteArray), .int .i64 0]) ?_ 0 _ rfl; refine bq ?_; exact BK360.out)) : gb360 ≠ gb361)); have n23_ := am ((by rw [hg]; exact Nat.ne_of_gt (blk_lt (g := gb360) (o := .cells #[.string (⟨#[97]⟩ : ByteArray), .int .i64 0] 99 (0, 0)) (by refine bq ?_; refine blk_put (cs := #[.string (⟨#[97]⟩ : ByteArray), .int .i64 0]) ?_ 1 _ rfl; refine bq ?_; refine blk_put (cs := #[.string (⟨#[]⟩ : ByteArray), .int .i64 0]) ?_ 0 _ rfl; refine bq ?_; exact BK360.out)) : gb361 ≠ gb360)); have n24_ := am ((by rw [hg]; exact Nat.ne_of_lt (IsS148.lt (show IsS148 w0 _ g s0_0 s0_1 from by exact IsS148.q HI0.out)) : g ≠ gb361)); have n25_ := am n24_.out.symm; clear HI0 BK355 BK356 BK357 BK358 BK359 BK360 HK HB; revert n0_ n1_ n2_ n3_ n4_ n5_ n6_ n7_ n8_ n9_ n10_ n11_ n12_ n13_ n14_ n15_ n16_ n17_ n18_ n19_ n20_ n21_ n22_ n23_ n24_ n25_; intro HI0 BK355 BK356 BK357 BK358 BK359 BK360 HK HB BK361 GW361 GE361 NB355_361 NB361_355 NB356_361 NB361_356 NB357_361 NB361_357 NB358_361 NB361_358 NB359_361 NB361_359 NB360_361 NB361_360 NB0_361 NB361_0; clear hb hbox hg; have hnb36 := NB361_355.out; have hnc36 := NB355_361.out; have hnb37 := NB361_356.out; have hnc37 := NB356_361.out; have hnb38 := NB361_357.out; have hnc38 := NB357_361.out; have hnb39 := NB361_358.out; have hnc39 := NB358_361.out; have hnb40 := NB361_359.out; have hnc40 := NB359_361.out; have hnb41 := NB361_360.out; have hnc41 := NB360_361.out; have hnb42 := NB361_0.out; have hnc42 := NB0_361.out; have hcz43_0 : w35.cell? ⟨gb361, 0, none⟩ = some (.string (⟨#[]⟩ : ByteArray)) := (blk_cell BK361.out 0).trans rfl; have hcz43_1 : w35.cell? ⟨gb361, 1, none⟩ = some (.int .i64 0) := (blk_cell BK361.out 1).trans rfl; have hfz43_0 := blk_frozen BK361.out 0; have hfz43_1 := blk_frozen BK361.out 1) | ((with_reducible refine gate_callee (f := 85) rfl ?_); refine goesL_ (some 16) rfl rfl Tryd.func85 (by kernel_rfl) rfl #[.pointer (some ⟨g, 0, none⟩), .int .i64 8] rfl el ?_; (with_reducible refine (spec_l1Next.calls g s0_0 s0_1 8 t362 t363 w0 _ ?side1 ?side2 A2.out).mono ?_); (case side1 => exact IsS148.q HI0.out); (case side2 => exact hsk HB.out (IsS148.ge HI0.out)); rintro e w44 ⟨rfl, hi, hb, hk⟩; refine ⟨_, rfl, ?_⟩; have n0_ := am (KeepBut.blk hk (g' := gb355) (o := .cells #[.slice none 0 0] 42 (0, 0)) (by refine bq ?_; refine blk_far ?_ NB355_361.out _; refine bq ?_; refine blk_far ?_ NB355_361.out _; refine bq ?_; exact BK355.out) NB355_0.out (by simp)); have n1_ := am (KeepBut.blk hk (g' := gb356) (o := .cells #[.string (⟨#[101]⟩ : ByteArray), .int .i64 0] 99 (0, 0)) (by refine bq ?_; refine blk_far ?_ NB356_361.out _; refine bq ?_; refine blk_far ?_ NB356_361.out _; refine bq ?_; exact BK356.out) NB356_0.out (by simp)); have n2_ := am (KeepBut.blk hk (g' := gb357) (o := .cells #[.string (⟨#[105]⟩ : ByteArray), .int .i64 1] 99 (0, 0)) (by refine bq ?_; refine blk_far ?_ NB357_361.out _; refine bq ?_; refine blk_far ?_ NB357_361.out _; refine bq ?_; exact BK357.out) NB357_0.out (by simp)); have n3_ := am (KeepBut.blk hk (g' := gb358) (o := .cells #[.string (⟨#[109]⟩ : ByteArray), .int .i64 2] 99 (0, 0)) (by refine bq ?_; refine blk_far ?_ NB358_361.out _; refine bq ?_; refine blk_far ?_ NB358_361.out _; refine bq ?_; exact BK358.out) NB358_0.out (by simp)); have n4_ := am (KeepBut.blk hk (g' := gb359) (o := .cells #[.string (⟨#[115, 117, 99]⟩ : ByteArray), .int .i64 1] 99 (0, 0)) (by refine bq ?_; refine blk_far ?_ NB359_361.out _; refine bq ?_; refine blk_far ?_ NB359_361.out _; refine bq ?_; exact BK359.out) NB359_0.out (by simp)); have n5_ := am (KeepBut.blk hk (g' := gb360) (o := .cells #[.string (⟨#[97]⟩ : ByteArray), .int .i64 0] 99 (0, 0)) (by refine bq ?_; refine blk_far ?_ NB360_361.out _; refine bq ?_; refine blk_far ?_ NB360_361.out _; refine bq ?_; exact BK360.out) NB360_0.out (by simp)); have n6_ := am (KeepBut.blk hk (g' := gb361) (o := .cells #[.string (⟨#[98]⟩ : ByteArray), .int .i64 0] 99 (0, 0)) (by refine bq ?_; refine blk_put (cs := #[.string (⟨#[98]⟩ : ByteArray), .int .i64 0]) ?_ 1 _ rfl; refine bq ?_; refine blk_put (cs := #[.string (⟨#[]⟩ : ByteArray), .int .i64 0]) ?_ 0 _ rfl; refine bq ?_; exact BK361.out) NB361_0.out (by simp)); have n7_ := am (KeepBut.trans (ks HK.out) hk (.inl rfl)); have n8_ := am (hb); have n9_ := am (hi); clear BK355 BK356 BK357 BK358 BK359 BK360 BK361 HK HB HI0; revert n0_ n1_ n2_ n3_ n4_ n5_ n6_ n7_ n8_ n9_; intro BK355 BK356 BK357 BK358 BK359 BK360 BK361 HK HB HI0; (try clear hb); (try clear hb2); (try clear hgw); (try clear hk); (try clear hi)))
 (try simp only [Act.put, lsp])
 go_cut [17] (fun v17 wc => ∃ (kq : Nat) (x17_2 : Bool), v17 = .bool x17_2 ∧ Aside0 (spec_l2Sig.j0 kq t362 x17_2 s0_0 t363 (⟨#[101]⟩ : ByteArray) 0 (⟨#[105]⟩ : ByteArray) 1 (⟨#[109]⟩ : ByteArray) 2 (⟨#[115, 117, 99]⟩ : ByteArray) 1 (⟨#[97]⟩ : ByteArray) 0 (⟨#[98]⟩ : ByteArray) 0 = some (r1, r2)) ∧ Aside0 (kq ≤ k) ∧ Aside0 (wc.heap[gb355]? = some (.cells #[(.slice none 0 0)] 42 (0, 0))) ∧ Aside0 (wc.heap[gb356]? = some (.cells #[.string (⟨#[101]⟩ : ByteArray), .int .i64 0] 99 (0, 0))) ∧ Aside0 (wc.heap[gb357]? = some (.cells #[.string (⟨#[105]⟩ : ByteArray), .int .i64 1] 99 (0, 0))) ∧ Aside0 (wc.heap[gb358]? = some (.cells #[.string (⟨#[109]⟩ : ByteArray), .int .i64 2] 99 (0, 0))) ∧ Aside0 (wc.heap[gb359]? = some (.cells #[.string (⟨#[115, 117, 99]⟩ : ByteArray), .int .i64 1] 99 (0, 0))) ∧ Aside0 (wc.heap[gb360]? = some (.cells #[.string (⟨#[97]⟩ : ByteArray), .int .i64 0] 99 (0, 0))) ∧ Aside0 (wc.heap[gb361]? = some (.cells #[.string (⟨#[98]⟩ : ByteArray), .int .i64 0] 99 (0, 0))) ∧ Aside0 (IsS148 w0 wc g s0_0 t363) ∧ Aside0 (KeepBut w wc g none) ∧ Aside0 (Below w0.heap.size w0 wc))
 case first =>
  have H := HC3.out
  clear HC3
  by_cases c45 : t362 = 0
  ·rw [if_pos c45] at H
   have c45b0 : (t362 == 0) = true := beq_iff_eq.mpr c45
   have c45b1 : (t362 != 0) = false := bne_eq_false_iff_eq.mpr c45
   clear c45
   (first | rw [c45b0] | (simp only [i64_w, i32_w]; rw [c45b0]) | skip)
   have H' := am H
   clear H
   go_wp2
   go_meet
   case rel => exact ⟨_, ((t362 == 0)), (by first | rfl | (simp; done) | (simp [*]; done)), H', ⟨by first | omega | exact Nat.le_refl _⟩, ⟨by refine bq ?_; exact BK355.out⟩, ⟨by refine bq ?_; exact BK356.out⟩, ⟨by refine bq ?_; exact BK357.out⟩, ⟨by refine bq ?_; exact BK358.out⟩, ⟨by refine bq ?_; exact BK359.out⟩, ⟨by refine bq ?_; exact BK360.out⟩, ⟨by refine bq ?_; exact BK361.out⟩, ⟨by exact IsS148.q HI0.out⟩, ⟨by exact ks HK.out⟩, ⟨by exact hsk HB.out (IsS148.ge HI0.out)⟩⟩
  ·rw [if_neg c45] at H
   have c45b0 : (t362 == 0) = false := beq_eq_false_iff_ne.mpr c45
   have c45b1 : (t362 != 0) = true := bne_iff_ne.mpr c45
   (first | rw [c45b0] | (simp only [i64_w, i32_w]; rw [c45b0]) | skip)
   by_cases c46 : t362 = 1
   ·rw [if_pos c46] at H
    have c46b0 : (t362 == 1) = true := beq_iff_eq.mpr c46
    have c46b1 : (t362 != 1) = false := bne_eq_false_iff_eq.mpr c46
    clear c46
    have H' := am H
    clear H
    go_wp2
    go_meet
    case rel => exact ⟨_, ((t362 == 1)), (by first | rfl | (simp; done) | (simp [*]; done)), H', ⟨by first | omega | exact Nat.le_refl _⟩, ⟨by refine bq ?_; exact BK355.out⟩, ⟨by refine bq ?_; exact BK356.out⟩, ⟨by refine bq ?_; exact BK357.out⟩, ⟨by refine bq ?_; exact BK358.out⟩, ⟨by refine bq ?_; exact BK359.out⟩, ⟨by refine bq ?_; exact BK360.out⟩, ⟨by refine bq ?_; exact BK361.out⟩, ⟨by exact IsS148.q HI0.out⟩, ⟨by exact ks HK.out⟩, ⟨by exact hsk HB.out (IsS148.ge HI0.out)⟩⟩
   ·rw [if_neg c46] at H
    have c46b0 : (t362 == 1) = false := beq_eq_false_iff_ne.mpr c46
    have c46b1 : (t362 != 1) = true := bne_iff_ne.mpr c46
    have H' := am H
    clear H
    go_wp2
    go_meet
    case rel => exact ⟨_, ((t362 == 2)), (by first | rfl | (simp; done) | (simp [*]; done)), H', ⟨by first | omega | exact Nat.le_refl _⟩, ⟨by refine bq ?_; exact BK355.out⟩, ⟨by refine bq ?_; exact BK356.out⟩, ⟨by refine bq ?_; exact BK357.out⟩, ⟨by refine bq ?_; exact BK358.out⟩, ⟨by refine bq ?_; exact BK359.out⟩, ⟨by refine bq ?_; exact BK360.out⟩, ⟨by refine bq ?_; exact BK361.out⟩, ⟨by exact IsS148.q HI0.out⟩, ⟨by exact ks HK.out⟩, ⟨by exact hsk HB.out (IsS148.ge HI0.out)⟩⟩
 case rest =>
  clear HC3
  try clear c1
  try clear c2
  try clear p2
  try clear c3
  try clear c4
  try clear c6
  try clear c7
  try clear c8
  try clear c10
  try clear c11
  try clear c12
  try clear c15
  try clear c16
  try clear c17
  try clear c18
  try clear c21
  try clear c22
  try clear c23
  try clear c24
  try clear c25
  try clear c28
  try clear c29
  try clear c30
  try clear c31
  try clear c32
  try clear c33
  try clear c36
  try clear c37
  try clear c38
  try clear c39
  try clear c40
  try clear c41
  try clear c42
  try clear c45
  try clear c45b0
  try clear c45b1
  try clear c46
  try clear c46b0
  try clear c46b1
  try clear hcz13_0
  try clear hcz13_1
  try clear hcz19_0
  try clear hcz19_1
  try clear hcz26_0
  try clear hcz26_1
  try clear hcz34_0
  try clear hcz34_1
  try clear hcz43_0
  try clear hcz43_1
  try clear hcz8_0
  try clear hcz8_1
  try clear hfz13_0
  try clear hfz13_1
  try clear hfz19_0
  try clear hfz19_1
  try clear hfz26_0
  try clear hfz26_1
  try clear hfz34_0
  try clear hfz34_1
  try clear hfz43_0
  try clear hfz43_1
  try clear hfz8_0
  try clear hfz8_1
  obtain ⟨kq, x17_2, rfl, HA, HJ2, BK355, BK356, BK357, BK358, BK359, BK360, BK361, HI0, HK, HB⟩ := hcut
  cases kq with
  | zero => exact absurd HA.out (by simp [spec_l2Sig.j0])
  | succ kj2 =>
   have H := HA.out
   clear HA
   simp only [spec_l2Sig.j0] at H
   by_cases c47 : x17_2 = true
   ·subst c47
    have H1 : (some ((([(⟨(⟨#[101]⟩ : ByteArray), 0⟩ : S99), (⟨(⟨#[105]⟩ : ByteArray), 1⟩ : S99), (⟨(⟨#[109]⟩ : ByteArray), 2⟩ : S99), (⟨(⟨#[97]⟩ : ByteArray), 0⟩ : S99)] : List (S99))), t363)) = some (r1, r2) := by rw [if_pos rfl] at H; exact H
    clear H
    have H := H1
    clear H1
    obtain ⟨y364, hy364⟩ : ∃ y_ : List (S99), y_ = (([(⟨(⟨#[101]⟩ : ByteArray), 0⟩ : S99), (⟨(⟨#[105]⟩ : ByteArray), 1⟩ : S99), (⟨(⟨#[109]⟩ : ByteArray), 2⟩ : S99), (⟨(⟨#[97]⟩ : ByteArray), 0⟩ : S99)] : List (S99))) := ⟨_, rfl⟩
    replace H : (some (y364, t363)) = some (r1, r2) := by first | (rw [hy364]; with_reducible exact H) | (have H2_ := (Option.bind_some _ _).symm.trans H; rw [hy364]; with_reducible exact H2_) | (have H2_ := (Option.bind_some _ _).symm.trans H; with_reducible exact H2_) | with_reducible exact H | (rw [hy364]; exact H) | exact H
    have Ny364 := am hy364
    clear hy364
    simp only [Option.some.injEq, Prod.mk.injEq] at H
    obtain ⟨rfl, rfl⟩ := H
    have hnb48 := NB356_355.out
    have hnc48 := NB355_356.out
    have hnb49 := NB356_357.out
    have hnc49 := NB357_356.out
    have hnb50 := NB356_358.out
    have hnc50 := NB358_356.out
    have hnb51 := NB356_359.out
    have hnc51 := NB359_356.out
    have hnb52 := NB356_360.out
    have hnc52 := NB360_356.out
    have hnb53 := NB356_361.out
    have hnc53 := NB361_356.out
    have hnb54 := NB356_0.out
    have hnc54 := NB0_356.out
    have hcz55_0 : wc.cell? ⟨gb356, 0, none⟩ = some (.string (⟨#[101]⟩ : ByteArray)) := (blk_cell BK356.out 0).trans rfl
    have hcz55_1 : wc.cell? ⟨gb356, 1, none⟩ = some (.int .i64 0) := (blk_cell BK356.out 1).trans rfl
    have hfz55_0 := blk_frozen BK356.out 0
    have hfz55_1 := blk_frozen BK356.out 1
    have hnb56 := NB357_355.out
    have hnc56 := NB355_357.out
    have hnb57 := NB357_358.out
    have hnc57 := NB358_357.out
    have hnb58 := NB357_359.out
    have hnc58 := NB359_357.out
    have hnb59 := NB357_360.out
    have hnc59 := NB360_357.out
    have hnb60 := NB357_361.out
    have hnc60 := NB361_357.out
    have hnb61 := NB357_0.out
    have hnc61 := NB0_357.out
    have hcz62_0 : wc.cell? ⟨gb357, 0, none⟩ = some (.string (⟨#[105]⟩ : ByteArray)) := (blk_cell BK357.out 0).trans rfl
    have hcz62_1 : wc.cell? ⟨gb357, 1, none⟩ = some (.int .i64 1) := (blk_cell BK357.out 1).trans rfl
    have hfz62_0 := blk_frozen BK357.out 0
    have hfz62_1 := blk_frozen BK357.out 1
    have hnb63 := NB358_355.out
    have hnc63 := NB355_358.out
    have hnb64 := NB358_359.out
    have hnc64 := NB359_358.out
    have hnb65 := NB358_360.out
    have hnc65 := NB360_358.out
    have hnb66 := NB358_361.out
    have hnc66 := NB361_358.out
    have hnb67 := NB358_0.out
    have hnc67 := NB0_358.out
    have hcz68_0 : wc.cell? ⟨gb358, 0, none⟩ = some (.string (⟨#[109]⟩ : ByteArray)) := (blk_cell BK358.out 0).trans rfl
    have hcz68_1 : wc.cell? ⟨gb358, 1, none⟩ = some (.int .i64 2) := (blk_cell BK358.out 1).trans rfl
    have hfz68_0 := blk_frozen BK358.out 0
    have hfz68_1 := blk_frozen BK358.out 1
    have hnb69 := NB360_355.out
    have hnc69 := NB355_360.out
    have hnb70 := NB360_359.out
    have hnc70 := NB359_360.out
    have hnb71 := NB360_361.out
    have hnc71 := NB361_360.out
    have hnb72 := NB360_0.out
    have hnc72 := NB0_360.out
    have hcz73_0 : wc.cell? ⟨gb360, 0, none⟩ = some (.string (⟨#[97]⟩ : ByteArray)) := (blk_cell BK360.out 0).trans rfl
    have hcz73_1 : wc.cell? ⟨gb360, 1, none⟩ = some (.int .i64 0) := (blk_cell BK360.out 1).trans rfl
    have hfz73_0 := blk_frozen BK360.out 0
    have hfz73_1 := blk_frozen BK360.out 1
    go_wp2_with (first | ((with_reducible refine gate_dst (N := 25) rfl ?_); refine Kd.R_lit k99 _ 99 ?hg (N := 25) ?hd (xs := ([(⟨(⟨#[101]⟩ : ByteArray), 0⟩ : S99), (⟨(⟨#[105]⟩ : ByteArray), 1⟩ : S99), (⟨(⟨#[109]⟩ : ByteArray), 2⟩ : S99), (⟨(⟨#[97]⟩ : ByteArray), 0⟩ : S99)] : List (S99))) (inner := [.string (⟨#[101]⟩ : ByteArray), .int .i64 0, .string (⟨#[105]⟩ : ByteArray), .int .i64 1, .string (⟨#[109]⟩ : ByteArray), .int .i64 2, .string (⟨#[97]⟩ : ByteArray), .int .i64 0]) (ok := fun _ => True) (okp := fun _ => True) ?hr ?hp (fun _ hk => hk) trivial (Below.refl _ _) (Nat.le_refl _) (by simp) ?_; (case hd => rfl); (case hg => rfl); (case hr => first | (go_simp; done) | (go_simp; rfl)); (case hp => exact (Reps.c2 (show Kd.M k99 _ _ _ (⟨(⟨#[101]⟩ : ByteArray), 0⟩ : S99) [.string (⟨#[101]⟩ : ByteArray), .int .i64 0] from (k99_mkM _ _ _ (⟨(⟨#[101]⟩ : ByteArray), 0⟩ : S99) )) (Reps.c2 (show Kd.M k99 _ _ _ (⟨(⟨#[105]⟩ : ByteArray), 1⟩ : S99) [.string (⟨#[105]⟩ : ByteArray), .int .i64 1] from (k99_mkM _ _ _ (⟨(⟨#[105]⟩ : ByteArray), 1⟩ : S99) )) (Reps.c2 (show Kd.M k99 _ _ _ (⟨(⟨#[109]⟩ : ByteArray), 2⟩ : S99) [.string (⟨#[109]⟩ : ByteArray), .int .i64 2] from (k99_mkM _ _ _ (⟨(⟨#[109]⟩ : ByteArray), 2⟩ : S99) )) (Reps.c2 (show Kd.M k99 _ _ _ (⟨(⟨#[97]⟩ : ByteArray), 0⟩ : S99) [.string (⟨#[97]⟩ : ByteArray), .int .i64 0] from (k99_mkM _ _ _ (⟨(⟨#[97]⟩ : ByteArray), 0⟩ : S99) )) (Reps.none _ _)))))); intro v365 w74 ho75 hb hg_ hnew_; clear hg_ hnew_; (first | rw [← Ny364.out] at ho75 | (simp only [Int.reduceToNat] at ho75; rw [← Ny364.out] at ho75)); have n0_ := am (Kd.R_lower (Kd.R_newB (Kd.R_newB (Kd.R_newB (Kd.R_newB (Kd.R_newB (Kd.R_newB ho75 (bq BK356.out)) (bq BK357.out)) (bq BK358.out)) (bq BK359.out)) (bq BK360.out)) (bq BK361.out)) (keep_size (w := w) (g := g) (row := none) (ks HK.out))); have n1_ := am (blk_below (bq BK355.out) hb); have n2_ := am (blk_below (bq BK356.out) hb); have n3_ := am (blk_below (bq BK357.out) hb); have n4_ := am (blk_below (bq BK358.out) hb); have n5_ := am (blk_below (bq BK359.out) hb); have n6_ := am (blk_below (bq BK360.out) hb); have n7_ := am (blk_below (bq BK361.out) hb); have n8_ := am (IsS148.below (IsS148.q HI0.out) hb); have n9_ := am (KeepBut.trans (ks HK.out) (KeepBut.of_below hb g none) (.inl rfl)); have n10_ := am (below_step (hsk HB.out (IsS148.ge HI0.out)) hb); clear BK355 BK356 BK357 BK358 BK359 BK360 BK361 HI0 HK HB; revert n0_ n1_ n2_ n3_ n4_ n5_ n6_ n7_ n8_ n9_ n10_; intro HO366 BK355 BK356 BK357 BK358 BK359 BK360 BK361 HI0 HK HB; clear hb ho75; obtain ⟨Ao76, co76, eo76⟩ := Kd.R_slice HO366.out; subst eo76; have hnb77 := NB355_359.out; have hnc77 := NB359_355.out; have hnb78 := NB355_361.out; have hnc78 := NB361_355.out; have hnb79 := NB355_0.out; have hnc79 := NB0_355.out; have hcz80_0 : w74.cell? ⟨gb355, 0, none⟩ = some (.slice none 0 0) := (blk_cell BK355.out 0).trans rfl; have hfz80_0 := blk_frozen BK355.out 0))
    refine bodyPost_ret (results_cell_row rfl _ _ gb355 42 #[.slice Ao76 y364.length co76] (0, 0) _ rfl (by refine bq ?_; refine blk_put (cs := #[.slice none 0 0]) ?_ 0 _ rfl; refine bq ?_; exact BK355.out) Tryd.underlying42 rfl (by kernel_rfl)) rfl ?_
    exact ⟨_, by first | rfl | (simp [errW_none, errW_some] <;> rfl) | (simp [*, errW_none, errW_some] <;> rfl), by (with_reducible repeat (first | apply Kd.R_alloc | apply Kd.R_drewN | apply Kd.R_drew)); exact Kd.R_mono (Kd.R_far (p := ⟨gb355, 0, none⟩) (Kd.R_types HO366.out BK355.out (by decide)) (fun _ hk => hk.2) (.slice Ao76 y364.length co76)) (fun _ hk => trivial), by exact IsS148.q HI0.out, by exact hsk HB.out (IsS148.ge HI0.out), by exact ks HK.out⟩
   ·replace c47 := Bool.eq_false_iff.mpr c47
    subst c47
    have H1 : (if t362 = 3 then (spec_l2Sig.j1 kj2 t362 (t362 == 3) s0_0 t363 (⟨#[101]⟩ : ByteArray) 0 (⟨#[105]⟩ : ByteArray) 1 (⟨#[109]⟩ : ByteArray) 2 (⟨#[115, 117, 99]⟩ : ByteArray) 1 (⟨#[97]⟩ : ByteArray) 0 (⟨#[98]⟩ : ByteArray) 0) else (spec_l2Sig.j1 kj2 t362 (t362 == 4) s0_0 t363 (⟨#[101]⟩ : ByteArray) 0 (⟨#[105]⟩ : ByteArray) 1 (⟨#[109]⟩ : ByteArray) 2 (⟨#[115, 117, 99]⟩ : ByteArray) 1 (⟨#[97]⟩ : ByteArray) 0 (⟨#[98]⟩ : ByteArray) 0)) = some (r1, r2) := by rw [if_neg (show ¬ (false = true) by decide)] at H; exact H
    clear H
    have H := H1
    clear H1
    have HC81 := am H
    clear H
    go_upto_if 27 with (fail)
    go_cut [27] (fun v27 wc => ∃ (kq : Nat) (x27_80 : Bool), v27 = .bool x27_80 ∧ Aside0 (spec_l2Sig.j1 kq t362 x27_80 s0_0 t363 (⟨#[101]⟩ : ByteArray) 0 (⟨#[105]⟩ : ByteArray) 1 (⟨#[109]⟩ : ByteArray) 2 (⟨#[115, 117, 99]⟩ : ByteArray) 1 (⟨#[97]⟩ : ByteArray) 0 (⟨#[98]⟩ : ByteArray) 0 = some (r1, r2)) ∧ Aside0 (kq ≤ kj2) ∧ Aside0 (wc.heap[gb355]? = some (.cells #[(.slice none 0 0)] 42 (0, 0))) ∧ Aside0 (wc.heap[gb356]? = some (.cells #[.string (⟨#[101]⟩ : ByteArray), .int .i64 0] 99 (0, 0))) ∧ Aside0 (wc.heap[gb357]? = some (.cells #[.string (⟨#[105]⟩ : ByteArray), .int .i64 1] 99 (0, 0))) ∧ Aside0 (wc.heap[gb358]? = some (.cells #[.string (⟨#[109]⟩ : ByteArray), .int .i64 2] 99 (0, 0))) ∧ Aside0 (wc.heap[gb359]? = some (.cells #[.string (⟨#[115, 117, 99]⟩ : ByteArray), .int .i64 1] 99 (0, 0))) ∧ Aside0 (wc.heap[gb360]? = some (.cells #[.string (⟨#[97]⟩ : ByteArray), .int .i64 0] 99 (0, 0))) ∧ Aside0 (wc.heap[gb361]? = some (.cells #[.string (⟨#[98]⟩ : ByteArray), .int .i64 0] 99 (0, 0))) ∧ Aside0 (IsS148 w0 wc g s0_0 t363) ∧ Aside0 (KeepBut w wc g none) ∧ Aside0 (Below w0.heap.size w0 wc))
    case first =>
     have H := HC81.out
     clear HC81
     by_cases c82 : t362 = 3
     ·rw [if_pos c82] at H
      have c82b0 : (t362 == 3) = true := beq_iff_eq.mpr c82
      have c82b1 : (t362 != 3) = false := bne_eq_false_iff_eq.mpr c82
      clear c82
      (first | rw [c82b0] | (simp only [i64_w, i32_w]; rw [c82b0]) | skip)
      have H' := am H
      clear H
      go_wp2
      go_meet
      case rel => exact ⟨_, ((t362 == 3)), (by first | rfl | (simp; done) | (simp [*]; done)), H', ⟨by have := HJ2.out; first | omega | exact Nat.le_refl _⟩, ⟨by refine bq ?_; exact BK355.out⟩, ⟨by refine bq ?_; exact BK356.out⟩, ⟨by refine bq ?_; exact BK357.out⟩, ⟨by refine bq ?_; exact BK358.out⟩, ⟨by refine bq ?_; exact BK359.out⟩, ⟨by refine bq ?_; exact BK360.out⟩, ⟨by refine bq ?_; exact BK361.out⟩, ⟨by exact IsS148.q HI0.out⟩, ⟨by exact ks HK.out⟩, ⟨by exact hsk HB.out (IsS148.ge HI0.out)⟩⟩
     ·rw [if_neg c82] at H
      have c82b0 : (t362 == 3) = false := beq_eq_false_iff_ne.mpr c82
      have c82b1 : (t362 != 3) = true := bne_iff_ne.mpr c82
      (first | rw [c82b0] | (simp only [i64_w, i32_w]; rw [c82b0]) | skip)
      have H' := am H
      clear H
      go_wp2
      go_meet
      case rel => exact ⟨_, ((t362 == 4)), (by first | rfl | (simp; done) | (simp [*]; done)), H', ⟨by have := HJ2.out; first | omega | exact Nat.le_refl _⟩, ⟨by refine bq ?_; exact BK355.out⟩, ⟨by refine bq ?_; exact BK356.out⟩, ⟨by refine bq ?_; exact BK357.out⟩, ⟨by refine bq ?_; exact BK358.out⟩, ⟨by refine bq ?_; exact BK359.out⟩, ⟨by refine bq ?_; exact BK360.out⟩, ⟨by refine bq ?_; exact BK361.out⟩, ⟨by exact IsS148.q HI0.out⟩, ⟨by exact ks HK.out⟩, ⟨by exact hsk HB.out (IsS148.ge HI0.out)⟩⟩
    case rest =>
     clear HC81
     try clear c1
     try clear c2
     try clear p2
     try clear c3
     try clear c4
     try clear c5
     try clear c6
     try clear c7
     try clear c8
     try clear c10
     try clear c11
     try clear c12
     try clear c15
     try clear c16
     try clear c17
     try clear c18
     try clear c21
     try clear c22
     try clear c23
     try clear c24
     try clear c25
     try clear c28
     try clear c29
     try clear c30
     try clear c31
     try clear c32
     try clear c33
     try clear c36
     try clear c37
     try clear c38
     try clear c39
     try clear c40
     try clear c41
     try clear c42
     try clear c45
     try clear c45b0
     try clear c45b1
     try clear c46
     try clear c46b0
     try clear c46b1
     try clear c47
     try clear c48
     try clear c49
     try clear c50
     try clear c51
     try clear c52
     try clear c53
     try clear c54
     try clear c56
     try clear c57
     try clear c58
     try clear c59
     try clear c60
     try clear c61
     try clear c63
     try clear c64
     try clear c65
     try clear c66
     try clear c67
     try clear c69
     try clear c70
     try clear c71
     try clear c72
     try clear c77
     try clear c78
     try clear c79
     try clear c82
     try clear c82b0
     try clear c82b1
     try clear hcz13_0
     try clear hcz13_1
     try clear hcz19_0
     try clear hcz19_1
     try clear hcz26_0
     try clear hcz26_1
     try clear hcz34_0
     try clear hcz34_1
     try clear hcz43_0
     try clear hcz43_1
     try clear hcz55_0
     try clear hcz55_1
     try clear hcz62_0
     try clear hcz62_1
     try clear hcz68_0
     try clear hcz68_1
     try clear hcz73_0
     try clear hcz73_1
     try clear hcz80_0
     try clear hcz8_0
     try clear hcz8_1
     try clear hfz13_0
     try clear hfz13_1
     try clear hfz19_0
     try clear hfz19_1
     try clear hfz26_0
     try clear hfz26_1
     try clear hfz34_0
     try clear hfz34_1
     try clear hfz43_0
     try clear hfz43_1
     try clear hfz55_0
     try clear hfz55_1
     try clear hfz62_0
     try clear hfz62_1
     try clear hfz68_0
     try clear hfz68_1
     try clear hfz73_0
     try clear hfz73_1
     try clear hfz80_0
     try clear hfz8_0
     try clear hfz8_1
     try clear p2
     obtain ⟨kq, x27_80, rfl, HA, HJ80, BK355, BK356, BK357, BK358, BK359, BK360, BK361, HI0, HK, HB⟩ := hcut
     cases kq with
     | zero => exact absurd HA.out (by simp [spec_l2Sig.j1])
     | succ kj80 =>
      have H := HA.out
      clear HA
      simp only [spec_l2Sig.j1] at H
      by_cases c83 : x27_80 = true
      ·subst c83
       have H1 : (some ((([(⟨(⟨#[97]⟩ : ByteArray), 0⟩ : S99), (⟨(⟨#[115, 117, 99]⟩ : ByteArray), 1⟩ : S99), (⟨(⟨#[97, 100, 100]⟩ : ByteArray), 2⟩ : S99), (⟨(⟨#[98]⟩ : ByteArray), 0⟩ : S99)] : List (S99))), t363)) = some (r1, r2) := by rw [if_pos rfl] at H; exact H
       clear H
       have H := H1
       clear H1
       obtain ⟨y367, hy367⟩ : ∃ y_ : List (S99), y_ = (([(⟨(⟨#[97]⟩ : ByteArray), 0⟩ : S99), (⟨(⟨#[115, 117, 99]⟩ : ByteArray), 1⟩ : S99), (⟨(⟨#[97, 100, 100]⟩ : ByteArray), 2⟩ : S99), (⟨(⟨#[98]⟩ : ByteArray), 0⟩ : S99)] : List (S99))) := ⟨_, rfl⟩
       replace H : (some (y367, t363)) = some (r1, r2) := by first | (rw [hy367]; with_reducible exact H) | (have H2_ := (Option.bind_some _ _).symm.trans H; rw [hy367]; with_reducible exact H2_) | (have H2_ := (Option.bind_some _ _).symm.trans H; with_reducible exact H2_) | with_reducible exact H | (rw [hy367]; exact H) | exact H
       have Ny367 := am hy367
       clear hy367
       simp only [Option.some.injEq, Prod.mk.injEq] at H
       obtain ⟨rfl, rfl⟩ := H
       have hnb84 := NB360_355.out
       have hnc84 := NB355_360.out
       have hnb85 := NB360_356.out
       have hnc85 := NB356_360.out
       have hnb86 := NB360_357.out
       have hnc86 := NB357_360.out
       have hnb87 := NB360_358.out
       have hnc87 := NB358_360.out
       have hnb88 := NB360_359.out
       have hnc88 := NB359_360.out
       have hnb89 := NB360_361.out
       have hnc89 := NB361_360.out
       have hnb90 := NB360_0.out
       have hnc90 := NB0_360.out
       have hcz91_0 : wc.cell? ⟨gb360, 0, none⟩ = some (.string (⟨#[97]⟩ : ByteArray)) := (blk_cell BK360.out 0).trans rfl
       have hcz91_1 : wc.cell? ⟨gb360, 1, none⟩ = some (.int .i64 0) := (blk_cell BK360.out 1).trans rfl
       have hfz91_0 := blk_frozen BK360.out 0
       have hfz91_1 := blk_frozen BK360.out 1
       have hnb92 := NB359_355.out
       have hnc92 := NB355_359.out
       have hnb93 := NB359_356.out
       have hnc93 := NB356_359.out
       have hnb94 := NB359_357.out
       have hnc94 := NB357_359.out
       have hnb95 := NB359_358.out
       have hnc95 := NB358_359.out
       have hnb96 := NB359_361.out
       have hnc96 := NB361_359.out
       have hnb97 := NB359_0.out
       have hnc97 := NB0_359.out
       have hcz98_0 : wc.cell? ⟨gb359, 0, none⟩ = some (.string (⟨#[115, 117, 99]⟩ : ByteArray)) := (blk_cell BK359.out 0).trans rfl
       have hcz98_1 : wc.cell? ⟨gb359, 1, none⟩ = some (.int .i64 1) := (blk_cell BK359.out 1).trans rfl
       have hfz98_0 := blk_frozen BK359.out 0
       have hfz98_1 := blk_frozen BK359.out 1
       have hnb99 := NB361_355.out
       have hnc99 := NB355_361.out
       have hnb100 := NB361_356.out
       have hnc100 := NB356_361.out
       have hnb101 := NB361_357.out
       have hnc101 := NB357_361.out
       have hnb102 := NB361_358.out
       have hnc102 := NB358_361.out
       have hnb103 := NB361_0.out
       have hnc103 := NB0_361.out
       have hcz104_0 : wc.cell? ⟨gb361, 0, none⟩ = some (.string (⟨#[98]⟩ : ByteArray)) := (blk_cell BK361.out 0).trans rfl
       have hcz104_1 : wc.cell? ⟨gb361, 1, none⟩ = some (.int .i64 0) := (blk_cell BK361.out 1).trans rfl
       have hfz104_0 := blk_frozen BK361.out 0
       have hfz104_1 := blk_frozen BK361.out 1
       go_wp2_with (first | ((with_reducible refine gate_dst (N := 34) rfl ?_); refine Kd.R_lit k99 _ 99 ?hg (N := 34) ?hd (xs := ([(⟨(⟨#[97]⟩ : ByteArray), 0⟩ : S99), (⟨(⟨#[115, 117, 99]⟩ : ByteArray), 1⟩ : S99), (⟨(⟨#[97, 100, 100]⟩ : ByteArray), 2⟩ : S99), (⟨(⟨#[98]⟩ : ByteArray), 0⟩ : S99)] : List (S99))) (inner := [.string (⟨#[97]⟩ : ByteArray), .int .i64 0, .string (⟨#[115, 117, 99]⟩ : ByteArray), .int .i64 1, .string (⟨#[97, 100, 100]⟩ : ByteArray), .int .i64 2, .string (⟨#[98]⟩ : ByteArray), .int .i64 0]) (ok := fun _ => True) (okp := fun _ => True) ?hr ?hp (fun _ hk => hk) trivial (Below.refl _ _) (Nat.le_refl _) (by simp) ?_; (case hd => rfl); (case hg => rfl); (case hr => first | (go_simp; done) | (go_simp; rfl)); (case hp => exact (Reps.c2 (show Kd.M k99 _ _ _ (⟨(⟨#[97]⟩ : ByteArray), 0⟩ : S99) [.string (⟨#[97]⟩ : ByteArray), .int .i64 0] from (k99_mkM _ _ _ (⟨(⟨#[97]⟩ : ByteArray), 0⟩ : S99) )) (Reps.c2 (show Kd.M k99 _ _ _ (⟨(⟨#[115, 117, 99]⟩ : ByteArray), 1⟩ : S99) [.string (⟨#[115, 117, 99]⟩ : ByteArray), .int .i64 1] from (k99_mkM _ _ _ (⟨(⟨#[115, 117, 99]⟩ : ByteArray), 1⟩ : S99) )) (Reps.c2 (show Kd.M k99 _ _ _ (⟨(⟨#[97, 100, 100]⟩ : ByteArray), 2⟩ : S99) [.string (⟨#[97, 100, 100]⟩ : ByteArray), .int .i64 2] from (k99_mkM _ _ _ (⟨(⟨#[97, 100, 100]⟩ : ByteArray), 2⟩ : S99) )) (Reps.c2 (show Kd.M k99 _ _ _ (⟨(⟨#[98]⟩ : ByteArray), 0⟩ : S99) [.string (⟨#[98]⟩ : ByteArray), .int .i64 0] from (k99_mkM _ _ _ (⟨(⟨#[98]⟩ : ByteArray), 0⟩ : S99) )) (Reps.none _ _)))))); intro v368 w105 ho106 hb hg_ hnew_; clear hg_ hnew_; (first | rw [← Ny367.out] at ho106 | (simp only [Int.reduceToNat] at ho106; rw [← Ny367.out] at ho106)); have n0_ := am (Kd.R_lower (Kd.R_newB (Kd.R_newB (Kd.R_newB (Kd.R_newB (Kd.R_newB (Kd.R_newB ho106 (bq BK356.out)) (bq BK357.out)) (bq BK358.out)) (bq BK359.out)) (bq BK360.out)) (bq BK361.out)) (keep_size (w := w) (g := g) (row := none) (ks HK.out))); have n1_ := am (blk_below (bq BK355.out) hb); have n2_ := am (blk_below (bq BK356.out) hb); have n3_ := am (blk_below (bq BK357.out) hb); have n4_ := am (blk_below (bq BK358.out) hb); have n5_ := am (blk_below (bq BK359.out) hb); have n6_ := am (blk_below (bq BK360.out) hb); have n7_ := am (blk_below (bq BK361.out) hb); have n8_ := am (IsS148.below (IsS148.q HI0.out) hb); have n9_ := am (KeepBut.trans (ks HK.out) (KeepBut.of_below hb g none) (.inl rfl)); have n10_ := am (below_step (hsk HB.out (IsS148.ge HI0.out)) hb); clear BK355 BK356 BK357 BK358 BK359 BK360 BK361 HI0 HK HB; revert n0_ n1_ n2_ n3_ n4_ n5_ n6_ n7_ n8_ n9_ n10_; intro HO369 BK355 BK356 BK357 BK358 BK359 BK360 BK361 HI0 HK HB; clear hb ho106; obtain ⟨Ao107, co107, eo107⟩ := Kd.R_slice HO369.out; subst eo107; have hnb108 := NB355_356.out; have hnc108 := NB356_355.out; have hnb109 := NB355_357.out; have hnc109 := NB357_355.out; have hnb110 := NB355_358.out; have hnc110 := NB358_355.out; have hnb111 := NB355_0.out; have hnc111 := NB0_355.out; have hcz112_0 : w105.cell? ⟨gb355, 0, none⟩ = some (.slice none 0 0) := (blk_cell BK355.out 0).trans rfl; have hfz112_0 := blk_frozen BK355.out 0))
       refine bodyPost_ret (results_cell_row rfl _ _ gb355 42 #[.slice Ao107 y367.length co107] (0, 0) _ rfl (by refine bq ?_; refine blk_put (cs := #[.slice none 0 0]) ?_ 0 _ rfl; refine bq ?_; exact BK355.out) Tryd.underlying42 rfl (by kernel_rfl)) rfl ?_
       exact ⟨_, by first | rfl | (simp [errW_none, errW_some] <;> rfl) | (simp [*, errW_none, errW_some] <;> rfl), by (with_reducible repeat (first | apply Kd.R_alloc | apply Kd.R_drewN | apply Kd.R_drew)); exact Kd.R_mono (Kd.R_far (p := ⟨gb355, 0, none⟩) (Kd.R_types HO369.out BK355.out (by decide)) (fun _ hk => hk.2) (.slice Ao107 y367.length co107)) (fun _ hk => trivial), by exact IsS148.q HI0.out, by exact hsk HB.out (IsS148.ge HI0.out), by exact ks HK.out⟩
      ·replace c83 := Bool.eq_false_iff.mpr c83
       subst c83
       have H1 : (if t362 = 5 then (some ((([(⟨(⟨#[97]⟩ : ByteArray), 0⟩ : S99), (⟨(⟨#[102]⟩ : ByteArray), 1⟩ : S99), (⟨(⟨#[103]⟩ : ByteArray), 1⟩ : S99)] : List (S99))), t363)) else (if t362 = 6 then (some ((([(⟨(⟨#[97]⟩ : ByteArray), 0⟩ : S99), (⟨(⟨#[98]⟩ : ByteArray), 0⟩ : S99), (⟨(⟨#[101]⟩ : ByteArray), 0⟩ : S99), (⟨(⟨#[109]⟩ : ByteArray), 2⟩ : S99), (⟨(⟨#[105]⟩ : ByteArray), 1⟩ : S99), (⟨(⟨#[115, 117, 99]⟩ : ByteArray), 1⟩ : S99)] : List (S99))), t363)) else (some ((([(⟨(⟨#[97]⟩ : ByteArray), 0⟩ : S99)] : List (S99))), t363)))) = some (r1, r2) := by rw [if_neg (show ¬ (false = true) by decide)] at H; exact H
       clear H
       have H := H1
       clear H1
       by_cases c113 : t362 = 5
       ·rw [if_pos c113] at H
        have c113b0 : (t362 == 5) = true := beq_iff_eq.mpr c113
        have c113b1 : (t362 != 5) = false := bne_eq_false_iff_eq.mpr c113
        clear c113
        obtain ⟨y370, hy370⟩ : ∃ y_ : List (S99), y_ = (([(⟨(⟨#[97]⟩ : ByteArray), 0⟩ : S99), (⟨(⟨#[102]⟩ : ByteArray), 1⟩ : S99), (⟨(⟨#[103]⟩ : ByteArray), 1⟩ : S99)] : List (S99))) := ⟨_, rfl⟩
        replace H : (some (y370, t363)) = some (r1, r2) := by first | (rw [hy370]; with_reducible exact H) | (have H2_ := (Option.bind_some _ _).symm.trans H; rw [hy370]; with_reducible exact H2_) | (have H2_ := (Option.bind_some _ _).symm.trans H; with_reducible exact H2_) | with_reducible exact H | (rw [hy370]; exact H) | exact H
        have Ny370 := am hy370
        clear hy370
        simp only [Option.some.injEq, Prod.mk.injEq] at H
        obtain ⟨rfl, rfl⟩ := H
        have hnb114 := NB360_355.out
        have hnc114 := NB355_360.out
        have hnb115 := NB360_356.out
        have hnc115 := NB356_360.out
        have hnb116 := NB360_357.out
        have hnc116 := NB357_360.out
        have hnb117 := NB360_358.out
        have hnc117 := NB358_360.out
        have hnb118 := NB360_359.out
        have hnc118 := NB359_360.out
        have hnb119 := NB360_361.out
        have hnc119 := NB361_360.out
        have hnb120 := NB360_0.out
        have hnc120 := NB0_360.out
        have hcz121_0 : wc.cell? ⟨gb360, 0, none⟩ = some (.string (⟨#[97]⟩ : ByteArray)) := (blk_cell BK360.out 0).trans rfl
        have hcz121_1 : wc.cell? ⟨gb360, 1, none⟩ = some (.int .i64 0) := (blk_cell BK360.out 1).trans rfl
        have hfz121_0 := blk_frozen BK360.out 0
        have hfz121_1 := blk_frozen BK360.out 1
        go_wp2_with (first | ((with_reducible refine gate_dst (N := 41) rfl ?_); refine Kd.R_lit k99 _ 99 ?hg (N := 41) ?hd (xs := ([(⟨(⟨#[97]⟩ : ByteArray), 0⟩ : S99), (⟨(⟨#[102]⟩ : ByteArray), 1⟩ : S99), (⟨(⟨#[103]⟩ : ByteArray), 1⟩ : S99)] : List (S99))) (inner := [.string (⟨#[97]⟩ : ByteArray), .int .i64 0, .string (⟨#[102]⟩ : ByteArray), .int .i64 1, .string (⟨#[103]⟩ : ByteArray), .int .i64 1]) (ok := fun _ => True) (okp := fun _ => True) ?hr ?hp (fun _ hk => hk) trivial (Below.refl _ _) (Nat.le_refl _) (by simp) ?_; (case hd => rfl); (case hg => rfl); (case hr => first | (go_simp; done) | (go_simp; rfl)); (case hp => exact (Reps.c2 (show Kd.M k99 _ _ _ (⟨(⟨#[97]⟩ : ByteArray), 0⟩ : S99) [.string (⟨#[97]⟩ : ByteArray), .int .i64 0] from (k99_mkM _ _ _ (⟨(⟨#[97]⟩ : ByteArray), 0⟩ : S99) )) (Reps.c2 (show Kd.M k99 _ _ _ (⟨(⟨#[102]⟩ : ByteArray), 1⟩ : S99) [.string (⟨#[102]⟩ : ByteArray), .int .i64 1] from (k99_mkM _ _ _ (⟨(⟨#[102]⟩ : ByteArray), 1⟩ : S99) )) (Reps.c2 (show Kd.M k99 _ _ _ (⟨(⟨#[103]⟩ : ByteArray), 1⟩ : S99) [.string (⟨#[103]⟩ : ByteArray), .int .i64 1] from (k99_mkM _ _ _ (⟨(⟨#[103]⟩ : ByteArray), 1⟩ : S99) )) (Reps.none _ _))))); intro v371 w122 ho123 hb hg_ hnew_; clear hg_ hnew_; (first | rw [← Ny370.out] at ho123 | (simp only [Int.reduceToNat] at ho123; rw [← Ny370.out] at ho123)); have n0_ := am (Kd.R_lower (Kd.R_newB (Kd.R_newB (Kd.R_newB (Kd.R_newB (Kd.R_newB (Kd.R_newB ho123 (bq BK356.out)) (bq BK357.out)) (bq BK358.out)) (bq BK359.out)) (bq BK360.out)) (bq BK361.out)) (keep_size (w := w) (g := g) (row := none) (ks HK.out))); have n1_ := am (blk_below (bq BK355.out) hb); have n2_ := am (blk_below (bq BK356.out) hb); have n3_ := am (blk_below (bq BK357.out) hb); have n4_ := am (blk_below (bq BK358.out) hb); have n5_ := am (blk_below (bq BK359.out) hb); have n6_ := am (blk_below (bq BK360.out) hb); have n7_ := am (blk_below (bq BK361.out) hb); have n8_ := am (IsS148.below (IsS148.q HI0.out) hb); have n9_ := am (KeepBut.trans (ks HK.out) (KeepBut.of_below hb g none) (.inl rfl)); have n10_ := am (below_step (hsk HB.out (IsS148.ge HI0.out)) hb); clear BK355 BK356 BK357 BK358 BK359 BK360 BK361 HI0 HK HB; revert n0_ n1_ n2_ n3_ n4_ n5_ n6_ n7_ n8_ n9_ n10_; intro HO372 BK355 BK356 BK357 BK358 BK359 BK360 BK361 HI0 HK HB; clear hb ho123; obtain ⟨Ao124, co124, eo124⟩ := Kd.R_slice HO372.out; subst eo124; have hnb125 := NB355_356.out; have hnc125 := NB356_355.out; have hnb126 := NB355_357.out; have hnc126 := NB357_355.out; have hnb127 := NB355_358.out; have hnc127 := NB358_355.out; have hnb128 := NB355_359.out; have hnc128 := NB359_355.out; have hnb129 := NB355_361.out; have hnc129 := NB361_355.out; have hnb130 := NB355_0.out; have hnc130 := NB0_355.out; have hcz131_0 : w122.cell? ⟨gb355, 0, none⟩ = some (.slice none 0 0) := (blk_cell BK355.out 0).trans rfl; have hfz131_0 := blk_frozen BK355.out 0))
        refine bodyPost_ret (results_cell_row rfl _ _ gb355 42 #[.slice Ao124 y370.length co124] (0, 0) _ rfl (by refine bq ?_; refine blk_put (cs := #[.slice none 0 0]) ?_ 0 _ rfl; refine bq ?_; exact BK355.out) Tryd.underlying42 rfl (by kernel_rfl)) rfl ?_
        exact ⟨_, by first | rfl | (simp [errW_none, errW_some] <;> rfl) | (simp [*, errW_none, errW_some] <;> rfl), by (with_reducible repeat (first | apply Kd.R_alloc | apply Kd.R_drewN | apply Kd.R_drew)); exact Kd.R_mono (Kd.R_far (p := ⟨gb355, 0, none⟩) (Kd.R_types HO372.out BK355.out (by decide)) (fun _ hk => hk.2) (.slice Ao124 y370.length co124)) (fun _ hk => trivial), by exact IsS148.q HI0.out, by exact hsk HB.out (IsS148.ge HI0.out), by exact ks HK.out⟩
       ·rw [if_neg c113] at H
        have c113b0 : (t362 == 5) = false := beq_eq_false_iff_ne.mpr c113
        have c113b1 : (t362 != 5) = true := bne_iff_ne.mpr c113
        by_cases c132 : t362 = 6
        ·rw [if_pos c132] at H
         have c132b0 : (t362 == 6) = true := beq_iff_eq.mpr c132
         have c132b1 : (t362 != 6) = false := bne_eq_false_iff_eq.mpr c132
         clear c132
         obtain ⟨y373, hy373⟩ : ∃ y_ : List (S99), y_ = (([(⟨(⟨#[97]⟩ : ByteArray), 0⟩ : S99), (⟨(⟨#[98]⟩ : ByteArray), 0⟩ : S99), (⟨(⟨#[101]⟩ : ByteArray), 0⟩ : S99), (⟨(⟨#[109]⟩ : ByteArray), 2⟩ : S99), (⟨(⟨#[105]⟩ : ByteArray), 1⟩ : S99), (⟨(⟨#[115, 117, 99]⟩ : ByteArray), 1⟩ : S99)] : List (S99))) := ⟨_, rfl⟩
         replace H : (some (y373, t363)) = some (r1, r2) := by first | (rw [hy373]; with_reducible exact H) | (have H2_ := (Option.bind_some _ _).symm.trans H; rw [hy373]; with_reducible exact H2_) | (have H2_ := (Option.bind_some _ _).symm.trans H; with_reducible exact H2_) | with_reducible exact H | (rw [hy373]; exact H) | exact H
         have Ny373 := am hy373
         clear hy373
         simp only [Option.some.injEq, Prod.mk.injEq] at H
         obtain ⟨rfl, rfl⟩ := H
         have hnb133 := NB360_355.out
         have hnc133 := NB355_360.out
         have hnb134 := NB360_356.out
         have hnc134 := NB356_360.out
         have hnb135 := NB360_357.out
         have hnc135 := NB357_360.out
         have hnb136 := NB360_358.out
         have hnc136 := NB358_360.out
         have hnb137 := NB360_359.out
         have hnc137 := NB359_360.out
         have hnb138 := NB360_361.out
         have hnc138 := NB361_360.out
         have hnb139 := NB360_0.out
         have hnc139 := NB0_360.out
         have hcz140_0 : wc.cell? ⟨gb360, 0, none⟩ = some (.string (⟨#[97]⟩ : ByteArray)) := (blk_cell BK360.out 0).trans rfl
         have hcz140_1 : wc.cell? ⟨gb360, 1, none⟩ = some (.int .i64 0) := (blk_cell BK360.out 1).trans rfl
         have hfz140_0 := blk_frozen BK360.out 0
         have hfz140_1 := blk_frozen BK360.out 1
         have hnb141 := NB361_355.out
         have hnc141 := NB355_361.out
         have hnb142 := NB361_356.out
         have hnc142 := NB356_361.out
         have hnb143 := NB361_357.out
         have hnc143 := NB357_361.out
         have hnb144 := NB361_358.out
         have hnc144 := NB358_361.out
         have hnb145 := NB361_359.out
         have hnc145 := NB359_361.out
         have hnb146 := NB361_0.out
         have hnc146 := NB0_361.out
         have hcz147_0 : wc.cell? ⟨gb361, 0, none⟩ = some (.string (⟨#[98]⟩ : ByteArray)) := (blk_cell BK361.out 0).trans rfl
         have hcz147_1 : wc.cell? ⟨gb361, 1, none⟩ = some (.int .i64 0) := (blk_cell BK361.out 1).trans rfl
         have hfz147_0 := blk_frozen BK361.out 0
         have hfz147_1 := blk_frozen BK361.out 1
         have hnb148 := NB356_355.out
         have hnc148 := NB355_356.out
         have hnb149 := NB356_357.out
         have hnc149 := NB357_356.out
         have hnb150 := NB356_358.out
         have hnc150 := NB358_356.out
         have hnb151 := NB356_359.out
         have hnc151 := NB359_356.out
         have hnb152 := NB356_0.out
         have hnc152 := NB0_356.out
         have hcz153_0 : wc.cell? ⟨gb356, 0, none⟩ = some (.string (⟨#[101]⟩ : ByteArray)) := (blk_cell BK356.out 0).trans rfl
         have hcz153_1 : wc.cell? ⟨gb356, 1, none⟩ = some (.int .i64 0) := (blk_cell BK356.out 1).trans rfl
         have hfz153_0 := blk_frozen BK356.out 0
         have hfz153_1 := blk_frozen BK356.out 1
         have hnb154 := NB358_355.out
         have hnc154 := NB355_358.out
         have hnb155 := NB358_357.out
         have hnc155 := NB357_358.out
         have hnb156 := NB358_359.out
         have hnc156 := NB359_358.out
         have hnb157 := NB358_0.out
         have hnc157 := NB0_358.out
         have hcz158_0 : wc.cell? ⟨gb358, 0, none⟩ = some (.string (⟨#[109]⟩ : ByteArray)) := (blk_cell BK358.out 0).trans rfl
         have hcz158_1 : wc.cell? ⟨gb358, 1, none⟩ = some (.int .i64 2) := (blk_cell BK358.out 1).trans rfl
         have hfz158_0 := blk_frozen BK358.out 0
         have hfz158_1 := blk_frozen BK358.out 1
         have hnb159 := NB357_355.out
         have hnc159 := NB355_357.out
         have hnb160 := NB357_359.out
         have hnc160 := NB359_357.out
         have hnb161 := NB357_0.out
         have hnc161 := NB0_357.out
         have hcz162_0 : wc.cell? ⟨gb357, 0, none⟩ = some (.string (⟨#[105]⟩ : ByteArray)) := (blk_cell BK357.out 0).trans rfl
         have hcz162_1 : wc.cell? ⟨gb357, 1, none⟩ = some (.int .i64 1) := (blk_cell BK357.out 1).trans rfl
         have hfz162_0 := blk_frozen BK357.out 0
         have hfz162_1 := blk_frozen BK357.out 1
         have hnb163 := NB359_355.out
         have hnc163 := NB355_359.out
         have hnb164 := NB359_0.out
         have hnc164 := NB0_359.out
         have hcz165_0 : wc.cell? ⟨gb359, 0, none⟩ = some (.string (⟨#[115, 117, 99]⟩ : ByteArray)) := (blk_cell BK359.out 0).trans rfl
         have hcz165_1 : wc.cell? ⟨gb359, 1, none⟩ = some (.int .i64 1) := (blk_cell BK359.out 1).trans rfl
         have hfz165_0 := blk_frozen BK359.out 0
         have hfz165_1 := blk_frozen BK359.out 1
         go_wp2_with (first | ((with_reducible refine gate_dst (N := 51) rfl ?_); refine Kd.R_lit k99 _ 99 ?hg (N := 51) ?hd (xs := ([(⟨(⟨#[97]⟩ : ByteArray), 0⟩ : S99), (⟨(⟨#[98]⟩ : ByteArray), 0⟩ : S99), (⟨(⟨#[101]⟩ : ByteArray), 0⟩ : S99), (⟨(⟨#[109]⟩ : ByteArray), 2⟩ : S99), (⟨(⟨#[105]⟩ : ByteArray), 1⟩ : S99), (⟨(⟨#[115, 117, 99]⟩ : ByteArray), 1⟩ : S99)] : List (S99))) (inner := [.string (⟨#[97]⟩ : ByteArray), .int .i64 0, .string (⟨#[98]⟩ : ByteArray), .int .i64 0, .string (⟨#[101]⟩ : ByteArray), .int .i64 0, .string (⟨#[109]⟩ : ByteArray), .int .i64 2, .string (⟨#[105]⟩ : ByteArray), .int .i64 1, .string (⟨#[115, 117, 99]⟩ : ByteArray), .int .i64 1]) (ok := fun _ => True) (okp := fun _ => True) ?hr ?hp (fun _ hk => hk) trivial (Below.refl _ _) (Nat.le_refl _) (by simp) ?_; (case hd => rfl); (case hg => rfl); (case hr => first | (go_simp; done) | (go_simp; rfl)); (case hp => exact (Reps.c2 (show Kd.M k99 _ _ _ (⟨(⟨#[97]⟩ : ByteArray), 0⟩ : S99) [.string (⟨#[97]⟩ : ByteArray), .int .i64 0] from (k99_mkM _ _ _ (⟨(⟨#[97]⟩ : ByteArray), 0⟩ : S99) )) (Reps.c2 (show Kd.M k99 _ _ _ (⟨(⟨#[98]⟩ : ByteArray), 0⟩ : S99) [.string (⟨#[98]⟩ : ByteArray), .int .i64 0] from (k99_mkM _ _ _ (⟨(⟨#[98]⟩ : ByteArray), 0⟩ : S99) )) (Reps.c2 (show Kd.M k99 _ _ _ (⟨(⟨#[101]⟩ : ByteArray), 0⟩ : S99) [.string (⟨#[101]⟩ : ByteArray), .int .i64 0] from (k99_mkM _ _ _ (⟨(⟨#[101]⟩ : ByteArray), 0⟩ : S99) )) (Reps.c2 (show Kd.M k99 _ _ _ (⟨(⟨#[109]⟩ : ByteArray), 2⟩ : S99) [.string (⟨#[109]⟩ : ByteArray), .int .i64 2] from (k99_mkM _ _ _ (⟨(⟨#[109]⟩ : ByteArray), 2⟩ : S99) )) (Reps.c2 (show Kd.M k99 _ _ _ (⟨(⟨#[105]⟩ : ByteArray), 1⟩ : S99) [.string (⟨#[105]⟩ : ByteArray), .int .i64 1] from (k99_mkM _ _ _ (⟨(⟨#[105]⟩ : ByteArray), 1⟩ : S99) )) (Reps.c2 (show Kd.M k99 _ _ _ (⟨(⟨#[115, 117, 99]⟩ : ByteArray), 1⟩ : S99) [.string (⟨#[115, 117, 99]⟩ : ByteArray), .int .i64 1] from (k99_mkM _ _ _ (⟨(⟨#[115, 117, 99]⟩ : ByteArray), 1⟩ : S99) )) (Reps.none _ _)))))))); intro v374 w166 ho167 hb hg_ hnew_; clear hg_ hnew_; (first | rw [← Ny373.out] at ho167 | (simp only [Int.reduceToNat] at ho167; rw [← Ny373.out] at ho167)); have n0_ := am (Kd.R_lower (Kd.R_newB (Kd.R_newB (Kd.R_newB (Kd.R_newB (Kd.R_newB (Kd.R_newB ho167 (bq BK356.out)) (bq BK357.out)) (bq BK358.out)) (bq BK359.out)) (bq BK360.out)) (bq BK361.out)) (keep_size (w := w) (g := g) (row := none) (ks HK.out))); have n1_ := am (blk_below (bq BK355.out) hb); have n2_ := am (blk_below (bq BK356.out) hb); have n3_ := am (blk_below (bq BK357.out) hb); have n4_ := am (blk_below (bq BK358.out) hb); have n5_ := am (blk_below (bq BK359.out) hb); have n6_ := am (blk_below (bq BK360.out) hb); have n7_ := am (blk_below (bq BK361.out) hb); have n8_ := am (IsS148.below (IsS148.q HI0.out) hb); have n9_ := am (KeepBut.trans (ks HK.out) (KeepBut.of_below hb g none) (.inl rfl)); have n10_ := am (below_step (hsk HB.out (IsS148.ge HI0.out)) hb); clear BK355 BK356 BK357 BK358 BK359 BK360 BK361 HI0 HK HB; revert n0_ n1_ n2_ n3_ n4_ n5_ n6_ n7_ n8_ n9_ n10_; intro HO375 BK355 BK356 BK357 BK358 BK359 BK360 BK361 HI0 HK HB; clear hb ho167; obtain ⟨Ao168, co168, eo168⟩ := Kd.R_slice HO375.out; subst eo168; have hnb169 := NB355_0.out; have hnc169 := NB0_355.out; have hcz170_0 : w166.cell? ⟨gb355, 0, none⟩ = some (.slice none 0 0) := (blk_cell BK355.out 0).trans rfl; have hfz170_0 := blk_frozen BK355.out 0))
         refine bodyPost_ret (results_cell_row rfl _ _ gb355 42 #[.slice Ao168 y373.length co168] (0, 0) _ rfl (by refine bq ?_; refine blk_put (cs := #[.slice none 0 0]) ?_ 0 _ rfl; refine bq ?_; exact BK355.out) Tryd.underlying42 rfl (by kernel_rfl)) rfl ?_
         exact ⟨_, by first | rfl | (simp [errW_none, errW_some] <;> rfl) | (simp [*, errW_none, errW_some] <;> rfl), by (with_reducible repeat (first | apply Kd.R_alloc | apply Kd.R_drewN | apply Kd.R_drew)); exact Kd.R_mono (Kd.R_far (p := ⟨gb355, 0, none⟩) (Kd.R_types HO375.out BK355.out (by decide)) (fun _ hk => hk.2) (.slice Ao168 y373.length co168)) (fun _ hk => trivial), by exact IsS148.q HI0.out, by exact hsk HB.out (IsS148.ge HI0.out), by exact ks HK.out⟩
        ·rw [if_neg c132] at H
         have c132b0 : (t362 == 6) = false := beq_eq_false_iff_ne.mpr c132
         have c132b1 : (t362 != 6) = true := bne_iff_ne.mpr c132
         obtain ⟨y376, hy376⟩ : ∃ y_ : List (S99), y_ = (([(⟨(⟨#[97]⟩ : ByteArray), 0⟩ : S99)] : List (S99))) := ⟨_, rfl⟩
         replace H : (some (y376, t363)) = some (r1, r2) := by first | (rw [hy376]; with_reducible exact H) | (have H2_ := (Option.bind_some _ _).symm.trans H; rw [hy376]; with_reducible exact H2_) | (have H2_ := (Option.bind_some _ _).symm.trans H; with_reducible exact H2_) | with_reducible exact H | (rw [hy376]; exact H) | exact H
         have Ny376 := am hy376
         clear hy376
         simp only [Option.some.injEq, Prod.mk.injEq] at H
         obtain ⟨rfl, rfl⟩ := H
         have hnb171 := NB360_355.out
         have hnc171 := NB355_360.out
         have hnb172 := NB360_356.out
         have hnc172 := NB356_360.out
         have hnb173 := NB360_357.out
         have hnc173 := NB357_360.out
         have hnb174 := NB360_358.out
         have hnc174 := NB358_360.out
         have hnb175 := NB360_359.out
         have hnc175 := NB359_360.out
         have hnb176 := NB360_361.out
         have hnc176 := NB361_360.out
         have hnb177 := NB360_0.out
         have hnc177 := NB0_360.out
         have hcz178_0 : wc.cell? ⟨gb360, 0, none⟩ = some (.string (⟨#[97]⟩ : ByteArray)) := (blk_cell BK360.out 0).trans rfl
         have hcz178_1 : wc.cell? ⟨gb360, 1, none⟩ = some (.int .i64 0) := (blk_cell BK360.out 1).trans rfl
         have hfz178_0 := blk_frozen BK360.out 0
         have hfz178_1 := blk_frozen BK360.out 1
         go_wp2_with (first | ((with_reducible refine gate_dst (N := 54) rfl ?_); refine Kd.R_lit k99 _ 99 ?hg (N := 54) ?hd (xs := ([(⟨(⟨#[97]⟩ : ByteArray), 0⟩ : S99)] : List (S99))) (inner := [.string (⟨#[97]⟩ : ByteArray), .int .i64 0]) (ok := fun _ => True) (okp := fun _ => True) ?hr ?hp (fun _ hk => hk) trivial (Below.refl _ _) (Nat.le_refl _) (by simp) ?_; (case hd => rfl); (case hg => rfl); (case hr => first | (go_simp; done) | (go_simp; rfl)); (case hp => exact (Reps.c2 (show Kd.M k99 _ _ _ (⟨(⟨#[97]⟩ : ByteArray), 0⟩ : S99) [.string (⟨#[97]⟩ : ByteArray), .int .i64 0] from (k99_mkM _ _ _ (⟨(⟨#[97]⟩ : ByteArray), 0⟩ : S99) )) (Reps.none _ _))); intro v377 w179 ho180 hb hg_ hnew_; clear hg_ hnew_; (first | rw [← Ny376.out] at ho180 | (simp only [Int.reduceToNat] at ho180; rw [← Ny376.out] at ho180)); have n0_ := am (Kd.R_lower (Kd.R_newB (Kd.R_newB (Kd.R_newB (Kd.R_newB (Kd.R_newB (Kd.R_newB ho180 (bq BK356.out)) (bq BK357.out)) (bq BK358.out)) (bq BK359.out)) (bq BK360.out)) (bq BK361.out)) (keep_size (w := w) (g := g) (row := none) (ks HK.out))); have n1_ := am (blk_below (bq BK355.out) hb); have n2_ := am (blk_below (bq BK356.out) hb); have n3_ := am (blk_below (bq BK357.out) hb); have n4_ := am (blk_below (bq BK358.out) hb); have n5_ := am (blk_below (bq BK359.out) hb); have n6_ := am (blk_below (bq BK360.out) hb); have n7_ := am (blk_below (bq BK361.out) hb); have n8_ := am (IsS148.below (IsS148.q HI0.out) hb); have n9_ := am (KeepBut.trans (ks HK.out) (KeepBut.of_below hb g none) (.inl rfl)); have n10_ := am (below_step (hsk HB.out (IsS148.ge HI0.out)) hb); clear BK355 BK356 BK357 BK358 BK359 BK360 BK361 HI0 HK HB; revert n0_ n1_ n2_ n3_ n4_ n5_ n6_ n7_ n8_ n9_ n10_; intro HO378 BK355 BK356 BK357 BK358 BK359 BK360 BK361 HI0 HK HB; clear hb ho180; obtain ⟨Ao181, co181, eo181⟩ := Kd.R_slice HO378.out; subst eo181; have hnb182 := NB355_356.out; have hnc182 := NB356_355.out; have hnb183 := NB355_357.out; have hnc183 := NB357_355.out; have hnb184 := NB355_358.out; have hnc184 := NB358_355.out; have hnb185 := NB355_359.out; have hnc185 := NB359_355.out; have hnb186 := NB355_361.out; have hnc186 := NB361_355.out; have hnb187 := NB355_0.out; have hnc187 := NB0_355.out; have hcz188_0 : w179.cell? ⟨gb355, 0, none⟩ = some (.slice none 0 0) := (blk_cell BK355.out 0).trans rfl; have hfz188_0 := blk_frozen BK355.out 0))
         refine bodyPost_ret (results_cell_row rfl _ _ gb355 42 #[.slice Ao181 y376.length co181] (0, 0) _ rfl (by refine bq ?_; refine blk_put (cs := #[.slice none 0 0]) ?_ 0 _ rfl; refine bq ?_; exact BK355.out) Tryd.underlying42 rfl (by kernel_rfl)) rfl ?_
         exact ⟨_, by first | rfl | (simp [errW_none, errW_some] <;> rfl) | (simp [*, errW_none, errW_some] <;> rfl), by (with_reducible repeat (first | apply Kd.R_alloc | apply Kd.R_drewN | apply Kd.R_drew)); exact Kd.R_mono (Kd.R_far (p := ⟨gb355, 0, none⟩) (Kd.R_types HO378.out BK355.out (by decide)) (fun _ hk => hk.2) (.slice Ao181 y376.length co181)) (fun _ hk => trivial), by exact IsS148.q HI0.out, by exact hsk HB.out (IsS148.ge HI0.out), by exact ks HK.out⟩
end Go.Proofs.YtedkbpbodkmhlaaDoor.P
