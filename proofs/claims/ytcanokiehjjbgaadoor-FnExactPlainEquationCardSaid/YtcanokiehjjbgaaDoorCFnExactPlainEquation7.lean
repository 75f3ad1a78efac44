/- A part of the proof of the law FnExactPlainEquation. -/
import Derived.Laws.StructEq
import Derived.Test.YtcanokiehjjbgaaDoorCFnExactPlainEquation0
import Derived.Test.YtcanokiehjjbgaaDoorCFnExactPlainEquation1
import Derived.Test.YtcanokiehjjbgaaDoorCFnExactPlainEquation2
import Derived.Test.YtcanokiehjjbgaaDoorCFnExactPlainEquation3
import Derived.Test.YtcanokiehjjbgaaDoorCFnExactPlainEquation4
import Derived.Test.YtcanokiehjjbgaaDoorCFnExactPlainEquation5
import Derived.Test.YtcanokiehjjbgaaDoorCFnExactPlainEquation6
import Derived.Test.YtcanokiehjjbgaaDoorCFnExactPlainEquation13
namespace Go.Proofs.YtcanokiehjjbgaaDoor.P
open Go.RowKit Go.Proofs.YtcanokiehjjbgaaDoorW.PrintWords Go.Proofs.YtcanokiehjjbgaaDoorW.PrintLast Go.Proofs.YtcanokiehjjbgaaDoorW.PrintMore
attribute [local go_sem] max2_int min2_int max_two min_two max_three min_three max_four min_four   -- for this text's walks alone
set_option linter.unusedVariables false
set_option linter.unusedSimpArgs false
def impl_PlainEquation.f (k : Nat) (l0_0 : List (S110)) (l1_0 : List Int) (l1_1 : List Int) : Option (Int × List Int × List Int) := (impl_TermFault.f k l0_0 l1_0).bind fun t623 => ((impl_TermFault.f k l0_0 l1_1).bind fun t624 => ((impl_firstCode.f k (([t623, t624] : List Int))).bind fun t628 => (if t628 = 0 then ((impl_plain.f k l1_0 l1_1).bind fun bt629 => (if bt629.2.2 = true then (some (0, bt629.1, bt629.2.1)) else (some (2, ([] : List Int), ([] : List Int))))) else (some (t628, ([] : List Int), ([] : List Int))))))
def impl_PlainEquation.T1 : Bool × List (List Nat × List Nat) := (true, [([], []), ([], []), ([1], [1]), ([0, 2], [0, 2]), ([], []), ([], []), ([5], [5]), ([4, 6, 3], [4, 6]), ([3, 7], [3, 7]), ([8, 7], [8]), ([9, 9, 0, 1, 2, 3, 4, 5, 6, 7, 8, 9], [9])])
def impl_PlainEquation.B1 : List Nat := [0, 0, 2, 7, 0, 0, 32, 127, 255, 511, 1023]
theorem impl_PlainEquation.tab1 : rtab .any (opsOf Tryd.f22 1) = impl_PlainEquation.T1 := by kernel_rfl
theorem impl_PlainEquation.bits1 : waitsOk impl_PlainEquation.T1.2 impl_PlainEquation.B1 = true := by kernel_rfl
set_option maxHeartbeats 8000000 in
set_option maxRecDepth 100000 in
theorem impl_PlainEquation.calls (k : Nat) (A0_0 : Option Addr) (c0_0 : Nat) (l0_0 : List (S110)) (A1_0 : Option Addr) (c1_0 : Nat) (l1_0 : List Int) (A1_1 : Option Addr) (c1_1 : Nat) (l1_1 : List Int) (r1 : Int) (r2 : List Int) (r3 : List Int) (w : World) (hr0_0 : Kd.C k110 w A0_0 l0_0.length l0_0) (hc0_0 : l0_0.length ≤ c0_0) (hr1_0 : Kd.C (Kd.int .i64) w A1_0 l1_0.length l1_0) (hc1_0 : l1_0.length ≤ c1_0) (hr1_1 : Kd.C (Kd.int .i64) w A1_1 l1_1.length l1_1) (hc1_1 : l1_1.length ≤ c1_1) (h : impl_PlainEquation.f k l0_0 l1_0 l1_1 = some (r1, r2, r3)) :
    Calls Tryd.prog 22 #[.agg #[.slice A0_0 l0_0.length c0_0], .agg #[.slice A1_0 l1_0.length c1_0, .slice A1_1 l1_1.length c1_1]] w fun e w' => ∃ v1_ v2_ : Value, e = .returned (.agg #[.int .i64 r1, v1_, v2_]) ∧ Kd.R (Kd.int .i64) 2 w' w.heap.size (fun k_ => some k_ ≠ (v2_ : Value).ownBlock) v1_ r2 ∧ Kd.R (Kd.int .i64) 2 w' w.heap.size (fun k_ => some k_ ≠ (v1_ : Value).ownBlock) v2_ r3 ∧ Below w.heap.size w w' := by
  have hu26 := Tryd.underlying26
  have hu47 := Tryd.underlying47
  have hu49 := Tryd.underlying49
  have HR0_0 := am hr0_0
  have HC0_0 := am hc0_0
  clear hr0_0 hc0_0
  have HR1_0 := am hr1_0
  have HC1_0 := am hc1_0
  clear hr1_0 hc1_0
  have HR1_1 := am hr1_1
  have HC1_1 := am hc1_1
  clear hr1_1 hc1_1
  have HB := am (Below.refl w.heap.size w)
  have H : ((impl_TermFault.f k l0_0 l1_0).bind fun t623 => ((impl_TermFault.f k l0_0 l1_1).bind fun t624 => ((impl_firstCode.f k (([t623, t624] : List Int))).bind fun t628 => (if t628 = 0 then ((impl_plain.f k l1_0 l1_1).bind fun bt629 => (if bt629.2.2 = true then (some (0, bt629.1, bt629.2.1)) else (some (2, ([] : List Int), ([] : List Int))))) else (some (t628, ([] : List Int), ([] : List Int))))))) = some (r1, r2, r3) := h
  clear h
  replace H := Option.bind_eq_some_iff.mp H
  obtain ⟨t623, A30, H⟩ := H
  replace H : ((impl_TermFault.f k l0_0 l1_1).bind fun t624 => ((impl_firstCode.f k (([t623, t624] : List Int))).bind fun t628 => (if t628 = 0 then ((impl_plain.f k l1_0 l1_1).bind fun bt629 => (if bt629.2.2 = true then (some (0, bt629.1, bt629.2.1)) else (some (2, ([] : List Int), ([] : List Int))))) else (some (t628, ([] : List Int), ([] : List Int)))))) = some (r1, r2, r3) := H
  have A3 := am A30
  clear A30
  replace H := Option.bind_eq_some_iff.mp H
  obtain ⟨t624, A40, H⟩ := H
  replace H : ((impl_firstCode.f k (([t623, t624] : List Int))).bind fun t628 => (if t628 = 0 then ((impl_plain.f k l1_0 l1_1).bind fun bt629 => (if bt629.2.2 = true then (some (0, bt629.1, bt629.2.1)) else (some (2, ([] : List Int), ([] : List Int))))) else (some (t628, ([] : List Int), ([] : List Int))))) = some (r1, r2, r3) := H
  have A4 := am A40
  clear A40
  obtain ⟨y625, hy625⟩ : ∃ y_ : List Int, y_ = (([t623, t624] : List Int)) := ⟨_, rfl⟩
  replace H : ((impl_firstCode.f k y625).bind fun t628 => (if t628 = 0 then ((impl_plain.f k l1_0 l1_1).bind fun bt629 => (if bt629.2.2 = true then (some (0, bt629.1, bt629.2.1)) else (some (2, ([] : List Int), ([] : List Int))))) else (some (t628, ([] : List Int), ([] : List Int))))) = some (r1, r2, r3) := by first | (rw [hy625]; with_reducible exact H) | (have H2_ := (Option.bind_some _ _).symm.trans H; rw [hy625]; with_reducible exact H2_) | (have H2_ := (Option.bind_some _ _).symm.trans H; with_reducible exact H2_) | with_reducible exact H | (rw [hy625]; exact H) | exact H
  have Ny625 := am hy625
  clear hy625
  replace H := Option.bind_eq_some_iff.mp H
  obtain ⟨t628, A50, H⟩ := H
  replace H : (if t628 = 0 then ((impl_plain.f k l1_0 l1_1).bind fun bt629 => (if bt629.2.2 = true then (some (0, bt629.1, bt629.2.1)) else (some (2, ([] : List Int), ([] : List Int))))) else (some (t628, ([] : List Int), ([] : List Int)))) = some (r1, r2, r3) := H
  have A5 := am A50
  clear A50
  by_cases c6 : t628 = 0
  · rw [if_pos c6] at H
    have c6b0 : (t628 == 0) = true := beq_iff_eq.mpr c6
    have c6b1 : (t628 != 0) = false := bne_eq_false_iff_eq.mpr c6
    clear c6
    replace H := Option.bind_eq_some_iff.mp H
    obtain ⟨⟨t629, t632, t635⟩, A70, H⟩ := H
    replace H : (if t635 = true then (some (0, t629, t632)) else (some (2, ([] : List Int), ([] : List Int)))) = some (r1, r2, r3) := H
    have A7 := am A70
    clear A70
    by_cases c8 : t635 = true
    · subst c8
      have H1 : (some (0, t629, t632)) = some (r1, r2, r3) := by rw [if_pos rfl] at H; exact H
      clear H
      have H := H1
      clear H1
      simp only [Option.some.injEq, Prod.mk.injEq] at H
      obtain ⟨rfl, rfl, rfl⟩ := H
      go_enter Tryd.func22, Tryd.ntmps22
      try go_wp2_with (first | ((with_reducible refine gate_dst (N := 2) rfl ?_); refine box_event ?hg (N := 2) ?hd (cs := #[.slice A0_0 l0_0.length c0_0]) (t := 26) ?hr ?_; (case hd => rfl); (case hg => rfl); (case hr => first | (go_simp; done) | (go_simp; rfl)); intro gb620 hg w9 hbox hb; have n0_ := am (below_step (hq HB.out) hb); have n1_ := am (hbox); have n2_ := am (bz hg (hq HB.out)); have n3_ := n2_; clear HB; revert n0_ n1_ n2_ n3_; intro HB BK620 GW620 GE620; clear hb hbox hg) | ((with_reducible refine gate_dst (N := 3) rfl ?_); refine box_event ?hg (N := 3) ?hd (cs := #[.slice A1_0 l1_0.length c1_0, .slice A1_1 l1_1.length c1_1]) (t := 47) ?hr ?_; (case hd => rfl); (case hg => rfl); (case hr => first | (go_simp; done) | (go_simp; rfl)); intro gb621 hg w10 hbox hb; have n0_ := am (blk_below (bq BK620.out) hb); have n1_ := am (below_step (hs HB.out) hb); have n2_ := am (hbox); have n3_ := am (bz hg (hs HB.out)); have n4_ := n3_; have n5_ := am ((by rw [hg]; exact Nat.ne_of_lt (blk_lt (bq BK620.out)) : gb620 ≠ gb621)); have n6_ := am ((by rw [hg]; exact Nat.ne_of_gt (blk_lt (bq BK620.out)) : gb621 ≠ gb620)); clear BK620 HB; revert n0_ n1_ n2_ n3_ n4_ n5_ n6_; intro BK620 HB BK621 GW621 GE621 NB620_621 NB621_620; clear hb hbox hg) | ((with_reducible refine gate_dst (N := 4) rfl ?_); refine box_event ?hg (N := 4) ?hd (cs := #[.int .i64 0, .slice none 0 0, .slice none 0 0]) (t := 49) ?hr ?_; (case hd => rfl); (case hg => rfl); (case hr => first | (go_simp; done) | (go_simp; rfl)); intro gb622 hg w11 hbox hb; have n0_ := am (blk_below (bq BK620.out) hb); have n1_ := am (blk_below (bq BK621.out) hb); have n2_ := am (below_step (hs HB.out) hb); have n3_ := am (hbox); have n4_ := am (bz hg (hs HB.out)); have n5_ := n4_; have n6_ := am ((by rw [hg]; exact Nat.ne_of_lt (blk_lt (bq BK620.out)) : gb620 ≠ gb622)); have n7_ := am ((by rw [hg]; exact Nat.ne_of_gt (blk_lt (bq BK620.out)) : gb622 ≠ gb620)); have n8_ := am ((by rw [hg]; exact Nat.ne_of_lt (blk_lt (bq BK621.out)) : gb621 ≠ gb622)); have n9_ := am ((by rw [hg]; exact Nat.ne_of_gt (blk_lt (bq BK621.out)) : gb622 ≠ gb621)); clear BK620 BK621 HB; revert n0_ n1_ n2_ n3_ n4_ n5_ n6_ n7_ n8_ n9_; intro BK620 BK621 HB BK622 GW622 GE622 NB620_622 NB622_620 NB621_622 NB622_621; clear hb hbox hg))
      have n0_ := am (blk_drew BK620.out)
      have n1_ := am (blk_drew BK621.out)
      have n2_ := am (blk_drew BK622.out)
      have n3_ := am (below_drew1 HB.out)
      clear BK620 BK621 BK622 HB; revert n0_ n1_ n2_ n3_; intro BK620 BK621 BK622 HB
      refine start_ (n := 11) (S := fun w' => w'.cell? ⟨gb620, 0, none⟩ = some (.slice A0_0 l0_0.length c0_0) ∧ w'.cell? ⟨gb621, 0, none⟩ = some (.slice A1_0 l1_0.length c1_0) ∧ w'.cell? ⟨gb621, 1, none⟩ = some (.slice A1_1 l1_1.length c1_1)) (ds := []) #[false, false, false, false, false, false, false, false, false, false, false] (by kernel_rfl) rfl rfl ⟨(blk_cell BK620.out 0).trans rfl, (blk_cell BK621.out 0).trans rfl, (blk_cell BK621.out 1).trans rfl⟩ (fun hHeld => ?_); refine with_tabW impl_PlainEquation.tab1 impl_PlainEquation.bits1 (fun HT_ HW_ => ?_)
      generalize w11.drew = w12 at BK620 BK621 BK622 HB hHeld ⊢
      refine pure_ (i := 1) (N := some 9) (v := ?_) (a' := ?_) #[false, true, false, false, false, false, false, false, false, false, false] rfl rfl (any_of HT_.out (by kernel_rfl)) (fun _ _ _ h => h) (Or.inl ⟨by rfl, ?_⟩) ?_ ?_
      rotate_left
      · intro w'
        go_simp
        with_reducible rfl
      rotate_left
      · simp only [Act.put, lsp, i64_w, i32_w]
        rfl
      refine pure_ (i := 5) (N := some 13) (v := ?_) (a' := ?_) #[false, true, false, false, false, true, false, false, false, false, false] rfl rfl (any_of HT_.out (by kernel_rfl)) (fun _ _ _ h => h) (Or.inl ⟨by rfl, ?_⟩) ?_ ?_
      rotate_left
      · intro w'
        go_simp
        with_reducible rfl
      rotate_left
      · simp only [Act.put, lsp, i64_w, i32_w]
        rfl
      refine take_ (i := 0) (N := some 8) (v := ?_) (a' := ?_) #[true, true, false, false, false, true, false, false, false, false, false] rfl rfl (take_ofW HT_.out HW_.out (by kernel_rfl)) (fun _ _ _ h => h) (Or.inl ⟨by rfl, ?_⟩) hHeld ?_ ?_
      rotate_left
      · rintro w' ⟨s0, s1, s2⟩
        go_simp
        with_reducible rfl
      rotate_left
      · simp only [Act.put, lsp, i64_w, i32_w]
        rfl
      refine take_ (i := 2) (N := some 10) (v := ?_) (a' := ?_) #[true, true, true, false, false, true, false, false, false, false, false] rfl rfl (take_ofW HT_.out HW_.out (by kernel_rfl)) (fun _ _ _ h => h) (Or.inl ⟨by rfl, ?_⟩) hHeld ?_ ?_
      rotate_left
      · rintro w' ⟨s0, s1, s2⟩
        go_simp
        with_reducible rfl
      rotate_left
      · simp only [Act.put, lsp, i64_w, i32_w]
        rfl
      refine take_ (i := 4) (N := some 12) (v := ?_) (a' := ?_) #[true, true, true, false, true, true, false, false, false, false, false] rfl rfl (take_ofW HT_.out HW_.out (by kernel_rfl)) (fun _ _ _ h => h) (Or.inl ⟨by rfl, ?_⟩) hHeld ?_ ?_
      rotate_left
      · rintro w' ⟨s0, s1, s2⟩
        go_simp
        with_reducible rfl
      rotate_left
      · simp only [Act.put, lsp, i64_w, i32_w]
        rfl
      refine take_ (i := 6) (N := some 14) (v := ?_) (a' := ?_) #[true, true, true, false, true, true, true, false, false, false, false] rfl rfl (take_ofW HT_.out HW_.out (by kernel_rfl)) (fun _ _ _ h => h) (Or.inl ⟨by rfl, ?_⟩) hHeld ?_ ?_
      rotate_left
      · rintro w' ⟨s0, s1, s2⟩
        go_simp
        with_reducible rfl
      rotate_left
      · simp only [Act.put, lsp, i64_w, i32_w]
        rfl
      refine one_ (i := 3) (N := some 11) #[true, true, true, true, true, true, true, false, false, false, false] rfl rfl (one_of HT_.out (by kernel_rfl)) (by decide) (fun K hK => ?_)
      refine goes_ Tryd.func10 (by kernel_rfl) rfl #[.agg #[.slice A0_0 l0_0.length c0_0], .slice A1_0 l1_0.length c1_0] (by rfl) rfl rfl el ?_
      with_reducible refine (impl_TermFault.calls k _ _ l0_0 _ _ l1_0 t623 _ ?side1 ?side2 ?side3 ?side4 A3.out).mono ?_
      (case side1 => exact cq (Kd.C_below HR0_0.out HB.out))
      (case side2 => exact HC0_0.out)
      (case side3 => exact cq (Kd.C_below HR1_0.out HB.out))
      (case side4 => exact HC1_0.out)
      rintro e w13 ⟨rfl, hb⟩
      refine ⟨_, rfl, ?_⟩
      have n0_ := am (blk_below (bq BK620.out) hb)
      have n1_ := am (blk_below (bq BK621.out) hb)
      have n2_ := am (blk_below (bq BK622.out) hb)
      have n3_ := am (below_step (hs HB.out) hb)
      clear BK620 BK621 BK622 HB; revert n0_ n1_ n2_ n3_; intro BK620 BK621 BK622 HB
      (try clear hb)
      (try clear hb2)
      (try clear hgw)
      (try clear hk)
      (try clear hi)
      refine hK.out _ _ ⟨(blk_cell BK620.out 0).trans rfl, (blk_cell BK621.out 0).trans rfl, (blk_cell BK621.out 1).trans rfl⟩ (fun hHeld => ?_)
      clear hK K
      refine norm_ (a' := ?_) ?_ ?_
      rotate_left
      · show Act.put _ (some 11) _ = _
        simp only [Act.put, lsp, i64_w, i32_w]
        rfl
      refine one_ (i := 7) (N := some 15) #[true, true, true, true, true, true, true, true, false, false, false] rfl rfl (one_of HT_.out (by kernel_rfl)) (by decide) (fun K hK => ?_)
      refine goes_ Tryd.func10 (by kernel_rfl) rfl #[.agg #[.slice A0_0 l0_0.length c0_0], .slice A1_1 l1_1.length c1_1] (by rfl) rfl rfl el ?_
      with_reducible refine (impl_TermFault.calls k _ _ l0_0 _ _ l1_1 t624 _ ?side1 ?side2 ?side3 ?side4 A4.out).mono ?_
      (case side1 => exact cq (Kd.C_below HR0_0.out HB.out))
      (case side2 => exact HC0_0.out)
      (case side3 => exact cq (Kd.C_below HR1_1.out HB.out))
      (case side4 => exact HC1_1.out)
      rintro e w14 ⟨rfl, hb⟩
      refine ⟨_, rfl, ?_⟩
      have n0_ := am (blk_below (bq BK620.out) hb)
      have n1_ := am (blk_below (bq BK621.out) hb)
      have n2_ := am (blk_below (bq BK622.out) hb)
      have n3_ := am (below_step (hs HB.out) hb)
      clear BK620 BK621 BK622 HB; revert n0_ n1_ n2_ n3_; intro BK620 BK621 BK622 HB
      (try clear hb)
      (try clear hb2)
      (try clear hgw)
      (try clear hk)
      (try clear hi)
      refine hK.out _ _ ⟨(blk_cell BK620.out 0).trans rfl, (blk_cell BK621.out 0).trans rfl, (blk_cell BK621.out 1).trans rfl⟩ (fun hHeld => ?_)
      clear hK K
      refine norm_ (a' := ?_) ?_ ?_
      rotate_left
      · show Act.put _ (some 15) _ = _
        simp only [Act.put, lsp, i64_w, i32_w]
        rfl
      refine one_ (i := 8) (N := some 16) #[true, true, true, true, true, true, true, true, true, false, false] rfl rfl (one_of HT_.out (by kernel_rfl)) (by decide) (fun K hK => ?_)
      refine Kd.R_lit_step (Kd.int .i64) _ 2 ?hg (N := 16) ?hd (xs := ([t623, t624] : List Int)) (inner := [.int .i64 t623, .int .i64 t624]) (ok := fun _ => True) (okp := fun _ => True) ?hr ?hp (fun _ hk => hk) trivial (Below.refl _ _) (Nat.le_refl _) (by simp) ?_; (case hd => rfl); (case hg => rfl); (case hr => first | (go_simp; done) | (go_simp; rfl)); (case hp => exact (Reps.one (show Kd.M (Kd.int .i64) _ _ _ t623 [.int .i64 t623] from rfl) (Reps.one (show Kd.M (Kd.int .i64) _ _ _ t624 [.int .i64 t624] from rfl) (Reps.none _ _))))
      intro v626 w15 ho16 hb hg_ hnew_
      clear hg_ hnew_
      (first | rw [← Ny625.out] at ho16 | (simp only [Int.reduceToNat] at ho16; rw [← Ny625.out] at ho16))
      have n0_ := am (Kd.R_lower ho16 (below_size (hs HB.out)))
      have n1_ := am (blk_below (bq BK620.out) hb)
      have n2_ := am (blk_below (bq BK621.out) hb)
      have n3_ := am (blk_below (bq BK622.out) hb)
      have n4_ := am (below_step (hs HB.out) hb)
      clear BK620 BK621 BK622 HB; revert n0_ n1_ n2_ n3_ n4_; intro HO627 BK620 BK621 BK622 HB
      clear hb ho16
      obtain ⟨Ao17, co17, eo17⟩ := Kd.R_slice HO627.out
      (first | subst eo17 | (injection eo17 with f1_ f2_ f3_; have f4_ := f1_.symm; have f5_ := f3_.symm; clear f1_ f2_ f3_; subst f4_; subst f5_))
      refine hK.out _ _ ⟨(blk_cell BK620.out 0).trans rfl, (blk_cell BK621.out 0).trans rfl, (blk_cell BK621.out 1).trans rfl⟩ (fun hHeld => ?_)
      clear hK K
      refine norm_ (a' := ?_) ?_ ?_
      rotate_left
      · show Act.put _ (some 16) _ = _
        simp only [Act.put, lsp, i64_w, i32_w]
        rfl
      refine one_ (i := 9) (N := some 17) #[true, true, true, true, true, true, true, true, true, true, false] rfl rfl (one_of HT_.out (by kernel_rfl)) (by decide) (fun K hK => ?_)
      refine goes_ Tryd.func60 (by kernel_rfl) rfl #[.slice Ao17 y625.length co17] (by rfl) rfl rfl el ?_
      with_reducible refine (impl_firstCode.calls k _ _ y625 t628 _ ?side1 ?side2 A5.out).mono ?_
      (case side1 => repeat (first | exact (Kd.R_reads' HO627.out).2.2 | (with_reducible refine Kd.C_alloc ?_ _) | (with_reducible refine Kd.C_drewN ?_ _) | (with_reducible refine Kd.C_drew ?_)))
      (case side2 => exact (Kd.R_reads' HO627.out).2.1)
      rintro e w18 ⟨rfl, hb⟩
      refine ⟨_, rfl, ?_⟩
      have n0_ := am (Kd.R_below (rq HO627.out) hb)
      have n1_ := am (blk_below (bq BK620.out) hb)
      have n2_ := am (blk_below (bq BK621.out) hb)
      have n3_ := am (blk_below (bq BK622.out) hb)
      have n4_ := am (below_step (hs HB.out) hb)
      clear HO627 BK620 BK621 BK622 HB; revert n0_ n1_ n2_ n3_ n4_; intro HO627 BK620 BK621 BK622 HB
      (try clear hb)
      (try clear hb2)
      (try clear hgw)
      (try clear hk)
      (try clear hi)
      refine hK.out _ _ ⟨(blk_cell BK620.out 0).trans rfl, (blk_cell BK621.out 0).trans rfl, (blk_cell BK621.out 1).trans rfl⟩ (fun hHeld => ?_)
      clear hK K
      refine norm_ (a' := ?_) ?_ ?_
      rotate_left
      · show Act.put _ (some 17) _ = _
        simp only [Act.put, lsp, i64_w, i32_w]
        rfl
      refine pure_ (i := 10) (N := some 5) (v := ?_) (a' := ?_) #[true, true, true, true, true, true, true, true, true, true, true] rfl rfl (any_of HT_.out (by kernel_rfl)) (fun _ _ _ h => h) (Or.inl ⟨by rfl, ?_⟩) ?_ ?_
      rotate_left
      · intro w'
        go_simp
        with_reducible rfl
      rotate_left
      · simp only [Act.put, lsp, i64_w, i32_w]
        rfl
      refine done_ (done_of HT_.out (by kernel_rfl)) ?_
      have hnb19 := NB621_620.out
      have hnc19 := NB620_621.out
      have hnb20 := NB621_622.out
      have hnc20 := NB622_621.out
      have hcz21_0 : w18.cell? ⟨gb621, 0, none⟩ = some (.slice A1_0 l1_0.length c1_0) := (blk_cell BK621.out 0).trans rfl
      have hcz21_1 : w18.cell? ⟨gb621, 1, none⟩ = some (.slice A1_1 l1_1.length c1_1) := (blk_cell BK621.out 1).trans rfl
      have hfz21_0 := blk_frozen BK621.out 0
      have hfz21_1 := blk_frozen BK621.out 1
      try go_wp2_with (first | ((with_reducible refine gate_callee (f := 61) rfl ?_); refine goesL_ (some 24) rfl rfl Tryd.func61 (by kernel_rfl) rfl #[.agg #[.slice A1_0 l1_0.length c1_0, .slice A1_1 l1_1.length c1_1]] rfl el ?_; (with_reducible refine (impl_plain.calls k _ _ l1_0 _ _ l1_1 t629 t632 true _ ?side1 ?side2 ?side3 ?side4 A7.out).mono ?_); (case side1 => exact cq (Kd.C_below HR1_0.out HB.out)); (case side2 => exact HC1_0.out); (case side3 => exact cq (Kd.C_below HR1_1.out HB.out)); (case side4 => exact HC1_1.out); rintro e w22 ⟨v630, v633, rfl, ho0, ho1, hb⟩; refine ⟨_, rfl, ?_⟩; have n0_ := am (Kd.R_mono (Kd.R_told (Kd.R_told (Kd.R_old (rq HO627.out) hb) (Kd.R_base ho0)) (Kd.R_base ho1)) (fun _ h_ => h_.1)); have n1_ := am (Kd.R_lower (Kd.R_new' ho0 (Kd.R_lt (rq HO627.out))) (below_size (hs HB.out))); have n2_ := am (Kd.R_lower (Kd.R_new' ho1 (Kd.R_lt (rq HO627.out))) (below_size (hs HB.out))); have n3_ := am (blk_below (bq BK620.out) hb); have n4_ := am (blk_below (bq BK621.out) hb); have n5_ := am (blk_below (bq BK622.out) hb); have n6_ := am (below_step (hs HB.out) hb); clear HO627 BK620 BK621 BK622 HB; revert n0_ n1_ n2_ n3_ n4_ n5_ n6_; intro HO627 HO631 HO634 BK620 BK621 BK622 HB; (try clear hb); (try clear hb2); (try clear hgw); (try clear hk); (try clear hi); (try clear ho0); (try clear ho1)) | ((with_reducible refine gate_dst (N := 6) rfl ?_); refine box_event ?hg (N := 6) ?hd (cs := #[.slice none 0 0, .slice none 0 0]) (t := 47) ?hr ?_; (case hd => rfl); (case hg => rfl); (case hr => first | (go_simp; done) | (go_simp; rfl)); intro gb636 hg w23 hbox hb; have n0_ := am (Kd.R_below (rq HO627.out) hb); have n1_ := am (Kd.R_below (rq HO631.out) hb); have n2_ := am (Kd.R_below (rq HO634.out) hb); have n3_ := am (blk_below (bq BK620.out) hb); have n4_ := am (blk_below (bq BK621.out) hb); have n5_ := am (blk_below (bq BK622.out) hb); have n6_ := am (below_step (hs HB.out) hb); have n7_ := am (hbox); have n8_ := am (bz hg (hs HB.out)); have n9_ := n8_; have n10_ := am ((by rw [hg]; exact Nat.ne_of_lt (blk_lt (bq BK620.out)) : gb620 ≠ gb636)); have n11_ := am ((by rw [hg]; exact Nat.ne_of_gt (blk_lt (bq BK620.out)) : gb636 ≠ gb620)); have n12_ := am ((by rw [hg]; exact Nat.ne_of_lt (blk_lt (bq BK621.out)) : gb621 ≠ gb636)); have n13_ := am ((by rw [hg]; exact Nat.ne_of_gt (blk_lt (bq BK621.out)) : gb636 ≠ gb621)); have n14_ := am ((by rw [hg]; exact Nat.ne_of_lt (blk_lt (bq BK622.out)) : gb622 ≠ gb636)); have n15_ := am ((by rw [hg]; exact Nat.ne_of_gt (blk_lt (bq BK622.out)) : gb636 ≠ gb622)); clear HO627 HO631 HO634 BK620 BK621 BK622 HB; revert n0_ n1_ n2_ n3_ n4_ n5_ n6_ n7_ n8_ n9_ n10_ n11_ n12_ n13_ n14_ n15_; intro HO627 HO631 HO634 BK620 BK621 BK622 HB BK636 GW636 GE636 NB620_636 NB636_620 NB621_636 NB636_621 NB622_636 NB636_622; clear hb hbox hg; obtain ⟨Ao24, co24, eo24⟩ := Kd.R_slice HO631.out; subst eo24; have hnb25 := NB636_620.out; have hnc25 := NB620_636.out; have hnb26 := NB636_621.out; have hnc26 := NB621_636.out; have hnb27 := NB636_622.out; have hnc27 := NB622_636.out; have hcz28_0 : w23.cell? ⟨gb636, 0, none⟩ = some (.slice none 0 0) := (blk_cell BK636.out 0).trans rfl; have hcz28_1 : w23.cell? ⟨gb636, 1, none⟩ = some (.slice none 0 0) := (blk_cell BK636.out 1).trans rfl; have hfz28_0 := blk_frozen BK636.out 0; have hfz28_1 := blk_frozen BK636.out 1; obtain ⟨Ao29, co29, eo29⟩ := Kd.R_slice HO634.out; subst eo29; have hnb30 := NB622_620.out; have hnc30 := NB620_622.out; have hcz31_0 : w23.cell? ⟨gb622, 0, none⟩ = some (.int .i64 0) := (blk_cell BK622.out 0).trans rfl; have hcz31_1 : w23.cell? ⟨gb622, 1, none⟩ = some (.slice none 0 0) := (blk_cell BK622.out 1).trans rfl; have hcz31_2 : w23.cell? ⟨gb622, 2, none⟩ = some (.slice none 0 0) := (blk_cell BK622.out 2).trans rfl; have hfz31_0 := blk_frozen BK622.out 0; have hfz31_1 := blk_frozen BK622.out 1; have hfz31_2 := blk_frozen BK622.out 2))
      refine bodyPost_ret (results_cell_row rfl _ _ gb622 49 #[.int .i64 0, .slice Ao24 t629.length co24, .slice Ao29 t632.length co29] (0, 0) _ rfl (by refine bq ?_; refine blk_put (cs := #[.int .i64 0, .slice Ao24 t629.length co24, .slice none 0 0]) ?_ 2 _ rfl; refine bq ?_; refine blk_put (cs := #[.int .i64 0, .slice none 0 0, .slice none 0 0]) ?_ 1 _ rfl; refine bq ?_; refine blk_put (cs := #[.int .i64 0, .slice none 0 0, .slice none 0 0]) ?_ 0 _ rfl; refine bq ?_; refine blk_far ?_ NB622_636.out _; refine bq ?_; refine blk_far ?_ NB622_636.out _; refine bq ?_; exact BK622.out) Tryd.underlying49 rfl (by kernel_rfl)) rfl ?_
      exact ⟨_, _, by first | rfl | (simp [errW_none, errW_some] <;> rfl) | (simp [*, errW_none, errW_some] <;> rfl), by (with_reducible repeat (first | apply Kd.R_alloc | apply Kd.R_drewN | apply Kd.R_drew)); exact Kd.R_mono (Kd.R_far (p := ⟨gb622, 2, none⟩) (Kd.R_far (p := ⟨gb622, 1, none⟩) (Kd.R_far (p := ⟨gb622, 0, none⟩) (Kd.R_far (p := ⟨gb636, 1, none⟩) (Kd.R_far (p := ⟨gb636, 0, none⟩) (Kd.R_types (Kd.R_types HO631.out BK636.out (by decide)) BK622.out (by decide)) (fun _ hk => hk.1.2) (.slice Ao24 t629.length co24)) (fun _ hk => hk.1.2) (.slice Ao29 t632.length co29)) (fun _ hk => hk.2) (.int .i64 0)) (fun _ hk => hk.2) (.slice Ao24 t629.length co24)) (fun _ hk => hk.2) (.slice Ao29 t632.length co29)) (fun _ hk => hk.1.1.1), by (with_reducible repeat (first | apply Kd.R_alloc | apply Kd.R_drewN | apply Kd.R_drew)); exact Kd.R_mono (Kd.R_far (p := ⟨gb622, 2, none⟩) (Kd.R_far (p := ⟨gb622, 1, none⟩) (Kd.R_far (p := ⟨gb622, 0, none⟩) (Kd.R_far (p := ⟨gb636, 1, none⟩) (Kd.R_far (p := ⟨gb636, 0, none⟩) (Kd.R_types (Kd.R_types HO634.out BK636.out (by decide)) BK622.out (by decide)) (fun _ hk => hk.1.2) (.slice Ao24 t629.length co24)) (fun _ hk => hk.1.2) (.slice Ao29 t632.length co29)) (fun _ hk => hk.2) (.int .i64 0)) (fun _ hk => hk.2) (.slice Ao24 t629.length co24)) (fun _ hk => hk.2) (.slice Ao29 t632.length co29)) (fun _ hk => hk.1.1.1), by exact hs HB.out⟩
    · replace c8 := Bool.eq_false_iff.mpr c8
      subst c8
      have H1 : (some (2, ([] : List Int), ([] : List Int))) = some (r1, r2, r3) := by rw [if_neg (show ¬ (false = true) by decide)] at H; exact H
      clear H
      have H := H1
      clear H1
      simp only [Option.some.injEq, Prod.mk.injEq] at H
      obtain ⟨rfl, rfl, rfl⟩ := H
      go_enter Tryd.func22, Tryd.ntmps22
      try go_wp2_with (first | ((with_reducible refine gate_dst (N := 2) rfl ?_); refine box_event ?hg (N := 2) ?hd (cs := #[.slice A0_0 l0_0.length c0_0]) (t := 26) ?hr ?_; (case hd => rfl); (case hg => rfl); (case hr => first | (go_simp; done) | (go_simp; rfl)); intro gb620 hg w32 hbox hb; have n0_ := am (below_step (hq HB.out) hb); have n1_ := am (hbox); have n2_ := am (bz hg (hq HB.out)); have n3_ := n2_; clear HB; revert n0_ n1_ n2_ n3_; intro HB BK620 GW620 GE620; clear hb hbox hg) | ((with_reducible refine gate_dst (N := 3) rfl ?_); refine box_event ?hg (N := 3) ?hd (cs := #[.slice A1_0 l1_0.length c1_0, .slice A1_1 l1_1.length c1_1]) (t := 47) ?hr ?_; (case hd => rfl); (case hg => rfl); (case hr => first | (go_simp; done) | (go_simp; rfl)); intro gb621 hg w33 hbox hb; have n0_ := am (blk_below (bq BK620.out) hb); have n1_ := am (below_step (hs HB.out) hb); have n2_ := am (hbox); have n3_ := am (bz hg (hs HB.out)); have n4_ := n3_; have n5_ := am ((by rw [hg]; exact Nat.ne_of_lt (blk_lt (bq BK620.out)) : gb620 ≠ gb621)); have n6_ := am ((by rw [hg]; exact Nat.ne_of_gt (blk_lt (bq BK620.out)) : gb621 ≠ gb620)); clear BK620 HB; revert n0_ n1_ n2_ n3_ n4_ n5_ n6_; intro BK620 HB BK621 GW621 GE621 NB620_621 NB621_620; clear hb hbox hg) | ((with_reducible refine gate_dst (N := 4) rfl ?_); refine box_event ?hg (N := 4) ?hd (cs := #[.int .i64 0, .slice none 0 0, .slice none 0 0]) (t := 49) ?hr ?_; (case hd => rfl); (case hg => rfl); (case hr => first | (go_simp; done) | (go_simp; rfl)); intro gb622 hg w34 hbox hb; have n0_ := am (blk_below (bq BK620.out) hb); have n1_ := am (blk_below (bq BK621.out) hb); have n2_ := am (below_step (hs HB.out) hb); have n3_ := am (hbox); have n4_ := am (bz hg (hs HB.out)); have n5_ := n4_; have n6_ := am ((by rw [hg]; exact Nat.ne_of_lt (blk_lt (bq BK620.out)) : gb620 ≠ gb622)); have n7_ := am ((by rw [hg]; exact Nat.ne_of_gt (blk_lt (bq BK620.out)) : gb622 ≠ gb620)); have n8_ := am ((by rw [hg]; exact Nat.ne_of_lt (blk_lt (bq BK621.out)) : gb621 ≠ gb622)); have n9_ := am ((by rw [hg]; exact Nat.ne_of_gt (blk_lt (bq BK621.out)) : gb622 ≠ gb621)); clear BK620 BK621 HB; revert n0_ n1_ n2_ n3_ n4_ n5_ n6_ n7_ n8_ n9_; intro BK620 BK621 HB BK622 GW622 GE622 NB620_622 NB622_620 NB621_622 NB622_621; clear hb hbox hg))
      have n0_ := am (blk_drew BK620.out)
      have n1_ := am (blk_drew BK621.out)
      have n2_ := am (blk_drew BK622.out)
      have n3_ := am (below_drew1 HB.out)
      clear BK620 BK621 BK622 HB; revert n0_ n1_ n2_ n3_; intro BK620 BK621 BK622 HB
      refine start_ (n := 11) (S := fun w' => w'.cell? ⟨gb620, 0, none⟩ = some (.slice A0_0 l0_0.length c0_0) ∧ w'.cell? ⟨gb621, 0, none⟩ = some (.slice A1_0 l1_0.length c1_0) ∧ w'.cell? ⟨gb621, 1, none⟩ = some (.slice A1_1 l1_1.length c1_1)) (ds := []) #[false, false, false, false, false, false, false, false, false, false, false] (by kernel_rfl) rfl rfl ⟨(blk_cell BK620.out 0).trans rfl, (blk_cell BK621.out 0).trans rfl, (blk_cell BK621.out 1).trans rfl⟩ (fun hHeld => ?_); refine with_tabW impl_PlainEquation.tab1 impl_PlainEquation.bits1 (fun HT_ HW_ => ?_)
      generalize w34.drew = w35 at BK620 BK621 BK622 HB hHeld ⊢
      refine pure_ (i := 1) (N := some 9) (v := ?_) (a' := ?_) #[false, true, false, false, false, false, false, false, false, false, false] rfl rfl (any_of HT_.out (by kernel_rfl)) (fun _ _ _ h => h) (Or.inl ⟨by rfl, ?_⟩) ?_ ?_
      rotate_left
      · intro w'
        go_simp
        with_reducible rfl
      rotate_left
      · simp only [Act.put, lsp, i64_w, i32_w]
        rfl
      refine pure_ (i := 5) (N := some 13) (v := ?_) (a' := ?_) #[false, true, false, false, false, true, false, false, false, false, false] rfl rfl (any_of HT_.out (by kernel_rfl)) (fun _ _ _ h => h) (Or.inl ⟨by rfl, ?_⟩) ?_ ?_
      rotate_left
      · intro w'
        go_simp
        with_reducible rfl
      rotate_left
      · simp only [Act.put, lsp, i64_w, i32_w]
        rfl
      refine take_ (i := 0) (N := some 8) (v := ?_) (a' := ?_) #[true, true, false, false, false, true, false, false, false, false, false] rfl rfl (take_ofW HT_.out HW_.out (by kernel_rfl)) (fun _ _ _ h => h) (Or.inl ⟨by rfl, ?_⟩) hHeld ?_ ?_
      rotate_left
      · rintro w' ⟨s0, s1, s2⟩
        go_simp
        with_reducible rfl
      rotate_left
      · simp only [Act.put, lsp, i64_w, i32_w]
        rfl
      refine take_ (i := 2) (N := some 10) (v := ?_) (a' := ?_) #[true, true, true, false, false, true, false, false, false, false, false] rfl rfl (take_ofW HT_.out HW_.out (by kernel_rfl)) (fun _ _ _ h => h) (Or.inl ⟨by rfl, ?_⟩) hHeld ?_ ?_
      rotate_left
      · rintro w' ⟨s0, s1, s2⟩
        go_simp
        with_reducible rfl
      rotate_left
      · simp only [Act.put, lsp, i64_w, i32_w]
        rfl
      refine take_ (i := 4) (N := some 12) (v := ?_) (a' := ?_) #[true, true, true, false, true, true, false, false, false, false, false] rfl rfl (take_ofW HT_.out HW_.out (by kernel_rfl)) (fun _ _ _ h => h) (Or.inl ⟨by rfl, ?_⟩) hHeld ?_ ?_
      rotate_left
      · rintro w' ⟨s0, s1, s2⟩
        go_simp
        with_reducible rfl
      rotate_left
      · simp only [Act.put, lsp, i64_w, i32_w]
        rfl
      refine take_ (i := 6) (N := some 14) (v := ?_) (a' := ?_) #[true, true, true, false, true, true, true, false, false, false, false] rfl rfl (take_ofW HT_.out HW_.out (by kernel_rfl)) (fun _ _ _ h => h) (Or.inl ⟨by rfl, ?_⟩) hHeld ?_ ?_
      rotate_left
      · rintro w' ⟨s0, s1, s2⟩
        go_simp
        with_reducible rfl
      rotate_left
      · simp only [Act.put, lsp, i64_w, i32_w]
        rfl
      refine one_ (i := 3) (N := some 11) #[true, true, true, true, true, true, true, false, false, false, false] rfl rfl (one_of HT_.out (by kernel_rfl)) (by decide) (fun K hK => ?_)
      refine goes_ Tryd.func10 (by kernel_rfl) rfl #[.agg #[.slice A0_0 l0_0.length c0_0], .slice A1_0 l1_0.length c1_0] (by rfl) rfl rfl el ?_
      with_reducible refine (impl_TermFault.calls k _ _ l0_0 _ _ l1_0 t623 _ ?side1 ?side2 ?side3 ?side4 A3.out).mono ?_
      (case side1 => exact cq (Kd.C_below HR0_0.out HB.out))
      (case side2 => exact HC0_0.out)
      (case side3 => exact cq (Kd.C_below HR1_0.out HB.out))
      (case side4 => exact HC1_0.out)
      rintro e w36 ⟨rfl, hb⟩
      refine ⟨_, rfl, ?_⟩
      have n0_ := am (blk_below (bq BK620.out) hb)
      have n1_ := am (blk_below (bq BK621.out) hb)
      have n2_ := am (blk_below (bq BK622.out) hb)
      have n3_ := am (below_step (hs HB.out) hb)
      clear BK620 BK621 BK622 HB; revert n0_ n1_ n2_ n3_; intro BK620 BK621 BK622 HB
      (try clear hb)
      (try clear hb2)
      (try clear hgw)
      (try clear hk)
      (try clear hi)
      refine hK.out _ _ ⟨(blk_cell BK620.out 0).trans rfl, (blk_cell BK621.out 0).trans rfl, (blk_cell BK621.out 1).trans rfl⟩ (fun hHeld => ?_)
      clear hK K
      refine norm_ (a' := ?_) ?_ ?_
      rotate_left
      · show Act.put _ (some 11) _ = _
        simp only [Act.put, lsp, i64_w, i32_w]
        rfl
      refine one_ (i := 7) (N := some 15) #[true, true, true, true, true, true, true, true, false, false, false] rfl rfl (one_of HT_.out (by kernel_rfl)) (by decide) (fun K hK => ?_)
      refine goes_ Tryd.func10 (by kernel_rfl) rfl #[.agg #[.slice A0_0 l0_0.length c0_0], .slice A1_1 l1_1.length c1_1] (by rfl) rfl rfl el ?_
      with_reducible refine (impl_TermFault.calls k _ _ l0_0 _ _ l1_1 t624 _ ?side1 ?side2 ?side3 ?side4 A4.out).mono ?_
      (case side1 => exact cq (Kd.C_below HR0_0.out HB.out))
      (case side2 => exact HC0_0.out)
      (case side3 => exact cq (Kd.C_below HR1_1.out HB.out))
      (case side4 => exact HC1_1.out)
      rintro e w37 ⟨rfl, hb⟩
      refine ⟨_, rfl, ?_⟩
      have n0_ := am (blk_below (bq BK620.out) hb)
      have n1_ := am (blk_below (bq BK621.out) hb)
      have n2_ := am (blk_below (bq BK622.out) hb)
      have n3_ := am (below_step (hs HB.out) hb)
      clear BK620 BK621 BK622 HB; revert n0_ n1_ n2_ n3_; intro BK620 BK621 BK622 HB
      (try clear hb)
      (try clear hb2)
      (try clear hgw)
      (try clear hk)
      (try clear hi)
      refine hK.out _ _ ⟨(blk_cell BK620.out 0).trans rfl, (blk_cell BK621.out 0).trans rfl, (blk_cell BK621.out 1).trans rfl⟩ (fun hHeld => ?_)
      clear hK K
      refine norm_ (a' := ?_) ?_ ?_
      rotate_left
      · show Act.put _ (some 15) _ = _
        simp only [Act.put, lsp, i64_w, i32_w]
        rfl
      refine one_ (i := 8) (N := some 16) #[true, true, true, true, true, true, true, true, true, false, false] rfl rfl (one_of HT_.out (by kernel_rfl)) (by decide) (fun K hK => ?_)
      refine Kd.R_lit_step (Kd.int .i64) _ 2 ?hg (N := 16) ?hd (xs := ([t623, t624] : List Int)) (inner := [.int .i64 t623, .int .i64 t624]) (ok := fun _ => True) (okp := fun _ => True) ?hr ?hp (fun _ hk => hk) trivial (Below.refl _ _) (Nat.le_refl _) (by simp) ?_; (case hd => rfl); (case hg => rfl); (case hr => first | (go_simp; done) | (go_simp; rfl)); (case hp => exact (Reps.one (show Kd.M (Kd.int .i64) _ _ _ t623 [.int .i64 t623] from rfl) (Reps.one (show Kd.M (Kd.int .i64) _ _ _ t624 [.int .i64 t624] from rfl) (Reps.none _ _))))
      intro v626 w38 ho39 hb hg_ hnew_
      clear hg_ hnew_
      (first | rw [← Ny625.out] at ho39 | (simp only [Int.reduceToNat] at ho39; rw [← Ny625.out] at ho39))
      have n0_ := am (Kd.R_lower ho39 (below_size (hs HB.out)))
      have n1_ := am (blk_below (bq BK620.out) hb)
      have n2_ := am (blk_below (bq BK621.out) hb)
      have n3_ := am (blk_below (bq BK622.out) hb)
      have n4_ := am (below_step (hs HB.out) hb)
      clear BK620 BK621 BK622 HB; revert n0_ n1_ n2_ n3_ n4_; intro HO627 BK620 BK621 BK622 HB
      clear hb ho39
      obtain ⟨Ao40, co40, eo40⟩ := Kd.R_slice HO627.out
      (first | subst eo40 | (injection eo40 with f1_ f2_ f3_; have f4_ := f1_.symm; have f5_ := f3_.symm; clear f1_ f2_ f3_; subst f4_; subst f5_))
      refine hK.out _ _ ⟨(blk_cell BK620.out 0).trans rfl, (blk_cell BK621.out 0).trans rfl, (blk_cell BK621.out 1).trans rfl⟩ (fun hHeld => ?_)
      clear hK K
      refine norm_ (a' := ?_) ?_ ?_
      rotate_left
      · show Act.put _ (some 16) _ = _
        simp only [Act.put, lsp, i64_w, i32_w]
        rfl
      refine one_ (i := 9) (N := some 17) #[true, true, true, true, true, true, true, true, true, true, false] rfl rfl (one_of HT_.out (by kernel_rfl)) (by decide) (fun K hK => ?_)
      refine goes_ Tryd.func60 (by kernel_rfl) rfl #[.slice Ao40 y625.length co40] (by rfl) rfl rfl el ?_
      with_reducible refine (impl_firstCode.calls k _ _ y625 t628 _ ?side1 ?side2 A5.out).mono ?_
      (case side1 => repeat (first | exact (Kd.R_reads' HO627.out).2.2 | (with_reducible refine Kd.C_alloc ?_ _) | (with_reducible refine Kd.C_drewN ?_ _) | (with_reducible refine Kd.C_drew ?_)))
      (case side2 => exact (Kd.R_reads' HO627.out).2.1)
      rintro e w41 ⟨rfl, hb⟩
      refine ⟨_, rfl, ?_⟩
      have n0_ := am (Kd.R_below (rq HO627.out) hb)
      have n1_ := am (blk_below (bq BK620.out) hb)
      have n2_ := am (blk_below (bq BK621.out) hb)
      have n3_ := am (blk_below (bq BK622.out) hb)
      have n4_ := am (below_step (hs HB.out) hb)
      clear HO627 BK620 BK621 BK622 HB; revert n0_ n1_ n2_ n3_ n4_; intro HO627 BK620 BK621 BK622 HB
      (try clear hb)
      (try clear hb2)
      (try clear hgw)
      (try clear hk)
      (try clear hi)
      refine hK.out _ _ ⟨(blk_cell BK620.out 0).trans rfl, (blk_cell BK621.out 0).trans rfl, (blk_cell BK621.out 1).trans rfl⟩ (fun hHeld => ?_)
      clear hK K
      refine norm_ (a' := ?_) ?_ ?_
      rotate_left
      · show Act.put _ (some 17) _ = _
        simp only [Act.put, lsp, i64_w, i32_w]
        rfl
      refine pure_ (i := 10) (N := some 5) (v := ?_) (a' := ?_) #[true, true, true, true, true, true, true, true, true, true, true] rfl rfl (any_of HT_.out (by kernel_rfl)) (fun _ _ _ h => h) (Or.inl ⟨by rfl, ?_⟩) ?_ ?_
      rotate_left
      · intro w'
        go_simp
        with_reducible rfl
      rotate_left
      · simp only [Act.put, lsp, i64_w, i32_w]
        rfl
      refine done_ (done_of HT_.out (by kernel_rfl)) ?_
      have hnb42 := NB621_620.out
      have hnc42 := NB620_621.out
      have hnb43 := NB621_622.out
      have hnc43 := NB622_621.out
      have hcz44_0 : w41.cell? ⟨gb621, 0, none⟩ = some (.slice A1_0 l1_0.length c1_0) := (blk_cell BK621.out 0).trans rfl
      have hcz44_1 : w41.cell? ⟨gb621, 1, none⟩ = some (.slice A1_1 l1_1.length c1_1) := (blk_cell BK621.out 1).trans rfl
      have hfz44_0 := blk_frozen BK621.out 0
      have hfz44_1 := blk_frozen BK621.out 1
      try go_wp2_with (first | ((with_reducible refine gate_callee (f := 61) rfl ?_); refine goesL_ (some 24) rfl rfl Tryd.func61 (by kernel_rfl) rfl #[.agg #[.slice A1_0 l1_0.length c1_0, .slice A1_1 l1_1.length c1_1]] rfl el ?_; (with_reducible refine (impl_plain.calls k _ _ l1_0 _ _ l1_1 t629 t632 false _ ?side1 ?side2 ?side3 ?side4 A7.out).mono ?_); (case side1 => exact cq (Kd.C_below HR1_0.out HB.out)); (case side2 => exact HC1_0.out); (case side3 => exact cq (Kd.C_below HR1_1.out HB.out)); (case side4 => exact HC1_1.out); rintro e w45 ⟨v630, v633, rfl, ho0, ho1, hb⟩; refine ⟨_, rfl, ?_⟩; have n0_ := am (Kd.R_mono (Kd.R_told (Kd.R_told (Kd.R_old (rq HO627.out) hb) (Kd.R_base ho0)) (Kd.R_base ho1)) (fun _ h_ => h_.1)); have n1_ := am (Kd.R_lower (Kd.R_new' ho0 (Kd.R_lt (rq HO627.out))) (below_size (hs HB.out))); have n2_ := am (Kd.R_lower (Kd.R_new' ho1 (Kd.R_lt (rq HO627.out))) (below_size (hs HB.out))); have n3_ := am (blk_below (bq BK620.out) hb); have n4_ := am (blk_below (bq BK621.out) hb); have n5_ := am (blk_below (bq BK622.out) hb); have n6_ := am (below_step (hs HB.out) hb); clear HO627 BK620 BK621 BK622 HB; revert n0_ n1_ n2_ n3_ n4_ n5_ n6_; intro HO627 HO631 HO634 BK620 BK621 BK622 HB; (try clear hb); (try clear hb2); (try clear hgw); (try clear hk); (try clear hi); (try clear ho0); (try clear ho1)) | ((with_reducible refine gate_dst (N := 6) rfl ?_); refine box_event ?hg (N := 6) ?hd (cs := #[.slice none 0 0, .slice none 0 0]) (t := 47) ?hr ?_; (case hd => rfl); (case hg => rfl); (case hr => first | (go_simp; done) | (go_simp; rfl)); intro gb636 hg w46 hbox hb; have n0_ := am (Kd.R_below (rq HO627.out) hb); have n1_ := am (Kd.R_below (rq HO631.out) hb); have n2_ := am (Kd.R_below (rq HO634.out) hb); have n3_ := am (blk_below (bq BK620.out) hb); have n4_ := am (blk_below (bq BK621.out) hb); have n5_ := am (blk_below (bq BK622.out) hb); have n6_ := am (below_step (hs HB.out) hb); have n7_ := am (hbox); have n8_ := am (bz hg (hs HB.out)); have n9_ := n8_; have n10_ := am ((by rw [hg]; exact Nat.ne_of_lt (blk_lt (bq BK620.out)) : gb620 ≠ gb636)); have n11_ := am ((by rw [hg]; exact Nat.ne_of_gt (blk_lt (bq BK620.out)) : gb636 ≠ gb620)); have n12_ := am ((by rw [hg]; exact Nat.ne_of_lt (blk_lt (bq BK621.out)) : gb621 ≠ gb636)); have n13_ := am ((by rw [hg]; exact Nat.ne_of_gt (blk_lt (bq BK621.out)) : gb636 ≠ gb621)); have n14_ := am ((by rw [hg]; exact Nat.ne_of_lt (blk_lt (bq BK622.out)) : gb622 ≠ gb636)); have n15_ := am ((by rw [hg]; exact Nat.ne_of_gt (blk_lt (bq BK622.out)) : gb636 ≠ gb622)); clear HO627 HO631 HO634 BK620 BK621 BK622 HB; revert n0_ n1_ n2_ n3_ n4_ n5_ n6_ n7_ n8_ n9_ n10_ n11_ n12_ n13_ n14_ n15_; intro HO627 HO631 HO634 BK620 BK621 BK622 HB BK636 GW636 GE636 NB620_636 NB636_620 NB621_636 NB636_621 NB622_636 NB636_622; clear hb hbox hg; obtain ⟨Ao47, co47, eo47⟩ := Kd.R_slice HO631.out; subst eo47; have hnb48 := NB636_620.out; have hnc48 := NB620_636.out; have hnb49 := NB636_621.out; have hnc49 := NB621_636.out; have hnb50 := NB636_622.out; have hnc50 := NB622_636.out; have hcz51_0 : w46.cell? ⟨gb636, 0, none⟩ = some (.slice none 0 0) := (blk_cell BK636.out 0).trans rfl; have hcz51_1 : w46.cell? ⟨gb636, 1, none⟩ = some (.slice none 0 0) := (blk_cell BK636.out 1).trans rfl; have hfz51_0 := blk_frozen BK636.out 0; have hfz51_1 := blk_frozen BK636.out 1; obtain ⟨Ao52, co52, eo52⟩ := Kd.R_slice HO634.out; subst eo52; have hnb53 := NB622_620.out; have hnc53 := NB620_622.out; have hcz54_0 : w46.cell? ⟨gb622, 0, none⟩ = some (.int .i64 0) := (blk_cell BK622.out 0).trans rfl; have hcz54_1 : w46.cell? ⟨gb622, 1, none⟩ = some (.slice none 0 0) := (blk_cell BK622.out 1).trans rfl; have hcz54_2 : w46.cell? ⟨gb622, 2, none⟩ = some (.slice none 0 0) := (blk_cell BK622.out 2).trans rfl; have hfz54_0 := blk_frozen BK622.out 0; have hfz54_1 := blk_frozen BK622.out 1; have hfz54_2 := blk_frozen BK622.out 2))
      refine bodyPost_ret (results_cell_row rfl _ _ gb622 49 #[.int .i64 2, .slice none 0 0, .slice none 0 0] (0, 0) _ rfl (by refine bq ?_; refine blk_put (cs := #[.int .i64 2, .slice none 0 0, .slice none 0 0]) ?_ 2 _ rfl; refine bq ?_; refine blk_put (cs := #[.int .i64 2, .slice none 0 0, .slice none 0 0]) ?_ 1 _ rfl; refine bq ?_; refine blk_put (cs := #[.int .i64 0, .slice none 0 0, .slice none 0 0]) ?_ 0 _ rfl; refine bq ?_; refine blk_far ?_ NB622_636.out _; refine bq ?_; refine blk_far ?_ NB622_636.out _; refine bq ?_; exact BK622.out) Tryd.underlying49 rfl (by kernel_rfl)) rfl ?_
      exact ⟨_, _, by first | rfl | (simp [errW_none, errW_some] <;> rfl) | (simp [*, errW_none, errW_some] <;> rfl), by first | exact Kd.R_nil _ _ _ _ _ | exact Kd.N_nil _ _ _ _ _ | exact Kd.V_nil _ _ _ _ _ | exact Kd.Q_nil _ _ _ _ _ | exact Kd.S_nil _ _ _ _ _, by first | exact Kd.R_nil _ _ _ _ _ | exact Kd.N_nil _ _ _ _ _ | exact Kd.V_nil _ _ _ _ _ | exact Kd.Q_nil _ _ _ _ _ | exact Kd.S_nil _ _ _ _ _, by exact hs HB.out⟩
  · rw [if_neg c6] at H
    have c6b0 : (t628 == 0) = false := beq_eq_false_iff_ne.mpr c6
    have c6b1 : (t628 != 0) = true := bne_iff_ne.mpr c6
    simp only [Option.some.injEq, Prod.mk.injEq] at H
    obtain ⟨rfl, rfl, rfl⟩ := H
    go_enter Tryd.func22, Tryd.ntmps22
    try go_wp2_with (first | ((with_reducible refine gate_dst (N := 2) rfl ?_); refine box_event ?hg (N := 2) ?hd (cs := #[.slice A0_0 l0_0.length c0_0]) (t := 26) ?hr ?_; (case hd => rfl); (case hg => rfl); (case hr => first | (go_simp; done) | (go_simp; rfl)); intro gb620 hg w55 hbox hb; have n0_ := am (below_step (hq HB.out) hb); have n1_ := am (hbox); have n2_ := am (bz hg (hq HB.out)); have n3_ := n2_; clear HB; revert n0_ n1_ n2_ n3_; intro HB BK620 GW620 GE620; clear hb hbox hg) | ((with_reducible refine gate_dst (N := 3) rfl ?_); refine box_event ?hg (N := 3) ?hd (cs := #[.slice A1_0 l1_0.length c1_0, .slice A1_1 l1_1.length c1_1]) (t := 47) ?hr ?_; (case hd => rfl); (case hg => rfl); (case hr => first | (go_simp; done) | (go_simp; rfl)); intro gb621 hg w56 hbox hb; have n0_ := am (blk_below (bq BK620.out) hb); have n1_ := am (below_step (hs HB.out) hb); have n2_ := am (hbox); have n3_ := am (bz hg (hs HB.out)); have n4_ := n3_; have n5_ := am ((by rw [hg]; exact Nat.ne_of_lt (blk_lt (bq BK620.out)) : gb620 ≠ gb621)); have n6_ := am ((by rw [hg]; exact Nat.ne_of_gt (blk_lt (bq BK620.out)) : gb621 ≠ gb620)); clear BK620 HB; revert n0_ n1_ n2_ n3_ n4_ n5_ n6_; intro BK620 HB BK621 GW621 GE621 NB620_621 NB621_620; clear hb hbox hg) | ((with_reducible refine gate_dst (N := 4) rfl ?_); refine box_event ?hg (N := 4) ?hd (cs := #[.int .i64 0, .slice none 0 0, .slice none 0 0]) (t := 49) ?hr ?_; (case hd => rfl); (case hg => rfl); (case hr => first | (go_simp; done) | (go_simp; rfl)); intro gb622 hg w57 hbox hb; have n0_ := am (blk_below (bq BK620.out) hb); have n1_ := am (blk_below (bq BK621.out) hb); have n2_ := am (below_step (hs HB.out) hb); have n3_ := am (hbox); have n4_ := am (bz hg (hs HB.out)); have n5_ := n4_; have n6_ := am ((by rw [hg]; exact Nat.ne_of_lt (blk_lt (bq BK620.out)) : gb620 ≠ gb622)); have n7_ := am ((by rw [hg]; exact Nat.ne_of_gt (blk_lt (bq BK620.out)) : gb622 ≠ gb620)); have n8_ := am ((by rw [hg]; exact Nat.ne_of_lt (blk_lt (bq BK621.out)) : gb621 ≠ gb622)); have n9_ := am ((by rw [hg]; exact Nat.ne_of_gt (blk_lt (bq BK621.out)) : gb622 ≠ gb621)); clear BK620 BK621 HB; revert n0_ n1_ n2_ n3_ n4_ n5_ n6_ n7_ n8_ n9_; intro BK620 BK621 HB BK622 GW622 GE622 NB620_622 NB622_620 NB621_622 NB622_621; clear hb hbox hg))
    have n0_ := am (blk_drew BK620.out)
    have n1_ := am (blk_drew BK621.out)
    have n2_ := am (blk_drew BK622.out)
    have n3_ := am (below_drew1 HB.out)
    clear BK620 BK621 BK622 HB; revert n0_ n1_ n2_ n3_; intro BK620 BK621 BK622 HB
    refine start_ (n := 11) (S := fun w' => w'.cell? ⟨gb620, 0, none⟩ = some (.slice A0_0 l0_0.length c0_0) ∧ w'.cell? ⟨gb621, 0, none⟩ = some (.slice A1_0 l1_0.length c1_0) ∧ w'.cell? ⟨gb621, 1, none⟩ = some (.slice A1_1 l1_1.length c1_1)) (ds := []) #[false, false, false, false, false, false, false, false, false, false, false] (by kernel_rfl) rfl rfl ⟨(blk_cell BK620.out 0).trans rfl, (blk_cell BK621.out 0).trans rfl, (blk_cell BK621.out 1).trans rfl⟩ (fun hHeld => ?_); refine with_tabW impl_PlainEquation.tab1 impl_PlainEquation.bits1 (fun HT_ HW_ => ?_)
    generalize w57.drew = w58 at BK620 BK621 BK622 HB hHeld ⊢
    refine pure_ (i := 1) (N := some 9) (v := ?_) (a' := ?_) #[false, true, false, false, false, false, false, false, false, false, false] rfl rfl (any_of HT_.out (by kernel_rfl)) (fun _ _ _ h => h) (Or.inl ⟨by rfl, ?_⟩) ?_ ?_
    rotate_left
    · intro w'
      go_simp
      with_reducible rfl
    rotate_left
    · simp only [Act.put, lsp, i64_w, i32_w]
      rfl
    refine pure_ (i := 5) (N := some 13) (v := ?_) (a' := ?_) #[false, true, false, false, false, true, false, false, false, false, false] rfl rfl (any_of HT_.out (by kernel_rfl)) (fun _ _ _ h => h) (Or.inl ⟨by rfl, ?_⟩) ?_ ?_
    rotate_left
    · intro w'
      go_simp
      with_reducible rfl
    rotate_left
    · simp only [Act.put, lsp, i64_w, i32_w]
      rfl
    refine take_ (i := 0) (N := some 8) (v := ?_) (a' := ?_) #[true, true, false, false, false, true, false, false, false, false, false] rfl rfl (take_ofW HT_.out HW_.out (by kernel_rfl)) (fun _ _ _ h => h) (Or.inl ⟨by rfl, ?_⟩) hHeld ?_ ?_
    rotate_left
    · rintro w' ⟨s0, s1, s2⟩
      go_simp
      with_reducible rfl
    rotate_left
    · simp only [Act.put, lsp, i64_w, i32_w]
      rfl
    refine take_ (i := 2) (N := some 10) (v := ?_) (a' := ?_) #[true, true, true, false, false, true, false, false, false, false, false] rfl rfl (take_ofW HT_.out HW_.out (by kernel_rfl)) (fun _ _ _ h => h) (Or.inl ⟨by rfl, ?_⟩) hHeld ?_ ?_
    rotate_left
    · rintro w' ⟨s0, s1, s2⟩
      go_simp
      with_reducible rfl
    rotate_left
    · simp only [Act.put, lsp, i64_w, i32_w]
      rfl
    refine take_ (i := 4) (N := some 12) (v := ?_) (a' := ?_) #[true, true, true, false, true, true, false, false, false, false, false] rfl rfl (take_ofW HT_.out HW_.out (by kernel_rfl)) (fun _ _ _ h => h) (Or.inl ⟨by rfl, ?_⟩) hHeld ?_ ?_
    rotate_left
    · rintro w' ⟨s0, s1, s2⟩
      go_simp
      with_reducible rfl
    rotate_left
    · simp only [Act.put, lsp, i64_w, i32_w]
      rfl
    refine take_ (i := 6) (N := some 14) (v := ?_) (a' := ?_) #[true, true, true, false, true, true, true, false, false, false, false] rfl rfl (take_ofW HT_.out HW_.out (by kernel_rfl)) (fun _ _ _ h => h) (Or.inl ⟨by rfl, ?_⟩) hHeld ?_ ?_
    rotate_left
    · rintro w' ⟨s0, s1, s2⟩
      go_simp
      with_reducible rfl
    rotate_left
    · simp only [Act.put, lsp, i64_w, i32_w]
      rfl
    refine one_ (i := 3) (N := some 11) #[true, true, true, true, true, true, true, false, false, false, false] rfl rfl (one_of HT_.out (by kernel_rfl)) (by decide) (fun K hK => ?_)
    refine goes_ Tryd.func10 (by kernel_rfl) rfl #[.agg #[.slice A0_0 l0_0.length c0_0], .slice A1_0 l1_0.length c1_0] (by rfl) rfl rfl el ?_
    with_reducible refine (impl_TermFault.calls k _ _ l0_0 _ _ l1_0 t623 _ ?side1 ?side2 ?side3 ?side4 A3.out).mono ?_
    (case side1 => exact cq (Kd.C_below HR0_0.out HB.out))
    (case side2 => exact HC0_0.out)
    (case side3 => exact cq (Kd.C_below HR1_0.out HB.out))
    (case side4 => exact HC1_0.out)
    rintro e w59 ⟨rfl, hb⟩
    refine ⟨_, rfl, ?_⟩
    have n0_ := am (blk_below (bq BK620.out) hb)
    have n1_ := am (blk_below (bq BK621.out) hb)
    have n2_ := am (blk_below (bq BK622.out) hb)
    have n3_ := am (below_step (hs HB.out) hb)
    clear BK620 BK621 BK622 HB; revert n0_ n1_ n2_ n3_; intro BK620 BK621 BK622 HB
    (try clear hb)
    (try clear hb2)
    (try clear hgw)
    (try clear hk)
    (try clear hi)
    refine hK.out _ _ ⟨(blk_cell BK620.out 0).trans rfl, (blk_cell BK621.out 0).trans rfl, (blk_cell BK621.out 1).trans rfl⟩ (fun hHeld => ?_)
    clear hK K
    refine norm_ (a' := ?_) ?_ ?_
    rotate_left
    · show Act.put _ (some 11) _ = _
      simp only [Act.put, lsp, i64_w, i32_w]
      rfl
    refine one_ (i := 7) (N := some 15) #[true, true, true, true, true, true, true, true, false, false, false] rfl rfl (one_of HT_.out (by kernel_rfl)) (by decide) (fun K hK => ?_)
    refine goes_ Tryd.func10 (by kernel_rfl) rfl #[.agg #[.slice A0_0 l0_0.length c0_0], .slice A1_1 l1_1.length c1_1] (by rfl) rfl rfl el ?_
    with_reducible refine (impl_TermFault.calls k _ _ l0_0 _ _ l1_1 t624 _ ?side1 ?side2 ?side3 ?side4 A4.out).mono ?_
    (case side1 => exact cq (Kd.C_below HR0_0.out HB.out))
    (case side2 => exact HC0_0.out)
    (case side3 => exact cq (Kd.C_below HR1_1.out HB.out))
    (case side4 => exact HC1_1.out)
    rintro e w60 ⟨rfl, hb⟩
    refine ⟨_, rfl, ?_⟩
    have n0_ := am (blk_below (bq BK620.out) hb)
    have n1_ := am (blk_below (bq BK621.out) hb)
    have n2_ := am (blk_below (bq BK622.out) hb)
    have n3_ := am (below_step (hs HB.out) hb)
    clear BK620 BK621 BK622 HB; revert n0_ n1_ n2_ n3_; intro BK620 BK621 BK622 HB
    (try clear hb)
    (try clear hb2)
    (try clear hgw)
    (try clear hk)
    (try clear hi)
    refine hK.out _ _ ⟨(blk_cell BK620.out 0).trans rfl, (blk_cell BK621.out 0).trans rfl, (blk_cell BK621.out 1).trans rfl⟩ (fun hHeld => ?_)
    clear hK K
    refine norm_ (a' := ?_) ?_ ?_
    rotate_left
    · show Act.put _ (some 15) _ = _
      simp only [Act.put, lsp, i64_w, i32_w]
      rfl
    refine one_ (i := 8) (N := some 16) #[true, true, true, true, true, true, true, true, true, false, false] rfl rfl (one_of HT_.out (by kernel_rfl)) (by decide) (fun K hK => ?_)
    refine Kd.R_lit_step (Kd.int .i64) _ 2 ?hg (N := 16) ?hd (xs := ([t623, t624] : List Int)) (inner := [.int .i64 t623, .int .i64 t624]) (ok := fun _ => True) (okp := fun _ => True) ?hr ?hp (fun _ hk => hk) trivial (Below.refl _ _) (Nat.le_refl _) (by simp) ?_; (case hd => rfl); (case hg => rfl); (case hr => first | (go_simp; done) | (go_simp; rfl)); (case hp => exact (Reps.one (show Kd.M (Kd.int .i64) _ _ _ t623 [.int .i64 t623] from rfl) (Reps.one (show Kd.M (Kd.int .i64) _ _ _ t624 [.int .i64 t624] from rfl) (Reps.none _ _))))
    intro v626 w61 ho62 hb hg_ hnew_
    clear hg_ hnew_
    (first | rw [← Ny625.out] at ho62 | (simp only [Int.reduceToNat] at ho62; rw [← Ny625.out] at ho62))
    have n0_ := am (Kd.R_lower ho62 (below_size (hs HB.out)))
    have n1_ := am (blk_below (bq BK620.out) hb)
    have n2_ := am (blk_below (bq BK621.out) hb)
    have n3_ := am (blk_below (bq BK622.out) hb)
    have n4_ := am (below_step (hs HB.out) hb)
    clear BK620 BK621 BK622 HB; revert n0_ n1_ n2_ n3_ n4_; intro HO627 BK620 BK621 BK622 HB
    clear hb ho62
    obtain ⟨Ao63, co63, eo63⟩ := Kd.R_slice HO627.out
    (first | subst eo63 | (injection eo63 with f1_ f2_ f3_; have f4_ := f1_.symm; have f5_ := f3_.symm; clear f1_ f2_ f3_; subst f4_; subst f5_))
    refine hK.out _ _ ⟨(blk_cell BK620.out 0).trans rfl, (blk_cell BK621.out 0).trans rfl, (blk_cell BK621.out 1).trans rfl⟩ (fun hHeld => ?_)
    clear hK K
    refine norm_ (a' := ?_) ?_ ?_
    rotate_left
    · show Act.put _ (some 16) _ = _
      simp only [Act.put, lsp, i64_w, i32_w]
      rfl
    refine one_ (i := 9) (N := some 17) #[true, true, true, true, true, true, true, true, true, true, false] rfl rfl (one_of HT_.out (by kernel_rfl)) (by decide) (fun K hK => ?_)
    refine goes_ Tryd.func60 (by kernel_rfl) rfl #[.slice Ao63 y625.length co63] (by rfl) rfl rfl el ?_
    with_reducible refine (impl_firstCode.calls k _ _ y625 t628 _ ?side1 ?side2 A5.out).mono ?_
    (case side1 => repeat (first | exact (Kd.R_reads' HO627.out).2.2 | (with_reducible refine Kd.C_alloc ?_ _) | (with_reducible refine Kd.C_drewN ?_ _) | (with_reducible refine Kd.C_drew ?_)))
    (case side2 => exact (Kd.R_reads' HO627.out).2.1)
    rintro e w64 ⟨rfl, hb⟩
    refine ⟨_, rfl, ?_⟩
    have n0_ := am (Kd.R_below (rq HO627.out) hb)
    have n1_ := am (blk_below (bq BK620.out) hb)
    have n2_ := am (blk_below (bq BK621.out) hb)
    have n3_ := am (blk_below (bq BK622.out) hb)
    have n4_ := am (below_step (hs HB.out) hb)
    clear HO627 BK620 BK621 BK622 HB; revert n0_ n1_ n2_ n3_ n4_; intro HO627 BK620 BK621 BK622 HB
    (try clear hb)
    (try clear hb2)
    (try clear hgw)
    (try clear hk)
    (try clear hi)
    refine hK.out _ _ ⟨(blk_cell BK620.out 0).trans rfl, (blk_cell BK621.out 0).trans rfl, (blk_cell BK621.out 1).trans rfl⟩ (fun hHeld => ?_)
    clear hK K
    refine norm_ (a' := ?_) ?_ ?_
    rotate_left
    · show Act.put _ (some 17) _ = _
      simp only [Act.put, lsp, i64_w, i32_w]
      rfl
    refine pure_ (i := 10) (N := some 5) (v := ?_) (a' := ?_) #[true, true, true, true, true, true, true, true, true, true, true] rfl rfl (any_of HT_.out (by kernel_rfl)) (fun _ _ _ h => h) (Or.inl ⟨by rfl, ?_⟩) ?_ ?_
    rotate_left
    · intro w'
      go_simp
      with_reducible rfl
    rotate_left
    · simp only [Act.put, lsp, i64_w, i32_w]
      rfl
    refine done_ (done_of HT_.out (by kernel_rfl)) ?_
    have hnb65 := NB622_620.out
    have hnc65 := NB620_622.out
    have hnb66 := NB622_621.out
    have hnc66 := NB621_622.out
    have hcz67_0 : w64.cell? ⟨gb622, 0, none⟩ = some (.int .i64 0) := (blk_cell BK622.out 0).trans rfl
    have hcz67_1 : w64.cell? ⟨gb622, 1, none⟩ = some (.slice none 0 0) := (blk_cell BK622.out 1).trans rfl
    have hcz67_2 : w64.cell? ⟨gb622, 2, none⟩ = some (.slice none 0 0) := (blk_cell BK622.out 2).trans rfl
    have hfz67_0 := blk_frozen BK622.out 0
    have hfz67_1 := blk_frozen BK622.out 1
    have hfz67_2 := blk_frozen BK622.out 2
    try go_wp2
    refine bodyPost_ret (results_cell_row rfl _ _ gb622 49 #[.int .i64 t628, .slice none 0 0, .slice none 0 0] (0, 0) _ rfl (by refine bq ?_; refine blk_put (cs := #[.int .i64 t628, .slice none 0 0, .slice none 0 0]) ?_ 2 _ rfl; refine bq ?_; refine blk_put (cs := #[.int .i64 t628, .slice none 0 0, .slice none 0 0]) ?_ 1 _ rfl; refine bq ?_; refine blk_put (cs := #[.int .i64 0, .slice none 0 0, .slice none 0 0]) ?_ 0 _ rfl; refine bq ?_; exact BK622.out) Tryd.underlying49 rfl (by kernel_rfl)) rfl ?_
    exact ⟨_, _, by first | rfl | (simp [errW_none, errW_some] <;> rfl) | (simp [*, errW_none, errW_some] <;> rfl), by first | exact Kd.R_nil _ _ _ _ _ | exact Kd.N_nil _ _ _ _ _ | exact Kd.V_nil _ _ _ _ _ | exact Kd.Q_nil _ _ _ _ _ | exact Kd.S_nil _ _ _ _ _, by first | exact Kd.R_nil _ _ _ _ _ | exact Kd.N_nil _ _ _ _ _ | exact Kd.V_nil _ _ _ _ _ | exact Kd.Q_nil _ _ _ _ _ | exact Kd.S_nil _ _ _ _ _, by exact hs HB.out⟩
end Go.Proofs.YtcanokiehjjbgaaDoor.P
namespace Go.Proofs.YtcanokiehjjbgaaDoor.P
open Go.RowKit Go.Proofs.YtcanokiehjjbgaaDoorW.PrintWords Go.Proofs.YtcanokiehjjbgaaDoorW.PrintLast Go.Proofs.YtcanokiehjjbgaaDoorW.PrintMore
attribute [local go_sem] max2_int min2_int max_two min_two max_three min_three max_four min_four   -- for this text's walks alone
set_option linter.unusedVariables false
set_option linter.unusedSimpArgs false
def laws_markSymbolS.l0 : Nat → List (S110) → Int → Int → Option (Int × (List (S110)))
  | 0, _, _, _ => none
  | k + 1, x0, x1, x5 => if x5 < (x0.length : Int) then ((laws_markText.f k x1).bind fun t657 => (if 0 ≤ x5 then ((some (x0.set (x5 : Int).toNat (⟨t657, (rd_T110 x0 x5).f1⟩ : S110) : List (S110))).bind fun y658 => (laws_markSymbolS.l0 k (y658.set (x5 : Int).toNat (⟨(rd_T110 y658 x5).f0, wrap64 (x1 + 1)⟩ : S110)) (wrap64 ((wrap64 (x1 + 1)) + 1)) (wrap64 (x5 + 1)))) else (none))) else (some (x1, x0))
def laws_markSymbolS.f (k : Nat) (l0 : List (S110)) (a1 : Int) : Option (Int × (List (S110))) := laws_markSymbolS.l0 k l0 a1 0
set_option maxHeartbeats 8000000 in
set_option maxRecDepth 100000 in
theorem laws_markSymbolS.calls (k : Nat) (P0_ : Nat → Prop) (u9000_ : Value) (l0 : List (S110)) (a1 : Int) (r1 : Int) (r2 : List (S110)) (w0 w : World) (hB : Below w0.heap.size w0 w) (ho0 : Kd.R k110 110 w w0.heap.size P0_ u9000_ l0) (h : laws_markSymbolS.f k l0 a1 = some (r1, r2)) :
    Calls Tryd.prog 63 #[u9000_, .int .i64 a1] w fun e w' => e = .returned (.int .i64 r1) ∧ Kd.R k110 110 w' w0.heap.size (fun k_ => (P0_ k_ ∨ w.heap.size ≤ k_)) u9000_ r2 ∧ Below w0.heap.size w0 w' ∧ Kept w w' (fun k_ => P0_ k_) := by
  have HO0 := am (show Kd.R k110 110 w w0.heap.size (fun k_ => (P0_ k_ ∨ w.heap.size ≤ k_)) u9000_ l0 from Kd.R_mono ho0 (fun k_ hk => (.inl hk)))
  have HK := am (Kept.refl w (fun k_ => P0_ k_))
  have HW0 := am hB.size
  have HB := am hB
  clear hB
  have H : (laws_markSymbolS.l0 k l0 a1 0) = some (r1, r2) := h
  clear h
  have H' := am H
  clear H
  go_enter Tryd.func63, Tryd.ntmps63
  go_wp2
  go_loopg [1, 5] k (fun kq v1 v5 w' => ∃ (x0_1 : List (S110)) (x1_1 : Int) (x5_1 : Int), v1 = .int .i64 x1_1 ∧ v5 = .int .i64 x5_1 ∧ Aside0 (laws_markSymbolS.l0 kq x0_1 x1_1 x5_1 = some (r1, r2)) ∧ Aside0 (kq ≤ k) ∧ Aside0 (Kd.R k110 110 w' w0.heap.size (fun k_ => (P0_ k_ ∨ w.heap.size ≤ k_)) u9000_ x0_1) ∧ Aside0 (Kept w w' (fun k_ => P0_ k_)) ∧ Aside0 (Below w0.heap.size w0 w'))
  case atStart => exact ⟨(l0), (a1), (0), (by first | rfl | (simp; done) | (simp [*]; done)), (by first | rfl | (simp; done) | (simp [*]; done)), H', ⟨Nat.le_refl _⟩, ⟨by (with_reducible repeat (first | apply Kd.R_alloc | apply Kd.R_drewN | apply Kd.R_drew)); exact HO0.out⟩, ⟨by repeat (first | (with_reducible first | exact HK.out | apply Kept.alloc | apply Kept.drewN | apply Kept.drew) | exact HK.out)⟩, ⟨by exact hq HB.out⟩⟩
  case round =>
    clear H'
    try clear p2
    obtain ⟨x0_1, x1_1, x5_1, rfl, rfl, HA, HK1, HO_0, HK, HB⟩ := hrel
    cases gk with
    | zero => exact absurd HA.out (by simp [laws_markSymbolS.l0])
    | succ k1 =>
      have H := HA.out
      clear HA
      simp only [laws_markSymbolS.l0] at H
      by_cases c3 : x5_1 < (x0_1.length : Int)
      · rw [if_pos c3] at H
        have c3b0 : decide (x5_1 < (x0_1.length : Int)) = true := decide_eq_true c3
        clear c3
        replace H := Option.bind_eq_some_iff.mp H
        obtain ⟨t657, A40, H⟩ := H
        replace H : (if 0 ≤ x5_1 then ((some (x0_1.set (x5_1 : Int).toNat (⟨t657, (rd_T110 x0_1 x5_1).f1⟩ : S110) : List (S110))).bind fun y658 => (laws_markSymbolS.l0 k1 (y658.set (x5_1 : Int).toNat (⟨(rd_T110 y658 x5_1).f0, wrap64 (x1_1 + 1)⟩ : S110)) (wrap64 ((wrap64 (x1_1 + 1)) + 1)) (wrap64 (x5_1 + 1)))) else (none)) = some (r1, r2) := H
        have A4 := am A40
        clear A40
        by_cases c5 : 0 ≤ x5_1
        · rw [if_pos c5] at H
          have c5b0 : decide (0 ≤ x5_1) = true := decide_eq_true c5
          clear c5
          obtain ⟨y658, hy658⟩ : ∃ y_ : List (S110), y_ = (x0_1.set (x5_1 : Int).toNat (⟨t657, (rd_T110 x0_1 x5_1).f1⟩ : S110)) := ⟨_, rfl⟩
          replace H : (laws_markSymbolS.l0 k1 (y658.set (x5_1 : Int).toNat (⟨(rd_T110 y658 x5_1).f0, wrap64 (x1_1 + 1)⟩ : S110)) (wrap64 ((wrap64 (x1_1 + 1)) + 1)) (wrap64 (x5_1 + 1))) = some (r1, r2) := by first | (rw [hy658]; with_reducible exact H) | (have H2_ := (Option.bind_some _ _).symm.trans H; rw [hy658]; with_reducible exact H2_) | (have H2_ := (Option.bind_some _ _).symm.trans H; with_reducible exact H2_) | with_reducible exact H | (rw [hy658]; exact H) | exact H
          have Ny658 := am hy658
          clear hy658
          obtain ⟨y659, hy659⟩ : ∃ y_ : List (S110), y_ = (y658.set (x5_1 : Int).toNat (⟨(rd_T110 y658 x5_1).f0, wrap64 (x1_1 + 1)⟩ : S110)) := ⟨_, rfl⟩
          replace H : (laws_markSymbolS.l0 k1 y659 (wrap64 ((wrap64 (x1_1 + 1)) + 1)) (wrap64 (x5_1 + 1))) = some (r1, r2) := by first | (rw [hy659]; with_reducible exact H) | (have H2_ := (Option.bind_some _ _).symm.trans H; rw [hy659]; with_reducible exact H2_) | (have H2_ := (Option.bind_some _ _).symm.trans H; with_reducible exact H2_) | with_reducible exact H | (rw [hy659]; exact H) | exact H
          have Ny659 := am hy659
          clear hy659
          have H' := am H
          clear H
          obtain ⟨Ao8, co8, eo8⟩ := Kd.R_slice HO_0.out
          subst eo8
          go_wp2_with (first | ((with_reducible refine gate_callee (f := 102) rfl ?_); refine goesL_ (some 15) rfl rfl Tryd.func102 (by kernel_rfl) rfl #[.int .i64 x1_1] rfl el ?_; (with_reducible refine (laws_markText.calls k1 x1_1 t657 _ A4.out).mono ?_); rintro e w9 ⟨rfl, hb⟩; refine ⟨_, rfl, ?_⟩; have n0_ := am (Kd.R_below (rq HO_0.out) hb); have n1_ := am (Kept.below (S := (fun k_ => P0_ k_)) (by repeat (first | (with_reducible first | exact HK.out | apply Kept.alloc | apply Kept.drewN | apply Kept.drew) | exact HK.out)) hb); have n2_ := am (below_step (hq HB.out) hb); clear HO_0 HK HB; revert n0_ n1_ n2_; intro HO_0 HK HB; (try clear hb); (try clear hb2); (try clear hgw); (try clear hk); (try clear hi); have p6 : 0 ≤ (x5_1 : Int) := of_decide_eq_true (by first | (with_reducible assumption) | assumption); have q6 : (x5_1 : Int) < ((x0_1.length : Int) : Int) := of_decide_eq_true (by first | (with_reducible assumption) | assumption); obtain ⟨go6, co6, eo6, gb6, gl6, cl6, HG6⟩ := Kd.R_form HO_0.out (by omega); (first | cases eo6 | (injection eo6 with ea_ en_ ec_; (first | subst ea_ | (injection ea_ with ea_; subst ea_)); subst ec_; clear en_)); have GB6 := am gb6; have GG6 := am HG6; clear gb6 gl6 HG6; have HMgo6 := am (show (P0_ go6 ∨ w.heap.size ≤ go6) from (HO_0.out.1 _ rfl)); obtain ⟨ce6, hcl6, hM6, hcc6, hfr6⟩ := Kd.R_elem HO_0.out z110 (x5_1 : Int) p6 q6; obtain rfl := k110_openM hM6; have hx6_0 : w9.cell? ⟨go6, (x5_1 : Int).toNat * 2, none⟩ = some (.string ((rd_T110 x0_1 x5_1).f0)) := hcc6 0 _ rfl; have hx6_1 : w9.cell? ⟨go6, (x5_1 : Int).toNat * 2 + 1, none⟩ = some (.int .i64 ((rd_T110 x0_1 x5_1).f1)) := hcc6 1 _ rfl; have hf6_0 : w9.frozen? ⟨go6, (x5_1 : Int).toNat * 2, none⟩ = false := hfr6 0; have hf6_1 : w9.frozen? ⟨go6, (x5_1 : Int).toNat * 2 + 1, none⟩ = false := hfr6 1; clear hcl6 hcc6 hfr6; (try clear hM6); replace p6 := eq_true p6; replace q6 := eq_true q6; have HX10 := am (show Kd.R k110 110 w9 w0.heap.size (fun k_ => (P0_ k_ ∨ w.heap.size ≤ k_)) (.slice (some ⟨go6, 0, none⟩) x0_1.length co8) x0_1 from (rq HO_0.out)); obtain ⟨ce10, hcl10, hM10, hcc10, hfr10⟩ := Kd.R_elem HX10.out z110 (x5_1 : Int) (of_decide_eq_true (by first | (with_reducible assumption) | assumption)) (by have h_ : (x5_1 : Int) < ((x0_1.length : Int) : Int) := of_decide_eq_true (by first | (with_reducible assumption) | assumption); first | exact h_ | (have e_ := (Kd.R_reads' HO_0.out).1; omega) | simpa using h_); obtain rfl := k110_openM hM10; have HP10 := Kd.R_seg HX10.out (x5_1 : Int) (of_decide_eq_true (by first | (with_reducible assumption) | assumption)) (by have h_ : (x5_1 : Int) < ((x0_1.length : Int) : Int) := of_decide_eq_true (by first | (with_reducible assumption) | assumption); first | exact h_ | (have e_ := (Kd.R_reads' HO_0.out).1; omega) | simpa using h_) (seg := [.string t657]) (j := 0) hcl10 hcc10 (show 1 ≤ 2 from by decide) (x' := (⟨t657, (rd_T110 x0_1 x5_1).f1⟩ : S110)) (k110_mkM _ _ _ (⟨t657, (rd_T110 x0_1 x5_1).f1⟩ : S110) ) (fun _ hk => hk); have hx10_0 := hcc10 0 _ rfl; (try simp only [show (k110).sz = 2 from rfl, Nat.mul_one, Nat.add_zero] at hx10_0); have hf10_0 := hfr10 0; (try simp only [show (k110).sz = 2 from rfl, Nat.mul_one, Nat.add_zero] at hf10_0); clear hcl10 hcc10 hfr10; (try clear hM10)) | ((with_reducible refine gate_store (t := 9) (p := 17) rfl ?_); refine store_event (t := 9) (p := 17) (v := ?vo_w11) (w1 := (w9.setCell ⟨go6, (x5_1 : Int).toNat * 2, none⟩ (.string t657))) ?hg ?ho ?hn ?hr ?_; (case ho => rfl); (case hg => rfl); (case hn => rfl); (case hr => first | (go_simp; done) | (go_simp; rfl)); intro w11 hw; have hg : w9.grownBy w11 (some go6) := (by rw [hw]; exact HP10.2); have hp_ : Kd.R k110 110 w11 w0.heap.size (fun k_ => (P0_ k_ ∨ w.heap.size ≤ k_)) (.slice (some ⟨go6, 0, none⟩) x0_1.length co8) y658 := (by rw [hw, Ny658.out]; exact HP10.1); clear HP10; have n0_ := am (hp_); have n1_ := am ((by rw [hw]; exact below_set (HB.out) GB6.out : Below w0.heap.size w0 w11)); have n2_ := am (Kept.of_grown (S := (fun k_ => P0_ k_)) hg (by repeat (first | (with_reducible first | exact HK.out | apply Kept.alloc | apply Kept.drewN | apply Kept.drew) | exact HK.out)) (fun k_ e_ => (HO_0.out.1 k_ e_))); clear HO_0 HB HK; revert n0_ n1_ n2_; intro HO_0 HB HK; clear hg hw hp_; have p7 : 0 ≤ (x5_1 : Int) := of_decide_eq_true (by first | (with_reducible assumption) | assumption); have q7 : (x5_1 : Int) < ((x0_1.length : Int) : Int) := of_decide_eq_true (by first | (with_reducible assumption) | assumption); obtain ⟨ce7, hcl7, hM7, hcc7, hfr7⟩ := Kd.R_elem HO_0.out z110 (x5_1 : Int) p7 q7; obtain rfl := k110_openM hM7; have hx7_0 : w11.cell? ⟨go6, (x5_1 : Int).toNat * 2, none⟩ = some (.string ((rd_T110 y658 x5_1).f0)) := hcc7 0 _ rfl; have hx7_1 : w11.cell? ⟨go6, (x5_1 : Int).toNat * 2 + 1, none⟩ = some (.int .i64 ((rd_T110 y658 x5_1).f1)) := hcc7 1 _ rfl; have hf7_0 : w11.frozen? ⟨go6, (x5_1 : Int).toNat * 2, none⟩ = false := hfr7 0; have hf7_1 : w11.frozen? ⟨go6, (x5_1 : Int).toNat * 2 + 1, none⟩ = false := hfr7 1; clear hcl7 hcc7 hfr7; (try clear hM7); replace p7 := eq_true p7; replace q7 := eq_true q7; have HX12 := am (show Kd.R k110 110 w11 w0.heap.size (fun k_ => (P0_ k_ ∨ w.heap.size ≤ k_)) (.slice (some ⟨go6, 0, none⟩) x0_1.length co8) y658 from (rq HO_0.out)); obtain ⟨ce12, hcl12, hM12, hcc12, hfr12⟩ := Kd.R_elem HX12.out z110 (x5_1 : Int) (of_decide_eq_true (by first | (with_reducible assumption) | assumption)) (by have h_ : (x5_1 : Int) < ((x0_1.length : Int) : Int) := of_decide_eq_true (by first | (with_reducible assumption) | assumption); first | exact h_ | (have e_ := (Kd.R_reads' HO_0.out).1; omega) | simpa using h_); obtain rfl := k110_openM hM12; have HP12 := Kd.R_seg HX12.out (x5_1 : Int) (of_decide_eq_true (by first | (with_reducible assumption) | assumption)) (by have h_ : (x5_1 : Int) < ((x0_1.length : Int) : Int) := of_decide_eq_true (by first | (with_reducible assumption) | assumption); first | exact h_ | (have e_ := (Kd.R_reads' HO_0.out).1; omega) | simpa using h_) (seg := [.int .i64 (wrap64 (x1_1 + 1))]) (j := 1) hcl12 hcc12 (show 2 ≤ 2 from by decide) (x' := (⟨(rd_T110 y658 x5_1).f0, wrap64 (x1_1 + 1)⟩ : S110)) (k110_mkM _ _ _ (⟨(rd_T110 y658 x5_1).f0, wrap64 (x1_1 + 1)⟩ : S110) ) (fun _ hk => hk); have hx12_1 := hcc12 1 _ rfl; (try simp only [show (k110).sz = 2 from rfl, Nat.mul_one, Nat.add_zero] at hx12_1); have hf12_1 := hfr12 1; (try simp only [show (k110).sz = 2 from rfl, Nat.mul_one, Nat.add_zero] at hf12_1); clear hcl12 hcc12 hfr12; (try clear hM12)) | ((with_reducible refine gate_store (t := 2) (p := 24) rfl ?_); refine store_event (t := 2) (p := 24) (v := ?vo_w13) (w1 := (w11.setCell ⟨go6, (x5_1 : Int).toNat * 2 + 1, none⟩ (.int .i64 (wrap64 (x1_1 + 1))))) ?hg ?ho ?hn ?hr ?_; (case ho => rfl); (case hg => rfl); (case hn => rfl); (case hr => first | (go_simp; done) | (go_simp; rfl)); intro w13 hw; have hg : w11.grownBy w13 (some go6) := (by rw [hw]; exact HP12.2); have hp_ : Kd.R k110 110 w13 w0.heap.size (fun k_ => (P0_ k_ ∨ w.heap.size ≤ k_)) (.slice (some ⟨go6, 0, none⟩) x0_1.length co8) y659 := (by rw [hw, Ny659.out]; exact HP12.1); clear HP12; have n0_ := am (hp_); have n1_ := am ((by rw [hw]; exact below_set (HB.out) GB6.out : Below w0.heap.size w0 w13)); have n2_ := am (Kept.of_grown (S := (fun k_ => P0_ k_)) hg (by repeat (first | (with_reducible first | exact HK.out | apply Kept.alloc | apply Kept.drewN | apply Kept.drew) | exact HK.out)) (fun k_ e_ => (HO_0.out.1 k_ e_))); clear HO_0 HB HK; revert n0_ n1_ n2_; intro HO_0 HB HK; clear hg hw hp_))
          go_roundg k1
          case measure => have := HK1.out; omega
          case rel => exact ⟨(y659), (wrap64 ((wrap64 (x1_1 + 1)) + 1)), (wrap64 (x5_1 + 1)), (by first | rfl | (simp; done) | (simp [*]; done)), (by first | rfl | (simp; done) | (simp [*]; done)), H', ⟨by have := HK1.out; omega⟩, ⟨by (with_reducible repeat (first | apply Kd.R_alloc | apply Kd.R_drewN | apply Kd.R_drew)); exact HO_0.out⟩, ⟨by repeat (first | (with_reducible first | exact HK.out | apply Kept.alloc | apply Kept.drewN | apply Kept.drew) | exact HK.out)⟩, ⟨by exact hq HB.out⟩⟩
        · rw [if_neg c5] at H
          exact absurd H (by simp)
      · rw [if_neg c3] at H
        have c3b0 : decide (x5_1 < (x0_1.length : Int)) = false := decide_eq_false c3
        clear c3
        simp only [Option.some.injEq, Prod.mk.injEq] at H
        obtain ⟨rfl, rfl⟩ := H
        obtain ⟨Ao14, co14, eo14⟩ := Kd.R_slice HO_0.out
        subst eo14
        go_wp2
        go_ret
        exact ⟨by first | rfl | (simp [errW_none, errW_some] <;> rfl) | (simp [*, errW_none, errW_some] <;> rfl), by (with_reducible repeat (first | apply Kd.R_alloc | apply Kd.R_drewN | apply Kd.R_drew)); exact HO_0.out, by exact hq HB.out, by repeat (first | (with_reducible first | exact HK.out | apply Kept.alloc | apply Kept.drewN | apply Kept.drew) | exact HK.out)⟩
def laws_markSignature.f (k : Nat) (l0_0 : List (S110)) (a1 : Int) : Option (Int × (List (S110))) := (laws_markSymbolS.f k l0_0 a1).bind fun bt661 => (some (bt661.1, bt661.2))
set_option maxHeartbeats 8000000 in
set_option maxRecDepth 100000 in
theorem laws_markSignature.calls (k : Nat) (P0_0_ : Nat → Prop) (u9000_ : Value) (l0_0 : List (S110)) (a1 : Int) (r1 : Int) (r2 : List (S110)) (w0 w : World) (hB : Below w0.heap.size w0 w) (ho0_0 : Kd.R k110 110 w w0.heap.size P0_0_ u9000_ l0_0) (h : laws_markSignature.f k l0_0 a1 = some (r1, r2)) :
    Calls Tryd.prog 26 #[.agg #[u9000_], .int .i64 a1] w fun e w' => e = .returned (.int .i64 r1) ∧ Kd.R k110 110 w' w0.heap.size (fun k_ => (P0_0_ k_ ∨ w.heap.size ≤ k_)) u9000_ r2 ∧ Below w0.heap.size w0 w' ∧ Kept w w' (fun k_ => P0_0_ k_) := by
  have hu26 := Tryd.underlying26
  have HO0_0 := am (show Kd.R k110 110 w w0.heap.size (fun k_ => (P0_0_ k_ ∨ w.heap.size ≤ k_)) u9000_ l0_0 from Kd.R_mono ho0_0 (fun k_ hk => (.inl hk)))
  have HK := am (Kept.refl w (fun k_ => P0_0_ k_))
  have HW0 := am hB.size
  have HB := am hB
  clear hB
  have H : ((laws_markSymbolS.f k l0_0 a1).bind fun bt661 => (some (bt661.1, bt661.2))) = some (r1, r2) := h
  clear h
  replace H := Option.bind_eq_some_iff.mp H
  obtain ⟨⟨t661, t662⟩, A30, H⟩ := H
  replace H : (some (t661, t662)) = some (r1, r2) := H
  have A3 := am A30
  clear A30
  simp only [Option.some.injEq, Prod.mk.injEq] at H
  obtain ⟨rfl, rfl⟩ := H
  obtain ⟨Ao4, co4, eo4⟩ := Kd.R_slice HO0_0.out
  subst eo4
  go_enter Tryd.func26, Tryd.ntmps26
  go_wp2_with (first | ((with_reducible refine gate_dst (N := 2) rfl ?_); refine box_event ?hg (N := 2) ?hd (cs := #[.slice Ao4 l0_0.length co4]) (t := 26) ?hr ?_; (case hd => rfl); (case hg => rfl); (case hr => first | (go_simp; done) | (go_simp; rfl)); intro gb660 hg w5 hbox hb; have n0_ := am (Kd.R_below (rq HO0_0.out) hb); have n1_ := am (Kept.below (S := (fun k_ => P0_0_ k_)) (by repeat (first | (with_reducible first | exact HK.out | apply Kept.alloc | apply Kept.drewN | apply Kept.drew) | exact HK.out)) hb); have n2_ := am (below_step (hq HB.out) hb); have n3_ := am (hbox); have n4_ := am ((by rw [hg]; exact (by first | exact HK.out.1 | exact (show Kept w _ (fun k_ => P0_0_ k_) from by repeat (first | (with_reducible first | exact HK.out | apply Kept.alloc | apply Kept.drewN | apply Kept.drew) | exact HK.out)).1) : w.heap.size ≤ gb660)); have n5_ := am (bz hg (hq HB.out)); clear HO0_0 HK HB; revert n0_ n1_ n2_ n3_ n4_ n5_; intro HO0_0 HK HB BK660 GW660 GE660; clear hb hbox hg; have hcz6_0 : w5.cell? ⟨gb660, 0, none⟩ = some (.slice Ao4 l0_0.length co4) := (blk_cell BK660.out 0).trans rfl; have hfz6_0 := blk_frozen BK660.out 0) | ((with_reducible refine gate_callee (f := 63) rfl ?_); refine goesL_ (some 8) rfl rfl Tryd.func63 (by kernel_rfl) rfl #[.slice Ao4 l0_0.length co4, .int .i64 a1] rfl el ?_; (with_reducible refine (laws_markSymbolS.calls k (fun k_ => some k_ = (.slice Ao4 l0_0.length co4 : Value).ownBlock) (.slice Ao4 l0_0.length co4) l0_0 a1 t661 t662 w0 _ ?side1 ?side2 A3.out).mono ?_); (case side1 => exact hs HB.out); (case side2 => exact Kd.R_tight rfl HO0_0.out); rintro e w7 ⟨rfl, hy0, hb, hkp⟩; refine ⟨_, rfl, ?_⟩; have n0_ := am (Kd.R_reok rfl hy0 (fun k_ e_ => HO0_0.out.1 k_ e_)); have n1_ := am (blk_keptF BK660.out (fun h_ => by refine bq ?_; exact h_) hkp (fun hs_ => (fun e_ => (Kd.R_ne HO0_0.out BK660.out (by decide)) e_) hs_)); have n2_ := am (Kept.then_ (S := (fun k_ => P0_0_ k_)) (by repeat (first | (with_reducible first | exact HK.out | apply Kept.alloc | apply Kept.drewN | apply Kept.drew | refine Kept.setCell ?_ (.inr GW660.out) _) | exact HK.out)) hkp (fun k_ hs_ => (fun e_ => (HO0_0.out.1 k_ e_.symm)) hs_)); have n3_ := am (hb); clear HO0_0 BK660 HK HB; revert n0_ n1_ n2_ n3_; intro HO0_0 BK660 HK HB; (try clear hb); (try clear hkp); (try clear hy0)))
  go_ret
  exact ⟨by first | rfl | (simp [errW_none, errW_some] <;> rfl) | (simp [*, errW_none, errW_some] <;> rfl), by (with_reducible repeat (first | apply Kd.R_alloc | apply Kd.R_drewN | apply Kd.R_drew)); exact HO0_0.out, by exact hs HB.out, by repeat (first | (with_reducible first | exact HK.out | apply Kept.alloc | apply Kept.drewN | apply Kept.drew | refine Kept.setCell ?_ (.inr GW660.out) _) | exact HK.out)⟩
def laws_markInt64S.l0 : Nat → List Int → Int → Int → Option (Int × List Int)
  | 0, _, _, _ => none
  | k + 1, x0, x1, x5 => if x5 < (x0.length : Int) then (if 0 ≤ x5 then (laws_markInt64S.l0 k (x0.set (x5 : Int).toNat x1) (wrap64 (x1 + 1)) (wrap64 (x5 + 1))) else (none)) else (some (x1, x0))
def laws_markInt64S.f (k : Nat) (l0 : List Int) (a1 : Int) : Option (Int × List Int) := laws_markInt64S.l0 k l0 a1 0
set_option maxHeartbeats 8000000 in
set_option maxRecDepth 100000 in
theorem laws_markInt64S.calls (k : Nat) (P0_ : Nat → Prop) (u9000_ : Value) (l0 : List Int) (a1 : Int) (r1 : Int) (r2 : List Int) (w0 w : World) (hB : Below w0.heap.size w0 w) (ho0 : Kd.R (Kd.int .i64) 2 w w0.heap.size P0_ u9000_ l0) (h : laws_markInt64S.f k l0 a1 = some (r1, r2)) :
    Calls Tryd.prog 39 #[u9000_, .int .i64 a1] w fun e w' => e = .returned (.int .i64 r1) ∧ Kd.R (Kd.int .i64) 2 w' w0.heap.size (fun k_ => (P0_ k_ ∨ w.heap.size ≤ k_)) u9000_ r2 ∧ Below w0.heap.size w0 w' ∧ Kept w w' (fun k_ => P0_ k_) := by
  have HO0 := am (show Kd.R (Kd.int .i64) 2 w w0.heap.size (fun k_ => (P0_ k_ ∨ w.heap.size ≤ k_)) u9000_ l0 from Kd.R_mono ho0 (fun k_ hk => (.inl hk)))
  have HK := am (Kept.refl w (fun k_ => P0_ k_))
  have HW0 := am hB.size
  have HB := am hB
  clear hB
  have H : (laws_markInt64S.l0 k l0 a1 0) = some (r1, r2) := h
  clear h
  have H' := am H
  clear H
  go_enter Tryd.func39, Tryd.ntmps39
  go_wp2
  go_loopg [1, 5] k (fun kq v1 v5 w' => ∃ (x0_1 : List Int) (x1_1 : Int) (x5_1 : Int), v1 = .int .i64 x1_1 ∧ v5 = .int .i64 x5_1 ∧ Aside0 (laws_markInt64S.l0 kq x0_1 x1_1 x5_1 = some (r1, r2)) ∧ Aside0 (kq ≤ k) ∧ Aside0 (Kd.R (Kd.int .i64) 2 w' w0.heap.size (fun k_ => (P0_ k_ ∨ w.heap.size ≤ k_)) u9000_ x0_1) ∧ Aside0 (Kept w w' (fun k_ => P0_ k_)) ∧ Aside0 (Below w0.heap.size w0 w'))
  case atStart => exact ⟨(l0), (a1), (0), (by first | rfl | (simp; done) | (simp [*]; done)), (by first | rfl | (simp; done) | (simp [*]; done)), H', ⟨Nat.le_refl _⟩, ⟨by (with_reducible repeat (first | apply Kd.R_alloc | apply Kd.R_drewN | apply Kd.R_drew)); exact HO0.out⟩, ⟨by repeat (first | (with_reducible first | exact HK.out | apply Kept.alloc | apply Kept.drewN | apply Kept.drew) | exact HK.out)⟩, ⟨by exact hq HB.out⟩⟩
  case round =>
    clear H'
    try clear p2
    obtain ⟨x0_1, x1_1, x5_1, rfl, rfl, HA, HK1, HO_0, HK, HB⟩ := hrel
    cases gk with
    | zero => exact absurd HA.out (by simp [laws_markInt64S.l0])
    | succ k1 =>
      have H := HA.out
      clear HA
      simp only [laws_markInt64S.l0] at H
      by_cases c3 : x5_1 < (x0_1.length : Int)
      · rw [if_pos c3] at H
        have c3b0 : decide (x5_1 < (x0_1.length : Int)) = true := decide_eq_true c3
        clear c3
        by_cases c4 : 0 ≤ x5_1
        · rw [if_pos c4] at H
          have c4b0 : decide (0 ≤ x5_1) = true := decide_eq_true c4
          clear c4
          obtain ⟨y663, hy663⟩ : ∃ y_ : List Int, y_ = (x0_1.set (x5_1 : Int).toNat x1_1) := ⟨_, rfl⟩
          replace H : (laws_markInt64S.l0 k1 y663 (wrap64 (x1_1 + 1)) (wrap64 (x5_1 + 1))) = some (r1, r2) := by first | (rw [hy663]; with_reducible exact H) | (have H2_ := (Option.bind_some _ _).symm.trans H; rw [hy663]; with_reducible exact H2_) | (have H2_ := (Option.bind_some _ _).symm.trans H; with_reducible exact H2_) | with_reducible exact H | (rw [hy663]; exact H) | exact H
          have Ny663 := am hy663
          clear hy663
          have H' := am H
          clear H
          obtain ⟨Ao6, co6, eo6⟩ := Kd.R_slice HO_0.out
          subst eo6
          have p5 : 0 ≤ (x5_1 : Int) := of_decide_eq_true (by first | (with_reducible assumption) | assumption)
          have q5 : (x5_1 : Int) < ((x0_1.length : Int) : Int) := of_decide_eq_true (by first | (with_reducible assumption) | assumption)
          obtain ⟨go5, co5, eo5, gb5, gl5, cl5, HG5⟩ := Kd.R_form HO_0.out (by omega)
          (first | cases eo5 | (injection eo5 with ea_ en_ ec_; (first | subst ea_ | (injection ea_ with ea_; subst ea_)); subst ec_; clear en_))
          have GB5 := am gb5
          have GG5 := am HG5
          clear gb5 gl5 HG5
          have HMgo5 := am (show (P0_ go5 ∨ w.heap.size ≤ go5) from (HO_0.out.1 _ rfl))
          obtain ⟨hx5_0, hf5_0⟩ := Kd.R_celln 0 HO_0.out (x5_1 : Int) p5 q5
          replace p5 := eq_true p5
          replace q5 := eq_true q5
          have HP7 := Kd.R_putg HO_0.out (x5_1 : Int) x1_1
          go_wp2_with (first | ((with_reducible refine gate_store (t := 2) (p := 15) rfl ?_); refine store_event (t := 2) (p := 15) (v := ?vo_w8) (w1 := (wr.setCell ⟨go5, (x5_1 : Int).toNat, none⟩ (.int .i64 x1_1))) ?hg ?ho ?hn ?hr ?_; (case ho => rfl); (case hg => rfl); (case hn => rfl); (case hr => first | (go_simp; done) | (go_simp; rfl)); intro w8 hw; have hg : wr.grownBy w8 (some go5) := (by rw [hw]; exact HP7.2); have hp_ : Kd.R (Kd.int .i64) 2 w8 w0.heap.size (fun k_ => (P0_ k_ ∨ w.heap.size ≤ k_)) (.slice (some ⟨go5, 0, none⟩) x0_1.length co6) y663 := (by rw [hw, Ny663.out]; exact HP7.1); clear HP7; have n0_ := am (hp_); have n1_ := am ((by rw [hw]; exact below_set (HB.out) GB5.out : Below w0.heap.size w0 w8)); have n2_ := am (Kept.of_grown (S := (fun k_ => P0_ k_)) hg (by repeat (first | (with_reducible first | exact HK.out | apply Kept.alloc | apply Kept.drewN | apply Kept.drew) | exact HK.out)) (fun k_ e_ => (HO_0.out.1 k_ e_))); clear HO_0 HB HK; revert n0_ n1_ n2_; intro HO_0 HB HK; clear hg hw hp_))
          go_roundg k1
          case measure => have := HK1.out; omega
          case rel => exact ⟨(y663), (wrap64 (x1_1 + 1)), (wrap64 (x5_1 + 1)), (by first | rfl | (simp; done) | (simp [*]; done)), (by first | rfl | (simp; done) | (simp [*]; done)), H', ⟨by have := HK1.out; omega⟩, ⟨by (with_reducible repeat (first | apply Kd.R_alloc | apply Kd.R_drewN | apply Kd.R_drew)); exact HO_0.out⟩, ⟨by repeat (first | (with_reducible first | exact HK.out | apply Kept.alloc | apply Kept.drewN | apply Kept.drew) | exact HK.out)⟩, ⟨by exact hq HB.out⟩⟩
        · rw [if_neg c4] at H
          exact absurd H (by simp)
      · rw [if_neg c3] at H
        have c3b0 : decide (x5_1 < (x0_1.length : Int)) = false := decide_eq_false c3
        clear c3
        simp only [Option.some.injEq, Prod.mk.injEq] at H
        obtain ⟨rfl, rfl⟩ := H
        obtain ⟨Ao9, co9, eo9⟩ := Kd.R_slice HO_0.out
        subst eo9
        go_wp2
        go_ret
        exact ⟨by first | rfl | (simp [errW_none, errW_some] <;> rfl) | (simp [*, errW_none, errW_some] <;> rfl), by (with_reducible repeat (first | apply Kd.R_alloc | apply Kd.R_drewN | apply Kd.R_drew)); exact HO_0.out, by exact hq HB.out, by repeat (first | (with_reducible first | exact HK.out | apply Kept.alloc | apply Kept.drewN | apply Kept.drew) | exact HK.out)⟩
def laws_markEquation.f (k : Nat) (l0_0 : List Int) (l0_1 : List Int) (a1 : Int) : Option (Int × List Int × List Int) := (laws_markInt64S.f k l0_0 a1).bind fun bt665 => ((laws_markInt64S.f k l0_1 bt665.1).bind fun bt667 => (some (bt667.1, bt665.2, bt667.2)))
set_option maxHeartbeats 8000000 in
set_option maxRecDepth 100000 in
theorem laws_markEquation.calls (k : Nat) (P0_0_ : Nat → Prop) (u9000_ : Value) (l0_0 : List Int) (P0_1_ : Nat → Prop) (u9001_ : Value) (l0_1 : List Int) (a1 : Int) (r1 : Int) (r2 : List Int) (r3 : List Int) (w0 w : World) (hB : Below w0.heap.size w0 w) (ho0_0 : Kd.R (Kd.int .i64) 2 w w0.heap.size P0_0_ u9000_ l0_0) (hp0_0_0_1 : ∀ k_, P0_0_ k_ → ¬ P0_1_ k_) (ho0_1 : Kd.R (Kd.int .i64) 2 w w0.heap.size P0_1_ u9001_ l0_1) (hp0_1_0_0 : ∀ k_, P0_1_ k_ → ¬ P0_0_ k_) (h : laws_markEquation.f k l0_0 l0_1 a1 = some (r1, r2, r3)) :
    Calls Tryd.prog 27 #[.agg #[u9000_, u9001_], .int .i64 a1] w fun e w' => e = .returned (.int .i64 r1) ∧ Kd.R (Kd.int .i64) 2 w' w0.heap.size (fun k_ => ((P0_0_ k_ ∨ P0_1_ k_) ∨ w.heap.size ≤ k_)) u9000_ r2 ∧ Kd.R (Kd.int .i64) 2 w' w0.heap.size (fun k_ => ((P0_0_ k_ ∨ P0_1_ k_) ∨ w.heap.size ≤ k_)) u9001_ r3 ∧ Below w0.heap.size w0 w' ∧ Kept w w' (fun k_ => P0_0_ k_ ∨ P0_1_ k_) := by
  have hu47 := Tryd.underlying47
  have HO0_0 := am (show Kd.R (Kd.int .i64) 2 w w0.heap.size (fun k_ => ((P0_0_ k_ ∨ P0_1_ k_) ∨ w.heap.size ≤ k_) ∧ some k_ ≠ (u9001_ : Value).ownBlock) u9000_ l0_0 from Kd.R_mono ho0_0 (fun k_ hk => ⟨(.inl (.inl hk)), fun e_ => hp0_0_0_1 k_ hk (ho0_1.1 k_ e_.symm)⟩))
  have HO0_1 := am (show Kd.R (Kd.int .i64) 2 w w0.heap.size (fun k_ => ((P0_0_ k_ ∨ P0_1_ k_) ∨ w.heap.size ≤ k_) ∧ some k_ ≠ (u9000_ : Value).ownBlock) u9001_ l0_1 from Kd.R_mono ho0_1 (fun k_ hk => ⟨(.inl (.inr hk)), fun e_ => hp0_1_0_0 k_ hk (ho0_0.1 k_ e_.symm)⟩))
  have HK := am (Kept.refl w (fun k_ => P0_0_ k_ ∨ P0_1_ k_))
  have HW0 := am hB.size
  have HB := am hB
  clear hB
  have H : ((laws_markInt64S.f k l0_0 a1).bind fun bt665 => ((laws_markInt64S.f k l0_1 bt665.1).bind fun bt667 => (some (bt667.1, bt665.2, bt667.2)))) = some (r1, r2, r3) := h
  clear h
  replace H := Option.bind_eq_some_iff.mp H
  obtain ⟨⟨t665, t666⟩, A30, H⟩ := H
  replace H : ((laws_markInt64S.f k l0_1 t665).bind fun bt667 => (some (bt667.1, t666, bt667.2))) = some (r1, r2, r3) := H
  have A3 := am A30
  clear A30
  replace H := Option.bind_eq_some_iff.mp H
  obtain ⟨⟨t667, t668⟩, A40, H⟩ := H
  replace H : (some (t667, t666, t668)) = some (r1, r2, r3) := H
  have A4 := am A40
  clear A40
  simp only [Option.some.injEq, Prod.mk.injEq] at H
  obtain ⟨rfl, rfl, rfl⟩ := H
  obtain ⟨Ao5, co5, eo5⟩ := Kd.R_slice HO0_0.out
  subst eo5
  obtain ⟨Ao6, co6, eo6⟩ := Kd.R_slice HO0_1.out
  subst eo6
  go_enter Tryd.func27, Tryd.ntmps27
  go_wp2_with (first | ((with_reducible refine gate_dst (N := 2) rfl ?_); refine box_event ?hg (N := 2) ?hd (cs := #[.slice Ao5 l0_0.length co5, .slice Ao6 l0_1.length co6]) (t := 47) ?hr ?_; (case hd => rfl); (case hg => rfl); (case hr => first | (go_simp; done) | (go_simp; rfl)); intro gb664 hg w7 hbox hb; have n0_ := am (Kd.R_below (rq HO0_0.out) hb); have n1_ := am (Kd.R_below (rq HO0_1.out) hb); have n2_ := am (Kept.below (S := (fun k_ => P0_0_ k_ ∨ P0_1_ k_)) (by repeat (first | (with_reducible first | exact HK.out | apply Kept.alloc | apply Kept.drewN | apply Kept.drew) | exact HK.out)) hb); have n3_ := am (below_step (hq HB.out) hb); have n4_ := am (hbox); have n5_ := am ((by rw [hg]; exact (by first | exact HK.out.1 | exact (show Kept w _ (fun k_ => P0_0_ k_ ∨ P0_1_ k_) from by repeat (first | (with_reducible first | exact HK.out | apply Kept.alloc | apply Kept.drewN | apply Kept.drew) | exact HK.out)).1) : w.heap.size ≤ gb664)); have n6_ := am (bz hg (hq HB.out)); clear HO0_0 HO0_1 HK HB; revert n0_ n1_ n2_ n3_ n4_ n5_ n6_; intro HO0_0 HO0_1 HK HB BK664 GW664 GE664; clear hb hbox hg; have hcz8_0 : w7.cell? ⟨gb664, 0, none⟩ = some (.slice Ao5 l0_0.length co5) := (blk_cell BK664.out 0).trans rfl; have hcz8_1 : w7.cell? ⟨gb664, 1, none⟩ = some (.slice Ao6 l0_1.length co6) := (blk_cell BK664.out 1).trans rfl; have hfz8_0 := blk_frozen BK664.out 0; have hfz8_1 := blk_frozen BK664.out 1) | ((with_reducible refine gate_callee (f := 39) rfl ?_); refine goesL_ (some 8) rfl rfl Tryd.func39 (by kernel_rfl) rfl #[.slice Ao5 l0_0.length co5, .int .i64 a1] rfl el ?_; (with_reducible refine (laws_markInt64S.calls k (fun k_ => some k_ = (.slice Ao5 l0_0.length co5 : Value).ownBlock) (.slice Ao5 l0_0.length co5) l0_0 a1 t665 t666 w0 _ ?side1 ?side2 A3.out).mono ?_); (case side1 => exact hs HB.out); (case side2 => exact Kd.R_tight rfl HO0_0.out); rintro e w9 ⟨rfl, hy0, hb, hkp⟩; refine ⟨_, rfl, ?_⟩; have n0_ := am (Kd.R_reok rfl hy0 (fun k_ e_ => HO0_0.out.1 k_ e_)); have n1_ := am (Kd.R_mono (ok' := fun k_ => ((P0_0_ k_ ∨ P0_1_ k_) ∨ w.heap.size ≤ k_) ∧ some k_ ≠ (.slice Ao5 l0_0.length co5 : Value).ownBlock) (Kd.R_keptB (HO0_1.out) hkp (fun k_ hk_ hs_ => (hk_.2) hs_)) (fun k_ hk_ => ⟨hk_.1.1, hk_.1.2⟩)); have n2_ := am (blk_keptF BK664.out (fun h_ => by refine bq ?_; exact h_) hkp (fun hs_ => (fun e_ => (Kd.R_ne HO0_0.out BK664.out (by decide)) e_) hs_)); have n3_ := am (Kept.then_ (S := (fun k_ => P0_0_ k_ ∨ P0_1_ k_)) (by repeat (first | (with_reducible first | exact HK.out | apply Kept.alloc | apply Kept.drewN | apply Kept.drew | refine Kept.setCell ?_ (.inr GW664.out) _) | exact HK.out)) hkp (fun k_ hs_ => (fun e_ => (HO0_0.out.1 k_ e_.symm).1) hs_)); have n4_ := am (hb); clear HO0_0 HO0_1 BK664 HK HB; revert n0_ n1_ n2_ n3_ n4_; intro HO0_0 HO0_1 BK664 HK HB; (try clear hb); (try clear hkp); (try clear hy0); have hcz10_0 : w9.cell? ⟨gb664, 0, none⟩ = some (.slice Ao5 l0_0.length co5) := (blk_cell BK664.out 0).trans rfl; have hcz10_1 : w9.cell? ⟨gb664, 1, none⟩ = some (.slice Ao6 l0_1.length co6) := (blk_cell BK664.out 1).trans rfl; have hfz10_0 := blk_frozen BK664.out 0; have hfz10_1 := blk_frozen BK664.out 1) | ((with_reducible refine gate_callee (f := 39) rfl ?_); refine goesL_ (some 12) rfl rfl Tryd.func39 (by kernel_rfl) rfl #[.slice Ao6 l0_1.length co6, .int .i64 t665] rfl el ?_; (with_reducible refine (laws_markInt64S.calls k (fun k_ => some k_ = (.slice Ao6 l0_1.length co6 : Value).ownBlock) (.slice Ao6 l0_1.length co6) l0_1 t665 t667 t668 w0 _ ?side1 ?side2 A4.out).mono ?_); (case side1 => exact hs HB.out); (case side2 => exact Kd.R_tight rfl HO0_1.out); rintro e w11 ⟨rfl, hy0, hb, hkp⟩; refine ⟨_, rfl, ?_⟩; have n0_ := am (Kd.R_mono (ok' := fun k_ => ((P0_0_ k_ ∨ P0_1_ k_) ∨ w.heap.size ≤ k_) ∧ some k_ ≠ (.slice Ao6 l0_1.length co6 : Value).ownBlock) (Kd.R_keptB (HO0_0.out) hkp (fun k_ hk_ hs_ => (hk_.2) hs_)) (fun k_ hk_ => ⟨hk_.1.1, hk_.1.2⟩)); have n1_ := am (Kd.R_reok rfl hy0 (fun k_ e_ => HO0_1.out.1 k_ e_)); have n2_ := am (blk_keptF BK664.out (fun h_ => by refine bq ?_; exact h_) hkp (fun hs_ => (fun e_ => (Kd.R_ne HO0_1.out BK664.out (by decide)) e_) hs_)); have n3_ := am (Kept.then_ (S := (fun k_ => P0_0_ k_ ∨ P0_1_ k_)) (by repeat (first | (with_reducible first | exact HK.out | apply Kept.alloc | apply Kept.drewN | apply Kept.drew | refine Kept.setCell ?_ (.inr GW664.out) _) | exact HK.out)) hkp (fun k_ hs_ => (fun e_ => (HO0_1.out.1 k_ e_.symm).1) hs_)); have n4_ := am (hb); clear HO0_0 HO0_1 BK664 HK HB; revert n0_ n1_ n2_ n3_ n4_; intro HO0_0 HO0_1 BK664 HK HB; (try clear hb); (try clear hkp); (try clear hy0)))
  go_ret
  exact ⟨by first | rfl | (simp [errW_none, errW_some] <;> rfl) | (simp [*, errW_none, errW_some] <;> rfl), by (with_reducible repeat (first | apply Kd.R_alloc | apply Kd.R_drewN | apply Kd.R_drew)); exact Kd.R_mono HO0_0.out (fun _ hk => hk.1), by (with_reducible repeat (first | apply Kd.R_alloc | apply Kd.R_drewN | apply Kd.R_drew)); exact Kd.R_mono HO0_1.out (fun _ hk => hk.1), by exact hs HB.out, by repeat (first | (with_reducible first | exact HK.out | apply Kept.alloc | apply Kept.drewN | apply Kept.drew | refine Kept.setCell ?_ (.inr GW664.out) _) | exact HK.out)⟩
def laws_markEquationResult.f (k : Nat) (a0_0 : Int) (l0_1 : List Int) (l0_2 : List Int) (a1 : Int) : Option (Int × List Int × List Int) := (laws_markEquation.f k l0_1 l0_2 a1).bind fun bt670 => (some (bt670.1, bt670.2.1, bt670.2.2))
set_option maxHeartbeats 8000000 in
set_option maxRecDepth 100000 in
theorem laws_markEquationResult.calls (k : Nat) (a0_0 : Int) (P0_1_ : Nat → Prop) (u9000_ : Value) (l0_1 : List Int) (P0_2_ : Nat → Prop) (u9001_ : Value) (l0_2 : List Int) (a1 : Int) (r1 : Int) (r2 : List Int) (r3 : List Int) (w0 w : World) (hB : Below w0.heap.size w0 w) (ho0_1 : Kd.R (Kd.int .i64) 2 w w0.heap.size P0_1_ u9000_ l0_1) (hp0_1_0_2 : ∀ k_, P0_1_ k_ → ¬ P0_2_ k_) (ho0_2 : Kd.R (Kd.int .i64) 2 w w0.heap.size P0_2_ u9001_ l0_2) (hp0_2_0_1 : ∀ k_, P0_2_ k_ → ¬ P0_1_ k_) (h : laws_markEquationResult.f k a0_0 l0_1 l0_2 a1 = some (r1, r2, r3)) :
    Calls Tryd.prog 28 #[.agg #[.int .i64 a0_0, u9000_, u9001_], .int .i64 a1] w fun e w' => e = .returned (.int .i64 r1) ∧ Kd.R (Kd.int .i64) 2 w' w0.heap.size (fun k_ => ((P0_1_ k_ ∨ P0_2_ k_) ∨ w.heap.size ≤ k_)) u9000_ r2 ∧ Kd.R (Kd.int .i64) 2 w' w0.heap.size (fun k_ => ((P0_1_ k_ ∨ P0_2_ k_) ∨ w.heap.size ≤ k_)) u9001_ r3 ∧ Below w0.heap.size w0 w' ∧ Kept w w' (fun k_ => P0_1_ k_ ∨ P0_2_ k_) := by
  have hu49 := Tryd.underlying49
  have hu47 := Tryd.underlying47
  have HO0_1 := am (show Kd.R (Kd.int .i64) 2 w w0.heap.size (fun k_ => ((P0_1_ k_ ∨ P0_2_ k_) ∨ w.heap.size ≤ k_) ∧ some k_ ≠ (u9001_ : Value).ownBlock) u9000_ l0_1 from Kd.R_mono ho0_1 (fun k_ hk => ⟨(.inl (.inl hk)), fun e_ => hp0_1_0_2 k_ hk (ho0_2.1 k_ e_.symm)⟩))
  have HO0_2 := am (show Kd.R (Kd.int .i64) 2 w w0.heap.size (fun k_ => ((P0_1_ k_ ∨ P0_2_ k_) ∨ w.heap.size ≤ k_) ∧ some k_ ≠ (u9000_ : Value).ownBlock) u9001_ l0_2 from Kd.R_mono ho0_2 (fun k_ hk => ⟨(.inl (.inr hk)), fun e_ => hp0_2_0_1 k_ hk (ho0_1.1 k_ e_.symm)⟩))
  have HK := am (Kept.refl w (fun k_ => P0_1_ k_ ∨ P0_2_ k_))
  have HW0 := am hB.size
  have HB := am hB
  clear hB
  have H : ((laws_markEquation.f k l0_1 l0_2 a1).bind fun bt670 => (some (bt670.1, bt670.2.1, bt670.2.2))) = some (r1, r2, r3) := h
  clear h
  replace H := Option.bind_eq_some_iff.mp H
  obtain ⟨⟨t670, t671, t672⟩, A30, H⟩ := H
  replace H : (some (t670, t671, t672)) = some (r1, r2, r3) := H
  have A3 := am A30
  clear A30
  simp only [Option.some.injEq, Prod.mk.injEq] at H
  obtain ⟨rfl, rfl, rfl⟩ := H
  obtain ⟨Ao4, co4, eo4⟩ := Kd.R_slice HO0_1.out
  subst eo4
  obtain ⟨Ao5, co5, eo5⟩ := Kd.R_slice HO0_2.out
  subst eo5
  go_enter Tryd.func28, Tryd.ntmps28
  go_wp2_with (first | ((with_reducible refine gate_dst (N := 2) rfl ?_); refine box_event ?hg (N := 2) ?hd (cs := #[.int .i64 a0_0, .slice Ao4 l0_1.length co4, .slice Ao5 l0_2.length co5]) (t := 49) ?hr ?_; (case hd => rfl); (case hg => rfl); (case hr => first | (go_simp; done) | (go_simp; rfl)); intro gb669 hg w6 hbox hb; have n0_ := am (Kd.R_below (rq HO0_1.out) hb); have n1_ := am (Kd.R_below (rq HO0_2.out) hb); have n2_ := am (Kept.below (S := (fun k_ => P0_1_ k_ ∨ P0_2_ k_)) (by repeat (first | (with_reducible first | exact HK.out | apply Kept.alloc | apply Kept.drewN | apply Kept.drew) | exact HK.out)) hb); have n3_ := am (below_step (hq HB.out) hb); have n4_ := am (hbox); have n5_ := am ((by rw [hg]; exact (by first | exact HK.out.1 | exact (show Kept w _ (fun k_ => P0_1_ k_ ∨ P0_2_ k_) from by repeat (first | (with_reducible first | exact HK.out | apply Kept.alloc | apply Kept.drewN | apply Kept.drew) | exact HK.out)).1) : w.heap.size ≤ gb669)); have n6_ := am (bz hg (hq HB.out)); clear HO0_1 HO0_2 HK HB; revert n0_ n1_ n2_ n3_ n4_ n5_ n6_; intro HO0_1 HO0_2 HK HB BK669 GW669 GE669; clear hb hbox hg; have hcz7_0 : w6.cell? ⟨gb669, 0, none⟩ = some (.int .i64 a0_0) := (blk_cell BK669.out 0).trans rfl; have hcz7_1 : w6.cell? ⟨gb669, 1, none⟩ = some (.slice Ao4 l0_1.length co4) := (blk_cell BK669.out 1).trans rfl; have hcz7_2 : w6.cell? ⟨gb669, 2, none⟩ = some (.slice Ao5 l0_2.length co5) := (blk_cell BK669.out 2).trans rfl; have hfz7_0 := blk_frozen BK669.out 0; have hfz7_1 := blk_frozen BK669.out 1; have hfz7_2 := blk_frozen BK669.out 2) | ((with_reducible refine gate_callee (f := 27) rfl ?_); refine goesL_ (some 8) rfl rfl Tryd.func27 (by kernel_rfl) rfl #[.agg #[.slice Ao4 l0_1.length co4, .slice Ao5 l0_2.length co5], .int .i64 a1] rfl el ?_; (with_reducible refine (laws_markEquation.calls k (fun k_ => some k_ = (.slice Ao4 l0_1.length co4 : Value).ownBlock) (.slice Ao4 l0_1.length co4) l0_1 (fun k_ => some k_ = (.slice Ao5 l0_2.length co5 : Value).ownBlock) (.slice Ao5 l0_2.length co5) l0_2 a1 t670 t671 t672 w0 _ ?side1 ?side2 ?side3 ?side4 ?side5 A3.out).mono ?_); (case side1 => exact hs HB.out); (case side2 => exact Kd.R_tight rfl HO0_1.out); (case side3 => exact fun k_ e_ => (HO0_1.out.1 k_ e_.symm).2); (case side4 => exact Kd.R_tight rfl HO0_2.out); (case side5 => exact fun k_ e_ => (HO0_2.out.1 k_ e_.symm).2); rintro e w8 ⟨rfl, hy0, hy1, hb, hkp⟩; refine ⟨_, rfl, ?_⟩; have n0_ := am (Kd.R_reok rfl hy0 (fun k_ e_ => HO0_1.out.1 k_ e_)); have n1_ := am (Kd.R_reok rfl hy1 (fun k_ e_ => HO0_2.out.1 k_ e_)); have n2_ := am (blk_keptF BK669.out (fun h_ => by refine bq ?_; exact h_) hkp (fun hs_ => Or.elim hs_ (fun e_ => (fun e_ => (Kd.R_ne HO0_1.out BK669.out (by decide)) e_) e_) (fun e_ => (fun e_ => (Kd.R_ne HO0_2.out BK669.out (by decide)) e_) e_))); have n3_ := am (Kept.then_ (S := (fun k_ => P0_1_ k_ ∨ P0_2_ k_)) (by repeat (first | (with_reducible first | exact HK.out | apply Kept.alloc | apply Kept.drewN | apply Kept.drew | refine Kept.setCell ?_ (.inr GW669.out) _) | exact HK.out)) hkp (fun k_ hs_ => Or.elim hs_ (fun e_ => (fun e_ => (HO0_1.out.1 k_ e_.symm).1) e_) (fun e_ => (fun e_ => (HO0_2.out.1 k_ e_.symm).1) e_))); have n4_ := am (hb); clear HO0_1 HO0_2 BK669 HK HB; revert n0_ n1_ n2_ n3_ n4_; intro HO0_1 HO0_2 BK669 HK HB; (try clear hb); (try clear hkp); (try clear hy0); (try clear hy1)))
  go_ret
  exact ⟨by first | rfl | (simp [errW_none, errW_some] <;> rfl) | (simp [*, errW_none, errW_some] <;> rfl), by (with_reducible repeat (first | apply Kd.R_alloc | apply Kd.R_drewN | apply Kd.R_drew)); exact Kd.R_mono HO0_1.out (fun _ hk => hk.1), by (with_reducible repeat (first | apply Kd.R_alloc | apply Kd.R_drewN | apply Kd.R_drew)); exact Kd.R_mono HO0_2.out (fun _ hk => hk.1), by exact hs HB.out, by repeat (first | (with_reducible first | exact HK.out | apply Kept.alloc | apply Kept.drewN | apply Kept.drew | refine Kept.setCell ?_ (.inr GW669.out) _) | exact HK.out)⟩
def laws_heldInt64S.l0 : Nat → List Int → Int → Int → Option (Int)
  | 0, _, _, _ => none
  | k + 1, x0, x1, x5 => if x5 < (x0.length : Int) then (if 0 ≤ x5 then (if (rd x0 x5) = x1 then (laws_heldInt64S.l0 k x0 (wrap64 (x1 + 1)) (wrap64 (x5 + 1))) else (some (-1))) else (none)) else (some x1)
def laws_heldInt64S.f (k : Nat) (l0 : List Int) (a1 : Int) : Option (Int) := laws_heldInt64S.l0 k l0 a1 0
set_option maxHeartbeats 8000000 in
set_option maxRecDepth 100000 in
theorem laws_heldInt64S.calls (k : Nat) (A0 : Option Addr) (c0 : Nat) (l0 : List Int) (a1 : Int) (r : Int) (w : World) (hr0 : Kd.C (Kd.int .i64) w A0 l0.length l0) (hc0 : l0.length ≤ c0) (h : laws_heldInt64S.f k l0 a1 = some r) :
    Calls Tryd.prog 74 #[.slice A0 l0.length c0, .int .i64 a1] w fun e w' => e = .returned (.int .i64 r) ∧ Drawn0 w w' := by
  have HR0 := am hr0
  have HC0 := am hc0
  clear hr0 hc0
  have H : (laws_heldInt64S.l0 k l0 a1 0) = some r := h
  clear h
  have H' := am H
  clear H
  go_enter Tryd.func74, Tryd.ntmps74
  go_wp2
  go_loopg [1, 5] k (fun kq v1 v5 w' => ∃ (x1_1 : Int) (x5_1 : Int), v1 = .int .i64 x1_1 ∧ v5 = .int .i64 x5_1 ∧ Aside0 (laws_heldInt64S.l0 kq l0 x1_1 x5_1 = some r) ∧ Aside0 (kq ≤ k) ∧ Drawn0 w w')
  case atStart => exact ⟨(a1), (0), (by first | rfl | (simp; done) | (simp [*]; done)), (by first | rfl | (simp; done) | (simp [*]; done)), H', ⟨Nat.le_refl _⟩, by repeat (first | exact Drawn0.refl _ | apply Drawn0.step)⟩
  case round =>
    clear H'
    try clear p2
    obtain ⟨x1_1, x5_1, rfl, rfl, HA, HK1, ⟨m1, rfl⟩⟩ := hrel
    cases gk with
    | zero => exact absurd HA.out (by simp [laws_heldInt64S.l0])
    | succ k1 =>
      have H := HA.out
      clear HA
      simp only [laws_heldInt64S.l0] at H
      by_cases c3 : x5_1 < (l0.length : Int)
      · rw [if_pos c3] at H
        have c3b0 : decide (x5_1 < (l0.length : Int)) = true := decide_eq_true c3
        clear c3
        by_cases c4 : 0 ≤ x5_1
        · rw [if_pos c4] at H
          have c4b0 : decide (0 ≤ x5_1) = true := decide_eq_true c4
          clear c4
          by_cases c5 : (rd l0 x5_1) = x1_1
          · rw [if_pos c5] at H
            have c5b0 : ((rd l0 x5_1) == x1_1) = true := beq_iff_eq.mpr c5
            have c5b1 : ((rd l0 x5_1) != x1_1) = false := bne_eq_false_iff_eq.mpr c5
            clear c5
            have H' := am H
            clear H
            have p673 : 0 ≤ (x5_1 : Int) := of_decide_eq_true (by first | (with_reducible assumption) | assumption)
            have q673 : x5_1 < (l0.length : Int) := of_decide_eq_true (by first | (with_reducible assumption) | assumption)
            obtain ⟨ad673, e673, hx673_0⟩ := Kd.at_int HR0.out x5_1 p673 q673
            cases e673
            replace p673 := eq_true p673
            replace q673 := eq_true q673
            go_wp2
            go_roundg k1
            case measure => have := HK1.out; omega
            case rel => exact ⟨(wrap64 (x1_1 + 1)), (wrap64 (x5_1 + 1)), (by first | rfl | (simp; done) | (simp [*]; done)), (by first | rfl | (simp; done) | (simp [*]; done)), H', ⟨by have := HK1.out; omega⟩, by repeat (first | exact Drawn0.refl _ | apply Drawn0.step)⟩
          · rw [if_neg c5] at H
            have c5b0 : ((rd l0 x5_1) == x1_1) = false := beq_eq_false_iff_ne.mpr c5
            have c5b1 : ((rd l0 x5_1) != x1_1) = true := bne_iff_ne.mpr c5
            obtain rfl := Option.some.inj H
            have p673 : 0 ≤ (x5_1 : Int) := of_decide_eq_true (by first | (with_reducible assumption) | assumption)
            have q673 : x5_1 < (l0.length : Int) := of_decide_eq_true (by first | (with_reducible assumption) | assumption)
            obtain ⟨ad673, e673, hx673_0⟩ := Kd.at_int HR0.out x5_1 p673 q673
            cases e673
            replace p673 := eq_true p673
            replace q673 := eq_true q673
            go_wp2
            go_ret
            exact ⟨by first | rfl | (simp; done) | (simp [*]; done), by repeat (first | exact Drawn0.refl _ | apply Drawn0.step)⟩
        · rw [if_neg c4] at H
          exact absurd H (by simp)
      · rw [if_neg c3] at H
        have c3b0 : decide (x5_1 < (l0.length : Int)) = false := decide_eq_false c3
        clear c3
        obtain rfl := Option.some.inj H
        go_wp2
        go_ret
        exact ⟨by first | rfl | (simp; done) | (simp [*]; done), by repeat (first | exact Drawn0.refl _ | apply Drawn0.step)⟩
def laws_heldEquation.f (k : Nat) (l0_0 : List Int) (l0_1 : List Int) (a1 : Int) : Option (Int) := (laws_heldInt64S.f k l0_0 a1).bind fun t675 => (if t675 < 0 then (some (-1)) else ((laws_heldInt64S.f k l0_1 t675).bind fun t676 => (if t676 < 0 then (some (-1)) else (some t676))))
set_option maxHeartbeats 8000000 in
set_option maxRecDepth 100000 in
theorem laws_heldEquation.calls (k : Nat) (A0_0 : Option Addr) (c0_0 : Nat) (l0_0 : List Int) (A0_1 : Option Addr) (c0_1 : Nat) (l0_1 : List Int) (a1 : Int) (r : Int) (w : World) (hr0_0 : Kd.C (Kd.int .i64) w A0_0 l0_0.length l0_0) (hc0_0 : l0_0.length ≤ c0_0) (hr0_1 : Kd.C (Kd.int .i64) w A0_1 l0_1.length l0_1) (hc0_1 : l0_1.length ≤ c0_1) (h : laws_heldEquation.f k l0_0 l0_1 a1 = some r) :
    Calls Tryd.prog 64 #[.agg #[.slice A0_0 l0_0.length c0_0, .slice A0_1 l0_1.length c0_1], .int .i64 a1] w fun e w' => e = .returned (.int .i64 r) ∧ Below w.heap.size w w' := by
  have hu47 := Tryd.underlying47
  have HR0_0 := am hr0_0
  have HC0_0 := am hc0_0
  clear hr0_0 hc0_0
  have HR0_1 := am hr0_1
  have HC0_1 := am hc0_1
  clear hr0_1 hc0_1
  have HB := am (Below.refl w.heap.size w)
  have H : ((laws_heldInt64S.f k l0_0 a1).bind fun t675 => (if t675 < 0 then (some (-1)) else ((laws_heldInt64S.f k l0_1 t675).bind fun t676 => (if t676 < 0 then (some (-1)) else (some t676))))) = some r := h
  clear h
  replace H := Option.bind_eq_some_iff.mp H
  obtain ⟨t675, A30, H⟩ := H
  replace H : (if t675 < 0 then (some (-1)) else ((laws_heldInt64S.f k l0_1 t675).bind fun t676 => (if t676 < 0 then (some (-1)) else (some t676)))) = some r := H
  have A3 := am A30
  clear A30
  by_cases c4 : t675 < 0
  · rw [if_pos c4] at H
    have c4b0 : decide (t675 < 0) = true := decide_eq_true c4
    clear c4
    obtain rfl := Option.some.inj H
    go_enter Tryd.func64, Tryd.ntmps64
    go_wp2_with (first | ((with_reducible refine gate_dst (N := 2) rfl ?_); refine box_event ?hg (N := 2) ?hd (cs := #[.slice A0_0 l0_0.length c0_0, .slice A0_1 l0_1.length c0_1]) (t := 47) ?hr ?_; (case hd => rfl); (case hg => rfl); (case hr => first | (go_simp; done) | (go_simp; rfl)); intro gb674 hg w5 hbox hb; have n0_ := am (below_step (hq HB.out) hb); have n1_ := am (hbox); have n2_ := am (bz hg (hq HB.out)); have n3_ := n2_; clear HB; revert n0_ n1_ n2_ n3_; intro HB BK674 GW674 GE674; clear hb hbox hg; have hcz6_0 : w5.cell? ⟨gb674, 0, none⟩ = some (.slice A0_0 l0_0.length c0_0) := (blk_cell BK674.out 0).trans rfl; have hcz6_1 : w5.cell? ⟨gb674, 1, none⟩ = some (.slice A0_1 l0_1.length c0_1) := (blk_cell BK674.out 1).trans rfl; have hfz6_0 := blk_frozen BK674.out 0; have hfz6_1 := blk_frozen BK674.out 1) | ((with_reducible refine gate_callee (f := 74) rfl ?_); refine goesL_ (some 8) rfl rfl Tryd.func74 (by kernel_rfl) rfl #[.slice A0_0 l0_0.length c0_0, .int .i64 a1] rfl el ?_; (with_reducible refine (laws_heldInt64S.calls k _ _ l0_0 a1 t675 _ ?side1 ?side2 A3.out).mono ?_); (case side1 => exact cq (Kd.C_below HR0_0.out HB.out)); (case side2 => exact HC0_0.out); rintro e w' ⟨rfl, ⟨nd, rfl⟩⟩; refine ⟨_, rfl, ?_⟩))
    go_ret
    exact ⟨by first | rfl | (simp [errW_none, errW_some] <;> rfl) | (simp [*, errW_none, errW_some] <;> rfl), by exact hs HB.out⟩
  · rw [if_neg c4] at H
    have c4b0 : decide (t675 < 0) = false := decide_eq_false c4
    clear c4
    replace H := Option.bind_eq_some_iff.mp H
    obtain ⟨t676, A70, H⟩ := H
    replace H : (if t676 < 0 then (some (-1)) else (some t676)) = some r := H
    have A7 := am A70
    clear A70
    by_cases c8 : t676 < 0
    · rw [if_pos c8] at H
      have c8b0 : decide (t676 < 0) = true := decide_eq_true c8
      clear c8
      obtain rfl := Option.some.inj H
      go_enter Tryd.func64, Tryd.ntmps64
      go_wp2_with (first | ((with_reducible refine gate_dst (N := 2) rfl ?_); refine box_event ?hg (N := 2) ?hd (cs := #[.slice A0_0 l0_0.length c0_0, .slice A0_1 l0_1.length c0_1]) (t := 47) ?hr ?_; (case hd => rfl); (case hg => rfl); (case hr => first | (go_simp; done) | (go_simp; rfl)); intro gb674 hg w9 hbox hb; have n0_ := am (below_step (hq HB.out) hb); have n1_ := am (hbox); have n2_ := am (bz hg (hq HB.out)); have n3_ := n2_; clear HB; revert n0_ n1_ n2_ n3_; intro HB BK674 GW674 GE674; clear hb hbox hg; have hcz10_0 : w9.cell? ⟨gb674, 0, none⟩ = some (.slice A0_0 l0_0.length c0_0) := (blk_cell BK674.out 0).trans rfl; have hcz10_1 : w9.cell? ⟨gb674, 1, none⟩ = some (.slice A0_1 l0_1.length c0_1) := (blk_cell BK674.out 1).trans rfl; have hfz10_0 := blk_frozen BK674.out 0; have hfz10_1 := blk_frozen BK674.out 1) | ((with_reducible refine gate_callee (f := 74) rfl ?_); refine goesL_ (some 8) rfl rfl Tryd.func74 (by kernel_rfl) rfl #[.slice A0_0 l0_0.length c0_0, .int .i64 a1] rfl el ?_; (with_reducible refine (laws_heldInt64S.calls k _ _ l0_0 a1 t675 _ ?side1 ?side2 A3.out).mono ?_); (case side1 => exact cq (Kd.C_below HR0_0.out HB.out)); (case side2 => exact HC0_0.out); rintro e w' ⟨rfl, ⟨nd, rfl⟩⟩; refine ⟨_, rfl, ?_⟩) | ((with_reducible refine gate_callee (f := 74) rfl ?_); refine goesL_ (some 14) rfl rfl Tryd.func74 (by kernel_rfl) rfl #[.slice A0_1 l0_1.length c0_1, .int .i64 t675] rfl el ?_; (with_reducible refine (laws_heldInt64S.calls k _ _ l0_1 t675 t676 _ ?side1 ?side2 A7.out).mono ?_); (case side1 => repeat (first | exact (Kd.C_below HR0_1.out (hs HB.out)) | (with_reducible refine Kd.C_alloc ?_ _) | (with_reducible refine Kd.C_drewN ?_ _) | (with_reducible refine Kd.C_drew ?_))); (case side2 => exact HC0_1.out); rintro e w' ⟨rfl, ⟨nd, rfl⟩⟩; refine ⟨_, rfl, ?_⟩))
      go_ret
      exact ⟨by first | rfl | (simp [errW_none, errW_some] <;> rfl) | (simp [*, errW_none, errW_some] <;> rfl), by exact hs HB.out⟩
    · rw [if_neg c8] at H
      have c8b0 : decide (t676 < 0) = false := decide_eq_false c8
      clear c8
      obtain rfl := Option.some.inj H
      go_enter Tryd.func64, Tryd.ntmps64
      go_wp2_with (first | ((with_reducible refine gate_dst (N := 2) rfl ?_); refine box_event ?hg (N := 2) ?hd (cs := #[.slice A0_0 l0_0.length c0_0, .slice A0_1 l0_1.length c0_1]) (t := 47) ?hr ?_; (case hd => rfl); (case hg => rfl); (case hr => first | (go_simp; done) | (go_simp; rfl)); intro gb674 hg w11 hbox hb; have n0_ := am (below_step (hq HB.out) hb); have n1_ := am (hbox); have n2_ := am (bz hg (hq HB.out)); have n3_ := n2_; clear HB; revert n0_ n1_ n2_ n3_; intro HB BK674 GW674 GE674; clear hb hbox hg; have hcz12_0 : w11.cell? ⟨gb674, 0, none⟩ = some (.slice A0_0 l0_0.length c0_0) := (blk_cell BK674.out 0).trans rfl; have hcz12_1 : w11.cell? ⟨gb674, 1, none⟩ = some (.slice A0_1 l0_1.length c0_1) := (blk_cell BK674.out 1).trans rfl; have hfz12_0 := blk_frozen BK674.out 0; have hfz12_1 := blk_frozen BK674.out 1) | ((with_reducible refine gate_callee (f := 74) rfl ?_); refine goesL_ (some 8) rfl rfl Tryd.func74 (by kernel_rfl) rfl #[.slice A0_0 l0_0.length c0_0, .int .i64 a1] rfl el ?_; (with_reducible refine (laws_heldInt64S.calls k _ _ l0_0 a1 t675 _ ?side1 ?side2 A3.out).mono ?_); (case side1 => exact cq (Kd.C_below HR0_0.out HB.out)); (case side2 => exact HC0_0.out); rintro e w' ⟨rfl, ⟨nd, rfl⟩⟩; refine ⟨_, rfl, ?_⟩) | ((with_reducible refine gate_callee (f := 74) rfl ?_); refine goesL_ (some 14) rfl rfl Tryd.func74 (by kernel_rfl) rfl #[.slice A0_1 l0_1.length c0_1, .int .i64 t675] rfl el ?_; (with_reducible refine (laws_heldInt64S.calls k _ _ l0_1 t675 t676 _ ?side1 ?side2 A7.out).mono ?_); (case side1 => repeat (first | exact (Kd.C_below HR0_1.out (hs HB.out)) | (with_reducible refine Kd.C_alloc ?_ _) | (with_reducible refine Kd.C_drewN ?_ _) | (with_reducible refine Kd.C_drew ?_))); (case side2 => exact HC0_1.out); rintro e w' ⟨rfl, ⟨nd, rfl⟩⟩; refine ⟨_, rfl, ?_⟩))
      go_ret
      exact ⟨by first | rfl | (simp [errW_none, errW_some] <;> rfl) | (simp [*, errW_none, errW_some] <;> rfl), by exact hs HB.out⟩
def laws_heldEquationResult.f (k : Nat) (a0_0 : Int) (l0_1 : List Int) (l0_2 : List Int) (a1 : Int) : Option (Int) := (laws_heldEquation.f k l0_1 l0_2 a1).bind fun t678 => (if t678 < 0 then (some (-1)) else (some t678))
set_option maxHeartbeats 8000000 in
set_option maxRecDepth 100000 in
theorem laws_heldEquationResult.calls (k : Nat) (a0_0 : Int) (A0_1 : Option Addr) (c0_1 : Nat) (l0_1 : List Int) (A0_2 : Option Addr) (c0_2 : Nat) (l0_2 : List Int) (a1 : Int) (r : Int) (w : World) (hr0_1 : Kd.C (Kd.int .i64) w A0_1 l0_1.length l0_1) (hc0_1 : l0_1.length ≤ c0_1) (hr0_2 : Kd.C (Kd.int .i64) w A0_2 l0_2.length l0_2) (hc0_2 : l0_2.length ≤ c0_2) (h : laws_heldEquationResult.f k a0_0 l0_1 l0_2 a1 = some r) :
    Calls Tryd.prog 29 #[.agg #[.int .i64 a0_0, .slice A0_1 l0_1.length c0_1, .slice A0_2 l0_2.length c0_2], .int .i64 a1] w fun e w' => e = .returned (.int .i64 r) ∧ Below w.heap.size w w' := by
  have hu49 := Tryd.underlying49
  have hu47 := Tryd.underlying47
  have HR0_1 := am hr0_1
  have HC0_1 := am hc0_1
  clear hr0_1 hc0_1
  have HR0_2 := am hr0_2
  have HC0_2 := am hc0_2
  clear hr0_2 hc0_2
  have HB := am (Below.refl w.heap.size w)
  have H : ((laws_heldEquation.f k l0_1 l0_2 a1).bind fun t678 => (if t678 < 0 then (some (-1)) else (some t678))) = some r := h
  clear h
  replace H := Option.bind_eq_some_iff.mp H
  obtain ⟨t678, A30, H⟩ := H
  replace H : (if t678 < 0 then (some (-1)) else (some t678)) = some r := H
  have A3 := am A30
  clear A30
  by_cases c4 : t678 < 0
  · rw [if_pos c4] at H
    have c4b0 : decide (t678 < 0) = true := decide_eq_true c4
    clear c4
    obtain rfl := Option.some.inj H
    go_enter Tryd.func29, Tryd.ntmps29
    go_wp2_with (first | ((with_reducible refine gate_dst (N := 2) rfl ?_); refine box_event ?hg (N := 2) ?hd (cs := #[.int .i64 a0_0, .slice A0_1 l0_1.length c0_1, .slice A0_2 l0_2.length c0_2]) (t := 49) ?hr ?_; (case hd => rfl); (case hg => rfl); (case hr => first | (go_simp; done) | (go_simp; rfl)); intro gb677 hg w5 hbox hb; have n0_ := am (below_step (hq HB.out) hb); have n1_ := am (hbox); have n2_ := am (bz hg (hq HB.out)); have n3_ := n2_; clear HB; revert n0_ n1_ n2_ n3_; intro HB BK677 GW677 GE677; clear hb hbox hg; have hcz6_0 : w5.cell? ⟨gb677, 0, none⟩ = some (.int .i64 a0_0) := (blk_cell BK677.out 0).trans rfl; have hcz6_1 : w5.cell? ⟨gb677, 1, none⟩ = some (.slice A0_1 l0_1.length c0_1) := (blk_cell BK677.out 1).trans rfl; have hcz6_2 : w5.cell? ⟨gb677, 2, none⟩ = some (.slice A0_2 l0_2.length c0_2) := (blk_cell BK677.out 2).trans rfl; have hfz6_0 := blk_frozen BK677.out 0; have hfz6_1 := blk_frozen BK677.out 1; have hfz6_2 := blk_frozen BK677.out 2) | ((with_reducible refine gate_callee (f := 64) rfl ?_); refine goesL_ (some 8) rfl rfl Tryd.func64 (by kernel_rfl) rfl #[.agg #[.slice A0_1 l0_1.length c0_1, .slice A0_2 l0_2.length c0_2], .int .i64 a1] rfl el ?_; (with_reducible refine (laws_heldEquation.calls k _ _ l0_1 _ _ l0_2 a1 t678 _ ?side1 ?side2 ?side3 ?side4 A3.out).mono ?_); (case side1 => exact cq (Kd.C_below HR0_1.out HB.out)); (case side2 => exact HC0_1.out); (case side3 => exact cq (Kd.C_below HR0_2.out HB.out)); (case side4 => exact HC0_2.out); rintro e w7 ⟨rfl, hb⟩; refine ⟨_, rfl, ?_⟩; have n0_ := am (blk_below (bq BK677.out) hb); have n1_ := am (below_step (hs HB.out) hb); clear BK677 HB; revert n0_ n1_; intro BK677 HB; (try clear hb); (try clear hb2); (try clear hgw); (try clear hk); (try clear hi)))
    go_ret
    exact ⟨by first | rfl | (simp [errW_none, errW_some] <;> rfl) | (simp [*, errW_none, errW_some] <;> rfl), by exact hs HB.out⟩
  · rw [if_neg c4] at H
    have c4b0 : decide (t678 < 0) = false := decide_eq_false c4
    clear c4
    obtain rfl := Option.some.inj H
    go_enter Tryd.func29, Tryd.ntmps29
    go_wp2_with (first | ((with_reducible refine gate_dst (N := 2) rfl ?_); refine box_event ?hg (N := 2) ?hd (cs := #[.int .i64 a0_0, .slice A0_1 l0_1.length c0_1, .slice A0_2 l0_2.length c0_2]) (t := 49) ?hr ?_; (case hd => rfl); (case hg => rfl); (case hr => first | (go_simp; done) | (go_simp; rfl)); intro gb677 hg w8 hbox hb; have n0_ := am (below_step (hq HB.out) hb); have n1_ := am (hbox); have n2_ := am (bz hg (hq HB.out)); have n3_ := n2_; clear HB; revert n0_ n1_ n2_ n3_; intro HB BK677 GW677 GE677; clear hb hbox hg; have hcz9_0 : w8.cell? ⟨gb677, 0, none⟩ = some (.int .i64 a0_0) := (blk_cell BK677.out 0).trans rfl; have hcz9_1 : w8.cell? ⟨gb677, 1, none⟩ = some (.slice A0_1 l0_1.length c0_1) := (blk_cell BK677.out 1).trans rfl; have hcz9_2 : w8.cell? ⟨gb677, 2, none⟩ = some (.slice A0_2 l0_2.length c0_2) := (blk_cell BK677.out 2).trans rfl; have hfz9_0 := blk_frozen BK677.out 0; have hfz9_1 := blk_frozen BK677.out 1; have hfz9_2 := blk_frozen BK677.out 2) | ((with_reducible refine gate_callee (f := 64) rfl ?_); refine goesL_ (some 8) rfl rfl Tryd.func64 (by kernel_rfl) rfl #[.agg #[.slice A0_1 l0_1.length c0_1, .slice A0_2 l0_2.length c0_2], .int .i64 a1] rfl el ?_; (with_reducible refine (laws_heldEquation.calls k _ _ l0_1 _ _ l0_2 a1 t678 _ ?side1 ?side2 ?side3 ?side4 A3.out).mono ?_); (case side1 => exact cq (Kd.C_below HR0_1.out HB.out)); (case side2 => exact HC0_1.out); (case side3 => exact cq (Kd.C_below HR0_2.out HB.out)); (case side4 => exact HC0_2.out); rintro e w10 ⟨rfl, hb⟩; refine ⟨_, rfl, ?_⟩; have n0_ := am (blk_below (bq BK677.out) hb); have n1_ := am (below_step (hs HB.out) hb); clear BK677 HB; revert n0_ n1_; intro BK677 HB; (try clear hb); (try clear hb2); (try clear hgw); (try clear hk); (try clear hi)))
    go_ret
    exact ⟨by first | rfl | (simp [errW_none, errW_some] <;> rfl) | (simp [*, errW_none, errW_some] <;> rfl), by exact hs HB.out⟩
end Go.Proofs.YtcanokiehjjbgaaDoor.P
namespace Go.Proofs.YtcanokiehjjbgaaDoor.P
open Go.RowKit Go.Proofs.YtcanokiehjjbgaaDoorW.PrintWords Go.Proofs.YtcanokiehjjbgaaDoorW.PrintLast Go.Proofs.YtcanokiehjjbgaaDoorW.PrintMore
attribute [local go_sem] max2_int min2_int max_two min_two max_three min_three max_four min_four   -- for this text's walks alone
set_option linter.unusedVariables false
set_option linter.unusedSimpArgs false
def Shp (w : World) (base e : Nat) (u : Value) (n : Nat) : Prop := (u = .slice none 0 0 ∧ n = 0) ∨ ∃ (g cap : Nat) (cur : Array Value), u = .slice (some ⟨g, 0, none⟩) n cap ∧ base ≤ g ∧ w.heap[g]? = some (.cells cur e (0, 0)) ∧ n ≤ cur.size
structure Mk (S : Nat → Prop) (w w' : World) : Prop where
  size : w'.heap.size = w.heap.size
  far : ∀ k, ¬ S k → w'.heap[k]? = w.heap[k]?
  cells : ∀ (k : Nat) (cur : Array Value) (e : Nat) (fz : Nat × Nat), w.heap[k]? = some (.cells cur e fz) → ∃ cur' : Array Value, w'.heap[k]? = some (.cells cur' e fz) ∧ cur'.size = cur.size
theorem Mk.refl (S : Nat → Prop) (w : World) : Mk S w w := ⟨rfl, fun _ _ => rfl, fun _ cur _ _ h => ⟨cur, h, rfl⟩⟩
theorem Mk.trans {S S' : Nat → Prop} {w w' w2 : World} (h : Mk S w w') (k : Mk S' w' w2) (hs : ∀ k, S' k → S k) : Mk S w w2 := by
  refine ⟨k.size.trans h.size, fun i hi => (k.far i (fun hk => hi (hs i hk))).trans (h.far i hi), fun i cur e fz hc => ?_⟩
  obtain ⟨c1, h1, s1⟩ := h.cells i cur e fz hc
  obtain ⟨c2, h2, s2⟩ := k.cells i c1 e fz h1
  exact ⟨c2, h2, s2.trans s1⟩
theorem Mk.set {S : Nat → Prop} {w w' : World} (h : Mk S w w') {g : Nat} (hg : S g) (j : Nat) (v : Value) : Mk S w (w'.setCell ⟨g, j, none⟩ v) := by
  refine h.trans (S' := fun k => k = g) ⟨by simp [World.setCell], fun k hk => Below.heap_setCell _ _ _ _ hk, fun k cur e fz hc => ?_⟩ (fun k hk => by rw [hk]; exact hg)
  by_cases hk : k = g
  · subst hk
    refine ⟨cur.setIfInBounds j v, ?_, by simp⟩
    simp [World.setCell, Array.getElem?_modify, hc]
  · exact ⟨cur, (Below.heap_setCell w' ⟨g, j, none⟩ v k hk).trans hc, rfl⟩
theorem Mk.shp {S : Nat → Prop} {w w' : World} (h : Mk S w w') {base e : Nat} {u : Value} {n : Nat} (hu : Shp w base e u n) : Shp w' base e u n := by
  rcases hu with hu | ⟨g, cap, cur, hu, hb, hg, hn⟩
  · exact .inl hu
  · obtain ⟨c1, h1, s1⟩ := h.cells g cur e (0, 0) hg
    exact .inr ⟨g, cap, c1, hu, hb, h1, by omega⟩
theorem Mk.kept {S : Nat → Prop} {w w' : World} (h : Mk S w w') : Kept w w' S := ⟨Nat.le_of_eq h.size.symm, fun i _ hn => h.far i hn⟩
theorem Shp.slice {w : World} {base e : Nat} {u : Value} {n : Nat} (h : Shp w base e u n) : ∃ A c, u = .slice A n c := by
  rcases h with ⟨rfl, rfl⟩ | ⟨g, cap, cur, rfl, _⟩
  · exact ⟨_, _, rfl⟩
  · exact ⟨_, _, rfl⟩
theorem Shp.cell {w : World} {base e : Nat} {u : Value} {n : Nat} (h : Shp w base e u n) (i : Int) (h0 : 0 ≤ i) (h1 : i < n) : ∃ g c x, u = .slice (some ⟨g, 0, none⟩) n c ∧ base ≤ g ∧ w.cell? ⟨g, i.toNat, none⟩ = some x ∧ w.frozen? ⟨g, i.toNat, none⟩ = false := by
  rcases h with ⟨rfl, rfl⟩ | ⟨g, cap, cur, rfl, hb, hg, hn⟩
  · omega
  · have hi : i.toNat < cur.size := by omega
    exact ⟨g, cap, cur[i.toNat], rfl, hb, by simp [World.cell?, hg, hi], by simp [World.frozen?, hg]⟩
def WkRows (w : World) (base e : Nat) (P : Nat → Prop) (u : Value) (n m : Nat) (len : Nat → Nat) : Prop := (∃ A c, u = .slice A n c) ∧ ∀ q, q < m → ∃ (g c : Nat) (v : Value), u = .slice (some ⟨g, 0, none⟩) n c ∧ w.cell? ⟨g, q, none⟩ = some v ∧ Shp w base e v (len q) ∧ ∀ k, v.ownBlock = some k → P k ∧ k ≠ g
theorem WkRows.step {w w' : World} {base e : Nat} {P : Nat → Prop} {u v : Value} {n g c : Nat} {m : Nat} {len : Nat → Nat} (h : WkRows w base e P u n m len) (hu : u = .slice (some ⟨g, 0, none⟩) n c) (hv : ∀ k, v.ownBlock = some k → k ≠ g) (hm : Mk (fun k => some k = v.ownBlock) w w') : WkRows w' base e P u n m len := by
  refine ⟨h.1, fun q hq => ?_⟩
  obtain ⟨g', c', v', hu', hc, hs, hp⟩ := h.2 q hq
  obtain ⟨rfl, rfl⟩ : g' = g ∧ c' = c := by
    rw [hu] at hu'
    injection hu' with h1 _ h3
    injection h1 with h1
    injection h1 with h1
    exact ⟨h1.symm, h3.symm⟩
  refine ⟨g', c', v', hu', ?_, hm.shp hs, hp⟩
  rw [World.cell?_of_block (hm.far g' (fun hk => hv g' hk.symm rfl))]
  exact hc
theorem Shp.below {w w' : World} {base e : Nat} {u : Value} {n : Nat} (h : Shp w base e u n) (hb : Below w.heap.size w w') : Shp w' base e u n := by
  rcases h with hu | ⟨g, cap, cur, hu, hbs, hg, hn⟩
  · exact .inl hu
  · exact .inr ⟨g, cap, cur, hu, hbs, (hb.block g (blk_lt hg)).trans hg, hn⟩
theorem WkRows.below {w w' : World} {base e : Nat} {P : Nat → Prop} {u : Value} {n : Nat} {m : Nat} {len : Nat → Nat} (h : WkRows w base e P u n m len) (hb : Below w.heap.size w w') : WkRows w' base e P u n m len := by
  refine ⟨h.1, fun q hq => ?_⟩
  obtain ⟨g, c, v, hu, hc, hs, hp⟩ := h.2 q hq
  exact ⟨g, c, v, hu, (World.cell?_of_block (hb.block g (World.block_lt_of_cell? w _ hc))).trans hc, hs.below hb, hp⟩
end Go.Proofs.YtcanokiehjjbgaaDoor.P
