/- A part of the proof of the law FnExactOrientEquation. -/
import Derived.Laws.StructEq
import Derived.Test.YtgichahebemmiaaGreatDoorCFnExactOrientEquation0
import Derived.Test.YtgichahebemmiaaGreatDoorCFnExactOrientEquation1
import Derived.Test.YtgichahebemmiaaGreatDoorCFnExactOrientEquation2
import Derived.Test.YtgichahebemmiaaGreatDoorCFnExactOrientEquation3
import Derived.Test.YtgichahebemmiaaGreatDoorCFnExactOrientEquation4
import Derived.Test.YtgichahebemmiaaGreatDoorCFnExactOrientEquation5
import Derived.Test.YtgichahebemmiaaGreatDoorCFnExactOrientEquation6
import Derived.Test.YtgichahebemmiaaGreatDoorCFnExactOrientEquation7
import Derived.Test.YtgichahebemmiaaGreatDoorCFnExactOrientEquation8
import Derived.Test.YtgichahebemmiaaGreatDoorCFnExactOrientEquation9
import Derived.Test.YtgichahebemmiaaGreatDoorCFnExactOrientEquation17
namespace Go.Proofs.YtgichahebemmiaaGreatDoor.P
open Go.RowKit Go.Proofs.YtgichahebemmiaaGreatDoorW.PrintWords Go.Proofs.YtgichahebemmiaaGreatDoorW.PrintLast Go.Proofs.YtgichahebemmiaaGreatDoorW.PrintMore
attribute [local go_sem] Ae7 Ae4 Af9 Ag0 Ad3 Ad2 Ae8 Ae5   -- for this text's walks alone
set_option linter.unusedVariables false
set_option linter.unusedSimpArgs false
def impl_compareTerms.f (k : Nat) (l0_0 : List (S79)) (l1 : List Int) (l2 : List Int) (l3 : List Int) : Option (Int) := (slices_Equal_int64_int64.f k l2 l3).bind fun t359 => (if t359 = true then (some 3) else ((impl_isGreater.f k l0_0 l1 l2 l3).bind fun t360 => (if t360 = true then (some 1) else ((impl_isGreater.f k l0_0 l1 l3 l2).bind fun t361 => (if t361 = true then (some 2) else (some 0))))))
set_option maxHeartbeats 8000000 in
set_option maxRecDepth 100000 in
theorem impl_compareTerms.calls (k : Nat) (A0_0 : Option Addr) (c0_0 : Nat) (l0_0 : List (S79)) (A1 : Option Addr) (c1 : Nat) (l1 : List Int) (A2 : Option Addr) (c2 : Nat) (l2 : List Int) (A3 : Option Addr) (c3 : Nat) (l3 : List Int) (r : Int) (w : World) (hr0_0 : Kd.C k79 w A0_0 l0_0.length l0_0) (hc0_0 : l0_0.length ≤ c0_0) (hr1 : Kd.C (Kd.int .i64) w A1 l1.length l1) (hc1 : l1.length ≤ c1) (hr2 : Kd.C (Kd.int .i64) w A2 l2.length l2) (hc2 : l2.length ≤ c2) (hr3 : Kd.C (Kd.int .i64) w A3 l3.length l3) (hc3 : l3.length ≤ c3) (h : impl_compareTerms.f k l0_0 l1 l2 l3 = some r) :
  Calls Tryz.prog 37 #[.agg #[.slice A0_0 l0_0.length c0_0], .slice A1 l1.length c1, .slice A2 l2.length c2, .slice A3 l3.length c3] w fun e w' => e = .returned (.int .i64 r) ∧ Below w.heap.size w w' := by
 have hu36 := Tryz.underlying36
 have HR0_0 := am hr0_0
 have HC0_0 := am hc0_0
 clear hr0_0 hc0_0
 have HR1 := am hr1
 have HC1 := am hc1
 clear hr1 hc1
 have HR2 := am hr2
 have HC2 := am hc2
 clear hr2 hc2
 have HR3 := am hr3
 have HC3 := am hc3
 clear hr3 hc3
 have HB := am (Below.refl w.heap.size w)
 have H : ((slices_Equal_int64_int64.f k l2 l3).bind fun t359 => (if t359 = true then (some 3) else ((impl_isGreater.f k l0_0 l1 l2 l3).bind fun t360 => (if t360 = true then (some 1) else ((impl_isGreater.f k l0_0 l1 l3 l2).bind fun t361 => (if t361 = true then (some 2) else (some 0))))))) = some r := h
 clear h
 obtain ⟨t359, A5, H⟩ := ob H
 try dsimp only at H
 by_cases c6 : t359 = true
 ·subst c6
  rw [if_pos rfl] at H
  obtain rfl := Option.some.inj H
  go_enter Tryz.func37, Tryz.ntmps37
  go_wp2_with (first | (refine bx 4 rfl #[.slice A0_0 l0_0.length c0_0] 36 ?_; intro gb358 hg w7 hbox hb; have BK358 := am (hbox); have GW358 := am (bz hg (hq HB.out)); replace HB := sb HB hb; have GE358 := GW358; clear hb hbox hg) | (refine gl (some 12) Tryz.func61 rfl #[.slice A2 l2.length c2, .slice A3 l3.length c3] ?_; refine (slices_Equal_int64_int64.calls k _ _ l2 _ _ l3 true _ (cq (Kd.C_below HR2.out HB.out)) HC2.out (cq (Kd.C_below HR3.out HB.out)) HC3.out A5.out).mono ?_; rintro e w' ⟨rfl, ⟨nd, rfl⟩⟩; refine ⟨_, rfl, ?_⟩))
  go_ret
  exact ⟨er, hs HB.out⟩
 ·replace c6 := Bool.eq_false_iff.mpr c6
  subst c6
  rw [if_neg (show ¬ (false = true) by decide)] at H
  obtain ⟨t360, A8, H⟩ := ob H
  try dsimp only at H
  by_cases c9 : t360 = true
  ·subst c9
   rw [if_pos rfl] at H
   obtain rfl := Option.some.inj H
   go_enter Tryz.func37, Tryz.ntmps37
   go_wp2_with (first | (refine bx 4 rfl #[.slice A0_0 l0_0.length c0_0] 36 ?_; intro gb358 hg w10 hbox hb; have BK358 := am (hbox); have GW358 := am (bz hg (hq HB.out)); replace HB := sb HB hb; have GE358 := GW358; clear hb hbox hg) | (refine gl (some 12) Tryz.func61 rfl #[.slice A2 l2.length c2, .slice A3 l3.length c3] ?_; refine (slices_Equal_int64_int64.calls k _ _ l2 _ _ l3 false _ (cq (Kd.C_below HR2.out HB.out)) HC2.out (cq (Kd.C_below HR3.out HB.out)) HC3.out A5.out).mono ?_; rintro e w' ⟨rfl, ⟨nd, rfl⟩⟩; refine ⟨_, rfl, ?_⟩; have hcz11_0 : w10.cell? ⟨gb358, 0, none⟩ = some (.slice A0_0 l0_0.length c0_0) := (Aa0 BK358.out 0).trans rfl; have hfz11_0 := Aa1 BK358.out 0) | (refine gl (some 18) Tryz.func62 rfl #[.agg #[.slice A0_0 l0_0.length c0_0], .slice A1 l1.length c1, .slice A2 l2.length c2, .slice A3 l3.length c3] ?_; refine (impl_isGreater.calls k _ _ l0_0 _ _ l1 _ _ l2 _ _ l3 true _ (cq (Kd.C_below HR0_0.out (hs HB.out))) HC0_0.out (cq (Kd.C_below HR1.out (hs HB.out))) HC1.out (cq (Kd.C_below HR2.out (hs HB.out))) HC2.out (cq (Kd.C_below HR3.out (hs HB.out))) HC3.out A8.out).mono ?_; rintro e w12 ⟨rfl, hb⟩; refine ⟨_, rfl, ?_⟩; replace BK358 := bb BK358 hb; replace HB := sb HB hb; (try clear hb)))
   go_ret
   exact ⟨er, hs HB.out⟩
  ·replace c9 := Bool.eq_false_iff.mpr c9
   subst c9
   rw [if_neg (show ¬ (false = true) by decide)] at H
   obtain ⟨t361, A13, H⟩ := ob H
   try dsimp only at H
   by_cases c14 : t361 = true
   ·subst c14
    rw [if_pos rfl] at H
    obtain rfl := Option.some.inj H
    go_enter Tryz.func37, Tryz.ntmps37
    go_wp2_with (first | (refine bx 4 rfl #[.slice A0_0 l0_0.length c0_0] 36 ?_; intro gb358 hg w15 hbox hb; have BK358 := am (hbox); have GW358 := am (bz hg (hq HB.out)); replace HB := sb HB hb; have GE358 := GW358; clear hb hbox hg) | (refine gl (some 12) Tryz.func61 rfl #[.slice A2 l2.length c2, .slice A3 l3.length c3] ?_; refine (slices_Equal_int64_int64.calls k _ _ l2 _ _ l3 false _ (cq (Kd.C_below HR2.out HB.out)) HC2.out (cq (Kd.C_below HR3.out HB.out)) HC3.out A5.out).mono ?_; rintro e w' ⟨rfl, ⟨nd, rfl⟩⟩; refine ⟨_, rfl, ?_⟩; have hcz16_0 : w15.cell? ⟨gb358, 0, none⟩ = some (.slice A0_0 l0_0.length c0_0) := (Aa0 BK358.out 0).trans rfl; have hfz16_0 := Aa1 BK358.out 0) | (refine gl (some 18) Tryz.func62 rfl #[.agg #[.slice A0_0 l0_0.length c0_0], .slice A1 l1.length c1, .slice A2 l2.length c2, .slice A3 l3.length c3] ?_; refine (impl_isGreater.calls k _ _ l0_0 _ _ l1 _ _ l2 _ _ l3 false _ (cq (Kd.C_below HR0_0.out (hs HB.out))) HC0_0.out (cq (Kd.C_below HR1.out (hs HB.out))) HC1.out (cq (Kd.C_below HR2.out (hs HB.out))) HC2.out (cq (Kd.C_below HR3.out (hs HB.out))) HC3.out A8.out).mono ?_; rintro e w17 ⟨rfl, hb⟩; refine ⟨_, rfl, ?_⟩; replace BK358 := bb BK358 hb; replace HB := sb HB hb; (try clear hb); have hcz18_0 : w17.cell? ⟨gb358, 0, none⟩ = some (.slice A0_0 l0_0.length c0_0) := (Aa0 BK358.out 0).trans rfl; have hfz18_0 := Aa1 BK358.out 0) | (refine gl (some 24) Tryz.func62 rfl #[.agg #[.slice A0_0 l0_0.length c0_0], .slice A1 l1.length c1, .slice A3 l3.length c3, .slice A2 l2.length c2] ?_; refine (impl_isGreater.calls k _ _ l0_0 _ _ l1 _ _ l3 _ _ l2 true _ (cq (Kd.C_below HR0_0.out HB.out)) HC0_0.out (cq (Kd.C_below HR1.out HB.out)) HC1.out (cq (Kd.C_below HR3.out HB.out)) HC3.out (cq (Kd.C_below HR2.out HB.out)) HC2.out A13.out).mono ?_; rintro e w19 ⟨rfl, hb⟩; refine ⟨_, rfl, ?_⟩; replace BK358 := bb BK358 hb; replace HB := sb HB hb; (try clear hb)))
    go_ret
    exact ⟨er, hs HB.out⟩
   ·replace c14 := Bool.eq_false_iff.mpr c14
    subst c14
    rw [if_neg (show ¬ (false = true) by decide)] at H
    obtain rfl := Option.some.inj H
    go_enter Tryz.func37, Tryz.ntmps37
    go_wp2_with (first | (refine bx 4 rfl #[.slice A0_0 l0_0.length c0_0] 36 ?_; intro gb358 hg w20 hbox hb; have BK358 := am (hbox); have GW358 := am (bz hg (hq HB.out)); replace HB := sb HB hb; have GE358 := GW358; clear hb hbox hg) | (refine gl (some 12) Tryz.func61 rfl #[.slice A2 l2.length c2, .slice A3 l3.length c3] ?_; refine (slices_Equal_int64_int64.calls k _ _ l2 _ _ l3 false _ (cq (Kd.C_below HR2.out HB.out)) HC2.out (cq (Kd.C_below HR3.out HB.out)) HC3.out A5.out).mono ?_; rintro e w' ⟨rfl, ⟨nd, rfl⟩⟩; refine ⟨_, rfl, ?_⟩; have hcz21_0 : w20.cell? ⟨gb358, 0, none⟩ = some (.slice A0_0 l0_0.length c0_0) := (Aa0 BK358.out 0).trans rfl; have hfz21_0 := Aa1 BK358.out 0) | (refine gl (some 18) Tryz.func62 rfl #[.agg #[.slice A0_0 l0_0.length c0_0], .slice A1 l1.length c1, .slice A2 l2.length c2, .slice A3 l3.length c3] ?_; refine (impl_isGreater.calls k _ _ l0_0 _ _ l1 _ _ l2 _ _ l3 false _ (cq (Kd.C_below HR0_0.out (hs HB.out))) HC0_0.out (cq (Kd.C_below HR1.out (hs HB.out))) HC1.out (cq (Kd.C_below HR2.out (hs HB.out))) HC2.out (cq (Kd.C_below HR3.out (hs HB.out))) HC3.out A8.out).mono ?_; rintro e w22 ⟨rfl, hb⟩; refine ⟨_, rfl, ?_⟩; replace BK358 := bb BK358 hb; replace HB := sb HB hb; (try clear hb); have hcz23_0 : w22.cell? ⟨gb358, 0, none⟩ = some (.slice A0_0 l0_0.length c0_0) := (Aa0 BK358.out 0).trans rfl; have hfz23_0 := Aa1 BK358.out 0) | (refine gl (some 24) Tryz.func62 rfl #[.agg #[.slice A0_0 l0_0.length c0_0], .slice A1 l1.length c1, .slice A3 l3.length c3, .slice A2 l2.length c2] ?_; refine (impl_isGreater.calls k _ _ l0_0 _ _ l1 _ _ l3 _ _ l2 false _ (cq (Kd.C_below HR0_0.out HB.out)) HC0_0.out (cq (Kd.C_below HR1.out HB.out)) HC1.out (cq (Kd.C_below HR3.out HB.out)) HC3.out (cq (Kd.C_below HR2.out HB.out)) HC2.out A13.out).mono ?_; rintro e w24 ⟨rfl, hb⟩; refine ⟨_, rfl, ?_⟩; replace BK358 := bb BK358 hb; replace HB := sb HB hb; (try clear hb)))
    go_ret
    exact ⟨er, hs HB.out⟩
def slices_Clone_int64_int64.f (l0 : List Int) : Option (List Int) := if l0.length < 17592186044416 then some l0 else none
set_option maxHeartbeats 8000000 in
set_option maxRecDepth 100000 in
theorem slices_Clone_int64_int64.calls (A0 : Option Addr) (c0 : Nat) (l0 : List Int) (r : List Int) (w : World) (hr0 : Kd.C (Kd.int .i64) w A0 l0.length l0) (hc0 : l0.length ≤ c0) (h : slices_Clone_int64_int64.f l0 = some r) :
  Calls Tryz.prog 63 #[.slice A0 l0.length c0] w fun e w' => ∃ v0_ : Value, e = .returned (v0_) ∧ Kd.R (Kd.int .i64) 2 w' w.heap.size (fun _ => True) v0_ r ∧ Below w.heap.size w w' := by
 unfold slices_Clone_int64_int64.f at h
 by_cases c2 : l0.length < 17592186044416
 case neg => rw [if_neg c2] at h; cases h
 rw [if_pos c2] at h
 obtain rfl := Option.some.inj h
 have q_ : ∀ (w : World) (a : Option Addr) (n c n' c' : Nat), (binOp .eql 25 (.slice a n c) (.slice none n' c')).run Tryz.prog w = .ok (.bool a.isNone) w := fun w a n c n' c' => Lib.run_eql_slice_nil w _ _ a n c n' c' Tryz.underlying25
 cases A0 with
 | none =>
  have h0 : l0 = [] := by
   rcases Nat.eq_zero_or_pos l0.length with h | h
   ·exact List.eq_nil_of_length_eq_zero h
   ·obtain ⟨ad, e, _⟩ := hr0.2.2 h
    cases e
  subst h0
  go_enter Tryz.func63, Tryz.ntmps63
  go_wp2
  go_ret
  exact ⟨_, rfl, Kd.R_nil _ _ _ _ _, Below.refl _ _⟩
 | some ad =>
  have HR0 := am hr0
  have HC0 := am hc0
  clear hr0 hc0 h
  have HB := am (Below.refl w.heap.size w)
  have LMc2 := am c2
  clear c2
  obtain ⟨y0_, hy0_⟩ : ∃ y_ : List Int, y_ = ([] : List Int) := ⟨_, rfl⟩
  have Ny0_ := am hy0_
  clear hy0_
  obtain ⟨y1_, hy1_⟩ : ∃ y_ : List Int, y_ = y0_ ++ l0 := ⟨_, rfl⟩
  have Ny1_ := am hy1_
  have Nz_ := am (show y1_ = l0 by rw [hy1_, Ny0_.out]; rfl)
  clear hy1_
  go_enter Tryz.func63, Tryz.ntmps63
  go_wp2_with (first | ((with_reducible refine Ae9 (N := 5) rfl ?_); refine Kd.R_lit (Kd.int .i64) _ 2 ?hg (N := 5) ?hd (xs := ([] : List Int)) (inner := []) (ok := fun _ => True) (okp := fun _ => True) ?hr ?hp (fun _ hk => hk) trivial (Below.refl _ _) (Nat.le_refl _) (by simp) ?_; (case hd => rfl); (case hg => rfl); (case hr => first | (go_simp; done) | (go_simp; rfl)); (case hp => exact (Af0.none _ _)); intro v467 w3 ho4 hb hg_ hnew_; clear hg_ hnew_; (first | rw [← Ny0_.out] at ho4 | (simp only [Int.reduceToNat] at ho4; rw [← Ny0_.out] at ho4)); have HO468 := am (Kd.R_lower ho4 (Aa6 (hq HB.out))); replace HB := sb HB hb; clear hb ho4) | ((with_reducible refine Ah2 (b := .append) (xs := #[.tmp 5, .tmp 6]) rfl ?_); at_builtin; refine Kd.R_append_rows (Kd.int .i64) (w0 := w) w.heap.size rfl (.tmp 5) (.tmp 6) 25 2 (.int .i64 0) 8 rfl Tryz.underlying25 Ap0 rfl (by decide) (by omega) v467 y0_ l0 _ _ _ (fun _ => True) (fun _ => False) rfl rfl ?aO ?aR (fun _ _ h => h) (fun _ h => h.elim) ?aF ?aB ?aS ?aL ?_; (case aR => exact cq (Kd.C_below HR0.out HB.out)); (case aB => exact (hq HB.out)); (case aF => exact (fun _ _ => trivial)); (case aO => exact (rq HO468.out)); (case aS => exact (Aa6 (hq HB.out))); (case aL => have := LMc2.out; rw [Ny0_.out, List.length_nil]; omega); intro v470 w5 ho hb hg hat; rw [← Ny1_.out] at ho; replace HB := am (hb); have HO471 := am (ho); clear HO468; clear ho hb hg hat))
  go_ret
  exact ⟨_, rfl, by rw [← Nz_.out]; (with_reducible repeat (first | apply Kd.R_alloc | apply Kd.R_drewN | apply Kd.R_drew)); exact HO471.out, hq HB.out⟩
def impl_ownEquation.f (l0_0 : List Int) (l0_1 : List Int) : Option (List Int × List Int) := (slices_Clone_int64_int64.f l0_0).bind fun t364 => ((slices_Clone_int64_int64.f l0_1).bind fun t367 => (some (t364, t367)))
def impl_ownEquation.T1 : Bool × List (List Nat × List Nat) := (true, [([], []), ([0], [0]), ([1], [1]), ([], []), ([3], [3]), ([4, 2], [4]), ([2, 5], [2, 5]), ([6, 5, 0, 1, 2, 3, 4, 5, 6], [6])])
def impl_ownEquation.B1 : List Nat := [0, 1, 3, 0, 8, 31, 63, 127]
theorem impl_ownEquation.tab1 : Aj9 .any (Ak7 Tryz.f38 1) = impl_ownEquation.T1 := by kernel_rfl
theorem impl_ownEquation.bits1 : Ae6 impl_ownEquation.T1.2 impl_ownEquation.B1 = true := by kernel_rfl
set_option maxHeartbeats 8000000 in
set_option maxRecDepth 100000 in
theorem impl_ownEquation.calls (A0_0 : Option Addr) (c0_0 : Nat) (l0_0 : List Int) (A0_1 : Option Addr) (c0_1 : Nat) (l0_1 : List Int) (r1 : List Int) (r2 : List Int) (w : World) (hr0_0 : Kd.C (Kd.int .i64) w A0_0 l0_0.length l0_0) (hc0_0 : l0_0.length ≤ c0_0) (hr0_1 : Kd.C (Kd.int .i64) w A0_1 l0_1.length l0_1) (hc0_1 : l0_1.length ≤ c0_1) (h : impl_ownEquation.f l0_0 l0_1 = some (r1, r2)) :
  Calls Tryz.prog 38 #[.agg #[.slice A0_0 l0_0.length c0_0, .slice A0_1 l0_1.length c0_1]] w fun e w' => ∃ v0_ v1_ : Value, e = .returned (.agg #[v0_, v1_]) ∧ Kd.R (Kd.int .i64) 2 w' w.heap.size (fun k_ => some k_ ≠ (v1_ : Value).ownBlock) v0_ r1 ∧ Kd.R (Kd.int .i64) 2 w' w.heap.size (fun k_ => some k_ ≠ (v0_ : Value).ownBlock) v1_ r2 ∧ Below w.heap.size w w' := by
 have hu30 := Tryz.underlying30
 have HR0_0 := am hr0_0
 have HC0_0 := am hc0_0
 clear hr0_0 hc0_0
 have HR0_1 := am hr0_1
 have HC0_1 := am hc0_1
 clear hr0_1 hc0_1
 have HB := am (Below.refl w.heap.size w)
 have H : ((slices_Clone_int64_int64.f l0_0).bind fun t364 => ((slices_Clone_int64_int64.f l0_1).bind fun t367 => (some (t364, t367)))) = some (r1, r2) := h
 clear h
 obtain ⟨t364, A2, H⟩ := ob H
 try dsimp only at H
 obtain ⟨t367, A3, H⟩ := ob H
 try dsimp only at H
 simp only [Option.some.injEq, Prod.mk.injEq] at H
 obtain ⟨rfl, rfl⟩ := H
 go_enter Tryz.func38, Tryz.ntmps38
 try go_wp2_with (first | (refine bx 1 rfl #[.slice A0_0 l0_0.length c0_0, .slice A0_1 l0_1.length c0_1] 30 ?_; intro gb362 hg w4 hbox hb; have BK362 := am (hbox); have GW362 := am (bz hg (hq HB.out)); replace HB := sb HB hb; have GE362 := GW362; clear hb hbox hg) | (refine bx 2 rfl #[.slice none 0 0, .slice none 0 0] 30 ?_; intro gb363 hg w5 hbox hb; have BK363 := am (hbox); have GW363 := am (bz hg (hs HB.out)); replace HB := sb HB hb; have GE363 := GW363; have NB362_363 := nl hg BK362; have NB363_362 := ng hg BK362; replace BK362 := bb BK362 hb; clear hb hbox hg))
 replace BK362 := am (Ab7 BK362.out)
 replace BK363 := am (Ab7 BK363.out)
 replace HB := am (Ab0 HB.out)
 refine Ad5 (n := 8) (S := fun w' => w'.cell? ⟨gb362, 0, none⟩ = some (.slice A0_0 l0_0.length c0_0) ∧ w'.cell? ⟨gb362, 1, none⟩ = some (.slice A0_1 l0_1.length c0_1)) (ds := []) #[false, false, false, false, false, false, false, false] (by kernel_rfl) rfl rfl ⟨(Aa0 BK362.out 0).trans rfl, (Aa0 BK362.out 1).trans rfl⟩ (fun hHeld => ?_); refine Ac1 impl_ownEquation.tab1 impl_ownEquation.bits1 (fun HT_ HW_ => ?_)
 generalize w5.drew = w6 at BK362 BK363 HB hHeld ⊢
 refine pu 0 3 rfl rfl HT_ ?_
 refine pu 3 6 rfl rfl HT_ ?_
 refine tk 1 4 rfl rfl HT_ HW_ hHeld ?_
 refine tk 4 7 rfl rfl HT_ HW_ hHeld ?_
 refine on_ 2 (some 5) rfl rfl HT_ (fun K hK => ?_)
 refine gs Tryz.func63 #[.slice A0_0 l0_0.length c0_0] ?_
 refine (slices_Clone_int64_int64.calls _ _ l0_0 t364 _ (cq (Kd.C_below HR0_0.out HB.out)) HC0_0.out A2.out).mono ?_
 rintro e w7 ⟨v365, rfl, ho0, hb⟩
 refine ⟨_, rfl, ?_⟩
 have HO366 := am (Kd.R_lower ho0 (Aa6 (hs HB.out)))
 replace BK362 := bb BK362 hb
 replace BK363 := bb BK363 hb
 replace HB := sb HB hb
 (try clear hb)
 (try clear hk)
 (try clear ho0)
 refine hK.out _ _ ⟨(Aa0 BK362.out 0).trans rfl, (Aa0 BK362.out 1).trans rfl⟩ (fun hHeld => ?_)
 clear hK K
 refine nr (some 5) ?_
 refine on_ 5 (some 8) rfl rfl HT_ (fun K hK => ?_)
 refine gs Tryz.func63 #[.slice A0_1 l0_1.length c0_1] ?_
 refine (slices_Clone_int64_int64.calls _ _ l0_1 t367 _ (cq (Kd.C_below HR0_1.out HB.out)) HC0_1.out A3.out).mono ?_
 rintro e w8 ⟨v368, rfl, ho0, hb⟩
 refine ⟨_, rfl, ?_⟩
 have HO369 := am (Kd.R_lower (Kd.R_new' ho0 (Kd.R_lt (rq HO366.out))) (Aa6 (hs HB.out)))
 replace HO366 := am (Kd.R_elder' (rq HO366.out) (Kd.R_base ho0) hb)
 replace BK362 := bb BK362 hb
 replace BK363 := bb BK363 hb
 replace HB := sb HB hb
 (try clear hb)
 (try clear hk)
 (try clear ho0)
 obtain ⟨Ao9, co9, eo9⟩ := Kd.R_slice HO369.out
 (first | subst eo9 | (injection eo9 with f1_ f2_ f3_; have f4_ := f1_.symm; have f5_ := f3_.symm; clear f1_ f2_ f3_; subst f4_; subst f5_))
 obtain ⟨Ao10, co10, eo10⟩ := Kd.R_slice HO366.out
 (first | subst eo10 | (injection eo10 with f1_ f2_ f3_; have f4_ := f1_.symm; have f5_ := f3_.symm; clear f1_ f2_ f3_; subst f4_; subst f5_))
 refine hK.out _ _ ⟨(Aa0 BK362.out 0).trans rfl, (Aa0 BK362.out 1).trans rfl⟩ (fun hHeld => ?_)
 clear hK K
 refine nr (some 8) ?_
 refine pu 6 9 rfl rfl HT_ ?_
 refine on_ 7 none rfl rfl HT_ (fun K hK => ?_)
 have hs11 : w8.cell? ⟨gb363, 0, none⟩ = some (.slice none 0 0) := (Aa0 BK363.out 0).trans rfl
 have hfs11 := Aa1 BK363.out 0
 have hns11_0 := NB362_363.out
 have hms11_0 := NB363_362.out
 have hs12 : w8.cell? ⟨gb363, 1, none⟩ = some (.slice none 0 0) := (Aa0 BK363.out 1).trans rfl
 have hfs12 := Aa1 BK363.out 1
 have hns12_0 := NB362_363.out
 have hms12_0 := NB363_362.out
 refine Au9 (w1 := ?_) (by rfl) rfl ?_ ?_
 rotate_left
 ·go_simp
  rfl
 refine hK.out _ _ ⟨((Ab6 (p := ⟨gb363, _, none⟩) NB362_363.out _).trans (((Ab6 (p := ⟨gb363, _, none⟩) NB362_363.out _).trans (hHeld.1)))), ((Ab6 (p := ⟨gb363, _, none⟩) NB362_363.out _).trans (((Ab6 (p := ⟨gb363, _, none⟩) NB362_363.out _).trans (hHeld.2))))⟩ (fun hHeld => ?_)
 clear hK K
 refine Ag1 (Ac8 HT_.out (by kernel_rfl)) ?_
 try go_wp2
 refine bodyPost_ret (results_cell_row rfl _ _ gb363 30 #[.slice Ao10 t364.length co10, .slice Ao9 t367.length co9] (0, 0) _ rfl (by refine bq ?_; refine Ab4 (cs := #[.slice Ao10 t364.length co10, .slice none 0 0]) ?_ 1 _ rfl; refine bq ?_; refine Ab4 (cs := #[.slice none 0 0, .slice none 0 0]) ?_ 0 _ rfl; refine bq ?_; exact BK363.out) Tryz.underlying30 rfl (by kernel_rfl)) rfl ?_
 exact ⟨_, _, er, rq (Kd.R_mono (Kd.R_far (p := ⟨gb363, 1, none⟩) (Kd.R_far (p := ⟨gb363, 0, none⟩) (Kd.R_types HO366.out BK363.out (by decide)) (fun _ hk => hk.2) (.slice Ao10 t364.length co10)) (fun _ hk => hk.2) (.slice Ao9 t367.length co9)) (fun _ hk => hk.1.2)), rq (Kd.R_mono (Kd.R_far (p := ⟨gb363, 1, none⟩) (Kd.R_far (p := ⟨gb363, 0, none⟩) (Kd.R_types HO369.out BK363.out (by decide)) (fun _ hk => hk.2) (.slice Ao10 t364.length co10)) (fun _ hk => hk.2) (.slice Ao9 t367.length co9)) (fun _ hk => hk.1.2)), hs HB.out⟩
end Go.Proofs.YtgichahebemmiaaGreatDoor.P
namespace Go.Proofs.YtgichahebemmiaaGreatDoor.P
open Go.RowKit Go.Proofs.YtgichahebemmiaaGreatDoorW.PrintWords Go.Proofs.YtgichahebemmiaaGreatDoorW.PrintLast Go.Proofs.YtgichahebemmiaaGreatDoorW.PrintMore
attribute [local go_sem] Ae7 Ae4 Af9 Ag0 Ad3 Ad2 Ae8 Ae5   -- for this text's walks alone
set_option linter.unusedVariables false
set_option linter.unusedSimpArgs false
def impl_OrientEquation.f (k : Nat) (l0_0 : List (S79)) (l1 : List Int) (l2_0 : List Int) (l2_1 : List Int) : Option (Int × List Int × List Int) := (impl_OrderFault.f k l0_0 l1).bind fun t373 => ((impl_TermFault.f k l0_0 l2_0).bind fun t374 => ((impl_TermFault.f k l0_0 l2_1).bind fun t375 => ((impl_firstCode.f k (([t373, t374, t375] : List Int))).bind fun t379 => (if t379 = 0 then ((impl_compareTerms.f k l0_0 l1 l2_0 l2_1).bind fun t380 => (if t380 = 1 then ((impl_ownEquation.f l2_0 l2_1).bind fun bt381 => (some (0, bt381.1, bt381.2))) else (if t380 = 2 then ((impl_ownEquation.f l2_1 l2_0).bind fun bt387 => (some (0, bt387.1, bt387.2))) else (some (10, ([] : List Int), ([] : List Int)))))) else (some (t379, ([] : List Int), ([] : List Int)))))))
def impl_OrientEquation.T1 : Bool × List (List Nat × List Nat) := (true, [([], []), ([], []), ([0, 1], [0, 1]), ([], []), ([], []), ([4], [4]), ([3, 5, 2], [3, 5]), ([], []), ([], []), ([8], [8]), ([7, 9, 6], [7, 9]), ([2, 6, 10], [2, 6, 10]), ([11, 10], [11]), ([12, 12, 0, 1, 2, 3, 4, 5, 6, 7, 8, 9, 10, 11, 12], [12])])
def impl_OrientEquation.B1 : List Nat := [0, 0, 3, 0, 0, 16, 63, 0, 0, 256, 1023, 2047, 4095, 8191]
theorem impl_OrientEquation.tab1 : Aj9 .any (Ak7 Tryz.f11 1) = impl_OrientEquation.T1 := by kernel_rfl
theorem impl_OrientEquation.bits1 : Ae6 impl_OrientEquation.T1.2 impl_OrientEquation.B1 = true := by kernel_rfl
set_option maxHeartbeats 8000000 in
set_option maxRecDepth 100000 in
theorem impl_OrientEquation.calls (k : Nat) (A0_0 : Option Addr) (c0_0 : Nat) (l0_0 : List (S79)) (A1 : Option Addr) (c1 : Nat) (l1 : List Int) (A2_0 : Option Addr) (c2_0 : Nat) (l2_0 : List Int) (A2_1 : Option Addr) (c2_1 : Nat) (l2_1 : List Int) (r1 : Int) (r2 : List Int) (r3 : List Int) (w : World) (hr0_0 : Kd.C k79 w A0_0 l0_0.length l0_0) (hc0_0 : l0_0.length ≤ c0_0) (hr1 : Kd.C (Kd.int .i64) w A1 l1.length l1) (hc1 : l1.length ≤ c1) (hr2_0 : Kd.C (Kd.int .i64) w A2_0 l2_0.length l2_0) (hc2_0 : l2_0.length ≤ c2_0) (hr2_1 : Kd.C (Kd.int .i64) w A2_1 l2_1.length l2_1) (hc2_1 : l2_1.length ≤ c2_1) (h : impl_OrientEquation.f k l0_0 l1 l2_0 l2_1 = some (r1, r2, r3)) :
  Calls Tryz.prog 11 #[.agg #[.slice A0_0 l0_0.length c0_0], .slice A1 l1.length c1, .agg #[.slice A2_0 l2_0.length c2_0, .slice A2_1 l2_1.length c2_1]] w fun e w' => ∃ v1_ v2_ : Value, e = .returned (.agg #[.int .i64 r1, v1_, v2_]) ∧ Kd.R (Kd.int .i64) 2 w' w.heap.size (fun k_ => some k_ ≠ (v2_ : Value).ownBlock) v1_ r2 ∧ Kd.R (Kd.int .i64) 2 w' w.heap.size (fun k_ => some k_ ≠ (v1_ : Value).ownBlock) v2_ r3 ∧ Below w.heap.size w w' := by
 have hu36 := Tryz.underlying36
 have hu30 := Tryz.underlying30
 have hu32 := Tryz.underlying32
 have HR0_0 := am hr0_0
 have HC0_0 := am hc0_0
 clear hr0_0 hc0_0
 have HR1 := am hr1
 have HC1 := am hc1
 clear hr1 hc1
 have HR2_0 := am hr2_0
 have HC2_0 := am hc2_0
 clear hr2_0 hc2_0
 have HR2_1 := am hr2_1
 have HC2_1 := am hc2_1
 clear hr2_1 hc2_1
 have HB := am (Below.refl w.heap.size w)
 have H : ((impl_OrderFault.f k l0_0 l1).bind fun t373 => ((impl_TermFault.f k l0_0 l2_0).bind fun t374 => ((impl_TermFault.f k l0_0 l2_1).bind fun t375 => ((impl_firstCode.f k (([t373, t374, t375] : List Int))).bind fun t379 => (if t379 = 0 then ((impl_compareTerms.f k l0_0 l1 l2_0 l2_1).bind fun t380 => (if t380 = 1 then ((impl_ownEquation.f l2_0 l2_1).bind fun bt381 => (some (0, bt381.1, bt381.2))) else (if t380 = 2 then ((impl_ownEquation.f l2_1 l2_0).bind fun bt387 => (some (0, bt387.1, bt387.2))) else (some (10, ([] : List Int), ([] : List Int)))))) else (some (t379, ([] : List Int), ([] : List Int)))))))) = some (r1, r2, r3) := h
 clear h
 obtain ⟨t373, A4, H⟩ := ob H
 try dsimp only at H
 obtain ⟨t374, A5, H⟩ := ob H
 try dsimp only at H
 obtain ⟨t375, A6, H⟩ := ob H
 try dsimp only at H
 obtain ⟨y376, hy376⟩ : ∃ y_ : List Int, y_ = (([t373, t374, t375] : List Int)) := ⟨_, rfl⟩
 replace H : ((impl_firstCode.f k y376).bind fun t379 => (if t379 = 0 then ((impl_compareTerms.f k l0_0 l1 l2_0 l2_1).bind fun t380 => (if t380 = 1 then ((impl_ownEquation.f l2_0 l2_1).bind fun bt381 => (some (0, bt381.1, bt381.2))) else (if t380 = 2 then ((impl_ownEquation.f l2_1 l2_0).bind fun bt387 => (some (0, bt387.1, bt387.2))) else (some (10, ([] : List Int), ([] : List Int)))))) else (some (t379, ([] : List Int), ([] : List Int))))) = some (r1, r2, r3) := by first | (rw [hy376]; with_reducible exact H) | (have H2_ := (Option.bind_some _ _).symm.trans H; rw [hy376]; with_reducible exact H2_) | (have H2_ := (Option.bind_some _ _).symm.trans H; with_reducible exact H2_) | with_reducible exact H | (rw [hy376]; exact H) | exact H
 have Ny376 := am hy376
 clear hy376
 obtain ⟨t379, A7, H⟩ := ob H
 try dsimp only at H
 by_cases c8 : t379 = 0
 ·rw [if_pos c8] at H
  obtain ⟨c8b0, c8b1⟩ := bqt c8; clear c8
  obtain ⟨t380, A9, H⟩ := ob H
  try dsimp only at H
  by_cases c10 : t380 = 1
  ·rw [if_pos c10] at H
   obtain ⟨c10b0, c10b1⟩ := bqt c10; clear c10
   obtain ⟨⟨t381, t384⟩, A11, H⟩ := ob H
   try dsimp only at H
   simp only [Option.some.injEq, Prod.mk.injEq] at H
   obtain ⟨rfl, rfl, rfl⟩ := H
   go_enter Tryz.func11, Tryz.ntmps11
   try go_wp2_with (first | (refine bx 3 rfl #[.slice A0_0 l0_0.length c0_0] 36 ?_; intro gb370 hg w12 hbox hb; have BK370 := am (hbox); have GW370 := am (bz hg (hq HB.out)); replace HB := sb HB hb; have GE370 := GW370; clear hb hbox hg) | (refine bx 5 rfl #[.slice A2_0 l2_0.length c2_0, .slice A2_1 l2_1.length c2_1] 30 ?_; intro gb371 hg w13 hbox hb; have BK371 := am (hbox); have GW371 := am (bz hg (hs HB.out)); replace HB := sb HB hb; have GE371 := GW371; have NB370_371 := nl hg BK370; have NB371_370 := ng hg BK370; replace BK370 := bb BK370 hb; clear hb hbox hg) | (refine bx 6 rfl #[.int .i64 0, .slice none 0 0, .slice none 0 0] 32 ?_; intro gb372 hg w14 hbox hb; have BK372 := am (hbox); have GW372 := am (bz hg (hs HB.out)); replace HB := sb HB hb; have GE372 := GW372; have NB370_372 := nl hg BK370; have NB372_370 := ng hg BK370; replace BK370 := bb BK370 hb; have NB371_372 := nl hg BK371; have NB372_371 := ng hg BK371; replace BK371 := bb BK371 hb; clear hb hbox hg))
   replace BK370 := am (Ab7 BK370.out)
   replace BK371 := am (Ab7 BK371.out)
   replace BK372 := am (Ab7 BK372.out)
   replace HB := am (Ab0 HB.out)
   refine Ad5 (n := 14) (S := fun w' => w'.cell? ⟨gb370, 0, none⟩ = some (.slice A0_0 l0_0.length c0_0) ∧ w'.cell? ⟨gb371, 0, none⟩ = some (.slice A2_0 l2_0.length c2_0) ∧ w'.cell? ⟨gb371, 1, none⟩ = some (.slice A2_1 l2_1.length c2_1)) (ds := []) #[false, false, false, false, false, false, false, false, false, false, false, false, false, false] (by kernel_rfl) rfl rfl ⟨(Aa0 BK370.out 0).trans rfl, (Aa0 BK371.out 0).trans rfl, (Aa0 BK371.out 1).trans rfl⟩ (fun hHeld => ?_); refine Ac1 impl_OrientEquation.tab1 impl_OrientEquation.bits1 (fun HT_ HW_ => ?_)
   generalize w14.drew = w15 at BK370 BK371 BK372 HB hHeld ⊢
   refine pu 1 9 rfl rfl HT_ ?_
   refine pu 4 12 rfl rfl HT_ ?_
   refine pu 8 16 rfl rfl HT_ ?_
   refine tk 0 8 rfl rfl HT_ HW_ hHeld ?_
   refine tk 3 11 rfl rfl HT_ HW_ hHeld ?_
   refine tk 5 13 rfl rfl HT_ HW_ hHeld ?_
   refine tk 7 15 rfl rfl HT_ HW_ hHeld ?_
   refine tk 9 17 rfl rfl HT_ HW_ hHeld ?_
   refine on_ 2 (some 10) rfl rfl HT_ (fun K hK => ?_)
   refine gs Tryz.func35 #[.agg #[.slice A0_0 l0_0.length c0_0], .slice A1 l1.length c1] ?_
   refine (impl_OrderFault.calls k _ _ l0_0 _ _ l1 t373 _ (cq (Kd.C_below HR0_0.out HB.out)) HC0_0.out (cq (Kd.C_below HR1.out HB.out)) HC1.out A4.out).mono ?_
   rintro e w16 ⟨rfl, hb⟩
   refine ⟨_, rfl, ?_⟩
   replace BK370 := bb BK370 hb
   replace BK371 := bb BK371 hb
   replace BK372 := bb BK372 hb
   replace HB := sb HB hb
   (try clear hb)
   (try clear hk)
   refine hK.out _ _ ⟨(Aa0 BK370.out 0).trans rfl, (Aa0 BK371.out 0).trans rfl, (Aa0 BK371.out 1).trans rfl⟩ (fun hHeld => ?_)
   clear hK K
   refine nr (some 10) ?_
   refine on_ 6 (some 14) rfl rfl HT_ (fun K hK => ?_)
   refine gs Tryz.func36 #[.agg #[.slice A0_0 l0_0.length c0_0], .slice A2_0 l2_0.length c2_0] ?_
   refine (impl_TermFault.calls k _ _ l0_0 _ _ l2_0 t374 _ (cq (Kd.C_below HR0_0.out HB.out)) HC0_0.out (cq (Kd.C_below HR2_0.out HB.out)) HC2_0.out A5.out).mono ?_
   rintro e w17 ⟨rfl, hb⟩
   refine ⟨_, rfl, ?_⟩
   replace BK370 := bb BK370 hb
   replace BK371 := bb BK371 hb
   replace BK372 := bb BK372 hb
   replace HB := sb HB hb
   (try clear hb)
   (try clear hk)
   refine hK.out _ _ ⟨(Aa0 BK370.out 0).trans rfl, (Aa0 BK371.out 0).trans rfl, (Aa0 BK371.out 1).trans rfl⟩ (fun hHeld => ?_)
   clear hK K
   refine nr (some 14) ?_
   refine on_ 10 (some 18) rfl rfl HT_ (fun K hK => ?_)
   refine gs Tryz.func36 #[.agg #[.slice A0_0 l0_0.length c0_0], .slice A2_1 l2_1.length c2_1] ?_
   refine (impl_TermFault.calls k _ _ l0_0 _ _ l2_1 t375 _ (cq (Kd.C_below HR0_0.out HB.out)) HC0_0.out (cq (Kd.C_below HR2_1.out HB.out)) HC2_1.out A6.out).mono ?_
   rintro e w18 ⟨rfl, hb⟩
   refine ⟨_, rfl, ?_⟩
   replace BK370 := bb BK370 hb
   replace BK371 := bb BK371 hb
   replace BK372 := bb BK372 hb
   replace HB := sb HB hb
   (try clear hb)
   (try clear hk)
   refine hK.out _ _ ⟨(Aa0 BK370.out 0).trans rfl, (Aa0 BK371.out 0).trans rfl, (Aa0 BK371.out 1).trans rfl⟩ (fun hHeld => ?_)
   clear hK K
   refine nr (some 18) ?_
   refine on_ 11 (some 19) rfl rfl HT_ (fun K hK => ?_)
   refine Kd.R_lit_step (Kd.int .i64) _ 2 ?hg (N := 19) ?hd (xs := ([t373, t374, t375] : List Int)) (inner := [.int .i64 t373, .int .i64 t374, .int .i64 t375]) (ok := fun _ => True) (okp := fun _ => True) ?hr ?hp (fun _ hk => hk) trivial (Below.refl _ _) (Nat.le_refl _) (by simp) ?_; (case hd => rfl); (case hg => rfl); (case hr => first | (go_simp; done) | (go_simp; rfl)); (case hp => exact (Af0.one (show Kd.M (Kd.int .i64) _ _ _ t373 [.int .i64 t373] from rfl) (Af0.one (show Kd.M (Kd.int .i64) _ _ _ t374 [.int .i64 t374] from rfl) (Af0.one (show Kd.M (Kd.int .i64) _ _ _ t375 [.int .i64 t375] from rfl) (Af0.none _ _)))))
   intro v377 w19 ho20 hb hg_ hnew_
   clear hg_ hnew_
   (first | rw [← Ny376.out] at ho20 | (simp only [Int.reduceToNat] at ho20; rw [← Ny376.out] at ho20))
   have HO378 := am (Kd.R_lower ho20 (Aa6 (hs HB.out)))
   replace BK370 := bb BK370 hb
   replace BK371 := bb BK371 hb
   replace BK372 := bb BK372 hb
   replace HB := sb HB hb
   clear hb ho20
   obtain ⟨Ao21, co21, eo21⟩ := Kd.R_slice HO378.out
   (first | subst eo21 | (injection eo21 with f1_ f2_ f3_; have f4_ := f1_.symm; have f5_ := f3_.symm; clear f1_ f2_ f3_; subst f4_; subst f5_))
   refine hK.out _ _ ⟨(Aa0 BK370.out 0).trans rfl, (Aa0 BK371.out 0).trans rfl, (Aa0 BK371.out 1).trans rfl⟩ (fun hHeld => ?_)
   clear hK K
   refine nr (some 19) ?_
   refine on_ 12 (some 20) rfl rfl HT_ (fun K hK => ?_)
   refine gs Tryz.func34 #[.slice Ao21 y376.length co21] ?_
   refine (impl_firstCode.calls k _ _ y376 t379 _ (cq (Kd.R_reads' HO378.out).2.2) ((Kd.R_reads' HO378.out).2.1) A7.out).mono ?_
   rintro e w22 ⟨rfl, hb⟩
   refine ⟨_, rfl, ?_⟩
   replace HO378 := rb HO378 hb
   replace BK370 := bb BK370 hb
   replace BK371 := bb BK371 hb
   replace BK372 := bb BK372 hb
   replace HB := sb HB hb
   (try clear hb)
   (try clear hk)
   refine hK.out _ _ ⟨(Aa0 BK370.out 0).trans rfl, (Aa0 BK371.out 0).trans rfl, (Aa0 BK371.out 1).trans rfl⟩ (fun hHeld => ?_)
   clear hK K
   refine nr (some 20) ?_
   refine pu 13 7 rfl rfl HT_ ?_
   refine Ag1 (Ac8 HT_.out (by kernel_rfl)) ?_
   have hnb23 := NB370_371.out
   have hnc23 := NB371_370.out
   have hnb24 := NB370_372.out
   have hnc24 := NB372_370.out
   have hcz25_0 : w22.cell? ⟨gb370, 0, none⟩ = some (.slice A0_0 l0_0.length c0_0) := (Aa0 BK370.out 0).trans rfl
   have hfz25_0 := Aa1 BK370.out 0
   have hnb26 := NB371_372.out
   have hnc26 := NB372_371.out
   have hcz27_0 : w22.cell? ⟨gb371, 0, none⟩ = some (.slice A2_0 l2_0.length c2_0) := (Aa0 BK371.out 0).trans rfl
   have hcz27_1 : w22.cell? ⟨gb371, 1, none⟩ = some (.slice A2_1 l2_1.length c2_1) := (Aa0 BK371.out 1).trans rfl
   have hfz27_0 := Aa1 BK371.out 0
   have hfz27_1 := Aa1 BK371.out 1
   try go_wp2_with (first | (refine gl (some 31) Tryz.func37 rfl #[.agg #[.slice A0_0 l0_0.length c0_0], .slice A1 l1.length c1, .slice A2_0 l2_0.length c2_0, .slice A2_1 l2_1.length c2_1] ?_; refine (impl_compareTerms.calls k _ _ l0_0 _ _ l1 _ _ l2_0 _ _ l2_1 t380 _ (cq (Kd.C_below HR0_0.out HB.out)) HC0_0.out (cq (Kd.C_below HR1.out HB.out)) HC1.out (cq (Kd.C_below HR2_0.out HB.out)) HC2_0.out (cq (Kd.C_below HR2_1.out HB.out)) HC2_1.out A9.out).mono ?_; rintro e w28 ⟨rfl, hb⟩; refine ⟨_, rfl, ?_⟩; replace HO378 := rb HO378 hb; replace BK370 := bb BK370 hb; replace BK371 := bb BK371 hb; replace BK372 := bb BK372 hb; replace HB := sb HB hb; (try clear hb); (try clear hk); have hcz29_0 : w28.cell? ⟨gb371, 0, none⟩ = some (.slice A2_0 l2_0.length c2_0) := (Aa0 BK371.out 0).trans rfl; have hcz29_1 : w28.cell? ⟨gb371, 1, none⟩ = some (.slice A2_1 l2_1.length c2_1) := (Aa0 BK371.out 1).trans rfl; have hfz29_0 := Aa1 BK371.out 0; have hfz29_1 := Aa1 BK371.out 1) | (refine gl (some 35) Tryz.func38 rfl #[.agg #[.slice A2_0 l2_0.length c2_0, .slice A2_1 l2_1.length c2_1]] ?_; refine (impl_ownEquation.calls _ _ l2_0 _ _ l2_1 t381 t384 _ (cq (Kd.C_below HR2_0.out HB.out)) HC2_0.out (cq (Kd.C_below HR2_1.out HB.out)) HC2_1.out A11.out).mono ?_; rintro e w30 ⟨v382, v385, rfl, ho0, ho1, hb⟩; refine ⟨_, rfl, ?_⟩; have HO383 := am (Kd.R_lower (Kd.R_new' ho0 (Kd.R_lt (rq HO378.out))) (Aa6 (hs HB.out))); have HO386 := am (Kd.R_lower (Kd.R_new' ho1 (Kd.R_lt (rq HO378.out))) (Aa6 (hs HB.out))); replace HO378 := am (Kd.R_mono (Kd.R_told (Kd.R_told (Kd.R_old (rq HO378.out) hb) (Kd.R_base ho0)) (Kd.R_base ho1)) (fun _ h_ => h_.1)); replace BK370 := bb BK370 hb; replace BK371 := bb BK371 hb; replace BK372 := bb BK372 hb; replace HB := sb HB hb; (try clear hb); (try clear hk); (try clear ho0); (try clear ho1); obtain ⟨Ao31, co31, rfl⟩ := Kd.R_slice HO386.out; obtain ⟨Ao32, co32, rfl⟩ := Kd.R_slice HO383.out; have hcz33_0 : w30.cell? ⟨gb372, 0, none⟩ = some (.int .i64 0) := (Aa0 BK372.out 0).trans rfl; have hcz33_1 : w30.cell? ⟨gb372, 1, none⟩ = some (.slice none 0 0) := (Aa0 BK372.out 1).trans rfl; have hcz33_2 : w30.cell? ⟨gb372, 2, none⟩ = some (.slice none 0 0) := (Aa0 BK372.out 2).trans rfl; have hfz33_0 := Aa1 BK372.out 0; have hfz33_1 := Aa1 BK372.out 1; have hfz33_2 := Aa1 BK372.out 2))
   refine bodyPost_ret (results_cell_row rfl _ _ gb372 32 #[.int .i64 0, .slice Ao32 t381.length co32, .slice Ao31 t384.length co31] (0, 0) _ rfl (by refine bq ?_; refine Ab4 (cs := #[.int .i64 0, .slice Ao32 t381.length co32, .slice none 0 0]) ?_ 2 _ rfl; refine bq ?_; refine Ab4 (cs := #[.int .i64 0, .slice none 0 0, .slice none 0 0]) ?_ 1 _ rfl; refine bq ?_; refine Ab4 (cs := #[.int .i64 0, .slice none 0 0, .slice none 0 0]) ?_ 0 _ rfl; refine bq ?_; exact BK372.out) Tryz.underlying32 rfl (by kernel_rfl)) rfl ?_
   exact ⟨_, _, er, rq (Kd.R_mono (Kd.R_far (p := ⟨gb372, 2, none⟩) (Kd.R_far (p := ⟨gb372, 1, none⟩) (Kd.R_far (p := ⟨gb372, 0, none⟩) (Kd.R_types HO383.out BK372.out (by decide)) (fun _ hk => hk.2) (.int .i64 0)) (fun _ hk => hk.2) (.slice Ao32 t381.length co32)) (fun _ hk => hk.2) (.slice Ao31 t384.length co31)) (fun _ hk => hk.1.1)), rq (Kd.R_mono (Kd.R_far (p := ⟨gb372, 2, none⟩) (Kd.R_far (p := ⟨gb372, 1, none⟩) (Kd.R_far (p := ⟨gb372, 0, none⟩) (Kd.R_types HO386.out BK372.out (by decide)) (fun _ hk => hk.2) (.int .i64 0)) (fun _ hk => hk.2) (.slice Ao32 t381.length co32)) (fun _ hk => hk.2) (.slice Ao31 t384.length co31)) (fun _ hk => hk.1.1)), hs HB.out⟩
  ·rw [if_neg c10] at H
   obtain ⟨c10b0, c10b1⟩ := bqf c10
   by_cases c34 : t380 = 2
   ·rw [if_pos c34] at H
    obtain ⟨c34b0, c34b1⟩ := bqt c34; clear c34
    obtain ⟨⟨t387, t390⟩, A35, H⟩ := ob H
    try dsimp only at H
    simp only [Option.some.injEq, Prod.mk.injEq] at H
    obtain ⟨rfl, rfl, rfl⟩ := H
    go_enter Tryz.func11, Tryz.ntmps11
    try go_wp2_with (first | (refine bx 3 rfl #[.slice A0_0 l0_0.length c0_0] 36 ?_; intro gb370 hg w36 hbox hb; have BK370 := am (hbox); have GW370 := am (bz hg (hq HB.out)); replace HB := sb HB hb; have GE370 := GW370; clear hb hbox hg) | (refine bx 5 rfl #[.slice A2_0 l2_0.length c2_0, .slice A2_1 l2_1.length c2_1] 30 ?_; intro gb371 hg w37 hbox hb; have BK371 := am (hbox); have GW371 := am (bz hg (hs HB.out)); replace HB := sb HB hb; have GE371 := GW371; have NB370_371 := nl hg BK370; have NB371_370 := ng hg BK370; replace BK370 := bb BK370 hb; clear hb hbox hg) | (refine bx 6 rfl #[.int .i64 0, .slice none 0 0, .slice none 0 0] 32 ?_; intro gb372 hg w38 hbox hb; have BK372 := am (hbox); have GW372 := am (bz hg (hs HB.out)); replace HB := sb HB hb; have GE372 := GW372; have NB370_372 := nl hg BK370; have NB372_370 := ng hg BK370; replace BK370 := bb BK370 hb; have NB371_372 := nl hg BK371; have NB372_371 := ng hg BK371; replace BK371 := bb BK371 hb; clear hb hbox hg))
    replace BK370 := am (Ab7 BK370.out)
    replace BK371 := am (Ab7 BK371.out)
    replace BK372 := am (Ab7 BK372.out)
    replace HB := am (Ab0 HB.out)
    refine Ad5 (n := 14) (S := fun w' => w'.cell? ⟨gb370, 0, none⟩ = some (.slice A0_0 l0_0.length c0_0) ∧ w'.cell? ⟨gb371, 0, none⟩ = some (.slice A2_0 l2_0.length c2_0) ∧ w'.cell? ⟨gb371, 1, none⟩ = some (.slice A2_1 l2_1.length c2_1)) (ds := []) #[false, false, false, false, false, false, false, false, false, false, false, false, false, false] (by kernel_rfl) rfl rfl ⟨(Aa0 BK370.out 0).trans rfl, (Aa0 BK371.out 0).trans rfl, (Aa0 BK371.out 1).trans rfl⟩ (fun hHeld => ?_); refine Ac1 impl_OrientEquation.tab1 impl_OrientEquation.bits1 (fun HT_ HW_ => ?_)
    generalize w38.drew = w39 at BK370 BK371 BK372 HB hHeld ⊢
    refine pu 1 9 rfl rfl HT_ ?_
    refine pu 4 12 rfl rfl HT_ ?_
    refine pu 8 16 rfl rfl HT_ ?_
    refine tk 0 8 rfl rfl HT_ HW_ hHeld ?_
    refine tk 3 11 rfl rfl HT_ HW_ hHeld ?_
    refine tk 5 13 rfl rfl HT_ HW_ hHeld ?_
    refine tk 7 15 rfl rfl HT_ HW_ hHeld ?_
    refine tk 9 17 rfl rfl HT_ HW_ hHeld ?_
    refine on_ 2 (some 10) rfl rfl HT_ (fun K hK => ?_)
    refine gs Tryz.func35 #[.agg #[.slice A0_0 l0_0.length c0_0], .slice A1 l1.length c1] ?_
    refine (impl_OrderFault.calls k _ _ l0_0 _ _ l1 t373 _ (cq (Kd.C_below HR0_0.out HB.out)) HC0_0.out (cq (Kd.C_below HR1.out HB.out)) HC1.out A4.out).mono ?_
    rintro e w40 ⟨rfl, hb⟩
    refine ⟨_, rfl, ?_⟩
    replace BK370 := bb BK370 hb
    replace BK371 := bb BK371 hb
    replace BK372 := bb BK372 hb
    replace HB := sb HB hb
    (try clear hb)
    (try clear hk)
    refine hK.out _ _ ⟨(Aa0 BK370.out 0).trans rfl, (Aa0 BK371.out 0).trans rfl, (Aa0 BK371.out 1).trans rfl⟩ (fun hHeld => ?_)
    clear hK K
    refine nr (some 10) ?_
    refine on_ 6 (some 14) rfl rfl HT_ (fun K hK => ?_)
    refine gs Tryz.func36 #[.agg #[.slice A0_0 l0_0.length c0_0], .slice A2_0 l2_0.length c2_0] ?_
    refine (impl_TermFault.calls k _ _ l0_0 _ _ l2_0 t374 _ (cq (Kd.C_below HR0_0.out HB.out)) HC0_0.out (cq (Kd.C_below HR2_0.out HB.out)) HC2_0.out A5.out).mono ?_
    rintro e w41 ⟨rfl, hb⟩
    refine ⟨_, rfl, ?_⟩
    replace BK370 := bb BK370 hb
    replace BK371 := bb BK371 hb
    replace BK372 := bb BK372 hb
    replace HB := sb HB hb
    (try clear hb)
    (try clear hk)
    refine hK.out _ _ ⟨(Aa0 BK370.out 0).trans rfl, (Aa0 BK371.out 0).trans rfl, (Aa0 BK371.out 1).trans rfl⟩ (fun hHeld => ?_)
    clear hK K
    refine nr (some 14) ?_
    refine on_ 10 (some 18) rfl rfl HT_ (fun K hK => ?_)
    refine gs Tryz.func36 #[.agg #[.slice A0_0 l0_0.length c0_0], .slice A2_1 l2_1.length c2_1] ?_
    refine (impl_TermFault.calls k _ _ l0_0 _ _ l2_1 t375 _ (cq (Kd.C_below HR0_0.out HB.out)) HC0_0.out (cq (Kd.C_below HR2_1.out HB.out)) HC2_1.out A6.out).mono ?_
    rintro e w42 ⟨rfl, hb⟩
    refine ⟨_, rfl, ?_⟩
    replace BK370 := bb BK370 hb
    replace BK371 := bb BK371 hb
    replace BK372 := bb BK372 hb
    replace HB := sb HB hb
    (try clear hb)
    (try clear hk)
    refine hK.out _ _ ⟨(Aa0 BK370.out 0).trans rfl, (Aa0 BK371.out 0).trans rfl, (Aa0 BK371.out 1).trans rfl⟩ (fun hHeld => ?_)
    clear hK K
    refine nr (some 18) ?_
    refine on_ 11 (some 19) rfl rfl HT_ (fun K hK => ?_)
    refine Kd.R_lit_step (Kd.int .i64) _ 2 ?hg (N := 19) ?hd (xs := ([t373, t374, t375] : List Int)) (inner := [.int .i64 t373, .int .i64 t374, .int .i64 t375]) (ok := fun _ => True) (okp := fun _ => True) ?hr ?hp (fun _ hk => hk) trivial (Below.refl _ _) (Nat.le_refl _) (by simp) ?_; (case hd => rfl); (case hg => rfl); (case hr => first | (go_simp; done) | (go_simp; rfl)); (case hp => exact (Af0.one (show Kd.M (Kd.int .i64) _ _ _ t373 [.int .i64 t373] from rfl) (Af0.one (show Kd.M (Kd.int .i64) _ _ _ t374 [.int .i64 t374] from rfl) (Af0.one (show Kd.M (Kd.int .i64) _ _ _ t375 [.int .i64 t375] from rfl) (Af0.none _ _)))))
    intro v377 w43 ho44 hb hg_ hnew_
    clear hg_ hnew_
    (first | rw [← Ny376.out] at ho44 | (simp only [Int.reduceToNat] at ho44; rw [← Ny376.out] at ho44))
    have HO378 := am (Kd.R_lower ho44 (Aa6 (hs HB.out)))
    replace BK370 := bb BK370 hb
    replace BK371 := bb BK371 hb
    replace BK372 := bb BK372 hb
    replace HB := sb HB hb
    clear hb ho44
    obtain ⟨Ao45, co45, eo45⟩ := Kd.R_slice HO378.out
    (first | subst eo45 | (injection eo45 with f1_ f2_ f3_; have f4_ := f1_.symm; have f5_ := f3_.symm; clear f1_ f2_ f3_; subst f4_; subst f5_))
    refine hK.out _ _ ⟨(Aa0 BK370.out 0).trans rfl, (Aa0 BK371.out 0).trans rfl, (Aa0 BK371.out 1).trans rfl⟩ (fun hHeld => ?_)
    clear hK K
    refine nr (some 19) ?_
    refine on_ 12 (some 20) rfl rfl HT_ (fun K hK => ?_)
    refine gs Tryz.func34 #[.slice Ao45 y376.length co45] ?_
    refine (impl_firstCode.calls k _ _ y376 t379 _ (cq (Kd.R_reads' HO378.out).2.2) ((Kd.R_reads' HO378.out).2.1) A7.out).mono ?_
    rintro e w46 ⟨rfl, hb⟩
    refine ⟨_, rfl, ?_⟩
    replace HO378 := rb HO378 hb
    replace BK370 := bb BK370 hb
    replace BK371 := bb BK371 hb
    replace BK372 := bb BK372 hb
    replace HB := sb HB hb
    (try clear hb)
    (try clear hk)
    refine hK.out _ _ ⟨(Aa0 BK370.out 0).trans rfl, (Aa0 BK371.out 0).trans rfl, (Aa0 BK371.out 1).trans rfl⟩ (fun hHeld => ?_)
    clear hK K
    refine nr (some 20) ?_
    refine pu 13 7 rfl rfl HT_ ?_
    refine Ag1 (Ac8 HT_.out (by kernel_rfl)) ?_
    have hnb47 := NB370_371.out
    have hnc47 := NB371_370.out
    have hnb48 := NB370_372.out
    have hnc48 := NB372_370.out
    have hcz49_0 : w46.cell? ⟨gb370, 0, none⟩ = some (.slice A0_0 l0_0.length c0_0) := (Aa0 BK370.out 0).trans rfl
    have hfz49_0 := Aa1 BK370.out 0
    have hnb50 := NB371_372.out
    have hnc50 := NB372_371.out
    have hcz51_0 : w46.cell? ⟨gb371, 0, none⟩ = some (.slice A2_0 l2_0.length c2_0) := (Aa0 BK371.out 0).trans rfl
    have hcz51_1 : w46.cell? ⟨gb371, 1, none⟩ = some (.slice A2_1 l2_1.length c2_1) := (Aa0 BK371.out 1).trans rfl
    have hfz51_0 := Aa1 BK371.out 0
    have hfz51_1 := Aa1 BK371.out 1
    try go_wp2_with (first | (refine gl (some 31) Tryz.func37 rfl #[.agg #[.slice A0_0 l0_0.length c0_0], .slice A1 l1.length c1, .slice A2_0 l2_0.length c2_0, .slice A2_1 l2_1.length c2_1] ?_; refine (impl_compareTerms.calls k _ _ l0_0 _ _ l1 _ _ l2_0 _ _ l2_1 t380 _ (cq (Kd.C_below HR0_0.out HB.out)) HC0_0.out (cq (Kd.C_below HR1.out HB.out)) HC1.out (cq (Kd.C_below HR2_0.out HB.out)) HC2_0.out (cq (Kd.C_below HR2_1.out HB.out)) HC2_1.out A9.out).mono ?_; rintro e w52 ⟨rfl, hb⟩; refine ⟨_, rfl, ?_⟩; replace HO378 := rb HO378 hb; replace BK370 := bb BK370 hb; replace BK371 := bb BK371 hb; replace BK372 := bb BK372 hb; replace HB := sb HB hb; (try clear hb); (try clear hk); have hcz53_0 : w52.cell? ⟨gb371, 0, none⟩ = some (.slice A2_0 l2_0.length c2_0) := (Aa0 BK371.out 0).trans rfl; have hcz53_1 : w52.cell? ⟨gb371, 1, none⟩ = some (.slice A2_1 l2_1.length c2_1) := (Aa0 BK371.out 1).trans rfl; have hfz53_0 := Aa1 BK371.out 0; have hfz53_1 := Aa1 BK371.out 1) | (refine gl (some 44) Tryz.func38 rfl #[.agg #[.slice A2_1 l2_1.length c2_1, .slice A2_0 l2_0.length c2_0]] ?_; refine (impl_ownEquation.calls _ _ l2_1 _ _ l2_0 t387 t390 _ (cq (Kd.C_below HR2_1.out HB.out)) HC2_1.out (cq (Kd.C_below HR2_0.out HB.out)) HC2_0.out A35.out).mono ?_; rintro e w54 ⟨v388, v391, rfl, ho0, ho1, hb⟩; refine ⟨_, rfl, ?_⟩; have HO389 := am (Kd.R_lower (Kd.R_new' ho0 (Kd.R_lt (rq HO378.out))) (Aa6 (hs HB.out))); have HO392 := am (Kd.R_lower (Kd.R_new' ho1 (Kd.R_lt (rq HO378.out))) (Aa6 (hs HB.out))); replace HO378 := am (Kd.R_mono (Kd.R_told (Kd.R_told (Kd.R_old (rq HO378.out) hb) (Kd.R_base ho0)) (Kd.R_base ho1)) (fun _ h_ => h_.1)); replace BK370 := bb BK370 hb; replace BK371 := bb BK371 hb; replace BK372 := bb BK372 hb; replace HB := sb HB hb; (try clear hb); (try clear hk); (try clear ho0); (try clear ho1); obtain ⟨Ao55, co55, rfl⟩ := Kd.R_slice HO392.out; obtain ⟨Ao56, co56, rfl⟩ := Kd.R_slice HO389.out; have hcz57_0 : w54.cell? ⟨gb372, 0, none⟩ = some (.int .i64 0) := (Aa0 BK372.out 0).trans rfl; have hcz57_1 : w54.cell? ⟨gb372, 1, none⟩ = some (.slice none 0 0) := (Aa0 BK372.out 1).trans rfl; have hcz57_2 : w54.cell? ⟨gb372, 2, none⟩ = some (.slice none 0 0) := (Aa0 BK372.out 2).trans rfl; have hfz57_0 := Aa1 BK372.out 0; have hfz57_1 := Aa1 BK372.out 1; have hfz57_2 := Aa1 BK372.out 2))
    refine bodyPost_ret (results_cell_row rfl _ _ gb372 32 #[.int .i64 0, .slice Ao56 t387.length co56, .slice Ao55 t390.length co55] (0, 0) _ rfl (by refine bq ?_; refine Ab4 (cs := #[.int .i64 0, .slice Ao56 t387.length co56, .slice none 0 0]) ?_ 2 _ rfl; refine bq ?_; refine Ab4 (cs := #[.int .i64 0, .slice none 0 0, .slice none 0 0]) ?_ 1 _ rfl; refine bq ?_; refine Ab4 (cs := #[.int .i64 0, .slice none 0 0, .slice none 0 0]) ?_ 0 _ rfl; refine bq ?_; exact BK372.out) Tryz.underlying32 rfl (by kernel_rfl)) rfl ?_
    exact ⟨_, _, er, rq (Kd.R_mono (Kd.R_far (p := ⟨gb372, 2, none⟩) (Kd.R_far (p := ⟨gb372, 1, none⟩) (Kd.R_far (p := ⟨gb372, 0, none⟩) (Kd.R_types HO389.out BK372.out (by decide)) (fun _ hk => hk.2) (.int .i64 0)) (fun _ hk => hk.2) (.slice Ao56 t387.length co56)) (fun _ hk => hk.2) (.slice Ao55 t390.length co55)) (fun _ hk => hk.1.1)), rq (Kd.R_mono (Kd.R_far (p := ⟨gb372, 2, none⟩) (Kd.R_far (p := ⟨gb372, 1, none⟩) (Kd.R_far (p := ⟨gb372, 0, none⟩) (Kd.R_types HO392.out BK372.out (by decide)) (fun _ hk => hk.2) (.int .i64 0)) (fun _ hk => hk.2) (.slice Ao56 t387.length co56)) (fun _ hk => hk.2) (.slice Ao55 t390.length co55)) (fun _ hk => hk.1.1)), hs HB.out⟩
   ·rw [if_neg c34] at H
    obtain ⟨c34b0, c34b1⟩ := bqf c34
    simp only [Option.some.injEq, Prod.mk.injEq] at H
    obtain ⟨rfl, rfl, rfl⟩ := H
    go_enter Tryz.func11, Tryz.ntmps11
    try go_wp2_with (first | (refine bx 3 rfl #[.slice A0_0 l0_0.length c0_0] 36 ?_; intro gb370 hg w58 hbox hb; have BK370 := am (hbox); have GW370 := am (bz hg (hq HB.out)); replace HB := sb HB hb; have GE370 := GW370; clear hb hbox hg) | (refine bx 5 rfl #[.slice A2_0 l2_0.length c2_0, .slice A2_1 l2_1.length c2_1] 30 ?_; intro gb371 hg w59 hbox hb; have BK371 := am (hbox); have GW371 := am (bz hg (hs HB.out)); replace HB := sb HB hb; have GE371 := GW371; have NB370_371 := nl hg BK370; have NB371_370 := ng hg BK370; replace BK370 := bb BK370 hb; clear hb hbox hg) | (refine bx 6 rfl #[.int .i64 0, .slice none 0 0, .slice none 0 0] 32 ?_; intro gb372 hg w60 hbox hb; have BK372 := am (hbox); have GW372 := am (bz hg (hs HB.out)); replace HB := sb HB hb; have GE372 := GW372; have NB370_372 := nl hg BK370; have NB372_370 := ng hg BK370; replace BK370 := bb BK370 hb; have NB371_372 := nl hg BK371; have NB372_371 := ng hg BK371; replace BK371 := bb BK371 hb; clear hb hbox hg))
    replace BK370 := am (Ab7 BK370.out)
    replace BK371 := am (Ab7 BK371.out)
    replace BK372 := am (Ab7 BK372.out)
    replace HB := am (Ab0 HB.out)
    refine Ad5 (n := 14) (S := fun w' => w'.cell? ⟨gb370, 0, none⟩ = some (.slice A0_0 l0_0.length c0_0) ∧ w'.cell? ⟨gb371, 0, none⟩ = some (.slice A2_0 l2_0.length c2_0) ∧ w'.cell? ⟨gb371, 1, none⟩ = some (.slice A2_1 l2_1.length c2_1)) (ds := []) #[false, false, false, false, false, false, false, false, false, false, false, false, false, false] (by kernel_rfl) rfl rfl ⟨(Aa0 BK370.out 0).trans rfl, (Aa0 BK371.out 0).trans rfl, (Aa0 BK371.out 1).trans rfl⟩ (fun hHeld => ?_); refine Ac1 impl_OrientEquation.tab1 impl_OrientEquation.bits1 (fun HT_ HW_ => ?_)
    generalize w60.drew = w61 at BK370 BK371 BK372 HB hHeld ⊢
    refine pu 1 9 rfl rfl HT_ ?_
    refine pu 4 12 rfl rfl HT_ ?_
    refine pu 8 16 rfl rfl HT_ ?_
    refine tk 0 8 rfl rfl HT_ HW_ hHeld ?_
    refine tk 3 11 rfl rfl HT_ HW_ hHeld ?_
    refine tk 5 13 rfl rfl HT_ HW_ hHeld ?_
    refine tk 7 15 rfl rfl HT_ HW_ hHeld ?_
    refine tk 9 17 rfl rfl HT_ HW_ hHeld ?_
    refine on_ 2 (some 10) rfl rfl HT_ (fun K hK => ?_)
    refine gs Tryz.func35 #[.agg #[.slice A0_0 l0_0.length c0_0], .slice A1 l1.length c1] ?_
    refine (impl_OrderFault.calls k _ _ l0_0 _ _ l1 t373 _ (cq (Kd.C_below HR0_0.out HB.out)) HC0_0.out (cq (Kd.C_below HR1.out HB.out)) HC1.out A4.out).mono ?_
    rintro e w62 ⟨rfl, hb⟩
    refine ⟨_, rfl, ?_⟩
    replace BK370 := bb BK370 hb
    replace BK371 := bb BK371 hb
    replace BK372 := bb BK372 hb
    replace HB := sb HB hb
    (try clear hb)
    (try clear hk)
    refine hK.out _ _ ⟨(Aa0 BK370.out 0).trans rfl, (Aa0 BK371.out 0).trans rfl, (Aa0 BK371.out 1).trans rfl⟩ (fun hHeld => ?_)
    clear hK K
    refine nr (some 10) ?_
    refine on_ 6 (some 14) rfl rfl HT_ (fun K hK => ?_)
    refine gs Tryz.func36 #[.agg #[.slice A0_0 l0_0.length c0_0], .slice A2_0 l2_0.length c2_0] ?_
    refine (impl_TermFault.calls k _ _ l0_0 _ _ l2_0 t374 _ (cq (Kd.C_below HR0_0.out HB.out)) HC0_0.out (cq (Kd.C_below HR2_0.out HB.out)) HC2_0.out A5.out).mono ?_
    rintro e w63 ⟨rfl, hb⟩
    refine ⟨_, rfl, ?_⟩
    replace BK370 := bb BK370 hb
    replace BK371 := bb BK371 hb
    replace BK372 := bb BK372 hb
    replace HB := sb HB hb
    (try clear hb)
    (try clear hk)
    refine hK.out _ _ ⟨(Aa0 BK370.out 0).trans rfl, (Aa0 BK371.out 0).trans rfl, (Aa0 BK371.out 1).trans rfl⟩ (fun hHeld => ?_)
    clear hK K
    refine nr (some 14) ?_
    refine on_ 10 (some 18) rfl rfl HT_ (fun K hK => ?_)
    refine gs Tryz.func36 #[.agg #[.slice A0_0 l0_0.length c0_0], .slice A2_1 l2_1.length c2_1] ?_
    refine (impl_TermFault.calls k _ _ l0_0 _ _ l2_1 t375 _ (cq (Kd.C_below HR0_0.out HB.out)) HC0_0.out (cq (Kd.C_below HR2_1.out HB.out)) HC2_1.out A6.out).mono ?_
    rintro e w64 ⟨rfl, hb⟩
    refine ⟨_, rfl, ?_⟩
    replace BK370 := bb BK370 hb
    replace BK371 := bb BK371 hb
    replace BK372 := bb BK372 hb
    replace HB := sb HB hb
    (try clear hb)
    (try clear hk)
    refine hK.out _ _ ⟨(Aa0 BK370.out 0).trans rfl, (Aa0 BK371.out 0).trans rfl, (Aa0 BK371.out 1).trans rfl⟩ (fun hHeld => ?_)
    clear hK K
    refine nr (some 18) ?_
    refine on_ 11 (some 19) rfl rfl HT_ (fun K hK => ?_)
    refine Kd.R_lit_step (Kd.int .i64) _ 2 ?hg (N := 19) ?hd (xs := ([t373, t374, t375] : List Int)) (inner := [.int .i64 t373, .int .i64 t374, .int .i64 t375]) (ok := fun _ => True) (okp := fun _ => True) ?hr ?hp (fun _ hk => hk) trivial (Below.refl _ _) (Nat.le_refl _) (by simp) ?_; (case hd => rfl); (case hg => rfl); (case hr => first | (go_simp; done) | (go_simp; rfl)); (case hp => exact (Af0.one (show Kd.M (Kd.int .i64) _ _ _ t373 [.int .i64 t373] from rfl) (Af0.one (show Kd.M (Kd.int .i64) _ _ _ t374 [.int .i64 t374] from rfl) (Af0.one (show Kd.M (Kd.int .i64) _ _ _ t375 [.int .i64 t375] from rfl) (Af0.none _ _)))))
    intro v377 w65 ho66 hb hg_ hnew_
    clear hg_ hnew_
    (first | rw [← Ny376.out] at ho66 | (simp only [Int.reduceToNat] at ho66; rw [← Ny376.out] at ho66))
    have HO378 := am (Kd.R_lower ho66 (Aa6 (hs HB.out)))
    replace BK370 := bb BK370 hb
    replace BK371 := bb BK371 hb
    replace BK372 := bb BK372 hb
    replace HB := sb HB hb
    clear hb ho66
    obtain ⟨Ao67, co67, eo67⟩ := Kd.R_slice HO378.out
    (first | subst eo67 | (injection eo67 with f1_ f2_ f3_; have f4_ := f1_.symm; have f5_ := f3_.symm; clear f1_ f2_ f3_; subst f4_; subst f5_))
    refine hK.out _ _ ⟨(Aa0 BK370.out 0).trans rfl, (Aa0 BK371.out 0).trans rfl, (Aa0 BK371.out 1).trans rfl⟩ (fun hHeld => ?_)
    clear hK K
    refine nr (some 19) ?_
    refine on_ 12 (some 20) rfl rfl HT_ (fun K hK => ?_)
    refine gs Tryz.func34 #[.slice Ao67 y376.length co67] ?_
    refine (impl_firstCode.calls k _ _ y376 t379 _ (cq (Kd.R_reads' HO378.out).2.2) ((Kd.R_reads' HO378.out).2.1) A7.out).mono ?_
    rintro e w68 ⟨rfl, hb⟩
    refine ⟨_, rfl, ?_⟩
    replace HO378 := rb HO378 hb
    replace BK370 := bb BK370 hb
    replace BK371 := bb BK371 hb
    replace BK372 := bb BK372 hb
    replace HB := sb HB hb
    (try clear hb)
    (try clear hk)
    refine hK.out _ _ ⟨(Aa0 BK370.out 0).trans rfl, (Aa0 BK371.out 0).trans rfl, (Aa0 BK371.out 1).trans rfl⟩ (fun hHeld => ?_)
    clear hK K
    refine nr (some 20) ?_
    refine pu 13 7 rfl rfl HT_ ?_
    refine Ag1 (Ac8 HT_.out (by kernel_rfl)) ?_
    have hnb69 := NB370_371.out
    have hnc69 := NB371_370.out
    have hnb70 := NB370_372.out
    have hnc70 := NB372_370.out
    have hcz71_0 : w68.cell? ⟨gb370, 0, none⟩ = some (.slice A0_0 l0_0.length c0_0) := (Aa0 BK370.out 0).trans rfl
    have hfz71_0 := Aa1 BK370.out 0
    have hnb72 := NB371_372.out
    have hnc72 := NB372_371.out
    have hcz73_0 : w68.cell? ⟨gb371, 0, none⟩ = some (.slice A2_0 l2_0.length c2_0) := (Aa0 BK371.out 0).trans rfl
    have hcz73_1 : w68.cell? ⟨gb371, 1, none⟩ = some (.slice A2_1 l2_1.length c2_1) := (Aa0 BK371.out 1).trans rfl
    have hfz73_0 := Aa1 BK371.out 0
    have hfz73_1 := Aa1 BK371.out 1
    try go_wp2_with (first | (refine gl (some 31) Tryz.func37 rfl #[.agg #[.slice A0_0 l0_0.length c0_0], .slice A1 l1.length c1, .slice A2_0 l2_0.length c2_0, .slice A2_1 l2_1.length c2_1] ?_; refine (impl_compareTerms.calls k _ _ l0_0 _ _ l1 _ _ l2_0 _ _ l2_1 t380 _ (cq (Kd.C_below HR0_0.out HB.out)) HC0_0.out (cq (Kd.C_below HR1.out HB.out)) HC1.out (cq (Kd.C_below HR2_0.out HB.out)) HC2_0.out (cq (Kd.C_below HR2_1.out HB.out)) HC2_1.out A9.out).mono ?_; rintro e w74 ⟨rfl, hb⟩; refine ⟨_, rfl, ?_⟩; replace HO378 := rb HO378 hb; replace BK370 := bb BK370 hb; replace BK371 := bb BK371 hb; replace BK372 := bb BK372 hb; replace HB := sb HB hb; (try clear hb); (try clear hk); have hcz75_0 : w74.cell? ⟨gb372, 0, none⟩ = some (.int .i64 0) := (Aa0 BK372.out 0).trans rfl; have hcz75_1 : w74.cell? ⟨gb372, 1, none⟩ = some (.slice none 0 0) := (Aa0 BK372.out 1).trans rfl; have hcz75_2 : w74.cell? ⟨gb372, 2, none⟩ = some (.slice none 0 0) := (Aa0 BK372.out 2).trans rfl; have hfz75_0 := Aa1 BK372.out 0; have hfz75_1 := Aa1 BK372.out 1; have hfz75_2 := Aa1 BK372.out 2))
    refine bodyPost_ret (results_cell_row rfl _ _ gb372 32 #[.int .i64 10, .slice none 0 0, .slice none 0 0] (0, 0) _ rfl (by refine bq ?_; refine Ab4 (cs := #[.int .i64 10, .slice none 0 0, .slice none 0 0]) ?_ 2 _ rfl; refine bq ?_; refine Ab4 (cs := #[.int .i64 10, .slice none 0 0, .slice none 0 0]) ?_ 1 _ rfl; refine bq ?_; refine Ab4 (cs := #[.int .i64 0, .slice none 0 0, .slice none 0 0]) ?_ 0 _ rfl; refine bq ?_; exact BK372.out) Tryz.underlying32 rfl (by kernel_rfl)) rfl ?_
    exact ⟨_, _, er, by first | exact Kd.R_nil _ _ _ _ _ | exact Kd.N_nil _ _ _ _ _ | exact Kd.V_nil _ _ _ _ _ | exact Kd.Q_nil _ _ _ _ _ | exact Kd.S_nil _ _ _ _ _, by first | exact Kd.R_nil _ _ _ _ _ | exact Kd.N_nil _ _ _ _ _ | exact Kd.V_nil _ _ _ _ _ | exact Kd.Q_nil _ _ _ _ _ | exact Kd.S_nil _ _ _ _ _, hs HB.out⟩
 ·rw [if_neg c8] at H
  obtain ⟨c8b0, c8b1⟩ := bqf c8
  simp only [Option.some.injEq, Prod.mk.injEq] at H
  obtain ⟨rfl, rfl, rfl⟩ := H
  go_enter Tryz.func11, Tryz.ntmps11
  try go_wp2_with (first | (refine bx 3 rfl #[.slice A0_0 l0_0.length c0_0] 36 ?_; intro gb370 hg w76 hbox hb; have BK370 := am (hbox); have GW370 := am (bz hg (hq HB.out)); replace HB := sb HB hb; have GE370 := GW370; clear hb hbox hg) | (refine bx 5 rfl #[.slice A2_0 l2_0.length c2_0, .slice A2_1 l2_1.length c2_1] 30 ?_; intro gb371 hg w77 hbox hb; have BK371 := am (hbox); have GW371 := am (bz hg (hs HB.out)); replace HB := sb HB hb; have GE371 := GW371; have NB370_371 := nl hg BK370; have NB371_370 := ng hg BK370; replace BK370 := bb BK370 hb; clear hb hbox hg) | (refine bx 6 rfl #[.int .i64 0, .slice none 0 0, .slice none 0 0] 32 ?_; intro gb372 hg w78 hbox hb; have BK372 := am (hbox); have GW372 := am (bz hg (hs HB.out)); replace HB := sb HB hb; have GE372 := GW372; have NB370_372 := nl hg BK370; have NB372_370 := ng hg BK370; replace BK370 := bb BK370 hb; have NB371_372 := nl hg BK371; have NB372_371 := ng hg BK371; replace BK371 := bb BK371 hb; clear hb hbox hg))
  replace BK370 := am (Ab7 BK370.out)
  replace BK371 := am (Ab7 BK371.out)
  replace BK372 := am (Ab7 BK372.out)
  replace HB := am (Ab0 HB.out)
  refine Ad5 (n := 14) (S := fun w' => w'.cell? ⟨gb370, 0, none⟩ = some (.slice A0_0 l0_0.length c0_0) ∧ w'.cell? ⟨gb371, 0, none⟩ = some (.slice A2_0 l2_0.length c2_0) ∧ w'.cell? ⟨gb371, 1, none⟩ = some (.slice A2_1 l2_1.length c2_1)) (ds := []) #[false, false, false, false, false, false, false, false, false, false, false, false, false, false] (by kernel_rfl) rfl rfl ⟨(Aa0 BK370.out 0).trans rfl, (Aa0 BK371.out 0).trans rfl, (Aa0 BK371.out 1).trans rfl⟩ (fun hHeld => ?_); refine Ac1 impl_OrientEquation.tab1 impl_OrientEquation.bits1 (fun HT_ HW_ => ?_)
  generalize w78.drew = w79 at BK370 BK371 BK372 HB hHeld ⊢
  refine pu 1 9 rfl rfl HT_ ?_
  refine pu 4 12 rfl rfl HT_ ?_
  refine pu 8 16 rfl rfl HT_ ?_
  refine tk 0 8 rfl rfl HT_ HW_ hHeld ?_
  refine tk 3 11 rfl rfl HT_ HW_ hHeld ?_
  refine tk 5 13 rfl rfl HT_ HW_ hHeld ?_
  refine tk 7 15 rfl rfl HT_ HW_ hHeld ?_
  refine tk 9 17 rfl rfl HT_ HW_ hHeld ?_
  refine on_ 2 (some 10) rfl rfl HT_ (fun K hK => ?_)
  refine gs Tryz.func35 #[.agg #[.slice A0_0 l0_0.length c0_0], .slice A1 l1.length c1] ?_
  refine (impl_OrderFault.calls k _ _ l0_0 _ _ l1 t373 _ (cq (Kd.C_below HR0_0.out HB.out)) HC0_0.out (cq (Kd.C_below HR1.out HB.out)) HC1.out A4.out).mono ?_
  rintro e w80 ⟨rfl, hb⟩
  refine ⟨_, rfl, ?_⟩
  replace BK370 := bb BK370 hb
  replace BK371 := bb BK371 hb
  replace BK372 := bb BK372 hb
  replace HB := sb HB hb
  (try clear hb)
  (try clear hk)
  refine hK.out _ _ ⟨(Aa0 BK370.out 0).trans rfl, (Aa0 BK371.out 0).trans rfl, (Aa0 BK371.out 1).trans rfl⟩ (fun hHeld => ?_)
  clear hK K
  refine nr (some 10) ?_
  refine on_ 6 (some 14) rfl rfl HT_ (fun K hK => ?_)
  refine gs Tryz.func36 #[.agg #[.slice A0_0 l0_0.length c0_0], .slice A2_0 l2_0.length c2_0] ?_
  refine (impl_TermFault.calls k _ _ l0_0 _ _ l2_0 t374 _ (cq (Kd.C_below HR0_0.out HB.out)) HC0_0.out (cq (Kd.C_below HR2_0.out HB.out)) HC2_0.out A5.out).mono ?_
  rintro e w81 ⟨rfl, hb⟩
  refine ⟨_, rfl, ?_⟩
  replace BK370 := bb BK370 hb
  replace BK371 := bb BK371 hb
  replace BK372 := bb BK372 hb
  replace HB := sb HB hb
  (try clear hb)
  (try clear hk)
  refine hK.out _ _ ⟨(Aa0 BK370.out 0).trans rfl, (Aa0 BK371.out 0).trans rfl, (Aa0 BK371.out 1).trans rfl⟩ (fun hHeld => ?_)
  clear hK K
  refine nr (some 14) ?_
  refine on_ 10 (some 18) rfl rfl HT_ (fun K hK => ?_)
  refine gs Tryz.func36 #[.agg #[.slice A0_0 l0_0.length c0_0], .slice A2_1 l2_1.length c2_1] ?_
  refine (impl_TermFault.calls k _ _ l0_0 _ _ l2_1 t375 _ (cq (Kd.C_below HR0_0.out HB.out)) HC0_0.out (cq (Kd.C_below HR2_1.out HB.out)) HC2_1.out A6.out).mono ?_
  rintro e w82 ⟨rfl, hb⟩
  refine ⟨_, rfl, ?_⟩
  replace BK370 := bb BK370 hb
  replace BK371 := bb BK371 hb
  replace BK372 := bb BK372 hb
  replace HB := sb HB hb
  (try clear hb)
  (try clear hk)
  refine hK.out _ _ ⟨(Aa0 BK370.out 0).trans rfl, (Aa0 BK371.out 0).trans rfl, (Aa0 BK371.out 1).trans rfl⟩ (fun hHeld => ?_)
  clear hK K
  refine nr (some 18) ?_
  refine on_ 11 (some 19) rfl rfl HT_ (fun K hK => ?_)
  refine Kd.R_lit_step (Kd.int .i64) _ 2 ?hg (N := 19) ?hd (xs := ([t373, t374, t375] : List Int)) (inner := [.int .i64 t373, .int .i64 t374, .int .i64 t375]) (ok := fun _ => True) (okp := fun _ => True) ?hr ?hp (fun _ hk => hk) trivial (Below.refl _ _) (Nat.le_refl _) (by simp) ?_; (case hd => rfl); (case hg => rfl); (case hr => first | (go_simp; done) | (go_simp; rfl)); (case hp => exact (Af0.one (show Kd.M (Kd.int .i64) _ _ _ t373 [.int .i64 t373] from rfl) (Af0.one (show Kd.M (Kd.int .i64) _ _ _ t374 [.int .i64 t374] from rfl) (Af0.one (show Kd.M (Kd.int .i64) _ _ _ t375 [.int .i64 t375] from rfl) (Af0.none _ _)))))
  intro v377 w83 ho84 hb hg_ hnew_
  clear hg_ hnew_
  (first | rw [← Ny376.out] at ho84 | (simp only [Int.reduceToNat] at ho84; rw [← Ny376.out] at ho84))
  have HO378 := am (Kd.R_lower ho84 (Aa6 (hs HB.out)))
  replace BK370 := bb BK370 hb
  replace BK371 := bb BK371 hb
  replace BK372 := bb BK372 hb
  replace HB := sb HB hb
  clear hb ho84
  obtain ⟨Ao85, co85, eo85⟩ := Kd.R_slice HO378.out
  (first | subst eo85 | (injection eo85 with f1_ f2_ f3_; have f4_ := f1_.symm; have f5_ := f3_.symm; clear f1_ f2_ f3_; subst f4_; subst f5_))
  refine hK.out _ _ ⟨(Aa0 BK370.out 0).trans rfl, (Aa0 BK371.out 0).trans rfl, (Aa0 BK371.out 1).trans rfl⟩ (fun hHeld => ?_)
  clear hK K
  refine nr (some 19) ?_
  refine on_ 12 (some 20) rfl rfl HT_ (fun K hK => ?_)
  refine gs Tryz.func34 #[.slice Ao85 y376.length co85] ?_
  refine (impl_firstCode.calls k _ _ y376 t379 _ (cq (Kd.R_reads' HO378.out).2.2) ((Kd.R_reads' HO378.out).2.1) A7.out).mono ?_
  rintro e w86 ⟨rfl, hb⟩
  refine ⟨_, rfl, ?_⟩
  replace HO378 := rb HO378 hb
  replace BK370 := bb BK370 hb
  replace BK371 := bb BK371 hb
  replace BK372 := bb BK372 hb
  replace HB := sb HB hb
  (try clear hb)
  (try clear hk)
  refine hK.out _ _ ⟨(Aa0 BK370.out 0).trans rfl, (Aa0 BK371.out 0).trans rfl, (Aa0 BK371.out 1).trans rfl⟩ (fun hHeld => ?_)
  clear hK K
  refine nr (some 20) ?_
  refine pu 13 7 rfl rfl HT_ ?_
  refine Ag1 (Ac8 HT_.out (by kernel_rfl)) ?_
  have hnb87 := NB372_370.out
  have hnc87 := NB370_372.out
  have hnb88 := NB372_371.out
  have hnc88 := NB371_372.out
  have hcz89_0 : w86.cell? ⟨gb372, 0, none⟩ = some (.int .i64 0) := (Aa0 BK372.out 0).trans rfl
  have hcz89_1 : w86.cell? ⟨gb372, 1, none⟩ = some (.slice none 0 0) := (Aa0 BK372.out 1).trans rfl
  have hcz89_2 : w86.cell? ⟨gb372, 2, none⟩ = some (.slice none 0 0) := (Aa0 BK372.out 2).trans rfl
  have hfz89_0 := Aa1 BK372.out 0
  have hfz89_1 := Aa1 BK372.out 1
  have hfz89_2 := Aa1 BK372.out 2
  try go_wp2
  refine bodyPost_ret (results_cell_row rfl _ _ gb372 32 #[.int .i64 t379, .slice none 0 0, .slice none 0 0] (0, 0) _ rfl (by refine bq ?_; refine Ab4 (cs := #[.int .i64 t379, .slice none 0 0, .slice none 0 0]) ?_ 2 _ rfl; refine bq ?_; refine Ab4 (cs := #[.int .i64 t379, .slice none 0 0, .slice none 0 0]) ?_ 1 _ rfl; refine bq ?_; refine Ab4 (cs := #[.int .i64 0, .slice none 0 0, .slice none 0 0]) ?_ 0 _ rfl; refine bq ?_; exact BK372.out) Tryz.underlying32 rfl (by kernel_rfl)) rfl ?_
  exact ⟨_, _, er, by first | exact Kd.R_nil _ _ _ _ _ | exact Kd.N_nil _ _ _ _ _ | exact Kd.V_nil _ _ _ _ _ | exact Kd.Q_nil _ _ _ _ _ | exact Kd.S_nil _ _ _ _ _, by first | exact Kd.R_nil _ _ _ _ _ | exact Kd.N_nil _ _ _ _ _ | exact Kd.V_nil _ _ _ _ _ | exact Kd.Q_nil _ _ _ _ _ | exact Kd.S_nil _ _ _ _ _, hs HB.out⟩
end Go.Proofs.YtgichahebemmiaaGreatDoor.P
