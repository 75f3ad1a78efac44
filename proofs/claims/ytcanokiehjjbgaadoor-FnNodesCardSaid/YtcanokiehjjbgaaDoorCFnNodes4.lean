/- A part of the proof of the law FnNodes. -/
import Derived.Laws.StructEq
import Derived.Test.YtcanokiehjjbgaaDoorCFnNodes0
import Derived.Test.YtcanokiehjjbgaaDoorCFnNodes1
import Derived.Test.YtcanokiehjjbgaaDoorCFnNodes2
import Derived.Test.YtcanokiehjjbgaaDoorCFnNodes3
import Derived.Test.YtcanokiehjjbgaaDoorCFnNodes15
namespace Go.Proofs.YtcanokiehjjbgaaDoor.P
open Go.RowKit Go.Proofs.YtcanokiehjjbgaaDoorW.PrintWords Go.Proofs.YtcanokiehjjbgaaDoorW.PrintLast Go.Proofs.YtcanokiehjjbgaaDoorW.PrintMore
attribute [local go_sem] max2_int min2_int max_two min_two max_three min_three max_four min_four   -- for this text's walks alone
set_option linter.unusedVariables false
set_option linter.unusedSimpArgs false
mutual
def spec_l2Bent.l0 : Nat → Int → Int → List Int → Int → List (S110) → Option ((List (S110)) × Int)
 | 0, _, _, _, _, _ => none
 | k + 1, x4, x5, x1000, x1001, x139000 => if x5 < x4 then (if 0 ≤ x5 then (if x5 < (x139000.length : Int) then (spec_l2Bent.l0 k x4 (wrap64 (x5 + 1)) x1000 x1001 (x139000.set (x5 : Int).toNat (⟨(rd_T110 x139000 x5).f0, 1⟩ : S110))) else (none)) else (none)) else (some (x139000, x1001))
def spec_l2Bent.l1 : Nat → List Int → Int → List (S110) → Option ((List (S110)) × Int)
 | 0, _, _, _ => none
 | k + 1, x1000, x1001, x139000 => if (x139000.length : Int) < 7 then (if x139000.length < 5864062014805 then (spec_l2Bent.l1 k x1000 x1001 (x139000 ++ [(⟨(⟨#[122]⟩ : ByteArray), 0⟩ : S110)])) else (none)) else (some (x139000, x1001))
end
def spec_l2Bent.f (k : Nat) (s0_0 : List Int) (s0_1 : Int) : Option ((List (S110)) × Int) := (spec_l2Sig.f k s0_0 s0_1).bind fun bt134 => ((spec_l1Chance.f s0_0 bt134.2 9).bind fun bt139 => (if bt139.1 = true then ((spec_l1Next.f s0_0 bt139.2 7).bind fun bt141 => (if bt141.1 = 0 then (some (([] : List (S110)), bt141.2)) else (if bt141.1 = 1 then (if 0 ≤ (wrap64 ((bt134.1.length : Int) - 1)) then (if (wrap64 ((bt134.1.length : Int) - 1)) < (bt134.1.length : Int) then (some ((bt134.1.set ((wrap64 ((bt134.1.length : Int) - 1)) : Int).toNat (⟨(⟨#[97, 98, 99, 100]⟩ : ByteArray), (rd_T110 bt134.1 (wrap64 ((bt134.1.length : Int) - 1))).f1⟩ : S110)), bt141.2)) else (none)) else (none)) else (if bt141.1 = 2 then ((spec_l1Next.f s0_0 bt141.2 (bt134.1.length : Int)).bind fun bt144 => (if 0 ≤ bt144.1 then (if bt144.1 < (bt134.1.length : Int) then (some ((bt134.1.set (bt144.1 : Int).toNat (⟨(⟨#[97, 66]⟩ : ByteArray), (rd_T110 bt134.1 bt144.1).f1⟩ : S110)), bt144.2)) else (none)) else (none))) else (if bt141.1 = 3 then ((spec_l1Next.f s0_0 bt141.2 (bt134.1.length : Int)).bind fun bt147 => ((spec_l1Pick.f s0_0 bt147.2 (([3, (-1)] : List Int))).bind fun bt152 => (if 0 ≤ bt147.1 then (if bt147.1 < (bt134.1.length : Int) then (some ((bt134.1.set (bt147.1 : Int).toNat (⟨(rd_T110 bt134.1 bt147.1).f0, bt152.1⟩ : S110)), bt152.2)) else (none)) else (none)))) else (if bt141.1 = 4 then (if 0 < (bt134.1.length : Int) then (if bt134.1.length < 5864062014805 then (some ((bt134.1 ++ [(⟨(rd_T110 bt134.1 0).f0, (rd_T110 bt134.1 0).f1⟩ : S110)]), bt141.2)) else (none)) else (none)) else (if bt141.1 = 5 then (spec_l2Bent.l0 k (bt134.1.length : Int) 0 s0_0 bt141.2 bt134.1) else (spec_l2Bent.l1 k s0_0 bt141.2 bt134.1)))))))) else (some (bt134.1, bt139.2))))
def spec_l2Bent.T13 : Bool × List (List Nat × List Nat) := (true, [([], []), ([0], [0]), ([], []), ([], []), ([2, 3], [2, 3]), ([1, 4, 0, 1, 2, 3, 4], [1, 4]), ([5, 0, 1, 2, 3, 4], [5]), ([6, 4, 0, 1, 2, 3, 4], [6])])
def spec_l2Bent.B13 : List Nat := [0, 1, 0, 0, 12, 31, 63, 127]
theorem spec_l2Bent.tab13 : rtab .any (opsOf Tryd.f107 13) = spec_l2Bent.T13 := by kernel_rfl
theorem spec_l2Bent.bits13 : waitsOk spec_l2Bent.T13.2 spec_l2Bent.B13 = true := by kernel_rfl
def spec_l2Bent.T15 : Bool × List (List Nat × List Nat) := (true, [([], []), ([0], [0]), ([], []), ([], []), ([2, 3], [2, 3]), ([], []), ([], []), ([5, 6, 4], [5, 6]), ([1, 4, 0, 1, 2, 3, 4, 5, 6, 7], [1, 4]), ([8, 0, 1, 2, 3, 4, 5, 6, 7], [8]), ([9, 7, 7, 0, 1, 2, 3, 4, 5, 6, 7], [7, 9])])
def spec_l2Bent.B15 : List Nat := [0, 1, 0, 0, 12, 0, 0, 124, 255, 511, 1023]
theorem spec_l2Bent.tab15 : rtab .any (opsOf Tryd.f107 15) = spec_l2Bent.T15 := by kernel_rfl
theorem spec_l2Bent.bits15 : waitsOk spec_l2Bent.T15.2 spec_l2Bent.B15 = true := by kernel_rfl
def spec_l2Bent.T17 : Bool × List (List Nat × List Nat) := (true, [([], []), ([0], [0]), ([], []), ([2], [2]), ([3], [3]), ([4], [4]), ([5], [5]), ([1, 6], [1, 6]), ([0, 1, 2, 3, 4, 5, 6, 7], []), ([8, 7, 7, 0, 1, 2, 3, 4, 5, 6, 7], [7, 8])])
def spec_l2Bent.B17 : List Nat := [0, 1, 0, 4, 12, 28, 60, 127, 255, 511]
theorem spec_l2Bent.tab17 : rtab .any (opsOf Tryd.f107 17) = spec_l2Bent.T17 := by kernel_rfl
theorem spec_l2Bent.bits17 : waitsOk spec_l2Bent.T17.2 spec_l2Bent.B17 = true := by kernel_rfl
set_option maxHeartbeats 8000000 in
set_option maxRecDepth 100000 in
theorem spec_l2Bent.calls (k : Nat) (g : Nat) (s0_0 : List Int) (s0_1 : Int) (r1 : List (S110)) (r2 : Int) (w0 w : World) (hI : IsS145 w0 w g s0_0 s0_1) (hB : Below w0.heap.size w0 w) (h : spec_l2Bent.f k s0_0 s0_1 = some (r1, r2)) :
  Calls Tryd.prog 107 #[.pointer (some ⟨g, 0, none⟩)] w fun e w' => ∃ v0_ : Value, e = .returned (.agg #[v0_]) ∧ Kd.R k110 110 w' w.heap.size (fun _ => True) v0_ r1 ∧ IsS145 w0 w' g s0_0 r2 ∧ Below w0.heap.size w0 w' ∧ KeepBut w w' g none := by
 have hu26 := Tryd.underlying26
 have hu110 := Tryd.underlying110
 have HI0 := am hI
 have HK := am (KeepBut.refl w g none)
 have HL := am hB.size
 clear hI
 have HW0 := am hB.size
 have HB := am hB
 clear hB
 have H : ((spec_l2Sig.f k s0_0 s0_1).bind fun bt134 => ((spec_l1Chance.f s0_0 bt134.2 9).bind fun bt139 => (if bt139.1 = true then ((spec_l1Next.f s0_0 bt139.2 7).bind fun bt141 => (if bt141.1 = 0 then (some (([] : List (S110)), bt141.2)) else (if bt141.1 = 1 then (if 0 ≤ (wrap64 ((bt134.1.length : Int) - 1)) then (if (wrap64 ((bt134.1.length : Int) - 1)) < (bt134.1.length : Int) then (some ((bt134.1.set ((wrap64 ((bt134.1.length : Int) - 1)) : Int).toNat (⟨(⟨#[97, 98, 99, 100]⟩ : ByteArray), (rd_T110 bt134.1 (wrap64 ((bt134.1.length : Int) - 1))).f1⟩ : S110)), bt141.2)) else (none)) else (none)) else (if bt141.1 = 2 then ((spec_l1Next.f s0_0 bt141.2 (bt134.1.length : Int)).bind fun bt144 => (if 0 ≤ bt144.1 then (if bt144.1 < (bt134.1.length : Int) then (some ((bt134.1.set (bt144.1 : Int).toNat (⟨(⟨#[97, 66]⟩ : ByteArray), (rd_T110 bt134.1 bt144.1).f1⟩ : S110)), bt144.2)) else (none)) else (none))) else (if bt141.1 = 3 then ((spec_l1Next.f s0_0 bt141.2 (bt134.1.length : Int)).bind fun bt147 => ((spec_l1Pick.f s0_0 bt147.2 (([3, (-1)] : List Int))).bind fun bt152 => (if 0 ≤ bt147.1 then (if bt147.1 < (bt134.1.length : Int) then (some ((bt134.1.set (bt147.1 : Int).toNat (⟨(rd_T110 bt134.1 bt147.1).f0, bt152.1⟩ : S110)), bt152.2)) else (none)) else (none)))) else (if bt141.1 = 4 then (if 0 < (bt134.1.length : Int) then (if bt134.1.length < 5864062014805 then (some ((bt134.1 ++ [(⟨(rd_T110 bt134.1 0).f0, (rd_T110 bt134.1 0).f1⟩ : S110)]), bt141.2)) else (none)) else (none)) else (if bt141.1 = 5 then (spec_l2Bent.l0 k (bt134.1.length : Int) 0 s0_0 bt141.2 bt134.1) else (spec_l2Bent.l1 k s0_0 bt141.2 bt134.1)))))))) else (some (bt134.1, bt139.2))))) = some (r1, r2) := h
 clear h
 replace H := Option.bind_eq_some_iff.mp H
 obtain ⟨⟨t134, t137⟩, A20, H⟩ := H
 replace H : ((spec_l1Chance.f s0_0 t137 9).bind fun bt139 => (if bt139.1 = true then ((spec_l1Next.f s0_0 bt139.2 7).bind fun bt141 => (if bt141.1 = 0 then (some (([] : List (S110)), bt141.2)) else (if bt141.1 = 1 then (if 0 ≤ (wrap64 ((t134.length : Int) - 1)) then (if (wrap64 ((t134.length : Int) - 1)) < (t134.length : Int) then (some ((t134.set ((wrap64 ((t134.length : Int) - 1)) : Int).toNat (⟨(⟨#[97, 98, 99, 100]⟩ : ByteArray), (rd_T110 t134 (wrap64 ((t134.length : Int) - 1))).f1⟩ : S110)), bt141.2)) else (none)) else (none)) else (if bt141.1 = 2 then ((spec_l1Next.f s0_0 bt141.2 (t134.length : Int)).bind fun bt144 => (if 0 ≤ bt144.1 then (if bt144.1 < (t134.length : Int) then (some ((t134.set (bt144.1 : Int).toNat (⟨(⟨#[97, 66]⟩ : ByteArray), (rd_T110 t134 bt144.1).f1⟩ : S110)), bt144.2)) else (none)) else (none))) else (if bt141.1 = 3 then ((spec_l1Next.f s0_0 bt141.2 (t134.length : Int)).bind fun bt147 => ((spec_l1Pick.f s0_0 bt147.2 (([3, (-1)] : List Int))).bind fun bt152 => (if 0 ≤ bt147.1 then (if bt147.1 < (t134.length : Int) then (some ((t134.set (bt147.1 : Int).toNat (⟨(rd_T110 t134 bt147.1).f0, bt152.1⟩ : S110)), bt152.2)) else (none)) else (none)))) else (if bt141.1 = 4 then (if 0 < (t134.length : Int) then (if t134.length < 5864062014805 then (some ((t134 ++ [(⟨(rd_T110 t134 0).f0, (rd_T110 t134 0).f1⟩ : S110)]), bt141.2)) else (none)) else (none)) else (if bt141.1 = 5 then (spec_l2Bent.l0 k (t134.length : Int) 0 s0_0 bt141.2 t134) else (spec_l2Bent.l1 k s0_0 bt141.2 t134)))))))) else (some (t134, bt139.2)))) = some (r1, r2) := H
 have A2 := am A20
 clear A20
 replace H := Option.bind_eq_some_iff.mp H
 obtain ⟨⟨t139, t140⟩, A30, H⟩ := H
 replace H : (if t139 = true then ((spec_l1Next.f s0_0 t140 7).bind fun bt141 => (if bt141.1 = 0 then (some (([] : List (S110)), bt141.2)) else (if bt141.1 = 1 then (if 0 ≤ (wrap64 ((t134.length : Int) - 1)) then (if (wrap64 ((t134.length : Int) - 1)) < (t134.length : Int) then (some ((t134.set ((wrap64 ((t134.length : Int) - 1)) : Int).toNat (⟨(⟨#[97, 98, 99, 100]⟩ : ByteArray), (rd_T110 t134 (wrap64 ((t134.length : Int) - 1))).f1⟩ : S110)), bt141.2)) else (none)) else (none)) else (if bt141.1 = 2 then ((spec_l1Next.f s0_0 bt141.2 (t134.length : Int)).bind fun bt144 => (if 0 ≤ bt144.1 then (if bt144.1 < (t134.length : Int) then (some ((t134.set (bt144.1 : Int).toNat (⟨(⟨#[97, 66]⟩ : ByteArray), (rd_T110 t134 bt144.1).f1⟩ : S110)), bt144.2)) else (none)) else (none))) else (if bt141.1 = 3 then ((spec_l1Next.f s0_0 bt141.2 (t134.length : Int)).bind fun bt147 => ((spec_l1Pick.f s0_0 bt147.2 (([3, (-1)] : List Int))).bind fun bt152 => (if 0 ≤ bt147.1 then (if bt147.1 < (t134.length : Int) then (some ((t134.set (bt147.1 : Int).toNat (⟨(rd_T110 t134 bt147.1).f0, bt152.1⟩ : S110)), bt152.2)) else (none)) else (none)))) else (if bt141.1 = 4 then (if 0 < (t134.length : Int) then (if t134.length < 5864062014805 then (some ((t134 ++ [(⟨(rd_T110 t134 0).f0, (rd_T110 t134 0).f1⟩ : S110)]), bt141.2)) else (none)) else (none)) else (if bt141.1 = 5 then (spec_l2Bent.l0 k (t134.length : Int) 0 s0_0 bt141.2 t134) else (spec_l2Bent.l1 k s0_0 bt141.2 t134)))))))) else (some (t134, t140))) = some (r1, r2) := H
 have A3 := am A30
 clear A30
 by_cases c4 : t139 = true
 ·subst c4
  have H1 : ((spec_l1Next.f s0_0 t140 7).bind fun bt141 => (if bt141.1 = 0 then (some (([] : List (S110)), bt141.2)) else (if bt141.1 = 1 then (if 0 ≤ (wrap64 ((t134.length : Int) - 1)) then (if (wrap64 ((t134.length : Int) - 1)) < (t134.length : Int) then (some ((t134.set ((wrap64 ((t134.length : Int) - 1)) : Int).toNat (⟨(⟨#[97, 98, 99, 100]⟩ : ByteArray), (rd_T110 t134 (wrap64 ((t134.length : Int) - 1))).f1⟩ : S110)), bt141.2)) else (none)) else (none)) else (if bt141.1 = 2 then ((spec_l1Next.f s0_0 bt141.2 (t134.length : Int)).bind fun bt144 => (if 0 ≤ bt144.1 then (if bt144.1 < (t134.length : Int) then (some ((t134.set (bt144.1 : Int).toNat (⟨(⟨#[97, 66]⟩ : ByteArray), (rd_T110 t134 bt144.1).f1⟩ : S110)), bt144.2)) else (none)) else (none))) else (if bt141.1 = 3 then ((spec_l1Next.f s0_0 bt141.2 (t134.length : Int)).bind fun bt147 => ((spec_l1Pick.f s0_0 bt147.2 (([3, (-1)] : List Int))).bind fun bt152 => (if 0 ≤ bt147.1 then (if bt147.1 < (t134.length : Int) then (some ((t134.set (bt147.1 : Int).toNat (⟨(rd_T110 t134 bt147.1).f0, bt152.1⟩ : S110)), bt152.2)) else (none)) else (none)))) else (if bt141.1 = 4 then (if 0 < (t134.length : Int) then (if t134.length < 5864062014805 then (some ((t134 ++ [(⟨(rd_T110 t134 0).f0, (rd_T110 t134 0).f1⟩ : S110)]), bt141.2)) else (none)) else (none)) else (if bt141.1 = 5 then (spec_l2Bent.l0 k (t134.length : Int) 0 s0_0 bt141.2 t134) else (spec_l2Bent.l1 k s0_0 bt141.2 t134)))))))) = some (r1, r2) := by rw [if_pos rfl] at H; exact H
  clear H
  have H := H1
  clear H1
  replace H := Option.bind_eq_some_iff.mp H
  obtain ⟨⟨t141, t142⟩, A50, H⟩ := H
  replace H : (if t141 = 0 then (some (([] : List (S110)), t142)) else (if t141 = 1 then (if 0 ≤ (wrap64 ((t134.length : Int) - 1)) then (if (wrap64 ((t134.length : Int) - 1)) < (t134.length : Int) then (some ((t134.set ((wrap64 ((t134.length : Int) - 1)) : Int).toNat (⟨(⟨#[97, 98, 99, 100]⟩ : ByteArray), (rd_T110 t134 (wrap64 ((t134.length : Int) - 1))).f1⟩ : S110)), t142)) else (none)) else (none)) else (if t141 = 2 then ((spec_l1Next.f s0_0 t142 (t134.length : Int)).bind fun bt144 => (if 0 ≤ bt144.1 then (if bt144.1 < (t134.length : Int) then (some ((t134.set (bt144.1 : Int).toNat (⟨(⟨#[97, 66]⟩ : ByteArray), (rd_T110 t134 bt144.1).f1⟩ : S110)), bt144.2)) else (none)) else (none))) else (if t141 = 3 then ((spec_l1Next.f s0_0 t142 (t134.length : Int)).bind fun bt147 => ((spec_l1Pick.f s0_0 bt147.2 (([3, (-1)] : List Int))).bind fun bt152 => (if 0 ≤ bt147.1 then (if bt147.1 < (t134.length : Int) then (some ((t134.set (bt147.1 : Int).toNat (⟨(rd_T110 t134 bt147.1).f0, bt152.1⟩ : S110)), bt152.2)) else (none)) else (none)))) else (if t141 = 4 then (if 0 < (t134.length : Int) then (if t134.length < 5864062014805 then (some ((t134 ++ [(⟨(rd_T110 t134 0).f0, (rd_T110 t134 0).f1⟩ : S110)]), t142)) else (none)) else (none)) else (if t141 = 5 then (spec_l2Bent.l0 k (t134.length : Int) 0 s0_0 t142 t134) else (spec_l2Bent.l1 k s0_0 t142 t134))))))) = some (r1, r2) := H
  have A5 := am A50
  clear A50
  by_cases c6 : t141 = 0
  ·rw [if_pos c6] at H
   have c6b0 : (t141 == 0) = true := beq_iff_eq.mpr c6
   have c6b1 : (t141 != 0) = false := bne_eq_false_iff_eq.mpr c6
   clear c6
   simp only [Option.some.injEq, Prod.mk.injEq] at H
   obtain ⟨rfl, rfl⟩ := H
   go_enter Tryd.func107, Tryd.ntmps107
   go_wp2_with (first | ((with_reducible refine gate_dst (N := 2) rfl ?_); refine box_event ?hg (N := 2) ?hd (cs := #[.slice none 0 0]) (t := 26) ?hr ?_; (case hd => rfl); (case hg => rfl); (case hr => first | (go_simp; done) | (go_simp; rfl)); intro gb133 hg w7 hbox hb; have n0_ := am (IsS145.below (IsS145.q HI0.out) hb); have n1_ := am (KeepBut.trans (kq HK.out) (KeepBut.of_below hb g none) (.inl rfl)); have n2_ := am (below_step (hsk HB.out (IsS145.ge HI0.out)) hb); have n3_ := am (hbox); have n4_ := am ((by rw [hg]; exact (keep_size (w := w) (g := g) (row := none) (kq HK.out)) : w.heap.size ≤ gb133)); have n5_ := am (Nat.le_trans HW0.out n4_.out); have n6_ := am ((by rw [hg]; exact Nat.ne_of_lt (IsS145.lt (show IsS145 w0 _ g s0_0 s0_1 from by exact IsS145.q HI0.out)) : g ≠ gb133)); have n7_ := am n6_.out.symm; clear HI0 HK HB; revert n0_ n1_ n2_ n3_ n4_ n5_ n6_ n7_; intro HI0 HK HB BK133 GW133 GE133 NB0_133 NB133_0; clear hb hbox hg) | ((with_reducible refine gate_callee (f := 118) rfl ?_); refine goesL_ (some 7) rfl rfl Tryd.func118 (by kernel_rfl) rfl #[.pointer (some ⟨g, 0, none⟩)] rfl el ?_; (with_reducible refine (spec_l2Sig.calls k g s0_0 s0_1 t134 t137 w0 _ ?side1 ?side2 A2.out).mono ?_); (case side1 => exact IsS145.q HI0.out); (case side2 => exact hsk HB.out (IsS145.ge HI0.out)); rintro e w8 ⟨v135, rfl, ho0, hi, hb, hk⟩; refine ⟨_, rfl, ?_⟩; have n0_ := am (KeepBut.blk hk (g' := gb133) (o := .cells #[.slice none 0 0] 26 (0, 0)) (bq BK133.out) NB133_0.out (by simp)); have n1_ := am (Kd.R_lower ho0 (keep_size (w := w) (g := g) (row := none) (ks HK.out))); have n2_ := am (KeepBut.trans (ks HK.out) hk (.inl rfl)); have n3_ := am (hb); have n4_ := am (hi); clear BK133 HK HB HI0; revert n0_ n1_ n2_ n3_ n4_; intro BK133 HO136 HK HB HI0; (try clear hb); (try clear hb2); (try clear hgw); (try clear hk); (try clear hi); (try clear ho0)) | ((with_reducible refine gate_dst (N := 3) rfl ?_); refine box_event ?hg (N := 3) ?hd (cs := #[.slice none 0 0]) (t := 26) ?hr ?_; (case hd => rfl); (case hg => rfl); (case hr => first | (go_simp; done) | (go_simp; rfl)); intro gb138 hg w9 hbox hb; have n0_ := am (Kd.R_below (rq HO136.out) hb); have n1_ := am (IsS145.below (IsS145.q HI0.out) hb); have n2_ := am (blk_below (bq BK133.out) hb); have n3_ := am (KeepBut.trans (ks HK.out) (KeepBut.of_below hb g none) (.inl rfl)); have n4_ := am (below_step (hsk HB.out (IsS145.ge HI0.out)) hb); have n5_ := am (hbox); have n6_ := am ((by rw [hg]; exact (keep_size (w := w) (g := g) (row := none) (ks HK.out)) : w.heap.size ≤ gb138)); have n7_ := am (Nat.le_trans HW0.out n6_.out); have n8_ := am ((by rw [hg]; exact Nat.ne_of_lt (blk_lt (bq BK133.out)) : gb133 ≠ gb138)); have n9_ := am ((by rw [hg]; exact Nat.ne_of_gt (blk_lt (bq BK133.out)) : gb138 ≠ gb133)); have n10_ := am ((by rw [hg]; exact Nat.ne_of_lt (IsS145.lt (show IsS145 w0 _ g s0_0 t137 from by exact IsS145.q HI0.out)) : g ≠ gb138)); have n11_ := am n10_.out.symm; clear HO136 HI0 BK133 HK HB; revert n0_ n1_ n2_ n3_ n4_ n5_ n6_ n7_ n8_ n9_ n10_ n11_; intro HO136 HI0 BK133 HK HB BK138 GW138 GE138 NB133_138 NB138_133 NB0_138 NB138_0; clear hb hbox hg; obtain ⟨Ao10, co10, eo10⟩ := Kd.R_slice HO136.out; subst eo10; have hnb11 := NB138_133.out; have hnc11 := NB133_138.out; have hnb12 := NB138_0.out; have hnc12 := NB0_138.out; have hcz13_0 : w9.cell? ⟨gb138, 0, none⟩ = some (.slice none 0 0) := (blk_cell BK138.out 0).trans rfl; have hfz13_0 := blk_frozen BK138.out 0) | ((with_reducible refine gate_callee (f := 119) rfl ?_); refine goesL_ (some 12) rfl rfl Tryd.func119 (by kernel_rfl) rfl #[.pointer (some ⟨g, 0, none⟩), .int .i64 9] rfl el ?_; (with_reducible refine (spec_l1Chance.calls g s0_0 t137 9 true t140 w0 _ ?side1 ?side2 A3.out).mono ?_); (case side1 => exact IsS145.q HI0.out); (case side2 => exact hsk HB.out (IsS145.ge HI0.out)); rintro e w14 ⟨rfl, hi, hb, hk⟩; refine ⟨_, rfl, ?_⟩; have n0_ := am (KeepBut.blk hk (g' := gb133) (o := .cells #[.slice none 0 0] 26 (0, 0)) (by refine bq ?_; refine blk_far ?_ NB133_138.out _; refine bq ?_; exact BK133.out) NB133_0.out (by simp)); have n1_ := am (Kd.R_mono (Kd.R_keep (IsS145.apart (show IsS145 w0 _ g s0_0 t137 from by exact IsS145.q HI0.out) (by (with_reducible repeat (first | apply Kd.R_alloc | apply Kd.R_drewN | apply Kd.R_drew)); exact (Kd.R_mono (Kd.R_far (p := ⟨gb138, 0, none⟩) (Kd.R_types HO136.out BK138.out (by decide)) (fun _ hk => hk.2) (.slice Ao10 t134.length co10)) (fun _ h_ => h_.1))) (by decide)) hk (fun _ h => h.2)) (fun _ h => h.1)); have n2_ := am (KeepBut.blk hk (g' := gb138) (o := .cells #[.slice Ao10 t134.length co10] 26 (0, 0)) (by refine bq ?_; refine blk_put (cs := #[.slice none 0 0]) ?_ 0 _ rfl; refine bq ?_; exact BK138.out) NB138_0.out (by simp)); have n3_ := am (KeepBut.trans (ks HK.out) hk (.inl rfl)); have n4_ := am (hb); have n5_ := am (hi); clear BK133 HO136 BK138 HK HB HI0; revert n0_ n1_ n2_ n3_ n4_ n5_; intro BK133 HO136 BK138 HK HB HI0; (try clear hb); (try clear hb2); (try clear hgw); (try clear hk); (try clear hi)) | ((with_reducible refine gate_callee (f := 120) rfl ?_); refine goesL_ (some 16) rfl rfl Tryd.func120 (by kernel_rfl) rfl #[.pointer (some ⟨g, 0, none⟩), .int .i64 7] rfl el ?_; (with_reducible refine (spec_l1Next.calls g s0_0 t140 7 t141 t142 w0 _ ?side1 ?side2 A5.out).mono ?_); (case side1 => exact IsS145.q HI0.out); (case side2 => exact hsk HB.out (IsS145.ge HI0.out)); rintro e w15 ⟨rfl, hi, hb, hk⟩; refine ⟨_, rfl, ?_⟩; have n0_ := am (KeepBut.blk hk (g' := gb133) (o := .cells #[.slice none 0 0] 26 (0, 0)) (bq BK133.out) NB133_0.out (by simp)); have n1_ := am (Kd.R_mono (Kd.R_keep (IsS145.apart (show IsS145 w0 _ g s0_0 t140 from by exact IsS145.q HI0.out) (rq HO136.out) (by decide)) hk (fun _ h => h.2)) (fun _ h => h.1)); have n2_ := am (KeepBut.blk hk (g' := gb138) (o := .cells #[.slice Ao10 t134.length co10] 26 (0, 0)) (bq BK138.out) NB138_0.out (by simp)); have n3_ := am (KeepBut.trans (ks HK.out) hk (.inl rfl)); have n4_ := am (hb); have n5_ := am (hi); clear BK133 HO136 BK138 HK HB HI0; revert n0_ n1_ n2_ n3_ n4_ n5_; intro BK133 HO136 BK138 HK HB HI0; (try clear hb); (try clear hb2); (try clear hgw); (try clear hk); (try clear hi); have hnb16 := NB133_0.out; have hnc16 := NB0_133.out; have hcz17_0 : w15.cell? ⟨gb133, 0, none⟩ = some (.slice none 0 0) := (blk_cell BK133.out 0).trans rfl; have hfz17_0 := blk_frozen BK133.out 0))
   refine bodyPost_ret (results_cell_row rfl _ _ gb133 26 #[.slice none 0 0] (0, 0) _ rfl (by refine bq ?_; refine blk_put (cs := #[.slice none 0 0]) ?_ 0 _ rfl; refine bq ?_; exact BK133.out) Tryd.underlying26 rfl (by kernel_rfl)) rfl ?_
   exact ⟨_, by first | rfl | (simp [errW_none, errW_some] <;> rfl) | (simp [*, errW_none, errW_some] <;> rfl), by first | exact Kd.R_nil _ _ _ _ _ | exact Kd.N_nil _ _ _ _ _ | exact Kd.V_nil _ _ _ _ _ | exact Kd.Q_nil _ _ _ _ _ | exact Kd.S_nil _ _ _ _ _, by exact IsS145.q HI0.out, by exact hsk HB.out (IsS145.ge HI0.out), by exact ks HK.out⟩
  ·rw [if_neg c6] at H
   have c6b0 : (t141 == 0) = false := beq_eq_false_iff_ne.mpr c6
   have c6b1 : (t141 != 0) = true := bne_iff_ne.mpr c6
   by_cases c18 : t141 = 1
   ·rw [if_pos c18] at H
    have c18b0 : (t141 == 1) = true := beq_iff_eq.mpr c18
    have c18b1 : (t141 != 1) = false := bne_eq_false_iff_eq.mpr c18
    clear c18
    obtain ⟨ji19, hji19⟩ : ∃ j_ : Int, (wrap64 ((t134.length : Int) - 1)) = j_ := ⟨_, rfl⟩
    replace H : (if 0 ≤ (ji19) then (if (ji19) < (t134.length : Int) then (some ((t134.set ((ji19) : Int).toNat (⟨(⟨#[97, 98, 99, 100]⟩ : ByteArray), (rd_T110 t134 (ji19)).f1⟩ : S110)), t142)) else (none)) else (none)) = some (r1, r2) := by first | (rw [hji19] at H; exact H) | (simp only [hji19] at H ⊢; exact H)
    (try rw [hji19] at A2)
    (try rw [hji19] at A3)
    (try rw [hji19] at A5)
    have hji19w : (IntKind.i64.wrap ((t134.length : Int) - 1)) = ji19 := (i64_w _).trans hji19
    by_cases c20 : 0 ≤ (ji19)
    ·rw [if_pos c20] at H
     have c20b0 : decide (0 ≤ (ji19)) = true := decide_eq_true c20
     clear c20
     by_cases c21 : (ji19) < (t134.length : Int)
     ·rw [if_pos c21] at H
      have c21b0 : decide ((ji19) < (t134.length : Int)) = true := decide_eq_true c21
      clear c21
      obtain ⟨y143, hy143⟩ : ∃ y_ : List (S110), y_ = (t134.set ((ji19) : Int).toNat (⟨(⟨#[97, 98, 99, 100]⟩ : ByteArray), (rd_T110 t134 (ji19)).f1⟩ : S110)) := ⟨_, rfl⟩
      replace H : (some (y143, t142)) = some (r1, r2) := by first | (rw [hy143]; with_reducible exact H) | (have H2_ := (Option.bind_some _ _).symm.trans H; rw [hy143]; with_reducible exact H2_) | (have H2_ := (Option.bind_some _ _).symm.trans H; with_reducible exact H2_) | with_reducible exact H | (rw [hy143]; exact H) | exact H
      have Ny143 := am hy143
      clear hy143
      simp only [Option.some.injEq, Prod.mk.injEq] at H
      obtain ⟨rfl, rfl⟩ := H
      go_enter Tryd.func107, Tryd.ntmps107
      go_wp2_with (first | ((with_reducible refine gate_dst (N := 2) rfl ?_); refine box_event ?hg (N := 2) ?hd (cs := #[.slice none 0 0]) (t := 26) ?hr ?_; (case hd => rfl); (case hg => rfl); (case hr => first | (go_simp; done) | (go_simp; rfl)); intro gb133 hg w23 hbox hb; have n0_ := am (IsS145.below (IsS145.q HI0.out) hb); have n1_ := am (KeepBut.trans (kq HK.out) (KeepBut.of_below hb g none) (.inl rfl)); have n2_ := am (below_step (hsk HB.out (IsS145.ge HI0.out)) hb); have n3_ := am (hbox); have n4_ := am ((by rw [hg]; exact (keep_size (w := w) (g := g) (row := none) (kq HK.out)) : w.heap.size ≤ gb133)); have n5_ := am (Nat.le_trans HW0.out n4_.out); have n6_ := am ((by rw [hg]; exact Nat.ne_of_lt (IsS145.lt (show IsS145 w0 _ g s0_0 s0_1 from by exact IsS145.q HI0.out)) : g ≠ gb133)); have n7_ := am n6_.out.symm; clear HI0 HK HB; revert n0_ n1_ n2_ n3_ n4_ n5_ n6_ n7_; intro HI0 HK HB BK133 GW133 GE133 NB0_133 NB133_0; clear hb hbox hg) | ((with_reducible refine gate_callee (f := 118) rfl ?_); refine goesL_ (some 7) rfl rfl Tryd.func118 (by kernel_rfl) rfl #[.pointer (some ⟨g, 0, none⟩)] rfl el ?_; (with_reducible refine (spec_l2Sig.calls k g s0_0 s0_1 t134 t137 w0 _ ?side1 ?side2 A2.out).mono ?_); (case side1 => exact IsS145.q HI0.out); (case side2 => exact hsk HB.out (IsS145.ge HI0.out)); rintro e w24 ⟨v135, rfl, ho0, hi, hb, hk⟩; refine ⟨_, rfl, ?_⟩; have n0_ := am (KeepBut.blk hk (g' := gb133) (o := .cells #[.slice none 0 0] 26 (0, 0)) (bq BK133.out) NB133_0.out (by simp)); have n1_ := am (Kd.R_lower ho0 (keep_size (w := w) (g := g) (row := none) (ks HK.out))); have n2_ := am (KeepBut.trans (ks HK.out) hk (.inl rfl)); have n3_ := am (hb); have n4_ := am (hi); clear BK133 HK HB HI0; revert n0_ n1_ n2_ n3_ n4_; intro BK133 HO136 HK HB HI0; (try clear hb); (try clear hb2); (try clear hgw); (try clear hk); (try clear hi); (try clear ho0)) | ((with_reducible refine gate_dst (N := 3) rfl ?_); refine box_event ?hg (N := 3) ?hd (cs := #[.slice none 0 0]) (t := 26) ?hr ?_; (case hd => rfl); (case hg => rfl); (case hr => first | (go_simp; done) | (go_simp; rfl)); intro gb138 hg w25 hbox hb; have n0_ := am (Kd.R_below (rq HO136.out) hb); have n1_ := am (IsS145.below (IsS145.q HI0.out) hb); have n2_ := am (blk_below (bq BK133.out) hb); have n3_ := am (KeepBut.trans (ks HK.out) (KeepBut.of_below hb g none) (.inl rfl)); have n4_ := am (below_step (hsk HB.out (IsS145.ge HI0.out)) hb); have n5_ := am (hbox); have n6_ := am ((by rw [hg]; exact (keep_size (w := w) (g := g) (row := none) (ks HK.out)) : w.heap.size ≤ gb138)); have n7_ := am (Nat.le_trans HW0.out n6_.out); have n8_ := am ((by rw [hg]; exact Nat.ne_of_lt (blk_lt (bq BK133.out)) : gb133 ≠ gb138)); have n9_ := am ((by rw [hg]; exact Nat.ne_of_gt (blk_lt (bq BK133.out)) : gb138 ≠ gb133)); have n10_ := am ((by rw [hg]; exact Nat.ne_of_lt (IsS145.lt (show IsS145 w0 _ g s0_0 t137 from by exact IsS145.q HI0.out)) : g ≠ gb138)); have n11_ := am n10_.out.symm; clear HO136 HI0 BK133 HK HB; revert n0_ n1_ n2_ n3_ n4_ n5_ n6_ n7_ n8_ n9_ n10_ n11_; intro HO136 HI0 BK133 HK HB BK138 GW138 GE138 NB133_138 NB138_133 NB0_138 NB138_0; clear hb hbox hg; obtain ⟨Ao26, co26, eo26⟩ := Kd.R_slice HO136.out; subst eo26; have hnb27 := NB138_133.out; have hnc27 := NB133_138.out; have hnb28 := NB138_0.out; have hnc28 := NB0_138.out; have hcz29_0 : w25.cell? ⟨gb138, 0, none⟩ = some (.slice none 0 0) := (blk_cell BK138.out 0).trans rfl; have hfz29_0 := blk_frozen BK138.out 0) | ((with_reducible refine gate_callee (f := 119) rfl ?_); refine goesL_ (some 12) rfl rfl Tryd.func119 (by kernel_rfl) rfl #[.pointer (some ⟨g, 0, none⟩), .int .i64 9] rfl el ?_; (with_reducible refine (spec_l1Chance.calls g s0_0 t137 9 true t140 w0 _ ?side1 ?side2 A3.out).mono ?_); (case side1 => exact IsS145.q HI0.out); (case side2 => exact hsk HB.out (IsS145.ge HI0.out)); rintro e w30 ⟨rfl, hi, hb, hk⟩; refine ⟨_, rfl, ?_⟩; have n0_ := am (KeepBut.blk hk (g' := gb133) (o := .cells #[.slice none 0 0] 26 (0, 0)) (by refine bq ?_; refine blk_far ?_ NB133_138.out _; refine bq ?_; exact BK133.out) NB133_0.out (by simp)); have n1_ := am (Kd.R_mono (Kd.R_keep (IsS145.apart (show IsS145 w0 _ g s0_0 t137 from by exact IsS145.q HI0.out) (by (with_reducible repeat (first | apply Kd.R_alloc | apply Kd.R_drewN | apply Kd.R_drew)); exact (Kd.R_mono (Kd.R_far (p := ⟨gb138, 0, none⟩) (Kd.R_types HO136.out BK138.out (by decide)) (fun _ hk => hk.2) (.slice Ao26 t134.length co26)) (fun _ h_ => h_.1))) (by decide)) hk (fun _ h => h.2)) (fun _ h => h.1)); have n2_ := am (KeepBut.blk hk (g' := gb138) (o := .cells #[.slice Ao26 t134.length co26] 26 (0, 0)) (by refine bq ?_; refine blk_put (cs := #[.slice none 0 0]) ?_ 0 _ rfl; refine bq ?_; exact BK138.out) NB138_0.out (by simp)); have n3_ := am (KeepBut.trans (ks HK.out) hk (.inl rfl)); have n4_ := am (hb); have n5_ := am (hi); clear BK133 HO136 BK138 HK HB HI0; revert n0_ n1_ n2_ n3_ n4_ n5_; intro BK133 HO136 BK138 HK HB HI0; (try clear hb); (try clear hb2); (try clear hgw); (try clear hk); (try clear hi)) | ((with_reducible refine gate_callee (f := 120) rfl ?_); refine goesL_ (some 16) rfl rfl Tryd.func120 (by kernel_rfl) rfl #[.pointer (some ⟨g, 0, none⟩), .int .i64 7] rfl el ?_; (with_reducible refine (spec_l1Next.calls g s0_0 t140 7 t141 t142 w0 _ ?side1 ?side2 A5.out).mono ?_); (case side1 => exact IsS145.q HI0.out); (case side2 => exact hsk HB.out (IsS145.ge HI0.out)); rintro e w31 ⟨rfl, hi, hb, hk⟩; refine ⟨_, rfl, ?_⟩; have n0_ := am (KeepBut.blk hk (g' := gb133) (o := .cells #[.slice none 0 0] 26 (0, 0)) (bq BK133.out) NB133_0.out (by simp)); have n1_ := am (Kd.R_mono (Kd.R_keep (IsS145.apart (show IsS145 w0 _ g s0_0 t140 from by exact IsS145.q HI0.out) (rq HO136.out) (by decide)) hk (fun _ h => h.2)) (fun _ h => h.1)); have n2_ := am (KeepBut.blk hk (g' := gb138) (o := .cells #[.slice Ao26 t134.length co26] 26 (0, 0)) (bq BK138.out) NB138_0.out (by simp)); have n3_ := am (KeepBut.trans (ks HK.out) hk (.inl rfl)); have n4_ := am (hb); have n5_ := am (hi); clear BK133 HO136 BK138 HK HB HI0; revert n0_ n1_ n2_ n3_ n4_ n5_; intro BK133 HO136 BK138 HK HB HI0; (try clear hb); (try clear hb2); (try clear hgw); (try clear hk); (try clear hi); have hcz32_0 : w31.cell? ⟨gb138, 0, none⟩ = some (.slice Ao26 t134.length co26) := (blk_cell BK138.out 0).trans rfl; have hfz32_0 := blk_frozen BK138.out 0; have p22 : 0 ≤ ((ji19) : Int) := of_decide_eq_true (by first | (with_reducible assumption) | assumption); have q22 : ((ji19) : Int) < ((t134.length : Int) : Int) := of_decide_eq_true (by first | (with_reducible assumption) | assumption); obtain ⟨go22, co22, eo22, gb22, gl22, cl22, HG22⟩ := Kd.R_form HO136.out (by omega); (first | cases eo22 | (injection eo22 with ea_ en_ ec_; (first | subst ea_ | (injection ea_ with ea_; subst ea_)); subst ec_; clear en_)); have GB22 := am gb22; have GG22 := am HG22; clear gb22 gl22 HG22; obtain ⟨ce22, hcl22, hM22, hcc22, hfr22⟩ := Kd.R_elem HO136.out z110 ((ji19) : Int) p22 q22; obtain rfl := k110_openM hM22; have hx22_0 : w31.cell? ⟨go22, ((ji19) : Int).toNat * 2, none⟩ = some (.string ((rd_T110 t134 (ji19)).f0)) := hcc22 0 _ rfl; have hx22_1 : w31.cell? ⟨go22, ((ji19) : Int).toNat * 2 + 1, none⟩ = some (.int .i64 ((rd_T110 t134 (ji19)).f1)) := hcc22 1 _ rfl; have hf22_0 : w31.frozen? ⟨go22, ((ji19) : Int).toNat * 2, none⟩ = false := hfr22 0; have hf22_1 : w31.frozen? ⟨go22, ((ji19) : Int).toNat * 2 + 1, none⟩ = false := hfr22 1; clear hcl22 hcc22 hfr22; (try clear hM22); replace p22 := eq_true p22; replace q22 := eq_true q22; have HX33 := am (show Kd.R k110 110 w31 w.heap.size (fun _ => True) (.slice (some ⟨go22, 0, none⟩) t134.length co26) t134 from (rq HO136.out)); obtain ⟨ce33, hcl33, hM33, hcc33, hfr33⟩ := Kd.R_elem HX33.out z110 ((ji19) : Int) (of_decide_eq_true (by first | (with_reducible assumption) | assumption)) (by have h_ : ((ji19) : Int) < ((t134.length : Int) : Int) := of_decide_eq_true (by first | (with_reducible assumption) | assumption); first | exact h_ | (have e_ := (Kd.R_reads' HO136.out).1; omega) | simpa using h_); obtain rfl := k110_openM hM33; have HP33 := Kd.R_seg HX33.out ((ji19) : Int) (of_decide_eq_true (by first | (with_reducible assumption) | assumption)) (by have h_ : ((ji19) : Int) < ((t134.length : Int) : Int) := of_decide_eq_true (by first | (with_reducible assumption) | assumption); first | exact h_ | (have e_ := (Kd.R_reads' HO136.out).1; omega) | simpa using h_) (seg := [.string (⟨#[97, 98, 99, 100]⟩ : ByteArray)]) (j := 0) hcl33 hcc33 (show 1 ≤ 2 from by decide) (x' := (⟨(⟨#[97, 98, 99, 100]⟩ : ByteArray), (rd_T110 t134 (ji19)).f1⟩ : S110)) (k110_mkM _ _ _ (⟨(⟨#[97, 98, 99, 100]⟩ : ByteArray), (rd_T110 t134 (ji19)).f1⟩ : S110) ) (fun _ hk => hk); have hx33_0 := hcc33 0 _ rfl; (try simp only [show (k110).sz = 2 from rfl, Nat.mul_one, Nat.add_zero] at hx33_0); have hf33_0 := hfr33 0; (try simp only [show (k110).sz = 2 from rfl, Nat.mul_one, Nat.add_zero] at hf33_0); clear hcl33 hcc33 hfr33; (try clear hM33)) | ((with_reducible refine gate_store (t := 9) (p := 37) rfl ?_); refine store_event (t := 9) (p := 37) (v := ?vo_w34) (w1 := (w31.setCell ⟨go22, ((ji19) : Int).toNat * 2, none⟩ (.string (⟨#[97, 98, 99, 100]⟩ : ByteArray)))) ?hg ?ho ?hn ?hr ?_; (case ho => rfl); (case hg => rfl); (case hn => rfl); (case hr => first | (go_simp; done) | (go_simp; rfl)); intro w34 hw; have hg : w31.grownBy w34 (some go22) := (by rw [hw]; exact HP33.2); have hp_ : Kd.R k110 110 w34 w.heap.size (fun _ => True) (.slice (some ⟨go22, 0, none⟩) t134.length co26) y143 := (by rw [hw, Ny143.out]; exact HP33.1); clear HP33; have n0_ := am (IsS145.grown (IsS145.q HI0.out) hg (IsS145.own_ne HI0.out HO136.out (by decide))); have n1_ := am (blk_grown (bq BK133.out) hg (Kd.R_ne HO136.out BK133.out (by decide))); have n2_ := am (hp_); have n3_ := am (blk_grown (bq BK138.out) hg (Kd.R_ne HO136.out BK138.out (by decide))); have n4_ := am ((by rw [hw]; exact below_set (HB.out) (Nat.le_trans HL.out GB22.out) : Below w0.heap.size w0 w34)); have n5_ := am (KeepBut.trans (ks HK.out) (KeepBut.of_grown hg g) (Kd.R_base2 HO136.out)); clear HI0 BK133 HO136 BK138 HB HK; revert n0_ n1_ n2_ n3_ n4_ n5_; intro HI0 BK133 HO136 BK138 HB HK; clear hg hw hp_; have hcz35_0 : w34.cell? ⟨gb138, 0, none⟩ = some (.slice (some ⟨go22, 0, none⟩) t134.length co26) := (blk_cell BK138.out 0).trans rfl; have hfz35_0 := blk_frozen BK138.out 0; have hnb36 := NB133_0.out; have hnc36 := NB0_133.out; have hcz37_0 : w34.cell? ⟨gb133, 0, none⟩ = some (.slice none 0 0) := (blk_cell BK133.out 0).trans rfl; have hfz37_0 := blk_frozen BK133.out 0))
      refine bodyPost_ret (results_cell_row rfl _ _ gb133 26 #[.slice (some ⟨go22, 0, none⟩) t134.length co26] (0, 0) _ rfl (by refine bq ?_; refine blk_put (cs := #[.slice none 0 0]) ?_ 0 _ rfl; refine bq ?_; exact BK133.out) Tryd.underlying26 rfl (by kernel_rfl)) rfl ?_
      exact ⟨_, by first | rfl | (simp [errW_none, errW_some] <;> rfl) | (simp only [← hji19]; first | rfl | (simp [errW_none, errW_some] <;> rfl)) | (simp [*, errW_none, errW_some] <;> rfl), by (with_reducible repeat (first | apply Kd.R_alloc | apply Kd.R_drewN | apply Kd.R_drew)); exact Kd.R_mono (Kd.R_far (p := ⟨gb133, 0, none⟩) (Kd.R_types HO136.out BK133.out (by decide)) (fun _ hk => hk.2) (.slice (some ⟨go22, 0, none⟩) t134.length co26)) (fun _ hk => trivial), by exact IsS145.q HI0.out, by exact hsk HB.out (IsS145.ge HI0.out), by exact ks HK.out⟩
     ·rw [if_neg c21] at H
      exact absurd H (by simp)
    ·rw [if_neg c20] at H
     exact absurd H (by simp)
   ·rw [if_neg c18] at H
    have c18b0 : (t141 == 1) = false := beq_eq_false_iff_ne.mpr c18
    have c18b1 : (t141 != 1) = true := bne_iff_ne.mpr c18
    by_cases c38 : t141 = 2
    ·rw [if_pos c38] at H
     have c38b0 : (t141 == 2) = true := beq_iff_eq.mpr c38
     have c38b1 : (t141 != 2) = false := bne_eq_false_iff_eq.mpr c38
     clear c38
     replace H := Option.bind_eq_some_iff.mp H
     obtain ⟨⟨t144, t145⟩, A390, H⟩ := H
     replace H : (if 0 ≤ t144 then (if t144 < (t134.length : Int) then (some ((t134.set (t144 : Int).toNat (⟨(⟨#[97, 66]⟩ : ByteArray), (rd_T110 t134 t144).f1⟩ : S110)), t145)) else (none)) else (none)) = some (r1, r2) := H
     have A39 := am A390
     clear A390
     by_cases c40 : 0 ≤ t144
     ·rw [if_pos c40] at H
      have c40b0 : decide (0 ≤ t144) = true := decide_eq_true c40
      clear c40
      by_cases c41 : t144 < (t134.length : Int)
      ·rw [if_pos c41] at H
       have c41b0 : decide (t144 < (t134.length : Int)) = true := decide_eq_true c41
       clear c41
       obtain ⟨y146, hy146⟩ : ∃ y_ : List (S110), y_ = (t134.set (t144 : Int).toNat (⟨(⟨#[97, 66]⟩ : ByteArray), (rd_T110 t134 t144).f1⟩ : S110)) := ⟨_, rfl⟩
       replace H : (some (y146, t145)) = some (r1, r2) := by first | (rw [hy146]; with_reducible exact H) | (have H2_ := (Option.bind_some _ _).symm.trans H; rw [hy146]; with_reducible exact H2_) | (have H2_ := (Option.bind_some _ _).symm.trans H; with_reducible exact H2_) | with_reducible exact H | (rw [hy146]; exact H) | exact H
       have Ny146 := am hy146
       clear hy146
       simp only [Option.some.injEq, Prod.mk.injEq] at H
       obtain ⟨rfl, rfl⟩ := H
       go_enter Tryd.func107, Tryd.ntmps107
       try go_wp2_with (first | ((with_reducible refine gate_dst (N := 2) rfl ?_); refine box_event ?hg (N := 2) ?hd (cs := #[.slice none 0 0]) (t := 26) ?hr ?_; (case hd => rfl); (case hg => rfl); (case hr => first | (go_simp; done) | (go_simp; rfl)); intro gb133 hg w43 hbox hb; have n0_ := am (IsS145.below (IsS145.q HI0.out) hb); have n1_ := am (KeepBut.trans (kq HK.out) (KeepBut.of_below hb g none) (.inl rfl)); have n2_ := am (below_step (hsk HB.out (IsS145.ge HI0.out)) hb); have n3_ := am (hbox); have n4_ := am ((by rw [hg]; exact (keep_size (w := w) (g := g) (row := none) (kq HK.out)) : w.heap.size ≤ gb133)); have n5_ := am (Nat.le_trans HW0.out n4_.out); have n6_ := am ((by rw [hg]; exact Nat.ne_of_lt (IsS145.lt (show IsS145 w0 _ g s0_0 s0_1 from by exact IsS145.q HI0.out)) : g ≠ gb133)); have n7_ := am n6_.out.symm; clear HI0 HK HB; revert n0_ n1_ n2_ n3_ n4_ n5_ n6_ n7_; intro HI0 HK HB BK133 GW133 GE133 NB0_133 NB133_0; clear hb hbox hg) | ((with_reducible refine gate_callee (f := 118) rfl ?_); refine goesL_ (some 7) rfl rfl Tryd.func118 (by kernel_rfl) rfl #[.pointer (some ⟨g, 0, none⟩)] rfl el ?_; (with_reducible refine (spec_l2Sig.calls k g s0_0 s0_1 t134 t137 w0 _ ?side1 ?side2 A2.out).mono ?_); (case side1 => exact IsS145.q HI0.out); (case side2 => exact hsk HB.out (IsS145.ge HI0.out)); rintro e w44 ⟨v135, rfl, ho0, hi, hb, hk⟩; refine ⟨_, rfl, ?_⟩; have n0_ := am (KeepBut.blk hk (g' := gb133) (o := .cells #[.slice none 0 0] 26 (0, 0)) (bq BK133.out) NB133_0.out (by simp)); have n1_ := am (Kd.R_lower ho0 (keep_size (w := w) (g := g) (row := none) (ks HK.out))); have n2_ := am (KeepBut.trans (ks HK.out) hk (.inl rfl)); have n3_ := am (hb); have n4_ := am (hi); clear BK133 HK HB HI0; revert n0_ n1_ n2_ n3_ n4_; intro BK133 HO136 HK HB HI0; (try clear hb); (try clear hb2); (try clear hgw); (try clear hk); (try clear hi); (try clear ho0)) | ((with_reducible refine gate_dst (N := 3) rfl ?_); refine box_event ?hg (N := 3) ?hd (cs := #[.slice none 0 0]) (t := 26) ?hr ?_; (case hd => rfl); (case hg => rfl); (case hr => first | (go_simp; done) | (go_simp; rfl)); intro gb138 hg w45 hbox hb; have n0_ := am (Kd.R_below (rq HO136.out) hb); have n1_ := am (IsS145.below (IsS145.q HI0.out) hb); have n2_ := am (blk_below (bq BK133.out) hb); have n3_ := am (KeepBut.trans (ks HK.out) (KeepBut.of_below hb g none) (.inl rfl)); have n4_ := am (below_step (hsk HB.out (IsS145.ge HI0.out)) hb); have n5_ := am (hbox); have n6_ := am ((by rw [hg]; exact (keep_size (w := w) (g := g) (row := none) (ks HK.out)) : w.heap.size ≤ gb138)); have n7_ := am (Nat.le_trans HW0.out n6_.out); have n8_ := am ((by rw [hg]; exact Nat.ne_of_lt (blk_lt (bq BK133.out)) : gb133 ≠ gb138)); have n9_ := am ((by rw [hg]; exact Nat.ne_of_gt (blk_lt (bq BK133.out)) : gb138 ≠ gb133)); have n10_ := am ((by rw [hg]; exact Nat.ne_of_lt (IsS145.lt (show IsS145 w0 _ g s0_0 t137 from by exact IsS145.q HI0.out)) : g ≠ gb138)); have n11_ := am n10_.out.symm; clear HO136 HI0 BK133 HK HB; revert n0_ n1_ n2_ n3_ n4_ n5_ n6_ n7_ n8_ n9_ n10_ n11_; intro HO136 HI0 BK133 HK HB BK138 GW138 GE138 NB133_138 NB138_133 NB0_138 NB138_0; clear hb hbox hg; obtain ⟨Ao46, co46, eo46⟩ := Kd.R_slice HO136.out; subst eo46; have hnb47 := NB138_133.out; have hnc47 := NB133_138.out; have hnb48 := NB138_0.out; have hnc48 := NB0_138.out; have hcz49_0 : w45.cell? ⟨gb138, 0, none⟩ = some (.slice none 0 0) := (blk_cell BK138.out 0).trans rfl; have hfz49_0 := blk_frozen BK138.out 0) | ((with_reducible refine gate_callee (f := 119) rfl ?_); refine goesL_ (some 12) rfl rfl Tryd.func119 (by kernel_rfl) rfl #[.pointer (some ⟨g, 0, none⟩), .int .i64 9] rfl el ?_; (with_reducible refine (spec_l1Chance.calls g s0_0 t137 9 true t140 w0 _ ?side1 ?side2 A3.out).mono ?_); (case side1 => exact IsS145.q HI0.out); (case side2 => exact hsk HB.out (IsS145.ge HI0.out)); rintro e w50 ⟨rfl, hi, hb, hk⟩; refine ⟨_, rfl, ?_⟩; have n0_ := am (KeepBut.blk hk (g' := gb133) (o := .cells #[.slice none 0 0] 26 (0, 0)) (by refine bq ?_; refine blk_far ?_ NB133_138.out _; refine bq ?_; exact BK133.out) NB133_0.out (by simp)); have n1_ := am (Kd.R_mono (Kd.R_keep (IsS145.apart (show IsS145 w0 _ g s0_0 t137 from by exact IsS145.q HI0.out) (by (with_reducible repeat (first | apply Kd.R_alloc | apply Kd.R_drewN | apply Kd.R_drew)); exact (Kd.R_mono (Kd.R_far (p := ⟨gb138, 0, none⟩) (Kd.R_types HO136.out BK138.out (by decide)) (fun _ hk => hk.2) (.slice Ao46 t134.length co46)) (fun _ h_ => h_.1))) (by decide)) hk (fun _ h => h.2)) (fun _ h => h.1)); have n2_ := am (KeepBut.blk hk (g' := gb138) (o := .cells #[.slice Ao46 t134.length co46] 26 (0, 0)) (by refine bq ?_; refine blk_put (cs := #[.slice none 0 0]) ?_ 0 _ rfl; refine bq ?_; exact BK138.out) NB138_0.out (by simp)); have n3_ := am (KeepBut.trans (ks HK.out) hk (.inl rfl)); have n4_ := am (hb); have n5_ := am (hi); clear BK133 HO136 BK138 HK HB HI0; revert n0_ n1_ n2_ n3_ n4_ n5_; intro BK133 HO136 BK138 HK HB HI0; (try clear hb); (try clear hb2); (try clear hgw); (try clear hk); (try clear hi)) | ((with_reducible refine gate_callee (f := 120) rfl ?_); refine goesL_ (some 16) rfl rfl Tryd.func120 (by kernel_rfl) rfl #[.pointer (some ⟨g, 0, none⟩), .int .i64 7] rfl el ?_; (with_reducible refine (spec_l1Next.calls g s0_0 t140 7 t141 t142 w0 _ ?side1 ?side2 A5.out).mono ?_); (case side1 => exact IsS145.q HI0.out); (case side2 => exact hsk HB.out (IsS145.ge HI0.out)); rintro e w51 ⟨rfl, hi, hb, hk⟩; refine ⟨_, rfl, ?_⟩; have n0_ := am (KeepBut.blk hk (g' := gb133) (o := .cells #[.slice none 0 0] 26 (0, 0)) (bq BK133.out) NB133_0.out (by simp)); have n1_ := am (Kd.R_mono (Kd.R_keep (IsS145.apart (show IsS145 w0 _ g s0_0 t140 from by exact IsS145.q HI0.out) (rq HO136.out) (by decide)) hk (fun _ h => h.2)) (fun _ h => h.1)); have n2_ := am (KeepBut.blk hk (g' := gb138) (o := .cells #[.slice Ao46 t134.length co46] 26 (0, 0)) (bq BK138.out) NB138_0.out (by simp)); have n3_ := am (KeepBut.trans (ks HK.out) hk (.inl rfl)); have n4_ := am (hb); have n5_ := am (hi); clear BK133 HO136 BK138 HK HB HI0; revert n0_ n1_ n2_ n3_ n4_ n5_; intro BK133 HO136 BK138 HK HB HI0; (try clear hb); (try clear hb2); (try clear hgw); (try clear hk); (try clear hi)))
       have n0_ := am (Kd.R_drew HO136.out)
       have n1_ := am (blk_drew BK133.out)
       have n2_ := am (blk_drew BK138.out)
       have n3_ := am (IsS145.drew HI0.out)
       have n4_ := am (keep_drew HK.out)
       have n5_ := am (below_drew1 HB.out)
       clear HO136
       clear BK133
       clear BK138
       clear HI0
       clear HK
       clear HB
       have HO136 := n0_
       have BK133 := n1_
       have BK138 := n2_
       have HI0 := n3_
       have HK := n4_
       have HB := n5_
       clear n0_ n1_ n2_ n3_ n4_ n5_
       refine start_ (n := 8) (S := fun w' => w'.cell? ⟨gb138, 0, none⟩ = some (.slice Ao46 t134.length co46)) (ds := [7]) #[false, false, false, false, false, false, false, false] (by kernel_rfl) rfl rfl ((blk_cell BK138.out 0).trans rfl) (fun hHeld => ?_); refine with_tabW spec_l2Bent.tab13 spec_l2Bent.bits13 (fun HT_ HW_ => ?_)
       generalize w51.drew = w52 at HO136 BK133 BK138 HI0 HK HB hHeld ⊢
       refine pure_ (i := 0) (N := some 40) (v := ?_) (a' := ?_) #[true, false, false, false, false, false, false, false] rfl rfl (any_of HT_.out (by kernel_rfl)) (fun _ _ _ h => h) (Or.inl ⟨by rfl, ?_⟩) ?_ ?_
       rotate_left
       ·intro w'
        go_simp
        with_reducible rfl
       rotate_left
       ·simp only [Act.put, lsp, i64_w, i32_w]
        rfl
       refine pure_ (i := 2) (N := some 42) (v := ?_) (a' := ?_) #[true, false, true, false, false, false, false, false] rfl rfl (any_of HT_.out (by kernel_rfl)) (fun _ _ _ h => h) (Or.inl ⟨by rfl, ?_⟩) ?_ ?_
       rotate_left
       ·intro w'
        go_simp
        with_reducible rfl
       rotate_left
       ·simp only [Act.put, lsp, i64_w, i32_w]
        rfl
       refine pure_ (i := 3) (N := some 43) (v := ?_) (a' := ?_) #[true, false, true, true, false, false, false, false] rfl rfl (any_of HT_.out (by kernel_rfl)) (fun _ _ _ h => h) (Or.inl ⟨by rfl, ?_⟩) ?_ ?_
       rotate_left
       ·intro w'
        go_simp
        with_reducible rfl
       rotate_left
       ·simp only [Act.put, lsp, i64_w, i32_w]
        rfl
       refine take_ (i := 1) (N := some 41) (v := ?_) (a' := ?_) #[true, true, true, true, false, false, false, false] rfl rfl (take_ofW HT_.out HW_.out (by kernel_rfl)) (fun _ _ _ h => h) (Or.inl ⟨by rfl, ?_⟩) hHeld ?_ ?_
       rotate_left
       ·intro w' s0
        go_simp
        with_reducible rfl
       rotate_left
       ·simp only [Act.put, lsp, i64_w, i32_w]
        rfl
       refine one_ (i := 4) (N := some 44) #[true, true, true, true, true, false, false, false] rfl rfl (one_of HT_.out (by kernel_rfl)) (by decide) (fun K hK => ?_)
       refine goes_ Tryd.func120 (by kernel_rfl) rfl #[.pointer (some ⟨g, 0, none⟩), .int .i64 (t134.length : Int)] (by rfl) rfl rfl el ?_
       with_reducible refine (spec_l1Next.calls g s0_0 t142 (t134.length : Int) t144 t145 w0 _ ?side1 ?side2 A39.out).mono ?_
       (case side1 => exact IsS145.q HI0.out)
       (case side2 => exact hsk HB.out (IsS145.ge HI0.out))
       rintro e w53 ⟨rfl, hi, hb, hk⟩
       refine ⟨_, rfl, ?_⟩
       have n0_ := am (KeepBut.blk hk (g' := gb133) (o := .cells #[.slice none 0 0] 26 (0, 0)) (bq BK133.out) NB133_0.out (by simp))
       have n1_ := am (Kd.R_mono (Kd.R_keep (IsS145.apart (show IsS145 w0 _ g s0_0 t142 from by exact IsS145.q HI0.out) (rq HO136.out) (by decide)) hk (fun _ h => h.2)) (fun _ h => h.1))
       have n2_ := am (KeepBut.blk hk (g' := gb138) (o := .cells #[.slice Ao46 t134.length co46] 26 (0, 0)) (bq BK138.out) NB138_0.out (by simp))
       have n3_ := am (KeepBut.trans (ks HK.out) hk (.inl rfl))
       have n4_ := am (hb)
       have n5_ := am (hi)
       clear BK133
       clear HO136
       clear BK138
       clear HK
       clear HB
       clear HI0
       have BK133 := n0_
       have HO136 := n1_
       have BK138 := n2_
       have HK := n3_
       have HB := n4_
       have HI0 := n5_
       clear n0_ n1_ n2_ n3_ n4_ n5_
       (try clear hb)
       (try clear hb2)
       (try clear hgw)
       (try clear hk)
       (try clear hi)
       have p42 : 0 ≤ (t144 : Int) := of_decide_eq_true (by first | (with_reducible assumption) | assumption)
       have q42 : (t144 : Int) < ((t134.length : Int) : Int) := of_decide_eq_true (by first | (with_reducible assumption) | assumption)
       obtain ⟨go42, co42, eo42, gb42, gl42, cl42, HG42⟩ := Kd.R_form HO136.out (by omega)
       (first | cases eo42 | (injection eo42 with ea_ en_ ec_; (first | subst ea_ | (injection ea_ with ea_; subst ea_)); subst ec_; clear en_))
       have GB42 := am gb42
       have GG42 := am HG42
       clear gb42 gl42 HG42
       obtain ⟨ce42, hcl42, hM42, hcc42, hfr42⟩ := Kd.R_elem HO136.out z110 (t144 : Int) p42 q42
       obtain rfl := k110_openM hM42
       have hx42_0 : World.cell? _ ⟨go42, (t144 : Int).toNat * 2, none⟩ = some (.string ((rd_T110 t134 t144).f0)) := hcc42 0 _ rfl
       have hx42_1 : World.cell? _ ⟨go42, (t144 : Int).toNat * 2 + 1, none⟩ = some (.int .i64 ((rd_T110 t134 t144).f1)) := hcc42 1 _ rfl
       have hf42_0 : World.frozen? _ ⟨go42, (t144 : Int).toNat * 2, none⟩ = false := hfr42 0
       have hf42_1 : World.frozen? _ ⟨go42, (t144 : Int).toNat * 2 + 1, none⟩ = false := hfr42 1
       clear hcl42 hcc42 hfr42; (try clear hM42)
       replace p42 := eq_true p42
       replace q42 := eq_true q42
       have HN0_go42 := am (show g ≠ go42 from by have h_ := IsS145.own_ne HI0.out HO136.out (by decide); intro e_; exact h_ (by rw [e_]; rfl))
       obtain ⟨ce54, hcl54, hM54, hcc54, hfr54⟩ := Kd.R_elem HO136.out z110 (t144 : Int) (of_decide_eq_true (by first | (with_reducible assumption) | assumption)) (by have h_ : (t144 : Int) < ((t134.length : Int) : Int) := of_decide_eq_true (by first | (with_reducible assumption) | assumption); first | exact h_ | (have e_ := (Kd.R_reads' HO136.out).1; omega) | simpa using h_)
       obtain rfl := k110_openM hM54
       have HP54 := (Kd.R_seg HO136.out (t144 : Int) (of_decide_eq_true (by first | (with_reducible assumption) | assumption)) (by have h_ : (t144 : Int) < ((t134.length : Int) : Int) := of_decide_eq_true (by first | (with_reducible assumption) | assumption); first | exact h_ | (have e_ := (Kd.R_reads' HO136.out).1; omega) | simpa using h_) (seg := [.string (⟨#[97, 66]⟩ : ByteArray)]) (j := 0) hcl54 hcc54 (show 1 ≤ 2 from by decide) (x' := (⟨(⟨#[97, 66]⟩ : ByteArray), (rd_T110 t134 t144).f1⟩ : S110)) (k110_mkM _ _ _ (⟨(⟨#[97, 66]⟩ : ByteArray), (rd_T110 t134 t144).f1⟩ : S110) ) (fun _ hk => hk)).1
       rw [← Ny146.out] at HP54
       have HQ54 := am HP54
       clear hcl54 hcc54 hfr54 HP54; (try clear hM54)
       refine hK.out _ _ ((blk_cell BK138.out 0).trans rfl) (fun hHeld => ?_)
       clear hK K
       refine norm_ (a' := ?_) ?_ ?_
       rotate_left
       ·show Act.put _ (some 44) _ = _
        simp only [Act.put, lsp, i64_w, i32_w]
        rfl
       refine pure_ (i := 5) (N := some 45) (v := ?_) (a' := ?_) #[true, true, true, true, true, true, false, false] rfl rfl (any_of HT_.out (by kernel_rfl)) (fun _ _ _ h => h) (Or.inl ⟨by rfl, ?_⟩) ?_ ?_
       rotate_left
       ·intro w'
        go_simp
        with_reducible rfl
       rotate_left
       ·simp only [Act.put, lsp, i64_w, i32_w]
        rfl
       refine pure_ (i := 6) (N := some 46) (v := ?_) (a' := ?_) #[true, true, true, true, true, true, true, false] rfl rfl (any_of HT_.out (by kernel_rfl)) (fun _ _ _ h => h) (Or.inl ⟨by rfl, ?_⟩) ?_ ?_
       rotate_left
       ·intro w'
        go_simp
        with_reducible rfl
       rotate_left
       ·simp only [Act.put, lsp, i64_w, i32_w]
        rfl
       refine last_ (i := 7) (N := none) #[true, true, true, true, true, true, true, true] rfl rfl (one_of HT_.out (by kernel_rfl)) (by decide) (fun K hK => ?_)
       refine skip_ (w1 := ?_) (by rfl) rfl ?_ ?_
       rotate_left
       ·go_simp
        rfl
       refine hK.out _ _ ?_
       clear hK K
       refine done_ (done_of HT_.out (by kernel_rfl)) ?_
       have n0_ : Aside0 (Kd.R k110 110 (w53.setCell ⟨go42, (t144 : Int).toNat * 2, none⟩ (.string (⟨#[97, 66]⟩ : ByteArray))) w.heap.size (fun _ => True) (.slice (some ⟨go42, 0, none⟩) t134.length co46) y146) := ⟨by (with_reducible repeat (first | apply Kd.R_alloc | apply Kd.R_drewN | apply Kd.R_drew)); exact HQ54.out⟩
       have n1_ : Aside0 ((w53.setCell ⟨go42, (t144 : Int).toNat * 2, none⟩ (.string (⟨#[97, 66]⟩ : ByteArray))).heap[gb133]? = some (.cells #[.slice none 0 0] 26 (0, 0))) := ⟨by refine bq ?_; refine blk_far ?_ (by have h_ := Kd.R_ne HO136.out BK133.out (by decide); intro e_; exact h_ (by rw [e_]; rfl)) _; refine bq ?_; exact BK133.out⟩
       have n2_ : Aside0 ((w53.setCell ⟨go42, (t144 : Int).toNat * 2, none⟩ (.string (⟨#[97, 66]⟩ : ByteArray))).heap[gb138]? = some (.cells #[.slice (some ⟨go42, 0, none⟩) t134.length co46] 26 (0, 0))) := ⟨by refine bq ?_; refine blk_far ?_ (by have h_ := Kd.R_ne HO136.out BK138.out (by decide); intro e_; exact h_ (by rw [e_]; rfl)) _; refine bq ?_; exact BK138.out⟩
       have n3_ : Aside0 (IsS145 w0 (w53.setCell ⟨go42, (t144 : Int).toNat * 2, none⟩ (.string (⟨#[97, 66]⟩ : ByteArray))) g s0_0 t145) := ⟨by exact IsS145.q HI0.out⟩
       have n4_ : Aside0 (KeepBut w (w53.setCell ⟨go42, (t144 : Int).toNat * 2, none⟩ (.string (⟨#[97, 66]⟩ : ByteArray))) g none) := ⟨by exact ks HK.out⟩
       have n5_ : Aside0 (Below w0.heap.size w0 (w53.setCell ⟨go42, (t144 : Int).toNat * 2, none⟩ (.string (⟨#[97, 66]⟩ : ByteArray)))) := ⟨by repeat (first | (with_reducible first | exact HB.out | apply below_alloc | apply pw_below_drewN | apply below_drew1 | refine below_set ?_ (Nat.le_trans HL.out GB42.out) | refine below_set ?_ (IsS145.ge HI0.out) | refine below_set ?_ GE133.out | refine below_set ?_ GE138.out) | exact HB.out)⟩
       (try clear HO136)
       (try clear BK133)
       (try clear BK138)
       (try clear HI0)
       (try clear HK)
       (try clear HB)
       (try simp only [Go.IntKind.wrap_u8])
       generalize (w53.setCell ⟨go42, (t144 : Int).toNat * 2, none⟩ (.string (⟨#[97, 66]⟩ : ByteArray))) = w55 at n0_ n1_ n2_ n3_ n4_ n5_ ⊢
       have HO136 := n0_
       have BK133 := n1_
       have BK138 := n2_
       have HI0 := n3_
       have HK := n4_
       have HB := n5_
       clear n0_ n1_ n2_ n3_ n4_ n5_
       have hcz56_0 : w55.cell? ⟨gb138, 0, none⟩ = some (.slice (some ⟨go42, 0, none⟩) t134.length co46) := (blk_cell BK138.out 0).trans rfl
       have hfz56_0 := blk_frozen BK138.out 0
       have hnb57 := NB133_0.out
       have hnc57 := NB0_133.out
       have hcz58_0 : w55.cell? ⟨gb133, 0, none⟩ = some (.slice none 0 0) := (blk_cell BK133.out 0).trans rfl
       have hfz58_0 := blk_frozen BK133.out 0
       try go_wp2
       refine bodyPost_ret (results_cell_row rfl _ _ gb133 26 #[.slice (some ⟨go42, 0, none⟩) t134.length co46] (0, 0) _ rfl (by refine bq ?_; refine blk_put (cs := #[.slice none 0 0]) ?_ 0 _ rfl; refine bq ?_; exact BK133.out) Tryd.underlying26 rfl (by kernel_rfl)) rfl ?_
       exact ⟨_, by first | rfl | (simp [errW_none, errW_some] <;> rfl) | (simp [*, errW_none, errW_some] <;> rfl), by (with_reducible repeat (first | apply Kd.R_alloc | apply Kd.R_drewN | apply Kd.R_drew)); exact Kd.R_mono (Kd.R_far (p := ⟨gb133, 0, none⟩) (Kd.R_types HO136.out BK133.out (by decide)) (fun _ hk => hk.2) (.slice (some ⟨go42, 0, none⟩) t134.length co46)) (fun _ hk => trivial), by exact IsS145.q HI0.out, by exact hsk HB.out (IsS145.ge HI0.out), by exact ks HK.out⟩
      ·rw [if_neg c41] at H
       exact absurd H (by simp)
     ·rw [if_neg c40] at H
      exact absurd H (by simp)
    ·rw [if_neg c38] at H
     have c38b0 : (t141 == 2) = false := beq_eq_false_iff_ne.mpr c38
     have c38b1 : (t141 != 2) = true := bne_iff_ne.mpr c38
     by_cases c59 : t141 = 3
     ·rw [if_pos c59] at H
      have c59b0 : (t141 == 3) = true := beq_iff_eq.mpr c59
      have c59b1 : (t141 != 3) = false := bne_eq_false_iff_eq.mpr c59
      clear c59
      replace H := Option.bind_eq_some_iff.mp H
      obtain ⟨⟨t147, t148⟩, A600, H⟩ := H
      replace H : ((spec_l1Pick.f s0_0 t148 (([3, (-1)] : List Int))).bind fun bt152 => (if 0 ≤ t147 then (if t147 < (t134.length : Int) then (some ((t134.set (t147 : Int).toNat (⟨(rd_T110 t134 t147).f0, bt152.1⟩ : S110)), bt152.2)) else (none)) else (none))) = some (r1, r2) := H
      have A60 := am A600
      clear A600
      obtain ⟨y149, hy149⟩ : ∃ y_ : List Int, y_ = (([3, (-1)] : List Int)) := ⟨_, rfl⟩
      replace H : ((spec_l1Pick.f s0_0 t148 y149).bind fun bt152 => (if 0 ≤ t147 then (if t147 < (t134.length : Int) then (some ((t134.set (t147 : Int).toNat (⟨(rd_T110 t134 t147).f0, bt152.1⟩ : S110)), bt152.2)) else (none)) else (none))) = some (r1, r2) := by first | (rw [hy149]; with_reducible exact H) | (have H2_ := (Option.bind_some _ _).symm.trans H; rw [hy149]; with_reducible exact H2_) | (have H2_ := (Option.bind_some _ _).symm.trans H; with_reducible exact H2_) | with_reducible exact H | (rw [hy149]; exact H) | exact H
      have Ny149 := am hy149
      clear hy149
      replace H := Option.bind_eq_some_iff.mp H
      obtain ⟨⟨t152, t153⟩, A610, H⟩ := H
      replace H : (if 0 ≤ t147 then (if t147 < (t134.length : Int) then (some ((t134.set (t147 : Int).toNat (⟨(rd_T110 t134 t147).f0, t152⟩ : S110)), t153)) else (none)) else (none)) = some (r1, r2) := H
      have A61 := am A610
      clear A610
      by_cases c62 : 0 ≤ t147
      ·rw [if_pos c62] at H
       have c62b0 : decide (0 ≤ t147) = true := decide_eq_true c62
       clear c62
       by_cases c63 : t147 < (t134.length : Int)
       ·rw [if_pos c63] at H
        have c63b0 : decide (t147 < (t134.length : Int)) = true := decide_eq_true c63
        clear c63
        obtain ⟨y154, hy154⟩ : ∃ y_ : List (S110), y_ = (t134.set (t147 : Int).toNat (⟨(rd_T110 t134 t147).f0, t152⟩ : S110)) := ⟨_, rfl⟩
        replace H : (some (y154, t153)) = some (r1, r2) := by first | (rw [hy154]; with_reducible exact H) | (have H2_ := (Option.bind_some _ _).symm.trans H; rw [hy154]; with_reducible exact H2_) | (have H2_ := (Option.bind_some _ _).symm.trans H; with_reducible exact H2_) | with_reducible exact H | (rw [hy154]; exact H) | exact H
        have Ny154 := am hy154
        clear hy154
        simp only [Option.some.injEq, Prod.mk.injEq] at H
        obtain ⟨rfl, rfl⟩ := H
        go_enter Tryd.func107, Tryd.ntmps107
        try go_wp2_with (first | ((with_reducible refine gate_dst (N := 2) rfl ?_); refine box_event ?hg (N := 2) ?hd (cs := #[.slice none 0 0]) (t := 26) ?hr ?_; (case hd => rfl); (case hg => rfl); (case hr => first | (go_simp; done) | (go_simp; rfl)); intro gb133 hg w65 hbox hb; have n0_ := am (IsS145.below (IsS145.q HI0.out) hb); have n1_ := am (KeepBut.trans (kq HK.out) (KeepBut.of_below hb g none) (.inl rfl)); have n2_ := am (below_step (hsk HB.out (IsS145.ge HI0.out)) hb); have n3_ := am (hbox); have n4_ := am ((by rw [hg]; exact (keep_size (w := w) (g := g) (row := none) (kq HK.out)) : w.heap.size ≤ gb133)); have n5_ := am (Nat.le_trans HW0.out n4_.out); have n6_ := am ((by rw [hg]; exact Nat.ne_of_lt (IsS145.lt (show IsS145 w0 _ g s0_0 s0_1 from by exact IsS145.q HI0.out)) : g ≠ gb133)); have n7_ := am n6_.out.symm; clear HI0 HK HB; revert n0_ n1_ n2_ n3_ n4_ n5_ n6_ n7_; intro HI0 HK HB BK133 GW133 GE133 NB0_133 NB133_0; clear hb hbox hg) | ((with_reducible refine gate_callee (f := 118) rfl ?_); refine goesL_ (some 7) rfl rfl Tryd.func118 (by kernel_rfl) rfl #[.pointer (some ⟨g, 0, none⟩)] rfl el ?_; (with_reducible refine (spec_l2Sig.calls k g s0_0 s0_1 t134 t137 w0 _ ?side1 ?side2 A2.out).mono ?_); (case side1 => exact IsS145.q HI0.out); (case side2 => exact hsk HB.out (IsS145.ge HI0.out)); rintro e w66 ⟨v135, rfl, ho0, hi, hb, hk⟩; refine ⟨_, rfl, ?_⟩; have n0_ := am (KeepBut.blk hk (g' := gb133) (o := .cells #[.slice none 0 0] 26 (0, 0)) (bq BK133.out) NB133_0.out (by simp)); have n1_ := am (Kd.R_lower ho0 (keep_size (w := w) (g := g) (row := none) (ks HK.out))); have n2_ := am (KeepBut.trans (ks HK.out) hk (.inl rfl)); have n3_ := am (hb); have n4_ := am (hi); clear BK133 HK HB HI0; revert n0_ n1_ n2_ n3_ n4_; intro BK133 HO136 HK HB HI0; (try clear hb); (try clear hb2); (try clear hgw); (try clear hk); (try clear hi); (try clear ho0)) | ((with_reducible refine gate_dst (N := 3) rfl ?_); refine box_event ?hg (N := 3) ?hd (cs := #[.slice none 0 0]) (t := 26) ?hr ?_; (case hd => rfl); (case hg => rfl); (case hr => first | (go_simp; done) | (go_simp; rfl)); intro gb138 hg w67 hbox hb; have n0_ := am (Kd.R_below (rq HO136.out) hb); have n1_ := am (IsS145.below (IsS145.q HI0.out) hb); have n2_ := am (blk_below (bq BK133.out) hb); have n3_ := am (KeepBut.trans (ks HK.out) (KeepBut.of_below hb g none) (.inl rfl)); have n4_ := am (below_step (hsk HB.out (IsS145.ge HI0.out)) hb); have n5_ := am (hbox); have n6_ := am ((by rw [hg]; exact (keep_size (w := w) (g := g) (row := none) (ks HK.out)) : w.heap.size ≤ gb138)); have n7_ := am (Nat.le_trans HW0.out n6_.out); have n8_ := am ((by rw [hg]; exact Nat.ne_of_lt (blk_lt (bq BK133.out)) : gb133 ≠ gb138)); have n9_ := am ((by rw [hg]; exact Nat.ne_of_gt (blk_lt (bq BK133.out)) : gb138 ≠ gb133)); have n10_ := am ((by rw [hg]; exact Nat.ne_of_lt (IsS145.lt (show IsS145 w0 _ g s0_0 t137 from by exact IsS145.q HI0.out)) : g ≠ gb138)); have n11_ := am n10_.out.symm; clear HO136 HI0 BK133 HK HB; revert n0_ n1_ n2_ n3_ n4_ n5_ n6_ n7_ n8_ n9_ n10_ n11_; intro HO136 HI0 BK133 HK HB BK138 GW138 GE138 NB133_138 NB138_133 NB0_138 NB138_0; clear hb hbox hg; obtain ⟨Ao68, co68, eo68⟩ := Kd.R_slice HO136.out; subst eo68; have hnb69 := NB138_133.out; have hnc69 := NB133_138.out; have hnb70 := NB138_0.out; have hnc70 := NB0_138.out; have hcz71_0 : w67.cell? ⟨gb138, 0, none⟩ = some (.slice none 0 0) := (blk_cell BK138.out 0).trans rfl; have hfz71_0 := blk_frozen BK138.out 0) | ((with_reducible refine gate_callee (f := 119) rfl ?_); refine goesL_ (some 12) rfl rfl Tryd.func119 (by kernel_rfl) rfl #[.pointer (some ⟨g, 0, none⟩), .int .i64 9] rfl el ?_; (with_reducible refine (spec_l1Chance.calls g s0_0 t137 9 true t140 w0 _ ?side1 ?side2 A3.out).mono ?_); (case side1 => exact IsS145.q HI0.out); (case side2 => exact hsk HB.out (IsS145.ge HI0.out)); rintro e w72 ⟨rfl, hi, hb, hk⟩; refine ⟨_, rfl, ?_⟩; have n0_ := am (KeepBut.blk hk (g' := gb133) (o := .cells #[.slice none 0 0] 26 (0, 0)) (by refine bq ?_; refine blk_far ?_ NB133_138.out _; refine bq ?_; exact BK133.out) NB133_0.out (by simp)); have n1_ := am (Kd.R_mono (Kd.R_keep (IsS145.apart (show IsS145 w0 _ g s0_0 t137 from by exact IsS145.q HI0.out) (by (with_reducible repeat (first | apply Kd.R_alloc | apply Kd.R_drewN | apply Kd.R_drew)); exact (Kd.R_mono (Kd.R_far (p := ⟨gb138, 0, none⟩) (Kd.R_types HO136.out BK138.out (by decide)) (fun _ hk => hk.2) (.slice Ao68 t134.length co68)) (fun _ h_ => h_.1))) (by decide)) hk (fun _ h => h.2)) (fun _ h => h.1)); have n2_ := am (KeepBut.blk hk (g' := gb138) (o := .cells #[.slice Ao68 t134.length co68] 26 (0, 0)) (by refine bq ?_; refine blk_put (cs := #[.slice none 0 0]) ?_ 0 _ rfl; refine bq ?_; exact BK138.out) NB138_0.out (by simp)); have n3_ := am (KeepBut.trans (ks HK.out) hk (.inl rfl)); have n4_ := am (hb); have n5_ := am (hi); clear BK133 HO136 BK138 HK HB HI0; revert n0_ n1_ n2_ n3_ n4_ n5_; intro BK133 HO136 BK138 HK HB HI0; (try clear hb); (try clear hb2); (try clear hgw); (try clear hk); (try clear hi)) | ((with_reducible refine gate_callee (f := 120) rfl ?_); refine goesL_ (some 16) rfl rfl Tryd.func120 (by kernel_rfl) rfl #[.pointer (some ⟨g, 0, none⟩), .int .i64 7] rfl el ?_; (with_reducible refine (spec_l1Next.calls g s0_0 t140 7 t141 t142 w0 _ ?side1 ?side2 A5.out).mono ?_); (case side1 => exact IsS145.q HI0.out); (case side2 => exact hsk HB.out (IsS145.ge HI0.out)); rintro e w73 ⟨rfl, hi, hb, hk⟩; refine ⟨_, rfl, ?_⟩; have n0_ := am (KeepBut.blk hk (g' := gb133) (o := .cells #[.slice none 0 0] 26 (0, 0)) (bq BK133.out) NB133_0.out (by simp)); have n1_ := am (Kd.R_mono (Kd.R_keep (IsS145.apart (show IsS145 w0 _ g s0_0 t140 from by exact IsS145.q HI0.out) (rq HO136.out) (by decide)) hk (fun _ h => h.2)) (fun _ h => h.1)); have n2_ := am (KeepBut.blk hk (g' := gb138) (o := .cells #[.slice Ao68 t134.length co68] 26 (0, 0)) (bq BK138.out) NB138_0.out (by simp)); have n3_ := am (KeepBut.trans (ks HK.out) hk (.inl rfl)); have n4_ := am (hb); have n5_ := am (hi); clear BK133 HO136 BK138 HK HB HI0; revert n0_ n1_ n2_ n3_ n4_ n5_; intro BK133 HO136 BK138 HK HB HI0; (try clear hb); (try clear hb2); (try clear hgw); (try clear hk); (try clear hi)))
        have n0_ := am (Kd.R_drew HO136.out)
        have n1_ := am (blk_drew BK133.out)
        have n2_ := am (blk_drew BK138.out)
        have n3_ := am (IsS145.drew HI0.out)
        have n4_ := am (keep_drew HK.out)
        have n5_ := am (below_drew1 HB.out)
        clear HO136
        clear BK133
        clear BK138
        clear HI0
        clear HK
        clear HB
        have HO136 := n0_
        have BK133 := n1_
        have BK138 := n2_
        have HI0 := n3_
        have HK := n4_
        have HB := n5_
        clear n0_ n1_ n2_ n3_ n4_ n5_
        refine start_ (n := 11) (S := fun w' => w'.cell? ⟨gb138, 0, none⟩ = some (.slice Ao68 t134.length co68)) (ds := [10]) #[false, false, false, false, false, false, false, false, false, false, false] (by kernel_rfl) rfl rfl ((blk_cell BK138.out 0).trans rfl) (fun hHeld => ?_); refine with_tabW spec_l2Bent.tab15 spec_l2Bent.bits15 (fun HT_ HW_ => ?_)
        generalize w73.drew = w74 at HO136 BK133 BK138 HI0 HK HB hHeld ⊢
        refine pure_ (i := 0) (N := some 49) (v := ?_) (a' := ?_) #[true, false, false, false, false, false, false, false, false, false, false] rfl rfl (any_of HT_.out (by kernel_rfl)) (fun _ _ _ h => h) (Or.inl ⟨by rfl, ?_⟩) ?_ ?_
        rotate_left
        ·intro w'
         go_simp
         with_reducible rfl
        rotate_left
        ·simp only [Act.put, lsp, i64_w, i32_w]
         rfl
        refine pure_ (i := 2) (N := some 51) (v := ?_) (a' := ?_) #[true, false, true, false, false, false, false, false, false, false, false] rfl rfl (any_of HT_.out (by kernel_rfl)) (fun _ _ _ h => h) (Or.inl ⟨by rfl, ?_⟩) ?_ ?_
        rotate_left
        ·intro w'
         go_simp
         with_reducible rfl
        rotate_left
        ·simp only [Act.put, lsp, i64_w, i32_w]
         rfl
        refine pure_ (i := 3) (N := some 52) (v := ?_) (a' := ?_) #[true, false, true, true, false, false, false, false, false, false, false] rfl rfl (any_of HT_.out (by kernel_rfl)) (fun _ _ _ h => h) (Or.inl ⟨by rfl, ?_⟩) ?_ ?_
        rotate_left
        ·intro w'
         go_simp
         with_reducible rfl
        rotate_left
        ·simp only [Act.put, lsp, i64_w, i32_w]
         rfl
        refine pure_ (i := 5) (N := some 54) (v := ?_) (a' := ?_) #[true, false, true, true, false, true, false, false, false, false, false] rfl rfl (any_of HT_.out (by kernel_rfl)) (fun _ _ _ h => h) (Or.inl ⟨by rfl, ?_⟩) ?_ ?_
        rotate_left
        ·intro w'
         go_simp
         with_reducible rfl
        rotate_left
        ·simp only [Act.put, lsp, i64_w, i32_w]
         rfl
        refine take_ (i := 1) (N := some 50) (v := ?_) (a' := ?_) #[true, true, true, true, false, true, false, false, false, false, false] rfl rfl (take_ofW HT_.out HW_.out (by kernel_rfl)) (fun _ _ _ h => h) (Or.inl ⟨by rfl, ?_⟩) hHeld ?_ ?_
        rotate_left
        ·intro w' s0
         go_simp
         with_reducible rfl
        rotate_left
        ·simp only [Act.put, lsp, i64_w, i32_w]
         rfl
        refine join_ (σ := Value) 4 #[true, true, true, true, true, true, true, false, false, false, false] (fun s_ => [(53, .int .i64 t147), (55, s_)]) (fun s_ w' => (w'.cell? ⟨gb138, 0, none⟩ = some (.slice Ao68 t134.length co68)) ∧ (Kd.R k110 110 w' w.heap.size (fun _ => True) (.slice Ao68 t134.length co68) t134) ∧ (Kd.R (Kd.int .i64) 2 w' w.heap.size (fun _ => True) s_ y149) ∧ (w'.heap[gb133]? = some (.cells #[.slice none 0 0] 26 (0, 0))) ∧ (w'.heap[gb138]? = some (.cells #[.slice Ao68 t134.length co68] 26 (0, 0))) ∧ (IsS145 w0 w' g s0_0 t148) ∧ (KeepBut w w' g none) ∧ (Below w0.heap.size w0 w')) ?_ ?_
        rotate_left
        ·intro hCont
         refine two_ (i := 4) (j := 6) (Ni := some 53) (Nj := some 55) #[true, true, true, true, true, true, false, false, false, false, false] #[true, true, true, true, false, true, true, false, false, false, false] rfl rfl rfl rfl (two_of HT_.out (by kernel_rfl)) (by decide) (by decide) (fun K hK => ?_) (fun K hK => ?_)
         ·skip
          refine goes_ Tryd.func120 (by kernel_rfl) rfl #[.pointer (some ⟨g, 0, none⟩), .int .i64 (t134.length : Int)] (by rfl) rfl rfl el ?_
          with_reducible refine (spec_l1Next.calls g s0_0 t142 (t134.length : Int) t147 t148 w0 _ ?side1 ?side2 A60.out).mono ?_
          (case side1 => exact IsS145.q HI0.out)
          (case side2 => exact hsk HB.out (IsS145.ge HI0.out))
          rintro e w75 ⟨rfl, hi, hb, hk⟩
          refine ⟨_, rfl, ?_⟩
          have n0_ := am (KeepBut.blk hk (g' := gb133) (o := .cells #[.slice none 0 0] 26 (0, 0)) (bq BK133.out) NB133_0.out (by simp))
          have n1_ := am (Kd.R_mono (Kd.R_keep (IsS145.apart (show IsS145 w0 _ g s0_0 t142 from by exact IsS145.q HI0.out) (rq HO136.out) (by decide)) hk (fun _ h => h.2)) (fun _ h => h.1))
          have n2_ := am (KeepBut.blk hk (g' := gb138) (o := .cells #[.slice Ao68 t134.length co68] 26 (0, 0)) (bq BK138.out) NB138_0.out (by simp))
          have n3_ := am (KeepBut.trans (ks HK.out) hk (.inl rfl))
          have n4_ := am (hb)
          have n5_ := am (hi)
          clear BK133
          clear HO136
          clear BK138
          clear HK
          clear HB
          clear HI0
          have BK133 := n0_
          have HO136 := n1_
          have BK138 := n2_
          have HK := n3_
          have HB := n4_
          have HI0 := n5_
          clear n0_ n1_ n2_ n3_ n4_ n5_
          (try clear hb)
          (try clear hb2)
          (try clear hgw)
          (try clear hk)
          (try clear hi)
          refine hK.out _ _ ((blk_cell BK138.out 0).trans rfl) (fun hHeld => ?_)
          clear hK K
          refine norm_ (a' := ?_) ?_ ?_
          rotate_left
          ·show Act.put _ (some 53) _ = _
           simp only [Act.put, lsp, i64_w, i32_w]
           rfl
          refine one_ (i := 6) (N := some 55) #[true, true, true, true, true, true, true, false, false, false, false] rfl rfl (one_of HT_.out (by kernel_rfl)) (by decide) (fun K hK => ?_)
          refine Kd.R_lit_step (Kd.int .i64) _ 2 ?hg (N := 55) ?hd (xs := ([3, (-1)] : List Int)) (inner := [.int .i64 3, .int .i64 (-1)]) (ok := fun _ => True) (okp := fun _ => True) ?hr ?hp (fun _ hk => hk) trivial (Below.refl _ _) (Nat.le_refl _) (by simp) ?_; (case hd => rfl); (case hg => rfl); (case hr => first | (go_simp; done) | (go_simp; rfl)); (case hp => exact (Reps.one (show Kd.M (Kd.int .i64) _ _ _ 3 [.int .i64 3] from rfl) (Reps.one (show Kd.M (Kd.int .i64) _ _ _ (-1) [.int .i64 (-1)] from rfl) (Reps.none _ _))))
          intro v150 w76 ho77 hb hg_ hnew_
          clear hg_ hnew_
          (first | rw [← Ny149.out] at ho77 | (simp only [Int.reduceToNat] at ho77; rw [← Ny149.out] at ho77))
          have n0_ := am (Kd.R_below (rq HO136.out) hb)
          have n1_ := am (Kd.R_lower ho77 (keep_size (w := w) (g := g) (row := none) (ks HK.out)))
          have n2_ := am (IsS145.below (IsS145.q HI0.out) hb)
          have n3_ := am (blk_below (bq BK133.out) hb)
          have n4_ := am (blk_below (bq BK138.out) hb)
          have n5_ := am (KeepBut.trans (ks HK.out) (KeepBut.of_below hb g none) (.inl rfl))
          have n6_ := am (below_step (hsk HB.out (IsS145.ge HI0.out)) hb)
          clear HO136
          clear HI0
          clear BK133
          clear BK138
          clear HK
          clear HB
          have HO136 := n0_
          have HO151 := n1_
          have HI0 := n2_
          have BK133 := n3_
          have BK138 := n4_
          have HK := n5_
          have HB := n6_
          clear n0_ n1_ n2_ n3_ n4_ n5_ n6_
          clear hb ho77
          refine hK.out _ _ ((blk_cell BK138.out 0).trans rfl) (fun hHeld => ?_)
          clear hK K
          refine norm_ (a' := ?_) ?_ ?_
          rotate_left
          ·show Act.put _ (some 55) _ = _
           simp only [Act.put, lsp, i64_w, i32_w]
           rfl
          exact norm_ (by simp only [putAll, Act.put, lsp]) (hCont (v150) _ ⟨hHeld, (rq HO136.out), (rq HO151.out), (bq BK133.out), (bq BK138.out), (IsS145.q HI0.out), (ks HK.out), (hsk HB.out (IsS145.ge HI0.out))⟩)
         ·skip
          refine Kd.R_lit_step (Kd.int .i64) _ 2 ?hg (N := 55) ?hd (xs := ([3, (-1)] : List Int)) (inner := [.int .i64 3, .int .i64 (-1)]) (ok := fun _ => True) (okp := fun _ => True) ?hr ?hp (fun _ hk => hk) trivial (Below.refl _ _) (Nat.le_refl _) (by simp) ?_; (case hd => rfl); (case hg => rfl); (case hr => first | (go_simp; done) | (go_simp; rfl)); (case hp => exact (Reps.one (show Kd.M (Kd.int .i64) _ _ _ 3 [.int .i64 3] from rfl) (Reps.one (show Kd.M (Kd.int .i64) _ _ _ (-1) [.int .i64 (-1)] from rfl) (Reps.none _ _))))
          intro v150 w75 ho76 hb hg_ hnew_
          clear hg_ hnew_
          (first | rw [← Ny149.out] at ho76 | (simp only [Int.reduceToNat] at ho76; rw [← Ny149.out] at ho76))
          have n0_ := am (Kd.R_below (rq HO136.out) hb)
          have n1_ := am (Kd.R_lower ho76 (keep_size (w := w) (g := g) (row := none) (ks HK.out)))
          have n2_ := am (IsS145.below (IsS145.q HI0.out) hb)
          have n3_ := am (blk_below (bq BK133.out) hb)
          have n4_ := am (blk_below (bq BK138.out) hb)
          have n5_ := am (KeepBut.trans (ks HK.out) (KeepBut.of_below hb g none) (.inl rfl))
          have n6_ := am (below_step (hsk HB.out (IsS145.ge HI0.out)) hb)
          clear HO136
          clear HI0
          clear BK133
          clear BK138
          clear HK
          clear HB
          have HO136 := n0_
          have HO151 := n1_
          have HI0 := n2_
          have BK133 := n3_
          have BK138 := n4_
          have HK := n5_
          have HB := n6_
          clear n0_ n1_ n2_ n3_ n4_ n5_ n6_
          clear hb ho76
          refine hK.out _ _ ((blk_cell BK138.out 0).trans rfl) (fun hHeld => ?_)
          clear hK K
          refine norm_ (a' := ?_) ?_ ?_
          rotate_left
          ·show Act.put _ (some 55) _ = _
           simp only [Act.put, lsp, i64_w, i32_w]
           rfl
          refine one_ (i := 4) (N := some 53) #[true, true, true, true, true, true, true, false, false, false, false] rfl rfl (one_of HT_.out (by kernel_rfl)) (by decide) (fun K hK => ?_)
          refine goes_ Tryd.func120 (by kernel_rfl) rfl #[.pointer (some ⟨g, 0, none⟩), .int .i64 (t134.length : Int)] (by rfl) rfl rfl el ?_
          with_reducible refine (spec_l1Next.calls g s0_0 t142 (t134.length : Int) t147 t148 w0 _ ?side1 ?side2 A60.out).mono ?_
          (case side1 => exact IsS145.q HI0.out)
          (case side2 => exact hsk HB.out (IsS145.ge HI0.out))
          rintro e w77 ⟨rfl, hi, hb, hk⟩
          refine ⟨_, rfl, ?_⟩
          have n0_ := am (KeepBut.blk hk (g' := gb133) (o := .cells #[.slice none 0 0] 26 (0, 0)) (bq BK133.out) NB133_0.out (by simp))
          have n1_ := am (Kd.R_mono (Kd.R_keep (IsS145.apart (show IsS145 w0 _ g s0_0 t142 from by exact IsS145.q HI0.out) (rq HO136.out) (by decide)) hk (fun _ h => h.2)) (fun _ h => h.1))
          have n2_ := am (KeepBut.blk hk (g' := gb138) (o := .cells #[.slice Ao68 t134.length co68] 26 (0, 0)) (bq BK138.out) NB138_0.out (by simp))
          have n3_ := am (Kd.R_mono (Kd.R_keep (IsS145.apart (show IsS145 w0 _ g s0_0 t142 from by exact IsS145.q HI0.out) (rq HO151.out) (by decide)) hk (fun _ h => h.2)) (fun _ h => h.1))
          have n4_ := am (KeepBut.trans (ks HK.out) hk (.inl rfl))
          have n5_ := am (hb)
          have n6_ := am (hi)
          clear BK133
          clear HO136
          clear BK138
          clear HO151
          clear HK
          clear HB
          clear HI0
          have BK133 := n0_
          have HO136 := n1_
          have BK138 := n2_
          have HO151 := n3_
          have HK := n4_
          have HB := n5_
          have HI0 := n6_
          clear n0_ n1_ n2_ n3_ n4_ n5_ n6_
          (try clear hb)
          (try clear hb2)
          (try clear hgw)
          (try clear hk)
          (try clear hi)
          refine hK.out _ _ ((blk_cell BK138.out 0).trans rfl) (fun hHeld => ?_)
          clear hK K
          refine norm_ (a' := ?_) ?_ ?_
          rotate_left
          ·show Act.put _ (some 53) _ = _
           simp only [Act.put, lsp, i64_w, i32_w]
           rfl
          exact norm_ (by simp only [putAll, Act.put, lsp]) (hCont (v150) _ ⟨hHeld, (rq HO136.out), (rq HO151.out), (bq BK133.out), (bq BK138.out), (IsS145.q HI0.out), (ks HK.out), (hsk HB.out (IsS145.ge HI0.out))⟩)
        rintro v150 w78 ⟨hS_, h0_, h1_, h2_, h3_, h4_, h5_, h6_⟩
        have n0_ : Aside0 (Kd.R k110 110 w78 w.heap.size (fun _ => True) (.slice Ao68 t134.length co68) t134) := ⟨h0_⟩
        have n1_ : Aside0 (Kd.R (Kd.int .i64) 2 w78 w.heap.size (fun _ => True) v150 y149) := ⟨h1_⟩
        have n2_ : Aside0 (w78.heap[gb133]? = some (.cells #[.slice none 0 0] 26 (0, 0))) := ⟨h2_⟩
        have n3_ : Aside0 (w78.heap[gb138]? = some (.cells #[.slice Ao68 t134.length co68] 26 (0, 0))) := ⟨h3_⟩
        have n4_ : Aside0 (IsS145 w0 w78 g s0_0 t148) := ⟨h4_⟩
        have n5_ : Aside0 (KeepBut w w78 g none) := ⟨h5_⟩
        have n6_ : Aside0 (Below w0.heap.size w0 w78) := ⟨h6_⟩
        clear HO136
        clear BK133
        clear BK138
        clear HI0
        clear HK
        clear HB
        clear h0_ h1_ h2_ h3_ h4_ h5_ h6_
        have HO136 := n0_
        have HO151 := n1_
        have BK133 := n2_
        have BK138 := n3_
        have HI0 := n4_
        have HK := n5_
        have HB := n6_
        clear n0_ n1_ n2_ n3_ n4_ n5_ n6_
        have hHeld : w78.cell? ⟨gb138, 0, none⟩ = some (.slice Ao68 t134.length co68) := hS_
        obtain ⟨Ao79, co79, eo79⟩ := Kd.R_slice HO151.out
        (first | subst eo79 | (injection eo79 with f1_ f2_ f3_; have f4_ := f1_.symm; have f5_ := f3_.symm; clear f1_ f2_ f3_; subst f4_; subst f5_))
        refine norm_ (a' := ?_) ?_ ?_
        rotate_left
        ·simp only [putAll, Act.put, lsp]
         rfl
        refine one_ (i := 7) (N := some 56) #[true, true, true, true, true, true, true, true, false, false, false] rfl rfl (one_of HT_.out (by kernel_rfl)) (by decide) (fun K hK => ?_)
        refine goes_ Tryd.func109 (by kernel_rfl) rfl #[.pointer (some ⟨g, 0, none⟩), .slice Ao79 y149.length co79] (by rfl) rfl rfl el ?_
        with_reducible refine (spec_l1Pick.calls g s0_0 t148 _ _ y149 t152 t153 w0 _ ?side1 ?side2 ?side3 ?side4 ?side5 A61.out).mono ?_
        (case side1 => exact IsS145.q HI0.out)
        (case side2 => exact hsk HB.out (IsS145.ge HI0.out))
        (case side3 => repeat (first | exact (Kd.R_reads' HO151.out).2.2 | (with_reducible refine Kd.C_alloc ?_ _) | (with_reducible refine Kd.C_drewN ?_ _) | (with_reducible refine Kd.C_drew ?_)))
        (case side4 => exact (Kd.R_reads' HO151.out).2.1)
        (case side5 => exact far_slice (IsS145.own_ne HI0.out HO151.out (by decide)))
        rintro e w80 ⟨rfl, hi, hb, hk⟩
        refine ⟨_, rfl, ?_⟩
        have n0_ := am (KeepBut.blk hk (g' := gb133) (o := .cells #[.slice none 0 0] 26 (0, 0)) (bq BK133.out) NB133_0.out (by simp))
        have n1_ := am (Kd.R_mono (Kd.R_keep (IsS145.apart (show IsS145 w0 _ g s0_0 t148 from by exact IsS145.q HI0.out) (rq HO136.out) (by decide)) hk (fun _ h => h.2)) (fun _ h => h.1))
        have n2_ := am (KeepBut.blk hk (g' := gb138) (o := .cells #[.slice Ao68 t134.length co68] 26 (0, 0)) (bq BK138.out) NB138_0.out (by simp))
        have n3_ := am (Kd.R_mono (Kd.R_keep (IsS145.apart (show IsS145 w0 _ g s0_0 t148 from by exact IsS145.q HI0.out) (rq HO151.out) (by decide)) hk (fun _ h => h.2)) (fun _ h => h.1))
        have n4_ := am (KeepBut.trans (ks HK.out) hk (.inl rfl))
        have n5_ := am (hb)
        have n6_ := am (hi)
        clear BK133
        clear HO136
        clear BK138
        clear HO151
        clear HK
        clear HB
        clear HI0
        have BK133 := n0_
        have HO136 := n1_
        have BK138 := n2_
        have HO151 := n3_
        have HK := n4_
        have HB := n5_
        have HI0 := n6_
        clear n0_ n1_ n2_ n3_ n4_ n5_ n6_
        (try clear hb)
        (try clear hb2)
        (try clear hgw)
        (try clear hk)
        (try clear hi)
        have p64 : 0 ≤ (t147 : Int) := of_decide_eq_true (by first | (with_reducible assumption) | assumption)
        have q64 : (t147 : Int) < ((t134.length : Int) : Int) := of_decide_eq_true (by first | (with_reducible assumption) | assumption)
        obtain ⟨go64, co64, eo64, gb64, gl64, cl64, HG64⟩ := Kd.R_form HO136.out (by omega)
        (first | cases eo64 | (injection eo64 with ea_ en_ ec_; (first | subst ea_ | (injection ea_ with ea_; subst ea_)); subst ec_; clear en_))
        have GB64 := am gb64
        have GG64 := am HG64
        clear gb64 gl64 HG64
        obtain ⟨ce64, hcl64, hM64, hcc64, hfr64⟩ := Kd.R_elem HO136.out z110 (t147 : Int) p64 q64
        obtain rfl := k110_openM hM64
        have hx64_0 : World.cell? _ ⟨go64, (t147 : Int).toNat * 2, none⟩ = some (.string ((rd_T110 t134 t147).f0)) := hcc64 0 _ rfl
        have hx64_1 : World.cell? _ ⟨go64, (t147 : Int).toNat * 2 + 1, none⟩ = some (.int .i64 ((rd_T110 t134 t147).f1)) := hcc64 1 _ rfl
        have hf64_0 : World.frozen? _ ⟨go64, (t147 : Int).toNat * 2, none⟩ = false := hfr64 0
        have hf64_1 : World.frozen? _ ⟨go64, (t147 : Int).toNat * 2 + 1, none⟩ = false := hfr64 1
        clear hcl64 hcc64 hfr64; (try clear hM64)
        replace p64 := eq_true p64
        replace q64 := eq_true q64
        have HN0_go64 := am (show g ≠ go64 from by have h_ := IsS145.own_ne HI0.out HO136.out (by decide); intro e_; exact h_ (by rw [e_]; rfl))
        obtain ⟨ce81, hcl81, hM81, hcc81, hfr81⟩ := Kd.R_elem HO136.out z110 (t147 : Int) (of_decide_eq_true (by first | (with_reducible assumption) | assumption)) (by have h_ : (t147 : Int) < ((t134.length : Int) : Int) := of_decide_eq_true (by first | (with_reducible assumption) | assumption); first | exact h_ | (have e_ := (Kd.R_reads' HO136.out).1; omega) | simpa using h_)
        obtain rfl := k110_openM hM81
        have HP81 := (Kd.R_seg HO136.out (t147 : Int) (of_decide_eq_true (by first | (with_reducible assumption) | assumption)) (by have h_ : (t147 : Int) < ((t134.length : Int) : Int) := of_decide_eq_true (by first | (with_reducible assumption) | assumption); first | exact h_ | (have e_ := (Kd.R_reads' HO136.out).1; omega) | simpa using h_) (seg := [.int .i64 t152]) (j := 1) hcl81 hcc81 (show 2 ≤ 2 from by decide) (x' := (⟨(rd_T110 t134 t147).f0, t152⟩ : S110)) (k110_mkM _ _ _ (⟨(rd_T110 t134 t147).f0, t152⟩ : S110) ) (fun _ hk => hk)).1
        rw [← Ny154.out] at HP81
        have HQ81 := am HP81
        clear hcl81 hcc81 hfr81 HP81; (try clear hM81)
        refine hK.out _ _ ((blk_cell BK138.out 0).trans rfl) (fun hHeld => ?_)
        clear hK K
        refine norm_ (a' := ?_) ?_ ?_
        rotate_left
        ·show Act.put _ (some 56) _ = _
         simp only [Act.put, lsp, i64_w, i32_w]
         rfl
        refine pure_ (i := 8) (N := some 57) (v := ?_) (a' := ?_) #[true, true, true, true, true, true, true, true, true, false, false] rfl rfl (any_of HT_.out (by kernel_rfl)) (fun _ _ _ h => h) (Or.inl ⟨by rfl, ?_⟩) ?_ ?_
        rotate_left
        ·intro w'
         go_simp
         with_reducible rfl
        rotate_left
        ·simp only [Act.put, lsp, i64_w, i32_w]
         rfl
        refine pure_ (i := 9) (N := some 58) (v := ?_) (a' := ?_) #[true, true, true, true, true, true, true, true, true, true, false] rfl rfl (any_of HT_.out (by kernel_rfl)) (fun _ _ _ h => h) (Or.inl ⟨by rfl, ?_⟩) ?_ ?_
        rotate_left
        ·intro w'
         go_simp
         with_reducible rfl
        rotate_left
        ·simp only [Act.put, lsp, i64_w, i32_w]
         rfl
        refine last_ (i := 10) (N := none) #[true, true, true, true, true, true, true, true, true, true, true] rfl rfl (one_of HT_.out (by kernel_rfl)) (by decide) (fun K hK => ?_)
        refine skip_ (w1 := ?_) (by rfl) rfl ?_ ?_
        rotate_left
        ·go_simp
         rfl
        refine hK.out _ _ ?_
        clear hK K
        refine done_ (done_of HT_.out (by kernel_rfl)) ?_
        have n0_ : Aside0 (Kd.R k110 110 (w80.setCell ⟨go64, (t147 : Int).toNat * 2 + 1, none⟩ (.int .i64 t152)) w.heap.size (fun _ => True) (.slice (some ⟨go64, 0, none⟩) t134.length co68) y154) := ⟨by (with_reducible repeat (first | apply Kd.R_alloc | apply Kd.R_drewN | apply Kd.R_drew)); exact HQ81.out⟩
        have n1_ : Aside0 (Kd.R (Kd.int .i64) 2 (w80.setCell ⟨go64, (t147 : Int).toNat * 2 + 1, none⟩ (.int .i64 t152)) w.heap.size (fun _ => True) (.slice Ao79 y149.length co79) y149) := ⟨by (with_reducible repeat (first | apply Kd.R_alloc | apply Kd.R_drewN | apply Kd.R_drew)); exact Kd.R_mono (Kd.R_far (p := ⟨go64, (t147 : Int).toNat * 2 + 1, none⟩) (Kd.R_types HO151.out GG64.out (by decide)) (fun _ hk => hk.2) (.int .i64 t152)) (fun _ hk => trivial)⟩
        have n2_ : Aside0 ((w80.setCell ⟨go64, (t147 : Int).toNat * 2 + 1, none⟩ (.int .i64 t152)).heap[gb133]? = some (.cells #[.slice none 0 0] 26 (0, 0))) := ⟨by refine bq ?_; refine blk_far ?_ (by have h_ := Kd.R_ne HO136.out BK133.out (by decide); intro e_; exact h_ (by rw [e_]; rfl)) _; refine bq ?_; exact BK133.out⟩
        have n3_ : Aside0 ((w80.setCell ⟨go64, (t147 : Int).toNat * 2 + 1, none⟩ (.int .i64 t152)).heap[gb138]? = some (.cells #[.slice (some ⟨go64, 0, none⟩) t134.length co68] 26 (0, 0))) := ⟨by refine bq ?_; refine blk_far ?_ (by have h_ := Kd.R_ne HO136.out BK138.out (by decide); intro e_; exact h_ (by rw [e_]; rfl)) _; refine bq ?_; exact BK138.out⟩
        have n4_ : Aside0 (IsS145 w0 (w80.setCell ⟨go64, (t147 : Int).toNat * 2 + 1, none⟩ (.int .i64 t152)) g s0_0 t153) := ⟨by exact IsS145.q HI0.out⟩
        have n5_ : Aside0 (KeepBut w (w80.setCell ⟨go64, (t147 : Int).toNat * 2 + 1, none⟩ (.int .i64 t152)) g none) := ⟨by exact ks HK.out⟩
        have n6_ : Aside0 (Below w0.heap.size w0 (w80.setCell ⟨go64, (t147 : Int).toNat * 2 + 1, none⟩ (.int .i64 t152))) := ⟨by repeat (first | (with_reducible first | exact HB.out | apply below_alloc | apply pw_below_drewN | apply below_drew1 | refine below_set ?_ (Nat.le_trans HL.out GB64.out) | refine below_set ?_ (IsS145.ge HI0.out) | refine below_set ?_ GE133.out | refine below_set ?_ GE138.out) | exact HB.out)⟩
        (try clear HO136)
        (try clear HO151)
        (try clear BK133)
        (try clear BK138)
        (try clear HI0)
        (try clear HK)
        (try clear HB)
        (try simp only [Go.IntKind.wrap_u8])
        generalize (w80.setCell ⟨go64, (t147 : Int).toNat * 2 + 1, none⟩ (.int .i64 t152)) = w82 at n0_ n1_ n2_ n3_ n4_ n5_ n6_ ⊢
        have HO136 := n0_
        have HO151 := n1_
        have BK133 := n2_
        have BK138 := n3_
        have HI0 := n4_
        have HK := n5_
        have HB := n6_
        clear n0_ n1_ n2_ n3_ n4_ n5_ n6_
        have hcz83_0 : w82.cell? ⟨gb138, 0, none⟩ = some (.slice (some ⟨go64, 0, none⟩) t134.length co68) := (blk_cell BK138.out 0).trans rfl
        have hfz83_0 := blk_frozen BK138.out 0
        have hnb84 := NB133_0.out
        have hnc84 := NB0_133.out
        have hcz85_0 : w82.cell? ⟨gb133, 0, none⟩ = some (.slice none 0 0) := (blk_cell BK133.out 0).trans rfl
        have hfz85_0 := blk_frozen BK133.out 0
        try go_wp2
        refine bodyPost_ret (results_cell_row rfl _ _ gb133 26 #[.slice (some ⟨go64, 0, none⟩) t134.length co68] (0, 0) _ rfl (by refine bq ?_; refine blk_put (cs := #[.slice none 0 0]) ?_ 0 _ rfl; refine bq ?_; exact BK133.out) Tryd.underlying26 rfl (by kernel_rfl)) rfl ?_
        exact ⟨_, by first | rfl | (simp [errW_none, errW_some] <;> rfl) | (simp [*, errW_none, errW_some] <;> rfl), by (with_reducible repeat (first | apply Kd.R_alloc | apply Kd.R_drewN | apply Kd.R_drew)); exact Kd.R_mono (Kd.R_far (p := ⟨gb133, 0, none⟩) (Kd.R_types HO136.out BK133.out (by decide)) (fun _ hk => hk.2) (.slice (some ⟨go64, 0, none⟩) t134.length co68)) (fun _ hk => trivial), by exact IsS145.q HI0.out, by exact hsk HB.out (IsS145.ge HI0.out), by exact ks HK.out⟩
       ·rw [if_neg c63] at H
        exact absurd H (by simp)
      ·rw [if_neg c62] at H
       exact absurd H (by simp)
     ·rw [if_neg c59] at H
      have c59b0 : (t141 == 3) = false := beq_eq_false_iff_ne.mpr c59
      have c59b1 : (t141 != 3) = true := bne_iff_ne.mpr c59
      by_cases c86 : t141 = 4
      ·rw [if_pos c86] at H
       have c86b0 : (t141 == 4) = true := beq_iff_eq.mpr c86
       have c86b1 : (t141 != 4) = false := bne_eq_false_iff_eq.mpr c86
       clear c86
       by_cases c87 : 0 < (t134.length : Int)
       ·rw [if_pos c87] at H
        have c87b0 : decide (0 < (t134.length : Int)) = true := decide_eq_true c87
        have c87b1 : decide (0 < t134.length) = true := decide_eq_true (by omega)
        clear c87
        by_cases c88 : t134.length < 5864062014805
        ·rw [if_pos c88] at H
         have LMc88 := am c88
         clear c88
         obtain ⟨y156, hy156⟩ : ∃ y_ : List (S110), y_ = (t134 ++ [(⟨(rd_T110 t134 0).f0, (rd_T110 t134 0).f1⟩ : S110)]) := ⟨_, rfl⟩
         replace H : (some (y156, t142)) = some (r1, r2) := by first | (rw [hy156]; with_reducible exact H) | (have H2_ := (Option.bind_some _ _).symm.trans H; rw [hy156]; with_reducible exact H2_) | (have H2_ := (Option.bind_some _ _).symm.trans H; with_reducible exact H2_) | with_reducible exact H | (rw [hy156]; exact H) | exact H
         have Ny156 := am hy156
         clear hy156
         simp only [Option.some.injEq, Prod.mk.injEq] at H
         obtain ⟨rfl, rfl⟩ := H
         go_enter Tryd.func107, Tryd.ntmps107
         try go_wp2_with (first | ((with_reducible refine gate_dst (N := 2) rfl ?_); refine box_event ?hg (N := 2) ?hd (cs := #[.slice none 0 0]) (t := 26) ?hr ?_; (case hd => rfl); (case hg => rfl); (case hr => first | (go_simp; done) | (go_simp; rfl)); intro gb133 hg w89 hbox hb; have n0_ := am (IsS145.below (IsS145.q HI0.out) hb); have n1_ := am (KeepBut.trans (kq HK.out) (KeepBut.of_below hb g none) (.inl rfl)); have n2_ := am (below_step (hsk HB.out (IsS145.ge HI0.out)) hb); have n3_ := am (hbox); have n4_ := am ((by rw [hg]; exact (keep_size (w := w) (g := g) (row := none) (kq HK.out)) : w.heap.size ≤ gb133)); have n5_ := am (Nat.le_trans HW0.out n4_.out); have n6_ := am ((by rw [hg]; exact Nat.ne_of_lt (IsS145.lt (show IsS145 w0 _ g s0_0 s0_1 from by exact IsS145.q HI0.out)) : g ≠ gb133)); have n7_ := am n6_.out.symm; clear HI0 HK HB; revert n0_ n1_ n2_ n3_ n4_ n5_ n6_ n7_; intro HI0 HK HB BK133 GW133 GE133 NB0_133 NB133_0; clear hb hbox hg) | ((with_reducible refine gate_callee (f := 118) rfl ?_); refine goesL_ (some 7) rfl rfl Tryd.func118 (by kernel_rfl) rfl #[.pointer (some ⟨g, 0, none⟩)] rfl el ?_; (with_reducible refine (spec_l2Sig.calls k g s0_0 s0_1 t134 t137 w0 _ ?side1 ?side2 A2.out).mono ?_); (case side1 => exact IsS145.q HI0.out); (case side2 => exact hsk HB.out (IsS145.ge HI0.out)); rintro e w90 ⟨v135, rfl, ho0, hi, hb, hk⟩; refine ⟨_, rfl, ?_⟩; have n0_ := am (KeepBut.blk hk (g' := gb133) (o := .cells #[.slice none 0 0] 26 (0, 0)) (bq BK133.out) NB133_0.out (by simp)); have n1_ := am (Kd.R_lower ho0 (keep_size (w := w) (g := g) (row := none) (ks HK.out))); have n2_ := am (KeepBut.trans (ks HK.out) hk (.inl rfl)); have n3_ := am (hb); have n4_ := am (hi); clear BK133 HK HB HI0; revert n0_ n1_ n2_ n3_ n4_; intro BK133 HO136 HK HB HI0; (try clear hb); (try clear hb2); (try clear hgw); (try clear hk); (try clear hi); (try clear ho0)) | ((with_reducible refine gate_dst (N := 3) rfl ?_); refine box_event ?hg (N := 3) ?hd (cs := #[.slice none 0 0]) (t := 26) ?hr ?_; (case hd => rfl); (case hg => rfl); (case hr => first | (go_simp; done) | (go_simp; rfl)); intro gb138 hg w91 hbox hb; have n0_ := am (Kd.R_below (rq HO136.out) hb); have n1_ := am (IsS145.below (IsS145.q HI0.out) hb); have n2_ := am (blk_below (bq BK133.out) hb); have n3_ := am (KeepBut.trans (ks HK.out) (KeepBut.of_below hb g none) (.inl rfl)); have n4_ := am (below_step (hsk HB.out (IsS145.ge HI0.out)) hb); have n5_ := am (hbox); have n6_ := am ((by rw [hg]; exact (keep_size (w := w) (g := g) (row := none) (ks HK.out)) : w.heap.size ≤ gb138)); have n7_ := am (Nat.le_trans HW0.out n6_.out); have n8_ := am ((by rw [hg]; exact Nat.ne_of_lt (blk_lt (bq BK133.out)) : gb133 ≠ gb138)); have n9_ := am ((by rw [hg]; exact Nat.ne_of_gt (blk_lt (bq BK133.out)) : gb138 ≠ gb133)); have n10_ := am ((by rw [hg]; exact Nat.ne_of_lt (IsS145.lt (show IsS145 w0 _ g s0_0 t137 from by exact IsS145.q HI0.out)) : g ≠ gb138)); have n11_ := am n10_.out.symm; clear HO136 HI0 BK133 HK HB; revert n0_ n1_ n2_ n3_ n4_ n5_ n6_ n7_ n8_ n9_ n10_ n11_; intro HO136 HI0 BK133 HK HB BK138 GW138 GE138 NB133_138 NB138_133 NB0_138 NB138_0; clear hb hbox hg; obtain ⟨Ao92, co92, eo92⟩ := Kd.R_slice HO136.out; subst eo92; have hnb93 := NB138_133.out; have hnc93 := NB133_138.out; have hnb94 := NB138_0.out; have hnc94 := NB0_138.out; have hcz95_0 : w91.cell? ⟨gb138, 0, none⟩ = some (.slice none 0 0) := (blk_cell BK138.out 0).trans rfl; have hfz95_0 := blk_frozen BK138.out 0) | ((with_reducible refine gate_callee (f := 119) rfl ?_); refine goesL_ (some 12) rfl rfl Tryd.func119 (by kernel_rfl) rfl #[.pointer (some ⟨g, 0, none⟩), .int .i64 9] rfl el ?_; (with_reducible refine (spec_l1Chance.calls g s0_0 t137 9 true t140 w0 _ ?side1 ?side2 A3.out).mono ?_); (case side1 => exact IsS145.q HI0.out); (case side2 => exact hsk HB.out (IsS145.ge HI0.out)); rintro e w96 ⟨rfl, hi, hb, hk⟩; refine ⟨_, rfl, ?_⟩; have n0_ := am (KeepBut.blk hk (g' := gb133) (o := .cells #[.slice none 0 0] 26 (0, 0)) (by refine bq ?_; refine blk_far ?_ NB133_138.out _; refine bq ?_; exact BK133.out) NB133_0.out (by simp)); have n1_ := am (Kd.R_mono (Kd.R_keep (IsS145.apart (show IsS145 w0 _ g s0_0 t137 from by exact IsS145.q HI0.out) (by (with_reducible repeat (first | apply Kd.R_alloc | apply Kd.R_drewN | apply Kd.R_drew)); exact (Kd.R_mono (Kd.R_far (p := ⟨gb138, 0, none⟩) (Kd.R_types HO136.out BK138.out (by decide)) (fun _ hk => hk.2) (.slice Ao92 t134.length co92)) (fun _ h_ => h_.1))) (by decide)) hk (fun _ h => h.2)) (fun _ h => h.1)); have n2_ := am (KeepBut.blk hk (g' := gb138) (o := .cells #[.slice Ao92 t134.length co92] 26 (0, 0)) (by refine bq ?_; refine blk_put (cs := #[.slice none 0 0]) ?_ 0 _ rfl; refine bq ?_; exact BK138.out) NB138_0.out (by simp)); have n3_ := am (KeepBut.trans (ks HK.out) hk (.inl rfl)); have n4_ := am (hb); have n5_ := am (hi); clear BK133 HO136 BK138 HK HB HI0; revert n0_ n1_ n2_ n3_ n4_ n5_; intro BK133 HO136 BK138 HK HB HI0; (try clear hb); (try clear hb2); (try clear hgw); (try clear hk); (try clear hi)) | ((with_reducible refine gate_callee (f := 120) rfl ?_); refine goesL_ (some 16) rfl rfl Tryd.func120 (by kernel_rfl) rfl #[.pointer (some ⟨g, 0, none⟩), .int .i64 7] rfl el ?_; (with_reducible refine (spec_l1Next.calls g s0_0 t140 7 t141 t142 w0 _ ?side1 ?side2 A5.out).mono ?_); (case side1 => exact IsS145.q HI0.out); (case side2 => exact hsk HB.out (IsS145.ge HI0.out)); rintro e w97 ⟨rfl, hi, hb, hk⟩; refine ⟨_, rfl, ?_⟩; have n0_ := am (KeepBut.blk hk (g' := gb133) (o := .cells #[.slice none 0 0] 26 (0, 0)) (bq BK133.out) NB133_0.out (by simp)); have n1_ := am (Kd.R_mono (Kd.R_keep (IsS145.apart (show IsS145 w0 _ g s0_0 t140 from by exact IsS145.q HI0.out) (rq HO136.out) (by decide)) hk (fun _ h => h.2)) (fun _ h => h.1)); have n2_ := am (KeepBut.blk hk (g' := gb138) (o := .cells #[.slice Ao92 t134.length co92] 26 (0, 0)) (bq BK138.out) NB138_0.out (by simp)); have n3_ := am (KeepBut.trans (ks HK.out) hk (.inl rfl)); have n4_ := am (hb); have n5_ := am (hi); clear BK133 HO136 BK138 HK HB HI0; revert n0_ n1_ n2_ n3_ n4_ n5_; intro BK133 HO136 BK138 HK HB HI0; (try clear hb); (try clear hb2); (try clear hgw); (try clear hk); (try clear hi)))
         have n0_ := am (Kd.R_drew HO136.out)
         have n1_ := am (blk_drew BK133.out)
         have n2_ := am (blk_drew BK138.out)
         have n3_ := am (IsS145.drew HI0.out)
         have n4_ := am (keep_drew HK.out)
         have n5_ := am (below_drew1 HB.out)
         clear HO136
         clear BK133
         clear BK138
         clear HI0
         clear HK
         clear HB
         have HO136 := n0_
         have BK133 := n1_
         have BK138 := n2_
         have HI0 := n3_
         have HK := n4_
         have HB := n5_
         clear n0_ n1_ n2_ n3_ n4_ n5_
         have p155 : 0 ≤ (0 : Int) := (by omega)
         have q155 : 0 < (t134.length : Int) := of_decide_eq_true (by first | (with_reducible assumption) | assumption)
         obtain ⟨ad155, e155, hx155_0, hx155_1⟩ := at_T110 (Kd.R_reads' HO136.out).2.2 0 p155 q155
         cases e155
         have qi155 : (0 < t134.length) = True := eq_true (by omega)
         (try rw [show ((0 : Int)).toNat = 0 from rfl] at hx155_0)
         (try rw [show 0 * 2 = 0 from rfl] at hx155_0)
         (try rw [Addr.add_zero'] at hx155_0)
         (try rw [show ((0 : Int)).toNat = 0 from rfl] at hx155_1)
         (try rw [show 0 * 2 = 0 from rfl] at hx155_1)
         (try rw [Addr.add_zero'] at hx155_1)
         replace p155 := eq_true p155
         replace q155 := eq_true q155
         refine start_ (n := 10) (S := fun w' => w'.cell? ⟨gb138, 0, none⟩ = some (.slice (some ad155) t134.length co92) ∧ w'.cell? ad155 = some (.string ((rd_T110 t134 0).f0)) ∧ w'.cell? ⟨ad155.block, ad155.off + 1, none⟩ = some (.int .i64 ((rd_T110 t134 0).f1))) (ds := [7, 9]) #[false, false, false, false, false, false, false, false, false, false] (by kernel_rfl) rfl rfl ⟨(blk_cell BK138.out 0).trans rfl, hx155_0, hx155_1⟩ (fun hHeld => ?_); refine with_tabW spec_l2Bent.tab17 spec_l2Bent.bits17 (fun HT_ HW_ => ?_)
         generalize w97.drew = w98 at HO136 BK133 BK138 HI0 HK HB hx155_0 hx155_1 hHeld ⊢
         refine pure_ (i := 0) (N := some 61) (v := ?_) (a' := ?_) #[true, false, false, false, false, false, false, false, false, false] rfl rfl (any_of HT_.out (by kernel_rfl)) (fun _ _ _ h => h) (Or.inl ⟨by rfl, ?_⟩) ?_ ?_
         rotate_left
         ·intro w'
          go_simp
          with_reducible rfl
         rotate_left
         ·simp only [Act.put, lsp, i64_w, i32_w]
          rfl
         refine pure_ (i := 2) (N := some 63) (v := ?_) (a' := ?_) #[true, false, true, false, false, false, false, false, false, false] rfl rfl (any_of HT_.out (by kernel_rfl)) (fun _ _ _ h => h) (Or.inl ⟨by rfl, ?_⟩) ?_ ?_
         rotate_left
         ·intro w'
          go_simp
          with_reducible rfl
         rotate_left
         ·simp only [Act.put, lsp, i64_w, i32_w]
          rfl
         refine take_ (i := 1) (N := some 62) (v := ?_) (a' := ?_) #[true, true, true, false, false, false, false, false, false, false] rfl rfl (take_ofW HT_.out HW_.out (by kernel_rfl)) (fun _ _ _ h => h) (Or.inl ⟨by rfl, ?_⟩) hHeld ?_ ?_
         rotate_left
         ·rintro w' ⟨s0, s1, s2⟩
          go_simp
          with_reducible rfl
         rotate_left
         ·simp only [Act.put, lsp, i64_w, i32_w]
          rfl
         refine take_ (i := 3) (N := some 64) (v := ?_) (a' := ?_) #[true, true, true, true, false, false, false, false, false, false] rfl rfl (take_ofW HT_.out HW_.out (by kernel_rfl)) (fun _ _ _ h => h) (Or.inl ⟨by rfl, ?_⟩) hHeld ?_ ?_
         rotate_left
         ·rintro w' ⟨s0, s1, s2⟩
          go_simp
          with_reducible rfl
         rotate_left
         ·simp only [Act.put, lsp, i64_w, i32_w]
          rfl
         refine pure_ (i := 4) (N := some 65) (v := ?_) (a' := ?_) #[true, true, true, true, true, false, false, false, false, false] rfl rfl (any_of HT_.out (by kernel_rfl)) (fun _ _ _ h => h) (Or.inl ⟨by rfl, ?_⟩) ?_ ?_
         rotate_left
         ·intro w'
          go_simp
          with_reducible rfl
         rotate_left
         ·simp only [Act.put, lsp, i64_w, i32_w]
          rfl
         refine take_ (i := 5) (N := some 66) (v := ?_) (a' := ?_) #[true, true, true, true, true, true, false, false, false, false] rfl rfl (take_ofW HT_.out HW_.out (by kernel_rfl)) (fun _ _ _ h => h) (Or.inl ⟨by rfl, ?_⟩) hHeld ?_ ?_
         rotate_left
         ·rintro w' ⟨s0, s1, s2⟩
          go_simp
          with_reducible rfl
         rotate_left
         ·simp only [Act.put, lsp, i64_w, i32_w]
          rfl
         refine one_ (i := 6) (N := some 67) #[true, true, true, true, true, true, true, false, false, false] rfl rfl (one_of HT_.out (by kernel_rfl)) (by decide) (fun K hK => ?_)
         refine value_ (w1 := ?_) (v := ?_) (by rfl) rfl ?_ ?_
         rotate_left 2
         ·go_simp
          constructor
          ·rfl
          ·rfl
         refine hK.out _ _ ⟨(blk_cell (blk_alloc BK138.out _) 0).trans rfl, (World.cell?_alloc_lt _ _ _ (World.block_lt_of_cell? _ _ (hHeld.2.1))).trans (hHeld.2.1), (World.cell?_alloc_lt _ _ _ (World.block_lt_of_cell? _ _ (hHeld.2.2))).trans (hHeld.2.2)⟩ (fun hHeld => ?_)
         clear hK K
         refine norm_ (a' := ?_) ?_ ?_
         rotate_left
         ·show Act.put _ (some 67) _ = _
          simp only [Act.put, lsp, i64_w, i32_w]
          rfl
         refine last_ (i := 7) (N := some 68) #[true, true, true, true, true, true, true, true, false, false] rfl rfl (one_of HT_.out (by kernel_rfl)) (by decide) (fun K hK => ?_)
         refine Kd.R_append_step k110 w.heap.size (by rfl) (.tmp 62) (.tmp 67) 24 110 (.agg #[(.string ⟨#[]⟩), (.int .i64 0)]) 24 rfl Tryd.underlying24 info110 rfl (by decide) (by omega) (.slice (some ad155) t134.length co92) t134 (⟨(rd_T110 t134 0).f0, (rd_T110 t134 0).f1⟩ : S110) [.string ((rd_T110 t134 0).f0), .int .i64 ((rd_T110 t134 0).f1)] (fun _ => True) (fun _ => False) rfl rfl ?aP (fun _ hk => hk.elim) ?aF ?aO (Below.refl _ _) ?aS ?aL ?_
         (case aP => exact k110_mkM _ _ _ (⟨(rd_T110 t134 0).f0, (rd_T110 t134 0).f1⟩ : S110))
         (case aF => exact (fun _ _ => trivial))
         (case aO => exact (rq HO136.out))
         (case aS => exact (keep_size (w := w) (g := g) (row := none) (ks HK.out)))
         (case aL => have := LMc88.out; omega)
         intro v157 w99 ho hb hg hat
         rw [← Ny156.out] at ho
         have n0_ := am (IsS145.grown (IsS145.q HI0.out) hg (IsS145.own_ne HI0.out HO136.out (by decide)))
         have n1_ := am (blk_grown (bq BK133.out) hg (Kd.R_ne HO136.out BK133.out (by decide)))
         have n2_ := am (blk_grown (bq BK138.out) hg (Kd.R_ne HO136.out BK138.out (by decide)))
         have n3_ := am (below_weaken (hsk HB.out (IsS145.ge HI0.out)) HL.out hb)
         have n4_ := am (KeepBut.trans (ks HK.out) (KeepBut.of_grown hg g) (Kd.R_base2 HO136.out))
         have n5_ := am (ho)
         clear HI0
         clear BK133
         clear BK138
         clear HB
         clear HK
         clear HO136
         have HI0 := n0_
         have BK133 := n1_
         have BK138 := n2_
         have HB := n3_
         have HK := n4_
         have HO158 := n5_
         clear n0_ n1_ n2_ n3_ n4_ n5_
         clear ho hb hg hat
         obtain ⟨Ao100, co100, eo100⟩ := Kd.R_slice HO158.out
         (first | subst eo100 | (injection eo100 with f1_ f2_ f3_; have f4_ := f1_.symm; have f5_ := f3_.symm; clear f1_ f2_ f3_; subst f4_; subst f5_))
         refine hK.out _ _ ?_
         clear hK K
         refine norm_ (a' := ?_) ?_ ?_
         rotate_left
         ·show Act.put _ (some 68) _ = _
          simp only [Act.put, lsp, i64_w, i32_w]
          rfl
         refine pure_ (i := 8) (N := some 69) (v := ?_) (a' := ?_) #[true, true, true, true, true, true, true, true, true, false] rfl rfl (any_of HT_.out (by kernel_rfl)) (fun _ _ _ h => h) (Or.inl ⟨by rfl, ?_⟩) ?_ ?_
         rotate_left
         ·intro w'
          go_simp
          with_reducible rfl
         rotate_left
         ·simp only [Act.put, lsp, i64_w, i32_w]
          rfl
         refine last_ (i := 9) (N := none) #[true, true, true, true, true, true, true, true, true, true] rfl rfl (one_of HT_.out (by kernel_rfl)) (by decide) (fun K hK => ?_)
         have hs101 : w99.cell? ⟨gb138, 0, none⟩ = some (.slice (some ad155) t134.length co92) := (blk_cell BK138.out 0).trans rfl
         have hfs101 := blk_frozen BK138.out 0
         have hns101_0 := NB133_138.out
         have hms101_0 := NB138_133.out
         refine skip_ (w1 := ?_) (by rfl) rfl ?_ ?_
         rotate_left
         ·go_simp
          rfl
         refine hK.out _ _ ?_
         clear hK K
         refine done_ (done_of HT_.out (by kernel_rfl)) ?_
         have hcz102_0 : w99.cell? ⟨gb138, 0, none⟩ = some (.slice (some ad155) t134.length co92) := (blk_cell BK138.out 0).trans rfl
         have hfz102_0 := blk_frozen BK138.out 0
         have hnb103 := NB133_0.out
         have hnc103 := NB0_133.out
         have hcz104_0 : w99.cell? ⟨gb133, 0, none⟩ = some (.slice none 0 0) := (blk_cell BK133.out 0).trans rfl
         have hfz104_0 := blk_frozen BK133.out 0
         try go_wp2
         refine bodyPost_ret (results_cell_row rfl _ _ gb133 26 #[.slice Ao100 y156.length co100] (0, 0) _ rfl (by refine bq ?_; refine blk_put (cs := #[.slice none 0 0]) ?_ 0 _ rfl; refine bq ?_; refine blk_far ?_ NB133_138.out _; refine bq ?_; exact BK133.out) Tryd.underlying26 rfl (by kernel_rfl)) rfl ?_
         exact ⟨_, by first | rfl | (simp [errW_none, errW_some] <;> rfl) | (simp [*, errW_none, errW_some] <;> rfl), by (with_reducible repeat (first | apply Kd.R_alloc | apply Kd.R_drewN | apply Kd.R_drew)); exact Kd.R_mono (Kd.R_far (p := ⟨gb133, 0, none⟩) (Kd.R_far (p := ⟨gb138, 0, none⟩) (Kd.R_types (Kd.R_types HO158.out BK138.out (by decide)) BK133.out (by decide)) (fun _ hk => hk.1.2) (.slice Ao100 y156.length co100)) (fun _ hk => hk.2) (.slice Ao100 y156.length co100)) (fun _ hk => trivial), by exact IsS145.q HI0.out, by exact hsk HB.out (IsS145.ge HI0.out), by exact ks HK.out⟩
        ·rw [if_neg c88] at H
         exact absurd H (by simp)
       ·rw [if_neg c87] at H
        exact absurd H (by simp)
      ·rw [if_neg c86] at H
       have c86b0 : (t141 == 4) = false := beq_eq_false_iff_ne.mpr c86
       have c86b1 : (t141 != 4) = true := bne_iff_ne.mpr c86
       by_cases c105 : t141 = 5
       ·rw [if_pos c105] at H
        have c105b0 : (t141 == 5) = true := beq_iff_eq.mpr c105
        have c105b1 : (t141 != 5) = false := bne_eq_false_iff_eq.mpr c105
        clear c105
        have H' := am H
        clear H
        go_enter Tryd.func107, Tryd.ntmps107
        go_wp2_with (first | ((with_reducible refine gate_dst (N := 2) rfl ?_); refine box_event ?hg (N := 2) ?hd (cs := #[.slice none 0 0]) (t := 26) ?hr ?_; (case hd => rfl); (case hg => rfl); (case hr => first | (go_simp; done) | (go_simp; rfl)); intro gb133 hg w106 hbox hb; have n0_ := am (IsS145.below (IsS145.q HI0.out) hb); have n1_ := am (KeepBut.trans (kq HK.out) (KeepBut.of_below hb g none) (.inl rfl)); have n2_ := am (below_step (hsk HB.out (IsS145.ge HI0.out)) hb); have n3_ := am (hbox); have n4_ := am ((by rw [hg]; exact (keep_size (w := w) (g := g) (row := none) (kq HK.out)) : w.heap.size ≤ gb133)); have n5_ := am (Nat.le_trans HW0.out n4_.out); have n6_ := am ((by rw [hg]; exact Nat.ne_of_lt (IsS145.lt (show IsS145 w0 _ g s0_0 s0_1 from by exact IsS145.q HI0.out)) : g ≠ gb133)); have n7_ := am n6_.out.symm; clear HI0 HK HB; revert n0_ n1_ n2_ n3_ n4_ n5_ n6_ n7_; intro HI0 HK HB BK133 GW133 GE133 NB0_133 NB133_0; clear hb hbox hg) | ((with_reducible refine gate_callee (f := 118) rfl ?_); refine goesL_ (some 7) rfl rfl Tryd.func118 (by kernel_rfl) rfl #[.pointer (some ⟨g, 0, none⟩)] rfl el ?_; (with_reducible refine (spec_l2Sig.calls k g s0_0 s0_1 t134 t137 w0 _ ?side1 ?side2 A2.out).mono ?_); (case side1 => exact IsS145.q HI0.out); (case side2 => exact hsk HB.out (IsS145.ge HI0.out)); rintro e w107 ⟨v135, rfl, ho0, hi, hb, hk⟩; refine ⟨_, rfl, ?_⟩; have n0_ := am (KeepBut.blk hk (g' := gb133) (o := .cells #[.slice none 0 0] 26 (0, 0)) (bq BK133.out) NB133_0.out (by simp)); have n1_ := am (Kd.R_lower ho0 (keep_size (w := w) (g := g) (row := none) (ks HK.out))); have n2_ := am (KeepBut.trans (ks HK.out) hk (.inl rfl)); have n3_ := am (hb); have n4_ := am (hi); clear BK133 HK HB HI0; revert n0_ n1_ n2_ n3_ n4_; intro BK133 HO136 HK HB HI0; (try clear hb); (try clear hb2); (try clear hgw); (try clear hk); (try clear hi); (try clear ho0)) | ((with_reducible refine gate_dst (N := 3) rfl ?_); refine box_event ?hg (N := 3) ?hd (cs := #[.slice none 0 0]) (t := 26) ?hr ?_; (case hd => rfl); (case hg => rfl); (case hr => first | (go_simp; done) | (go_simp; rfl)); intro gb138 hg w108 hbox hb; have n0_ := am (Kd.R_below (rq HO136.out) hb); have n1_ := am (IsS145.below (IsS145.q HI0.out) hb); have n2_ := am (blk_below (bq BK133.out) hb); have n3_ := am (KeepBut.trans (ks HK.out) (KeepBut.of_below hb g none) (.inl rfl)); have n4_ := am (below_step (hsk HB.out (IsS145.ge HI0.out)) hb); have n5_ := am (hbox); have n6_ := am ((by rw [hg]; exact (keep_size (w := w) (g := g) (row := none) (ks HK.out)) : w.heap.size ≤ gb138)); have n7_ := am (Nat.le_trans HW0.out n6_.out); have n8_ := am ((by rw [hg]; exact Nat.ne_of_lt (blk_lt (bq BK133.out)) : gb133 ≠ gb138)); have n9_ := am ((by rw [hg]; exact Nat.ne_of_gt (blk_lt (bq BK133.out)) : gb138 ≠ gb133)); have n10_ := am ((by rw [hg]; exact Nat.ne_of_lt (IsS145.lt (show IsS145 w0 _ g s0_0 t137 from by exact IsS145.q HI0.out)) : g ≠ gb138)); have n11_ := am n10_.out.symm; clear HO136 HI0 BK133 HK HB; revert n0_ n1_ n2_ n3_ n4_ n5_ n6_ n7_ n8_ n9_ n10_ n11_; intro HO136 HI0 BK133 HK HB BK138 GW138 GE138 NB133_138 NB138_133 NB0_138 NB138_0; clear hb hbox hg; obtain ⟨Ao109, co109, eo109⟩ := Kd.R_slice HO136.out; subst eo109; have hnb110 := NB138_133.out; have hnc110 := NB133_138.out; have hnb111 := NB138_0.out; have hnc111 := NB0_138.out; have hcz112_0 : w108.cell? ⟨gb138, 0, none⟩ = some (.slice none 0 0) := (blk_cell BK138.out 0).trans rfl; have hfz112_0 := blk_frozen BK138.out 0) | ((with_reducible refine gate_callee (f := 119) rfl ?_); refine goesL_ (some 12) rfl rfl Tryd.func119 (by kernel_rfl) rfl #[.pointer (some ⟨g, 0, none⟩), .int .i64 9] rfl el ?_; (with_reducible refine (spec_l1Chance.calls g s0_0 t137 9 true t140 w0 _ ?side1 ?side2 A3.out).mono ?_); (case side1 => exact IsS145.q HI0.out); (case side2 => exact hsk HB.out (IsS145.ge HI0.out)); rintro e w113 ⟨rfl, hi, hb, hk⟩; refine ⟨_, rfl, ?_⟩; have n0_ := am (KeepBut.blk hk (g' := gb133) (o := .cells #[.slice none 0 0] 26 (0, 0)) (by refine bq ?_; refine blk_far ?_ NB133_138.out _; refine bq ?_; exact BK133.out) NB133_0.out (by simp)); have n1_ := am (Kd.R_mono (Kd.R_keep (IsS145.apart (show IsS145 w0 _ g s0_0 t137 from by exact IsS145.q HI0.out) (by (with_reducible repeat (first | apply Kd.R_alloc | apply Kd.R_drewN | apply Kd.R_drew)); exact (Kd.R_mono (Kd.R_far (p := ⟨gb138, 0, none⟩) (Kd.R_types HO136.out BK138.out (by decide)) (fun _ hk => hk.2) (.slice Ao109 t134.length co109)) (fun _ h_ => h_.1))) (by decide)) hk (fun _ h => h.2)) (fun _ h => h.1)); have n2_ := am (KeepBut.blk hk (g' := gb138) (o := .cells #[.slice Ao109 t134.length co109] 26 (0, 0)) (by refine bq ?_; refine blk_put (cs := #[.slice none 0 0]) ?_ 0 _ rfl; refine bq ?_; exact BK138.out) NB138_0.out (by simp)); have n3_ := am (KeepBut.trans (ks HK.out) hk (.inl rfl)); have n4_ := am (hb); have n5_ := am (hi); clear BK133 HO136 BK138 HK HB HI0; revert n0_ n1_ n2_ n3_ n4_ n5_; intro BK133 HO136 BK138 HK HB HI0; (try clear hb); (try clear hb2); (try clear hgw); (try clear hk); (try clear hi)) | ((with_reducible refine gate_callee (f := 120) rfl ?_); refine goesL_ (some 16) rfl rfl Tryd.func120 (by kernel_rfl) rfl #[.pointer (some ⟨g, 0, none⟩), .int .i64 7] rfl el ?_; (with_reducible refine (spec_l1Next.calls g s0_0 t140 7 t141 t142 w0 _ ?side1 ?side2 A5.out).mono ?_); (case side1 => exact IsS145.q HI0.out); (case side2 => exact hsk HB.out (IsS145.ge HI0.out)); rintro e w114 ⟨rfl, hi, hb, hk⟩; refine ⟨_, rfl, ?_⟩; have n0_ := am (KeepBut.blk hk (g' := gb133) (o := .cells #[.slice none 0 0] 26 (0, 0)) (bq BK133.out) NB133_0.out (by simp)); have n1_ := am (Kd.R_mono (Kd.R_keep (IsS145.apart (show IsS145 w0 _ g s0_0 t140 from by exact IsS145.q HI0.out) (rq HO136.out) (by decide)) hk (fun _ h => h.2)) (fun _ h => h.1)); have n2_ := am (KeepBut.blk hk (g' := gb138) (o := .cells #[.slice Ao109 t134.length co109] 26 (0, 0)) (bq BK138.out) NB138_0.out (by simp)); have n3_ := am (KeepBut.trans (ks HK.out) hk (.inl rfl)); have n4_ := am (hb); have n5_ := am (hi); clear BK133 HO136 BK138 HK HB HI0; revert n0_ n1_ n2_ n3_ n4_ n5_; intro BK133 HO136 BK138 HK HB HI0; (try clear hb); (try clear hb2); (try clear hgw); (try clear hk); (try clear hi)))
        go_loopg [5] k (fun kq v5 w' => ∃ (x5_1 : Int) (x139000_1 : List (S110)) (u139000 : Value), v5 = .int .i64 x5_1 ∧ Aside0 (spec_l2Bent.l0 kq (t134.length : Int) x5_1 s0_0 t142 x139000_1 = some (r1, r2)) ∧ Aside0 (kq ≤ k) ∧ Aside0 (Kd.R k110 110 w' w.heap.size (fun _ => True) u139000 x139000_1) ∧ Aside0 (w'.heap[gb133]? = some (.cells #[(.slice none 0 0)] 26 (0, 0))) ∧ Aside0 (w'.heap[gb138]? = some (.cells #[u139000] 26 (0, 0))) ∧ Aside0 (IsS145 w0 w' g s0_0 t142) ∧ Aside0 (KeepBut w w' g none) ∧ Aside0 (Below w0.heap.size w0 w'))
        case atStart => exact ⟨(0), (t134), (.slice Ao109 t134.length co109), (by first | rfl | (simp; done) | (simp [*]; done)), H', ⟨Nat.le_refl _⟩, ⟨by (with_reducible repeat (first | apply Kd.R_alloc | apply Kd.R_drewN | apply Kd.R_drew)); exact HO136.out⟩, ⟨by refine bq ?_; exact BK133.out⟩, ⟨by refine bq ?_; exact BK138.out⟩, ⟨by exact IsS145.q HI0.out⟩, ⟨by exact ks HK.out⟩, ⟨by exact hsk HB.out (IsS145.ge HI0.out)⟩⟩
        case round =>
         clear H'
         try clear c1
         try clear p1
         try clear q1
         try clear hx1
         try clear qi1
         try clear p2
         try clear c5
         try clear c6
         try clear p6
         try clear q6
         try clear hx6
         try clear hf6
         try clear c7
         try clear c8
         try clear c9
         try clear c10
         try clear c11
         try clear c12
         try clear p15
         try clear q15
         try clear hx15
         try clear qi15
         try clear c59
         try clear c59b0
         try clear c59b1
         try clear c62
         try clear c62b0
         try clear c63
         try clear c63b0
         try clear c64
         try clear p64
         try clear q64
         try clear hx64
         try clear hf64
         try clear c69
         try clear c70
         try clear c81
         try clear c84
         try clear c86
         try clear c86b0
         try clear c86b1
         try clear c87
         try clear c87b0
         try clear c87b1
         try clear c88
         try clear c93
         try clear c94
         try clear c103
         try clear c105
         try clear c105b0
         try clear c105b1
         try clear c107
         try clear c109
         try clear c110
         try clear c111
         try clear hcz102_0
         try clear hcz104_0
         try clear hcz112_0
         try clear hcz71_0
         try clear hcz83_0
         try clear hcz85_0
         try clear hcz95_0
         try clear hfz102_0
         try clear hfz104_0
         try clear hfz112_0
         try clear hfz71_0
         try clear hfz83_0
         try clear hfz85_0
         try clear hfz95_0
         try clear hx155_0
         try clear hx155_1
         try clear hx64_0
         try clear hx64_1
         try clear p155
         try clear p64
         try clear q155
         try clear q64
         obtain ⟨x5_1, x139000_1, u139000, rfl, HA, HK1, HO_139000, BK133, BK138, HI0, HK, HB⟩ := hrel
         cases gk with
         | zero => exact absurd HA.out (by simp [spec_l2Bent.l0])
         | succ k1 =>
          have H := HA.out
          clear HA
          simp only [spec_l2Bent.l0] at H
          by_cases c115 : x5_1 < (t134.length : Int)
          ·rw [if_pos c115] at H
           have c115b0 : decide (x5_1 < (t134.length : Int)) = true := decide_eq_true c115
           clear c115
           by_cases c116 : 0 ≤ x5_1
           ·rw [if_pos c116] at H
            have c116b0 : decide (0 ≤ x5_1) = true := decide_eq_true c116
            clear c116
            by_cases c117 : x5_1 < (x139000_1.length : Int)
            ·rw [if_pos c117] at H
             have c117b0 : decide (x5_1 < (x139000_1.length : Int)) = true := decide_eq_true c117
             clear c117
             obtain ⟨y159, hy159⟩ : ∃ y_ : List (S110), y_ = (x139000_1.set (x5_1 : Int).toNat (⟨(rd_T110 x139000_1 x5_1).f0, 1⟩ : S110)) := ⟨_, rfl⟩
             replace H : (spec_l2Bent.l0 k1 (t134.length : Int) (wrap64 (x5_1 + 1)) s0_0 t142 y159) = some (r1, r2) := by first | (rw [hy159]; with_reducible exact H) | (have H2_ := (Option.bind_some _ _).symm.trans H; rw [hy159]; with_reducible exact H2_) | (have H2_ := (Option.bind_some _ _).symm.trans H; with_reducible exact H2_) | with_reducible exact H | (rw [hy159]; exact H) | exact H
             have Ny159 := am hy159
             clear hy159
             have H' := am H
             clear H
             have hnb119 := NB138_133.out
             have hnc119 := NB133_138.out
             have hnb120 := NB138_0.out
             have hnc120 := NB0_138.out
             have hcz121_0 : wr.cell? ⟨gb138, 0, none⟩ = some (u139000) := (blk_cell BK138.out 0).trans rfl
             have hfz121_0 := blk_frozen BK138.out 0
             have p118 : 0 ≤ (x5_1 : Int) := of_decide_eq_true (by first | (with_reducible assumption) | assumption)
             have q118 : (x5_1 : Int) < ((x139000_1.length : Int) : Int) := of_decide_eq_true (by first | (with_reducible assumption) | assumption)
             obtain ⟨go118, co118, eo118, gb118, gl118, cl118, HG118⟩ := Kd.R_form HO_139000.out (by omega)
             (first | cases eo118 | (injection eo118 with ea_ en_ ec_; (first | subst ea_ | (injection ea_ with ea_; subst ea_)); subst ec_; clear en_))
             have GB118 := am gb118
             have GG118 := am HG118
             clear gb118 gl118 HG118
             obtain ⟨ce118, hcl118, hM118, hcc118, hfr118⟩ := Kd.R_elem HO_139000.out z110 (x5_1 : Int) p118 q118
             obtain rfl := k110_openM hM118
             have hx118_0 : wr.cell? ⟨go118, (x5_1 : Int).toNat * 2, none⟩ = some (.string ((rd_T110 x139000_1 x5_1).f0)) := hcc118 0 _ rfl
             have hx118_1 : wr.cell? ⟨go118, (x5_1 : Int).toNat * 2 + 1, none⟩ = some (.int .i64 ((rd_T110 x139000_1 x5_1).f1)) := hcc118 1 _ rfl
             have hf118_0 : wr.frozen? ⟨go118, (x5_1 : Int).toNat * 2, none⟩ = false := hfr118 0
             have hf118_1 : wr.frozen? ⟨go118, (x5_1 : Int).toNat * 2 + 1, none⟩ = false := hfr118 1
             clear hcl118 hcc118 hfr118; (try clear hM118)
             replace p118 := eq_true p118
             replace q118 := eq_true q118
             have HX122 := am (show Kd.R k110 110 wr w.heap.size (fun _ => True) (.slice (some ⟨go118, 0, none⟩) x139000_1.length co118) x139000_1 from (rq HO_139000.out))
             obtain ⟨ce122, hcl122, hM122, hcc122, hfr122⟩ := Kd.R_elem HX122.out z110 (x5_1 : Int) (of_decide_eq_true (by first | (with_reducible assumption) | assumption)) (by have h_ : (x5_1 : Int) < ((x139000_1.length : Int) : Int) := of_decide_eq_true (by first | (with_reducible assumption) | assumption); first | exact h_ | (have e_ := (Kd.R_reads' HO_139000.out).1; omega) | simpa using h_)
             obtain rfl := k110_openM hM122
             have HP122 := Kd.R_seg HX122.out (x5_1 : Int) (of_decide_eq_true (by first | (with_reducible assumption) | assumption)) (by have h_ : (x5_1 : Int) < ((x139000_1.length : Int) : Int) := of_decide_eq_true (by first | (with_reducible assumption) | assumption); first | exact h_ | (have e_ := (Kd.R_reads' HO_139000.out).1; omega) | simpa using h_) (seg := [.int .i64 1]) (j := 1) hcl122 hcc122 (show 2 ≤ 2 from by decide) (x' := (⟨(rd_T110 x139000_1 x5_1).f0, 1⟩ : S110)) (k110_mkM _ _ _ (⟨(rd_T110 x139000_1 x5_1).f0, 1⟩ : S110) ) (fun _ hk => hk)
             have hx122_1 := hcc122 1 _ rfl
             (try simp only [show (k110).sz = 2 from rfl, Nat.mul_one, Nat.add_zero] at hx122_1)
             have hf122_1 := hfr122 1
             (try simp only [show (k110).sz = 2 from rfl, Nat.mul_one, Nat.add_zero] at hf122_1)
             clear hcl122 hcc122 hfr122; (try clear hM122)
             go_wp2_with (first | ((with_reducible refine gate_store (t := 2) (p := 81) rfl ?_); refine store_event (t := 2) (p := 81) (v := ?vo_w123) (w1 := (wr.setCell ⟨go118, (x5_1 : Int).toNat * 2 + 1, none⟩ (.int .i64 1))) ?hg ?ho ?hn ?hr ?_; (case ho => rfl); (case hg => rfl); (case hn => rfl); (case hr => first | (go_simp; done) | (go_simp; rfl)); intro w123 hw; have hg : wr.grownBy w123 (some go118) := (by rw [hw]; exact HP122.2); have hp_ : Kd.R k110 110 w123 w.heap.size (fun _ => True) (.slice (some ⟨go118, 0, none⟩) x139000_1.length co118) y159 := (by rw [hw, Ny159.out]; exact HP122.1); clear HP122; have n0_ := am (hp_); have n1_ := am (blk_grown (bq BK133.out) hg (Kd.R_ne HO_139000.out BK133.out (by decide))); have n2_ := am (blk_grown (bq BK138.out) hg (Kd.R_ne HO_139000.out BK138.out (by decide))); have n3_ := am (IsS145.grown (IsS145.q HI0.out) hg (IsS145.own_ne HI0.out HO_139000.out (by decide))); have n4_ := am ((by rw [hw]; exact below_set (HB.out) (Nat.le_trans HL.out GB118.out) : Below w0.heap.size w0 w123)); have n5_ := am (KeepBut.trans (ks HK.out) (KeepBut.of_grown hg g) (Kd.R_base2 HO_139000.out)); clear HO_139000 BK133 BK138 HI0 HB HK; revert n0_ n1_ n2_ n3_ n4_ n5_; intro HO_139000 BK133 BK138 HI0 HB HK; clear hg hw hp_))
             go_roundg k1
             case measure => have := HK1.out; omega
             case rel => exact ⟨(wrap64 (x5_1 + 1)), (y159), (.slice (some ⟨go118, 0, none⟩) x139000_1.length co118), (by first | rfl | (simp; done) | (simp [*]; done)), H', ⟨by have := HK1.out; omega⟩, ⟨by (with_reducible repeat (first | apply Kd.R_alloc | apply Kd.R_drewN | apply Kd.R_drew)); exact HO_139000.out⟩, ⟨by refine bq ?_; exact BK133.out⟩, ⟨by refine bq ?_; exact BK138.out⟩, ⟨by exact IsS145.q HI0.out⟩, ⟨by exact ks HK.out⟩, ⟨by exact hsk HB.out (IsS145.ge HI0.out)⟩⟩
            ·rw [if_neg c117] at H
             exact absurd H (by simp)
           ·rw [if_neg c116] at H
            exact absurd H (by simp)
          ·rw [if_neg c115] at H
           have c115b0 : decide (x5_1 < (t134.length : Int)) = false := decide_eq_false c115
           clear c115
           simp only [Option.some.injEq, Prod.mk.injEq] at H
           obtain ⟨rfl, rfl⟩ := H
           have hnb124 := NB138_133.out
           have hnc124 := NB133_138.out
           have hnb125 := NB138_0.out
           have hnc125 := NB0_138.out
           have hcz126_0 : wr.cell? ⟨gb138, 0, none⟩ = some (u139000) := (blk_cell BK138.out 0).trans rfl
           have hfz126_0 := blk_frozen BK138.out 0
           obtain ⟨Ao127, co127, eo127⟩ := Kd.R_slice HO_139000.out
           subst eo127
           have hnb128 := NB133_0.out
           have hnc128 := NB0_133.out
           have hcz129_0 : wr.cell? ⟨gb133, 0, none⟩ = some (.slice none 0 0) := (blk_cell BK133.out 0).trans rfl
           have hfz129_0 := blk_frozen BK133.out 0
           go_wp2
           refine bodyPost_ret (results_cell_row rfl _ _ gb133 26 #[.slice Ao127 x139000_1.length co127] (0, 0) _ rfl (by refine bq ?_; refine blk_put (cs := #[.slice none 0 0]) ?_ 0 _ rfl; refine bq ?_; exact BK133.out) Tryd.underlying26 rfl (by kernel_rfl)) rfl ?_
           exact ⟨_, by first | rfl | (simp [errW_none, errW_some] <;> rfl) | (simp [*, errW_none, errW_some] <;> rfl), by (with_reducible repeat (first | apply Kd.R_alloc | apply Kd.R_drewN | apply Kd.R_drew)); exact Kd.R_mono (Kd.R_far (p := ⟨gb133, 0, none⟩) (Kd.R_types HO_139000.out BK133.out (by decide)) (fun _ hk => hk.2) (.slice Ao127 x139000_1.length co127)) (fun _ hk => trivial), by exact IsS145.q HI0.out, by exact hsk HB.out (IsS145.ge HI0.out), by exact ks HK.out⟩
       ·rw [if_neg c105] at H
        have c105b0 : (t141 == 5) = false := beq_eq_false_iff_ne.mpr c105
        have c105b1 : (t141 != 5) = true := bne_iff_ne.mpr c105
        have H' := am H
        clear H
        go_enter Tryd.func107, Tryd.ntmps107
        go_wp2_with (first | ((with_reducible refine gate_dst (N := 2) rfl ?_); refine box_event ?hg (N := 2) ?hd (cs := #[.slice none 0 0]) (t := 26) ?hr ?_; (case hd => rfl); (case hg => rfl); (case hr => first | (go_simp; done) | (go_simp; rfl)); intro gb133 hg w130 hbox hb; have n0_ := am (IsS145.below (IsS145.q HI0.out) hb); have n1_ := am (KeepBut.trans (kq HK.out) (KeepBut.of_below hb g none) (.inl rfl)); have n2_ := am (below_step (hsk HB.out (IsS145.ge HI0.out)) hb); have n3_ := am (hbox); have n4_ := am ((by rw [hg]; exact (keep_size (w := w) (g := g) (row := none) (kq HK.out)) : w.heap.size ≤ gb133)); have n5_ := am (Nat.le_trans HW0.out n4_.out); have n6_ := am ((by rw [hg]; exact Nat.ne_of_lt (IsS145.lt (show IsS145 w0 _ g s0_0 s0_1 from by exact IsS145.q HI0.out)) : g ≠ gb133)); have n7_ := am n6_.out.symm; clear HI0 HK HB; revert n0_ n1_ n2_ n3_ n4_ n5_ n6_ n7_; intro HI0 HK HB BK133 GW133 GE133 NB0_133 NB133_0; clear hb hbox hg) | ((with_reducible refine gate_callee (f := 118) rfl ?_); refine goesL_ (some 7) rfl rfl Tryd.func118 (by kernel_rfl) rfl #[.pointer (some ⟨g, 0, none⟩)] rfl el ?_; (with_reducible refine (spec_l2Sig.calls k g s0_0 s0_1 t134 t137 w0 _ ?side1 ?side2 A2.out).mono ?_); (case side1 => exact IsS145.q HI0.out); (case side2 => exact hsk HB.out (IsS145.ge HI0.out)); rintro e w131 ⟨v135, rfl, ho0, hi, hb, hk⟩; refine ⟨_, rfl, ?_⟩; have n0_ := am (KeepBut.blk hk (g' := gb133) (o := .cells #[.slice none 0 0] 26 (0, 0)) (bq BK133.out) NB133_0.out (by simp)); have n1_ := am (Kd.R_lower ho0 (keep_size (w := w) (g := g) (row := none) (ks HK.out))); have n2_ := am (KeepBut.trans (ks HK.out) hk (.inl rfl)); have n3_ := am (hb); have n4_ := am (hi); clear BK133 HK HB HI0; revert n0_ n1_ n2_ n3_ n4_; intro BK133 HO136 HK HB HI0; (try clear hb); (try clear hb2); (try clear hgw); (try clear hk); (try clear hi); (try clear ho0)) | ((with_reducible refine gate_dst (N := 3) rfl ?_); refine box_event ?hg (N := 3) ?hd (cs := #[.slice none 0 0]) (t := 26) ?hr ?_; (case hd => rfl); (case hg => rfl); (case hr => first | (go_simp; done) | (go_simp; rfl)); intro gb138 hg w132 hbox hb; have n0_ := am (Kd.R_below (rq HO136.out) hb); have n1_ := am (IsS145.below (IsS145.q HI0.out) hb); have n2_ := am (blk_below (bq BK133.out) hb); have n3_ := am (KeepBut.trans (ks HK.out) (KeepBut.of_below hb g none) (.inl rfl)); have n4_ := am (below_step (hsk HB.out (IsS145.ge HI0.out)) hb); have n5_ := am (hbox); have n6_ := am ((by rw [hg]; exact (keep_size (w := w) (g := g) (row := none) (ks HK.out)) : w.heap.size ≤ gb138)); have n7_ := am (Nat.le_trans HW0.out n6_.out); have n8_ := am ((by rw [hg]; exact Nat.ne_of_lt (blk_lt (bq BK133.out)) : gb133 ≠ gb138)); have n9_ := am ((by rw [hg]; exact Nat.ne_of_gt (blk_lt (bq BK133.out)) : gb138 ≠ gb133)); have n10_ := am ((by rw [hg]; exact Nat.ne_of_lt (IsS145.lt (show IsS145 w0 _ g s0_0 t137 from by exact IsS145.q HI0.out)) : g ≠ gb138)); have n11_ := am n10_.out.symm; clear HO136 HI0 BK133 HK HB; revert n0_ n1_ n2_ n3_ n4_ n5_ n6_ n7_ n8_ n9_ n10_ n11_; intro HO136 HI0 BK133 HK HB BK138 GW138 GE138 NB133_138 NB138_133 NB0_138 NB138_0; clear hb hbox hg; obtain ⟨Ao133, co133, eo133⟩ := Kd.R_slice HO136.out; subst eo133; have hnb134 := NB138_133.out; have hnc134 := NB133_138.out; have hnb135 := NB138_0.out; have hnc135 := NB0_138.out; have hcz136_0 : w132.cell? ⟨gb138, 0, none⟩ = some (.slice none 0 0) := (blk_cell BK138.out 0).trans rfl; have hfz136_0 := blk_frozen BK138.out 0) | ((with_reducible refine gate_callee (f := 119) rfl ?_); refine goesL_ (some 12) rfl rfl Tryd.func119 (by kernel_rfl) rfl #[.pointer (some ⟨g, 0, none⟩), .int .i64 9] rfl el ?_; (with_reducible refine (spec_l1Chance.calls g s0_0 t137 9 true t140 w0 _ ?side1 ?side2 A3.out).mono ?_); (case side1 => exact IsS145.q HI0.out); (case side2 => exact hsk HB.out (IsS145.ge HI0.out)); rintro e w137 ⟨rfl, hi, hb, hk⟩; refine ⟨_, rfl, ?_⟩; have n0_ := am (KeepBut.blk hk (g' := gb133) (o := .cells #[.slice none 0 0] 26 (0, 0)) (by refine bq ?_; refine blk_far ?_ NB133_138.out _; refine bq ?_; exact BK133.out) NB133_0.out (by simp)); have n1_ := am (Kd.R_mono (Kd.R_keep (IsS145.apart (show IsS145 w0 _ g s0_0 t137 from by exact IsS145.q HI0.out) (by (with_reducible repeat (first | apply Kd.R_alloc | apply Kd.R_drewN | apply Kd.R_drew)); exact (Kd.R_mono (Kd.R_far (p := ⟨gb138, 0, none⟩) (Kd.R_types HO136.out BK138.out (by decide)) (fun _ hk => hk.2) (.slice Ao133 t134.length co133)) (fun _ h_ => h_.1))) (by decide)) hk (fun _ h => h.2)) (fun _ h => h.1)); have n2_ := am (KeepBut.blk hk (g' := gb138) (o := .cells #[.slice Ao133 t134.length co133] 26 (0, 0)) (by refine bq ?_; refine blk_put (cs := #[.slice none 0 0]) ?_ 0 _ rfl; refine bq ?_; exact BK138.out) NB138_0.out (by simp)); have n3_ := am (KeepBut.trans (ks HK.out) hk (.inl rfl)); have n4_ := am (hb); have n5_ := am (hi); clear BK133 HO136 BK138 HK HB HI0; revert n0_ n1_ n2_ n3_ n4_ n5_; intro BK133 HO136 BK138 HK HB HI0; (try clear hb); (try clear hb2); (try clear hgw); (try clear hk); (try clear hi)) | ((with_reducible refine gate_callee (f := 120) rfl ?_); refine goesL_ (some 16) rfl rfl Tryd.func120 (by kernel_rfl) rfl #[.pointer (some ⟨g, 0, none⟩), .int .i64 7] rfl el ?_; (with_reducible refine (spec_l1Next.calls g s0_0 t140 7 t141 t142 w0 _ ?side1 ?side2 A5.out).mono ?_); (case side1 => exact IsS145.q HI0.out); (case side2 => exact hsk HB.out (IsS145.ge HI0.out)); rintro e w138 ⟨rfl, hi, hb, hk⟩; refine ⟨_, rfl, ?_⟩; have n0_ := am (KeepBut.blk hk (g' := gb133) (o := .cells #[.slice none 0 0] 26 (0, 0)) (bq BK133.out) NB133_0.out (by simp)); have n1_ := am (Kd.R_mono (Kd.R_keep (IsS145.apart (show IsS145 w0 _ g s0_0 t140 from by exact IsS145.q HI0.out) (rq HO136.out) (by decide)) hk (fun _ h => h.2)) (fun _ h => h.1)); have n2_ := am (KeepBut.blk hk (g' := gb138) (o := .cells #[.slice Ao133 t134.length co133] 26 (0, 0)) (bq BK138.out) NB138_0.out (by simp)); have n3_ := am (KeepBut.trans (ks HK.out) hk (.inl rfl)); have n4_ := am (hb); have n5_ := am (hi); clear BK133 HO136 BK138 HK HB HI0; revert n0_ n1_ n2_ n3_ n4_ n5_; intro BK133 HO136 BK138 HK HB HI0; (try clear hb); (try clear hb2); (try clear hgw); (try clear hk); (try clear hi)))
        go_loopg [] k (fun kq w' => ∃ (x139000_1 : List (S110)) (u139000 : Value), Aside0 (spec_l2Bent.l1 kq s0_0 t142 x139000_1 = some (r1, r2)) ∧ Aside0 (kq ≤ k) ∧ Aside0 (Kd.R k110 110 w' w.heap.size (fun _ => True) u139000 x139000_1) ∧ Aside0 (w'.heap[gb133]? = some (.cells #[(.slice none 0 0)] 26 (0, 0))) ∧ Aside0 (w'.heap[gb138]? = some (.cells #[u139000] 26 (0, 0))) ∧ Aside0 (IsS145 w0 w' g s0_0 t142) ∧ Aside0 (KeepBut w w' g none) ∧ Aside0 (Below w0.heap.size w0 w'))
        case atStart => exact ⟨(t134), (.slice Ao133 t134.length co133), H', ⟨Nat.le_refl _⟩, ⟨by (with_reducible repeat (first | apply Kd.R_alloc | apply Kd.R_drewN | apply Kd.R_drew)); exact HO136.out⟩, ⟨by refine bq ?_; exact BK133.out⟩, ⟨by refine bq ?_; exact BK138.out⟩, ⟨by exact IsS145.q HI0.out⟩, ⟨by exact ks HK.out⟩, ⟨by exact hsk HB.out (IsS145.ge HI0.out)⟩⟩
        case round =>
         clear H'
         try clear c1
         try clear p1
         try clear q1
         try clear hx1
         try clear qi1
         try clear hf1
         try clear p2
         try clear c5
         try clear c6
         try clear p6
         try clear q6
         try clear hx6
         try clear hf6
         try clear c7
         try clear c8
         try clear c9
         try clear c10
         try clear c11
         try clear p11
         try clear q11
         try clear hx11
         try clear hf11
         try clear c12
         try clear hx12
         try clear hf12
         try clear c13
         try clear p15
         try clear q15
         try clear hx15
         try clear qi15
         try clear c59
         try clear c59b0
         try clear c59b1
         try clear c62
         try clear c62b0
         try clear c63
         try clear c63b0
         try clear c64
         try clear p64
         try clear q64
         try clear hx64
         try clear hf64
         try clear c69
         try clear c70
         try clear c81
         try clear c84
         try clear c86
         try clear c86b0
         try clear c86b1
         try clear c87
         try clear c87b0
         try clear c87b1
         try clear c88
         try clear c93
         try clear c94
         try clear c103
         try clear c105
         try clear c105b0
         try clear c105b1
         try clear c107
         try clear c109
         try clear c110
         try clear c111
         try clear c115
         try clear c115b0
         try clear c116
         try clear c116b0
         try clear c117
         try clear c117b0
         try clear c118
         try clear p118
         try clear q118
         try clear hx118
         try clear hf118
         try clear c119
         try clear c120
         try clear c122
         try clear hx122
         try clear hf122
         try clear c124
         try clear c125
         try clear c128
         try clear c134
         try clear c135
         try clear hcz102_0
         try clear hcz104_0
         try clear hcz112_0
         try clear hcz121_0
         try clear hcz126_0
         try clear hcz129_0
         try clear hcz136_0
         try clear hcz71_0
         try clear hcz83_0
         try clear hcz85_0
         try clear hcz95_0
         try clear hfz102_0
         try clear hfz104_0
         try clear hfz112_0
         try clear hfz121_0
         try clear hfz126_0
         try clear hfz129_0
         try clear hfz136_0
         try clear hfz71_0
         try clear hfz83_0
         try clear hfz85_0
         try clear hfz95_0
         try clear hx118_0
         try clear hx118_1
         try clear hx122_1
         try clear hx155_0
         try clear hx155_1
         try clear hx64_0
         try clear hx64_1
         try clear p1
         try clear p118
         try clear p15
         try clear p155
         try clear p2
         try clear p6
         try clear p64
         try clear q1
         try clear q118
         try clear q15
         try clear q155
         try clear q6
         try clear q64
         obtain ⟨x139000_1, u139000, HA, HK1, HO_139000, BK133, BK138, HI0, HK, HB⟩ := hrel
         cases gk with
         | zero => exact absurd HA.out (by simp [spec_l2Bent.l1])
         | succ k1 =>
          have H := HA.out
          clear HA
          simp only [spec_l2Bent.l1] at H
          by_cases c139 : (x139000_1.length : Int) < 7
          ·rw [if_pos c139] at H
           have c139b0 : decide ((x139000_1.length : Int) < 7) = true := decide_eq_true c139
           have c139b1 : decide (x139000_1.length < 7) = true := decide_eq_true (by omega)
           clear c139
           by_cases c140 : x139000_1.length < 5864062014805
           ·rw [if_pos c140] at H
            have LMc140 := am c140
            clear c140
            obtain ⟨y160, hy160⟩ : ∃ y_ : List (S110), y_ = (x139000_1 ++ [(⟨(⟨#[122]⟩ : ByteArray), 0⟩ : S110)]) := ⟨_, rfl⟩
            replace H : (spec_l2Bent.l1 k1 s0_0 t142 y160) = some (r1, r2) := by first | (rw [hy160]; with_reducible exact H) | (have H2_ := (Option.bind_some _ _).symm.trans H; rw [hy160]; with_reducible exact H2_) | (have H2_ := (Option.bind_some _ _).symm.trans H; with_reducible exact H2_) | with_reducible exact H | (rw [hy160]; exact H) | exact H
            have Ny160 := am hy160
            clear hy160
            have H' := am H
            clear H
            have hnb141 := NB138_133.out
            have hnc141 := NB133_138.out
            have hnb142 := NB138_0.out
            have hnc142 := NB0_138.out
            have hcz143_0 : wr.cell? ⟨gb138, 0, none⟩ = some (u139000) := (blk_cell BK138.out 0).trans rfl
            have hfz143_0 := blk_frozen BK138.out 0
            obtain ⟨Ao144, co144, eo144⟩ := Kd.R_slice HO_139000.out
            subst eo144
            go_wp2_with (first | ((with_reducible refine gate_builtin (b := .append) (xs := #[.tmp 22, .tmp 24]) rfl ?_); at_builtin; refine Kd.R_append k110 w.heap.size rfl (.tmp 22) (.tmp 24) 24 110 (.agg #[(.string ⟨#[]⟩), (.int .i64 0)]) 24 rfl Tryd.underlying24 info110 rfl (by decide) (by omega) (.slice Ao144 x139000_1.length co144) x139000_1 (⟨(⟨#[122]⟩ : ByteArray), 0⟩ : S110) [.string (⟨#[122]⟩ : ByteArray), .int .i64 0] (fun _ => True) (fun _ => False) rfl rfl ?aP (fun _ hk => hk.elim) ?aF ?aO (Below.refl _ _) ?aS ?aL ?_; (case aP => exact k110_mkM _ _ _ (⟨(⟨#[122]⟩ : ByteArray), 0⟩ : S110)); (case aF => exact (fun _ _ => trivial)); (case aO => exact (rq HO_139000.out)); (case aS => exact (keep_size (w := w) (g := g) (row := none) (ks HK.out))); (case aL => have := LMc140.out; omega); intro v161 w145 ho hb hg hat; rw [← Ny160.out] at ho; have n0_ := am (blk_grown (bq BK133.out) hg (Kd.R_ne HO_139000.out BK133.out (by decide))); have n1_ := am (blk_grown (bq BK138.out) hg (Kd.R_ne HO_139000.out BK138.out (by decide))); have n2_ := am (IsS145.grown (IsS145.q HI0.out) hg (IsS145.own_ne HI0.out HO_139000.out (by decide))); have n3_ := am (below_weaken (hsk HB.out (IsS145.ge HI0.out)) HL.out hb); have n4_ := am (KeepBut.trans (ks HK.out) (KeepBut.of_grown hg g) (Kd.R_base2 HO_139000.out)); have n5_ := am (ho); clear BK133 BK138 HI0 HB HK HO_139000; revert n0_ n1_ n2_ n3_ n4_ n5_; intro BK133 BK138 HI0 HB HK HO162; clear ho hb hg hat; obtain ⟨Ao146, co146, eo146⟩ := Kd.R_slice HO162.out; subst eo146; have hcz147_0 : w145.cell? ⟨gb138, 0, none⟩ = some (.slice Ao144 x139000_1.length co144) := (blk_cell BK138.out 0).trans rfl; have hfz147_0 := blk_frozen BK138.out 0))
            go_roundg k1
            case measure => have := HK1.out; omega
            case rel => exact ⟨(y160), (.slice Ao146 y160.length co146), H', ⟨by have := HK1.out; omega⟩, ⟨by (with_reducible repeat (first | apply Kd.R_alloc | apply Kd.R_drewN | apply Kd.R_drew)); exact Kd.R_mono (Kd.R_far (p := ⟨gb138, 0, none⟩) (Kd.R_types HO162.out BK138.out (by decide)) (fun _ hk => hk.2) (.slice Ao146 y160.length co146)) (fun _ hk => trivial)⟩, ⟨by refine bq ?_; refine blk_far ?_ NB133_138.out _; refine bq ?_; exact BK133.out⟩, ⟨by refine bq ?_; refine blk_put (cs := #[.slice Ao144 x139000_1.length co144]) ?_ 0 _ rfl; refine bq ?_; exact BK138.out⟩, ⟨by exact IsS145.q HI0.out⟩, ⟨by exact ks HK.out⟩, ⟨by exact hsk HB.out (IsS145.ge HI0.out)⟩⟩
           ·rw [if_neg c140] at H
            exact absurd H (by simp)
          ·rw [if_neg c139] at H
           have c139b0 : decide ((x139000_1.length : Int) < 7) = false := decide_eq_false c139
           have c139b1 : decide (x139000_1.length < 7) = false := decide_eq_false (by omega)
           clear c139
           simp only [Option.some.injEq, Prod.mk.injEq] at H
           obtain ⟨rfl, rfl⟩ := H
           have hnb148 := NB138_133.out
           have hnc148 := NB133_138.out
           have hnb149 := NB138_0.out
           have hnc149 := NB0_138.out
           have hcz150_0 : wr.cell? ⟨gb138, 0, none⟩ = some (u139000) := (blk_cell BK138.out 0).trans rfl
           have hfz150_0 := blk_frozen BK138.out 0
           obtain ⟨Ao151, co151, eo151⟩ := Kd.R_slice HO_139000.out
           subst eo151
           have hnb152 := NB133_0.out
           have hnc152 := NB0_133.out
           have hcz153_0 : wr.cell? ⟨gb133, 0, none⟩ = some (.slice none 0 0) := (blk_cell BK133.out 0).trans rfl
           have hfz153_0 := blk_frozen BK133.out 0
           go_wp2
           refine bodyPost_ret (results_cell_row rfl _ _ gb133 26 #[.slice Ao151 x139000_1.length co151] (0, 0) _ rfl (by refine bq ?_; refine blk_put (cs := #[.slice none 0 0]) ?_ 0 _ rfl; refine bq ?_; exact BK133.out) Tryd.underlying26 rfl (by kernel_rfl)) rfl ?_
           exact ⟨_, by first | rfl | (simp [errW_none, errW_some] <;> rfl) | (simp [*, errW_none, errW_some] <;> rfl), by (with_reducible repeat (first | apply Kd.R_alloc | apply Kd.R_drewN | apply Kd.R_drew)); exact Kd.R_mono (Kd.R_far (p := ⟨gb133, 0, none⟩) (Kd.R_types HO_139000.out BK133.out (by decide)) (fun _ hk => hk.2) (.slice Ao151 x139000_1.length co151)) (fun _ hk => trivial), by exact IsS145.q HI0.out, by exact hsk HB.out (IsS145.ge HI0.out), by exact ks HK.out⟩
 ·replace c4 := Bool.eq_false_iff.mpr c4
  subst c4
  have H1 : (some (t134, t140)) = some (r1, r2) := by rw [if_neg (show ¬ (false = true) by decide)] at H; exact H
  clear H
  have H := H1
  clear H1
  simp only [Option.some.injEq, Prod.mk.injEq] at H
  obtain ⟨rfl, rfl⟩ := H
  go_enter Tryd.func107, Tryd.ntmps107
  go_wp2_with (first | ((with_reducible refine gate_dst (N := 2) rfl ?_); refine box_event ?hg (N := 2) ?hd (cs := #[.slice none 0 0]) (t := 26) ?hr ?_; (case hd => rfl); (case hg => rfl); (case hr => first | (go_simp; done) | (go_simp; rfl)); intro gb133 hg w154 hbox hb; have n0_ := am (IsS145.below (IsS145.q HI0.out) hb); have n1_ := am (KeepBut.trans (kq HK.out) (KeepBut.of_below hb g none) (.inl rfl)); have n2_ := am (below_step (hsk HB.out (IsS145.ge HI0.out)) hb); have n3_ := am (hbox); have n4_ := am ((by rw [hg]; exact (keep_size (w := w) (g := g) (row := none) (kq HK.out)) : w.heap.size ≤ gb133)); have n5_ := am (Nat.le_trans HW0.out n4_.out); have n6_ := am ((by rw [hg]; exact Nat.ne_of_lt (IsS145.lt (show IsS145 w0 _ g s0_0 s0_1 from by exact IsS145.q HI0.out)) : g ≠ gb133)); have n7_ := am n6_.out.symm; clear HI0 HK HB; revert n0_ n1_ n2_ n3_ n4_ n5_ n6_ n7_; intro HI0 HK HB BK133 GW133 GE133 NB0_133 NB133_0; clear hb hbox hg) | ((with_reducible refine gate_callee (f := 118) rfl ?_); refine goesL_ (some 7) rfl rfl Tryd.func118 (by kernel_rfl) rfl #[.pointer (some ⟨g, 0, none⟩)] rfl el ?_; (with_reducible refine (spec_l2Sig.calls k g s0_0 s0_1 t134 t137 w0 _ ?side1 ?side2 A2.out).mono ?_); (case side1 => exact IsS145.q HI0.out); (case side2 => exact hsk HB.out (IsS145.ge HI0.out)); rintro e w155 ⟨v135, rfl, ho0, hi, hb, hk⟩; refine ⟨_, rfl, ?_⟩; have n0_ := am (KeepBut.blk hk (g' := gb133) (o := .cells #[.slice none 0 0] 26 (0, 0)) (bq BK133.out) NB133_0.out (by simp)); have n1_ := am (Kd.R_lower ho0 (keep_size (w := w) (g := g) (row := none) (ks HK.out))); have n2_ := am (KeepBut.trans (ks HK.out) hk (.inl rfl)); have n3_ := am (hb); have n4_ := am (hi); clear BK133 HK HB HI0; revert n0_ n1_ n2_ n3_ n4_; intro BK133 HO136 HK HB HI0; (try clear hb); (try clear hb2); (try clear hgw); (try clear hk); (try clear hi); (try clear ho0)) | ((with_reducible refine gate_dst (N := 3) rfl ?_); refine box_event ?hg (N := 3) ?hd (cs := #[.slice none 0 0]) (t := 26) ?hr ?_; (case hd => rfl); (case hg => rfl); (case hr => first | (go_simp; done) | (go_simp; rfl)); intro gb138 hg w156 hbox hb; have n0_ := am (Kd.R_below (rq HO136.out) hb); have n1_ := am (IsS145.below (IsS145.q HI0.out) hb); have n2_ := am (blk_below (bq BK133.out) hb); have n3_ := am (KeepBut.trans (ks HK.out) (KeepBut.of_below hb g none) (.inl rfl)); have n4_ := am (below_step (hsk HB.out (IsS145.ge HI0.out)) hb); have n5_ := am (hbox); have n6_ := am ((by rw [hg]; exact (keep_size (w := w) (g := g) (row := none) (ks HK.out)) : w.heap.size ≤ gb138)); have n7_ := am (Nat.le_trans HW0.out n6_.out); have n8_ := am ((by rw [hg]; exact Nat.ne_of_lt (blk_lt (bq BK133.out)) : gb133 ≠ gb138)); have n9_ := am ((by rw [hg]; exact Nat.ne_of_gt (blk_lt (bq BK133.out)) : gb138 ≠ gb133)); have n10_ := am ((by rw [hg]; exact Nat.ne_of_lt (IsS145.lt (show IsS145 w0 _ g s0_0 t137 from by exact IsS145.q HI0.out)) : g ≠ gb138)); have n11_ := am n10_.out.symm; clear HO136 HI0 BK133 HK HB; revert n0_ n1_ n2_ n3_ n4_ n5_ n6_ n7_ n8_ n9_ n10_ n11_; intro HO136 HI0 BK133 HK HB BK138 GW138 GE138 NB133_138 NB138_133 NB0_138 NB138_0; clear hb hbox hg; obtain ⟨Ao157, co157, eo157⟩ := Kd.R_slice HO136.out; subst eo157; have hnb158 := NB138_133.out; have hnc158 := NB133_138.out; have hnb159 := NB138_0.out; have hnc159 := NB0_138.out; have hcz160_0 : w156.cell? ⟨gb138, 0, none⟩ = some (.slice none 0 0) := (blk_cell BK138.out 0).trans rfl; have hfz160_0 := blk_frozen BK138.out 0) | ((with_reducible refine gate_callee (f := 119) rfl ?_); refine goesL_ (some 12) rfl rfl Tryd.func119 (by kernel_rfl) rfl #[.pointer (some ⟨g, 0, none⟩), .int .i64 9] rfl el ?_; (with_reducible refine (spec_l1Chance.calls g s0_0 t137 9 false t140 w0 _ ?side1 ?side2 A3.out).mono ?_); (case side1 => exact IsS145.q HI0.out); (case side2 => exact hsk HB.out (IsS145.ge HI0.out)); rintro e w161 ⟨rfl, hi, hb, hk⟩; refine ⟨_, rfl, ?_⟩; have n0_ := am (KeepBut.blk hk (g' := gb133) (o := .cells #[.slice none 0 0] 26 (0, 0)) (by refine bq ?_; refine blk_far ?_ NB133_138.out _; refine bq ?_; exact BK133.out) NB133_0.out (by simp)); have n1_ := am (Kd.R_mono (Kd.R_keep (IsS145.apart (show IsS145 w0 _ g s0_0 t137 from by exact IsS145.q HI0.out) (by (with_reducible repeat (first | apply Kd.R_alloc | apply Kd.R_drewN | apply Kd.R_drew)); exact (Kd.R_mono (Kd.R_far (p := ⟨gb138, 0, none⟩) (Kd.R_types HO136.out BK138.out (by decide)) (fun _ hk => hk.2) (.slice Ao157 t134.length co157)) (fun _ h_ => h_.1))) (by decide)) hk (fun _ h => h.2)) (fun _ h => h.1)); have n2_ := am (KeepBut.blk hk (g' := gb138) (o := .cells #[.slice Ao157 t134.length co157] 26 (0, 0)) (by refine bq ?_; refine blk_put (cs := #[.slice none 0 0]) ?_ 0 _ rfl; refine bq ?_; exact BK138.out) NB138_0.out (by simp)); have n3_ := am (KeepBut.trans (ks HK.out) hk (.inl rfl)); have n4_ := am (hb); have n5_ := am (hi); clear BK133 HO136 BK138 HK HB HI0; revert n0_ n1_ n2_ n3_ n4_ n5_; intro BK133 HO136 BK138 HK HB HI0; (try clear hb); (try clear hb2); (try clear hgw); (try clear hk); (try clear hi); have hcz162_0 : w161.cell? ⟨gb138, 0, none⟩ = some (.slice Ao157 t134.length co157) := (blk_cell BK138.out 0).trans rfl; have hfz162_0 := blk_frozen BK138.out 0; have hnb163 := NB133_0.out; have hnc163 := NB0_133.out; have hcz164_0 : w161.cell? ⟨gb133, 0, none⟩ = some (.slice none 0 0) := (blk_cell BK133.out 0).trans rfl; have hfz164_0 := blk_frozen BK133.out 0))
  refine bodyPost_ret (results_cell_row rfl _ _ gb133 26 #[.slice Ao157 t134.length co157] (0, 0) _ rfl (by refine bq ?_; refine blk_put (cs := #[.slice none 0 0]) ?_ 0 _ rfl; refine bq ?_; exact BK133.out) Tryd.underlying26 rfl (by kernel_rfl)) rfl ?_
  exact ⟨_, by first | rfl | (simp [errW_none, errW_some] <;> rfl) | (simp [*, errW_none, errW_some] <;> rfl), by (with_reducible repeat (first | apply Kd.R_alloc | apply Kd.R_drewN | apply Kd.R_drew)); exact Kd.R_mono (Kd.R_far (p := ⟨gb133, 0, none⟩) (Kd.R_types HO136.out BK133.out (by decide)) (fun _ hk => hk.2) (.slice Ao157 t134.length co157)) (fun _ hk => trivial), by exact IsS145.q HI0.out, by exact hsk HB.out (IsS145.ge HI0.out), by exact ks HK.out⟩
end Go.Proofs.YtcanokiehjjbgaaDoor.P
