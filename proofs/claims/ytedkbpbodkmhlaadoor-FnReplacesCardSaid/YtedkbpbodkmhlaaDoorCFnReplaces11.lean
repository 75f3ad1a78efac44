/- A part of the proof of the law FnReplaces. -/
import Derived.Laws.StructEq
import Derived.Test.YtedkbpbodkmhlaaDoorCFnReplaces0
import Derived.Test.YtedkbpbodkmhlaaDoorCFnReplaces1
import Derived.Test.YtedkbpbodkmhlaaDoorCFnReplaces2
import Derived.Test.YtedkbpbodkmhlaaDoorCFnReplaces3
import Derived.Test.YtedkbpbodkmhlaaDoorCFnReplaces4
import Derived.Test.YtedkbpbodkmhlaaDoorCFnReplaces5
import Derived.Test.YtedkbpbodkmhlaaDoorCFnReplaces6
import Derived.Test.YtedkbpbodkmhlaaDoorCFnReplaces7
import Derived.Test.YtedkbpbodkmhlaaDoorCFnReplaces8
import Derived.Test.YtedkbpbodkmhlaaDoorCFnReplaces9
import Derived.Test.YtedkbpbodkmhlaaDoorCFnReplaces10
import Derived.Test.YtedkbpbodkmhlaaDoorCFnReplaces16
namespace Go.Proofs.YtedkbpbodkmhlaaDoor.P
open Go.RowKit Go.Proofs.YtedkbpbodkmhlaaDoorW.PrintWords Go.Proofs.YtedkbpbodkmhlaaDoorW.PrintLast Go.Proofs.YtedkbpbodkmhlaaDoorW.PrintMore
attribute [local go_sem] max2_int min2_int max_two min_two max_three min_three max_four min_four   -- for this text's walks alone
set_option linter.unusedVariables false
set_option linter.unusedSimpArgs false
def laws_FnReplaces.j0 : Nat → List Int → Int → List Int → Bool → List (S99) → Int → List Int → Int → List Int → Option (Bool)
 | 0, _, _, _, _, _, _, _, _, _ => none
 | k + 1, x4, x5, x6, x47, x1101000, x1106000, x1106001, x1111000, x1111001 => if x47 = true then (some false) else (if x1106000 = 0 then ((impl_SubtermAt.f k x1101000 x1106001 x5).bind fun bt1119 => ((impl_ReplaceAt.f k x1101000 x1106001 x5 x1111001).bind fun bt1124 => (if bt1119.1 = 0 then ((laws_lwNums.f k bt1119.2 x6).bind fun t1129 => (if t1129 = true then (if bt1124.1 = 0 then ((laws_lwNums.f k bt1124.2 x4).bind fun t1130 => (if t1130 = true then ((impl_SizeAt.f k x1101000 x1106001 x5).bind fun bt1131 => (if bt1131.2 = (x6.length : Int) then ((impl_SizeAt.f k x1101000 x4 x5).bind fun bt1133 => (if bt1133.2 = (x1111001.length : Int) then ((impl_TermFault.f k x1101000 x1106001).bind fun t1135 => (if t1135 = 0 then (some ((x1106001.length : Int) == (wrap64 ((wrap64 ((x4.length : Int) + (x6.length : Int))) - (x1111001.length : Int))))) else (some false))) else (some false))) else (some false))) else (some false))) else (some false)) else (some false))) else (some false)))) else (some true))
def laws_FnReplaces.f (k : Nat) (l0 : List Int) : Option (Bool) := (laws_lwBig.f l0).bind fun t1089 => (if t1089 = true then (some true) else ((spec_DrawReplaceAt.f k l0).bind fun bt1090 => ((impl_ReplaceAt.f k bt1090.1 bt1090.2.1 bt1090.2.2.1 bt1090.2.2.2).bind fun bt1101 => ((impl_SubtermAt.f k bt1090.1 bt1090.2.1 bt1090.2.2.1).bind fun bt1106 => ((spec_ReplaceAt.f k bt1090.1 bt1090.2.1 bt1090.2.2.1 bt1090.2.2.2).bind fun bt1111 => (if bt1101.1 = bt1111.1 then ((spec_SubtermAt.f k bt1090.1 bt1090.2.1 bt1090.2.2.1).bind fun bt1115 => (laws_FnReplaces.j0 k bt1090.2.1 bt1090.2.2.1 bt1090.2.2.2 (bt1106.1 != bt1115.1) bt1090.1 bt1101.1 bt1101.2 bt1106.1 bt1106.2)) else (laws_FnReplaces.j0 k bt1090.2.1 bt1090.2.2.1 bt1090.2.2.2 true bt1090.1 bt1101.1 bt1101.2 bt1106.1 bt1106.2)))))))
def laws_FnReplaces.T6 : Bool × List (List Nat × List Nat) := (true, [([], []), ([0], [0]), ([], []), ([], []), ([], []), ([], []), ([2, 3, 4, 5], [2, 3, 4, 5]), ([6], [6]), ([1, 7], [1, 7]), ([8, 6], [8]), ([9], [9]), ([10, 9], [9, 10]), ([9], [9]), ([9], [9]), ([9], [9]), ([12, 13, 14, 9, 9], [9, 12, 13, 14]), ([15, 9], [9, 15]), ([11, 16, 9], [9, 11, 16]), ([9, 17], [9, 17])])
def laws_FnReplaces.B6 : List Nat := [0, 1, 0, 0, 0, 0, 60, 124, 255, 511, 1023, 2047, 1023, 1023, 1023, 29695, 62463, 131071, 262143]
theorem laws_FnReplaces.tab6 : rtab .any (opsOf Tryd.f11 6) = laws_FnReplaces.T6 := by kernel_rfl
theorem laws_FnReplaces.bits6 : waitsOk laws_FnReplaces.T6.2 laws_FnReplaces.B6 = true := by kernel_rfl
def laws_FnReplaces.T12 : Bool × List (List Nat × List Nat) := (true, [([], []), ([0], [0]), ([1], [1]), ([2], [2]), ([3], [3]), ([4, 3], [3, 4]), ([3], [3]), ([5, 6, 3, 3], [3, 5, 6]), ([3, 7], [3, 7]), ([8, 7], [8]), ([9], [9]), ([10, 9], [9, 10]), ([11, 9], [9, 11]), ([9, 12], [9, 12]), ([13, 9], [13]), ([14], [14]), ([15, 14], [14, 15]), ([14], [14]), ([16, 17, 14, 14], [14, 16, 17]), ([14, 18], [14, 18]), ([19, 18], [19]), ([20], [20]), ([20], [20]), ([22, 20], [20, 22]), ([20], [20]), ([21, 23, 24, 20, 20], [20, 21, 23, 24]), ([25, 20], [20, 25]), ([20], [20]), ([27, 20], [20, 27]), ([26, 28, 20], [20, 26, 28]), ([20, 29], [20, 29]), ([30, 25], [30]), ([31], [31]), ([31], [31]), ([31], [31]), ([32, 33, 34, 31, 31], [31, 32, 33, 34]), ([35, 31], [31, 35]), ([31], [31]), ([37, 31], [31, 37]), ([38, 31], [31, 38]), ([36, 39, 31], [31, 36, 39]), ([31, 40], [31, 40]), ([41, 35], [41]), ([42], [42]), ([42], [42]), ([44, 42], [42, 44]), ([43, 45, 42, 42], [42, 43, 45]), ([46, 42], [42, 46]), ([42, 47], [42, 47]), ([48, 46], [48]), ([49], [49]), ([50, 49], [49, 50]), ([51, 49], [49, 51]), ([49], [49]), ([53, 49], [49, 53]), ([49], [49]), ([55, 49], [49, 55]), ([54, 56, 49], [49, 54, 56]), ([49], [49]), ([58, 49], [49, 58]), ([59, 49], [49, 59]), ([57, 60, 49], [49, 57, 60]), ([52, 61, 49], [49, 52, 61]), ([49, 62], [49, 62]), ([63, 49, 0, 1, 2, 3, 4, 5, 6, 7, 8, 9, 10, 11, 12, 13, 14, 15, 16, 17, 18, 19, 20, 21, 22, 23, 24, 25, 26, 27, 28, 29, 30, 31, 32, 33, 34, 35, 36, 37, 38, 39, 40, 41, 42, 43, 44, 45, 46, 47, 48, 49, 50, 51, 52, 53, 54, 55, 56, 57, 58, 59, 60, 61, 62, 63], [63])])
def laws_FnReplaces.B12 : List Nat := [0, 1, 3, 7, 15, 31, 15, 127, 255, 511, 1023, 2047, 4095, 8191, 16383, 32767, 65535, 32767, 262143, 524287, 1048575, 2097151, 2097151, 6291455, 2097151, 33554431, 67108863, 2097151, 136314879, 536870911, 1073741823, 2147483647, 4294967295, 4294967295, 4294967295, 34359738367, 68719476735, 4294967295, 141733920767, 416611827711, 1099511627775, 2199023255551, 4398046511103, 8796093022207, 8796093022207, 26388279066623, 70368744177663, 140737488355327, 281474976710655, 562949953421311, 1125899906842623, 2251799813685247, 4503599627370495, 1125899906842623, 10133099161583615, 1125899906842623, 37154696925806591, 136233888727957503, 1125899906842623, 289356276058554367, 865817028361977855, 2297961709865795583, 4611686018427387903, 9223372036854775807, 18446744073709551615]
theorem laws_FnReplaces.tab12 : rtab .any (opsOf Tryd.f11 12) = laws_FnReplaces.T12 := by kernel_rfl
theorem laws_FnReplaces.bits12 : waitsOk laws_FnReplaces.T12.2 laws_FnReplaces.B12 = true := by kernel_rfl
set_option maxHeartbeats 8000000 in
set_option maxRecDepth 100000 in
theorem laws_FnReplaces.calls (k : Nat) (A0 : Option Addr) (c0 : Nat) (l0 : List Int) (r : Bool) (w : World) (hr0 : Kd.C (Kd.int .u8) w A0 l0.length l0) (hc0 : l0.length ≤ c0) (h : laws_FnReplaces.f k l0 = some r) (ht_ : r = true := by rfl) :
  Calls Tryd.prog 11 #[.slice A0 l0.length c0] w fun e w' => e = .returned (.bool r) ∧ Below w.heap.size w w' := by
 have hu42 := Tryd.underlying42
 have hu67 := Tryd.underlying67
 have hfd67_0 : ∀ (x0_ x1_ : Value) (w_ : World), (Instr.field 67 (.agg #[x0_, x1_]) 0).run Tryd.prog w_ = .ok (x0_) w_ := fun _ _ _ => by kernel_rfl
 have hfd28_1 : ∀ (x0_ x1_ : Value) (w_ : World), (Instr.field 28 (.agg #[x0_, x1_]) 1).run Tryd.prog w_ = .ok (x1_) w_ := fun _ _ _ => by kernel_rfl
 have HR0 := am hr0
 have HC0 := am hc0
 clear hr0 hc0
 have HB := am (Below.refl w.heap.size w)
 have H : ((laws_lwBig.f l0).bind fun t1089 => (if t1089 = true then (some true) else ((spec_DrawReplaceAt.f k l0).bind fun bt1090 => ((impl_ReplaceAt.f k bt1090.1 bt1090.2.1 bt1090.2.2.1 bt1090.2.2.2).bind fun bt1101 => ((impl_SubtermAt.f k bt1090.1 bt1090.2.1 bt1090.2.2.1).bind fun bt1106 => ((spec_ReplaceAt.f k bt1090.1 bt1090.2.1 bt1090.2.2.1 bt1090.2.2.2).bind fun bt1111 => (if bt1101.1 = bt1111.1 then ((spec_SubtermAt.f k bt1090.1 bt1090.2.1 bt1090.2.2.1).bind fun bt1115 => (laws_FnReplaces.j0 k bt1090.2.1 bt1090.2.2.1 bt1090.2.2.2 (bt1106.1 != bt1115.1) bt1090.1 bt1101.1 bt1101.2 bt1106.1 bt1106.2)) else (laws_FnReplaces.j0 k bt1090.2.1 bt1090.2.2.1 bt1090.2.2.2 true bt1090.1 bt1101.1 bt1101.2 bt1106.1 bt1106.2)))))))) = some r := h
 clear h
 replace H := Option.bind_eq_some_iff.mp H
 obtain ⟨t1089, A20, H⟩ := H
 replace H : (if t1089 = true then (some true) else ((spec_DrawReplaceAt.f k l0).bind fun bt1090 => ((impl_ReplaceAt.f k bt1090.1 bt1090.2.1 bt1090.2.2.1 bt1090.2.2.2).bind fun bt1101 => ((impl_SubtermAt.f k bt1090.1 bt1090.2.1 bt1090.2.2.1).bind fun bt1106 => ((spec_ReplaceAt.f k bt1090.1 bt1090.2.1 bt1090.2.2.1 bt1090.2.2.2).bind fun bt1111 => (if bt1101.1 = bt1111.1 then ((spec_SubtermAt.f k bt1090.1 bt1090.2.1 bt1090.2.2.1).bind fun bt1115 => (laws_FnReplaces.j0 k bt1090.2.1 bt1090.2.2.1 bt1090.2.2.2 (bt1106.1 != bt1115.1) bt1090.1 bt1101.1 bt1101.2 bt1106.1 bt1106.2)) else (laws_FnReplaces.j0 k bt1090.2.1 bt1090.2.2.1 bt1090.2.2.2 true bt1090.1 bt1101.1 bt1101.2 bt1106.1 bt1106.2))))))) = some r := H
 have A2 := am A20
 clear A20
 by_cases c3 : t1089 = true
 ·subst c3
  have H1 : (some true) = some r := by rw [if_pos rfl] at H; exact H
  clear H
  have H := H1
  clear H1
  obtain rfl := Option.some.inj H
  go_enter Tryd.func11, Tryd.ntmps11
  go_wp2_with (first | ((with_reducible refine gate_callee (f := 30) rfl ?_); refine goesL_ (some 12) rfl rfl Tryd.func30 (by kernel_rfl) rfl #[.slice A0 l0.length c0] rfl el ?_; (with_reducible refine (laws_lwBig.calls _ _ l0 true _ ?side1 ?side2 A2.out).mono ?_); (case side1 => exact cq HR0.out); (case side2 => exact HC0.out); rintro e w' ⟨rfl, ⟨nd, rfl⟩⟩; refine ⟨_, rfl, ?_⟩))
  go_ret
  exact ⟨by first | rfl | (simp [errW_none, errW_some] <;> rfl) | (simp [*, errW_none, errW_some] <;> rfl), by exact hq HB.out⟩
 ·replace c3 := Bool.eq_false_iff.mpr c3
  subst c3
  have H1 : ((spec_DrawReplaceAt.f k l0).bind fun bt1090 => ((impl_ReplaceAt.f k bt1090.1 bt1090.2.1 bt1090.2.2.1 bt1090.2.2.2).bind fun bt1101 => ((impl_SubtermAt.f k bt1090.1 bt1090.2.1 bt1090.2.2.1).bind fun bt1106 => ((spec_ReplaceAt.f k bt1090.1 bt1090.2.1 bt1090.2.2.1 bt1090.2.2.2).bind fun bt1111 => (if bt1101.1 = bt1111.1 then ((spec_SubtermAt.f k bt1090.1 bt1090.2.1 bt1090.2.2.1).bind fun bt1115 => (laws_FnReplaces.j0 k bt1090.2.1 bt1090.2.2.1 bt1090.2.2.2 (bt1106.1 != bt1115.1) bt1090.1 bt1101.1 bt1101.2 bt1106.1 bt1106.2)) else (laws_FnReplaces.j0 k bt1090.2.1 bt1090.2.2.1 bt1090.2.2.2 true bt1090.1 bt1101.1 bt1101.2 bt1106.1 bt1106.2)))))) = some r := by rw [if_neg (show ¬ (false = true) by decide)] at H; exact H
  clear H
  have H := H1
  clear H1
  replace H := Option.bind_eq_some_iff.mp H
  obtain ⟨⟨t1090, t1093, t1096, t1097⟩, A40, H⟩ := H
  replace H : ((impl_ReplaceAt.f k t1090 t1093 t1096 t1097).bind fun bt1101 => ((impl_SubtermAt.f k t1090 t1093 t1096).bind fun bt1106 => ((spec_ReplaceAt.f k t1090 t1093 t1096 t1097).bind fun bt1111 => (if bt1101.1 = bt1111.1 then ((spec_SubtermAt.f k t1090 t1093 t1096).bind fun bt1115 => (laws_FnReplaces.j0 k t1093 t1096 t1097 (bt1106.1 != bt1115.1) t1090 bt1101.1 bt1101.2 bt1106.1 bt1106.2)) else (laws_FnReplaces.j0 k t1093 t1096 t1097 true t1090 bt1101.1 bt1101.2 bt1106.1 bt1106.2))))) = some r := H
  have A4 := am A40
  clear A40
  replace H := Option.bind_eq_some_iff.mp H
  obtain ⟨⟨t1101, t1102⟩, A50, H⟩ := H
  replace H : ((impl_SubtermAt.f k t1090 t1093 t1096).bind fun bt1106 => ((spec_ReplaceAt.f k t1090 t1093 t1096 t1097).bind fun bt1111 => (if t1101 = bt1111.1 then ((spec_SubtermAt.f k t1090 t1093 t1096).bind fun bt1115 => (laws_FnReplaces.j0 k t1093 t1096 t1097 (bt1106.1 != bt1115.1) t1090 t1101 t1102 bt1106.1 bt1106.2)) else (laws_FnReplaces.j0 k t1093 t1096 t1097 true t1090 t1101 t1102 bt1106.1 bt1106.2)))) = some r := H
  have A5 := am A50
  clear A50
  replace H := Option.bind_eq_some_iff.mp H
  obtain ⟨⟨t1106, t1107⟩, A60, H⟩ := H
  replace H : ((spec_ReplaceAt.f k t1090 t1093 t1096 t1097).bind fun bt1111 => (if t1101 = bt1111.1 then ((spec_SubtermAt.f k t1090 t1093 t1096).bind fun bt1115 => (laws_FnReplaces.j0 k t1093 t1096 t1097 (t1106 != bt1115.1) t1090 t1101 t1102 t1106 t1107)) else (laws_FnReplaces.j0 k t1093 t1096 t1097 true t1090 t1101 t1102 t1106 t1107))) = some r := H
  have A6 := am A60
  clear A60
  have HC7 := am H
  clear H
  go_enter Tryd.func11, Tryd.ntmps11
  go_upto_region 6 with (first | ((with_reducible refine gate_callee (f := 30) rfl ?_); refine goesL_ (some 12) rfl rfl Tryd.func30 (by kernel_rfl) rfl #[.slice A0 l0.length c0] rfl el ?_; (with_reducible refine (laws_lwBig.calls _ _ l0 false _ ?side1 ?side2 A2.out).mono ?_); (case side1 => exact cq HR0.out); (case side2 => exact HC0.out); rintro e w' ⟨rfl, ⟨nd, rfl⟩⟩; refine ⟨_, rfl, ?_⟩) | ((with_reducible refine gate_callee (f := 53) rfl ?_); refine goesL_ (some 15) rfl rfl Tryd.func53 (by kernel_rfl) rfl #[.slice A0 l0.length c0] rfl el ?_; (with_reducible refine (spec_DrawReplaceAt.calls k _ _ l0 t1090 t1093 t1096 t1097 _ ?side1 ?side2 A4.out).mono ?_); (case side1 => exact cq HR0.out); (case side2 => exact HC0.out); rintro e w8 ⟨v1091, v1094, v1098, rfl, ho0, ho1, ho2, hb⟩; refine ⟨_, rfl, ?_⟩; have n0_ := am (Kd.R_lower ho0 (below_size (hq HB.out))); have n1_ := am (Kd.R_lower ho1 (below_size (hq HB.out))); have n2_ := am (Kd.R_lower ho2 (below_size (hq HB.out))); have n3_ := am (below_step (hq HB.out) hb); clear HB; revert n0_ n1_ n2_ n3_; intro HO1092 HO1095 HO1099 HB; (try clear hb); (try clear hb2); (try clear hgw); (try clear hk); (try clear hi); (try clear ho0); (try clear ho1); (try clear ho2)) | ((with_reducible refine gate_dst (N := 3) rfl ?_); (try (refine gate_guard (by rfl) ?_; dsimp only)); refine box_event ?hg (N := 3) ?hd (cs := #[.slice none 0 0]) (t := 42) ?hr ?_; (case hd => rfl); (case hg => rfl); (case hr => first | (go_simp; done) | (go_simp; rfl)); intro gb1100 hg w9 hbox hb; have n0_ := am (Kd.R_below (rq HO1092.out) hb); have n1_ := am (Kd.R_below (rq HO1095.out) hb); have n2_ := am (Kd.R_below (rq HO1099.out) hb); have n3_ := am (below_step (hq HB.out) hb); have n4_ := am (hbox); have n5_ := am (bz hg (hq HB.out)); have n6_ := n5_; clear HO1092 HO1095 HO1099 HB; revert n0_ n1_ n2_ n3_ n4_ n5_ n6_; intro HO1092 HO1095 HO1099 HB BK1100 GW1100 GE1100; clear hb hbox hg; obtain ⟨Ao10, co10, eo10⟩ := Kd.R_slice HO1092.out; subst eo10; have hcz11_0 : w9.cell? ⟨gb1100, 0, none⟩ = some (.slice none 0 0) := (blk_cell BK1100.out 0).trans rfl; have hfz11_0 := blk_frozen BK1100.out 0; obtain ⟨Ao12, co12, eo12⟩ := Kd.R_slice HO1095.out; subst eo12; obtain ⟨Ao13, co13, eo13⟩ := Kd.R_slice HO1099.out; subst eo13) | ((with_reducible refine gate_callee (f := 52) rfl ?_); refine goesL_ (some 24) rfl rfl Tryd.func52 (by kernel_rfl) rfl #[.agg #[.slice Ao10 t1090.length co10], .slice Ao12 t1093.length co12, .int .i64 t1096, .slice Ao13 t1097.length co13] rfl el ?_; (with_reducible refine (impl_ReplaceAt.calls k _ _ t1090 _ _ t1093 t1096 _ _ t1097 t1101 t1102 _ ?side1 ?side2 ?side3 ?side4 ?side5 ?side6 A5.out).mono ?_); (case side1 => refine (Kd.R_reads' (e := 99) (base := w.heap.size) (ok := fun k_ => True) (n := t1090.length) (c := co10) ?_).2.2; exact (by (with_reducible repeat (first | apply Kd.R_alloc | apply Kd.R_drewN | apply Kd.R_drew)); exact (Kd.R_mono (Kd.R_far (p := ⟨gb1100, 0, none⟩) (Kd.R_types HO1092.out BK1100.out (by decide)) (fun _ hk => hk.2) (.slice Ao10 t1090.length co10)) (fun _ h_ => h_.1)))); (case side2 => exact (Kd.R_reads' HO1092.out).2.1); (case side3 => refine (Kd.R_reads' (e := 2) (base := w.heap.size) (ok := fun k_ => some k_ ≠ (.slice Ao13 t1097.length co13 : Value).ownBlock) (n := t1093.length) (c := co12) ?_).2.2; exact (by (with_reducible repeat (first | apply Kd.R_alloc | apply Kd.R_drewN | apply Kd.R_drew)); exact (Kd.R_mono (Kd.R_far (p := ⟨gb1100, 0, none⟩) (Kd.R_types HO1095.out BK1100.out (by decide)) (fun _ hk => hk.2) (.slice Ao10 t1090.length co10)) (fun _ h_ => h_.1)))); (case side4 => exact (Kd.R_reads' HO1095.out).2.1); (case side5 => refine (Kd.R_reads' (e := 2) (base := w.heap.size) (ok := fun k_ => some k_ ≠ (.slice Ao12 t1093.length co12 : Value).ownBlock) (n := t1097.length) (c := co13) ?_).2.2; exact (by (with_reducible repeat (first | apply Kd.R_alloc | apply Kd.R_drewN | apply Kd.R_drew)); exact (Kd.R_mono (Kd.R_far (p := ⟨gb1100, 0, none⟩) (Kd.R_types HO1099.out BK1100.out (by decide)) (fun _ hk => hk.2) (.slice Ao10 t1090.length co10)) (fun _ h_ => h_.1)))); (case side6 => exact (Kd.R_reads' HO1099.out).2.1); rintro e w14 ⟨v1103, rfl, ho0, hb⟩; refine ⟨_, rfl, ?_⟩; have n0_ := am (Kd.R_below (by (with_reducible repeat (first | apply Kd.R_alloc | apply Kd.R_drewN | apply Kd.R_drew)); exact (Kd.R_mono (Kd.R_far (p := ⟨gb1100, 0, none⟩) (Kd.R_types HO1092.out BK1100.out (by decide)) (fun _ hk => hk.2) (.slice Ao10 t1090.length co10)) (fun _ h_ => h_.1))) hb); have n1_ := am (Kd.R_elder' (by (with_reducible repeat (first | apply Kd.R_alloc | apply Kd.R_drewN | apply Kd.R_drew)); exact (Kd.R_mono (Kd.R_far (p := ⟨gb1100, 0, none⟩) (Kd.R_types HO1095.out BK1100.out (by decide)) (fun _ hk => hk.2) (.slice Ao10 t1090.length co10)) (fun _ h_ => h_.1))) (Kd.R_base ho0) hb); have n2_ := am (Kd.R_elder' (by (with_reducible repeat (first | apply Kd.R_alloc | apply Kd.R_drewN | apply Kd.R_drew)); exact (Kd.R_mono (Kd.R_far (p := ⟨gb1100, 0, none⟩) (Kd.R_types HO1099.out BK1100.out (by decide)) (fun _ hk => hk.2) (.slice Ao10 t1090.length co10)) (fun _ h_ => h_.1))) (Kd.R_base ho0) hb); have n3_ := am (Kd.R_lower (Kd.R_new' (Kd.R_new' ho0 (Kd.R_lt (by (with_reducible repeat (first | apply Kd.R_alloc | apply Kd.R_drewN | apply Kd.R_drew)); exact (Kd.R_mono (Kd.R_far (p := ⟨gb1100, 0, none⟩) (Kd.R_types HO1095.out BK1100.out (by decide)) (fun _ hk => hk.2) (.slice Ao10 t1090.length co10)) (fun _ h_ => h_.1))))) (Kd.R_lt (by (with_reducible repeat (first | apply Kd.R_alloc | apply Kd.R_drewN | apply Kd.R_drew)); exact (Kd.R_mono (Kd.R_far (p := ⟨gb1100, 0, none⟩) (Kd.R_types HO1099.out BK1100.out (by decide)) (fun _ hk => hk.2) (.slice Ao10 t1090.length co10)) (fun _ h_ => h_.1))))) (below_size (hs HB.out))); have n4_ := am (blk_below (g := gb1100) (o := .cells #[.slice Ao10 t1090.length co10] 42 (0, 0)) (by refine bq ?_; refine blk_put (cs := #[.slice none 0 0]) ?_ 0 _ rfl; refine bq ?_; exact BK1100.out) hb); have n5_ := am (below_step (hs HB.out) hb); clear HO1092 HO1095 HO1099 BK1100 HB; revert n0_ n1_ n2_ n3_ n4_ n5_; intro HO1092 HO1095 HO1099 HO1104 BK1100 HB; (try clear hb); (try clear hb2); (try clear hgw); (try clear hk); (try clear hi); (try clear ho0)) | ((with_reducible refine gate_dst (N := 7) rfl ?_); (try (refine gate_guard (by rfl) ?_; dsimp only)); refine box_event ?hg (N := 7) ?hd (cs := #[.int .i64 0, .slice none 0 0]) (t := 67) ?hr ?_; (case hd => rfl); (case hg => rfl); (case hr => first | (go_simp; done) | (go_simp; rfl)); intro gb1105 hg w15 hbox hb; have n0_ := am (Kd.R_below (rq HO1092.out) hb); have n1_ := am (Kd.R_below (rq HO1095.out) hb); have n2_ := am (Kd.R_below (rq HO1099.out) hb); have n3_ := am (Kd.R_below (rq HO1104.out) hb); have n4_ := am (blk_below (bq BK1100.out) hb); have n5_ := am (below_step (hs HB.out) hb); have n6_ := am (hbox); have n7_ := am (bz hg (hs HB.out)); have n8_ := n7_; have n9_ := am ((by rw [hg]; exact Nat.ne_of_lt (blk_lt (bq BK1100.out)) : gb1100 ≠ gb1105)); have n10_ := am ((by rw [hg]; exact Nat.ne_of_gt (blk_lt (bq BK1100.out)) : gb1105 ≠ gb1100)); clear HO1092 HO1095 HO1099 HO1104 BK1100 HB; revert n0_ n1_ n2_ n3_ n4_ n5_ n6_ n7_ n8_ n9_ n10_; intro HO1092 HO1095 HO1099 HO1104 BK1100 HB BK1105 GW1105 GE1105 NB1100_1105 NB1105_1100; clear hb hbox hg; have hnb16 := NB1105_1100.out; have hnc16 := NB1100_1105.out; have hcz17_0 : w15.cell? ⟨gb1105, 0, none⟩ = some (.int .i64 0) := (blk_cell BK1105.out 0).trans rfl; have hcz17_1 : w15.cell? ⟨gb1105, 1, none⟩ = some (.slice none 0 0) := (blk_cell BK1105.out 1).trans rfl; have hfz17_0 := blk_frozen BK1105.out 0; have hfz17_1 := blk_frozen BK1105.out 1; obtain ⟨Ao18, co18, eo18⟩ := Kd.R_slice HO1104.out; subst eo18; have hcz19_0 : w15.cell? ⟨gb1100, 0, none⟩ = some (.slice Ao10 t1090.length co10) := (blk_cell BK1100.out 0).trans rfl; have hfz19_0 := blk_frozen BK1100.out 0) | ((with_reducible refine gate_callee (f := 54) rfl ?_); refine goesL_ (some 28) rfl rfl Tryd.func54 (by kernel_rfl) rfl #[.agg #[.slice Ao10 t1090.length co10], .slice Ao12 t1093.length co12, .int .i64 t1096] rfl el ?_; (with_reducible refine (impl_SubtermAt.calls k _ _ t1090 _ _ t1093 t1096 t1106 t1107 _ ?side1 ?side2 ?side3 ?side4 A6.out).mono ?_); (case side1 => refine (Kd.R_reads' (e := 99) (base := w.heap.size) (ok := fun k_ => True) (n := t1090.length) (c := co10) ?_).2.2; exact (by (with_reducible repeat (first | apply Kd.R_alloc | apply Kd.R_drewN | apply Kd.R_drew)); exact (Kd.R_mono (Kd.R_far (p := ⟨gb1105, 1, none⟩) (Kd.R_far (p := ⟨gb1105, 0, none⟩) (Kd.R_types HO1092.out BK1105.out (by decide)) (fun _ hk => hk.2) (.int .i64 t1101)) (fun _ hk => hk.2) (.slice Ao18 t1102.length co18)) (fun _ h_ => h_.1)))); (case side2 => exact (Kd.R_reads' HO1092.out).2.1); (case side3 => refine (Kd.R_reads' (e := 2) (base := w.heap.size) (ok := fun k_ => (some k_ ≠ (.slice Ao13 t1097.length co13 : Value).ownBlock ∧ some k_ ≠ (.slice Ao18 t1102.length co18 : Value).ownBlock)) (n := t1093.length) (c := co12) ?_).2.2; exact (by (with_reducible repeat (first | apply Kd.R_alloc | apply Kd.R_drewN | apply Kd.R_drew)); exact (Kd.R_mono (Kd.R_far (p := ⟨gb1105, 1, none⟩) (Kd.R_far (p := ⟨gb1105, 0, none⟩) (Kd.R_types HO1095.out BK1105.out (by decide)) (fun _ hk => hk.2) (.int .i64 t1101)) (fun _ hk => hk.2) (.slice Ao18 t1102.length co18)) (fun _ h_ => h_.1)))); (case side4 => exact (Kd.R_reads' HO1095.out).2.1); rintro e w20 ⟨v1108, rfl, ho0, hb⟩; refine ⟨_, rfl, ?_⟩; have n0_ := am (Kd.R_below (by (with_reducible repeat (first | apply Kd.R_alloc | apply Kd.R_drewN | apply Kd.R_drew)); exact (Kd.R_mono (Kd.R_far (p := ⟨gb1105, 1, none⟩) (Kd.R_far (p := ⟨gb1105, 0, none⟩) (Kd.R_types HO1092.out BK1105.out (by decide)) (fun _ hk => hk.2) (.int .i64 t1101)) (fun _ hk => hk.2) (.slice Ao18 t1102.length co18)) (fun _ h_ => h_.1))) hb); have n1_ := am (Kd.R_elder' (by (with_reducible repeat (first | apply Kd.R_alloc | apply Kd.R_drewN | apply Kd.R_drew)); exact (Kd.R_mono (Kd.R_far (p := ⟨gb1105, 1, none⟩) (Kd.R_far (p := ⟨gb1105, 0, none⟩) (Kd.R_types HO1095.out BK1105.out (by decide)) (fun _ hk => hk.2) (.int .i64 t1101)) (fun _ hk => hk.2) (.slice Ao18 t1102.length co18)) (fun _ h_ => h_.1))) (Kd.R_base ho0) hb); have n2_ := am (Kd.R_elder' (by (with_reducible repeat (first | apply Kd.R_alloc | apply Kd.R_drewN | apply Kd.R_drew)); exact (Kd.R_mono (Kd.R_far (p := ⟨gb1105, 1, none⟩) (Kd.R_far (p := ⟨gb1105, 0, none⟩) (Kd.R_types HO1099.out BK1105.out (by decide)) (fun _ hk => hk.2) (.int .i64 t1101)) (fun _ hk => hk.2) (.slice Ao18 t1102.length co18)) (fun _ h_ => h_.1))) (Kd.R_base ho0) hb); have n3_ := am (Kd.R_elder' (by (with_reducible repeat (first | apply Kd.R_alloc | apply Kd.R_drewN | apply Kd.R_drew)); exact (Kd.R_mono (Kd.R_far (p := ⟨gb1105, 1, none⟩) (Kd.R_far (p := ⟨gb1105, 0, none⟩) (Kd.R_types HO1104.out BK1105.out (by decide)) (fun _ hk => hk.2) (.int .i64 t1101)) (fun _ hk => hk.2) (.slice Ao18 t1102.length co18)) (fun _ h_ => h_.1))) (Kd.R_base ho0) hb); have n4_ := am (Kd.R_lower (Kd.R_new' (Kd.R_new' (Kd.R_new' ho0 (Kd.R_lt (by (with_reducible repeat (first | apply Kd.R_alloc | apply Kd.R_drewN | apply Kd.R_drew)); exact (Kd.R_mono (Kd.R_far (p := ⟨gb1105, 1, none⟩) (Kd.R_far (p := ⟨gb1105, 0, none⟩) (Kd.R_types HO1095.out BK1105.out (by decide)) (fun _ hk => hk.2) (.int .i64 t1101)) (fun _ hk => hk.2) (.slice Ao18 t1102.length co18)) (fun _ h_ => h_.1))))) (Kd.R_lt (by (with_reducible repeat (first | apply Kd.R_alloc | apply Kd.R_drewN | apply Kd.R_drew)); exact (Kd.R_mono (Kd.R_far (p := ⟨gb1105, 1, none⟩) (Kd.R_far (p := ⟨gb1105, 0, none⟩) (Kd.R_types HO1099.out BK1105.out (by decide)) (fun _ hk => hk.2) (.int .i64 t1101)) (fun _ hk => hk.2) (.slice Ao18 t1102.length co18)) (fun _ h_ => h_.1))))) (Kd.R_lt (by (with_reducible repeat (first | apply Kd.R_alloc | apply Kd.R_drewN | apply Kd.R_drew)); exact (Kd.R_mono (Kd.R_far (p := ⟨gb1105, 1, none⟩) (Kd.R_far (p := ⟨gb1105, 0, none⟩) (Kd.R_types HO1104.out BK1105.out (by decide)) (fun _ hk => hk.2) (.int .i64 t1101)) (fun _ hk => hk.2) (.slice Ao18 t1102.length co18)) (fun _ h_ => h_.1))))) (below_size (hs HB.out))); have n5_ := am (blk_below (g := gb1100) (o := .cells #[.slice Ao10 t1090.length co10] 42 (0, 0)) (by refine bq ?_; refine blk_far ?_ NB1100_1105.out _; refine bq ?_; refine blk_far ?_ NB1100_1105.out _; refine bq ?_; exact BK1100.out) hb); have n6_ := am (blk_below (g := gb1105) (o := .cells #[.int .i64 t1101, .slice Ao18 t1102.length co18] 67 (0, 0)) (by refine bq ?_; refine blk_put (cs := #[.int .i64 t1101, .slice none 0 0]) ?_ 1 _ rfl; refine bq ?_; refine blk_put (cs := #[.int .i64 0, .slice none 0 0]) ?_ 0 _ rfl; refine bq ?_; exact BK1105.out) hb); have n7_ := am (below_step (hs HB.out) hb); clear HO1092 HO1095 HO1099 HO1104 BK1100 BK1105 HB; revert n0_ n1_ n2_ n3_ n4_ n5_ n6_ n7_; intro HO1092 HO1095 HO1099 HO1104 HO1109 BK1100 BK1105 HB; (try clear hb); (try clear hb2); (try clear hgw); (try clear hk); (try clear hi); (try clear ho0)) | ((with_reducible refine gate_dst (N := 8) rfl ?_); (try (refine gate_guard (by rfl) ?_; dsimp only)); refine box_event ?hg (N := 8) ?hd (cs := #[.int .i64 0, .slice none 0 0]) (t := 67) ?hr ?_; (case hd => rfl); (case hg => rfl); (case hr => first | (go_simp; done) | (go_simp; rfl)); intro gb1110 hg w21 hbox hb; have n0_ := am (Kd.R_below (rq HO1092.out) hb); have n1_ := am (Kd.R_below (rq HO1095.out) hb); have n2_ := am (Kd.R_below (rq HO1099.out) hb); have n3_ := am (Kd.R_below (rq HO1104.out) hb); have n4_ := am (Kd.R_below (rq HO1109.out) hb); have n5_ := am (blk_below (bq BK1100.out) hb); have n6_ := am (blk_below (bq BK1105.out) hb); have n7_ := am (below_step (hs HB.out) hb); have n8_ := am (hbox); have n9_ := am (bz hg (hs HB.out)); have n10_ := n9_; have n11_ := am ((by rw [hg]; exact Nat.ne_of_lt (blk_lt (bq BK1100.out)) : gb1100 ≠ gb1110)); have n12_ := am ((by rw [hg]; exact Nat.ne_of_gt (blk_lt (bq BK1100.out)) : gb1110 ≠ gb1100)); have n13_ := am ((by rw [hg]; exact Nat.ne_of_lt (blk_lt (bq BK1105.out)) : gb1105 ≠ gb1110)); have n14_ := am ((by rw [hg]; exact Nat.ne_of_gt (blk_lt (bq BK1105.out)) : gb1110 ≠ gb1105)); clear HO1092 HO1095 HO1099 HO1104 HO1109 BK1100 BK1105 HB; revert n0_ n1_ n2_ n3_ n4_ n5_ n6_ n7_ n8_ n9_ n10_ n11_ n12_ n13_ n14_; intro HO1092 HO1095 HO1099 HO1104 HO1109 BK1100 BK1105 HB BK1110 GW1110 GE1110 NB1100_1110 NB1110_1100 NB1105_1110 NB1110_1105; clear hb hbox hg; have hnb22 := NB1110_1100.out; have hnc22 := NB1100_1110.out; have hnb23 := NB1110_1105.out; have hnc23 := NB1105_1110.out; have hcz24_0 : w21.cell? ⟨gb1110, 0, none⟩ = some (.int .i64 0) := (blk_cell BK1110.out 0).trans rfl; have hcz24_1 : w21.cell? ⟨gb1110, 1, none⟩ = some (.slice none 0 0) := (blk_cell BK1110.out 1).trans rfl; have hfz24_0 := blk_frozen BK1110.out 0; have hfz24_1 := blk_frozen BK1110.out 1; obtain ⟨Ao25, co25, eo25⟩ := Kd.R_slice HO1109.out; subst eo25))
  (try simp only [Act.put, lsp])
  go_cut [47] (fun v47 wc => ∃ (kq : Nat) (x47_6 : Bool), v47 = .bool x47_6 ∧ Aside0 (laws_FnReplaces.j0 kq t1093 t1096 t1097 x47_6 t1090 t1101 t1102 t1106 t1107 = some r) ∧ Aside0 (kq ≤ k) ∧ Aside0 (Kd.R (Kd.int .i64) 2 wc w.heap.size (fun k_ => some k_ ≠ ((.slice Ao13 t1097.length co13) : Value).ownBlock ∧ some k_ ≠ ((.slice Ao18 t1102.length co18) : Value).ownBlock ∧ some k_ ≠ ((.slice Ao25 t1107.length co25) : Value).ownBlock) (.slice Ao12 t1093.length co12) t1093) ∧ Aside0 (Kd.R (Kd.int .i64) 2 wc w.heap.size (fun k_ => some k_ ≠ ((.slice Ao12 t1093.length co12) : Value).ownBlock ∧ some k_ ≠ ((.slice Ao18 t1102.length co18) : Value).ownBlock ∧ some k_ ≠ ((.slice Ao25 t1107.length co25) : Value).ownBlock) (.slice Ao13 t1097.length co13) t1097) ∧ Aside0 (Kd.R k99 99 wc w.heap.size (fun _ => True) (.slice Ao10 t1090.length co10) t1090) ∧ Aside0 (Kd.R (Kd.int .i64) 2 wc w.heap.size (fun k_ => some k_ ≠ ((.slice Ao12 t1093.length co12) : Value).ownBlock ∧ some k_ ≠ ((.slice Ao13 t1097.length co13) : Value).ownBlock ∧ some k_ ≠ ((.slice Ao25 t1107.length co25) : Value).ownBlock) (.slice Ao18 t1102.length co18) t1102) ∧ Aside0 (Kd.R (Kd.int .i64) 2 wc w.heap.size (fun k_ => some k_ ≠ ((.slice Ao12 t1093.length co12) : Value).ownBlock ∧ some k_ ≠ ((.slice Ao13 t1097.length co13) : Value).ownBlock ∧ some k_ ≠ ((.slice Ao18 t1102.length co18) : Value).ownBlock) (.slice Ao25 t1107.length co25) t1107) ∧ Aside0 (wc.heap[gb1100]? = some (.cells #[(.slice Ao10 t1090.length co10)] 42 (0, 0))) ∧ Aside0 (wc.heap[gb1105]? = some (.cells #[.int .i64 t1101, (.slice Ao18 t1102.length co18)] 67 (0, 0))) ∧ Aside0 (wc.heap[gb1110]? = some (.cells #[.int .i64 t1106, (.slice Ao25 t1107.length co25)] 67 (0, 0))) ∧ Aside0 (Below w.heap.size w wc))
  case first =>
   have H := HC7.out
   clear HC7
   replace H := Option.bind_eq_some_iff.mp H
   obtain ⟨⟨t1111, t1112⟩, A260, H⟩ := H
   replace H : (if t1101 = t1111 then ((spec_SubtermAt.f k t1090 t1093 t1096).bind fun bt1115 => (laws_FnReplaces.j0 k t1093 t1096 t1097 (t1106 != bt1115.1) t1090 t1101 t1102 t1106 t1107)) else (laws_FnReplaces.j0 k t1093 t1096 t1097 true t1090 t1101 t1102 t1106 t1107)) = some r := H
   have A26 := am A260
   clear A260
   by_cases c27 : t1101 = t1111
   ·rw [if_pos c27] at H
    have c27b0 : (t1101 == t1111) = true := beq_iff_eq.mpr c27
    have c27b1 : (t1101 != t1111) = false := bne_eq_false_iff_eq.mpr c27
    clear c27
    (first | rw [c27b0] | (simp only [i64_w, i32_w]; rw [c27b0]) | skip)
    replace H := Option.bind_eq_some_iff.mp H
    obtain ⟨⟨t1115, t1116⟩, A280, H⟩ := H
    replace H : (laws_FnReplaces.j0 k t1093 t1096 t1097 (t1106 != t1115) t1090 t1101 t1102 t1106 t1107) = some r := H
    have A28 := am A280
    clear A280
    have H' := am H
    clear H
    try go_wp2
    have n0_ : Aside0 (Kd.R k99 99 ((w21.setCell ⟨gb1110, 0, none⟩ (.int .i64 t1106)).setCell ⟨gb1110, 1, none⟩ (.slice Ao25 t1107.length co25)) w.heap.size (fun _ => True) (.slice Ao10 t1090.length co10) t1090) := ⟨by (with_reducible repeat (first | apply Kd.R_alloc | apply Kd.R_drewN | apply Kd.R_drew)); exact Kd.R_mono (Kd.R_far (p := ⟨gb1110, 1, none⟩) (Kd.R_far (p := ⟨gb1110, 0, none⟩) (Kd.R_types HO1092.out BK1110.out (by decide)) (fun _ hk => hk.2) (.int .i64 t1106)) (fun _ hk => hk.2) (.slice Ao25 t1107.length co25)) (fun _ hk => trivial)⟩
    have n1_ : Aside0 (Kd.R (Kd.int .i64) 2 ((w21.setCell ⟨gb1110, 0, none⟩ (.int .i64 t1106)).setCell ⟨gb1110, 1, none⟩ (.slice Ao25 t1107.length co25)) w.heap.size (fun k_ => some k_ ≠ (.slice Ao13 t1097.length co13 : Value).ownBlock ∧ some k_ ≠ (.slice Ao18 t1102.length co18 : Value).ownBlock ∧ some k_ ≠ (.slice Ao25 t1107.length co25 : Value).ownBlock) (.slice Ao12 t1093.length co12) t1093) := ⟨by (with_reducible repeat (first | apply Kd.R_alloc | apply Kd.R_drewN | apply Kd.R_drew)); exact Kd.R_mono (Kd.R_far (p := ⟨gb1110, 1, none⟩) (Kd.R_far (p := ⟨gb1110, 0, none⟩) (Kd.R_types HO1095.out BK1110.out (by decide)) (fun _ hk => hk.2) (.int .i64 t1106)) (fun _ hk => hk.2) (.slice Ao25 t1107.length co25)) (fun _ hk => ⟨hk.1.1.1, ⟨hk.1.1.2, hk.1.2⟩⟩)⟩
    have n2_ : Aside0 (Kd.R (Kd.int .i64) 2 ((w21.setCell ⟨gb1110, 0, none⟩ (.int .i64 t1106)).setCell ⟨gb1110, 1, none⟩ (.slice Ao25 t1107.length co25)) w.heap.size (fun k_ => some k_ ≠ (.slice Ao12 t1093.length co12 : Value).ownBlock ∧ some k_ ≠ (.slice Ao18 t1102.length co18 : Value).ownBlock ∧ some k_ ≠ (.slice Ao25 t1107.length co25 : Value).ownBlock) (.slice Ao13 t1097.length co13) t1097) := ⟨by (with_reducible repeat (first | apply Kd.R_alloc | apply Kd.R_drewN | apply Kd.R_drew)); exact Kd.R_mono (Kd.R_far (p := ⟨gb1110, 1, none⟩) (Kd.R_far (p := ⟨gb1110, 0, none⟩) (Kd.R_types HO1099.out BK1110.out (by decide)) (fun _ hk => hk.2) (.int .i64 t1106)) (fun _ hk => hk.2) (.slice Ao25 t1107.length co25)) (fun _ hk => ⟨hk.1.1.1, ⟨hk.1.1.2, hk.1.2⟩⟩)⟩
    have n3_ : Aside0 (Kd.R (Kd.int .i64) 2 ((w21.setCell ⟨gb1110, 0, none⟩ (.int .i64 t1106)).setCell ⟨gb1110, 1, none⟩ (.slice Ao25 t1107.length co25)) w.heap.size (fun k_ => some k_ ≠ (.slice Ao12 t1093.length co12 : Value).ownBlock ∧ some k_ ≠ (.slice Ao13 t1097.length co13 : Value).ownBlock ∧ some k_ ≠ (.slice Ao25 t1107.length co25 : Value).ownBlock) (.slice Ao18 t1102.length co18) t1102) := ⟨by (with_reducible repeat (first | apply Kd.R_alloc | apply Kd.R_drewN | apply Kd.R_drew)); exact Kd.R_mono (Kd.R_far (p := ⟨gb1110, 1, none⟩) (Kd.R_far (p := ⟨gb1110, 0, none⟩) (Kd.R_types HO1104.out BK1110.out (by decide)) (fun _ hk => hk.2) (.int .i64 t1106)) (fun _ hk => hk.2) (.slice Ao25 t1107.length co25)) (fun _ hk => ⟨hk.1.1.1.2, ⟨hk.1.1.2, hk.1.2⟩⟩)⟩
    have n4_ : Aside0 (Kd.R (Kd.int .i64) 2 ((w21.setCell ⟨gb1110, 0, none⟩ (.int .i64 t1106)).setCell ⟨gb1110, 1, none⟩ (.slice Ao25 t1107.length co25)) w.heap.size (fun k_ => some k_ ≠ (.slice Ao12 t1093.length co12 : Value).ownBlock ∧ some k_ ≠ (.slice Ao13 t1097.length co13 : Value).ownBlock ∧ some k_ ≠ (.slice Ao18 t1102.length co18 : Value).ownBlock) (.slice Ao25 t1107.length co25) t1107) := ⟨by (with_reducible repeat (first | apply Kd.R_alloc | apply Kd.R_drewN | apply Kd.R_drew)); exact Kd.R_mono (Kd.R_far (p := ⟨gb1110, 1, none⟩) (Kd.R_far (p := ⟨gb1110, 0, none⟩) (Kd.R_types HO1109.out BK1110.out (by decide)) (fun _ hk => hk.2) (.int .i64 t1106)) (fun _ hk => hk.2) (.slice Ao25 t1107.length co25)) (fun _ hk => ⟨hk.1.1.1.2, ⟨hk.1.1.2, hk.1.2⟩⟩)⟩
    have n5_ : Aside0 (((w21.setCell ⟨gb1110, 0, none⟩ (.int .i64 t1106)).setCell ⟨gb1110, 1, none⟩ (.slice Ao25 t1107.length co25)).heap[gb1100]? = some (.cells #[.slice Ao10 t1090.length co10] 42 (0, 0))) := ⟨by refine bq ?_; refine blk_far ?_ NB1100_1110.out _; refine bq ?_; refine blk_far ?_ NB1100_1110.out _; refine bq ?_; exact BK1100.out⟩
    have n6_ : Aside0 (((w21.setCell ⟨gb1110, 0, none⟩ (.int .i64 t1106)).setCell ⟨gb1110, 1, none⟩ (.slice Ao25 t1107.length co25)).heap[gb1105]? = some (.cells #[.int .i64 t1101, .slice Ao18 t1102.length co18] 67 (0, 0))) := ⟨by refine bq ?_; refine blk_far ?_ NB1105_1110.out _; refine bq ?_; refine blk_far ?_ NB1105_1110.out _; refine bq ?_; exact BK1105.out⟩
    have n7_ : Aside0 (((w21.setCell ⟨gb1110, 0, none⟩ (.int .i64 t1106)).setCell ⟨gb1110, 1, none⟩ (.slice Ao25 t1107.length co25)).heap[gb1110]? = some (.cells #[.int .i64 t1106, .slice Ao25 t1107.length co25] 67 (0, 0))) := ⟨by refine bq ?_; refine blk_put (cs := #[.int .i64 t1106, .slice none 0 0]) ?_ 1 _ rfl; refine bq ?_; refine blk_put (cs := #[.int .i64 0, .slice none 0 0]) ?_ 0 _ rfl; refine bq ?_; exact BK1110.out⟩
    have n8_ : Aside0 (Below w.heap.size w ((w21.setCell ⟨gb1110, 0, none⟩ (.int .i64 t1106)).setCell ⟨gb1110, 1, none⟩ (.slice Ao25 t1107.length co25))) := ⟨by exact hs HB.out⟩
    (try clear HO1092)
    (try clear HO1095)
    (try clear HO1099)
    (try clear HO1104)
    (try clear HO1109)
    (try clear BK1100)
    (try clear BK1105)
    (try clear BK1110)
    (try clear HB)
    generalize ((w21.setCell ⟨gb1110, 0, none⟩ (.int .i64 t1106)).setCell ⟨gb1110, 1, none⟩ (.slice Ao25 t1107.length co25)) = w29 at n0_ n1_ n2_ n3_ n4_ n5_ n6_ n7_ n8_ ⊢
    have HO1092 := n0_
    have HO1095 := n1_
    have HO1099 := n2_
    have HO1104 := n3_
    have HO1109 := n4_
    have BK1100 := n5_
    have BK1105 := n6_
    have BK1110 := n7_
    have HB := n8_
    clear n0_ n1_ n2_ n3_ n4_ n5_ n6_ n7_ n8_
    have n0_ := am (Kd.R_drew HO1092.out)
    have n1_ := am (Kd.R_drew HO1095.out)
    have n2_ := am (Kd.R_drew HO1099.out)
    have n3_ := am (Kd.R_drew HO1104.out)
    have n4_ := am (Kd.R_drew HO1109.out)
    have n5_ := am (blk_drew BK1100.out)
    have n6_ := am (blk_drew BK1105.out)
    have n7_ := am (blk_drew BK1110.out)
    have n8_ := am (below_drew1 HB.out)
    clear HO1092
    clear HO1095
    clear HO1099
    clear HO1104
    clear HO1109
    clear BK1100
    clear BK1105
    clear BK1110
    clear HB
    have HO1092 := n0_
    have HO1095 := n1_
    have HO1099 := n2_
    have HO1104 := n3_
    have HO1109 := n4_
    have BK1100 := n5_
    have BK1105 := n6_
    have BK1110 := n7_
    have HB := n8_
    clear n0_ n1_ n2_ n3_ n4_ n5_ n6_ n7_ n8_
    refine start_ (n := 19) (S := fun w' => w'.cell? ⟨gb1105, 0, none⟩ = some (.int .i64 t1101) ∧ w'.cell? ⟨gb1105, 1, none⟩ = some (.slice Ao18 t1102.length co18) ∧ w'.cell? ⟨gb1100, 0, none⟩ = some (.slice Ao10 t1090.length co10) ∧ w'.cell? ⟨gb1110, 0, none⟩ = some (.int .i64 t1106) ∧ w'.cell? ⟨gb1110, 1, none⟩ = some (.slice Ao25 t1107.length co25)) (ds := []) #[false, false, false, false, false, false, false, false, false, false, false, false, false, false, false, false, false, false, false] (by kernel_rfl) rfl rfl ⟨(blk_cell BK1105.out 0).trans rfl, (blk_cell BK1105.out 1).trans rfl, (blk_cell BK1100.out 0).trans rfl, (blk_cell BK1110.out 0).trans rfl, (blk_cell BK1110.out 1).trans rfl⟩ (fun hHeld => ?_); refine with_tabW laws_FnReplaces.tab6 laws_FnReplaces.bits6 (fun HT_ HW_ => ?_)
    generalize w29.drew = w30 at HO1092 HO1095 HO1099 HO1104 HO1109 BK1100 BK1105 BK1110 HB hHeld ⊢
    refine pure_ (i := 0) (N := some 29) (v := ?_) (a' := ?_) #[true, false, false, false, false, false, false, false, false, false, false, false, false, false, false, false, false, false, false] rfl rfl (any_of HT_.out (by kernel_rfl)) (fun _ _ _ h => h) (Or.inl ⟨by rfl, ?_⟩) ?_ ?_
    rotate_left
    ·intro w'
     go_simp
     with_reducible rfl
    rotate_left
    ·simp only [Act.put, lsp, i64_w, i32_w]
     rfl
    refine pure_ (i := 3) (N := some 32) (v := ?_) (a' := ?_) #[true, false, false, true, false, false, false, false, false, false, false, false, false, false, false, false, false, false, false] rfl rfl (any_of HT_.out (by kernel_rfl)) (fun _ _ _ h => h) (Or.inl ⟨by rfl, ?_⟩) ?_ ?_
    rotate_left
    ·intro w'
     go_simp
     with_reducible rfl
    rotate_left
    ·simp only [Act.put, lsp, i64_w, i32_w]
     rfl
    refine pure_ (i := 4) (N := some 33) (v := ?_) (a' := ?_) #[true, false, false, true, true, false, false, false, false, false, false, false, false, false, false, false, false, false, false] rfl rfl (any_of HT_.out (by kernel_rfl)) (fun _ _ _ h => h) (Or.inl ⟨by rfl, ?_⟩) ?_ ?_
    rotate_left
    ·intro w'
     go_simp
     with_reducible rfl
    rotate_left
    ·simp only [Act.put, lsp, i64_w, i32_w]
     rfl
    refine pure_ (i := 5) (N := some 34) (v := ?_) (a' := ?_) #[true, false, false, true, true, true, false, false, false, false, false, false, false, false, false, false, false, false, false] rfl rfl (any_of HT_.out (by kernel_rfl)) (fun _ _ _ h => h) (Or.inl ⟨by rfl, ?_⟩) ?_ ?_
    rotate_left
    ·intro w'
     go_simp
     with_reducible rfl
    rotate_left
    ·simp only [Act.put, lsp, i64_w, i32_w]
     rfl
    refine take_ (i := 1) (N := some 30) (v := ?_) (a' := ?_) #[true, true, false, true, true, true, false, false, false, false, false, false, false, false, false, false, false, false, false] rfl rfl (take_ofW HT_.out HW_.out (by kernel_rfl)) (fun _ _ _ h => h) (Or.inl ⟨by rfl, ?_⟩) hHeld ?_ ?_
    rotate_left
    ·rintro w' ⟨s0, s1, s2, s3, s4⟩
     go_simp
     with_reducible rfl
    rotate_left
    ·simp only [Act.put, lsp, i64_w, i32_w]
     rfl
    refine take_ (i := 2) (N := some 31) (v := ?_) (a' := ?_) #[true, true, true, true, true, true, false, false, false, false, false, false, false, false, false, false, false, false, false] rfl rfl (take_ofW HT_.out HW_.out (by kernel_rfl)) (fun _ _ _ h => h) (Or.inl ⟨by rfl, ?_⟩) hHeld ?_ ?_
    rotate_left
    ·rintro w' ⟨s0, s1, s2, s3, s4⟩
     go_simp
     with_reducible rfl
    rotate_left
    ·simp only [Act.put, lsp, i64_w, i32_w]
     rfl
    refine one_ (i := 6) (N := some 35) #[true, true, true, true, true, true, true, false, false, false, false, false, false, false, false, false, false, false, false] rfl rfl (one_of HT_.out (by kernel_rfl)) (by decide) (fun K hK => ?_)
    refine goes_ Tryd.func51 (by kernel_rfl) rfl #[.agg #[.slice Ao10 t1090.length co10], .slice Ao12 t1093.length co12, .int .i64 t1096, .slice Ao13 t1097.length co13] (by rfl) rfl rfl el ?_
    with_reducible refine (spec_ReplaceAt.calls k _ _ t1090 _ _ t1093 t1096 _ _ t1097 t1111 t1112 _ ?side1 ?side2 ?side3 ?side4 ?side5 ?side6 A26.out).mono ?_
    (case side1 => repeat (first | exact (Kd.R_reads' HO1092.out).2.2 | (with_reducible refine Kd.C_alloc ?_ _) | (with_reducible refine Kd.C_drewN ?_ _) | (with_reducible refine Kd.C_drew ?_)))
    (case side2 => exact (Kd.R_reads' HO1092.out).2.1)
    (case side3 => repeat (first | exact (Kd.R_reads' HO1095.out).2.2 | (with_reducible refine Kd.C_alloc ?_ _) | (with_reducible refine Kd.C_drewN ?_ _) | (with_reducible refine Kd.C_drew ?_)))
    (case side4 => exact (Kd.R_reads' HO1095.out).2.1)
    (case side5 => repeat (first | exact (Kd.R_reads' HO1099.out).2.2 | (with_reducible refine Kd.C_alloc ?_ _) | (with_reducible refine Kd.C_drewN ?_ _) | (with_reducible refine Kd.C_drew ?_)))
    (case side6 => exact (Kd.R_reads' HO1099.out).2.1)
    rintro e w31 ⟨v1113, rfl, ho0, hb⟩
    refine ⟨_, rfl, ?_⟩
    have n0_ := am (Kd.R_below (rq HO1092.out) hb)
    have n1_ := am (Kd.R_elder' (rq HO1095.out) (Kd.R_base ho0) hb)
    have n2_ := am (Kd.R_elder' (rq HO1099.out) (Kd.R_base ho0) hb)
    have n3_ := am (Kd.R_elder' (rq HO1104.out) (Kd.R_base ho0) hb)
    have n4_ := am (Kd.R_elder' (rq HO1109.out) (Kd.R_base ho0) hb)
    have n5_ := am (Kd.R_lower (Kd.R_new' (Kd.R_new' (Kd.R_new' (Kd.R_new' ho0 (Kd.R_lt (rq HO1095.out))) (Kd.R_lt (rq HO1099.out))) (Kd.R_lt (rq HO1104.out))) (Kd.R_lt (rq HO1109.out))) (below_size (hs HB.out)))
    have n6_ := am (blk_below (bq BK1100.out) hb)
    have n7_ := am (blk_below (bq BK1105.out) hb)
    have n8_ := am (blk_below (bq BK1110.out) hb)
    have n9_ := am (below_step (hs HB.out) hb)
    clear HO1092
    clear HO1095
    clear HO1099
    clear HO1104
    clear HO1109
    clear BK1100
    clear BK1105
    clear BK1110
    clear HB
    have HO1092 := n0_
    have HO1095 := n1_
    have HO1099 := n2_
    have HO1104 := n3_
    have HO1109 := n4_
    have HO1114 := n5_
    have BK1100 := n6_
    have BK1105 := n7_
    have BK1110 := n8_
    have HB := n9_
    clear n0_ n1_ n2_ n3_ n4_ n5_ n6_ n7_ n8_ n9_
    (try clear hb)
    (try clear hb2)
    (try clear hgw)
    (try clear hk)
    (try clear hi)
    (try clear ho0)
    refine hK.out _ _ ⟨(blk_cell BK1105.out 0).trans rfl, (blk_cell BK1105.out 1).trans rfl, (blk_cell BK1100.out 0).trans rfl, (blk_cell BK1110.out 0).trans rfl, (blk_cell BK1110.out 1).trans rfl⟩ (fun hHeld => ?_)
    clear hK K
    refine norm_ (a' := ?_) ?_ ?_
    rotate_left
    ·show Act.put _ (some 35) _ = _
     simp only [Act.put, lsp, i64_w, i32_w]
     rfl
    refine pure_ (i := 7) (N := some 36) (v := ?_) (a' := ?_) #[true, true, true, true, true, true, true, true, false, false, false, false, false, false, false, false, false, false, false] rfl rfl (any_of HT_.out (by kernel_rfl)) (fun _ _ _ h => h) (Or.inl ⟨by rfl, ?_⟩) ?_ ?_
    rotate_left
    ·intro w'
     go_simp
     with_reducible rfl
    rotate_left
    ·simp only [Act.put, lsp, i64_w, i32_w]
     rfl
    refine pure_ (i := 8) (N := some 37) (v := ?_) (a' := ?_) #[true, true, true, true, true, true, true, true, true, false, false, false, false, false, false, false, false, false, false] rfl rfl (any_of HT_.out (by kernel_rfl)) (fun _ _ _ h => h) (Or.inl ⟨by rfl, ?_⟩) ?_ ?_
    rotate_left
    ·intro w'
     go_simp
     with_reducible rfl
    rotate_left
    ·simp only [Act.put, lsp, i64_w, i32_w]
     rfl
    refine pure_ (i := 9) (N := some 38) (v := ?_) (a' := ?_) #[true, true, true, true, true, true, true, true, true, true, false, false, false, false, false, false, false, false, false] rfl rfl (any_of HT_.out (by kernel_rfl)) (fun _ _ _ h => h) (Or.inl ⟨by rfl, ?_⟩) ?_ ?_
    rotate_left
    ·intro w'
     go_simp
     with_reducible rfl
    rotate_left
    ·simp only [Act.put, lsp, i64_w, i32_w]
     rfl
    refine pure_ (i := 10) (N := some 39) (v := ?_) (a' := ?_) #[true, true, true, true, true, true, true, true, true, true, true, false, false, false, false, false, false, false, false] rfl rfl (any_of HT_.out (by kernel_rfl)) (fun _ _ _ h => h) (Or.inl ⟨by rfl, ?_⟩) ?_ ?_
    rotate_left
    ·intro w'
     go_simp
     with_reducible rfl
    rotate_left
    ·simp only [Act.put, lsp, i64_w, i32_w]
     rfl
    refine pure_ (i := 13) (N := some 42) (v := ?_) (a' := ?_) #[true, true, true, true, true, true, true, true, true, true, true, false, false, true, false, false, false, false, false] rfl rfl (any_of HT_.out (by kernel_rfl)) (fun _ _ _ h => h) (Or.inl ⟨by rfl, ?_⟩) ?_ ?_
    rotate_left
    ·intro w'
     go_simp
     with_reducible rfl
    rotate_left
    ·simp only [Act.put, lsp, i64_w, i32_w]
     rfl
    refine pure_ (i := 14) (N := some 43) (v := ?_) (a' := ?_) #[true, true, true, true, true, true, true, true, true, true, true, false, false, true, true, false, false, false, false] rfl rfl (any_of HT_.out (by kernel_rfl)) (fun _ _ _ h => h) (Or.inl ⟨by rfl, ?_⟩) ?_ ?_
    rotate_left
    ·intro w'
     go_simp
     with_reducible rfl
    rotate_left
    ·simp only [Act.put, lsp, i64_w, i32_w]
     rfl
    refine take_ (i := 11) (N := some 40) (v := ?_) (a' := ?_) #[true, true, true, true, true, true, true, true, true, true, true, true, false, true, true, false, false, false, false] rfl rfl (take_ofW HT_.out HW_.out (by kernel_rfl)) (fun _ _ _ h => h) (Or.inl ⟨by rfl, ?_⟩) hHeld ?_ ?_
    rotate_left
    ·rintro w' ⟨s0, s1, s2, s3, s4⟩
     go_simp
     with_reducible rfl
    rotate_left
    ·simp only [Act.put, lsp, i64_w, i32_w]
     rfl
    refine take_ (i := 12) (N := some 41) (v := ?_) (a' := ?_) #[true, true, true, true, true, true, true, true, true, true, true, true, true, true, true, false, false, false, false] rfl rfl (take_ofW HT_.out HW_.out (by kernel_rfl)) (fun _ _ _ h => h) (Or.inl ⟨by rfl, ?_⟩) hHeld ?_ ?_
    rotate_left
    ·rintro w' ⟨s0, s1, s2, s3, s4⟩
     go_simp
     with_reducible rfl
    rotate_left
    ·simp only [Act.put, lsp, i64_w, i32_w]
     rfl
    refine one_ (i := 15) (N := some 44) #[true, true, true, true, true, true, true, true, true, true, true, true, true, true, true, true, false, false, false] rfl rfl (one_of HT_.out (by kernel_rfl)) (by decide) (fun K hK => ?_)
    refine goes_ Tryd.func55 (by kernel_rfl) rfl #[.agg #[.slice Ao10 t1090.length co10], .slice Ao12 t1093.length co12, .int .i64 t1096] (by rfl) rfl rfl el ?_
    with_reducible refine (spec_SubtermAt.calls k _ _ t1090 _ _ t1093 t1096 t1115 t1116 _ ?side1 ?side2 ?side3 ?side4 A28.out).mono ?_
    (case side1 => repeat (first | exact (Kd.R_reads' HO1092.out).2.2 | (with_reducible refine Kd.C_alloc ?_ _) | (with_reducible refine Kd.C_drewN ?_ _) | (with_reducible refine Kd.C_drew ?_)))
    (case side2 => exact (Kd.R_reads' HO1092.out).2.1)
    (case side3 => repeat (first | exact (Kd.R_reads' HO1095.out).2.2 | (with_reducible refine Kd.C_alloc ?_ _) | (with_reducible refine Kd.C_drewN ?_ _) | (with_reducible refine Kd.C_drew ?_)))
    (case side4 => exact (Kd.R_reads' HO1095.out).2.1)
    rintro e w32 ⟨v1117, rfl, ho0, hb⟩
    refine ⟨_, rfl, ?_⟩
    have n0_ := am (Kd.R_below (rq HO1092.out) hb)
    have n1_ := am (Kd.R_elder' (rq HO1095.out) (Kd.R_base ho0) hb)
    have n2_ := am (Kd.R_elder' (rq HO1099.out) (Kd.R_base ho0) hb)
    have n3_ := am (Kd.R_elder' (rq HO1104.out) (Kd.R_base ho0) hb)
    have n4_ := am (Kd.R_elder' (rq HO1109.out) (Kd.R_base ho0) hb)
    have n5_ := am (Kd.R_elder' (rq HO1114.out) (Kd.R_base ho0) hb)
    have n6_ := am (Kd.R_lower (Kd.R_new' (Kd.R_new' (Kd.R_new' (Kd.R_new' (Kd.R_new' ho0 (Kd.R_lt (rq HO1095.out))) (Kd.R_lt (rq HO1099.out))) (Kd.R_lt (rq HO1104.out))) (Kd.R_lt (rq HO1109.out))) (Kd.R_lt (rq HO1114.out))) (below_size (hs HB.out)))
    have n7_ := am (blk_below (bq BK1100.out) hb)
    have n8_ := am (blk_below (bq BK1105.out) hb)
    have n9_ := am (blk_below (bq BK1110.out) hb)
    have n10_ := am (below_step (hs HB.out) hb)
    clear HO1092
    clear HO1095
    clear HO1099
    clear HO1104
    clear HO1109
    clear HO1114
    clear BK1100
    clear BK1105
    clear BK1110
    clear HB
    have HO1092 := n0_
    have HO1095 := n1_
    have HO1099 := n2_
    have HO1104 := n3_
    have HO1109 := n4_
    have HO1114 := n5_
    have HO1118 := n6_
    have BK1100 := n7_
    have BK1105 := n8_
    have BK1110 := n9_
    have HB := n10_
    clear n0_ n1_ n2_ n3_ n4_ n5_ n6_ n7_ n8_ n9_ n10_
    (try clear hb)
    (try clear hb2)
    (try clear hgw)
    (try clear hk)
    (try clear hi)
    (try clear ho0)
    refine hK.out _ _ ⟨(blk_cell BK1105.out 0).trans rfl, (blk_cell BK1105.out 1).trans rfl, (blk_cell BK1100.out 0).trans rfl, (blk_cell BK1110.out 0).trans rfl, (blk_cell BK1110.out 1).trans rfl⟩ (fun hHeld => ?_)
    clear hK K
    refine norm_ (a' := ?_) ?_ ?_
    rotate_left
    ·show Act.put _ (some 44) _ = _
     simp only [Act.put, lsp, i64_w, i32_w]
     rfl
    refine pure_ (i := 16) (N := some 45) (v := ?_) (a' := ?_) #[true, true, true, true, true, true, true, true, true, true, true, true, true, true, true, true, true, false, false] rfl rfl (any_of HT_.out (by kernel_rfl)) (fun _ _ _ h => h) (Or.inl ⟨by rfl, ?_⟩) ?_ ?_
    rotate_left
    ·intro w'
     go_simp
     with_reducible rfl
    rotate_left
    ·simp only [Act.put, lsp, i64_w, i32_w]
     rfl
    refine pure_ (i := 17) (N := some 46) (v := ?_) (a' := ?_) #[true, true, true, true, true, true, true, true, true, true, true, true, true, true, true, true, true, true, false] rfl rfl (any_of HT_.out (by kernel_rfl)) (fun _ _ _ h => h) (Or.inl ⟨by rfl, ?_⟩) ?_ ?_
    rotate_left
    ·intro w'
     go_simp
     with_reducible rfl
    rotate_left
    ·simp only [Act.put, lsp, i64_w, i32_w]
     rfl
    refine pure_ (i := 18) (N := some 47) (v := ?_) (a' := ?_) #[true, true, true, true, true, true, true, true, true, true, true, true, true, true, true, true, true, true, true] rfl rfl (any_of HT_.out (by kernel_rfl)) (fun _ _ _ h => h) (Or.inl ⟨by rfl, ?_⟩) ?_ ?_
    rotate_left
    ·intro w'
     go_simp
     with_reducible rfl
    rotate_left
    ·simp only [Act.put, lsp, i64_w, i32_w]
     rfl
    refine done_ (done_of HT_.out (by kernel_rfl)) ?_
    try go_wp2
    go_meet
    case rel => exact ⟨_, ((t1106 != t1115)), (by first | rfl | (simp; done) | (simp [*]; done)), H', ⟨by first | omega | exact Nat.le_refl _⟩, ⟨by (with_reducible repeat (first | apply Kd.R_alloc | apply Kd.R_drewN | apply Kd.R_drew)); exact Kd.R_mono HO1095.out (fun _ hk => ⟨hk.1.1.1, ⟨hk.1.1.2.1, hk.1.1.2.2⟩⟩)⟩, ⟨by (with_reducible repeat (first | apply Kd.R_alloc | apply Kd.R_drewN | apply Kd.R_drew)); exact Kd.R_mono HO1099.out (fun _ hk => ⟨hk.1.1.1, ⟨hk.1.1.2.1, hk.1.1.2.2⟩⟩)⟩, ⟨by (with_reducible repeat (first | apply Kd.R_alloc | apply Kd.R_drewN | apply Kd.R_drew)); exact HO1092.out⟩, ⟨by (with_reducible repeat (first | apply Kd.R_alloc | apply Kd.R_drewN | apply Kd.R_drew)); exact Kd.R_mono HO1104.out (fun _ hk => ⟨hk.1.1.1, ⟨hk.1.1.2.1, hk.1.1.2.2⟩⟩)⟩, ⟨by (with_reducible repeat (first | apply Kd.R_alloc | apply Kd.R_drewN | apply Kd.R_drew)); exact Kd.R_mono HO1109.out (fun _ hk => ⟨hk.1.1.1, ⟨hk.1.1.2.1, hk.1.1.2.2⟩⟩)⟩, ⟨by refine bq ?_; exact BK1100.out⟩, ⟨by refine bq ?_; exact BK1105.out⟩, ⟨by refine bq ?_; exact BK1110.out⟩, ⟨by exact hs HB.out⟩⟩
   ·rw [if_neg c27] at H
    have c27b0 : (t1101 == t1111) = false := beq_eq_false_iff_ne.mpr c27
    have c27b1 : (t1101 != t1111) = true := bne_iff_ne.mpr c27
    (first | rw [c27b0] | (simp only [i64_w, i32_w]; rw [c27b0]) | skip)
    have H' := am H
    clear H
    try go_wp2
    have n0_ : Aside0 (Kd.R k99 99 ((w21.setCell ⟨gb1110, 0, none⟩ (.int .i64 t1106)).setCell ⟨gb1110, 1, none⟩ (.slice Ao25 t1107.length co25)) w.heap.size (fun _ => True) (.slice Ao10 t1090.length co10) t1090) := ⟨by (with_reducible repeat (first | apply Kd.R_alloc | apply Kd.R_drewN | apply Kd.R_drew)); exact Kd.R_mono (Kd.R_far (p := ⟨gb1110, 1, none⟩) (Kd.R_far (p := ⟨gb1110, 0, none⟩) (Kd.R_types HO1092.out BK1110.out (by decide)) (fun _ hk => hk.2) (.int .i64 t1106)) (fun _ hk => hk.2) (.slice Ao25 t1107.length co25)) (fun _ hk => trivial)⟩
    have n1_ : Aside0 (Kd.R (Kd.int .i64) 2 ((w21.setCell ⟨gb1110, 0, none⟩ (.int .i64 t1106)).setCell ⟨gb1110, 1, none⟩ (.slice Ao25 t1107.length co25)) w.heap.size (fun k_ => some k_ ≠ (.slice Ao13 t1097.length co13 : Value).ownBlock ∧ some k_ ≠ (.slice Ao18 t1102.length co18 : Value).ownBlock ∧ some k_ ≠ (.slice Ao25 t1107.length co25 : Value).ownBlock) (.slice Ao12 t1093.length co12) t1093) := ⟨by (with_reducible repeat (first | apply Kd.R_alloc | apply Kd.R_drewN | apply Kd.R_drew)); exact Kd.R_mono (Kd.R_far (p := ⟨gb1110, 1, none⟩) (Kd.R_far (p := ⟨gb1110, 0, none⟩) (Kd.R_types HO1095.out BK1110.out (by decide)) (fun _ hk => hk.2) (.int .i64 t1106)) (fun _ hk => hk.2) (.slice Ao25 t1107.length co25)) (fun _ hk => ⟨hk.1.1.1, ⟨hk.1.1.2, hk.1.2⟩⟩)⟩
    have n2_ : Aside0 (Kd.R (Kd.int .i64) 2 ((w21.setCell ⟨gb1110, 0, none⟩ (.int .i64 t1106)).setCell ⟨gb1110, 1, none⟩ (.slice Ao25 t1107.length co25)) w.heap.size (fun k_ => some k_ ≠ (.slice Ao12 t1093.length co12 : Value).ownBlock ∧ some k_ ≠ (.slice Ao18 t1102.length co18 : Value).ownBlock ∧ some k_ ≠ (.slice Ao25 t1107.length co25 : Value).ownBlock) (.slice Ao13 t1097.length co13) t1097) := ⟨by (with_reducible repeat (first | apply Kd.R_alloc | apply Kd.R_drewN | apply Kd.R_drew)); exact Kd.R_mono (Kd.R_far (p := ⟨gb1110, 1, none⟩) (Kd.R_far (p := ⟨gb1110, 0, none⟩) (Kd.R_types HO1099.out BK1110.out (by decide)) (fun _ hk => hk.2) (.int .i64 t1106)) (fun _ hk => hk.2) (.slice Ao25 t1107.length co25)) (fun _ hk => ⟨hk.1.1.1, ⟨hk.1.1.2, hk.1.2⟩⟩)⟩
    have n3_ : Aside0 (Kd.R (Kd.int .i64) 2 ((w21.setCell ⟨gb1110, 0, none⟩ (.int .i64 t1106)).setCell ⟨gb1110, 1, none⟩ (.slice Ao25 t1107.length co25)) w.heap.size (fun k_ => some k_ ≠ (.slice Ao12 t1093.length co12 : Value).ownBlock ∧ some k_ ≠ (.slice Ao13 t1097.length co13 : Value).ownBlock ∧ some k_ ≠ (.slice Ao25 t1107.length co25 : Value).ownBlock) (.slice Ao18 t1102.length co18) t1102) := ⟨by (with_reducible repeat (first | apply Kd.R_alloc | apply Kd.R_drewN | apply Kd.R_drew)); exact Kd.R_mono (Kd.R_far (p := ⟨gb1110, 1, none⟩) (Kd.R_far (p := ⟨gb1110, 0, none⟩) (Kd.R_types HO1104.out BK1110.out (by decide)) (fun _ hk => hk.2) (.int .i64 t1106)) (fun _ hk => hk.2) (.slice Ao25 t1107.length co25)) (fun _ hk => ⟨hk.1.1.1.2, ⟨hk.1.1.2, hk.1.2⟩⟩)⟩
    have n4_ : Aside0 (Kd.R (Kd.int .i64) 2 ((w21.setCell ⟨gb1110, 0, none⟩ (.int .i64 t1106)).setCell ⟨gb1110, 1, none⟩ (.slice Ao25 t1107.length co25)) w.heap.size (fun k_ => some k_ ≠ (.slice Ao12 t1093.length co12 : Value).ownBlock ∧ some k_ ≠ (.slice Ao13 t1097.length co13 : Value).ownBlock ∧ some k_ ≠ (.slice Ao18 t1102.length co18 : Value).ownBlock) (.slice Ao25 t1107.length co25) t1107) := ⟨by (with_reducible repeat (first | apply Kd.R_alloc | apply Kd.R_drewN | apply Kd.R_drew)); exact Kd.R_mono (Kd.R_far (p := ⟨gb1110, 1, none⟩) (Kd.R_far (p := ⟨gb1110, 0, none⟩) (Kd.R_types HO1109.out BK1110.out (by decide)) (fun _ hk => hk.2) (.int .i64 t1106)) (fun _ hk => hk.2) (.slice Ao25 t1107.length co25)) (fun _ hk => ⟨hk.1.1.1.2, ⟨hk.1.1.2, hk.1.2⟩⟩)⟩
    have n5_ : Aside0 (((w21.setCell ⟨gb1110, 0, none⟩ (.int .i64 t1106)).setCell ⟨gb1110, 1, none⟩ (.slice Ao25 t1107.length co25)).heap[gb1100]? = some (.cells #[.slice Ao10 t1090.length co10] 42 (0, 0))) := ⟨by refine bq ?_; refine blk_far ?_ NB1100_1110.out _; refine bq ?_; refine blk_far ?_ NB1100_1110.out _; refine bq ?_; exact BK1100.out⟩
    have n6_ : Aside0 (((w21.setCell ⟨gb1110, 0, none⟩ (.int .i64 t1106)).setCell ⟨gb1110, 1, none⟩ (.slice Ao25 t1107.length co25)).heap[gb1105]? = some (.cells #[.int .i64 t1101, .slice Ao18 t1102.length co18] 67 (0, 0))) := ⟨by refine bq ?_; refine blk_far ?_ NB1105_1110.out _; refine bq ?_; refine blk_far ?_ NB1105_1110.out _; refine bq ?_; exact BK1105.out⟩
    have n7_ : Aside0 (((w21.setCell ⟨gb1110, 0, none⟩ (.int .i64 t1106)).setCell ⟨gb1110, 1, none⟩ (.slice Ao25 t1107.length co25)).heap[gb1110]? = some (.cells #[.int .i64 t1106, .slice Ao25 t1107.length co25] 67 (0, 0))) := ⟨by refine bq ?_; refine blk_put (cs := #[.int .i64 t1106, .slice none 0 0]) ?_ 1 _ rfl; refine bq ?_; refine blk_put (cs := #[.int .i64 0, .slice none 0 0]) ?_ 0 _ rfl; refine bq ?_; exact BK1110.out⟩
    have n8_ : Aside0 (Below w.heap.size w ((w21.setCell ⟨gb1110, 0, none⟩ (.int .i64 t1106)).setCell ⟨gb1110, 1, none⟩ (.slice Ao25 t1107.length co25))) := ⟨by exact hs HB.out⟩
    (try clear HO1092)
    (try clear HO1095)
    (try clear HO1099)
    (try clear HO1104)
    (try clear HO1109)
    (try clear BK1100)
    (try clear BK1105)
    (try clear BK1110)
    (try clear HB)
    generalize ((w21.setCell ⟨gb1110, 0, none⟩ (.int .i64 t1106)).setCell ⟨gb1110, 1, none⟩ (.slice Ao25 t1107.length co25)) = w33 at n0_ n1_ n2_ n3_ n4_ n5_ n6_ n7_ n8_ ⊢
    have HO1092 := n0_
    have HO1095 := n1_
    have HO1099 := n2_
    have HO1104 := n3_
    have HO1109 := n4_
    have BK1100 := n5_
    have BK1105 := n6_
    have BK1110 := n7_
    have HB := n8_
    clear n0_ n1_ n2_ n3_ n4_ n5_ n6_ n7_ n8_
    have n0_ := am (Kd.R_drew HO1092.out)
    have n1_ := am (Kd.R_drew HO1095.out)
    have n2_ := am (Kd.R_drew HO1099.out)
    have n3_ := am (Kd.R_drew HO1104.out)
    have n4_ := am (Kd.R_drew HO1109.out)
    have n5_ := am (blk_drew BK1100.out)
    have n6_ := am (blk_drew BK1105.out)
    have n7_ := am (blk_drew BK1110.out)
    have n8_ := am (below_drew1 HB.out)
    clear HO1092
    clear HO1095
    clear HO1099
    clear HO1104
    clear HO1109
    clear BK1100
    clear BK1105
    clear BK1110
    clear HB
    have HO1092 := n0_
    have HO1095 := n1_
    have HO1099 := n2_
    have HO1104 := n3_
    have HO1109 := n4_
    have BK1100 := n5_
    have BK1105 := n6_
    have BK1110 := n7_
    have HB := n8_
    clear n0_ n1_ n2_ n3_ n4_ n5_ n6_ n7_ n8_
    refine start_ (n := 19) (S := fun w' => w'.cell? ⟨gb1105, 0, none⟩ = some (.int .i64 t1101) ∧ w'.cell? ⟨gb1105, 1, none⟩ = some (.slice Ao18 t1102.length co18) ∧ w'.cell? ⟨gb1100, 0, none⟩ = some (.slice Ao10 t1090.length co10)) (ds := []) #[false, false, false, false, false, false, false, false, false, false, false, false, false, false, false, false, false, false, false] (by kernel_rfl) rfl rfl ⟨(blk_cell BK1105.out 0).trans rfl, (blk_cell BK1105.out 1).trans rfl, (blk_cell BK1100.out 0).trans rfl⟩ (fun hHeld => ?_); refine with_tabW laws_FnReplaces.tab6 laws_FnReplaces.bits6 (fun HT_ HW_ => ?_)
    generalize w33.drew = w34 at HO1092 HO1095 HO1099 HO1104 HO1109 BK1100 BK1105 BK1110 HB hHeld ⊢
    refine pure_ (i := 0) (N := some 29) (v := ?_) (a' := ?_) #[true, false, false, false, false, false, false, false, false, false, false, false, false, false, false, false, false, false, false] rfl rfl (any_of HT_.out (by kernel_rfl)) (fun _ _ _ h => h) (Or.inl ⟨by rfl, ?_⟩) ?_ ?_
    rotate_left
    ·intro w'
     go_simp
     with_reducible rfl
    rotate_left
    ·simp only [Act.put, lsp, i64_w, i32_w]
     rfl
    refine pure_ (i := 3) (N := some 32) (v := ?_) (a' := ?_) #[true, false, false, true, false, false, false, false, false, false, false, false, false, false, false, false, false, false, false] rfl rfl (any_of HT_.out (by kernel_rfl)) (fun _ _ _ h => h) (Or.inl ⟨by rfl, ?_⟩) ?_ ?_
    rotate_left
    ·intro w'
     go_simp
     with_reducible rfl
    rotate_left
    ·simp only [Act.put, lsp, i64_w, i32_w]
     rfl
    refine pure_ (i := 4) (N := some 33) (v := ?_) (a' := ?_) #[true, false, false, true, true, false, false, false, false, false, false, false, false, false, false, false, false, false, false] rfl rfl (any_of HT_.out (by kernel_rfl)) (fun _ _ _ h => h) (Or.inl ⟨by rfl, ?_⟩) ?_ ?_
    rotate_left
    ·intro w'
     go_simp
     with_reducible rfl
    rotate_left
    ·simp only [Act.put, lsp, i64_w, i32_w]
     rfl
    refine pure_ (i := 5) (N := some 34) (v := ?_) (a' := ?_) #[true, false, false, true, true, true, false, false, false, false, false, false, false, false, false, false, false, false, false] rfl rfl (any_of HT_.out (by kernel_rfl)) (fun _ _ _ h => h) (Or.inl ⟨by rfl, ?_⟩) ?_ ?_
    rotate_left
    ·intro w'
     go_simp
     with_reducible rfl
    rotate_left
    ·simp only [Act.put, lsp, i64_w, i32_w]
     rfl
    refine take_ (i := 1) (N := some 30) (v := ?_) (a' := ?_) #[true, true, false, true, true, true, false, false, false, false, false, false, false, false, false, false, false, false, false] rfl rfl (take_ofW HT_.out HW_.out (by kernel_rfl)) (fun _ _ _ h => h) (Or.inl ⟨by rfl, ?_⟩) hHeld ?_ ?_
    rotate_left
    ·rintro w' ⟨s0, s1, s2⟩
     go_simp
     with_reducible rfl
    rotate_left
    ·simp only [Act.put, lsp, i64_w, i32_w]
     rfl
    refine take_ (i := 2) (N := some 31) (v := ?_) (a' := ?_) #[true, true, true, true, true, true, false, false, false, false, false, false, false, false, false, false, false, false, false] rfl rfl (take_ofW HT_.out HW_.out (by kernel_rfl)) (fun _ _ _ h => h) (Or.inl ⟨by rfl, ?_⟩) hHeld ?_ ?_
    rotate_left
    ·rintro w' ⟨s0, s1, s2⟩
     go_simp
     with_reducible rfl
    rotate_left
    ·simp only [Act.put, lsp, i64_w, i32_w]
     rfl
    refine one_ (i := 6) (N := some 35) #[true, true, true, true, true, true, true, false, false, false, false, false, false, false, false, false, false, false, false] rfl rfl (one_of HT_.out (by kernel_rfl)) (by decide) (fun K hK => ?_)
    refine goes_ Tryd.func51 (by kernel_rfl) rfl #[.agg #[.slice Ao10 t1090.length co10], .slice Ao12 t1093.length co12, .int .i64 t1096, .slice Ao13 t1097.length co13] (by rfl) rfl rfl el ?_
    with_reducible refine (spec_ReplaceAt.calls k _ _ t1090 _ _ t1093 t1096 _ _ t1097 t1111 t1112 _ ?side1 ?side2 ?side3 ?side4 ?side5 ?side6 A26.out).mono ?_
    (case side1 => repeat (first | exact (Kd.R_reads' HO1092.out).2.2 | (with_reducible refine Kd.C_alloc ?_ _) | (with_reducible refine Kd.C_drewN ?_ _) | (with_reducible refine Kd.C_drew ?_)))
    (case side2 => exact (Kd.R_reads' HO1092.out).2.1)
    (case side3 => repeat (first | exact (Kd.R_reads' HO1095.out).2.2 | (with_reducible refine Kd.C_alloc ?_ _) | (with_reducible refine Kd.C_drewN ?_ _) | (with_reducible refine Kd.C_drew ?_)))
    (case side4 => exact (Kd.R_reads' HO1095.out).2.1)
    (case side5 => repeat (first | exact (Kd.R_reads' HO1099.out).2.2 | (with_reducible refine Kd.C_alloc ?_ _) | (with_reducible refine Kd.C_drewN ?_ _) | (with_reducible refine Kd.C_drew ?_)))
    (case side6 => exact (Kd.R_reads' HO1099.out).2.1)
    rintro e w35 ⟨v1113, rfl, ho0, hb⟩
    refine ⟨_, rfl, ?_⟩
    have n0_ := am (Kd.R_below (rq HO1092.out) hb)
    have n1_ := am (Kd.R_elder' (rq HO1095.out) (Kd.R_base ho0) hb)
    have n2_ := am (Kd.R_elder' (rq HO1099.out) (Kd.R_base ho0) hb)
    have n3_ := am (Kd.R_elder' (rq HO1104.out) (Kd.R_base ho0) hb)
    have n4_ := am (Kd.R_elder' (rq HO1109.out) (Kd.R_base ho0) hb)
    have n5_ := am (Kd.R_lower (Kd.R_new' (Kd.R_new' (Kd.R_new' (Kd.R_new' ho0 (Kd.R_lt (rq HO1095.out))) (Kd.R_lt (rq HO1099.out))) (Kd.R_lt (rq HO1104.out))) (Kd.R_lt (rq HO1109.out))) (below_size (hs HB.out)))
    have n6_ := am (blk_below (bq BK1100.out) hb)
    have n7_ := am (blk_below (bq BK1105.out) hb)
    have n8_ := am (blk_below (bq BK1110.out) hb)
    have n9_ := am (below_step (hs HB.out) hb)
    clear HO1092
    clear HO1095
    clear HO1099
    clear HO1104
    clear HO1109
    clear BK1100
    clear BK1105
    clear BK1110
    clear HB
    have HO1092 := n0_
    have HO1095 := n1_
    have HO1099 := n2_
    have HO1104 := n3_
    have HO1109 := n4_
    have HO1114 := n5_
    have BK1100 := n6_
    have BK1105 := n7_
    have BK1110 := n8_
    have HB := n9_
    clear n0_ n1_ n2_ n3_ n4_ n5_ n6_ n7_ n8_ n9_
    (try clear hb)
    (try clear hb2)
    (try clear hgw)
    (try clear hk)
    (try clear hi)
    (try clear ho0)
    refine hK.out _ _ ⟨(blk_cell BK1105.out 0).trans rfl, (blk_cell BK1105.out 1).trans rfl, (blk_cell BK1100.out 0).trans rfl⟩ (fun hHeld => ?_)
    clear hK K
    refine norm_ (a' := ?_) ?_ ?_
    rotate_left
    ·show Act.put _ (some 35) _ = _
     simp only [Act.put, lsp, i64_w, i32_w]
     rfl
    refine pure_ (i := 7) (N := some 36) (v := ?_) (a' := ?_) #[true, true, true, true, true, true, true, true, false, false, false, false, false, false, false, false, false, false, false] rfl rfl (any_of HT_.out (by kernel_rfl)) (fun _ _ _ h => h) (Or.inl ⟨by rfl, ?_⟩) ?_ ?_
    rotate_left
    ·intro w'
     go_simp
     with_reducible rfl
    rotate_left
    ·simp only [Act.put, lsp, i64_w, i32_w]
     rfl
    refine pure_ (i := 8) (N := some 37) (v := ?_) (a' := ?_) #[true, true, true, true, true, true, true, true, true, false, false, false, false, false, false, false, false, false, false] rfl rfl (any_of HT_.out (by kernel_rfl)) (fun _ _ _ h => h) (Or.inl ⟨by rfl, ?_⟩) ?_ ?_
    rotate_left
    ·intro w'
     go_simp
     with_reducible rfl
    rotate_left
    ·simp only [Act.put, lsp, i64_w, i32_w]
     rfl
    refine pure_ (i := 9) (N := some 38) (v := ?_) (a' := ?_) #[true, true, true, true, true, true, true, true, true, true, false, false, false, false, false, false, false, false, false] rfl rfl (any_of HT_.out (by kernel_rfl)) (fun _ _ _ h => h) (Or.inl ⟨by rfl, ?_⟩) ?_ ?_
    rotate_left
    ·intro w'
     go_simp
     with_reducible rfl
    rotate_left
    ·simp only [Act.put, lsp, i64_w, i32_w]
     rfl
    refine pure_ (i := 10) (N := some 39) (v := undef) (a' := ?_) #[true, true, true, true, true, true, true, true, true, true, true, false, false, false, false, false, false, false, false] rfl rfl (any_of HT_.out (by kernel_rfl)) (fun _ _ _ h => h) (Or.inr ⟨by rfl, rfl⟩) ?_ ?_
    rotate_left
    ·simp only [Act.put, lsp, i64_w, i32_w]
     rfl
    refine pure_ (i := 11) (N := some 40) (v := undef) (a' := ?_) #[true, true, true, true, true, true, true, true, true, true, true, true, false, false, false, false, false, false, false] rfl rfl (any_of HT_.out (by kernel_rfl)) (fun _ _ _ h => h) (Or.inr ⟨by rfl, rfl⟩) ?_ ?_
    rotate_left
    ·simp only [Act.put, lsp, i64_w, i32_w]
     rfl
    refine pure_ (i := 12) (N := some 41) (v := undef) (a' := ?_) #[true, true, true, true, true, true, true, true, true, true, true, true, true, false, false, false, false, false, false] rfl rfl (any_of HT_.out (by kernel_rfl)) (fun _ _ _ h => h) (Or.inr ⟨by rfl, rfl⟩) ?_ ?_
    rotate_left
    ·simp only [Act.put, lsp, i64_w, i32_w]
     rfl
    refine pure_ (i := 13) (N := some 42) (v := undef) (a' := ?_) #[true, true, true, true, true, true, true, true, true, true, true, true, true, true, false, false, false, false, false] rfl rfl (any_of HT_.out (by kernel_rfl)) (fun _ _ _ h => h) (Or.inr ⟨by rfl, rfl⟩) ?_ ?_
    rotate_left
    ·simp only [Act.put, lsp, i64_w, i32_w]
     rfl
    refine pure_ (i := 14) (N := some 43) (v := undef) (a' := ?_) #[true, true, true, true, true, true, true, true, true, true, true, true, true, true, true, false, false, false, false] rfl rfl (any_of HT_.out (by kernel_rfl)) (fun _ _ _ h => h) (Or.inr ⟨by rfl, rfl⟩) ?_ ?_
    rotate_left
    ·simp only [Act.put, lsp, i64_w, i32_w]
     rfl
    refine pure_ (i := 15) (N := some 44) (v := undef) (a' := ?_) #[true, true, true, true, true, true, true, true, true, true, true, true, true, true, true, true, false, false, false] rfl rfl (any_of HT_.out (by kernel_rfl)) (fun _ _ _ h => h) (Or.inr ⟨by rfl, rfl⟩) ?_ ?_
    rotate_left
    ·simp only [Act.put, lsp, i64_w, i32_w]
     rfl
    refine pure_ (i := 16) (N := some 45) (v := undef) (a' := ?_) #[true, true, true, true, true, true, true, true, true, true, true, true, true, true, true, true, true, false, false] rfl rfl (any_of HT_.out (by kernel_rfl)) (fun _ _ _ h => h) (Or.inr ⟨by rfl, rfl⟩) ?_ ?_
    rotate_left
    ·simp only [Act.put, lsp, i64_w, i32_w]
     rfl
    refine pure_ (i := 17) (N := some 46) (v := undef) (a' := ?_) #[true, true, true, true, true, true, true, true, true, true, true, true, true, true, true, true, true, true, false] rfl rfl (any_of HT_.out (by kernel_rfl)) (fun _ _ _ h => h) (Or.inr ⟨by rfl, rfl⟩) ?_ ?_
    rotate_left
    ·simp only [Act.put, lsp, i64_w, i32_w]
     rfl
    refine pure_ (i := 18) (N := some 47) (v := ?_) (a' := ?_) #[true, true, true, true, true, true, true, true, true, true, true, true, true, true, true, true, true, true, true] rfl rfl (any_of HT_.out (by kernel_rfl)) (fun _ _ _ h => h) (Or.inl ⟨by rfl, ?_⟩) ?_ ?_
    rotate_left
    ·intro w'
     go_simp
     with_reducible rfl
    rotate_left
    ·simp only [Act.put, lsp, i64_w, i32_w]
     rfl
    refine done_ (done_of HT_.out (by kernel_rfl)) ?_
    try go_wp2
    go_meet
    case rel => exact ⟨_, (true), (by first | rfl | (simp; done) | (simp [*]; done)), H', ⟨by first | omega | exact Nat.le_refl _⟩, ⟨by (with_reducible repeat (first | apply Kd.R_alloc | apply Kd.R_drewN | apply Kd.R_drew)); exact Kd.R_mono HO1095.out (fun _ hk => ⟨hk.1.1, ⟨hk.1.2.1, hk.1.2.2⟩⟩)⟩, ⟨by (with_reducible repeat (first | apply Kd.R_alloc | apply Kd.R_drewN | apply Kd.R_drew)); exact Kd.R_mono HO1099.out (fun _ hk => ⟨hk.1.1, ⟨hk.1.2.1, hk.1.2.2⟩⟩)⟩, ⟨by (with_reducible repeat (first | apply Kd.R_alloc | apply Kd.R_drewN | apply Kd.R_drew)); exact HO1092.out⟩, ⟨by (with_reducible repeat (first | apply Kd.R_alloc | apply Kd.R_drewN | apply Kd.R_drew)); exact Kd.R_mono HO1104.out (fun _ hk => ⟨hk.1.1, ⟨hk.1.2.1, hk.1.2.2⟩⟩)⟩, ⟨by (with_reducible repeat (first | apply Kd.R_alloc | apply Kd.R_drewN | apply Kd.R_drew)); exact Kd.R_mono HO1109.out (fun _ hk => ⟨hk.1.1, ⟨hk.1.2.1, hk.1.2.2⟩⟩)⟩, ⟨by refine bq ?_; exact BK1100.out⟩, ⟨by refine bq ?_; exact BK1105.out⟩, ⟨by refine bq ?_; exact BK1110.out⟩, ⟨by exact hs HB.out⟩⟩
  case rest =>
   clear HC7
   try clear c1
   try clear c2
   try clear p2
   try clear c3
   try clear c5
   try clear c11
   try clear c16
   try clear c22
   try clear c23
   try clear c27
   try clear c27b0
   try clear c27b1
   try clear c30
   try clear hcz11_0
   try clear hcz17_0
   try clear hcz17_1
   try clear hcz19_0
   try clear hcz24_0
   try clear hcz24_1
   try clear hfz11_0
   try clear hfz17_0
   try clear hfz17_1
   try clear hfz19_0
   try clear hfz24_0
   try clear hfz24_1
   obtain ⟨kq, x47_6, rfl, HA, HJ6, HO_4, HO_6, HO_1101000, HO_1106001, HO_1111001, BK1100, BK1105, BK1110, HB⟩ := hcut
   cases kq with
   | zero => exact absurd HA.out (by simp [laws_FnReplaces.j0])
   | succ kj6 =>
    have H := HA.out
    clear HA
    simp only [laws_FnReplaces.j0] at H
    by_cases c36 : x47_6 = true
    ·subst c36
     have H1 : (some false) = some r := by rw [if_pos rfl] at H; exact H
     clear H
     have H := H1
     clear H1
     exact absurd ((Option.some.inj H).trans ht_) Bool.false_ne_true
    ·replace c36 := Bool.eq_false_iff.mpr c36
     subst c36
     have H1 : (if t1101 = 0 then ((impl_SubtermAt.f kj6 t1090 t1102 t1096).bind fun bt1119 => ((impl_ReplaceAt.f kj6 t1090 t1102 t1096 t1107).bind fun bt1124 => (if bt1119.1 = 0 then ((laws_lwNums.f kj6 bt1119.2 t1097).bind fun t1129 => (if t1129 = true then (if bt1124.1 = 0 then ((laws_lwNums.f kj6 bt1124.2 t1093).bind fun t1130 => (if t1130 = true then ((impl_SizeAt.f kj6 t1090 t1102 t1096).bind fun bt1131 => (if bt1131.2 = (t1097.length : Int) then ((impl_SizeAt.f kj6 t1090 t1093 t1096).bind fun bt1133 => (if bt1133.2 = (t1107.length : Int) then ((impl_TermFault.f kj6 t1090 t1102).bind fun t1135 => (if t1135 = 0 then (some ((t1102.length : Int) == (wrap64 ((wrap64 ((t1093.length : Int) + (t1097.length : Int))) - (t1107.length : Int))))) else (some false))) else (some false))) else (some false))) else (some false))) else (some false)) else (some false))) else (some false)))) else (some true)) = some r := by rw [if_neg (show ¬ (false = true) by decide)] at H; exact H
     clear H
     have H := H1
     clear H1
     by_cases c37 : t1101 = 0
     ·rw [if_pos c37] at H
      have c37b0 : (t1101 == 0) = true := beq_iff_eq.mpr c37
      have c37b1 : (t1101 != 0) = false := bne_eq_false_iff_eq.mpr c37
      clear c37
      replace H := Option.bind_eq_some_iff.mp H
      obtain ⟨⟨t1119, t1120⟩, A380, H⟩ := H
      replace H : ((impl_ReplaceAt.f kj6 t1090 t1102 t1096 t1107).bind fun bt1124 => (if t1119 = 0 then ((laws_lwNums.f kj6 t1120 t1097).bind fun t1129 => (if t1129 = true then (if bt1124.1 = 0 then ((laws_lwNums.f kj6 bt1124.2 t1093).bind fun t1130 => (if t1130 = true then ((impl_SizeAt.f kj6 t1090 t1102 t1096).bind fun bt1131 => (if bt1131.2 = (t1097.length : Int) then ((impl_SizeAt.f kj6 t1090 t1093 t1096).bind fun bt1133 => (if bt1133.2 = (t1107.length : Int) then ((impl_TermFault.f kj6 t1090 t1102).bind fun t1135 => (if t1135 = 0 then (some ((t1102.length : Int) == (wrap64 ((wrap64 ((t1093.length : Int) + (t1097.length : Int))) - (t1107.length : Int))))) else (some false))) else (some false))) else (some false))) else (some false))) else (some false)) else (some false))) else (some false))) = some r := H
      have A38 := am A380
      clear A380
      replace H := Option.bind_eq_some_iff.mp H
      obtain ⟨⟨t1124, t1125⟩, A390, H⟩ := H
      replace H : (if t1119 = 0 then ((laws_lwNums.f kj6 t1120 t1097).bind fun t1129 => (if t1129 = true then (if t1124 = 0 then ((laws_lwNums.f kj6 t1125 t1093).bind fun t1130 => (if t1130 = true then ((impl_SizeAt.f kj6 t1090 t1102 t1096).bind fun bt1131 => (if bt1131.2 = (t1097.length : Int) then ((impl_SizeAt.f kj6 t1090 t1093 t1096).bind fun bt1133 => (if bt1133.2 = (t1107.length : Int) then ((impl_TermFault.f kj6 t1090 t1102).bind fun t1135 => (if t1135 = 0 then (some ((t1102.length : Int) == (wrap64 ((wrap64 ((t1093.length : Int) + (t1097.length : Int))) - (t1107.length : Int))))) else (some false))) else (some false))) else (some false))) else (some false))) else (some false)) else (some false))) else (some false)) = some r := H
      have A39 := am A390
      clear A390
      by_cases c40 : t1119 = 0
      ·rw [if_pos c40] at H
       have c40b0 : (t1119 == 0) = true := beq_iff_eq.mpr c40
       have c40b1 : (t1119 != 0) = false := bne_eq_false_iff_eq.mpr c40
       clear c40
       replace H := Option.bind_eq_some_iff.mp H
       obtain ⟨t1129, A410, H⟩ := H
       replace H : (if t1129 = true then (if t1124 = 0 then ((laws_lwNums.f kj6 t1125 t1093).bind fun t1130 => (if t1130 = true then ((impl_SizeAt.f kj6 t1090 t1102 t1096).bind fun bt1131 => (if bt1131.2 = (t1097.length : Int) then ((impl_SizeAt.f kj6 t1090 t1093 t1096).bind fun bt1133 => (if bt1133.2 = (t1107.length : Int) then ((impl_TermFault.f kj6 t1090 t1102).bind fun t1135 => (if t1135 = 0 then (some ((t1102.length : Int) == (wrap64 ((wrap64 ((t1093.length : Int) + (t1097.length : Int))) - (t1107.length : Int))))) else (some false))) else (some false))) else (some false))) else (some false))) else (some false)) else (some false)) = some r := H
       have A41 := am A410
       clear A410
       by_cases c42 : t1129 = true
       ·subst c42
        have H1 : (if t1124 = 0 then ((laws_lwNums.f kj6 t1125 t1093).bind fun t1130 => (if t1130 = true then ((impl_SizeAt.f kj6 t1090 t1102 t1096).bind fun bt1131 => (if bt1131.2 = (t1097.length : Int) then ((impl_SizeAt.f kj6 t1090 t1093 t1096).bind fun bt1133 => (if bt1133.2 = (t1107.length : Int) then ((impl_TermFault.f kj6 t1090 t1102).bind fun t1135 => (if t1135 = 0 then (some ((t1102.length : Int) == (wrap64 ((wrap64 ((t1093.length : Int) + (t1097.length : Int))) - (t1107.length : Int))))) else (some false))) else (some false))) else (some false))) else (some false))) else (some false)) = some r := by rw [if_pos rfl] at H; exact H
        clear H
        have H := H1
        clear H1
        by_cases c43 : t1124 = 0
        ·rw [if_pos c43] at H
         have c43b0 : (t1124 == 0) = true := beq_iff_eq.mpr c43
         have c43b1 : (t1124 != 0) = false := bne_eq_false_iff_eq.mpr c43
         clear c43
         replace H := Option.bind_eq_some_iff.mp H
         obtain ⟨t1130, A440, H⟩ := H
         replace H : (if t1130 = true then ((impl_SizeAt.f kj6 t1090 t1102 t1096).bind fun bt1131 => (if bt1131.2 = (t1097.length : Int) then ((impl_SizeAt.f kj6 t1090 t1093 t1096).bind fun bt1133 => (if bt1133.2 = (t1107.length : Int) then ((impl_TermFault.f kj6 t1090 t1102).bind fun t1135 => (if t1135 = 0 then (some ((t1102.length : Int) == (wrap64 ((wrap64 ((t1093.length : Int) + (t1097.length : Int))) - (t1107.length : Int))))) else (some false))) else (some false))) else (some false))) else (some false)) = some r := H
         have A44 := am A440
         clear A440
         by_cases c45 : t1130 = true
         ·subst c45
          have H1 : ((impl_SizeAt.f kj6 t1090 t1102 t1096).bind fun bt1131 => (if bt1131.2 = (t1097.length : Int) then ((impl_SizeAt.f kj6 t1090 t1093 t1096).bind fun bt1133 => (if bt1133.2 = (t1107.length : Int) then ((impl_TermFault.f kj6 t1090 t1102).bind fun t1135 => (if t1135 = 0 then (some ((t1102.length : Int) == (wrap64 ((wrap64 ((t1093.length : Int) + (t1097.length : Int))) - (t1107.length : Int))))) else (some false))) else (some false))) else (some false))) = some r := by rw [if_pos rfl] at H; exact H
          clear H
          have H := H1
          clear H1
          replace H := Option.bind_eq_some_iff.mp H
          obtain ⟨⟨t1131, t1132⟩, A460, H⟩ := H
          replace H : (if t1132 = (t1097.length : Int) then ((impl_SizeAt.f kj6 t1090 t1093 t1096).bind fun bt1133 => (if bt1133.2 = (t1107.length : Int) then ((impl_TermFault.f kj6 t1090 t1102).bind fun t1135 => (if t1135 = 0 then (some ((t1102.length : Int) == (wrap64 ((wrap64 ((t1093.length : Int) + (t1097.length : Int))) - (t1107.length : Int))))) else (some false))) else (some false))) else (some false)) = some r := H
          have A46 := am A460
          clear A460
          by_cases c47 : t1132 = (t1097.length : Int)
          ·rw [if_pos c47] at H
           have c47b0 : (t1132 == (t1097.length : Int)) = true := beq_iff_eq.mpr c47
           have c47b1 : (t1132 != (t1097.length : Int)) = false := bne_eq_false_iff_eq.mpr c47
           clear c47
           replace H := Option.bind_eq_some_iff.mp H
           obtain ⟨⟨t1133, t1134⟩, A480, H⟩ := H
           replace H : (if t1134 = (t1107.length : Int) then ((impl_TermFault.f kj6 t1090 t1102).bind fun t1135 => (if t1135 = 0 then (some ((t1102.length : Int) == (wrap64 ((wrap64 ((t1093.length : Int) + (t1097.length : Int))) - (t1107.length : Int))))) else (some false))) else (some false)) = some r := H
           have A48 := am A480
           clear A480
           by_cases c49 : t1134 = (t1107.length : Int)
           ·rw [if_pos c49] at H
            have c49b0 : (t1134 == (t1107.length : Int)) = true := beq_iff_eq.mpr c49
            have c49b1 : (t1134 != (t1107.length : Int)) = false := bne_eq_false_iff_eq.mpr c49
            clear c49
            replace H := Option.bind_eq_some_iff.mp H
            obtain ⟨t1135, A500, H⟩ := H
            replace H : (if t1135 = 0 then (some ((t1102.length : Int) == (wrap64 ((wrap64 ((t1093.length : Int) + (t1097.length : Int))) - (t1107.length : Int))))) else (some false)) = some r := H
            have A50 := am A500
            clear A500
            by_cases c51 : t1135 = 0
            ·rw [if_pos c51] at H
             have c51b0 : (t1135 == 0) = true := beq_iff_eq.mpr c51
             have c51b1 : (t1135 != 0) = false := bne_eq_false_iff_eq.mpr c51
             clear c51
             obtain rfl := Option.some.inj H
             have hnb52 := NB1105_1100.out
             have hnc52 := NB1100_1105.out
             have hnb53 := NB1105_1110.out
             have hnc53 := NB1110_1105.out
             have hcz54_0 : wc.cell? ⟨gb1105, 0, none⟩ = some (.int .i64 t1101) := (blk_cell BK1105.out 0).trans rfl
             have hcz54_1 : wc.cell? ⟨gb1105, 1, none⟩ = some (.slice Ao18 t1102.length co18) := (blk_cell BK1105.out 1).trans rfl
             have hfz54_0 := blk_frozen BK1105.out 0
             have hfz54_1 := blk_frozen BK1105.out 1
             have hnb55 := NB1100_1110.out
             have hnc55 := NB1110_1100.out
             have hcz56_0 : wc.cell? ⟨gb1100, 0, none⟩ = some (.slice Ao10 t1090.length co10) := (blk_cell BK1100.out 0).trans rfl
             have hfz56_0 := blk_frozen BK1100.out 0
             try go_wp2_with (first | ((with_reducible refine gate_callee (f := 54) rfl ?_); refine goesL_ (some 55) rfl rfl Tryd.func54 (by kernel_rfl) rfl #[.agg #[.slice Ao10 t1090.length co10], .slice Ao18 t1102.length co18, .int .i64 t1096] rfl el ?_; (with_reducible refine (impl_SubtermAt.calls kj6 _ _ t1090 _ _ t1102 t1096 t1119 t1120 _ ?side1 ?side2 ?side3 ?side4 A38.out).mono ?_); (case side1 => repeat (first | exact (Kd.R_reads' HO_1101000.out).2.2 | (with_reducible refine Kd.C_alloc ?_ _) | (with_reducible refine Kd.C_drewN ?_ _) | (with_reducible refine Kd.C_drew ?_))); (case side2 => exact (Kd.R_reads' HO_1101000.out).2.1); (case side3 => repeat (first | exact (Kd.R_reads' HO_1106001.out).2.2 | (with_reducible refine Kd.C_alloc ?_ _) | (with_reducible refine Kd.C_drewN ?_ _) | (with_reducible refine Kd.C_drew ?_))); (case side4 => exact (Kd.R_reads' HO_1106001.out).2.1); rintro e w57 ⟨v1121, rfl, ho0, hb⟩; refine ⟨_, rfl, ?_⟩; have n0_ := am (Kd.R_elder' (rq HO_4.out) (Kd.R_base ho0) hb); have n1_ := am (Kd.R_elder' (rq HO_6.out) (Kd.R_base ho0) hb); have n2_ := am (Kd.R_below (rq HO_1101000.out) hb); have n3_ := am (Kd.R_elder' (rq HO_1106001.out) (Kd.R_base ho0) hb); have n4_ := am (Kd.R_elder' (rq HO_1111001.out) (Kd.R_base ho0) hb); have n5_ := am (Kd.R_lower (Kd.R_new' (Kd.R_new' (Kd.R_new' (Kd.R_new' ho0 (Kd.R_lt (rq HO_4.out))) (Kd.R_lt (rq HO_6.out))) (Kd.R_lt (rq HO_1106001.out))) (Kd.R_lt (rq HO_1111001.out))) (below_size (hs HB.out))); have n6_ := am (blk_below (bq BK1100.out) hb); have n7_ := am (blk_below (bq BK1105.out) hb); have n8_ := am (blk_below (bq BK1110.out) hb); have n9_ := am (below_step (hs HB.out) hb); clear HO_4 HO_6 HO_1101000 HO_1106001 HO_1111001 BK1100 BK1105 BK1110 HB; revert n0_ n1_ n2_ n3_ n4_ n5_ n6_ n7_ n8_ n9_; intro HO_4 HO_6 HO_1101000 HO_1106001 HO_1111001 HO1122 BK1100 BK1105 BK1110 HB; (try clear hb); (try clear hb2); (try clear hgw); (try clear hk); (try clear hi); (try clear ho0)) | ((with_reducible refine gate_dst (N := 9) rfl ?_); (try (refine gate_guard (by rfl) ?_; dsimp only)); refine box_event ?hg (N := 9) ?hd (cs := #[.int .i64 0, .slice none 0 0]) (t := 67) ?hr ?_; (case hd => rfl); (case hg => rfl); (case hr => first | (go_simp; done) | (go_simp; rfl)); intro gb1123 hg w58 hbox hb; have n0_ := am (Kd.R_below (rq HO_4.out) hb); have n1_ := am (Kd.R_below (rq HO_6.out) hb); have n2_ := am (Kd.R_below (rq HO_1101000.out) hb); have n3_ := am (Kd.R_below (rq HO_1106001.out) hb); have n4_ := am (Kd.R_below (rq HO_1111001.out) hb); have n5_ := am (Kd.R_below (rq HO1122.out) hb); have n6_ := am (blk_below (bq BK1100.out) hb); have n7_ := am (blk_below (bq BK1105.out) hb); have n8_ := am (blk_below (bq BK1110.out) hb); have n9_ := am (below_step (hs HB.out) hb); have n10_ := am (hbox); have n11_ := am (bz hg (hs HB.out)); have n12_ := n11_; have n13_ := am ((by rw [hg]; exact Nat.ne_of_lt (blk_lt (bq BK1100.out)) : gb1100 ≠ gb1123)); have n14_ := am ((by rw [hg]; exact Nat.ne_of_gt (blk_lt (bq BK1100.out)) : gb1123 ≠ gb1100)); have n15_ := am ((by rw [hg]; exact Nat.ne_of_lt (blk_lt (bq BK1105.out)) : gb1105 ≠ gb1123)); have n16_ := am ((by rw [hg]; exact Nat.ne_of_gt (blk_lt (bq BK1105.out)) : gb1123 ≠ gb1105)); have n17_ := am ((by rw [hg]; exact Nat.ne_of_lt (blk_lt (bq BK1110.out)) : gb1110 ≠ gb1123)); have n18_ := am ((by rw [hg]; exact Nat.ne_of_gt (blk_lt (bq BK1110.out)) : gb1123 ≠ gb1110)); clear HO_4 HO_6 HO_1101000 HO_1106001 HO_1111001 HO1122 BK1100 BK1105 BK1110 HB; revert n0_ n1_ n2_ n3_ n4_ n5_ n6_ n7_ n8_ n9_ n10_ n11_ n12_ n13_ n14_ n15_ n16_ n17_ n18_; intro HO_4 HO_6 HO_1101000 HO_1106001 HO_1111001 HO1122 BK1100 BK1105 BK1110 HB BK1123 GW1123 GE1123 NB1100_1123 NB1123_1100 NB1105_1123 NB1123_1105 NB1110_1123 NB1123_1110; clear hb hbox hg; have hnb59 := NB1123_1100.out; have hnc59 := NB1100_1123.out; have hnb60 := NB1123_1105.out; have hnc60 := NB1105_1123.out; have hnb61 := NB1123_1110.out; have hnc61 := NB1110_1123.out; have hcz62_0 : w58.cell? ⟨gb1123, 0, none⟩ = some (.int .i64 0) := (blk_cell BK1123.out 0).trans rfl; have hcz62_1 : w58.cell? ⟨gb1123, 1, none⟩ = some (.slice none 0 0) := (blk_cell BK1123.out 1).trans rfl; have hfz62_0 := blk_frozen BK1123.out 0; have hfz62_1 := blk_frozen BK1123.out 1; obtain ⟨Ao63, co63, eo63⟩ := Kd.R_slice HO1122.out; subst eo63; have hcz64_0 : w58.cell? ⟨gb1100, 0, none⟩ = some (.slice Ao10 t1090.length co10) := (blk_cell BK1100.out 0).trans rfl; have hfz64_0 := blk_frozen BK1100.out 0; have hcz65_0 : w58.cell? ⟨gb1105, 0, none⟩ = some (.int .i64 t1101) := (blk_cell BK1105.out 0).trans rfl; have hcz65_1 : w58.cell? ⟨gb1105, 1, none⟩ = some (.slice Ao18 t1102.length co18) := (blk_cell BK1105.out 1).trans rfl; have hfz65_0 := blk_frozen BK1105.out 0; have hfz65_1 := blk_frozen BK1105.out 1; have hcz66_0 : w58.cell? ⟨gb1110, 0, none⟩ = some (.int .i64 t1106) := (blk_cell BK1110.out 0).trans rfl; have hcz66_1 : w58.cell? ⟨gb1110, 1, none⟩ = some (.slice Ao25 t1107.length co25) := (blk_cell BK1110.out 1).trans rfl; have hfz66_0 := blk_frozen BK1110.out 0; have hfz66_1 := blk_frozen BK1110.out 1) | ((with_reducible refine gate_callee (f := 52) rfl ?_); refine goesL_ (some 62) rfl rfl Tryd.func52 (by kernel_rfl) rfl #[.agg #[.slice Ao10 t1090.length co10], .slice Ao18 t1102.length co18, .int .i64 t1096, .slice Ao25 t1107.length co25] rfl el ?_; (with_reducible refine (impl_ReplaceAt.calls kj6 _ _ t1090 _ _ t1102 t1096 _ _ t1107 t1124 t1125 _ ?side1 ?side2 ?side3 ?side4 ?side5 ?side6 A39.out).mono ?_); (case side1 => refine (Kd.R_reads' (e := 99) (base := w.heap.size) (ok := fun k_ => True) (n := t1090.length) (c := co10) ?_).2.2; exact (by (with_reducible repeat (first | apply Kd.R_alloc | apply Kd.R_drewN | apply Kd.R_drew)); exact (Kd.R_mono (Kd.R_far (p := ⟨gb1123, 1, none⟩) (Kd.R_far (p := ⟨gb1123, 0, none⟩) (Kd.R_types HO_1101000.out BK1123.out (by decide)) (fun _ hk => hk.2) (.int .i64 t1119)) (fun _ hk => hk.2) (.slice Ao63 t1120.length co63)) (fun _ h_ => h_.1)))); (case side2 => exact (Kd.R_reads' HO_1101000.out).2.1); (case side3 => refine (Kd.R_reads' (e := 2) (base := w.heap.size) (ok := fun k_ => ((some k_ ≠ (.slice Ao12 t1093.length co12 : Value).ownBlock ∧ (some k_ ≠ (.slice Ao13 t1097.length co13 : Value).ownBlock ∧ some k_ ≠ (.slice Ao25 t1107.length co25 : Value).ownBlock)) ∧ some k_ ≠ (.slice Ao63 t1120.length co63 : Value).ownBlock)) (n := t1102.length) (c := co18) ?_).2.2; exact (by (with_reducible repeat (first | apply Kd.R_alloc | apply Kd.R_drewN | apply Kd.R_drew)); exact (Kd.R_mono (Kd.R_far (p := ⟨gb1123, 1, none⟩) (Kd.R_far (p := ⟨gb1123, 0, none⟩) (Kd.R_types HO_1106001.out BK1123.out (by decide)) (fun _ hk => hk.2) (.int .i64 t1119)) (fun _ hk => hk.2) (.slice Ao63 t1120.length co63)) (fun _ h_ => h_.1)))); (case side4 => exact (Kd.R_reads' HO_1106001.out).2.1); (case side5 => refine (Kd.R_reads' (e := 2) (base := w.heap.size) (ok := fun k_ => ((some k_ ≠ (.slice Ao12 t1093.length co12 : Value).ownBlock ∧ (some k_ ≠ (.slice Ao13 t1097.length co13 : Value).ownBlock ∧ some k_ ≠ (.slice Ao18 t1102.length co18 : Value).ownBlock)) ∧ some k_ ≠ (.slice Ao63 t1120.length co63 : Value).ownBlock)) (n := t1107.length) (c := co25) ?_).2.2; exact (by (with_reducible repeat (first | apply Kd.R_alloc | apply Kd.R_drewN | apply Kd.R_drew)); exact (Kd.R_mono (Kd.R_far (p := ⟨gb1123, 1, none⟩) (Kd.R_far (p := ⟨gb1123, 0, none⟩) (Kd.R_types HO_1111001.out BK1123.out (by decide)) (fun _ hk => hk.2) (.int .i64 t1119)) (fun _ hk => hk.2) (.slice Ao63 t1120.length co63)) (fun _ h_ => h_.1)))); (case side6 => exact (Kd.R_reads' HO_1111001.out).2.1); rintro e w67 ⟨v1126, rfl, ho0, hb⟩; refine ⟨_, rfl, ?_⟩; have n0_ := am (Kd.R_elder' (by (with_reducible repeat (first | apply Kd.R_alloc | apply Kd.R_drewN | apply Kd.R_drew)); exact (Kd.R_mono (Kd.R_far (p := ⟨gb1123, 1, none⟩) (Kd.R_far (p := ⟨gb1123, 0, none⟩) (Kd.R_types HO_4.out BK1123.out (by decide)) (fun _ hk => hk.2) (.int .i64 t1119)) (fun _ hk => hk.2) (.slice Ao63 t1120.length co63)) (fun _ h_ => h_.1))) (Kd.R_base ho0) hb); have n1_ := am (Kd.R_elder' (by (with_reducible repeat (first | apply Kd.R_alloc | apply Kd.R_drewN | apply Kd.R_drew)); exact (Kd.R_mono (Kd.R_far (p := ⟨gb1123, 1, none⟩) (Kd.R_far (p := ⟨gb1123, 0, none⟩) (Kd.R_types HO_6.out BK1123.out (by decide)) (fun _ hk => hk.2) (.int .i64 t1119)) (fun _ hk => hk.2) (.slice Ao63 t1120.length co63)) (fun _ h_ => h_.1))) (Kd.R_base ho0) hb); have n2_ := am (Kd.R_below (by (with_reducible repeat (first | apply Kd.R_alloc | apply Kd.R_drewN | apply Kd.R_drew)); exact (Kd.R_mono (Kd.R_far (p := ⟨gb1123, 1, none⟩) (Kd.R_far (p := ⟨gb1123, 0, none⟩) (Kd.R_types HO_1101000.out BK1123.out (by decide)) (fun _ hk => hk.2) (.int .i64 t1119)) (fun _ hk => hk.2) (.slice Ao63 t1120.length co63)) (fun _ h_ => h_.1))) hb); have n3_ := am (Kd.R_elder' (by (with_reducible repeat (first | apply Kd.R_alloc | apply Kd.R_drewN | apply Kd.R_drew)); exact (Kd.R_mono (Kd.R_far (p := ⟨gb1123, 1, none⟩) (Kd.R_far (p := ⟨gb1123, 0, none⟩) (Kd.R_types HO_1106001.out BK1123.out (by decide)) (fun _ hk => hk.2) (.int .i64 t1119)) (fun _ hk => hk.2) (.slice Ao63 t1120.length co63)) (fun _ h_ => h_.1))) (Kd.R_base ho0) hb); have n4_ := am (Kd.R_elder' (by (with_reducible repeat (first | apply Kd.R_alloc | apply Kd.R_drewN | apply Kd.R_drew)); exact (Kd.R_mono (Kd.R_far (p := ⟨gb1123, 1, none⟩) (Kd.R_far (p := ⟨gb1123, 0, none⟩) (Kd.R_types HO_1111001.out BK1123.out (by decide)) (fun _ hk => hk.2) (.int .i64 t1119)) (fun _ hk => hk.2) (.slice Ao63 t1120.length co63)) (fun _ h_ => h_.1))) (Kd.R_base ho0) hb); have n5_ := am (Kd.R_elder' (by (with_reducible repeat (first | apply Kd.R_alloc | apply Kd.R_drewN | apply Kd.R_drew)); exact (Kd.R_mono (Kd.R_far (p := ⟨gb1123, 1, none⟩) (Kd.R_far (p := ⟨gb1123, 0, none⟩) (Kd.R_types HO1122.out BK1123.out (by decide)) (fun _ hk => hk.2) (.int .i64 t1119)) (fun _ hk => hk.2) (.slice Ao63 t1120.length co63)) (fun _ h_ => h_.1))) (Kd.R_base ho0) hb); have n6_ := am (Kd.R_lower (Kd.R_new' (Kd.R_new' (Kd.R_new' (Kd.R_new' (Kd.R_new' ho0 (Kd.R_lt (by (with_reducible repeat (first | apply Kd.R_alloc | apply Kd.R_drewN | apply Kd.R_drew)); exact (Kd.R_mono (Kd.R_far (p := ⟨gb1123, 1, none⟩) (Kd.R_far (p := ⟨gb1123, 0, none⟩) (Kd.R_types HO_4.out BK1123.out (by decide)) (fun _ hk => hk.2) (.int .i64 t1119)) (fun _ hk => hk.2) (.slice Ao63 t1120.length co63)) (fun _ h_ => h_.1))))) (Kd.R_lt (by (with_reducible repeat (first | apply Kd.R_alloc | apply Kd.R_drewN | apply Kd.R_drew)); exact (Kd.R_mono (Kd.R_far (p := ⟨gb1123, 1, none⟩) (Kd.R_far (p := ⟨gb1123, 0, none⟩) (Kd.R_types HO_6.out BK1123.out (by decide)) (fun _ hk => hk.2) (.int .i64 t1119)) (fun _ hk => hk.2) (.slice Ao63 t1120.length co63)) (fun _ h_ => h_.1))))) (Kd.R_lt (by (with_reducible repeat (first | apply Kd.R_alloc | apply Kd.R_drewN | apply Kd.R_drew)); exact (Kd.R_mono (Kd.R_far (p := ⟨gb1123, 1, none⟩) (Kd.R_far (p := ⟨gb1123, 0, none⟩) (Kd.R_types HO_1106001.out BK1123.out (by decide)) (fun _ hk => hk.2) (.int .i64 t1119)) (fun _ hk => hk.2) (.slice Ao63 t1120.length co63)) (fun _ h_ => h_.1))))) (Kd.R_lt (by (with_reducible repeat (first | apply Kd.R_alloc | apply Kd.R_drewN | apply Kd.R_drew)); exact (Kd.R_mono (Kd.R_far (p := ⟨gb1123, 1, none⟩) (Kd.R_far (p := ⟨gb1123, 0, none⟩) (Kd.R_types HO_1111001.out BK1123.out (by decide)) (fun _ hk => hk.2) (.int .i64 t1119)) (fun _ hk => hk.2) (.slice Ao63 t1120.length co63)) (fun _ h_ => h_.1))))) (Kd.R_lt (by (with_reducible repeat (first | apply Kd.R_alloc | apply Kd.R_drewN | apply Kd.R_drew)); exact (Kd.R_mono (Kd.R_far (p := ⟨gb1123, 1, none⟩) (Kd.R_far (p := ⟨gb1123, 0, none⟩) (Kd.R_types HO1122.out BK1123.out (by decide)) (fun _ hk => hk.2) (.int .i64 t1119)) (fun _ hk => hk.2) (.slice Ao63 t1120.length co63)) (fun _ h_ => h_.1))))) (below_size (hs HB.out))); have n7_ := am (blk_below (g := gb1100) (o := .cells #[.slice Ao10 t1090.length co10] 42 (0, 0)) (by refine bq ?_; refine blk_far ?_ NB1100_1123.out _; refine bq ?_; refine blk_far ?_ NB1100_1123.out _; refine bq ?_; exact BK1100.out) hb); have n8_ := am (blk_below (g := gb1105) (o := .cells #[.int .i64 t1101, .slice Ao18 t1102.length co18] 67 (0, 0)) (by refine bq ?_; refine blk_far ?_ NB1105_1123.out _; refine bq ?_; refine blk_far ?_ NB1105_1123.out _; refine bq ?_; exact BK1105.out) hb); have n9_ := am (blk_below (g := gb1110) (o := .cells #[.int .i64 t1106, .slice Ao25 t1107.length co25] 67 (0, 0)) (by refine bq ?_; refine blk_far ?_ NB1110_1123.out _; refine bq ?_; refine blk_far ?_ NB1110_1123.out _; refine bq ?_; exact BK1110.out) hb); have n10_ := am (blk_below (g := gb1123) (o := .cells #[.int .i64 t1119, .slice Ao63 t1120.length co63] 67 (0, 0)) (by refine bq ?_; refine blk_put (cs := #[.int .i64 t1119, .slice none 0 0]) ?_ 1 _ rfl; refine bq ?_; refine blk_put (cs := #[.int .i64 0, .slice none 0 0]) ?_ 0 _ rfl; refine bq ?_; exact BK1123.out) hb); have n11_ := am (below_step (hs HB.out) hb); clear HO_4 HO_6 HO_1101000 HO_1106001 HO_1111001 HO1122 BK1100 BK1105 BK1110 BK1123 HB; revert n0_ n1_ n2_ n3_ n4_ n5_ n6_ n7_ n8_ n9_ n10_ n11_; intro HO_4 HO_6 HO_1101000 HO_1106001 HO_1111001 HO1122 HO1127 BK1100 BK1105 BK1110 BK1123 HB; (try clear hb); (try clear hb2); (try clear hgw); (try clear hk); (try clear hi); (try clear ho0)) | ((with_reducible refine gate_dst (N := 10) rfl ?_); (try (refine gate_guard (by rfl) ?_; dsimp only)); refine box_event ?hg (N := 10) ?hd (cs := #[.int .i64 0, .slice none 0 0]) (t := 67) ?hr ?_; (case hd => rfl); (case hg => rfl); (case hr => first | (go_simp; done) | (go_simp; rfl)); intro gb1128 hg w68 hbox hb; have n0_ := am (Kd.R_below (rq HO_4.out) hb); have n1_ := am (Kd.R_below (rq HO_6.out) hb); have n2_ := am (Kd.R_below (rq HO_1101000.out) hb); have n3_ := am (Kd.R_below (rq HO_1106001.out) hb); have n4_ := am (Kd.R_below (rq HO_1111001.out) hb); have n5_ := am (Kd.R_below (rq HO1122.out) hb); have n6_ := am (Kd.R_below (rq HO1127.out) hb); have n7_ := am (blk_below (bq BK1100.out) hb); have n8_ := am (blk_below (bq BK1105.out) hb); have n9_ := am (blk_below (bq BK1110.out) hb); have n10_ := am (blk_below (bq BK1123.out) hb); have n11_ := am (below_step (hs HB.out) hb); have n12_ := am (hbox); have n13_ := am (bz hg (hs HB.out)); have n14_ := n13_; have n15_ := am ((by rw [hg]; exact Nat.ne_of_lt (blk_lt (bq BK1100.out)) : gb1100 ≠ gb1128)); have n16_ := am ((by rw [hg]; exact Nat.ne_of_gt (blk_lt (bq BK1100.out)) : gb1128 ≠ gb1100)); have n17_ := am ((by rw [hg]; exact Nat.ne_of_lt (blk_lt (bq BK1105.out)) : gb1105 ≠ gb1128)); have n18_ := am ((by rw [hg]; exact Nat.ne_of_gt (blk_lt (bq BK1105.out)) : gb1128 ≠ gb1105)); have n19_ := am ((by rw [hg]; exact Nat.ne_of_lt (blk_lt (bq BK1110.out)) : gb1110 ≠ gb1128)); have n20_ := am ((by rw [hg]; exact Nat.ne_of_gt (blk_lt (bq BK1110.out)) : gb1128 ≠ gb1110)); have n21_ := am ((by rw [hg]; exact Nat.ne_of_lt (blk_lt (bq BK1123.out)) : gb1123 ≠ gb1128)); have n22_ := am ((by rw [hg]; exact Nat.ne_of_gt (blk_lt (bq BK1123.out)) : gb1128 ≠ gb1123)); clear HO_4 HO_6 HO_1101000 HO_1106001 HO_1111001 HO1122 HO1127 BK1100 BK1105 BK1110 BK1123 HB; revert n0_ n1_ n2_ n3_ n4_ n5_ n6_ n7_ n8_ n9_ n10_ n11_ n12_ n13_ n14_ n15_ n16_ n17_ n18_ n19_ n20_ n21_ n22_; intro HO_4 HO_6 HO_1101000 HO_1106001 HO_1111001 HO1122 HO1127 BK1100 BK1105 BK1110 BK1123 HB BK1128 GW1128 GE1128 NB1100_1128 NB1128_1100 NB1105_1128 NB1128_1105 NB1110_1128 NB1128_1110 NB1123_1128 NB1128_1123; clear hb hbox hg; have hnb69 := NB1128_1100.out; have hnc69 := NB1100_1128.out; have hnb70 := NB1128_1105.out; have hnc70 := NB1105_1128.out; have hnb71 := NB1128_1110.out; have hnc71 := NB1110_1128.out; have hnb72 := NB1128_1123.out; have hnc72 := NB1123_1128.out; have hcz73_0 : w68.cell? ⟨gb1128, 0, none⟩ = some (.int .i64 0) := (blk_cell BK1128.out 0).trans rfl; have hcz73_1 : w68.cell? ⟨gb1128, 1, none⟩ = some (.slice none 0 0) := (blk_cell BK1128.out 1).trans rfl; have hfz73_0 := blk_frozen BK1128.out 0; have hfz73_1 := blk_frozen BK1128.out 1; obtain ⟨Ao74, co74, eo74⟩ := Kd.R_slice HO1127.out; subst eo74))
             have n0_ : Aside0 (Kd.R (Kd.int .i64) 2 ((w68.setCell ⟨gb1128, 0, none⟩ (.int .i64 t1124)).setCell ⟨gb1128, 1, none⟩ (.slice Ao74 t1125.length co74)) w.heap.size (fun k_ => some k_ ≠ (.slice Ao13 t1097.length co13 : Value).ownBlock ∧ some k_ ≠ (.slice Ao18 t1102.length co18 : Value).ownBlock ∧ some k_ ≠ (.slice Ao25 t1107.length co25 : Value).ownBlock ∧ some k_ ≠ (.slice Ao63 t1120.length co63 : Value).ownBlock ∧ some k_ ≠ (.slice Ao74 t1125.length co74 : Value).ownBlock) (.slice Ao12 t1093.length co12) t1093) := ⟨by (with_reducible repeat (first | apply Kd.R_alloc | apply Kd.R_drewN | apply Kd.R_drew)); exact Kd.R_mono (Kd.R_far (p := ⟨gb1128, 1, none⟩) (Kd.R_far (p := ⟨gb1128, 0, none⟩) (Kd.R_types HO_4.out BK1128.out (by decide)) (fun _ hk => hk.2) (.int .i64 t1124)) (fun _ hk => hk.2) (.slice Ao74 t1125.length co74)) (fun _ hk => ⟨hk.1.1.1.1, ⟨hk.1.1.1.2.1, ⟨hk.1.1.1.2.2, ⟨hk.1.1.2, hk.1.2⟩⟩⟩⟩)⟩
             have n1_ : Aside0 (Kd.R (Kd.int .i64) 2 ((w68.setCell ⟨gb1128, 0, none⟩ (.int .i64 t1124)).setCell ⟨gb1128, 1, none⟩ (.slice Ao74 t1125.length co74)) w.heap.size (fun k_ => some k_ ≠ (.slice Ao12 t1093.length co12 : Value).ownBlock ∧ some k_ ≠ (.slice Ao18 t1102.length co18 : Value).ownBlock ∧ some k_ ≠ (.slice Ao25 t1107.length co25 : Value).ownBlock ∧ some k_ ≠ (.slice Ao63 t1120.length co63 : Value).ownBlock ∧ some k_ ≠ (.slice Ao74 t1125.length co74 : Value).ownBlock) (.slice Ao13 t1097.length co13) t1097) := ⟨by (with_reducible repeat (first | apply Kd.R_alloc | apply Kd.R_drewN | apply Kd.R_drew)); exact Kd.R_mono (Kd.R_far (p := ⟨gb1128, 1, none⟩) (Kd.R_far (p := ⟨gb1128, 0, none⟩) (Kd.R_types HO_6.out BK1128.out (by decide)) (fun _ hk => hk.2) (.int .i64 t1124)) (fun _ hk => hk.2) (.slice Ao74 t1125.length co74)) (fun _ hk => ⟨hk.1.1.1.1, ⟨hk.1.1.1.2.1, ⟨hk.1.1.1.2.2, ⟨hk.1.1.2, hk.1.2⟩⟩⟩⟩)⟩
             have n2_ : Aside0 (Kd.R k99 99 ((w68.setCell ⟨gb1128, 0, none⟩ (.int .i64 t1124)).setCell ⟨gb1128, 1, none⟩ (.slice Ao74 t1125.length co74)) w.heap.size (fun _ => True) (.slice Ao10 t1090.length co10) t1090) := ⟨by (with_reducible repeat (first | apply Kd.R_alloc | apply Kd.R_drewN | apply Kd.R_drew)); exact Kd.R_mono (Kd.R_far (p := ⟨gb1128, 1, none⟩) (Kd.R_far (p := ⟨gb1128, 0, none⟩) (Kd.R_types HO_1101000.out BK1128.out (by decide)) (fun _ hk => hk.2) (.int .i64 t1124)) (fun _ hk => hk.2) (.slice Ao74 t1125.length co74)) (fun _ hk => trivial)⟩
             have n3_ : Aside0 (Kd.R (Kd.int .i64) 2 ((w68.setCell ⟨gb1128, 0, none⟩ (.int .i64 t1124)).setCell ⟨gb1128, 1, none⟩ (.slice Ao74 t1125.length co74)) w.heap.size (fun k_ => some k_ ≠ (.slice Ao12 t1093.length co12 : Value).ownBlock ∧ some k_ ≠ (.slice Ao13 t1097.length co13 : Value).ownBlock ∧ some k_ ≠ (.slice Ao25 t1107.length co25 : Value).ownBlock ∧ some k_ ≠ (.slice Ao63 t1120.length co63 : Value).ownBlock ∧ some k_ ≠ (.slice Ao74 t1125.length co74 : Value).ownBlock) (.slice Ao18 t1102.length co18) t1102) := ⟨by (with_reducible repeat (first | apply Kd.R_alloc | apply Kd.R_drewN | apply Kd.R_drew)); exact Kd.R_mono (Kd.R_far (p := ⟨gb1128, 1, none⟩) (Kd.R_far (p := ⟨gb1128, 0, none⟩) (Kd.R_types HO_1106001.out BK1128.out (by decide)) (fun _ hk => hk.2) (.int .i64 t1124)) (fun _ hk => hk.2) (.slice Ao74 t1125.length co74)) (fun _ hk => ⟨hk.1.1.1.1, ⟨hk.1.1.1.2.1, ⟨hk.1.1.1.2.2, ⟨hk.1.1.2, hk.1.2⟩⟩⟩⟩)⟩
             have n4_ : Aside0 (Kd.R (Kd.int .i64) 2 ((w68.setCell ⟨gb1128, 0, none⟩ (.int .i64 t1124)).setCell ⟨gb1128, 1, none⟩ (.slice Ao74 t1125.length co74)) w.heap.size (fun k_ => some k_ ≠ (.slice Ao12 t1093.length co12 : Value).ownBlock ∧ some k_ ≠ (.slice Ao13 t1097.length co13 : Value).ownBlock ∧ some k_ ≠ (.slice Ao18 t1102.length co18 : Value).ownBlock ∧ some k_ ≠ (.slice Ao63 t1120.length co63 : Value).ownBlock ∧ some k_ ≠ (.slice Ao74 t1125.length co74 : Value).ownBlock) (.slice Ao25 t1107.length co25) t1107) := ⟨by (with_reducible repeat (first | apply Kd.R_alloc | apply Kd.R_drewN | apply Kd.R_drew)); exact Kd.R_mono (Kd.R_far (p := ⟨gb1128, 1, none⟩) (Kd.R_far (p := ⟨gb1128, 0, none⟩) (Kd.R_types HO_1111001.out BK1128.out (by decide)) (fun _ hk => hk.2) (.int .i64 t1124)) (fun _ hk => hk.2) (.slice Ao74 t1125.length co74)) (fun _ hk => ⟨hk.1.1.1.1, ⟨hk.1.1.1.2.1, ⟨hk.1.1.1.2.2, ⟨hk.1.1.2, hk.1.2⟩⟩⟩⟩)⟩
             have n5_ : Aside0 (Kd.R (Kd.int .i64) 2 ((w68.setCell ⟨gb1128, 0, none⟩ (.int .i64 t1124)).setCell ⟨gb1128, 1, none⟩ (.slice Ao74 t1125.length co74)) w.heap.size (fun k_ => some k_ ≠ (.slice Ao12 t1093.length co12 : Value).ownBlock ∧ some k_ ≠ (.slice Ao13 t1097.length co13 : Value).ownBlock ∧ some k_ ≠ (.slice Ao18 t1102.length co18 : Value).ownBlock ∧ some k_ ≠ (.slice Ao25 t1107.length co25 : Value).ownBlock ∧ some k_ ≠ (.slice Ao74 t1125.length co74 : Value).ownBlock) (.slice Ao63 t1120.length co63) t1120) := ⟨by (with_reducible repeat (first | apply Kd.R_alloc | apply Kd.R_drewN | apply Kd.R_drew)); exact Kd.R_mono (Kd.R_far (p := ⟨gb1128, 1, none⟩) (Kd.R_far (p := ⟨gb1128, 0, none⟩) (Kd.R_types HO1122.out BK1128.out (by decide)) (fun _ hk => hk.2) (.int .i64 t1124)) (fun _ hk => hk.2) (.slice Ao74 t1125.length co74)) (fun _ hk => ⟨hk.1.1.1.1.1.2, ⟨hk.1.1.1.1.2, ⟨hk.1.1.1.2, ⟨hk.1.1.2, hk.1.2⟩⟩⟩⟩)⟩
             have n6_ : Aside0 (Kd.R (Kd.int .i64) 2 ((w68.setCell ⟨gb1128, 0, none⟩ (.int .i64 t1124)).setCell ⟨gb1128, 1, none⟩ (.slice Ao74 t1125.length co74)) w.heap.size (fun k_ => some k_ ≠ (.slice Ao12 t1093.length co12 : Value).ownBlock ∧ some k_ ≠ (.slice Ao13 t1097.length co13 : Value).ownBlock ∧ some k_ ≠ (.slice Ao18 t1102.length co18 : Value).ownBlock ∧ some k_ ≠ (.slice Ao25 t1107.length co25 : Value).ownBlock ∧ some k_ ≠ (.slice Ao63 t1120.length co63 : Value).ownBlock) (.slice Ao74 t1125.length co74) t1125) := ⟨by (with_reducible repeat (first | apply Kd.R_alloc | apply Kd.R_drewN | apply Kd.R_drew)); exact Kd.R_mono (Kd.R_far (p := ⟨gb1128, 1, none⟩) (Kd.R_far (p := ⟨gb1128, 0, none⟩) (Kd.R_types HO1127.out BK1128.out (by decide)) (fun _ hk => hk.2) (.int .i64 t1124)) (fun _ hk => hk.2) (.slice Ao74 t1125.length co74)) (fun _ hk => ⟨hk.1.1.1.1.1.2, ⟨hk.1.1.1.1.2, ⟨hk.1.1.1.2, ⟨hk.1.1.2, hk.1.2⟩⟩⟩⟩)⟩
             have n7_ : Aside0 (((w68.setCell ⟨gb1128, 0, none⟩ (.int .i64 t1124)).setCell ⟨gb1128, 1, none⟩ (.slice Ao74 t1125.length co74)).heap[gb1100]? = some (.cells #[.slice Ao10 t1090.length co10] 42 (0, 0))) := ⟨by refine bq ?_; refine blk_far ?_ NB1100_1128.out _; refine bq ?_; refine blk_far ?_ NB1100_1128.out _; refine bq ?_; exact BK1100.out⟩
             have n8_ : Aside0 (((w68.setCell ⟨gb1128, 0, none⟩ (.int .i64 t1124)).setCell ⟨gb1128, 1, none⟩ (.slice Ao74 t1125.length co74)).heap[gb1105]? = some (.cells #[.int .i64 t1101, .slice Ao18 t1102.length co18] 67 (0, 0))) := ⟨by refine bq ?_; refine blk_far ?_ NB1105_1128.out _; refine bq ?_; refine blk_far ?_ NB1105_1128.out _; refine bq ?_; exact BK1105.out⟩
             have n9_ : Aside0 (((w68.setCell ⟨gb1128, 0, none⟩ (.int .i64 t1124)).setCell ⟨gb1128, 1, none⟩ (.slice Ao74 t1125.length co74)).heap[gb1110]? = some (.cells #[.int .i64 t1106, .slice Ao25 t1107.length co25] 67 (0, 0))) := ⟨by refine bq ?_; refine blk_far ?_ NB1110_1128.out _; refine bq ?_; refine blk_far ?_ NB1110_1128.out _; refine bq ?_; exact BK1110.out⟩
             have n10_ : Aside0 (((w68.setCell ⟨gb1128, 0, none⟩ (.int .i64 t1124)).setCell ⟨gb1128, 1, none⟩ (.slice Ao74 t1125.length co74)).heap[gb1123]? = some (.cells #[.int .i64 t1119, .slice Ao63 t1120.length co63] 67 (0, 0))) := ⟨by refine bq ?_; refine blk_far ?_ NB1123_1128.out _; refine bq ?_; refine blk_far ?_ NB1123_1128.out _; refine bq ?_; exact BK1123.out⟩
             have n11_ : Aside0 (((w68.setCell ⟨gb1128, 0, none⟩ (.int .i64 t1124)).setCell ⟨gb1128, 1, none⟩ (.slice Ao74 t1125.length co74)).heap[gb1128]? = some (.cells #[.int .i64 t1124, .slice Ao74 t1125.length co74] 67 (0, 0))) := ⟨by refine bq ?_; refine blk_put (cs := #[.int .i64 t1124, .slice none 0 0]) ?_ 1 _ rfl; refine bq ?_; refine blk_put (cs := #[.int .i64 0, .slice none 0 0]) ?_ 0 _ rfl; refine bq ?_; exact BK1128.out⟩
             have n12_ : Aside0 (Below w.heap.size w ((w68.setCell ⟨gb1128, 0, none⟩ (.int .i64 t1124)).setCell ⟨gb1128, 1, none⟩ (.slice Ao74 t1125.length co74))) := ⟨by exact hs HB.out⟩
             (try clear HO_4)
             (try clear HO_6)
             (try clear HO_1101000)
             (try clear HO_1106001)
             (try clear HO_1111001)
             (try clear HO1122)
             (try clear HO1127)
             (try clear BK1100)
             (try clear BK1105)
             (try clear BK1110)
             (try clear BK1123)
             (try clear BK1128)
             (try clear HB)
             generalize ((w68.setCell ⟨gb1128, 0, none⟩ (.int .i64 t1124)).setCell ⟨gb1128, 1, none⟩ (.slice Ao74 t1125.length co74)) = w75 at n0_ n1_ n2_ n3_ n4_ n5_ n6_ n7_ n8_ n9_ n10_ n11_ n12_ ⊢
             have HO_4 := n0_
             have HO_6 := n1_
             have HO_1101000 := n2_
             have HO_1106001 := n3_
             have HO_1111001 := n4_
             have HO1122 := n5_
             have HO1127 := n6_
             have BK1100 := n7_
             have BK1105 := n8_
             have BK1110 := n9_
             have BK1123 := n10_
             have BK1128 := n11_
             have HB := n12_
             clear n0_ n1_ n2_ n3_ n4_ n5_ n6_ n7_ n8_ n9_ n10_ n11_ n12_
             have n0_ := am (Kd.R_drew HO_4.out)
             have n1_ := am (Kd.R_drew HO_6.out)
             have n2_ := am (Kd.R_drew HO_1101000.out)
             have n3_ := am (Kd.R_drew HO_1106001.out)
             have n4_ := am (Kd.R_drew HO_1111001.out)
             have n5_ := am (Kd.R_drew HO1122.out)
             have n6_ := am (Kd.R_drew HO1127.out)
             have n7_ := am (blk_drew BK1100.out)
             have n8_ := am (blk_drew BK1105.out)
             have n9_ := am (blk_drew BK1110.out)
             have n10_ := am (blk_drew BK1123.out)
             have n11_ := am (blk_drew BK1128.out)
             have n12_ := am (below_drew1 HB.out)
             clear HO_4
             clear HO_6
             clear HO_1101000
             clear HO_1106001
             clear HO_1111001
             clear HO1122
             clear HO1127
             clear BK1100
             clear BK1105
             clear BK1110
             clear BK1123
             clear BK1128
             clear HB
             have HO_4 := n0_
             have HO_6 := n1_
             have HO_1101000 := n2_
             have HO_1106001 := n3_
             have HO_1111001 := n4_
             have HO1122 := n5_
             have HO1127 := n6_
             have BK1100 := n7_
             have BK1105 := n8_
             have BK1110 := n9_
             have BK1123 := n10_
             have BK1128 := n11_
             have HB := n12_
             clear n0_ n1_ n2_ n3_ n4_ n5_ n6_ n7_ n8_ n9_ n10_ n11_ n12_
             refine start_ (n := 65) (S := fun w' => w'.cell? ⟨gb1123, 0, none⟩ = some (.int .i64 t1119) ∧ w'.cell? ⟨gb1123, 1, none⟩ = some (.slice Ao63 t1120.length co63) ∧ w'.cell? ⟨gb1128, 0, none⟩ = some (.int .i64 t1124) ∧ w'.cell? ⟨gb1128, 1, none⟩ = some (.slice Ao74 t1125.length co74) ∧ w'.cell? ⟨gb1100, 0, none⟩ = some (.slice Ao10 t1090.length co10) ∧ w'.cell? ⟨gb1105, 0, none⟩ = some (.int .i64 t1101) ∧ w'.cell? ⟨gb1105, 1, none⟩ = some (.slice Ao18 t1102.length co18) ∧ w'.cell? ⟨gb1110, 0, none⟩ = some (.int .i64 t1106) ∧ w'.cell? ⟨gb1110, 1, none⟩ = some (.slice Ao25 t1107.length co25)) (ds := []) #[false, false, false, false, false, false, false, false, false, false, false, false, false, false, false, false, false, false, false, false, false, false, false, false, false, false, false, false, false, false, false, false, false, false, false, false, false, false, false, false, false, false, false, false, false, false, false, false, false, false, false, false, false, false, false, false, false, false, false, false, false, false, false, false, false] (by kernel_rfl) rfl rfl ⟨(blk_cell BK1123.out 0).trans rfl, (blk_cell BK1123.out 1).trans rfl, (blk_cell BK1128.out 0).trans rfl, (blk_cell BK1128.out 1).trans rfl, (blk_cell BK1100.out 0).trans rfl, (blk_cell BK1105.out 0).trans rfl, (blk_cell BK1105.out 1).trans rfl, (blk_cell BK1110.out 0).trans rfl, (blk_cell BK1110.out 1).trans rfl⟩ (fun hHeld => ?_); refine with_tabW laws_FnReplaces.tab12 laws_FnReplaces.bits12 (fun HT_ HW_ => ?_)
             generalize w75.drew = w76 at HO_4 HO_6 HO_1101000 HO_1106001 HO_1111001 HO1122 HO1127 BK1100 BK1105 BK1110 BK1123 BK1128 HB hHeld ⊢
             refine pure_ (i := 0) (N := some 63) (v := ?_) (a' := ?_) #[true, false, false, false, false, false, false, false, false, false, false, false, false, false, false, false, false, false, false, false, false, false, false, false, false, false, false, false, false, false, false, false, false, false, false, false, false, false, false, false, false, false, false, false, false, false, false, false, false, false, false, false, false, false, false, false, false, false, false, false, false, false, false, false, false] rfl rfl (any_of HT_.out (by kernel_rfl)) (fun _ _ _ h => h) (Or.inl ⟨by rfl, ?_⟩) ?_ ?_
             rotate_left
             ·intro w'
              go_simp
              with_reducible rfl
             rotate_left
             ·simp only [Act.put, lsp, i64_w, i32_w]
              rfl
             refine take_ (i := 1) (N := some 64) (v := ?_) (a' := ?_) #[true, true, false, false, false, false, false, false, false, false, false, false, false, false, false, false, false, false, false, false, false, false, false, false, false, false, false, false, false, false, false, false, false, false, false, false, false, false, false, false, false, false, false, false, false, false, false, false, false, false, false, false, false, false, false, false, false, false, false, false, false, false, false, false, false] rfl rfl (take_ofW HT_.out HW_.out (by kernel_rfl)) (fun _ _ _ h => h) (Or.inl ⟨by rfl, ?_⟩) hHeld ?_ ?_
             rotate_left
             ·rintro w' ⟨s0, s1, s2, s3, s4, s5, s6, s7, s8⟩
              go_simp
              with_reducible rfl
             rotate_left
             ·simp only [Act.put, lsp, i64_w, i32_w]
              rfl
             refine pure_ (i := 2) (N := some 65) (v := ?_) (a' := ?_) #[true, true, true, false, false, false, false, false, false, false, false, false, false, false, false, false, false, false, false, false, false, false, false, false, false, false, false, false, false, false, false, false, false, false, false, false, false, false, false, false, false, false, false, false, false, false, false, false, false, false, false, false, false, false, false, false, false, false, false, false, false, false, false, false, false] rfl rfl (any_of HT_.out (by kernel_rfl)) (fun _ _ _ h => h) (Or.inl ⟨by rfl, ?_⟩) ?_ ?_
             rotate_left
             ·intro w'
              go_simp
              with_reducible rfl
             rotate_left
             ·simp only [Act.put, lsp, i64_w, i32_w]
              rfl
             refine pure_ (i := 3) (N := some 66) (v := ?_) (a' := ?_) #[true, true, true, true, false, false, false, false, false, false, false, false, false, false, false, false, false, false, false, false, false, false, false, false, false, false, false, false, false, false, false, false, false, false, false, false, false, false, false, false, false, false, false, false, false, false, false, false, false, false, false, false, false, false, false, false, false, false, false, false, false, false, false, false, false] rfl rfl (any_of HT_.out (by kernel_rfl)) (fun _ _ _ h => h) (Or.inl ⟨by rfl, ?_⟩) ?_ ?_
             rotate_left
             ·intro w'
              go_simp
              with_reducible rfl
             rotate_left
             ·simp only [Act.put, lsp, i64_w, i32_w]
              rfl
             refine pure_ (i := 4) (N := some 67) (v := ?_) (a' := ?_) #[true, true, true, true, true, false, false, false, false, false, false, false, false, false, false, false, false, false, false, false, false, false, false, false, false, false, false, false, false, false, false, false, false, false, false, false, false, false, false, false, false, false, false, false, false, false, false, false, false, false, false, false, false, false, false, false, false, false, false, false, false, false, false, false, false] rfl rfl (any_of HT_.out (by kernel_rfl)) (fun _ _ _ h => h) (Or.inl ⟨by rfl, ?_⟩) ?_ ?_
             rotate_left
             ·intro w'
              go_simp
              with_reducible rfl
             rotate_left
             ·simp only [Act.put, lsp, i64_w, i32_w]
              rfl
             refine pure_ (i := 6) (N := some 69) (v := ?_) (a' := ?_) #[true, true, true, true, true, false, true, false, false, false, false, false, false, false, false, false, false, false, false, false, false, false, false, false, false, false, false, false, false, false, false, false, false, false, false, false, false, false, false, false, false, false, false, false, false, false, false, false, false, false, false, false, false, false, false, false, false, false, false, false, false, false, false, false, false] rfl rfl (any_of HT_.out (by kernel_rfl)) (fun _ _ _ h => h) (Or.inl ⟨by rfl, ?_⟩) ?_ ?_
             rotate_left
             ·intro w'
              go_simp
              with_reducible rfl
             rotate_left
             ·simp only [Act.put, lsp, i64_w, i32_w]
              rfl
             refine take_ (i := 5) (N := some 68) (v := ?_) (a' := ?_) #[true, true, true, true, true, true, true, false, false, false, false, false, false, false, false, false, false, false, false, false, false, false, false, false, false, false, false, false, false, false, false, false, false, false, false, false, false, false, false, false, false, false, false, false, false, false, false, false, false, false, false, false, false, false, false, false, false, false, false, false, false, false, false, false, false] rfl rfl (take_ofW HT_.out HW_.out (by kernel_rfl)) (fun _ _ _ h => h) (Or.inl ⟨by rfl, ?_⟩) hHeld ?_ ?_
             rotate_left
             ·rintro w' ⟨s0, s1, s2, s3, s4, s5, s6, s7, s8⟩
              go_simp
              with_reducible rfl
             rotate_left
             ·simp only [Act.put, lsp, i64_w, i32_w]
              rfl
             refine one_ (i := 7) (N := some 70) #[true, true, true, true, true, true, true, true, false, false, false, false, false, false, false, false, false, false, false, false, false, false, false, false, false, false, false, false, false, false, false, false, false, false, false, false, false, false, false, false, false, false, false, false, false, false, false, false, false, false, false, false, false, false, false, false, false, false, false, false, false, false, false, false, false] rfl rfl (one_of HT_.out (by kernel_rfl)) (by decide) (fun K hK => ?_)
             refine goes_ Tryd.func56 (by kernel_rfl) rfl #[.slice Ao63 t1120.length co63, .slice Ao13 t1097.length co13] (by rfl) rfl rfl el ?_
             with_reducible refine (laws_lwNums.calls kj6 _ _ t1120 _ _ t1097 true _ ?side1 ?side2 ?side3 ?side4 A41.out).mono ?_
             (case side1 => repeat (first | exact (Kd.R_reads' HO1122.out).2.2 | (with_reducible refine Kd.C_alloc ?_ _) | (with_reducible refine Kd.C_drewN ?_ _) | (with_reducible refine Kd.C_drew ?_)))
             (case side2 => exact (Kd.R_reads' HO1122.out).2.1)
             (case side3 => repeat (first | exact (Kd.R_reads' HO_6.out).2.2 | (with_reducible refine Kd.C_alloc ?_ _) | (with_reducible refine Kd.C_drewN ?_ _) | (with_reducible refine Kd.C_drew ?_)))
             (case side4 => exact (Kd.R_reads' HO_6.out).2.1)
             rintro e w' ⟨rfl, ⟨nd, rfl⟩⟩
             refine ⟨_, rfl, ?_⟩
             refine hK.out _ _ ⟨(blk_cell BK1123.out 0).trans rfl, (blk_cell BK1123.out 1).trans rfl, (blk_cell BK1128.out 0).trans rfl, (blk_cell BK1128.out 1).trans rfl, (blk_cell BK1100.out 0).trans rfl, (blk_cell BK1105.out 0).trans rfl, (blk_cell BK1105.out 1).trans rfl, (blk_cell BK1110.out 0).trans rfl, (blk_cell BK1110.out 1).trans rfl⟩ (fun hHeld => ?_)
             clear hK K
             refine norm_ (a' := ?_) ?_ ?_
             rotate_left
             ·show Act.put _ (some 70) _ = _
              simp only [Act.put, lsp, i64_w, i32_w]
              rfl
             refine pure_ (i := 8) (N := some 71) (v := ?_) (a' := ?_) #[true, true, true, true, true, true, true, true, true, false, false, false, false, false, false, false, false, false, false, false, false, false, false, false, false, false, false, false, false, false, false, false, false, false, false, false, false, false, false, false, false, false, false, false, false, false, false, false, false, false, false, false, false, false, false, false, false, false, false, false, false, false, false, false, false] rfl rfl (any_of HT_.out (by kernel_rfl)) (fun _ _ _ h => h) (Or.inl ⟨by rfl, ?_⟩) ?_ ?_
             rotate_left
             ·intro w'
              go_simp
              with_reducible rfl
             rotate_left
             ·simp only [Act.put, lsp, i64_w, i32_w]
              rfl
             refine pure_ (i := 9) (N := some 72) (v := ?_) (a' := ?_) #[true, true, true, true, true, true, true, true, true, true, false, false, false, false, false, false, false, false, false, false, false, false, false, false, false, false, false, false, false, false, false, false, false, false, false, false, false, false, false, false, false, false, false, false, false, false, false, false, false, false, false, false, false, false, false, false, false, false, false, false, false, false, false, false, false] rfl rfl (any_of HT_.out (by kernel_rfl)) (fun _ _ _ h => h) (Or.inl ⟨by rfl, ?_⟩) ?_ ?_
             rotate_left
             ·intro w'
              go_simp
              with_reducible rfl
             rotate_left
             ·simp only [Act.put, lsp, i64_w, i32_w]
              rfl
             refine pure_ (i := 10) (N := some 73) (v := ?_) (a' := ?_) #[true, true, true, true, true, true, true, true, true, true, true, false, false, false, false, false, false, false, false, false, false, false, false, false, false, false, false, false, false, false, false, false, false, false, false, false, false, false, false, false, false, false, false, false, false, false, false, false, false, false, false, false, false, false, false, false, false, false, false, false, false, false, false, false, false] rfl rfl (any_of HT_.out (by kernel_rfl)) (fun _ _ _ h => h) (Or.inl ⟨by rfl, ?_⟩) ?_ ?_
             rotate_left
             ·intro w'
              go_simp
              with_reducible rfl
             rotate_left
             ·simp only [Act.put, lsp, i64_w, i32_w]
              rfl
             refine take_ (i := 11) (N := some 74) (v := ?_) (a' := ?_) #[true, true, true, true, true, true, true, true, true, true, true, true, false, false, false, false, false, false, false, false, false, false, false, false, false, false, false, false, false, false, false, false, false, false, false, false, false, false, false, false, false, false, false, false, false, false, false, false, false, false, false, false, false, false, false, false, false, false, false, false, false, false, false, false, false] rfl rfl (take_ofW HT_.out HW_.out (by kernel_rfl)) (fun _ _ _ h => h) (Or.inl ⟨by rfl, ?_⟩) hHeld ?_ ?_
             rotate_left
             ·rintro w' ⟨s0, s1, s2, s3, s4, s5, s6, s7, s8⟩
              go_simp
              with_reducible rfl
             rotate_left
             ·simp only [Act.put, lsp, i64_w, i32_w]
              rfl
             refine pure_ (i := 12) (N := some 75) (v := ?_) (a' := ?_) #[true, true, true, true, true, true, true, true, true, true, true, true, true, false, false, false, false, false, false, false, false, false, false, false, false, false, false, false, false, false, false, false, false, false, false, false, false, false, false, false, false, false, false, false, false, false, false, false, false, false, false, false, false, false, false, false, false, false, false, false, false, false, false, false, false] rfl rfl (any_of HT_.out (by kernel_rfl)) (fun _ _ _ h => h) (Or.inl ⟨by rfl, ?_⟩) ?_ ?_
             rotate_left
             ·intro w'
              go_simp
              with_reducible rfl
             rotate_left
             ·simp only [Act.put, lsp, i64_w, i32_w]
              rfl
             refine pure_ (i := 13) (N := some 76) (v := ?_) (a' := ?_) #[true, true, true, true, true, true, true, true, true, true, true, true, true, true, false, false, false, false, false, false, false, false, false, false, false, false, false, false, false, false, false, false, false, false, false, false, false, false, false, false, false, false, false, false, false, false, false, false, false, false, false, false, false, false, false, false, false, false, false, false, false, false, false, false, false] rfl rfl (any_of HT_.out (by kernel_rfl)) (fun _ _ _ h => h) (Or.inl ⟨by rfl, ?_⟩) ?_ ?_
             rotate_left
             ·intro w'
              go_simp
              with_reducible rfl
             rotate_left
             ·simp only [Act.put, lsp, i64_w, i32_w]
              rfl
             refine pure_ (i := 14) (N := some 77) (v := ?_) (a' := ?_) #[true, true, true, true, true, true, true, true, true, true, true, true, true, true, true, false, false, false, false, false, false, false, false, false, false, false, false, false, false, false, false, false, false, false, false, false, false, false, false, false, false, false, false, false, false, false, false, false, false, false, false, false, false, false, false, false, false, false, false, false, false, false, false, false, false] rfl rfl (any_of HT_.out (by kernel_rfl)) (fun _ _ _ h => h) (Or.inl ⟨by rfl, ?_⟩) ?_ ?_
             rotate_left
             ·intro w'
              go_simp
              with_reducible rfl
             rotate_left
             ·simp only [Act.put, lsp, i64_w, i32_w]
              rfl
             refine pure_ (i := 15) (N := some 78) (v := ?_) (a' := ?_) #[true, true, true, true, true, true, true, true, true, true, true, true, true, true, true, true, false, false, false, false, false, false, false, false, false, false, false, false, false, false, false, false, false, false, false, false, false, false, false, false, false, false, false, false, false, false, false, false, false, false, false, false, false, false, false, false, false, false, false, false, false, false, false, false, false] rfl rfl (any_of HT_.out (by kernel_rfl)) (fun _ _ _ h => h) (Or.inl ⟨by rfl, ?_⟩) ?_ ?_
             rotate_left
             ·intro w'
              go_simp
              with_reducible rfl
             rotate_left
             ·simp only [Act.put, lsp, i64_w, i32_w]
              rfl
             refine pure_ (i := 17) (N := some 80) (v := ?_) (a' := ?_) #[true, true, true, true, true, true, true, true, true, true, true, true, true, true, true, true, false, true, false, false, false, false, false, false, false, false, false, false, false, false, false, false, false, false, false, false, false, false, false, false, false, false, false, false, false, false, false, false, false, false, false, false, false, false, false, false, false, false, false, false, false, false, false, false, false] rfl rfl (any_of HT_.out (by kernel_rfl)) (fun _ _ _ h => h) (Or.inl ⟨by rfl, ?_⟩) ?_ ?_
             rotate_left
             ·intro w'
              go_simp
              with_reducible rfl
             rotate_left
             ·simp only [Act.put, lsp, i64_w, i32_w]
              rfl
             refine take_ (i := 16) (N := some 79) (v := ?_) (a' := ?_) #[true, true, true, true, true, true, true, true, true, true, true, true, true, true, true, true, true, true, false, false, false, false, false, false, false, false, false, false, false, false, false, false, false, false, false, false, false, false, false, false, false, false, false, false, false, false, false, false, false, false, false, false, false, false, false, false, false, false, false, false, false, false, false, false, false] rfl rfl (take_ofW HT_.out HW_.out (by kernel_rfl)) (fun _ _ _ h => h) (Or.inl ⟨by rfl, ?_⟩) hHeld ?_ ?_
             rotate_left
             ·rintro w' ⟨s0, s1, s2, s3, s4, s5, s6, s7, s8⟩
              go_simp
              with_reducible rfl
             rotate_left
             ·simp only [Act.put, lsp, i64_w, i32_w]
              rfl
             refine one_ (i := 18) (N := some 81) #[true, true, true, true, true, true, true, true, true, true, true, true, true, true, true, true, true, true, true, false, false, false, false, false, false, false, false, false, false, false, false, false, false, false, false, false, false, false, false, false, false, false, false, false, false, false, false, false, false, false, false, false, false, false, false, false, false, false, false, false, false, false, false, false, false] rfl rfl (one_of HT_.out (by kernel_rfl)) (by decide) (fun K hK => ?_)
             refine goes_ Tryd.func56 (by kernel_rfl) rfl #[.slice Ao74 t1125.length co74, .slice Ao12 t1093.length co12] (by rfl) rfl rfl el ?_
             with_reducible refine (laws_lwNums.calls kj6 _ _ t1125 _ _ t1093 true _ ?side1 ?side2 ?side3 ?side4 A44.out).mono ?_
             (case side1 => repeat (first | exact (Kd.R_reads' HO1127.out).2.2 | (with_reducible refine Kd.C_alloc ?_ _) | (with_reducible refine Kd.C_drewN ?_ _) | (with_reducible refine Kd.C_drew ?_)))
             (case side2 => exact (Kd.R_reads' HO1127.out).2.1)
             (case side3 => repeat (first | exact (Kd.R_reads' HO_4.out).2.2 | (with_reducible refine Kd.C_alloc ?_ _) | (with_reducible refine Kd.C_drewN ?_ _) | (with_reducible refine Kd.C_drew ?_)))
             (case side4 => exact (Kd.R_reads' HO_4.out).2.1)
             rintro e w' ⟨rfl, ⟨nd, rfl⟩⟩
             refine ⟨_, rfl, ?_⟩
             refine hK.out _ _ ⟨(blk_cell BK1123.out 0).trans rfl, (blk_cell BK1123.out 1).trans rfl, (blk_cell BK1128.out 0).trans rfl, (blk_cell BK1128.out 1).trans rfl, (blk_cell BK1100.out 0).trans rfl, (blk_cell BK1105.out 0).trans rfl, (blk_cell BK1105.out 1).trans rfl, (blk_cell BK1110.out 0).trans rfl, (blk_cell BK1110.out 1).trans rfl⟩ (fun hHeld => ?_)
             clear hK K
             refine norm_ (a' := ?_) ?_ ?_
             rotate_left
             ·show Act.put _ (some 81) _ = _
              simp only [Act.put, lsp, i64_w, i32_w]
              rfl
             refine pure_ (i := 19) (N := some 82) (v := ?_) (a' := ?_) #[true, true, true, true, true, true, true, true, true, true, true, true, true, true, true, true, true, true, true, true, false, false, false, false, false, false, false, false, false, false, false, false, false, false, false, false, false, false, false, false, false, false, false, false, false, false, false, false, false, false, false, false, false, false, false, false, false, false, false, false, false, false, false, false, false] rfl rfl (any_of HT_.out (by kernel_rfl)) (fun _ _ _ h => h) (Or.inl ⟨by rfl, ?_⟩) ?_ ?_
             rotate_left
             ·intro w'
              go_simp
              with_reducible rfl
             rotate_left
             ·simp only [Act.put, lsp, i64_w, i32_w]
              rfl
             refine pure_ (i := 20) (N := some 83) (v := ?_) (a' := ?_) #[true, true, true, true, true, true, true, true, true, true, true, true, true, true, true, true, true, true, true, true, true, false, false, false, false, false, false, false, false, false, false, false, false, false, false, false, false, false, false, false, false, false, false, false, false, false, false, false, false, false, false, false, false, false, false, false, false, false, false, false, false, false, false, false, false] rfl rfl (any_of HT_.out (by kernel_rfl)) (fun _ _ _ h => h) (Or.inl ⟨by rfl, ?_⟩) ?_ ?_
             rotate_left
             ·intro w'
              go_simp
              with_reducible rfl
             rotate_left
             ·simp only [Act.put, lsp, i64_w, i32_w]
              rfl
             refine pure_ (i := 22) (N := some 85) (v := ?_) (a' := ?_) #[true, true, true, true, true, true, true, true, true, true, true, true, true, true, true, true, true, true, true, true, true, false, true, false, false, false, false, false, false, false, false, false, false, false, false, false, false, false, false, false, false, false, false, false, false, false, false, false, false, false, false, false, false, false, false, false, false, false, false, false, false, false, false, false, false] rfl rfl (any_of HT_.out (by kernel_rfl)) (fun _ _ _ h => h) (Or.inl ⟨by rfl, ?_⟩) ?_ ?_
             rotate_left
             ·intro w'
              go_simp
              with_reducible rfl
             rotate_left
             ·simp only [Act.put, lsp, i64_w, i32_w]
              rfl
             refine pure_ (i := 24) (N := some 87) (v := ?_) (a' := ?_) #[true, true, true, true, true, true, true, true, true, true, true, true, true, true, true, true, true, true, true, true, true, false, true, false, true, false, false, false, false, false, false, false, false, false, false, false, false, false, false, false, false, false, false, false, false, false, false, false, false, false, false, false, false, false, false, false, false, false, false, false, false, false, false, false, false] rfl rfl (any_of HT_.out (by kernel_rfl)) (fun _ _ _ h => h) (Or.inl ⟨by rfl, ?_⟩) ?_ ?_
             rotate_left
             ·intro w'
              go_simp
              with_reducible rfl
             rotate_left
             ·simp only [Act.put, lsp, i64_w, i32_w]
              rfl
             refine pure_ (i := 27) (N := some 90) (v := ?_) (a' := ?_) #[true, true, true, true, true, true, true, true, true, true, true, true, true, true, true, true, true, true, true, true, true, false, true, false, true, false, false, true, false, false, false, false, false, false, false, false, false, false, false, false, false, false, false, false, false, false, false, false, false, false, false, false, false, false, false, false, false, false, false, false, false, false, false, false, false] rfl rfl (any_of HT_.out (by kernel_rfl)) (fun _ _ _ h => h) (Or.inl ⟨by rfl, ?_⟩) ?_ ?_
             rotate_left
             ·intro w'
              go_simp
              with_reducible rfl
             rotate_left
             ·simp only [Act.put, lsp, i64_w, i32_w]
              rfl
             refine pure_ (i := 28) (N := some 91) (v := ?_) (a' := ?_) #[true, true, true, true, true, true, true, true, true, true, true, true, true, true, true, true, true, true, true, true, true, false, true, false, true, false, false, true, true, false, false, false, false, false, false, false, false, false, false, false, false, false, false, false, false, false, false, false, false, false, false, false, false, false, false, false, false, false, false, false, false, false, false, false, false] rfl rfl (any_of HT_.out (by kernel_rfl)) (fun _ _ _ h => h) (Or.inl ⟨by rfl, ?_⟩) ?_ ?_
             rotate_left
             ·intro w'
              go_simp
              with_reducible rfl
             rotate_left
             ·simp only [Act.put, lsp, i64_w, i32_w]
              rfl
             refine take_ (i := 21) (N := some 84) (v := ?_) (a' := ?_) #[true, true, true, true, true, true, true, true, true, true, true, true, true, true, true, true, true, true, true, true, true, true, true, false, true, false, false, true, true, false, false, false, false, false, false, false, false, false, false, false, false, false, false, false, false, false, false, false, false, false, false, false, false, false, false, false, false, false, false, false, false, false, false, false, false] rfl rfl (take_ofW HT_.out HW_.out (by kernel_rfl)) (fun _ _ _ h => h) (Or.inl ⟨by rfl, ?_⟩) hHeld ?_ ?_
             rotate_left
             ·rintro w' ⟨s0, s1, s2, s3, s4, s5, s6, s7, s8⟩
              go_simp
              with_reducible rfl
             rotate_left
             ·simp only [Act.put, lsp, i64_w, i32_w]
              rfl
             refine take_ (i := 23) (N := some 86) (v := ?_) (a' := ?_) #[true, true, true, true, true, true, true, true, true, true, true, true, true, true, true, true, true, true, true, true, true, true, true, true, true, false, false, true, true, false, false, false, false, false, false, false, false, false, false, false, false, false, false, false, false, false, false, false, false, false, false, false, false, false, false, false, false, false, false, false, false, false, false, false, false] rfl rfl (take_ofW HT_.out HW_.out (by kernel_rfl)) (fun _ _ _ h => h) (Or.inl ⟨by rfl, ?_⟩) hHeld ?_ ?_
             rotate_left
             ·rintro w' ⟨s0, s1, s2, s3, s4, s5, s6, s7, s8⟩
              go_simp
              with_reducible rfl
             rotate_left
             ·simp only [Act.put, lsp, i64_w, i32_w]
              rfl
             refine one_ (i := 25) (N := some 88) #[true, true, true, true, true, true, true, true, true, true, true, true, true, true, true, true, true, true, true, true, true, true, true, true, true, true, false, true, true, false, false, false, false, false, false, false, false, false, false, false, false, false, false, false, false, false, false, false, false, false, false, false, false, false, false, false, false, false, false, false, false, false, false, false, false] rfl rfl (one_of HT_.out (by kernel_rfl)) (by decide) (fun K hK => ?_)
             refine goes_ Tryd.func57 (by kernel_rfl) rfl #[.agg #[.slice Ao10 t1090.length co10], .slice Ao18 t1102.length co18, .int .i64 t1096] (by rfl) rfl rfl el ?_
             with_reducible refine (impl_SizeAt.calls kj6 _ _ t1090 _ _ t1102 t1096 t1131 t1132 _ ?side1 ?side2 ?side3 ?side4 A46.out).mono ?_
             (case side1 => repeat (first | exact (Kd.R_reads' HO_1101000.out).2.2 | (with_reducible refine Kd.C_alloc ?_ _) | (with_reducible refine Kd.C_drewN ?_ _) | (with_reducible refine Kd.C_drew ?_)))
             (case side2 => exact (Kd.R_reads' HO_1101000.out).2.1)
             (case side3 => repeat (first | exact (Kd.R_reads' HO_1106001.out).2.2 | (with_reducible refine Kd.C_alloc ?_ _) | (with_reducible refine Kd.C_drewN ?_ _) | (with_reducible refine Kd.C_drew ?_)))
             (case side4 => exact (Kd.R_reads' HO_1106001.out).2.1)
             rintro e w77 ⟨rfl, hb⟩
             refine ⟨_, rfl, ?_⟩
             have n0_ := am (Kd.R_below (rq HO_4.out) hb)
             have n1_ := am (Kd.R_below (rq HO_6.out) hb)
             have n2_ := am (Kd.R_below (rq HO_1101000.out) hb)
             have n3_ := am (Kd.R_below (rq HO_1106001.out) hb)
             have n4_ := am (Kd.R_below (rq HO_1111001.out) hb)
             have n5_ := am (Kd.R_below (rq HO1122.out) hb)
             have n6_ := am (Kd.R_below (rq HO1127.out) hb)
             have n7_ := am (blk_below (bq BK1100.out) hb)
             have n8_ := am (blk_below (bq BK1105.out) hb)
             have n9_ := am (blk_below (bq BK1110.out) hb)
             have n10_ := am (blk_below (bq BK1123.out) hb)
             have n11_ := am (blk_below (bq BK1128.out) hb)
             have n12_ := am (below_step (hs HB.out) hb)
             clear HO_4
             clear HO_6
             clear HO_1101000
             clear HO_1106001
             clear HO_1111001
             clear HO1122
             clear HO1127
             clear BK1100
             clear BK1105
             clear BK1110
             clear BK1123
             clear BK1128
             clear HB
             have HO_4 := n0_
             have HO_6 := n1_
             have HO_1101000 := n2_
             have HO_1106001 := n3_
             have HO_1111001 := n4_
             have HO1122 := n5_
             have HO1127 := n6_
             have BK1100 := n7_
             have BK1105 := n8_
             have BK1110 := n9_
             have BK1123 := n10_
             have BK1128 := n11_
             have HB := n12_
             clear n0_ n1_ n2_ n3_ n4_ n5_ n6_ n7_ n8_ n9_ n10_ n11_ n12_
             (try clear hb)
             (try clear hb2)
             (try clear hgw)
             (try clear hk)
             (try clear hi)
             refine hK.out _ _ ⟨(blk_cell BK1123.out 0).trans rfl, (blk_cell BK1123.out 1).trans rfl, (blk_cell BK1128.out 0).trans rfl, (blk_cell BK1128.out 1).trans rfl, (blk_cell BK1100.out 0).trans rfl, (blk_cell BK1105.out 0).trans rfl, (blk_cell BK1105.out 1).trans rfl, (blk_cell BK1110.out 0).trans rfl, (blk_cell BK1110.out 1).trans rfl⟩ (fun hHeld => ?_)
             clear hK K
             refine norm_ (a' := ?_) ?_ ?_
             rotate_left
             ·show Act.put _ (some 88) _ = _
              simp only [Act.put, lsp, i64_w, i32_w]
              rfl
             refine pure_ (i := 26) (N := some 89) (v := ?_) (a' := ?_) #[true, true, true, true, true, true, true, true, true, true, true, true, true, true, true, true, true, true, true, true, true, true, true, true, true, true, true, true, true, false, false, false, false, false, false, false, false, false, false, false, false, false, false, false, false, false, false, false, false, false, false, false, false, false, false, false, false, false, false, false, false, false, false, false, false] rfl rfl (any_of HT_.out (by kernel_rfl)) (fun _ _ _ h => h) (Or.inl ⟨by rfl, ?_⟩) ?_ ?_
             rotate_left
             ·intro w'
              go_simp
              with_reducible rfl
             rotate_left
             ·simp only [Act.put, lsp, i64_w, i32_w]
              rfl
             refine pure_ (i := 29) (N := some 92) (v := ?_) (a' := ?_) #[true, true, true, true, true, true, true, true, true, true, true, true, true, true, true, true, true, true, true, true, true, true, true, true, true, true, true, true, true, true, false, false, false, false, false, false, false, false, false, false, false, false, false, false, false, false, false, false, false, false, false, false, false, false, false, false, false, false, false, false, false, false, false, false, false] rfl rfl (any_of HT_.out (by kernel_rfl)) (fun _ _ _ h => h) (Or.inl ⟨by rfl, ?_⟩) ?_ ?_
             rotate_left
             ·intro w'
              go_simp
              with_reducible rfl
             rotate_left
             ·simp only [Act.put, lsp, i64_w, i32_w]
              rfl
             refine pure_ (i := 30) (N := some 93) (v := ?_) (a' := ?_) #[true, true, true, true, true, true, true, true, true, true, true, true, true, true, true, true, true, true, true, true, true, true, true, true, true, true, true, true, true, true, true, false, false, false, false, false, false, false, false, false, false, false, false, false, false, false, false, false, false, false, false, false, false, false, false, false, false, false, false, false, false, false, false, false, false] rfl rfl (any_of HT_.out (by kernel_rfl)) (fun _ _ _ h => h) (Or.inl ⟨by rfl, ?_⟩) ?_ ?_
             rotate_left
             ·intro w'
              go_simp
              with_reducible rfl
             rotate_left
             ·simp only [Act.put, lsp, i64_w, i32_w]
              rfl
             refine pure_ (i := 31) (N := some 94) (v := ?_) (a' := ?_) #[true, true, true, true, true, true, true, true, true, true, true, true, true, true, true, true, true, true, true, true, true, true, true, true, true, true, true, true, true, true, true, true, false, false, false, false, false, false, false, false, false, false, false, false, false, false, false, false, false, false, false, false, false, false, false, false, false, false, false, false, false, false, false, false, false] rfl rfl (any_of HT_.out (by kernel_rfl)) (fun _ _ _ h => h) (Or.inl ⟨by rfl, ?_⟩) ?_ ?_
             rotate_left
             ·intro w'
              go_simp
              with_reducible rfl
             rotate_left
             ·simp only [Act.put, lsp, i64_w, i32_w]
              rfl
             refine pure_ (i := 33) (N := some 96) (v := ?_) (a' := ?_) #[true, true, true, true, true, true, true, true, true, true, true, true, true, true, true, true, true, true, true, true, true, true, true, true, true, true, true, true, true, true, true, true, false, true, false, false, false, false, false, false, false, false, false, false, false, false, false, false, false, false, false, false, false, false, false, false, false, false, false, false, false, false, false, false, false] rfl rfl (any_of HT_.out (by kernel_rfl)) (fun _ _ _ h => h) (Or.inl ⟨by rfl, ?_⟩) ?_ ?_
             rotate_left
             ·intro w'
              go_simp
              with_reducible rfl
             rotate_left
             ·simp only [Act.put, lsp, i64_w, i32_w]
              rfl
             refine pure_ (i := 34) (N := some 97) (v := ?_) (a' := ?_) #[true, true, true, true, true, true, true, true, true, true, true, true, true, true, true, true, true, true, true, true, true, true, true, true, true, true, true, true, true, true, true, true, false, true, true, false, false, false, false, false, false, false, false, false, false, false, false, false, false, false, false, false, false, false, false, false, false, false, false, false, false, false, false, false, false] rfl rfl (any_of HT_.out (by kernel_rfl)) (fun _ _ _ h => h) (Or.inl ⟨by rfl, ?_⟩) ?_ ?_
             rotate_left
             ·intro w'
              go_simp
              with_reducible rfl
             rotate_left
             ·simp only [Act.put, lsp, i64_w, i32_w]
              rfl
             refine pure_ (i := 37) (N := some 100) (v := ?_) (a' := ?_) #[true, true, true, true, true, true, true, true, true, true, true, true, true, true, true, true, true, true, true, true, true, true, true, true, true, true, true, true, true, true, true, true, false, true, true, false, false, true, false, false, false, false, false, false, false, false, false, false, false, false, false, false, false, false, false, false, false, false, false, false, false, false, false, false, false] rfl rfl (any_of HT_.out (by kernel_rfl)) (fun _ _ _ h => h) (Or.inl ⟨by rfl, ?_⟩) ?_ ?_
             rotate_left
             ·intro w'
              go_simp
              with_reducible rfl
             rotate_left
             ·simp only [Act.put, lsp, i64_w, i32_w]
              rfl
             refine take_ (i := 32) (N := some 95) (v := ?_) (a' := ?_) #[true, true, true, true, true, true, true, true, true, true, true, true, true, true, true, true, true, true, true, true, true, true, true, true, true, true, true, true, true, true, true, true, true, true, true, false, false, true, false, false, false, false, false, false, false, false, false, false, false, false, false, false, false, false, false, false, false, false, false, false, false, false, false, false, false] rfl rfl (take_ofW HT_.out HW_.out (by kernel_rfl)) (fun _ _ _ h => h) (Or.inl ⟨by rfl, ?_⟩) hHeld ?_ ?_
             rotate_left
             ·rintro w' ⟨s0, s1, s2, s3, s4, s5, s6, s7, s8⟩
              go_simp
              with_reducible rfl
             rotate_left
             ·simp only [Act.put, lsp, i64_w, i32_w]
              rfl
             refine take_ (i := 38) (N := some 101) (v := ?_) (a' := ?_) #[true, true, true, true, true, true, true, true, true, true, true, true, true, true, true, true, true, true, true, true, true, true, true, true, true, true, true, true, true, true, true, true, true, true, true, false, false, true, true, false, false, false, false, false, false, false, false, false, false, false, false, false, false, false, false, false, false, false, false, false, false, false, false, false, false] rfl rfl (take_ofW HT_.out HW_.out (by kernel_rfl)) (fun _ _ _ h => h) (Or.inl ⟨by rfl, ?_⟩) hHeld ?_ ?_
             rotate_left
             ·rintro w' ⟨s0, s1, s2, s3, s4, s5, s6, s7, s8⟩
              go_simp
              with_reducible rfl
             rotate_left
             ·simp only [Act.put, lsp, i64_w, i32_w]
              rfl
             refine pure_ (i := 39) (N := some 102) (v := ?_) (a' := ?_) #[true, true, true, true, true, true, true, true, true, true, true, true, true, true, true, true, true, true, true, true, true, true, true, true, true, true, true, true, true, true, true, true, true, true, true, false, false, true, true, true, false, false, false, false, false, false, false, false, false, false, false, false, false, false, false, false, false, false, false, false, false, false, false, false, false] rfl rfl (any_of HT_.out (by kernel_rfl)) (fun _ _ _ h => h) (Or.inl ⟨by rfl, ?_⟩) ?_ ?_
             rotate_left
             ·intro w'
              go_simp
              with_reducible rfl
             rotate_left
             ·simp only [Act.put, lsp, i64_w, i32_w]
              rfl
             refine one_ (i := 35) (N := some 98) #[true, true, true, true, true, true, true, true, true, true, true, true, true, true, true, true, true, true, true, true, true, true, true, true, true, true, true, true, true, true, true, true, true, true, true, true, false, true, true, true, false, false, false, false, false, false, false, false, false, false, false, false, false, false, false, false, false, false, false, false, false, false, false, false, false] rfl rfl (one_of HT_.out (by kernel_rfl)) (by decide) (fun K hK => ?_)
             refine goes_ Tryd.func57 (by kernel_rfl) rfl #[.agg #[.slice Ao10 t1090.length co10], .slice Ao12 t1093.length co12, .int .i64 t1096] (by rfl) rfl rfl el ?_
             with_reducible refine (impl_SizeAt.calls kj6 _ _ t1090 _ _ t1093 t1096 t1133 t1134 _ ?side1 ?side2 ?side3 ?side4 A48.out).mono ?_
             (case side1 => repeat (first | exact (Kd.R_reads' HO_1101000.out).2.2 | (with_reducible refine Kd.C_alloc ?_ _) | (with_reducible refine Kd.C_drewN ?_ _) | (with_reducible refine Kd.C_drew ?_)))
             (case side2 => exact (Kd.R_reads' HO_1101000.out).2.1)
             (case side3 => repeat (first | exact (Kd.R_reads' HO_4.out).2.2 | (with_reducible refine Kd.C_alloc ?_ _) | (with_reducible refine Kd.C_drewN ?_ _) | (with_reducible refine Kd.C_drew ?_)))
             (case side4 => exact (Kd.R_reads' HO_4.out).2.1)
             rintro e w78 ⟨rfl, hb⟩
             refine ⟨_, rfl, ?_⟩
             have n0_ := am (Kd.R_below (rq HO_4.out) hb)
             have n1_ := am (Kd.R_below (rq HO_6.out) hb)
             have n2_ := am (Kd.R_below (rq HO_1101000.out) hb)
             have n3_ := am (Kd.R_below (rq HO_1106001.out) hb)
             have n4_ := am (Kd.R_below (rq HO_1111001.out) hb)
             have n5_ := am (Kd.R_below (rq HO1122.out) hb)
             have n6_ := am (Kd.R_below (rq HO1127.out) hb)
             have n7_ := am (blk_below (bq BK1100.out) hb)
             have n8_ := am (blk_below (bq BK1105.out) hb)
             have n9_ := am (blk_below (bq BK1110.out) hb)
             have n10_ := am (blk_below (bq BK1123.out) hb)
             have n11_ := am (blk_below (bq BK1128.out) hb)
             have n12_ := am (below_step (hs HB.out) hb)
             clear HO_4
             clear HO_6
             clear HO_1101000
             clear HO_1106001
             clear HO_1111001
             clear HO1122
             clear HO1127
             clear BK1100
             clear BK1105
             clear BK1110
             clear BK1123
             clear BK1128
             clear HB
             have HO_4 := n0_
             have HO_6 := n1_
             have HO_1101000 := n2_
             have HO_1106001 := n3_
             have HO_1111001 := n4_
             have HO1122 := n5_
             have HO1127 := n6_
             have BK1100 := n7_
             have BK1105 := n8_
             have BK1110 := n9_
             have BK1123 := n10_
             have BK1128 := n11_
             have HB := n12_
             clear n0_ n1_ n2_ n3_ n4_ n5_ n6_ n7_ n8_ n9_ n10_ n11_ n12_
             (try clear hb)
             (try clear hb2)
             (try clear hgw)
             (try clear hk)
             (try clear hi)
             refine hK.out _ _ ⟨(blk_cell BK1123.out 0).trans rfl, (blk_cell BK1123.out 1).trans rfl, (blk_cell BK1128.out 0).trans rfl, (blk_cell BK1128.out 1).trans rfl, (blk_cell BK1100.out 0).trans rfl, (blk_cell BK1105.out 0).trans rfl, (blk_cell BK1105.out 1).trans rfl, (blk_cell BK1110.out 0).trans rfl, (blk_cell BK1110.out 1).trans rfl⟩ (fun hHeld => ?_)
             clear hK K
             refine norm_ (a' := ?_) ?_ ?_
             rotate_left
             ·show Act.put _ (some 98) _ = _
              simp only [Act.put, lsp, i64_w, i32_w]
              rfl
             refine pure_ (i := 36) (N := some 99) (v := ?_) (a' := ?_) #[true, true, true, true, true, true, true, true, true, true, true, true, true, true, true, true, true, true, true, true, true, true, true, true, true, true, true, true, true, true, true, true, true, true, true, true, true, true, true, true, false, false, false, false, false, false, false, false, false, false, false, false, false, false, false, false, false, false, false, false, false, false, false, false, false] rfl rfl (any_of HT_.out (by kernel_rfl)) (fun _ _ _ h => h) (Or.inl ⟨by rfl, ?_⟩) ?_ ?_
             rotate_left
             ·intro w'
              go_simp
              with_reducible rfl
             rotate_left
             ·simp only [Act.put, lsp, i64_w, i32_w]
              rfl
             refine pure_ (i := 40) (N := some 103) (v := ?_) (a' := ?_) #[true, true, true, true, true, true, true, true, true, true, true, true, true, true, true, true, true, true, true, true, true, true, true, true, true, true, true, true, true, true, true, true, true, true, true, true, true, true, true, true, true, false, false, false, false, false, false, false, false, false, false, false, false, false, false, false, false, false, false, false, false, false, false, false, false] rfl rfl (any_of HT_.out (by kernel_rfl)) (fun _ _ _ h => h) (Or.inl ⟨by rfl, ?_⟩) ?_ ?_
             rotate_left
             ·intro w'
              go_simp
              with_reducible rfl
             rotate_left
             ·simp only [Act.put, lsp, i64_w, i32_w]
              rfl
             refine pure_ (i := 41) (N := some 104) (v := ?_) (a' := ?_) #[true, true, true, true, true, true, true, true, true, true, true, true, true, true, true, true, true, true, true, true, true, true, true, true, true, true, true, true, true, true, true, true, true, true, true, true, true, true, true, true, true, true, false, false, false, false, false, false, false, false, false, false, false, false, false, false, false, false, false, false, false, false, false, false, false] rfl rfl (any_of HT_.out (by kernel_rfl)) (fun _ _ _ h => h) (Or.inl ⟨by rfl, ?_⟩) ?_ ?_
             rotate_left
             ·intro w'
              go_simp
              with_reducible rfl
             rotate_left
             ·simp only [Act.put, lsp, i64_w, i32_w]
              rfl
             refine pure_ (i := 42) (N := some 105) (v := ?_) (a' := ?_) #[true, true, true, true, true, true, true, true, true, true, true, true, true, true, true, true, true, true, true, true, true, true, true, true, true, true, true, true, true, true, true, true, true, true, true, true, true, true, true, true, true, true, true, false, false, false, false, false, false, false, false, false, false, false, false, false, false, false, false, false, false, false, false, false, false] rfl rfl (any_of HT_.out (by kernel_rfl)) (fun _ _ _ h => h) (Or.inl ⟨by rfl, ?_⟩) ?_ ?_
             rotate_left
             ·intro w'
              go_simp
              with_reducible rfl
             rotate_left
             ·simp only [Act.put, lsp, i64_w, i32_w]
              rfl
             refine pure_ (i := 44) (N := some 107) (v := ?_) (a' := ?_) #[true, true, true, true, true, true, true, true, true, true, true, true, true, true, true, true, true, true, true, true, true, true, true, true, true, true, true, true, true, true, true, true, true, true, true, true, true, true, true, true, true, true, true, false, true, false, false, false, false, false, false, false, false, false, false, false, false, false, false, false, false, false, false, false, false] rfl rfl (any_of HT_.out (by kernel_rfl)) (fun _ _ _ h => h) (Or.inl ⟨by rfl, ?_⟩) ?_ ?_
             rotate_left
             ·intro w'
              go_simp
              with_reducible rfl
             rotate_left
             ·simp only [Act.put, lsp, i64_w, i32_w]
              rfl
             refine take_ (i := 43) (N := some 106) (v := ?_) (a' := ?_) #[true, true, true, true, true, true, true, true, true, true, true, true, true, true, true, true, true, true, true, true, true, true, true, true, true, true, true, true, true, true, true, true, true, true, true, true, true, true, true, true, true, true, true, true, true, false, false, false, false, false, false, false, false, false, false, false, false, false, false, false, false, false, false, false, false] rfl rfl (take_ofW HT_.out HW_.out (by kernel_rfl)) (fun _ _ _ h => h) (Or.inl ⟨by rfl, ?_⟩) hHeld ?_ ?_
             rotate_left
             ·rintro w' ⟨s0, s1, s2, s3, s4, s5, s6, s7, s8⟩
              go_simp
              with_reducible rfl
             rotate_left
             ·simp only [Act.put, lsp, i64_w, i32_w]
              rfl
             refine take_ (i := 45) (N := some 108) (v := ?_) (a' := ?_) #[true, true, true, true, true, true, true, true, true, true, true, true, true, true, true, true, true, true, true, true, true, true, true, true, true, true, true, true, true, true, true, true, true, true, true, true, true, true, true, true, true, true, true, true, true, true, false, false, false, false, false, false, false, false, false, false, false, false, false, false, false, false, false, false, false] rfl rfl (take_ofW HT_.out HW_.out (by kernel_rfl)) (fun _ _ _ h => h) (Or.inl ⟨by rfl, ?_⟩) hHeld ?_ ?_
             rotate_left
             ·rintro w' ⟨s0, s1, s2, s3, s4, s5, s6, s7, s8⟩
              go_simp
              with_reducible rfl
             rotate_left
             ·simp only [Act.put, lsp, i64_w, i32_w]
              rfl
             refine one_ (i := 46) (N := some 109) #[true, true, true, true, true, true, true, true, true, true, true, true, true, true, true, true, true, true, true, true, true, true, true, true, true, true, true, true, true, true, true, true, true, true, true, true, true, true, true, true, true, true, true, true, true, true, true, false, false, false, false, false, false, false, false, false, false, false, false, false, false, false, false, false, false] rfl rfl (one_of HT_.out (by kernel_rfl)) (by decide) (fun K hK => ?_)
             refine goes_ Tryd.func58 (by kernel_rfl) rfl #[.agg #[.slice Ao10 t1090.length co10], .slice Ao18 t1102.length co18] (by rfl) rfl rfl el ?_
             with_reducible refine (impl_TermFault.calls kj6 _ _ t1090 _ _ t1102 t1135 _ ?side1 ?side2 ?side3 ?side4 A50.out).mono ?_
             (case side1 => repeat (first | exact (Kd.R_reads' HO_1101000.out).2.2 | (with_reducible refine Kd.C_alloc ?_ _) | (with_reducible refine Kd.C_drewN ?_ _) | (with_reducible refine Kd.C_drew ?_)))
             (case side2 => exact (Kd.R_reads' HO_1101000.out).2.1)
             (case side3 => repeat (first | exact (Kd.R_reads' HO_1106001.out).2.2 | (with_reducible refine Kd.C_alloc ?_ _) | (with_reducible refine Kd.C_drewN ?_ _) | (with_reducible refine Kd.C_drew ?_)))
             (case side4 => exact (Kd.R_reads' HO_1106001.out).2.1)
             rintro e w79 ⟨rfl, hb⟩
             refine ⟨_, rfl, ?_⟩
             have n0_ := am (Kd.R_below (rq HO_4.out) hb)
             have n1_ := am (Kd.R_below (rq HO_6.out) hb)
             have n2_ := am (Kd.R_below (rq HO_1101000.out) hb)
             have n3_ := am (Kd.R_below (rq HO_1106001.out) hb)
             have n4_ := am (Kd.R_below (rq HO_1111001.out) hb)
             have n5_ := am (Kd.R_below (rq HO1122.out) hb)
             have n6_ := am (Kd.R_below (rq HO1127.out) hb)
             have n7_ := am (blk_below (bq BK1100.out) hb)
             have n8_ := am (blk_below (bq BK1105.out) hb)
             have n9_ := am (blk_below (bq BK1110.out) hb)
             have n10_ := am (blk_below (bq BK1123.out) hb)
             have n11_ := am (blk_below (bq BK1128.out) hb)
             have n12_ := am (below_step (hs HB.out) hb)
             clear HO_4
             clear HO_6
             clear HO_1101000
             clear HO_1106001
             clear HO_1111001
             clear HO1122
             clear HO1127
             clear BK1100
             clear BK1105
             clear BK1110
             clear BK1123
             clear BK1128
             clear HB
             have HO_4 := n0_
             have HO_6 := n1_
             have HO_1101000 := n2_
             have HO_1106001 := n3_
             have HO_1111001 := n4_
             have HO1122 := n5_
             have HO1127 := n6_
             have BK1100 := n7_
             have BK1105 := n8_
             have BK1110 := n9_
             have BK1123 := n10_
             have BK1128 := n11_
             have HB := n12_
             clear n0_ n1_ n2_ n3_ n4_ n5_ n6_ n7_ n8_ n9_ n10_ n11_ n12_
             (try clear hb)
             (try clear hb2)
             (try clear hgw)
             (try clear hk)
             (try clear hi)
             refine hK.out _ _ ⟨(blk_cell BK1123.out 0).trans rfl, (blk_cell BK1123.out 1).trans rfl, (blk_cell BK1128.out 0).trans rfl, (blk_cell BK1128.out 1).trans rfl, (blk_cell BK1100.out 0).trans rfl, (blk_cell BK1105.out 0).trans rfl, (blk_cell BK1105.out 1).trans rfl, (blk_cell BK1110.out 0).trans rfl, (blk_cell BK1110.out 1).trans rfl⟩ (fun hHeld => ?_)
             clear hK K
             refine norm_ (a' := ?_) ?_ ?_
             rotate_left
             ·show Act.put _ (some 109) _ = _
              simp only [Act.put, lsp, i64_w, i32_w]
              rfl
             refine pure_ (i := 47) (N := some 110) (v := ?_) (a' := ?_) #[true, true, true, true, true, true, true, true, true, true, true, true, true, true, true, true, true, true, true, true, true, true, true, true, true, true, true, true, true, true, true, true, true, true, true, true, true, true, true, true, true, true, true, true, true, true, true, true, false, false, false, false, false, false, false, false, false, false, false, false, false, false, false, false, false] rfl rfl (any_of HT_.out (by kernel_rfl)) (fun _ _ _ h => h) (Or.inl ⟨by rfl, ?_⟩) ?_ ?_
             rotate_left
             ·intro w'
              go_simp
              with_reducible rfl
             rotate_left
             ·simp only [Act.put, lsp, i64_w, i32_w]
              rfl
             refine pure_ (i := 48) (N := some 111) (v := ?_) (a' := ?_) #[true, true, true, true, true, true, true, true, true, true, true, true, true, true, true, true, true, true, true, true, true, true, true, true, true, true, true, true, true, true, true, true, true, true, true, true, true, true, true, true, true, true, true, true, true, true, true, true, true, false, false, false, false, false, false, false, false, false, false, false, false, false, false, false, false] rfl rfl (any_of HT_.out (by kernel_rfl)) (fun _ _ _ h => h) (Or.inl ⟨by rfl, ?_⟩) ?_ ?_
             rotate_left
             ·intro w'
              go_simp
              with_reducible rfl
             rotate_left
             ·simp only [Act.put, lsp, i64_w, i32_w]
              rfl
             refine pure_ (i := 49) (N := some 112) (v := ?_) (a' := ?_) #[true, true, true, true, true, true, true, true, true, true, true, true, true, true, true, true, true, true, true, true, true, true, true, true, true, true, true, true, true, true, true, true, true, true, true, true, true, true, true, true, true, true, true, true, true, true, true, true, true, true, false, false, false, false, false, false, false, false, false, false, false, false, false, false, false] rfl rfl (any_of HT_.out (by kernel_rfl)) (fun _ _ _ h => h) (Or.inl ⟨by rfl, ?_⟩) ?_ ?_
             rotate_left
             ·intro w'
              go_simp
              with_reducible rfl
             rotate_left
             ·simp only [Act.put, lsp, i64_w, i32_w]
              rfl
             refine pure_ (i := 50) (N := some 113) (v := ?_) (a' := ?_) #[true, true, true, true, true, true, true, true, true, true, true, true, true, true, true, true, true, true, true, true, true, true, true, true, true, true, true, true, true, true, true, true, true, true, true, true, true, true, true, true, true, true, true, true, true, true, true, true, true, true, true, false, false, false, false, false, false, false, false, false, false, false, false, false, false] rfl rfl (any_of HT_.out (by kernel_rfl)) (fun _ _ _ h => h) (Or.inl ⟨by rfl, ?_⟩) ?_ ?_
             rotate_left
             ·intro w'
              go_simp
              with_reducible rfl
             rotate_left
             ·simp only [Act.put, lsp, i64_w, i32_w]
              rfl
             refine pure_ (i := 53) (N := some 116) (v := ?_) (a' := ?_) #[true, true, true, true, true, true, true, true, true, true, true, true, true, true, true, true, true, true, true, true, true, true, true, true, true, true, true, true, true, true, true, true, true, true, true, true, true, true, true, true, true, true, true, true, true, true, true, true, true, true, true, false, false, true, false, false, false, false, false, false, false, false, false, false, false] rfl rfl (any_of HT_.out (by kernel_rfl)) (fun _ _ _ h => h) (Or.inl ⟨by rfl, ?_⟩) ?_ ?_
             rotate_left
             ·intro w'
              go_simp
              with_reducible rfl
             rotate_left
             ·simp only [Act.put, lsp, i64_w, i32_w]
              rfl
             refine pure_ (i := 54) (N := some 117) (v := ?_) (a' := ?_) #[true, true, true, true, true, true, true, true, true, true, true, true, true, true, true, true, true, true, true, true, true, true, true, true, true, true, true, true, true, true, true, true, true, true, true, true, true, true, true, true, true, true, true, true, true, true, true, true, true, true, true, false, false, true, true, false, false, false, false, false, false, false, false, false, false] rfl rfl (any_of HT_.out (by kernel_rfl)) (fun _ _ _ h => h) (Or.inl ⟨by rfl, ?_⟩) ?_ ?_
             rotate_left
             ·intro w'
              go_simp
              with_reducible rfl
             rotate_left
             ·simp only [Act.put, lsp, i64_w, i32_w]
              rfl
             refine pure_ (i := 55) (N := some 118) (v := ?_) (a' := ?_) #[true, true, true, true, true, true, true, true, true, true, true, true, true, true, true, true, true, true, true, true, true, true, true, true, true, true, true, true, true, true, true, true, true, true, true, true, true, true, true, true, true, true, true, true, true, true, true, true, true, true, true, false, false, true, true, true, false, false, false, false, false, false, false, false, false] rfl rfl (any_of HT_.out (by kernel_rfl)) (fun _ _ _ h => h) (Or.inl ⟨by rfl, ?_⟩) ?_ ?_
             rotate_left
             ·intro w'
              go_simp
              with_reducible rfl
             rotate_left
             ·simp only [Act.put, lsp, i64_w, i32_w]
              rfl
             refine pure_ (i := 56) (N := some 119) (v := ?_) (a' := ?_) #[true, true, true, true, true, true, true, true, true, true, true, true, true, true, true, true, true, true, true, true, true, true, true, true, true, true, true, true, true, true, true, true, true, true, true, true, true, true, true, true, true, true, true, true, true, true, true, true, true, true, true, false, false, true, true, true, true, false, false, false, false, false, false, false, false] rfl rfl (any_of HT_.out (by kernel_rfl)) (fun _ _ _ h => h) (Or.inl ⟨by rfl, ?_⟩) ?_ ?_
             rotate_left
             ·intro w'
              go_simp
              with_reducible rfl
             rotate_left
             ·simp only [Act.put, lsp, i64_w, i32_w]
              rfl
             refine pure_ (i := 57) (N := some 120) (v := ?_) (a' := ?_) #[true, true, true, true, true, true, true, true, true, true, true, true, true, true, true, true, true, true, true, true, true, true, true, true, true, true, true, true, true, true, true, true, true, true, true, true, true, true, true, true, true, true, true, true, true, true, true, true, true, true, true, false, false, true, true, true, true, true, false, false, false, false, false, false, false] rfl rfl (any_of HT_.out (by kernel_rfl)) (fun _ _ _ h => h) (Or.inl ⟨by rfl, ?_⟩) ?_ ?_
             rotate_left
             ·intro w'
              go_simp
              with_reducible rfl
             rotate_left
             ·simp only [Act.put, lsp, i64_w, i32_w]
              rfl
             refine pure_ (i := 58) (N := some 121) (v := ?_) (a' := ?_) #[true, true, true, true, true, true, true, true, true, true, true, true, true, true, true, true, true, true, true, true, true, true, true, true, true, true, true, true, true, true, true, true, true, true, true, true, true, true, true, true, true, true, true, true, true, true, true, true, true, true, true, false, false, true, true, true, true, true, true, false, false, false, false, false, false] rfl rfl (any_of HT_.out (by kernel_rfl)) (fun _ _ _ h => h) (Or.inl ⟨by rfl, ?_⟩) ?_ ?_
             rotate_left
             ·intro w'
              go_simp
              with_reducible rfl
             rotate_left
             ·simp only [Act.put, lsp, i64_w, i32_w]
              rfl
             refine take_ (i := 51) (N := some 114) (v := ?_) (a' := ?_) #[true, true, true, true, true, true, true, true, true, true, true, true, true, true, true, true, true, true, true, true, true, true, true, true, true, true, true, true, true, true, true, true, true, true, true, true, true, true, true, true, true, true, true, true, true, true, true, true, true, true, true, true, false, true, true, true, true, true, true, false, false, false, false, false, false] rfl rfl (take_ofW HT_.out HW_.out (by kernel_rfl)) (fun _ _ _ h => h) (Or.inl ⟨by rfl, ?_⟩) hHeld ?_ ?_
             rotate_left
             ·rintro w' ⟨s0, s1, s2, s3, s4, s5, s6, s7, s8⟩
              go_simp
              with_reducible rfl
             rotate_left
             ·simp only [Act.put, lsp, i64_w, i32_w]
              rfl
             refine pure_ (i := 52) (N := some 115) (v := ?_) (a' := ?_) #[true, true, true, true, true, true, true, true, true, true, true, true, true, true, true, true, true, true, true, true, true, true, true, true, true, true, true, true, true, true, true, true, true, true, true, true, true, true, true, true, true, true, true, true, true, true, true, true, true, true, true, true, true, true, true, true, true, true, true, false, false, false, false, false, false] rfl rfl (any_of HT_.out (by kernel_rfl)) (fun _ _ _ h => h) (Or.inl ⟨by rfl, ?_⟩) ?_ ?_
             rotate_left
             ·intro w'
              go_simp
              with_reducible rfl
             rotate_left
             ·simp only [Act.put, lsp, i64_w, i32_w]
              rfl
             refine take_ (i := 59) (N := some 122) (v := ?_) (a' := ?_) #[true, true, true, true, true, true, true, true, true, true, true, true, true, true, true, true, true, true, true, true, true, true, true, true, true, true, true, true, true, true, true, true, true, true, true, true, true, true, true, true, true, true, true, true, true, true, true, true, true, true, true, true, true, true, true, true, true, true, true, true, false, false, false, false, false] rfl rfl (take_ofW HT_.out HW_.out (by kernel_rfl)) (fun _ _ _ h => h) (Or.inl ⟨by rfl, ?_⟩) hHeld ?_ ?_
             rotate_left
             ·rintro w' ⟨s0, s1, s2, s3, s4, s5, s6, s7, s8⟩
              go_simp
              with_reducible rfl
             rotate_left
             ·simp only [Act.put, lsp, i64_w, i32_w]
              rfl
             refine pure_ (i := 60) (N := some 123) (v := ?_) (a' := ?_) #[true, true, true, true, true, true, true, true, true, true, true, true, true, true, true, true, true, true, true, true, true, true, true, true, true, true, true, true, true, true, true, true, true, true, true, true, true, true, true, true, true, true, true, true, true, true, true, true, true, true, true, true, true, true, true, true, true, true, true, true, true, false, false, false, false] rfl rfl (any_of HT_.out (by kernel_rfl)) (fun _ _ _ h => h) (Or.inl ⟨by rfl, ?_⟩) ?_ ?_
             rotate_left
             ·intro w'
              go_simp
              with_reducible rfl
             rotate_left
             ·simp only [Act.put, lsp, i64_w, i32_w]
              rfl
             refine pure_ (i := 61) (N := some 124) (v := ?_) (a' := ?_) #[true, true, true, true, true, true, true, true, true, true, true, true, true, true, true, true, true, true, true, true, true, true, true, true, true, true, true, true, true, true, true, true, true, true, true, true, true, true, true, true, true, true, true, true, true, true, true, true, true, true, true, true, true, true, true, true, true, true, true, true, true, true, false, false, false] rfl rfl (any_of HT_.out (by kernel_rfl)) (fun _ _ _ h => h) (Or.inl ⟨by rfl, ?_⟩) ?_ ?_
             rotate_left
             ·intro w'
              go_simp
              with_reducible rfl
             rotate_left
             ·simp only [Act.put, lsp, i64_w, i32_w]
              rfl
             refine pure_ (i := 62) (N := some 125) (v := ?_) (a' := ?_) #[true, true, true, true, true, true, true, true, true, true, true, true, true, true, true, true, true, true, true, true, true, true, true, true, true, true, true, true, true, true, true, true, true, true, true, true, true, true, true, true, true, true, true, true, true, true, true, true, true, true, true, true, true, true, true, true, true, true, true, true, true, true, true, false, false] rfl rfl (any_of HT_.out (by kernel_rfl)) (fun _ _ _ h => h) (Or.inl ⟨by rfl, ?_⟩) ?_ ?_
             rotate_left
             ·intro w'
              go_simp
              with_reducible rfl
             rotate_left
             ·simp only [Act.put, lsp, i64_w, i32_w]
              rfl
             refine pure_ (i := 63) (N := some 126) (v := ?_) (a' := ?_) #[true, true, true, true, true, true, true, true, true, true, true, true, true, true, true, true, true, true, true, true, true, true, true, true, true, true, true, true, true, true, true, true, true, true, true, true, true, true, true, true, true, true, true, true, true, true, true, true, true, true, true, true, true, true, true, true, true, true, true, true, true, true, true, true, false] rfl rfl (any_of HT_.out (by kernel_rfl)) (fun _ _ _ h => h) (Or.inl ⟨by rfl, ?_⟩) ?_ ?_
             rotate_left
             ·intro w'
              go_simp
              with_reducible rfl
             rotate_left
             ·simp only [Act.put, lsp, i64_w, i32_w]
              rfl
             refine pure_ (i := 64) (N := some 2) (v := ?_) (a' := ?_) #[true, true, true, true, true, true, true, true, true, true, true, true, true, true, true, true, true, true, true, true, true, true, true, true, true, true, true, true, true, true, true, true, true, true, true, true, true, true, true, true, true, true, true, true, true, true, true, true, true, true, true, true, true, true, true, true, true, true, true, true, true, true, true, true, true] rfl rfl (any_of HT_.out (by kernel_rfl)) (fun _ _ _ h => h) (Or.inl ⟨by rfl, ?_⟩) ?_ ?_
             rotate_left
             ·intro w'
              go_simp
              with_reducible rfl
             rotate_left
             ·simp only [Act.put, lsp, i64_w, i32_w]
              rfl
             refine done_ (done_of HT_.out (by kernel_rfl)) ?_
             try go_wp2
             go_ret
             exact ⟨by first | rfl | (simp [errW_none, errW_some] <;> rfl) | (simp [*, errW_none, errW_some] <;> rfl), by exact hs HB.out⟩
            ·rw [if_neg c51] at H
             have c51b0 : (t1135 == 0) = false := beq_eq_false_iff_ne.mpr c51
             have c51b1 : (t1135 != 0) = true := bne_iff_ne.mpr c51
             exact absurd ((Option.some.inj H).trans ht_) Bool.false_ne_true
           ·rw [if_neg c49] at H
            have c49b0 : (t1134 == (t1107.length : Int)) = false := beq_eq_false_iff_ne.mpr c49
            have c49b1 : (t1134 != (t1107.length : Int)) = true := bne_iff_ne.mpr c49
            exact absurd ((Option.some.inj H).trans ht_) Bool.false_ne_true
          ·rw [if_neg c47] at H
           have c47b0 : (t1132 == (t1097.length : Int)) = false := beq_eq_false_iff_ne.mpr c47
           have c47b1 : (t1132 != (t1097.length : Int)) = true := bne_iff_ne.mpr c47
           exact absurd ((Option.some.inj H).trans ht_) Bool.false_ne_true
         ·replace c45 := Bool.eq_false_iff.mpr c45
          subst c45
          have H1 : (some false) = some r := by rw [if_neg (show ¬ (false = true) by decide)] at H; exact H
          clear H
          have H := H1
          clear H1
          exact absurd ((Option.some.inj H).trans ht_) Bool.false_ne_true
        ·rw [if_neg c43] at H
         have c43b0 : (t1124 == 0) = false := beq_eq_false_iff_ne.mpr c43
         have c43b1 : (t1124 != 0) = true := bne_iff_ne.mpr c43
         exact absurd ((Option.some.inj H).trans ht_) Bool.false_ne_true
       ·replace c42 := Bool.eq_false_iff.mpr c42
        subst c42
        have H1 : (some false) = some r := by rw [if_neg (show ¬ (false = true) by decide)] at H; exact H
        clear H
        have H := H1
        clear H1
        exact absurd ((Option.some.inj H).trans ht_) Bool.false_ne_true
      ·rw [if_neg c40] at H
       have c40b0 : (t1119 == 0) = false := beq_eq_false_iff_ne.mpr c40
       have c40b1 : (t1119 != 0) = true := bne_iff_ne.mpr c40
       exact absurd ((Option.some.inj H).trans ht_) Bool.false_ne_true
     ·rw [if_neg c37] at H
      have c37b0 : (t1101 == 0) = false := beq_eq_false_iff_ne.mpr c37
      have c37b1 : (t1101 != 0) = true := bne_iff_ne.mpr c37
      obtain rfl := Option.some.inj H
      have hnb80 := NB1105_1100.out
      have hnc80 := NB1100_1105.out
      have hnb81 := NB1105_1110.out
      have hnc81 := NB1110_1105.out
      have hcz82_0 : wc.cell? ⟨gb1105, 0, none⟩ = some (.int .i64 t1101) := (blk_cell BK1105.out 0).trans rfl
      have hcz82_1 : wc.cell? ⟨gb1105, 1, none⟩ = some (.slice Ao18 t1102.length co18) := (blk_cell BK1105.out 1).trans rfl
      have hfz82_0 := blk_frozen BK1105.out 0
      have hfz82_1 := blk_frozen BK1105.out 1
      go_wp2
      go_ret
      exact ⟨by first | rfl | (simp [errW_none, errW_some] <;> rfl) | (simp [*, errW_none, errW_some] <;> rfl), by exact hs HB.out⟩
end Go.Proofs.YtedkbpbodkmhlaaDoor.P
