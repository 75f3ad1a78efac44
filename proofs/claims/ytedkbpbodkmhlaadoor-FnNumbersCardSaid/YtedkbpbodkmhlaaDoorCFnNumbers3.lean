/- A part of the proof of the law FnNumbers: words, functions of the program with what each call answers, plain lemmas; conditions stand in each statement. -/
import Derived.Test.YtedkbpbodkmhlaaDoorCFnNumbers0
import Derived.Test.YtedkbpbodkmhlaaDoorCFnNumbers1
import Derived.Test.YtedkbpbodkmhlaaDoorCFnNumbers2
namespace Go.Proofs.YtedkbpbodkmhlaaDoor.P
open Go.RowKit Go.Proofs.YtedkbpbodkmhlaaDoorW.PrintWords Go.Proofs.YtedkbpbodkmhlaaDoorW.PrintLast Go.Proofs.YtedkbpbodkmhlaaDoorW.PrintMore
attribute [local go_sem] max2_int min2_int max_two min_two max_three min_three max_four min_four   -- for this text's walks alone
set_option linter.unusedVariables false
set_option linter.unusedSimpArgs false
attribute [local go_sem high] eqA28
def laws_FnNumbers.j0 : Nat → Int → ByteArray → Bool → Int → ByteArray → Int → Int → Option (Bool)
  | 0, _, _, _, _, _, _, _ => none
  | k + 1, x3, x5, x30, x341000, x341001, x345000, x345001 => if x30 = true then (some false) else (if x345000 = 0 then ((impl_NumberText.f x345001).bind fun bt349 => (if bt349.2.toList = x5.toList then (if x341000 = 0 then ((impl_NumberOf.f x341001).bind fun bt351 => (some (bt351.1 == 0 && (bt351.2 == x3)))) else (some true)) else (some false))) else (if x341000 = 0 then ((impl_NumberOf.f x341001).bind fun bt353 => (some (bt353.1 == 0 && (bt353.2 == x3)))) else (some true)))
def laws_FnNumbers.f (k : Nat) (l0 : List Int) : Option (Bool) := (laws_lwBig.f l0).bind fun t336 => (if t336 = true then (some true) else ((spec_DrawNumberText.f l0).bind fun t337 => ((impl_NumberText.f t337).bind fun bt338 => ((spec_DrawNumberOf.f k l0).bind fun t341 => ((impl_NumberOf.f t341).bind fun bt342 => ((spec_NumberText.f k t337).bind fun bt345 => (if bt338.1 = bt345.1 then ((spec_NumberOf.f k t341).bind fun bt347 => (laws_FnNumbers.j0 k t337 t341 (bt342.1 != bt347.1) bt338.1 bt338.2 bt342.1 bt342.2)) else (laws_FnNumbers.j0 k t337 t341 true bt338.1 bt338.2 bt342.1 bt342.2))))))))
def laws_FnNumbers.T7 : Bool × List (List Nat × List Nat) := (true, [([], []), ([0], [0]), ([], []), ([2], [2]), ([3], [3]), ([1, 4], [1, 4]), ([5, 3], [5]), ([6], [6]), ([7, 6], [6, 7]), ([6], [6]), ([9, 6, 6], [6, 9]), ([10, 6], [6, 10]), ([8, 11, 6], [6, 8, 11]), ([6, 12], [6, 12])])
def laws_FnNumbers.B7 : List Nat := [0, 1, 0, 4, 12, 31, 63, 127, 255, 127, 639, 1663, 4095, 8191]
theorem laws_FnNumbers.tab7 : rtab .any (opsOf Tryd.f6 7) = laws_FnNumbers.T7 := by kernel_rfl
theorem laws_FnNumbers.bits7 : waitsOk laws_FnNumbers.T7.2 laws_FnNumbers.B7 = true := by kernel_rfl
set_option maxHeartbeats 8000000 in
set_option maxRecDepth 100000 in
theorem laws_FnNumbers.calls (k : Nat) (A0 : Option Addr) (c0 : Nat) (l0 : List Int) (r : Bool) (w : World) (hr0 : Kd.C (Kd.int .u8) w A0 l0.length l0) (hc0 : l0.length ≤ c0) (h : laws_FnNumbers.f k l0 = some r) (ht_ : r = true := by rfl) (hT : NumTab w := by first | assumption | exact NumTab.below (by assumption) (by repeat (first | (with_reducible first | exact HB.out | apply below_alloc | apply pw_below_drewN | apply below_drew1 | refine below_set ?_ (Aside0.out ‹Aside0 (_ ≤ _)›)) | exact HB.out))) (hE : NumErr w := by first | assumption | exact NumErr.below (by assumption) (by repeat (first | (with_reducible first | exact HB.out | apply below_alloc | apply pw_below_drewN | apply below_drew1 | refine below_set ?_ (Aside0.out ‹Aside0 (_ ≤ _)›)) | exact HB.out))) :
    Calls Tryd.prog 6 #[.slice A0 l0.length c0] w fun e w' => e = .returned (.bool r) ∧ Below w.heap.size w w' := by
  have hu23 := Tryd.underlying23
  have hu28 := Tryd.underlying28
  have hfd23_0 : ∀ (x0_ x1_ : Value) (w_ : World), (Instr.field 23 (.agg #[x0_, x1_]) 0).run Tryd.prog w_ = .ok (x0_) w_ := fun _ _ _ => by kernel_rfl
  have hfd28_0 : ∀ (x0_ x1_ : Value) (w_ : World), (Instr.field 28 (.agg #[x0_, x1_]) 0).run Tryd.prog w_ = .ok (x0_) w_ := fun _ _ _ => by kernel_rfl
  have hfd23_1 : ∀ (x0_ x1_ : Value) (w_ : World), (Instr.field 23 (.agg #[x0_, x1_]) 1).run Tryd.prog w_ = .ok (x1_) w_ := fun _ _ _ => by kernel_rfl
  have HR0 := Aside0.mk hr0
  have HC0 := Aside0.mk hc0
  clear hr0 hc0
  have HB := Aside0.mk (Below.refl w.heap.size w)
  have H : ((laws_lwBig.f l0).bind fun t336 => (if t336 = true then (some true) else ((spec_DrawNumberText.f l0).bind fun t337 => ((impl_NumberText.f t337).bind fun bt338 => ((spec_DrawNumberOf.f k l0).bind fun t341 => ((impl_NumberOf.f t341).bind fun bt342 => ((spec_NumberText.f k t337).bind fun bt345 => (if bt338.1 = bt345.1 then ((spec_NumberOf.f k t341).bind fun bt347 => (laws_FnNumbers.j0 k t337 t341 (bt342.1 != bt347.1) bt338.1 bt338.2 bt342.1 bt342.2)) else (laws_FnNumbers.j0 k t337 t341 true bt338.1 bt338.2 bt342.1 bt342.2))))))))) = some r := h
  clear h
  replace H := Option.bind_eq_some_iff.mp H
  obtain ⟨t336, A20, H⟩ := H
  replace H : (if t336 = true then (some true) else ((spec_DrawNumberText.f l0).bind fun t337 => ((impl_NumberText.f t337).bind fun bt338 => ((spec_DrawNumberOf.f k l0).bind fun t341 => ((impl_NumberOf.f t341).bind fun bt342 => ((spec_NumberText.f k t337).bind fun bt345 => (if bt338.1 = bt345.1 then ((spec_NumberOf.f k t341).bind fun bt347 => (laws_FnNumbers.j0 k t337 t341 (bt342.1 != bt347.1) bt338.1 bt338.2 bt342.1 bt342.2)) else (laws_FnNumbers.j0 k t337 t341 true bt338.1 bt338.2 bt342.1 bt342.2)))))))) = some r := H
  have A2 := Aside0.mk A20
  clear A20
  by_cases c3 : t336 = true
  · subst c3
    have H1 : (some true) = some r := by rw [if_pos rfl] at H; exact H
    clear H
    have H := H1
    clear H1
    obtain rfl := Option.some.inj H
    go_enter Tryd.func6, Tryd.ntmps6
    go_wp2_with (first | ((with_reducible refine gate_callee (f := 30) rfl ?_); refine goesL_ (some 8) rfl rfl Tryd.func30 (by kernel_rfl) rfl #[.slice A0 l0.length c0] rfl (by (try simp only [List.map_toArray, List.map_cons, List.map_nil]); first | done | rfl | (simp only [List.length_drop, List.length_take]; rfl)) ?_; (with_reducible refine (laws_lwBig.calls _ _ l0 true _ ?side1 ?side2 A2.out).mono ?_); (case side1 => repeat (first | exact HR0.out | (with_reducible refine Kd.C_alloc ?_ _) | (with_reducible refine Kd.C_drewN ?_ _) | (with_reducible refine Kd.C_drew ?_))); (case side2 => exact HC0.out); rintro e w' ⟨rfl, ⟨nd, rfl⟩⟩; refine ⟨_, rfl, ?_⟩))
    go_ret
    exact ⟨by first | rfl | (simp [errW_none, errW_some] <;> rfl) | (simp [*, errW_none, errW_some] <;> rfl), by repeat (first | (with_reducible first | exact HB.out | apply below_alloc | apply pw_below_drewN | apply below_drew1) | exact HB.out)⟩
  · replace c3 := Bool.eq_false_iff.mpr c3
    subst c3
    have H1 : ((spec_DrawNumberText.f l0).bind fun t337 => ((impl_NumberText.f t337).bind fun bt338 => ((spec_DrawNumberOf.f k l0).bind fun t341 => ((impl_NumberOf.f t341).bind fun bt342 => ((spec_NumberText.f k t337).bind fun bt345 => (if bt338.1 = bt345.1 then ((spec_NumberOf.f k t341).bind fun bt347 => (laws_FnNumbers.j0 k t337 t341 (bt342.1 != bt347.1) bt338.1 bt338.2 bt342.1 bt342.2)) else (laws_FnNumbers.j0 k t337 t341 true bt338.1 bt338.2 bt342.1 bt342.2))))))) = some r := by rw [if_neg (show ¬ (false = true) by decide)] at H; exact H
    clear H
    have H := H1
    clear H1
    replace H := Option.bind_eq_some_iff.mp H
    obtain ⟨t337, A40, H⟩ := H
    replace H : ((impl_NumberText.f t337).bind fun bt338 => ((spec_DrawNumberOf.f k l0).bind fun t341 => ((impl_NumberOf.f t341).bind fun bt342 => ((spec_NumberText.f k t337).bind fun bt345 => (if bt338.1 = bt345.1 then ((spec_NumberOf.f k t341).bind fun bt347 => (laws_FnNumbers.j0 k t337 t341 (bt342.1 != bt347.1) bt338.1 bt338.2 bt342.1 bt342.2)) else (laws_FnNumbers.j0 k t337 t341 true bt338.1 bt338.2 bt342.1 bt342.2)))))) = some r := H
    have A4 := Aside0.mk A40
    clear A40
    replace H := Option.bind_eq_some_iff.mp H
    obtain ⟨⟨t338, t339⟩, A50, H⟩ := H
    replace H : ((spec_DrawNumberOf.f k l0).bind fun t341 => ((impl_NumberOf.f t341).bind fun bt342 => ((spec_NumberText.f k t337).bind fun bt345 => (if t338 = bt345.1 then ((spec_NumberOf.f k t341).bind fun bt347 => (laws_FnNumbers.j0 k t337 t341 (bt342.1 != bt347.1) t338 t339 bt342.1 bt342.2)) else (laws_FnNumbers.j0 k t337 t341 true t338 t339 bt342.1 bt342.2))))) = some r := H
    have A5 := Aside0.mk A50
    clear A50
    replace H := Option.bind_eq_some_iff.mp H
    obtain ⟨t341, A60, H⟩ := H
    replace H : ((impl_NumberOf.f t341).bind fun bt342 => ((spec_NumberText.f k t337).bind fun bt345 => (if t338 = bt345.1 then ((spec_NumberOf.f k t341).bind fun bt347 => (laws_FnNumbers.j0 k t337 t341 (bt342.1 != bt347.1) t338 t339 bt342.1 bt342.2)) else (laws_FnNumbers.j0 k t337 t341 true t338 t339 bt342.1 bt342.2)))) = some r := H
    have A6 := Aside0.mk A60
    clear A60
    replace H := Option.bind_eq_some_iff.mp H
    obtain ⟨⟨t342, t343⟩, A70, H⟩ := H
    replace H : ((spec_NumberText.f k t337).bind fun bt345 => (if t338 = bt345.1 then ((spec_NumberOf.f k t341).bind fun bt347 => (laws_FnNumbers.j0 k t337 t341 (t342 != bt347.1) t338 t339 t342 t343)) else (laws_FnNumbers.j0 k t337 t341 true t338 t339 t342 t343))) = some r := H
    have A7 := Aside0.mk A70
    clear A70
    have HC8 := Aside0.mk H
    clear H
    go_enter Tryd.func6, Tryd.ntmps6
    go_upto_region 7 with (first | ((with_reducible refine gate_callee (f := 30) rfl ?_); refine goesL_ (some 8) rfl rfl Tryd.func30 (by kernel_rfl) rfl #[.slice A0 l0.length c0] rfl (by (try simp only [List.map_toArray, List.map_cons, List.map_nil]); first | done | rfl | (simp only [List.length_drop, List.length_take]; rfl)) ?_; (with_reducible refine (laws_lwBig.calls _ _ l0 false _ ?side1 ?side2 A2.out).mono ?_); (case side1 => repeat (first | exact HR0.out | (with_reducible refine Kd.C_alloc ?_ _) | (with_reducible refine Kd.C_drewN ?_ _) | (with_reducible refine Kd.C_drew ?_))); (case side2 => exact HC0.out); rintro e w' ⟨rfl, ⟨nd, rfl⟩⟩; refine ⟨_, rfl, ?_⟩) | ((with_reducible refine gate_callee (f := 31) rfl ?_); refine goesL_ (some 10) rfl rfl Tryd.func31 (by kernel_rfl) rfl #[.slice A0 l0.length c0] rfl (by (try simp only [List.map_toArray, List.map_cons, List.map_nil]); first | done | rfl | (simp only [List.length_drop, List.length_take]; rfl)) ?_; (with_reducible refine (spec_DrawNumberText.calls _ _ l0 t337 _ ?side1 ?side2 A4.out).mono ?_); (case side1 => repeat (first | exact HR0.out | (with_reducible refine Kd.C_alloc ?_ _) | (with_reducible refine Kd.C_drewN ?_ _) | (with_reducible refine Kd.C_drew ?_))); (case side2 => exact HC0.out); rintro e w9 ⟨rfl, hb⟩; refine ⟨_, rfl, ?_⟩; have n0_ := Aside0.mk (below_step (by repeat (first | (with_reducible first | exact HB.out | apply below_alloc | apply pw_below_drewN | apply below_drew1) | exact HB.out)) hb); clear HB; have HB := n0_; clear n0_; (try clear hb); (try clear hb2); (try clear hgw); (try clear hk); (try clear hi)) | ((with_reducible refine gate_callee (f := 16) rfl ?_); refine goesL_ (some 12) rfl rfl Tryd.func16 (by kernel_rfl) rfl #[.int .i64 t337] rfl (by (try simp only [List.map_toArray, List.map_cons, List.map_nil]); first | done | rfl | (simp only [List.length_drop, List.length_take]; rfl)) ?_; (with_reducible refine (impl_NumberText.calls t337 t338 t339 _ A5.out).mono ?_); rintro e w10 ⟨rfl, hb⟩; refine ⟨_, rfl, ?_⟩; have n0_ := Aside0.mk (below_step (by repeat (first | (with_reducible first | exact HB.out | apply below_alloc | apply pw_below_drewN | apply below_drew1) | exact HB.out)) hb); clear HB; have HB := n0_; clear n0_; (try clear hb); (try clear hb2); (try clear hgw); (try clear hk); (try clear hi)) | ((with_reducible refine gate_dst (N := 4) rfl ?_); refine box_event ?hg (N := 4) ?hd (cs := #[.int .i64 0, .string (⟨#[]⟩ : ByteArray)]) (t := 23) ?hr ?_; (case hd => rfl); (case hg => rfl); (case hr => first | (go_simp; done) | (go_simp; rfl)); intro gb340 hg w11 hbox hb; have n0_ := Aside0.mk (below_step (by repeat (first | (with_reducible first | exact HB.out | apply below_alloc | apply pw_below_drewN | apply below_drew1) | exact HB.out)) hb); have n1_ := Aside0.mk (hbox); have n2_ := Aside0.mk ((by rw [hg]; exact (below_size (by repeat (first | (with_reducible first | exact HB.out | apply below_alloc | apply pw_below_drewN | apply below_drew1) | exact HB.out))) : w.heap.size ≤ gb340)); have n3_ := Aside0.mk ((by rw [hg]; exact (below_size (by repeat (first | (with_reducible first | exact HB.out | apply below_alloc | apply pw_below_drewN | apply below_drew1) | exact HB.out))) : w.heap.size ≤ gb340)); clear HB; have HB := n0_; have BK340 := n1_; have GW340 := n2_; have GE340 := n3_; clear n0_ n1_ n2_ n3_; clear hb hbox hg; have hcz12_0 : w11.cell? ⟨gb340, 0, none⟩ = some (.int .i64 0) := (blk_cell BK340.out 0).trans rfl; have hcz12_1 : w11.cell? ⟨gb340, 1, none⟩ = some (.string (⟨#[]⟩ : ByteArray)) := (blk_cell BK340.out 1).trans rfl; have hfz12_0 := blk_frozen BK340.out 0; have hfz12_1 := blk_frozen BK340.out 1) | ((with_reducible refine gate_callee (f := 32) rfl ?_); refine goesL_ (some 14) rfl rfl Tryd.func32 (by kernel_rfl) rfl #[.slice A0 l0.length c0] rfl (by (try simp only [List.map_toArray, List.map_cons, List.map_nil]); first | done | rfl | (simp only [List.length_drop, List.length_take]; rfl)) ?_; (with_reducible refine (spec_DrawNumberOf.calls k _ _ l0 t341 _ ?side1 ?side2 A6.out).mono ?_); (case side1 => exact Kd.C_below HR0.out (by repeat (first | (with_reducible first | exact HB.out | apply below_alloc | apply pw_below_drewN | apply below_drew1 | refine below_set ?_ GE340.out) | exact HB.out))); (case side2 => exact HC0.out); rintro e w13 ⟨rfl, hb⟩; refine ⟨_, rfl, ?_⟩; have n0_ := Aside0.mk (blk_below (g := gb340) (o := .cells #[.int .i64 t338, .string t339] 23 (0, 0)) (by (with_reducible repeat (first | refine blk_drewN ?_ _ | refine blk_drew ?_ | refine blk_alloc ?_ _)); refine blk_put (cs := #[.int .i64 t338, .string (⟨#[]⟩ : ByteArray)]) ?_ 1 _ rfl; (with_reducible repeat (first | refine blk_drewN ?_ _ | refine blk_drew ?_ | refine blk_alloc ?_ _)); refine blk_put (cs := #[.int .i64 0, .string (⟨#[]⟩ : ByteArray)]) ?_ 0 _ rfl; (with_reducible repeat (first | refine blk_drewN ?_ _ | refine blk_drew ?_ | refine blk_alloc ?_ _)); exact BK340.out) hb); have n1_ := Aside0.mk (below_step (by repeat (first | (with_reducible first | exact HB.out | apply below_alloc | apply pw_below_drewN | apply below_drew1 | refine below_set ?_ GE340.out) | exact HB.out)) hb); clear BK340; clear HB; have BK340 := n0_; have HB := n1_; clear n0_ n1_; (try clear hb); (try clear hb2); (try clear hgw); (try clear hk); (try clear hi)) | ((with_reducible refine gate_callee (f := 19) rfl ?_); refine goesL_ (some 16) rfl rfl Tryd.func19 (by kernel_rfl) rfl #[.string t341] rfl (by (try simp only [List.map_toArray, List.map_cons, List.map_nil]); first | done | rfl | (simp only [List.length_drop, List.length_take]; rfl)) ?_; (with_reducible refine (impl_NumberOf.calls t341 t342 t343 _ A7.out).mono ?_); rintro e w14 ⟨rfl, hb⟩; refine ⟨_, rfl, ?_⟩; have n0_ := Aside0.mk (blk_below (g := gb340) (o := .cells #[.int .i64 t338, .string t339] 23 (0, 0)) (by (with_reducible repeat (first | refine blk_drewN ?_ _ | refine blk_drew ?_ | refine blk_alloc ?_ _)); exact BK340.out) hb); have n1_ := Aside0.mk (below_step (by repeat (first | (with_reducible first | exact HB.out | apply below_alloc | apply pw_below_drewN | apply below_drew1 | refine below_set ?_ GE340.out) | exact HB.out)) hb); clear BK340; clear HB; have BK340 := n0_; have HB := n1_; clear n0_ n1_; (try clear hb); (try clear hb2); (try clear hgw); (try clear hk); (try clear hi)) | ((with_reducible refine gate_dst (N := 6) rfl ?_); refine box_event ?hg (N := 6) ?hd (cs := #[.int .i64 0, .int .i64 0]) (t := 28) ?hr ?_; (case hd => rfl); (case hg => rfl); (case hr => first | (go_simp; done) | (go_simp; rfl)); intro gb344 hg w15 hbox hb; have n0_ := Aside0.mk (blk_below (g := gb340) (o := .cells #[.int .i64 t338, .string t339] 23 (0, 0)) (by (with_reducible repeat (first | refine blk_drewN ?_ _ | refine blk_drew ?_ | refine blk_alloc ?_ _)); exact BK340.out) hb); have n1_ := Aside0.mk (below_step (by repeat (first | (with_reducible first | exact HB.out | apply below_alloc | apply pw_below_drewN | apply below_drew1 | refine below_set ?_ GE340.out) | exact HB.out)) hb); have n2_ := Aside0.mk (hbox); have n3_ := Aside0.mk ((by rw [hg]; exact (below_size (by repeat (first | (with_reducible first | exact HB.out | apply below_alloc | apply pw_below_drewN | apply below_drew1 | refine below_set ?_ GE340.out) | exact HB.out))) : w.heap.size ≤ gb344)); have n4_ := Aside0.mk ((by rw [hg]; exact (below_size (by repeat (first | (with_reducible first | exact HB.out | apply below_alloc | apply pw_below_drewN | apply below_drew1 | refine below_set ?_ GE340.out) | exact HB.out))) : w.heap.size ≤ gb344)); have n5_ := Aside0.mk ((by rw [hg]; exact Nat.ne_of_lt (blk_lt (g := gb340) (o := .cells #[.int .i64 t338, .string t339] 23 (0, 0)) (by (with_reducible repeat (first | refine blk_drewN ?_ _ | refine blk_drew ?_ | refine blk_alloc ?_ _)); exact BK340.out)) : gb340 ≠ gb344)); have n6_ := Aside0.mk ((by rw [hg]; exact Nat.ne_of_gt (blk_lt (g := gb340) (o := .cells #[.int .i64 t338, .string t339] 23 (0, 0)) (by (with_reducible repeat (first | refine blk_drewN ?_ _ | refine blk_drew ?_ | refine blk_alloc ?_ _)); exact BK340.out)) : gb344 ≠ gb340)); clear BK340; clear HB; have BK340 := n0_; have HB := n1_; have BK344 := n2_; have GW344 := n3_; have GE344 := n4_; have NB340_344 := n5_; have NB344_340 := n6_; clear n0_ n1_ n2_ n3_ n4_ n5_ n6_; clear hb hbox hg; have hnb16 := NB344_340.out; have hnc16 := NB340_344.out; have hcz17_0 : w15.cell? ⟨gb344, 0, none⟩ = some (.int .i64 0) := (blk_cell BK344.out 0).trans rfl; have hcz17_1 : w15.cell? ⟨gb344, 1, none⟩ = some (.int .i64 0) := (blk_cell BK344.out 1).trans rfl; have hfz17_0 := blk_frozen BK344.out 0; have hfz17_1 := blk_frozen BK344.out 1))
    (try simp only [Act.put, List.setIfInBounds_toArray, List.set_cons_zero, List.set_cons_succ])
    go_cut [30] (fun v30 wc => ∃ (kq : Nat) (x30_7 : Bool), v30 = .bool x30_7 ∧ Aside0 (laws_FnNumbers.j0 kq t337 t341 x30_7 t338 t339 t342 t343 = some r) ∧ Aside0 (kq ≤ k) ∧ Aside0 (wc.heap[gb340]? = some (.cells #[.int .i64 t338, .string t339] 23 (0, 0))) ∧ Aside0 (wc.heap[gb344]? = some (.cells #[.int .i64 t342, .int .i64 t343] 28 (0, 0))) ∧ Aside0 (Below w.heap.size w wc))
    case first =>
      have H := HC8.out
      clear HC8
      replace H := Option.bind_eq_some_iff.mp H
      obtain ⟨⟨t345, t346⟩, A180, H⟩ := H
      replace H : (if t338 = t345 then ((spec_NumberOf.f k t341).bind fun bt347 => (laws_FnNumbers.j0 k t337 t341 (t342 != bt347.1) t338 t339 t342 t343)) else (laws_FnNumbers.j0 k t337 t341 true t338 t339 t342 t343)) = some r := H
      have A18 := Aside0.mk A180
      clear A180
      by_cases c19 : t338 = t345
      · rw [if_pos c19] at H
        have c19b0 : (t338 == t345) = true := beq_iff_eq.mpr c19
        have c19b1 : (t338 != t345) = false := bne_eq_false_iff_eq.mpr c19
        clear c19
        (first | rw [c19b0] | (simp only [i64_w, i32_w]; rw [c19b0]) | skip)
        replace H := Option.bind_eq_some_iff.mp H
        obtain ⟨⟨t347, t348⟩, A200, H⟩ := H
        replace H : (laws_FnNumbers.j0 k t337 t341 (t342 != t347) t338 t339 t342 t343) = some r := H
        have A20 := Aside0.mk A200
        clear A200
        have H' := Aside0.mk H
        clear H
        try go_wp2
        have n0_ : Aside0 (((w15.setCell ⟨gb344, 0, none⟩ (.int .i64 t342)).setCell ⟨gb344, 1, none⟩ (.int .i64 t343)).heap[gb340]? = some (.cells #[.int .i64 t338, .string t339] 23 (0, 0))) := ⟨by (with_reducible repeat (first | refine blk_drewN ?_ _ | refine blk_drew ?_ | refine blk_alloc ?_ _)); refine blk_far ?_ NB340_344.out _; (with_reducible repeat (first | refine blk_drewN ?_ _ | refine blk_drew ?_ | refine blk_alloc ?_ _)); refine blk_far ?_ NB340_344.out _; (with_reducible repeat (first | refine blk_drewN ?_ _ | refine blk_drew ?_ | refine blk_alloc ?_ _)); exact BK340.out⟩
        have n1_ : Aside0 (((w15.setCell ⟨gb344, 0, none⟩ (.int .i64 t342)).setCell ⟨gb344, 1, none⟩ (.int .i64 t343)).heap[gb344]? = some (.cells #[.int .i64 t342, .int .i64 t343] 28 (0, 0))) := ⟨by (with_reducible repeat (first | refine blk_drewN ?_ _ | refine blk_drew ?_ | refine blk_alloc ?_ _)); refine blk_put (cs := #[.int .i64 t342, .int .i64 0]) ?_ 1 _ rfl; (with_reducible repeat (first | refine blk_drewN ?_ _ | refine blk_drew ?_ | refine blk_alloc ?_ _)); refine blk_put (cs := #[.int .i64 0, .int .i64 0]) ?_ 0 _ rfl; (with_reducible repeat (first | refine blk_drewN ?_ _ | refine blk_drew ?_ | refine blk_alloc ?_ _)); exact BK344.out⟩
        have n2_ : Aside0 (Below w.heap.size w ((w15.setCell ⟨gb344, 0, none⟩ (.int .i64 t342)).setCell ⟨gb344, 1, none⟩ (.int .i64 t343))) := ⟨by repeat (first | (with_reducible first | exact HB.out | apply below_alloc | apply pw_below_drewN | apply below_drew1 | refine below_set ?_ GE340.out | refine below_set ?_ GE344.out) | exact HB.out)⟩
        (try clear BK340)
        (try clear BK344)
        (try clear HB)
        generalize ((w15.setCell ⟨gb344, 0, none⟩ (.int .i64 t342)).setCell ⟨gb344, 1, none⟩ (.int .i64 t343)) = w21 at n0_ n1_ n2_ ⊢
        have BK340 := n0_
        have BK344 := n1_
        have HB := n2_
        clear n0_ n1_ n2_
        have n0_ := Aside0.mk (blk_drew BK340.out)
        have n1_ := Aside0.mk (blk_drew BK344.out)
        have n2_ := Aside0.mk (below_drew1 HB.out)
        clear BK340
        clear BK344
        clear HB
        have BK340 := n0_
        have BK344 := n1_
        have HB := n2_
        clear n0_ n1_ n2_
        refine start_ (n := 14) (S := fun w' => w'.cell? ⟨gb340, 0, none⟩ = some (.int .i64 t338) ∧ w'.cell? ⟨gb340, 1, none⟩ = some (.string t339) ∧ w'.cell? ⟨gb344, 0, none⟩ = some (.int .i64 t342) ∧ w'.cell? ⟨gb344, 1, none⟩ = some (.int .i64 t343)) (ds := []) #[false, false, false, false, false, false, false, false, false, false, false, false, false, false] (by kernel_rfl) rfl rfl ⟨(blk_cell BK340.out 0).trans rfl, (blk_cell BK340.out 1).trans rfl, (blk_cell BK344.out 0).trans rfl, (blk_cell BK344.out 1).trans rfl⟩ (fun hHeld => ?_); refine with_tabW laws_FnNumbers.tab7 laws_FnNumbers.bits7 (fun HT_ HW_ => ?_)
        generalize w21.drew = w22 at BK340 BK344 HB hHeld ⊢
        refine pure_ (i := 0) (N := some 17) (v := ?_) (a' := ?_) #[true, false, false, false, false, false, false, false, false, false, false, false, false, false] rfl rfl (any_of HT_.out (by kernel_rfl)) (fun _ _ _ h => h) (Or.inl ⟨by rfl, ?_⟩) ?_ ?_
        rotate_left
        · intro w'
          go_simp
          with_reducible rfl
        rotate_left
        · simp only [Act.put, List.setIfInBounds_toArray, List.set_cons_zero, List.set_cons_succ, i64_w, i32_w]
          rfl
        refine pure_ (i := 2) (N := some 19) (v := ?_) (a' := ?_) #[true, false, true, false, false, false, false, false, false, false, false, false, false, false] rfl rfl (any_of HT_.out (by kernel_rfl)) (fun _ _ _ h => h) (Or.inl ⟨by rfl, ?_⟩) ?_ ?_
        rotate_left
        · intro w'
          go_simp
          with_reducible rfl
        rotate_left
        · simp only [Act.put, List.setIfInBounds_toArray, List.set_cons_zero, List.set_cons_succ, i64_w, i32_w]
          rfl
        refine take_ (i := 1) (N := some 18) (v := ?_) (a' := ?_) #[true, true, true, false, false, false, false, false, false, false, false, false, false, false] rfl rfl (take_ofW HT_.out HW_.out (by kernel_rfl)) (fun _ _ _ h => h) (Or.inl ⟨by rfl, ?_⟩) hHeld ?_ ?_
        rotate_left
        · rintro w' ⟨s0, s1, s2, s3⟩
          go_simp
          with_reducible rfl
        rotate_left
        · simp only [Act.put, List.setIfInBounds_toArray, List.set_cons_zero, List.set_cons_succ, i64_w, i32_w]
          rfl
        refine one_ (i := 3) (N := some 20) #[true, true, true, true, false, false, false, false, false, false, false, false, false, false] rfl rfl (one_of HT_.out (by kernel_rfl)) (by decide) (fun K hK => ?_)
        refine goes_ Tryd.func15 (by kernel_rfl) rfl #[.int .i64 t337] (by rfl) rfl rfl (by (try simp only [List.map_toArray, List.map_cons, List.map_nil]); first | done | rfl | (simp only [List.length_drop, List.length_take]; rfl)) ?_
        with_reducible refine (spec_NumberText.calls k t337 t345 t346 _ A18.out).mono ?_
        rintro e w23 ⟨rfl, hb⟩
        refine ⟨_, rfl, ?_⟩
        have n0_ := Aside0.mk (blk_below (g := gb340) (o := .cells #[.int .i64 t338, .string t339] 23 (0, 0)) (by (with_reducible repeat (first | refine blk_drewN ?_ _ | refine blk_drew ?_ | refine blk_alloc ?_ _)); exact BK340.out) hb)
        have n1_ := Aside0.mk (blk_below (g := gb344) (o := .cells #[.int .i64 t342, .int .i64 t343] 28 (0, 0)) (by (with_reducible repeat (first | refine blk_drewN ?_ _ | refine blk_drew ?_ | refine blk_alloc ?_ _)); exact BK344.out) hb)
        have n2_ := Aside0.mk (below_step (by repeat (first | (with_reducible first | exact HB.out | apply below_alloc | apply pw_below_drewN | apply below_drew1 | refine below_set ?_ GE340.out | refine below_set ?_ GE344.out) | exact HB.out)) hb)
        clear BK340
        clear BK344
        clear HB
        have BK340 := n0_
        have BK344 := n1_
        have HB := n2_
        clear n0_ n1_ n2_
        (try clear hb)
        (try clear hb2)
        (try clear hgw)
        (try clear hk)
        (try clear hi)
        refine hK.out _ _ ⟨(blk_cell BK340.out 0).trans rfl, (blk_cell BK340.out 1).trans rfl, (blk_cell BK344.out 0).trans rfl, (blk_cell BK344.out 1).trans rfl⟩ (fun hHeld => ?_)
        clear hK K
        refine norm_ (a' := ?_) ?_ ?_
        rotate_left
        · show Act.put _ (some 20) _ = _
          simp only [Act.put, List.setIfInBounds_toArray, List.set_cons_zero, List.set_cons_succ, i64_w, i32_w]
          rfl
        refine pure_ (i := 4) (N := some 21) (v := ?_) (a' := ?_) #[true, true, true, true, true, false, false, false, false, false, false, false, false, false] rfl rfl (any_of HT_.out (by kernel_rfl)) (fun _ _ _ h => h) (Or.inl ⟨by rfl, ?_⟩) ?_ ?_
        rotate_left
        · intro w'
          go_simp
          with_reducible rfl
        rotate_left
        · simp only [Act.put, List.setIfInBounds_toArray, List.set_cons_zero, List.set_cons_succ, i64_w, i32_w]
          rfl
        refine pure_ (i := 5) (N := some 22) (v := ?_) (a' := ?_) #[true, true, true, true, true, true, false, false, false, false, false, false, false, false] rfl rfl (any_of HT_.out (by kernel_rfl)) (fun _ _ _ h => h) (Or.inl ⟨by rfl, ?_⟩) ?_ ?_
        rotate_left
        · intro w'
          go_simp
          with_reducible rfl
        rotate_left
        · simp only [Act.put, List.setIfInBounds_toArray, List.set_cons_zero, List.set_cons_succ, i64_w, i32_w]
          rfl
        refine pure_ (i := 6) (N := some 23) (v := ?_) (a' := ?_) #[true, true, true, true, true, true, true, false, false, false, false, false, false, false] rfl rfl (any_of HT_.out (by kernel_rfl)) (fun _ _ _ h => h) (Or.inl ⟨by rfl, ?_⟩) ?_ ?_
        rotate_left
        · intro w'
          go_simp
          with_reducible rfl
        rotate_left
        · simp only [Act.put, List.setIfInBounds_toArray, List.set_cons_zero, List.set_cons_succ, i64_w, i32_w]
          rfl
        refine pure_ (i := 7) (N := some 24) (v := ?_) (a' := ?_) #[true, true, true, true, true, true, true, true, false, false, false, false, false, false] rfl rfl (any_of HT_.out (by kernel_rfl)) (fun _ _ _ h => h) (Or.inl ⟨by rfl, ?_⟩) ?_ ?_
        rotate_left
        · intro w'
          go_simp
          with_reducible rfl
        rotate_left
        · simp only [Act.put, List.setIfInBounds_toArray, List.set_cons_zero, List.set_cons_succ, i64_w, i32_w]
          rfl
        refine pure_ (i := 9) (N := some 26) (v := ?_) (a' := ?_) #[true, true, true, true, true, true, true, true, false, true, false, false, false, false] rfl rfl (any_of HT_.out (by kernel_rfl)) (fun _ _ _ h => h) (Or.inl ⟨by rfl, ?_⟩) ?_ ?_
        rotate_left
        · intro w'
          go_simp
          with_reducible rfl
        rotate_left
        · simp only [Act.put, List.setIfInBounds_toArray, List.set_cons_zero, List.set_cons_succ, i64_w, i32_w]
          rfl
        refine take_ (i := 8) (N := some 25) (v := ?_) (a' := ?_) #[true, true, true, true, true, true, true, true, true, true, false, false, false, false] rfl rfl (take_ofW HT_.out HW_.out (by kernel_rfl)) (fun _ _ _ h => h) (Or.inl ⟨by rfl, ?_⟩) hHeld ?_ ?_
        rotate_left
        · rintro w' ⟨s0, s1, s2, s3⟩
          go_simp
          with_reducible rfl
        rotate_left
        · simp only [Act.put, List.setIfInBounds_toArray, List.set_cons_zero, List.set_cons_succ, i64_w, i32_w]
          rfl
        refine one_ (i := 10) (N := some 27) #[true, true, true, true, true, true, true, true, true, true, true, false, false, false] rfl rfl (one_of HT_.out (by kernel_rfl)) (by decide) (fun K hK => ?_)
        refine goes_ Tryd.func18 (by kernel_rfl) rfl #[.string t341] (by rfl) rfl rfl (by (try simp only [List.map_toArray, List.map_cons, List.map_nil]); first | done | rfl | (simp only [List.length_drop, List.length_take]; rfl)) ?_
        with_reducible refine (spec_NumberOf.calls k t341 t347 t348 _ A20.out).mono ?_
        rintro e w24 ⟨rfl, hb⟩
        refine ⟨_, rfl, ?_⟩
        have n0_ := Aside0.mk (blk_below (g := gb340) (o := .cells #[.int .i64 t338, .string t339] 23 (0, 0)) (by (with_reducible repeat (first | refine blk_drewN ?_ _ | refine blk_drew ?_ | refine blk_alloc ?_ _)); exact BK340.out) hb)
        have n1_ := Aside0.mk (blk_below (g := gb344) (o := .cells #[.int .i64 t342, .int .i64 t343] 28 (0, 0)) (by (with_reducible repeat (first | refine blk_drewN ?_ _ | refine blk_drew ?_ | refine blk_alloc ?_ _)); exact BK344.out) hb)
        have n2_ := Aside0.mk (below_step (by repeat (first | (with_reducible first | exact HB.out | apply below_alloc | apply pw_below_drewN | apply below_drew1 | refine below_set ?_ GE340.out | refine below_set ?_ GE344.out) | exact HB.out)) hb)
        clear BK340
        clear BK344
        clear HB
        have BK340 := n0_
        have BK344 := n1_
        have HB := n2_
        clear n0_ n1_ n2_
        (try clear hb)
        (try clear hb2)
        (try clear hgw)
        (try clear hk)
        (try clear hi)
        refine hK.out _ _ ⟨(blk_cell BK340.out 0).trans rfl, (blk_cell BK340.out 1).trans rfl, (blk_cell BK344.out 0).trans rfl, (blk_cell BK344.out 1).trans rfl⟩ (fun hHeld => ?_)
        clear hK K
        refine norm_ (a' := ?_) ?_ ?_
        rotate_left
        · show Act.put _ (some 27) _ = _
          simp only [Act.put, List.setIfInBounds_toArray, List.set_cons_zero, List.set_cons_succ, i64_w, i32_w]
          rfl
        refine pure_ (i := 11) (N := some 28) (v := ?_) (a' := ?_) #[true, true, true, true, true, true, true, true, true, true, true, true, false, false] rfl rfl (any_of HT_.out (by kernel_rfl)) (fun _ _ _ h => h) (Or.inl ⟨by rfl, ?_⟩) ?_ ?_
        rotate_left
        · intro w'
          go_simp
          with_reducible rfl
        rotate_left
        · simp only [Act.put, List.setIfInBounds_toArray, List.set_cons_zero, List.set_cons_succ, i64_w, i32_w]
          rfl
        refine pure_ (i := 12) (N := some 29) (v := ?_) (a' := ?_) #[true, true, true, true, true, true, true, true, true, true, true, true, true, false] rfl rfl (any_of HT_.out (by kernel_rfl)) (fun _ _ _ h => h) (Or.inl ⟨by rfl, ?_⟩) ?_ ?_
        rotate_left
        · intro w'
          go_simp
          with_reducible rfl
        rotate_left
        · simp only [Act.put, List.setIfInBounds_toArray, List.set_cons_zero, List.set_cons_succ, i64_w, i32_w]
          rfl
        refine pure_ (i := 13) (N := some 30) (v := ?_) (a' := ?_) #[true, true, true, true, true, true, true, true, true, true, true, true, true, true] rfl rfl (any_of HT_.out (by kernel_rfl)) (fun _ _ _ h => h) (Or.inl ⟨by rfl, ?_⟩) ?_ ?_
        rotate_left
        · intro w'
          go_simp
          with_reducible rfl
        rotate_left
        · simp only [Act.put, List.setIfInBounds_toArray, List.set_cons_zero, List.set_cons_succ, i64_w, i32_w]
          rfl
        refine done_ (done_of HT_.out (by kernel_rfl)) ?_
        try go_wp2
        go_meet
        case rel => exact ⟨_, ((t342 != t347)), (by first | rfl | (simp; done) | (simp [*]; done)), H', ⟨by first | omega | exact Nat.le_refl _⟩, ⟨by (with_reducible repeat (first | refine blk_drewN ?_ _ | refine blk_drew ?_ | refine blk_alloc ?_ _)); exact BK340.out⟩, ⟨by (with_reducible repeat (first | refine blk_drewN ?_ _ | refine blk_drew ?_ | refine blk_alloc ?_ _)); exact BK344.out⟩, ⟨by repeat (first | (with_reducible first | exact HB.out | apply below_alloc | apply pw_below_drewN | apply below_drew1 | refine below_set ?_ GE340.out | refine below_set ?_ GE344.out) | exact HB.out)⟩⟩
      · rw [if_neg c19] at H
        have c19b0 : (t338 == t345) = false := beq_eq_false_iff_ne.mpr c19
        have c19b1 : (t338 != t345) = true := bne_iff_ne.mpr c19
        (first | rw [c19b0] | (simp only [i64_w, i32_w]; rw [c19b0]) | skip)
        have H' := Aside0.mk H
        clear H
        try go_wp2
        have n0_ : Aside0 (((w15.setCell ⟨gb344, 0, none⟩ (.int .i64 t342)).setCell ⟨gb344, 1, none⟩ (.int .i64 t343)).heap[gb340]? = some (.cells #[.int .i64 t338, .string t339] 23 (0, 0))) := ⟨by (with_reducible repeat (first | refine blk_drewN ?_ _ | refine blk_drew ?_ | refine blk_alloc ?_ _)); refine blk_far ?_ NB340_344.out _; (with_reducible repeat (first | refine blk_drewN ?_ _ | refine blk_drew ?_ | refine blk_alloc ?_ _)); refine blk_far ?_ NB340_344.out _; (with_reducible repeat (first | refine blk_drewN ?_ _ | refine blk_drew ?_ | refine blk_alloc ?_ _)); exact BK340.out⟩
        have n1_ : Aside0 (((w15.setCell ⟨gb344, 0, none⟩ (.int .i64 t342)).setCell ⟨gb344, 1, none⟩ (.int .i64 t343)).heap[gb344]? = some (.cells #[.int .i64 t342, .int .i64 t343] 28 (0, 0))) := ⟨by (with_reducible repeat (first | refine blk_drewN ?_ _ | refine blk_drew ?_ | refine blk_alloc ?_ _)); refine blk_put (cs := #[.int .i64 t342, .int .i64 0]) ?_ 1 _ rfl; (with_reducible repeat (first | refine blk_drewN ?_ _ | refine blk_drew ?_ | refine blk_alloc ?_ _)); refine blk_put (cs := #[.int .i64 0, .int .i64 0]) ?_ 0 _ rfl; (with_reducible repeat (first | refine blk_drewN ?_ _ | refine blk_drew ?_ | refine blk_alloc ?_ _)); exact BK344.out⟩
        have n2_ : Aside0 (Below w.heap.size w ((w15.setCell ⟨gb344, 0, none⟩ (.int .i64 t342)).setCell ⟨gb344, 1, none⟩ (.int .i64 t343))) := ⟨by repeat (first | (with_reducible first | exact HB.out | apply below_alloc | apply pw_below_drewN | apply below_drew1 | refine below_set ?_ GE340.out | refine below_set ?_ GE344.out) | exact HB.out)⟩
        (try clear BK340)
        (try clear BK344)
        (try clear HB)
        generalize ((w15.setCell ⟨gb344, 0, none⟩ (.int .i64 t342)).setCell ⟨gb344, 1, none⟩ (.int .i64 t343)) = w25 at n0_ n1_ n2_ ⊢
        have BK340 := n0_
        have BK344 := n1_
        have HB := n2_
        clear n0_ n1_ n2_
        have n0_ := Aside0.mk (blk_drew BK340.out)
        have n1_ := Aside0.mk (blk_drew BK344.out)
        have n2_ := Aside0.mk (below_drew1 HB.out)
        clear BK340
        clear BK344
        clear HB
        have BK340 := n0_
        have BK344 := n1_
        have HB := n2_
        clear n0_ n1_ n2_
        refine start_ (n := 14) (S := fun w' => w'.cell? ⟨gb340, 0, none⟩ = some (.int .i64 t338) ∧ w'.cell? ⟨gb340, 1, none⟩ = some (.string t339)) (ds := []) #[false, false, false, false, false, false, false, false, false, false, false, false, false, false] (by kernel_rfl) rfl rfl ⟨(blk_cell BK340.out 0).trans rfl, (blk_cell BK340.out 1).trans rfl⟩ (fun hHeld => ?_); refine with_tabW laws_FnNumbers.tab7 laws_FnNumbers.bits7 (fun HT_ HW_ => ?_)
        generalize w25.drew = w26 at BK340 BK344 HB hHeld ⊢
        refine pure_ (i := 0) (N := some 17) (v := ?_) (a' := ?_) #[true, false, false, false, false, false, false, false, false, false, false, false, false, false] rfl rfl (any_of HT_.out (by kernel_rfl)) (fun _ _ _ h => h) (Or.inl ⟨by rfl, ?_⟩) ?_ ?_
        rotate_left
        · intro w'
          go_simp
          with_reducible rfl
        rotate_left
        · simp only [Act.put, List.setIfInBounds_toArray, List.set_cons_zero, List.set_cons_succ, i64_w, i32_w]
          rfl
        refine pure_ (i := 2) (N := some 19) (v := ?_) (a' := ?_) #[true, false, true, false, false, false, false, false, false, false, false, false, false, false] rfl rfl (any_of HT_.out (by kernel_rfl)) (fun _ _ _ h => h) (Or.inl ⟨by rfl, ?_⟩) ?_ ?_
        rotate_left
        · intro w'
          go_simp
          with_reducible rfl
        rotate_left
        · simp only [Act.put, List.setIfInBounds_toArray, List.set_cons_zero, List.set_cons_succ, i64_w, i32_w]
          rfl
        refine take_ (i := 1) (N := some 18) (v := ?_) (a' := ?_) #[true, true, true, false, false, false, false, false, false, false, false, false, false, false] rfl rfl (take_ofW HT_.out HW_.out (by kernel_rfl)) (fun _ _ _ h => h) (Or.inl ⟨by rfl, ?_⟩) hHeld ?_ ?_
        rotate_left
        · rintro w' ⟨s0, s1⟩
          go_simp
          with_reducible rfl
        rotate_left
        · simp only [Act.put, List.setIfInBounds_toArray, List.set_cons_zero, List.set_cons_succ, i64_w, i32_w]
          rfl
        refine one_ (i := 3) (N := some 20) #[true, true, true, true, false, false, false, false, false, false, false, false, false, false] rfl rfl (one_of HT_.out (by kernel_rfl)) (by decide) (fun K hK => ?_)
        refine goes_ Tryd.func15 (by kernel_rfl) rfl #[.int .i64 t337] (by rfl) rfl rfl (by (try simp only [List.map_toArray, List.map_cons, List.map_nil]); first | done | rfl | (simp only [List.length_drop, List.length_take]; rfl)) ?_
        with_reducible refine (spec_NumberText.calls k t337 t345 t346 _ A18.out).mono ?_
        rintro e w27 ⟨rfl, hb⟩
        refine ⟨_, rfl, ?_⟩
        have n0_ := Aside0.mk (blk_below (g := gb340) (o := .cells #[.int .i64 t338, .string t339] 23 (0, 0)) (by (with_reducible repeat (first | refine blk_drewN ?_ _ | refine blk_drew ?_ | refine blk_alloc ?_ _)); exact BK340.out) hb)
        have n1_ := Aside0.mk (blk_below (g := gb344) (o := .cells #[.int .i64 t342, .int .i64 t343] 28 (0, 0)) (by (with_reducible repeat (first | refine blk_drewN ?_ _ | refine blk_drew ?_ | refine blk_alloc ?_ _)); exact BK344.out) hb)
        have n2_ := Aside0.mk (below_step (by repeat (first | (with_reducible first | exact HB.out | apply below_alloc | apply pw_below_drewN | apply below_drew1 | refine below_set ?_ GE340.out | refine below_set ?_ GE344.out) | exact HB.out)) hb)
        clear BK340
        clear BK344
        clear HB
        have BK340 := n0_
        have BK344 := n1_
        have HB := n2_
        clear n0_ n1_ n2_
        (try clear hb)
        (try clear hb2)
        (try clear hgw)
        (try clear hk)
        (try clear hi)
        refine hK.out _ _ ⟨(blk_cell BK340.out 0).trans rfl, (blk_cell BK340.out 1).trans rfl⟩ (fun hHeld => ?_)
        clear hK K
        refine norm_ (a' := ?_) ?_ ?_
        rotate_left
        · show Act.put _ (some 20) _ = _
          simp only [Act.put, List.setIfInBounds_toArray, List.set_cons_zero, List.set_cons_succ, i64_w, i32_w]
          rfl
        refine pure_ (i := 4) (N := some 21) (v := ?_) (a' := ?_) #[true, true, true, true, true, false, false, false, false, false, false, false, false, false] rfl rfl (any_of HT_.out (by kernel_rfl)) (fun _ _ _ h => h) (Or.inl ⟨by rfl, ?_⟩) ?_ ?_
        rotate_left
        · intro w'
          go_simp
          with_reducible rfl
        rotate_left
        · simp only [Act.put, List.setIfInBounds_toArray, List.set_cons_zero, List.set_cons_succ, i64_w, i32_w]
          rfl
        refine pure_ (i := 5) (N := some 22) (v := ?_) (a' := ?_) #[true, true, true, true, true, true, false, false, false, false, false, false, false, false] rfl rfl (any_of HT_.out (by kernel_rfl)) (fun _ _ _ h => h) (Or.inl ⟨by rfl, ?_⟩) ?_ ?_
        rotate_left
        · intro w'
          go_simp
          with_reducible rfl
        rotate_left
        · simp only [Act.put, List.setIfInBounds_toArray, List.set_cons_zero, List.set_cons_succ, i64_w, i32_w]
          rfl
        refine pure_ (i := 6) (N := some 23) (v := ?_) (a' := ?_) #[true, true, true, true, true, true, true, false, false, false, false, false, false, false] rfl rfl (any_of HT_.out (by kernel_rfl)) (fun _ _ _ h => h) (Or.inl ⟨by rfl, ?_⟩) ?_ ?_
        rotate_left
        · intro w'
          go_simp
          with_reducible rfl
        rotate_left
        · simp only [Act.put, List.setIfInBounds_toArray, List.set_cons_zero, List.set_cons_succ, i64_w, i32_w]
          rfl
        refine pure_ (i := 7) (N := some 24) (v := undef) (a' := ?_) #[true, true, true, true, true, true, true, true, false, false, false, false, false, false] rfl rfl (any_of HT_.out (by kernel_rfl)) (fun _ _ _ h => h) (Or.inr ⟨by rfl, rfl⟩) ?_ ?_
        rotate_left
        · simp only [Act.put, List.setIfInBounds_toArray, List.set_cons_zero, List.set_cons_succ, i64_w, i32_w]
          rfl
        refine pure_ (i := 8) (N := some 25) (v := undef) (a' := ?_) #[true, true, true, true, true, true, true, true, true, false, false, false, false, false] rfl rfl (any_of HT_.out (by kernel_rfl)) (fun _ _ _ h => h) (Or.inr ⟨by rfl, rfl⟩) ?_ ?_
        rotate_left
        · simp only [Act.put, List.setIfInBounds_toArray, List.set_cons_zero, List.set_cons_succ, i64_w, i32_w]
          rfl
        refine pure_ (i := 9) (N := some 26) (v := undef) (a' := ?_) #[true, true, true, true, true, true, true, true, true, true, false, false, false, false] rfl rfl (any_of HT_.out (by kernel_rfl)) (fun _ _ _ h => h) (Or.inr ⟨by rfl, rfl⟩) ?_ ?_
        rotate_left
        · simp only [Act.put, List.setIfInBounds_toArray, List.set_cons_zero, List.set_cons_succ, i64_w, i32_w]
          rfl
        refine pure_ (i := 10) (N := some 27) (v := undef) (a' := ?_) #[true, true, true, true, true, true, true, true, true, true, true, false, false, false] rfl rfl (any_of HT_.out (by kernel_rfl)) (fun _ _ _ h => h) (Or.inr ⟨by rfl, rfl⟩) ?_ ?_
        rotate_left
        · simp only [Act.put, List.setIfInBounds_toArray, List.set_cons_zero, List.set_cons_succ, i64_w, i32_w]
          rfl
        refine pure_ (i := 11) (N := some 28) (v := undef) (a' := ?_) #[true, true, true, true, true, true, true, true, true, true, true, true, false, false] rfl rfl (any_of HT_.out (by kernel_rfl)) (fun _ _ _ h => h) (Or.inr ⟨by rfl, rfl⟩) ?_ ?_
        rotate_left
        · simp only [Act.put, List.setIfInBounds_toArray, List.set_cons_zero, List.set_cons_succ, i64_w, i32_w]
          rfl
        refine pure_ (i := 12) (N := some 29) (v := undef) (a' := ?_) #[true, true, true, true, true, true, true, true, true, true, true, true, true, false] rfl rfl (any_of HT_.out (by kernel_rfl)) (fun _ _ _ h => h) (Or.inr ⟨by rfl, rfl⟩) ?_ ?_
        rotate_left
        · simp only [Act.put, List.setIfInBounds_toArray, List.set_cons_zero, List.set_cons_succ, i64_w, i32_w]
          rfl
        refine pure_ (i := 13) (N := some 30) (v := ?_) (a' := ?_) #[true, true, true, true, true, true, true, true, true, true, true, true, true, true] rfl rfl (any_of HT_.out (by kernel_rfl)) (fun _ _ _ h => h) (Or.inl ⟨by rfl, ?_⟩) ?_ ?_
        rotate_left
        · intro w'
          go_simp
          with_reducible rfl
        rotate_left
        · simp only [Act.put, List.setIfInBounds_toArray, List.set_cons_zero, List.set_cons_succ, i64_w, i32_w]
          rfl
        refine done_ (done_of HT_.out (by kernel_rfl)) ?_
        try go_wp2
        go_meet
        case rel => exact ⟨_, (true), (by first | rfl | (simp; done) | (simp [*]; done)), H', ⟨by first | omega | exact Nat.le_refl _⟩, ⟨by (with_reducible repeat (first | refine blk_drewN ?_ _ | refine blk_drew ?_ | refine blk_alloc ?_ _)); exact BK340.out⟩, ⟨by (with_reducible repeat (first | refine blk_drewN ?_ _ | refine blk_drew ?_ | refine blk_alloc ?_ _)); exact BK344.out⟩, ⟨by repeat (first | (with_reducible first | exact HB.out | apply below_alloc | apply pw_below_drewN | apply below_drew1 | refine below_set ?_ GE340.out | refine below_set ?_ GE344.out) | exact HB.out)⟩⟩
    case rest =>
      clear HC8
      try clear c1
      try clear p2
      try clear c3
      try clear c6
      try clear c15
      try clear c16
      try clear c18
      try clear c19
      try clear c19b0
      try clear c19b1
      try clear hcz12_0
      try clear hcz12_1
      try clear hcz17_0
      try clear hcz17_1
      try clear hfz12_0
      try clear hfz12_1
      try clear hfz17_0
      try clear hfz17_1
      obtain ⟨kq, x30_7, rfl, HA, HJ7, BK340, BK344, HB⟩ := hcut
      cases kq with
      | zero => exact absurd HA.out (by simp [laws_FnNumbers.j0])
      | succ kj7 =>
        have H := HA.out
        clear HA
        simp only [laws_FnNumbers.j0] at H
        by_cases c28 : x30_7 = true
        · subst c28
          have H1 : (some false) = some r := by rw [if_pos rfl] at H; exact H
          clear H
          have H := H1
          clear H1
          exact absurd ((Option.some.inj H).trans ht_) Bool.false_ne_true
        · replace c28 := Bool.eq_false_iff.mpr c28
          subst c28
          have H1 : (if t342 = 0 then ((impl_NumberText.f t343).bind fun bt349 => (if bt349.2.toList = t341.toList then (if t338 = 0 then ((impl_NumberOf.f t339).bind fun bt351 => (some (bt351.1 == 0 && (bt351.2 == t337)))) else (some true)) else (some false))) else (if t338 = 0 then ((impl_NumberOf.f t339).bind fun bt353 => (some (bt353.1 == 0 && (bt353.2 == t337)))) else (some true))) = some r := by rw [if_neg (show ¬ (false = true) by decide)] at H; exact H
          clear H
          have H := H1
          clear H1
          by_cases c29 : t342 = 0
          · rw [if_pos c29] at H
            have c29b0 : (t342 == 0) = true := beq_iff_eq.mpr c29
            have c29b1 : (t342 != 0) = false := bne_eq_false_iff_eq.mpr c29
            clear c29
            replace H := Option.bind_eq_some_iff.mp H
            obtain ⟨⟨t349, t350⟩, A300, H⟩ := H
            replace H : (if t350.toList = t341.toList then (if t338 = 0 then ((impl_NumberOf.f t339).bind fun bt351 => (some (bt351.1 == 0 && (bt351.2 == t337)))) else (some true)) else (some false)) = some r := H
            have A30 := Aside0.mk A300
            clear A300
            by_cases c31 : t350.toList = t341.toList
            · rw [if_pos c31] at H
              have c31b0 : (t350.toList == t341.toList) = true := beq_iff_eq.mpr c31
              have c31b1 : (t350.toList != t341.toList) = false := bne_eq_false_iff_eq.mpr c31
              clear c31
              by_cases c32 : t338 = 0
              · rw [if_pos c32] at H
                have c32b0 : (t338 == 0) = true := beq_iff_eq.mpr c32
                have c32b1 : (t338 != 0) = false := bne_eq_false_iff_eq.mpr c32
                clear c32
                replace H := Option.bind_eq_some_iff.mp H
                obtain ⟨⟨t351, t352⟩, A330, H⟩ := H
                replace H : (some (t351 == 0 && (t352 == t337))) = some r := H
                have A33 := Aside0.mk A330
                clear A330
                obtain rfl := Option.some.inj H
                have hnb34 := NB344_340.out
                have hnc34 := NB340_344.out
                have hcz35_0 : wc.cell? ⟨gb344, 0, none⟩ = some (.int .i64 t342) := (blk_cell BK344.out 0).trans rfl
                have hcz35_1 : wc.cell? ⟨gb344, 1, none⟩ = some (.int .i64 t343) := (blk_cell BK344.out 1).trans rfl
                have hfz35_0 := blk_frozen BK344.out 0
                have hfz35_1 := blk_frozen BK344.out 1
                go_wp2_with (first | (go_at_call 16; (with_reducible refine (impl_NumberText.calls t343 t349 t350 _ A30.out).mono ?_); rintro e w36 ⟨rfl, hb⟩; have n0_ := Aside0.mk (blk_below (g := gb340) (o := .cells #[.int .i64 t338, .string t339] 23 (0, 0)) (by (with_reducible repeat (first | refine blk_drewN ?_ _ | refine blk_drew ?_ | refine blk_alloc ?_ _)); exact BK340.out) hb); have n1_ := Aside0.mk (blk_below (g := gb344) (o := .cells #[.int .i64 t342, .int .i64 t343] 28 (0, 0)) (by (with_reducible repeat (first | refine blk_drewN ?_ _ | refine blk_drew ?_ | refine blk_alloc ?_ _)); exact BK344.out) hb); have n2_ := Aside0.mk (below_step (by repeat (first | (with_reducible first | exact HB.out | apply below_alloc | apply pw_below_drewN | apply below_drew1 | refine below_set ?_ GE340.out | refine below_set ?_ GE344.out) | exact HB.out)) hb); clear BK340; clear BK344; clear HB; have BK340 := n0_; have BK344 := n1_; have HB := n2_; clear n0_ n1_ n2_; (try clear hb); (try clear hb2); (try clear hgw); (try clear hk); (try clear hi); have hcz37_0 : w36.cell? ⟨gb340, 0, none⟩ = some (.int .i64 t338) := (blk_cell BK340.out 0).trans rfl; have hcz37_1 : w36.cell? ⟨gb340, 1, none⟩ = some (.string t339) := (blk_cell BK340.out 1).trans rfl; have hfz37_0 := blk_frozen BK340.out 0; have hfz37_1 := blk_frozen BK340.out 1) | (go_at_call 19; (with_reducible refine (impl_NumberOf.calls t339 t351 t352 _ A33.out).mono ?_); rintro e w38 ⟨rfl, hb⟩; have n0_ := Aside0.mk (blk_below (g := gb340) (o := .cells #[.int .i64 t338, .string t339] 23 (0, 0)) (by (with_reducible repeat (first | refine blk_drewN ?_ _ | refine blk_drew ?_ | refine blk_alloc ?_ _)); exact BK340.out) hb); have n1_ := Aside0.mk (blk_below (g := gb344) (o := .cells #[.int .i64 t342, .int .i64 t343] 28 (0, 0)) (by (with_reducible repeat (first | refine blk_drewN ?_ _ | refine blk_drew ?_ | refine blk_alloc ?_ _)); exact BK344.out) hb); have n2_ := Aside0.mk (below_step (by repeat (first | (with_reducible first | exact HB.out | apply below_alloc | apply pw_below_drewN | apply below_drew1 | refine below_set ?_ GE340.out | refine below_set ?_ GE344.out) | exact HB.out)) hb); clear BK340; clear BK344; clear HB; have BK340 := n0_; have BK344 := n1_; have HB := n2_; clear n0_ n1_ n2_; (try clear hb); (try clear hb2); (try clear hgw); (try clear hk); (try clear hi)))
                go_ret
                exact ⟨by first | rfl | (simp [errW_none, errW_some] <;> rfl) | (simp [*, errW_none, errW_some] <;> rfl), by repeat (first | (with_reducible first | exact HB.out | apply below_alloc | apply pw_below_drewN | apply below_drew1 | refine below_set ?_ GE340.out | refine below_set ?_ GE344.out) | exact HB.out)⟩
              · rw [if_neg c32] at H
                have c32b0 : (t338 == 0) = false := beq_eq_false_iff_ne.mpr c32
                have c32b1 : (t338 != 0) = true := bne_iff_ne.mpr c32
                obtain rfl := Option.some.inj H
                have hnb39 := NB344_340.out
                have hnc39 := NB340_344.out
                have hcz40_0 : wc.cell? ⟨gb344, 0, none⟩ = some (.int .i64 t342) := (blk_cell BK344.out 0).trans rfl
                have hcz40_1 : wc.cell? ⟨gb344, 1, none⟩ = some (.int .i64 t343) := (blk_cell BK344.out 1).trans rfl
                have hfz40_0 := blk_frozen BK344.out 0
                have hfz40_1 := blk_frozen BK344.out 1
                go_wp2_with (first | (go_at_call 16; (with_reducible refine (impl_NumberText.calls t343 t349 t350 _ A30.out).mono ?_); rintro e w41 ⟨rfl, hb⟩; have n0_ := Aside0.mk (blk_below (g := gb340) (o := .cells #[.int .i64 t338, .string t339] 23 (0, 0)) (by (with_reducible repeat (first | refine blk_drewN ?_ _ | refine blk_drew ?_ | refine blk_alloc ?_ _)); exact BK340.out) hb); have n1_ := Aside0.mk (blk_below (g := gb344) (o := .cells #[.int .i64 t342, .int .i64 t343] 28 (0, 0)) (by (with_reducible repeat (first | refine blk_drewN ?_ _ | refine blk_drew ?_ | refine blk_alloc ?_ _)); exact BK344.out) hb); have n2_ := Aside0.mk (below_step (by repeat (first | (with_reducible first | exact HB.out | apply below_alloc | apply pw_below_drewN | apply below_drew1 | refine below_set ?_ GE340.out | refine below_set ?_ GE344.out) | exact HB.out)) hb); clear BK340; clear BK344; clear HB; have BK340 := n0_; have BK344 := n1_; have HB := n2_; clear n0_ n1_ n2_; (try clear hb); (try clear hb2); (try clear hgw); (try clear hk); (try clear hi); have hcz42_0 : w41.cell? ⟨gb340, 0, none⟩ = some (.int .i64 t338) := (blk_cell BK340.out 0).trans rfl; have hcz42_1 : w41.cell? ⟨gb340, 1, none⟩ = some (.string t339) := (blk_cell BK340.out 1).trans rfl; have hfz42_0 := blk_frozen BK340.out 0; have hfz42_1 := blk_frozen BK340.out 1))
                go_ret
                exact ⟨by first | rfl | (simp [errW_none, errW_some] <;> rfl) | (simp [*, errW_none, errW_some] <;> rfl), by repeat (first | (with_reducible first | exact HB.out | apply below_alloc | apply pw_below_drewN | apply below_drew1 | refine below_set ?_ GE340.out | refine below_set ?_ GE344.out) | exact HB.out)⟩
            · rw [if_neg c31] at H
              have c31b0 : (t350.toList == t341.toList) = false := beq_eq_false_iff_ne.mpr c31
              have c31b1 : (t350.toList != t341.toList) = true := bne_iff_ne.mpr c31
              exact absurd ((Option.some.inj H).trans ht_) Bool.false_ne_true
          · rw [if_neg c29] at H
            have c29b0 : (t342 == 0) = false := beq_eq_false_iff_ne.mpr c29
            have c29b1 : (t342 != 0) = true := bne_iff_ne.mpr c29
            by_cases c43 : t338 = 0
            · rw [if_pos c43] at H
              have c43b0 : (t338 == 0) = true := beq_iff_eq.mpr c43
              have c43b1 : (t338 != 0) = false := bne_eq_false_iff_eq.mpr c43
              clear c43
              replace H := Option.bind_eq_some_iff.mp H
              obtain ⟨⟨t353, t354⟩, A440, H⟩ := H
              replace H : (some (t353 == 0 && (t354 == t337))) = some r := H
              have A44 := Aside0.mk A440
              clear A440
              obtain rfl := Option.some.inj H
              have hnb45 := NB344_340.out
              have hnc45 := NB340_344.out
              have hcz46_0 : wc.cell? ⟨gb344, 0, none⟩ = some (.int .i64 t342) := (blk_cell BK344.out 0).trans rfl
              have hcz46_1 : wc.cell? ⟨gb344, 1, none⟩ = some (.int .i64 t343) := (blk_cell BK344.out 1).trans rfl
              have hfz46_0 := blk_frozen BK344.out 0
              have hfz46_1 := blk_frozen BK344.out 1
              have hcz47_0 : wc.cell? ⟨gb340, 0, none⟩ = some (.int .i64 t338) := (blk_cell BK340.out 0).trans rfl
              have hcz47_1 : wc.cell? ⟨gb340, 1, none⟩ = some (.string t339) := (blk_cell BK340.out 1).trans rfl
              have hfz47_0 := blk_frozen BK340.out 0
              have hfz47_1 := blk_frozen BK340.out 1
              go_wp2_with (first | (go_at_call 19; (with_reducible refine (impl_NumberOf.calls t339 t353 t354 _ A44.out).mono ?_); rintro e w48 ⟨rfl, hb⟩; have n0_ := Aside0.mk (blk_below (g := gb340) (o := .cells #[.int .i64 t338, .string t339] 23 (0, 0)) (by (with_reducible repeat (first | refine blk_drewN ?_ _ | refine blk_drew ?_ | refine blk_alloc ?_ _)); exact BK340.out) hb); have n1_ := Aside0.mk (blk_below (g := gb344) (o := .cells #[.int .i64 t342, .int .i64 t343] 28 (0, 0)) (by (with_reducible repeat (first | refine blk_drewN ?_ _ | refine blk_drew ?_ | refine blk_alloc ?_ _)); exact BK344.out) hb); have n2_ := Aside0.mk (below_step (by repeat (first | (with_reducible first | exact HB.out | apply below_alloc | apply pw_below_drewN | apply below_drew1 | refine below_set ?_ GE340.out | refine below_set ?_ GE344.out) | exact HB.out)) hb); clear BK340; clear BK344; clear HB; have BK340 := n0_; have BK344 := n1_; have HB := n2_; clear n0_ n1_ n2_; (try clear hb); (try clear hb2); (try clear hgw); (try clear hk); (try clear hi)))
              go_ret
              exact ⟨by first | rfl | (simp [errW_none, errW_some] <;> rfl) | (simp [*, errW_none, errW_some] <;> rfl), by repeat (first | (with_reducible first | exact HB.out | apply below_alloc | apply pw_below_drewN | apply below_drew1 | refine below_set ?_ GE340.out | refine below_set ?_ GE344.out) | exact HB.out)⟩
            · rw [if_neg c43] at H
              have c43b0 : (t338 == 0) = false := beq_eq_false_iff_ne.mpr c43
              have c43b1 : (t338 != 0) = true := bne_iff_ne.mpr c43
              obtain rfl := Option.some.inj H
              have hnb49 := NB344_340.out
              have hnc49 := NB340_344.out
              have hcz50_0 : wc.cell? ⟨gb344, 0, none⟩ = some (.int .i64 t342) := (blk_cell BK344.out 0).trans rfl
              have hcz50_1 : wc.cell? ⟨gb344, 1, none⟩ = some (.int .i64 t343) := (blk_cell BK344.out 1).trans rfl
              have hfz50_0 := blk_frozen BK344.out 0
              have hfz50_1 := blk_frozen BK344.out 1
              have hcz51_0 : wc.cell? ⟨gb340, 0, none⟩ = some (.int .i64 t338) := (blk_cell BK340.out 0).trans rfl
              have hcz51_1 : wc.cell? ⟨gb340, 1, none⟩ = some (.string t339) := (blk_cell BK340.out 1).trans rfl
              have hfz51_0 := blk_frozen BK340.out 0
              have hfz51_1 := blk_frozen BK340.out 1
              go_wp2
              go_ret
              exact ⟨by first | rfl | (simp [errW_none, errW_some] <;> rfl) | (simp [*, errW_none, errW_some] <;> rfl), by repeat (first | (with_reducible first | exact HB.out | apply below_alloc | apply pw_below_drewN | apply below_drew1 | refine below_set ?_ GE340.out | refine below_set ?_ GE344.out) | exact HB.out)⟩
end Go.Proofs.YtedkbpbodkmhlaaDoor.P
