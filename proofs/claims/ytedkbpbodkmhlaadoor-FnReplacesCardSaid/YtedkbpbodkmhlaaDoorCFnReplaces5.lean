/- A part of the proof of the law FnReplaces. -/
import Derived.Laws.StructEq
import Derived.Test.YtedkbpbodkmhlaaDoorCFnReplaces0
import Derived.Test.YtedkbpbodkmhlaaDoorCFnReplaces1
import Derived.Test.YtedkbpbodkmhlaaDoorCFnReplaces2
namespace Go.Proofs.YtedkbpbodkmhlaaDoor.P
open Go.RowKit Go.Proofs.YtedkbpbodkmhlaaDoorW.PrintWords Go.Proofs.YtedkbpbodkmhlaaDoorW.PrintLast Go.Proofs.YtedkbpbodkmhlaaDoorW.PrintMore
attribute [local go_sem] max2_int min2_int max_two min_two max_three min_three max_four min_four   -- for this text's walks alone
set_option linter.unusedVariables false
set_option linter.unusedSimpArgs false
mutual
def spec_l3Draw.j0 : Nat → List (S42) → Int → Int → Bool → List Int → Int → Option (List Int × Int)
 | 0, _, _, _, _, _, _ => none
 | k + 1, x1, x2, x3, x28, x1000, x1001 => if x28 = true then ((spec_l1Next.f x1000 x1001 x3).bind fun bt907 => (some ((([wrap64 ((-1) - bt907.1)] : List Int)), bt907.2))) else (if 0 < (x1.length : Int) then ((spec_l1Next.f x1000 x1001 (((rd_T42 x1 0).f0).length : Int)).bind fun bt914 => (spec_l3Draw.l0 k x1 x2 x3 (((rd_T42 x1 0).f0).length : Int) bt914.1 0 x1000 bt914.2)) else (none))
def spec_l3Draw.j2 : Nat → List (S42) → Int → Int → Int → Int → List Int → Int → Option (List Int × Int)
 | 0, _, _, _, _, _, _, _ => none
 | k + 1, x1, x2, x3, x9, x10, x1000, x1001 => if x2 < 2 then (spec_l3Draw.l1 k x1 x2 x3 x9 x10 0 x1000 x1001) else (spec_l3Draw.j4 k x1 x2 x3 x10 x1000 x1001)
def spec_l3Draw.j4 : Nat → List (S42) → Int → Int → Int → List Int → Int → Option (List Int × Int)
 | 0, _, _, _, _, _, _ => none
 | k + 1, x1, x2, x3, x10, x1000, x1001 => (some (([x10] : List Int) : List Int)).bind fun y922 => (if 0 < (x1.length : Int) then (if 0 ≤ x10 then (if x10 < (((rd_T42 x1 0).f0).length : Int) then (if ((rd_T99 ((rd_T42 x1 0).f0) x10).f1) = 1 then ((spec_l3Draw.f k x1000 x1001 x1 (wrap64 (x2 - 1)) x3).bind fun bt928 => (if y922.length + bt928.1.length < 17592186044416 then (some ((y922 ++ bt928.1), bt928.2)) else (none))) else (if ((rd_T99 ((rd_T42 x1 0).f0) x10).f1) = 2 then ((spec_l3Draw.f k x1000 x1001 x1 (wrap64 (x2 - 2)) x3).bind fun bt935 => (if y922.length + bt935.1.length < 17592186044416 then ((some (y922 ++ bt935.1 : List Int)).bind fun y939 => ((spec_l3Draw.f k x1000 bt935.2 x1 (wrap64 ((wrap64 (x2 - 1)) - (bt935.1.length : Int))) x3).bind fun bt942 => (if y939.length + bt942.1.length < 17592186044416 then (some ((y939 ++ bt942.1), bt942.2)) else (none)))) else (none))) else (some (y922, x1001)))) else (none)) else (none)) else (none))
def spec_l3Draw.l1 : Nat → List (S42) → Int → Int → Int → Int → Int → List Int → Int → Option (List Int × Int)
 | 0, _, _, _, _, _, _, _, _ => none
 | k + 1, x1, x2, x3, x9, x10, x12, x1000, x1001 => if x12 < x9 then (if 0 < (x1.length : Int) then (if 0 ≤ x10 then (if x10 < (((rd_T42 x1 0).f0).length : Int) then (if ((rd_T99 ((rd_T42 x1 0).f0) x10).f1) > 0 then (if x9 = 0 then (none) else (spec_l3Draw.l1 k x1 x2 x3 x9 (Int.tmod (wrap64 (x10 + 1)) x9) (wrap64 (x12 + 1)) x1000 x1001)) else (spec_l3Draw.j4 k x1 x2 x3 x10 x1000 x1001)) else (none)) else (none)) else (none)) else (spec_l3Draw.j4 k x1 x2 x3 x10 x1000 x1001)
def spec_l3Draw.l0 : Nat → List (S42) → Int → Int → Int → Int → Int → List Int → Int → Option (List Int × Int)
 | 0, _, _, _, _, _, _, _, _ => none
 | k + 1, x1, x2, x3, x9, x10, x11, x1000, x1001 => if x11 < x9 then (if 0 < (x1.length : Int) then (if 0 ≤ x10 then (if x10 < (((rd_T42 x1 0).f0).length : Int) then (if ((rd_T99 ((rd_T42 x1 0).f0) x10).f1) ≥ x2 then (if x9 = 0 then (none) else (spec_l3Draw.l0 k x1 x2 x3 x9 (Int.tmod (wrap64 (x10 + 1)) x9) (wrap64 (x11 + 1)) x1000 x1001)) else (spec_l3Draw.j2 k x1 x2 x3 x9 x10 x1000 x1001)) else (none)) else (none)) else (none)) else (spec_l3Draw.j2 k x1 x2 x3 x9 x10 x1000 x1001)
def spec_l3Draw.f : Nat → List Int → Int → List (S42) → Int → Int → Option (List Int × Int)
 | 0, _, _, _, _, _ => none
 | k + 1, s0_0, s0_1, l1, a2, a3 => if a3 > 0 then (if a2 < 2 then ((spec_l1Chance.f s0_0 s0_1 2).bind fun bt901 => (if bt901.1 = true then (spec_l3Draw.j0 k l1 a2 a3 true s0_0 bt901.2) else ((spec_l1Chance.f s0_0 bt901.2 4).bind fun bt903 => (spec_l3Draw.j0 k l1 a2 a3 bt903.1 s0_0 bt903.2)))) else ((spec_l1Chance.f s0_0 s0_1 4).bind fun bt905 => (spec_l3Draw.j0 k l1 a2 a3 bt905.1 s0_0 bt905.2))) else (spec_l3Draw.j0 k l1 a2 a3 false s0_0 s0_1)
end
set_option maxHeartbeats 8000000 in
set_option maxRecDepth 100000 in
theorem spec_l3Draw.calls (k : Nat) : ∀ (g : Nat) (s0_0 : List Int) (s0_1 : Int) (A1 : Option Addr) (l1 : List (S42)) (a2 : Int) (a3 : Int) (r1 : List Int) (r2 : Int) (w0 w : World) (hI : IsS148 w0 w g s0_0 s0_1) (hB : Below w0.heap.size w0 w) (hr1 : ∀ W_, KeepBut w W_ g none → Kd.C k42 W_ A1 l1.length l1) (h : spec_l3Draw.f k s0_0 s0_1 l1 a2 a3 = some (r1, r2)),
  Calls Tryd.prog 145 #[.pointer (some ⟨g, 0, none⟩), .pointer A1, .int .i64 a2, .int .i64 a3] w fun e w' => ∃ v0_ : Value, e = .returned (v0_) ∧ Kd.R (Kd.int .i64) 2 w' w.heap.size (fun _ => True) v0_ r1 ∧ IsS148 w0 w' g s0_0 r2 ∧ Below w0.heap.size w0 w' ∧ KeepBut w w' g none := by
 induction k using Nat.strongRecOn with
 | _ k ih =>
 intro g s0_0 s0_1 A1 l1 a2 a3 r1 r2 w0 w hI hB hr1 h
 cases k with
 | zero => exact absurd h (by simp [spec_l3Draw.f])
 | succ k =>
 simp only [spec_l3Draw.f] at h
 have HR1 := Aside0.mk hr1
 clear hr1
 have HI0 := Aside0.mk hI
 have HK := Aside0.mk (KeepBut.refl w g none)
 have HL := Aside0.mk hB.size
 clear hI
 have HW0 := Aside0.mk hB.size
 have HB := Aside0.mk hB
 clear hB
 have H : (if a3 > 0 then (if a2 < 2 then ((spec_l1Chance.f s0_0 s0_1 2).bind fun bt901 => (if bt901.1 = true then (spec_l3Draw.j0 k l1 a2 a3 true s0_0 bt901.2) else ((spec_l1Chance.f s0_0 bt901.2 4).bind fun bt903 => (spec_l3Draw.j0 k l1 a2 a3 bt903.1 s0_0 bt903.2)))) else ((spec_l1Chance.f s0_0 s0_1 4).bind fun bt905 => (spec_l3Draw.j0 k l1 a2 a3 bt905.1 s0_0 bt905.2))) else (spec_l3Draw.j0 k l1 a2 a3 false s0_0 s0_1)) = some (r1, r2) := h
 clear h
 have HC5 := Aside0.mk H
 clear H
 go_enter Tryd.func145, Tryd.ntmps145
 go_upto_region 1 with (fail)
 go_cut [28] (fun v28 wc => ∃ (kq : Nat) (x28_4 : Bool) (x1001_4 : Int), v28 = .bool x28_4 ∧ Aside0 (spec_l3Draw.j0 kq l1 a2 a3 x28_4 s0_0 x1001_4 = some (r1, r2)) ∧ Aside0 (kq ≤ k) ∧ Aside0 (IsS148 w0 wc g s0_0 x1001_4) ∧ Aside0 (KeepBut w wc g none) ∧ Aside0 (Below w0.heap.size w0 wc))
 case first =>
  have H := HC5.out
  clear HC5
  by_cases c6 : a3 > 0
  ·rw [if_pos c6] at H
   have c6b0 : decide (0 < a3) = true := decide_eq_true c6
   clear c6
   (first | rw [c6b0] | (simp only [i64_w, i32_w]; rw [c6b0]) | skip)
   by_cases c7 : a2 < 2
   ·rw [if_pos c7] at H
    have c7b0 : decide (a2 < 2) = true := decide_eq_true c7
    clear c7
    replace H := Option.bind_eq_some_iff.mp H
    obtain ⟨⟨t901, t902⟩, A80, H⟩ := H
    replace H : (if t901 = true then (spec_l3Draw.j0 k l1 a2 a3 true s0_0 t902) else ((spec_l1Chance.f s0_0 t902 4).bind fun bt903 => (spec_l3Draw.j0 k l1 a2 a3 bt903.1 s0_0 bt903.2))) = some (r1, r2) := H
    have A8 := Aside0.mk A80
    clear A80
    by_cases c9 : t901 = true
    ·subst c9
     have H1 : (spec_l3Draw.j0 k l1 a2 a3 true s0_0 t902) = some (r1, r2) := by rw [if_pos rfl] at H; exact H
     clear H
     have H := H1
     clear H1
     have H' := Aside0.mk H
     clear H
     go_wp2_with (first | (go_at_call 86; (with_reducible refine (spec_l1Chance.calls g s0_0 s0_1 2 true t902 w0 _ ?side1 ?side2 A8.out).mono ?_); (case side1 => repeat (first | (with_reducible first | exact HI0.out | apply IsS148.alloc | apply IsS148.drewN | apply IsS148.drew | apply IsS148.set_1) | exact HI0.out)); (case side2 => repeat (first | (with_reducible first | exact HB.out | apply below_alloc | apply pw_below_drewN | apply below_drew1 | refine below_set ?_ (IsS148.ge HI0.out)) | exact HB.out)); rintro e w10 ⟨rfl, hi, hb, hk⟩; have n0_ := Aside0.mk (KeepBut.trans (by repeat (first | (with_reducible first | exact HK.out | apply KeepBut.set_ | apply keep_drewN | apply keep_drew | apply keep_alloc) | exact HK.out)) hk (.inl rfl)); have n1_ := Aside0.mk (hb); have n2_ := Aside0.mk (hi); clear HK; clear HB; clear HI0; have HK := n0_; have HB := n1_; have HI0 := n2_; clear n0_ n1_ n2_; (try clear hb); (try clear hb2); (try clear hgw); (try clear hk); (try clear hi)))
     go_meet
     case rel => exact ⟨_, (true), (t902), (by first | rfl | (simp; done) | (simp [*]; done)), H', ⟨by first | omega | exact Nat.le_refl _⟩, ⟨by repeat (first | (with_reducible first | exact HI0.out | apply IsS148.alloc | apply IsS148.drewN | apply IsS148.drew | apply IsS148.set_1) | exact HI0.out)⟩, ⟨by repeat (first | (with_reducible first | exact HK.out | apply KeepBut.set_ | apply keep_drewN | apply keep_drew | apply keep_alloc) | exact HK.out)⟩, ⟨by repeat (first | (with_reducible first | exact HB.out | apply below_alloc | apply pw_below_drewN | apply below_drew1 | refine below_set ?_ (IsS148.ge HI0.out)) | exact HB.out)⟩⟩
    ·replace c9 := Bool.eq_false_iff.mpr c9
     subst c9
     have H1 : ((spec_l1Chance.f s0_0 t902 4).bind fun bt903 => (spec_l3Draw.j0 k l1 a2 a3 bt903.1 s0_0 bt903.2)) = some (r1, r2) := by rw [if_neg (show ¬ (false = true) by decide)] at H; exact H
     clear H
     have H := H1
     clear H1
     replace H := Option.bind_eq_some_iff.mp H
     obtain ⟨⟨t903, t904⟩, A110, H⟩ := H
     replace H : (spec_l3Draw.j0 k l1 a2 a3 t903 s0_0 t904) = some (r1, r2) := H
     have A11 := Aside0.mk A110
     clear A110
     have H' := Aside0.mk H
     clear H
     go_wp2_with (first | (go_at_call 86; (with_reducible refine (spec_l1Chance.calls g s0_0 s0_1 2 false t902 w0 _ ?side1 ?side2 A8.out).mono ?_); (case side1 => repeat (first | (with_reducible first | exact HI0.out | apply IsS148.alloc | apply IsS148.drewN | apply IsS148.drew | apply IsS148.set_1) | exact HI0.out)); (case side2 => repeat (first | (with_reducible first | exact HB.out | apply below_alloc | apply pw_below_drewN | apply below_drew1 | refine below_set ?_ (IsS148.ge HI0.out)) | exact HB.out)); rintro e w12 ⟨rfl, hi, hb, hk⟩; have n0_ := Aside0.mk (KeepBut.trans (by repeat (first | (with_reducible first | exact HK.out | apply KeepBut.set_ | apply keep_drewN | apply keep_drew | apply keep_alloc) | exact HK.out)) hk (.inl rfl)); have n1_ := Aside0.mk (hb); have n2_ := Aside0.mk (hi); clear HK; clear HB; clear HI0; have HK := n0_; have HB := n1_; have HI0 := n2_; clear n0_ n1_ n2_; (try clear hb); (try clear hb2); (try clear hgw); (try clear hk); (try clear hi)) | (go_at_call 86; (with_reducible refine (spec_l1Chance.calls g s0_0 t902 4 t903 t904 w0 _ ?side1 ?side2 A11.out).mono ?_); (case side1 => repeat (first | (with_reducible first | exact HI0.out | apply IsS148.alloc | apply IsS148.drewN | apply IsS148.drew | apply IsS148.set_1) | exact HI0.out)); (case side2 => repeat (first | (with_reducible first | exact HB.out | apply below_alloc | apply pw_below_drewN | apply below_drew1 | refine below_set ?_ (IsS148.ge HI0.out)) | exact HB.out)); rintro e w13 ⟨rfl, hi, hb, hk⟩; have n0_ := Aside0.mk (KeepBut.trans (by repeat (first | (with_reducible first | exact HK.out | apply KeepBut.set_ | apply keep_drewN | apply keep_drew | apply keep_alloc) | exact HK.out)) hk (.inl rfl)); have n1_ := Aside0.mk (hb); have n2_ := Aside0.mk (hi); clear HK; clear HB; clear HI0; have HK := n0_; have HB := n1_; have HI0 := n2_; clear n0_ n1_ n2_; (try clear hb); (try clear hb2); (try clear hgw); (try clear hk); (try clear hi)))
     go_meet
     case rel => exact ⟨_, (t903), (t904), (by first | rfl | (simp; done) | (simp [*]; done)), H', ⟨by first | omega | exact Nat.le_refl _⟩, ⟨by repeat (first | (with_reducible first | exact HI0.out | apply IsS148.alloc | apply IsS148.drewN | apply IsS148.drew | apply IsS148.set_1) | exact HI0.out)⟩, ⟨by repeat (first | (with_reducible first | exact HK.out | apply KeepBut.set_ | apply keep_drewN | apply keep_drew | apply keep_alloc) | exact HK.out)⟩, ⟨by repeat (first | (with_reducible first | exact HB.out | apply below_alloc | apply pw_below_drewN | apply below_drew1 | refine below_set ?_ (IsS148.ge HI0.out)) | exact HB.out)⟩⟩
   ·rw [if_neg c7] at H
    have c7b0 : decide (a2 < 2) = false := decide_eq_false c7
    clear c7
    replace H := Option.bind_eq_some_iff.mp H
    obtain ⟨⟨t905, t906⟩, A140, H⟩ := H
    replace H : (spec_l3Draw.j0 k l1 a2 a3 t905 s0_0 t906) = some (r1, r2) := H
    have A14 := Aside0.mk A140
    clear A140
    have H' := Aside0.mk H
    clear H
    go_wp2_with (first | (go_at_call 86; (with_reducible refine (spec_l1Chance.calls g s0_0 s0_1 4 t905 t906 w0 _ ?side1 ?side2 A14.out).mono ?_); (case side1 => repeat (first | (with_reducible first | exact HI0.out | apply IsS148.alloc | apply IsS148.drewN | apply IsS148.drew | apply IsS148.set_1) | exact HI0.out)); (case side2 => repeat (first | (with_reducible first | exact HB.out | apply below_alloc | apply pw_below_drewN | apply below_drew1 | refine below_set ?_ (IsS148.ge HI0.out)) | exact HB.out)); rintro e w15 ⟨rfl, hi, hb, hk⟩; have n0_ := Aside0.mk (KeepBut.trans (by repeat (first | (with_reducible first | exact HK.out | apply KeepBut.set_ | apply keep_drewN | apply keep_drew | apply keep_alloc) | exact HK.out)) hk (.inl rfl)); have n1_ := Aside0.mk (hb); have n2_ := Aside0.mk (hi); clear HK; clear HB; clear HI0; have HK := n0_; have HB := n1_; have HI0 := n2_; clear n0_ n1_ n2_; (try clear hb); (try clear hb2); (try clear hgw); (try clear hk); (try clear hi)))
    go_meet
    case rel => exact ⟨_, (t905), (t906), (by first | rfl | (simp; done) | (simp [*]; done)), H', ⟨by first | omega | exact Nat.le_refl _⟩, ⟨by repeat (first | (with_reducible first | exact HI0.out | apply IsS148.alloc | apply IsS148.drewN | apply IsS148.drew | apply IsS148.set_1) | exact HI0.out)⟩, ⟨by repeat (first | (with_reducible first | exact HK.out | apply KeepBut.set_ | apply keep_drewN | apply keep_drew | apply keep_alloc) | exact HK.out)⟩, ⟨by repeat (first | (with_reducible first | exact HB.out | apply below_alloc | apply pw_below_drewN | apply below_drew1 | refine below_set ?_ (IsS148.ge HI0.out)) | exact HB.out)⟩⟩
  ·rw [if_neg c6] at H
   have c6b0 : decide (0 < a3) = false := decide_eq_false c6
   clear c6
   (first | rw [c6b0] | (simp only [i64_w, i32_w]; rw [c6b0]) | skip)
   have H' := Aside0.mk H
   clear H
   go_wp2
   go_meet
   case rel => exact ⟨_, (false), (s0_1), (by first | rfl | (simp; done) | (simp [*]; done)), H', ⟨by first | omega | exact Nat.le_refl _⟩, ⟨by repeat (first | (with_reducible first | exact HI0.out | apply IsS148.alloc | apply IsS148.drewN | apply IsS148.drew | apply IsS148.set_1) | exact HI0.out)⟩, ⟨by repeat (first | (with_reducible first | exact HK.out | apply KeepBut.set_ | apply keep_drewN | apply keep_drew | apply keep_alloc) | exact HK.out)⟩, ⟨by repeat (first | (with_reducible first | exact HB.out | apply below_alloc | apply pw_below_drewN | apply below_drew1 | refine below_set ?_ (IsS148.ge HI0.out)) | exact HB.out)⟩⟩
 case rest =>
  clear HC5
  try clear c1
  try clear p2
  try clear c6
  try clear c6b0
  try clear c7
  try clear c7b0
  try clear c9
  try clear c14
  obtain ⟨kq, x28_4, x1001_4, rfl, HA, HJ4, HI0, HK, HB⟩ := hcut
  cases kq with
  | zero => exact absurd HA.out (by simp [spec_l3Draw.j0])
  | succ kj4 =>
   have H := HA.out
   clear HA
   simp only [spec_l3Draw.j0] at H
   by_cases c16 : x28_4 = true
   ·subst c16
    have H1 : ((spec_l1Next.f s0_0 x1001_4 a3).bind fun bt907 => (some ((([wrap64 ((-1) - bt907.1)] : List Int)), bt907.2))) = some (r1, r2) := by rw [if_pos rfl] at H; exact H
    clear H
    have H := H1
    clear H1
    replace H := Option.bind_eq_some_iff.mp H
    obtain ⟨⟨t907, t908⟩, A170, H⟩ := H
    replace H : (some ((([wrap64 ((-1) - t907)] : List Int)), t908)) = some (r1, r2) := H
    have A17 := Aside0.mk A170
    clear A170
    obtain ⟨y909, hy909⟩ : ∃ y_ : List Int, y_ = (([wrap64 ((-1) - t907)] : List Int)) := ⟨_, rfl⟩
    replace H : (some (y909, t908)) = some (r1, r2) := by first | (rw [hy909]; with_reducible exact H) | (have H2_ := (Option.bind_some _ _).symm.trans H; rw [hy909]; with_reducible exact H2_) | (have H2_ := (Option.bind_some _ _).symm.trans H; with_reducible exact H2_) | with_reducible exact H | (rw [hy909]; exact H) | exact H
    have Ny909 := Aside0.mk hy909
    clear hy909
    simp only [Option.some.injEq, Prod.mk.injEq] at H
    obtain ⟨rfl, rfl⟩ := H
    go_wp2_with (first | ((with_reducible refine gate_callee (f := 85) rfl ?_); refine goesL_ (some 31) rfl rfl Tryd.func85 (by kernel_rfl) rfl #[.pointer (some ⟨g, 0, none⟩), .int .i64 a3] rfl (by (try simp only [List.map_toArray, List.map_cons, List.map_nil]); first | done | rfl | (simp only [List.length_drop, List.length_take]; rfl)) ?_; (with_reducible refine (spec_l1Next.calls g s0_0 x1001_4 a3 t907 t908 w0 _ ?side1 ?side2 A17.out).mono ?_); (case side1 => repeat (first | (with_reducible first | exact HI0.out | apply IsS148.alloc | apply IsS148.drewN | apply IsS148.drew | apply IsS148.set_1) | exact HI0.out)); (case side2 => repeat (first | (with_reducible first | exact HB.out | apply below_alloc | apply pw_below_drewN | apply below_drew1 | refine below_set ?_ (IsS148.ge HI0.out)) | exact HB.out)); rintro e w18 ⟨rfl, hi, hb, hk⟩; refine ⟨_, rfl, ?_⟩; have n0_ := Aside0.mk (KeepBut.trans (by repeat (first | (with_reducible first | exact HK.out | apply KeepBut.set_ | apply keep_drewN | apply keep_drew | apply keep_alloc) | exact HK.out)) hk (.inl rfl)); have n1_ := Aside0.mk (hb); have n2_ := Aside0.mk (hi); clear HK; clear HB; clear HI0; have HK := n0_; have HB := n1_; have HI0 := n2_; clear n0_ n1_ n2_; (try clear hb); (try clear hb2); (try clear hgw); (try clear hk); (try clear hi)) | ((with_reducible refine gate_dst (N := 33) rfl ?_); refine Kd.R_lit (Kd.int .i64) _ 2 ?hg (N := 33) ?hd (xs := ([wrap64 ((-1) - t907)] : List Int)) (inner := [.int .i64 (wrap64 ((-1) - t907))]) (ok := fun _ => True) (okp := fun _ => True) ?hr ?hp (fun _ hk => hk) trivial (Below.refl _ _) (Nat.le_refl _) (by simp) ?_; (case hd => rfl); (case hg => rfl); (case hr => first | (go_simp; done) | (go_simp; rfl)); (case hp => exact (Reps.one (show Kd.M (Kd.int .i64) _ _ _ (wrap64 ((-1) - t907)) [.int .i64 (wrap64 ((-1) - t907))] from rfl) (Reps.none _ _))); intro v910 w19 ho20 hb hg_ hnew_; clear hg_ hnew_; (first | rw [← Ny909.out] at ho20 | (simp only [Int.reduceToNat] at ho20; rw [← Ny909.out] at ho20)); have n0_ := Aside0.mk (Kd.R_lower ho20 (keep_size (w := w) (g := g) (row := none) (by repeat (first | (with_reducible first | exact HK.out | apply KeepBut.set_ | apply keep_drewN | apply keep_drew | apply keep_alloc) | exact HK.out)))); have n1_ := Aside0.mk (IsS148.below (by repeat (first | (with_reducible first | exact HI0.out | apply IsS148.alloc | apply IsS148.drewN | apply IsS148.drew | apply IsS148.set_1) | exact HI0.out)) hb); have n2_ := Aside0.mk (KeepBut.trans (by repeat (first | (with_reducible first | exact HK.out | apply KeepBut.set_ | apply keep_drewN | apply keep_drew | apply keep_alloc) | exact HK.out)) (KeepBut.of_below hb g none) (.inl rfl)); have n3_ := Aside0.mk (below_step (by repeat (first | (with_reducible first | exact HB.out | apply below_alloc | apply pw_below_drewN | apply below_drew1 | refine below_set ?_ (IsS148.ge HI0.out)) | exact HB.out)) hb); clear HI0; clear HK; clear HB; have HO911 := n0_; have HI0 := n1_; have HK := n2_; have HB := n3_; clear n0_ n1_ n2_ n3_; clear hb ho20))
    go_ret
    exact ⟨_, by first | rfl | (simp [errW_none, errW_some] <;> rfl) | (simp [*, errW_none, errW_some] <;> rfl), by (with_reducible repeat (first | apply Kd.R_alloc | apply Kd.R_drewN | apply Kd.R_drew)); exact HO911.out, by repeat (first | (with_reducible first | exact HI0.out | apply IsS148.alloc | apply IsS148.drewN | apply IsS148.drew | apply IsS148.set_1) | exact HI0.out), by repeat (first | (with_reducible first | exact HB.out | apply below_alloc | apply pw_below_drewN | apply below_drew1 | refine below_set ?_ (IsS148.ge HI0.out)) | exact HB.out), by repeat (first | (with_reducible first | exact HK.out | apply KeepBut.set_ | apply keep_drewN | apply keep_drew | apply keep_alloc) | exact HK.out)⟩
   ·replace c16 := Bool.eq_false_iff.mpr c16
    subst c16
    have H1 : (if 0 < (l1.length : Int) then ((spec_l1Next.f s0_0 x1001_4 (((rd_T42 l1 0).f0).length : Int)).bind fun bt914 => (spec_l3Draw.l0 kj4 l1 a2 a3 (((rd_T42 l1 0).f0).length : Int) bt914.1 0 s0_0 bt914.2)) else (none)) = some (r1, r2) := by rw [if_neg (show ¬ (false = true) by decide)] at H; exact H
    clear H
    have H := H1
    clear H1
    by_cases c21 : 0 < (l1.length : Int)
    ·rw [if_pos c21] at H
     have c21b0 : decide (0 < (l1.length : Int)) = true := decide_eq_true c21
     have c21b1 : decide (0 < l1.length) = true := decide_eq_true (by omega)
     clear c21
     replace H := Option.bind_eq_some_iff.mp H
     obtain ⟨⟨t914, t915⟩, A220, H⟩ := H
     replace H : (spec_l3Draw.l0 kj4 l1 a2 a3 (((rd_T42 l1 0).f0).length : Int) t914 0 s0_0 t915) = some (r1, r2) := H
     have A22 := Aside0.mk A220
     clear A220
     have HC23 := Aside0.mk H
     clear H
     have p912 : 0 ≤ (0 : Int) := (by omega)
     have q912 : 0 < (l1.length : Int) := of_decide_eq_true (by first | (with_reducible assumption) | assumption)
     obtain ⟨ad912, A912_0, c912_0, e912, hx912_0, hl912_0, hi912_0⟩ := at_T42 (Kd.C_foot_now HR1.out HK.out) 0 p912 q912
     cases e912
     have qi912 : (0 < l1.length) = True := eq_true (by omega)
     (try rw [show ((0 : Int)).toNat = 0 from rfl] at hx912_0)
     (try rw [Addr.add_zero'] at hx912_0)
     have HR912_0 := Aside0.mk hi912_0
     have HC912_0 := Aside0.mk hl912_0
     clear hi912_0 hl912_0
     replace p912 := eq_true p912
     replace q912 := eq_true q912
     have p913 : 0 ≤ (0 : Int) := (by omega)
     have q913 : 0 < (l1.length : Int) := of_decide_eq_true (by first | (with_reducible assumption) | assumption)
     obtain ⟨ad913, A913_0, c913_0, e913, hx913_0, hl913_0, hi913_0⟩ := at_T42 (Kd.C_foot_now HR1.out HK.out) 0 p913 q913
     obtain rfl : ad912 = ad913 := (by injection e913)
     have qi913 : (0 < l1.length) = True := eq_true (by omega)
     (try rw [show ((0 : Int)).toNat = 0 from rfl] at hx913_0)
     (try rw [Addr.add_zero'] at hx913_0)
     have HR913_0 := Aside0.mk hi913_0
     have HC913_0 := Aside0.mk hl913_0
     clear hi913_0 hl913_0
     replace p913 := eq_true p913
     replace q913 := eq_true q913
     have ea_ := Option.some.inj (hx912_0.symm.trans hx913_0)
     injection ea_ with ea_ en_ ec_
     subst ea_
     subst ec_
     clear en_
     go_upto_block 0 with (first | ((with_reducible refine gate_callee (f := 85) rfl ?_); refine goesL_ (some 41) rfl rfl Tryd.func85 (by kernel_rfl) rfl #[.pointer (some ⟨g, 0, none⟩), .int .i64 (((rd_T42 l1 0).f0).length : Int)] rfl (by (try simp only [List.map_toArray, List.map_cons, List.map_nil]); first | done | rfl | (simp only [List.length_drop, List.length_take]; rfl)) ?_; (with_reducible refine (spec_l1Next.calls g s0_0 x1001_4 (((rd_T42 l1 0).f0).length : Int) t914 t915 w0 _ ?side1 ?side2 A22.out).mono ?_); (case side1 => repeat (first | (with_reducible first | exact HI0.out | apply IsS148.alloc | apply IsS148.drewN | apply IsS148.drew | apply IsS148.set_1) | exact HI0.out)); (case side2 => repeat (first | (with_reducible first | exact HB.out | apply below_alloc | apply pw_below_drewN | apply below_drew1 | refine below_set ?_ (IsS148.ge HI0.out)) | exact HB.out)); rintro e w24 ⟨rfl, hi, hb, hk⟩; refine ⟨_, rfl, ?_⟩; have n0_ := Aside0.mk (KeepBut.trans (by repeat (first | (with_reducible first | exact HK.out | apply KeepBut.set_ | apply keep_drewN | apply keep_drew | apply keep_alloc) | exact HK.out)) hk (.inl rfl)); have n1_ := Aside0.mk (hb); have n2_ := Aside0.mk (hi); clear HK; clear HB; clear HI0; have HK := n0_; have HB := n1_; have HI0 := n2_; clear n0_ n1_ n2_; (try clear hb); (try clear hb2); (try clear hgw); (try clear hk); (try clear hi)))
     (try simp only [Act.put, List.setIfInBounds_toArray, List.set_cons_zero, List.set_cons_succ])
     go_cut [10] (fun v10 wc => ∃ (kq : Nat) (x10_22 : Int), v10 = .int .i64 x10_22 ∧ Aside0 (spec_l3Draw.j2 kq l1 a2 a3 (((rd_T42 l1 0).f0).length : Int) x10_22 s0_0 t915 = some (r1, r2)) ∧ Aside0 (kq ≤ kj4) ∧ Aside0 (IsS148 w0 wc g s0_0 t915) ∧ Aside0 (KeepBut w wc g none) ∧ Aside0 (Below w0.heap.size w0 wc))
     case first =>
      have H := HC23.out
      clear HC23
      have H' := Aside0.mk H
      clear H
      go_wp2
      go_loopg [10, 11] kj4 (fun kq v10 v11 w' => ∃ (x10_2 : Int) (x11_2 : Int), v10 = .int .i64 x10_2 ∧ v11 = .int .i64 x11_2 ∧ Aside0 (spec_l3Draw.l0 kq l1 a2 a3 (((rd_T42 l1 0).f0).length : Int) x10_2 x11_2 s0_0 t915 = some (r1, r2)) ∧ Aside0 (kq ≤ kj4) ∧ Aside0 (IsS148 w0 w' g s0_0 t915) ∧ Aside0 (KeepBut w w' g none) ∧ Aside0 (Below w0.heap.size w0 w'))
      case atStart => exact ⟨(t914), (0), (by first | rfl | (simp; done) | (simp [*]; done)), (by first | rfl | (simp; done) | (simp [*]; done)), H', ⟨Nat.le_refl _⟩, ⟨by repeat (first | (with_reducible first | exact HI0.out | apply IsS148.alloc | apply IsS148.drewN | apply IsS148.drew | apply IsS148.set_1) | exact HI0.out)⟩, ⟨by repeat (first | (with_reducible first | exact HK.out | apply KeepBut.set_ | apply keep_drewN | apply keep_drew | apply keep_alloc) | exact HK.out)⟩, ⟨by repeat (first | (with_reducible first | exact HB.out | apply below_alloc | apply pw_below_drewN | apply below_drew1 | refine below_set ?_ (IsS148.ge HI0.out)) | exact HB.out)⟩⟩
      case round =>
       clear H'
       try clear c1
       try clear c2
       try clear p2
       try clear c6
       try clear c6b0
       try clear p6
       try clear c7
       try clear c7b0
       try clear c8
       try clear c9
       try clear p9
       try clear q9
       try clear hx9
       try clear qi9
       try clear c14
       try clear c16
       try clear c21
       try clear c21b0
       try clear c21b1
       try clear hx912_0
       try clear hx913_0
       try clear p2
       try clear p912
       try clear p913
       try clear q912
       try clear q913
       obtain ⟨x10_2, x11_2, rfl, rfl, HA, HK2, HI0, HK, HB⟩ := hrel
       cases gk with
       | zero => exact absurd HA.out (by simp [spec_l3Draw.l0])
       | succ k2 =>
        have H := HA.out
        clear HA
        simp only [spec_l3Draw.l0] at H
        by_cases c25 : x11_2 < (((rd_T42 l1 0).f0).length : Int)
        ·rw [if_pos c25] at H
         have c25b0 : decide (x11_2 < (((rd_T42 l1 0).f0).length : Int)) = true := decide_eq_true c25
         clear c25
         (first | rw [c25b0] | (simp only [i64_w, i32_w]; rw [c25b0]) | skip)
         by_cases c26 : 0 < (l1.length : Int)
         ·rw [if_pos c26] at H
          have c26b0 : decide (0 < (l1.length : Int)) = true := decide_eq_true c26
          have c26b1 : decide (0 < l1.length) = true := decide_eq_true (by omega)
          clear c26
          by_cases c27 : 0 ≤ x10_2
          ·rw [if_pos c27] at H
           have c27b0 : decide (0 ≤ x10_2) = true := decide_eq_true c27
           clear c27
           by_cases c28 : x10_2 < (((rd_T42 l1 0).f0).length : Int)
           ·rw [if_pos c28] at H
            have c28b0 : decide (x10_2 < (((rd_T42 l1 0).f0).length : Int)) = true := decide_eq_true c28
            clear c28
            by_cases c29 : ((rd_T99 ((rd_T42 l1 0).f0) x10_2).f1) ≥ a2
            ·rw [if_pos c29] at H
             have c29b0 : decide (a2 ≤ ((rd_T99 ((rd_T42 l1 0).f0) x10_2).f1)) = true := decide_eq_true c29
             clear c29
             by_cases c30 : (((rd_T42 l1 0).f0).length : Int) = 0
             ·rw [if_pos c30] at H
              exact absurd H (by simp)
             ·rw [if_neg c30] at H
              have c30b0 : ((((rd_T42 l1 0).f0).length : Int) == 0) = false := beq_eq_false_iff_ne.mpr c30
              have c30b1 : ((((rd_T42 l1 0).f0).length : Int) != 0) = true := bne_iff_ne.mpr c30
              have c30b2 : ¬ (((rd_T42 l1 0).f0) = []) := fun h_ => c30 (by rw [h_]; rfl)
              have H' := Aside0.mk H
              clear H
              have p916 : 0 ≤ (0 : Int) := (by omega)
              have q916 : 0 < (l1.length : Int) := of_decide_eq_true (by first | (with_reducible assumption) | assumption)
              obtain ⟨ad916, A916_0, c916_0, e916, hx916_0, hl916_0, hi916_0⟩ := at_T42 (Kd.C_foot_now HR1.out HK.out) 0 p916 q916
              obtain rfl : ad912 = ad916 := (by injection e916)
              have qi916 : (0 < l1.length) = True := eq_true (by omega)
              (try rw [show ((0 : Int)).toNat = 0 from rfl] at hx916_0)
              (try rw [Addr.add_zero'] at hx916_0)
              have HR916_0 := Aside0.mk hi916_0
              have HC916_0 := Aside0.mk hl916_0
              clear hi916_0 hl916_0
              replace p916 := eq_true p916
              replace q916 := eq_true q916
              have p917 : 0 ≤ (0 : Int) := (by omega)
              have q917 : 0 < (l1.length : Int) := of_decide_eq_true (by first | (with_reducible assumption) | assumption)
              obtain ⟨ad917, A917_0, c917_0, e917, hx917_0, hl917_0, hi917_0⟩ := at_T42 (Kd.C_foot_now HR1.out HK.out) 0 p917 q917
              obtain rfl : ad912 = ad917 := (by injection e917)
              have qi917 : (0 < l1.length) = True := eq_true (by omega)
              (try rw [show ((0 : Int)).toNat = 0 from rfl] at hx917_0)
              (try rw [Addr.add_zero'] at hx917_0)
              have HR917_0 := Aside0.mk hi917_0
              have HC917_0 := Aside0.mk hl917_0
              clear hi917_0 hl917_0
              replace p917 := eq_true p917
              replace q917 := eq_true q917
              have ea_ := Option.some.inj (hx916_0.symm.trans hx917_0)
              injection ea_ with ea_ en_ ec_
              subst ea_
              subst ec_
              clear en_
              have p918 : 0 ≤ (x10_2 : Int) := of_decide_eq_true (by first | (with_reducible assumption) | assumption)
              have q918 : x10_2 < (((rd_T42 l1 0).f0).length : Int) := of_decide_eq_true (by first | (with_reducible assumption) | assumption)
              obtain ⟨ad918, e918, hx918_0, hx918_1⟩ := at_T99 (by repeat (first | (with_reducible exact HR917_0.out) | (with_reducible refine Kd.C_alloc ?_ _) | (with_reducible refine Kd.C_drewN ?_ _) | (with_reducible refine Kd.C_drew ?_) | exact HR917_0.out)) x10_2 p918 q918
              cases e918
              replace p918 := eq_true p918
              replace q918 := eq_true q918
              go_wp2
              go_roundg k2
              case measure => have := HJ4.out; have := HK2.out; omega
              case rel => exact ⟨(Int.tmod (wrap64 (x10_2 + 1)) (((rd_T42 l1 0).f0).length : Int)), (wrap64 (x11_2 + 1)), (by first | rfl | (simp; done) | (simp [*]; done)), (by first | rfl | (simp; done) | (simp [*]; done)), H', ⟨by have := HJ4.out; have := HK2.out; omega⟩, ⟨by repeat (first | (with_reducible first | exact HI0.out | apply IsS148.alloc | apply IsS148.drewN | apply IsS148.drew | apply IsS148.set_1) | exact HI0.out)⟩, ⟨by repeat (first | (with_reducible first | exact HK.out | apply KeepBut.set_ | apply keep_drewN | apply keep_drew | apply keep_alloc) | exact HK.out)⟩, ⟨by repeat (first | (with_reducible first | exact HB.out | apply below_alloc | apply pw_below_drewN | apply below_drew1 | refine below_set ?_ (IsS148.ge HI0.out)) | exact HB.out)⟩⟩
            ·rw [if_neg c29] at H
             have c29b0 : decide (a2 ≤ ((rd_T99 ((rd_T42 l1 0).f0) x10_2).f1)) = false := decide_eq_false c29
             clear c29
             have H' := Aside0.mk H
             clear H
             have p916 : 0 ≤ (0 : Int) := (by omega)
             have q916 : 0 < (l1.length : Int) := of_decide_eq_true (by first | (with_reducible assumption) | assumption)
             obtain ⟨ad916, A916_0, c916_0, e916, hx916_0, hl916_0, hi916_0⟩ := at_T42 (Kd.C_foot_now HR1.out HK.out) 0 p916 q916
             obtain rfl : ad912 = ad916 := (by injection e916)
             have qi916 : (0 < l1.length) = True := eq_true (by omega)
             (try rw [show ((0 : Int)).toNat = 0 from rfl] at hx916_0)
             (try rw [Addr.add_zero'] at hx916_0)
             have HR916_0 := Aside0.mk hi916_0
             have HC916_0 := Aside0.mk hl916_0
             clear hi916_0 hl916_0
             replace p916 := eq_true p916
             replace q916 := eq_true q916
             have p917 : 0 ≤ (0 : Int) := (by omega)
             have q917 : 0 < (l1.length : Int) := of_decide_eq_true (by first | (with_reducible assumption) | assumption)
             obtain ⟨ad917, A917_0, c917_0, e917, hx917_0, hl917_0, hi917_0⟩ := at_T42 (Kd.C_foot_now HR1.out HK.out) 0 p917 q917
             obtain rfl : ad912 = ad917 := (by injection e917)
             have qi917 : (0 < l1.length) = True := eq_true (by omega)
             (try rw [show ((0 : Int)).toNat = 0 from rfl] at hx917_0)
             (try rw [Addr.add_zero'] at hx917_0)
             have HR917_0 := Aside0.mk hi917_0
             have HC917_0 := Aside0.mk hl917_0
             clear hi917_0 hl917_0
             replace p917 := eq_true p917
             replace q917 := eq_true q917
             have ea_ := Option.some.inj (hx916_0.symm.trans hx917_0)
             injection ea_ with ea_ en_ ec_
             subst ea_
             subst ec_
             clear en_
             have p918 : 0 ≤ (x10_2 : Int) := of_decide_eq_true (by first | (with_reducible assumption) | assumption)
             have q918 : x10_2 < (((rd_T42 l1 0).f0).length : Int) := of_decide_eq_true (by first | (with_reducible assumption) | assumption)
             obtain ⟨ad918, e918, hx918_0, hx918_1⟩ := at_T99 (by repeat (first | (with_reducible exact HR917_0.out) | (with_reducible refine Kd.C_alloc ?_ _) | (with_reducible refine Kd.C_drewN ?_ _) | (with_reducible refine Kd.C_drew ?_) | exact HR917_0.out)) x10_2 p918 q918
             cases e918
             replace p918 := eq_true p918
             replace q918 := eq_true q918
             go_wp2
             go_meet
             case rel => exact ⟨_, (x10_2), (by first | rfl | (simp; done) | (simp [*]; done)), H', ⟨by have := HJ4.out; have := HK2.out; first | omega | exact Nat.le_refl _⟩, ⟨by repeat (first | (with_reducible first | exact HI0.out | apply IsS148.alloc | apply IsS148.drewN | apply IsS148.drew | apply IsS148.set_1) | exact HI0.out)⟩, ⟨by repeat (first | (with_reducible first | exact HK.out | apply KeepBut.set_ | apply keep_drewN | apply keep_drew | apply keep_alloc) | exact HK.out)⟩, ⟨by repeat (first | (with_reducible first | exact HB.out | apply below_alloc | apply pw_below_drewN | apply below_drew1 | refine below_set ?_ (IsS148.ge HI0.out)) | exact HB.out)⟩⟩
           ·rw [if_neg c28] at H
            exact absurd H (by simp)
          ·rw [if_neg c27] at H
           exact absurd H (by simp)
         ·rw [if_neg c26] at H
          exact absurd H (by simp)
        ·rw [if_neg c25] at H
         have c25b0 : decide (x11_2 < (((rd_T42 l1 0).f0).length : Int)) = false := decide_eq_false c25
         clear c25
         (first | rw [c25b0] | (simp only [i64_w, i32_w]; rw [c25b0]) | skip)
         have H' := Aside0.mk H
         clear H
         go_wp2
         go_meet
         case rel => exact ⟨_, (x10_2), (by first | rfl | (simp; done) | (simp [*]; done)), H', ⟨by have := HJ4.out; have := HK2.out; first | omega | exact Nat.le_refl _⟩, ⟨by repeat (first | (with_reducible first | exact HI0.out | apply IsS148.alloc | apply IsS148.drewN | apply IsS148.drew | apply IsS148.set_1) | exact HI0.out)⟩, ⟨by repeat (first | (with_reducible first | exact HK.out | apply KeepBut.set_ | apply keep_drewN | apply keep_drew | apply keep_alloc) | exact HK.out)⟩, ⟨by repeat (first | (with_reducible first | exact HB.out | apply below_alloc | apply pw_below_drewN | apply below_drew1 | refine below_set ?_ (IsS148.ge HI0.out)) | exact HB.out)⟩⟩
     case rest =>
      clear HC23
      try clear c1
      try clear c2
      try clear p2
      try clear c3
      try clear c6
      try clear c6b0
      try clear p6
      try clear c7
      try clear c7b0
      try clear c8
      try clear c9
      try clear p9
      try clear q9
      try clear hx9
      try clear qi9
      try clear c14
      try clear c16
      try clear c21
      try clear c21b0
      try clear c21b1
      try clear c25
      try clear c25b0
      try clear c26
      try clear c26b0
      try clear c26b1
      try clear c27
      try clear c27b0
      try clear c28
      try clear c28b0
      try clear c29
      try clear c29b0
      try clear c30
      try clear c30b0
      try clear c30b1
      try clear c30b2
      try clear hx912_0
      try clear hx913_0
      try clear hx916_0
      try clear hx917_0
      try clear hx918_0
      try clear hx918_1
      try clear p2
      try clear p6
      try clear p9
      try clear p912
      try clear p913
      try clear p916
      try clear p917
      try clear p918
      try clear q9
      try clear q912
      try clear q913
      try clear q916
      try clear q917
      try clear q918
      obtain ⟨kq, x10_22, rfl, HA, HJ22, HI0, HK, HB⟩ := hcut
      cases kq with
      | zero => exact absurd HA.out (by simp [spec_l3Draw.j2])
      | succ kj22 =>
       have H := HA.out
       clear HA
       simp only [spec_l3Draw.j2] at H
       have HC31 := Aside0.mk H
       clear H
       go_upto_if 64 with (fail)
       go_cut [10] (fun v10 wc => ∃ (kq : Nat) (x10_30 : Int), v10 = .int .i64 x10_30 ∧ Aside0 (spec_l3Draw.j4 kq l1 a2 a3 x10_30 s0_0 t915 = some (r1, r2)) ∧ Aside0 (kq ≤ kj22) ∧ Aside0 (IsS148 w0 wc g s0_0 t915) ∧ Aside0 (KeepBut w wc g none) ∧ Aside0 (Below w0.heap.size w0 wc))
       case first =>
        have H := HC31.out
        clear HC31
        by_cases c32 : a2 < 2
        ·rw [if_pos c32] at H
         have c32b0 : decide (a2 < 2) = true := decide_eq_true c32
         clear c32
         (first | rw [c32b0] | (simp only [i64_w, i32_w]; rw [c32b0]) | skip)
         have H' := Aside0.mk H
         clear H
         go_wp2
         go_loopg [10, 12] kj22 (fun kq v10 v12 w' => ∃ (x10_3 : Int) (x12_3 : Int), v10 = .int .i64 x10_3 ∧ v12 = .int .i64 x12_3 ∧ Aside0 (spec_l3Draw.l1 kq l1 a2 a3 (((rd_T42 l1 0).f0).length : Int) x10_3 x12_3 s0_0 t915 = some (r1, r2)) ∧ Aside0 (kq ≤ kj22) ∧ Aside0 (IsS148 w0 w' g s0_0 t915) ∧ Aside0 (KeepBut w w' g none) ∧ Aside0 (Below w0.heap.size w0 w'))
         case atStart => exact ⟨(x10_22), (0), (by first | rfl | (simp; done) | (simp [*]; done)), (by first | rfl | (simp; done) | (simp [*]; done)), H', ⟨Nat.le_refl _⟩, ⟨by repeat (first | (with_reducible first | exact HI0.out | apply IsS148.alloc | apply IsS148.drewN | apply IsS148.drew | apply IsS148.set_1) | exact HI0.out)⟩, ⟨by repeat (first | (with_reducible first | exact HK.out | apply KeepBut.set_ | apply keep_drewN | apply keep_drew | apply keep_alloc) | exact HK.out)⟩, ⟨by repeat (first | (with_reducible first | exact HB.out | apply below_alloc | apply pw_below_drewN | apply below_drew1 | refine below_set ?_ (IsS148.ge HI0.out)) | exact HB.out)⟩⟩
         case round =>
          clear H'
          try clear c1
          try clear c2
          try clear p2
          try clear c3
          try clear c6
          try clear c6b0
          try clear p6
          try clear c7
          try clear c7b0
          try clear c8
          try clear c9
          try clear p9
          try clear q9
          try clear hx9
          try clear qi9
          try clear c14
          try clear c16
          try clear c21
          try clear c21b0
          try clear c21b1
          try clear c25
          try clear c25b0
          try clear c26
          try clear c26b0
          try clear c26b1
          try clear c27
          try clear c27b0
          try clear c28
          try clear c28b0
          try clear c29
          try clear c29b0
          try clear c30
          try clear c30b0
          try clear c30b1
          try clear c30b2
          try clear c32
          try clear c32b0
          try clear hx912_0
          try clear hx913_0
          try clear hx916_0
          try clear hx917_0
          try clear hx918_0
          try clear hx918_1
          try clear p2
          try clear p6
          try clear p9
          try clear p912
          try clear p913
          try clear p916
          try clear p917
          try clear p918
          try clear q9
          try clear q912
          try clear q913
          try clear q916
          try clear q917
          try clear q918
          obtain ⟨x10_3, x12_3, rfl, rfl, HA, HK3, HI0, HK, HB⟩ := hrel
          cases gk with
          | zero => exact absurd HA.out (by simp [spec_l3Draw.l1])
          | succ k3 =>
           have H := HA.out
           clear HA
           simp only [spec_l3Draw.l1] at H
           by_cases c33 : x12_3 < (((rd_T42 l1 0).f0).length : Int)
           ·rw [if_pos c33] at H
            have c33b0 : decide (x12_3 < (((rd_T42 l1 0).f0).length : Int)) = true := decide_eq_true c33
            clear c33
            by_cases c34 : 0 < (l1.length : Int)
            ·rw [if_pos c34] at H
             have c34b0 : decide (0 < (l1.length : Int)) = true := decide_eq_true c34
             have c34b1 : decide (0 < l1.length) = true := decide_eq_true (by omega)
             clear c34
             by_cases c35 : 0 ≤ x10_3
             ·rw [if_pos c35] at H
              have c35b0 : decide (0 ≤ x10_3) = true := decide_eq_true c35
              clear c35
              by_cases c36 : x10_3 < (((rd_T42 l1 0).f0).length : Int)
              ·rw [if_pos c36] at H
               have c36b0 : decide (x10_3 < (((rd_T42 l1 0).f0).length : Int)) = true := decide_eq_true c36
               clear c36
               by_cases c37 : ((rd_T99 ((rd_T42 l1 0).f0) x10_3).f1) > 0
               ·rw [if_pos c37] at H
                have c37b0 : decide (0 < ((rd_T99 ((rd_T42 l1 0).f0) x10_3).f1)) = true := decide_eq_true c37
                clear c37
                by_cases c38 : (((rd_T42 l1 0).f0).length : Int) = 0
                ·rw [if_pos c38] at H
                 exact absurd H (by simp)
                ·rw [if_neg c38] at H
                 have c38b0 : ((((rd_T42 l1 0).f0).length : Int) == 0) = false := beq_eq_false_iff_ne.mpr c38
                 have c38b1 : ((((rd_T42 l1 0).f0).length : Int) != 0) = true := bne_iff_ne.mpr c38
                 have c38b2 : ¬ (((rd_T42 l1 0).f0) = []) := fun h_ => c38 (by rw [h_]; rfl)
                 have H' := Aside0.mk H
                 clear H
                 have p919 : 0 ≤ (0 : Int) := (by omega)
                 have q919 : 0 < (l1.length : Int) := of_decide_eq_true (by first | (with_reducible assumption) | assumption)
                 obtain ⟨ad919, A919_0, c919_0, e919, hx919_0, hl919_0, hi919_0⟩ := at_T42 (Kd.C_foot_now HR1.out HK.out) 0 p919 q919
                 obtain rfl : ad912 = ad919 := (by injection e919)
                 have qi919 : (0 < l1.length) = True := eq_true (by omega)
                 (try rw [show ((0 : Int)).toNat = 0 from rfl] at hx919_0)
                 (try rw [Addr.add_zero'] at hx919_0)
                 have HR919_0 := Aside0.mk hi919_0
                 have HC919_0 := Aside0.mk hl919_0
                 clear hi919_0 hl919_0
                 replace p919 := eq_true p919
                 replace q919 := eq_true q919
                 have p920 : 0 ≤ (0 : Int) := (by omega)
                 have q920 : 0 < (l1.length : Int) := of_decide_eq_true (by first | (with_reducible assumption) | assumption)
                 obtain ⟨ad920, A920_0, c920_0, e920, hx920_0, hl920_0, hi920_0⟩ := at_T42 (Kd.C_foot_now HR1.out HK.out) 0 p920 q920
                 obtain rfl : ad912 = ad920 := (by injection e920)
                 have qi920 : (0 < l1.length) = True := eq_true (by omega)
                 (try rw [show ((0 : Int)).toNat = 0 from rfl] at hx920_0)
                 (try rw [Addr.add_zero'] at hx920_0)
                 have HR920_0 := Aside0.mk hi920_0
                 have HC920_0 := Aside0.mk hl920_0
                 clear hi920_0 hl920_0
                 replace p920 := eq_true p920
                 replace q920 := eq_true q920
                 have ea_ := Option.some.inj (hx919_0.symm.trans hx920_0)
                 injection ea_ with ea_ en_ ec_
                 subst ea_
                 subst ec_
                 clear en_
                 have p921 : 0 ≤ (x10_3 : Int) := of_decide_eq_true (by first | (with_reducible assumption) | assumption)
                 have q921 : x10_3 < (((rd_T42 l1 0).f0).length : Int) := of_decide_eq_true (by first | (with_reducible assumption) | assumption)
                 obtain ⟨ad921, e921, hx921_0, hx921_1⟩ := at_T99 (by repeat (first | (with_reducible exact HR920_0.out) | (with_reducible refine Kd.C_alloc ?_ _) | (with_reducible refine Kd.C_drewN ?_ _) | (with_reducible refine Kd.C_drew ?_) | exact HR920_0.out)) x10_3 p921 q921
                 cases e921
                 replace p921 := eq_true p921
                 replace q921 := eq_true q921
                 go_wp2
                 go_roundg k3
                 case measure => have := HJ4.out; have := HJ22.out; have := HK3.out; omega
                 case rel => exact ⟨(Int.tmod (wrap64 (x10_3 + 1)) (((rd_T42 l1 0).f0).length : Int)), (wrap64 (x12_3 + 1)), (by first | rfl | (simp; done) | (simp [*]; done)), (by first | rfl | (simp; done) | (simp [*]; done)), H', ⟨by have := HJ4.out; have := HJ22.out; have := HK3.out; omega⟩, ⟨by repeat (first | (with_reducible first | exact HI0.out | apply IsS148.alloc | apply IsS148.drewN | apply IsS148.drew | apply IsS148.set_1) | exact HI0.out)⟩, ⟨by repeat (first | (with_reducible first | exact HK.out | apply KeepBut.set_ | apply keep_drewN | apply keep_drew | apply keep_alloc) | exact HK.out)⟩, ⟨by repeat (first | (with_reducible first | exact HB.out | apply below_alloc | apply pw_below_drewN | apply below_drew1 | refine below_set ?_ (IsS148.ge HI0.out)) | exact HB.out)⟩⟩
               ·rw [if_neg c37] at H
                have c37b0 : decide (0 < ((rd_T99 ((rd_T42 l1 0).f0) x10_3).f1)) = false := decide_eq_false c37
                clear c37
                have H' := Aside0.mk H
                clear H
                have p919 : 0 ≤ (0 : Int) := (by omega)
                have q919 : 0 < (l1.length : Int) := of_decide_eq_true (by first | (with_reducible assumption) | assumption)
                obtain ⟨ad919, A919_0, c919_0, e919, hx919_0, hl919_0, hi919_0⟩ := at_T42 (Kd.C_foot_now HR1.out HK.out) 0 p919 q919
                obtain rfl : ad912 = ad919 := (by injection e919)
                have qi919 : (0 < l1.length) = True := eq_true (by omega)
                (try rw [show ((0 : Int)).toNat = 0 from rfl] at hx919_0)
                (try rw [Addr.add_zero'] at hx919_0)
                have HR919_0 := Aside0.mk hi919_0
                have HC919_0 := Aside0.mk hl919_0
                clear hi919_0 hl919_0
                replace p919 := eq_true p919
                replace q919 := eq_true q919
                have p920 : 0 ≤ (0 : Int) := (by omega)
                have q920 : 0 < (l1.length : Int) := of_decide_eq_true (by first | (with_reducible assumption) | assumption)
                obtain ⟨ad920, A920_0, c920_0, e920, hx920_0, hl920_0, hi920_0⟩ := at_T42 (Kd.C_foot_now HR1.out HK.out) 0 p920 q920
                obtain rfl : ad912 = ad920 := (by injection e920)
                have qi920 : (0 < l1.length) = True := eq_true (by omega)
                (try rw [show ((0 : Int)).toNat = 0 from rfl] at hx920_0)
                (try rw [Addr.add_zero'] at hx920_0)
                have HR920_0 := Aside0.mk hi920_0
                have HC920_0 := Aside0.mk hl920_0
                clear hi920_0 hl920_0
                replace p920 := eq_true p920
                replace q920 := eq_true q920
                have ea_ := Option.some.inj (hx919_0.symm.trans hx920_0)
                injection ea_ with ea_ en_ ec_
                subst ea_
                subst ec_
                clear en_
                have p921 : 0 ≤ (x10_3 : Int) := of_decide_eq_true (by first | (with_reducible assumption) | assumption)
                have q921 : x10_3 < (((rd_T42 l1 0).f0).length : Int) := of_decide_eq_true (by first | (with_reducible assumption) | assumption)
                obtain ⟨ad921, e921, hx921_0, hx921_1⟩ := at_T99 (by repeat (first | (with_reducible exact HR920_0.out) | (with_reducible refine Kd.C_alloc ?_ _) | (with_reducible refine Kd.C_drewN ?_ _) | (with_reducible refine Kd.C_drew ?_) | exact HR920_0.out)) x10_3 p921 q921
                cases e921
                replace p921 := eq_true p921
                replace q921 := eq_true q921
                go_wp2
                go_meet
                case rel => exact ⟨_, (x10_3), (by first | rfl | (simp; done) | (simp [*]; done)), H', ⟨by have := HJ4.out; have := HJ22.out; have := HK3.out; first | omega | exact Nat.le_refl _⟩, ⟨by repeat (first | (with_reducible first | exact HI0.out | apply IsS148.alloc | apply IsS148.drewN | apply IsS148.drew | apply IsS148.set_1) | exact HI0.out)⟩, ⟨by repeat (first | (with_reducible first | exact HK.out | apply KeepBut.set_ | apply keep_drewN | apply keep_drew | apply keep_alloc) | exact HK.out)⟩, ⟨by repeat (first | (with_reducible first | exact HB.out | apply below_alloc | apply pw_below_drewN | apply below_drew1 | refine below_set ?_ (IsS148.ge HI0.out)) | exact HB.out)⟩⟩
              ·rw [if_neg c36] at H
               exact absurd H (by simp)
             ·rw [if_neg c35] at H
              exact absurd H (by simp)
            ·rw [if_neg c34] at H
             exact absurd H (by simp)
           ·rw [if_neg c33] at H
            have c33b0 : decide (x12_3 < (((rd_T42 l1 0).f0).length : Int)) = false := decide_eq_false c33
            clear c33
            have H' := Aside0.mk H
            clear H
            go_wp2
            go_meet
            case rel => exact ⟨_, (x10_3), (by first | rfl | (simp; done) | (simp [*]; done)), H', ⟨by have := HJ4.out; have := HJ22.out; have := HK3.out; first | omega | exact Nat.le_refl _⟩, ⟨by repeat (first | (with_reducible first | exact HI0.out | apply IsS148.alloc | apply IsS148.drewN | apply IsS148.drew | apply IsS148.set_1) | exact HI0.out)⟩, ⟨by repeat (first | (with_reducible first | exact HK.out | apply KeepBut.set_ | apply keep_drewN | apply keep_drew | apply keep_alloc) | exact HK.out)⟩, ⟨by repeat (first | (with_reducible first | exact HB.out | apply below_alloc | apply pw_below_drewN | apply below_drew1 | refine below_set ?_ (IsS148.ge HI0.out)) | exact HB.out)⟩⟩
        ·rw [if_neg c32] at H
         have c32b0 : decide (a2 < 2) = false := decide_eq_false c32
         clear c32
         (first | rw [c32b0] | (simp only [i64_w, i32_w]; rw [c32b0]) | skip)
         have H' := Aside0.mk H
         clear H
         go_wp2
         go_meet
         case rel => exact ⟨_, (x10_22), (by first | rfl | (simp; done) | (simp [*]; done)), H', ⟨by have := HJ4.out; have := HJ22.out; first | omega | exact Nat.le_refl _⟩, ⟨by repeat (first | (with_reducible first | exact HI0.out | apply IsS148.alloc | apply IsS148.drewN | apply IsS148.drew | apply IsS148.set_1) | exact HI0.out)⟩, ⟨by repeat (first | (with_reducible first | exact HK.out | apply KeepBut.set_ | apply keep_drewN | apply keep_drew | apply keep_alloc) | exact HK.out)⟩, ⟨by repeat (first | (with_reducible first | exact HB.out | apply below_alloc | apply pw_below_drewN | apply below_drew1 | refine below_set ?_ (IsS148.ge HI0.out)) | exact HB.out)⟩⟩
       case rest =>
        clear HC31
        try clear c1
        try clear c2
        try clear p2
        try clear c3
        try clear c6
        try clear c6b0
        try clear p6
        try clear c7
        try clear c7b0
        try clear c8
        try clear c9
        try clear p9
        try clear q9
        try clear hx9
        try clear qi9
        try clear c14
        try clear c16
        try clear c21
        try clear c21b0
        try clear c21b1
        try clear c25
        try clear c25b0
        try clear c26
        try clear c26b0
        try clear c26b1
        try clear c27
        try clear c27b0
        try clear c28
        try clear c28b0
        try clear c29
        try clear c29b0
        try clear c30
        try clear c30b0
        try clear c30b1
        try clear c30b2
        try clear c32
        try clear c32b0
        try clear c33
        try clear c33b0
        try clear c34
        try clear c34b0
        try clear c34b1
        try clear c35
        try clear c35b0
        try clear c36
        try clear c36b0
        try clear c37
        try clear c37b0
        try clear c38
        try clear c38b0
        try clear c38b1
        try clear c38b2
        try clear hx912_0
        try clear hx913_0
        try clear hx916_0
        try clear hx917_0
        try clear hx918_0
        try clear hx918_1
        try clear hx919_0
        try clear hx920_0
        try clear hx921_0
        try clear hx921_1
        try clear p2
        try clear p6
        try clear p9
        try clear p912
        try clear p913
        try clear p916
        try clear p917
        try clear p918
        try clear p919
        try clear p920
        try clear p921
        try clear q9
        try clear q912
        try clear q913
        try clear q916
        try clear q917
        try clear q918
        try clear q919
        try clear q920
        try clear q921
        obtain ⟨kq, x10_30, rfl, HA, HJ30, HI0, HK, HB⟩ := hcut
        cases kq with
        | zero => exact absurd HA.out (by simp [spec_l3Draw.j4])
        | succ kj30 =>
         have H := HA.out
         clear HA
         simp only [spec_l3Draw.j4] at H
         obtain ⟨y922, hy922⟩ : ∃ y_ : List Int, y_ = (([x10_30] : List Int)) := ⟨_, rfl⟩
         replace H : (if 0 < (l1.length : Int) then (if 0 ≤ x10_30 then (if x10_30 < (((rd_T42 l1 0).f0).length : Int) then (if ((rd_T99 ((rd_T42 l1 0).f0) x10_30).f1) = 1 then ((spec_l3Draw.f kj30 s0_0 t915 l1 (wrap64 (a2 - 1)) a3).bind fun bt928 => (if y922.length + bt928.1.length < 17592186044416 then (some ((y922 ++ bt928.1), bt928.2)) else (none))) else (if ((rd_T99 ((rd_T42 l1 0).f0) x10_30).f1) = 2 then ((spec_l3Draw.f kj30 s0_0 t915 l1 (wrap64 (a2 - 2)) a3).bind fun bt935 => (if y922.length + bt935.1.length < 17592186044416 then ((some (y922 ++ bt935.1 : List Int)).bind fun y939 => ((spec_l3Draw.f kj30 s0_0 bt935.2 l1 (wrap64 ((wrap64 (a2 - 1)) - (bt935.1.length : Int))) a3).bind fun bt942 => (if y939.length + bt942.1.length < 17592186044416 then (some ((y939 ++ bt942.1), bt942.2)) else (none)))) else (none))) else (some (y922, t915)))) else (none)) else (none)) else (none)) = some (r1, r2) := by first | (rw [hy922]; with_reducible exact H) | (have H2_ := (Option.bind_some _ _).symm.trans H; rw [hy922]; with_reducible exact H2_) | (have H2_ := (Option.bind_some _ _).symm.trans H; with_reducible exact H2_) | with_reducible exact H | (rw [hy922]; exact H) | exact H
         have Ny922 := Aside0.mk hy922
         clear hy922
         by_cases c39 : 0 < (l1.length : Int)
         ·rw [if_pos c39] at H
          have c39b0 : decide (0 < (l1.length : Int)) = true := decide_eq_true c39
          have c39b1 : decide (0 < l1.length) = true := decide_eq_true (by omega)
          clear c39
          by_cases c40 : 0 ≤ x10_30
          ·rw [if_pos c40] at H
           have c40b0 : decide (0 ≤ x10_30) = true := decide_eq_true c40
           clear c40
           by_cases c41 : x10_30 < (((rd_T42 l1 0).f0).length : Int)
           ·rw [if_pos c41] at H
            have c41b0 : decide (x10_30 < (((rd_T42 l1 0).f0).length : Int)) = true := decide_eq_true c41
            clear c41
            by_cases c42 : ((rd_T99 ((rd_T42 l1 0).f0) x10_30).f1) = 1
            ·rw [if_pos c42] at H
             have c42b0 : (((rd_T99 ((rd_T42 l1 0).f0) x10_30).f1) == 1) = true := beq_iff_eq.mpr c42
             have c42b1 : (((rd_T99 ((rd_T42 l1 0).f0) x10_30).f1) != 1) = false := bne_eq_false_iff_eq.mpr c42
             clear c42
             replace H := Option.bind_eq_some_iff.mp H
             obtain ⟨⟨t928, t931⟩, A430, H⟩ := H
             replace H : (if y922.length + t928.length < 17592186044416 then (some ((y922 ++ t928), t931)) else (none)) = some (r1, r2) := H
             have A43 := Aside0.mk A430
             clear A430
             by_cases c44 : y922.length + t928.length < 17592186044416
             ·rw [if_pos c44] at H
              have LMc44 := Aside0.mk c44
              clear c44
              obtain ⟨y932, hy932⟩ : ∃ y_ : List Int, y_ = (y922 ++ t928) := ⟨_, rfl⟩
              replace H : (some (y932, t931)) = some (r1, r2) := by first | (rw [hy932]; with_reducible exact H) | (have H2_ := (Option.bind_some _ _).symm.trans H; rw [hy932]; with_reducible exact H2_) | (have H2_ := (Option.bind_some _ _).symm.trans H; with_reducible exact H2_) | with_reducible exact H | (rw [hy932]; exact H) | exact H
              have Ny932 := Aside0.mk hy932
              clear hy932
              simp only [Option.some.injEq, Prod.mk.injEq] at H
              obtain ⟨rfl, rfl⟩ := H
              go_wp2_with (first | ((with_reducible refine gate_dst (N := 86) rfl ?_); refine Kd.R_lit (Kd.int .i64) _ 2 ?hg (N := 86) ?hd (xs := ([x10_30] : List Int)) (inner := [.int .i64 x10_30]) (ok := fun _ => True) (okp := fun _ => True) ?hr ?hp (fun _ hk => hk) trivial (Below.refl _ _) (Nat.le_refl _) (by simp) ?_; (case hd => rfl); (case hg => rfl); (case hr => first | (go_simp; done) | (go_simp; rfl)); (case hp => exact (Reps.one (show Kd.M (Kd.int .i64) _ _ _ x10_30 [.int .i64 x10_30] from rfl) (Reps.none _ _))); intro v923 w45 ho46 hb hg_ hnew_; clear hg_ hnew_; (first | rw [← Ny922.out] at ho46 | (simp only [Int.reduceToNat] at ho46; rw [← Ny922.out] at ho46)); have n0_ := Aside0.mk (Kd.R_lower ho46 (keep_size (w := w) (g := g) (row := none) (by repeat (first | (with_reducible first | exact HK.out | apply KeepBut.set_ | apply keep_drewN | apply keep_drew | apply keep_alloc) | exact HK.out)))); have n1_ := Aside0.mk (IsS148.below (by repeat (first | (with_reducible first | exact HI0.out | apply IsS148.alloc | apply IsS148.drewN | apply IsS148.drew | apply IsS148.set_1) | exact HI0.out)) hb); have n2_ := Aside0.mk (KeepBut.trans (by repeat (first | (with_reducible first | exact HK.out | apply KeepBut.set_ | apply keep_drewN | apply keep_drew | apply keep_alloc) | exact HK.out)) (KeepBut.of_below hb g none) (.inl rfl)); have n3_ := Aside0.mk (below_step (by repeat (first | (with_reducible first | exact HB.out | apply below_alloc | apply pw_below_drewN | apply below_drew1 | refine below_set ?_ (IsS148.ge HI0.out)) | exact HB.out)) hb); clear HI0; clear HK; clear HB; have HO924 := n0_; have HI0 := n1_; have HK := n2_; have HB := n3_; clear n0_ n1_ n2_ n3_; clear hb ho46; have p925 : 0 ≤ (0 : Int) := (by omega); have q925 : 0 < (l1.length : Int) := of_decide_eq_true (by first | (with_reducible assumption) | assumption); obtain ⟨ad925, A925_0, c925_0, e925, hx925_0, hl925_0, hi925_0⟩ := at_T42 (Kd.C_foot_now HR1.out HK.out) 0 p925 q925; obtain rfl : ad912 = ad925 := (by injection e925); have qi925 : (0 < l1.length) = True := eq_true (by omega); (try rw [show ((0 : Int)).toNat = 0 from rfl] at hx925_0); (try rw [Addr.add_zero'] at hx925_0); have HR925_0 := Aside0.mk hi925_0; have HC925_0 := Aside0.mk hl925_0; clear hi925_0 hl925_0; replace p925 := eq_true p925; replace q925 := eq_true q925; have p926 : 0 ≤ (0 : Int) := (by omega); have q926 : 0 < (l1.length : Int) := of_decide_eq_true (by first | (with_reducible assumption) | assumption); obtain ⟨ad926, A926_0, c926_0, e926, hx926_0, hl926_0, hi926_0⟩ := at_T42 (Kd.C_foot_now HR1.out HK.out) 0 p926 q926; obtain rfl : ad912 = ad926 := (by injection e926); have qi926 : (0 < l1.length) = True := eq_true (by omega); (try rw [show ((0 : Int)).toNat = 0 from rfl] at hx926_0); (try rw [Addr.add_zero'] at hx926_0); have HR926_0 := Aside0.mk hi926_0; have HC926_0 := Aside0.mk hl926_0; clear hi926_0 hl926_0; replace p926 := eq_true p926; replace q926 := eq_true q926; have ea_ := Option.some.inj (hx925_0.symm.trans hx926_0); injection ea_ with ea_ en_ ec_; subst ea_; subst ec_; clear en_; have p927 : 0 ≤ (x10_30 : Int) := of_decide_eq_true (by first | (with_reducible assumption) | assumption); have q927 : x10_30 < (((rd_T42 l1 0).f0).length : Int) := of_decide_eq_true (by first | (with_reducible assumption) | assumption); obtain ⟨ad927, e927, hx927_0, hx927_1⟩ := at_T99 (by repeat (first | (with_reducible exact HR926_0.out) | (with_reducible refine Kd.C_alloc ?_ _) | (with_reducible refine Kd.C_drewN ?_ _) | (with_reducible refine Kd.C_drew ?_) | exact HR926_0.out)) x10_30 p927 q927; cases e927; replace p927 := eq_true p927; replace q927 := eq_true q927) | ((with_reducible refine gate_callee (f := 145) rfl ?_); refine goesL_ (some 103) rfl rfl Tryd.func145 (by kernel_rfl) rfl #[.pointer (some ⟨g, 0, none⟩), .pointer (some ad912), .int .i64 (wrap64 (a2 - 1)), .int .i64 a3] rfl (by (try simp only [List.map_toArray, List.map_cons, List.map_nil]); first | done | rfl | (simp only [List.length_drop, List.length_take]; rfl)) ?_; (with_reducible refine (ih kj30 (by have := HJ4.out; have := HJ22.out; have := HJ30.out; omega) g s0_0 t915 _ l1 (wrap64 (a2 - 1)) a3 t928 t931 w0 _ ?side1 ?side2 ?side3 A43.out).mono ?_); (case side1 => repeat (first | (with_reducible first | exact HI0.out | apply IsS148.alloc | apply IsS148.drewN | apply IsS148.drew | apply IsS148.set_1) | exact HI0.out)); (case side2 => repeat (first | (with_reducible first | exact HB.out | apply below_alloc | apply pw_below_drewN | apply below_drew1 | refine below_set ?_ (IsS148.ge HI0.out)) | exact HB.out)); (case side3 => exact Kd.C_foot_step HR1.out (by repeat (first | (with_reducible first | exact HK.out | apply KeepBut.set_ | apply keep_drewN | apply keep_drew | apply keep_alloc) | exact HK.out))); rintro e w47 ⟨v929, rfl, ho0, hi, hb, hk⟩; refine ⟨_, rfl, ?_⟩; have n0_ := Aside0.mk (Kd.R_mono (Kd.R_told (Kd.R_oldK (IsS148.apart (show IsS148 w0 _ g s0_0 t915 from by repeat (first | (with_reducible first | exact HI0.out | apply IsS148.alloc | apply IsS148.drewN | apply IsS148.drew | apply IsS148.set_1) | exact HI0.out)) (by (with_reducible repeat (first | apply Kd.R_alloc | apply Kd.R_drewN | apply Kd.R_drew)); exact HO924.out) (by decide)) hk) (Kd.R_base ho0)) (fun _ h_ => h_.1)); have n1_ := Aside0.mk (Kd.R_lower (Kd.R_new' ho0 (Kd.R_lt (by (with_reducible repeat (first | apply Kd.R_alloc | apply Kd.R_drewN | apply Kd.R_drew)); exact HO924.out))) (keep_size (w := w) (g := g) (row := none) (by repeat (first | (with_reducible first | exact HK.out | apply KeepBut.set_ | apply keep_drewN | apply keep_drew | apply keep_alloc) | exact HK.out)))); have n2_ := Aside0.mk (KeepBut.trans (by repeat (first | (with_reducible first | exact HK.out | apply KeepBut.set_ | apply keep_drewN | apply keep_drew | apply keep_alloc) | exact HK.out)) hk (.inl rfl)); have n3_ := Aside0.mk (hb); have n4_ := Aside0.mk (hi); clear HO924; clear HK; clear HB; clear HI0; have HO924 := n0_; have HO930 := n1_; have HK := n2_; have HB := n3_; have HI0 := n4_; clear n0_ n1_ n2_ n3_ n4_; (try clear hb); (try clear hb2); (try clear hgw); (try clear hk); (try clear hi); (try clear ho0); obtain ⟨Ao49, co49, eo49⟩ := Kd.R_slice HO930.out; subst eo49) | ((with_reducible refine gate_builtin (b := .append) (xs := #[.tmp 97, .tmp 103]) rfl ?_); at_builtin; refine Kd.R_append_rows (Kd.int .i64) w.heap.size rfl (.tmp 97) (.tmp 103) 52 2 (.int .i64 0) 8 rfl Tryd.underlying52 info2 rfl (by decide) (by omega) v923 y922 t928 _ _ _ (fun k_ => some k_ ≠ (.slice Ao49 t928.length co49 : Value).ownBlock) (fun _ => False) rfl rfl ?aO ?aR (fun _ _ h => h) (fun _ h => h.elim) ?aF (Below.refl _ _) ?aS ?aL ?_; (case aR => repeat (first | exact (Kd.R_reads' HO930.out).2.2 | (with_reducible refine Kd.C_alloc ?_ _) | (with_reducible refine Kd.C_drewN ?_ _) | (with_reducible refine Kd.C_drew ?_))); (case aF => exact (fun k_ hk => Kd.fresh' (Kd.R_lt (by (with_reducible repeat (first | apply Kd.R_alloc | apply Kd.R_drewN | apply Kd.R_drew)); exact HO930.out)) k_ hk)); (case aO => exact (by (with_reducible repeat (first | apply Kd.R_alloc | apply Kd.R_drewN | apply Kd.R_drew)); exact Kd.R_mono HO924.out (fun _ hk => hk.2))); (case aS => exact (keep_size (w := w) (g := g) (row := none) (by repeat (first | (with_reducible first | exact HK.out | apply KeepBut.set_ | apply keep_drewN | apply keep_drew | apply keep_alloc) | exact HK.out)))); (case aL => have := LMc44.out; omega); intro v933 w48 ho hb hg hat; rw [← Ny932.out] at ho; have n0_ := Aside0.mk (IsS148.grown (by repeat (first | (with_reducible first | exact HI0.out | apply IsS148.alloc | apply IsS148.drewN | apply IsS148.drew | apply IsS148.set_1) | exact HI0.out)) hg (IsS148.own_ne HI0.out HO924.out (by decide))); have n1_ := Aside0.mk (Kd.R_after (ok := (fun _ => True)) (by (with_reducible repeat (first | apply Kd.R_alloc | apply Kd.R_drewN | apply Kd.R_drew)); exact HO930.out) hg hat); have n2_ := Aside0.mk (below_weaken (by repeat (first | (with_reducible first | exact HB.out | apply below_alloc | apply pw_below_drewN | apply below_drew1 | refine below_set ?_ (IsS148.ge HI0.out)) | exact HB.out)) HL.out hb); have n3_ := Aside0.mk (KeepBut.trans (by repeat (first | (with_reducible first | exact HK.out | apply KeepBut.set_ | apply keep_drewN | apply keep_drew | apply keep_alloc) | exact HK.out)) (KeepBut.of_grown hg g) (Kd.R_base2 HO924.out)); have n4_ := Aside0.mk (ho); clear HI0; clear HO930; clear HB; clear HK; clear HO924; have HI0 := n0_; have HO930 := n1_; have HB := n2_; have HK := n3_; have HO934 := n4_; clear n0_ n1_ n2_ n3_ n4_; clear ho hb hg hat))
              go_ret
              exact ⟨_, by first | rfl | (simp [errW_none, errW_some] <;> rfl) | (simp [*, errW_none, errW_some] <;> rfl), by (with_reducible repeat (first | apply Kd.R_alloc | apply Kd.R_drewN | apply Kd.R_drew)); exact Kd.R_mono HO934.out (fun _ hk => trivial), by repeat (first | (with_reducible first | exact HI0.out | apply IsS148.alloc | apply IsS148.drewN | apply IsS148.drew | apply IsS148.set_1) | exact HI0.out), by repeat (first | (with_reducible first | exact HB.out | apply below_alloc | apply pw_below_drewN | apply below_drew1 | refine below_set ?_ (IsS148.ge HI0.out)) | exact HB.out), by repeat (first | (with_reducible first | exact HK.out | apply KeepBut.set_ | apply keep_drewN | apply keep_drew | apply keep_alloc) | exact HK.out)⟩
             ·rw [if_neg c44] at H
              exact absurd H (by simp)
            ·rw [if_neg c42] at H
             have c42b0 : (((rd_T99 ((rd_T42 l1 0).f0) x10_30).f1) == 1) = false := beq_eq_false_iff_ne.mpr c42
             have c42b1 : (((rd_T99 ((rd_T42 l1 0).f0) x10_30).f1) != 1) = true := bne_iff_ne.mpr c42
             by_cases c50 : ((rd_T99 ((rd_T42 l1 0).f0) x10_30).f1) = 2
             ·rw [if_pos c50] at H
              have c50b0 : (((rd_T99 ((rd_T42 l1 0).f0) x10_30).f1) == 2) = true := beq_iff_eq.mpr c50
              have c50b1 : (((rd_T99 ((rd_T42 l1 0).f0) x10_30).f1) != 2) = false := bne_eq_false_iff_eq.mpr c50
              clear c50
              replace H := Option.bind_eq_some_iff.mp H
              obtain ⟨⟨t935, t938⟩, A510, H⟩ := H
              replace H : (if y922.length + t935.length < 17592186044416 then ((some (y922 ++ t935 : List Int)).bind fun y939 => ((spec_l3Draw.f kj30 s0_0 t938 l1 (wrap64 ((wrap64 (a2 - 1)) - (t935.length : Int))) a3).bind fun bt942 => (if y939.length + bt942.1.length < 17592186044416 then (some ((y939 ++ bt942.1), bt942.2)) else (none)))) else (none)) = some (r1, r2) := H
              have A51 := Aside0.mk A510
              clear A510
              by_cases c52 : y922.length + t935.length < 17592186044416
              ·rw [if_pos c52] at H
               have LMc52 := Aside0.mk c52
               clear c52
               obtain ⟨y939, hy939⟩ : ∃ y_ : List Int, y_ = (y922 ++ t935) := ⟨_, rfl⟩
               replace H : ((spec_l3Draw.f kj30 s0_0 t938 l1 (wrap64 ((wrap64 (a2 - 1)) - (t935.length : Int))) a3).bind fun bt942 => (if y939.length + bt942.1.length < 17592186044416 then (some ((y939 ++ bt942.1), bt942.2)) else (none))) = some (r1, r2) := by first | (rw [hy939]; with_reducible exact H) | (have H2_ := (Option.bind_some _ _).symm.trans H; rw [hy939]; with_reducible exact H2_) | (have H2_ := (Option.bind_some _ _).symm.trans H; with_reducible exact H2_) | with_reducible exact H | (rw [hy939]; exact H) | exact H
               have Ny939 := Aside0.mk hy939
               clear hy939
               replace H := Option.bind_eq_some_iff.mp H
               obtain ⟨⟨t942, t945⟩, A530, H⟩ := H
               replace H : (if y939.length + t942.length < 17592186044416 then (some ((y939 ++ t942), t945)) else (none)) = some (r1, r2) := H
               have A53 := Aside0.mk A530
               clear A530
               by_cases c54 : y939.length + t942.length < 17592186044416
               ·rw [if_pos c54] at H
                have LMc54 := Aside0.mk c54
                clear c54
                obtain ⟨y946, hy946⟩ : ∃ y_ : List Int, y_ = (y939 ++ t942) := ⟨_, rfl⟩
                replace H : (some (y946, t945)) = some (r1, r2) := by first | (rw [hy946]; with_reducible exact H) | (have H2_ := (Option.bind_some _ _).symm.trans H; rw [hy946]; with_reducible exact H2_) | (have H2_ := (Option.bind_some _ _).symm.trans H; with_reducible exact H2_) | with_reducible exact H | (rw [hy946]; exact H) | exact H
                have Ny946 := Aside0.mk hy946
                clear hy946
                simp only [Option.some.injEq, Prod.mk.injEq] at H
                obtain ⟨rfl, rfl⟩ := H
                go_wp2_with (first | ((with_reducible refine gate_dst (N := 86) rfl ?_); refine Kd.R_lit (Kd.int .i64) _ 2 ?hg (N := 86) ?hd (xs := ([x10_30] : List Int)) (inner := [.int .i64 x10_30]) (ok := fun _ => True) (okp := fun _ => True) ?hr ?hp (fun _ hk => hk) trivial (Below.refl _ _) (Nat.le_refl _) (by simp) ?_; (case hd => rfl); (case hg => rfl); (case hr => first | (go_simp; done) | (go_simp; rfl)); (case hp => exact (Reps.one (show Kd.M (Kd.int .i64) _ _ _ x10_30 [.int .i64 x10_30] from rfl) (Reps.none _ _))); intro v923 w55 ho56 hb hg_ hnew_; clear hg_ hnew_; (first | rw [← Ny922.out] at ho56 | (simp only [Int.reduceToNat] at ho56; rw [← Ny922.out] at ho56)); have n0_ := Aside0.mk (Kd.R_lower ho56 (keep_size (w := w) (g := g) (row := none) (by repeat (first | (with_reducible first | exact HK.out | apply KeepBut.set_ | apply keep_drewN | apply keep_drew | apply keep_alloc) | exact HK.out)))); have n1_ := Aside0.mk (IsS148.below (by repeat (first | (with_reducible first | exact HI0.out | apply IsS148.alloc | apply IsS148.drewN | apply IsS148.drew | apply IsS148.set_1) | exact HI0.out)) hb); have n2_ := Aside0.mk (KeepBut.trans (by repeat (first | (with_reducible first | exact HK.out | apply KeepBut.set_ | apply keep_drewN | apply keep_drew | apply keep_alloc) | exact HK.out)) (KeepBut.of_below hb g none) (.inl rfl)); have n3_ := Aside0.mk (below_step (by repeat (first | (with_reducible first | exact HB.out | apply below_alloc | apply pw_below_drewN | apply below_drew1 | refine below_set ?_ (IsS148.ge HI0.out)) | exact HB.out)) hb); clear HI0; clear HK; clear HB; have HO924 := n0_; have HI0 := n1_; have HK := n2_; have HB := n3_; clear n0_ n1_ n2_ n3_; clear hb ho56; have p925 : 0 ≤ (0 : Int) := (by omega); have q925 : 0 < (l1.length : Int) := of_decide_eq_true (by first | (with_reducible assumption) | assumption); obtain ⟨ad925, A925_0, c925_0, e925, hx925_0, hl925_0, hi925_0⟩ := at_T42 (Kd.C_foot_now HR1.out HK.out) 0 p925 q925; obtain rfl : ad912 = ad925 := (by injection e925); have qi925 : (0 < l1.length) = True := eq_true (by omega); (try rw [show ((0 : Int)).toNat = 0 from rfl] at hx925_0); (try rw [Addr.add_zero'] at hx925_0); have HR925_0 := Aside0.mk hi925_0; have HC925_0 := Aside0.mk hl925_0; clear hi925_0 hl925_0; replace p925 := eq_true p925; replace q925 := eq_true q925; have p926 : 0 ≤ (0 : Int) := (by omega); have q926 : 0 < (l1.length : Int) := of_decide_eq_true (by first | (with_reducible assumption) | assumption); obtain ⟨ad926, A926_0, c926_0, e926, hx926_0, hl926_0, hi926_0⟩ := at_T42 (Kd.C_foot_now HR1.out HK.out) 0 p926 q926; obtain rfl : ad912 = ad926 := (by injection e926); have qi926 : (0 < l1.length) = True := eq_true (by omega); (try rw [show ((0 : Int)).toNat = 0 from rfl] at hx926_0); (try rw [Addr.add_zero'] at hx926_0); have HR926_0 := Aside0.mk hi926_0; have HC926_0 := Aside0.mk hl926_0; clear hi926_0 hl926_0; replace p926 := eq_true p926; replace q926 := eq_true q926; have ea_ := Option.some.inj (hx925_0.symm.trans hx926_0); injection ea_ with ea_ en_ ec_; subst ea_; subst ec_; clear en_; have p927 : 0 ≤ (x10_30 : Int) := of_decide_eq_true (by first | (with_reducible assumption) | assumption); have q927 : x10_30 < (((rd_T42 l1 0).f0).length : Int) := of_decide_eq_true (by first | (with_reducible assumption) | assumption); obtain ⟨ad927, e927, hx927_0, hx927_1⟩ := at_T99 (by repeat (first | (with_reducible exact HR926_0.out) | (with_reducible refine Kd.C_alloc ?_ _) | (with_reducible refine Kd.C_drewN ?_ _) | (with_reducible refine Kd.C_drew ?_) | exact HR926_0.out)) x10_30 p927 q927; cases e927; replace p927 := eq_true p927; replace q927 := eq_true q927) | ((with_reducible refine gate_callee (f := 145) rfl ?_); refine goesL_ (some 112) rfl rfl Tryd.func145 (by kernel_rfl) rfl #[.pointer (some ⟨g, 0, none⟩), .pointer (some ad912), .int .i64 (wrap64 (a2 - 2)), .int .i64 a3] rfl (by (try simp only [List.map_toArray, List.map_cons, List.map_nil]); first | done | rfl | (simp only [List.length_drop, List.length_take]; rfl)) ?_; (with_reducible refine (ih kj30 (by have := HJ4.out; have := HJ22.out; have := HJ30.out; omega) g s0_0 t915 _ l1 (wrap64 (a2 - 2)) a3 t935 t938 w0 _ ?side1 ?side2 ?side3 A51.out).mono ?_); (case side1 => repeat (first | (with_reducible first | exact HI0.out | apply IsS148.alloc | apply IsS148.drewN | apply IsS148.drew | apply IsS148.set_1) | exact HI0.out)); (case side2 => repeat (first | (with_reducible first | exact HB.out | apply below_alloc | apply pw_below_drewN | apply below_drew1 | refine below_set ?_ (IsS148.ge HI0.out)) | exact HB.out)); (case side3 => exact Kd.C_foot_step HR1.out (by repeat (first | (with_reducible first | exact HK.out | apply KeepBut.set_ | apply keep_drewN | apply keep_drew | apply keep_alloc) | exact HK.out))); rintro e w57 ⟨v936, rfl, ho0, hi, hb, hk⟩; refine ⟨_, rfl, ?_⟩; have n0_ := Aside0.mk (Kd.R_mono (Kd.R_told (Kd.R_oldK (IsS148.apart (show IsS148 w0 _ g s0_0 t915 from by repeat (first | (with_reducible first | exact HI0.out | apply IsS148.alloc | apply IsS148.drewN | apply IsS148.drew | apply IsS148.set_1) | exact HI0.out)) (by (with_reducible repeat (first | apply Kd.R_alloc | apply Kd.R_drewN | apply Kd.R_drew)); exact HO924.out) (by decide)) hk) (Kd.R_base ho0)) (fun _ h_ => h_.1)); have n1_ := Aside0.mk (Kd.R_lower (Kd.R_new' ho0 (Kd.R_lt (by (with_reducible repeat (first | apply Kd.R_alloc | apply Kd.R_drewN | apply Kd.R_drew)); exact HO924.out))) (keep_size (w := w) (g := g) (row := none) (by repeat (first | (with_reducible first | exact HK.out | apply KeepBut.set_ | apply keep_drewN | apply keep_drew | apply keep_alloc) | exact HK.out)))); have n2_ := Aside0.mk (KeepBut.trans (by repeat (first | (with_reducible first | exact HK.out | apply KeepBut.set_ | apply keep_drewN | apply keep_drew | apply keep_alloc) | exact HK.out)) hk (.inl rfl)); have n3_ := Aside0.mk (hb); have n4_ := Aside0.mk (hi); clear HO924; clear HK; clear HB; clear HI0; have HO924 := n0_; have HO937 := n1_; have HK := n2_; have HB := n3_; have HI0 := n4_; clear n0_ n1_ n2_ n3_ n4_; (try clear hb); (try clear hb2); (try clear hgw); (try clear hk); (try clear hi); (try clear ho0); obtain ⟨Ao59, co59, eo59⟩ := Kd.R_slice HO937.out; subst eo59) | ((with_reducible refine gate_builtin (b := .append) (xs := #[.tmp 113, .tmp 114]) rfl ?_); at_builtin; refine Kd.R_append_rows (Kd.int .i64) w.heap.size rfl (.tmp 113) (.tmp 114) 52 2 (.int .i64 0) 8 rfl Tryd.underlying52 info2 rfl (by decide) (by omega) v923 y922 t935 _ _ _ (fun k_ => some k_ ≠ (.slice Ao59 t935.length co59 : Value).ownBlock) (fun _ => False) rfl rfl ?aO ?aR (fun _ _ h => h) (fun _ h => h.elim) ?aF (Below.refl _ _) ?aS ?aL ?_; (case aR => repeat (first | exact (Kd.R_reads' HO937.out).2.2 | (with_reducible refine Kd.C_alloc ?_ _) | (with_reducible refine Kd.C_drewN ?_ _) | (with_reducible refine Kd.C_drew ?_))); (case aF => exact (fun k_ hk => Kd.fresh' (Kd.R_lt (by (with_reducible repeat (first | apply Kd.R_alloc | apply Kd.R_drewN | apply Kd.R_drew)); exact HO937.out)) k_ hk)); (case aO => exact (by (with_reducible repeat (first | apply Kd.R_alloc | apply Kd.R_drewN | apply Kd.R_drew)); exact Kd.R_mono HO924.out (fun _ hk => hk.2))); (case aS => exact (keep_size (w := w) (g := g) (row := none) (by repeat (first | (with_reducible first | exact HK.out | apply KeepBut.set_ | apply keep_drewN | apply keep_drew | apply keep_alloc) | exact HK.out)))); (case aL => have := LMc52.out; omega); intro v940 w58 ho hb hg hat; rw [← Ny939.out] at ho; have n0_ := Aside0.mk (IsS148.grown (by repeat (first | (with_reducible first | exact HI0.out | apply IsS148.alloc | apply IsS148.drewN | apply IsS148.drew | apply IsS148.set_1) | exact HI0.out)) hg (IsS148.own_ne HI0.out HO924.out (by decide))); have n1_ := Aside0.mk (Kd.R_after (ok := (fun _ => True)) (by (with_reducible repeat (first | apply Kd.R_alloc | apply Kd.R_drewN | apply Kd.R_drew)); exact HO937.out) hg hat); have n2_ := Aside0.mk (below_weaken (by repeat (first | (with_reducible first | exact HB.out | apply below_alloc | apply pw_below_drewN | apply below_drew1 | refine below_set ?_ (IsS148.ge HI0.out)) | exact HB.out)) HL.out hb); have n3_ := Aside0.mk (KeepBut.trans (by repeat (first | (with_reducible first | exact HK.out | apply KeepBut.set_ | apply keep_drewN | apply keep_drew | apply keep_alloc) | exact HK.out)) (KeepBut.of_grown hg g) (Kd.R_base2 HO924.out)); have n4_ := Aside0.mk (ho); clear HI0; clear HO937; clear HB; clear HK; clear HO924; have HI0 := n0_; have HO937 := n1_; have HB := n2_; have HK := n3_; have HO941 := n4_; clear n0_ n1_ n2_ n3_ n4_; clear ho hb hg hat) | ((with_reducible refine gate_callee (f := 145) rfl ?_); refine goesL_ (some 125) rfl rfl Tryd.func145 (by kernel_rfl) rfl #[.pointer (some ⟨g, 0, none⟩), .pointer (some ad912), .int .i64 (wrap64 ((wrap64 (a2 - 1)) - (t935.length : Int))), .int .i64 a3] rfl (by (try simp only [List.map_toArray, List.map_cons, List.map_nil]); first | done | rfl | (simp only [List.length_drop, List.length_take]; rfl)) ?_; (with_reducible refine (ih kj30 (by have := HJ4.out; have := HJ22.out; have := HJ30.out; omega) g s0_0 t938 _ l1 (wrap64 ((wrap64 (a2 - 1)) - (t935.length : Int))) a3 t942 t945 w0 _ ?side1 ?side2 ?side3 A53.out).mono ?_); (case side1 => repeat (first | (with_reducible first | exact HI0.out | apply IsS148.alloc | apply IsS148.drewN | apply IsS148.drew | apply IsS148.set_1) | exact HI0.out)); (case side2 => repeat (first | (with_reducible first | exact HB.out | apply below_alloc | apply pw_below_drewN | apply below_drew1 | refine below_set ?_ (IsS148.ge HI0.out)) | exact HB.out)); (case side3 => exact Kd.C_foot_step HR1.out (by repeat (first | (with_reducible first | exact HK.out | apply KeepBut.set_ | apply keep_drewN | apply keep_drew | apply keep_alloc) | exact HK.out))); rintro e w60 ⟨v943, rfl, ho0, hi, hb, hk⟩; refine ⟨_, rfl, ?_⟩; have n0_ := Aside0.mk (Kd.R_mono (Kd.R_told (Kd.R_oldK (IsS148.apart (show IsS148 w0 _ g s0_0 t938 from by repeat (first | (with_reducible first | exact HI0.out | apply IsS148.alloc | apply IsS148.drewN | apply IsS148.drew | apply IsS148.set_1) | exact HI0.out)) (by (with_reducible repeat (first | apply Kd.R_alloc | apply Kd.R_drewN | apply Kd.R_drew)); exact HO937.out) (by decide)) hk) (Kd.R_base ho0)) (fun _ h_ => h_.1)); have n1_ := Aside0.mk (Kd.R_mono (Kd.R_told (Kd.R_oldK (IsS148.apart (show IsS148 w0 _ g s0_0 t938 from by repeat (first | (with_reducible first | exact HI0.out | apply IsS148.alloc | apply IsS148.drewN | apply IsS148.drew | apply IsS148.set_1) | exact HI0.out)) (by (with_reducible repeat (first | apply Kd.R_alloc | apply Kd.R_drewN | apply Kd.R_drew)); exact HO941.out) (by decide)) hk) (Kd.R_base ho0)) (fun _ h_ => h_.1)); have n2_ := Aside0.mk (Kd.R_lower (Kd.R_new' (Kd.R_new' ho0 (Kd.R_lt (by (with_reducible repeat (first | apply Kd.R_alloc | apply Kd.R_drewN | apply Kd.R_drew)); exact HO937.out))) (Kd.R_lt (by (with_reducible repeat (first | apply Kd.R_alloc | apply Kd.R_drewN | apply Kd.R_drew)); exact HO941.out))) (keep_size (w := w) (g := g) (row := none) (by repeat (first | (with_reducible first | exact HK.out | apply KeepBut.set_ | apply keep_drewN | apply keep_drew | apply keep_alloc) | exact HK.out)))); have n3_ := Aside0.mk (KeepBut.trans (by repeat (first | (with_reducible first | exact HK.out | apply KeepBut.set_ | apply keep_drewN | apply keep_drew | apply keep_alloc) | exact HK.out)) hk (.inl rfl)); have n4_ := Aside0.mk (hb); have n5_ := Aside0.mk (hi); clear HO937; clear HO941; clear HK; clear HB; clear HI0; have HO937 := n0_; have HO941 := n1_; have HO944 := n2_; have HK := n3_; have HB := n4_; have HI0 := n5_; clear n0_ n1_ n2_ n3_ n4_ n5_; (try clear hb); (try clear hb2); (try clear hgw); (try clear hk); (try clear hi); (try clear ho0); obtain ⟨Ao62, co62, eo62⟩ := Kd.R_slice HO944.out; subst eo62) | ((with_reducible refine gate_builtin (b := .append) (xs := #[.tmp 116, .tmp 125]) rfl ?_); at_builtin; refine Kd.R_append_rows (Kd.int .i64) w.heap.size rfl (.tmp 116) (.tmp 125) 52 2 (.int .i64 0) 8 rfl Tryd.underlying52 info2 rfl (by decide) (by omega) v940 y939 t942 _ _ _ (fun k_ => some k_ ≠ (.slice Ao59 t935.length co59 : Value).ownBlock ∧ some k_ ≠ (.slice Ao62 t942.length co62 : Value).ownBlock) (fun _ => False) rfl rfl ?aO ?aR (fun _ _ h => h) (fun _ h => h.elim) ?aF (Below.refl _ _) ?aS ?aL ?_; (case aR => repeat (first | exact (Kd.R_reads' HO944.out).2.2 | (with_reducible refine Kd.C_alloc ?_ _) | (with_reducible refine Kd.C_drewN ?_ _) | (with_reducible refine Kd.C_drew ?_))); (case aF => exact (fun k_ hk => ⟨Kd.fresh' (Kd.R_lt (by (with_reducible repeat (first | apply Kd.R_alloc | apply Kd.R_drewN | apply Kd.R_drew)); exact HO937.out)) k_ hk, Kd.fresh' (Kd.R_lt (by (with_reducible repeat (first | apply Kd.R_alloc | apply Kd.R_drewN | apply Kd.R_drew)); exact HO944.out)) k_ hk⟩)); (case aO => exact (by (with_reducible repeat (first | apply Kd.R_alloc | apply Kd.R_drewN | apply Kd.R_drew)); exact HO941.out)); (case aS => exact (keep_size (w := w) (g := g) (row := none) (by repeat (first | (with_reducible first | exact HK.out | apply KeepBut.set_ | apply keep_drewN | apply keep_drew | apply keep_alloc) | exact HK.out)))); (case aL => have := LMc54.out; omega); intro v947 w61 ho hb hg hat; rw [← Ny946.out] at ho; have n0_ := Aside0.mk (IsS148.grown (by repeat (first | (with_reducible first | exact HI0.out | apply IsS148.alloc | apply IsS148.drewN | apply IsS148.drew | apply IsS148.set_1) | exact HI0.out)) hg (IsS148.own_ne HI0.out HO941.out (by decide))); have n1_ := Aside0.mk (Kd.R_after (ok := (fun k_ => some k_ ≠ (.slice Ao62 t942.length co62 : Value).ownBlock)) (by (with_reducible repeat (first | apply Kd.R_alloc | apply Kd.R_drewN | apply Kd.R_drew)); exact Kd.R_mono HO937.out (fun _ hk => by first | exact ⟨hk.2, hk.1.2⟩ | exact ⟨hk.1.2, hk.2⟩ | trivial)) hg hat); have n2_ := Aside0.mk (Kd.R_after (ok := (fun k_ => some k_ ≠ (.slice Ao59 t935.length co59 : Value).ownBlock)) (by (with_reducible repeat (first | apply Kd.R_alloc | apply Kd.R_drewN | apply Kd.R_drew)); exact Kd.R_mono HO944.out (fun _ hk => by first | exact ⟨hk.1.2, hk.2⟩ | exact ⟨hk.2, hk.1.2⟩ | trivial)) hg hat); have n3_ := Aside0.mk (below_weaken (by repeat (first | (with_reducible first | exact HB.out | apply below_alloc | apply pw_below_drewN | apply below_drew1 | refine below_set ?_ (IsS148.ge HI0.out)) | exact HB.out)) HL.out hb); have n4_ := Aside0.mk (KeepBut.trans (by repeat (first | (with_reducible first | exact HK.out | apply KeepBut.set_ | apply keep_drewN | apply keep_drew | apply keep_alloc) | exact HK.out)) (KeepBut.of_grown hg g) (Kd.R_base2 HO941.out)); have n5_ := Aside0.mk (ho); clear HI0; clear HO937; clear HO944; clear HB; clear HK; clear HO941; have HI0 := n0_; have HO937 := n1_; have HO944 := n2_; have HB := n3_; have HK := n4_; have HO948 := n5_; clear n0_ n1_ n2_ n3_ n4_ n5_; clear ho hb hg hat))
                go_ret
                exact ⟨_, by first | rfl | (simp [errW_none, errW_some] <;> rfl) | (simp [*, errW_none, errW_some] <;> rfl), by (with_reducible repeat (first | apply Kd.R_alloc | apply Kd.R_drewN | apply Kd.R_drew)); exact Kd.R_mono HO948.out (fun _ hk => trivial), by repeat (first | (with_reducible first | exact HI0.out | apply IsS148.alloc | apply IsS148.drewN | apply IsS148.drew | apply IsS148.set_1) | exact HI0.out), by repeat (first | (with_reducible first | exact HB.out | apply below_alloc | apply pw_below_drewN | apply below_drew1 | refine below_set ?_ (IsS148.ge HI0.out)) | exact HB.out), by repeat (first | (with_reducible first | exact HK.out | apply KeepBut.set_ | apply keep_drewN | apply keep_drew | apply keep_alloc) | exact HK.out)⟩
               ·rw [if_neg c54] at H
                exact absurd H (by simp)
              ·rw [if_neg c52] at H
               exact absurd H (by simp)
             ·rw [if_neg c50] at H
              have c50b0 : (((rd_T99 ((rd_T42 l1 0).f0) x10_30).f1) == 2) = false := beq_eq_false_iff_ne.mpr c50
              have c50b1 : (((rd_T99 ((rd_T42 l1 0).f0) x10_30).f1) != 2) = true := bne_iff_ne.mpr c50
              simp only [Option.some.injEq, Prod.mk.injEq] at H
              obtain ⟨rfl, rfl⟩ := H
              go_wp2_with (first | ((with_reducible refine gate_dst (N := 86) rfl ?_); refine Kd.R_lit (Kd.int .i64) _ 2 ?hg (N := 86) ?hd (xs := ([x10_30] : List Int)) (inner := [.int .i64 x10_30]) (ok := fun _ => True) (okp := fun _ => True) ?hr ?hp (fun _ hk => hk) trivial (Below.refl _ _) (Nat.le_refl _) (by simp) ?_; (case hd => rfl); (case hg => rfl); (case hr => first | (go_simp; done) | (go_simp; rfl)); (case hp => exact (Reps.one (show Kd.M (Kd.int .i64) _ _ _ x10_30 [.int .i64 x10_30] from rfl) (Reps.none _ _))); intro v923 w63 ho64 hb hg_ hnew_; clear hg_ hnew_; (first | rw [← Ny922.out] at ho64 | (simp only [Int.reduceToNat] at ho64; rw [← Ny922.out] at ho64)); have n0_ := Aside0.mk (Kd.R_lower ho64 (keep_size (w := w) (g := g) (row := none) (by repeat (first | (with_reducible first | exact HK.out | apply KeepBut.set_ | apply keep_drewN | apply keep_drew | apply keep_alloc) | exact HK.out)))); have n1_ := Aside0.mk (IsS148.below (by repeat (first | (with_reducible first | exact HI0.out | apply IsS148.alloc | apply IsS148.drewN | apply IsS148.drew | apply IsS148.set_1) | exact HI0.out)) hb); have n2_ := Aside0.mk (KeepBut.trans (by repeat (first | (with_reducible first | exact HK.out | apply KeepBut.set_ | apply keep_drewN | apply keep_drew | apply keep_alloc) | exact HK.out)) (KeepBut.of_below hb g none) (.inl rfl)); have n3_ := Aside0.mk (below_step (by repeat (first | (with_reducible first | exact HB.out | apply below_alloc | apply pw_below_drewN | apply below_drew1 | refine below_set ?_ (IsS148.ge HI0.out)) | exact HB.out)) hb); clear HI0; clear HK; clear HB; have HO924 := n0_; have HI0 := n1_; have HK := n2_; have HB := n3_; clear n0_ n1_ n2_ n3_; clear hb ho64; have p925 : 0 ≤ (0 : Int) := (by omega); have q925 : 0 < (l1.length : Int) := of_decide_eq_true (by first | (with_reducible assumption) | assumption); obtain ⟨ad925, A925_0, c925_0, e925, hx925_0, hl925_0, hi925_0⟩ := at_T42 (Kd.C_foot_now HR1.out HK.out) 0 p925 q925; obtain rfl : ad912 = ad925 := (by injection e925); have qi925 : (0 < l1.length) = True := eq_true (by omega); (try rw [show ((0 : Int)).toNat = 0 from rfl] at hx925_0); (try rw [Addr.add_zero'] at hx925_0); have HR925_0 := Aside0.mk hi925_0; have HC925_0 := Aside0.mk hl925_0; clear hi925_0 hl925_0; replace p925 := eq_true p925; replace q925 := eq_true q925; have p926 : 0 ≤ (0 : Int) := (by omega); have q926 : 0 < (l1.length : Int) := of_decide_eq_true (by first | (with_reducible assumption) | assumption); obtain ⟨ad926, A926_0, c926_0, e926, hx926_0, hl926_0, hi926_0⟩ := at_T42 (Kd.C_foot_now HR1.out HK.out) 0 p926 q926; obtain rfl : ad912 = ad926 := (by injection e926); have qi926 : (0 < l1.length) = True := eq_true (by omega); (try rw [show ((0 : Int)).toNat = 0 from rfl] at hx926_0); (try rw [Addr.add_zero'] at hx926_0); have HR926_0 := Aside0.mk hi926_0; have HC926_0 := Aside0.mk hl926_0; clear hi926_0 hl926_0; replace p926 := eq_true p926; replace q926 := eq_true q926; have ea_ := Option.some.inj (hx925_0.symm.trans hx926_0); injection ea_ with ea_ en_ ec_; subst ea_; subst ec_; clear en_; have p927 : 0 ≤ (x10_30 : Int) := of_decide_eq_true (by first | (with_reducible assumption) | assumption); have q927 : x10_30 < (((rd_T42 l1 0).f0).length : Int) := of_decide_eq_true (by first | (with_reducible assumption) | assumption); obtain ⟨ad927, e927, hx927_0, hx927_1⟩ := at_T99 (by repeat (first | (with_reducible exact HR926_0.out) | (with_reducible refine Kd.C_alloc ?_ _) | (with_reducible refine Kd.C_drewN ?_ _) | (with_reducible refine Kd.C_drew ?_) | exact HR926_0.out)) x10_30 p927 q927; cases e927; replace p927 := eq_true p927; replace q927 := eq_true q927))
              go_ret
              exact ⟨_, by first | rfl | (simp [errW_none, errW_some] <;> rfl) | (simp [*, errW_none, errW_some] <;> rfl), by (with_reducible repeat (first | apply Kd.R_alloc | apply Kd.R_drewN | apply Kd.R_drew)); exact HO924.out, by repeat (first | (with_reducible first | exact HI0.out | apply IsS148.alloc | apply IsS148.drewN | apply IsS148.drew | apply IsS148.set_1) | exact HI0.out), by repeat (first | (with_reducible first | exact HB.out | apply below_alloc | apply pw_below_drewN | apply below_drew1 | refine below_set ?_ (IsS148.ge HI0.out)) | exact HB.out), by repeat (first | (with_reducible first | exact HK.out | apply KeepBut.set_ | apply keep_drewN | apply keep_drew | apply keep_alloc) | exact HK.out)⟩
           ·rw [if_neg c41] at H
            exact absurd H (by simp)
          ·rw [if_neg c40] at H
           exact absurd H (by simp)
         ·rw [if_neg c39] at H
          exact absurd H (by simp)
    ·rw [if_neg c21] at H
     exact absurd H (by simp)
end Go.Proofs.YtedkbpbodkmhlaaDoor.P
