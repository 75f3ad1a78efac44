/- A part of the proof of the law FnExactEquationsFault: words, functions of the program with what each call answers, plain lemmas; conditions stand in each statement. -/
import Derived.Laws.StructEq
import Derived.Test.YtnlpbmakdiaaoaaDoorCFnExactEquationsFault0
import Derived.Test.YtnlpbmakdiaaoaaDoorCFnExactEquationsFault1
import Derived.Test.YtnlpbmakdiaaoaaDoorCFnExactEquationsFault2
namespace Go.Proofs.YtnlpbmakdiaaoaaDoor.P
open Go.RowKit Go.Proofs.YtnlpbmakdiaaoaaDoorW.PrintWords Go.Proofs.YtnlpbmakdiaaoaaDoorW.PrintLast Go.Proofs.YtnlpbmakdiaaoaaDoorW.PrintMore
attribute [local go_sem] max2_int min2_int max_two min_two max_three min_three max_four min_four   -- for this text's walks alone
set_option linter.unusedVariables false
set_option linter.unusedSimpArgs false
mutual
def spec_l3End.l0 : Nat → List (S36) → List Int → Int → Int → Int → Option (Int)
  | 0, _, _, _, _, _ => none
  | k + 1, x0, x1, x2, x7, x8 => if 0 < (x0.length : Int) then (if 0 ≤ x2 then (if x2 < (x1.length : Int) then (if 0 ≤ (rd x1 x2) then (if (rd x1 x2) < (((rd_T36 x0 0).f0).length : Int) then (if x8 < ((rd_T124 ((rd_T36 x0 0).f0) (rd x1 x2)).f1) then ((spec_l3End.f k x0 x1 x7).bind fun t169 => (if t169 < 0 then (some (-1)) else (spec_l3End.l0 k x0 x1 x2 t169 (wrap64 (x8 + 1))))) else (some x7)) else (none)) else (none)) else (none)) else (none)) else (none)
def spec_l3End.f : Nat → List (S36) → List Int → Int → Option (Int)
  | 0, _, _, _ => none
  | k + 1, l0, l1, a2 => if a2 ≥ (l1.length : Int) then (some (-1)) else (if 0 ≤ a2 then (if a2 < (l1.length : Int) then (if (rd l1 a2) < 0 then (some (wrap64 (a2 + 1))) else (spec_l3End.l0 k l0 l1 a2 (wrap64 (a2 + 1)) 0)) else (none)) else (none))
end
set_option maxHeartbeats 8000000 in
set_option maxRecDepth 100000 in
theorem spec_l3End.calls (k : Nat) : ∀ (A0 : Option Addr) (l0 : List (S36)) (A1 : Option Addr) (c1 : Nat) (l1 : List Int) (a2 : Int) (r : Int) (w : World) (hr0 : Kd.C k36 w A0 l0.length l0) (hr1 : Kd.C (Kd.int .i64) w A1 l1.length l1) (hc1 : l1.length ≤ c1) (h : spec_l3End.f k l0 l1 a2 = some r),
    Calls Tryd.prog 90 #[.pointer A0, .slice A1 l1.length c1, .int .i64 a2] w fun e w' => e = .returned (.int .i64 r) ∧ Drawn0 w w' := by
  induction k using Nat.strongRecOn with
  | _ k ih =>
  intro A0 l0 A1 c1 l1 a2 r w hr0 hr1 hc1 h
  cases k with
  | zero => exact absurd h (by simp [spec_l3End.f])
  | succ k =>
  simp only [spec_l3End.f] at h
  have HR0 := Aside0.mk hr0
  clear hr0
  have HR1 := Aside0.mk hr1
  have HC1 := Aside0.mk hc1
  clear hr1 hc1
  have H : (if a2 ≥ (l1.length : Int) then (some (-1)) else (if 0 ≤ a2 then (if a2 < (l1.length : Int) then (if (rd l1 a2) < 0 then (some (wrap64 (a2 + 1))) else (spec_l3End.l0 k l0 l1 a2 (wrap64 (a2 + 1)) 0)) else (none)) else (none))) = some r := h
  clear h
  by_cases c4 : a2 ≥ (l1.length : Int)
  · rw [if_pos c4] at H
    have c4b0 : decide ((l1.length : Int) ≤ a2) = true := decide_eq_true c4
    clear c4
    obtain rfl := Option.some.inj H
    go_enter Tryd.func90, Tryd.ntmps90
    go_wp2
    repeat (go_quiet (fail); try go_wp2)
    go_ret
    exact ⟨by first | rfl | (simp; done) | (simp [*]; done), by repeat (first | exact Drawn0.refl _ | apply Drawn0.step)⟩
  · rw [if_neg c4] at H
    have c4b0 : decide ((l1.length : Int) ≤ a2) = false := decide_eq_false c4
    clear c4
    by_cases c5 : 0 ≤ a2
    · rw [if_pos c5] at H
      have c5b0 : decide (0 ≤ a2) = true := decide_eq_true c5
      clear c5
      by_cases c6 : a2 < (l1.length : Int)
      · rw [if_pos c6] at H
        have c6b0 : decide (a2 < (l1.length : Int)) = true := decide_eq_true c6
        clear c6
        by_cases c7 : (rd l1 a2) < 0
        · rw [if_pos c7] at H
          have c7b0 : decide ((rd l1 a2) < 0) = true := decide_eq_true c7
          clear c7
          obtain rfl := Option.some.inj H
          have p164 : 0 ≤ (a2 : Int) := of_decide_eq_true (by first | (with_reducible assumption) | assumption)
          have q164 : a2 < (l1.length : Int) := of_decide_eq_true (by first | (with_reducible assumption) | assumption)
          obtain ⟨ad164, e164, hx164_0⟩ := Kd.at_int HR1.out a2 p164 q164
          cases e164
          replace p164 := eq_true p164
          replace q164 := eq_true q164
          go_enter Tryd.func90, Tryd.ntmps90
          go_wp2
          repeat (go_quiet (fail); try go_wp2)
          go_ret
          exact ⟨by first | rfl | (simp; done) | (simp [*]; done), by repeat (first | exact Drawn0.refl _ | apply Drawn0.step)⟩
        · rw [if_neg c7] at H
          have c7b0 : decide ((rd l1 a2) < 0) = false := decide_eq_false c7
          clear c7
          have H' := Aside0.mk H
          clear H
          have p164 : 0 ≤ (a2 : Int) := of_decide_eq_true (by first | (with_reducible assumption) | assumption)
          have q164 : a2 < (l1.length : Int) := of_decide_eq_true (by first | (with_reducible assumption) | assumption)
          obtain ⟨ad164, e164, hx164_0⟩ := Kd.at_int HR1.out a2 p164 q164
          cases e164
          replace p164 := eq_true p164
          replace q164 := eq_true q164
          go_enter Tryd.func90, Tryd.ntmps90
          go_wp2
          repeat (go_quiet (fail); try go_wp2)
          go_loopg [7, 8] k (fun kq v7 v8 w' => ∃ (x7_1 : Int) (x8_1 : Int), v7 = .int .i64 x7_1 ∧ v8 = .int .i64 x8_1 ∧ Aside0 (spec_l3End.l0 kq l0 l1 a2 x7_1 x8_1 = some r) ∧ Aside0 (kq ≤ k) ∧ Drawn0 w w')
          case atStart => exact ⟨(wrap64 (a2 + 1)), (0), (by first | rfl | (simp; done) | (simp [*]; done)), (by first | rfl | (simp; done) | (simp [*]; done)), H', ⟨Nat.le_refl _⟩, by repeat (first | exact Drawn0.refl _ | apply Drawn0.step)⟩
          case round =>
            clear H'
            try clear c1
            try clear p1
            try clear q1
            try clear hx1
            try clear p2
            try clear c4
            try clear c4b0
            try clear c5
            try clear c5b0
            try clear c6
            try clear c6b0
            try clear p6
            try clear c7
            try clear c7b0
            try clear hx164_0
            try clear p164
            try clear q164
            obtain ⟨x7_1, x8_1, rfl, rfl, HA, HK1, ⟨m1, rfl⟩⟩ := hrel
            cases gk with
            | zero => exact absurd HA.out (by simp [spec_l3End.l0])
            | succ k1 =>
              have H := HA.out
              clear HA
              simp only [spec_l3End.l0] at H
              by_cases c8 : 0 < (l0.length : Int)
              · rw [if_pos c8] at H
                have c8b0 : decide (0 < (l0.length : Int)) = true := decide_eq_true c8
                have c8b1 : decide (0 < l0.length) = true := decide_eq_true (by omega)
                clear c8
                by_cases c9 : 0 ≤ a2
                · rw [if_pos c9] at H
                  have c9b0 : decide (0 ≤ a2) = true := decide_eq_true c9
                  clear c9
                  by_cases c10 : a2 < (l1.length : Int)
                  · rw [if_pos c10] at H
                    have c10b0 : decide (a2 < (l1.length : Int)) = true := decide_eq_true c10
                    clear c10
                    by_cases c11 : 0 ≤ (rd l1 a2)
                    · rw [if_pos c11] at H
                      have c11b0 : decide (0 ≤ (rd l1 a2)) = true := decide_eq_true c11
                      clear c11
                      by_cases c12 : (rd l1 a2) < (((rd_T36 l0 0).f0).length : Int)
                      · rw [if_pos c12] at H
                        have c12b0 : decide ((rd l1 a2) < (((rd_T36 l0 0).f0).length : Int)) = true := decide_eq_true c12
                        clear c12
                        by_cases c13 : x8_1 < ((rd_T124 ((rd_T36 l0 0).f0) (rd l1 a2)).f1)
                        · rw [if_pos c13] at H
                          have c13b0 : decide (x8_1 < ((rd_T124 ((rd_T36 l0 0).f0) (rd l1 a2)).f1)) = true := decide_eq_true c13
                          clear c13
                          replace H := Option.bind_eq_some_iff.mp H
                          obtain ⟨t169, A140, H⟩ := H
                          replace H : (if t169 < 0 then (some (-1)) else (spec_l3End.l0 k1 l0 l1 a2 t169 (wrap64 (x8_1 + 1)))) = some r := H
                          have A14 := Aside0.mk A140
                          clear A140
                          by_cases c15 : t169 < 0
                          · rw [if_pos c15] at H
                            have c15b0 : decide (t169 < 0) = true := decide_eq_true c15
                            clear c15
                            obtain rfl := Option.some.inj H
                            have p165 : 0 ≤ (0 : Int) := (by omega)
                            have q165 : 0 < (l0.length : Int) := of_decide_eq_true (by first | (with_reducible assumption) | assumption)
                            obtain ⟨ad165, A165_0, c165_0, e165, hx165_0, hl165_0, hi165_0⟩ := at_T36 HR0.out 0 p165 q165
                            cases e165
                            have qi165 : (0 < l0.length) = True := eq_true (by omega)
                            (try rw [show ((0 : Int)).toNat = 0 from rfl] at hx165_0)
                            (try rw [Addr.add_zero'] at hx165_0)
                            have HR165_0 := Aside0.mk hi165_0
                            have HC165_0 := Aside0.mk hl165_0
                            clear hi165_0 hl165_0
                            replace p165 := eq_true p165
                            replace q165 := eq_true q165
                            have p166 : 0 ≤ (0 : Int) := (by omega)
                            have q166 : 0 < (l0.length : Int) := of_decide_eq_true (by first | (with_reducible assumption) | assumption)
                            obtain ⟨ad166, A166_0, c166_0, e166, hx166_0, hl166_0, hi166_0⟩ := at_T36 HR0.out 0 p166 q166
                            obtain rfl : ad165 = ad166 := (by injection e166)
                            have qi166 : (0 < l0.length) = True := eq_true (by omega)
                            (try rw [show ((0 : Int)).toNat = 0 from rfl] at hx166_0)
                            (try rw [Addr.add_zero'] at hx166_0)
                            have HR166_0 := Aside0.mk hi166_0
                            have HC166_0 := Aside0.mk hl166_0
                            clear hi166_0 hl166_0
                            replace p166 := eq_true p166
                            replace q166 := eq_true q166
                            have ea_ := Option.some.inj (hx165_0.symm.trans hx166_0)
                            injection ea_ with ea_ en_ ec_
                            subst ea_
                            subst ec_
                            clear en_
                            have p167 : 0 ≤ (a2 : Int) := of_decide_eq_true (by first | (with_reducible assumption) | assumption)
                            have q167 : a2 < (l1.length : Int) := of_decide_eq_true (by first | (with_reducible assumption) | assumption)
                            obtain ⟨ad167, e167, hx167_0⟩ := Kd.at_int HR1.out a2 p167 q167
                            obtain rfl : ad164 = ad167 := (by injection e167)
                            replace p167 := eq_true p167
                            replace q167 := eq_true q167
                            have p168 : 0 ≤ ((rd l1 a2) : Int) := of_decide_eq_true (by first | (with_reducible assumption) | assumption)
                            have q168 : (rd l1 a2) < (((rd_T36 l0 0).f0).length : Int) := of_decide_eq_true (by first | (with_reducible assumption) | assumption)
                            obtain ⟨ad168, e168, hx168_0, hx168_1⟩ := at_T124 HR166_0.out (rd l1 a2) p168 q168
                            cases e168
                            replace p168 := eq_true p168
                            replace q168 := eq_true q168
                            go_wp2_with (first | (go_at_call 90; (with_reducible refine (ih k1 (by have := HK1.out; omega) _ l0 _ _ l1 x7_1 t169 _ ?side1 ?side2 ?side3 A14.out).mono ?_); (case side1 => repeat (first | exact HR0.out | (with_reducible refine Kd.C_alloc ?_ _) | (with_reducible refine Kd.C_drewN ?_ _) | (with_reducible refine Kd.C_drew ?_))); (case side2 => repeat (first | exact HR1.out | (with_reducible refine Kd.C_alloc ?_ _) | (with_reducible refine Kd.C_drewN ?_ _) | (with_reducible refine Kd.C_drew ?_))); (case side3 => exact HC1.out); rintro e w' ⟨rfl, ⟨nd, rfl⟩⟩; (try first | exact ⟨rfl, _, World.drewN_drewN _ _ _⟩ | exact ⟨rfl, _, Eq.trans (World.drewN_drewN _ _ _) (congrArg (World.drewN _) (Nat.add_assoc _ _ _))⟩)))
                            repeat (go_quiet (first | (go_at_call 90; (with_reducible refine (ih k1 (by have := HK1.out; omega) _ l0 _ _ l1 x7_1 t169 _ ?side1 ?side2 ?side3 A14.out).mono ?_); (case side1 => repeat (first | exact HR0.out | (with_reducible refine Kd.C_alloc ?_ _) | (with_reducible refine Kd.C_drewN ?_ _) | (with_reducible refine Kd.C_drew ?_))); (case side2 => repeat (first | exact HR1.out | (with_reducible refine Kd.C_alloc ?_ _) | (with_reducible refine Kd.C_drewN ?_ _) | (with_reducible refine Kd.C_drew ?_))); (case side3 => exact HC1.out); rintro e w' ⟨rfl, ⟨nd, rfl⟩⟩; (try first | exact ⟨rfl, _, World.drewN_drewN _ _ _⟩ | exact ⟨rfl, _, Eq.trans (World.drewN_drewN _ _ _) (congrArg (World.drewN _) (Nat.add_assoc _ _ _))⟩))); try go_wp2_with (first | (go_at_call 90; (with_reducible refine (ih k1 (by have := HK1.out; omega) _ l0 _ _ l1 x7_1 t169 _ ?side1 ?side2 ?side3 A14.out).mono ?_); (case side1 => repeat (first | exact HR0.out | (with_reducible refine Kd.C_alloc ?_ _) | (with_reducible refine Kd.C_drewN ?_ _) | (with_reducible refine Kd.C_drew ?_))); (case side2 => repeat (first | exact HR1.out | (with_reducible refine Kd.C_alloc ?_ _) | (with_reducible refine Kd.C_drewN ?_ _) | (with_reducible refine Kd.C_drew ?_))); (case side3 => exact HC1.out); rintro e w' ⟨rfl, ⟨nd, rfl⟩⟩; (try first | exact ⟨rfl, _, World.drewN_drewN _ _ _⟩ | exact ⟨rfl, _, Eq.trans (World.drewN_drewN _ _ _) (congrArg (World.drewN _) (Nat.add_assoc _ _ _))⟩))))
                            go_ret
                            exact ⟨by first | rfl | (simp; done) | (simp [*]; done), by repeat (first | exact Drawn0.refl _ | apply Drawn0.step)⟩
                          · rw [if_neg c15] at H
                            have c15b0 : decide (t169 < 0) = false := decide_eq_false c15
                            clear c15
                            have H' := Aside0.mk H
                            clear H
                            have p165 : 0 ≤ (0 : Int) := (by omega)
                            have q165 : 0 < (l0.length : Int) := of_decide_eq_true (by first | (with_reducible assumption) | assumption)
                            obtain ⟨ad165, A165_0, c165_0, e165, hx165_0, hl165_0, hi165_0⟩ := at_T36 HR0.out 0 p165 q165
                            cases e165
                            have qi165 : (0 < l0.length) = True := eq_true (by omega)
                            (try rw [show ((0 : Int)).toNat = 0 from rfl] at hx165_0)
                            (try rw [Addr.add_zero'] at hx165_0)
                            have HR165_0 := Aside0.mk hi165_0
                            have HC165_0 := Aside0.mk hl165_0
                            clear hi165_0 hl165_0
                            replace p165 := eq_true p165
                            replace q165 := eq_true q165
                            have p166 : 0 ≤ (0 : Int) := (by omega)
                            have q166 : 0 < (l0.length : Int) := of_decide_eq_true (by first | (with_reducible assumption) | assumption)
                            obtain ⟨ad166, A166_0, c166_0, e166, hx166_0, hl166_0, hi166_0⟩ := at_T36 HR0.out 0 p166 q166
                            obtain rfl : ad165 = ad166 := (by injection e166)
                            have qi166 : (0 < l0.length) = True := eq_true (by omega)
                            (try rw [show ((0 : Int)).toNat = 0 from rfl] at hx166_0)
                            (try rw [Addr.add_zero'] at hx166_0)
                            have HR166_0 := Aside0.mk hi166_0
                            have HC166_0 := Aside0.mk hl166_0
                            clear hi166_0 hl166_0
                            replace p166 := eq_true p166
                            replace q166 := eq_true q166
                            have ea_ := Option.some.inj (hx165_0.symm.trans hx166_0)
                            injection ea_ with ea_ en_ ec_
                            subst ea_
                            subst ec_
                            clear en_
                            have p167 : 0 ≤ (a2 : Int) := of_decide_eq_true (by first | (with_reducible assumption) | assumption)
                            have q167 : a2 < (l1.length : Int) := of_decide_eq_true (by first | (with_reducible assumption) | assumption)
                            obtain ⟨ad167, e167, hx167_0⟩ := Kd.at_int HR1.out a2 p167 q167
                            obtain rfl : ad164 = ad167 := (by injection e167)
                            replace p167 := eq_true p167
                            replace q167 := eq_true q167
                            have p168 : 0 ≤ ((rd l1 a2) : Int) := of_decide_eq_true (by first | (with_reducible assumption) | assumption)
                            have q168 : (rd l1 a2) < (((rd_T36 l0 0).f0).length : Int) := of_decide_eq_true (by first | (with_reducible assumption) | assumption)
                            obtain ⟨ad168, e168, hx168_0, hx168_1⟩ := at_T124 HR166_0.out (rd l1 a2) p168 q168
                            cases e168
                            replace p168 := eq_true p168
                            replace q168 := eq_true q168
                            go_wp2_with (first | (go_at_call 90; (with_reducible refine (ih k1 (by have := HK1.out; omega) _ l0 _ _ l1 x7_1 t169 _ ?side1 ?side2 ?side3 A14.out).mono ?_); (case side1 => repeat (first | exact HR0.out | (with_reducible refine Kd.C_alloc ?_ _) | (with_reducible refine Kd.C_drewN ?_ _) | (with_reducible refine Kd.C_drew ?_))); (case side2 => repeat (first | exact HR1.out | (with_reducible refine Kd.C_alloc ?_ _) | (with_reducible refine Kd.C_drewN ?_ _) | (with_reducible refine Kd.C_drew ?_))); (case side3 => exact HC1.out); rintro e w' ⟨rfl, ⟨nd, rfl⟩⟩; (try first | exact ⟨rfl, _, World.drewN_drewN _ _ _⟩ | exact ⟨rfl, _, Eq.trans (World.drewN_drewN _ _ _) (congrArg (World.drewN _) (Nat.add_assoc _ _ _))⟩)))
                            repeat (go_quiet (first | (go_at_call 90; (with_reducible refine (ih k1 (by have := HK1.out; omega) _ l0 _ _ l1 x7_1 t169 _ ?side1 ?side2 ?side3 A14.out).mono ?_); (case side1 => repeat (first | exact HR0.out | (with_reducible refine Kd.C_alloc ?_ _) | (with_reducible refine Kd.C_drewN ?_ _) | (with_reducible refine Kd.C_drew ?_))); (case side2 => repeat (first | exact HR1.out | (with_reducible refine Kd.C_alloc ?_ _) | (with_reducible refine Kd.C_drewN ?_ _) | (with_reducible refine Kd.C_drew ?_))); (case side3 => exact HC1.out); rintro e w' ⟨rfl, ⟨nd, rfl⟩⟩; (try first | exact ⟨rfl, _, World.drewN_drewN _ _ _⟩ | exact ⟨rfl, _, Eq.trans (World.drewN_drewN _ _ _) (congrArg (World.drewN _) (Nat.add_assoc _ _ _))⟩))); try go_wp2_with (first | (go_at_call 90; (with_reducible refine (ih k1 (by have := HK1.out; omega) _ l0 _ _ l1 x7_1 t169 _ ?side1 ?side2 ?side3 A14.out).mono ?_); (case side1 => repeat (first | exact HR0.out | (with_reducible refine Kd.C_alloc ?_ _) | (with_reducible refine Kd.C_drewN ?_ _) | (with_reducible refine Kd.C_drew ?_))); (case side2 => repeat (first | exact HR1.out | (with_reducible refine Kd.C_alloc ?_ _) | (with_reducible refine Kd.C_drewN ?_ _) | (with_reducible refine Kd.C_drew ?_))); (case side3 => exact HC1.out); rintro e w' ⟨rfl, ⟨nd, rfl⟩⟩; (try first | exact ⟨rfl, _, World.drewN_drewN _ _ _⟩ | exact ⟨rfl, _, Eq.trans (World.drewN_drewN _ _ _) (congrArg (World.drewN _) (Nat.add_assoc _ _ _))⟩))))
                            go_roundg k1
                            case measure => have := HK1.out; omega
                            case rel => exact ⟨(t169), (wrap64 (x8_1 + 1)), (by first | rfl | (simp; done) | (simp [*]; done)), (by first | rfl | (simp; done) | (simp [*]; done)), H', ⟨by have := HK1.out; omega⟩, by repeat (first | exact Drawn0.refl _ | apply Drawn0.step)⟩
                        · rw [if_neg c13] at H
                          have c13b0 : decide (x8_1 < ((rd_T124 ((rd_T36 l0 0).f0) (rd l1 a2)).f1)) = false := decide_eq_false c13
                          clear c13
                          obtain rfl := Option.some.inj H
                          have p165 : 0 ≤ (0 : Int) := (by omega)
                          have q165 : 0 < (l0.length : Int) := of_decide_eq_true (by first | (with_reducible assumption) | assumption)
                          obtain ⟨ad165, A165_0, c165_0, e165, hx165_0, hl165_0, hi165_0⟩ := at_T36 HR0.out 0 p165 q165
                          cases e165
                          have qi165 : (0 < l0.length) = True := eq_true (by omega)
                          (try rw [show ((0 : Int)).toNat = 0 from rfl] at hx165_0)
                          (try rw [Addr.add_zero'] at hx165_0)
                          have HR165_0 := Aside0.mk hi165_0
                          have HC165_0 := Aside0.mk hl165_0
                          clear hi165_0 hl165_0
                          replace p165 := eq_true p165
                          replace q165 := eq_true q165
                          have p166 : 0 ≤ (0 : Int) := (by omega)
                          have q166 : 0 < (l0.length : Int) := of_decide_eq_true (by first | (with_reducible assumption) | assumption)
                          obtain ⟨ad166, A166_0, c166_0, e166, hx166_0, hl166_0, hi166_0⟩ := at_T36 HR0.out 0 p166 q166
                          obtain rfl : ad165 = ad166 := (by injection e166)
                          have qi166 : (0 < l0.length) = True := eq_true (by omega)
                          (try rw [show ((0 : Int)).toNat = 0 from rfl] at hx166_0)
                          (try rw [Addr.add_zero'] at hx166_0)
                          have HR166_0 := Aside0.mk hi166_0
                          have HC166_0 := Aside0.mk hl166_0
                          clear hi166_0 hl166_0
                          replace p166 := eq_true p166
                          replace q166 := eq_true q166
                          have ea_ := Option.some.inj (hx165_0.symm.trans hx166_0)
                          injection ea_ with ea_ en_ ec_
                          subst ea_
                          subst ec_
                          clear en_
                          have p167 : 0 ≤ (a2 : Int) := of_decide_eq_true (by first | (with_reducible assumption) | assumption)
                          have q167 : a2 < (l1.length : Int) := of_decide_eq_true (by first | (with_reducible assumption) | assumption)
                          obtain ⟨ad167, e167, hx167_0⟩ := Kd.at_int HR1.out a2 p167 q167
                          obtain rfl : ad164 = ad167 := (by injection e167)
                          replace p167 := eq_true p167
                          replace q167 := eq_true q167
                          have p168 : 0 ≤ ((rd l1 a2) : Int) := of_decide_eq_true (by first | (with_reducible assumption) | assumption)
                          have q168 : (rd l1 a2) < (((rd_T36 l0 0).f0).length : Int) := of_decide_eq_true (by first | (with_reducible assumption) | assumption)
                          obtain ⟨ad168, e168, hx168_0, hx168_1⟩ := at_T124 HR166_0.out (rd l1 a2) p168 q168
                          cases e168
                          replace p168 := eq_true p168
                          replace q168 := eq_true q168
                          go_wp2
                          repeat (go_quiet (fail); try go_wp2)
                          go_ret
                          exact ⟨by first | rfl | (simp; done) | (simp [*]; done), by repeat (first | exact Drawn0.refl _ | apply Drawn0.step)⟩
                      · rw [if_neg c12] at H
                        exact absurd H (by simp)
                    · rw [if_neg c11] at H
                      exact absurd H (by simp)
                  · rw [if_neg c10] at H
                    exact absurd H (by simp)
                · rw [if_neg c9] at H
                  exact absurd H (by simp)
              · rw [if_neg c8] at H
                exact absurd H (by simp)
      · rw [if_neg c6] at H
        exact absurd H (by simp)
    · rw [if_neg c5] at H
      exact absurd H (by simp)
mutual
def spec_l3Fault.j0 : Nat → List (S36) → List Int → Bool → Option (Int)
  | 0, _, _, _ => none
  | k + 1, x0, x1, x13 => if x13 = true then (some 2) else (spec_l3Fault.l0 k x0 x1 0)
def spec_l3Fault.l0 : Nat → List (S36) → List Int → Int → Option (Int)
  | 0, _, _, _ => none
  | k + 1, x0, x1, x5 => if x5 < (x1.length : Int) then (if 0 ≤ x5 then ((spec_l3Node.f x0 (rd x1 x5)).bind fun t171 => (if t171 = true then (spec_l3Fault.l0 k x0 x1 (wrap64 (x5 + 1))) else (some 3))) else (none)) else ((spec_l3End.f k x0 x1 0).bind fun t172 => (if t172 = (x1.length : Int) then (some 0) else (some 1)))
end
def spec_l3Fault.f (k : Nat) (l0 : List (S36)) (l1 : List Int) : Option (Int) := if (l1.length : Int) < 1 then (spec_l3Fault.j0 k l0 l1 true) else (spec_l3Fault.j0 k l0 l1 (decide ((l1.length : Int) > 24)))
set_option maxHeartbeats 8000000 in
set_option maxRecDepth 100000 in
theorem spec_l3Fault.calls (k : Nat) (A0 : Option Addr) (l0 : List (S36)) (A1 : Option Addr) (c1 : Nat) (l1 : List Int) (r : Int) (w : World) (hr0 : Kd.C k36 w A0 l0.length l0) (hr1 : Kd.C (Kd.int .i64) w A1 l1.length l1) (hc1 : l1.length ≤ c1) (h : spec_l3Fault.f k l0 l1 = some r) :
    Calls Tryd.prog 53 #[.pointer A0, .slice A1 l1.length c1] w fun e w' => e = .returned (.int .i64 r) ∧ Drawn0 w w' := by
  have HR0 := Aside0.mk hr0
  clear hr0
  have HR1 := Aside0.mk hr1
  have HC1 := Aside0.mk hc1
  clear hr1 hc1
  have H : (if (l1.length : Int) < 1 then (spec_l3Fault.j0 k l0 l1 true) else (spec_l3Fault.j0 k l0 l1 (decide ((l1.length : Int) > 24)))) = some r := h
  clear h
  have HC3 := Aside0.mk H
  clear H
  go_enter Tryd.func53, Tryd.ntmps53
  go_upto_region 1 with (fail)
  go_cut [13] (fun v13 wc => ∃ (kq : Nat) (x13_2 : Bool), v13 = .bool x13_2 ∧ Aside0 (spec_l3Fault.j0 kq l0 l1 x13_2 = some r) ∧ Aside0 (kq ≤ k) ∧ Drawn0 w wc)
  case first =>
    have H := HC3.out
    clear HC3
    by_cases c4 : (l1.length : Int) < 1
    · rw [if_pos c4] at H
      have c4b0 : decide ((l1.length : Int) < 1) = true := decide_eq_true c4
      have c4b1 : decide (l1.length < 1) = true := decide_eq_true (by omega)
      clear c4
      (first | rw [c4b0] | (simp only [i64_w, i32_w]; rw [c4b0]) | skip)
      have H' := Aside0.mk H
      clear H
      go_wp2
      go_meet
      case rel => exact ⟨_, (true), (by first | rfl | (simp; done) | (simp [*]; done)), H', ⟨by first | omega | exact Nat.le_refl _⟩, by repeat (first | exact Drawn0.refl _ | apply Drawn0.step)⟩
    · rw [if_neg c4] at H
      have c4b0 : decide ((l1.length : Int) < 1) = false := decide_eq_false c4
      have c4b1 : decide (l1.length < 1) = false := decide_eq_false (by omega)
      clear c4
      (first | rw [c4b0] | (simp only [i64_w, i32_w]; rw [c4b0]) | skip)
      have H' := Aside0.mk H
      clear H
      go_wp2
      go_meet
      case rel => exact ⟨_, (decide ((l1.length : Int) > 24)), (by first | rfl | (simp; done) | (simp [*]; done)), H', ⟨by first | omega | exact Nat.le_refl _⟩, by repeat (first | exact Drawn0.refl _ | apply Drawn0.step)⟩
  case rest =>
    clear HC3
    try clear c1
    try clear p2
    try clear c4
    try clear c4b0
    try clear c4b1
    obtain ⟨kq, x13_2, rfl, HA, HJ2, ⟨mc2, rfl⟩⟩ := hcut
    cases kq with
    | zero => exact absurd HA.out (by simp [spec_l3Fault.j0])
    | succ kj2 =>
      have H := HA.out
      clear HA
      simp only [spec_l3Fault.j0] at H
      by_cases c5 : x13_2 = true
      · subst c5
        have H1 : (some 2) = some r := by rw [if_pos rfl] at H; exact H
        clear H
        have H := H1
        clear H1
        obtain rfl := Option.some.inj H
        go_wp2
        go_ret
        exact ⟨by first | rfl | (simp; done) | (simp [*]; done), by repeat (first | exact Drawn0.refl _ | apply Drawn0.step)⟩
      · replace c5 := Bool.eq_false_iff.mpr c5
        subst c5
        have H1 : (spec_l3Fault.l0 kj2 l0 l1 0) = some r := by rw [if_neg (show ¬ (false = true) by decide)] at H; exact H
        clear H
        have H := H1
        clear H1
        have H' := Aside0.mk H
        clear H
        go_wp2
        go_loopg [5] kj2 (fun kq v5 w' => ∃ (x5_2 : Int), v5 = .int .i64 x5_2 ∧ Aside0 (spec_l3Fault.l0 kq l0 l1 x5_2 = some r) ∧ Aside0 (kq ≤ kj2) ∧ Drawn0 w w')
        case atStart => exact ⟨(0), (by first | rfl | (simp; done) | (simp [*]; done)), H', ⟨Nat.le_refl _⟩, by repeat (first | exact Drawn0.refl _ | apply Drawn0.step)⟩
        case round =>
          clear H'
          try clear c1
          try clear c2
          try clear p2
          try clear c4
          try clear c4b0
          try clear c4b1
          try clear c5
          try clear p2
          obtain ⟨x5_2, rfl, HA, HK2, ⟨m2, rfl⟩⟩ := hrel
          cases gk with
          | zero => exact absurd HA.out (by simp [spec_l3Fault.l0])
          | succ k2 =>
            have H := HA.out
            clear HA
            simp only [spec_l3Fault.l0] at H
            by_cases c6 : x5_2 < (l1.length : Int)
            · rw [if_pos c6] at H
              have c6b0 : decide (x5_2 < (l1.length : Int)) = true := decide_eq_true c6
              clear c6
              by_cases c7 : 0 ≤ x5_2
              · rw [if_pos c7] at H
                have c7b0 : decide (0 ≤ x5_2) = true := decide_eq_true c7
                clear c7
                replace H := Option.bind_eq_some_iff.mp H
                obtain ⟨t171, A80, H⟩ := H
                replace H : (if t171 = true then (spec_l3Fault.l0 k2 l0 l1 (wrap64 (x5_2 + 1))) else (some 3)) = some r := H
                have A8 := Aside0.mk A80
                clear A80
                by_cases c9 : t171 = true
                · subst c9
                  have H1 : (spec_l3Fault.l0 k2 l0 l1 (wrap64 (x5_2 + 1))) = some r := by rw [if_pos rfl] at H; exact H
                  clear H
                  have H := H1
                  clear H1
                  have H' := Aside0.mk H
                  clear H
                  have p170 : 0 ≤ (x5_2 : Int) := of_decide_eq_true (by first | (with_reducible assumption) | assumption)
                  have q170 : x5_2 < (l1.length : Int) := of_decide_eq_true (by first | (with_reducible assumption) | assumption)
                  obtain ⟨ad170, e170, hx170_0⟩ := Kd.at_int HR1.out x5_2 p170 q170
                  cases e170
                  replace p170 := eq_true p170
                  replace q170 := eq_true q170
                  go_wp2_with (first | ((with_reducible refine gate_callee (f := 89) rfl ?_); refine goesL_ (some 25) rfl rfl Tryd.func89 (by kernel_rfl) rfl #[.pointer A0, .int .i64 (rd l1 x5_2)] rfl (by (try simp only [List.map_toArray, List.map_cons, List.map_nil]); first | done | rfl | (simp only [List.length_drop, List.length_take]; rfl)) ?_; (with_reducible refine (spec_l3Node.calls _ l0 (rd l1 x5_2) true _ ?side1 A8.out).mono ?_); (case side1 => repeat (first | exact HR0.out | (with_reducible refine Kd.C_alloc ?_ _) | (with_reducible refine Kd.C_drewN ?_ _) | (with_reducible refine Kd.C_drew ?_))); rintro e w' ⟨rfl, ⟨nd, rfl⟩⟩; refine ⟨_, rfl, ?_⟩))
                  go_roundg k2
                  case measure => have := HJ2.out; have := HK2.out; omega
                  case rel => exact ⟨(wrap64 (x5_2 + 1)), (by first | rfl | (simp; done) | (simp [*]; done)), H', ⟨by have := HJ2.out; have := HK2.out; omega⟩, by repeat (first | exact Drawn0.refl _ | apply Drawn0.step)⟩
                · replace c9 := Bool.eq_false_iff.mpr c9
                  subst c9
                  have H1 : (some 3) = some r := by rw [if_neg (show ¬ (false = true) by decide)] at H; exact H
                  clear H
                  have H := H1
                  clear H1
                  obtain rfl := Option.some.inj H
                  have p170 : 0 ≤ (x5_2 : Int) := of_decide_eq_true (by first | (with_reducible assumption) | assumption)
                  have q170 : x5_2 < (l1.length : Int) := of_decide_eq_true (by first | (with_reducible assumption) | assumption)
                  obtain ⟨ad170, e170, hx170_0⟩ := Kd.at_int HR1.out x5_2 p170 q170
                  cases e170
                  replace p170 := eq_true p170
                  replace q170 := eq_true q170
                  go_wp2_with (first | ((with_reducible refine gate_callee (f := 89) rfl ?_); refine goesL_ (some 25) rfl rfl Tryd.func89 (by kernel_rfl) rfl #[.pointer A0, .int .i64 (rd l1 x5_2)] rfl (by (try simp only [List.map_toArray, List.map_cons, List.map_nil]); first | done | rfl | (simp only [List.length_drop, List.length_take]; rfl)) ?_; (with_reducible refine (spec_l3Node.calls _ l0 (rd l1 x5_2) false _ ?side1 A8.out).mono ?_); (case side1 => repeat (first | exact HR0.out | (with_reducible refine Kd.C_alloc ?_ _) | (with_reducible refine Kd.C_drewN ?_ _) | (with_reducible refine Kd.C_drew ?_))); rintro e w' ⟨rfl, ⟨nd, rfl⟩⟩; refine ⟨_, rfl, ?_⟩))
                  go_ret
                  exact ⟨by first | rfl | (simp; done) | (simp [*]; done), by repeat (first | exact Drawn0.refl _ | apply Drawn0.step)⟩
              · rw [if_neg c7] at H
                exact absurd H (by simp)
            · rw [if_neg c6] at H
              have c6b0 : decide (x5_2 < (l1.length : Int)) = false := decide_eq_false c6
              clear c6
              replace H := Option.bind_eq_some_iff.mp H
              obtain ⟨t172, A100, H⟩ := H
              replace H : (if t172 = (l1.length : Int) then (some 0) else (some 1)) = some r := H
              have A10 := Aside0.mk A100
              clear A100
              by_cases c11 : t172 = (l1.length : Int)
              · rw [if_pos c11] at H
                have c11b0 : (t172 == (l1.length : Int)) = true := beq_iff_eq.mpr c11
                have c11b1 : (t172 != (l1.length : Int)) = false := bne_eq_false_iff_eq.mpr c11
                clear c11
                obtain rfl := Option.some.inj H
                go_wp2_with (first | ((with_reducible refine gate_callee (f := 90) rfl ?_); refine goesL_ (some 29) rfl rfl Tryd.func90 (by kernel_rfl) rfl #[.pointer A0, .slice A1 l1.length c1, .int .i64 0] rfl (by (try simp only [List.map_toArray, List.map_cons, List.map_nil]); first | done | rfl | (simp only [List.length_drop, List.length_take]; rfl)) ?_; (with_reducible refine (spec_l3End.calls k2 _ l0 _ _ l1 0 t172 _ ?side1 ?side2 ?side3 A10.out).mono ?_); (case side1 => repeat (first | exact HR0.out | (with_reducible refine Kd.C_alloc ?_ _) | (with_reducible refine Kd.C_drewN ?_ _) | (with_reducible refine Kd.C_drew ?_))); (case side2 => repeat (first | exact HR1.out | (with_reducible refine Kd.C_alloc ?_ _) | (with_reducible refine Kd.C_drewN ?_ _) | (with_reducible refine Kd.C_drew ?_))); (case side3 => exact HC1.out); rintro e w' ⟨rfl, ⟨nd, rfl⟩⟩; refine ⟨_, rfl, ?_⟩))
                go_ret
                exact ⟨by first | rfl | (simp; done) | (simp [*]; done), by repeat (first | exact Drawn0.refl _ | apply Drawn0.step)⟩
              · rw [if_neg c11] at H
                have c11b0 : (t172 == (l1.length : Int)) = false := beq_eq_false_iff_ne.mpr c11
                have c11b1 : (t172 != (l1.length : Int)) = true := bne_iff_ne.mpr c11
                obtain rfl := Option.some.inj H
                go_wp2_with (first | ((with_reducible refine gate_callee (f := 90) rfl ?_); refine goesL_ (some 29) rfl rfl Tryd.func90 (by kernel_rfl) rfl #[.pointer A0, .slice A1 l1.length c1, .int .i64 0] rfl (by (try simp only [List.map_toArray, List.map_cons, List.map_nil]); first | done | rfl | (simp only [List.length_drop, List.length_take]; rfl)) ?_; (with_reducible refine (spec_l3End.calls k2 _ l0 _ _ l1 0 t172 _ ?side1 ?side2 ?side3 A10.out).mono ?_); (case side1 => repeat (first | exact HR0.out | (with_reducible refine Kd.C_alloc ?_ _) | (with_reducible refine Kd.C_drewN ?_ _) | (with_reducible refine Kd.C_drew ?_))); (case side2 => repeat (first | exact HR1.out | (with_reducible refine Kd.C_alloc ?_ _) | (with_reducible refine Kd.C_drewN ?_ _) | (with_reducible refine Kd.C_drew ?_))); (case side3 => exact HC1.out); rintro e w' ⟨rfl, ⟨nd, rfl⟩⟩; refine ⟨_, rfl, ?_⟩))
                go_ret
                exact ⟨by first | rfl | (simp; done) | (simp [*]; done), by repeat (first | exact Drawn0.refl _ | apply Drawn0.step)⟩
end Go.Proofs.YtnlpbmakdiaaoaaDoor.P
namespace Go.Proofs.YtnlpbmakdiaaoaaDoor.P
open Go.RowKit Go.Proofs.YtnlpbmakdiaaoaaDoorW.PrintWords Go.Proofs.YtnlpbmakdiaaoaaDoorW.PrintLast Go.Proofs.YtnlpbmakdiaaoaaDoorW.PrintMore
attribute [local go_sem] max2_int min2_int max_two min_two max_three min_three max_four min_four   -- for this text's walks alone
set_option linter.unusedVariables false
set_option linter.unusedSimpArgs false
def laws_szInt64S.f (l0 : List Int) (a1 : Int) : Option (Int) := if (wrap64 (a1 - (l0.length : Int))) < 0 then (some (-1)) else (some (wrap64 (a1 - (l0.length : Int))))
set_option maxHeartbeats 8000000 in
set_option maxRecDepth 100000 in
theorem laws_szInt64S.calls (A0 : Option Addr) (c0 : Nat) (l0 : List Int) (a1 : Int) (r : Int) (w : World) (hr0 : Kd.C (Kd.int .i64) w A0 l0.length l0) (hc0 : l0.length ≤ c0) (h : laws_szInt64S.f l0 a1 = some r) :
    Calls Tryd.prog 52 #[.slice A0 l0.length c0, .int .i64 a1] w fun e w' => e = .returned (.int .i64 r) ∧ Drawn0 w w' := by
  have HR0 := Aside0.mk hr0
  have HC0 := Aside0.mk hc0
  clear hr0 hc0
  have H : (if (wrap64 (a1 - (l0.length : Int))) < 0 then (some (-1)) else (some (wrap64 (a1 - (l0.length : Int))))) = some r := h
  clear h
  by_cases c3 : (wrap64 (a1 - (l0.length : Int))) < 0
  · rw [if_pos c3] at H
    have c3b0 : decide ((wrap64 (a1 - (l0.length : Int))) < 0) = true := decide_eq_true c3
    clear c3
    obtain rfl := Option.some.inj H
    go_enter Tryd.func52, Tryd.ntmps52
    go_wp2
    go_ret
    exact ⟨by first | rfl | (simp; done) | (simp [*]; done), by repeat (first | exact Drawn0.refl _ | apply Drawn0.step)⟩
  · rw [if_neg c3] at H
    have c3b0 : decide ((wrap64 (a1 - (l0.length : Int))) < 0) = false := decide_eq_false c3
    clear c3
    obtain rfl := Option.some.inj H
    go_enter Tryd.func52, Tryd.ntmps52
    go_wp2
    go_ret
    exact ⟨by first | rfl | (simp; done) | (simp [*]; done), by repeat (first | exact Drawn0.refl _ | apply Drawn0.step)⟩
def laws_szEquation.f (l0_0 : List Int) (l0_1 : List Int) (a1 : Int) : Option (Int) := (laws_szInt64S.f l0_0 a1).bind fun t358 => (if t358 < 0 then (some (-1)) else ((laws_szInt64S.f l0_1 t358).bind fun t359 => (if t359 < 0 then (some (-1)) else (some t359))))
set_option maxHeartbeats 8000000 in
set_option maxRecDepth 100000 in
theorem laws_szEquation.calls (A0_0 : Option Addr) (c0_0 : Nat) (l0_0 : List Int) (A0_1 : Option Addr) (c0_1 : Nat) (l0_1 : List Int) (a1 : Int) (r : Int) (w : World) (hr0_0 : Kd.C (Kd.int .i64) w A0_0 l0_0.length l0_0) (hc0_0 : l0_0.length ≤ c0_0) (hr0_1 : Kd.C (Kd.int .i64) w A0_1 l0_1.length l0_1) (hc0_1 : l0_1.length ≤ c0_1) (h : laws_szEquation.f l0_0 l0_1 a1 = some r) :
    Calls Tryd.prog 9 #[.agg #[.slice A0_0 l0_0.length c0_0, .slice A0_1 l0_1.length c0_1], .int .i64 a1] w fun e w' => e = .returned (.int .i64 r) ∧ Below w.heap.size w w' := by
  have hu27 := Tryd.underlying27
  have HR0_0 := Aside0.mk hr0_0
  have HC0_0 := Aside0.mk hc0_0
  clear hr0_0 hc0_0
  have HR0_1 := Aside0.mk hr0_1
  have HC0_1 := Aside0.mk hc0_1
  clear hr0_1 hc0_1
  have HB := Aside0.mk (Below.refl w.heap.size w)
  have H : ((laws_szInt64S.f l0_0 a1).bind fun t358 => (if t358 < 0 then (some (-1)) else ((laws_szInt64S.f l0_1 t358).bind fun t359 => (if t359 < 0 then (some (-1)) else (some t359))))) = some r := h
  clear h
  replace H := Option.bind_eq_some_iff.mp H
  obtain ⟨t358, A30, H⟩ := H
  replace H : (if t358 < 0 then (some (-1)) else ((laws_szInt64S.f l0_1 t358).bind fun t359 => (if t359 < 0 then (some (-1)) else (some t359)))) = some r := H
  have A3 := Aside0.mk A30
  clear A30
  by_cases c4 : t358 < 0
  · rw [if_pos c4] at H
    have c4b0 : decide (t358 < 0) = true := decide_eq_true c4
    clear c4
    obtain rfl := Option.some.inj H
    go_enter Tryd.func9, Tryd.ntmps9
    go_wp2_with (first | ((with_reducible refine gate_dst (N := 2) rfl ?_); refine box_event ?hg (N := 2) ?hd (cs := #[.slice A0_0 l0_0.length c0_0, .slice A0_1 l0_1.length c0_1]) (t := 27) ?hr ?_; (case hd => rfl); (case hg => rfl); (case hr => first | (go_simp; done) | (go_simp; rfl)); intro gb357 hg w5 hbox hb; have n0_ := Aside0.mk (below_step (by repeat (first | (with_reducible first | exact HB.out | apply below_alloc | apply pw_below_drewN | apply below_drew1) | exact HB.out)) hb); have n1_ := Aside0.mk (hbox); have n2_ := Aside0.mk ((by rw [hg]; exact (below_size (by repeat (first | (with_reducible first | exact HB.out | apply below_alloc | apply pw_below_drewN | apply below_drew1) | exact HB.out))) : w.heap.size ≤ gb357)); have n3_ := Aside0.mk ((by rw [hg]; exact (below_size (by repeat (first | (with_reducible first | exact HB.out | apply below_alloc | apply pw_below_drewN | apply below_drew1) | exact HB.out))) : w.heap.size ≤ gb357)); clear HB; have HB := n0_; have BK357 := n1_; have GW357 := n2_; have GE357 := n3_; clear n0_ n1_ n2_ n3_; clear hb hbox hg; have hcz6_0 : w5.cell? ⟨gb357, 0, none⟩ = some (.slice A0_0 l0_0.length c0_0) := (blk_cell BK357.out 0).trans rfl; have hcz6_1 : w5.cell? ⟨gb357, 1, none⟩ = some (.slice A0_1 l0_1.length c0_1) := (blk_cell BK357.out 1).trans rfl; have hfz6_0 := blk_frozen BK357.out 0; have hfz6_1 := blk_frozen BK357.out 1) | ((with_reducible refine gate_callee (f := 52) rfl ?_); refine goesL_ (some 8) rfl rfl Tryd.func52 (by kernel_rfl) rfl #[.slice A0_0 l0_0.length c0_0, .int .i64 a1] rfl (by (try simp only [List.map_toArray, List.map_cons, List.map_nil]); first | done | rfl | (simp only [List.length_drop, List.length_take]; rfl)) ?_; (with_reducible refine (laws_szInt64S.calls _ _ l0_0 a1 t358 _ ?side1 ?side2 A3.out).mono ?_); (case side1 => repeat (first | exact (Kd.C_below HR0_0.out HB.out) | (with_reducible refine Kd.C_alloc ?_ _) | (with_reducible refine Kd.C_drewN ?_ _) | (with_reducible refine Kd.C_drew ?_))); (case side2 => exact HC0_0.out); rintro e w' ⟨rfl, ⟨nd, rfl⟩⟩; refine ⟨_, rfl, ?_⟩))
    go_ret
    exact ⟨by first | rfl | (simp [errW_none, errW_some] <;> rfl) | (simp [*, errW_none, errW_some] <;> rfl), by repeat (first | (with_reducible first | exact HB.out | apply below_alloc | apply pw_below_drewN | apply below_drew1 | refine below_set ?_ GE357.out) | exact HB.out)⟩
  · rw [if_neg c4] at H
    have c4b0 : decide (t358 < 0) = false := decide_eq_false c4
    clear c4
    replace H := Option.bind_eq_some_iff.mp H
    obtain ⟨t359, A70, H⟩ := H
    replace H : (if t359 < 0 then (some (-1)) else (some t359)) = some r := H
    have A7 := Aside0.mk A70
    clear A70
    by_cases c8 : t359 < 0
    · rw [if_pos c8] at H
      have c8b0 : decide (t359 < 0) = true := decide_eq_true c8
      clear c8
      obtain rfl := Option.some.inj H
      go_enter Tryd.func9, Tryd.ntmps9
      go_wp2_with (first | ((with_reducible refine gate_dst (N := 2) rfl ?_); refine box_event ?hg (N := 2) ?hd (cs := #[.slice A0_0 l0_0.length c0_0, .slice A0_1 l0_1.length c0_1]) (t := 27) ?hr ?_; (case hd => rfl); (case hg => rfl); (case hr => first | (go_simp; done) | (go_simp; rfl)); intro gb357 hg w9 hbox hb; have n0_ := Aside0.mk (below_step (by repeat (first | (with_reducible first | exact HB.out | apply below_alloc | apply pw_below_drewN | apply below_drew1) | exact HB.out)) hb); have n1_ := Aside0.mk (hbox); have n2_ := Aside0.mk ((by rw [hg]; exact (below_size (by repeat (first | (with_reducible first | exact HB.out | apply below_alloc | apply pw_below_drewN | apply below_drew1) | exact HB.out))) : w.heap.size ≤ gb357)); have n3_ := Aside0.mk ((by rw [hg]; exact (below_size (by repeat (first | (with_reducible first | exact HB.out | apply below_alloc | apply pw_below_drewN | apply below_drew1) | exact HB.out))) : w.heap.size ≤ gb357)); clear HB; have HB := n0_; have BK357 := n1_; have GW357 := n2_; have GE357 := n3_; clear n0_ n1_ n2_ n3_; clear hb hbox hg; have hcz10_0 : w9.cell? ⟨gb357, 0, none⟩ = some (.slice A0_0 l0_0.length c0_0) := (blk_cell BK357.out 0).trans rfl; have hcz10_1 : w9.cell? ⟨gb357, 1, none⟩ = some (.slice A0_1 l0_1.length c0_1) := (blk_cell BK357.out 1).trans rfl; have hfz10_0 := blk_frozen BK357.out 0; have hfz10_1 := blk_frozen BK357.out 1) | ((with_reducible refine gate_callee (f := 52) rfl ?_); refine goesL_ (some 8) rfl rfl Tryd.func52 (by kernel_rfl) rfl #[.slice A0_0 l0_0.length c0_0, .int .i64 a1] rfl (by (try simp only [List.map_toArray, List.map_cons, List.map_nil]); first | done | rfl | (simp only [List.length_drop, List.length_take]; rfl)) ?_; (with_reducible refine (laws_szInt64S.calls _ _ l0_0 a1 t358 _ ?side1 ?side2 A3.out).mono ?_); (case side1 => repeat (first | exact (Kd.C_below HR0_0.out HB.out) | (with_reducible refine Kd.C_alloc ?_ _) | (with_reducible refine Kd.C_drewN ?_ _) | (with_reducible refine Kd.C_drew ?_))); (case side2 => exact HC0_0.out); rintro e w' ⟨rfl, ⟨nd, rfl⟩⟩; refine ⟨_, rfl, ?_⟩) | ((with_reducible refine gate_callee (f := 52) rfl ?_); refine goesL_ (some 14) rfl rfl Tryd.func52 (by kernel_rfl) rfl #[.slice A0_1 l0_1.length c0_1, .int .i64 t358] rfl (by (try simp only [List.map_toArray, List.map_cons, List.map_nil]); first | done | rfl | (simp only [List.length_drop, List.length_take]; rfl)) ?_; (with_reducible refine (laws_szInt64S.calls _ _ l0_1 t358 t359 _ ?side1 ?side2 A7.out).mono ?_); (case side1 => repeat (first | exact (Kd.C_below HR0_1.out (by repeat (first | (with_reducible first | exact HB.out | apply below_alloc | apply pw_below_drewN | apply below_drew1 | refine below_set ?_ GE357.out) | exact HB.out))) | (with_reducible refine Kd.C_alloc ?_ _) | (with_reducible refine Kd.C_drewN ?_ _) | (with_reducible refine Kd.C_drew ?_))); (case side2 => exact HC0_1.out); rintro e w' ⟨rfl, ⟨nd, rfl⟩⟩; refine ⟨_, rfl, ?_⟩))
      go_ret
      exact ⟨by first | rfl | (simp [errW_none, errW_some] <;> rfl) | (simp [*, errW_none, errW_some] <;> rfl), by repeat (first | (with_reducible first | exact HB.out | apply below_alloc | apply pw_below_drewN | apply below_drew1 | refine below_set ?_ GE357.out) | exact HB.out)⟩
    · rw [if_neg c8] at H
      have c8b0 : decide (t359 < 0) = false := decide_eq_false c8
      clear c8
      obtain rfl := Option.some.inj H
      go_enter Tryd.func9, Tryd.ntmps9
      go_wp2_with (first | ((with_reducible refine gate_dst (N := 2) rfl ?_); refine box_event ?hg (N := 2) ?hd (cs := #[.slice A0_0 l0_0.length c0_0, .slice A0_1 l0_1.length c0_1]) (t := 27) ?hr ?_; (case hd => rfl); (case hg => rfl); (case hr => first | (go_simp; done) | (go_simp; rfl)); intro gb357 hg w11 hbox hb; have n0_ := Aside0.mk (below_step (by repeat (first | (with_reducible first | exact HB.out | apply below_alloc | apply pw_below_drewN | apply below_drew1) | exact HB.out)) hb); have n1_ := Aside0.mk (hbox); have n2_ := Aside0.mk ((by rw [hg]; exact (below_size (by repeat (first | (with_reducible first | exact HB.out | apply below_alloc | apply pw_below_drewN | apply below_drew1) | exact HB.out))) : w.heap.size ≤ gb357)); have n3_ := Aside0.mk ((by rw [hg]; exact (below_size (by repeat (first | (with_reducible first | exact HB.out | apply below_alloc | apply pw_below_drewN | apply below_drew1) | exact HB.out))) : w.heap.size ≤ gb357)); clear HB; have HB := n0_; have BK357 := n1_; have GW357 := n2_; have GE357 := n3_; clear n0_ n1_ n2_ n3_; clear hb hbox hg; have hcz12_0 : w11.cell? ⟨gb357, 0, none⟩ = some (.slice A0_0 l0_0.length c0_0) := (blk_cell BK357.out 0).trans rfl; have hcz12_1 : w11.cell? ⟨gb357, 1, none⟩ = some (.slice A0_1 l0_1.length c0_1) := (blk_cell BK357.out 1).trans rfl; have hfz12_0 := blk_frozen BK357.out 0; have hfz12_1 := blk_frozen BK357.out 1) | ((with_reducible refine gate_callee (f := 52) rfl ?_); refine goesL_ (some 8) rfl rfl Tryd.func52 (by kernel_rfl) rfl #[.slice A0_0 l0_0.length c0_0, .int .i64 a1] rfl (by (try simp only [List.map_toArray, List.map_cons, List.map_nil]); first | done | rfl | (simp only [List.length_drop, List.length_take]; rfl)) ?_; (with_reducible refine (laws_szInt64S.calls _ _ l0_0 a1 t358 _ ?side1 ?side2 A3.out).mono ?_); (case side1 => repeat (first | exact (Kd.C_below HR0_0.out HB.out) | (with_reducible refine Kd.C_alloc ?_ _) | (with_reducible refine Kd.C_drewN ?_ _) | (with_reducible refine Kd.C_drew ?_))); (case side2 => exact HC0_0.out); rintro e w' ⟨rfl, ⟨nd, rfl⟩⟩; refine ⟨_, rfl, ?_⟩) | ((with_reducible refine gate_callee (f := 52) rfl ?_); refine goesL_ (some 14) rfl rfl Tryd.func52 (by kernel_rfl) rfl #[.slice A0_1 l0_1.length c0_1, .int .i64 t358] rfl (by (try simp only [List.map_toArray, List.map_cons, List.map_nil]); first | done | rfl | (simp only [List.length_drop, List.length_take]; rfl)) ?_; (with_reducible refine (laws_szInt64S.calls _ _ l0_1 t358 t359 _ ?side1 ?side2 A7.out).mono ?_); (case side1 => repeat (first | exact (Kd.C_below HR0_1.out (by repeat (first | (with_reducible first | exact HB.out | apply below_alloc | apply pw_below_drewN | apply below_drew1 | refine below_set ?_ GE357.out) | exact HB.out))) | (with_reducible refine Kd.C_alloc ?_ _) | (with_reducible refine Kd.C_drewN ?_ _) | (with_reducible refine Kd.C_drew ?_))); (case side2 => exact HC0_1.out); rintro e w' ⟨rfl, ⟨nd, rfl⟩⟩; refine ⟨_, rfl, ?_⟩))
      go_ret
      exact ⟨by first | rfl | (simp [errW_none, errW_some] <;> rfl) | (simp [*, errW_none, errW_some] <;> rfl), by repeat (first | (with_reducible first | exact HB.out | apply below_alloc | apply pw_below_drewN | apply below_drew1 | refine below_set ?_ GE357.out) | exact HB.out)⟩
def laws_szEquationS.l0 : Nat → List (S27) → Int → Int → Option (Int)
  | 0, _, _, _ => none
  | k + 1, x0, x1, x5 => if x5 < (x0.length : Int) then (if 0 ≤ x5 then ((laws_szEquation.f ((rd_T27 x0 x5).f0) ((rd_T27 x0 x5).f1) x1).bind fun t361 => (if t361 < 0 then (some (-1)) else (laws_szEquationS.l0 k x0 t361 (wrap64 (x5 + 1))))) else (none)) else (some x1)
def laws_szEquationS.f (k : Nat) (l0 : List (S27)) (a1 : Int) : Option (Int) := if (wrap64 (a1 - (l0.length : Int))) < 0 then (some (-1)) else (laws_szEquationS.l0 k l0 (wrap64 (a1 - (l0.length : Int))) 0)
set_option maxHeartbeats 8000000 in
set_option maxRecDepth 100000 in
theorem laws_szEquationS.calls (k : Nat) (A0 : Option Addr) (c0 : Nat) (l0 : List (S27)) (a1 : Int) (r : Int) (w : World) (hr0 : Kd.C k27 w A0 l0.length l0) (hc0 : l0.length ≤ c0) (h : laws_szEquationS.f k l0 a1 = some r) :
    Calls Tryd.prog 35 #[.slice A0 l0.length c0, .int .i64 a1] w fun e w' => e = .returned (.int .i64 r) ∧ Below w.heap.size w w' := by
  have hu27 := Tryd.underlying27
  have HR0 := Aside0.mk hr0
  have HC0 := Aside0.mk hc0
  clear hr0 hc0
  have HB := Aside0.mk (Below.refl w.heap.size w)
  have H : (if (wrap64 (a1 - (l0.length : Int))) < 0 then (some (-1)) else (laws_szEquationS.l0 k l0 (wrap64 (a1 - (l0.length : Int))) 0)) = some r := h
  clear h
  by_cases c3 : (wrap64 (a1 - (l0.length : Int))) < 0
  · rw [if_pos c3] at H
    have c3b0 : decide ((wrap64 (a1 - (l0.length : Int))) < 0) = true := decide_eq_true c3
    clear c3
    obtain rfl := Option.some.inj H
    go_enter Tryd.func35, Tryd.ntmps35
    go_wp2
    go_ret
    exact ⟨by first | rfl | (simp [errW_none, errW_some] <;> rfl) | (simp [*, errW_none, errW_some] <;> rfl), by repeat (first | (with_reducible first | exact HB.out | apply below_alloc | apply pw_below_drewN | apply below_drew1) | exact HB.out)⟩
  · rw [if_neg c3] at H
    have c3b0 : decide ((wrap64 (a1 - (l0.length : Int))) < 0) = false := decide_eq_false c3
    clear c3
    have H' := Aside0.mk H
    clear H
    go_enter Tryd.func35, Tryd.ntmps35
    go_wp2
    go_loopg [1, 5] k (fun kq v1 v5 w' => ∃ (x1_1 : Int) (x5_1 : Int), v1 = .int .i64 x1_1 ∧ v5 = .int .i64 x5_1 ∧ Aside0 (laws_szEquationS.l0 kq l0 x1_1 x5_1 = some r) ∧ Aside0 (kq ≤ k) ∧ Aside0 (Below w.heap.size w w'))
    case atStart => exact ⟨(wrap64 (a1 - (l0.length : Int))), (0), (by first | rfl | (simp; done) | (simp [*]; done)), (by first | rfl | (simp; done) | (simp [*]; done)), H', ⟨Nat.le_refl _⟩, ⟨by repeat (first | (with_reducible first | exact HB.out | apply below_alloc | apply pw_below_drewN | apply below_drew1) | exact HB.out)⟩⟩
    case round =>
      clear H'
      try clear p2
      try clear c3
      try clear c3b0
      obtain ⟨x1_1, x5_1, rfl, rfl, HA, HK1, HB⟩ := hrel
      cases gk with
      | zero => exact absurd HA.out (by simp [laws_szEquationS.l0])
      | succ k1 =>
        have H := HA.out
        clear HA
        simp only [laws_szEquationS.l0] at H
        by_cases c4 : x5_1 < (l0.length : Int)
        · rw [if_pos c4] at H
          have c4b0 : decide (x5_1 < (l0.length : Int)) = true := decide_eq_true c4
          clear c4
          by_cases c5 : 0 ≤ x5_1
          · rw [if_pos c5] at H
            have c5b0 : decide (0 ≤ x5_1) = true := decide_eq_true c5
            clear c5
            replace H := Option.bind_eq_some_iff.mp H
            obtain ⟨t361, A60, H⟩ := H
            replace H : (if t361 < 0 then (some (-1)) else (laws_szEquationS.l0 k1 l0 t361 (wrap64 (x5_1 + 1)))) = some r := H
            have A6 := Aside0.mk A60
            clear A60
            by_cases c7 : t361 < 0
            · rw [if_pos c7] at H
              have c7b0 : decide (t361 < 0) = true := decide_eq_true c7
              clear c7
              obtain rfl := Option.some.inj H
              have p360 : 0 ≤ (x5_1 : Int) := of_decide_eq_true (by first | (with_reducible assumption) | assumption)
              have q360 : x5_1 < (l0.length : Int) := of_decide_eq_true (by first | (with_reducible assumption) | assumption)
              obtain ⟨ad360, A360_0, c360_0, A360_1, c360_1, e360, hx360_0, hx360_1, hl360_0, hi360_0, hl360_1, hi360_1⟩ := at_T27 HR0.out x5_1 p360 q360
              cases e360
              replace hx360_0 := (HB.out.cell (World.block_lt_of_cell? w _ hx360_0)).trans hx360_0
              replace hx360_1 := (HB.out.cell (World.block_lt_of_cell? w _ hx360_1)).trans hx360_1
              have HR360_0 := Aside0.mk hi360_0
              have HC360_0 := Aside0.mk hl360_0
              clear hi360_0 hl360_0
              have HR360_1 := Aside0.mk hi360_1
              have HC360_1 := Aside0.mk hl360_1
              clear hi360_1 hl360_1
              replace p360 := eq_true p360
              replace q360 := eq_true q360
              go_wp2_with (first | ((with_reducible refine gate_callee (f := 9) rfl ?_); refine goesL_ (some 23) rfl rfl Tryd.func9 (by kernel_rfl) rfl #[.agg #[.slice A360_0 ((rd_T27 l0 x5_1).f0).length c360_0, .slice A360_1 ((rd_T27 l0 x5_1).f1).length c360_1], .int .i64 x1_1] rfl (by (try simp only [List.map_toArray, List.map_cons, List.map_nil]); first | done | rfl | (simp only [List.length_drop, List.length_take]; rfl)) ?_; (with_reducible refine (laws_szEquation.calls _ _ ((rd_T27 l0 x5_1).f0) _ _ ((rd_T27 l0 x5_1).f1) x1_1 t361 _ ?side1 ?side2 ?side3 ?side4 A6.out).mono ?_); (case side1 => repeat (first | exact (Kd.C_below HR360_0.out HB.out) | (with_reducible refine Kd.C_alloc ?_ _) | (with_reducible refine Kd.C_drewN ?_ _) | (with_reducible refine Kd.C_drew ?_))); (case side2 => exact HC360_0.out); (case side3 => repeat (first | exact (Kd.C_below HR360_1.out HB.out) | (with_reducible refine Kd.C_alloc ?_ _) | (with_reducible refine Kd.C_drewN ?_ _) | (with_reducible refine Kd.C_drew ?_))); (case side4 => exact HC360_1.out); rintro e w8 ⟨rfl, hb⟩; refine ⟨_, rfl, ?_⟩; have n0_ := Aside0.mk (below_step (by repeat (first | (with_reducible first | exact HB.out | apply below_alloc | apply pw_below_drewN | apply below_drew1) | exact HB.out)) hb); clear HB; have HB := n0_; clear n0_; (try clear hb); (try clear hb2); (try clear hgw); (try clear hk); (try clear hi)))
              go_ret
              exact ⟨by first | rfl | (simp [errW_none, errW_some] <;> rfl) | (simp [*, errW_none, errW_some] <;> rfl), by repeat (first | (with_reducible first | exact HB.out | apply below_alloc | apply pw_below_drewN | apply below_drew1) | exact HB.out)⟩
            · rw [if_neg c7] at H
              have c7b0 : decide (t361 < 0) = false := decide_eq_false c7
              clear c7
              have H' := Aside0.mk H
              clear H
              have p360 : 0 ≤ (x5_1 : Int) := of_decide_eq_true (by first | (with_reducible assumption) | assumption)
              have q360 : x5_1 < (l0.length : Int) := of_decide_eq_true (by first | (with_reducible assumption) | assumption)
              obtain ⟨ad360, A360_0, c360_0, A360_1, c360_1, e360, hx360_0, hx360_1, hl360_0, hi360_0, hl360_1, hi360_1⟩ := at_T27 HR0.out x5_1 p360 q360
              cases e360
              replace hx360_0 := (HB.out.cell (World.block_lt_of_cell? w _ hx360_0)).trans hx360_0
              replace hx360_1 := (HB.out.cell (World.block_lt_of_cell? w _ hx360_1)).trans hx360_1
              have HR360_0 := Aside0.mk hi360_0
              have HC360_0 := Aside0.mk hl360_0
              clear hi360_0 hl360_0
              have HR360_1 := Aside0.mk hi360_1
              have HC360_1 := Aside0.mk hl360_1
              clear hi360_1 hl360_1
              replace p360 := eq_true p360
              replace q360 := eq_true q360
              go_wp2_with (first | ((with_reducible refine gate_callee (f := 9) rfl ?_); refine goesL_ (some 23) rfl rfl Tryd.func9 (by kernel_rfl) rfl #[.agg #[.slice A360_0 ((rd_T27 l0 x5_1).f0).length c360_0, .slice A360_1 ((rd_T27 l0 x5_1).f1).length c360_1], .int .i64 x1_1] rfl (by (try simp only [List.map_toArray, List.map_cons, List.map_nil]); first | done | rfl | (simp only [List.length_drop, List.length_take]; rfl)) ?_; (with_reducible refine (laws_szEquation.calls _ _ ((rd_T27 l0 x5_1).f0) _ _ ((rd_T27 l0 x5_1).f1) x1_1 t361 _ ?side1 ?side2 ?side3 ?side4 A6.out).mono ?_); (case side1 => repeat (first | exact (Kd.C_below HR360_0.out HB.out) | (with_reducible refine Kd.C_alloc ?_ _) | (with_reducible refine Kd.C_drewN ?_ _) | (with_reducible refine Kd.C_drew ?_))); (case side2 => exact HC360_0.out); (case side3 => repeat (first | exact (Kd.C_below HR360_1.out HB.out) | (with_reducible refine Kd.C_alloc ?_ _) | (with_reducible refine Kd.C_drewN ?_ _) | (with_reducible refine Kd.C_drew ?_))); (case side4 => exact HC360_1.out); rintro e w9 ⟨rfl, hb⟩; refine ⟨_, rfl, ?_⟩; have n0_ := Aside0.mk (below_step (by repeat (first | (with_reducible first | exact HB.out | apply below_alloc | apply pw_below_drewN | apply below_drew1) | exact HB.out)) hb); clear HB; have HB := n0_; clear n0_; (try clear hb); (try clear hb2); (try clear hgw); (try clear hk); (try clear hi)))
              go_roundg k1
              case measure => have := HK1.out; omega
              case rel => exact ⟨(t361), (wrap64 (x5_1 + 1)), (by first | rfl | (simp; done) | (simp [*]; done)), (by first | rfl | (simp; done) | (simp [*]; done)), H', ⟨by have := HK1.out; omega⟩, ⟨by repeat (first | (with_reducible first | exact HB.out | apply below_alloc | apply pw_below_drewN | apply below_drew1) | exact HB.out)⟩⟩
          · rw [if_neg c5] at H
            exact absurd H (by simp)
        · rw [if_neg c4] at H
          have c4b0 : decide (x5_1 < (l0.length : Int)) = false := decide_eq_false c4
          clear c4
          obtain rfl := Option.some.inj H
          go_wp2
          go_ret
          exact ⟨by first | rfl | (simp [errW_none, errW_some] <;> rfl) | (simp [*, errW_none, errW_some] <;> rfl), by repeat (first | (with_reducible first | exact HB.out | apply below_alloc | apply pw_below_drewN | apply below_drew1) | exact HB.out)⟩
def spec_l4Low.l0 : Nat → List Int → Int → Option (Bool)
  | 0, _, _ => none
  | k + 1, x0, x3 => if x3 < (x0.length : Int) then (if 0 ≤ x3 then (if (rd x0 x3) < (-6) then (some false) else (spec_l4Low.l0 k x0 (wrap64 (x3 + 1)))) else (none)) else (some true)
def spec_l4Low.f (k : Nat) (l0 : List Int) : Option (Bool) := spec_l4Low.l0 k l0 0
set_option maxHeartbeats 8000000 in
set_option maxRecDepth 100000 in
theorem spec_l4Low.calls (k : Nat) (A0 : Option Addr) (c0 : Nat) (l0 : List Int) (r : Bool) (w : World) (hr0 : Kd.C (Kd.int .i64) w A0 l0.length l0) (hc0 : l0.length ≤ c0) (h : spec_l4Low.f k l0 = some r) :
    Calls Tryd.prog 134 #[.slice A0 l0.length c0] w fun e w' => e = .returned (.bool r) ∧ Drawn0 w w' := by
  have HR0 := Aside0.mk hr0
  have HC0 := Aside0.mk hc0
  clear hr0 hc0
  have H : (spec_l4Low.l0 k l0 0) = some r := h
  clear h
  have H' := Aside0.mk H
  clear H
  go_enter Tryd.func134, Tryd.ntmps134
  go_wp2
  go_loopg [3] k (fun kq v3 w' => ∃ (x3_1 : Int), v3 = .int .i64 x3_1 ∧ Aside0 (spec_l4Low.l0 kq l0 x3_1 = some r) ∧ Aside0 (kq ≤ k) ∧ Drawn0 w w')
  case atStart => exact ⟨(0), (by first | rfl | (simp; done) | (simp [*]; done)), H', ⟨Nat.le_refl _⟩, by repeat (first | exact Drawn0.refl _ | apply Drawn0.step)⟩
  case round =>
    clear H'
    try clear c1
    obtain ⟨x3_1, rfl, HA, HK1, ⟨m1, rfl⟩⟩ := hrel
    cases gk with
    | zero => exact absurd HA.out (by simp [spec_l4Low.l0])
    | succ k1 =>
      have H := HA.out
      clear HA
      simp only [spec_l4Low.l0] at H
      by_cases c2 : x3_1 < (l0.length : Int)
      · rw [if_pos c2] at H
        have c2b0 : decide (x3_1 < (l0.length : Int)) = true := decide_eq_true c2
        clear c2
        by_cases c3 : 0 ≤ x3_1
        · rw [if_pos c3] at H
          have c3b0 : decide (0 ≤ x3_1) = true := decide_eq_true c3
          clear c3
          by_cases c4 : (rd l0 x3_1) < (-6)
          · rw [if_pos c4] at H
            have c4b0 : decide ((rd l0 x3_1) < (-6)) = true := decide_eq_true c4
            clear c4
            obtain rfl := Option.some.inj H
            have p362 : 0 ≤ (x3_1 : Int) := of_decide_eq_true (by first | (with_reducible assumption) | assumption)
            have q362 : x3_1 < (l0.length : Int) := of_decide_eq_true (by first | (with_reducible assumption) | assumption)
            obtain ⟨ad362, e362, hx362_0⟩ := Kd.at_int HR0.out x3_1 p362 q362
            cases e362
            replace p362 := eq_true p362
            replace q362 := eq_true q362
            go_wp2
            go_ret
            exact ⟨by first | rfl | (simp; done) | (simp [*]; done), by repeat (first | exact Drawn0.refl _ | apply Drawn0.step)⟩
          · rw [if_neg c4] at H
            have c4b0 : decide ((rd l0 x3_1) < (-6)) = false := decide_eq_false c4
            clear c4
            have H' := Aside0.mk H
            clear H
            have p362 : 0 ≤ (x3_1 : Int) := of_decide_eq_true (by first | (with_reducible assumption) | assumption)
            have q362 : x3_1 < (l0.length : Int) := of_decide_eq_true (by first | (with_reducible assumption) | assumption)
            obtain ⟨ad362, e362, hx362_0⟩ := Kd.at_int HR0.out x3_1 p362 q362
            cases e362
            replace p362 := eq_true p362
            replace q362 := eq_true q362
            go_wp2
            go_roundg k1
            case measure => have := HK1.out; omega
            case rel => exact ⟨(wrap64 (x3_1 + 1)), (by first | rfl | (simp; done) | (simp [*]; done)), H', ⟨by have := HK1.out; omega⟩, by repeat (first | exact Drawn0.refl _ | apply Drawn0.step)⟩
        · rw [if_neg c3] at H
          exact absurd H (by simp)
      · rw [if_neg c2] at H
        have c2b0 : decide (x3_1 < (l0.length : Int)) = false := decide_eq_false c2
        clear c2
        obtain rfl := Option.some.inj H
        go_wp2
        go_ret
        exact ⟨by first | rfl | (simp; done) | (simp [*]; done), by repeat (first | exact Drawn0.refl _ | apply Drawn0.step)⟩
def spec_l4Fault.f (k : Nat) (l0 : List (S36)) (l1 : List (S30)) : Option (Int) := if 0 < (l1.length : Int) then ((spec_l3Fault.f k l0 ((rd_T30 l1 0).f0)).bind fun t365 => (if t365 = 0 then ((spec_l3Fault.f k l0 ((rd_T30 l1 0).f1)).bind fun t368 => (if t368 = 0 then ((spec_l4Low.f k ((rd_T30 l1 0).f0)).bind fun t371 => (if t371 = true then ((spec_l4Low.f k ((rd_T30 l1 0).f1)).bind fun t374 => (if t374 = true then (some 0) else (some 3))) else (some 3))) else (some t368))) else (some t365))) else (none)
set_option maxHeartbeats 8000000 in
set_option maxRecDepth 100000 in
theorem spec_l4Fault.calls (k : Nat) (A0 : Option Addr) (l0 : List (S36)) (A1 : Option Addr) (l1 : List (S30)) (r : Int) (w : World) (hr0 : Kd.C k36 w A0 l0.length l0) (hr1 : Kd.C k30 w A1 l1.length l1) (h : spec_l4Fault.f k l0 l1 = some r) :
    Calls Tryd.prog 115 #[.pointer A0, .pointer A1] w fun e w' => e = .returned (.int .i64 r) ∧ Drawn0 w w' := by
  have HR0 := Aside0.mk hr0
  clear hr0
  have HR1 := Aside0.mk hr1
  clear hr1
  have H : (if 0 < (l1.length : Int) then ((spec_l3Fault.f k l0 ((rd_T30 l1 0).f0)).bind fun t365 => (if t365 = 0 then ((spec_l3Fault.f k l0 ((rd_T30 l1 0).f1)).bind fun t368 => (if t368 = 0 then ((spec_l4Low.f k ((rd_T30 l1 0).f0)).bind fun t371 => (if t371 = true then ((spec_l4Low.f k ((rd_T30 l1 0).f1)).bind fun t374 => (if t374 = true then (some 0) else (some 3))) else (some 3))) else (some t368))) else (some t365))) else (none)) = some r := h
  clear h
  by_cases c3 : 0 < (l1.length : Int)
  · rw [if_pos c3] at H
    have c3b0 : decide (0 < (l1.length : Int)) = true := decide_eq_true c3
    have c3b1 : decide (0 < l1.length) = true := decide_eq_true (by omega)
    clear c3
    replace H := Option.bind_eq_some_iff.mp H
    obtain ⟨t365, A40, H⟩ := H
    replace H : (if t365 = 0 then ((spec_l3Fault.f k l0 ((rd_T30 l1 0).f1)).bind fun t368 => (if t368 = 0 then ((spec_l4Low.f k ((rd_T30 l1 0).f0)).bind fun t371 => (if t371 = true then ((spec_l4Low.f k ((rd_T30 l1 0).f1)).bind fun t374 => (if t374 = true then (some 0) else (some 3))) else (some 3))) else (some t368))) else (some t365)) = some r := H
    have A4 := Aside0.mk A40
    clear A40
    by_cases c5 : t365 = 0
    · rw [if_pos c5] at H
      have c5b0 : (t365 == 0) = true := beq_iff_eq.mpr c5
      have c5b1 : (t365 != 0) = false := bne_eq_false_iff_eq.mpr c5
      clear c5
      replace H := Option.bind_eq_some_iff.mp H
      obtain ⟨t368, A60, H⟩ := H
      replace H : (if t368 = 0 then ((spec_l4Low.f k ((rd_T30 l1 0).f0)).bind fun t371 => (if t371 = true then ((spec_l4Low.f k ((rd_T30 l1 0).f1)).bind fun t374 => (if t374 = true then (some 0) else (some 3))) else (some 3))) else (some t368)) = some r := H
      have A6 := Aside0.mk A60
      clear A60
      by_cases c7 : t368 = 0
      · rw [if_pos c7] at H
        have c7b0 : (t368 == 0) = true := beq_iff_eq.mpr c7
        have c7b1 : (t368 != 0) = false := bne_eq_false_iff_eq.mpr c7
        clear c7
        replace H := Option.bind_eq_some_iff.mp H
        obtain ⟨t371, A80, H⟩ := H
        replace H : (if t371 = true then ((spec_l4Low.f k ((rd_T30 l1 0).f1)).bind fun t374 => (if t374 = true then (some 0) else (some 3))) else (some 3)) = some r := H
        have A8 := Aside0.mk A80
        clear A80
        by_cases c9 : t371 = true
        · subst c9
          have H1 : ((spec_l4Low.f k ((rd_T30 l1 0).f1)).bind fun t374 => (if t374 = true then (some 0) else (some 3))) = some r := by rw [if_pos rfl] at H; exact H
          clear H
          have H := H1
          clear H1
          replace H := Option.bind_eq_some_iff.mp H
          obtain ⟨t374, A100, H⟩ := H
          replace H : (if t374 = true then (some 0) else (some 3)) = some r := H
          have A10 := Aside0.mk A100
          clear A100
          by_cases c11 : t374 = true
          · subst c11
            have H1 : (some 0) = some r := by rw [if_pos rfl] at H; exact H
            clear H
            have H := H1
            clear H1
            obtain rfl := Option.some.inj H
            have p363 : 0 ≤ (0 : Int) := (by omega)
            have q363 : 0 < (l1.length : Int) := of_decide_eq_true (by first | (with_reducible assumption) | assumption)
            obtain ⟨ad363, A363_0, c363_0, A363_1, c363_1, e363, hx363_0, hx363_1, hl363_0, hi363_0, hl363_1, hi363_1⟩ := at_T30 HR1.out 0 p363 q363
            cases e363
            have qi363 : (0 < l1.length) = True := eq_true (by omega)
            (try rw [show ((0 : Int)).toNat = 0 from rfl] at hx363_0)
            (try rw [show 0 * 2 = 0 from rfl] at hx363_0)
            (try rw [Addr.add_zero'] at hx363_0)
            (try rw [show ((0 : Int)).toNat = 0 from rfl] at hx363_1)
            (try rw [show 0 * 2 = 0 from rfl] at hx363_1)
            (try rw [Addr.add_zero'] at hx363_1)
            have HR363_0 := Aside0.mk hi363_0
            have HC363_0 := Aside0.mk hl363_0
            clear hi363_0 hl363_0
            have HR363_1 := Aside0.mk hi363_1
            have HC363_1 := Aside0.mk hl363_1
            clear hi363_1 hl363_1
            replace p363 := eq_true p363
            replace q363 := eq_true q363
            have p364 : 0 ≤ (0 : Int) := (by omega)
            have q364 : 0 < (l1.length : Int) := of_decide_eq_true (by first | (with_reducible assumption) | assumption)
            obtain ⟨ad364, A364_0, c364_0, A364_1, c364_1, e364, hx364_0, hx364_1, hl364_0, hi364_0, hl364_1, hi364_1⟩ := at_T30 HR1.out 0 p364 q364
            obtain rfl : ad363 = ad364 := (by injection e364)
            have qi364 : (0 < l1.length) = True := eq_true (by omega)
            (try rw [show ((0 : Int)).toNat = 0 from rfl] at hx364_0)
            (try rw [show 0 * 2 = 0 from rfl] at hx364_0)
            (try rw [Addr.add_zero'] at hx364_0)
            (try rw [show ((0 : Int)).toNat = 0 from rfl] at hx364_1)
            (try rw [show 0 * 2 = 0 from rfl] at hx364_1)
            (try rw [Addr.add_zero'] at hx364_1)
            have HR364_0 := Aside0.mk hi364_0
            have HC364_0 := Aside0.mk hl364_0
            clear hi364_0 hl364_0
            have HR364_1 := Aside0.mk hi364_1
            have HC364_1 := Aside0.mk hl364_1
            clear hi364_1 hl364_1
            replace p364 := eq_true p364
            replace q364 := eq_true q364
            have ea_ := Option.some.inj (hx363_0.symm.trans hx364_0)
            injection ea_ with ea_ en_ ec_
            subst ea_
            subst ec_
            clear en_
            have ea_ := Option.some.inj (hx363_1.symm.trans hx364_1)
            injection ea_ with ea_ en_ ec_
            subst ea_
            subst ec_
            clear en_
            go_enter Tryd.func115, Tryd.ntmps115
            go_wp2_with (first | ((with_reducible refine gate_callee (f := 53) rfl ?_); refine goesL_ (some 12) rfl rfl Tryd.func53 (by kernel_rfl) rfl #[.pointer A0, .slice A363_0 ((rd_T30 l1 0).f0).length c363_0] rfl (by (try simp only [List.map_toArray, List.map_cons, List.map_nil]); first | done | rfl | (simp only [List.length_drop, List.length_take]; rfl)) ?_; (with_reducible refine (spec_l3Fault.calls k _ l0 _ _ ((rd_T30 l1 0).f0) t365 _ ?side1 ?side2 ?side3 A4.out).mono ?_); (case side1 => repeat (first | exact HR0.out | (with_reducible refine Kd.C_alloc ?_ _) | (with_reducible refine Kd.C_drewN ?_ _) | (with_reducible refine Kd.C_drew ?_))); (case side2 => repeat (first | exact HR364_0.out | (with_reducible refine Kd.C_alloc ?_ _) | (with_reducible refine Kd.C_drewN ?_ _) | (with_reducible refine Kd.C_drew ?_))); (case side3 => exact HC364_0.out); rintro e w' ⟨rfl, ⟨nd, rfl⟩⟩; refine ⟨_, rfl, ?_⟩; have p366 : 0 ≤ (0 : Int) := (by omega); have q366 : 0 < (l1.length : Int) := of_decide_eq_true (by first | (with_reducible assumption) | assumption); obtain ⟨ad366, A366_0, c366_0, A366_1, c366_1, e366, hx366_0, hx366_1, hl366_0, hi366_0, hl366_1, hi366_1⟩ := at_T30 HR1.out 0 p366 q366; obtain rfl : ad363 = ad366 := (by injection e366); have qi366 : (0 < l1.length) = True := eq_true (by omega); (try rw [show ((0 : Int)).toNat = 0 from rfl] at hx366_0); (try rw [show 0 * 2 = 0 from rfl] at hx366_0); (try rw [Addr.add_zero'] at hx366_0); (try rw [show ((0 : Int)).toNat = 0 from rfl] at hx366_1); (try rw [show 0 * 2 = 0 from rfl] at hx366_1); (try rw [Addr.add_zero'] at hx366_1); have HR366_0 := Aside0.mk hi366_0; have HC366_0 := Aside0.mk hl366_0; clear hi366_0 hl366_0; have HR366_1 := Aside0.mk hi366_1; have HC366_1 := Aside0.mk hl366_1; clear hi366_1 hl366_1; replace p366 := eq_true p366; replace q366 := eq_true q366; have ea_ := Option.some.inj (hx363_0.symm.trans hx366_0); injection ea_ with ea_ en_ ec_; subst ea_; subst ec_; clear en_; have ea_ := Option.some.inj (hx363_1.symm.trans hx366_1); injection ea_ with ea_ en_ ec_; subst ea_; subst ec_; clear en_; have p367 : 0 ≤ (0 : Int) := (by omega); have q367 : 0 < (l1.length : Int) := of_decide_eq_true (by first | (with_reducible assumption) | assumption); obtain ⟨ad367, A367_0, c367_0, A367_1, c367_1, e367, hx367_0, hx367_1, hl367_0, hi367_0, hl367_1, hi367_1⟩ := at_T30 HR1.out 0 p367 q367; obtain rfl : ad363 = ad367 := (by injection e367); have qi367 : (0 < l1.length) = True := eq_true (by omega); (try rw [show ((0 : Int)).toNat = 0 from rfl] at hx367_0); (try rw [show 0 * 2 = 0 from rfl] at hx367_0); (try rw [Addr.add_zero'] at hx367_0); (try rw [show ((0 : Int)).toNat = 0 from rfl] at hx367_1); (try rw [show 0 * 2 = 0 from rfl] at hx367_1); (try rw [Addr.add_zero'] at hx367_1); have HR367_0 := Aside0.mk hi367_0; have HC367_0 := Aside0.mk hl367_0; clear hi367_0 hl367_0; have HR367_1 := Aside0.mk hi367_1; have HC367_1 := Aside0.mk hl367_1; clear hi367_1 hl367_1; replace p367 := eq_true p367; replace q367 := eq_true q367; have ea_ := Option.some.inj (hx363_0.symm.trans hx367_0); injection ea_ with ea_ en_ ec_; subst ea_; subst ec_; clear en_; have ea_ := Option.some.inj (hx363_1.symm.trans hx367_1); injection ea_ with ea_ en_ ec_; subst ea_; subst ec_; clear en_) | ((with_reducible refine gate_callee (f := 53) rfl ?_); refine goesL_ (some 21) rfl rfl Tryd.func53 (by kernel_rfl) rfl #[.pointer A0, .slice A363_1 ((rd_T30 l1 0).f1).length c363_1] rfl (by (try simp only [List.map_toArray, List.map_cons, List.map_nil]); first | done | rfl | (simp only [List.length_drop, List.length_take]; rfl)) ?_; (with_reducible refine (spec_l3Fault.calls k _ l0 _ _ ((rd_T30 l1 0).f1) t368 _ ?side1 ?side2 ?side3 A6.out).mono ?_); (case side1 => repeat (first | exact HR0.out | (with_reducible refine Kd.C_alloc ?_ _) | (with_reducible refine Kd.C_drewN ?_ _) | (with_reducible refine Kd.C_drew ?_))); (case side2 => repeat (first | exact HR367_1.out | (with_reducible refine Kd.C_alloc ?_ _) | (with_reducible refine Kd.C_drewN ?_ _) | (with_reducible refine Kd.C_drew ?_))); (case side3 => exact HC367_1.out); rintro e w' ⟨rfl, ⟨nd, rfl⟩⟩; refine ⟨_, rfl, ?_⟩; have p369 : 0 ≤ (0 : Int) := (by omega); have q369 : 0 < (l1.length : Int) := of_decide_eq_true (by first | (with_reducible assumption) | assumption); obtain ⟨ad369, A369_0, c369_0, A369_1, c369_1, e369, hx369_0, hx369_1, hl369_0, hi369_0, hl369_1, hi369_1⟩ := at_T30 HR1.out 0 p369 q369; obtain rfl : ad363 = ad369 := (by injection e369); have qi369 : (0 < l1.length) = True := eq_true (by omega); (try rw [show ((0 : Int)).toNat = 0 from rfl] at hx369_0); (try rw [show 0 * 2 = 0 from rfl] at hx369_0); (try rw [Addr.add_zero'] at hx369_0); (try rw [show ((0 : Int)).toNat = 0 from rfl] at hx369_1); (try rw [show 0 * 2 = 0 from rfl] at hx369_1); (try rw [Addr.add_zero'] at hx369_1); have HR369_0 := Aside0.mk hi369_0; have HC369_0 := Aside0.mk hl369_0; clear hi369_0 hl369_0; have HR369_1 := Aside0.mk hi369_1; have HC369_1 := Aside0.mk hl369_1; clear hi369_1 hl369_1; replace p369 := eq_true p369; replace q369 := eq_true q369; have ea_ := Option.some.inj (hx363_0.symm.trans hx369_0); injection ea_ with ea_ en_ ec_; subst ea_; subst ec_; clear en_; have ea_ := Option.some.inj (hx363_1.symm.trans hx369_1); injection ea_ with ea_ en_ ec_; subst ea_; subst ec_; clear en_; have p370 : 0 ≤ (0 : Int) := (by omega); have q370 : 0 < (l1.length : Int) := of_decide_eq_true (by first | (with_reducible assumption) | assumption); obtain ⟨ad370, A370_0, c370_0, A370_1, c370_1, e370, hx370_0, hx370_1, hl370_0, hi370_0, hl370_1, hi370_1⟩ := at_T30 HR1.out 0 p370 q370; obtain rfl : ad363 = ad370 := (by injection e370); have qi370 : (0 < l1.length) = True := eq_true (by omega); (try rw [show ((0 : Int)).toNat = 0 from rfl] at hx370_0); (try rw [show 0 * 2 = 0 from rfl] at hx370_0); (try rw [Addr.add_zero'] at hx370_0); (try rw [show ((0 : Int)).toNat = 0 from rfl] at hx370_1); (try rw [show 0 * 2 = 0 from rfl] at hx370_1); (try rw [Addr.add_zero'] at hx370_1); have HR370_0 := Aside0.mk hi370_0; have HC370_0 := Aside0.mk hl370_0; clear hi370_0 hl370_0; have HR370_1 := Aside0.mk hi370_1; have HC370_1 := Aside0.mk hl370_1; clear hi370_1 hl370_1; replace p370 := eq_true p370; replace q370 := eq_true q370; have ea_ := Option.some.inj (hx363_0.symm.trans hx370_0); injection ea_ with ea_ en_ ec_; subst ea_; subst ec_; clear en_; have ea_ := Option.some.inj (hx363_1.symm.trans hx370_1); injection ea_ with ea_ en_ ec_; subst ea_; subst ec_; clear en_) | ((with_reducible refine gate_callee (f := 134) rfl ?_); refine goesL_ (some 29) rfl rfl Tryd.func134 (by kernel_rfl) rfl #[.slice A363_0 ((rd_T30 l1 0).f0).length c363_0] rfl (by (try simp only [List.map_toArray, List.map_cons, List.map_nil]); first | done | rfl | (simp only [List.length_drop, List.length_take]; rfl)) ?_; (with_reducible refine (spec_l4Low.calls k _ _ ((rd_T30 l1 0).f0) true _ ?side1 ?side2 A8.out).mono ?_); (case side1 => repeat (first | exact HR370_0.out | (with_reducible refine Kd.C_alloc ?_ _) | (with_reducible refine Kd.C_drewN ?_ _) | (with_reducible refine Kd.C_drew ?_))); (case side2 => exact HC370_0.out); rintro e w' ⟨rfl, ⟨nd, rfl⟩⟩; refine ⟨_, rfl, ?_⟩; have p372 : 0 ≤ (0 : Int) := (by omega); have q372 : 0 < (l1.length : Int) := of_decide_eq_true (by first | (with_reducible assumption) | assumption); obtain ⟨ad372, A372_0, c372_0, A372_1, c372_1, e372, hx372_0, hx372_1, hl372_0, hi372_0, hl372_1, hi372_1⟩ := at_T30 HR1.out 0 p372 q372; obtain rfl : ad363 = ad372 := (by injection e372); have qi372 : (0 < l1.length) = True := eq_true (by omega); (try rw [show ((0 : Int)).toNat = 0 from rfl] at hx372_0); (try rw [show 0 * 2 = 0 from rfl] at hx372_0); (try rw [Addr.add_zero'] at hx372_0); (try rw [show ((0 : Int)).toNat = 0 from rfl] at hx372_1); (try rw [show 0 * 2 = 0 from rfl] at hx372_1); (try rw [Addr.add_zero'] at hx372_1); have HR372_0 := Aside0.mk hi372_0; have HC372_0 := Aside0.mk hl372_0; clear hi372_0 hl372_0; have HR372_1 := Aside0.mk hi372_1; have HC372_1 := Aside0.mk hl372_1; clear hi372_1 hl372_1; replace p372 := eq_true p372; replace q372 := eq_true q372; have ea_ := Option.some.inj (hx363_0.symm.trans hx372_0); injection ea_ with ea_ en_ ec_; subst ea_; subst ec_; clear en_; have ea_ := Option.some.inj (hx363_1.symm.trans hx372_1); injection ea_ with ea_ en_ ec_; subst ea_; subst ec_; clear en_; have p373 : 0 ≤ (0 : Int) := (by omega); have q373 : 0 < (l1.length : Int) := of_decide_eq_true (by first | (with_reducible assumption) | assumption); obtain ⟨ad373, A373_0, c373_0, A373_1, c373_1, e373, hx373_0, hx373_1, hl373_0, hi373_0, hl373_1, hi373_1⟩ := at_T30 HR1.out 0 p373 q373; obtain rfl : ad363 = ad373 := (by injection e373); have qi373 : (0 < l1.length) = True := eq_true (by omega); (try rw [show ((0 : Int)).toNat = 0 from rfl] at hx373_0); (try rw [show 0 * 2 = 0 from rfl] at hx373_0); (try rw [Addr.add_zero'] at hx373_0); (try rw [show ((0 : Int)).toNat = 0 from rfl] at hx373_1); (try rw [show 0 * 2 = 0 from rfl] at hx373_1); (try rw [Addr.add_zero'] at hx373_1); have HR373_0 := Aside0.mk hi373_0; have HC373_0 := Aside0.mk hl373_0; clear hi373_0 hl373_0; have HR373_1 := Aside0.mk hi373_1; have HC373_1 := Aside0.mk hl373_1; clear hi373_1 hl373_1; replace p373 := eq_true p373; replace q373 := eq_true q373; have ea_ := Option.some.inj (hx363_0.symm.trans hx373_0); injection ea_ with ea_ en_ ec_; subst ea_; subst ec_; clear en_; have ea_ := Option.some.inj (hx363_1.symm.trans hx373_1); injection ea_ with ea_ en_ ec_; subst ea_; subst ec_; clear en_) | (go_at_call 134; (with_reducible refine (spec_l4Low.calls k _ _ ((rd_T30 l1 0).f1) true _ ?side1 ?side2 A10.out).mono ?_); (case side1 => repeat (first | exact HR373_1.out | (with_reducible refine Kd.C_alloc ?_ _) | (with_reducible refine Kd.C_drewN ?_ _) | (with_reducible refine Kd.C_drew ?_))); (case side2 => exact HC373_1.out); rintro e w' ⟨rfl, ⟨nd, rfl⟩⟩))
            go_ret
            exact ⟨by first | rfl | (simp; done) | (simp [*]; done), by repeat (first | exact Drawn0.refl _ | apply Drawn0.step)⟩
          · replace c11 := Bool.eq_false_iff.mpr c11
            subst c11
            have H1 : (some 3) = some r := by rw [if_neg (show ¬ (false = true) by decide)] at H; exact H
            clear H
            have H := H1
            clear H1
            obtain rfl := Option.some.inj H
            have p363 : 0 ≤ (0 : Int) := (by omega)
            have q363 : 0 < (l1.length : Int) := of_decide_eq_true (by first | (with_reducible assumption) | assumption)
            obtain ⟨ad363, A363_0, c363_0, A363_1, c363_1, e363, hx363_0, hx363_1, hl363_0, hi363_0, hl363_1, hi363_1⟩ := at_T30 HR1.out 0 p363 q363
            cases e363
            have qi363 : (0 < l1.length) = True := eq_true (by omega)
            (try rw [show ((0 : Int)).toNat = 0 from rfl] at hx363_0)
            (try rw [show 0 * 2 = 0 from rfl] at hx363_0)
            (try rw [Addr.add_zero'] at hx363_0)
            (try rw [show ((0 : Int)).toNat = 0 from rfl] at hx363_1)
            (try rw [show 0 * 2 = 0 from rfl] at hx363_1)
            (try rw [Addr.add_zero'] at hx363_1)
            have HR363_0 := Aside0.mk hi363_0
            have HC363_0 := Aside0.mk hl363_0
            clear hi363_0 hl363_0
            have HR363_1 := Aside0.mk hi363_1
            have HC363_1 := Aside0.mk hl363_1
            clear hi363_1 hl363_1
            replace p363 := eq_true p363
            replace q363 := eq_true q363
            have p364 : 0 ≤ (0 : Int) := (by omega)
            have q364 : 0 < (l1.length : Int) := of_decide_eq_true (by first | (with_reducible assumption) | assumption)
            obtain ⟨ad364, A364_0, c364_0, A364_1, c364_1, e364, hx364_0, hx364_1, hl364_0, hi364_0, hl364_1, hi364_1⟩ := at_T30 HR1.out 0 p364 q364
            obtain rfl : ad363 = ad364 := (by injection e364)
            have qi364 : (0 < l1.length) = True := eq_true (by omega)
            (try rw [show ((0 : Int)).toNat = 0 from rfl] at hx364_0)
            (try rw [show 0 * 2 = 0 from rfl] at hx364_0)
            (try rw [Addr.add_zero'] at hx364_0)
            (try rw [show ((0 : Int)).toNat = 0 from rfl] at hx364_1)
            (try rw [show 0 * 2 = 0 from rfl] at hx364_1)
            (try rw [Addr.add_zero'] at hx364_1)
            have HR364_0 := Aside0.mk hi364_0
            have HC364_0 := Aside0.mk hl364_0
            clear hi364_0 hl364_0
            have HR364_1 := Aside0.mk hi364_1
            have HC364_1 := Aside0.mk hl364_1
            clear hi364_1 hl364_1
            replace p364 := eq_true p364
            replace q364 := eq_true q364
            have ea_ := Option.some.inj (hx363_0.symm.trans hx364_0)
            injection ea_ with ea_ en_ ec_
            subst ea_
            subst ec_
            clear en_
            have ea_ := Option.some.inj (hx363_1.symm.trans hx364_1)
            injection ea_ with ea_ en_ ec_
            subst ea_
            subst ec_
            clear en_
            go_enter Tryd.func115, Tryd.ntmps115
            go_wp2_with (first | ((with_reducible refine gate_callee (f := 53) rfl ?_); refine goesL_ (some 12) rfl rfl Tryd.func53 (by kernel_rfl) rfl #[.pointer A0, .slice A363_0 ((rd_T30 l1 0).f0).length c363_0] rfl (by (try simp only [List.map_toArray, List.map_cons, List.map_nil]); first | done | rfl | (simp only [List.length_drop, List.length_take]; rfl)) ?_; (with_reducible refine (spec_l3Fault.calls k _ l0 _ _ ((rd_T30 l1 0).f0) t365 _ ?side1 ?side2 ?side3 A4.out).mono ?_); (case side1 => repeat (first | exact HR0.out | (with_reducible refine Kd.C_alloc ?_ _) | (with_reducible refine Kd.C_drewN ?_ _) | (with_reducible refine Kd.C_drew ?_))); (case side2 => repeat (first | exact HR364_0.out | (with_reducible refine Kd.C_alloc ?_ _) | (with_reducible refine Kd.C_drewN ?_ _) | (with_reducible refine Kd.C_drew ?_))); (case side3 => exact HC364_0.out); rintro e w' ⟨rfl, ⟨nd, rfl⟩⟩; refine ⟨_, rfl, ?_⟩; have p366 : 0 ≤ (0 : Int) := (by omega); have q366 : 0 < (l1.length : Int) := of_decide_eq_true (by first | (with_reducible assumption) | assumption); obtain ⟨ad366, A366_0, c366_0, A366_1, c366_1, e366, hx366_0, hx366_1, hl366_0, hi366_0, hl366_1, hi366_1⟩ := at_T30 HR1.out 0 p366 q366; obtain rfl : ad363 = ad366 := (by injection e366); have qi366 : (0 < l1.length) = True := eq_true (by omega); (try rw [show ((0 : Int)).toNat = 0 from rfl] at hx366_0); (try rw [show 0 * 2 = 0 from rfl] at hx366_0); (try rw [Addr.add_zero'] at hx366_0); (try rw [show ((0 : Int)).toNat = 0 from rfl] at hx366_1); (try rw [show 0 * 2 = 0 from rfl] at hx366_1); (try rw [Addr.add_zero'] at hx366_1); have HR366_0 := Aside0.mk hi366_0; have HC366_0 := Aside0.mk hl366_0; clear hi366_0 hl366_0; have HR366_1 := Aside0.mk hi366_1; have HC366_1 := Aside0.mk hl366_1; clear hi366_1 hl366_1; replace p366 := eq_true p366; replace q366 := eq_true q366; have ea_ := Option.some.inj (hx363_0.symm.trans hx366_0); injection ea_ with ea_ en_ ec_; subst ea_; subst ec_; clear en_; have ea_ := Option.some.inj (hx363_1.symm.trans hx366_1); injection ea_ with ea_ en_ ec_; subst ea_; subst ec_; clear en_; have p367 : 0 ≤ (0 : Int) := (by omega); have q367 : 0 < (l1.length : Int) := of_decide_eq_true (by first | (with_reducible assumption) | assumption); obtain ⟨ad367, A367_0, c367_0, A367_1, c367_1, e367, hx367_0, hx367_1, hl367_0, hi367_0, hl367_1, hi367_1⟩ := at_T30 HR1.out 0 p367 q367; obtain rfl : ad363 = ad367 := (by injection e367); have qi367 : (0 < l1.length) = True := eq_true (by omega); (try rw [show ((0 : Int)).toNat = 0 from rfl] at hx367_0); (try rw [show 0 * 2 = 0 from rfl] at hx367_0); (try rw [Addr.add_zero'] at hx367_0); (try rw [show ((0 : Int)).toNat = 0 from rfl] at hx367_1); (try rw [show 0 * 2 = 0 from rfl] at hx367_1); (try rw [Addr.add_zero'] at hx367_1); have HR367_0 := Aside0.mk hi367_0; have HC367_0 := Aside0.mk hl367_0; clear hi367_0 hl367_0; have HR367_1 := Aside0.mk hi367_1; have HC367_1 := Aside0.mk hl367_1; clear hi367_1 hl367_1; replace p367 := eq_true p367; replace q367 := eq_true q367; have ea_ := Option.some.inj (hx363_0.symm.trans hx367_0); injection ea_ with ea_ en_ ec_; subst ea_; subst ec_; clear en_; have ea_ := Option.some.inj (hx363_1.symm.trans hx367_1); injection ea_ with ea_ en_ ec_; subst ea_; subst ec_; clear en_) | ((with_reducible refine gate_callee (f := 53) rfl ?_); refine goesL_ (some 21) rfl rfl Tryd.func53 (by kernel_rfl) rfl #[.pointer A0, .slice A363_1 ((rd_T30 l1 0).f1).length c363_1] rfl (by (try simp only [List.map_toArray, List.map_cons, List.map_nil]); first | done | rfl | (simp only [List.length_drop, List.length_take]; rfl)) ?_; (with_reducible refine (spec_l3Fault.calls k _ l0 _ _ ((rd_T30 l1 0).f1) t368 _ ?side1 ?side2 ?side3 A6.out).mono ?_); (case side1 => repeat (first | exact HR0.out | (with_reducible refine Kd.C_alloc ?_ _) | (with_reducible refine Kd.C_drewN ?_ _) | (with_reducible refine Kd.C_drew ?_))); (case side2 => repeat (first | exact HR367_1.out | (with_reducible refine Kd.C_alloc ?_ _) | (with_reducible refine Kd.C_drewN ?_ _) | (with_reducible refine Kd.C_drew ?_))); (case side3 => exact HC367_1.out); rintro e w' ⟨rfl, ⟨nd, rfl⟩⟩; refine ⟨_, rfl, ?_⟩; have p369 : 0 ≤ (0 : Int) := (by omega); have q369 : 0 < (l1.length : Int) := of_decide_eq_true (by first | (with_reducible assumption) | assumption); obtain ⟨ad369, A369_0, c369_0, A369_1, c369_1, e369, hx369_0, hx369_1, hl369_0, hi369_0, hl369_1, hi369_1⟩ := at_T30 HR1.out 0 p369 q369; obtain rfl : ad363 = ad369 := (by injection e369); have qi369 : (0 < l1.length) = True := eq_true (by omega); (try rw [show ((0 : Int)).toNat = 0 from rfl] at hx369_0); (try rw [show 0 * 2 = 0 from rfl] at hx369_0); (try rw [Addr.add_zero'] at hx369_0); (try rw [show ((0 : Int)).toNat = 0 from rfl] at hx369_1); (try rw [show 0 * 2 = 0 from rfl] at hx369_1); (try rw [Addr.add_zero'] at hx369_1); have HR369_0 := Aside0.mk hi369_0; have HC369_0 := Aside0.mk hl369_0; clear hi369_0 hl369_0; have HR369_1 := Aside0.mk hi369_1; have HC369_1 := Aside0.mk hl369_1; clear hi369_1 hl369_1; replace p369 := eq_true p369; replace q369 := eq_true q369; have ea_ := Option.some.inj (hx363_0.symm.trans hx369_0); injection ea_ with ea_ en_ ec_; subst ea_; subst ec_; clear en_; have ea_ := Option.some.inj (hx363_1.symm.trans hx369_1); injection ea_ with ea_ en_ ec_; subst ea_; subst ec_; clear en_; have p370 : 0 ≤ (0 : Int) := (by omega); have q370 : 0 < (l1.length : Int) := of_decide_eq_true (by first | (with_reducible assumption) | assumption); obtain ⟨ad370, A370_0, c370_0, A370_1, c370_1, e370, hx370_0, hx370_1, hl370_0, hi370_0, hl370_1, hi370_1⟩ := at_T30 HR1.out 0 p370 q370; obtain rfl : ad363 = ad370 := (by injection e370); have qi370 : (0 < l1.length) = True := eq_true (by omega); (try rw [show ((0 : Int)).toNat = 0 from rfl] at hx370_0); (try rw [show 0 * 2 = 0 from rfl] at hx370_0); (try rw [Addr.add_zero'] at hx370_0); (try rw [show ((0 : Int)).toNat = 0 from rfl] at hx370_1); (try rw [show 0 * 2 = 0 from rfl] at hx370_1); (try rw [Addr.add_zero'] at hx370_1); have HR370_0 := Aside0.mk hi370_0; have HC370_0 := Aside0.mk hl370_0; clear hi370_0 hl370_0; have HR370_1 := Aside0.mk hi370_1; have HC370_1 := Aside0.mk hl370_1; clear hi370_1 hl370_1; replace p370 := eq_true p370; replace q370 := eq_true q370; have ea_ := Option.some.inj (hx363_0.symm.trans hx370_0); injection ea_ with ea_ en_ ec_; subst ea_; subst ec_; clear en_; have ea_ := Option.some.inj (hx363_1.symm.trans hx370_1); injection ea_ with ea_ en_ ec_; subst ea_; subst ec_; clear en_) | ((with_reducible refine gate_callee (f := 134) rfl ?_); refine goesL_ (some 29) rfl rfl Tryd.func134 (by kernel_rfl) rfl #[.slice A363_0 ((rd_T30 l1 0).f0).length c363_0] rfl (by (try simp only [List.map_toArray, List.map_cons, List.map_nil]); first | done | rfl | (simp only [List.length_drop, List.length_take]; rfl)) ?_; (with_reducible refine (spec_l4Low.calls k _ _ ((rd_T30 l1 0).f0) true _ ?side1 ?side2 A8.out).mono ?_); (case side1 => repeat (first | exact HR370_0.out | (with_reducible refine Kd.C_alloc ?_ _) | (with_reducible refine Kd.C_drewN ?_ _) | (with_reducible refine Kd.C_drew ?_))); (case side2 => exact HC370_0.out); rintro e w' ⟨rfl, ⟨nd, rfl⟩⟩; refine ⟨_, rfl, ?_⟩; have p372 : 0 ≤ (0 : Int) := (by omega); have q372 : 0 < (l1.length : Int) := of_decide_eq_true (by first | (with_reducible assumption) | assumption); obtain ⟨ad372, A372_0, c372_0, A372_1, c372_1, e372, hx372_0, hx372_1, hl372_0, hi372_0, hl372_1, hi372_1⟩ := at_T30 HR1.out 0 p372 q372; obtain rfl : ad363 = ad372 := (by injection e372); have qi372 : (0 < l1.length) = True := eq_true (by omega); (try rw [show ((0 : Int)).toNat = 0 from rfl] at hx372_0); (try rw [show 0 * 2 = 0 from rfl] at hx372_0); (try rw [Addr.add_zero'] at hx372_0); (try rw [show ((0 : Int)).toNat = 0 from rfl] at hx372_1); (try rw [show 0 * 2 = 0 from rfl] at hx372_1); (try rw [Addr.add_zero'] at hx372_1); have HR372_0 := Aside0.mk hi372_0; have HC372_0 := Aside0.mk hl372_0; clear hi372_0 hl372_0; have HR372_1 := Aside0.mk hi372_1; have HC372_1 := Aside0.mk hl372_1; clear hi372_1 hl372_1; replace p372 := eq_true p372; replace q372 := eq_true q372; have ea_ := Option.some.inj (hx363_0.symm.trans hx372_0); injection ea_ with ea_ en_ ec_; subst ea_; subst ec_; clear en_; have ea_ := Option.some.inj (hx363_1.symm.trans hx372_1); injection ea_ with ea_ en_ ec_; subst ea_; subst ec_; clear en_; have p373 : 0 ≤ (0 : Int) := (by omega); have q373 : 0 < (l1.length : Int) := of_decide_eq_true (by first | (with_reducible assumption) | assumption); obtain ⟨ad373, A373_0, c373_0, A373_1, c373_1, e373, hx373_0, hx373_1, hl373_0, hi373_0, hl373_1, hi373_1⟩ := at_T30 HR1.out 0 p373 q373; obtain rfl : ad363 = ad373 := (by injection e373); have qi373 : (0 < l1.length) = True := eq_true (by omega); (try rw [show ((0 : Int)).toNat = 0 from rfl] at hx373_0); (try rw [show 0 * 2 = 0 from rfl] at hx373_0); (try rw [Addr.add_zero'] at hx373_0); (try rw [show ((0 : Int)).toNat = 0 from rfl] at hx373_1); (try rw [show 0 * 2 = 0 from rfl] at hx373_1); (try rw [Addr.add_zero'] at hx373_1); have HR373_0 := Aside0.mk hi373_0; have HC373_0 := Aside0.mk hl373_0; clear hi373_0 hl373_0; have HR373_1 := Aside0.mk hi373_1; have HC373_1 := Aside0.mk hl373_1; clear hi373_1 hl373_1; replace p373 := eq_true p373; replace q373 := eq_true q373; have ea_ := Option.some.inj (hx363_0.symm.trans hx373_0); injection ea_ with ea_ en_ ec_; subst ea_; subst ec_; clear en_; have ea_ := Option.some.inj (hx363_1.symm.trans hx373_1); injection ea_ with ea_ en_ ec_; subst ea_; subst ec_; clear en_) | (go_at_call 134; (with_reducible refine (spec_l4Low.calls k _ _ ((rd_T30 l1 0).f1) false _ ?side1 ?side2 A10.out).mono ?_); (case side1 => repeat (first | exact HR373_1.out | (with_reducible refine Kd.C_alloc ?_ _) | (with_reducible refine Kd.C_drewN ?_ _) | (with_reducible refine Kd.C_drew ?_))); (case side2 => exact HC373_1.out); rintro e w' ⟨rfl, ⟨nd, rfl⟩⟩))
            go_ret
            exact ⟨by first | rfl | (simp; done) | (simp [*]; done), by repeat (first | exact Drawn0.refl _ | apply Drawn0.step)⟩
        · replace c9 := Bool.eq_false_iff.mpr c9
          subst c9
          have H1 : (some 3) = some r := by rw [if_neg (show ¬ (false = true) by decide)] at H; exact H
          clear H
          have H := H1
          clear H1
          obtain rfl := Option.some.inj H
          have p363 : 0 ≤ (0 : Int) := (by omega)
          have q363 : 0 < (l1.length : Int) := of_decide_eq_true (by first | (with_reducible assumption) | assumption)
          obtain ⟨ad363, A363_0, c363_0, A363_1, c363_1, e363, hx363_0, hx363_1, hl363_0, hi363_0, hl363_1, hi363_1⟩ := at_T30 HR1.out 0 p363 q363
          cases e363
          have qi363 : (0 < l1.length) = True := eq_true (by omega)
          (try rw [show ((0 : Int)).toNat = 0 from rfl] at hx363_0)
          (try rw [show 0 * 2 = 0 from rfl] at hx363_0)
          (try rw [Addr.add_zero'] at hx363_0)
          (try rw [show ((0 : Int)).toNat = 0 from rfl] at hx363_1)
          (try rw [show 0 * 2 = 0 from rfl] at hx363_1)
          (try rw [Addr.add_zero'] at hx363_1)
          have HR363_0 := Aside0.mk hi363_0
          have HC363_0 := Aside0.mk hl363_0
          clear hi363_0 hl363_0
          have HR363_1 := Aside0.mk hi363_1
          have HC363_1 := Aside0.mk hl363_1
          clear hi363_1 hl363_1
          replace p363 := eq_true p363
          replace q363 := eq_true q363
          have p364 : 0 ≤ (0 : Int) := (by omega)
          have q364 : 0 < (l1.length : Int) := of_decide_eq_true (by first | (with_reducible assumption) | assumption)
          obtain ⟨ad364, A364_0, c364_0, A364_1, c364_1, e364, hx364_0, hx364_1, hl364_0, hi364_0, hl364_1, hi364_1⟩ := at_T30 HR1.out 0 p364 q364
          obtain rfl : ad363 = ad364 := (by injection e364)
          have qi364 : (0 < l1.length) = True := eq_true (by omega)
          (try rw [show ((0 : Int)).toNat = 0 from rfl] at hx364_0)
          (try rw [show 0 * 2 = 0 from rfl] at hx364_0)
          (try rw [Addr.add_zero'] at hx364_0)
          (try rw [show ((0 : Int)).toNat = 0 from rfl] at hx364_1)
          (try rw [show 0 * 2 = 0 from rfl] at hx364_1)
          (try rw [Addr.add_zero'] at hx364_1)
          have HR364_0 := Aside0.mk hi364_0
          have HC364_0 := Aside0.mk hl364_0
          clear hi364_0 hl364_0
          have HR364_1 := Aside0.mk hi364_1
          have HC364_1 := Aside0.mk hl364_1
          clear hi364_1 hl364_1
          replace p364 := eq_true p364
          replace q364 := eq_true q364
          have ea_ := Option.some.inj (hx363_0.symm.trans hx364_0)
          injection ea_ with ea_ en_ ec_
          subst ea_
          subst ec_
          clear en_
          have ea_ := Option.some.inj (hx363_1.symm.trans hx364_1)
          injection ea_ with ea_ en_ ec_
          subst ea_
          subst ec_
          clear en_
          go_enter Tryd.func115, Tryd.ntmps115
          go_wp2_with (first | ((with_reducible refine gate_callee (f := 53) rfl ?_); refine goesL_ (some 12) rfl rfl Tryd.func53 (by kernel_rfl) rfl #[.pointer A0, .slice A363_0 ((rd_T30 l1 0).f0).length c363_0] rfl (by (try simp only [List.map_toArray, List.map_cons, List.map_nil]); first | done | rfl | (simp only [List.length_drop, List.length_take]; rfl)) ?_; (with_reducible refine (spec_l3Fault.calls k _ l0 _ _ ((rd_T30 l1 0).f0) t365 _ ?side1 ?side2 ?side3 A4.out).mono ?_); (case side1 => repeat (first | exact HR0.out | (with_reducible refine Kd.C_alloc ?_ _) | (with_reducible refine Kd.C_drewN ?_ _) | (with_reducible refine Kd.C_drew ?_))); (case side2 => repeat (first | exact HR364_0.out | (with_reducible refine Kd.C_alloc ?_ _) | (with_reducible refine Kd.C_drewN ?_ _) | (with_reducible refine Kd.C_drew ?_))); (case side3 => exact HC364_0.out); rintro e w' ⟨rfl, ⟨nd, rfl⟩⟩; refine ⟨_, rfl, ?_⟩; have p366 : 0 ≤ (0 : Int) := (by omega); have q366 : 0 < (l1.length : Int) := of_decide_eq_true (by first | (with_reducible assumption) | assumption); obtain ⟨ad366, A366_0, c366_0, A366_1, c366_1, e366, hx366_0, hx366_1, hl366_0, hi366_0, hl366_1, hi366_1⟩ := at_T30 HR1.out 0 p366 q366; obtain rfl : ad363 = ad366 := (by injection e366); have qi366 : (0 < l1.length) = True := eq_true (by omega); (try rw [show ((0 : Int)).toNat = 0 from rfl] at hx366_0); (try rw [show 0 * 2 = 0 from rfl] at hx366_0); (try rw [Addr.add_zero'] at hx366_0); (try rw [show ((0 : Int)).toNat = 0 from rfl] at hx366_1); (try rw [show 0 * 2 = 0 from rfl] at hx366_1); (try rw [Addr.add_zero'] at hx366_1); have HR366_0 := Aside0.mk hi366_0; have HC366_0 := Aside0.mk hl366_0; clear hi366_0 hl366_0; have HR366_1 := Aside0.mk hi366_1; have HC366_1 := Aside0.mk hl366_1; clear hi366_1 hl366_1; replace p366 := eq_true p366; replace q366 := eq_true q366; have ea_ := Option.some.inj (hx363_0.symm.trans hx366_0); injection ea_ with ea_ en_ ec_; subst ea_; subst ec_; clear en_; have ea_ := Option.some.inj (hx363_1.symm.trans hx366_1); injection ea_ with ea_ en_ ec_; subst ea_; subst ec_; clear en_; have p367 : 0 ≤ (0 : Int) := (by omega); have q367 : 0 < (l1.length : Int) := of_decide_eq_true (by first | (with_reducible assumption) | assumption); obtain ⟨ad367, A367_0, c367_0, A367_1, c367_1, e367, hx367_0, hx367_1, hl367_0, hi367_0, hl367_1, hi367_1⟩ := at_T30 HR1.out 0 p367 q367; obtain rfl : ad363 = ad367 := (by injection e367); have qi367 : (0 < l1.length) = True := eq_true (by omega); (try rw [show ((0 : Int)).toNat = 0 from rfl] at hx367_0); (try rw [show 0 * 2 = 0 from rfl] at hx367_0); (try rw [Addr.add_zero'] at hx367_0); (try rw [show ((0 : Int)).toNat = 0 from rfl] at hx367_1); (try rw [show 0 * 2 = 0 from rfl] at hx367_1); (try rw [Addr.add_zero'] at hx367_1); have HR367_0 := Aside0.mk hi367_0; have HC367_0 := Aside0.mk hl367_0; clear hi367_0 hl367_0; have HR367_1 := Aside0.mk hi367_1; have HC367_1 := Aside0.mk hl367_1; clear hi367_1 hl367_1; replace p367 := eq_true p367; replace q367 := eq_true q367; have ea_ := Option.some.inj (hx363_0.symm.trans hx367_0); injection ea_ with ea_ en_ ec_; subst ea_; subst ec_; clear en_; have ea_ := Option.some.inj (hx363_1.symm.trans hx367_1); injection ea_ with ea_ en_ ec_; subst ea_; subst ec_; clear en_) | ((with_reducible refine gate_callee (f := 53) rfl ?_); refine goesL_ (some 21) rfl rfl Tryd.func53 (by kernel_rfl) rfl #[.pointer A0, .slice A363_1 ((rd_T30 l1 0).f1).length c363_1] rfl (by (try simp only [List.map_toArray, List.map_cons, List.map_nil]); first | done | rfl | (simp only [List.length_drop, List.length_take]; rfl)) ?_; (with_reducible refine (spec_l3Fault.calls k _ l0 _ _ ((rd_T30 l1 0).f1) t368 _ ?side1 ?side2 ?side3 A6.out).mono ?_); (case side1 => repeat (first | exact HR0.out | (with_reducible refine Kd.C_alloc ?_ _) | (with_reducible refine Kd.C_drewN ?_ _) | (with_reducible refine Kd.C_drew ?_))); (case side2 => repeat (first | exact HR367_1.out | (with_reducible refine Kd.C_alloc ?_ _) | (with_reducible refine Kd.C_drewN ?_ _) | (with_reducible refine Kd.C_drew ?_))); (case side3 => exact HC367_1.out); rintro e w' ⟨rfl, ⟨nd, rfl⟩⟩; refine ⟨_, rfl, ?_⟩; have p369 : 0 ≤ (0 : Int) := (by omega); have q369 : 0 < (l1.length : Int) := of_decide_eq_true (by first | (with_reducible assumption) | assumption); obtain ⟨ad369, A369_0, c369_0, A369_1, c369_1, e369, hx369_0, hx369_1, hl369_0, hi369_0, hl369_1, hi369_1⟩ := at_T30 HR1.out 0 p369 q369; obtain rfl : ad363 = ad369 := (by injection e369); have qi369 : (0 < l1.length) = True := eq_true (by omega); (try rw [show ((0 : Int)).toNat = 0 from rfl] at hx369_0); (try rw [show 0 * 2 = 0 from rfl] at hx369_0); (try rw [Addr.add_zero'] at hx369_0); (try rw [show ((0 : Int)).toNat = 0 from rfl] at hx369_1); (try rw [show 0 * 2 = 0 from rfl] at hx369_1); (try rw [Addr.add_zero'] at hx369_1); have HR369_0 := Aside0.mk hi369_0; have HC369_0 := Aside0.mk hl369_0; clear hi369_0 hl369_0; have HR369_1 := Aside0.mk hi369_1; have HC369_1 := Aside0.mk hl369_1; clear hi369_1 hl369_1; replace p369 := eq_true p369; replace q369 := eq_true q369; have ea_ := Option.some.inj (hx363_0.symm.trans hx369_0); injection ea_ with ea_ en_ ec_; subst ea_; subst ec_; clear en_; have ea_ := Option.some.inj (hx363_1.symm.trans hx369_1); injection ea_ with ea_ en_ ec_; subst ea_; subst ec_; clear en_; have p370 : 0 ≤ (0 : Int) := (by omega); have q370 : 0 < (l1.length : Int) := of_decide_eq_true (by first | (with_reducible assumption) | assumption); obtain ⟨ad370, A370_0, c370_0, A370_1, c370_1, e370, hx370_0, hx370_1, hl370_0, hi370_0, hl370_1, hi370_1⟩ := at_T30 HR1.out 0 p370 q370; obtain rfl : ad363 = ad370 := (by injection e370); have qi370 : (0 < l1.length) = True := eq_true (by omega); (try rw [show ((0 : Int)).toNat = 0 from rfl] at hx370_0); (try rw [show 0 * 2 = 0 from rfl] at hx370_0); (try rw [Addr.add_zero'] at hx370_0); (try rw [show ((0 : Int)).toNat = 0 from rfl] at hx370_1); (try rw [show 0 * 2 = 0 from rfl] at hx370_1); (try rw [Addr.add_zero'] at hx370_1); have HR370_0 := Aside0.mk hi370_0; have HC370_0 := Aside0.mk hl370_0; clear hi370_0 hl370_0; have HR370_1 := Aside0.mk hi370_1; have HC370_1 := Aside0.mk hl370_1; clear hi370_1 hl370_1; replace p370 := eq_true p370; replace q370 := eq_true q370; have ea_ := Option.some.inj (hx363_0.symm.trans hx370_0); injection ea_ with ea_ en_ ec_; subst ea_; subst ec_; clear en_; have ea_ := Option.some.inj (hx363_1.symm.trans hx370_1); injection ea_ with ea_ en_ ec_; subst ea_; subst ec_; clear en_) | ((with_reducible refine gate_callee (f := 134) rfl ?_); refine goesL_ (some 29) rfl rfl Tryd.func134 (by kernel_rfl) rfl #[.slice A363_0 ((rd_T30 l1 0).f0).length c363_0] rfl (by (try simp only [List.map_toArray, List.map_cons, List.map_nil]); first | done | rfl | (simp only [List.length_drop, List.length_take]; rfl)) ?_; (with_reducible refine (spec_l4Low.calls k _ _ ((rd_T30 l1 0).f0) false _ ?side1 ?side2 A8.out).mono ?_); (case side1 => repeat (first | exact HR370_0.out | (with_reducible refine Kd.C_alloc ?_ _) | (with_reducible refine Kd.C_drewN ?_ _) | (with_reducible refine Kd.C_drew ?_))); (case side2 => exact HC370_0.out); rintro e w' ⟨rfl, ⟨nd, rfl⟩⟩; refine ⟨_, rfl, ?_⟩))
          go_ret
          exact ⟨by first | rfl | (simp; done) | (simp [*]; done), by repeat (first | exact Drawn0.refl _ | apply Drawn0.step)⟩
      · rw [if_neg c7] at H
        have c7b0 : (t368 == 0) = false := beq_eq_false_iff_ne.mpr c7
        have c7b1 : (t368 != 0) = true := bne_iff_ne.mpr c7
        obtain rfl := Option.some.inj H
        have p363 : 0 ≤ (0 : Int) := (by omega)
        have q363 : 0 < (l1.length : Int) := of_decide_eq_true (by first | (with_reducible assumption) | assumption)
        obtain ⟨ad363, A363_0, c363_0, A363_1, c363_1, e363, hx363_0, hx363_1, hl363_0, hi363_0, hl363_1, hi363_1⟩ := at_T30 HR1.out 0 p363 q363
        cases e363
        have qi363 : (0 < l1.length) = True := eq_true (by omega)
        (try rw [show ((0 : Int)).toNat = 0 from rfl] at hx363_0)
        (try rw [show 0 * 2 = 0 from rfl] at hx363_0)
        (try rw [Addr.add_zero'] at hx363_0)
        (try rw [show ((0 : Int)).toNat = 0 from rfl] at hx363_1)
        (try rw [show 0 * 2 = 0 from rfl] at hx363_1)
        (try rw [Addr.add_zero'] at hx363_1)
        have HR363_0 := Aside0.mk hi363_0
        have HC363_0 := Aside0.mk hl363_0
        clear hi363_0 hl363_0
        have HR363_1 := Aside0.mk hi363_1
        have HC363_1 := Aside0.mk hl363_1
        clear hi363_1 hl363_1
        replace p363 := eq_true p363
        replace q363 := eq_true q363
        have p364 : 0 ≤ (0 : Int) := (by omega)
        have q364 : 0 < (l1.length : Int) := of_decide_eq_true (by first | (with_reducible assumption) | assumption)
        obtain ⟨ad364, A364_0, c364_0, A364_1, c364_1, e364, hx364_0, hx364_1, hl364_0, hi364_0, hl364_1, hi364_1⟩ := at_T30 HR1.out 0 p364 q364
        obtain rfl : ad363 = ad364 := (by injection e364)
        have qi364 : (0 < l1.length) = True := eq_true (by omega)
        (try rw [show ((0 : Int)).toNat = 0 from rfl] at hx364_0)
        (try rw [show 0 * 2 = 0 from rfl] at hx364_0)
        (try rw [Addr.add_zero'] at hx364_0)
        (try rw [show ((0 : Int)).toNat = 0 from rfl] at hx364_1)
        (try rw [show 0 * 2 = 0 from rfl] at hx364_1)
        (try rw [Addr.add_zero'] at hx364_1)
        have HR364_0 := Aside0.mk hi364_0
        have HC364_0 := Aside0.mk hl364_0
        clear hi364_0 hl364_0
        have HR364_1 := Aside0.mk hi364_1
        have HC364_1 := Aside0.mk hl364_1
        clear hi364_1 hl364_1
        replace p364 := eq_true p364
        replace q364 := eq_true q364
        have ea_ := Option.some.inj (hx363_0.symm.trans hx364_0)
        injection ea_ with ea_ en_ ec_
        subst ea_
        subst ec_
        clear en_
        have ea_ := Option.some.inj (hx363_1.symm.trans hx364_1)
        injection ea_ with ea_ en_ ec_
        subst ea_
        subst ec_
        clear en_
        go_enter Tryd.func115, Tryd.ntmps115
        go_wp2_with (first | ((with_reducible refine gate_callee (f := 53) rfl ?_); refine goesL_ (some 12) rfl rfl Tryd.func53 (by kernel_rfl) rfl #[.pointer A0, .slice A363_0 ((rd_T30 l1 0).f0).length c363_0] rfl (by (try simp only [List.map_toArray, List.map_cons, List.map_nil]); first | done | rfl | (simp only [List.length_drop, List.length_take]; rfl)) ?_; (with_reducible refine (spec_l3Fault.calls k _ l0 _ _ ((rd_T30 l1 0).f0) t365 _ ?side1 ?side2 ?side3 A4.out).mono ?_); (case side1 => repeat (first | exact HR0.out | (with_reducible refine Kd.C_alloc ?_ _) | (with_reducible refine Kd.C_drewN ?_ _) | (with_reducible refine Kd.C_drew ?_))); (case side2 => repeat (first | exact HR364_0.out | (with_reducible refine Kd.C_alloc ?_ _) | (with_reducible refine Kd.C_drewN ?_ _) | (with_reducible refine Kd.C_drew ?_))); (case side3 => exact HC364_0.out); rintro e w' ⟨rfl, ⟨nd, rfl⟩⟩; refine ⟨_, rfl, ?_⟩; have p366 : 0 ≤ (0 : Int) := (by omega); have q366 : 0 < (l1.length : Int) := of_decide_eq_true (by first | (with_reducible assumption) | assumption); obtain ⟨ad366, A366_0, c366_0, A366_1, c366_1, e366, hx366_0, hx366_1, hl366_0, hi366_0, hl366_1, hi366_1⟩ := at_T30 HR1.out 0 p366 q366; obtain rfl : ad363 = ad366 := (by injection e366); have qi366 : (0 < l1.length) = True := eq_true (by omega); (try rw [show ((0 : Int)).toNat = 0 from rfl] at hx366_0); (try rw [show 0 * 2 = 0 from rfl] at hx366_0); (try rw [Addr.add_zero'] at hx366_0); (try rw [show ((0 : Int)).toNat = 0 from rfl] at hx366_1); (try rw [show 0 * 2 = 0 from rfl] at hx366_1); (try rw [Addr.add_zero'] at hx366_1); have HR366_0 := Aside0.mk hi366_0; have HC366_0 := Aside0.mk hl366_0; clear hi366_0 hl366_0; have HR366_1 := Aside0.mk hi366_1; have HC366_1 := Aside0.mk hl366_1; clear hi366_1 hl366_1; replace p366 := eq_true p366; replace q366 := eq_true q366; have ea_ := Option.some.inj (hx363_0.symm.trans hx366_0); injection ea_ with ea_ en_ ec_; subst ea_; subst ec_; clear en_; have ea_ := Option.some.inj (hx363_1.symm.trans hx366_1); injection ea_ with ea_ en_ ec_; subst ea_; subst ec_; clear en_; have p367 : 0 ≤ (0 : Int) := (by omega); have q367 : 0 < (l1.length : Int) := of_decide_eq_true (by first | (with_reducible assumption) | assumption); obtain ⟨ad367, A367_0, c367_0, A367_1, c367_1, e367, hx367_0, hx367_1, hl367_0, hi367_0, hl367_1, hi367_1⟩ := at_T30 HR1.out 0 p367 q367; obtain rfl : ad363 = ad367 := (by injection e367); have qi367 : (0 < l1.length) = True := eq_true (by omega); (try rw [show ((0 : Int)).toNat = 0 from rfl] at hx367_0); (try rw [show 0 * 2 = 0 from rfl] at hx367_0); (try rw [Addr.add_zero'] at hx367_0); (try rw [show ((0 : Int)).toNat = 0 from rfl] at hx367_1); (try rw [show 0 * 2 = 0 from rfl] at hx367_1); (try rw [Addr.add_zero'] at hx367_1); have HR367_0 := Aside0.mk hi367_0; have HC367_0 := Aside0.mk hl367_0; clear hi367_0 hl367_0; have HR367_1 := Aside0.mk hi367_1; have HC367_1 := Aside0.mk hl367_1; clear hi367_1 hl367_1; replace p367 := eq_true p367; replace q367 := eq_true q367; have ea_ := Option.some.inj (hx363_0.symm.trans hx367_0); injection ea_ with ea_ en_ ec_; subst ea_; subst ec_; clear en_; have ea_ := Option.some.inj (hx363_1.symm.trans hx367_1); injection ea_ with ea_ en_ ec_; subst ea_; subst ec_; clear en_) | ((with_reducible refine gate_callee (f := 53) rfl ?_); refine goesL_ (some 21) rfl rfl Tryd.func53 (by kernel_rfl) rfl #[.pointer A0, .slice A363_1 ((rd_T30 l1 0).f1).length c363_1] rfl (by (try simp only [List.map_toArray, List.map_cons, List.map_nil]); first | done | rfl | (simp only [List.length_drop, List.length_take]; rfl)) ?_; (with_reducible refine (spec_l3Fault.calls k _ l0 _ _ ((rd_T30 l1 0).f1) t368 _ ?side1 ?side2 ?side3 A6.out).mono ?_); (case side1 => repeat (first | exact HR0.out | (with_reducible refine Kd.C_alloc ?_ _) | (with_reducible refine Kd.C_drewN ?_ _) | (with_reducible refine Kd.C_drew ?_))); (case side2 => repeat (first | exact HR367_1.out | (with_reducible refine Kd.C_alloc ?_ _) | (with_reducible refine Kd.C_drewN ?_ _) | (with_reducible refine Kd.C_drew ?_))); (case side3 => exact HC367_1.out); rintro e w' ⟨rfl, ⟨nd, rfl⟩⟩; refine ⟨_, rfl, ?_⟩))
        go_ret
        exact ⟨by first | rfl | (simp; done) | (simp [*]; done), by repeat (first | exact Drawn0.refl _ | apply Drawn0.step)⟩
    · rw [if_neg c5] at H
      have c5b0 : (t365 == 0) = false := beq_eq_false_iff_ne.mpr c5
      have c5b1 : (t365 != 0) = true := bne_iff_ne.mpr c5
      obtain rfl := Option.some.inj H
      have p363 : 0 ≤ (0 : Int) := (by omega)
      have q363 : 0 < (l1.length : Int) := of_decide_eq_true (by first | (with_reducible assumption) | assumption)
      obtain ⟨ad363, A363_0, c363_0, A363_1, c363_1, e363, hx363_0, hx363_1, hl363_0, hi363_0, hl363_1, hi363_1⟩ := at_T30 HR1.out 0 p363 q363
      cases e363
      have qi363 : (0 < l1.length) = True := eq_true (by omega)
      (try rw [show ((0 : Int)).toNat = 0 from rfl] at hx363_0)
      (try rw [show 0 * 2 = 0 from rfl] at hx363_0)
      (try rw [Addr.add_zero'] at hx363_0)
      (try rw [show ((0 : Int)).toNat = 0 from rfl] at hx363_1)
      (try rw [show 0 * 2 = 0 from rfl] at hx363_1)
      (try rw [Addr.add_zero'] at hx363_1)
      have HR363_0 := Aside0.mk hi363_0
      have HC363_0 := Aside0.mk hl363_0
      clear hi363_0 hl363_0
      have HR363_1 := Aside0.mk hi363_1
      have HC363_1 := Aside0.mk hl363_1
      clear hi363_1 hl363_1
      replace p363 := eq_true p363
      replace q363 := eq_true q363
      have p364 : 0 ≤ (0 : Int) := (by omega)
      have q364 : 0 < (l1.length : Int) := of_decide_eq_true (by first | (with_reducible assumption) | assumption)
      obtain ⟨ad364, A364_0, c364_0, A364_1, c364_1, e364, hx364_0, hx364_1, hl364_0, hi364_0, hl364_1, hi364_1⟩ := at_T30 HR1.out 0 p364 q364
      obtain rfl : ad363 = ad364 := (by injection e364)
      have qi364 : (0 < l1.length) = True := eq_true (by omega)
      (try rw [show ((0 : Int)).toNat = 0 from rfl] at hx364_0)
      (try rw [show 0 * 2 = 0 from rfl] at hx364_0)
      (try rw [Addr.add_zero'] at hx364_0)
      (try rw [show ((0 : Int)).toNat = 0 from rfl] at hx364_1)
      (try rw [show 0 * 2 = 0 from rfl] at hx364_1)
      (try rw [Addr.add_zero'] at hx364_1)
      have HR364_0 := Aside0.mk hi364_0
      have HC364_0 := Aside0.mk hl364_0
      clear hi364_0 hl364_0
      have HR364_1 := Aside0.mk hi364_1
      have HC364_1 := Aside0.mk hl364_1
      clear hi364_1 hl364_1
      replace p364 := eq_true p364
      replace q364 := eq_true q364
      have ea_ := Option.some.inj (hx363_0.symm.trans hx364_0)
      injection ea_ with ea_ en_ ec_
      subst ea_
      subst ec_
      clear en_
      have ea_ := Option.some.inj (hx363_1.symm.trans hx364_1)
      injection ea_ with ea_ en_ ec_
      subst ea_
      subst ec_
      clear en_
      go_enter Tryd.func115, Tryd.ntmps115
      go_wp2_with (first | ((with_reducible refine gate_callee (f := 53) rfl ?_); refine goesL_ (some 12) rfl rfl Tryd.func53 (by kernel_rfl) rfl #[.pointer A0, .slice A363_0 ((rd_T30 l1 0).f0).length c363_0] rfl (by (try simp only [List.map_toArray, List.map_cons, List.map_nil]); first | done | rfl | (simp only [List.length_drop, List.length_take]; rfl)) ?_; (with_reducible refine (spec_l3Fault.calls k _ l0 _ _ ((rd_T30 l1 0).f0) t365 _ ?side1 ?side2 ?side3 A4.out).mono ?_); (case side1 => repeat (first | exact HR0.out | (with_reducible refine Kd.C_alloc ?_ _) | (with_reducible refine Kd.C_drewN ?_ _) | (with_reducible refine Kd.C_drew ?_))); (case side2 => repeat (first | exact HR364_0.out | (with_reducible refine Kd.C_alloc ?_ _) | (with_reducible refine Kd.C_drewN ?_ _) | (with_reducible refine Kd.C_drew ?_))); (case side3 => exact HC364_0.out); rintro e w' ⟨rfl, ⟨nd, rfl⟩⟩; refine ⟨_, rfl, ?_⟩))
      go_ret
      exact ⟨by first | rfl | (simp; done) | (simp [*]; done), by repeat (first | exact Drawn0.refl _ | apply Drawn0.step)⟩
  · rw [if_neg c3] at H
    exact absurd H (by simp)
def spec_l5Fault.l0 : Nat → List (S36) → List (S30) → Int → Option (Int)
  | 0, _, _, _ => none
  | k + 1, x0, x1, x5 => if x5 < (x1.length : Int) then (if 0 ≤ x5 then ((spec_l4Fault.f k x0 [rd_T30 x1 x5]).bind fun t376 => (if t376 = 0 then (spec_l5Fault.l0 k x0 x1 (wrap64 (x5 + 1))) else (some t376))) else (none)) else (some 0)
def spec_l5Fault.f (k : Nat) (l0 : List (S36)) (l1 : List (S30)) : Option (Int) := if (l1.length : Int) > 12 then (some 2) else (spec_l5Fault.l0 k l0 l1 0)
set_option maxHeartbeats 8000000 in
set_option maxRecDepth 100000 in
theorem spec_l5Fault.calls (k : Nat) (A0 : Option Addr) (l0 : List (S36)) (A1 : Option Addr) (c1 : Nat) (l1 : List (S30)) (r : Int) (w : World) (hr0 : Kd.C k36 w A0 l0.length l0) (hr1 : Kd.C k30 w A1 l1.length l1) (hc1 : l1.length ≤ c1) (h : spec_l5Fault.f k l0 l1 = some r) :
    Calls Tryd.prog 75 #[.pointer A0, .slice A1 l1.length c1] w fun e w' => e = .returned (.int .i64 r) ∧ Drawn0 w w' := by
  have HR0 := Aside0.mk hr0
  clear hr0
  have HR1 := Aside0.mk hr1
  have HC1 := Aside0.mk hc1
  clear hr1 hc1
  have H : (if (l1.length : Int) > 12 then (some 2) else (spec_l5Fault.l0 k l0 l1 0)) = some r := h
  clear h
  by_cases c3 : (l1.length : Int) > 12
  · rw [if_pos c3] at H
    have c3b0 : decide (12 < (l1.length : Int)) = true := decide_eq_true c3
    have c3b1 : decide (12 < l1.length) = true := decide_eq_true (by omega)
    clear c3
    obtain rfl := Option.some.inj H
    go_enter Tryd.func75, Tryd.ntmps75
    go_wp2
    go_ret
    exact ⟨by first | rfl | (simp; done) | (simp [*]; done), by repeat (first | exact Drawn0.refl _ | apply Drawn0.step)⟩
  · rw [if_neg c3] at H
    have c3b0 : decide (12 < (l1.length : Int)) = false := decide_eq_false c3
    have c3b1 : decide (12 < l1.length) = false := decide_eq_false (by omega)
    clear c3
    have H' := Aside0.mk H
    clear H
    go_enter Tryd.func75, Tryd.ntmps75
    go_wp2
    go_loopg [5] k (fun kq v5 w' => ∃ (x5_1 : Int), v5 = .int .i64 x5_1 ∧ Aside0 (spec_l5Fault.l0 kq l0 l1 x5_1 = some r) ∧ Aside0 (kq ≤ k) ∧ Drawn0 w w')
    case atStart => exact ⟨(0), (by first | rfl | (simp; done) | (simp [*]; done)), H', ⟨Nat.le_refl _⟩, by repeat (first | exact Drawn0.refl _ | apply Drawn0.step)⟩
    case round =>
      clear H'
      try clear c1
      try clear p2
      try clear c3
      try clear c3b0
      try clear c3b1
      obtain ⟨x5_1, rfl, HA, HK1, ⟨m1, rfl⟩⟩ := hrel
      cases gk with
      | zero => exact absurd HA.out (by simp [spec_l5Fault.l0])
      | succ k1 =>
        have H := HA.out
        clear HA
        simp only [spec_l5Fault.l0] at H
        by_cases c4 : x5_1 < (l1.length : Int)
        · rw [if_pos c4] at H
          have c4b0 : decide (x5_1 < (l1.length : Int)) = true := decide_eq_true c4
          clear c4
          by_cases c5 : 0 ≤ x5_1
          · rw [if_pos c5] at H
            have c5b0 : decide (0 ≤ x5_1) = true := decide_eq_true c5
            clear c5
            replace H := Option.bind_eq_some_iff.mp H
            obtain ⟨t376, A60, H⟩ := H
            replace H : (if t376 = 0 then (spec_l5Fault.l0 k1 l0 l1 (wrap64 (x5_1 + 1))) else (some t376)) = some r := H
            have A6 := Aside0.mk A60
            clear A60
            by_cases c7 : t376 = 0
            · rw [if_pos c7] at H
              have c7b0 : (t376 == 0) = true := beq_iff_eq.mpr c7
              have c7b1 : (t376 != 0) = false := bne_eq_false_iff_eq.mpr c7
              clear c7
              have H' := Aside0.mk H
              clear H
              have p375 : 0 ≤ (x5_1 : Int) := of_decide_eq_true (by first | (with_reducible assumption) | assumption)
              have q375 : x5_1 < (l1.length : Int) := of_decide_eq_true (by first | (with_reducible assumption) | assumption)
              obtain ⟨ad375, A375_0, c375_0, A375_1, c375_1, e375, hx375_0, hx375_1, hl375_0, hi375_0, hl375_1, hi375_1⟩ := at_T30 HR1.out x5_1 p375 q375
              cases e375
              have HR375_0 := Aside0.mk hi375_0
              have HC375_0 := Aside0.mk hl375_0
              clear hi375_0 hl375_0
              have HR375_1 := Aside0.mk hi375_1
              have HC375_1 := Aside0.mk hl375_1
              clear hi375_1 hl375_1
              replace p375 := eq_true p375
              replace q375 := eq_true q375
              go_wp2_with (first | ((with_reducible refine gate_callee (f := 115) rfl ?_); refine goesL_ (some 20) rfl rfl Tryd.func115 (by kernel_rfl) rfl #[.pointer A0, .pointer (some (ad375.add ((x5_1).toNat * 2)))] rfl (by (try simp only [List.map_toArray, List.map_cons, List.map_nil]); first | done | rfl | (simp only [List.length_drop, List.length_take]; rfl)) ?_; (with_reducible refine (spec_l4Fault.calls k1 _ l0 _ [rd_T30 l1 x5_1] t376 _ ?side1 ?side2 A6.out).mono ?_); (case side1 => repeat (first | exact HR0.out | (with_reducible refine Kd.C_alloc ?_ _) | (with_reducible refine Kd.C_drewN ?_ _) | (with_reducible refine Kd.C_drew ?_))); (case side2 => exact Kd.C_elem (by repeat (first | exact HR1.out | (with_reducible refine Kd.C_alloc ?_ _) | (with_reducible refine Kd.C_drewN ?_ _) | (with_reducible refine Kd.C_drew ?_))) (z := z30) x5_1 (of_eq_true p375) (of_eq_true q375)); rintro e w' ⟨rfl, ⟨nd, rfl⟩⟩; refine ⟨_, rfl, ?_⟩))
              go_roundg k1
              case measure => have := HK1.out; omega
              case rel => exact ⟨(wrap64 (x5_1 + 1)), (by first | rfl | (simp; done) | (simp [*]; done)), H', ⟨by have := HK1.out; omega⟩, by repeat (first | exact Drawn0.refl _ | apply Drawn0.step)⟩
            · rw [if_neg c7] at H
              have c7b0 : (t376 == 0) = false := beq_eq_false_iff_ne.mpr c7
              have c7b1 : (t376 != 0) = true := bne_iff_ne.mpr c7
              obtain rfl := Option.some.inj H
              have p375 : 0 ≤ (x5_1 : Int) := of_decide_eq_true (by first | (with_reducible assumption) | assumption)
              have q375 : x5_1 < (l1.length : Int) := of_decide_eq_true (by first | (with_reducible assumption) | assumption)
              obtain ⟨ad375, A375_0, c375_0, A375_1, c375_1, e375, hx375_0, hx375_1, hl375_0, hi375_0, hl375_1, hi375_1⟩ := at_T30 HR1.out x5_1 p375 q375
              cases e375
              have HR375_0 := Aside0.mk hi375_0
              have HC375_0 := Aside0.mk hl375_0
              clear hi375_0 hl375_0
              have HR375_1 := Aside0.mk hi375_1
              have HC375_1 := Aside0.mk hl375_1
              clear hi375_1 hl375_1
              replace p375 := eq_true p375
              replace q375 := eq_true q375
              go_wp2_with (first | ((with_reducible refine gate_callee (f := 115) rfl ?_); refine goesL_ (some 20) rfl rfl Tryd.func115 (by kernel_rfl) rfl #[.pointer A0, .pointer (some (ad375.add ((x5_1).toNat * 2)))] rfl (by (try simp only [List.map_toArray, List.map_cons, List.map_nil]); first | done | rfl | (simp only [List.length_drop, List.length_take]; rfl)) ?_; (with_reducible refine (spec_l4Fault.calls k1 _ l0 _ [rd_T30 l1 x5_1] t376 _ ?side1 ?side2 A6.out).mono ?_); (case side1 => repeat (first | exact HR0.out | (with_reducible refine Kd.C_alloc ?_ _) | (with_reducible refine Kd.C_drewN ?_ _) | (with_reducible refine Kd.C_drew ?_))); (case side2 => exact Kd.C_elem (by repeat (first | exact HR1.out | (with_reducible refine Kd.C_alloc ?_ _) | (with_reducible refine Kd.C_drewN ?_ _) | (with_reducible refine Kd.C_drew ?_))) (z := z30) x5_1 (of_eq_true p375) (of_eq_true q375)); rintro e w' ⟨rfl, ⟨nd, rfl⟩⟩; refine ⟨_, rfl, ?_⟩))
              go_ret
              exact ⟨by first | rfl | (simp; done) | (simp [*]; done), by repeat (first | exact Drawn0.refl _ | apply Drawn0.step)⟩
          · rw [if_neg c5] at H
            exact absurd H (by simp)
        · rw [if_neg c4] at H
          have c4b0 : decide (x5_1 < (l1.length : Int)) = false := decide_eq_false c4
          clear c4
          obtain rfl := Option.some.inj H
          go_wp2
          go_ret
          exact ⟨by first | rfl | (simp; done) | (simp [*]; done), by repeat (first | exact Drawn0.refl _ | apply Drawn0.step)⟩
def spec_EquationsFault.f (k : Nat) (l0_0 : List (S124)) (l1 : List (S30)) : Option (Int) := (spec_SignatureFault.f k l0_0).bind fun t378 => (if t378 = 0 then ((spec_l5Fault.f k [(⟨l0_0⟩ : S36)] l1).bind fun t379 => (some t379)) else (some t378))
set_option maxHeartbeats 8000000 in
set_option maxRecDepth 100000 in
theorem spec_EquationsFault.calls (k : Nat) (A0_0 : Option Addr) (c0_0 : Nat) (l0_0 : List (S124)) (A1 : Option Addr) (c1 : Nat) (l1 : List (S30)) (r : Int) (w : World) (hr0_0 : Kd.C k124 w A0_0 l0_0.length l0_0) (hc0_0 : l0_0.length ≤ c0_0) (hr1 : Kd.C k30 w A1 l1.length l1) (hc1 : l1.length ≤ c1) (h : spec_EquationsFault.f k l0_0 l1 = some r) :
    Calls Tryd.prog 36 #[.agg #[.slice A0_0 l0_0.length c0_0], .slice A1 l1.length c1] w fun e w' => e = .returned (.int .i64 r) ∧ Below w.heap.size w w' := by
  have hu36 := Tryd.underlying36
  have HR0_0 := Aside0.mk hr0_0
  have HC0_0 := Aside0.mk hc0_0
  clear hr0_0 hc0_0
  have HR1 := Aside0.mk hr1
  have HC1 := Aside0.mk hc1
  clear hr1 hc1
  have HB := Aside0.mk (Below.refl w.heap.size w)
  have H : ((spec_SignatureFault.f k l0_0).bind fun t378 => (if t378 = 0 then ((spec_l5Fault.f k [(⟨l0_0⟩ : S36)] l1).bind fun t379 => (some t379)) else (some t378))) = some r := h
  clear h
  replace H := Option.bind_eq_some_iff.mp H
  obtain ⟨t378, A30, H⟩ := H
  replace H : (if t378 = 0 then ((spec_l5Fault.f k [(⟨l0_0⟩ : S36)] l1).bind fun t379 => (some t379)) else (some t378)) = some r := H
  have A3 := Aside0.mk A30
  clear A30
  by_cases c4 : t378 = 0
  · rw [if_pos c4] at H
    have c4b0 : (t378 == 0) = true := beq_iff_eq.mpr c4
    have c4b1 : (t378 != 0) = false := bne_eq_false_iff_eq.mpr c4
    clear c4
    replace H := Option.bind_eq_some_iff.mp H
    obtain ⟨t379, A50, H⟩ := H
    replace H : (some t379) = some r := H
    have A5 := Aside0.mk A50
    clear A50
    obtain rfl := Option.some.inj H
    go_enter Tryd.func36, Tryd.ntmps36
    go_wp2_with (first | ((with_reducible refine gate_dst (N := 2) rfl ?_); refine box_event ?hg (N := 2) ?hd (cs := #[.slice A0_0 l0_0.length c0_0]) (t := 36) ?hr ?_; (case hd => rfl); (case hg => rfl); (case hr => first | (go_simp; done) | (go_simp; rfl)); intro gb377 hg w6 hbox hb; have n0_ := Aside0.mk (below_step (by repeat (first | (with_reducible first | exact HB.out | apply below_alloc | apply pw_below_drewN | apply below_drew1) | exact HB.out)) hb); have n1_ := Aside0.mk (hbox); have n2_ := Aside0.mk ((by rw [hg]; exact (below_size (by repeat (first | (with_reducible first | exact HB.out | apply below_alloc | apply pw_below_drewN | apply below_drew1) | exact HB.out))) : w.heap.size ≤ gb377)); have n3_ := Aside0.mk ((by rw [hg]; exact (below_size (by repeat (first | (with_reducible first | exact HB.out | apply below_alloc | apply pw_below_drewN | apply below_drew1) | exact HB.out))) : w.heap.size ≤ gb377)); clear HB; have HB := n0_; have BK377 := n1_; have GW377 := n2_; have GE377 := n3_; clear n0_ n1_ n2_ n3_; clear hb hbox hg; have hcz7_0 : w6.cell? ⟨gb377, 0, none⟩ = some (.slice A0_0 l0_0.length c0_0) := (blk_cell BK377.out 0).trans rfl; have hfz7_0 := blk_frozen BK377.out 0) | ((with_reducible refine gate_callee (f := 71) rfl ?_); refine goesL_ (some 7) rfl rfl Tryd.func71 (by kernel_rfl) rfl #[.agg #[.slice A0_0 l0_0.length c0_0]] rfl (by (try simp only [List.map_toArray, List.map_cons, List.map_nil]); first | done | rfl | (simp only [List.length_drop, List.length_take]; rfl)) ?_; (with_reducible refine (spec_SignatureFault.calls k _ _ l0_0 t378 _ ?side1 ?side2 A3.out).mono ?_); (case side1 => repeat (first | exact (Kd.C_below HR0_0.out HB.out) | (with_reducible refine Kd.C_alloc ?_ _) | (with_reducible refine Kd.C_drewN ?_ _) | (with_reducible refine Kd.C_drew ?_))); (case side2 => exact HC0_0.out); rintro e w8 ⟨rfl, hb⟩; refine ⟨_, rfl, ?_⟩; have n0_ := Aside0.mk (blk_below (g := gb377) (o := .cells #[.slice A0_0 l0_0.length c0_0] 36 (0, 0)) (by (with_reducible repeat (first | refine blk_drewN ?_ _ | refine blk_drew ?_ | refine blk_alloc ?_ _)); exact BK377.out) hb); have n1_ := Aside0.mk (below_step (by repeat (first | (with_reducible first | exact HB.out | apply below_alloc | apply pw_below_drewN | apply below_drew1 | refine below_set ?_ GE377.out) | exact HB.out)) hb); clear BK377; clear HB; have BK377 := n0_; have HB := n1_; clear n0_ n1_; (try clear hb); (try clear hb2); (try clear hgw); (try clear hk); (try clear hi)) | ((with_reducible refine gate_callee (f := 75) rfl ?_); refine goesL_ (some 12) rfl rfl Tryd.func75 (by kernel_rfl) rfl #[.pointer (some ⟨gb377, 0, none⟩), .slice A1 l1.length c1] rfl (by (try simp only [List.map_toArray, List.map_cons, List.map_nil]); first | done | rfl | (simp only [List.length_drop, List.length_take]; rfl)) ?_; (with_reducible refine (spec_l5Fault.calls k _ [(⟨l0_0⟩ : S36)] _ _ l1 t379 _ ?side1 ?side2 ?side3 A5.out).mono ?_); (case side1 => exact k36_box (by (with_reducible repeat (first | refine blk_drewN ?_ _ | refine blk_drew ?_ | refine blk_alloc ?_ _)); exact BK377.out) (by repeat (first | exact (Kd.C_below HR0_0.out HB.out) | (with_reducible refine Kd.C_alloc ?_ _) | (with_reducible refine Kd.C_drewN ?_ _) | (with_reducible refine Kd.C_drew ?_))) (by exact HC0_0.out)); (case side2 => repeat (first | exact (Kd.C_below HR1.out HB.out) | (with_reducible refine Kd.C_alloc ?_ _) | (with_reducible refine Kd.C_drewN ?_ _) | (with_reducible refine Kd.C_drew ?_))); (case side3 => exact HC1.out); rintro e w' ⟨rfl, ⟨nd, rfl⟩⟩; refine ⟨_, rfl, ?_⟩))
    go_ret
    exact ⟨by first | rfl | (simp [errW_none, errW_some] <;> rfl) | (simp [*, errW_none, errW_some] <;> rfl), by repeat (first | (with_reducible first | exact HB.out | apply below_alloc | apply pw_below_drewN | apply below_drew1 | refine below_set ?_ GE377.out) | exact HB.out)⟩
  · rw [if_neg c4] at H
    have c4b0 : (t378 == 0) = false := beq_eq_false_iff_ne.mpr c4
    have c4b1 : (t378 != 0) = true := bne_iff_ne.mpr c4
    obtain rfl := Option.some.inj H
    go_enter Tryd.func36, Tryd.ntmps36
    go_wp2_with (first | ((with_reducible refine gate_dst (N := 2) rfl ?_); refine box_event ?hg (N := 2) ?hd (cs := #[.slice A0_0 l0_0.length c0_0]) (t := 36) ?hr ?_; (case hd => rfl); (case hg => rfl); (case hr => first | (go_simp; done) | (go_simp; rfl)); intro gb377 hg w9 hbox hb; have n0_ := Aside0.mk (below_step (by repeat (first | (with_reducible first | exact HB.out | apply below_alloc | apply pw_below_drewN | apply below_drew1) | exact HB.out)) hb); have n1_ := Aside0.mk (hbox); have n2_ := Aside0.mk ((by rw [hg]; exact (below_size (by repeat (first | (with_reducible first | exact HB.out | apply below_alloc | apply pw_below_drewN | apply below_drew1) | exact HB.out))) : w.heap.size ≤ gb377)); have n3_ := Aside0.mk ((by rw [hg]; exact (below_size (by repeat (first | (with_reducible first | exact HB.out | apply below_alloc | apply pw_below_drewN | apply below_drew1) | exact HB.out))) : w.heap.size ≤ gb377)); clear HB; have HB := n0_; have BK377 := n1_; have GW377 := n2_; have GE377 := n3_; clear n0_ n1_ n2_ n3_; clear hb hbox hg; have hcz10_0 : w9.cell? ⟨gb377, 0, none⟩ = some (.slice A0_0 l0_0.length c0_0) := (blk_cell BK377.out 0).trans rfl; have hfz10_0 := blk_frozen BK377.out 0) | ((with_reducible refine gate_callee (f := 71) rfl ?_); refine goesL_ (some 7) rfl rfl Tryd.func71 (by kernel_rfl) rfl #[.agg #[.slice A0_0 l0_0.length c0_0]] rfl (by (try simp only [List.map_toArray, List.map_cons, List.map_nil]); first | done | rfl | (simp only [List.length_drop, List.length_take]; rfl)) ?_; (with_reducible refine (spec_SignatureFault.calls k _ _ l0_0 t378 _ ?side1 ?side2 A3.out).mono ?_); (case side1 => repeat (first | exact (Kd.C_below HR0_0.out HB.out) | (with_reducible refine Kd.C_alloc ?_ _) | (with_reducible refine Kd.C_drewN ?_ _) | (with_reducible refine Kd.C_drew ?_))); (case side2 => exact HC0_0.out); rintro e w11 ⟨rfl, hb⟩; refine ⟨_, rfl, ?_⟩; have n0_ := Aside0.mk (blk_below (g := gb377) (o := .cells #[.slice A0_0 l0_0.length c0_0] 36 (0, 0)) (by (with_reducible repeat (first | refine blk_drewN ?_ _ | refine blk_drew ?_ | refine blk_alloc ?_ _)); exact BK377.out) hb); have n1_ := Aside0.mk (below_step (by repeat (first | (with_reducible first | exact HB.out | apply below_alloc | apply pw_below_drewN | apply below_drew1 | refine below_set ?_ GE377.out) | exact HB.out)) hb); clear BK377; clear HB; have BK377 := n0_; have HB := n1_; clear n0_ n1_; (try clear hb); (try clear hb2); (try clear hgw); (try clear hk); (try clear hi)))
    go_ret
    exact ⟨by first | rfl | (simp [errW_none, errW_some] <;> rfl) | (simp [*, errW_none, errW_some] <;> rfl), by repeat (first | (with_reducible first | exact HB.out | apply below_alloc | apply pw_below_drewN | apply below_drew1 | refine below_set ?_ GE377.out) | exact HB.out)⟩
end Go.Proofs.YtnlpbmakdiaaoaaDoor.P
