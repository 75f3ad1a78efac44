/- A part of the proof of the law FnTexts. -/
import Derived.Test.YtbdpnkpienpnaaaGreatDoorCFnTexts5
set_option maxHeartbeats 8000000
set_option maxRecDepth 100000
namespace Go.Proofs.YtbdpnkpienpnaaaGreatDoor.P
open Go.RowKit Go.Proofs.YtbdpnkpienpnaaaGreatDoorW.PrintWords Go.Proofs.YtbdpnkpienpnaaaGreatDoorW.PrintLast Go.Proofs.YtbdpnkpienpnaaaGreatDoorW.PrintMore
attribute [local go_sem] max2_int min2_int max_two min_two max_three min_three max_four min_four   -- for this text's walks alone
set_option linter.unusedVariables false
set_option linter.unusedSimpArgs false
mutual
def spec_SignatureFault.j0 : Nat → Int → Bool → List (S90) → Option (Int)
 | 0, _, _, _ => none
 | k + 1, x3, a1, a0 => if a1 = true then (some 2) else (spec_SignatureFault.l0 k x3 0 a0)
def spec_SignatureFault.l0 : Nat → Int → Int → List (S90) → Option (Int)
 | 0, _, _, _ => none
 | k + 1, x3, x4, a0 => if x4 < x3 then (if 0 ≤ x4 then (if x4 < (a0.length : Int) then ((spec_l2Name.f k ((rd_T90 a0 x4).f0)).bind fun a1 => (if a1 = true then ((spec_l1In.f ((rd_T90 a0 x4).f1) 0 2).bind fun a2 => (if a2 = true then (spec_SignatureFault.l0 k x3 (wrap64 (x4 + 1)) a0) else (some 3))) else (some 5))) else (none)) else (none)) else (spec_SignatureFault.l1 k x3 0 a0)
def spec_SignatureFault.l1 : Nat → Int → Int → List (S90) → Option (Int)
 | 0, _, _, _ => none
 | k + 1, x3, x5, a0 => if x5 < x3 then (spec_SignatureFault.l2 k x3 x5 0 a0) else (spec_SignatureFault.l3 k x3 0 a0)
def spec_SignatureFault.l2 : Nat → Int → Int → Int → List (S90) → Option (Int)
 | 0, _, _, _, _ => none
 | k + 1, x3, x5, x6, a0 => if x6 < x5 then (if 0 ≤ x5 then (if x5 < (a0.length : Int) then (if 0 ≤ x6 then (if x6 < (a0.length : Int) then (if ((rd_T90 a0 x5).f0).toList = ((rd_T90 a0 x6).f0).toList then (some 6) else (spec_SignatureFault.l2 k x3 x5 (wrap64 (x6 + 1)) a0)) else (none)) else (none)) else (none)) else (none)) else (spec_SignatureFault.l1 k x3 (wrap64 (x5 + 1)) a0)
def spec_SignatureFault.l3 : Nat → Int → Int → List (S90) → Option (Int)
 | 0, _, _, _ => none
 | k + 1, x3, x7, a0 => if x7 < x3 then (if 0 ≤ x7 then (if x7 < (a0.length : Int) then (if ((rd_T90 a0 x7).f1) = 0 then (some 0) else (spec_SignatureFault.l3 k x3 (wrap64 (x7 + 1)) a0)) else (none)) else (none)) else (some 4)
end
def spec_SignatureFault.f (k : Nat) (a0 : List (S90)) : Option (Int) := if (a0.length : Int) < 1 then (spec_SignatureFault.j0 k (a0.length : Int) true a0) else (spec_SignatureFault.j0 k (a0.length : Int) (decide ((a0.length : Int) > 6)) a0)
theorem spec_SignatureFault.calls (k : Nat) (b6 : Option Addr) (b7 : Nat) (a1 : List (S90)) (r : Int) (w : World) (g0 : Kd.C k90 w b6 a1.length a1) (e9 : a1.length ≤ b7) (h : spec_SignatureFault.f k a1 = some r) :
  Calls Tryz.prog 49 #[.agg #[.slice b6 a1.length b7]] w fun e w' => e = .returned (.int .i64 r) ∧ Below w.heap.size w w' := by
 have m9 := Tryz.underlying26
 have b2 := am g0
 have l9 := am e9
 clear g0 e9
 have HB := am (Below.refl w.heap.size w)
 have H : (if (a1.length : Int) < 1 then (spec_SignatureFault.j0 k (a1.length : Int) true a1) else (spec_SignatureFault.j0 k (a1.length : Int) (decide ((a1.length : Int) > 6)) a1)) = some r := h
 clear h
 have l5 := am H
 clear H
 go_enter Tryz.func49, Tryz.ntmps49
 go_upto_region 2 with (first | (refine bx 1 rfl #[.slice b6 a1.length b7] 26 ?_; intro b5 hg w3 hbox hb; have a0 := am (hbox); have b8 := am (bz hg (hq HB.out)); replace HB := sb HB hb; have e5 := b8; clear hb hbox hg; have a3 := c0_ a0; have a4 := blk_frozen a0.out 0))
 repeat (go_quiet (first | (refine bx 1 rfl #[.slice b6 a1.length b7] 26 ?_; intro b5 hg w3 hbox hb; have a0 := am (hbox); have b8 := am (bz hg (hq HB.out)); replace HB := sb HB hb; have e5 := b8; clear hb hbox hg; have a3 := c0_ a0; have a4 := blk_frozen a0.out 0)); go_upto_region 2 with (first | (refine bx 1 rfl #[.slice b6 a1.length b7] 26 ?_; intro b5 hg w3 hbox hb; have a0 := am (hbox); have b8 := am (bz hg (hq HB.out)); replace HB := sb HB hb; have e5 := b8; clear hb hbox hg; have a3 := c0_ a0; have a4 := blk_frozen a0.out 0)))
 (try simp only [Act.put, lsp])
 go_cut [16] (fun n0 wc => ∃ (kq : Nat) (d7 : Bool), n0 = .bool d7 ∧ Aside0 (spec_SignatureFault.j0 kq (a1.length : Int) d7 a1 = some r) ∧ Aside0 (kq ≤ k) ∧ Aside0 (wc.heap[b5]? = some (.cells #[(.slice b6 a1.length b7)] 26 (0, 0))) ∧ Aside0 (Below w.heap.size w wc))
 case first =>
  have H := l5.out
  clear l5
  by_cases c5 : (a1.length : Int) < 1
  ·rw [if_pos c5] at H
   have e1 := decide_eq_true c5
   have l6 : decide (a1.length < 1) = true := decide_eq_true (by omega)
   clear c5
   (first | rw [e1] | (simp only [i64_w, i32_w]; rw [e1]) | skip)
   have H' := am H
   clear H
   go_wp2
   repeat (go_quiet (fail); try go_wp2)
   go_meet
   case rel => exact ⟨_, (true), et, H', lo, ⟨bq a0.out⟩, ⟨hs HB.out⟩⟩
  ·rw [if_neg c5] at H
   have e1 := decide_eq_false c5
   have l6 : decide (a1.length < 1) = false := decide_eq_false (by omega)
   clear c5
   (first | rw [e1] | (simp only [i64_w, i32_w]; rw [e1]) | skip)
   have H' := am H
   clear H
   go_wp2
   repeat (go_quiet (fail); try go_wp2)
   go_meet
   case rel => exact ⟨_, (decide ((a1.length : Int) > 6)), et, H', lo, ⟨bq a0.out⟩, ⟨hs HB.out⟩⟩
 case rest =>
  clear l5
  try clear a3; try clear a4
  obtain ⟨kq, d7, rfl, HA, e6, a0, HB⟩ := hcut
  cases kq with
  | zero => exact absurd HA.out (by simp [spec_SignatureFault.j0])
  | succ m6 =>
   have H := HA.out
   clear HA
   simp only [spec_SignatureFault.j0] at H
   by_cases c6 : d7 = true
   ·subst c6
    rw [if_pos rfl] at H
    obtain rfl := Option.some.inj H
    go_wp2
    repeat (go_quiet (fail); try go_wp2)
    go_ret
    exact ⟨er, hs HB.out⟩
   ·replace c6 := Bool.eq_false_iff.mpr c6
    subst c6
    rw [if_neg (show ¬ (false = true) by decide)] at H
    have H' := am H
    clear H
    go_wp2
    repeat (go_quiet (fail); try go_wp2)
    go_loopg [4] m6 (fun kq v4 w' => ∃ (a2 : Int), v4 = .int .i64 a2 ∧ Aside0 (spec_SignatureFault.l0 kq (a1.length : Int) a2 a1 = some r) ∧ Aside0 (kq ≤ m6) ∧ Aside0 (w'.heap[b5]? = some (.cells #[(.slice b6 a1.length b7)] 26 (0, 0))) ∧ Aside0 (Below w.heap.size w w'))
    case atStart => exact ⟨(0), et, H', ⟨Nat.le_refl _⟩, ⟨bq a0.out⟩, ⟨hs HB.out⟩⟩
    case round =>
     clear H'
     try clear c6; try clear a3; try clear a4
     obtain ⟨a2, rfl, HA, e7, a0, HB⟩ := hrel
     cases gk with
     | zero => exact absurd HA.out (by simp [spec_SignatureFault.l0])
     | succ k2 =>
      have H := HA.out
      clear HA
      simp only [spec_SignatureFault.l0] at H
      by_cases c7 : a2 < (a1.length : Int)
      ·rw [if_pos c7] at H
       have e2 := decide_eq_true c7
       clear c7
       obtain ⟨m7, H⟩ := ife H
       obtain ⟨m8, H⟩ := ife H
       obtain ⟨e3, k9, H⟩ := ob H
       try dsimp only at H
       have h3 := am H
       clear H
       have i9 := c0_ a0
       have k0 := blk_frozen a0.out 0
       have g5 : 0 ≤ (a2 : Int) := od
       have g7 : a2 < (a1.length : Int) := od
       obtain ⟨h5, l7, d3, d4⟩ := at_T90 b2.out a2 g5 g7
       cases l7
       replace d3 := cz HB.out d3
       replace d4 := cz HB.out d4
       obtain ⟨g5, g7⟩ := ee g5 g7
       go_upto_if 29 with (first | (go_at_call 83; (with_reducible refine (spec_l2Name.calls k2 ((rd_T90 a1 a2).f0) e3 _ k9.out).mono ?_); rintro e w' ⟨rfl, ⟨nd, rfl⟩⟩; (try first | exact ⟨rfl, _, World.drewN_drewN _ _ _⟩ | exact ⟨rfl, _, Eq.trans (World.drewN_drewN _ _ _) (congrArg (World.drewN _) (Nat.add_assoc _ _ _))⟩)))
       repeat (go_quiet (first | (go_at_call 83; (with_reducible refine (spec_l2Name.calls k2 ((rd_T90 a1 a2).f0) e3 _ k9.out).mono ?_); rintro e w' ⟨rfl, ⟨nd, rfl⟩⟩; (try first | exact ⟨rfl, _, World.drewN_drewN _ _ _⟩ | exact ⟨rfl, _, Eq.trans (World.drewN_drewN _ _ _) (congrArg (World.drewN _) (Nat.add_assoc _ _ _))⟩))); go_upto_if 29 with (first | (go_at_call 83; (with_reducible refine (spec_l2Name.calls k2 ((rd_T90 a1 a2).f0) e3 _ k9.out).mono ?_); rintro e w' ⟨rfl, ⟨nd, rfl⟩⟩; (try first | exact ⟨rfl, _, World.drewN_drewN _ _ _⟩ | exact ⟨rfl, _, Eq.trans (World.drewN_drewN _ _ _) (congrArg (World.drewN _) (Nat.add_assoc _ _ _))⟩))))
       have H := h3.out
       clear h3
       by_cases i6 : e3 = true
       ·subst i6
        rw [if_pos rfl] at H
        obtain ⟨e4, l4, H⟩ := ob H
        try dsimp only at H
        have h4 := am H
        clear H
        have j5 := c0_ a0
        have k1 := blk_frozen a0.out 0
        have g6 : 0 ≤ (a2 : Int) := od
        have g8 : a2 < (a1.length : Int) := od
        obtain ⟨h6, l8, d5, d6⟩ := at_T90 b2.out a2 g6 g8
        obtain rfl : h5 = h6 := (by injection l8)
        replace d5 := cz HB.out d5
        replace d6 := cz HB.out d6
        obtain ⟨g6, g8⟩ := ee g6 g8
        go_upto_if 37 with (first | (go_at_call 84; (with_reducible refine (spec_l1In.calls ((rd_T90 a1 a2).f1) 0 2 e4 _ l4.out).mono ?_); rintro e w' ⟨rfl, ⟨nd, rfl⟩⟩; (try first | exact ⟨rfl, _, World.drewN_drewN _ _ _⟩ | exact ⟨rfl, _, Eq.trans (World.drewN_drewN _ _ _) (congrArg (World.drewN _) (Nat.add_assoc _ _ _))⟩)))
        repeat (go_quiet (first | (go_at_call 84; (with_reducible refine (spec_l1In.calls ((rd_T90 a1 a2).f1) 0 2 e4 _ l4.out).mono ?_); rintro e w' ⟨rfl, ⟨nd, rfl⟩⟩; (try first | exact ⟨rfl, _, World.drewN_drewN _ _ _⟩ | exact ⟨rfl, _, Eq.trans (World.drewN_drewN _ _ _) (congrArg (World.drewN _) (Nat.add_assoc _ _ _))⟩))); go_upto_if 37 with (first | (go_at_call 84; (with_reducible refine (spec_l1In.calls ((rd_T90 a1 a2).f1) 0 2 e4 _ l4.out).mono ?_); rintro e w' ⟨rfl, ⟨nd, rfl⟩⟩; (try first | exact ⟨rfl, _, World.drewN_drewN _ _ _⟩ | exact ⟨rfl, _, Eq.trans (World.drewN_drewN _ _ _) (congrArg (World.drewN _) (Nat.add_assoc _ _ _))⟩))))
        have H := h4.out
        clear h4
        by_cases i7 : e4 = true
        ·subst i7
         rw [if_pos rfl] at H
         have H' := am H
         clear H
         go_wp2
         repeat (go_quiet (fail); try go_wp2)
         go_roundg k2
         case measure => have := e6.out; have := e7.out; omega
         case rel => exact ⟨(wrap64 (a2 + 1)), et, H', ⟨by have := e6.out; have := e7.out; omega⟩, ⟨bq a0.out⟩, ⟨hs HB.out⟩⟩
        ·replace i7 := Bool.eq_false_iff.mpr i7
         subst i7
         rw [if_neg (show ¬ (false = true) by decide)] at H
         obtain rfl := Option.some.inj H
         go_wp2
         repeat (go_quiet (fail); try go_wp2)
         go_ret
         exact ⟨er, hs HB.out⟩
       ·replace i6 := Bool.eq_false_iff.mpr i6
        subst i6
        rw [if_neg (show ¬ (false = true) by decide)] at H
        obtain rfl := Option.some.inj H
        go_wp2
        repeat (go_quiet (fail); try go_wp2)
        go_ret
        exact ⟨er, hs HB.out⟩
      ·rw [if_neg c7] at H
       have e2 := decide_eq_false c7
       clear c7
       have H' := am H
       clear H
       go_wp2
       repeat (go_quiet (fail); try go_wp2)
       go_loopg [5] k2 (fun kq v5 w' => ∃ (b1 : Int), v5 = .int .i64 b1 ∧ Aside0 (spec_SignatureFault.l1 kq (a1.length : Int) b1 a1 = some r) ∧ Aside0 (kq ≤ k2) ∧ Aside0 (w'.heap[b5]? = some (.cells #[(.slice b6 a1.length b7)] 26 (0, 0))) ∧ Aside0 (Below w.heap.size w w'))
       case atStart => exact ⟨(0), et, H', ⟨Nat.le_refl _⟩, ⟨bq a0.out⟩, ⟨hs HB.out⟩⟩
       case round =>
        clear H'
        try clear c6; try clear c7; try clear e2; try clear a3; try clear a4
        obtain ⟨b1, rfl, HA, g9, a0, HB⟩ := hrel
        cases gk with
        | zero => exact absurd HA.out (by simp [spec_SignatureFault.l1])
        | succ k3 =>
         have H := HA.out
         clear HA
         simp only [spec_SignatureFault.l1] at H
         by_cases e8 : b1 < (a1.length : Int)
         ·rw [if_pos e8] at H
          have e0 := decide_eq_true e8
          clear e8
          have H' := am H
          clear H
          go_wp2
          repeat (go_quiet (fail); try go_wp2)
          go_loopg [6] k3 (fun kq v6 w' => ∃ (b3 : Int), v6 = .int .i64 b3 ∧ Aside0 (spec_SignatureFault.l2 kq (a1.length : Int) b1 b3 a1 = some r) ∧ Aside0 (kq ≤ k3) ∧ Aside0 (w'.heap[b5]? = some (.cells #[(.slice b6 a1.length b7)] 26 (0, 0))) ∧ Aside0 (Below w.heap.size w w'))
          case atStart => exact ⟨(0), et, H', ⟨Nat.le_refl _⟩, ⟨bq a0.out⟩, ⟨hs HB.out⟩⟩
          case round =>
           clear H'
           try clear c6; try clear c7; try clear e2; try clear e8; try clear e0; try clear a3; try clear a4
           obtain ⟨b3, rfl, HA, g1, a0, HB⟩ := hrel
           cases gk with
           | zero => exact absurd HA.out (by simp [spec_SignatureFault.l2])
           | succ k4 =>
            have H := HA.out
            clear HA
            simp only [spec_SignatureFault.l2] at H
            by_cases h0 : b3 < b1
            ·rw [if_pos h0] at H
             have h8 := decide_eq_true h0
             clear h0
             obtain ⟨m0, H⟩ := ife H
             obtain ⟨m1, H⟩ := ife H
             obtain ⟨m2, H⟩ := ife H
             obtain ⟨m3, H⟩ := ife H
             by_cases h9 : ((rd_T90 a1 b1).f0).toList = ((rd_T90 a1 b3).f0).toList
             ·rw [if_pos h9] at H
              obtain ⟨i0, i1⟩ := bqt h9; clear h9
              obtain rfl := Option.some.inj H
              have j6 := c0_ a0
              have k5 := blk_frozen a0.out 0
              have b9 : 0 ≤ (b1 : Int) := od
              have d0 : b1 < (a1.length : Int) := od
              obtain ⟨d8, g2, a5, a6⟩ := at_T90 b2.out b1 b9 d0
              cases g2
              replace a5 := cz HB.out a5
              replace a6 := cz HB.out a6
              obtain ⟨b9, d0⟩ := ee b9 d0
              have c0 : 0 ≤ (b3 : Int) := od
              have d1 : b3 < (a1.length : Int) := od
              obtain ⟨d9, g3, a7, a8⟩ := at_T90 b2.out b3 c0 d1
              obtain rfl : d8 = d9 := (by injection g3)
              replace a7 := cz HB.out a7
              replace a8 := cz HB.out a8
              obtain ⟨c0, d1⟩ := ee c0 d1
              go_wp2
              repeat (go_quiet (fail); try go_wp2)
              go_ret
              exact ⟨er, hs HB.out⟩
             ·rw [if_neg h9] at H
              obtain ⟨i0, i1⟩ := bqf h9
              have H' := am H
              clear H
              have j7 := c0_ a0
              have k6 := blk_frozen a0.out 0
              have b9 : 0 ≤ (b1 : Int) := od
              have d0 : b1 < (a1.length : Int) := od
              obtain ⟨d8, g2, a5, a6⟩ := at_T90 b2.out b1 b9 d0
              cases g2
              replace a5 := cz HB.out a5
              replace a6 := cz HB.out a6
              obtain ⟨b9, d0⟩ := ee b9 d0
              have c0 : 0 ≤ (b3 : Int) := od
              have d1 : b3 < (a1.length : Int) := od
              obtain ⟨d9, g3, a7, a8⟩ := at_T90 b2.out b3 c0 d1
              obtain rfl : d8 = d9 := (by injection g3)
              replace a7 := cz HB.out a7
              replace a8 := cz HB.out a8
              obtain ⟨c0, d1⟩ := ee c0 d1
              go_wp2
              repeat (go_quiet (fail); try go_wp2)
              go_roundg k4
              case measure => have := e6.out; have := e7.out; have := g9.out; have := g1.out; omega
              case rel => exact ⟨(wrap64 (b3 + 1)), et, H', ⟨by have := e6.out; have := e7.out; have := g9.out; have := g1.out; omega⟩, ⟨bq a0.out⟩, ⟨hs HB.out⟩⟩
            ·rw [if_neg h0] at H
             have h8 := decide_eq_false h0
             clear h0
             have H' := am H
             clear H
             go_wp2
             repeat (go_quiet (fail); try go_wp2)
             go_roundg k4
             case measure => have := e6.out; have := e7.out; have := g9.out; have := g1.out; omega
             case rel => exact ⟨(wrap64 (b1 + 1)), et, H', ⟨by have := e6.out; have := e7.out; have := g9.out; have := g1.out; omega⟩, ⟨bq a0.out⟩, ⟨hs HB.out⟩⟩
         ·rw [if_neg e8] at H
          have e0 := decide_eq_false e8
          clear e8
          have H' := am H
          clear H
          go_wp2
          repeat (go_quiet (fail); try go_wp2)
          go_loopg [7] k3 (fun kq v7 w' => ∃ (b4 : Int), v7 = .int .i64 b4 ∧ Aside0 (spec_SignatureFault.l3 kq (a1.length : Int) b4 a1 = some r) ∧ Aside0 (kq ≤ k3) ∧ Aside0 (w'.heap[b5]? = some (.cells #[(.slice b6 a1.length b7)] 26 (0, 0))) ∧ Aside0 (Below w.heap.size w w'))
          case atStart => exact ⟨(0), et, H', ⟨Nat.le_refl _⟩, ⟨bq a0.out⟩, ⟨hs HB.out⟩⟩
          case round =>
           clear H'
           try clear c6; try clear c7; try clear e2; try clear e8; try clear e0; try clear a3; try clear a4
           obtain ⟨b4, rfl, HA, g1, a0, HB⟩ := hrel
           cases gk with
           | zero => exact absurd HA.out (by simp [spec_SignatureFault.l3])
           | succ k4 =>
            have H := HA.out
            clear HA
            simp only [spec_SignatureFault.l3] at H
            by_cases h2 : b4 < (a1.length : Int)
            ·rw [if_pos h2] at H
             have i2 := decide_eq_true h2
             clear h2
             obtain ⟨m4, H⟩ := ife H
             obtain ⟨m5, H⟩ := ife H
             by_cases i3 : ((rd_T90 a1 b4).f1) = 0
             ·rw [if_pos i3] at H
              obtain ⟨i4, i5⟩ := bqt i3; clear i3
              obtain rfl := Option.some.inj H
              have j8 := c0_ a0
              have k7 := blk_frozen a0.out 0
              have c1 : 0 ≤ (b4 : Int) := od
              have d2 : b4 < (a1.length : Int) := od
              obtain ⟨h7, g4, a9, b0⟩ := at_T90 b2.out b4 c1 d2
              cases g4
              replace a9 := cz HB.out a9
              replace b0 := cz HB.out b0
              obtain ⟨c1, d2⟩ := ee c1 d2
              go_wp2
              repeat (go_quiet (fail); try go_wp2)
              go_ret
              exact ⟨er, hs HB.out⟩
             ·rw [if_neg i3] at H
              obtain ⟨i4, i5⟩ := bqf i3
              have H' := am H
              clear H
              have j9 := c0_ a0
              have k8 := blk_frozen a0.out 0
              have c1 : 0 ≤ (b4 : Int) := od
              have d2 : b4 < (a1.length : Int) := od
              obtain ⟨h7, g4, a9, b0⟩ := at_T90 b2.out b4 c1 d2
              cases g4
              replace a9 := cz HB.out a9
              replace b0 := cz HB.out b0
              obtain ⟨c1, d2⟩ := ee c1 d2
              go_wp2
              repeat (go_quiet (fail); try go_wp2)
              go_roundg k4
              case measure => have := e6.out; have := e7.out; have := g9.out; have := g1.out; omega
              case rel => exact ⟨(wrap64 (b4 + 1)), et, H', ⟨by have := e6.out; have := e7.out; have := g9.out; have := g1.out; omega⟩, ⟨bq a0.out⟩, ⟨hs HB.out⟩⟩
            ·rw [if_neg h2] at H
             have i2 := decide_eq_false h2
             clear h2
             obtain rfl := Option.some.inj H
             go_wp2
             repeat (go_quiet (fail); try go_wp2)
             go_ret
             exact ⟨er, hs HB.out⟩
attribute [local go_sem] max2_int min2_int max_two min_two max_three min_three max_four min_four   -- for this text's walks alone
set_option linter.unusedVariables false
set_option linter.unusedSimpArgs false
mutual
def spec_l3Draw.j0 : Nat → List (S26) → Int → Int → Bool → List Int → Int → Option (List Int × Int)
 | 0, _, _, _, _, _, _ => none
 | k + 1, x1, x2, x3, a4, a0, a3 => if a4 = true then ((spec_l1Next.f a0 a3 x3).bind fun a1 => (some ((([wrap64 ((-1) - a1.1)] : List Int)), a1.2))) else (if 0 < (x1.length : Int) then ((spec_l1Next.f a0 a3 (((rd_T26 x1 0).f0).length : Int)).bind fun a2 => (spec_l3Draw.l0 k x1 x2 x3 (((rd_T26 x1 0).f0).length : Int) a2.1 0 a0 a2.2)) else (none))
def spec_l3Draw.j2 : Nat → List (S26) → Int → Int → Int → Int → List Int → Int → Option (List Int × Int)
 | 0, _, _, _, _, _, _, _ => none
 | k + 1, x1, x2, x3, x9, a2, a0, a1 => if x2 < 2 then (spec_l3Draw.l1 k x1 x2 x3 x9 a2 0 a0 a1) else (spec_l3Draw.j4 k x1 x2 x3 a2 a0 a1)
def spec_l3Draw.j4 : Nat → List (S26) → Int → Int → Int → List Int → Int → Option (List Int × Int)
 | 0, _, _, _, _, _, _ => none
 | k + 1, x1, x2, x3, a6, a3, a4 => (some (([a6] : List Int) : List Int)).bind fun a5 => (if 0 < (x1.length : Int) then (if 0 ≤ a6 then (if a6 < (((rd_T26 x1 0).f0).length : Int) then (if ((rd_T90 ((rd_T26 x1 0).f0) a6).f1) = 1 then ((spec_l3Draw.f k a3 a4 x1 (wrap64 (x2 - 1)) x3).bind fun a1 => (if a5.length + a1.1.length < 17592186044416 then (some ((a5 ++ a1.1), a1.2)) else (none))) else (if ((rd_T90 ((rd_T26 x1 0).f0) a6).f1) = 2 then ((spec_l3Draw.f k a3 a4 x1 (wrap64 (x2 - 2)) x3).bind fun a0 => (if a5.length + a0.1.length < 17592186044416 then ((some (a5 ++ a0.1 : List Int)).bind fun a7 => ((spec_l3Draw.f k a3 a0.2 x1 (wrap64 ((wrap64 (x2 - 1)) - (a0.1.length : Int))) x3).bind fun a2 => (if a7.length + a2.1.length < 17592186044416 then (some ((a7 ++ a2.1), a2.2)) else (none)))) else (none))) else (some (a5, a4)))) else (none)) else (none)) else (none))
def spec_l3Draw.l1 : Nat → List (S26) → Int → Int → Int → Int → Int → List Int → Int → Option (List Int × Int)
 | 0, _, _, _, _, _, _, _, _ => none
 | k + 1, x1, x2, x3, x9, a2, a3, a0, a1 => if a3 < x9 then (if 0 < (x1.length : Int) then (if 0 ≤ a2 then (if a2 < (((rd_T26 x1 0).f0).length : Int) then (if ((rd_T90 ((rd_T26 x1 0).f0) a2).f1) > 0 then (if x9 = 0 then (none) else (spec_l3Draw.l1 k x1 x2 x3 x9 (Int.tmod (wrap64 (a2 + 1)) x9) (wrap64 (a3 + 1)) a0 a1)) else (spec_l3Draw.j4 k x1 x2 x3 a2 a0 a1)) else (none)) else (none)) else (none)) else (spec_l3Draw.j4 k x1 x2 x3 a2 a0 a1)
def spec_l3Draw.l0 : Nat → List (S26) → Int → Int → Int → Int → Int → List Int → Int → Option (List Int × Int)
 | 0, _, _, _, _, _, _, _, _ => none
 | k + 1, x1, x2, x3, x9, a2, a3, a0, a1 => if a3 < x9 then (if 0 < (x1.length : Int) then (if 0 ≤ a2 then (if a2 < (((rd_T26 x1 0).f0).length : Int) then (if ((rd_T90 ((rd_T26 x1 0).f0) a2).f1) ≥ x2 then (if x9 = 0 then (none) else (spec_l3Draw.l0 k x1 x2 x3 x9 (Int.tmod (wrap64 (a2 + 1)) x9) (wrap64 (a3 + 1)) a0 a1)) else (spec_l3Draw.j2 k x1 x2 x3 x9 a2 a0 a1)) else (none)) else (none)) else (none)) else (spec_l3Draw.j2 k x1 x2 x3 x9 a2 a0 a1)
def spec_l3Draw.f : Nat → List Int → Int → List (S26) → Int → Int → Option (List Int × Int)
 | 0, _, _, _, _, _ => none
 | k + 1, a0, a6, l1, a2, a3 => if a3 > 0 then (if a2 < 2 then ((spec_l1Chance.f a0 a6 2).bind fun a1 => (if a1.1 = true then (spec_l3Draw.j0 k l1 a2 a3 true a0 a1.2) else ((spec_l1Chance.f a0 a1.2 4).bind fun a4 => (spec_l3Draw.j0 k l1 a2 a3 a4.1 a0 a4.2)))) else ((spec_l1Chance.f a0 a6 4).bind fun a5 => (spec_l3Draw.j0 k l1 a2 a3 a5.1 a0 a5.2))) else (spec_l3Draw.j0 k l1 a2 a3 false a0 a6)
end
theorem spec_l3Draw.calls (k : Nat) : ∀ (g : Nat) (a1 : List Int) (d9 : Int) (A1 : Option Addr) (l1 : List (S26)) (a2 : Int) (a3 : Int) (r1 : List Int) (r2 : Int) (w0 w : World) (hI : IsS86 w0 w g a1 d9) (hB : Below w0.heap.size w0 w) (z1 : ∀ W_, KeepBut w W_ g none → Kd.C k26 W_ A1 l1.length l1) (h : spec_l3Draw.f k a1 d9 l1 a2 a3 = some (r1, r2)),
  Calls Tryz.prog 57 #[.pointer (some ⟨g, 0, none⟩), .pointer A1, .int .i64 a2, .int .i64 a3] w fun e w' => ∃ D4 : Value, e = .returned (D4) ∧ Kd.R (Kd.int .i64) 2 w' w.heap.size (fun _ => True) D4 r1 ∧ IsS86 w0 w' g a1 r2 ∧ Below w0.heap.size w0 w' ∧ KeepBut w w' g none := by
 induction k using Nat.strongRecOn with
 | _ k ih =>
 intro g a1 d9 A1 l1 a2 a3 r1 r2 w0 w hI hB z1 h
 cases k with
 | zero => exact absurd h (by simp [spec_l3Draw.f])
 | succ k =>
 simp only [spec_l3Draw.f] at h
 have g0 := am z1
 clear z1
 have a0 := am hI
 have HK := am (KeepBut.refl w g none)
 have HL := am hB.size
 clear hI
 have F1 := am hB.size
 have HB := am hB
 clear hB
 have H : (if a3 > 0 then (if a2 < 2 then ((spec_l1Chance.f a1 d9 2).bind fun l9 => (if l9.1 = true then (spec_l3Draw.j0 k l1 a2 a3 true a1 l9.2) else ((spec_l1Chance.f a1 l9.2 4).bind fun o1 => (spec_l3Draw.j0 k l1 a2 a3 o1.1 a1 o1.2)))) else ((spec_l1Chance.f a1 d9 4).bind fun o2 => (spec_l3Draw.j0 k l1 a2 a3 o2.1 a1 o2.2))) else (spec_l3Draw.j0 k l1 a2 a3 false a1 d9)) = some (r1, r2) := h
 clear h
 have x8 := am H
 clear H
 go_enter Tryz.func57, Tryz.ntmps57
 go_upto_region 1 with (fail)
 go_cut [28] (fun E8 wc => ∃ (kq : Nat) (k7 : Bool) (d5 : Int), E8 = .bool k7 ∧ Aside0 (spec_l3Draw.j0 kq l1 a2 a3 k7 a1 d5 = some (r1, r2)) ∧ Aside0 (kq ≤ k) ∧ Aside0 (IsS86 w0 wc g a1 d5) ∧ Aside0 (KeepBut w wc g none) ∧ Aside0 (Below w0.heap.size w0 wc))
 case first =>
  have H := x8.out
  clear x8
  by_cases c6 : a3 > 0
  ·rw [if_pos c6] at H
   have m1 := decide_eq_true c6
   clear c6
   (first | rw [m1] | (simp only [i64_w, i32_w]; rw [m1]) | skip)
   by_cases c7 : a2 < 2
   ·rw [if_pos c7] at H
    have y3 := decide_eq_true c7
    clear c7
    obtain ⟨⟨z3, n7⟩, A8, H⟩ := ob H
    try dsimp only at H
    by_cases c9 : z3 = true
    ·subst c9
     rw [if_pos rfl] at H
     have H' := am H
     clear H
     go_wp2_with (first | (go_at_call 55; (with_reducible refine (spec_l1Chance.calls g a1 d9 2 true n7 w0 _ ?side1 ?side2 A8.out).mono ?_); (case side1 => exact IsS86.q a0.out); (case side2 => exact hsk HB.out (IsS86.ge a0.out)); rintro e F2 ⟨rfl, hi, hb, hk⟩; replace HK := kt HK hk; replace HB := am (hb); replace a0 := am (hi); (try clear hb); (try clear hk); (try clear hi)))
     go_meet
     case rel => exact ⟨_, (true), (n7), et, H', lo, ⟨IsS86.q a0.out⟩, ⟨kq HK.out⟩, ⟨hsk HB.out (IsS86.ge a0.out)⟩⟩
    ·replace c9 := Bool.eq_false_iff.mpr c9
     subst c9
     rw [if_neg (show ¬ (false = true) by decide)] at H
     obtain ⟨⟨u9, v0⟩, D5, H⟩ := ob H
     try dsimp only at H
     have H' := am H
     clear H
     go_wp2_with (first | (go_at_call 55; (with_reducible refine (spec_l1Chance.calls g a1 d9 2 false n7 w0 _ ?side1 ?side2 A8.out).mono ?_); (case side1 => exact IsS86.q a0.out); (case side2 => exact hsk HB.out (IsS86.ge a0.out)); rintro e F3 ⟨rfl, hi, hb, hk⟩; replace HK := kt HK hk; replace HB := am (hb); replace a0 := am (hi); (try clear hb); (try clear hk); (try clear hi)) | (go_at_call 55; (with_reducible refine (spec_l1Chance.calls g a1 n7 4 u9 v0 w0 _ ?side1 ?side2 D5.out).mono ?_); (case side1 => exact IsS86.q a0.out); (case side2 => exact hsk HB.out (IsS86.ge a0.out)); rintro e F4 ⟨rfl, hi, hb, hk⟩; replace HK := kt HK hk; replace HB := am (hb); replace a0 := am (hi); (try clear hb); (try clear hk); (try clear hi)))
     go_meet
     case rel => exact ⟨_, (u9), (v0), et, H', lo, ⟨IsS86.q a0.out⟩, ⟨kq HK.out⟩, ⟨hsk HB.out (IsS86.ge a0.out)⟩⟩
   ·rw [if_neg c7] at H
    have y3 := decide_eq_false c7
    clear c7
    obtain ⟨⟨v1, v2⟩, D6, H⟩ := ob H
    try dsimp only at H
    have H' := am H
    clear H
    go_wp2_with (first | (go_at_call 55; (with_reducible refine (spec_l1Chance.calls g a1 d9 4 v1 v2 w0 _ ?side1 ?side2 D6.out).mono ?_); (case side1 => exact IsS86.q a0.out); (case side2 => exact hsk HB.out (IsS86.ge a0.out)); rintro e F5 ⟨rfl, hi, hb, hk⟩; replace HK := kt HK hk; replace HB := am (hb); replace a0 := am (hi); (try clear hb); (try clear hk); (try clear hi)))
    go_meet
    case rel => exact ⟨_, (v1), (v2), et, H', lo, ⟨IsS86.q a0.out⟩, ⟨kq HK.out⟩, ⟨hsk HB.out (IsS86.ge a0.out)⟩⟩
  ·rw [if_neg c6] at H
   have m1 := decide_eq_false c6
   clear c6
   (first | rw [m1] | (simp only [i64_w, i32_w]; rw [m1]) | skip)
   have H' := am H
   clear H
   go_wp2
   go_meet
   case rel => exact ⟨_, (false), (d9), et, H', lo, ⟨IsS86.q a0.out⟩, ⟨kq HK.out⟩, ⟨hsk HB.out (IsS86.ge a0.out)⟩⟩
 case rest =>
  clear x8
  obtain ⟨kq, k7, d5, rfl, HA, k9, a0, HK, HB⟩ := hcut
  cases kq with
  | zero => exact absurd HA.out (by simp [spec_l3Draw.j0])
  | succ z2 =>
   have H := HA.out
   clear HA
   simp only [spec_l3Draw.j0] at H
   by_cases o3 : k7 = true
   ·subst o3
    rw [if_pos rfl] at H
    obtain ⟨⟨k8, v3⟩, D7, H⟩ := ob H
    try dsimp only at H
    obtain ⟨z5, k0⟩ : ∃ y_ : List Int, y_ = (([wrap64 ((-1) - k8)] : List Int)) := ⟨_, rfl⟩
    replace H : (some (z5, v3)) = some (r1, r2) := by first | (rw [k0]; first | with_reducible exact H | with_reducible exact bs H) | with_reducible exact bs H | with_reducible exact H | (rw [k0]; exact H) | exact H
    have n9 := am k0
    clear k0
    simp only [Option.some.injEq, Prod.mk.injEq] at H
    obtain ⟨rfl, rfl⟩ := H
    go_wp2_with (first | (refine gl (some 31) Tryz.func56 rfl #[.pointer (some ⟨g, 0, none⟩), .int .i64 a3] ?_; (with_reducible refine (spec_l1Next.calls g a1 d5 a3 k8 v3 w0 _ ?side1 ?side2 D7.out).mono ?_); (case side1 => exact IsS86.q a0.out); (case side2 => exact hsk HB.out (IsS86.ge a0.out)); rintro e F6 ⟨rfl, hi, hb, hk⟩; refine ⟨_, rfl, ?_⟩; replace HK := kt HK hk; replace HB := am (hb); replace a0 := am (hi); clear hb hk hi) | ((with_reducible refine gate_dst (N := 33) rfl ?_); refine Kd.R_lit (Kd.int .i64) _ 2 ?hg (N := 33) ?hd (xs := ([wrap64 ((-1) - k8)] : List Int)) (inner := [.int .i64 (wrap64 ((-1) - k8))]) (ok := fun _ => True) (okp := fun _ => True) ?hr ?hp (fun _ hk => hk) trivial (Below.refl _ _) (Nat.le_refl _) (by simp) ?_; (case hd => rfl); (case hg => rfl); (case hr => first | (go_simp; done) | (go_simp; rfl)); (case hp => exact (Reps.one (show Kd.M (Kd.int .i64) _ _ _ (wrap64 ((-1) - k8)) [.int .i64 (wrap64 ((-1) - k8))] from rfl) (Reps.none _ _))); intro E4 F7 m2 hb z0 hnew_; clear z0 hnew_; (first | rw [← n9.out] at m2 | (simp only [Int.reduceToNat] at m2; rw [← n9.out] at m2)); have s1 := am (Kd.R_lower m2 (keep_size (w := w) (g := g) (row := none) (kq HK.out))); replace HK := ku HK hb; replace HB := am (below_step (hsk HB.out (IsS86.ge a0.out)) hb); replace a0 := IsS86.bl a0 hb; clear hb m2))
    go_ret
    exact ⟨_, er, rq s1.out, IsS86.q a0.out, hsk HB.out (IsS86.ge a0.out), kq HK.out⟩
   ·replace o3 := Bool.eq_false_iff.mpr o3
    subst o3
    rw [if_neg (show ¬ (false = true) by decide)] at H
    obtain ⟨r4, H⟩ := ifs H
    have i2 := decide_eq_true r4
    have i3 : decide (0 < l1.length) = true := decide_eq_true (by omega)
    clear r4
    obtain ⟨⟨v4, b2⟩, D8, H⟩ := ob H
    try dsimp only at H
    have o9 := am H
    clear H
    have g2 : 0 ≤ (0 : Int) := (by omega)
    have h0 : 0 < (l1.length : Int) := od
    obtain ⟨a6, x3, x9, y5, b0, i9, i4⟩ := at_T26 (Kd.C_foot_now g0.out HK.out) 0 g2 h0
    cases y5
    have D0 : (0 < l1.length) = True := eq_true (by omega)
    (try simp only [t0_] at b0)
    have w6 := am i4
    have v8 := am i9
    clear i4 i9
    obtain ⟨g2, h0⟩ := ee g2 h0
    have g3 : 0 ≤ (0 : Int) := (by omega)
    have h2 : 0 < (l1.length : Int) := od
    obtain ⟨t0, x4, y0, y6, b1, j5, i5⟩ := at_T26 (Kd.C_foot_now g0.out HK.out) 0 g3 h2
    obtain rfl : a6 = t0 := (by injection y6)
    have D1 : (0 < l1.length) = True := eq_true (by omega)
    (try simp only [t0_] at b1)
    have w7 := am i5
    have v9 := am j5
    clear i5 j5
    obtain ⟨g3, h2⟩ := ee g3 h2
    obtain ⟨rfl, rfl⟩ := sj b0 b1
    go_upto_block 0 with (first | (refine gl (some 41) Tryz.func56 rfl #[.pointer (some ⟨g, 0, none⟩), .int .i64 (((rd_T26 l1 0).f0).length : Int)] ?_; (with_reducible refine (spec_l1Next.calls g a1 d5 (((rd_T26 l1 0).f0).length : Int) v4 b2 w0 _ ?side1 ?side2 D8.out).mono ?_); (case side1 => exact IsS86.q a0.out); (case side2 => exact hsk HB.out (IsS86.ge a0.out)); rintro e F8 ⟨rfl, hi, hb, hk⟩; refine ⟨_, rfl, ?_⟩; replace HK := kt HK hk; replace HB := am (hb); replace a0 := am (hi); clear hb hk hi))
    (try simp only [Act.put, lsp])
    go_cut [10] (fun r3 wc => ∃ (kq : Nat) (d8 : Int), r3 = .int .i64 d8 ∧ Aside0 (spec_l3Draw.j2 kq l1 a2 a3 (((rd_T26 l1 0).f0).length : Int) d8 a1 b2 = some (r1, r2)) ∧ Aside0 (kq ≤ z2) ∧ Aside0 (IsS86 w0 wc g a1 b2) ∧ Aside0 (KeepBut w wc g none) ∧ Aside0 (Below w0.heap.size w0 wc))
    case first =>
     have H := o9.out
     clear o9
     have H' := am H
     clear H
     go_wp2
     go_loopg [10, 11] z2 (fun kq r3 E2 w' => ∃ (a7 : Int) (e8 : Int), r3 = .int .i64 a7 ∧ E2 = .int .i64 e8 ∧ Aside0 (spec_l3Draw.l0 kq l1 a2 a3 (((rd_T26 l1 0).f0).length : Int) a7 e8 a1 b2 = some (r1, r2)) ∧ Aside0 (kq ≤ z2) ∧ Aside0 (IsS86 w0 w' g a1 b2) ∧ Aside0 (KeepBut w w' g none) ∧ Aside0 (Below w0.heap.size w0 w'))
     case atStart => exact ⟨(v4), (0), et, et, H', ⟨Nat.le_refl _⟩, ⟨IsS86.q a0.out⟩, ⟨kq HK.out⟩, ⟨hsk HB.out (IsS86.ge a0.out)⟩⟩
     case round =>
      clear H'
      try clear o3; try clear r4; try clear i2; try clear i3; try clear b0; try clear b1; try clear g2; try clear g3; try clear h0; try clear h2
      obtain ⟨a7, e8, rfl, rfl, HA, w4, a0, HK, HB⟩ := hrel
      cases gk with
      | zero => exact absurd HA.out (by simp [spec_l3Draw.l0])
      | succ k2 =>
       have H := HA.out
       clear HA
       simp only [spec_l3Draw.l0] at H
       by_cases r5 : e8 < (((rd_T26 l1 0).f0).length : Int)
       ·rw [if_pos r5] at H
        have e6 := decide_eq_true r5
        clear r5
        (first | rw [e6] | (simp only [i64_w, i32_w]; rw [e6]) | skip)
        obtain ⟨z9, H⟩ := ifs H
        have A0 := decide_eq_true z9
        have A2 : decide (0 < l1.length) = true := decide_eq_true (by omega)
        clear z9
        obtain ⟨A3, H⟩ := ife H
        obtain ⟨A4, H⟩ := ife H
        by_cases r6 : ((rd_T90 ((rd_T26 l1 0).f0) a7).f1) ≥ a2
        ·rw [if_pos r6] at H
         have t5 := decide_eq_true r6
         clear r6
         by_cases w9 : (((rd_T26 l1 0).f0).length : Int) = 0
         ·rw [if_pos w9] at H
          exact absurd H (by simp)
         ·rw [if_neg w9] at H
          obtain ⟨A5, A6⟩ := bqf w9
          have A7 : ¬ (((rd_T26 l1 0).f0) = []) := fun h_ => w9 (by rw [h_]; rfl)
          have H' := am H
          clear H
          have g4 : 0 ≤ (0 : Int) := (by omega)
          have h3 : 0 < (l1.length : Int) := od
          obtain ⟨l5, o4, p2, p8, d1, b9, b5⟩ := at_T26 (Kd.C_foot_now g0.out HK.out) 0 g4 h3
          obtain rfl : a6 = l5 := (by injection p8)
          have u4 : (0 < l1.length) = True := eq_true (by omega)
          (try simp only [t0_] at d1)
          have n0 := am b5
          have m6 := am b9
          clear b5 b9
          obtain ⟨g4, h3⟩ := ee g4 h3
          have g5 : 0 ≤ (0 : Int) := (by omega)
          have h4 : 0 < (l1.length : Int) := od
          obtain ⟨l6, o5, p3, p9, d2, c0, b6⟩ := at_T26 (Kd.C_foot_now g0.out HK.out) 0 g5 h4
          obtain rfl : a6 = l6 := (by injection p9)
          have u5 : (0 < l1.length) = True := eq_true (by omega)
          (try simp only [t0_] at d2)
          have b3 := am b6
          have m7 := am c0
          clear b6 c0
          obtain ⟨g5, h4⟩ := ee g5 h4
          obtain ⟨rfl, rfl⟩ := sj d1 d2
          have g6 : 0 ≤ (a7 : Int) := od
          have h5 : a7 < (((rd_T26 l1 0).f0).length : Int) := od
          obtain ⟨t1, q0, n2, n3⟩ := at_T90 (by repeat (first | (with_reducible exact b3.out) | (with_reducible refine Kd.C_alloc ?_ _) | (with_reducible refine Kd.C_drewN ?_ _) | (with_reducible refine Kd.C_drew ?_) | exact b3.out)) a7 g6 h5
          cases q0
          obtain ⟨g6, h5⟩ := ee g6 h5
          go_wp2
          go_roundg k2
          case measure => have := k9.out; have := w4.out; omega
          case rel => exact ⟨(Int.tmod (wrap64 (a7 + 1)) (((rd_T26 l1 0).f0).length : Int)), (wrap64 (e8 + 1)), et, et, H', ⟨by have := k9.out; have := w4.out; omega⟩, ⟨IsS86.q a0.out⟩, ⟨kq HK.out⟩, ⟨hsk HB.out (IsS86.ge a0.out)⟩⟩
        ·rw [if_neg r6] at H
         have t5 := decide_eq_false r6
         clear r6
         have H' := am H
         clear H
         have g4 : 0 ≤ (0 : Int) := (by omega)
         have h3 : 0 < (l1.length : Int) := od
         obtain ⟨l5, o4, p2, p8, d1, b9, b5⟩ := at_T26 (Kd.C_foot_now g0.out HK.out) 0 g4 h3
         obtain rfl : a6 = l5 := (by injection p8)
         have u4 : (0 < l1.length) = True := eq_true (by omega)
         (try simp only [t0_] at d1)
         have n0 := am b5
         have m6 := am b9
         clear b5 b9
         obtain ⟨g4, h3⟩ := ee g4 h3
         have g5 : 0 ≤ (0 : Int) := (by omega)
         have h4 : 0 < (l1.length : Int) := od
         obtain ⟨l6, o5, p3, p9, d2, c0, b6⟩ := at_T26 (Kd.C_foot_now g0.out HK.out) 0 g5 h4
         obtain rfl : a6 = l6 := (by injection p9)
         have u5 : (0 < l1.length) = True := eq_true (by omega)
         (try simp only [t0_] at d2)
         have b3 := am b6
         have m7 := am c0
         clear b6 c0
         obtain ⟨g5, h4⟩ := ee g5 h4
         obtain ⟨rfl, rfl⟩ := sj d1 d2
         have g6 : 0 ≤ (a7 : Int) := od
         have h5 : a7 < (((rd_T26 l1 0).f0).length : Int) := od
         obtain ⟨t1, q0, n2, n3⟩ := at_T90 (by repeat (first | (with_reducible exact b3.out) | (with_reducible refine Kd.C_alloc ?_ _) | (with_reducible refine Kd.C_drewN ?_ _) | (with_reducible refine Kd.C_drew ?_) | exact b3.out)) a7 g6 h5
         cases q0
         obtain ⟨g6, h5⟩ := ee g6 h5
         go_wp2
         go_meet
         case rel => exact ⟨_, (a7), et, H', ⟨by have := k9.out; have := w4.out; first | omega | exact Nat.le_refl _⟩, ⟨IsS86.q a0.out⟩, ⟨kq HK.out⟩, ⟨hsk HB.out (IsS86.ge a0.out)⟩⟩
       ·rw [if_neg r5] at H
        have e6 := decide_eq_false r5
        clear r5
        (first | rw [e6] | (simp only [i64_w, i32_w]; rw [e6]) | skip)
        have H' := am H
        clear H
        go_wp2
        go_meet
        case rel => exact ⟨_, (a7), et, H', ⟨by have := k9.out; have := w4.out; first | omega | exact Nat.le_refl _⟩, ⟨IsS86.q a0.out⟩, ⟨kq HK.out⟩, ⟨hsk HB.out (IsS86.ge a0.out)⟩⟩
    case rest =>
     clear o9
     try clear o3; try clear r4; try clear i2; try clear i3; try clear b0; try clear b1; try clear g2; try clear g3; try clear h0; try clear h2
     obtain ⟨kq, d8, rfl, HA, e3, a0, HK, HB⟩ := hcut
     cases kq with
     | zero => exact absurd HA.out (by simp [spec_l3Draw.j2])
     | succ q4 =>
      have H := HA.out
      clear HA
      simp only [spec_l3Draw.j2] at H
      have p0 := am H
      clear H
      go_upto_if 64 with (fail)
      go_cut [10] (fun r3 wc => ∃ (kq : Nat) (a4 : Int), r3 = .int .i64 a4 ∧ Aside0 (spec_l3Draw.j4 kq l1 a2 a3 a4 a1 b2 = some (r1, r2)) ∧ Aside0 (kq ≤ q4) ∧ Aside0 (IsS86 w0 wc g a1 b2) ∧ Aside0 (KeepBut w wc g none) ∧ Aside0 (Below w0.heap.size w0 wc))
      case first =>
       have H := p0.out
       clear p0
       by_cases p6 : a2 < 2
       ·rw [if_pos p6] at H
        have e0 := decide_eq_true p6
        clear p6
        (first | rw [e0] | (simp only [i64_w, i32_w]; rw [e0]) | skip)
        have H' := am H
        clear H
        go_wp2
        go_loopg [10, 12] q4 (fun kq r3 E3 w' => ∃ (a8 : Int) (e9 : Int), r3 = .int .i64 a8 ∧ E3 = .int .i64 e9 ∧ Aside0 (spec_l3Draw.l1 kq l1 a2 a3 (((rd_T26 l1 0).f0).length : Int) a8 e9 a1 b2 = some (r1, r2)) ∧ Aside0 (kq ≤ q4) ∧ Aside0 (IsS86 w0 w' g a1 b2) ∧ Aside0 (KeepBut w w' g none) ∧ Aside0 (Below w0.heap.size w0 w'))
        case atStart => exact ⟨(d8), (0), et, et, H', ⟨Nat.le_refl _⟩, ⟨IsS86.q a0.out⟩, ⟨kq HK.out⟩, ⟨hsk HB.out (IsS86.ge a0.out)⟩⟩
        case round =>
         clear H'
         try clear o3; try clear r4; try clear i2; try clear i3; try clear p6; try clear e0; try clear b0; try clear b1; try clear g2; try clear g3; try clear h0; try clear h2
         obtain ⟨a8, e9, rfl, rfl, HA, w5, a0, HK, HB⟩ := hrel
         cases gk with
         | zero => exact absurd HA.out (by simp [spec_l3Draw.l1])
         | succ k3 =>
          have H := HA.out
          clear HA
          simp only [spec_l3Draw.l1] at H
          by_cases r7 : e9 < (((rd_T26 l1 0).f0).length : Int)
          ·rw [if_pos r7] at H
           have t6 := decide_eq_true r7
           clear r7
           obtain ⟨A9, H⟩ := ifs H
           have B0 := decide_eq_true A9
           have B4 : decide (0 < l1.length) = true := decide_eq_true (by omega)
           clear A9
           obtain ⟨B5, H⟩ := ife H
           obtain ⟨B8, H⟩ := ife H
           by_cases r8 : ((rd_T90 ((rd_T26 l1 0).f0) a8).f1) > 0
           ·rw [if_pos r8] at H
            have t7 := decide_eq_true r8
            clear r8
            by_cases x0 : (((rd_T26 l1 0).f0).length : Int) = 0
            ·rw [if_pos x0] at H
             exact absurd H (by simp)
            ·rw [if_neg x0] at H
             obtain ⟨B9, C0⟩ := bqf x0
             have C1 : ¬ (((rd_T26 l1 0).f0) = []) := fun h_ => x0 (by rw [h_]; rfl)
             have H' := am H
             clear H
             have g7 : 0 ≤ (0 : Int) := (by omega)
             have h6 : 0 < (l1.length : Int) := od
             obtain ⟨l7, o6, p4, q1, d3, c1, b7⟩ := at_T26 (Kd.C_foot_now g0.out HK.out) 0 g7 h6
             obtain rfl : a6 = l7 := (by injection q1)
             have u6 : (0 < l1.length) = True := eq_true (by omega)
             (try simp only [t0_] at d3)
             have n1 := am b7
             have m8 := am c1
             clear b7 c1
             obtain ⟨g7, h6⟩ := ee g7 h6
             have g8 : 0 ≤ (0 : Int) := (by omega)
             have h7 : 0 < (l1.length : Int) := od
             obtain ⟨l8, o7, p5, q2, d4, d0, b8⟩ := at_T26 (Kd.C_foot_now g0.out HK.out) 0 g8 h7
             obtain rfl : a6 = l8 := (by injection q2)
             have u7 : (0 < l1.length) = True := eq_true (by omega)
             (try simp only [t0_] at d4)
             have b4 := am b8
             have m9 := am d0
             clear b8 d0
             obtain ⟨g8, h7⟩ := ee g8 h7
             obtain ⟨rfl, rfl⟩ := sj d3 d4
             have g9 : 0 ≤ (a8 : Int) := od
             have h8 : a8 < (((rd_T26 l1 0).f0).length : Int) := od
             obtain ⟨t2, q3, n4, n6⟩ := at_T90 (by repeat (first | (with_reducible exact b4.out) | (with_reducible refine Kd.C_alloc ?_ _) | (with_reducible refine Kd.C_drewN ?_ _) | (with_reducible refine Kd.C_drew ?_) | exact b4.out)) a8 g9 h8
             cases q3
             obtain ⟨g9, h8⟩ := ee g9 h8
             go_wp2
             go_roundg k3
             case measure => have := k9.out; have := e3.out; have := w5.out; omega
             case rel => exact ⟨(Int.tmod (wrap64 (a8 + 1)) (((rd_T26 l1 0).f0).length : Int)), (wrap64 (e9 + 1)), et, et, H', ⟨by have := k9.out; have := e3.out; have := w5.out; omega⟩, ⟨IsS86.q a0.out⟩, ⟨kq HK.out⟩, ⟨hsk HB.out (IsS86.ge a0.out)⟩⟩
           ·rw [if_neg r8] at H
            have t7 := decide_eq_false r8
            clear r8
            have H' := am H
            clear H
            have g7 : 0 ≤ (0 : Int) := (by omega)
            have h6 : 0 < (l1.length : Int) := od
            obtain ⟨l7, o6, p4, q1, d3, c1, b7⟩ := at_T26 (Kd.C_foot_now g0.out HK.out) 0 g7 h6
            obtain rfl : a6 = l7 := (by injection q1)
            have u6 : (0 < l1.length) = True := eq_true (by omega)
            (try simp only [t0_] at d3)
            have n1 := am b7
            have m8 := am c1
            clear b7 c1
            obtain ⟨g7, h6⟩ := ee g7 h6
            have g8 : 0 ≤ (0 : Int) := (by omega)
            have h7 : 0 < (l1.length : Int) := od
            obtain ⟨l8, o7, p5, q2, d4, d0, b8⟩ := at_T26 (Kd.C_foot_now g0.out HK.out) 0 g8 h7
            obtain rfl : a6 = l8 := (by injection q2)
            have u7 : (0 < l1.length) = True := eq_true (by omega)
            (try simp only [t0_] at d4)
            have b4 := am b8
            have m9 := am d0
            clear b8 d0
            obtain ⟨g8, h7⟩ := ee g8 h7
            obtain ⟨rfl, rfl⟩ := sj d3 d4
            have g9 : 0 ≤ (a8 : Int) := od
            have h8 : a8 < (((rd_T26 l1 0).f0).length : Int) := od
            obtain ⟨t2, q3, n4, n6⟩ := at_T90 (by repeat (first | (with_reducible exact b4.out) | (with_reducible refine Kd.C_alloc ?_ _) | (with_reducible refine Kd.C_drewN ?_ _) | (with_reducible refine Kd.C_drew ?_) | exact b4.out)) a8 g9 h8
            cases q3
            obtain ⟨g9, h8⟩ := ee g9 h8
            go_wp2
            go_meet
            case rel => exact ⟨_, (a8), et, H', ⟨by have := k9.out; have := e3.out; have := w5.out; first | omega | exact Nat.le_refl _⟩, ⟨IsS86.q a0.out⟩, ⟨kq HK.out⟩, ⟨hsk HB.out (IsS86.ge a0.out)⟩⟩
          ·rw [if_neg r7] at H
           have t6 := decide_eq_false r7
           clear r7
           have H' := am H
           clear H
           go_wp2
           go_meet
           case rel => exact ⟨_, (a8), et, H', ⟨by have := k9.out; have := e3.out; have := w5.out; first | omega | exact Nat.le_refl _⟩, ⟨IsS86.q a0.out⟩, ⟨kq HK.out⟩, ⟨hsk HB.out (IsS86.ge a0.out)⟩⟩
       ·rw [if_neg p6] at H
        have e0 := decide_eq_false p6
        clear p6
        (first | rw [e0] | (simp only [i64_w, i32_w]; rw [e0]) | skip)
        have H' := am H
        clear H
        go_wp2
        go_meet
        case rel => exact ⟨_, (d8), et, H', ⟨by have := k9.out; have := e3.out; first | omega | exact Nat.le_refl _⟩, ⟨IsS86.q a0.out⟩, ⟨kq HK.out⟩, ⟨hsk HB.out (IsS86.ge a0.out)⟩⟩
      case rest =>
       clear p0
       try clear o3; try clear r4; try clear i2; try clear i3; try clear b0; try clear b1; try clear g2; try clear g3; try clear h0; try clear h2
       obtain ⟨kq, a4, rfl, HA, p1, a0, HK, HB⟩ := hcut
       cases kq with
       | zero => exact absurd HA.out (by simp [spec_l3Draw.j4])
       | succ g1 =>
        have H := HA.out
        clear HA
        simp only [spec_l3Draw.j4] at H
        obtain ⟨e2, k1⟩ : ∃ y_ : List Int, y_ = (([a4] : List Int)) := ⟨_, rfl⟩
        replace H : (if 0 < (l1.length : Int) then (if 0 ≤ a4 then (if a4 < (((rd_T26 l1 0).f0).length : Int) then (if ((rd_T90 ((rd_T26 l1 0).f0) a4).f1) = 1 then ((spec_l3Draw.f g1 a1 b2 l1 (wrap64 (a2 - 1)) a3).bind fun m0 => (if e2.length + m0.1.length < 17592186044416 then (some ((e2 ++ m0.1), m0.2)) else (none))) else (if ((rd_T90 ((rd_T26 l1 0).f0) a4).f1) = 2 then ((spec_l3Draw.f g1 a1 b2 l1 (wrap64 (a2 - 2)) a3).bind fun i1 => (if e2.length + i1.1.length < 17592186044416 then ((some (e2 ++ i1.1 : List Int)).bind fun h9 => ((spec_l3Draw.f g1 a1 i1.2 l1 (wrap64 ((wrap64 (a2 - 1)) - (i1.1.length : Int))) a3).bind fun d7 => (if h9.length + d7.1.length < 17592186044416 then (some ((h9 ++ d7.1), d7.2)) else (none)))) else (none))) else (some (e2, b2)))) else (none)) else (none)) else (none)) = some (r1, r2) := by first | (rw [k1]; first | with_reducible exact H | with_reducible exact bs H) | with_reducible exact bs H | with_reducible exact H | (rw [k1]; exact H) | exact H
        have o0 := am k1
        clear k1
        obtain ⟨C2, H⟩ := ifs H
        have C3 := decide_eq_true C2
        have C4 : decide (0 < l1.length) = true := decide_eq_true (by omega)
        clear C2
        obtain ⟨C5, H⟩ := ife H
        obtain ⟨C6, H⟩ := ife H
        have s0 := am H
        clear H
        go_upto_if 95 with (first | ((with_reducible refine gate_dst (N := 86) rfl ?_); refine Kd.R_lit (Kd.int .i64) _ 2 ?hg (N := 86) ?hd (xs := ([a4] : List Int)) (inner := [.int .i64 a4]) (ok := fun _ => True) (okp := fun _ => True) ?hr ?hp (fun _ hk => hk) trivial (Below.refl _ _) (Nat.le_refl _) (by simp) ?_; (case hd => rfl); (case hg => rfl); (case hr => first | (go_simp; done) | (go_simp; rfl)); (case hp => exact (Reps.one (show Kd.M (Kd.int .i64) _ _ _ a4 [.int .i64 a4] from rfl) (Reps.none _ _))); intro v7 F9 m3 hb z0 hnew_; clear z0 hnew_; (first | rw [← o0.out] at m3 | (simp only [Int.reduceToNat] at m3; rw [← o0.out] at m3)); have a5 := am (Kd.R_lower m3 (keep_size (w := w) (g := g) (row := none) (kq HK.out))); replace HK := ku HK hb; replace HB := am (below_step (hsk HB.out (IsS86.ge a0.out)) hb); replace a0 := IsS86.bl a0 hb; clear hb m3; have q5 : 0 ≤ (0 : Int) := (by omega); have q8 : 0 < (l1.length : Int) := od; obtain ⟨t3, x5, y1, y7, j8, j6, i6⟩ := at_T26 (Kd.C_foot_now g0.out HK.out) 0 q5 q8; obtain rfl : a6 = t3 := (by injection y7); have D2 : (0 < l1.length) = True := eq_true (by omega); (try simp only [t0_] at j8); have w8 := am i6; have w2 := am j6; clear i6 j6; replace q5 := eq_true q5; replace q8 := eq_true q8; have q6 : 0 ≤ (0 : Int) := (by omega); have q9 : 0 < (l1.length : Int) := od; obtain ⟨t4, x6, y2, y8, j9, j7, i7⟩ := at_T26 (Kd.C_foot_now g0.out HK.out) 0 q6 q9; obtain rfl : a6 = t4 := (by injection y8); have D3 : (0 < l1.length) = True := eq_true (by omega); (try simp only [t0_] at j9); have i0 := am i7; have w3 := am j7; clear i7 j7; replace q6 := eq_true q6; replace q9 := eq_true q9; obtain ⟨rfl, rfl⟩ := sj j8 j9; have q7 : 0 ≤ (a4 : Int) := od; have r0 : a4 < (((rd_T26 l1 0).f0).length : Int) := od; obtain ⟨z8, y9, x1, x2⟩ := at_T90 (by repeat (first | (with_reducible exact i0.out) | (with_reducible refine Kd.C_alloc ?_ _) | (with_reducible refine Kd.C_drewN ?_ _) | (with_reducible refine Kd.C_drew ?_) | exact i0.out)) a4 q7 r0; cases y9; replace q7 := eq_true q7; replace r0 := eq_true r0))
        have H := s0.out
        clear s0
        by_cases t8 : ((rd_T90 ((rd_T26 l1 0).f0) a4).f1) = 1
        ·rw [if_pos t8] at H
         obtain ⟨e7, t9⟩ := bqt t8; clear t8
         (first | rw [e7] | (simp only [i64_w, i32_w]; rw [e7]) | skip)
         obtain ⟨⟨n8, v5⟩, D9, H⟩ := ob H
         try dsimp only at H
         obtain ⟨C7, H⟩ := ifs H
         have s4 := am C7
         clear C7
         obtain ⟨z6, k4⟩ : ∃ y_ : List Int, y_ = (e2 ++ n8) := ⟨_, rfl⟩
         replace H : (some (z6, v5)) = some (r1, r2) := by first | (rw [k4]; first | with_reducible exact H | with_reducible exact bs H) | with_reducible exact bs H | with_reducible exact H | (rw [k4]; exact H) | exact H
         have s7 := am k4
         clear k4
         simp only [Option.some.injEq, Prod.mk.injEq] at H
         obtain ⟨rfl, rfl⟩ := H
         go_wp2_with (first | (refine gl (some 103) Tryz.func57 rfl #[.pointer (some ⟨g, 0, none⟩), .pointer (some a6), .int .i64 (wrap64 (a2 - 1)), .int .i64 a3] ?_; (with_reducible refine (ih g1 (by have := k9.out; have := e3.out; have := p1.out; omega) g a1 b2 _ l1 (wrap64 (a2 - 1)) a3 n8 v5 w0 _ ?side1 ?side2 ?side3 D9.out).mono ?_); (case side1 => exact IsS86.q a0.out); (case side2 => exact hsk HB.out (IsS86.ge a0.out)); (case side3 => exact Kd.C_foot_step g0.out (kq HK.out)); rintro e G0 ⟨E5, rfl, l4, hi, hb, hk⟩; refine ⟨_, rfl, ?_⟩; have e4 := am (Kd.R_lower (Kd.R_new' l4 (Kd.R_lt (rq a5.out))) (keep_size (w := w) (g := g) (row := none) (kq HK.out))); replace a5 := am (Kd.R_mono (Kd.R_told (Kd.R_oldK (IsS86.apart (show IsS86 w0 _ g a1 b2 from IsS86.q a0.out) (rq a5.out) (by decide)) hk) (Kd.R_base l4)) (fun _ h_ => h_.1)); replace HK := kt HK hk; replace HB := am (hb); replace a0 := am (hi); (try clear hb); (try clear hk); (try clear hi); (try clear l4); obtain ⟨x7, y4, rfl⟩ := Kd.R_slice e4.out) | ((with_reducible refine gate_builtin (b := .append) (xs := #[.tmp 97, .tmp 103]) rfl ?_); at_builtin; refine Kd.R_append_rows (Kd.int .i64) w.heap.size rfl (.tmp 97) (.tmp 103) 27 2 (.int .i64 0) 8 rfl Tryz.underlying27 info2 rfl (by decide) (by omega) v7 e2 n8 _ _ _ (fun k_ => some k_ ≠ (.slice x7 n8.length y4 : Value).ownBlock) (fun _ => False) rfl rfl ?aO ?aR (fun _ _ h => h) (fun _ h => h.elim) ?aF (Below.refl _ _) ?aS ?aL ?_; (case aR => repeat (first | exact (Kd.R_reads' e4.out).2.2 | (with_reducible refine Kd.C_alloc ?_ _) | (with_reducible refine Kd.C_drewN ?_ _) | (with_reducible refine Kd.C_drew ?_))); (case aF => exact (fun k_ hk => Kd.fresh' (Kd.R_lt (rq e4.out)) k_ hk)); (case aO => exact (rq (Kd.R_mono a5.out (fun _ hk => hk.2)))); (case aS => exact (keep_size (w := w) (g := g) (row := none) (kq HK.out))); (case aL => have := s4.out; omega); intro E6 G1 ho hb hg hat; rw [← s7.out] at ho; replace e4 := am (Kd.R_after (ok := (fun _ => True)) (rq e4.out) hg hat); replace HB := am (below_weaken (hsk HB.out (IsS86.ge a0.out)) HL.out hb); replace a0 := am (IsS86.grown (IsS86.q a0.out) hg (IsS86.own_ne a0.out a5.out (by decide))); replace HK := am (KeepBut.trans (kq HK.out) (KeepBut.of_grown hg g) (Kd.R_base2 a5.out)); have s2 := am (ho); clear a5; clear ho hb hg hat))
         go_ret
         exact ⟨_, er, rq (Kd.R_mono s2.out (fun _ hk => trivial)), IsS86.q a0.out, hsk HB.out (IsS86.ge a0.out), kq HK.out⟩
        ·rw [if_neg t8] at H
         obtain ⟨e7, t9⟩ := bqf t8
         (first | rw [e7] | (simp only [i64_w, i32_w]; rw [e7]) | skip)
         by_cases u0 : ((rd_T90 ((rd_T26 l1 0).f0) a4).f1) = 2
         ·rw [if_pos u0] at H
          obtain ⟨u1, u2⟩ := bqt u0; clear u0
          obtain ⟨⟨e1, m4⟩, E0, H⟩ := ob H
          try dsimp only at H
          obtain ⟨C8, H⟩ := ifs H
          have s5 := am C8
          clear C8
          obtain ⟨h9, k5⟩ : ∃ y_ : List Int, y_ = (e2 ++ e1) := ⟨_, rfl⟩
          replace H : ((spec_l3Draw.f g1 a1 m4 l1 (wrap64 ((wrap64 (a2 - 1)) - (e1.length : Int))) a3).bind fun d7 => (if h9.length + d7.1.length < 17592186044416 then (some ((h9 ++ d7.1), d7.2)) else (none))) = some (r1, r2) := by first | (rw [k5]; first | with_reducible exact H | with_reducible exact bs H) | with_reducible exact bs H | with_reducible exact H | (rw [k5]; exact H) | exact H
          have s8 := am k5
          clear k5
          obtain ⟨⟨m5, v6⟩, E1, H⟩ := ob H
          try dsimp only at H
          obtain ⟨C9, H⟩ := ifs H
          have s6 := am C9
          clear C9
          obtain ⟨z7, k6⟩ : ∃ y_ : List Int, y_ = (h9 ++ m5) := ⟨_, rfl⟩
          replace H : (some (z7, v6)) = some (r1, r2) := by first | (rw [k6]; first | with_reducible exact H | with_reducible exact bs H) | with_reducible exact bs H | with_reducible exact H | (rw [k6]; exact H) | exact H
          have s9 := am k6
          clear k6
          simp only [Option.some.injEq, Prod.mk.injEq] at H
          obtain ⟨rfl, rfl⟩ := H
          go_wp2_with (first | (refine gl (some 112) Tryz.func57 rfl #[.pointer (some ⟨g, 0, none⟩), .pointer (some a6), .int .i64 (wrap64 (a2 - 2)), .int .i64 a3] ?_; (with_reducible refine (ih g1 (by have := k9.out; have := e3.out; have := p1.out; omega) g a1 b2 _ l1 (wrap64 (a2 - 2)) a3 e1 m4 w0 _ ?side1 ?side2 ?side3 E0.out).mono ?_); (case side1 => exact IsS86.q a0.out); (case side2 => exact hsk HB.out (IsS86.ge a0.out)); (case side3 => exact Kd.C_foot_step g0.out (kq HK.out)); rintro e G2 ⟨E7, rfl, l4, hi, hb, hk⟩; refine ⟨_, rfl, ?_⟩; have a9 := am (Kd.R_lower (Kd.R_new' l4 (Kd.R_lt (rq a5.out))) (keep_size (w := w) (g := g) (row := none) (kq HK.out))); replace a5 := am (Kd.R_mono (Kd.R_told (Kd.R_oldK (IsS86.apart (show IsS86 w0 _ g a1 b2 from IsS86.q a0.out) (rq a5.out) (by decide)) hk) (Kd.R_base l4)) (fun _ h_ => h_.1)); replace HK := kt HK hk; replace HB := am (hb); replace a0 := am (hi); (try clear hb); (try clear hk); (try clear hi); (try clear l4); obtain ⟨o8, p7, rfl⟩ := Kd.R_slice a9.out) | ((with_reducible refine gate_builtin (b := .append) (xs := #[.tmp 113, .tmp 114]) rfl ?_); at_builtin; refine Kd.R_append_rows (Kd.int .i64) w.heap.size rfl (.tmp 113) (.tmp 114) 27 2 (.int .i64 0) 8 rfl Tryz.underlying27 info2 rfl (by decide) (by omega) v7 e2 e1 _ _ _ (fun k_ => some k_ ≠ (.slice o8 e1.length p7 : Value).ownBlock) (fun _ => False) rfl rfl ?aO ?aR (fun _ _ h => h) (fun _ h => h.elim) ?aF (Below.refl _ _) ?aS ?aL ?_; (case aR => repeat (first | exact (Kd.R_reads' a9.out).2.2 | (with_reducible refine Kd.C_alloc ?_ _) | (with_reducible refine Kd.C_drewN ?_ _) | (with_reducible refine Kd.C_drew ?_))); (case aF => exact (fun k_ hk => Kd.fresh' (Kd.R_lt (rq a9.out)) k_ hk)); (case aO => exact (rq (Kd.R_mono a5.out (fun _ hk => hk.2)))); (case aS => exact (keep_size (w := w) (g := g) (row := none) (kq HK.out))); (case aL => have := s5.out; omega); intro z4 G3 ho hb hg hat; rw [← s8.out] at ho; replace a9 := am (Kd.R_after (ok := (fun _ => True)) (rq a9.out) hg hat); replace HB := am (below_weaken (hsk HB.out (IsS86.ge a0.out)) HL.out hb); replace a0 := am (IsS86.grown (IsS86.q a0.out) hg (IsS86.own_ne a0.out a5.out (by decide))); replace HK := am (KeepBut.trans (kq HK.out) (KeepBut.of_grown hg g) (Kd.R_base2 a5.out)); have d6 := am (ho); clear a5; clear ho hb hg hat) | (refine gl (some 125) Tryz.func57 rfl #[.pointer (some ⟨g, 0, none⟩), .pointer (some a6), .int .i64 (wrap64 ((wrap64 (a2 - 1)) - (e1.length : Int))), .int .i64 a3] ?_; (with_reducible refine (ih g1 (by have := k9.out; have := e3.out; have := p1.out; omega) g a1 m4 _ l1 (wrap64 ((wrap64 (a2 - 1)) - (e1.length : Int))) a3 m5 v6 w0 _ ?side1 ?side2 ?side3 E1.out).mono ?_); (case side1 => exact IsS86.q a0.out); (case side2 => exact hsk HB.out (IsS86.ge a0.out)); (case side3 => exact Kd.C_foot_step g0.out (kq HK.out)); rintro e G4 ⟨E9, rfl, l4, hi, hb, hk⟩; refine ⟨_, rfl, ?_⟩; have e5 := am (Kd.R_lower (Kd.R_new' (Kd.R_new' l4 (Kd.R_lt (rq a9.out))) (Kd.R_lt (rq d6.out))) (keep_size (w := w) (g := g) (row := none) (kq HK.out))); replace a9 := am (Kd.R_mono (Kd.R_told (Kd.R_oldK (IsS86.apart (show IsS86 w0 _ g a1 m4 from IsS86.q a0.out) (rq a9.out) (by decide)) hk) (Kd.R_base l4)) (fun _ h_ => h_.1)); replace d6 := am (Kd.R_mono (Kd.R_told (Kd.R_oldK (IsS86.apart (show IsS86 w0 _ g a1 m4 from IsS86.q a0.out) (rq d6.out) (by decide)) hk) (Kd.R_base l4)) (fun _ h_ => h_.1)); replace HK := kt HK hk; replace HB := am (hb); replace a0 := am (hi); (try clear hb); (try clear hk); (try clear hi); (try clear l4); obtain ⟨r9, u3, rfl⟩ := Kd.R_slice e5.out) | ((with_reducible refine gate_builtin (b := .append) (xs := #[.tmp 116, .tmp 125]) rfl ?_); at_builtin; refine Kd.R_append_rows (Kd.int .i64) w.heap.size rfl (.tmp 116) (.tmp 125) 27 2 (.int .i64 0) 8 rfl Tryz.underlying27 info2 rfl (by decide) (by omega) z4 h9 m5 _ _ _ (fun k_ => some k_ ≠ (.slice o8 e1.length p7 : Value).ownBlock ∧ some k_ ≠ (.slice r9 m5.length u3 : Value).ownBlock) (fun _ => False) rfl rfl ?aO ?aR (fun _ _ h => h) (fun _ h => h.elim) ?aF (Below.refl _ _) ?aS ?aL ?_; (case aR => repeat (first | exact (Kd.R_reads' e5.out).2.2 | (with_reducible refine Kd.C_alloc ?_ _) | (with_reducible refine Kd.C_drewN ?_ _) | (with_reducible refine Kd.C_drew ?_))); (case aF => exact (fun k_ hk => ⟨Kd.fresh' (Kd.R_lt (rq a9.out)) k_ hk, Kd.fresh' (Kd.R_lt (rq e5.out)) k_ hk⟩)); (case aO => exact (rq d6.out)); (case aS => exact (keep_size (w := w) (g := g) (row := none) (kq HK.out))); (case aL => have := s6.out; omega); intro F0 G5 ho hb hg hat; rw [← s9.out] at ho; replace a9 := am (Kd.R_after (ok := (fun k_ => some k_ ≠ (.slice r9 m5.length u3 : Value).ownBlock)) (by (with_reducible repeat (first | apply Kd.R_alloc | apply Kd.R_drewN | apply Kd.R_drew)); exact Kd.R_mono a9.out (fun _ hk => by first | exact ⟨hk.2, hk.1.2⟩ | exact ⟨hk.1.2, hk.2⟩ | trivial)) hg hat); replace e5 := am (Kd.R_after (ok := (fun k_ => some k_ ≠ (.slice o8 e1.length p7 : Value).ownBlock)) (by (with_reducible repeat (first | apply Kd.R_alloc | apply Kd.R_drewN | apply Kd.R_drew)); exact Kd.R_mono e5.out (fun _ hk => by first | exact ⟨hk.1.2, hk.2⟩ | exact ⟨hk.2, hk.1.2⟩ | trivial)) hg hat); replace HB := am (below_weaken (hsk HB.out (IsS86.ge a0.out)) HL.out hb); replace a0 := am (IsS86.grown (IsS86.q a0.out) hg (IsS86.own_ne a0.out d6.out (by decide))); replace HK := am (KeepBut.trans (kq HK.out) (KeepBut.of_grown hg g) (Kd.R_base2 d6.out)); have s3 := am (ho); clear d6; clear ho hb hg hat))
          go_ret
          exact ⟨_, er, rq (Kd.R_mono s3.out (fun _ hk => trivial)), IsS86.q a0.out, hsk HB.out (IsS86.ge a0.out), kq HK.out⟩
         ·rw [if_neg u0] at H
          obtain ⟨u1, u2⟩ := bqf u0
          simp only [Option.some.injEq, Prod.mk.injEq] at H
          obtain ⟨rfl, rfl⟩ := H
          go_wp2
          go_ret
          exact ⟨_, er, rq a5.out, IsS86.q a0.out, hsk HB.out (IsS86.ge a0.out), kq HK.out⟩
end Go.Proofs.YtbdpnkpienpnaaaGreatDoor.P
