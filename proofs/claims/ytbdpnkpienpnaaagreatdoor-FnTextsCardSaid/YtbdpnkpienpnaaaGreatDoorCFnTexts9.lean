/- A part of the proof of the law FnTexts. -/
import Derived.Test.YtbdpnkpienpnaaaGreatDoorCFnTexts8
set_option maxHeartbeats 8000000
set_option maxRecDepth 100000
namespace Go.Proofs.YtbdpnkpienpnaaaGreatDoor.P
open Go.RowKit Go.Proofs.YtbdpnkpienpnaaaGreatDoorW.PrintWords Go.Proofs.YtbdpnkpienpnaaaGreatDoorW.PrintLast Go.Proofs.YtbdpnkpienpnaaaGreatDoorW.PrintMore
attribute [local go_sem] max2_int min2_int max_two min_two max_three min_three max_four min_four   -- for this text's walks alone
set_option linter.unusedVariables false
set_option linter.unusedSimpArgs false
mutual
def impl_readTerm.l0 : Nat → ByteArray → List Int → List ByteArray → Int → Int → List (S90) → Option (List Int × Bool)
 | 0, _, _, _, _, _, _ => none
 | k + 1, x1, x6, a2, a3, a1, a0 => if a1 < a3 then (if 0 ≤ a1 then (if a1 < (a2.length : Int) then (if ((rdOf ByteArray.empty a2 a1).size : Int) = 1 then (if 0 < ((rdOf ByteArray.empty a2 a1).size : Int) then (if (bt (rdOf ByteArray.empty a2 a1) 0) ≥ 65 then (impl_readTerm.j1 k x1 x6 (rdOf ByteArray.empty a2 a1) a2 a3 a1 (decide ((bt (rdOf ByteArray.empty a2 a1) 0) < 77)) a0) else (impl_readTerm.j1 k x1 x6 (rdOf ByteArray.empty a2 a1) a2 a3 a1 false a0)) else (none)) else (impl_readTerm.j1 k x1 x6 (rdOf ByteArray.empty a2 a1) a2 a3 a1 false a0)) else (none)) else (none)) else ((impl_TermFault.f k a0 x6).bind fun a4 => (if a4 = 0 then ((impl_textAt.f k a0 x6 0).bind fun a5 => (if a5.toList = x1.toList then (some (x6, true)) else (some (([] : List Int), false)))) else (some (([] : List Int), false))))
def impl_readTerm.j1 : Nat → ByteArray → List Int → ByteArray → List ByteArray → Int → Int → Bool → List (S90) → Option (List Int × Bool)
 | 0, _, _, _, _, _, _, _, _ => none
 | k + 1, x1, x6, x9, a3, a4, a5, a7, a0 => if a7 = true then (if 0 < (x9.size : Int) then (if x6.length < 17592186044416 then ((some (x6 ++ [(-1) - (((bt x9 0) - 65) % 256)] : List Int)).bind fun a1 => (if 0 ≤ (wrap64 ((a1.length : Int) - 1)) then (if (wrap64 ((a1.length : Int) - 1)) < (a1.length : Int) then (if (rd a1 (wrap64 ((a1.length : Int) - 1))) = (-1) then (if x9.toList = ([65] : List UInt8) then (impl_readTerm.l0 k x1 a1 a3 a4 (wrap64 (a5 + 1)) a0) else (some (([] : List Int), false))) else (impl_readTerm.l0 k x1 a1 a3 a4 (wrap64 (a5 + 1)) a0)) else (none)) else (none))) else (none)) else (none)) else ((impl_symbolIndex.f k a0 x9).bind fun a6 => (if x6.length < 17592186044416 then ((some (x6 ++ [a6] : List Int)).bind fun a2 => (if 0 ≤ (wrap64 ((a2.length : Int) - 1)) then (if (wrap64 ((a2.length : Int) - 1)) < (a2.length : Int) then (if (rd a2 (wrap64 ((a2.length : Int) - 1))) = (-1) then (if x9.toList = ([65] : List UInt8) then (impl_readTerm.l0 k x1 a2 a3 a4 (wrap64 (a5 + 1)) a0) else (some (([] : List Int), false))) else (impl_readTerm.l0 k x1 a2 a3 a4 (wrap64 (a5 + 1)) a0)) else (none)) else (none))) else (none)))
end
def impl_readTerm.f (k : Nat) (a2 : List (S90)) (a1 : ByteArray) : Option (List Int × Bool) := (strings_FieldsFunc_impl_readTerm_1.f a1).bind fun a0 => (impl_readTerm.l0 k a1 (([] : List Int)) a0 (a0.length : Int) 0 a2)
theorem impl_readTerm.calls (k : Nat) (b3 : Option Addr) (b4 : Nat) (a4 : List (S90)) (a1 : ByteArray) (r1 : List Int) (r2 : Bool) (w : World) (g6 : Kd.C k90 w b3 a4.length a4) (g5 : a4.length ≤ b4) (h : impl_readTerm.f k a4 a1 = some (r1, r2)) :
  Calls Tryz.prog 46 #[.agg #[.slice b3 a4.length b4], .string a1] w fun e w' => ∃ q2 : Value, e = .returned (.tuple #[q2, .bool r2]) ∧ Kd.R (Kd.int .i64) 2 w' w.heap.size (fun _ => True) q2 r1 ∧ Below w.heap.size w w' := by
 have r6 := Tryz.underlying26
 have b8 := am g6
 have b6 := am g5
 clear g6 g5
 have HB := am (Below.refl w.heap.size w)
 have H : ((strings_FieldsFunc_impl_readTerm_1.f a1).bind fun a2 => (impl_readTerm.l0 k a1 (([] : List Int)) a2 (a2.length : Int) 0 a4)) = some (r1, r2) := h
 clear h
 obtain ⟨l6, d8⟩ : ∃ y_ : List Int, y_ = (([] : List Int)) := ⟨_, rfl⟩
 replace H : ((strings_FieldsFunc_impl_readTerm_1.f a1).bind fun a2 => (impl_readTerm.l0 k a1 l6 a2 (a2.length : Int) 0 a4)) = some (r1, r2) := by first | (rw [d8]; first | with_reducible exact H | with_reducible exact bs H) | with_reducible exact bs H | with_reducible exact H | (rw [d8]; exact H) | exact H
 have g1 := am d8
 clear d8
 obtain ⟨a2, A3, H⟩ := ob H
 try dsimp only at H
 have H' := am H
 clear H
 go_enter Tryz.func46, Tryz.ntmps46
 go_wp2_with (first | (refine bx 2 rfl #[.slice b3 a4.length b4] 26 ?_; intro g4 hg w4 hbox hb; have a3 := am (hbox); have h3 := am (bz hg (hq HB.out)); replace HB := sb HB hb; have o6 := h3; clear hb hbox hg) | (refine rl 10 rfl 2 [] ?_; intro s2 w5 k8 hb r5 hnew_; clear r5 hnew_; (first | rw [← g1.out] at k8 | (simp only [Int.reduceToNat] at k8; rw [← g1.out] at k8)); have e2 := am (Kd.R_lower k8 (below_size (hs HB.out))); replace a3 := bb a3 hb; replace HB := sb HB hb; clear hb k8) | (refine gl (some 12) Tryz.func80 rfl #[.string a1, .func (.func 81) #[] #[]] ?_; refine (strings_FieldsFunc_impl_readTerm_1.calls a1  a2 _ A3.out).mono ?_; rintro e w7 ⟨s3, rfl, q0, hb⟩; refine ⟨_, rfl, ?_⟩; replace e2 := rb e2 hb; have e8 := am (Kd.R_lower q0 (below_size (hs HB.out))); replace a3 := bb a3 hb; replace HB := sb HB hb; (try clear hb); (try clear hk); (try clear q0); obtain ⟨q8, p9, rfl⟩ := Kd.R_slice e8.out))
 go_loopg [6, 15] k (fun kq v6 s0 w' => ∃ (a7 : List Int) (a0 : Int), s0 = .int .i64 a0 ∧ Aside0 (impl_readTerm.l0 kq a1 a7 a2 (a2.length : Int) a0 a4 = some (r1, r2)) ∧ Aside0 (kq ≤ k) ∧ Aside0 (Kd.R (Kd.int .i64) 2 w' w.heap.size (fun _ => True) v6 a7) ∧ Aside0 (Kd.R Kd.string 9 w' w.heap.size (fun _ => True) (.slice q8 a2.length p9) a2) ∧ Aside0 (w'.heap[g4]? = some (.cells #[(.slice b3 a4.length b4)] 26 (0, 0))) ∧ Aside0 (Below w.heap.size w w'))
 case atStart => exact ⟨(l6), (0), et, H', ⟨Nat.le_refl _⟩, ⟨rq e2.out⟩, ⟨rq e8.out⟩, ⟨bq a3.out⟩, ⟨hs HB.out⟩⟩
 case round =>
  clear H'
  obtain ⟨a7, a0, rfl, HA, e1, HO_6, HO_13, a3, HB⟩ := hrel
  cases gk with
  | zero => exact absurd HA.out (by simp [impl_readTerm.l0])
  | succ k1 =>
   have H := HA.out
   clear HA
   simp only [impl_readTerm.l0] at H
   by_cases c9 : a0 < (a2.length : Int)
   ·rw [if_pos c9] at H
    have k7 := decide_eq_true c9
    clear c9
    obtain ⟨i0, H⟩ := ife H
    obtain ⟨i1, H⟩ := ife H
    have g7 := am H
    clear H
    have e6 : 0 ≤ (a0 : Int) := od
    have e7 : a0 < (a2.length : Int) := od
    obtain ⟨h7, n3, e3⟩ := Kd.at_string (Kd.R_reads' HO_13.out).2.2 a0 e6 e7
    cases n3
    obtain ⟨e6, e7⟩ := ee e6 e7
    go_upto_region 6 with (fail)
    go_cut [31] (fun s1 wc => ∃ (kq : Nat) (b5 : Bool), s1 = .bool b5 ∧ Aside0 (impl_readTerm.j1 kq a1 a7 (rdOf ByteArray.empty a2 a0) a2 (a2.length : Int) a0 b5 a4 = some (r1, r2)) ∧ Aside0 (kq ≤ k1) ∧ Aside0 (Kd.R (Kd.int .i64) 2 wc w.heap.size (fun _ => True) u6 a7) ∧ Aside0 (Kd.R Kd.string 9 wc w.heap.size (fun _ => True) (.slice (some h7) a2.length p9) a2) ∧ Aside0 (wc.heap[g4]? = some (.cells #[(.slice b3 a4.length b4)] 26 (0, 0))) ∧ Aside0 (Below w.heap.size w wc))
    case first =>
     have H := g7.out
     clear g7
     by_cases i2 : ((rdOf ByteArray.empty a2 a0).size : Int) = 1
     ·rw [if_pos i2] at H
      obtain ⟨b9, i3⟩ := bqt i2; clear i2
      (first | rw [b9] | (simp only [i64_w, i32_w]; rw [b9]) | skip)
      obtain ⟨o7, H⟩ := ifs H
      have o8 := decide_eq_true o7
      have o9 : decide (0 < (rdOf ByteArray.empty a2 a0).size) = true := decide_eq_true (by omega)
      clear o7
      by_cases h2 : (bt (rdOf ByteArray.empty a2 a0) 0) ≥ 65
      ·rw [if_pos h2] at H
       have i4 := decide_eq_true h2
       clear h2
       have H' := am H
       clear H
       have n9 : 0 ≤ (0 : Int) := (by omega)
       have k9 : 0 < (rdOf ByteArray.empty a2 a0).size := (by have : (0 : Int) < ((rdOf ByteArray.empty a2 a0).size : Int) := od; omega)
       have n7 : ∀ h : 0 < (rdOf ByteArray.empty a2 a0).size, (((rdOf ByteArray.empty a2 a0)[0]'h).toNat : Int) = bt (rdOf ByteArray.empty a2 a0) 0 := bt_at (rdOf ByteArray.empty a2 a0) 0
       clear n9
       have o1 : (0 < ((rdOf ByteArray.empty a2 a0).size : Int)) = True := eq_true od
       replace k9 := eq_true k9
       have r8 : 0 ≤ (0 : Int) := (by omega)
       have q1 : 0 < (rdOf ByteArray.empty a2 a0).size := (by have : (0 : Int) < ((rdOf ByteArray.empty a2 a0).size : Int) := od; omega)
       have r7 : ∀ h : 0 < (rdOf ByteArray.empty a2 a0).size, (((rdOf ByteArray.empty a2 a0)[0]'h).toNat : Int) = bt (rdOf ByteArray.empty a2 a0) 0 := bt_at (rdOf ByteArray.empty a2 a0) 0
       clear r8
       have r9 : (0 < ((rdOf ByteArray.empty a2 a0).size : Int)) = True := eq_true od
       replace q1 := eq_true q1
       go_wp2
       go_meet
       case rel => exact ⟨_, (decide ((bt (rdOf ByteArray.empty a2 a0) 0) < 77)), et, H', ⟨by have := e1.out; first | omega | exact Nat.le_refl _⟩, ⟨rq HO_6.out⟩, ⟨rq HO_13.out⟩, ⟨bq a3.out⟩, ⟨hs HB.out⟩⟩
      ·rw [if_neg h2] at H
       have i4 := decide_eq_false h2
       clear h2
       have H' := am H
       clear H
       have n9 : 0 ≤ (0 : Int) := (by omega)
       have k9 : 0 < (rdOf ByteArray.empty a2 a0).size := (by have : (0 : Int) < ((rdOf ByteArray.empty a2 a0).size : Int) := od; omega)
       have n7 : ∀ h : 0 < (rdOf ByteArray.empty a2 a0).size, (((rdOf ByteArray.empty a2 a0)[0]'h).toNat : Int) = bt (rdOf ByteArray.empty a2 a0) 0 := bt_at (rdOf ByteArray.empty a2 a0) 0
       clear n9
       have o1 : (0 < ((rdOf ByteArray.empty a2 a0).size : Int)) = True := eq_true od
       replace k9 := eq_true k9
       go_wp2
       go_meet
       case rel => exact ⟨_, (false), et, H', ⟨by have := e1.out; first | omega | exact Nat.le_refl _⟩, ⟨rq HO_6.out⟩, ⟨rq HO_13.out⟩, ⟨bq a3.out⟩, ⟨hs HB.out⟩⟩
     ·rw [if_neg i2] at H
      obtain ⟨b9, i3⟩ := bqf i2
      (first | rw [b9] | (simp only [i64_w, i32_w]; rw [b9]) | skip)
      have H' := am H
      clear H
      go_wp2
      go_meet
      case rel => exact ⟨_, (false), et, H', ⟨by have := e1.out; first | omega | exact Nat.le_refl _⟩, ⟨rq HO_6.out⟩, ⟨rq HO_13.out⟩, ⟨bq a3.out⟩, ⟨hs HB.out⟩⟩
    case rest =>
     clear g7
     try clear c9; try clear k7; try clear i0; try clear i1; try clear e3; try clear e6; try clear e7
     obtain ⟨kq, b5, rfl, HA, b7, HO_6, HO_13, a3, HB⟩ := hcut
     cases kq with
     | zero => exact absurd HA.out (by simp [impl_readTerm.j1])
     | succ a8 =>
      have H := HA.out
      clear HA
      simp only [impl_readTerm.j1] at H
      by_cases l7 : b5 = true
      ·subst l7
       rw [if_pos rfl] at H
       obtain ⟨p0, H⟩ := ifs H
       have p1 := decide_eq_true p0
       have p2 : decide (0 < (rdOf ByteArray.empty a2 a0).size) = true := decide_eq_true (by omega)
       clear p0
       obtain ⟨p3, H⟩ := ifs H
       have e9 := am p3
       clear p3
       obtain ⟨a5, d9⟩ : ∃ y_ : List Int, y_ = (a7 ++ [(-1) - (((bt (rdOf ByteArray.empty a2 a0) 0) - 65) % 256)]) := ⟨_, rfl⟩
       replace H : (if 0 ≤ (wrap64 ((a5.length : Int) - 1)) then (if (wrap64 ((a5.length : Int) - 1)) < (a5.length : Int) then (if (rd a5 (wrap64 ((a5.length : Int) - 1))) = (-1) then (if (rdOf ByteArray.empty a2 a0).toList = ([65] : List UInt8) then (impl_readTerm.l0 a8 a1 a5 a2 (a2.length : Int) (wrap64 (a0 + 1)) a4) else (some (([] : List Int), false))) else (impl_readTerm.l0 a8 a1 a5 a2 (a2.length : Int) (wrap64 (a0 + 1)) a4)) else (none)) else (none)) = some (r1, r2) := by first | (rw [d9]; first | with_reducible exact H | with_reducible exact bs H) | with_reducible exact bs H | with_reducible exact H | (rw [d9]; exact H) | exact H
       have g2 := am d9
       clear d9
       obtain ⟨b1, d7⟩ : ∃ j_ : Int, (wrap64 ((a5.length : Int) - 1)) = j_ := ⟨_, rfl⟩
       replace H : (if 0 ≤ (b1) then (if (b1) < (a5.length : Int) then (if (rd a5 (b1)) = (-1) then (if (rdOf ByteArray.empty a2 a0).toList = ([65] : List UInt8) then (impl_readTerm.l0 a8 a1 a5 a2 (a2.length : Int) (wrap64 (a0 + 1)) a4) else (some (([] : List Int), false))) else (impl_readTerm.l0 a8 a1 a5 a2 (a2.length : Int) (wrap64 (a0 + 1)) a4)) else (none)) else (none)) = some (r1, r2) := by first | (rw [d7] at H; exact H) | (simp only [d7] at H ⊢; exact H)
       have hji22w : (IntKind.i64.wrap ((a5.length : Int) - 1)) = b1 := (i64_w _).trans d7
       obtain ⟨p4, H⟩ := ife H
       obtain ⟨p5, H⟩ := ife H
       by_cases i5 : (rd a5 (b1)) = (-1)
       ·rw [if_pos i5] at H
        obtain ⟨i6, i7⟩ := bqt i5; clear i5
        have h4 := am H
        clear H
        have o0 : 0 ≤ (0 : Int) := (by omega)
        have l4 : 0 < (rdOf ByteArray.empty a2 a0).size := (by have : (0 : Int) < ((rdOf ByteArray.empty a2 a0).size : Int) := od; omega)
        have n8 : ∀ h : 0 < (rdOf ByteArray.empty a2 a0).size, (((rdOf ByteArray.empty a2 a0)[0]'h).toNat : Int) = bt (rdOf ByteArray.empty a2 a0) 0 := bt_at (rdOf ByteArray.empty a2 a0) 0
        clear o0
        have o2 : (0 < ((rdOf ByteArray.empty a2 a0).size : Int)) = True := eq_true od
        replace l4 := eq_true l4
        go_upto_if 56 with (first | ((with_reducible refine gate_builtin (b := .append) (xs := #[.tmp 32, .tmp 38]) rfl ?_); at_builtin; refine Kd.R_append (Kd.int .i64) (w0 := w) w.heap.size rfl (.tmp 32) (.tmp 38) 27 2 (.int .i64 0) 8 rfl Tryz.underlying27 info2 rfl (by decide) (by omega) u6 a7 ((-1) - (((bt (rdOf ByteArray.empty a2 a0) 0) - 65) % 256)) [.int .i64 ((-1) - (((bt (rdOf ByteArray.empty a2 a0) 0) - 65) % 256))] (fun _ => True) (fun _ => False) rfl rfl ?aP (fun _ hk => hk.elim) ?aF ?aO ?aB ?aS ?aL ?_; (case aP => exact rfl); (case aB => exact (hs HB.out)); (case aF => exact (fun _ _ => trivial)); (case aO => exact (rq HO_6.out)); (case aS => exact (below_size (hs HB.out))); (case aL => have := e9.out; omega); intro o3 s4 ho hb hg hat; rw [← g2.out] at ho; replace HO_13 := am (Kd.R_over' (rq HO_13.out) (Kd.R_typed (rq HO_6.out)) (by decide) hg); replace a3 := am (blk_grown (bq a3.out) hg (Kd.R_ne HO_6.out a3.out (by decide))); replace HB := am (hb); have a9 := am (ho); clear HO_6; clear ho hb hg hat; obtain ⟨q4, q9, rfl⟩ := Kd.R_slice a9.out; have d2 : 0 ≤ ((b1) : Int) := od; have d4 : (b1) < (a5.length : Int) := od; obtain ⟨h8, g8, e4⟩ := Kd.at_int (Kd.R_reads' a9.out).2.2 (b1) d2 d4; cases g8; replace d2 := eq_true d2; replace d4 := eq_true d4))
        have H := h4.out
        clear h4
        by_cases i9 : (rdOf ByteArray.empty a2 a0).toList = ([65] : List UInt8)
        ·rw [if_pos i9] at H
         obtain ⟨c0, j5⟩ := bqt i9; clear i9
         (first | rw [c0] | (simp only [i64_w, i32_w]; rw [c0]) | skip)
         have H' := am H
         clear H
         go_wp2
         go_roundg a8
         case measure => have := e1.out; have := b7.out; omega
         case rel => exact ⟨(a5), (wrap64 (a0 + 1)), et, H', ⟨by have := e1.out; have := b7.out; omega⟩, ⟨rq a9.out⟩, ⟨rq HO_13.out⟩, ⟨bq a3.out⟩, ⟨hs HB.out⟩⟩
        ·rw [if_neg i9] at H
         obtain ⟨c0, j5⟩ := bqf i9
         (first | rw [c0] | (simp only [i64_w, i32_w]; rw [c0]) | skip)
         simp only [Option.some.injEq, Prod.mk.injEq] at H
         obtain ⟨rfl, rfl⟩ := H
         go_wp2
         go_ret2
         exact ⟨_, by first | rfl | (simp [errW_none, errW_some] <;> rfl) | (simp only [← d7]; first | rfl | (simp [errW_none, errW_some] <;> rfl)) | (simp [*, errW_none, errW_some] <;> rfl), by first | exact Kd.R_nil _ _ _ _ _ | exact Kd.N_nil _ _ _ _ _ | exact Kd.V_nil _ _ _ _ _ | exact Kd.Q_nil _ _ _ _ _ | exact Kd.S_nil _ _ _ _ _, hs HB.out⟩
       ·rw [if_neg i5] at H
        obtain ⟨i6, i7⟩ := bqf i5
        have H' := am H
        clear H
        have o0 : 0 ≤ (0 : Int) := (by omega)
        have l4 : 0 < (rdOf ByteArray.empty a2 a0).size := (by have : (0 : Int) < ((rdOf ByteArray.empty a2 a0).size : Int) := od; omega)
        have n8 : ∀ h : 0 < (rdOf ByteArray.empty a2 a0).size, (((rdOf ByteArray.empty a2 a0)[0]'h).toNat : Int) = bt (rdOf ByteArray.empty a2 a0) 0 := bt_at (rdOf ByteArray.empty a2 a0) 0
        clear o0
        have o2 : (0 < ((rdOf ByteArray.empty a2 a0).size : Int)) = True := eq_true od
        replace l4 := eq_true l4
        go_wp2_with (first | ((with_reducible refine gate_builtin (b := .append) (xs := #[.tmp 32, .tmp 38]) rfl ?_); at_builtin; refine Kd.R_append (Kd.int .i64) (w0 := w) w.heap.size rfl (.tmp 32) (.tmp 38) 27 2 (.int .i64 0) 8 rfl Tryz.underlying27 info2 rfl (by decide) (by omega) u6 a7 ((-1) - (((bt (rdOf ByteArray.empty a2 a0) 0) - 65) % 256)) [.int .i64 ((-1) - (((bt (rdOf ByteArray.empty a2 a0) 0) - 65) % 256))] (fun _ => True) (fun _ => False) rfl rfl ?aP (fun _ hk => hk.elim) ?aF ?aO ?aB ?aS ?aL ?_; (case aP => exact rfl); (case aB => exact (hs HB.out)); (case aF => exact (fun _ _ => trivial)); (case aO => exact (rq HO_6.out)); (case aS => exact (below_size (hs HB.out))); (case aL => have := e9.out; omega); intro o3 s5 ho hb hg hat; rw [← g2.out] at ho; replace HO_13 := am (Kd.R_over' (rq HO_13.out) (Kd.R_typed (rq HO_6.out)) (by decide) hg); replace a3 := am (blk_grown (bq a3.out) hg (Kd.R_ne HO_6.out a3.out (by decide))); replace HB := am (hb); have a9 := am (ho); clear HO_6; clear ho hb hg hat; obtain ⟨q5, r0, rfl⟩ := Kd.R_slice a9.out; have d2 : 0 ≤ ((b1) : Int) := od; have d4 : (b1) < (a5.length : Int) := od; obtain ⟨h8, g8, e4⟩ := Kd.at_int (Kd.R_reads' a9.out).2.2 (b1) d2 d4; cases g8; replace d2 := eq_true d2; replace d4 := eq_true d4))
        go_roundg a8
        case measure => have := e1.out; have := b7.out; omega
        case rel => exact ⟨(a5), (wrap64 (a0 + 1)), et, H', ⟨by have := e1.out; have := b7.out; omega⟩, ⟨rq a9.out⟩, ⟨rq HO_13.out⟩, ⟨bq a3.out⟩, ⟨hs HB.out⟩⟩
      ·replace l7 := Bool.eq_false_iff.mpr l7
       subst l7
       rw [if_neg (show ¬ (false = true) by decide)] at H
       obtain ⟨d6, m8, H⟩ := ob H
       try dsimp only at H
       obtain ⟨p6, H⟩ := ifs H
       have g0 := am p6
       clear p6
       obtain ⟨a6, e0⟩ : ∃ y_ : List Int, y_ = (a7 ++ [d6]) := ⟨_, rfl⟩
       replace H : (if 0 ≤ (wrap64 ((a6.length : Int) - 1)) then (if (wrap64 ((a6.length : Int) - 1)) < (a6.length : Int) then (if (rd a6 (wrap64 ((a6.length : Int) - 1))) = (-1) then (if (rdOf ByteArray.empty a2 a0).toList = ([65] : List UInt8) then (impl_readTerm.l0 a8 a1 a6 a2 (a2.length : Int) (wrap64 (a0 + 1)) a4) else (some (([] : List Int), false))) else (impl_readTerm.l0 a8 a1 a6 a2 (a2.length : Int) (wrap64 (a0 + 1)) a4)) else (none)) else (none)) = some (r1, r2) := by first | (rw [e0]; first | with_reducible exact H | with_reducible exact bs H) | with_reducible exact bs H | with_reducible exact H | (rw [e0]; exact H) | exact H
       have g3 := am e0
       clear e0
       obtain ⟨b2, d1⟩ : ∃ j_ : Int, (wrap64 ((a6.length : Int) - 1)) = j_ := ⟨_, rfl⟩
       replace H : (if 0 ≤ (b2) then (if (b2) < (a6.length : Int) then (if (rd a6 (b2)) = (-1) then (if (rdOf ByteArray.empty a2 a0).toList = ([65] : List UInt8) then (impl_readTerm.l0 a8 a1 a6 a2 (a2.length : Int) (wrap64 (a0 + 1)) a4) else (some (([] : List Int), false))) else (impl_readTerm.l0 a8 a1 a6 a2 (a2.length : Int) (wrap64 (a0 + 1)) a4)) else (none)) else (none)) = some (r1, r2) := by first | (rw [d1] at H; exact H) | (simp only [d1] at H ⊢; exact H)
       (try rw [d1] at m8)
       have hji34w : (IntKind.i64.wrap ((a6.length : Int) - 1)) = b2 := (i64_w _).trans d1
       obtain ⟨p7, H⟩ := ife H
       obtain ⟨p8, H⟩ := ife H
       by_cases j6 : (rd a6 (b2)) = (-1)
       ·rw [if_pos j6] at H
        obtain ⟨j7, j8⟩ := bqt j6; clear j6
        have h5 := am H
        clear H
        have l8 := c0_ a3
        have m3 := blk_frozen a3.out 0
        go_upto_if 56 with (first | (refine gl (some 43) Tryz.func77 rfl #[.agg #[.slice b3 a4.length b4], .string (rdOf ByteArray.empty a2 a0)] ?_; refine (impl_symbolIndex.calls a8 _ _ a4 (rdOf ByteArray.empty a2 a0) d6 _ (cq (Kd.C_below b8.out HB.out)) b6.out m8.out).mono ?_; rintro e s6 ⟨rfl, hb⟩; refine ⟨_, rfl, ?_⟩; replace HO_6 := rb HO_6 hb; replace HO_13 := rb HO_13 hb; replace a3 := bb a3 hb; replace HB := sb HB hb; clear hb; (try clear hk)) | ((with_reducible refine gate_builtin (b := .append) (xs := #[.tmp 40, .tmp 44]) rfl ?_); at_builtin; refine Kd.R_append (Kd.int .i64) (w0 := w) w.heap.size rfl (.tmp 40) (.tmp 44) 27 2 (.int .i64 0) 8 rfl Tryz.underlying27 info2 rfl (by decide) (by omega) u6 a7 d6 [.int .i64 d6] (fun _ => True) (fun _ => False) rfl rfl ?aP (fun _ hk => hk.elim) ?aF ?aO ?aB ?aS ?aL ?_; (case aP => exact rfl); (case aB => exact (hs HB.out)); (case aF => exact (fun _ _ => trivial)); (case aO => exact (rq HO_6.out)); (case aS => exact (below_size (hs HB.out))); (case aL => have := g0.out; omega); intro o4 s7 ho hb hg hat; rw [← g3.out] at ho; replace HO_13 := am (Kd.R_over' (rq HO_13.out) (Kd.R_typed (rq HO_6.out)) (by decide) hg); replace a3 := am (blk_grown (bq a3.out) hg (Kd.R_ne HO_6.out a3.out (by decide))); replace HB := am (hb); have b0 := am (ho); clear HO_6; clear ho hb hg hat; obtain ⟨q6, r3, rfl⟩ := Kd.R_slice b0.out; have d3 : 0 ≤ ((b2) : Int) := od; have d5 : (b2) < (a6.length : Int) := od; obtain ⟨h9, g9, e5⟩ := Kd.at_int (Kd.R_reads' b0.out).2.2 (b2) d3 d5; cases g9; replace d3 := eq_true d3; replace d5 := eq_true d5))
        have H := h5.out
        clear h5
        by_cases j9 : (rdOf ByteArray.empty a2 a0).toList = ([65] : List UInt8)
        ·rw [if_pos j9] at H
         obtain ⟨c1, k0⟩ := bqt j9; clear j9
         (first | rw [c1] | (simp only [i64_w, i32_w]; rw [c1]) | skip)
         have H' := am H
         clear H
         go_wp2
         go_roundg a8
         case measure => have := e1.out; have := b7.out; omega
         case rel => exact ⟨(a6), (wrap64 (a0 + 1)), et, H', ⟨by have := e1.out; have := b7.out; omega⟩, ⟨rq b0.out⟩, ⟨rq HO_13.out⟩, ⟨bq a3.out⟩, ⟨hs HB.out⟩⟩
        ·rw [if_neg j9] at H
         obtain ⟨c1, k0⟩ := bqf j9
         (first | rw [c1] | (simp only [i64_w, i32_w]; rw [c1]) | skip)
         simp only [Option.some.injEq, Prod.mk.injEq] at H
         obtain ⟨rfl, rfl⟩ := H
         go_wp2
         go_ret2
         exact ⟨_, by first | rfl | (simp [errW_none, errW_some] <;> rfl) | (simp only [← d1]; first | rfl | (simp [errW_none, errW_some] <;> rfl)) | (simp [*, errW_none, errW_some] <;> rfl), by first | exact Kd.R_nil _ _ _ _ _ | exact Kd.N_nil _ _ _ _ _ | exact Kd.V_nil _ _ _ _ _ | exact Kd.Q_nil _ _ _ _ _ | exact Kd.S_nil _ _ _ _ _, hs HB.out⟩
       ·rw [if_neg j6] at H
        obtain ⟨j7, j8⟩ := bqf j6
        have H' := am H
        clear H
        have l9 := c0_ a3
        have m4 := blk_frozen a3.out 0
        go_wp2_with (first | (refine gl (some 43) Tryz.func77 rfl #[.agg #[.slice b3 a4.length b4], .string (rdOf ByteArray.empty a2 a0)] ?_; refine (impl_symbolIndex.calls a8 _ _ a4 (rdOf ByteArray.empty a2 a0) d6 _ (cq (Kd.C_below b8.out HB.out)) b6.out m8.out).mono ?_; rintro e s8 ⟨rfl, hb⟩; refine ⟨_, rfl, ?_⟩; replace HO_6 := rb HO_6 hb; replace HO_13 := rb HO_13 hb; replace a3 := bb a3 hb; replace HB := sb HB hb; clear hb; (try clear hk)) | ((with_reducible refine gate_builtin (b := .append) (xs := #[.tmp 40, .tmp 44]) rfl ?_); at_builtin; refine Kd.R_append (Kd.int .i64) (w0 := w) w.heap.size rfl (.tmp 40) (.tmp 44) 27 2 (.int .i64 0) 8 rfl Tryz.underlying27 info2 rfl (by decide) (by omega) u6 a7 d6 [.int .i64 d6] (fun _ => True) (fun _ => False) rfl rfl ?aP (fun _ hk => hk.elim) ?aF ?aO ?aB ?aS ?aL ?_; (case aP => exact rfl); (case aB => exact (hs HB.out)); (case aF => exact (fun _ _ => trivial)); (case aO => exact (rq HO_6.out)); (case aS => exact (below_size (hs HB.out))); (case aL => have := g0.out; omega); intro o4 s9 ho hb hg hat; rw [← g3.out] at ho; replace HO_13 := am (Kd.R_over' (rq HO_13.out) (Kd.R_typed (rq HO_6.out)) (by decide) hg); replace a3 := am (blk_grown (bq a3.out) hg (Kd.R_ne HO_6.out a3.out (by decide))); replace HB := am (hb); have b0 := am (ho); clear HO_6; clear ho hb hg hat; obtain ⟨q7, r4, rfl⟩ := Kd.R_slice b0.out; have d3 : 0 ≤ ((b2) : Int) := od; have d5 : (b2) < (a6.length : Int) := od; obtain ⟨h9, g9, e5⟩ := Kd.at_int (Kd.R_reads' b0.out).2.2 (b2) d3 d5; cases g9; replace d3 := eq_true d3; replace d5 := eq_true d5))
        go_roundg a8
        case measure => have := e1.out; have := b7.out; omega
        case rel => exact ⟨(a6), (wrap64 (a0 + 1)), et, H', ⟨by have := e1.out; have := b7.out; omega⟩, ⟨rq b0.out⟩, ⟨rq HO_13.out⟩, ⟨bq a3.out⟩, ⟨hs HB.out⟩⟩
   ·rw [if_neg c9] at H
    have k7 := decide_eq_false c9
    clear c9
    obtain ⟨h0, o5, H⟩ := ob H
    try dsimp only at H
    by_cases k2 : h0 = 0
    ·rw [if_pos k2] at H
     obtain ⟨k3, k4⟩ := bqt k2; clear k2
     obtain ⟨l5, q3, H⟩ := ob H
     try dsimp only at H
     have h6 := am H
     clear H
     have m0 := c0_ a3
     have m5 := blk_frozen a3.out 0
     obtain ⟨m9, n1, n4⟩ := Kd.R_slice HO_6.out
     subst n4
     go_upto_if 68 with (first | (refine gl (some 60) Tryz.func28 rfl #[.agg #[.slice b3 a4.length b4], .slice m9 a7.length n1] ?_; refine (impl_TermFault.calls k1 _ _ a4 _ _ a7 h0 _ (cq (Kd.C_below b8.out HB.out)) b6.out (cq (Kd.R_reads' HO_6.out).2.2) ((Kd.R_reads' HO_6.out).2.1) o5.out).mono ?_; rintro e t0 ⟨rfl, hb⟩; refine ⟨_, rfl, ?_⟩; replace HO_6 := rb HO_6 hb; replace HO_13 := rb HO_13 hb; replace a3 := bb a3 hb; replace HB := sb HB hb; (try clear hb); (try clear hk); have m1 := c0_ a3; have m6 := blk_frozen a3.out 0) | (go_at_call 52; refine (impl_textAt.calls k1 _ _ a4 _ _ a7 0 l5 _ (cq (Kd.C_below b8.out HB.out)) b6.out (cq (Kd.R_reads' HO_6.out).2.2) ((Kd.R_reads' HO_6.out).2.1) q3.out).mono ?_; rintro e t1 ⟨rfl, hb⟩; replace HO_6 := rb HO_6 hb; replace HO_13 := rb HO_13 hb; replace a3 := bb a3 hb; replace HB := sb HB hb; (try clear hb); (try clear hk)))
     have H := h6.out
     clear h6
     by_cases k5 : l5.toList = a1.toList
     ·rw [if_pos k5] at H
      obtain ⟨d0, k6⟩ := bqt k5; clear k5
      (first | rw [d0] | (simp only [i64_w, i32_w]; rw [d0]) | skip)
      simp only [Option.some.injEq, Prod.mk.injEq] at H
      obtain ⟨rfl, rfl⟩ := H
      go_wp2
      go_ret2
      exact ⟨_, er, rq HO_6.out, hs HB.out⟩
     ·rw [if_neg k5] at H
      obtain ⟨d0, k6⟩ := bqf k5
      (first | rw [d0] | (simp only [i64_w, i32_w]; rw [d0]) | skip)
      simp only [Option.some.injEq, Prod.mk.injEq] at H
      obtain ⟨rfl, rfl⟩ := H
      go_wp2
      go_ret2
      exact ⟨_, er, by first | exact Kd.R_nil _ _ _ _ _ | exact Kd.N_nil _ _ _ _ _ | exact Kd.V_nil _ _ _ _ _ | exact Kd.Q_nil _ _ _ _ _ | exact Kd.S_nil _ _ _ _ _, hs HB.out⟩
    ·rw [if_neg k2] at H
     obtain ⟨k3, k4⟩ := bqf k2
     simp only [Option.some.injEq, Prod.mk.injEq] at H
     obtain ⟨rfl, rfl⟩ := H
     have m2 := c0_ a3
     have m7 := blk_frozen a3.out 0
     obtain ⟨n0, n2, n6⟩ := Kd.R_slice HO_6.out
     subst n6
     go_wp2_with (first | (refine gl (some 60) Tryz.func28 rfl #[.agg #[.slice b3 a4.length b4], .slice n0 a7.length n2] ?_; refine (impl_TermFault.calls k1 _ _ a4 _ _ a7 h0 _ (cq (Kd.C_below b8.out HB.out)) b6.out (cq (Kd.R_reads' HO_6.out).2.2) ((Kd.R_reads' HO_6.out).2.1) o5.out).mono ?_; rintro e t2 ⟨rfl, hb⟩; refine ⟨_, rfl, ?_⟩; replace HO_6 := rb HO_6 hb; replace HO_13 := rb HO_13 hb; replace a3 := bb a3 hb; replace HB := sb HB hb; clear hb; (try clear hk)))
     go_ret2
     exact ⟨_, er, by first | exact Kd.R_nil _ _ _ _ _ | exact Kd.N_nil _ _ _ _ _ | exact Kd.V_nil _ _ _ _ _ | exact Kd.Q_nil _ _ _ _ _ | exact Kd.S_nil _ _ _ _ _, hs HB.out⟩
def impl_ReadTerm.f (k : Nat) (a2 : List (S90)) (a1 : ByteArray) : Option (Int × List Int) := (impl_SignatureFault.f k a2).bind fun a3 => (if a3 = 0 then ((impl_readTerm.f k a2 a1).bind fun a0 => (if a0.2 = true then (some (0, a0.1)) else (some (5, ([] : List Int))))) else (some (a3, ([] : List Int))))
theorem impl_ReadTerm.calls (k : Nat) (a9 : Option Addr) (b0 : Nat) (a4 : List (S90)) (a1 : ByteArray) (r1 : Int) (r2 : List Int) (w : World) (b6 : Kd.C k90 w a9 a4.length a4) (b5 : a4.length ≤ b0) (h : impl_ReadTerm.f k a4 a1 = some (r1, r2)) :
  Calls Tryz.prog 15 #[.agg #[.slice a9 a4.length b0], .string a1] w fun e w' => ∃ h5 : Value, e = .returned (.agg #[.int .i64 r1, h5]) ∧ Kd.R (Kd.int .i64) 2 w' w.heap.size (fun _ => True) h5 r2 ∧ Below w.heap.size w w' := by
 have h9 := Tryz.underlying26
 have i0 := Tryz.underlying37
 have b3 := am b6
 have b1 := am b5
 clear b6 b5
 have HB := am (Below.refl w.heap.size w)
 have H : ((impl_SignatureFault.f k a4).bind fun a8 => (if a8 = 0 then ((impl_readTerm.f k a4 a1).bind fun b4 => (if b4.2 = true then (some (0, b4.1)) else (some (5, ([] : List Int))))) else (some (a8, ([] : List Int))))) = some (r1, r2) := h
 clear h
 obtain ⟨a8, A3, H⟩ := ob H
 try dsimp only at H
 have g3 := am H
 clear H
 go_enter Tryz.func15, Tryz.ntmps15
 go_upto_if 11 with (first | (refine bx 2 rfl #[.slice a9 a4.length b0] 26 ?_; intro g4 hg w5 hbox hb; have a2 := am (hbox); have b9 := am (bz hg (hq HB.out)); replace HB := sb HB hb; have g1 := b9; clear hb hbox hg) | (refine bx 4 rfl #[.int .i64 0, .slice none 0 0] 37 ?_; intro a7 hg w6 hbox hb; have a0 := am (hbox); have c0 := am (bz hg (hs HB.out)); replace HB := sb HB hb; have g2 := c0; have a5 := nl hg a2; have a3 := ng hg a2; replace a2 := bb a2 hb; clear hb hbox hg; obtain ⟨h7, h8⟩ := nn a5; have e9 := c0_ a2; have g0 := blk_frozen a2.out 0) | (refine gl (some 9) Tryz.func45 rfl #[.agg #[.slice a9 a4.length b0]] ?_; refine (impl_SignatureFault.calls k _ _ a4 a8 _ (cq (Kd.C_below b3.out HB.out)) b1.out A3.out).mono ?_; rintro e w9 ⟨rfl, hb⟩; refine ⟨_, rfl, ?_⟩; replace a2 := bb a2 hb; replace a0 := bb a0 hb; replace HB := sb HB hb; clear hb; (try clear hk)))
 have H := g3.out
 clear g3
 by_cases c10 : a8 = 0
 ·rw [if_pos c10] at H
  obtain ⟨a6, d0⟩ := bqt c10; clear c10
  (first | rw [a6] | (simp only [i64_w, i32_w]; rw [a6]) | skip)
  obtain ⟨⟨b7, d2⟩, h6, H⟩ := ob H
  try dsimp only at H
  have c1 := am H
  clear H
  obtain ⟨g5, g9⟩ := nn a5
  have d4 := c0_ a2
  have e1 := blk_frozen a2.out 0
  go_upto_if 21 with (first | (refine gl (some 17) Tryz.func46 rfl #[.agg #[.slice a9 a4.length b0], .string a1] ?_; refine (impl_readTerm.calls k _ _ a4 a1 b7 d2 _ (cq (Kd.C_below b3.out HB.out)) b1.out h6.out).mono ?_; rintro e i2 ⟨i1, rfl, h4, hb⟩; refine ⟨_, rfl, ?_⟩; have b2 := am (Kd.R_lower h4 (below_size (hs HB.out))); replace a2 := bb a2 hb; replace a0 := bb a0 hb; replace HB := sb HB hb; clear hb h4; (try clear hk)))
  have H := c1.out
  clear c1
  by_cases d3 : d2 = true
  ·subst d3
   rw [if_pos rfl] at H
   simp only [Option.some.injEq, Prod.mk.injEq] at H
   obtain ⟨rfl, rfl⟩ := H
   obtain ⟨b8, d1, e8⟩ := Kd.R_slice b2.out
   subst e8
   obtain ⟨g6, h0⟩ := nn a3
   have d5 := c0_ a0
   have d6 := c1_ a0
   have e2 := blk_frozen a0.out 0
   have e3 := blk_frozen a0.out 1
   go_wp2
   refine bodyPost_ret (results_cell_row rfl _ _ a7 37 #[.int .i64 0, .slice b8 b7.length d1] (0, 0) _ rfl (by refine bq ?_; refine blk_put (cs := #[.int .i64 0, .slice none 0 0]) ?_ 1 _ rfl; refine bq ?_; refine blk_put (cs := #[.int .i64 0, .slice none 0 0]) ?_ 0 _ rfl; refine bq ?_; exact a0.out) Tryz.underlying37 rfl (by kernel_rfl)) rfl ?_
   exact ⟨_, er, rq (Kd.R_mono (Kd.R_far (p := ⟨a7, 1, none⟩) (Kd.R_far (p := ⟨a7, 0, none⟩) (Kd.R_types b2.out a0.out (by decide)) (fun _ hk => hk.2) (.int .i64 0)) (fun _ hk => hk.2) (.slice b8 b7.length d1)) (fun _ hk => trivial)), hs HB.out⟩
  ·replace d3 := Bool.eq_false_iff.mpr d3
   subst d3
   rw [if_neg (show ¬ (false = true) by decide)] at H
   simp only [Option.some.injEq, Prod.mk.injEq] at H
   obtain ⟨rfl, rfl⟩ := H
   obtain ⟨g7, h2⟩ := nn a3
   have d7 := c0_ a0
   have d8 := c1_ a0
   have e4 := blk_frozen a0.out 0
   have e5 := blk_frozen a0.out 1
   go_wp2
   refine bodyPost_ret (results_cell_row rfl _ _ a7 37 #[.int .i64 5, .slice none 0 0] (0, 0) _ rfl (by refine bq ?_; refine blk_put (cs := #[.int .i64 5, .slice none 0 0]) ?_ 1 _ rfl; refine bq ?_; refine blk_put (cs := #[.int .i64 0, .slice none 0 0]) ?_ 0 _ rfl; refine bq ?_; exact a0.out) Tryz.underlying37 rfl (by kernel_rfl)) rfl ?_
   exact ⟨_, er, by first | exact Kd.R_nil _ _ _ _ _ | exact Kd.N_nil _ _ _ _ _ | exact Kd.V_nil _ _ _ _ _ | exact Kd.Q_nil _ _ _ _ _ | exact Kd.S_nil _ _ _ _ _, hs HB.out⟩
 ·rw [if_neg c10] at H
  obtain ⟨a6, d0⟩ := bqf c10
  (first | rw [a6] | (simp only [i64_w, i32_w]; rw [a6]) | skip)
  simp only [Option.some.injEq, Prod.mk.injEq] at H
  obtain ⟨rfl, rfl⟩ := H
  obtain ⟨g8, h3⟩ := nn a3
  have d9 := c0_ a0
  have e0 := c1_ a0
  have e6 := blk_frozen a0.out 0
  have e7 := blk_frozen a0.out 1
  go_wp2
  refine bodyPost_ret (results_cell_row rfl _ _ a7 37 #[.int .i64 a8, .slice none 0 0] (0, 0) _ rfl (by refine bq ?_; refine blk_put (cs := #[.int .i64 a8, .slice none 0 0]) ?_ 1 _ rfl; refine bq ?_; refine blk_put (cs := #[.int .i64 0, .slice none 0 0]) ?_ 0 _ rfl; refine bq ?_; exact a0.out) Tryz.underlying37 rfl (by kernel_rfl)) rfl ?_
  exact ⟨_, er, by first | exact Kd.R_nil _ _ _ _ _ | exact Kd.N_nil _ _ _ _ _ | exact Kd.V_nil _ _ _ _ _ | exact Kd.Q_nil _ _ _ _ _ | exact Kd.S_nil _ _ _ _ _, hs HB.out⟩
def spec_l2Find.l0 : Nat → List (S26) → ByteArray → Int → Option (Int)
 | 0, _, _, _ => none
 | k + 1, x0, x1, x5 => if 0 < (x0.length : Int) then (if x5 < (((rd_T26 x0 0).f0).length : Int) then (if 0 ≤ x5 then (if ((rd_T90 ((rd_T26 x0 0).f0) x5).f0).toList = x1.toList then (some x5) else (spec_l2Find.l0 k x0 x1 (wrap64 (x5 + 1)))) else (none)) else (some (-1))) else (none)
def spec_l2Find.f (k : Nat) (l0 : List (S26)) (a1 : ByteArray) : Option (Int) := spec_l2Find.l0 k l0 a1 0
theorem spec_l2Find.calls (k : Nat) (A0 : Option Addr) (l0 : List (S26)) (a1 : ByteArray) (r : Int) (w : World) (i0 : Kd.C k26 w A0 l0.length l0) (h : spec_l2Find.f k l0 a1 = some r) :
  Calls Tryz.prog 99 #[.pointer A0, .string a1] w fun e w' => e = .returned (.int .i64 r) ∧ Drawn0 w w' := by
 have e7 := am i0
 clear i0
 have H : (spec_l2Find.l0 k l0 a1 0) = some r := h
 clear h
 have H' := am H
 clear H
 go_enter Tryz.func99, Tryz.ntmps99
 go_wp2
 go_loopg [5] k (fun kq v5 w' => ∃ (b4 : Int), v5 = .int .i64 b4 ∧ Aside0 (spec_l2Find.l0 kq l0 a1 b4 = some r) ∧ Aside0 (kq ≤ k) ∧ Drawn0 w w')
 case atStart => exact ⟨(0), et, H', ⟨Nat.le_refl _⟩, dn⟩
 case round =>
  clear H'
  obtain ⟨b4, rfl, HA, h9, ⟨m1, rfl⟩⟩ := hrel
  cases gk with
  | zero => exact absurd HA.out (by simp [spec_l2Find.l0])
  | succ k1 =>
   have H := HA.out
   clear HA
   simp only [spec_l2Find.l0] at H
   obtain ⟨c3, H⟩ := ifs H
   have i1 := decide_eq_true c3
   have i2 : decide (0 < l0.length) = true := decide_eq_true (by omega)
   clear c3
   by_cases c4 : b4 < (((rd_T26 l0 0).f0).length : Int)
   ·rw [if_pos c4] at H
    have h6 := decide_eq_true c4
    clear c4
    obtain ⟨i3, H⟩ := ife H
    by_cases c6 : ((rd_T90 ((rd_T26 l0 0).f0) b4).f0).toList = a1.toList
    ·rw [if_pos c6] at H
     obtain ⟨h7, h8⟩ := bqt c6; clear c6
     obtain rfl := Option.some.inj H
     have b5 : 0 ≤ (0 : Int) := (by omega)
     have b7 : 0 < (l0.length : Int) := od
     obtain ⟨a7, d9, e3, e5, a0, a4, a2⟩ := at_T26 e7.out 0 b5 b7
     cases e5
     have g3 : (0 < l0.length) = True := eq_true (by omega)
     (try simp only [t0_] at a0)
     have d7 := am a2
     have d5 := am a4
     clear a2 a4
     obtain ⟨b5, b7⟩ := ee b5 b7
     have b6 : 0 ≤ (0 : Int) := (by omega)
     have b8 : 0 < (l0.length : Int) := od
     obtain ⟨c0, e0, e4, e6, a6, a5, a3⟩ := at_T26 e7.out 0 b6 b8
     obtain rfl : a7 = c0 := (by injection e6)
     have g4 : (0 < l0.length) = True := eq_true (by omega)
     (try simp only [t0_] at a6)
     have d8 := am a3
     have d6 := am a5
     clear a3 a5
     obtain ⟨b6, b8⟩ := ee b6 b8
     obtain ⟨rfl, rfl⟩ := sj a0 a6
     have c1 : 0 ≤ (0 : Int) := (by omega)
     have d2 : 0 < (l0.length : Int) := od
     obtain ⟨e1, g5, g7, g9, b2, b0, a8⟩ := at_T26 e7.out 0 c1 d2
     obtain rfl : a7 = e1 := (by injection g9)
     have h4 : (0 < l0.length) = True := eq_true (by omega)
     (try simp only [t0_] at b2)
     have g0 := am a8
     have e8 := am b0
     clear a8 b0
     obtain ⟨c1, d2⟩ := ee c1 d2
     obtain ⟨rfl, rfl⟩ := sj a0 b2
     have d0 : 0 ≤ (0 : Int) := (by omega)
     have d3 : 0 < (l0.length : Int) := od
     obtain ⟨e2, g6, g8, h0, b3, b1, a9⟩ := at_T26 e7.out 0 d0 d3
     obtain rfl : a7 = e2 := (by injection h0)
     have h5 : (0 < l0.length) = True := eq_true (by omega)
     (try simp only [t0_] at b3)
     have b9 := am a9
     have e9 := am b1
     clear a9 b1
     obtain ⟨d0, d3⟩ := ee d0 d3
     obtain ⟨rfl, rfl⟩ := sj a0 b3
     have d1 : 0 ≤ (b4 : Int) := od
     have d4 : b4 < (((rd_T26 l0 0).f0).length : Int) := od
     obtain ⟨h3, h2, g1, g2⟩ := at_T90 b9.out b4 d1 d4
     cases h2
     obtain ⟨d1, d4⟩ := ee d1 d4
     go_wp2
     go_ret
     exact ⟨et, dn⟩
    ·rw [if_neg c6] at H
     obtain ⟨h7, h8⟩ := bqf c6
     have H' := am H
     clear H
     have b5 : 0 ≤ (0 : Int) := (by omega)
     have b7 : 0 < (l0.length : Int) := od
     obtain ⟨a7, d9, e3, e5, a0, a4, a2⟩ := at_T26 e7.out 0 b5 b7
     cases e5
     have g3 : (0 < l0.length) = True := eq_true (by omega)
     (try simp only [t0_] at a0)
     have d7 := am a2
     have d5 := am a4
     clear a2 a4
     obtain ⟨b5, b7⟩ := ee b5 b7
     have b6 : 0 ≤ (0 : Int) := (by omega)
     have b8 : 0 < (l0.length : Int) := od
     obtain ⟨c0, e0, e4, e6, a6, a5, a3⟩ := at_T26 e7.out 0 b6 b8
     obtain rfl : a7 = c0 := (by injection e6)
     have g4 : (0 < l0.length) = True := eq_true (by omega)
     (try simp only [t0_] at a6)
     have d8 := am a3
     have d6 := am a5
     clear a3 a5
     obtain ⟨b6, b8⟩ := ee b6 b8
     obtain ⟨rfl, rfl⟩ := sj a0 a6
     have c1 : 0 ≤ (0 : Int) := (by omega)
     have d2 : 0 < (l0.length : Int) := od
     obtain ⟨e1, g5, g7, g9, b2, b0, a8⟩ := at_T26 e7.out 0 c1 d2
     obtain rfl : a7 = e1 := (by injection g9)
     have h4 : (0 < l0.length) = True := eq_true (by omega)
     (try simp only [t0_] at b2)
     have g0 := am a8
     have e8 := am b0
     clear a8 b0
     obtain ⟨c1, d2⟩ := ee c1 d2
     obtain ⟨rfl, rfl⟩ := sj a0 b2
     have d0 : 0 ≤ (0 : Int) := (by omega)
     have d3 : 0 < (l0.length : Int) := od
     obtain ⟨e2, g6, g8, h0, b3, b1, a9⟩ := at_T26 e7.out 0 d0 d3
     obtain rfl : a7 = e2 := (by injection h0)
     have h5 : (0 < l0.length) = True := eq_true (by omega)
     (try simp only [t0_] at b3)
     have b9 := am a9
     have e9 := am b1
     clear a9 b1
     obtain ⟨d0, d3⟩ := ee d0 d3
     obtain ⟨rfl, rfl⟩ := sj a0 b3
     have d1 : 0 ≤ (b4 : Int) := od
     have d4 : b4 < (((rd_T26 l0 0).f0).length : Int) := od
     obtain ⟨h3, h2, g1, g2⟩ := at_T90 b9.out b4 d1 d4
     cases h2
     obtain ⟨d1, d4⟩ := ee d1 d4
     go_wp2
     go_roundg k1
     case measure => have := h9.out; omega
     case rel => exact ⟨(wrap64 (b4 + 1)), et, H', ⟨by have := h9.out; omega⟩, dn⟩
   ·rw [if_neg c4] at H
    have h6 := decide_eq_false c4
    clear c4
    obtain rfl := Option.some.inj H
    have b5 : 0 ≤ (0 : Int) := (by omega)
    have b7 : 0 < (l0.length : Int) := od
    obtain ⟨a7, d9, e3, e5, a0, a4, a2⟩ := at_T26 e7.out 0 b5 b7
    cases e5
    have g3 : (0 < l0.length) = True := eq_true (by omega)
    (try simp only [t0_] at a0)
    have d7 := am a2
    have d5 := am a4
    clear a2 a4
    obtain ⟨b5, b7⟩ := ee b5 b7
    have b6 : 0 ≤ (0 : Int) := (by omega)
    have b8 : 0 < (l0.length : Int) := od
    obtain ⟨c0, e0, e4, e6, a6, a5, a3⟩ := at_T26 e7.out 0 b6 b8
    obtain rfl : a7 = c0 := (by injection e6)
    have g4 : (0 < l0.length) = True := eq_true (by omega)
    (try simp only [t0_] at a6)
    have d8 := am a3
    have d6 := am a5
    clear a3 a5
    obtain ⟨b6, b8⟩ := ee b6 b8
    obtain ⟨rfl, rfl⟩ := sj a0 a6
    go_wp2
    go_ret
    exact ⟨et, dn⟩
attribute [local go_sem] max2_int min2_int max_two min_two max_three min_three max_four min_four   -- for this text's walks alone
set_option linter.unusedVariables false
set_option linter.unusedSimpArgs false
mutual
def spec_l4Nodes.l0 : Nat → List (S26) → ByteArray → List Int → Int → Option (List Int × Bool)
 | 0, _, _, _, _ => none
 | k + 1, x0, x1, x6, x7 => if x7 < (x1.size : Int) then (if 0 ≤ x7 then (if (bt x1 x7) = 40 then (spec_l4Nodes.j1 k x0 x1 x6 x7 (bt x1 x7) true) else (if (bt x1 x7) = 41 then (spec_l4Nodes.j1 k x0 x1 x6 x7 (bt x1 x7) true) else (spec_l4Nodes.j1 k x0 x1 x6 x7 (bt x1 x7) ((bt x1 x7) == 44)))) else (none)) else (some (x6, true))
def spec_l4Nodes.j1 : Nat → List (S26) → ByteArray → List Int → Int → Int → Bool → Option (List Int × Bool)
 | 0, _, _, _, _, _, _ => none
 | k + 1, x0, x1, x6, x7, x8, a0 => if a0 = true then (spec_l4Nodes.l0 k x0 x1 x6 (wrap64 (x7 + 1))) else (if x8 ≥ 65 then (spec_l4Nodes.j2 k x0 x1 x6 x7 x8 (decide (x8 < 77))) else (spec_l4Nodes.j2 k x0 x1 x6 x7 x8 false))
def spec_l4Nodes.j2 : Nat → List (S26) → ByteArray → List Int → Int → Int → Bool → Option (List Int × Bool)
 | 0, _, _, _, _, _, _ => none
 | k + 1, x0, x1, x6, x7, x8, a0 => if a0 = true then (if x6.length < 17592186044416 then (spec_l4Nodes.l0 k x0 x1 (x6 ++ [(-1) - ((x8 - 65) % 256)]) (wrap64 (x7 + 1))) else (none)) else (if x8 ≥ 97 then (spec_l4Nodes.j3 k x0 x1 x6 x7 (decide (x8 ≤ 122))) else (spec_l4Nodes.j3 k x0 x1 x6 x7 false))
def spec_l4Nodes.j3 : Nat → List (S26) → ByteArray → List Int → Int → Bool → Option (List Int × Bool)
 | 0, _, _, _, _, _ => none
 | k + 1, x0, x1, x6, x7, a0 => if a0 = true then (spec_l4Nodes.l1 k x0 x1 x6 x7 x7) else (some (([] : List Int), false))
def spec_l4Nodes.l1 : Nat → List (S26) → ByteArray → List Int → Int → Int → Option (List Int × Bool)
 | 0, _, _, _, _, _ => none
 | k + 1, x0, x1, x6, x7, x9 => if x9 < (x1.size : Int) then (if 0 ≤ x9 then (if (bt x1 x9) ≥ 97 then (if (bt x1 x9) ≤ 122 then (spec_l4Nodes.l1 k x0 x1 x6 x7 (wrap64 (x9 + 1))) else (if 0 ≤ x7 then (if x7 ≤ x9 then (if x9 ≤ (x1.size : Int) then ((spec_l2Find.f k x0 (x1.extract (x7 : Int).toNat (x9 : Int).toNat)).bind fun a0 => (if a0 < 0 then (some (([] : List Int), false)) else (if x6.length < 17592186044416 then (spec_l4Nodes.l0 k x0 x1 (x6 ++ [a0]) x9) else (none)))) else (none)) else (none)) else (none))) else (if 0 ≤ x7 then (if x7 ≤ x9 then (if x9 ≤ (x1.size : Int) then ((spec_l2Find.f k x0 (x1.extract (x7 : Int).toNat (x9 : Int).toNat)).bind fun a1 => (if a1 < 0 then (some (([] : List Int), false)) else (if x6.length < 17592186044416 then (spec_l4Nodes.l0 k x0 x1 (x6 ++ [a1]) x9) else (none)))) else (none)) else (none)) else (none))) else (none)) else (if 0 ≤ x7 then (if x7 ≤ x9 then (if x9 ≤ (x1.size : Int) then ((spec_l2Find.f k x0 (x1.extract (x7 : Int).toNat (x9 : Int).toNat)).bind fun a2 => (if a2 < 0 then (some (([] : List Int), false)) else (if x6.length < 17592186044416 then (spec_l4Nodes.l0 k x0 x1 (x6 ++ [a2]) x9) else (none)))) else (none)) else (none)) else (none))
end
def spec_l4Nodes.f (k : Nat) (l0 : List (S26)) (a1 : ByteArray) : Option (List Int × Bool) := spec_l4Nodes.l0 k l0 a1 (([] : List Int)) 0
theorem spec_l4Nodes.calls (k : Nat) (A0 : Option Addr) (l0 : List (S26)) (a1 : ByteArray) (r1 : List Int) (r2 : Bool) (w : World) (n6 : Kd.C k26 w A0 l0.length l0) (h : spec_l4Nodes.f k l0 a1 = some (r1, r2)) :
  Calls Tryz.prog 85 #[.pointer A0, .string a1] w fun e w' => ∃ n8 : Value, e = .returned (.tuple #[n8, .bool r2]) ∧ Kd.R (Kd.int .i64) 2 w' w.heap.size (fun _ => True) n8 r1 ∧ Below w.heap.size w w' := by
 have k4 := am n6
 clear n6
 have HB := am (Below.refl w.heap.size w)
 have H : (spec_l4Nodes.l0 k l0 a1 (([] : List Int)) 0) = some (r1, r2) := h
 clear h
 obtain ⟨j6, b5⟩ : ∃ y_ : List Int, y_ = (([] : List Int)) := ⟨_, rfl⟩
 replace H : (spec_l4Nodes.l0 k l0 a1 j6 0) = some (r1, r2) := by first | (rw [b5]; first | with_reducible exact H | with_reducible exact bs H) | with_reducible exact bs H | with_reducible exact H | (rw [b5]; exact H) | exact H
 have d6 := am b5
 clear b5
 have H' := am H
 clear H
 go_enter Tryz.func85, Tryz.ntmps85
 go_wp2_with (first | (refine rl 11 rfl 2 [] ?_; intro o5 w3 i5 hb o2 hnew_; clear o2 hnew_; (first | rw [← d6.out] at i5 | (simp only [Int.reduceToNat] at i5; rw [← d6.out] at i5)); have g5 := am (Kd.R_lower i5 (below_size (hq HB.out))); replace HB := sb HB hb; clear hb i5))
 go_loopg [6, 7] k (fun kq v6 v7 w' => ∃ (a3 : List Int) (a2 : Int), v7 = .int .i64 a2 ∧ Aside0 (spec_l4Nodes.l0 kq l0 a1 a3 a2 = some (r1, r2)) ∧ Aside0 (kq ≤ k) ∧ Aside0 (Kd.R (Kd.int .i64) 2 w' w.heap.size (fun _ => True) v6 a3) ∧ Aside0 (Below w.heap.size w w'))
 case atStart => exact ⟨(j6), (0), et, H', ⟨Nat.le_refl _⟩, ⟨rq g5.out⟩, ⟨hq HB.out⟩⟩
 case round =>
  clear H'
  obtain ⟨a3, a2, rfl, HA, a5, HO_6, HB⟩ := hrel
  cases gk with
  | zero => exact absurd HA.out (by simp [spec_l4Nodes.l0])
  | succ k1 =>
   have H := HA.out
   clear HA
   simp only [spec_l4Nodes.l0] at H
   by_cases c5 : a2 < (a1.size : Int)
   ·rw [if_pos c5] at H
    have c1 := decide_eq_true c5
    clear c5
    obtain ⟨d4, H⟩ := ife H
    have k3 := am H
    clear H
    have p7 : 0 ≤ (a2 : Int) := od
    have q7 : a2 < (a1.size : Int) := od
    have k2 := bt_at a1 a2
    obtain ⟨p7, q7⟩ := ee p7 q7
    go_upto_region 6 with (fail)
    go_cut [19] (fun o3 wc => ∃ (kq : Nat) (c0 : Bool), o3 = .bool c0 ∧ Aside0 (spec_l4Nodes.j1 kq l0 a1 a3 a2 (bt a1 a2) c0 = some (r1, r2)) ∧ Aside0 (kq ≤ k1) ∧ Aside0 (Kd.R (Kd.int .i64) 2 wc w.heap.size (fun _ => True) u6 a3) ∧ Aside0 (Below w.heap.size w wc))
    case first =>
     have H := k3.out
     clear k3
     by_cases c9 : (bt a1 a2) = 40
     ·rw [if_pos c9] at H
      obtain ⟨d0, k6⟩ := bqt c9; clear c9
      (first | rw [d0] | (simp only [i64_w, i32_w]; rw [d0]) | skip)
      have H' := am H
      clear H
      go_wp2
      go_meet
      case rel => exact ⟨_, (true), et, H', ⟨by have := a5.out; first | omega | exact Nat.le_refl _⟩, ⟨rq HO_6.out⟩, ⟨hq HB.out⟩⟩
     ·rw [if_neg c9] at H
      obtain ⟨d0, k6⟩ := bqf c9
      (first | rw [d0] | (simp only [i64_w, i32_w]; rw [d0]) | skip)
      by_cases c10 : (bt a1 a2) = 41
      ·rw [if_pos c10] at H
       obtain ⟨h9, i0⟩ := bqt c10; clear c10
       have H' := am H
       clear H
       go_wp2
       go_meet
       case rel => exact ⟨_, (true), et, H', ⟨by have := a5.out; first | omega | exact Nat.le_refl _⟩, ⟨rq HO_6.out⟩, ⟨hq HB.out⟩⟩
      ·rw [if_neg c10] at H
       obtain ⟨h9, i0⟩ := bqf c10
       have H' := am H
       clear H
       go_wp2
       go_meet
       case rel => exact ⟨_, (((bt a1 a2) == 44)), et, H', ⟨by have := a5.out; first | omega | exact Nat.le_refl _⟩, ⟨rq HO_6.out⟩, ⟨hq HB.out⟩⟩
    case rest =>
     clear k3
     try clear c5; try clear c1; try clear d4; try clear p7; try clear q7; try clear k2; try clear p7; try clear q7
     obtain ⟨kq, c0, rfl, HA, b4, HO_6, HB⟩ := hcut
     cases kq with
     | zero => exact absurd HA.out (by simp [spec_l4Nodes.j1])
     | succ n7 =>
      have H := HA.out
      clear HA
      simp only [spec_l4Nodes.j1] at H
      by_cases e1 : c0 = true
      ·subst e1
       rw [if_pos rfl] at H
       have H' := am H
       clear H
       go_wp2
       go_roundg n7
       case measure => have := a5.out; have := b4.out; omega
       case rel => exact ⟨(a3), (wrap64 (a2 + 1)), et, H', ⟨by have := a5.out; have := b4.out; omega⟩, ⟨rq HO_6.out⟩, ⟨hq HB.out⟩⟩
      ·replace e1 := Bool.eq_false_iff.mpr e1
       subst e1
       rw [if_neg (show ¬ (false = true) by decide)] at H
       have d9 := am H
       clear H
       go_upto_region 8 with (fail)
       go_cut [32] (fun o4 wc => ∃ (kq : Nat) (a6 : Bool), o4 = .bool a6 ∧ Aside0 (spec_l4Nodes.j2 kq l0 a1 a3 a2 (bt a1 a2) a6 = some (r1, r2)) ∧ Aside0 (kq ≤ n7) ∧ Aside0 (Kd.R (Kd.int .i64) 2 wc w.heap.size (fun _ => True) u6 a3) ∧ Aside0 (Below w.heap.size w wc))
       case first =>
        have H := d9.out
        clear d9
        by_cases e3 : (bt a1 a2) ≥ 65
        ·rw [if_pos e3] at H
         have a9 := decide_eq_true e3
         clear e3
         (first | rw [a9] | (simp only [i64_w, i32_w]; rw [a9]) | skip)
         have H' := am H
         clear H
         go_wp2
         go_meet
         case rel => exact ⟨_, (decide ((bt a1 a2) < 77)), et, H', ⟨by have := a5.out; have := b4.out; first | omega | exact Nat.le_refl _⟩, ⟨rq HO_6.out⟩, ⟨hq HB.out⟩⟩
        ·rw [if_neg e3] at H
         have a9 := decide_eq_false e3
         clear e3
         (first | rw [a9] | (simp only [i64_w, i32_w]; rw [a9]) | skip)
         have H' := am H
         clear H
         go_wp2
         go_meet
         case rel => exact ⟨_, (false), et, H', ⟨by have := a5.out; have := b4.out; first | omega | exact Nat.le_refl _⟩, ⟨rq HO_6.out⟩, ⟨hq HB.out⟩⟩
       case rest =>
        clear d9
        try clear c5; try clear c1; try clear d4; try clear p7; try clear q7; try clear k2; try clear e1; try clear p7; try clear q7
        obtain ⟨kq, a6, rfl, HA, a4, HO_6, HB⟩ := hcut
        cases kq with
        | zero => exact absurd HA.out (by simp [spec_l4Nodes.j2])
        | succ e2 =>
         have H := HA.out
         clear HA
         simp only [spec_l4Nodes.j2] at H
         by_cases e4 : a6 = true
         ·subst e4
          rw [if_pos rfl] at H
          obtain ⟨k8, H⟩ := ifs H
          have h0 := am k8
          clear k8
          obtain ⟨j7, b6⟩ : ∃ y_ : List Int, y_ = (a3 ++ [(-1) - (((bt a1 a2) - 65) % 256)]) := ⟨_, rfl⟩
          replace H : (spec_l4Nodes.l0 e2 l0 a1 j7 (wrap64 (a2 + 1))) = some (r1, r2) := by first | (rw [b6]; first | with_reducible exact H | with_reducible exact bs H) | with_reducible exact bs H | with_reducible exact H | (rw [b6]; exact H) | exact H
          have h5 := am b6
          clear b6
          have H' := am H
          clear H
          go_wp2_with (first | ((with_reducible refine gate_builtin (b := .append) (xs := #[.tmp 39, .tmp 44]) rfl ?_); at_builtin; refine Kd.R_append (Kd.int .i64) (w0 := w) w.heap.size rfl (.tmp 39) (.tmp 44) 27 2 (.int .i64 0) 8 rfl Tryz.underlying27 info2 rfl (by decide) (by omega) u6 a3 ((-1) - (((bt a1 a2) - 65) % 256)) [.int .i64 ((-1) - (((bt a1 a2) - 65) % 256))] (fun _ => True) (fun _ => False) rfl rfl ?aP (fun _ hk => hk.elim) ?aF ?aO ?aB ?aS ?aL ?_; (case aP => exact rfl); (case aB => exact (hq HB.out)); (case aF => exact (fun _ _ => trivial)); (case aO => exact (rq HO_6.out)); (case aS => exact (below_size (hq HB.out))); (case aL => have := h0.out; omega); intro o6 p1 ho hb hg hat; rw [← h5.out] at ho; replace HB := am (hb); have g6 := am (ho); clear HO_6; clear ho hb hg hat))
          go_roundg e2
          case measure => have := a5.out; have := b4.out; have := a4.out; omega
          case rel => exact ⟨(j7), (wrap64 (a2 + 1)), et, H', ⟨by have := a5.out; have := b4.out; have := a4.out; omega⟩, ⟨rq g6.out⟩, ⟨hq HB.out⟩⟩
         ·replace e4 := Bool.eq_false_iff.mpr e4
          subst e4
          rw [if_neg (show ¬ (false = true) by decide)] at H
          have e0 := am H
          clear H
          go_upto_region 11 with (fail)
          go_cut [48] (fun o7 wc => ∃ (kq : Nat) (a7 : Bool), o7 = .bool a7 ∧ Aside0 (spec_l4Nodes.j3 kq l0 a1 a3 a2 a7 = some (r1, r2)) ∧ Aside0 (kq ≤ e2) ∧ Aside0 (Kd.R (Kd.int .i64) 2 wc w.heap.size (fun _ => True) u6 a3) ∧ Aside0 (Below w.heap.size w wc))
          case first =>
           have H := e0.out
           clear e0
           by_cases e5 : (bt a1 a2) ≥ 97
           ·rw [if_pos e5] at H
            have b0 := decide_eq_true e5
            clear e5
            (first | rw [b0] | (simp only [i64_w, i32_w]; rw [b0]) | skip)
            have H' := am H
            clear H
            go_wp2
            go_meet
            case rel => exact ⟨_, (decide ((bt a1 a2) ≤ 122)), et, H', ⟨by have := a5.out; have := b4.out; have := a4.out; first | omega | exact Nat.le_refl _⟩, ⟨rq HO_6.out⟩, ⟨hq HB.out⟩⟩
           ·rw [if_neg e5] at H
            have b0 := decide_eq_false e5
            clear e5
            (first | rw [b0] | (simp only [i64_w, i32_w]; rw [b0]) | skip)
            have H' := am H
            clear H
            go_wp2
            go_meet
            case rel => exact ⟨_, (false), et, H', ⟨by have := a5.out; have := b4.out; have := a4.out; first | omega | exact Nat.le_refl _⟩, ⟨rq HO_6.out⟩, ⟨hq HB.out⟩⟩
          case rest =>
           clear e0
           try clear c5; try clear c1; try clear d4; try clear p7; try clear q7; try clear k2; try clear e1; try clear e4; try clear p7; try clear q7
           obtain ⟨kq, a7, rfl, HA, a8, HO_6, HB⟩ := hcut
           cases kq with
           | zero => exact absurd HA.out (by simp [spec_l4Nodes.j3])
           | succ i7 =>
            have H := HA.out
            clear HA
            simp only [spec_l4Nodes.j3] at H
            by_cases i1 : a7 = true
            ·subst i1
             rw [if_pos rfl] at H
             have H' := am H
             clear H
             go_wp2
             go_loopg [9] i7 (fun kq v9 w' => ∃ (a0 : Int), v9 = .int .i64 a0 ∧ Aside0 (spec_l4Nodes.l1 kq l0 a1 a3 a2 a0 = some (r1, r2)) ∧ Aside0 (kq ≤ i7) ∧ Aside0 (Kd.R (Kd.int .i64) 2 w' w.heap.size (fun _ => True) u6 a3) ∧ Aside0 (Below w.heap.size w w'))
             case atStart => exact ⟨(a2), et, H', ⟨Nat.le_refl _⟩, ⟨rq HO_6.out⟩, ⟨hq HB.out⟩⟩
             case round =>
              clear H'
              try clear c5; try clear c1; try clear d4; try clear p7; try clear q7; try clear k2; try clear e1; try clear e4; try clear i1; try clear p7; try clear q7
              obtain ⟨a0, rfl, HA, d5, HO_6, HB⟩ := hrel
              cases gk with
              | zero => exact absurd HA.out (by simp [spec_l4Nodes.l1])
              | succ k5 =>
               have H := HA.out
               clear HA
               simp only [spec_l4Nodes.l1] at H
               by_cases e6 : a0 < (a1.size : Int)
               ·rw [if_pos e6] at H
                have i2 := decide_eq_true e6
                clear e6
                obtain ⟨k9, H⟩ := ife H
                by_cases e7 : (bt a1 a0) ≥ 97
                ·rw [if_pos e7] at H
                 have i3 := decide_eq_true e7
                 clear e7
                 by_cases e8 : (bt a1 a0) ≤ 122
                 ·rw [if_pos e8] at H
                  have i4 := decide_eq_true e8
                  clear e8
                  have H' := am H
                  clear H
                  have d7 : 0 ≤ (a0 : Int) := od
                  have d8 : a0 < (a1.size : Int) := od
                  have i6 := bt_at a1 a0
                  obtain ⟨d7, d8⟩ := ee d7 d8
                  have i9 : 0 ≤ (a0 : Int) := od
                  have j5 : a0 < (a1.size : Int) := od
                  have k7 := bt_at a1 a0
                  obtain ⟨i9, j5⟩ := ee i9 j5
                  go_wp2
                  go_roundg k5
                  case measure => have := a5.out; have := b4.out; have := a4.out; have := a8.out; have := d5.out; omega
                  case rel => exact ⟨(wrap64 (a0 + 1)), et, H', ⟨by have := a5.out; have := b4.out; have := a4.out; have := a8.out; have := d5.out; omega⟩, ⟨rq HO_6.out⟩, ⟨hq HB.out⟩⟩
                 ·rw [if_neg e8] at H
                  have i4 := decide_eq_false e8
                  clear e8
                  obtain ⟨l4, l5, H⟩ := ifd H
                  obtain ⟨l6, l7, H⟩ := ifd H
                  obtain ⟨l8, l9, H⟩ := ifd H
                  obtain ⟨d1, n9, H⟩ := ob H
                  try dsimp only at H
                  have g2 := am H
                  clear H
                  have d7 : 0 ≤ (a0 : Int) := od
                  have d8 : a0 < (a1.size : Int) := od
                  have i6 := bt_at a1 a0
                  obtain ⟨d7, d8⟩ := ee d7 d8
                  have i9 : 0 ≤ (a0 : Int) := od
                  have j5 : a0 < (a1.size : Int) := od
                  have k7 := bt_at a1 a0
                  obtain ⟨i9, j5⟩ := ee i9 j5
                  go_upto_if 81 with (first | (refine gl (some 79) Tryz.func99 rfl #[.pointer A0, .string (a1.extract (a2 : Int).toNat (a0 : Int).toNat)] ?_; refine (spec_l2Find.calls k5 _ l0 (a1.extract (a2 : Int).toNat (a0 : Int).toNat) d1 _ (cq (Kd.C_below k4.out HB.out)) n9.out).mono ?_; rintro e w' ⟨rfl, ⟨nd, rfl⟩⟩; refine ⟨_, rfl, ?_⟩))
                  have H := g2.out
                  clear g2
                  by_cases e9 : d1 < 0
                  ·rw [if_pos e9] at H
                   have b1 := decide_eq_true e9
                   clear e9
                   (first | rw [b1] | (simp only [i64_w, i32_w]; rw [b1]) | skip)
                   simp only [Option.some.injEq, Prod.mk.injEq] at H
                   obtain ⟨rfl, rfl⟩ := H
                   go_wp2
                   go_ret2
                   exact ⟨_, er, by first | exact Kd.R_nil _ _ _ _ _ | exact Kd.N_nil _ _ _ _ _ | exact Kd.V_nil _ _ _ _ _ | exact Kd.Q_nil _ _ _ _ _ | exact Kd.S_nil _ _ _ _ _, hq HB.out⟩
                  ·rw [if_neg e9] at H
                   have b1 := decide_eq_false e9
                   clear e9
                   (first | rw [b1] | (simp only [i64_w, i32_w]; rw [b1]) | skip)
                   obtain ⟨m0, H⟩ := ifs H
                   have h2 := am m0
                   clear m0
                   obtain ⟨j8, b7⟩ : ∃ y_ : List Int, y_ = (a3 ++ [d1]) := ⟨_, rfl⟩
                   replace H : (spec_l4Nodes.l0 k5 l0 a1 j8 a0) = some (r1, r2) := by first | (rw [b7]; first | with_reducible exact H | with_reducible exact bs H) | with_reducible exact bs H | with_reducible exact H | (rw [b7]; exact H) | exact H
                   have h6 := am b7
                   clear b7
                   have H' := am H
                   clear H
                   go_wp2_with (first | ((with_reducible refine gate_builtin (b := .append) (xs := #[.tmp 82, .tmp 84]) rfl ?_); at_builtin; refine Kd.R_append (Kd.int .i64) (w0 := w) w.heap.size rfl (.tmp 82) (.tmp 84) 27 2 (.int .i64 0) 8 rfl Tryz.underlying27 info2 rfl (by decide) (by omega) u6 a3 d1 [.int .i64 d1] (fun _ => True) (fun _ => False) rfl rfl ?aP (fun _ hk => hk.elim) ?aF ?aO ?aB ?aS ?aL ?_; (case aP => exact rfl); (case aB => exact (hq HB.out)); (case aF => exact (fun _ _ => trivial)); (case aO => exact (rq HO_6.out)); (case aS => exact (below_size (hq HB.out))); (case aL => have := h2.out; omega); intro o8 p2 ho hb hg hat; rw [← h6.out] at ho; replace HB := am (hb); have g7 := am (ho); clear HO_6; clear ho hb hg hat))
                   go_roundg k5
                   case measure => have := a5.out; have := b4.out; have := a4.out; have := a8.out; have := d5.out; omega
                   case rel => exact ⟨(j8), (a0), et, H', ⟨by have := a5.out; have := b4.out; have := a4.out; have := a8.out; have := d5.out; omega⟩, ⟨rq g7.out⟩, ⟨hq HB.out⟩⟩
                ·rw [if_neg e7] at H
                 have i3 := decide_eq_false e7
                 clear e7
                 obtain ⟨m1, m2, H⟩ := ifd H
                 obtain ⟨m3, m4, H⟩ := ifd H
                 obtain ⟨m5, m6, H⟩ := ifd H
                 obtain ⟨d2, o0, H⟩ := ob H
                 try dsimp only at H
                 have g3 := am H
                 clear H
                 have d7 : 0 ≤ (a0 : Int) := od
                 have d8 : a0 < (a1.size : Int) := od
                 have i6 := bt_at a1 a0
                 obtain ⟨d7, d8⟩ := ee d7 d8
                 go_upto_if 81 with (first | (refine gl (some 79) Tryz.func99 rfl #[.pointer A0, .string (a1.extract (a2 : Int).toNat (a0 : Int).toNat)] ?_; refine (spec_l2Find.calls k5 _ l0 (a1.extract (a2 : Int).toNat (a0 : Int).toNat) d2 _ (cq (Kd.C_below k4.out HB.out)) o0.out).mono ?_; rintro e w' ⟨rfl, ⟨nd, rfl⟩⟩; refine ⟨_, rfl, ?_⟩))
                 have H := g3.out
                 clear g3
                 by_cases g0 : d2 < 0
                 ·rw [if_pos g0] at H
                  have b2 := decide_eq_true g0
                  clear g0
                  (first | rw [b2] | (simp only [i64_w, i32_w]; rw [b2]) | skip)
                  simp only [Option.some.injEq, Prod.mk.injEq] at H
                  obtain ⟨rfl, rfl⟩ := H
                  go_wp2
                  go_ret2
                  exact ⟨_, er, by first | exact Kd.R_nil _ _ _ _ _ | exact Kd.N_nil _ _ _ _ _ | exact Kd.V_nil _ _ _ _ _ | exact Kd.Q_nil _ _ _ _ _ | exact Kd.S_nil _ _ _ _ _, hq HB.out⟩
                 ·rw [if_neg g0] at H
                  have b2 := decide_eq_false g0
                  clear g0
                  (first | rw [b2] | (simp only [i64_w, i32_w]; rw [b2]) | skip)
                  obtain ⟨m7, H⟩ := ifs H
                  have h3 := am m7
                  clear m7
                  obtain ⟨j9, b8⟩ : ∃ y_ : List Int, y_ = (a3 ++ [d2]) := ⟨_, rfl⟩
                  replace H : (spec_l4Nodes.l0 k5 l0 a1 j9 a0) = some (r1, r2) := by first | (rw [b8]; first | with_reducible exact H | with_reducible exact bs H) | with_reducible exact bs H | with_reducible exact H | (rw [b8]; exact H) | exact H
                  have h7 := am b8
                  clear b8
                  have H' := am H
                  clear H
                  go_wp2_with (first | ((with_reducible refine gate_builtin (b := .append) (xs := #[.tmp 82, .tmp 84]) rfl ?_); at_builtin; refine Kd.R_append (Kd.int .i64) (w0 := w) w.heap.size rfl (.tmp 82) (.tmp 84) 27 2 (.int .i64 0) 8 rfl Tryz.underlying27 info2 rfl (by decide) (by omega) u6 a3 d2 [.int .i64 d2] (fun _ => True) (fun _ => False) rfl rfl ?aP (fun _ hk => hk.elim) ?aF ?aO ?aB ?aS ?aL ?_; (case aP => exact rfl); (case aB => exact (hq HB.out)); (case aF => exact (fun _ _ => trivial)); (case aO => exact (rq HO_6.out)); (case aS => exact (below_size (hq HB.out))); (case aL => have := h3.out; omega); intro o9 p3 ho hb hg hat; rw [← h7.out] at ho; replace HB := am (hb); have g8 := am (ho); clear HO_6; clear ho hb hg hat))
                  go_roundg k5
                  case measure => have := a5.out; have := b4.out; have := a4.out; have := a8.out; have := d5.out; omega
                  case rel => exact ⟨(j9), (a0), et, H', ⟨by have := a5.out; have := b4.out; have := a4.out; have := a8.out; have := d5.out; omega⟩, ⟨rq g8.out⟩, ⟨hq HB.out⟩⟩
               ·rw [if_neg e6] at H
                have i2 := decide_eq_false e6
                clear e6
                obtain ⟨m8, m9, H⟩ := ifd H
                obtain ⟨n0, n1, H⟩ := ifd H
                obtain ⟨n2, n3, H⟩ := ifd H
                obtain ⟨d3, o1, H⟩ := ob H
                try dsimp only at H
                have g4 := am H
                clear H
                go_upto_if 81 with (first | (refine gl (some 79) Tryz.func99 rfl #[.pointer A0, .string (a1.extract (a2 : Int).toNat (a0 : Int).toNat)] ?_; refine (spec_l2Find.calls k5 _ l0 (a1.extract (a2 : Int).toNat (a0 : Int).toNat) d3 _ (cq (Kd.C_below k4.out HB.out)) o1.out).mono ?_; rintro e w' ⟨rfl, ⟨nd, rfl⟩⟩; refine ⟨_, rfl, ?_⟩))
                have H := g4.out
                clear g4
                by_cases g1 : d3 < 0
                ·rw [if_pos g1] at H
                 have b3 := decide_eq_true g1
                 clear g1
                 (first | rw [b3] | (simp only [i64_w, i32_w]; rw [b3]) | skip)
                 simp only [Option.some.injEq, Prod.mk.injEq] at H
                 obtain ⟨rfl, rfl⟩ := H
                 go_wp2
                 go_ret2
                 exact ⟨_, er, by first | exact Kd.R_nil _ _ _ _ _ | exact Kd.N_nil _ _ _ _ _ | exact Kd.V_nil _ _ _ _ _ | exact Kd.Q_nil _ _ _ _ _ | exact Kd.S_nil _ _ _ _ _, hq HB.out⟩
                ·rw [if_neg g1] at H
                 have b3 := decide_eq_false g1
                 clear g1
                 (first | rw [b3] | (simp only [i64_w, i32_w]; rw [b3]) | skip)
                 obtain ⟨n4, H⟩ := ifs H
                 have h4 := am n4
                 clear n4
                 obtain ⟨k0, b9⟩ : ∃ y_ : List Int, y_ = (a3 ++ [d3]) := ⟨_, rfl⟩
                 replace H : (spec_l4Nodes.l0 k5 l0 a1 k0 a0) = some (r1, r2) := by first | (rw [b9]; first | with_reducible exact H | with_reducible exact bs H) | with_reducible exact bs H | with_reducible exact H | (rw [b9]; exact H) | exact H
                 have h8 := am b9
                 clear b9
                 have H' := am H
                 clear H
                 go_wp2_with (first | ((with_reducible refine gate_builtin (b := .append) (xs := #[.tmp 82, .tmp 84]) rfl ?_); at_builtin; refine Kd.R_append (Kd.int .i64) (w0 := w) w.heap.size rfl (.tmp 82) (.tmp 84) 27 2 (.int .i64 0) 8 rfl Tryz.underlying27 info2 rfl (by decide) (by omega) u6 a3 d3 [.int .i64 d3] (fun _ => True) (fun _ => False) rfl rfl ?aP (fun _ hk => hk.elim) ?aF ?aO ?aB ?aS ?aL ?_; (case aP => exact rfl); (case aB => exact (hq HB.out)); (case aF => exact (fun _ _ => trivial)); (case aO => exact (rq HO_6.out)); (case aS => exact (below_size (hq HB.out))); (case aL => have := h4.out; omega); intro p0 p4 ho hb hg hat; rw [← h8.out] at ho; replace HB := am (hb); have g9 := am (ho); clear HO_6; clear ho hb hg hat))
                 go_roundg k5
                 case measure => have := a5.out; have := b4.out; have := a4.out; have := a8.out; have := d5.out; omega
                 case rel => exact ⟨(k0), (a0), et, H', ⟨by have := a5.out; have := b4.out; have := a4.out; have := a8.out; have := d5.out; omega⟩, ⟨rq g9.out⟩, ⟨hq HB.out⟩⟩
            ·replace i1 := Bool.eq_false_iff.mpr i1
             subst i1
             rw [if_neg (show ¬ (false = true) by decide)] at H
             simp only [Option.some.injEq, Prod.mk.injEq] at H
             obtain ⟨rfl, rfl⟩ := H
             go_wp2
             go_ret2
             exact ⟨_, er, by first | exact Kd.R_nil _ _ _ _ _ | exact Kd.N_nil _ _ _ _ _ | exact Kd.V_nil _ _ _ _ _ | exact Kd.Q_nil _ _ _ _ _ | exact Kd.S_nil _ _ _ _ _, hq HB.out⟩
   ·rw [if_neg c5] at H
    have c1 := decide_eq_false c5
    clear c5
    simp only [Option.some.injEq, Prod.mk.injEq] at H
    obtain ⟨rfl, rfl⟩ := H
    go_wp2
    go_ret2
    exact ⟨_, er, rq HO_6.out, hq HB.out⟩
def spec_l4Read.f (k : Nat) (l0 : List (S26)) (a1 : ByteArray) : Option (List Int) := if (a1.size : Int) > 168 then (some ([] : List Int)) else ((spec_l4Nodes.f k l0 a1).bind fun a0 => (if a0.2 = true then ((spec_l3Fault.f k l0 a0.1).bind fun a2 => (if a2 = 0 then ((spec_l4Text.f k l0 a0.1 0).bind fun a3 => (if a3.toList = a1.toList then (some a0.1) else (some ([] : List Int)))) else (some ([] : List Int)))) else (some ([] : List Int))))
theorem spec_l4Read.calls (k : Nat) (A0 : Option Addr) (l0 : List (S26)) (a1 : ByteArray) (r : List Int) (w : World) (b8 : Kd.C k26 w A0 l0.length l0) (h : spec_l4Read.f k l0 a1 = some r) :
  Calls Tryz.prog 50 #[.pointer A0, .string a1] w fun e w' => ∃ b9 : Value, e = .returned (b9) ∧ Kd.R (Kd.int .i64) 2 w' w.heap.size (fun _ => True) b9 r ∧ Below w.heap.size w w' := by
 have a8 := am b8
 clear b8
 have HB := am (Below.refl w.heap.size w)
 have H : (if (a1.size : Int) > 168 then (some ([] : List Int)) else ((spec_l4Nodes.f k l0 a1).bind fun a3 => (if a3.2 = true then ((spec_l3Fault.f k l0 a3.1).bind fun a5 => (if a5 = 0 then ((spec_l4Text.f k l0 a3.1 0).bind fun a6 => (if a6.toList = a1.toList then (some a3.1) else (some ([] : List Int)))) else (some ([] : List Int)))) else (some ([] : List Int))))) = some r := h
 clear h
 by_cases c3 : (a1.size : Int) > 168
 ·rw [if_pos c3] at H
  have b2 := decide_eq_true c3
  have b3 : decide (168 < a1.size) = true := decide_eq_true (by omega)
  clear c3
  obtain rfl := Option.some.inj H
  go_enter Tryz.func50, Tryz.ntmps50
  go_wp2
  go_ret
  exact ⟨_, er, by first | exact Kd.R_nil _ _ _ _ _ | exact Kd.N_nil _ _ _ _ _ | exact Kd.V_nil _ _ _ _ _ | exact Kd.Q_nil _ _ _ _ _ | exact Kd.S_nil _ _ _ _ _, hq HB.out⟩
 ·rw [if_neg c3] at H
  have b2 := decide_eq_false c3
  have b3 : decide (168 < a1.size) = false := decide_eq_false (by omega)
  clear c3
  obtain ⟨⟨a4, b6⟩, A4, H⟩ := ob H
  try dsimp only at H
  by_cases c5 : b6 = true
  ·subst c5
   rw [if_pos rfl] at H
   obtain ⟨a5, A6, H⟩ := ob H
   try dsimp only at H
   by_cases c7 : a5 = 0
   ·rw [if_pos c7] at H
    obtain ⟨b4, b5⟩ := bqt c7; clear c7
    obtain ⟨a6, A8, H⟩ := ob H
    try dsimp only at H
    have b7 := am H
    clear H
    go_enter Tryz.func50, Tryz.ntmps50
    go_upto_if 30 with (first | (refine gl (some 13) Tryz.func85 rfl #[.pointer A0, .string a1] ?_; refine (spec_l4Nodes.calls k _ l0 a1 a4 true _ (cq a8.out) A4.out).mono ?_; rintro e d2 ⟨b1, rfl, a7, hb⟩; refine ⟨_, rfl, ?_⟩; have a0 := am (Kd.R_lower a7 (below_size (hq HB.out))); replace HB := sb HB hb; (try clear hb); (try clear a7); obtain ⟨c0, d0, rfl⟩ := Kd.R_slice a0.out) | (go_at_call 31; refine (spec_l3Fault.calls k _ l0 _ _ a4 a5 _ (cq (Kd.C_below a8.out HB.out)) (cq (Kd.R_reads' a0.out).2.2) ((Kd.R_reads' a0.out).2.1) A6.out).mono ?_; rintro e w' ⟨rfl, ⟨nd, rfl⟩⟩) | (go_at_call 75; refine (spec_l4Text.calls k _ l0 _ _ a4 0 a6 _ (cq (Kd.C_below a8.out (hq HB.out))) (cq (Kd.R_reads' a0.out).2.2) ((Kd.R_reads' a0.out).2.1) A8.out).mono ?_; rintro e d3 ⟨rfl, hb⟩; replace a0 := rb a0 hb; replace HB := sb HB hb; (try clear hb)))
    have H := b7.out
    clear b7
    by_cases a9 : a6.toList = a1.toList
    ·rw [if_pos a9] at H
     obtain ⟨a2, b0⟩ := bqt a9; clear a9
     (first | rw [a2] | (simp only [i64_w, i32_w]; rw [a2]) | skip)
     obtain rfl := Option.some.inj H
     go_wp2
     go_ret
     exact ⟨_, er, rq a0.out, hq HB.out⟩
    ·rw [if_neg a9] at H
     obtain ⟨a2, b0⟩ := bqf a9
     (first | rw [a2] | (simp only [i64_w, i32_w]; rw [a2]) | skip)
     obtain rfl := Option.some.inj H
     go_wp2
     go_ret
     exact ⟨_, er, by first | exact Kd.R_nil _ _ _ _ _ | exact Kd.N_nil _ _ _ _ _ | exact Kd.V_nil _ _ _ _ _ | exact Kd.Q_nil _ _ _ _ _ | exact Kd.S_nil _ _ _ _ _, hq HB.out⟩
   ·rw [if_neg c7] at H
    obtain ⟨b4, b5⟩ := bqf c7
    obtain rfl := Option.some.inj H
    go_enter Tryz.func50, Tryz.ntmps50
    go_wp2_with (first | (refine gl (some 13) Tryz.func85 rfl #[.pointer A0, .string a1] ?_; refine (spec_l4Nodes.calls k _ l0 a1 a4 true _ (cq a8.out) A4.out).mono ?_; rintro e d4 ⟨b1, rfl, a7, hb⟩; refine ⟨_, rfl, ?_⟩; have a0 := am (Kd.R_lower a7 (below_size (hq HB.out))); replace HB := sb HB hb; (try clear hb); (try clear a7); obtain ⟨c1, d1, rfl⟩ := Kd.R_slice a0.out) | (go_at_call 31; refine (spec_l3Fault.calls k _ l0 _ _ a4 a5 _ (cq (Kd.C_below a8.out HB.out)) (cq (Kd.R_reads' a0.out).2.2) ((Kd.R_reads' a0.out).2.1) A6.out).mono ?_; rintro e w' ⟨rfl, ⟨nd, rfl⟩⟩))
    go_ret
    exact ⟨_, er, by first | exact Kd.R_nil _ _ _ _ _ | exact Kd.N_nil _ _ _ _ _ | exact Kd.V_nil _ _ _ _ _ | exact Kd.Q_nil _ _ _ _ _ | exact Kd.S_nil _ _ _ _ _, hq HB.out⟩
  ·replace c5 := Bool.eq_false_iff.mpr c5
   subst c5
   rw [if_neg (show ¬ (false = true) by decide)] at H
   obtain rfl := Option.some.inj H
   go_enter Tryz.func50, Tryz.ntmps50
   go_wp2_with (first | (refine gl (some 13) Tryz.func85 rfl #[.pointer A0, .string a1] ?_; refine (spec_l4Nodes.calls k _ l0 a1 a4 false _ (cq a8.out) A4.out).mono ?_; rintro e d5 ⟨b1, rfl, a7, hb⟩; refine ⟨_, rfl, ?_⟩; have a0 := am (Kd.R_lower a7 (below_size (hq HB.out))); replace HB := sb HB hb; clear hb a7))
   go_ret
   exact ⟨_, er, by first | exact Kd.R_nil _ _ _ _ _ | exact Kd.N_nil _ _ _ _ _ | exact Kd.V_nil _ _ _ _ _ | exact Kd.Q_nil _ _ _ _ _ | exact Kd.S_nil _ _ _ _ _, hq HB.out⟩
end Go.Proofs.YtbdpnkpienpnaaaGreatDoor.P
