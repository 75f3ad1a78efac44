/- A part of the proof of the law FnStrict. -/
import Derived.Test.YtgichahebemmiaaGreatDoorCFnStrict5
set_option maxHeartbeats 8000000
set_option maxRecDepth 100000
namespace Go.Proofs.YtgichahebemmiaaGreatDoor.P
open Go.RowKit Go.Proofs.YtgichahebemmiaaGreatDoorW.PrintWords Go.Proofs.YtgichahebemmiaaGreatDoorW.PrintLast Go.Proofs.YtgichahebemmiaaGreatDoorW.PrintMore
attribute [local go_sem] Ai1 Ah9 Ak5 Ak4 Ah0 Ag9 Ai2 Ai0   -- for this text's walks alone
set_option linter.unusedVariables false
set_option linter.unusedSimpArgs false
def Ag2.l0 : Nat → List Int → List Int → Int → Int → Option (Int)
 | 0, _, _, _, _ => none
 | k + 1, x1, a1, a3, a0 => if a0 < a3 then (if 0 ≤ a0 then (if a0 < (a1.length : Int) then (if a0 ≤ (x1.length : Int) then ((Ad0.f k (x1.take (a0 : Int).toNat) (rd a1 a0)).bind fun a2 => (if a2 = true then (some 6) else (Ag2.l0 k x1 a1 a3 (wrap64 (a0 + 1))))) else (none)) else (none)) else (none)) else (some 0)
def Ag2.f (k : Nat) (a0 : List (S79)) (l1 : List Int) : Option (Int) := (Ab9.f k a0).bind fun a1 => (if a1 = 0 then (if (l1.length : Int) = (a0.length : Int) then ((Ae2.f k l1 [(⟨a0⟩ : S36)]).bind fun a2 => (if a2 = true then (some 3) else (Ag2.l0 k l1 l1 (l1.length : Int) 0))) else (some 2)) else (some a1))
theorem Ag2.calls (k : Nat) (a5 : Option Addr) (a6 : Nat) (a2 : List (S79)) (A1 : Option Addr) (c1 : Nat) (l1 : List Int) (r : Int) (w : World) (b1 : Kd.C k79 w a5 a2.length a2) (b2 : a2.length ≤ a6) (g2 : Kd.C (Kd.int .i64) w A1 l1.length l1) (g3 : l1.length ≤ c1) (h : Ag2.f k a2 l1 = some r) :
  Calls Tryz.prog 35 #[.agg #[.slice a5 a2.length a6], .slice A1 l1.length c1] w fun e w' => e = .returned (.int .i64 r) ∧ Below w.heap.size w w' := by
 have h4 := Tryz.underlying36
 have b3 := am b1
 have b4 := am b2
 clear b1 b2
 have g0 := am g2
 have g4 := am g3
 clear g2 g3
 have HB := am (Below.refl w.heap.size w)
 have H : ((Ab9.f k a2).bind fun a7 => (if a7 = 0 then (if (l1.length : Int) = (a2.length : Int) then ((Ae2.f k l1 [(⟨a2⟩ : S36)]).bind fun a8 => (if a8 = true then (some 3) else (Ag2.l0 k l1 l1 (l1.length : Int) 0))) else (some 2)) else (some a7))) = some r := h
 clear h
 obtain ⟨a7, A3, H⟩ := ob H
 try dsimp only at H
 have g5 := am H
 clear H
 go_enter Tryz.func35, Tryz.ntmps35
 go_upto_if 11 with (first | (refine bx 2 rfl #[.slice a5 a2.length a6] 36 ?_; intro b5 hg w5 hbox hb; have a1 := am (hbox); have d3 := am (bz hg (hq HB.out)); replace HB := sb HB hb; have g6 := d3; clear hb hbox hg; have b9 := c0_ a1; have c0 := Aa2 a1.out 0) | (refine gl (some 9) Tryz.func53 rfl #[.agg #[.slice a5 a2.length a6]] ?_; refine (Ab9.calls k _ _ a2 a7 _ (cq (Kd.C_below b3.out HB.out)) b4.out A3.out).mono ?_; rintro e w7 ⟨rfl, hb⟩; refine ⟨_, rfl, ?_⟩; replace a1 := bb a1 hb; replace HB := sb HB hb; clear hb))
 have H := g5.out
 clear g5
 by_cases c8 : a7 = 0
 ·rw [if_pos c8] at H
  obtain ⟨a4, d4⟩ := bqt c8; clear c8
  (first | rw [a4] | (simp only [Ae6, Ae7]; rw [a4]) | skip)
  by_cases c9 : (l1.length : Int) = (a2.length : Int)
  ·rw [if_pos c9] at H
   have d5 : ((l1.length : Int) == (a2.length : Int)) = true := beq_iff_eq.mpr c9
   have d6 : ((l1.length : Int) != (a2.length : Int)) = false := bne_eq_false_iff_eq.mpr c9
   have d7 : (l1.length == a2.length) = true := by first | simpa using c9 | (simp at c9 ⊢; omega)
   clear c9
   obtain ⟨a8, h5, H⟩ := ob H
   try dsimp only at H
   have d8 := am H
   clear H
   have a9 := c0_ a1
   have b0 := Aa2 a1.out 0
   go_upto_if 21 with (first | (refine gl (some 21) Tryz.func54 rfl #[.slice A1 l1.length c1, .func (.func 55) #[] #[.pointer (some ⟨b5, 0, none⟩)]] ?_; refine (Ae2.calls k _ _ l1 _ [(⟨a2⟩ : S36)] a8 _ (cq (Kd.C_below g0.out HB.out)) g4.out (Ao2 (bq a1.out) (cq (Kd.C_below b3.out HB.out)) (by exact b4.out)) h5.out).mono ?_; rintro e h9 ⟨rfl, hb⟩; refine ⟨_, rfl, ?_⟩; replace a1 := bb a1 hb; replace HB := sb HB hb; clear hb))
   have H := d8.out
   clear d8
   by_cases d9 : a8 = true
   ·subst d9
    rw [if_pos rfl] at H
    obtain rfl := Option.some.inj H
    go_wp2
    go_ret
    exact ⟨er, hs HB.out⟩
   ·replace d9 := Bool.eq_false_iff.mpr d9
    subst d9
    rw [if_neg (show ¬ (false = true) by decide)] at H
    have H' := am H
    clear H
    go_wp2
    go_loopg [24] k (fun kq h6 w' => ∃ (a0 : Int), h6 = .int .i64 a0 ∧ Aside0 (Ag2.l0 kq l1 l1 (l1.length : Int) a0 = some r) ∧ Aside0 (kq ≤ k) ∧ Aside0 (w'.heap[b5]? = some (.cells #[(.slice a5 a2.length a6)] 36 (0, 0))) ∧ Aside0 (Below w.heap.size w w'))
    case atStart => exact ⟨(0), et, H', ⟨Nat.le_refl _⟩, ⟨bq a1.out⟩, ⟨hs HB.out⟩⟩
    case round =>
     clear H'
     try clear c1; try clear c8; try clear a4; try clear d4; try clear c9; try clear d5; try clear d6; try clear d7; try clear d9; try clear a9; try clear b9; try clear b0; try clear c0
     obtain ⟨a0, rfl, HA, g7, a1, HB⟩ := hrel
     cases gk with
     | zero => exact absurd HA.out (by simp [Ag2.l0])
     | succ k1 =>
      have H := HA.out
      clear HA
      simp only [Ag2.l0] at H
      by_cases d2 : a0 < (l1.length : Int)
      ·rw [if_pos d2] at H
       have e0 := decide_eq_true d2
       clear d2
       obtain ⟨g8, H⟩ := ife H
       obtain ⟨g9, H⟩ := ife H
       have h0 := eq_true (of_decide_eq_true (by first | (with_reducible assumption) | assumption) : 0 ≤ a0)
       obtain ⟨h2, h3, H⟩ := ifd H
       obtain ⟨e1, h7, H⟩ := ob H
       try dsimp only at H
       have e2 := am H
       clear H
       have d0 : 0 ≤ (a0 : Int) := od
       have d1 : a0 < (l1.length : Int) := od
       obtain ⟨b6, g1, a3⟩ := Kd.at_int g0.out a0 d0 d1
       cases g1
       replace a3 := cz HB.out a3
       obtain ⟨d0, d1⟩ := ee d0 d1
       obtain ⟨h8, b7, _, b8, _⟩ := info_parts Au1
       obtain ⟨hcut22, e3, e4⟩ := print_take_of (P := Tryz.prog) (Value.int .i64) 0 25 2 .i64 Tryz.underlying25 b7 b8 (some b6) c1 l1 a0 od od g4.out
       have e5 := am (Kd.C_of_reads (h1 := fun _ => rfl) (e3 _ (Kd.reads_of_C g0.out)))
       have e6 := am e4
       clear e3 e4 b7 b8
       go_upto_if 33 with (first | ((with_reducible refine Ax5 (f := 57) rfl ?_); refine Bh5 (some 33) rfl rfl Tryz.func57 (by kernel_rfl) rfl #[.slice (some b6) (l1.take (a0 : Int).toNat).length c1, .int .i64 (rd l1 a0)] rfl (by (try simp only [List.map_toArray, List.map_cons, List.map_nil]); first | done | (rw [show (l1.take (a0 : Int).toNat).length = a0.toNat from (by rw [List.length_take]; have h_ : (a0 : Int) ≤ (l1.length : Int) := od; omega)] <;> rfl) | rfl | (simp only [List.length_drop, List.length_take]; rfl)) ?_; refine (Ad0.calls k1 _ _ (l1.take (a0 : Int).toNat) (rd l1 a0) e1 _ (cq (Kd.C_below e5.out HB.out)) e6.out h7.out).mono ?_; rintro e w' ⟨rfl, ⟨nd, rfl⟩⟩; refine ⟨_, rfl, ?_⟩))
       have H := e2.out
       clear e2
       by_cases e7 : e1 = true
       ·subst e7
        rw [if_pos rfl] at H
        obtain rfl := Option.some.inj H
        go_wp2
        go_ret
        exact ⟨er, hs HB.out⟩
       ·replace e7 := Bool.eq_false_iff.mpr e7
        subst e7
        rw [if_neg (show ¬ (false = true) by decide)] at H
        have H' := am H
        clear H
        go_wp2
        go_roundg k1
        case measure => have := g7.out; omega
        case rel => exact ⟨(wrap64 (a0 + 1)), et, H', ⟨by have := g7.out; omega⟩, ⟨bq a1.out⟩, ⟨hs HB.out⟩⟩
      ·rw [if_neg d2] at H
       have e0 := decide_eq_false d2
       clear d2
       obtain rfl := Option.some.inj H
       go_wp2
       go_ret
       exact ⟨er, hs HB.out⟩
  ·rw [if_neg c9] at H
   obtain ⟨d5, d6⟩ := bqf c9
   have d7 : (l1.length == a2.length) = false := by first | simpa using c9 | (simp at c9 ⊢; omega)
   obtain rfl := Option.some.inj H
   have e8 := c0_ a1
   have e9 := Aa2 a1.out 0
   go_wp2
   go_ret
   exact ⟨er, hs HB.out⟩
 ·rw [if_neg c8] at H
  obtain ⟨a4, d4⟩ := bqf c8
  (first | rw [a4] | (simp only [Ae6, Ae7]; rw [a4]) | skip)
  obtain rfl := Option.some.inj H
  go_wp2
  go_ret
  exact ⟨er, hs HB.out⟩
def Am9.f (a0 : List (S79)) (a1 : Int) : Option (Int) := if a1 < 0 then (some 0) else (if 0 ≤ a1 then (if a1 < (a0.length : Int) then (some ((Ac2 a0 a1).f1)) else (none)) else (none))
theorem Am9.calls (a8 : Option Addr) (a9 : Nat) (a0 : List (S79)) (a1 : Int) (r : Int) (w : World) (a5 : Kd.C k79 w a8 a0.length a0) (a6 : a0.length ≤ a9) (h : Am9.f a0 a1 = some r) :
  Calls Tryz.prog 87 #[.agg #[.slice a8 a0.length a9], .int .i64 a1] w fun e w' => e = .returned (.int .i64 r) ∧ Below w.heap.size w w' := by
 have d0 := Tryz.underlying36
 have b2 := am a5
 have b7 := am a6
 clear a5 a6
 have HB := am (Below.refl w.heap.size w)
 have H : (if a1 < 0 then (some 0) else (if 0 ≤ a1 then (if a1 < (a0.length : Int) then (some ((Ac2 a0 a1).f1)) else (none)) else (none))) = some r := h
 clear h
 have b8 := am H
 clear H
 go_enter Tryz.func87, Tryz.ntmps87
 go_upto_if 6 with (first | (refine bx 2 rfl #[.slice a8 a0.length a9] 36 ?_; intro b9 hg w4 hbox hb; have a7 := am (hbox); have b3 := am (bz hg (hq HB.out)); replace HB := sb HB hb; have c0 := b3; clear hb hbox hg))
 have H := b8.out
 clear b8
 by_cases c5 : a1 < 0
 ·rw [if_pos c5] at H
  have a4 := decide_eq_true c5
  clear c5
  (first | rw [a4] | (simp only [Ae6, Ae7]; rw [a4]) | skip)
  obtain rfl := Option.some.inj H
  go_wp2
  go_ret
  exact ⟨er, hs HB.out⟩
 ·rw [if_neg c5] at H
  have a4 := decide_eq_false c5
  clear c5
  (first | rw [a4] | (simp only [Ae6, Ae7]; rw [a4]) | skip)
  obtain ⟨d1, H⟩ := ife H
  obtain ⟨d2, H⟩ := ife H
  obtain rfl := Option.some.inj H
  have b4 := c0_ a7
  have b5 := Aa2 a7.out 0
  have b0 : 0 ≤ (a1 : Int) := od
  have b1 : a1 < (a0.length : Int) := od
  obtain ⟨c1, b6, a2, a3⟩ := Ap3 b2.out a1 b0 b1
  cases b6
  replace a2 := cz HB.out a2
  replace a3 := cz HB.out a3
  obtain ⟨b0, b1⟩ := ee b0 b1
  go_wp2
  go_ret
  exact ⟨er, hs HB.out⟩
def Ae5.l0 : Nat → List Int → Int → Int → List (S79) → Option (Int)
 | 0, _, _, _, _ => none
 | k + 1, x1, x2, x7, a0 => if x7 > 0 then (if x2 ≥ (x1.length : Int) then (some (wrap64 ((x1.length : Int) + 1))) else (if 0 ≤ x2 then (if x2 < (x1.length : Int) then ((Am9.f a0 (rd x1 x2)).bind fun a1 => (Ae5.l0 k x1 (wrap64 (x2 + 1)) (wrap64 (x7 + (wrap64 (a1 - 1)))) a0)) else (none)) else (none))) else (some x2)
def Ae5.f (k : Nat) (a0 : List (S79)) (l1 : List Int) (a2 : Int) : Option (Int) := Ae5.l0 k l1 a2 1 a0
theorem Ae5.mono_l : ∀ k, (∀ y0 y1 y2 y3, LeO (Ae5.l0 k y0 y1 y2 y3) (Ae5.l0 (k + 1) y0 y1 y2 y3))
 | 0 => fun _ _ _ _ r h => by simp [Ae5.l0] at h
 | k + 1 => by
  have a0 := Ae5.mono_l k
  ·intro y0 y1 y2 y3
   unfold Ae5.l0
   repeat' first | (with_reducible first | apply a0 | exact LeO.refl _ | exact LeO.none _ | refine LeO.ite ?_ ?_ | refine LeO.bind ?_ (fun _ => ?_)) | apply a0 | exact LeO.none _ | refine LeO.ite ?_ ?_ | refine LeO.bind ?_ (fun _ => ?_)
theorem Ae5.mono : ∀ a0 a1 a2 k, LeO (Ae5.f k a0 a1 a2) (Ae5.f (k + 1) a0 a1 a2) := by
 intro a0 a1 a2 k
 have a3 := Ae5.mono_l k
 unfold Ae5.f
 repeat' first | (with_reducible first | apply a3 | exact LeO.refl _ | exact LeO.none _ | refine LeO.ite ?_ ?_ | refine LeO.bind ?_ (fun _ => ?_)) | apply a3 | exact LeO.none _ | refine LeO.ite ?_ ?_ | refine LeO.bind ?_ (fun _ => ?_)
def Ae5.T6 : Bool × List (List Nat × List Nat) := (true, [([], []), ([], []), ([], []), ([], []), ([2, 3], [2, 3]), ([4], [4]), ([1, 5], [1, 5]), ([6], [6]), ([0, 7], [0, 7]), ([8, 6, 0, 1, 2, 3, 4, 5, 6, 7, 8], [0, 8])])
def Ae5.B6 : List Nat := [0, 0, 0, 0, 12, 28, 62, 126, 255, 511]
theorem Ae5.tab6 : Au3 .any (Au5 Tryz.f60 6) = Ae5.T6 := by kernel_rfl
theorem Ae5.bits6 : Al2 Ae5.T6.2 Ae5.B6 = true := by kernel_rfl
theorem Ae5.calls (k : Nat) (a6 : Option Addr) (a7 : Nat) (a1 : List (S79)) (A1 : Option Addr) (c1 : Nat) (l1 : List Int) (a2 : Int) (r : Int) (w : World) (b0 : Kd.C k79 w a6 a1.length a1) (b1 : a1.length ≤ a7) (d2 : Kd.C (Kd.int .i64) w A1 l1.length l1) (d3 : l1.length ≤ c1) (h : Ae5.f k a1 l1 a2 = some r) :
  Calls Tryz.prog 60 #[.agg #[.slice a6 a1.length a7], .slice A1 l1.length c1, .int .i64 a2] w fun e w' => e = .returned (.int .i64 r) ∧ Below w.heap.size w w' := by
 have d7 := Tryz.underlying36
 have b5 := am b0
 have b6 := am b1
 clear b0 b1
 have d8 := am d2
 have e1 := am d3
 clear d2 d3
 have HB := am (Below.refl w.heap.size w)
 have H : (Ae5.l0 k l1 a2 1 a1) = some r := h
 clear h
 have H' := am H
 clear H
 go_enter Tryz.func60, Tryz.ntmps60
 go_wp2_with (first | (refine bx 3 rfl #[.slice a6 a1.length a7] 36 ?_; intro b2 hg w4 hbox hb; have a0 := am (hbox); have b7 := am (bz hg (hq HB.out)); replace HB := sb HB hb; have d4 := b7; clear hb hbox hg))
 go_loopg [2, 7] k (fun kq v2 v7 w' => ∃ (a3 : Int) (a8 : Int), v2 = .int .i64 a3 ∧ v7 = .int .i64 a8 ∧ Aside0 (Ae5.l0 kq l1 a3 a8 a1 = some r) ∧ Aside0 (kq ≤ k) ∧ Aside0 (w'.heap[b2]? = some (.cells #[(.slice a6 a1.length a7)] 36 (0, 0))) ∧ Aside0 (Below w.heap.size w w'))
 case atStart => exact ⟨(a2), (1), et, et, H', ⟨Nat.le_refl _⟩, ⟨bq a0.out⟩, ⟨hs HB.out⟩⟩
 case round =>
  clear H'
  try clear c1
  obtain ⟨a3, a8, rfl, rfl, HA, d5, a0, HB⟩ := hrel
  cases gk with
  | zero => exact absurd HA.out (by simp [Ae5.l0])
  | succ k1 =>
   have H := HA.out
   clear HA
   simp only [Ae5.l0] at H
   by_cases c5 : a8 > 0
   ·rw [if_pos c5] at H
    have c0 := decide_eq_true c5
    clear c5
    by_cases c6 : a3 ≥ (l1.length : Int)
    ·rw [if_pos c6] at H
     have d0 := decide_eq_true c6
     clear c6
     obtain rfl := Option.some.inj H
     go_wp2
     go_ret
     exact ⟨er, hs HB.out⟩
    ·rw [if_neg c6] at H
     have d0 := decide_eq_false c6
     clear c6
     obtain ⟨d9, H⟩ := ife H
     obtain ⟨e0, H⟩ := ife H
     obtain ⟨b8, A9, H⟩ := ob H
     try dsimp only at H
     have H' := am H
     clear H
     try go_wp2
     replace a0 := am (Ah2 a0.out)
     replace HB := am (Af1 HB.out)
     have b3 : 0 ≤ (a3 : Int) := od
     have b4 : a3 < (l1.length : Int) := od
     obtain ⟨b9, d1, a4⟩ := Kd.at_int d8.out a3 b3 b4
     have a5 := a4
     cases d1
     replace a4 := cz HB.out a4
     obtain ⟨b3, b4⟩ := ee b3 b4
     refine st_ (n := 10) (S := fun w' => w'.cell? ⟨b2, 0, none⟩ = some (.slice a6 a1.length a7) ∧ w'.cell? (b9.add (a3).toNat) = some (.int .i64 (rd l1 a3))) (ds := []) ⟨(Ad1 a0.out 0).trans rfl, (cz HB.out a5)⟩ (fun hHeld => ?_); refine Ah6 Ae5.tab6 Ae5.bits6 (fun a9 d6 => ?_)
     generalize wr.drew = e2 at a0 HB a4 hHeld ⊢
     refine pu 0 19 rfl rfl a9 ?_
     refine pu 2 21 rfl rfl a9 ?_
     refine pu 3 22 rfl rfl a9 ?_
     refine pu 4 23 rfl rfl a9 ?_
     refine tk 1 20 rfl rfl a9 d6 hHeld ?_
     refine tk 5 24 rfl rfl a9 d6 hHeld ?_
     refine on_ 6 (some 25) rfl rfl a9 (fun K hK => ?_)
     refine gs Tryz.func87 #[.agg #[.slice a6 a1.length a7], .int .i64 (rd l1 a3)] ?_
     refine (Am9.calls _ _ a1 (rd l1 a3) b8 _ (cq (Kd.C_below b5.out HB.out)) b6.out A9.out).mono ?_
     rintro e e3 ⟨rfl, hb⟩
     refine ⟨_, rfl, ?_⟩
     replace a0 := bb a0 hb
     replace HB := sb HB hb
     (try clear hb)
     refine hK.out _ _ ⟨(Ad1 a0.out 0).trans rfl, (cz HB.out a5)⟩ (fun hHeld => ?_)
     clear hK K
     refine nr (some 25) ?_
     refine pu 7 26 rfl rfl a9 ?_
     refine pu 8 27 rfl rfl a9 ?_
     refine pu 9 7 rfl rfl a9 ?_
     refine Ar3 (Al8 a9.out (by kernel_rfl)) ?_
     try go_wp2
     go_roundg k1
     case measure => have := d5.out; omega
     case rel => exact ⟨(wrap64 (a3 + 1)), (wrap64 (a8 + (wrap64 (b8 - 1)))), et, et, H', ⟨by have := d5.out; omega⟩, ⟨bq a0.out⟩, ⟨hs HB.out⟩⟩
   ·rw [if_neg c5] at H
    have c0 := decide_eq_false c5
    clear c5
    obtain rfl := Option.some.inj H
    go_wp2
    go_ret
    exact ⟨er, hs HB.out⟩
def Ar8.f (a0 : List (S79)) (a1 : Int) : Option (Bool) := (Al4.f a0 a1).bind fun a2 => (if a2 = true then (some true) else ((Am5.f a1 (-12) (-1)).bind fun a3 => (some a3)))
theorem Ar8.calls (a3 : Option Addr) (a4 : Nat) (a2 : List (S79)) (a1 : Int) (r : Bool) (w : World) (a6 : Kd.C k79 w a3 a2.length a2) (a7 : a2.length ≤ a4) (h : Ar8.f a2 a1 = some r) :
  Calls Tryz.prog 59 #[.agg #[.slice a3 a2.length a4], .int .i64 a1] w fun e w' => e = .returned (.bool r) ∧ Below w.heap.size w w' := by
 have b8 := Tryz.underlying36
 have a8 := am a6
 have a9 := am a7
 clear a6 a7
 have HB := am (Below.refl w.heap.size w)
 have H : ((Al4.f a2 a1).bind fun b0 => (if b0 = true then (some true) else ((Am5.f a1 (-12) (-1)).bind fun b1 => (some b1)))) = some r := h
 clear h
 obtain ⟨b0, A3, H⟩ := ob H
 try dsimp only at H
 by_cases c4 : b0 = true
 ·subst c4
  rw [if_pos rfl] at H
  obtain rfl := Option.some.inj H
  go_enter Tryz.func59, Tryz.ntmps59
  go_wp2_with (first | (refine bx 2 rfl #[.slice a3 a2.length a4] 36 ?_; intro b2 hg w5 hbox hb; have a0 := am (hbox); have a5 := am (bz hg (hq HB.out)); replace HB := sb HB hb; have b3 := a5; clear hb hbox hg; have b6 := c0_ a0; have b7 := Aa2 a0.out 0) | (refine gl (some 7) Tryz.func56 rfl #[.agg #[.slice a3 a2.length a4], .int .i64 a1] ?_; refine (Al4.calls _ _ a2 a1 true _ (cq (Kd.C_below a8.out HB.out)) a9.out A3.out).mono ?_; rintro e w7 ⟨rfl, hb⟩; refine ⟨_, rfl, ?_⟩; replace a0 := bb a0 hb; replace HB := sb HB hb; clear hb))
  go_ret
  exact ⟨er, hs HB.out⟩
 ·replace c4 := Bool.eq_false_iff.mpr c4
  subst c4
  rw [if_neg (show ¬ (false = true) by decide)] at H
  obtain ⟨b1, A8, H⟩ := ob H
  try dsimp only at H
  obtain rfl := Option.some.inj H
  go_enter Tryz.func59, Tryz.ntmps59
  go_wp2_with (first | (refine bx 2 rfl #[.slice a3 a2.length a4] 36 ?_; intro b2 hg w9 hbox hb; have a0 := am (hbox); have a5 := am (bz hg (hq HB.out)); replace HB := sb HB hb; have b3 := a5; clear hb hbox hg; have b4 := c0_ a0; have b5 := Aa2 a0.out 0) | (refine gl (some 7) Tryz.func56 rfl #[.agg #[.slice a3 a2.length a4], .int .i64 a1] ?_; refine (Al4.calls _ _ a2 a1 false _ (cq (Kd.C_below a8.out HB.out)) a9.out A3.out).mono ?_; rintro e b9 ⟨rfl, hb⟩; refine ⟨_, rfl, ?_⟩; replace a0 := bb a0 hb; replace HB := sb HB hb; clear hb) | (go_at_call 81; refine (Am5.calls a1 (-12) (-1) b1 _ A8.out).mono ?_; rintro e w' ⟨rfl, ⟨nd, rfl⟩⟩))
  go_ret
  exact ⟨er, hs HB.out⟩
def Am3.f (a0 : Int) (l1 : List (S36)) : Option (Bool) := if 0 < (l1.length : Int) then ((Ar8.f ((Ad6 l1 0).f0) a0).bind fun a1 => (some (!a1))) else (none)
theorem Am3.calls (a0 : Int) (A1 : Option Addr) (l1 : List (S36)) (r : Bool) (w : World) (b2 : Kd.C k36 w A1 l1.length l1) (h : Am3.f a0 l1 = some r) :
  Calls Tryz.prog 58 #[.int .i64 a0, .pointer A1] w fun e w' => e = .returned (.bool r) ∧ Below w.heap.size w w' := by
 have b5 := Tryz.underlying36
 have b6 := am b2
 clear b2
 have HB := am (Below.refl w.heap.size w)
 have H : (if 0 < (l1.length : Int) then ((Ar8.f ((Ad6 l1 0).f0) a0).bind fun a6 => (some (!a6))) else (none)) = some r := h
 clear h
 obtain ⟨c3, H⟩ := ifs H
 have b7 := decide_eq_true c3
 have b8 : decide (0 < l1.length) = true := decide_eq_true (by omega)
 clear c3
 obtain ⟨a6, A4, H⟩ := ob H
 try dsimp only at H
 obtain rfl := Option.some.inj H
 have a7 : 0 ≤ (0 : Int) := (by omega)
 have a8 : 0 < (l1.length : Int) := od
 obtain ⟨b3, a9, b0, b1, a3, a1, a2⟩ := Aj0 b6.out 0 a7 a8
 cases b1
 have b4 : (0 < l1.length) = True := eq_true (by omega)
 (try simp only [t0_] at a3)
 have a4 := am a2
 have a5 := am a1
 clear a2 a1
 obtain ⟨a7, a8⟩ := ee a7 a8
 go_enter Tryz.func58, Tryz.ntmps58
 go_wp2_with (first | (refine gl (some 6) Tryz.func59 rfl #[.agg #[.slice a9 ((Ad6 l1 0).f0).length b0], .int .i64 a0] ?_; refine (Ar8.calls _ _ ((Ad6 l1 0).f0) a0 a6 _ (cq a4.out) a5.out A4.out).mono ?_; rintro e w5 ⟨rfl, hb⟩; refine ⟨_, rfl, ?_⟩; replace HB := sb HB hb; clear hb))
 go_ret
 exact ⟨er, hq HB.out⟩
def Ab4.l0 : Nat → List Int → Int → Int → List (S36) → Option (Int)
 | 0, _, _, _, _ => none
 | k + 1, x0, x7, x8, a0 => if x8 < x7 then (if 0 ≤ x8 then (if x8 < (x0.length : Int) then ((Am3.f (rd x0 x8) a0).bind fun a1 => (if a1 = true then (some x8) else (Ab4.l0 k x0 x7 (wrap64 (x8 + 1)) a0))) else (none)) else (none)) else (some (-1))
def Ab4.f (k : Nat) (l0 : List Int) (a0 : List (S36)) : Option (Int) := Ab4.l0 k l0 (l0.length : Int) 0 a0
theorem Ab4.calls (k : Nat) (A0 : Option Addr) (c0 : Nat) (l0 : List Int) (a3 : Option Addr) (a2 : List (S36)) (r : Int) (w : World) (b1 : Kd.C (Kd.int .i64) w A0 l0.length l0) (b2 : l0.length ≤ c0) (a4 : Kd.C k36 w a3 a2.length a2) (h : Ab4.f k l0 a2 = some r) :
  Calls Tryz.prog 85 #[.slice A0 l0.length c0, .func (.func 58) #[] #[.pointer a3]] w fun e w' => e = .returned (.int .i64 r) ∧ Below w.heap.size w w' := by
 have b6 := am b1
 have b9 := am b2
 clear b1 b2
 have a7 := am a4
 clear a4
 have HB := am (Below.refl w.heap.size w)
 have H : (Ab4.l0 k l0 (l0.length : Int) 0 a2) = some r := h
 clear h
 have H' := am H
 clear H
 go_enter Tryz.func85, Tryz.ntmps85
 go_wp2
 go_loopg [8] k (fun kq v8 w' => ∃ (a0 : Int), v8 = .int .i64 a0 ∧ Aside0 (Ab4.l0 kq l0 (l0.length : Int) a0 a2 = some r) ∧ Aside0 (kq ≤ k) ∧ Aside0 (Below w.heap.size w w'))
 case atStart => exact ⟨(0), et, H', ⟨Nat.le_refl _⟩, ⟨hq HB.out⟩⟩
 case round =>
  clear H'
  obtain ⟨a0, rfl, HA, b3, HB⟩ := hrel
  cases gk with
  | zero => exact absurd HA.out (by simp [Ab4.l0])
  | succ k1 =>
   have H := HA.out
   clear HA
   simp only [Ab4.l0] at H
   by_cases c3 : a0 < (l0.length : Int)
   ·rw [if_pos c3] at H
    have a9 := decide_eq_true c3
    clear c3
    obtain ⟨b7, H⟩ := ife H
    obtain ⟨b8, H⟩ := ife H
    obtain ⟨a8, A6, H⟩ := ob H
    try dsimp only at H
    have b4 := am H
    clear H
    have a5 : 0 ≤ (a0 : Int) := od
    have a6 : a0 < (l0.length : Int) := od
    obtain ⟨b5, b0, a1⟩ := Kd.at_int b6.out a0 a5 a6
    cases b0
    replace a1 := cz HB.out a1
    obtain ⟨a5, a6⟩ := ee a5 a6
    go_upto_if 16 with (first | ((first | (refine gl (some 16) Tryz.func58 rfl #[.int .i64 (rd l0 a0), .pointer a3] ?_) | ((with_reducible refine Av8 _ rfl ?_); refine Bj8 (some 16) rfl rfl Tryz.func58 (by kernel_rfl) rfl #[.int .i64 (rd l0 a0), .pointer a3] rfl rfl (by first | rfl | (simp <;> first | rfl | exact ⟨rfl, rfl⟩ | exact ⟨rfl, rfl, rfl⟩) | ((try simp only [List.map_toArray, List.map_cons, List.map_nil]); first | done | rfl | (simp only [List.length_drop, List.length_take]; rfl))) ?_)); refine (Am3.calls (rd l0 a0) _ a2 a8 _ (cq (Kd.C_below a7.out HB.out)) A6.out).mono ?_; rintro e w8 ⟨rfl, hb⟩; refine ⟨_, rfl, ?_⟩; replace HB := sb HB hb; clear hb))
    have H := b4.out
    clear b4
    by_cases c9 : a8 = true
    ·subst c9
     rw [if_pos rfl] at H
     obtain rfl := Option.some.inj H
     go_wp2
     go_ret
     exact ⟨er, hq HB.out⟩
    ·replace c9 := Bool.eq_false_iff.mpr c9
     subst c9
     rw [if_neg (show ¬ (false = true) by decide)] at H
     have H' := am H
     clear H
     go_wp2
     go_roundg k1
     case measure => have := b3.out; omega
     case rel => exact ⟨(wrap64 (a0 + 1)), et, H', ⟨by have := b3.out; omega⟩, ⟨hq HB.out⟩⟩
   ·rw [if_neg c3] at H
    have a9 := decide_eq_false c3
    clear c3
    obtain rfl := Option.some.inj H
    go_wp2
    go_ret
    exact ⟨er, hq HB.out⟩
def Ae8.f (k : Nat) (l0 : List Int) (a0 : List (S36)) : Option (Bool) := (Ab4.f k l0 a0).bind fun a1 => (some (decide (a1 ≥ 0)))
theorem Ae8.calls (k : Nat) (A0 : Option Addr) (c0 : Nat) (l0 : List Int) (a2 : Option Addr) (a0 : List (S36)) (r : Bool) (w : World) (a5 : Kd.C (Kd.int .i64) w A0 l0.length l0) (a6 : l0.length ≤ c0) (a1 : Kd.C k36 w a2 a0.length a0) (h : Ae8.f k l0 a0 = some r) :
  Calls Tryz.prog 54 #[.slice A0 l0.length c0, .func (.func 58) #[] #[.pointer a2]] w fun e w' => e = .returned (.bool r) ∧ Below w.heap.size w w' := by
 have a7 := am a5
 have a8 := am a6
 clear a5 a6
 have a4 := am a1
 clear a1
 have HB := am (Below.refl w.heap.size w)
 have H : ((Ab4.f k l0 a0).bind fun a3 => (some (decide (a3 ≥ 0)))) = some r := h
 clear h
 obtain ⟨a3, A3, H⟩ := ob H
 try dsimp only at H
 obtain rfl := Option.some.inj H
 go_enter Tryz.func54, Tryz.ntmps54
 go_wp2_with (first | (refine gl (some 7) Tryz.func85 rfl #[.slice A0 l0.length c0, .func (.func 58) #[] #[.pointer a2]] ?_; refine (Ab4.calls k _ _ l0 _ a0 a3 _ (cq a7.out) a8.out (cq a4.out) A3.out).mono ?_; rintro e w4 ⟨rfl, hb⟩; refine ⟨_, rfl, ?_⟩; replace HB := sb HB hb; clear hb))
 go_ret
 exact ⟨er, hq HB.out⟩
attribute [local go_sem] Ai1 Ah9 Ak5 Ak4 Ah0 Ag9 Ai2 Ai0   -- for this text's walks alone
set_option linter.unusedVariables false
set_option linter.unusedSimpArgs false
def Af9.j0 : Nat → List Int → Bool → List (S79) → Option (Int)
 | 0, _, _, _ => none
 | k + 1, x1, a3, a0 => if a3 = true then (some 2) else ((Ae8.f k x1 [(⟨a0⟩ : S36)]).bind fun a1 => (if a1 = true then (some 3) else ((Ae5.f k a0 x1 0).bind fun a2 => (if a2 = (x1.length : Int) then (some 0) else (some 1)))))
def Af9.f (k : Nat) (a0 : List (S79)) (l1 : List Int) : Option (Int) := (Ab9.f k a0).bind fun a1 => (if a1 = 0 then (if (l1.length : Int) < 1 then (Af9.j0 k l1 true a0) else (Af9.j0 k l1 (decide ((l1.length : Int) > 24)) a0)) else (some a1))
theorem Af9.calls (k : Nat) (a5 : Option Addr) (a6 : Nat) (a1 : List (S79)) (A1 : Option Addr) (c1 : Nat) (l1 : List Int) (r : Int) (w : World) (b1 : Kd.C k79 w a5 a1.length a1) (b2 : a1.length ≤ a6) (d9 : Kd.C (Kd.int .i64) w A1 l1.length l1) (e0 : l1.length ≤ c1) (h : Af9.f k a1 l1 = some r) :
  Calls Tryz.prog 36 #[.agg #[.slice a5 a1.length a6], .slice A1 l1.length c1] w fun e w' => e = .returned (.int .i64 r) ∧ Below w.heap.size w w' := by
 have e6 := Tryz.underlying36
 have a8 := am b1
 have a9 := am b2
 clear b1 b2
 have e1 := am d9
 have e2 := am e0
 clear d9 e0
 have HB := am (Below.refl w.heap.size w)
 have H : ((Ab9.f k a1).bind fun b0 => (if b0 = 0 then (if (l1.length : Int) < 1 then (Af9.j0 k l1 true a1) else (Af9.j0 k l1 (decide ((l1.length : Int) > 24)) a1)) else (some b0))) = some r := h
 clear h
 obtain ⟨b0, A3, H⟩ := ob H
 try dsimp only at H
 have e3 := am H
 clear H
 go_enter Tryz.func36, Tryz.ntmps36
 go_upto_if 9 with (first | ((with_reducible refine An6 (N := 2) rfl ?_); (try (refine Ax0 (by rfl) ?_; dsimp only)); refine Aw4 ?hg (N := 2) ?hd (cs := #[.slice a5 a1.length a6]) (t := 36) ?hr ?_; (case hd => rfl); (case hg => rfl); (case hr => first | (go_simp; done) | (go_simp; rfl)); intro b3 hg w5 hbox hb; have a0 := am (hbox); have b6 := am (bz hg (hq HB.out)); replace HB := sb HB hb; have e4 := b6; clear hb hbox hg; have b4 := c0_ a0; have b5 := Aa2 a0.out 0) | (refine gl (some 7) Tryz.func53 rfl #[.agg #[.slice a5 a1.length a6]] ?_; refine (Ab9.calls k _ _ a1 b0 _ (cq (Kd.C_below a8.out HB.out)) a9.out A3.out).mono ?_; rintro e w7 ⟨rfl, hb⟩; refine ⟨_, rfl, ?_⟩; replace a0 := bb a0 hb; replace HB := sb HB hb; clear hb))
 have H := e3.out
 clear e3
 by_cases c8 : b0 = 0
 ·rw [if_pos c8] at H
  obtain ⟨a7, b7⟩ := bqt c8; clear c8
  (first | rw [a7] | (simp only [Ae6, Ae7]; rw [a7]) | skip)
  have d8 := am H
  clear H
  go_upto_region 4 with (fail)
  go_cut [18] (fun e7 wc => ∃ (kq : Nat) (a4 : Bool), e7 = .bool a4 ∧ Aside0 (Af9.j0 kq l1 a4 a1 = some r) ∧ Aside0 (kq ≤ k) ∧ Aside0 (wc.heap[b3]? = some (.cells #[(.slice a5 a1.length a6)] 36 (0, 0))) ∧ Aside0 (Below w.heap.size w wc))
  case first =>
   have H := d8.out
   clear d8
   by_cases c10 : (l1.length : Int) < 1
   ·rw [if_pos c10] at H
    have a2 := decide_eq_true c10
    have b8 : decide (l1.length < 1) = true := decide_eq_true (by omega)
    clear c10
    (first | rw [a2] | (simp only [Ae6, Ae7]; rw [a2]) | skip)
    have H' := am H
    clear H
    go_wp2
    go_meet
    case rel => exact ⟨_, (true), et, H', lo, ⟨bq a0.out⟩, ⟨hs HB.out⟩⟩
   ·rw [if_neg c10] at H
    have a2 := decide_eq_false c10
    have b8 : decide (l1.length < 1) = false := decide_eq_false (by omega)
    clear c10
    (first | rw [a2] | (simp only [Ae6, Ae7]; rw [a2]) | skip)
    have H' := am H
    clear H
    go_wp2
    go_meet
    case rel => exact ⟨_, (decide ((l1.length : Int) > 24)), et, H', lo, ⟨bq a0.out⟩, ⟨hs HB.out⟩⟩
  case rest =>
   clear d8
   try clear c1; try clear c8; try clear a7; try clear b7; try clear b4; try clear b5
   obtain ⟨kq, a4, rfl, HA, g0, a0, HB⟩ := hcut
   cases kq with
   | zero => exact absurd HA.out (by simp [Af9.j0])
   | succ e5 =>
    have H := HA.out
    clear HA
    simp only [Af9.j0] at H
    by_cases d4 : a4 = true
    ·subst d4
     rw [if_pos rfl] at H
     obtain rfl := Option.some.inj H
     go_wp2
     go_ret
     exact ⟨er, hs HB.out⟩
    ·replace d4 := Bool.eq_false_iff.mpr d4
     subst d4
     rw [if_neg (show ¬ (false = true) by decide)] at H
     obtain ⟨b9, e8, H⟩ := ob H
     try dsimp only at H
     have c0 := am H
     clear H
     go_upto_if 21 with (first | (refine gl (some 21) Tryz.func54 rfl #[.slice A1 l1.length c1, .func (.func 58) #[] #[.pointer (some ⟨b3, 0, none⟩)]] ?_; refine (Ae8.calls e5 _ _ l1 _ [(⟨a1⟩ : S36)] b9 _ (cq (Kd.C_below e1.out HB.out)) e2.out (Ao2 (bq a0.out) (cq (Kd.C_below a8.out HB.out)) (by exact a9.out)) e8.out).mono ?_; rintro e g1 ⟨rfl, hb⟩; refine ⟨_, rfl, ?_⟩; replace a0 := bb a0 hb; replace HB := sb HB hb; clear hb))
     have H := c0.out
     clear c0
     by_cases d5 : b9 = true
     ·subst d5
      rw [if_pos rfl] at H
      obtain rfl := Option.some.inj H
      go_wp2
      go_ret
      exact ⟨er, hs HB.out⟩
     ·replace d5 := Bool.eq_false_iff.mpr d5
      subst d5
      rw [if_neg (show ¬ (false = true) by decide)] at H
      obtain ⟨d0, e9, H⟩ := ob H
      try dsimp only at H
      have d1 := am H
      clear H
      have d6 := c0_ a0
      have d7 := Aa2 a0.out 0
      go_upto_if 27 with (first | (refine gl (some 24) Tryz.func60 rfl #[.agg #[.slice a5 a1.length a6], .slice A1 l1.length c1, .int .i64 0] ?_; refine (Ae5.calls e5 _ _ a1 _ _ l1 0 d0 _ (cq (Kd.C_below a8.out HB.out)) a9.out (cq (Kd.C_below e1.out HB.out)) e2.out e9.out).mono ?_; rintro e g2 ⟨rfl, hb⟩; refine ⟨_, rfl, ?_⟩; replace a0 := bb a0 hb; replace HB := sb HB hb; clear hb))
      have H := d1.out
      clear d1
      by_cases d2 : d0 = (l1.length : Int)
      ·rw [if_pos d2] at H
       obtain ⟨a3, d3⟩ := bqt d2; clear d2
       (first | rw [a3] | (simp only [Ae6, Ae7]; rw [a3]) | skip)
       obtain rfl := Option.some.inj H
       go_wp2
       go_ret
       exact ⟨er, hs HB.out⟩
      ·rw [if_neg d2] at H
       obtain ⟨a3, d3⟩ := bqf d2
       (first | rw [a3] | (simp only [Ae6, Ae7]; rw [a3]) | skip)
       obtain rfl := Option.some.inj H
       go_wp2
       go_ret
       exact ⟨er, hs HB.out⟩
 ·rw [if_neg c8] at H
  obtain ⟨a7, b7⟩ := bqf c8
  (first | rw [a7] | (simp only [Ae6, Ae7]; rw [a7]) | skip)
  obtain rfl := Option.some.inj H
  go_wp2
  go_ret
  exact ⟨er, hs HB.out⟩
def Ab3.l0 : Nat → List Int → List Int → Int → Int → Option (Bool)
 | 0, _, _, _, _ => none
 | k + 1, x0, x1, a1, a0 => if a0 < a1 then (if 0 ≤ a0 then (if a0 < (x0.length : Int) then (if a0 < (x1.length : Int) then (if (rd x0 a0) = (rd x1 a0) then (Ab3.l0 k x0 x1 a1 (wrap64 (a0 + 1))) else (some false)) else (none)) else (none)) else (none)) else (some true)
def Ab3.f (k : Nat) (l0 : List Int) (l1 : List Int) : Option (Bool) := if (l0.length : Int) = (l1.length : Int) then (Ab3.l0 k l0 l1 (l0.length : Int) 0) else (some false)
theorem Ab3.mono_l : ∀ k, (∀ y0 y1 y2 y3, LeO (Ab3.l0 k y0 y1 y2 y3) (Ab3.l0 (k + 1) y0 y1 y2 y3))
 | 0 => fun _ _ _ _ r h => by simp [Ab3.l0] at h
 | k + 1 => by
  have a0 := Ab3.mono_l k
  ·intro y0 y1 y2 y3
   unfold Ab3.l0
   repeat' first | (with_reducible first | apply a0 | exact LeO.refl _ | exact LeO.none _ | refine LeO.ite ?_ ?_ | refine LeO.bind ?_ (fun _ => ?_)) | apply a0 | exact LeO.none _ | refine LeO.ite ?_ ?_ | refine LeO.bind ?_ (fun _ => ?_)
theorem Ab3.mono : ∀ a0 a1 k, LeO (Ab3.f k a0 a1) (Ab3.f (k + 1) a0 a1) := by
 intro a0 a1 k
 have a2 := Ab3.mono_l k
 unfold Ab3.f
 repeat' first | (with_reducible first | apply a2 | exact LeO.refl _ | exact LeO.none _ | refine LeO.ite ?_ ?_ | refine LeO.bind ?_ (fun _ => ?_)) | apply a2 | exact LeO.none _ | refine LeO.ite ?_ ?_ | refine LeO.bind ?_ (fun _ => ?_)
theorem Ab3.calls (k : Nat) (A0 : Option Addr) (c0 : Nat) (l0 : List Int) (A1 : Option Addr) (c1 : Nat) (l1 : List Int) (r : Bool) (w : World) (b7 : Kd.C (Kd.int .i64) w A0 l0.length l0) (b8 : l0.length ≤ c0) (b9 : Kd.C (Kd.int .i64) w A1 l1.length l1) (d0 : l1.length ≤ c1) (h : Ab3.f k l0 l1 = some r) :
  Calls Tryz.prog 61 #[.slice A0 l0.length c0, .slice A1 l1.length c1] w fun e w' => e = .returned (.bool r) ∧ Drawn0 w w' := by
 have d1 := am b7
 have d8 := am b8
 clear b7 b8
 have d2 := am b9
 have d9 := am d0
 clear b9 d0
 have H : (if (l0.length : Int) = (l1.length : Int) then (Ab3.l0 k l0 l1 (l0.length : Int) 0) else (some false)) = some r := h
 clear h
 by_cases c3 : (l0.length : Int) = (l1.length : Int)
 ·rw [if_pos c3] at H
  have a9 : ((l0.length : Int) == (l1.length : Int)) = true := beq_iff_eq.mpr c3
  have b0 : ((l0.length : Int) != (l1.length : Int)) = false := bne_eq_false_iff_eq.mpr c3
  have b1 : (l0.length == l1.length) = true := by first | simpa using c3 | (simp at c3 ⊢; omega)
  clear c3
  have H' := am H
  clear H
  go_enter Tryz.func61, Tryz.ntmps61
  go_wp2
  repeat (go_quiet (fail); try go_wp2)
  go_loopg [13] k (fun kq d4 w' => ∃ (a0 : Int), d4 = .int .i64 a0 ∧ Aside0 (Ab3.l0 kq l0 l1 (l0.length : Int) a0 = some r) ∧ Aside0 (kq ≤ k) ∧ Drawn0 w w')
  case atStart => exact ⟨(0), et, H', ⟨Nat.le_refl _⟩, dn⟩
  case round =>
   clear H'
   try clear c1; try clear c3; try clear a9; try clear b0; try clear b1
   obtain ⟨a0, rfl, HA, d3, ⟨m1, rfl⟩⟩ := hrel
   cases gk with
   | zero => exact absurd HA.out (by simp [Ab3.l0])
   | succ k1 =>
    have H := HA.out
    clear HA
    simp only [Ab3.l0] at H
    by_cases c4 : a0 < (l0.length : Int)
    ·rw [if_pos c4] at H
     have b4 := decide_eq_true c4
     clear c4
     obtain ⟨d5, H⟩ := ife H
     obtain ⟨d6, H⟩ := ife H
     obtain ⟨d7, H⟩ := ife H
     by_cases c8 : (rd l0 a0) = (rd l1 a0)
     ·rw [if_pos c8] at H
      obtain ⟨b5, b6⟩ := bqt c8; clear c8
      have H' := am H
      clear H
      have a1 : 0 ≤ (a0 : Int) := od
      have a2 : a0 < (l0.length : Int) := od
      obtain ⟨b2, a7, a5⟩ := Kd.at_int d1.out a0 a1 a2
      cases a7
      obtain ⟨a1, a2⟩ := ee a1 a2
      have a3 : 0 ≤ (a0 : Int) := od
      have a4 : a0 < (l1.length : Int) := od
      obtain ⟨b3, a8, a6⟩ := Kd.at_int d2.out a0 a3 a4
      cases a8
      obtain ⟨a3, a4⟩ := ee a3 a4
      go_wp2
      repeat (go_quiet (fail); try go_wp2)
      go_roundg k1
      case measure => have := d3.out; omega
      case rel => exact ⟨(wrap64 (a0 + 1)), et, H', ⟨by have := d3.out; omega⟩, dn⟩
     ·rw [if_neg c8] at H
      obtain ⟨b5, b6⟩ := bqf c8
      obtain rfl := Option.some.inj H
      have a1 : 0 ≤ (a0 : Int) := od
      have a2 : a0 < (l0.length : Int) := od
      obtain ⟨b2, a7, a5⟩ := Kd.at_int d1.out a0 a1 a2
      cases a7
      obtain ⟨a1, a2⟩ := ee a1 a2
      have a3 : 0 ≤ (a0 : Int) := od
      have a4 : a0 < (l1.length : Int) := od
      obtain ⟨b3, a8, a6⟩ := Kd.at_int d2.out a0 a3 a4
      cases a8
      obtain ⟨a3, a4⟩ := ee a3 a4
      go_wp2
      repeat (go_quiet (fail); try go_wp2)
      go_ret
      exact ⟨et, dn⟩
    ·rw [if_neg c4] at H
     have b4 := decide_eq_false c4
     clear c4
     obtain rfl := Option.some.inj H
     go_wp2
     repeat (go_quiet (fail); try go_wp2)
     go_ret
     exact ⟨et, dn⟩
 ·rw [if_neg c3] at H
  obtain ⟨a9, b0⟩ := bqf c3
  have b1 : (l0.length == l1.length) = false := by first | simpa using c3 | (simp at c3 ⊢; omega)
  obtain rfl := Option.some.inj H
  go_enter Tryz.func61, Tryz.ntmps61
  go_wp2
  repeat (go_quiet (fail); try go_wp2)
  go_ret
  exact ⟨et, dn⟩
def Ag6.f (k : Nat) (a1 : List (S79)) (l1 : List Int) (a2 : Int) : Option (List Int) := (Ae5.f k a1 l1 a2).bind fun a0 => (if 0 ≤ a2 then (if a2 ≤ a0 then (if a0 ≤ (l1.length : Int) then (some ((l1.take (a0 : Int).toNat).drop (a2 : Int).toNat)) else (none)) else (none)) else (none))
theorem Ag6.mono : ∀ a0 a1 a2 k, LeO (Ag6.f k a0 a1 a2) (Ag6.f (k + 1) a0 a1 a2) := by
 intro a0 a1 a2 k
 unfold Ag6.f
 repeat' first | (with_reducible first | apply Ae5.mono | exact LeO.refl _ | exact LeO.none _ | refine LeO.ite ?_ ?_ | refine LeO.bind ?_ (fun _ => ?_)) | apply Ae5.mono | exact LeO.none _ | refine LeO.ite ?_ ?_ | refine LeO.bind ?_ (fun _ => ?_)
theorem Ag6.calls (k : Nat) (a8 : Option Addr) (a9 : Nat) (a1 : List (S79)) (d3 : Nat → Prop) (A1 : Option Addr) (c1 : Nat) (l1 : List Int) (a2 : Int) (r : List Int) (w : World) (b2 : Kd.C k79 w a8 a1.length a1) (b3 : a1.length ≤ a9) (e4 : Kd.V (Kd.int .i64) 2 w w.heap.size (fun k_ => d3 k_) (.slice A1 l1.length c1) l1) (h : Ag6.f k a1 l1 a2 = some r) :
  Calls Tryz.prog 114 #[.agg #[.slice a8 a1.length a9], .slice A1 l1.length c1, .int .i64 a2] w fun e w' => ∃ d9 : Value, e = .returned (d9) ∧ Kd.V (Kd.int .i64) 2 w' w.heap.size (fun k_ => (d3 k_ ∨ w.heap.size ≤ k_)) d9 r ∧ Below w.heap.size w w' := by
 have e5 := Tryz.underlying36
 have b8 := am b2
 have b9 := am b3
 clear b2 b3
 have b4 := am (show Kd.V (Kd.int .i64) 2 w w.heap.size (fun k_ => (d3 k_ ∨ w.heap.size ≤ k_)) (.slice A1 l1.length c1) l1 from Kd.V_mono e4 (fun k_ hk => .inl hk))
 have HB := am (Below.refl w.heap.size w)
 have H : ((Ae5.f k a1 l1 a2).bind fun a0 => (if 0 ≤ a2 then (if a2 ≤ a0 then (if a0 ≤ (l1.length : Int) then (some ((l1.take (a0 : Int).toNat).drop (a2 : Int).toNat)) else (none)) else (none)) else (none))) = some r := h
 clear h
 obtain ⟨a0, A4, H⟩ := ob H
 try dsimp only at H
 obtain ⟨e6, e7, H⟩ := ifd H
 obtain ⟨e8, e9, H⟩ := ifd H
 obtain ⟨g0, g1, H⟩ := ifd H
 obtain ⟨a3, a4⟩ : ∃ y_ : List Int, y_ = ((l1.take (a0 : Int).toNat).drop (a2 : Int).toNat) := ⟨_, rfl⟩
 replace H : (some a3) = some r := by first | (rw [a4]; first | with_reducible exact H | with_reducible exact bs H) | with_reducible exact bs H | with_reducible exact H | (rw [a4]; exact H) | exact H
 have b5 := am a4
 clear a4
 obtain rfl := Option.some.inj H
 go_enter Tryz.func114, Tryz.ntmps114
 go_wp2_with (first | (refine bx 3 rfl #[.slice a8 a1.length a9] 36 ?_; intro c0 hg w8 hbox hb; replace b4 := am (Kd.V_below (Kd.V_elderB (vq b4.out) c0 (Nat.le_of_eq hg.symm)) hb); have a5 := am (hbox); have d0 := am (bz hg (hq HB.out)); replace HB := sb HB hb; have e0 := d0; clear hb hbox hg; have d4 := c0_ a5; have d5 := Aa2 a5.out 0) | (refine gl (some 12) Tryz.func60 rfl #[.agg #[.slice a8 a1.length a9], .slice A1 l1.length c1, .int .i64 a2] ?_; refine (Ae5.calls k _ _ a1 _ _ l1 a2 a0 _ (cq (Kd.C_below b8.out HB.out)) b9.out (cq (Kd.V_reads' b4.out).2.2) ((Kd.V_reads' b4.out).2.1) A4.out).mono ?_; rintro e g7 ⟨rfl, hb⟩; refine ⟨_, rfl, ?_⟩; replace b4 := am (Kd.V_below (vq b4.out) hb); replace a5 := bb a5 hb; replace HB := sb HB hb; (try clear hb); (try clear hk); (try clear hi); have d6 : (a0 : Int) ≤ ((l1.length : Int) : Int) := od; obtain ⟨g2, b6, _, b7, _⟩ := info_parts Au1; have hroom11 : l1.length ≤ c1 := (Kd.V_reads' b4.out).2.1; have d1 : Kd.F (Kd.int .i64) _ _ A1 l1.length l1 := (Kd.V_at (base := w.heap.size) b4.out).2.2; have d7 : (a2 : Int) ≤ (a0 : Int) := od; have d8 : (0 : Int) ≤ (a2 : Int) := od; have hcut11 := cut_mid (P := Tryz.prog) 25 2 .i64 .i64 Tryz.underlying25 b6 1 b7 A1 l1.length c1 a2 a0 d8 d7 d6 hroom11; have a6 := Kd.F_mid (lo := (a2 : Int).toNat) (hi := (a0 : Int).toNat) (c := c1) d1 (by omega) (by omega) hroom11; obtain ⟨e1, b0⟩ : ∃ g3, g3 = (if c1 = (a2 : Int).toNat then A1 else (A1 : Option Addr).map (·.add ((a2 : Int).toNat * 1))) := ⟨_, rfl⟩; obtain ⟨e2, b1⟩ : ∃ g4, g4 = c1 - (a2 : Int).toNat := ⟨_, rfl⟩; have a7 : a3.length = (a0 : Int).toNat - (a2 : Int).toNat := (by rw [b5.out, List.length_drop, List.length_take] <;> omega); rw [show ((l1).take (a0 : Int).toNat).drop (a2 : Int).toNat = a3 from b5.out.symm] at a6; replace a6 : Kd.F (Kd.int .i64) _ _ e1 a3.length a3 := (by rw [b0]; exact a6); rw [← a7, ← b0, ← b1] at hcut11; have d2 := am (show Kd.V (Kd.int .i64) 2 _ w.heap.size _ (.slice e1 a3.length e2) a3 from Kd.V_mk (by rw [a7, b1]; exact Nat.sub_le_sub_right (Nat.le_trans (by omega) hroom11) _) a6); have e3 := am (show a3.length ≤ e2 from by rw [a7, b1]; exact Nat.sub_le_sub_right (Nat.le_trans (by omega) hroom11) _); clear a6 d1 hroom11 b6 b7 b1; have g5 := am a7; have g6 := am b0; clear a7 b0; replace d6 := eq_true d6))
 go_ret
 exact ⟨_, er, vq (Kd.V_mono d2.out (fun _ hk => hk.1)), hs HB.out⟩
def Ac8.l0 : Nat → List Int → List Int → Int → Int → Int → List (S79) → Option (List Int)
 | 0, _, _, _, _, _, _ => none
 | k + 1, x1, x7, x8, a2, a3, a0 => if a3 < a2 then (if x7.length < 17592186044416 then ((Ae5.f k a0 x1 x8).bind fun a1 => (Ac8.l0 k x1 (x7 ++ [x8]) a1 a2 (wrap64 (a3 + 1)) a0)) else (none)) else (some x7)
def Ac8.f (k : Nat) (a0 : List (S79)) (l1 : List Int) (a2 : Int) : Option (List Int) := if 0 ≤ a2 then (if a2 < (l1.length : Int) then ((Am9.f a0 (rd l1 a2)).bind fun a1 => (Ac8.l0 k l1 (([] : List Int)) (wrap64 (a2 + 1)) a1 0 a0)) else (none)) else (none)
theorem Ac8.mono_l : ∀ k, (∀ y0 y1 y2 y3 y4 y5, LeO (Ac8.l0 k y0 y1 y2 y3 y4 y5) (Ac8.l0 (k + 1) y0 y1 y2 y3 y4 y5))
 | 0 => fun _ _ _ _ _ _ r h => by simp [Ac8.l0] at h
 | k + 1 => by
  have a0 := Ac8.mono_l k
  ·intro y0 y1 y2 y3 y4 y5
   unfold Ac8.l0
   repeat' first | (with_reducible first | apply a0 | apply Ae5.mono | exact LeO.refl _ | exact LeO.none _ | refine LeO.ite ?_ ?_ | refine LeO.bind ?_ (fun _ => ?_)) | apply a0 | apply Ae5.mono | exact LeO.none _ | refine LeO.ite ?_ ?_ | refine LeO.bind ?_ (fun _ => ?_)
theorem Ac8.mono : ∀ a0 a1 a2 k, LeO (Ac8.f k a0 a1 a2) (Ac8.f (k + 1) a0 a1 a2) := by
 intro a0 a1 a2 k
 have a3 := Ac8.mono_l k
 unfold Ac8.f
 repeat' first | (with_reducible first | apply a3 | apply Ae5.mono | exact LeO.refl _ | exact LeO.none _ | refine LeO.ite ?_ ?_ | refine LeO.bind ?_ (fun _ => ?_)) | apply a3 | apply Ae5.mono | exact LeO.none _ | refine LeO.ite ?_ ?_ | refine LeO.bind ?_ (fun _ => ?_)
theorem Ac8.calls (k : Nat) (a8 : Option Addr) (a9 : Nat) (a1 : List (S79)) (A1 : Option Addr) (c1 : Nat) (l1 : List Int) (a2 : Int) (r : List Int) (w : World) (b8 : Kd.C k79 w a8 a1.length a1) (b9 : a1.length ≤ a9) (e7 : Kd.C (Kd.int .i64) w A1 l1.length l1) (e8 : l1.length ≤ c1) (h : Ac8.f k a1 l1 a2 = some r) :
  Calls Tryz.prog 115 #[.agg #[.slice a8 a1.length a9], .slice A1 l1.length c1, .int .i64 a2] w fun e w' => ∃ e9 : Value, e = .returned (e9) ∧ Kd.R (Kd.int .i64) 3 w' w.heap.size (fun _ => True) e9 r ∧ Below w.heap.size w w' := by
 have g4 := Tryz.underlying36
 have c0 := am b8
 have d0 := am b9
 clear b8 b9
 have g0 := am e7
 have g5 := am e8
 clear e7 e8
 have HB := am (Below.refl w.heap.size w)
 have H : (if 0 ≤ a2 then (if a2 < (l1.length : Int) then ((Am9.f a1 (rd l1 a2)).bind fun a7 => (Ac8.l0 k l1 (([] : List Int)) (wrap64 (a2 + 1)) a7 0 a1)) else (none)) else (none)) = some r := h
 clear h
 obtain ⟨d5, b0⟩ : ∃ y_ : List Int, y_ = (([] : List Int)) := ⟨_, rfl⟩
 replace H : (if 0 ≤ a2 then (if a2 < (l1.length : Int) then ((Am9.f a1 (rd l1 a2)).bind fun a7 => (Ac8.l0 k l1 d5 (wrap64 (a2 + 1)) a7 0 a1)) else (none)) else (none)) = some r := by first | (rw [b0]; first | with_reducible exact H | with_reducible exact bs H) | with_reducible exact bs H | with_reducible exact H | (rw [b0]; exact H) | exact H
 have d1 := am b0
 clear b0
 obtain ⟨e4, H⟩ := ife H
 obtain ⟨e5, H⟩ := ife H
 obtain ⟨a7, A6, H⟩ := ob H
 try dsimp only at H
 have H' := am H
 clear H
 go_enter Tryz.func115, Tryz.ntmps115
 try go_wp2_with (first | (refine bx 3 rfl #[.slice a8 a1.length a9] 36 ?_; intro d2 hg w7 hbox hb; have a0 := am (hbox); have d6 := am (bz hg (hq HB.out)); replace HB := sb HB hb; have g1 := d6; clear hb hbox hg) | (refine rl 9 rfl 3 [] ?_; intro g6 w8 d7 hb g7 hnew_; clear g7 hnew_; (first | rw [← d1.out] at d7 | (simp only [Int.reduceToNat] at d7; rw [← d1.out] at d7)); have a4 := am (Kd.R_lower d7 (Ac5 (hs HB.out))); replace a0 := bb a0 hb; replace HB := sb HB hb; clear hb d7))
 replace a4 := am (Kd.R_drew a4.out)
 replace a0 := am (Ah2 a0.out)
 replace HB := am (Af1 HB.out)
 have b5 : 0 ≤ (a2 : Int) := od
 have b6 : a2 < (l1.length : Int) := od
 obtain ⟨d3, e6, a3⟩ := Kd.at_int g0.out a2 b5 b6
 have b1 := a3
 cases e6
 replace a3 := cz HB.out a3
 obtain ⟨b5, b6⟩ := ee b5 b6
 refine st_ (n := 7) (S := fun w' => w'.cell? ⟨d2, 0, none⟩ = some (.slice a8 a1.length a9) ∧ w'.cell? (d3.add (a2).toNat) = some (.int .i64 (rd l1 a2))) (ds := []) ⟨(Ad1 a0.out 0).trans rfl, (cz HB.out b1)⟩ (fun hHeld => ?_)
 generalize w8.drew = h2 at a4 a0 HB a3 hHeld ⊢
 refine As2 (i := 1) (N := some 13) (v := ?_) (a' := ?_) #[false, true, false, false, false, false, false] rfl rfl (by kernel_rfl) (fun _ _ _ h => h) (Or.inl ⟨by rfl, ?_⟩) ?_ ?_
 rotate_left
 ·intro w'
  go_simp
  with_reducible rfl
 rotate_left
 ·simp only [Act.put, lsp, Ae6, Ae7]
  rfl
 refine As2 (i := 2) (N := some 14) (v := ?_) (a' := ?_) #[false, true, true, false, false, false, false] rfl rfl (by kernel_rfl) (fun _ _ _ h => h) (Or.inl ⟨by rfl, ?_⟩) ?_ ?_
 rotate_left
 ·intro w'
  go_simp
  with_reducible rfl
 rotate_left
 ·simp only [Act.put, lsp, Ae6, Ae7]
  rfl
 refine As2 (i := 3) (N := some 15) (v := ?_) (a' := ?_) #[false, true, true, true, false, false, false] rfl rfl (by kernel_rfl) (fun _ _ _ h => h) (Or.inl ⟨by rfl, ?_⟩) ?_ ?_
 rotate_left
 ·intro w'
  go_simp
  with_reducible rfl
 rotate_left
 ·simp only [Act.put, lsp, Ae6, Ae7]
  rfl
 refine As2 (i := 6) (N := some 18) (v := ?_) (a' := ?_) #[false, true, true, true, false, false, true] rfl rfl (by kernel_rfl) (fun _ _ _ h => h) (Or.inl ⟨by rfl, ?_⟩) ?_ ?_
 rotate_left
 ·intro w'
  go_simp
  with_reducible rfl
 rotate_left
 ·simp only [Act.put, lsp, Ae6, Ae7]
  rfl
 refine take_ (i := 0) (N := some 12) (v := ?_) (a' := ?_) #[true, true, true, true, false, false, true] rfl rfl (by kernel_rfl) (fun _ _ _ h => h) (Or.inl ⟨by rfl, ?_⟩) hHeld ?_ ?_
 rotate_left
 ·rintro w' ⟨s0, s1⟩
  go_simp
  with_reducible rfl
 rotate_left
 ·simp only [Act.put, lsp, Ae6, Ae7]
  rfl
 refine take_ (i := 4) (N := some 16) (v := ?_) (a' := ?_) #[true, true, true, true, true, false, true] rfl rfl (by kernel_rfl) (fun _ _ _ h => h) (Or.inl ⟨by rfl, ?_⟩) hHeld ?_ ?_
 rotate_left
 ·rintro w' ⟨s0, s1⟩
  go_simp
  with_reducible rfl
 rotate_left
 ·simp only [Act.put, lsp, Ae6, Ae7]
  rfl
 refine Bo9 (i := 5) (N := some 17) #[true, true, true, true, true, true, true] rfl rfl (by kernel_rfl) (by decide) (fun K hK => ?_)
 refine gs Tryz.func87 #[.agg #[.slice a8 a1.length a9], .int .i64 (rd l1 a2)] ?_
 refine (Am9.calls _ _ a1 (rd l1 a2) a7 _ (cq (Kd.C_below c0.out HB.out)) d0.out A6.out).mono ?_
 rintro e h3 ⟨rfl, hb⟩
 refine ⟨_, rfl, ?_⟩
 replace a4 := rb a4 hb
 replace a0 := bb a0 hb
 replace HB := sb HB hb
 (try clear hb)
 (try clear hk)
 refine hK.out _ _ ⟨(Ad1 a0.out 0).trans rfl, (cz HB.out b1)⟩ (fun hHeld => ?_)
 clear hK K
 refine nr (some 17) ?_
 refine Ar3 (by kernel_rfl) ?_
 try go_wp2
 go_loopg [7, 8, 18] k (fun kq v7 v8 g8 w' => ∃ (b3 : List Int) (a6 : Int) (a5 : Int), v8 = .int .i64 a6 ∧ g8 = .int .i64 a5 ∧ Aside0 (Ac8.l0 kq l1 b3 a6 a7 a5 a1 = some r) ∧ Aside0 (kq ≤ k) ∧ Aside0 (Kd.R (Kd.int .i64) 3 w' w.heap.size (fun _ => True) v7 b3) ∧ Aside0 (w'.heap[d2]? = some (.cells #[(.slice a8 a1.length a9)] 36 (0, 0))) ∧ Aside0 (Below w.heap.size w w'))
 case atStart => exact ⟨(d5), (wrap64 (a2 + 1)), (0), et, et, H', ⟨Nat.le_refl _⟩, ⟨rq a4.out⟩, ⟨bq a0.out⟩, ⟨hs HB.out⟩⟩
 case round =>
  clear H'
  try clear c1; try clear e4; try clear e5; try clear a3; try clear b5; try clear b6
  obtain ⟨b3, a6, a5, rfl, rfl, HA, g2, HO_7, a0, HB⟩ := hrel
  cases gk with
  | zero => exact absurd HA.out (by simp [Ac8.l0])
  | succ k1 =>
   have H := HA.out
   clear HA
   simp only [Ac8.l0] at H
   by_cases d4 : a5 < a7
   ·rw [if_pos d4] at H
    have d8 := decide_eq_true d4
    clear d4
    obtain ⟨g3, H⟩ := ifs H
    have d9 := am g3
    clear g3
    obtain ⟨e0, b2⟩ : ∃ y_ : List Int, y_ = (b3 ++ [a6]) := ⟨_, rfl⟩
    replace H : ((Ae5.f k1 a1 l1 a6).bind fun b7 => (Ac8.l0 k1 l1 e0 b7 a7 (wrap64 (a5 + 1)) a1)) = some r := by first | (rw [b2]; first | with_reducible exact H | with_reducible exact bs H) | with_reducible exact bs H | with_reducible exact H | (rw [b2]; exact H) | exact H
    have e1 := am b2
    clear b2
    obtain ⟨b7, g9, H⟩ := ob H
    try dsimp only at H
    have H' := am H
    clear H
    go_wp2_with (first | ((with_reducible refine Ah1 (b := .append) (xs := #[.tmp 20, .tmp 22]) rfl ?_); at_builtin; refine Kd.R_append (Kd.int .i64) (w0 := w) w.heap.size rfl (.tmp 20) (.tmp 22) 136 3 (.int .i64 0) 8 rfl Tryz.underlying136 info3 rfl (by decide) (by omega) u7 b3 a6 [.int .i64 a6] (fun _ => True) (fun _ => False) rfl rfl ?aP (fun _ hk => hk.elim) ?aF ?aO ?aB ?aS ?aL ?_; (case aP => exact rfl); (case aB => exact (hs HB.out)); (case aF => exact (fun _ _ => trivial)); (case aO => exact (rq HO_7.out)); (case aS => exact (Ac5 (hs HB.out))); (case aL => have := d9.out; omega); intro h0 h4 ho hb hg hat; rw [← e1.out] at ho; replace a0 := am (Am6 (bq a0.out) hg (Kd.R_ne HO_7.out a0.out (by decide))); replace HB := am (hb); have b4 := am (ho); clear HO_7; clear ho hb hg hat; have e2 := c0_ a0; have e3 := Aa2 a0.out 0) | (refine gl (some 27) Tryz.func60 rfl #[.agg #[.slice a8 a1.length a9], .slice (some d3) l1.length c1, .int .i64 a6] ?_; refine (Ae5.calls k1 _ _ a1 _ _ l1 a6 b7 _ (cq (Kd.C_below c0.out HB.out)) d0.out (cq (Kd.C_below g0.out HB.out)) g5.out g9.out).mono ?_; rintro e h5 ⟨rfl, hb⟩; refine ⟨_, rfl, ?_⟩; replace b4 := rb b4 hb; replace a0 := bb a0 hb; replace HB := sb HB hb; clear hb; (try clear hk)))
    go_roundg k1
    case measure => have := g2.out; omega
    case rel => exact ⟨(e0), (b7), (wrap64 (a5 + 1)), et, et, H', ⟨by have := g2.out; omega⟩, ⟨rq b4.out⟩, ⟨bq a0.out⟩, ⟨hs HB.out⟩⟩
   ·rw [if_neg d4] at H
    have d8 := decide_eq_false d4
    clear d4
    obtain rfl := Option.some.inj H
    go_wp2
    go_ret
    exact ⟨_, er, rq HO_7.out, hs HB.out⟩
attribute [local go_sem] Ai1 Ah9 Ak5 Ak4 Ah0 Ag9 Ai2 Ai0   -- for this text's walks alone
set_option linter.unusedVariables false
set_option linter.unusedSimpArgs false
def Ac9.f (k : Nat) (l0 : List (S114)) (a1 : Int) (a2 : Int) : Option (Bool) := if 0 < (l0.length : Int) then ((Ag6.f k ((Ac1 l0 0).f0.f0) ((Ac1 l0 0).f2) a1).bind fun a0 => ((Ag6.f k ((Ac1 l0 0).f0.f0) ((Ac1 l0 0).f3) a2).bind fun a3 => ((Ab3.f k a0 a3).bind fun a4 => (some a4)))) else (none)
theorem Ac9.mono : ∀ a0 a1 a2 k, LeO (Ac9.f k a0 a1 a2) (Ac9.f (k + 1) a0 a1 a2) := by
 intro a0 a1 a2 k
 unfold Ac9.f
 repeat' first | (with_reducible first | apply Ag6.mono | apply Ab3.mono | exact LeO.refl _ | exact LeO.none _ | refine LeO.ite ?_ ?_ | refine LeO.bind ?_ (fun _ => ?_)) | apply Ag6.mono | apply Ab3.mono | exact LeO.none _ | refine LeO.ite ?_ ?_ | refine LeO.bind ?_ (fun _ => ?_)
def Ac9.T1 : Bool × List (List Nat × List Nat) := (true, [([], []), ([0], [0]), ([1], [1]), ([2], [2]), ([], []), ([4], [4]), ([5], [5]), ([6], [6]), ([], []), ([3, 7, 8], [3, 7, 8]), ([], []), ([10], [10]), ([11], [11]), ([12], [12]), ([], []), ([14], [14]), ([15], [15]), ([16], [16]), ([], []), ([13, 17, 18, 9], [13, 17, 18]), ([9, 19, 19], [9, 19]), ([20, 20, 0, 1, 2, 3, 4, 5, 6, 7, 8, 9, 10, 11, 12, 13, 14, 15, 16, 17, 18, 19, 20], [20])])
def Ac9.B1 : List Nat := [0, 1, 3, 7, 0, 16, 48, 112, 0, 511, 0, 1024, 3072, 7168, 0, 16384, 49152, 114688, 0, 524287, 1048575, 2097151]
theorem Ac9.tab1 : Au3 .any (Au5 Tryz.f116 1) = Ac9.T1 := by kernel_rfl
theorem Ac9.bits1 : Al2 Ac9.T1.2 Ac9.B1 = true := by kernel_rfl
theorem Ac9.calls (k : Nat) (A0 : Option Addr) (l0 : List (S114)) (a1 : Int) (a2 : Int) (r : Bool) (w : World) (K9 : Kd.C Bj7 w A0 l0.length l0) (h : Ac9.f k l0 a1 a2 = some r) :
  Calls Tryz.prog 116 #[.pointer A0, .int .i64 a1, .int .i64 a2] w fun e w' => e = .returned (.bool r) ∧ Below w.heap.size w w' := by
 have L8 := Tryz.underlying36
 have w7 := am K9
 clear K9
 have HB := am (Below.refl w.heap.size w)
 have H : (if 0 < (l0.length : Int) then ((Ag6.f k ((Ac1 l0 0).f0.f0) ((Ac1 l0 0).f2) a1).bind fun o9 => ((Ag6.f k ((Ac1 l0 0).f0.f0) ((Ac1 l0 0).f3) a2).bind fun p0 => ((Ab3.f k o9 p0).bind fun x0 => (some x0)))) else (none)) = some r := h
 clear h
 obtain ⟨c4, H⟩ := ifs H
 have L9 := decide_eq_true c4
 have M0 : decide (0 < l0.length) = true := decide_eq_true (by omega)
 clear c4
 obtain ⟨o9, A5, H⟩ := ob H
 try dsimp only at H
 obtain ⟨p0, A6, H⟩ := ob H
 try dsimp only at H
 obtain ⟨x0, A7, H⟩ := ob H
 try dsimp only at H
 obtain rfl := Option.some.inj H
 go_enter Tryz.func116, Tryz.ntmps116
 try go_wp2
 replace HB := am (Af1 HB.out)
 have x1 : 0 ≤ (0 : Int) := (by omega)
 have x2 : 0 < (l0.length : Int) := od
 obtain ⟨a6, g8, g9, x3, x4, p1, p2, p3, p4, D8, a0, a3, a4, a5, e3, h0, h2, h3, h4, h5, h6, h7, h8⟩ := Av9 w7.out 0 x1 x2
 have e4 := e3
 (try simp only [t0_] at e4)
 have e5 := a5
 (try simp only [t0_] at e5)
 have e6 := a4
 (try simp only [t0_] at e6)
 have e7 := a3
 (try simp only [t0_] at e7)
 have e8 := a0
 (try simp only [t0_] at e8)
 cases D8
 have L0 : (0 < l0.length) = True := eq_true (by omega)
 (try simp only [t0_] at a0 a3 a4 a5 e3)
 replace a0 := cz HB.out a0
 replace a3 := cz HB.out a3
 replace a4 := cz HB.out a4
 replace a5 := cz HB.out a5
 replace e3 := cz HB.out e3
 have p6 := am h2
 have A2 := am h0
 clear h2 h0
 have p7 := am h4
 have A3 := am h3
 clear h4 h3
 have p8 := am h6
 have A4 := am h5
 clear h6 h5
 have p9 := am h8
 have A8 := am h7
 clear h8 h7
 obtain ⟨x1, x2⟩ := ee x1 x2
 have x5 : 0 ≤ (0 : Int) := (by omega)
 have x6 : 0 < (l0.length : Int) := od
 obtain ⟨y9, D9, E0, E1, E2, E3, E4, E5, E6, E7, a7, a8, a9, b0, e9, h9, i0, i1, i2, i3, i4, i5, i6⟩ := Av9 w7.out 0 x5 x6
 have q0 := e9
 (try simp only [t0_] at q0)
 have q1 := b0
 (try simp only [t0_] at q1)
 have q2 := a9
 (try simp only [t0_] at q2)
 have q3 := a8
 (try simp only [t0_] at q3)
 have q4 := a7
 (try simp only [t0_] at q4)
 obtain rfl : a6 = y9 := (by injection E7)
 have L1 : (0 < l0.length) = True := eq_true (by omega)
 (try simp only [t0_] at a7 a8 a9 b0 e9)
 replace a7 := cz HB.out a7
 replace a8 := cz HB.out a8
 replace a9 := cz HB.out a9
 replace b0 := cz HB.out b0
 replace e9 := cz HB.out e9
 have i7 := am i0
 have q5 := am h9
 clear i0 h9
 have q6 := am i2
 have A9 := am i1
 clear i2 i1
 have q7 := am i4
 have B0 := am i3
 clear i4 i3
 have q8 := am i6
 have B2 := am i5
 clear i6 i5
 obtain ⟨x5, x6⟩ := ee x5 x6
 obtain ⟨rfl, rfl⟩ := sj a0 a7
 obtain ⟨rfl, rfl⟩ := sj a3 a8
 obtain ⟨rfl, rfl⟩ := sj a4 a9
 obtain ⟨rfl, rfl⟩ := sj a5 b0
 have x7 : 0 ≤ (0 : Int) := (by omega)
 have x8 : 0 < (l0.length : Int) := od
 obtain ⟨z0, E8, E9, F0, F1, F2, F3, F4, F5, F6, b1, b2, b3, b4, g0, i9, j5, j6, j7, j8, j9, k0, k1⟩ := Av9 w7.out 0 x7 x8
 have q9 := g0
 (try simp only [t0_] at q9)
 have r0 := b4
 (try simp only [t0_] at r0)
 have r1 := b3
 (try simp only [t0_] at r1)
 have r2 := b2
 (try simp only [t0_] at r2)
 have r3 := b1
 (try simp only [t0_] at r3)
 obtain rfl : a6 = z0 := (by injection F6)
 have L2 : (0 < l0.length) = True := eq_true (by omega)
 (try simp only [t0_] at b1 b2 b3 b4 g0)
 replace b1 := cz HB.out b1
 replace b2 := cz HB.out b2
 replace b3 := cz HB.out b3
 replace b4 := cz HB.out b4
 replace g0 := cz HB.out g0
 have r4 := am j5
 have B4 := am i9
 clear j5 i9
 have r5 := am j7
 have B5 := am j6
 clear j7 j6
 have r6 := am j9
 have B8 := am j8
 clear j9 j8
 have r7 := am k1
 have B9 := am k0
 clear k1 k0
 obtain ⟨x7, x8⟩ := ee x7 x8
 obtain ⟨rfl, rfl⟩ := sj a0 b1
 obtain ⟨rfl, rfl⟩ := sj a3 b2
 obtain ⟨rfl, rfl⟩ := sj a4 b3
 obtain ⟨rfl, rfl⟩ := sj a5 b4
 have x9 : 0 ≤ (0 : Int) := (by omega)
 have y0 : 0 < (l0.length : Int) := od
 obtain ⟨z1, F7, F8, F9, G0, G1, G2, G3, G4, G5, b5, b6, b7, b8, g1, k2, k3, k4, k5, k6, k7, k8, k9⟩ := Av9 w7.out 0 x9 y0
 have r8 := g1
 (try simp only [t0_] at r8)
 have r9 := b8
 (try simp only [t0_] at r9)
 have s0 := b7
 (try simp only [t0_] at s0)
 have s1 := b6
 (try simp only [t0_] at s1)
 have s2 := b5
 (try simp only [t0_] at s2)
 obtain rfl : a6 = z1 := (by injection G5)
 have L3 : (0 < l0.length) = True := eq_true (by omega)
 (try simp only [t0_] at b5 b6 b7 b8 g1)
 replace b5 := cz HB.out b5
 replace b6 := cz HB.out b6
 replace b7 := cz HB.out b7
 replace b8 := cz HB.out b8
 replace g1 := cz HB.out g1
 have s3 := am k3
 have C0 := am k2
 clear k3 k2
 have s4 := am k5
 have C1 := am k4
 clear k5 k4
 have l4 := am k7
 have s5 := am k6
 clear k7 k6
 have s6 := am k9
 have C2 := am k8
 clear k9 k8
 obtain ⟨x9, y0⟩ := ee x9 y0
 obtain ⟨rfl, rfl⟩ := sj a0 b5
 obtain ⟨rfl, rfl⟩ := sj a3 b6
 obtain ⟨rfl, rfl⟩ := sj a4 b7
 obtain ⟨rfl, rfl⟩ := sj a5 b8
 have y1 : 0 ≤ (0 : Int) := (by omega)
 have y2 : 0 < (l0.length : Int) := od
 obtain ⟨z2, G6, G7, G8, G9, H0, H1, H2, H3, H4, b9, c0, c1, d0, g2, l5, l6, l7, l8, l9, m0, m1, m2⟩ := Av9 w7.out 0 y1 y2
 have s7 := g2
 (try simp only [t0_] at s7)
 have s8 := d0
 (try simp only [t0_] at s8)
 have s9 := c1
 (try simp only [t0_] at s9)
 have t0 := c0
 (try simp only [t0_] at t0)
 have t1 := b9
 (try simp only [t0_] at t1)
 obtain rfl : a6 = z2 := (by injection H4)
 have L4 : (0 < l0.length) = True := eq_true (by omega)
 (try simp only [t0_] at b9 c0 c1 d0 g2)
 replace b9 := cz HB.out b9
 replace c0 := cz HB.out c0
 replace c1 := cz HB.out c1
 replace d0 := cz HB.out d0
 replace g2 := cz HB.out g2
 have t2 := am l6
 have C3 := am l5
 clear l6 l5
 have t3 := am l8
 have C4 := am l7
 clear l8 l7
 have t4 := am m0
 have C5 := am l9
 clear m0 l9
 have t5 := am m2
 have C6 := am m1
 clear m2 m1
 obtain ⟨y1, y2⟩ := ee y1 y2
 obtain ⟨rfl, rfl⟩ := sj a0 b9
 obtain ⟨rfl, rfl⟩ := sj a3 c0
 obtain ⟨rfl, rfl⟩ := sj a4 c1
 obtain ⟨rfl, rfl⟩ := sj a5 d0
 have y3 : 0 ≤ (0 : Int) := (by omega)
 have y4 : 0 < (l0.length : Int) := od
 obtain ⟨z3, H5, H6, H7, H8, H9, I0, I1, I2, I3, d1, d2, d3, d4, g3, m3, m4, m5, m6, m7, m8, m9, n0⟩ := Av9 w7.out 0 y3 y4
 have t6 := g3
 (try simp only [t0_] at t6)
 have t7 := d4
 (try simp only [t0_] at t7)
 have t8 := d3
 (try simp only [t0_] at t8)
 have t9 := d2
 (try simp only [t0_] at t9)
 have u0 := d1
 (try simp only [t0_] at u0)
 obtain rfl : a6 = z3 := (by injection I3)
 have L5 : (0 < l0.length) = True := eq_true (by omega)
 (try simp only [t0_] at d1 d2 d3 d4 g3)
 replace d1 := cz HB.out d1
 replace d2 := cz HB.out d2
 replace d3 := cz HB.out d3
 replace d4 := cz HB.out d4
 replace g3 := cz HB.out g3
 have n1 := am m4
 have u1 := am m3
 clear m4 m3
 have u2 := am m6
 have C7 := am m5
 clear m6 m5
 have u3 := am m8
 have C8 := am m7
 clear m8 m7
 have u4 := am n0
 have C9 := am m9
 clear n0 m9
 obtain ⟨y3, y4⟩ := ee y3 y4
 obtain ⟨rfl, rfl⟩ := sj a0 d1
 obtain ⟨rfl, rfl⟩ := sj a3 d2
 obtain ⟨rfl, rfl⟩ := sj a4 d3
 obtain ⟨rfl, rfl⟩ := sj a5 d4
 have y5 : 0 ≤ (0 : Int) := (by omega)
 have y6 : 0 < (l0.length : Int) := od
 obtain ⟨z4, I4, I5, I6, I7, I8, I9, J0, J1, J2, d5, d6, d7, d8, g4, n2, n3, n4, n5, n6, n7, n8, n9⟩ := Av9 w7.out 0 y5 y6
 have u5 := g4
 (try simp only [t0_] at u5)
 have u6 := d8
 (try simp only [t0_] at u6)
 have u7 := d7
 (try simp only [t0_] at u7)
 have u9 := d6
 (try simp only [t0_] at u9)
 have v0 := d5
 (try simp only [t0_] at v0)
 obtain rfl : a6 = z4 := (by injection J2)
 have L6 : (0 < l0.length) = True := eq_true (by omega)
 (try simp only [t0_] at d5 d6 d7 d8 g4)
 replace d5 := cz HB.out d5
 replace d6 := cz HB.out d6
 replace d7 := cz HB.out d7
 replace d8 := cz HB.out d8
 replace g4 := cz HB.out g4
 have v2 := am n3
 have D0 := am n2
 clear n3 n2
 have v3 := am n5
 have D1 := am n4
 clear n5 n4
 have v4 := am n7
 have D2 := am n6
 clear n7 n6
 have v5 := am n9
 have D3 := am n8
 clear n9 n8
 obtain ⟨y5, y6⟩ := ee y5 y6
 obtain ⟨rfl, rfl⟩ := sj a0 d5
 obtain ⟨rfl, rfl⟩ := sj a3 d6
 obtain ⟨rfl, rfl⟩ := sj a4 d7
 obtain ⟨rfl, rfl⟩ := sj a5 d8
 have y7 : 0 ≤ (0 : Int) := (by omega)
 have y8 : 0 < (l0.length : Int) := od
 obtain ⟨z5, J3, J4, J5, J6, J7, J8, J9, K0, K1, d9, e0, e1, e2, g5, o0, o1, o2, o3, o4, o5, o6, o7⟩ := Av9 w7.out 0 y7 y8
 have v6 := g5
 (try simp only [t0_] at v6)
 have v7 := e2
 (try simp only [t0_] at v7)
 have v8 := e1
 (try simp only [t0_] at v8)
 have v9 := e0
 (try simp only [t0_] at v9)
 have w2 := d9
 (try simp only [t0_] at w2)
 obtain rfl : a6 = z5 := (by injection K1)
 have L7 : (0 < l0.length) = True := eq_true (by omega)
 (try simp only [t0_] at d9 e0 e1 e2 g5)
 replace d9 := cz HB.out d9
 replace e0 := cz HB.out e0
 replace e1 := cz HB.out e1
 replace e2 := cz HB.out e2
 replace g5 := cz HB.out g5
 have w3 := am o1
 have D4 := am o0
 clear o1 o0
 have w4 := am o3
 have D5 := am o2
 clear o3 o2
 have w5 := am o5
 have D6 := am o4
 clear o5 o4
 have o8 := am o7
 have w6 := am o6
 clear o7 o6
 obtain ⟨y7, y8⟩ := ee y7 y8
 obtain ⟨rfl, rfl⟩ := sj a0 d9
 obtain ⟨rfl, rfl⟩ := sj a3 e0
 obtain ⟨rfl, rfl⟩ := sj a4 e1
 obtain ⟨rfl, rfl⟩ := sj a5 e2
 refine st_ (n := 22) (S := fun w' => w'.cell? a6 = some (.slice g8 ((Ac1 l0 0).f0.f0).length g9) ∧ w'.cell? ⟨a6.block, a6.off + 1, none⟩ = some (.slice x3 ((Ac1 l0 0).f1).length x4) ∧ w'.cell? ⟨a6.block, a6.off + 2, none⟩ = some (.slice p1 ((Ac1 l0 0).f2).length p2) ∧ w'.cell? ⟨a6.block, a6.off + 3, none⟩ = some (.slice p3 ((Ac1 l0 0).f3).length p4) ∧ w'.cell? ⟨a6.block, a6.off + 4, none⟩ = some (.map (some ((Ac1 l0 0).f4).toNat))) (ds := []) ⟨(cz HB.out e8), (cz HB.out e7), (cz HB.out e6), (cz HB.out e5), (cz HB.out e4)⟩ (fun hHeld => ?_); refine Ah6 Ac9.tab1 Ac9.bits1 (fun g6 D7 => ?_)
 generalize w.drew = w8 at HB p6 p7 p8 p9 i7 q6 q7 q8 r4 r5 r6 r7 s3 s4 l4 s6 t2 t3 t4 t5 n1 u2 u3 u4 v2 v3 v4 v5 w3 w4 w5 o8 a0 a3 a4 a5 e3 a7 a8 a9 b0 e9 b1 b2 b3 b4 g0 b5 b6 b7 b8 g1 b9 c0 c1 d0 g2 d1 d2 d3 d4 g3 d5 d6 d7 d8 g4 d9 e0 e1 e2 g5 hHeld ⊢
 refine pu 0 7 rfl rfl g6 ?_
 refine pu 1 8 rfl rfl g6 ?_
 refine pu 2 9 rfl rfl g6 ?_
 refine pu 4 11 rfl rfl g6 ?_
 refine pu 5 12 rfl rfl g6 ?_
 refine pu 6 13 rfl rfl g6 ?_
 refine pu 8 15 rfl rfl g6 ?_
 refine pu 10 17 rfl rfl g6 ?_
 refine pu 11 18 rfl rfl g6 ?_
 refine pu 12 19 rfl rfl g6 ?_
 refine pu 14 21 rfl rfl g6 ?_
 refine pu 15 22 rfl rfl g6 ?_
 refine pu 16 23 rfl rfl g6 ?_
 refine pu 18 25 rfl rfl g6 ?_
 refine tk 3 10 rfl rfl g6 D7 hHeld ?_
 refine tk 7 14 rfl rfl g6 D7 hHeld ?_
 refine tk 13 20 rfl rfl g6 D7 hHeld ?_
 refine tk 17 24 rfl rfl g6 D7 hHeld ?_
 refine on_ 9 (some 16) rfl rfl g6 (fun K hK => ?_)
 refine gs Tryz.func114 #[.agg #[.slice g8 ((Ac1 l0 0).f0.f0).length g9], .slice p1 ((Ac1 l0 0).f2).length p2, .int .i64 a1] ?_
 refine (Ag6.calls k _ _ ((Ac1 l0 0).f0.f0) (fun k_ => k_ < w.heap.size) _ _ ((Ac1 l0 0).f2) a1 o9 _ (cq (Kd.C_below i7.out HB.out)) q5.out (Kd.V_mk s5.out (Kd.F_below (Kd.C_F (Kd.heap_int .i64) l4.out) (hq HB.out))) A5.out).mono ?_
 rintro e w9 ⟨M1, rfl, z6, hb⟩
 refine ⟨_, rfl, ?_⟩
 have g7 := am (Kd.V_lower (Kd.V_mono (ok' := fun k_ => True) z6 (fun k_ M2 => trivial)) (Ac5 (hq HB.out)))
 replace HB := sb HB hb
 (try clear hb)
 (try clear z6)
 refine hK.out _ _ ⟨(cz HB.out e8), (cz HB.out e7), (cz HB.out e6), (cz HB.out e5), (cz HB.out e4)⟩ (fun hHeld => ?_)
 clear hK K
 refine nr (some 16) ?_
 refine on_ 19 (some 26) rfl rfl g6 (fun K hK => ?_)
 refine gs Tryz.func114 #[.agg #[.slice g8 ((Ac1 l0 0).f0.f0).length g9], .slice p3 ((Ac1 l0 0).f3).length p4, .int .i64 a2] ?_
 refine (Ag6.calls k _ _ ((Ac1 l0 0).f0.f0) (fun k_ => k_ < w.heap.size) _ _ ((Ac1 l0 0).f3) a2 p0 _ (cq (Kd.C_below n1.out HB.out)) u1.out (Kd.V_mk w6.out (Kd.F_below (Kd.C_F (Kd.heap_int .i64) o8.out) (hq HB.out))) A6.out).mono ?_
 rintro e M4 ⟨M3, rfl, z6, hb⟩
 refine ⟨_, rfl, ?_⟩
 replace g7 := am (Kd.V_below (vq g7.out) hb)
 have p5 := am (Kd.V_lower (Kd.V_mono (ok' := fun k_ => True) z6 (fun k_ M2 => trivial)) (Ac5 (hq HB.out)))
 replace HB := sb HB hb
 (try clear hb)
 (try clear z6)
 obtain ⟨K2, K3, z7⟩ := Kd.V_slice g7.out
 (first | subst z7 | (injection z7 with z8 K4 z9; have K5 := z8.symm; have K6 := z9.symm; clear z8 K4 z9; subst K5; subst K6))
 obtain ⟨K7, K8, A1⟩ := Kd.V_slice p5.out
 (first | subst A1 | (injection A1 with z8 K4 z9; have K5 := z8.symm; have K6 := z9.symm; clear z8 K4 z9; subst K5; subst K6))
 refine hK.out _ _ ⟨(cz HB.out e8), (cz HB.out e7), (cz HB.out e6), (cz HB.out e5), (cz HB.out e4)⟩ (fun hHeld => ?_)
 clear hK K
 refine nr (some 26) ?_
 refine on_ 20 (some 27) rfl rfl g6 (fun K hK => ?_)
 refine gs Tryz.func61 #[.slice K2 o9.length K3, .slice K7 p0.length K8] ?_
 refine (Ab3.calls k _ _ o9 _ _ p0 x0 _ (cq (Kd.V_reads' g7.out).2.2) ((Kd.V_reads' g7.out).2.1) (cq (Kd.V_reads' p5.out).2.2) ((Kd.V_reads' p5.out).2.1) A7.out).mono ?_
 rintro e w' ⟨rfl, ⟨nd, rfl⟩⟩
 refine ⟨_, rfl, ?_⟩
 refine hK.out _ _ ⟨(cz HB.out e8), (cz HB.out e7), (cz HB.out e6), (cz HB.out e5), (cz HB.out e4)⟩ (fun hHeld => ?_)
 clear hK K
 refine nr (some 27) ?_
 refine pu 21 6 rfl rfl g6 ?_
 refine Ar3 (Al8 g6.out (by kernel_rfl)) ?_
 try go_wp2
 go_ret
 exact ⟨er, hq HB.out⟩
end Go.Proofs.YtgichahebemmiaaGreatDoor.P
