/- A part of the proof of the law FnStrict. -/
import Derived.Test.YtgichahebemmiaaGreatDoorCFnStrict8
set_option maxHeartbeats 8000000
set_option maxRecDepth 100000
namespace Go.Proofs.YtgichahebemmiaaGreatDoor.P
open Go.RowKit Go.Proofs.YtgichahebemmiaaGreatDoorW.PrintWords Go.Proofs.YtgichahebemmiaaGreatDoorW.PrintLast Go.Proofs.YtgichahebemmiaaGreatDoorW.PrintMore
attribute [local go_sem] Ai1 Ah9 Ak5 Ak4 Ah0 Ag9 Ai2 Ai0   -- for this text's walks alone
set_option linter.unusedVariables false
set_option linter.unusedSimpArgs false
def Aj5.l0 : Nat → Int → List Int → Int → Option (List Int)
 | 0, _, _, _ => none
 | k + 1, x0, x3, x4 => if x4 < x0 then (if x3.length < 17592186044416 then (Aj5.l0 k x0 (x3 ++ [x4]) (wrap64 (x4 + 1))) else (none)) else (some x3)
def Aj5.f (k : Nat) (a0 : Int) : Option (List Int) := Aj5.l0 k a0 (([] : List Int)) 0
theorem Aj5.calls (k : Nat) (a0 : Int) (r : List Int) (w : World) (h : Aj5.f k a0 = some r) :
  Calls Tryz.prog 101 #[.int .i64 a0] w fun e w' => ∃ b4 : Value, e = .returned (b4) ∧ Kd.R (Kd.int .i64) 2 w' w.heap.size (fun _ => True) b4 r ∧ Below w.heap.size w w' := by
 have HB := am (Below.refl w.heap.size w)
 have H : (Aj5.l0 k a0 (([] : List Int)) 0) = some r := h
 clear h
 obtain ⟨a6, a2⟩ : ∃ y_ : List Int, y_ = (([] : List Int)) := ⟨_, rfl⟩
 replace H : (Aj5.l0 k a0 a6 0) = some r := by first | (rw [a2]; first | with_reducible exact H | with_reducible exact bs H) | with_reducible exact bs H | with_reducible exact H | (rw [a2]; exact H) | exact H
 have a5 := am a2
 clear a2
 have H' := am H
 clear H
 go_enter Tryz.func101, Tryz.ntmps101
 go_wp2_with (first | (refine rl 5 rfl 2 [] ?_; intro b6 w2 a7 hb b7 hnew_; clear b7 hnew_; (first | rw [← a5.out] at a7 | (simp only [Int.reduceToNat] at a7; rw [← a5.out] at a7)); have a8 := am (Kd.R_lower a7 (Ac5 (hq HB.out))); replace HB := sb HB hb; clear hb a7))
 go_loopg [3, 4] k (fun kq v3 v4 w' => ∃ (a4 : List Int) (a1 : Int), v4 = .int .i64 a1 ∧ Aside0 (Aj5.l0 kq a0 a4 a1 = some r) ∧ Aside0 (kq ≤ k) ∧ Aside0 (Kd.R (Kd.int .i64) 2 w' w.heap.size (fun _ => True) v3 a4) ∧ Aside0 (Below w.heap.size w w'))
 case atStart => exact ⟨(a6), (0), et, H', ⟨Nat.le_refl _⟩, ⟨rq a8.out⟩, ⟨hq HB.out⟩⟩
 case round =>
  clear H'
  obtain ⟨a4, a1, rfl, HA, b5, HO_3, HB⟩ := hrel
  cases gk with
  | zero => exact absurd HA.out (by simp [Aj5.l0])
  | succ k1 =>
   have H := HA.out
   clear HA
   simp only [Aj5.l0] at H
   by_cases c4 : a1 < a0
   ·rw [if_pos c4] at H
    have b2 := decide_eq_true c4
    clear c4
    obtain ⟨c5, H⟩ := ifs H
    have b3 := am c5
    clear c5
    obtain ⟨a9, a3⟩ : ∃ y_ : List Int, y_ = (a4 ++ [a1]) := ⟨_, rfl⟩
    replace H : (Aj5.l0 k1 a0 a9 (wrap64 (a1 + 1))) = some r := by first | (rw [a3]; first | with_reducible exact H | with_reducible exact bs H) | with_reducible exact bs H | with_reducible exact H | (rw [a3]; exact H) | exact H
    have b0 := am a3
    clear a3
    have H' := am H
    clear H
    go_wp2_with (first | ((with_reducible refine Ah1 (b := .append) (xs := #[.tmp 11, .tmp 13]) rfl ?_); at_builtin; refine Kd.R_append (Kd.int .i64) (w0 := w) w.heap.size rfl (.tmp 11) (.tmp 13) 25 2 (.int .i64 0) 8 rfl Tryz.underlying25 Au1 rfl (by decide) (by omega) u3 a4 a1 [.int .i64 a1] (fun _ => True) (fun _ => False) rfl rfl ?aP (fun _ hk => hk.elim) ?aF ?aO ?aB ?aS ?aL ?_; (case aP => exact rfl); (case aB => exact (hq HB.out)); (case aF => exact (fun _ _ => trivial)); (case aO => exact (rq HO_3.out)); (case aS => exact (Ac5 (hq HB.out))); (case aL => have := b3.out; omega); intro b8 w6 ho hb hg hat; rw [← b0.out] at ho; replace HB := am (hb); have b1 := am (ho); clear HO_3; clear ho hb hg hat))
    go_roundg k1
    case measure => have := b5.out; omega
    case rel => exact ⟨(a9), (wrap64 (a1 + 1)), et, H', ⟨by have := b5.out; omega⟩, ⟨rq b1.out⟩, ⟨hq HB.out⟩⟩
   ·rw [if_neg c4] at H
    have b2 := decide_eq_false c4
    clear c4
    obtain rfl := Option.some.inj H
    go_wp2
    go_ret
    exact ⟨_, er, rq HO_3.out, hq HB.out⟩
def Af2.l0 : Nat → List Int → Int → List Int → Int → Option (List Int × Int)
 | 0, _, _, _, _ => none
 | k + 1, x5, x6, a2, a1 => if x6 > 0 then (if (x5.length : Int) > 1 then ((Ad7.f a2 a1 (wrap64 ((x5.length : Int) - 1))).bind fun a0 => (if 0 ≤ a0.1 then (if a0.1 < (x5.length : Int) then (if 0 ≤ (wrap64 (a0.1 + 1)) then (if (wrap64 (a0.1 + 1)) < (x5.length : Int) then (Af2.l0 k ((x5.set (a0.1 : Int).toNat (rd x5 (wrap64 (a0.1 + 1)))).set ((wrap64 (a0.1 + 1)) : Int).toNat (rd x5 a0.1)) (wrap64 (x6 - 1)) a2 a0.2) else (none)) else (none)) else (none)) else (none))) else (some (x5, a1))) else (some (x5, a1))
def Af2.f (k : Nat) (a1 : List Int) (a2 : Int) (a3 : List (S79)) : Option (List Int × Int) := (Aj5.f k (a3.length : Int)).bind fun a4 => ((Ad7.f a1 a2 4).bind fun a0 => (Af2.l0 k a4 a0.1 a1 a0.2))
theorem Af2.calls (k : Nat) (g : Nat) (a5 : List Int) (b4 : Int) (b8 : Option Addr) (b9 : Nat) (a7 : List (S79)) (r1 : List Int) (r2 : Int) (w0 w : World) (hI : Aa0 w0 w g a5 b4) (hB : Below w0.heap.size w0 w) (d2 : ∀ W_, Ab7 w W_ g none → Kd.C k79 W_ b8 a7.length a7) (d3 : a7.length ≤ b9) (h : Af2.f k a5 b4 a7 = some (r1, r2)) :
  Calls Tryz.prog 90 #[.pointer (some ⟨g, 0, none⟩), .agg #[.slice b8 a7.length b9]] w fun e w' => ∃ j6 : Value, e = .returned (j6) ∧ Kd.R (Kd.int .i64) 2 w' w.heap.size (fun _ => True) j6 r1 ∧ Aa0 w0 w' g a5 r2 ∧ Below w0.heap.size w0 w' ∧ Ab7 w w' g none := by
 have l7 := Tryz.underlying36
 have j7 := am d2
 have j8 := am d3
 clear d2 d3
 have a4 := am hI
 have HK := am (Ab7.refl w g none)
 have HL := am hB.size
 clear hI
 have l8 := am hB.size
 have HB := am hB
 clear hB
 have H : ((Aj5.f k (a7.length : Int)).bind fun c0 => ((Ad7.f a5 b4 4).bind fun d4 => (Af2.l0 k c0 d4.1 a5 d4.2))) = some (r1, r2) := h
 clear h
 obtain ⟨c0, A3, H⟩ := ob H
 try dsimp only at H
 obtain ⟨⟨e6, e7⟩, A4, H⟩ := ob H
 try dsimp only at H
 have H' := am H
 clear H
 go_enter Tryz.func90, Tryz.ntmps90
 go_wp2_with (first | ((with_reducible refine An6 (N := 3) rfl ?_); (try (refine Ax0 (by rfl) ?_; dsimp only)); refine Aw4 ?hg (N := 3) ?hd (cs := #[.slice b8 a7.length b9]) (t := 36) ?hr ?_; (case hd => rfl); (case hg => rfl); (case hr => first | (go_simp; done) | (go_simp; rfl)); intro b5 hg w5 hbox hb; replace HB := am (Ad9 (hsk HB.out (Aa0.ge a4.out)) hb); have a0 := am (hbox); have e8 := am ((by rw [hg]; exact (Ae0 (w := w) (g := g) (row := none) (kq HK.out)) : w.heap.size ≤ b5)); replace HK := ku HK hb; have j9 := am (Nat.le_trans l8.out e8.out); have c1 := am ((by rw [hg]; exact Nat.ne_of_lt (Aa0.lt (show Aa0 w0 _ g a5 b4 from Aa0.q a4.out)) : g ≠ b5)); replace a4 := Aa0.bl a4 hb; have a8 := am c1.out.symm; clear hb hbox hg; obtain ⟨l9, m0⟩ := nn a8; have d5 := c0_ a0; have d6 := Aa2 a0.out 0) | (refine gl (some 12) Tryz.func101 rfl #[.int .i64 (a7.length : Int)] ?_; refine (Aj5.calls k (a7.length : Int) c0 _ A3.out).mono ?_; rintro e w8 ⟨h5, rfl, k0, hb⟩; refine ⟨_, rfl, ?_⟩; have b6 := am (Kd.R_lower k0 (Ae0 (w := w) (g := g) (row := none) (ks HK.out))); replace a0 := bb a0 hb; replace HK := ku HK hb; replace HB := am (Ad9 (hsk HB.out (Aa0.ge a4.out)) hb); replace a4 := Aa0.bl a4 hb; clear hb k0; (try clear hk); (try clear hi)) | (refine gl (some 14) Tryz.func75 rfl #[.pointer (some ⟨g, 0, none⟩), .int .i64 4] ?_; refine (Ad7.calls g a5 b4 4 e6 e7 w0 _ (Aa0.q a4.out) (hsk HB.out (Aa0.ge a4.out)) A4.out).mono ?_; rintro e w9 ⟨rfl, hi, hb, hk⟩; refine ⟨_, rfl, ?_⟩; replace a0 := kb hk a0 a8; replace b6 := Aa0.rk a4 b6 hk; replace HK := kt HK hk; replace HB := am (hb); replace a4 := am (hi); clear hb hk hi))
 go_loopg [6] k (fun kq v6 w' => ∃ (a1 : List Int) (a9 : Int) (a6 : Int), v6 = .int .i64 a9 ∧ Aside0 (Af2.l0 kq a1 a9 a5 a6 = some (r1, r2)) ∧ Aside0 (kq ≤ k) ∧ Aside0 (Kd.R (Kd.int .i64) 2 w' w.heap.size (fun _ => True) h5 a1) ∧ Aside0 (w'.heap[b5]? = some (.cells #[(.slice b8 a7.length b9)] 36 (0, 0))) ∧ Aside0 (Aa0 w0 w' g a5 a6) ∧ Aside0 (Ab7 w w' g none) ∧ Aside0 (Below w0.heap.size w0 w'))
 case atStart => exact ⟨(c0), (e6), (e7), et, H', ⟨Nat.le_refl _⟩, ⟨rq b6.out⟩, ⟨bq a0.out⟩, ⟨Aa0.q a4.out⟩, ⟨ks HK.out⟩, ⟨hsk HB.out (Aa0.ge a4.out)⟩⟩
 case round =>
  clear H'
  try clear d5; try clear d6
  obtain ⟨a1, a9, a6, rfl, HA, k2, HO_5, a0, a4, HK, HB⟩ := hrel
  cases gk with
  | zero => exact absurd HA.out (by simp [Af2.l0])
  | succ k1 =>
   have H := HA.out
   clear HA
   simp only [Af2.l0] at H
   by_cases c10 : a9 > 0
   ·rw [if_pos c10] at H
    have e9 := decide_eq_true c10
    clear c10
    by_cases e5 : (a1.length : Int) > 1
    ·rw [if_pos e5] at H
     have g0 := decide_eq_true e5
     have g1 : decide (1 < a1.length) = true := decide_eq_true (by omega)
     clear e5
     obtain ⟨⟨a2, b7⟩, k3, H⟩ := ob H
     try dsimp only at H
     obtain ⟨k4, H⟩ := ife H
     obtain ⟨k5, H⟩ := ife H
     obtain ⟨a3, b0⟩ : ∃ j_ : Int, (wrap64 (a2 + 1)) = j_ := ⟨_, rfl⟩
     replace H : (if 0 ≤ (a3) then (if (a3) < (a1.length : Int) then (Af2.l0 k1 ((a1.set (a2 : Int).toNat (rd a1 (a3))).set ((a3) : Int).toNat (rd a1 a2)) (wrap64 (a9 - 1)) a5 b7) else (none)) else (none)) = some (r1, r2) := by first | (rw [b0] at H; exact H) | (simp only [b0] at H ⊢; exact H)
     (try rw [b0] at k3)
     have hji15w : (IntKind.i64.wrap (a2 + 1)) = a3 := (Ae6 _).trans b0
     obtain ⟨k6, H⟩ := ife H
     obtain ⟨k7, H⟩ := ife H
     obtain ⟨d7, b1⟩ : ∃ y_ : List Int, y_ = (a1.set (a2 : Int).toNat (rd a1 (a3))) := ⟨_, rfl⟩
     replace H : (Af2.l0 k1 (d7.set ((a3) : Int).toNat (rd a1 a2)) (wrap64 (a9 - 1)) a5 b7) = some (r1, r2) := by first | (rw [b1]; first | with_reducible exact H | with_reducible exact bs H) | with_reducible exact bs H | with_reducible exact H | (rw [b1]; exact H) | exact H
     have g2 := am b1
     clear b1
     obtain ⟨d8, b2⟩ : ∃ y_ : List Int, y_ = (d7.set ((a3) : Int).toNat (rd a1 a2)) := ⟨_, rfl⟩
     replace H : (Af2.l0 k1 d8 (wrap64 (a9 - 1)) a5 b7) = some (r1, r2) := by first | (rw [b2]; first | with_reducible exact H | with_reducible exact bs H) | with_reducible exact bs H | with_reducible exact H | (rw [b2]; exact H) | exact H
     have g3 := am b2
     clear b2
     have H' := am H
     clear H
     obtain ⟨m1, g4, h6⟩ := Kd.R_slice HO_5.out
     subst h6
     go_wp2_with (first | (refine gl (some 28) Tryz.func75 rfl #[.pointer (some ⟨g, 0, none⟩), .int .i64 (wrap64 ((a1.length : Int) - 1))] ?_; refine (Ad7.calls g a5 a6 (wrap64 ((a1.length : Int) - 1)) a2 b7 w0 _ (Aa0.q a4.out) (hsk HB.out (Aa0.ge a4.out)) k3.out).mono ?_; rintro e k8 ⟨rfl, hi, hb, hk⟩; refine ⟨_, rfl, ?_⟩; replace HO_5 := Aa0.rk a4 HO_5 hk; replace a0 := kb hk a0 a8; replace HK := kt HK hk; replace HB := am (hb); replace a4 := am (hi); (try clear hb); (try clear hk); (try clear hi); have d9 : 0 ≤ (a2 : Int) := od; have e0 : a2 < (a1.length : Int) := od; obtain ⟨g5, h7, d0⟩ := Kd.at_int (Kd.R_reads' HO_5.out).2.2 a2 d9 e0; cases h7; replace d9 := eq_true d9; replace e0 := eq_true e0; have e1 : 0 ≤ ((a3) : Int) := od; have e2 : (a3) < (a1.length : Int) := od; obtain ⟨g6, h8, d1⟩ := Kd.at_int (Kd.R_reads' HO_5.out).2.2 (a3) e1 e2; obtain rfl : g5 = g6 := (by injection h8); replace e1 := eq_true e1; replace e2 := eq_true e2; have h9 : 0 ≤ (a2 : Int) := od; have i0 : (a2 : Int) < ((a1.length : Int) : Int) := od; obtain ⟨b3, m2, g7, g8, i1, m3, g9⟩ := Kd.R_form HO_5.out (by omega); (first | cases g7 | (injection g7 with h4 m4 m5; (first | subst h4 | (injection h4 with h4; subst h4)); subst m5; clear m4)); have h0 := am g8; have m6 := am g9; clear g8 i1 g9; (first | simp only [At7] at d0 | skip); (first | simp only [At7] at d1 | skip); obtain ⟨i2, i3⟩ := Kd.R_celln 0 HO_5.out (a2 : Int) h9 i0; replace h9 := eq_true h9; replace i0 := eq_true i0; obtain ⟨k9, l4⟩ := Kd.R_celln 0 HO_5.out (a2 : Int) od od; have e3 := Kd.R_putg HO_5.out (a2 : Int) (rd a1 (a3))) | ((with_reducible refine As7 (t := 2) (p := 40) rfl ?_); refine As0 (t := 2) (p := 40) (v := ?vo_w23) (w1 := (k8.setCell ⟨b3, (a2 : Int).toNat, none⟩ (.int .i64 (rd a1 (a3))))) ?hg ?ho ?hn ?hr ?_; (case ho => rfl); (case hg => rfl); (case hn => rfl); (case hr => first | (go_simp; done) | (go_simp; rfl)); intro h2 hw; have hg : k8.grownBy h2 (some b3) := (by rw [hw]; exact e3.2); have h3 : Kd.R (Kd.int .i64) 2 h2 w.heap.size (fun _ => True) (.slice (some ⟨b3, 0, none⟩) a1.length g4) d7 := (by rw [hw, g2.out]; exact e3.1); clear e3; replace a0 := am (Am6 (bq a0.out) hg (Kd.R_ne HO_5.out a0.out (by decide))); replace a4 := am (Aa0.grown (Aa0.q a4.out) hg (Aa0.own_ne a4.out HO_5.out (by decide))); replace HB := am ((by rw [hw]; exact Ak7 (HB.out) (Nat.le_trans HL.out h0.out) : Below w0.heap.size w0 h2)); replace HK := am (Ab7.trans (ks HK.out) (Ab7.of_grown hg g) (Kd.R_base2 HO_5.out)); replace HO_5 := am (h3); clear hg hw h3; have i4 : 0 ≤ ((a3) : Int) := od; have i5 : ((a3) : Int) < ((a1.length : Int) : Int) := od; obtain ⟨i6, i7⟩ := Kd.R_celln 0 HO_5.out ((a3) : Int) i4 i5; replace i4 := eq_true i4; replace i5 := eq_true i5; obtain ⟨l5, l6⟩ := Kd.R_celln 0 HO_5.out ((a3) : Int) od od; have e4 := Kd.R_putg HO_5.out ((a3) : Int) (rd a1 a2)) | ((with_reducible refine As7 (t := 2) (p := 45) rfl ?_); refine As0 (t := 2) (p := 45) (v := ?vo_w25) (w1 := (h2.setCell ⟨b3, ((a3) : Int).toNat, none⟩ (.int .i64 (rd a1 a2)))) ?hg ?ho ?hn ?hr ?_; (case ho => rfl); (case hg => rfl); (case hn => rfl); (case hr => first | (go_simp; done) | (go_simp; rfl)); intro i9 hw; have hg : h2.grownBy i9 (some b3) := (by rw [hw]; exact e4.2); have h3 : Kd.R (Kd.int .i64) 2 i9 w.heap.size (fun _ => True) (.slice (some ⟨b3, 0, none⟩) a1.length g4) d8 := (by rw [hw, g3.out]; exact e4.1); clear e4; replace a0 := am (Am6 (bq a0.out) hg (Kd.R_ne HO_5.out a0.out (by decide))); replace a4 := am (Aa0.grown (Aa0.q a4.out) hg (Aa0.own_ne a4.out HO_5.out (by decide))); replace HB := am ((by rw [hw]; exact Ak7 (HB.out) (Nat.le_trans HL.out h0.out) : Below w0.heap.size w0 i9)); replace HK := am (Ab7.trans (ks HK.out) (Ab7.of_grown hg g) (Kd.R_base2 HO_5.out)); replace HO_5 := am (h3); clear hg hw h3))
     go_roundg k1
     case measure => have := k2.out; omega
     case rel => exact ⟨(d8), (wrap64 (a9 - 1)), (b7), et, H', ⟨by have := k2.out; omega⟩, ⟨rq HO_5.out⟩, ⟨bq a0.out⟩, ⟨Aa0.q a4.out⟩, ⟨ks HK.out⟩, ⟨hsk HB.out (Aa0.ge a4.out)⟩⟩
    ·rw [if_neg e5] at H
     have g0 := decide_eq_false e5
     have g1 : decide (1 < a1.length) = false := decide_eq_false (by omega)
     clear e5
     simp only [Option.some.injEq, Prod.mk.injEq] at H
     obtain ⟨rfl, rfl⟩ := H
     obtain ⟨m7, m8, j5⟩ := Kd.R_slice HO_5.out
     subst j5
     go_wp2
     go_ret
     exact ⟨_, er, rq HO_5.out, Aa0.q a4.out, hsk HB.out (Aa0.ge a4.out), ks HK.out⟩
   ·rw [if_neg c10] at H
    have e9 := decide_eq_false c10
    clear c10
    simp only [Option.some.injEq, Prod.mk.injEq] at H
    obtain ⟨rfl, rfl⟩ := H
    go_wp2
    go_ret
    exact ⟨_, er, rq HO_5.out, Aa0.q a4.out, hsk HB.out (Aa0.ge a4.out), ks HK.out⟩
def Af5.j0 : Nat → List Int → Bool → List Int → Int → Option (List Int × Int)
 | 0, _, _, _, _ => none
 | k + 1, x5, a4, a1, a2 => if a4 = true then (some (x5, a2)) else ((Ad7.f a1 a2 3).bind fun a0 => (if a0.1 = 0 then (if 1 ≤ (x5.length : Int) then (some ((x5.drop (1 : Int).toNat), a0.2)) else (none)) else (if a0.1 = 1 then ((Ad8.f a1 a0.2 (([6, (-1)] : List Int))).bind fun a3 => (if 0 < (x5.length : Int) then (some ((x5.set (0 : Int).toNat a3.1), a3.2)) else (none))) else (if 0 ≤ (wrap64 ((x5.length : Int) - 1)) then (if (wrap64 ((x5.length : Int) - 1)) < (x5.length : Int) then (if 0 < (x5.length : Int) then (some ((x5.set (0 : Int).toNat (rd x5 (wrap64 ((x5.length : Int) - 1)))), a0.2)) else (none)) else (none)) else (none)))))
def Af5.f (k : Nat) (a1 : List Int) (a3 : Int) (a4 : List (S79)) : Option (List Int × Int) := (Af2.f k a1 a3 a4).bind fun a0 => (if (a0.1.length : Int) < 1 then (Af5.j0 k a0.1 true a1 a0.2) else ((Ae1.f a1 a0.2 10).bind fun a2 => (Af5.j0 k a0.1 (!a2.1) a1 a2.2)))
theorem Af5.calls (k : Nat) (g : Nat) (a3 : List Int) (c0 : Int) (c1 : Option Addr) (d0 : Nat) (a7 : List (S79)) (r1 : List Int) (r2 : Int) (w0 w : World) (hI : Aa0 w0 w g a3 c0) (hB : Below w0.heap.size w0 w) (e8 : ∀ W_, Ab7 w W_ g none → Kd.C k79 W_ c1 a7.length a7) (e9 : a7.length ≤ d0) (h : Af5.f k a3 c0 a7 = some (r1, r2)) :
  Calls Tryz.prog 69 #[.pointer (some ⟨g, 0, none⟩), .agg #[.slice c1 a7.length d0]] w fun e w' => ∃ o1 : Value, e = .returned (o1) ∧ Kd.Q (Kd.int .i64) 2 w' w.heap.size (fun _ => True) o1 r1 ∧ Aa0 w0 w' g a3 r2 ∧ Below w0.heap.size w0 w' ∧ Ab7 w w' g none := by
 have p8 := Tryz.underlying36
 have i3 := am e8
 have i4 := am e9
 clear e8 e9
 have a2 := am hI
 have HK := am (Ab7.refl w g none)
 have HL := am hB.size
 clear hI
 have p9 := am hB.size
 have HB := am hB
 clear hB
 have H : ((Af2.f k a3 c0 a7).bind fun b0 => (if (b0.1.length : Int) < 1 then (Af5.j0 k b0.1 true a3 b0.2) else ((Ae1.f a3 b0.2 10).bind fun g0 => (Af5.j0 k b0.1 (!g0.1) a3 g0.2)))) = some (r1, r2) := h
 clear h
 obtain ⟨⟨a0, g8⟩, A3, H⟩ := ob H
 try dsimp only at H
 have l8 := am H
 clear H
 go_enter Tryz.func69, Tryz.ntmps69
 go_upto_region 2 with (first | (refine bx 3 rfl #[.slice c1 a7.length d0] 36 ?_; intro d1 hg w5 hbox hb; replace HB := am (Ad9 (hsk HB.out (Aa0.ge a2.out)) hb); have a1 := am (hbox); have i5 := am ((by rw [hg]; exact (Ae0 (w := w) (g := g) (row := none) (kq HK.out)) : w.heap.size ≤ d1)); replace HK := ku HK hb; have o2 := am (Nat.le_trans p9.out i5.out); have e2 := am ((by rw [hg]; exact Nat.ne_of_lt (Aa0.lt (show Aa0 w0 _ g a3 c0 from Aa0.q a2.out)) : g ≠ d1)); replace a2 := Aa0.bl a2 hb; have a4 := am e2.out.symm; clear hb hbox hg; obtain ⟨q0, q1⟩ := nn a4; have g9 := c0_ a1; have h0 := Aa2 a1.out 0) | (refine gl (some 8) Tryz.func90 rfl #[.pointer (some ⟨g, 0, none⟩), .agg #[.slice c1 a7.length d0]] ?_; refine (Af2.calls k g a3 c0 _ _ a7 a0 g8 w0 _ (Aa0.q a2.out) (hsk HB.out (Aa0.ge a2.out)) (Kd.C_foot_step i3.out (ks HK.out)) i4.out A3.out).mono ?_; rintro e w8 ⟨l9, rfl, o3, hi, hb, hk⟩; refine ⟨_, rfl, ?_⟩; replace a1 := kb hk a1 a4; have a9 := am (Kd.R_lower o3 (Ae0 (w := w) (g := g) (row := none) (ks HK.out))); replace HK := kt HK hk; replace HB := am (hb); replace a2 := am (hi); clear hb hk hi o3))
 (try simp only [Act.put, lsp])
 go_cut [16] (fun q2 wc => ∃ (kq : Nat) (b2 : Bool) (a6 : Int), q2 = .bool b2 ∧ Aside0 (Af5.j0 kq a0 b2 a3 a6 = some (r1, r2)) ∧ Aside0 (kq ≤ k) ∧ Aside0 (Kd.R (Kd.int .i64) 2 wc w.heap.size (fun _ => True) l9 a0) ∧ Aside0 (wc.heap[d1]? = some (.cells #[(.slice c1 a7.length d0)] 36 (0, 0))) ∧ Aside0 (Aa0 w0 wc g a3 a6) ∧ Aside0 (Ab7 w wc g none) ∧ Aside0 (Below w0.heap.size w0 wc))
 case first =>
  have H := l8.out
  clear l8
  by_cases c9 : (a0.length : Int) < 1
  ·rw [if_pos c9] at H
   have d2 := decide_eq_true c9
   have m0 : decide (a0.length < 1) = true := decide_eq_true (by omega)
   clear c9
   (first | rw [d2] | (simp only [Ae6, Ae7]; rw [d2]) | skip)
   have H' := am H
   clear H
   obtain ⟨q3, q4, m1⟩ := Kd.R_slice a9.out
   subst m1
   go_wp2
   go_meet
   case rel => exact ⟨_, (true), (g8), et, H', lo, ⟨rq a9.out⟩, ⟨bq a1.out⟩, ⟨Aa0.q a2.out⟩, ⟨ks HK.out⟩, ⟨hsk HB.out (Aa0.ge a2.out)⟩⟩
  ·rw [if_neg c9] at H
   have d2 := decide_eq_false c9
   have m0 : decide (a0.length < 1) = false := decide_eq_false (by omega)
   clear c9
   (first | rw [d2] | (simp only [Ae6, Ae7]; rw [d2]) | skip)
   obtain ⟨⟨i6, i7⟩, q5, H⟩ := ob H
   try dsimp only at H
   have H' := am H
   clear H
   obtain ⟨q6, q7, m2⟩ := Kd.R_slice a9.out
   subst m2
   go_wp2_with (first | (go_at_call 70; refine (Ae1.calls g a3 g8 10 i6 i7 w0 _ (Aa0.q a2.out) (hsk HB.out (Aa0.ge a2.out)) q5.out).mono ?_; rintro e s6 ⟨rfl, hi, hb, hk⟩; replace a1 := kb hk a1 a4; replace a9 := Aa0.rk a2 a9 hk; replace HK := kt HK hk; replace HB := am (hb); replace a2 := am (hi); (try clear hb); (try clear hk); (try clear hi)))
   go_meet
   case rel => exact ⟨_, (!i6), (i7), et, H', lo, ⟨rq a9.out⟩, ⟨bq a1.out⟩, ⟨Aa0.q a2.out⟩, ⟨ks HK.out⟩, ⟨hsk HB.out (Aa0.ge a2.out)⟩⟩
 case rest =>
  clear l8
  try clear g9; try clear h0
  obtain ⟨kq, b2, a6, rfl, HA, s7, HO_5, a1, a2, HK, HB⟩ := hcut
  cases kq with
  | zero => exact absurd HA.out (by simp [Af5.j0])
  | succ s8 =>
   have H := HA.out
   clear HA
   simp only [Af5.j0] at H
   by_cases l7 : b2 = true
   ·subst l7
    rw [if_pos rfl] at H
    simp only [Option.some.injEq, Prod.mk.injEq] at H
    obtain ⟨rfl, rfl⟩ := H
    go_wp2
    go_ret
    exact ⟨_, er, Kd.Q_of_R (rq HO_5.out), Aa0.q a2.out, hsk HB.out (Aa0.ge a2.out), ks HK.out⟩
   ·replace l7 := Bool.eq_false_iff.mpr l7
    subst l7
    rw [if_neg (show ¬ (false = true) by decide)] at H
    obtain ⟨⟨h2, b8⟩, q8, H⟩ := ob H
    try dsimp only at H
    have i9 := am H
    clear H
    go_upto_if 28 with (first | (refine gl (some 19) Tryz.func75 rfl #[.pointer (some ⟨g, 0, none⟩), .int .i64 3] ?_; refine (Ad7.calls g a3 a6 3 h2 b8 w0 _ (Aa0.q a2.out) (hsk HB.out (Aa0.ge a2.out)) q8.out).mono ?_; rintro e m3 ⟨rfl, hi, hb, hk⟩; refine ⟨_, rfl, ?_⟩; replace HO_5 := Aa0.rk a2 HO_5 hk; replace a1 := kb hk a1 a4; replace HK := kt HK hk; replace HB := am (hb); replace a2 := am (hi); clear hb hk hi))
    have H := i9.out
    clear i9
    by_cases j5 : h2 = 0
    ·rw [if_pos j5] at H
     obtain ⟨b1, j6⟩ := bqt j5; clear j5
     (first | rw [b1] | (simp only [Ae6, Ae7]; rw [b1]) | skip)
     obtain ⟨o4, o5, H⟩ := ifd H
     obtain ⟨d3, b3⟩ : ∃ y_ : List Int, y_ = (a0.drop (1 : Int).toNat) := ⟨_, rfl⟩
     replace H : (some (d3, b8)) = some (r1, r2) := by first | (rw [b3]; first | with_reducible exact H | with_reducible exact bs H) | with_reducible exact bs H | with_reducible exact H | (rw [b3]; exact H) | exact H
     have g1 := am b3
     clear b3
     simp only [Option.some.injEq, Prod.mk.injEq] at H
     obtain ⟨rfl, rfl⟩ := H
     obtain ⟨d4, e3, m4⟩ := Kd.R_slice HO_5.out
     subst m4
     have m5 : (1 : Int) ≤ ((a0.length : Int) : Int) := od
     obtain ⟨q9, g2, _, g3, _⟩ := info_parts Au1
     have hcut21 := cut_from (P := Tryz.prog) 25 2 .i64 Tryz.underlying25 g2 1 g3 d4 a0.length e3 1 (by omega) m5
     have d5 := Kd.Q_drop (k := (1 : Int).toNat) (Kd.Q_of_R HO_5.out) (by omega)
     obtain ⟨o6, e4⟩ : ∃ r0, r0 = (if e3 = (1 : Int).toNat then d4 else (d4 : Option Addr).map (·.add ((1 : Int).toNat * 1))) := ⟨_, rfl⟩
     obtain ⟨o7, h3⟩ : ∃ r3, r3 = e3 - (1 : Int).toNat := ⟨_, rfl⟩
     have h4 : d3.length = a0.length - (1 : Int).toNat := (by rw [g1.out, List.length_drop])
     rw [← g1.out] at d5
     rw [← h4, ← e4, ← h3] at hcut21
     replace d5 : Kd.Q (Kd.int .i64) 2 m3 w.heap.size (fun _ => True) (.slice o6 d3.length o7) d3 := (by rw [e4, h3, h4]; exact d5)
     have r4 : Aside0 ((Value.slice o6 d3.length o7).ownBlock = (.slice d4 a0.length e3 : Value).ownBlock) := ⟨by rw [e4]; split <;> (cases (d4 : Option Addr) <;> rfl)⟩
     clear h4 g2 g3 HO_5 e4 h3
     have j7 := am d5
     clear d5
     replace m5 := eq_true m5
     go_wp2
     go_ret
     exact ⟨_, er, qq j7.out, Aa0.q a2.out, hsk HB.out (Aa0.ge a2.out), ks HK.out⟩
    ·rw [if_neg j5] at H
     obtain ⟨b1, j6⟩ := bqf j5
     (first | rw [b1] | (simp only [Ae6, Ae7]; rw [b1]) | skip)
     by_cases j8 : h2 = 1
     ·rw [if_pos j8] at H
      obtain ⟨j9, k0⟩ := bqt j8; clear j8
      obtain ⟨d6, b4⟩ : ∃ y_ : List Int, y_ = (([6, (-1)] : List Int)) := ⟨_, rfl⟩
      replace H : ((Ad8.f a3 b8 d6).bind fun g4 => (if 0 < (a0.length : Int) then (some ((a0.set (0 : Int).toNat g4.1), g4.2)) else (none))) = some (r1, r2) := by first | (rw [b4]; first | with_reducible exact H | with_reducible exact bs H) | with_reducible exact bs H | with_reducible exact H | (rw [b4]; exact H) | exact H
      have g5 := am b4
      clear b4
      obtain ⟨⟨e5, k1⟩, r5, H⟩ := ob H
      try dsimp only at H
      obtain ⟨o8, H⟩ := ifs H
      have o9 := decide_eq_true o8
      have p0 : decide (0 < a0.length) = true := decide_eq_true (by omega)
      clear o8
      obtain ⟨k2, b5⟩ : ∃ y_ : List Int, y_ = (a0.set (0 : Int).toNat e5) := ⟨_, rfl⟩
      replace H : (some (k2, k1)) = some (r1, r2) := by first | (rw [b5]; first | with_reducible exact H | with_reducible exact bs H) | with_reducible exact bs H | with_reducible exact H | (rw [b5]; exact H) | exact H
      have k3 := am b5
      clear b5
      simp only [Option.some.injEq, Prod.mk.injEq] at H
      obtain ⟨rfl, rfl⟩ := H
      go_wp2_with (first | (refine rl 36 rfl 2 [6, (-1)] ?_; intro r6 s9 b9 hb r7 hnew_; clear r7 hnew_; (first | rw [← g5.out] at b9 | (simp only [Int.reduceToNat] at b9; rw [← g5.out] at b9)); have a5 := am (Kd.R_lower (Kd.R_new' b9 (Kd.R_lt (rq HO_5.out))) (Ae0 (w := w) (g := g) (row := none) (ks HK.out))); replace HO_5 := am (Kd.R_elder' (rq HO_5.out) (Kd.R_base b9) hb); replace a1 := bb a1 hb; replace HK := ku HK hb; replace HB := am (Ad9 (hsk HB.out (Aa0.ge a2.out)) hb); replace a2 := Aa0.bl a2 hb; clear hb b9; obtain ⟨h5, h6, rfl⟩ := Kd.R_slice a5.out) | (refine gl (some 37) Tryz.func73 rfl #[.pointer (some ⟨g, 0, none⟩), .slice h5 d6.length h6] ?_; refine (Ad8.calls g a3 b8 _ _ d6 e5 k1 w0 _ (Aa0.q a2.out) (hsk HB.out (Aa0.ge a2.out)) (cq (Kd.R_reads' a5.out).2.2) ((Kd.R_reads' a5.out).2.1) (Aq8 (Aa0.own_ne a2.out a5.out (by decide))) r5.out).mono ?_; rintro e p1 ⟨rfl, hi, hb, hk⟩; refine ⟨_, rfl, ?_⟩; replace HO_5 := Aa0.rk a2 HO_5 hk; replace a1 := kb hk a1 a4; replace a5 := Aa0.rk a2 a5 hk; replace HK := kt HK hk; replace HB := am (hb); replace a2 := am (hi); (try clear hb); (try clear hk); (try clear hi); have m6 : 0 ≤ (0 : Int) := (by omega); have m7 : (0 : Int) < ((a0.length : Int) : Int) := od; have r8 : (0 < a0.length) = True := eq_true (by omega); obtain ⟨d7, h7, k4, k5, m8, r9, k6⟩ := Kd.R_form HO_5.out (by omega); (first | cases k4 | (injection k4 with e6 m9 n0; (first | subst e6 | (injection e6 with e6; subst e6)); subst n0; clear m9)); have n1 := am k5; have s0 := am k6; clear k5 m8 k6; obtain ⟨d8, d9⟩ := Kd.R_celln 0 HO_5.out (0 : Int) m6 m7; (try simp only [t0_] at d8); (try simp only [Nat.reduceMul, Nat.zero_mul, Nat.zero_add, Nat.reduceAdd] at d8); (try simp only [t0_] at d9); (try simp only [Nat.reduceMul, Nat.zero_mul, Nat.zero_add, Nat.reduceAdd] at d9); replace m6 := eq_true m6; replace m7 := eq_true m7; have n_ := am (Kd.R_mono (ok' := (fun k_ => some k_ ≠ (.slice h5 d6.length h6 : Value).ownBlock)) HO_5.out (fun k_ hk => hk.2)); clear HO_5; have HO_5 := n_; clear n_; obtain ⟨g6, g7⟩ := Kd.R_celln 0 HO_5.out (0 : Int) (by omega) od; (try simp only [Int.reduceToNat, Int.toNat_zero, Int.toNat_ofNat, Nat.reduceMul, Nat.zero_mul, Nat.zero_add] at g6 g7); (try simp only [t0_] at g6 g7); have h8 := Kd.R_putg HO_5.out (0 : Int) e5) | ((with_reducible refine As7 (t := 2) (p := 38) rfl ?_); refine As0 (t := 2) (p := 38) (v := ?vo_w31) (w1 := (p1.setCell ⟨d7, (0 : Int).toNat, none⟩ (.int .i64 e5))) ?hg ?ho ?hn ?hr ?_; (case ho => rfl); (case hg => rfl); (case hn => rfl); (case hr => first | (go_simp; done) | (go_simp; rfl)); intro n2 hw; have hg : p1.grownBy n2 (some d7) := (by rw [hw]; exact h8.2); have k7 : Kd.R (Kd.int .i64) 2 n2 w.heap.size (fun k_ => some k_ ≠ (.slice h5 d6.length h6 : Value).ownBlock) (.slice (some ⟨d7, 0, none⟩) a0.length h7) k2 := (by rw [hw, k3.out]; exact h8.1); clear h8; replace a1 := am (Am6 (bq a1.out) hg (Kd.R_ne HO_5.out a1.out (by decide))); replace a2 := am (Aa0.grown (Aa0.q a2.out) hg (Aa0.own_ne a2.out HO_5.out (by decide))); replace a5 := am (Kd.R_after (v := (.slice (some ⟨d7, 0, none⟩) a0.length h7)) (v1 := (.slice (some ⟨d7, 0, none⟩) a0.length h7)) (ok := (fun _ => True)) (rq a5.out) hg (.inl rfl)); replace HB := am ((by rw [hw]; exact Ak7 (HB.out) (Nat.le_trans HL.out n1.out) : Below w0.heap.size w0 n2)); replace HK := am (Ab7.trans (ks HK.out) (Ab7.of_grown hg g) (Kd.R_base2 HO_5.out)); replace HO_5 := am (k7); clear hg hw k7))
      go_ret
      exact ⟨_, er, Kd.Q_of_R (rq (Kd.R_mono HO_5.out (fun _ hk => trivial))), Aa0.q a2.out, hsk HB.out (Aa0.ge a2.out), ks HK.out⟩
     ·rw [if_neg j8] at H
      obtain ⟨j9, k0⟩ := bqf j8
      obtain ⟨a8, b6⟩ : ∃ j_ : Int, (wrap64 ((a0.length : Int) - 1)) = j_ := ⟨_, rfl⟩
      replace H : (if 0 ≤ (a8) then (if (a8) < (a0.length : Int) then (if 0 < (a0.length : Int) then (some ((a0.set (0 : Int).toNat (rd a0 (a8))), b8)) else (none)) else (none)) else (none)) = some (r1, r2) := by first | (rw [b6] at H; exact H) | (simp only [b6] at H ⊢; exact H)
      have hji32w : (IntKind.i64.wrap ((a0.length : Int) - 1)) = a8 := (Ae6 _).trans b6
      obtain ⟨p2, H⟩ := ife H
      obtain ⟨p3, H⟩ := ife H
      obtain ⟨p4, H⟩ := ifs H
      have p5 := decide_eq_true p4
      have p6 : decide (0 < a0.length) = true := decide_eq_true (by omega)
      clear p4
      obtain ⟨k8, b7⟩ : ∃ y_ : List Int, y_ = (a0.set (0 : Int).toNat (rd a0 (a8))) := ⟨_, rfl⟩
      replace H : (some (k8, b8)) = some (r1, r2) := by first | (rw [b7]; first | with_reducible exact H | with_reducible exact bs H) | with_reducible exact bs H | with_reducible exact H | (rw [b7]; exact H) | exact H
      have k9 := am b7
      clear b7
      simp only [Option.some.injEq, Prod.mk.injEq] at H
      obtain ⟨rfl, rfl⟩ := H
      obtain ⟨s1, n3, n4⟩ := Kd.R_slice HO_5.out
      subst n4
      have h9 : 0 ≤ ((a8) : Int) := od
      have i0 : (a8) < (a0.length : Int) := od
      obtain ⟨p7, n5, e7⟩ := Kd.at_int (Kd.R_reads' HO_5.out).2.2 (a8) h9 i0
      cases n5
      obtain ⟨h9, i0⟩ := ee h9 i0
      have n6 : 0 ≤ (0 : Int) := (by omega)
      have n7 : (0 : Int) < ((a0.length : Int) : Int) := od
      have s2 : (0 < a0.length) = True := eq_true (by omega)
      obtain ⟨i1, s3, l4, l5, n8, s4, l6⟩ := Kd.R_form HO_5.out (by omega)
      (first | cases l4 | (injection l4 with e6 m9 n0; (first | subst e6 | (injection e6 with e6; subst e6)); subst n0; clear m9))
      have n9 := am l5
      have s5 := am l6
      clear l5 n8 l6
      (first | simp only [At7] at e7 | skip)
      obtain ⟨e0, e1⟩ := Kd.R_celln 0 HO_5.out (0 : Int) n6 n7
      (try simp only [t0_] at e0)
      (try simp only [Nat.reduceMul, Nat.zero_mul, Nat.zero_add, Nat.reduceAdd] at e0)
      (try simp only [t0_] at e1)
      (try simp only [Nat.reduceMul, Nat.zero_mul, Nat.zero_add, Nat.reduceAdd] at e1)
      obtain ⟨n6, n7⟩ := ee n6 n7
      have i2 := Kd.R_putg HO_5.out (0 : Int) (rd a0 (a8))
      go_wp2_with (first | ((with_reducible refine As7 (t := 2) (p := 27) rfl ?_); refine As0 (t := 2) (p := 27) (v := ?vo_w39) (w1 := (m3.setCell ⟨i1, (0 : Int).toNat, none⟩ (.int .i64 (rd a0 (a8))))) ?hg ?ho ?hn ?hr ?_; (case ho => rfl); (case hg => rfl); (case hn => rfl); (case hr => first | (go_simp; done) | (go_simp; rfl)); intro o0 hw; have hg : m3.grownBy o0 (some i1) := (by rw [hw]; exact i2.2); have k7 : Kd.R (Kd.int .i64) 2 o0 w.heap.size (fun _ => True) (.slice (some ⟨i1, 0, none⟩) a0.length n3) k8 := (by rw [hw, k9.out]; exact i2.1); clear i2; replace a1 := am (Am6 (bq a1.out) hg (Kd.R_ne HO_5.out a1.out (by decide))); replace a2 := am (Aa0.grown (Aa0.q a2.out) hg (Aa0.own_ne a2.out HO_5.out (by decide))); replace HB := am ((by rw [hw]; exact Ak7 (HB.out) (Nat.le_trans HL.out n9.out) : Below w0.heap.size w0 o0)); replace HK := am (Ab7.trans (ks HK.out) (Ab7.of_grown hg g) (Kd.R_base2 HO_5.out)); replace HO_5 := am (k7); clear hg hw k7))
      go_ret
      exact ⟨_, by first | rfl | (simp [Ag8, Ag7] <;> rfl) | (simp only [← b6]; first | rfl | (simp [Ag8, Ag7] <;> rfl)) | (simp [*, Ag8, Ag7] <;> rfl), Kd.Q_of_R (rq HO_5.out), Aa0.q a2.out, hsk HB.out (Aa0.ge a2.out), ks HK.out⟩
attribute [local go_sem] Ai1 Ah9 Ak5 Ak4 Ah0 Ag9 Ai2 Ai0   -- for this text's walks alone
set_option linter.unusedVariables false
set_option linter.unusedSimpArgs false
mutual
def Ab6.j0 : Nat → List (S36) → Int → Int → Bool → List Int → Int → Option (List Int × Int)
 | 0, _, _, _, _, _, _ => none
 | k + 1, x1, x2, x3, a4, a0, a1 => if a4 = true then ((Ad7.f a0 a1 x3).bind fun a2 => (some ((([wrap64 ((-1) - a2.1)] : List Int)), a2.2))) else (if 0 < (x1.length : Int) then ((Ad7.f a0 a1 (((Ad6 x1 0).f0).length : Int)).bind fun a3 => (Ab6.l0 k x1 x2 x3 (((Ad6 x1 0).f0).length : Int) a3.1 0 a0 a3.2)) else (none))
def Ab6.j2 : Nat → List (S36) → Int → Int → Int → Int → List Int → Int → Option (List Int × Int)
 | 0, _, _, _, _, _, _, _ => none
 | k + 1, x1, x2, x3, x9, a2, a0, a1 => if x2 < 2 then (Ab6.l1 k x1 x2 x3 x9 a2 0 a0 a1) else (Ab6.j4 k x1 x2 x3 a2 a0 a1)
def Ab6.j4 : Nat → List (S36) → Int → Int → Int → List Int → Int → Option (List Int × Int)
 | 0, _, _, _, _, _, _ => none
 | k + 1, x1, x2, x3, a6, a1, a2 => (some (([a6] : List Int) : List Int)).bind fun a3 => (if 0 < (x1.length : Int) then (if 0 ≤ a6 then (if a6 < (((Ad6 x1 0).f0).length : Int) then (if ((Ac2 ((Ad6 x1 0).f0) a6).f1) = 1 then ((Ab6.f k a1 a2 x1 (wrap64 (x2 - 1)) x3).bind fun a4 => (if a3.length + a4.1.length < 17592186044416 then (some ((a3 ++ a4.1), a4.2)) else (none))) else (if ((Ac2 ((Ad6 x1 0).f0) a6).f1) = 2 then ((Ab6.f k a1 a2 x1 (wrap64 (x2 - 2)) x3).bind fun a0 => (if a3.length + a0.1.length < 17592186044416 then ((some (a3 ++ a0.1 : List Int)).bind fun a7 => ((Ab6.f k a1 a0.2 x1 (wrap64 ((wrap64 (x2 - 1)) - (a0.1.length : Int))) x3).bind fun a5 => (if a7.length + a5.1.length < 17592186044416 then (some ((a7 ++ a5.1), a5.2)) else (none)))) else (none))) else (some (a3, a2)))) else (none)) else (none)) else (none))
def Ab6.l1 : Nat → List (S36) → Int → Int → Int → Int → Int → List Int → Int → Option (List Int × Int)
 | 0, _, _, _, _, _, _, _, _ => none
 | k + 1, x1, x2, x3, x9, a2, a3, a0, a1 => if a3 < x9 then (if 0 < (x1.length : Int) then (if 0 ≤ a2 then (if a2 < (((Ad6 x1 0).f0).length : Int) then (if ((Ac2 ((Ad6 x1 0).f0) a2).f1) > 0 then (if x9 = 0 then (none) else (Ab6.l1 k x1 x2 x3 x9 (Int.tmod (wrap64 (a2 + 1)) x9) (wrap64 (a3 + 1)) a0 a1)) else (Ab6.j4 k x1 x2 x3 a2 a0 a1)) else (none)) else (none)) else (none)) else (Ab6.j4 k x1 x2 x3 a2 a0 a1)
def Ab6.l0 : Nat → List (S36) → Int → Int → Int → Int → Int → List Int → Int → Option (List Int × Int)
 | 0, _, _, _, _, _, _, _, _ => none
 | k + 1, x1, x2, x3, x9, a2, a3, a0, a1 => if a3 < x9 then (if 0 < (x1.length : Int) then (if 0 ≤ a2 then (if a2 < (((Ad6 x1 0).f0).length : Int) then (if ((Ac2 ((Ad6 x1 0).f0) a2).f1) ≥ x2 then (if x9 = 0 then (none) else (Ab6.l0 k x1 x2 x3 x9 (Int.tmod (wrap64 (a2 + 1)) x9) (wrap64 (a3 + 1)) a0 a1)) else (Ab6.j2 k x1 x2 x3 x9 a2 a0 a1)) else (none)) else (none)) else (none)) else (Ab6.j2 k x1 x2 x3 x9 a2 a0 a1)
def Ab6.f : Nat → List Int → Int → List (S36) → Int → Int → Option (List Int × Int)
 | 0, _, _, _, _, _ => none
 | k + 1, a0, a6, l1, a2, a3 => if a3 > 0 then (if a2 < 2 then ((Ae1.f a0 a6 2).bind fun a1 => (if a1.1 = true then (Ab6.j0 k l1 a2 a3 true a0 a1.2) else ((Ae1.f a0 a1.2 4).bind fun a4 => (Ab6.j0 k l1 a2 a3 a4.1 a0 a4.2)))) else ((Ae1.f a0 a6 4).bind fun a5 => (Ab6.j0 k l1 a2 a3 a5.1 a0 a5.2))) else (Ab6.j0 k l1 a2 a3 false a0 a6)
end
theorem Ab6.calls (k : Nat) : ∀ (g : Nat) (a1 : List Int) (d9 : Int) (A1 : Option Addr) (l1 : List (S36)) (a2 : Int) (a3 : Int) (r1 : List Int) (r2 : Int) (w0 w : World) (hI : Aa0 w0 w g a1 d9) (hB : Below w0.heap.size w0 w) (x3 : ∀ W_, Ab7 w W_ g none → Kd.C k36 W_ A1 l1.length l1) (h : Ab6.f k a1 d9 l1 a2 a3 = some (r1, r2)),
  Calls Tryz.prog 92 #[.pointer (some ⟨g, 0, none⟩), .pointer A1, .int .i64 a2, .int .i64 a3] w fun e w' => ∃ z8 : Value, e = .returned (z8) ∧ Kd.R (Kd.int .i64) 2 w' w.heap.size (fun _ => True) z8 r1 ∧ Aa0 w0 w' g a1 r2 ∧ Below w0.heap.size w0 w' ∧ Ab7 w w' g none := by
 induction k using Nat.strongRecOn with
 | _ k ih =>
 intro g a1 d9 A1 l1 a2 a3 r1 r2 w0 w hI hB x3 h
 cases k with
 | zero => exact absurd h (by simp [Ab6.f])
 | succ k =>
 simp only [Ab6.f] at h
 have g0 := am x3
 clear x3
 have a0 := am hI
 have HK := am (Ab7.refl w g none)
 have HL := am hB.size
 clear hI
 have F0 := am hB.size
 have HB := am hB
 clear hB
 have H : (if a3 > 0 then (if a2 < 2 then ((Ae1.f a1 d9 2).bind fun l5 => (if l5.1 = true then (Ab6.j0 k l1 a2 a3 true a1 l5.2) else ((Ae1.f a1 l5.2 4).bind fun n8 => (Ab6.j0 k l1 a2 a3 n8.1 a1 n8.2)))) else ((Ae1.f a1 d9 4).bind fun n9 => (Ab6.j0 k l1 a2 a3 n9.1 a1 n9.2))) else (Ab6.j0 k l1 a2 a3 false a1 d9)) = some (r1, r2) := h
 clear h
 have x4 := am H
 clear H
 go_enter Tryz.func92, Tryz.ntmps92
 go_upto_region 1 with (fail)
 go_cut [28] (fun D4 wc => ∃ (kq : Nat) (i0 : Bool) (b3 : Int), D4 = .bool i0 ∧ Aside0 (Ab6.j0 kq l1 a2 a3 i0 a1 b3 = some (r1, r2)) ∧ Aside0 (kq ≤ k) ∧ Aside0 (Aa0 w0 wc g a1 b3) ∧ Aside0 (Ab7 w wc g none) ∧ Aside0 (Below w0.heap.size w0 wc))
 case first =>
  have H := x4.out
  clear x4
  by_cases c6 : a3 > 0
  ·rw [if_pos c6] at H
   have l6 := decide_eq_true c6
   clear c6
   (first | rw [l6] | (simp only [Ae6, Ae7]; rw [l6]) | skip)
   by_cases c7 : a2 < 2
   ·rw [if_pos c7] at H
    have x5 := decide_eq_true c7
    clear c7
    obtain ⟨⟨x6, m6⟩, A8, H⟩ := ob H
    try dsimp only at H
    by_cases c9 : x6 = true
    ·subst c9
     rw [if_pos rfl] at H
     have H' := am H
     clear H
     go_wp2_with (first | (go_at_call 70; (with_reducible refine (Ae1.calls g a1 d9 2 true m6 w0 _ ?side1 ?side2 A8.out).mono ?_); (case side1 => exact Aa0.q a0.out); (case side2 => exact hsk HB.out (Aa0.ge a0.out)); rintro e F1 ⟨rfl, hi, hb, hk⟩; replace HK := kt HK hk; replace HB := am (hb); replace a0 := am (hi); (try clear hb); (try clear hk); (try clear hi)))
     go_meet
     case rel => exact ⟨_, (true), (m6), et, H', lo, ⟨Aa0.q a0.out⟩, ⟨kq HK.out⟩, ⟨hsk HB.out (Aa0.ge a0.out)⟩⟩
    ·replace c9 := Bool.eq_false_iff.mpr c9
     subst c9
     rw [if_neg (show ¬ (false = true) by decide)] at H
     obtain ⟨⟨r8, r9⟩, D5, H⟩ := ob H
     try dsimp only at H
     have H' := am H
     clear H
     go_wp2_with (first | (go_at_call 70; (with_reducible refine (Ae1.calls g a1 d9 2 false m6 w0 _ ?side1 ?side2 A8.out).mono ?_); (case side1 => exact Aa0.q a0.out); (case side2 => exact hsk HB.out (Aa0.ge a0.out)); rintro e F2 ⟨rfl, hi, hb, hk⟩; replace HK := kt HK hk; replace HB := am (hb); replace a0 := am (hi); (try clear hb); (try clear hk); (try clear hi)) | (go_at_call 70; (with_reducible refine (Ae1.calls g a1 m6 4 r8 r9 w0 _ ?side1 ?side2 D5.out).mono ?_); (case side1 => exact Aa0.q a0.out); (case side2 => exact hsk HB.out (Aa0.ge a0.out)); rintro e F3 ⟨rfl, hi, hb, hk⟩; replace HK := kt HK hk; replace HB := am (hb); replace a0 := am (hi); (try clear hb); (try clear hk); (try clear hi)))
     go_meet
     case rel => exact ⟨_, (r8), (r9), et, H', lo, ⟨Aa0.q a0.out⟩, ⟨kq HK.out⟩, ⟨hsk HB.out (Aa0.ge a0.out)⟩⟩
   ·rw [if_neg c7] at H
    have x5 := decide_eq_false c7
    clear c7
    obtain ⟨⟨s0, s1⟩, D6, H⟩ := ob H
    try dsimp only at H
    have H' := am H
    clear H
    go_wp2_with (first | (go_at_call 70; (with_reducible refine (Ae1.calls g a1 d9 4 s0 s1 w0 _ ?side1 ?side2 D6.out).mono ?_); (case side1 => exact Aa0.q a0.out); (case side2 => exact hsk HB.out (Aa0.ge a0.out)); rintro e F4 ⟨rfl, hi, hb, hk⟩; replace HK := kt HK hk; replace HB := am (hb); replace a0 := am (hi); (try clear hb); (try clear hk); (try clear hi)))
    go_meet
    case rel => exact ⟨_, (s0), (s1), et, H', lo, ⟨Aa0.q a0.out⟩, ⟨kq HK.out⟩, ⟨hsk HB.out (Aa0.ge a0.out)⟩⟩
  ·rw [if_neg c6] at H
   have l6 := decide_eq_false c6
   clear c6
   (first | rw [l6] | (simp only [Ae6, Ae7]; rw [l6]) | skip)
   have H' := am H
   clear H
   go_wp2
   go_meet
   case rel => exact ⟨_, (false), (d9), et, H', lo, ⟨Aa0.q a0.out⟩, ⟨kq HK.out⟩, ⟨hsk HB.out (Aa0.ge a0.out)⟩⟩
 case rest =>
  clear x4
  obtain ⟨kq, i0, b3, rfl, HA, k9, a0, HK, HB⟩ := hcut
  cases kq with
  | zero => exact absurd HA.out (by simp [Ab6.j0])
  | succ x7 =>
   have H := HA.out
   clear HA
   simp only [Ab6.j0] at H
   by_cases o0 : i0 = true
   ·subst o0
    rw [if_pos rfl] at H
    obtain ⟨⟨k8, s2⟩, D7, H⟩ := ob H
    try dsimp only at H
    obtain ⟨x8, i1⟩ : ∃ y_ : List Int, y_ = (([wrap64 ((-1) - k8)] : List Int)) := ⟨_, rfl⟩
    replace H : (some (x8, s2)) = some (r1, r2) := by first | (rw [i1]; first | with_reducible exact H | with_reducible exact bs H) | with_reducible exact bs H | with_reducible exact H | (rw [i1]; exact H) | exact H
    have o1 := am i1
    clear i1
    simp only [Option.some.injEq, Prod.mk.injEq] at H
    obtain ⟨rfl, rfl⟩ := H
    go_wp2_with (first | (refine gl (some 31) Tryz.func75 rfl #[.pointer (some ⟨g, 0, none⟩), .int .i64 a3] ?_; (with_reducible refine (Ad7.calls g a1 b3 a3 k8 s2 w0 _ ?side1 ?side2 D7.out).mono ?_); (case side1 => exact Aa0.q a0.out); (case side2 => exact hsk HB.out (Aa0.ge a0.out)); rintro e F5 ⟨rfl, hi, hb, hk⟩; refine ⟨_, rfl, ?_⟩; replace HK := kt HK hk; replace HB := am (hb); replace a0 := am (hi); clear hb hk hi) | ((with_reducible refine An6 (N := 33) rfl ?_); refine Kd.R_lit (Kd.int .i64) _ 2 ?hg (N := 33) ?hd (xs := ([wrap64 ((-1) - k8)] : List Int)) (inner := [.int .i64 (wrap64 ((-1) - k8))]) (ok := fun _ => True) (okp := fun _ => True) ?hr ?hp (fun _ hk => hk) trivial (Below.refl _ _) (Nat.le_refl _) (by simp) ?_; (case hd => rfl); (case hg => rfl); (case hr => first | (go_simp; done) | (go_simp; rfl)); (case hp => exact (Aj9.one (show Kd.M (Kd.int .i64) _ _ _ (wrap64 ((-1) - k8)) [.int .i64 (wrap64 ((-1) - k8))] from rfl) (Aj9.none _ _))); intro D8 F6 l7 hb x9 hnew_; clear x9 hnew_; (first | rw [← o1.out] at l7 | (simp only [Int.reduceToNat] at l7; rw [← o1.out] at l7)); have s3 := am (Kd.R_lower l7 (Ae0 (w := w) (g := g) (row := none) (kq HK.out))); replace HK := ku HK hb; replace HB := am (Ad9 (hsk HB.out (Aa0.ge a0.out)) hb); replace a0 := Aa0.bl a0 hb; clear hb l7))
    go_ret
    exact ⟨_, er, rq s3.out, Aa0.q a0.out, hsk HB.out (Aa0.ge a0.out), kq HK.out⟩
   ·replace o0 := Bool.eq_false_iff.mpr o0
    subst o0
    rw [if_neg (show ¬ (false = true) by decide)] at H
    obtain ⟨r3, H⟩ := ifs H
    have i2 := decide_eq_true r3
    have i3 : decide (0 < l1.length) = true := decide_eq_true (by omega)
    clear r3
    obtain ⟨⟨s4, b2⟩, D9, H⟩ := ob H
    try dsimp only at H
    have o3 := am H
    clear H
    have g1 : 0 ≤ (0 : Int) := (by omega)
    have g2 : 0 < (l1.length : Int) := od
    obtain ⟨a6, y0, y1, y2, b0, i4, i5⟩ := Aj0 (Kd.C_foot_now g0.out HK.out) 0 g1 g2
    cases y2
    have z9 : (0 < l1.length) = True := eq_true (by omega)
    (try simp only [t0_] at b0)
    have v8 := am i5
    have v9 := am i4
    clear i5 i4
    obtain ⟨g1, g2⟩ := ee g1 g2
    have g3 : 0 ≤ (0 : Int) := (by omega)
    have g4 : 0 < (l1.length : Int) := od
    obtain ⟨s5, y3, y4, y5, b1, i6, i7⟩ := Aj0 (Kd.C_foot_now g0.out HK.out) 0 g3 g4
    obtain rfl : a6 = s5 := (by injection y5)
    have A0 : (0 < l1.length) = True := eq_true (by omega)
    (try simp only [t0_] at b1)
    have w2 := am i7
    have w3 := am i6
    clear i7 i6
    obtain ⟨g3, g4⟩ := ee g3 g4
    obtain ⟨rfl, rfl⟩ := sj b0 b1
    go_upto_block 0 with (first | (refine gl (some 41) Tryz.func75 rfl #[.pointer (some ⟨g, 0, none⟩), .int .i64 (((Ad6 l1 0).f0).length : Int)] ?_; (with_reducible refine (Ad7.calls g a1 b3 (((Ad6 l1 0).f0).length : Int) s4 b2 w0 _ ?side1 ?side2 D9.out).mono ?_); (case side1 => exact Aa0.q a0.out); (case side2 => exact hsk HB.out (Aa0.ge a0.out)); rintro e F7 ⟨rfl, hi, hb, hk⟩; refine ⟨_, rfl, ?_⟩; replace HK := kt HK hk; replace HB := am (hb); replace a0 := am (hi); clear hb hk hi))
    (try simp only [Act.put, lsp])
    go_cut [10] (fun o4 wc => ∃ (kq : Nat) (d6 : Int), o4 = .int .i64 d6 ∧ Aside0 (Ab6.j2 kq l1 a2 a3 (((Ad6 l1 0).f0).length : Int) d6 a1 b2 = some (r1, r2)) ∧ Aside0 (kq ≤ x7) ∧ Aside0 (Aa0 w0 wc g a1 b2) ∧ Aside0 (Ab7 w wc g none) ∧ Aside0 (Below w0.heap.size w0 wc))
    case first =>
     have H := o3.out
     clear o3
     have H' := am H
     clear H
     go_wp2
     go_loopg [10, 11] x7 (fun kq o4 E0 w' => ∃ (a7 : Int) (e3 : Int), o4 = .int .i64 a7 ∧ E0 = .int .i64 e3 ∧ Aside0 (Ab6.l0 kq l1 a2 a3 (((Ad6 l1 0).f0).length : Int) a7 e3 a1 b2 = some (r1, r2)) ∧ Aside0 (kq ≤ x7) ∧ Aside0 (Aa0 w0 w' g a1 b2) ∧ Aside0 (Ab7 w w' g none) ∧ Aside0 (Below w0.heap.size w0 w'))
     case atStart => exact ⟨(s4), (0), et, et, H', ⟨Nat.le_refl _⟩, ⟨Aa0.q a0.out⟩, ⟨kq HK.out⟩, ⟨hsk HB.out (Aa0.ge a0.out)⟩⟩
     case round =>
      clear H'
      try clear o0; try clear r3; try clear i2; try clear i3; try clear b0; try clear b1; try clear g1; try clear g3; try clear g2; try clear g4
      obtain ⟨a7, e3, rfl, rfl, HA, w4, a0, HK, HB⟩ := hrel
      cases gk with
      | zero => exact absurd HA.out (by simp [Ab6.l0])
      | succ k2 =>
       have H := HA.out
       clear HA
       simp only [Ab6.l0] at H
       by_cases r4 : e3 < (((Ad6 l1 0).f0).length : Int)
       ·rw [if_pos r4] at H
        have e4 := decide_eq_true r4
        clear r4
        (first | rw [e4] | (simp only [Ae6, Ae7]; rw [e4]) | skip)
        obtain ⟨A2, H⟩ := ifs H
        have A3 := decide_eq_true A2
        have A4 : decide (0 < l1.length) = true := decide_eq_true (by omega)
        clear A2
        obtain ⟨A5, H⟩ := ife H
        obtain ⟨A6, H⟩ := ife H
        by_cases r5 : ((Ac2 ((Ad6 l1 0).f0) a7).f1) ≥ a2
        ·rw [if_pos r5] at H
         have s6 := decide_eq_true r5
         clear r5
         by_cases w5 : (((Ad6 l1 0).f0).length : Int) = 0
         ·rw [if_pos w5] at H
          exact absurd H (by simp)
         ·rw [if_neg w5] at H
          obtain ⟨A7, A9⟩ := bqf w5
          have B0 : ¬ (((Ad6 l1 0).f0) = []) := fun h_ => w5 (by rw [h_]; rfl)
          have H' := am H
          clear H
          have g5 : 0 ≤ (0 : Int) := (by omega)
          have g6 : 0 < (l1.length : Int) := od
          obtain ⟨l8, o5, o6, o7, b4, b5, b6⟩ := Aj0 (Kd.C_foot_now g0.out HK.out) 0 g5 g6
          obtain rfl : a6 = l8 := (by injection o7)
          have s7 : (0 < l1.length) = True := eq_true (by omega)
          (try simp only [t0_] at b4)
          have m7 := am b6
          have m8 := am b5
          clear b6 b5
          obtain ⟨g5, g6⟩ := ee g5 g6
          have g7 : 0 ≤ (0 : Int) := (by omega)
          have g8 : 0 < (l1.length : Int) := od
          obtain ⟨l9, o8, o9, p0, b7, b8, b9⟩ := Aj0 (Kd.C_foot_now g0.out HK.out) 0 g7 g8
          obtain rfl : a6 = l9 := (by injection p0)
          have s8 : (0 < l1.length) = True := eq_true (by omega)
          (try simp only [t0_] at b7)
          have c0 := am b9
          have m9 := am b8
          clear b9 b8
          obtain ⟨g7, g8⟩ := ee g7 g8
          obtain ⟨rfl, rfl⟩ := sj b4 b7
          have g9 : 0 ≤ (a7 : Int) := od
          have h0 : a7 < (((Ad6 l1 0).f0).length : Int) := od
          obtain ⟨s9, p1, n0, n1⟩ := Ap3 (by repeat (first | (with_reducible exact c0.out) | (with_reducible refine Kd.C_alloc ?_ _) | (with_reducible refine Kd.C_drewN ?_ _) | (with_reducible refine Kd.C_drew ?_) | exact c0.out)) a7 g9 h0
          cases p1
          obtain ⟨g9, h0⟩ := ee g9 h0
          go_wp2
          go_roundg k2
          case measure => have := k9.out; have := w4.out; omega
          case rel => exact ⟨(Int.tmod (wrap64 (a7 + 1)) (((Ad6 l1 0).f0).length : Int)), (wrap64 (e3 + 1)), et, et, H', ⟨by have := k9.out; have := w4.out; omega⟩, ⟨Aa0.q a0.out⟩, ⟨kq HK.out⟩, ⟨hsk HB.out (Aa0.ge a0.out)⟩⟩
        ·rw [if_neg r5] at H
         have s6 := decide_eq_false r5
         clear r5
         have H' := am H
         clear H
         have g5 : 0 ≤ (0 : Int) := (by omega)
         have g6 : 0 < (l1.length : Int) := od
         obtain ⟨l8, o5, o6, o7, b4, b5, b6⟩ := Aj0 (Kd.C_foot_now g0.out HK.out) 0 g5 g6
         obtain rfl : a6 = l8 := (by injection o7)
         have s7 : (0 < l1.length) = True := eq_true (by omega)
         (try simp only [t0_] at b4)
         have m7 := am b6
         have m8 := am b5
         clear b6 b5
         obtain ⟨g5, g6⟩ := ee g5 g6
         have g7 : 0 ≤ (0 : Int) := (by omega)
         have g8 : 0 < (l1.length : Int) := od
         obtain ⟨l9, o8, o9, p0, b7, b8, b9⟩ := Aj0 (Kd.C_foot_now g0.out HK.out) 0 g7 g8
         obtain rfl : a6 = l9 := (by injection p0)
         have s8 : (0 < l1.length) = True := eq_true (by omega)
         (try simp only [t0_] at b7)
         have c0 := am b9
         have m9 := am b8
         clear b9 b8
         obtain ⟨g7, g8⟩ := ee g7 g8
         obtain ⟨rfl, rfl⟩ := sj b4 b7
         have g9 : 0 ≤ (a7 : Int) := od
         have h0 : a7 < (((Ad6 l1 0).f0).length : Int) := od
         obtain ⟨s9, p1, n0, n1⟩ := Ap3 (by repeat (first | (with_reducible exact c0.out) | (with_reducible refine Kd.C_alloc ?_ _) | (with_reducible refine Kd.C_drewN ?_ _) | (with_reducible refine Kd.C_drew ?_) | exact c0.out)) a7 g9 h0
         cases p1
         obtain ⟨g9, h0⟩ := ee g9 h0
         go_wp2
         go_meet
         case rel => exact ⟨_, (a7), et, H', ⟨by have := k9.out; have := w4.out; first | omega | exact Nat.le_refl _⟩, ⟨Aa0.q a0.out⟩, ⟨kq HK.out⟩, ⟨hsk HB.out (Aa0.ge a0.out)⟩⟩
       ·rw [if_neg r4] at H
        have e4 := decide_eq_false r4
        clear r4
        (first | rw [e4] | (simp only [Ae6, Ae7]; rw [e4]) | skip)
        have H' := am H
        clear H
        go_wp2
        go_meet
        case rel => exact ⟨_, (a7), et, H', ⟨by have := k9.out; have := w4.out; first | omega | exact Nat.le_refl _⟩, ⟨Aa0.q a0.out⟩, ⟨kq HK.out⟩, ⟨hsk HB.out (Aa0.ge a0.out)⟩⟩
    case rest =>
     clear o3
     try clear o0; try clear r3; try clear i2; try clear i3; try clear b0; try clear b1; try clear g1; try clear g3; try clear g2; try clear g4
     obtain ⟨kq, d6, rfl, HA, e5, a0, HK, HB⟩ := hcut
     cases kq with
     | zero => exact absurd HA.out (by simp [Ab6.j2])
     | succ p2 =>
      have H := HA.out
      clear HA
      simp only [Ab6.j2] at H
      have p3 := am H
      clear H
      go_upto_if 64 with (fail)
      go_cut [10] (fun o4 wc => ∃ (kq : Nat) (a4 : Int), o4 = .int .i64 a4 ∧ Aside0 (Ab6.j4 kq l1 a2 a3 a4 a1 b2 = some (r1, r2)) ∧ Aside0 (kq ≤ p2) ∧ Aside0 (Aa0 w0 wc g a1 b2) ∧ Aside0 (Ab7 w wc g none) ∧ Aside0 (Below w0.heap.size w0 wc))
      case first =>
       have H := p3.out
       clear p3
       by_cases p4 : a2 < 2
       ·rw [if_pos p4] at H
        have e0 := decide_eq_true p4
        clear p4
        (first | rw [e0] | (simp only [Ae6, Ae7]; rw [e0]) | skip)
        have H' := am H
        clear H
        go_wp2
        go_loopg [10, 12] p2 (fun kq o4 E1 w' => ∃ (a8 : Int) (e6 : Int), o4 = .int .i64 a8 ∧ E1 = .int .i64 e6 ∧ Aside0 (Ab6.l1 kq l1 a2 a3 (((Ad6 l1 0).f0).length : Int) a8 e6 a1 b2 = some (r1, r2)) ∧ Aside0 (kq ≤ p2) ∧ Aside0 (Aa0 w0 w' g a1 b2) ∧ Aside0 (Ab7 w w' g none) ∧ Aside0 (Below w0.heap.size w0 w'))
        case atStart => exact ⟨(d6), (0), et, et, H', ⟨Nat.le_refl _⟩, ⟨Aa0.q a0.out⟩, ⟨kq HK.out⟩, ⟨hsk HB.out (Aa0.ge a0.out)⟩⟩
        case round =>
         clear H'
         try clear o0; try clear r3; try clear i2; try clear i3; try clear p4; try clear e0; try clear b0; try clear b1; try clear g1; try clear g3; try clear g2; try clear g4
         obtain ⟨a8, e6, rfl, rfl, HA, w6, a0, HK, HB⟩ := hrel
         cases gk with
         | zero => exact absurd HA.out (by simp [Ab6.l1])
         | succ k3 =>
          have H := HA.out
          clear HA
          simp only [Ab6.l1] at H
          by_cases r6 : e6 < (((Ad6 l1 0).f0).length : Int)
          ·rw [if_pos r6] at H
           have t0 := decide_eq_true r6
           clear r6
           obtain ⟨B2, H⟩ := ifs H
           have B4 := decide_eq_true B2
           have B5 : decide (0 < l1.length) = true := decide_eq_true (by omega)
           clear B2
           obtain ⟨B8, H⟩ := ife H
           obtain ⟨B9, H⟩ := ife H
           by_cases r7 : ((Ac2 ((Ad6 l1 0).f0) a8).f1) > 0
           ·rw [if_pos r7] at H
            have t1 := decide_eq_true r7
            clear r7
            by_cases w7 : (((Ad6 l1 0).f0).length : Int) = 0
            ·rw [if_pos w7] at H
             exact absurd H (by simp)
            ·rw [if_neg w7] at H
             obtain ⟨C0, C1⟩ := bqf w7
             have C2 : ¬ (((Ad6 l1 0).f0) = []) := fun h_ => w7 (by rw [h_]; rfl)
             have H' := am H
             clear H
             have h2 : 0 ≤ (0 : Int) := (by omega)
             have h3 : 0 < (l1.length : Int) := od
             obtain ⟨m0, p5, p6, p7, c1, d0, d1⟩ := Aj0 (Kd.C_foot_now g0.out HK.out) 0 h2 h3
             obtain rfl : a6 = m0 := (by injection p7)
             have t2 : (0 < l1.length) = True := eq_true (by omega)
             (try simp only [t0_] at c1)
             have n2 := am d1
             have n3 := am d0
             clear d1 d0
             obtain ⟨h2, h3⟩ := ee h2 h3
             have h4 : 0 ≤ (0 : Int) := (by omega)
             have h5 : 0 < (l1.length : Int) := od
             obtain ⟨m1, p8, p9, q0, d2, d3, d4⟩ := Aj0 (Kd.C_foot_now g0.out HK.out) 0 h4 h5
             obtain rfl : a6 = m1 := (by injection q0)
             have t3 : (0 < l1.length) = True := eq_true (by omega)
             (try simp only [t0_] at d2)
             have d5 := am d4
             have n4 := am d3
             clear d4 d3
             obtain ⟨h4, h5⟩ := ee h4 h5
             obtain ⟨rfl, rfl⟩ := sj c1 d2
             have h6 : 0 ≤ (a8 : Int) := od
             have h7 : a8 < (((Ad6 l1 0).f0).length : Int) := od
             obtain ⟨t4, q1, n5, n6⟩ := Ap3 (by repeat (first | (with_reducible exact d5.out) | (with_reducible refine Kd.C_alloc ?_ _) | (with_reducible refine Kd.C_drewN ?_ _) | (with_reducible refine Kd.C_drew ?_) | exact d5.out)) a8 h6 h7
             cases q1
             obtain ⟨h6, h7⟩ := ee h6 h7
             go_wp2
             go_roundg k3
             case measure => have := k9.out; have := e5.out; have := w6.out; omega
             case rel => exact ⟨(Int.tmod (wrap64 (a8 + 1)) (((Ad6 l1 0).f0).length : Int)), (wrap64 (e6 + 1)), et, et, H', ⟨by have := k9.out; have := e5.out; have := w6.out; omega⟩, ⟨Aa0.q a0.out⟩, ⟨kq HK.out⟩, ⟨hsk HB.out (Aa0.ge a0.out)⟩⟩
           ·rw [if_neg r7] at H
            have t1 := decide_eq_false r7
            clear r7
            have H' := am H
            clear H
            have h2 : 0 ≤ (0 : Int) := (by omega)
            have h3 : 0 < (l1.length : Int) := od
            obtain ⟨m0, p5, p6, p7, c1, d0, d1⟩ := Aj0 (Kd.C_foot_now g0.out HK.out) 0 h2 h3
            obtain rfl : a6 = m0 := (by injection p7)
            have t2 : (0 < l1.length) = True := eq_true (by omega)
            (try simp only [t0_] at c1)
            have n2 := am d1
            have n3 := am d0
            clear d1 d0
            obtain ⟨h2, h3⟩ := ee h2 h3
            have h4 : 0 ≤ (0 : Int) := (by omega)
            have h5 : 0 < (l1.length : Int) := od
            obtain ⟨m1, p8, p9, q0, d2, d3, d4⟩ := Aj0 (Kd.C_foot_now g0.out HK.out) 0 h4 h5
            obtain rfl : a6 = m1 := (by injection q0)
            have t3 : (0 < l1.length) = True := eq_true (by omega)
            (try simp only [t0_] at d2)
            have d5 := am d4
            have n4 := am d3
            clear d4 d3
            obtain ⟨h4, h5⟩ := ee h4 h5
            obtain ⟨rfl, rfl⟩ := sj c1 d2
            have h6 : 0 ≤ (a8 : Int) := od
            have h7 : a8 < (((Ad6 l1 0).f0).length : Int) := od
            obtain ⟨t4, q1, n5, n6⟩ := Ap3 (by repeat (first | (with_reducible exact d5.out) | (with_reducible refine Kd.C_alloc ?_ _) | (with_reducible refine Kd.C_drewN ?_ _) | (with_reducible refine Kd.C_drew ?_) | exact d5.out)) a8 h6 h7
            cases q1
            obtain ⟨h6, h7⟩ := ee h6 h7
            go_wp2
            go_meet
            case rel => exact ⟨_, (a8), et, H', ⟨by have := k9.out; have := e5.out; have := w6.out; first | omega | exact Nat.le_refl _⟩, ⟨Aa0.q a0.out⟩, ⟨kq HK.out⟩, ⟨hsk HB.out (Aa0.ge a0.out)⟩⟩
          ·rw [if_neg r6] at H
           have t0 := decide_eq_false r6
           clear r6
           have H' := am H
           clear H
           go_wp2
           go_meet
           case rel => exact ⟨_, (a8), et, H', ⟨by have := k9.out; have := e5.out; have := w6.out; first | omega | exact Nat.le_refl _⟩, ⟨Aa0.q a0.out⟩, ⟨kq HK.out⟩, ⟨hsk HB.out (Aa0.ge a0.out)⟩⟩
       ·rw [if_neg p4] at H
        have e0 := decide_eq_false p4
        clear p4
        (first | rw [e0] | (simp only [Ae6, Ae7]; rw [e0]) | skip)
        have H' := am H
        clear H
        go_wp2
        go_meet
        case rel => exact ⟨_, (d6), et, H', ⟨by have := k9.out; have := e5.out; first | omega | exact Nat.le_refl _⟩, ⟨Aa0.q a0.out⟩, ⟨kq HK.out⟩, ⟨hsk HB.out (Aa0.ge a0.out)⟩⟩
      case rest =>
       clear p3
       try clear o0; try clear r3; try clear i2; try clear i3; try clear b0; try clear b1; try clear g1; try clear g3; try clear g2; try clear g4
       obtain ⟨kq, a4, rfl, HA, q2, a0, HK, HB⟩ := hcut
       cases kq with
       | zero => exact absurd HA.out (by simp [Ab6.j4])
       | succ h8 =>
        have H := HA.out
        clear HA
        simp only [Ab6.j4] at H
        obtain ⟨e1, i9⟩ : ∃ y_ : List Int, y_ = (([a4] : List Int)) := ⟨_, rfl⟩
        replace H : (if 0 < (l1.length : Int) then (if 0 ≤ a4 then (if a4 < (((Ad6 l1 0).f0).length : Int) then (if ((Ac2 ((Ad6 l1 0).f0) a4).f1) = 1 then ((Ab6.f h8 a1 b2 l1 (wrap64 (a2 - 1)) a3).bind fun m2 => (if e1.length + m2.1.length < 17592186044416 then (some ((e1 ++ m2.1), m2.2)) else (none))) else (if ((Ac2 ((Ad6 l1 0).f0) a4).f1) = 2 then ((Ab6.f h8 a1 b2 l1 (wrap64 (a2 - 2)) a3).bind fun j5 => (if e1.length + j5.1.length < 17592186044416 then ((some (e1 ++ j5.1 : List Int)).bind fun h9 => ((Ab6.f h8 a1 j5.2 l1 (wrap64 ((wrap64 (a2 - 1)) - (j5.1.length : Int))) a3).bind fun d7 => (if h9.length + d7.1.length < 17592186044416 then (some ((h9 ++ d7.1), d7.2)) else (none)))) else (none))) else (some (e1, b2)))) else (none)) else (none)) else (none)) = some (r1, r2) := by first | (rw [i9]; first | with_reducible exact H | with_reducible exact bs H) | with_reducible exact bs H | with_reducible exact H | (rw [i9]; exact H) | exact H
        have o2 := am i9
        clear i9
        obtain ⟨C3, H⟩ := ifs H
        have C4 := decide_eq_true C3
        have C5 : decide (0 < l1.length) = true := decide_eq_true (by omega)
        clear C3
        obtain ⟨C6, H⟩ := ife H
        obtain ⟨C7, H⟩ := ife H
        have t5 := am H
        clear H
        go_upto_if 95 with (first | ((with_reducible refine An6 (N := 86) rfl ?_); refine Kd.R_lit (Kd.int .i64) _ 2 ?hg (N := 86) ?hd (xs := ([a4] : List Int)) (inner := [.int .i64 a4]) (ok := fun _ => True) (okp := fun _ => True) ?hr ?hp (fun _ hk => hk) trivial (Below.refl _ _) (Nat.le_refl _) (by simp) ?_; (case hd => rfl); (case hg => rfl); (case hr => first | (go_simp; done) | (go_simp; rfl)); (case hp => exact (Aj9.one (show Kd.M (Kd.int .i64) _ _ _ a4 [.int .i64 a4] from rfl) (Aj9.none _ _))); intro t6 F8 m3 hb x9 hnew_; clear x9 hnew_; (first | rw [← o2.out] at m3 | (simp only [Int.reduceToNat] at m3; rw [← o2.out] at m3)); have a5 := am (Kd.R_lower m3 (Ae0 (w := w) (g := g) (row := none) (kq HK.out))); replace HK := ku HK hb; replace HB := am (Ad9 (hsk HB.out (Aa0.ge a0.out)) hb); replace a0 := Aa0.bl a0 hb; clear hb m3; have q3 : 0 ≤ (0 : Int) := (by omega); have q4 : 0 < (l1.length : Int) := od; obtain ⟨t7, y6, y7, y8, j6, j7, j8⟩ := Aj0 (Kd.C_foot_now g0.out HK.out) 0 q3 q4; obtain rfl : a6 = t7 := (by injection y8); have C8 : (0 < l1.length) = True := eq_true (by omega); (try simp only [t0_] at j6); have w8 := am j8; have w9 := am j7; clear j8 j7; replace q3 := eq_true q3; replace q4 := eq_true q4; have q5 : 0 ≤ (0 : Int) := (by omega); have q6 : 0 < (l1.length : Int) := od; obtain ⟨t8, y9, z0, z1, j9, k0, k1⟩ := Aj0 (Kd.C_foot_now g0.out HK.out) 0 q5 q6; obtain rfl : a6 = t8 := (by injection z1); have C9 : (0 < l1.length) = True := eq_true (by omega); (try simp only [t0_] at j9); have k4 := am k1; have x0 := am k0; clear k1 k0; replace q5 := eq_true q5; replace q6 := eq_true q6; obtain ⟨rfl, rfl⟩ := sj j6 j9; have q7 : 0 ≤ (a4 : Int) := od; have q8 : a4 < (((Ad6 l1 0).f0).length : Int) := od; obtain ⟨D0, z2, x1, x2⟩ := Ap3 (by repeat (first | (with_reducible exact k4.out) | (with_reducible refine Kd.C_alloc ?_ _) | (with_reducible refine Kd.C_drewN ?_ _) | (with_reducible refine Kd.C_drew ?_) | exact k4.out)) a4 q7 q8; cases z2; replace q7 := eq_true q7; replace q8 := eq_true q8))
        have H := t5.out
        clear t5
        by_cases t9 : ((Ac2 ((Ad6 l1 0).f0) a4).f1) = 1
        ·rw [if_pos t9] at H
         obtain ⟨e7, u0⟩ := bqt t9; clear t9
         (first | rw [e7] | (simp only [Ae6, Ae7]; rw [e7]) | skip)
         obtain ⟨⟨n7, u1⟩, E2, H⟩ := ob H
         try dsimp only at H
         obtain ⟨D1, H⟩ := ifs H
         have u2 := am D1
         clear D1
         obtain ⟨z3, k5⟩ : ∃ y_ : List Int, y_ = (e1 ++ n7) := ⟨_, rfl⟩
         replace H : (some (z3, u1)) = some (r1, r2) := by first | (rw [k5]; first | with_reducible exact H | with_reducible exact bs H) | with_reducible exact bs H | with_reducible exact H | (rw [k5]; exact H) | exact H
         have u3 := am k5
         clear k5
         simp only [Option.some.injEq, Prod.mk.injEq] at H
         obtain ⟨rfl, rfl⟩ := H
         go_wp2_with (first | (refine gl (some 103) Tryz.func92 rfl #[.pointer (some ⟨g, 0, none⟩), .pointer (some a6), .int .i64 (wrap64 (a2 - 1)), .int .i64 a3] ?_; (with_reducible refine (ih h8 (by have := k9.out; have := e5.out; have := q2.out; omega) g a1 b2 _ l1 (wrap64 (a2 - 1)) a3 n7 u1 w0 _ ?side1 ?side2 ?side3 E2.out).mono ?_); (case side1 => exact Aa0.q a0.out); (case side2 => exact hsk HB.out (Aa0.ge a0.out)); (case side3 => exact Kd.C_foot_step g0.out (kq HK.out)); rintro e F9 ⟨E3, rfl, l4, hi, hb, hk⟩; refine ⟨_, rfl, ?_⟩; have e8 := am (Kd.R_lower (Kd.R_new' l4 (Kd.R_lt (rq a5.out))) (Ae0 (w := w) (g := g) (row := none) (kq HK.out))); replace a5 := am (Kd.R_mono (Kd.R_told (Kd.R_oldK (Aa0.apart (show Aa0 w0 _ g a1 b2 from Aa0.q a0.out) (rq a5.out) (by decide)) hk) (Kd.R_base l4)) (fun _ h_ => h_.1)); replace HK := kt HK hk; replace HB := am (hb); replace a0 := am (hi); (try clear hb); (try clear hk); (try clear hi); (try clear l4); obtain ⟨z4, z5, rfl⟩ := Kd.R_slice e8.out) | ((with_reducible refine Ah1 (b := .append) (xs := #[.tmp 97, .tmp 103]) rfl ?_); at_builtin; refine Kd.R_append_rows (Kd.int .i64) w.heap.size rfl (.tmp 97) (.tmp 103) 25 2 (.int .i64 0) 8 rfl Tryz.underlying25 Au1 rfl (by decide) (by omega) t6 e1 n7 _ _ _ (fun k_ => some k_ ≠ (.slice z4 n7.length z5 : Value).ownBlock) (fun _ => False) rfl rfl ?aO ?aR (fun _ _ h => h) (fun _ h => h.elim) ?aF (Below.refl _ _) ?aS ?aL ?_; (case aR => repeat (first | exact (Kd.R_reads' e8.out).2.2 | (with_reducible refine Kd.C_alloc ?_ _) | (with_reducible refine Kd.C_drewN ?_ _) | (with_reducible refine Kd.C_drew ?_))); (case aF => exact (fun k_ hk => Kd.fresh' (Kd.R_lt (rq e8.out)) k_ hk)); (case aO => exact (rq (Kd.R_mono a5.out (fun _ hk => hk.2)))); (case aS => exact (Ae0 (w := w) (g := g) (row := none) (kq HK.out))); (case aL => have := u2.out; omega); intro E4 G0 ho hb hg hat; rw [← u3.out] at ho; replace e8 := am (Kd.R_after (ok := (fun _ => True)) (rq e8.out) hg hat); replace HB := am (Aq4 (hsk HB.out (Aa0.ge a0.out)) HL.out hb); replace a0 := am (Aa0.grown (Aa0.q a0.out) hg (Aa0.own_ne a0.out a5.out (by decide))); replace HK := am (Ab7.trans (kq HK.out) (Ab7.of_grown hg g) (Kd.R_base2 a5.out)); have u4 := am (ho); clear a5; clear ho hb hg hat))
         go_ret
         exact ⟨_, er, rq (Kd.R_mono u4.out (fun _ hk => trivial)), Aa0.q a0.out, hsk HB.out (Aa0.ge a0.out), kq HK.out⟩
        ·rw [if_neg t9] at H
         obtain ⟨e7, u0⟩ := bqf t9
         (first | rw [e7] | (simp only [Ae6, Ae7]; rw [e7]) | skip)
         by_cases u5 : ((Ac2 ((Ad6 l1 0).f0) a4).f1) = 2
         ·rw [if_pos u5] at H
          obtain ⟨u6, u7⟩ := bqt u5; clear u5
          obtain ⟨⟨e2, m4⟩, E5, H⟩ := ob H
          try dsimp only at H
          obtain ⟨D2, H⟩ := ifs H
          have u9 := am D2
          clear D2
          obtain ⟨h9, k6⟩ : ∃ y_ : List Int, y_ = (e1 ++ e2) := ⟨_, rfl⟩
          replace H : ((Ab6.f h8 a1 m4 l1 (wrap64 ((wrap64 (a2 - 1)) - (e2.length : Int))) a3).bind fun d7 => (if h9.length + d7.1.length < 17592186044416 then (some ((h9 ++ d7.1), d7.2)) else (none))) = some (r1, r2) := by first | (rw [k6]; first | with_reducible exact H | with_reducible exact bs H) | with_reducible exact bs H | with_reducible exact H | (rw [k6]; exact H) | exact H
          have v0 := am k6
          clear k6
          obtain ⟨⟨m5, v2⟩, E6, H⟩ := ob H
          try dsimp only at H
          obtain ⟨D3, H⟩ := ifs H
          have v3 := am D3
          clear D3
          obtain ⟨z6, k7⟩ : ∃ y_ : List Int, y_ = (h9 ++ m5) := ⟨_, rfl⟩
          replace H : (some (z6, v2)) = some (r1, r2) := by first | (rw [k7]; first | with_reducible exact H | with_reducible exact bs H) | with_reducible exact bs H | with_reducible exact H | (rw [k7]; exact H) | exact H
          have v4 := am k7
          clear k7
          simp only [Option.some.injEq, Prod.mk.injEq] at H
          obtain ⟨rfl, rfl⟩ := H
          go_wp2_with (first | (refine gl (some 112) Tryz.func92 rfl #[.pointer (some ⟨g, 0, none⟩), .pointer (some a6), .int .i64 (wrap64 (a2 - 2)), .int .i64 a3] ?_; (with_reducible refine (ih h8 (by have := k9.out; have := e5.out; have := q2.out; omega) g a1 b2 _ l1 (wrap64 (a2 - 2)) a3 e2 m4 w0 _ ?side1 ?side2 ?side3 E5.out).mono ?_); (case side1 => exact Aa0.q a0.out); (case side2 => exact hsk HB.out (Aa0.ge a0.out)); (case side3 => exact Kd.C_foot_step g0.out (kq HK.out)); rintro e G1 ⟨E7, rfl, l4, hi, hb, hk⟩; refine ⟨_, rfl, ?_⟩; have a9 := am (Kd.R_lower (Kd.R_new' l4 (Kd.R_lt (rq a5.out))) (Ae0 (w := w) (g := g) (row := none) (kq HK.out))); replace a5 := am (Kd.R_mono (Kd.R_told (Kd.R_oldK (Aa0.apart (show Aa0 w0 _ g a1 b2 from Aa0.q a0.out) (rq a5.out) (by decide)) hk) (Kd.R_base l4)) (fun _ h_ => h_.1)); replace HK := kt HK hk; replace HB := am (hb); replace a0 := am (hi); (try clear hb); (try clear hk); (try clear hi); (try clear l4); obtain ⟨q9, r0, rfl⟩ := Kd.R_slice a9.out) | ((with_reducible refine Ah1 (b := .append) (xs := #[.tmp 113, .tmp 114]) rfl ?_); at_builtin; refine Kd.R_append_rows (Kd.int .i64) w.heap.size rfl (.tmp 113) (.tmp 114) 25 2 (.int .i64 0) 8 rfl Tryz.underlying25 Au1 rfl (by decide) (by omega) t6 e1 e2 _ _ _ (fun k_ => some k_ ≠ (.slice q9 e2.length r0 : Value).ownBlock) (fun _ => False) rfl rfl ?aO ?aR (fun _ _ h => h) (fun _ h => h.elim) ?aF (Below.refl _ _) ?aS ?aL ?_; (case aR => repeat (first | exact (Kd.R_reads' a9.out).2.2 | (with_reducible refine Kd.C_alloc ?_ _) | (with_reducible refine Kd.C_drewN ?_ _) | (with_reducible refine Kd.C_drew ?_))); (case aF => exact (fun k_ hk => Kd.fresh' (Kd.R_lt (rq a9.out)) k_ hk)); (case aO => exact (rq (Kd.R_mono a5.out (fun _ hk => hk.2)))); (case aS => exact (Ae0 (w := w) (g := g) (row := none) (kq HK.out))); (case aL => have := u9.out; omega); intro z7 G2 ho hb hg hat; rw [← v0.out] at ho; replace a9 := am (Kd.R_after (ok := (fun _ => True)) (rq a9.out) hg hat); replace HB := am (Aq4 (hsk HB.out (Aa0.ge a0.out)) HL.out hb); replace a0 := am (Aa0.grown (Aa0.q a0.out) hg (Aa0.own_ne a0.out a5.out (by decide))); replace HK := am (Ab7.trans (kq HK.out) (Ab7.of_grown hg g) (Kd.R_base2 a5.out)); have d8 := am (ho); clear a5; clear ho hb hg hat) | (refine gl (some 125) Tryz.func92 rfl #[.pointer (some ⟨g, 0, none⟩), .pointer (some a6), .int .i64 (wrap64 ((wrap64 (a2 - 1)) - (e2.length : Int))), .int .i64 a3] ?_; (with_reducible refine (ih h8 (by have := k9.out; have := e5.out; have := q2.out; omega) g a1 m4 _ l1 (wrap64 ((wrap64 (a2 - 1)) - (e2.length : Int))) a3 m5 v2 w0 _ ?side1 ?side2 ?side3 E6.out).mono ?_); (case side1 => exact Aa0.q a0.out); (case side2 => exact hsk HB.out (Aa0.ge a0.out)); (case side3 => exact Kd.C_foot_step g0.out (kq HK.out)); rintro e G3 ⟨E8, rfl, l4, hi, hb, hk⟩; refine ⟨_, rfl, ?_⟩; have e9 := am (Kd.R_lower (Kd.R_new' (Kd.R_new' l4 (Kd.R_lt (rq a9.out))) (Kd.R_lt (rq d8.out))) (Ae0 (w := w) (g := g) (row := none) (kq HK.out))); replace a9 := am (Kd.R_mono (Kd.R_told (Kd.R_oldK (Aa0.apart (show Aa0 w0 _ g a1 m4 from Aa0.q a0.out) (rq a9.out) (by decide)) hk) (Kd.R_base l4)) (fun _ h_ => h_.1)); replace d8 := am (Kd.R_mono (Kd.R_told (Kd.R_oldK (Aa0.apart (show Aa0 w0 _ g a1 m4 from Aa0.q a0.out) (rq d8.out) (by decide)) hk) (Kd.R_base l4)) (fun _ h_ => h_.1)); replace HK := kt HK hk; replace HB := am (hb); replace a0 := am (hi); (try clear hb); (try clear hk); (try clear hi); (try clear l4); obtain ⟨v5, v6, rfl⟩ := Kd.R_slice e9.out) | ((with_reducible refine Ah1 (b := .append) (xs := #[.tmp 116, .tmp 125]) rfl ?_); at_builtin; refine Kd.R_append_rows (Kd.int .i64) w.heap.size rfl (.tmp 116) (.tmp 125) 25 2 (.int .i64 0) 8 rfl Tryz.underlying25 Au1 rfl (by decide) (by omega) z7 h9 m5 _ _ _ (fun k_ => some k_ ≠ (.slice q9 e2.length r0 : Value).ownBlock ∧ some k_ ≠ (.slice v5 m5.length v6 : Value).ownBlock) (fun _ => False) rfl rfl ?aO ?aR (fun _ _ h => h) (fun _ h => h.elim) ?aF (Below.refl _ _) ?aS ?aL ?_; (case aR => repeat (first | exact (Kd.R_reads' e9.out).2.2 | (with_reducible refine Kd.C_alloc ?_ _) | (with_reducible refine Kd.C_drewN ?_ _) | (with_reducible refine Kd.C_drew ?_))); (case aF => exact (fun k_ hk => ⟨Kd.fresh' (Kd.R_lt (rq a9.out)) k_ hk, Kd.fresh' (Kd.R_lt (rq e9.out)) k_ hk⟩)); (case aO => exact (rq d8.out)); (case aS => exact (Ae0 (w := w) (g := g) (row := none) (kq HK.out))); (case aL => have := v3.out; omega); intro E9 G4 ho hb hg hat; rw [← v4.out] at ho; replace a9 := am (Kd.R_after (ok := (fun k_ => some k_ ≠ (.slice v5 m5.length v6 : Value).ownBlock)) (by (with_reducible repeat (first | apply Kd.R_alloc | apply Kd.R_drewN | apply Kd.R_drew)); exact Kd.R_mono a9.out (fun _ hk => by first | exact ⟨hk.2, hk.1.2⟩ | exact ⟨hk.1.2, hk.2⟩ | trivial)) hg hat); replace e9 := am (Kd.R_after (ok := (fun k_ => some k_ ≠ (.slice q9 e2.length r0 : Value).ownBlock)) (by (with_reducible repeat (first | apply Kd.R_alloc | apply Kd.R_drewN | apply Kd.R_drew)); exact Kd.R_mono e9.out (fun _ hk => by first | exact ⟨hk.1.2, hk.2⟩ | exact ⟨hk.2, hk.1.2⟩ | trivial)) hg hat); replace HB := am (Aq4 (hsk HB.out (Aa0.ge a0.out)) HL.out hb); replace a0 := am (Aa0.grown (Aa0.q a0.out) hg (Aa0.own_ne a0.out d8.out (by decide))); replace HK := am (Ab7.trans (kq HK.out) (Ab7.of_grown hg g) (Kd.R_base2 d8.out)); have v7 := am (ho); clear d8; clear ho hb hg hat))
          go_ret
          exact ⟨_, er, rq (Kd.R_mono v7.out (fun _ hk => trivial)), Aa0.q a0.out, hsk HB.out (Aa0.ge a0.out), kq HK.out⟩
         ·rw [if_neg u5] at H
          obtain ⟨u6, u7⟩ := bqf u5
          simp only [Option.some.injEq, Prod.mk.injEq] at H
          obtain ⟨rfl, rfl⟩ := H
          go_wp2
          go_ret
          exact ⟨_, er, rq a5.out, Aa0.q a0.out, hsk HB.out (Aa0.ge a0.out), kq HK.out⟩
end Go.Proofs.YtgichahebemmiaaGreatDoor.P
