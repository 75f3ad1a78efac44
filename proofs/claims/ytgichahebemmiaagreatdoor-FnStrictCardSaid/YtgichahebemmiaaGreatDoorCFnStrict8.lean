/- A part of the proof of the law FnStrict. -/
import Derived.Test.YtgichahebemmiaaGreatDoorCFnStrict7
set_option maxHeartbeats 8000000
set_option maxRecDepth 100000
namespace Go.Proofs.YtgichahebemmiaaGreatDoor.P
open Go.RowKit Go.Proofs.YtgichahebemmiaaGreatDoorW.PrintWords Go.Proofs.YtgichahebemmiaaGreatDoorW.PrintLast Go.Proofs.YtgichahebemmiaaGreatDoorW.PrintMore
attribute [local go_sem] Ai1 Ah9 Ak5 Ak4 Ah0 Ag9 Ai2 Ai0   -- for this text's walks alone
set_option linter.unusedVariables false
set_option linter.unusedSimpArgs false
def Al0.f (k : Nat) (a0 : List (S79)) (l1 : List Int) (l2 : List Int) (l3 : List Int) : Option (Int) := (Ab3.f k l2 l3).bind fun a1 => (if a1 = true then (some 3) else ((Ak2.f k a0 l1 l2 l3).bind fun a2 => (if a2 = true then (some 1) else ((Ak2.f k a0 l1 l3 l2).bind fun a3 => (if a3 = true then (some 2) else (some 0))))))
theorem Al0.calls (k : Nat) (a2 : Option Addr) (a3 : Nat) (a1 : List (S79)) (A1 : Option Addr) (c1 : Nat) (l1 : List Int) (A2 : Option Addr) (c2 : Nat) (l2 : List Int) (A3 : Option Addr) (c3 : Nat) (l3 : List Int) (r : Int) (w : World) (a7 : Kd.C k79 w a2 a1.length a1) (a8 : a1.length ≤ a3) (d3 : Kd.C (Kd.int .i64) w A1 l1.length l1) (d4 : l1.length ≤ c1) (d5 : Kd.C (Kd.int .i64) w A2 l2.length l2) (d6 : l2.length ≤ c2) (d7 : Kd.C (Kd.int .i64) w A3 l3.length l3) (d8 : l3.length ≤ c3) (h : Al0.f k a1 l1 l2 l3 = some r) :
  Calls Tryz.prog 37 #[.agg #[.slice a2 a1.length a3], .slice A1 l1.length c1, .slice A2 l2.length c2, .slice A3 l3.length c3] w fun e w' => e = .returned (.int .i64 r) ∧ Below w.heap.size w w' := by
 have e4 := Tryz.underlying36
 have a9 := am a7
 have b0 := am a8
 clear a7 a8
 have d9 := am d3
 have e0 := am d4
 clear d3 d4
 have c0 := am d5
 have d0 := am d6
 clear d5 d6
 have d1 := am d7
 have d2 := am d8
 clear d7 d8
 have HB := am (Below.refl w.heap.size w)
 have H : ((Ab3.f k l2 l3).bind fun a4 => (if a4 = true then (some 3) else ((Ak2.f k a1 l1 l2 l3).bind fun a5 => (if a5 = true then (some 1) else ((Ak2.f k a1 l1 l3 l2).bind fun a6 => (if a6 = true then (some 2) else (some 0))))))) = some r := h
 clear h
 obtain ⟨a4, A5, H⟩ := ob H
 try dsimp only at H
 have e1 := am H
 clear H
 go_enter Tryz.func37, Tryz.ntmps37
 go_upto_if 9 with (first | (refine bx 4 rfl #[.slice a2 a1.length a3] 36 ?_; intro e2 hg w7 hbox hb; have a0 := am (hbox); have b1 := am (bz hg (hq HB.out)); replace HB := sb HB hb; have e3 := b1; clear hb hbox hg) | (refine gl (some 12) Tryz.func61 rfl #[.slice A2 l2.length c2, .slice A3 l3.length c3] ?_; refine (Ab3.calls k _ _ l2 _ _ l3 a4 _ (cq (Kd.C_below c0.out HB.out)) d0.out (cq (Kd.C_below d1.out HB.out)) d2.out A5.out).mono ?_; rintro e w' ⟨rfl, ⟨nd, rfl⟩⟩; refine ⟨_, rfl, ?_⟩))
 have H := e1.out
 clear e1
 by_cases c8 : a4 = true
 ·subst c8
  rw [if_pos rfl] at H
  obtain rfl := Option.some.inj H
  go_wp2
  go_ret
  exact ⟨er, hs HB.out⟩
 ·replace c8 := Bool.eq_false_iff.mpr c8
  subst c8
  rw [if_neg (show ¬ (false = true) by decide)] at H
  obtain ⟨a5, A9, H⟩ := ob H
  try dsimp only at H
  have b2 := am H
  clear H
  have b4 := c0_ a0
  have b5 := Aa2 a0.out 0
  go_upto_if 13 with (first | (refine gl (some 18) Tryz.func62 rfl #[.agg #[.slice a2 a1.length a3], .slice A1 l1.length c1, .slice A2 l2.length c2, .slice A3 l3.length c3] ?_; refine (Ak2.calls k _ _ a1 _ _ l1 _ _ l2 _ _ l3 a5 _ (cq (Kd.C_below a9.out HB.out)) b0.out (cq (Kd.C_below d9.out HB.out)) e0.out (cq (Kd.C_below c0.out HB.out)) d0.out (cq (Kd.C_below d1.out HB.out)) d2.out A9.out).mono ?_; rintro e e6 ⟨rfl, hb⟩; refine ⟨_, rfl, ?_⟩; replace a0 := bb a0 hb; replace HB := sb HB hb; clear hb))
  have H := b2.out
  clear b2
  by_cases b6 : a5 = true
  ·subst b6
   rw [if_pos rfl] at H
   obtain rfl := Option.some.inj H
   go_wp2
   go_ret
   exact ⟨er, hs HB.out⟩
  ·replace b6 := Bool.eq_false_iff.mpr b6
   subst b6
   rw [if_neg (show ¬ (false = true) by decide)] at H
   obtain ⟨a6, e5, H⟩ := ob H
   try dsimp only at H
   have b3 := am H
   clear H
   have b7 := c0_ a0
   have b8 := Aa2 a0.out 0
   go_upto_if 19 with (first | (refine gl (some 24) Tryz.func62 rfl #[.agg #[.slice a2 a1.length a3], .slice A1 l1.length c1, .slice A3 l3.length c3, .slice A2 l2.length c2] ?_; refine (Ak2.calls k _ _ a1 _ _ l1 _ _ l3 _ _ l2 a6 _ (cq (Kd.C_below a9.out HB.out)) b0.out (cq (Kd.C_below d9.out HB.out)) e0.out (cq (Kd.C_below d1.out HB.out)) d2.out (cq (Kd.C_below c0.out HB.out)) d0.out e5.out).mono ?_; rintro e e7 ⟨rfl, hb⟩; refine ⟨_, rfl, ?_⟩; replace a0 := bb a0 hb; replace HB := sb HB hb; clear hb))
   have H := b3.out
   clear b3
   by_cases b9 : a6 = true
   ·subst b9
    rw [if_pos rfl] at H
    obtain rfl := Option.some.inj H
    go_wp2
    go_ret
    exact ⟨er, hs HB.out⟩
   ·replace b9 := Bool.eq_false_iff.mpr b9
    subst b9
    rw [if_neg (show ¬ (false = true) by decide)] at H
    obtain rfl := Option.some.inj H
    go_wp2
    go_ret
    exact ⟨er, hs HB.out⟩
attribute [local go_sem] Ai1 Ah9 Ak5 Ak4 Ah0 Ag9 Ai2 Ai0   -- for this text's walks alone
set_option linter.unusedVariables false
set_option linter.unusedSimpArgs false
def Ad8.f (a1 : List Int) (a2 : Int) (l1 : List Int) : Option (Int × Int) := (Ad7.f a1 a2 (l1.length : Int)).bind fun a0 => (if 0 ≤ a0.1 then (if a0.1 < (l1.length : Int) then (some (rd l1 a0.1, a0.2)) else (none)) else (none))
theorem Ad8.calls (g : Nat) (a2 : List Int) (a3 : Int) (A1 : Option Addr) (c1 : Nat) (l1 : List Int) (r1 : Int) (r2 : Int) (w0 w : World) (hI : Aa0 w0 w g a2 a3) (hB : Below w0.heap.size w0 w) (b2 : Kd.C (Kd.int .i64) w A1 l1.length l1) (b3 : l1.length ≤ c1) (a9 : ∀ ad, A1 = some ad → 0 < l1.length → ad.block ≠ g) (h : Ad8.f a2 a3 l1 = some (r1, r2)) :
  Calls Tryz.prog 73 #[.pointer (some ⟨g, 0, none⟩), .slice A1 l1.length c1] w fun e w' => e = .returned (.int .i64 r1) ∧ Aa0 w0 w' g a2 r2 ∧ Below w0.heap.size w0 w' ∧ Ab7 w w' g none := by
 have b4 := am b2
 have b7 := am b3
 clear b2 b3
 have a7 := am hI
 have HK := am (Ab7.refl w g none)
 have HL := am hB.size
 clear hI
 have b8 := am hB.size
 have HB := am hB
 clear hB
 have H : ((Ad7.f a2 a3 (l1.length : Int)).bind fun a0 => (if 0 ≤ a0.1 then (if a0.1 < (l1.length : Int) then (some (rd l1 a0.1, a0.2)) else (none)) else (none))) = some (r1, r2) := h
 clear h
 obtain ⟨⟨a4, b0⟩, A3, H⟩ := ob H
 try dsimp only at H
 obtain ⟨b5, H⟩ := ife H
 obtain ⟨b6, H⟩ := ife H
 simp only [Option.some.injEq, Prod.mk.injEq] at H
 obtain ⟨rfl, rfl⟩ := H
 go_enter Tryz.func73, Tryz.ntmps73
 go_wp2_with (first | (refine gl (some 9) Tryz.func75 rfl #[.pointer (some ⟨g, 0, none⟩), .int .i64 (l1.length : Int)] ?_; refine (Ad7.calls g a2 a3 (l1.length : Int) a4 b0 w0 _ (Aa0.q a7.out) (hsk HB.out (Aa0.ge a7.out)) A3.out).mono ?_; rintro e w6 ⟨rfl, hi, hb, hk⟩; refine ⟨_, rfl, ?_⟩; replace HK := kt HK hk; replace HB := am (hb); replace a7 := am (hi); (try clear hb); (try clear hk); (try clear hi); have a5 : 0 ≤ (a4 : Int) := od; have a6 : a4 < (l1.length : Int) := od; obtain ⟨a8, b1, a1⟩ := Kd.at_int b4.out a4 a5 a6; cases b1; replace a1 := Av0 HK.out a1 (by first | (rw [Ag3]; exact a9 _ rfl (by omega)) | exact a9 _ rfl (by omega) | exact a9 a8 rfl (by omega)); replace a5 := eq_true a5; replace a6 := eq_true a6))
 go_ret
 exact ⟨er, Aa0.q a7.out, hsk HB.out (Aa0.ge a7.out), kq HK.out⟩
mutual
def Ag0.j0 : Nat → Int → Bool → List Int → Int → ByteArray → Int → ByteArray → Int → ByteArray → Int → ByteArray → Int → ByteArray → Int → ByteArray → Int → Option ((List (S79)) × Int)
 | 0, _, _, _, _, _, _, _, _, _, _, _, _, _, _, _, _ => none
 | k + 1, b4, b5, b3, b2, a0, a1, a2, a3, a4, a5, a8, a9, a6, a7, b0, b1 => if b5 = true then (some ((([(⟨a0, a1⟩ : S79), (⟨a2, a3⟩ : S79), (⟨a4, a5⟩ : S79), (⟨a6, a7⟩ : S79)] : List (S79))), b2)) else (if b4 = 3 then (Ag0.j1 k b4 (b4 == 3) b3 b2 a0 a1 a2 a3 a4 a5 a8 a9 a6 a7 b0 b1) else (Ag0.j1 k b4 (b4 == 4) b3 b2 a0 a1 a2 a3 a4 a5 a8 a9 a6 a7 b0 b1))
def Ag0.j1 : Nat → Int → Bool → List Int → Int → ByteArray → Int → ByteArray → Int → ByteArray → Int → ByteArray → Int → ByteArray → Int → ByteArray → Int → Option ((List (S79)) × Int)
 | 0, _, _, _, _, _, _, _, _, _, _, _, _, _, _, _, _ => none
 | k + 1, b3, b5, b4, a2, a7, a8, a9, b0, b1, b2, a3, a4, a0, a1, a5, a6 => if b5 = true then (some ((([(⟨a0, a1⟩ : S79), (⟨a3, a4⟩ : S79), (⟨(⟨#[97, 100, 100]⟩ : ByteArray), 2⟩ : S79), (⟨a5, a6⟩ : S79)] : List (S79))), a2)) else (if b3 = 5 then (some ((([(⟨a0, a1⟩ : S79), (⟨(⟨#[102]⟩ : ByteArray), 1⟩ : S79), (⟨(⟨#[103]⟩ : ByteArray), 1⟩ : S79)] : List (S79))), a2)) else (if b3 = 6 then (some ((([(⟨a0, a1⟩ : S79), (⟨a5, a6⟩ : S79), (⟨a7, a8⟩ : S79), (⟨b1, b2⟩ : S79), (⟨a9, b0⟩ : S79), (⟨a3, a4⟩ : S79)] : List (S79))), a2)) else (some ((([(⟨a0, a1⟩ : S79)] : List (S79))), a2))))
end
def Ag0.f (k : Nat) (a1 : List Int) (a2 : Int) : Option ((List (S79)) × Int) := (Ad7.f a1 a2 8).bind fun a0 => (if a0.1 = 0 then (Ag0.j0 k a0.1 (a0.1 == 0) a1 a0.2 (⟨#[101]⟩ : ByteArray) 0 (⟨#[105]⟩ : ByteArray) 1 (⟨#[109]⟩ : ByteArray) 2 (⟨#[115, 117, 99]⟩ : ByteArray) 1 (⟨#[97]⟩ : ByteArray) 0 (⟨#[98]⟩ : ByteArray) 0) else (if a0.1 = 1 then (Ag0.j0 k a0.1 (a0.1 == 1) a1 a0.2 (⟨#[101]⟩ : ByteArray) 0 (⟨#[105]⟩ : ByteArray) 1 (⟨#[109]⟩ : ByteArray) 2 (⟨#[115, 117, 99]⟩ : ByteArray) 1 (⟨#[97]⟩ : ByteArray) 0 (⟨#[98]⟩ : ByteArray) 0) else (Ag0.j0 k a0.1 (a0.1 == 2) a1 a0.2 (⟨#[101]⟩ : ByteArray) 0 (⟨#[105]⟩ : ByteArray) 1 (⟨#[109]⟩ : ByteArray) 2 (⟨#[115, 117, 99]⟩ : ByteArray) 1 (⟨#[97]⟩ : ByteArray) 0 (⟨#[98]⟩ : ByteArray) 0)))
theorem Ag0.calls (k : Nat) (g : Nat) (b5 : List Int) (d3 : Int) (r1 : List (S79)) (r2 : Int) (w0 w : World) (hI : Aa0 w0 w g b5 d3) (hB : Below w0.heap.size w0 w) (h : Ag0.f k b5 d3 = some (r1, r2)) :
  Calls Tryz.prog 89 #[.pointer (some ⟨g, 0, none⟩)] w fun e w' => ∃ O2 : Value, e = .returned (.agg #[O2]) ∧ Kd.R k79 79 w' w.heap.size (fun _ => True) O2 r1 ∧ Aa0 w0 w' g b5 r2 ∧ Below w0.heap.size w0 w' ∧ Ab7 w w' g none := by
 have c4z := Tryz.underlying36
 have c5z := Tryz.underlying79
 have b2 := am hI
 have HK := am (Ab7.refl w g none)
 have HL := am hB.size
 clear hI
 have q2 := am hB.size
 have HB := am hB
 clear hB
 have H : ((Ad7.f b5 d3 8).bind fun d1 => (if d1.1 = 0 then (Ag0.j0 k d1.1 (d1.1 == 0) b5 d1.2 (⟨#[101]⟩ : ByteArray) 0 (⟨#[105]⟩ : ByteArray) 1 (⟨#[109]⟩ : ByteArray) 2 (⟨#[115, 117, 99]⟩ : ByteArray) 1 (⟨#[97]⟩ : ByteArray) 0 (⟨#[98]⟩ : ByteArray) 0) else (if d1.1 = 1 then (Ag0.j0 k d1.1 (d1.1 == 1) b5 d1.2 (⟨#[101]⟩ : ByteArray) 0 (⟨#[105]⟩ : ByteArray) 1 (⟨#[109]⟩ : ByteArray) 2 (⟨#[115, 117, 99]⟩ : ByteArray) 1 (⟨#[97]⟩ : ByteArray) 0 (⟨#[98]⟩ : ByteArray) 0) else (Ag0.j0 k d1.1 (d1.1 == 2) b5 d1.2 (⟨#[101]⟩ : ByteArray) 0 (⟨#[105]⟩ : ByteArray) 1 (⟨#[109]⟩ : ByteArray) 2 (⟨#[115, 117, 99]⟩ : ByteArray) 1 (⟨#[97]⟩ : ByteArray) 0 (⟨#[98]⟩ : ByteArray) 0)))) = some (r1, r2) := h
 clear h
 obtain ⟨⟨d4, g3⟩, A2, H⟩ := ob H
 try dsimp only at H
 have B5 := am H
 clear H
 go_enter Tryz.func89, Tryz.ntmps89
 go_upto_if 17 with (first | (refine bx 2 rfl #[.slice none 0 0] 36 ?_; intro a6 hg w4 hbox hb; replace HB := am (Ad9 (hsk HB.out (Aa0.ge b2.out)) hb); have a0 := am (hbox); have r7 := am ((by rw [hg]; exact (Ae0 (w := w) (g := g) (row := none) (kq HK.out)) : w.heap.size ≤ a6)); replace HK := ku HK hb; have O3 := am (Nat.le_trans q2.out r7.out); have n6 := am ((by rw [hg]; exact Nat.ne_of_lt (Aa0.lt (show Aa0 w0 _ g b5 d3 from Aa0.q b2.out)) : g ≠ a6)); replace b2 := Aa0.bl b2 hb; have d2 := am n6.out.symm; clear hb hbox hg) | (refine bx 3 rfl #[.string (⟨#[]⟩ : ByteArray), .int .i64 0] 79 ?_; intro a8 hg w5 hbox hb; replace HB := am (Ad9 (hsk HB.out (Aa0.ge b2.out)) hb); have a1 := am (hbox); have r8 := am ((by rw [hg]; exact (Ae0 (w := w) (g := g) (row := none) (ks HK.out)) : w.heap.size ≤ a8)); replace HK := ku HK hb; have O4 := am (Nat.le_trans q2.out r8.out); have d5 := nl hg a0; have d6 := ng hg a0; replace a0 := bb a0 hb; have n7 := am ((by rw [hg]; exact Nat.ne_of_lt (Aa0.lt (show Aa0 w0 _ g b5 d3 from Aa0.q b2.out)) : g ≠ a8)); replace b2 := Aa0.bl b2 hb; have e8 := am n7.out.symm; clear hb hbox hg; obtain ⟨c6z, c7z⟩ := nn d6; obtain ⟨c8z, c9z⟩ := nn e8; have m9 := c0_ a1; have n0 := c1_ a1; have n1 := Aa2 a1.out 0; have n2 := Aa2 a1.out 1) | (refine bx 4 rfl #[.string (⟨#[]⟩ : ByteArray), .int .i64 0] 79 ?_; intro a9 hg w9 hbox hb; replace HB := am (Ad9 (hsk HB.out (Aa0.ge b2.out)) hb); have a2 := am (hbox); have r9 := am ((by rw [hg]; exact (Ae0 (w := w) (g := g) (row := none) (ks HK.out)) : w.heap.size ≤ a9)); replace HK := ku HK hb; have O5 := am (Nat.le_trans q2.out r9.out); have d7 := am ((by rw [hg]; exact Nat.ne_of_lt (Aj7 (g := a6) (o := .cells #[.slice none 0 0] 36 (0, 0)) (bf a0.out)) : a6 ≠ a9)); have d8 := am ((by rw [hg]; exact Nat.ne_of_gt (Aj7 (g := a6) (o := .cells #[.slice none 0 0] 36 (0, 0)) (bf a0.out)) : a9 ≠ a6)); replace a0 := am (Af8 (g := a6) (o := .cells #[.slice none 0 0] 36 (0, 0)) (bf a0.out) hb); have g4 := am ((by rw [hg]; exact Nat.ne_of_lt (Aj7 (g := a8) (o := .cells #[.string (⟨#[101]⟩ : ByteArray), .int .i64 0] 79 (0, 0)) (by refine bq ?_; refine Ac7 (cs := #[.string (⟨#[101]⟩ : ByteArray), .int .i64 0]) ?_ 1 _ rfl; refine bq ?_; refine Ac7 (cs := #[.string (⟨#[]⟩ : ByteArray), .int .i64 0]) ?_ 0 _ rfl; refine bq ?_; exact a1.out)) : a8 ≠ a9)); have l8 := am ((by rw [hg]; exact Nat.ne_of_gt (Aj7 (g := a8) (o := .cells #[.string (⟨#[101]⟩ : ByteArray), .int .i64 0] 79 (0, 0)) (by refine bq ?_; refine Ac7 (cs := #[.string (⟨#[101]⟩ : ByteArray), .int .i64 0]) ?_ 1 _ rfl; refine bq ?_; refine Ac7 (cs := #[.string (⟨#[]⟩ : ByteArray), .int .i64 0]) ?_ 0 _ rfl; refine bq ?_; exact a1.out)) : a9 ≠ a8)); replace a1 := am (Af8 (g := a8) (o := .cells #[.string (⟨#[101]⟩ : ByteArray), .int .i64 0] 79 (0, 0)) (by refine bq ?_; refine Ac7 (cs := #[.string (⟨#[101]⟩ : ByteArray), .int .i64 0]) ?_ 1 _ rfl; refine bq ?_; refine Ac7 (cs := #[.string (⟨#[]⟩ : ByteArray), .int .i64 0]) ?_ 0 _ rfl; refine bq ?_; exact a1.out) hb); have n8 := am ((by rw [hg]; exact Nat.ne_of_lt (Aa0.lt (show Aa0 w0 _ g b5 d3 from Aa0.q b2.out)) : g ≠ a9)); replace b2 := am (Aa0.below (show Aa0 w0 ((w5.setCell ⟨a8, 0, none⟩ (.string (⟨#[101]⟩ : ByteArray))).setCell ⟨a8, 1, none⟩ (.int .i64 0)) g b5 d3 from Aa0.q b2.out) hb); have e9 := am n8.out.symm; clear hb hbox hg; obtain ⟨O6, O7⟩ := nn d8; obtain ⟨O8, O9⟩ := nn l8; obtain ⟨P0, P1⟩ := nn e9; have i2 := c0_ a2; have i3 := c1_ a2; have i4 := Aa2 a2.out 0; have i5 := Aa2 a2.out 1) | (refine bx 5 rfl #[.string (⟨#[]⟩ : ByteArray), .int .i64 0] 79 ?_; intro b0 hg w14 hbox hb; replace HB := am (Ad9 (hsk HB.out (Aa0.ge b2.out)) hb); have a4 := am (hbox); have s0 := am ((by rw [hg]; exact (Ae0 (w := w) (g := g) (row := none) (ks HK.out)) : w.heap.size ≤ b0)); replace HK := ku HK hb; have P2 := am (Nat.le_trans q2.out s0.out); have d9 := am ((by rw [hg]; exact Nat.ne_of_lt (Aj7 (g := a6) (o := .cells #[.slice none 0 0] 36 (0, 0)) (bf a0.out)) : a6 ≠ b0)); have e0 := am ((by rw [hg]; exact Nat.ne_of_gt (Aj7 (g := a6) (o := .cells #[.slice none 0 0] 36 (0, 0)) (bf a0.out)) : b0 ≠ a6)); replace a0 := am (Af8 (g := a6) (o := .cells #[.slice none 0 0] 36 (0, 0)) (bf a0.out) hb); have g5 := am ((by rw [hg]; exact Nat.ne_of_lt (Aj7 (g := a8) (o := .cells #[.string (⟨#[101]⟩ : ByteArray), .int .i64 0] 79 (0, 0)) (bf a1.out)) : a8 ≠ b0)); have l9 := am ((by rw [hg]; exact Nat.ne_of_gt (Aj7 (g := a8) (o := .cells #[.string (⟨#[101]⟩ : ByteArray), .int .i64 0] 79 (0, 0)) (bf a1.out)) : b0 ≠ a8)); replace a1 := am (Af8 (g := a8) (o := .cells #[.string (⟨#[101]⟩ : ByteArray), .int .i64 0] 79 (0, 0)) (bf a1.out) hb); have m0 := am ((by rw [hg]; exact Nat.ne_of_lt (Aj7 (g := a9) (o := .cells #[.string (⟨#[105]⟩ : ByteArray), .int .i64 1] 79 (0, 0)) (by refine bq ?_; refine Ac7 (cs := #[.string (⟨#[105]⟩ : ByteArray), .int .i64 0]) ?_ 1 _ rfl; refine bq ?_; refine Ac7 (cs := #[.string (⟨#[]⟩ : ByteArray), .int .i64 0]) ?_ 0 _ rfl; refine bq ?_; exact a2.out)) : a9 ≠ b0)); have g6 := am ((by rw [hg]; exact Nat.ne_of_gt (Aj7 (g := a9) (o := .cells #[.string (⟨#[105]⟩ : ByteArray), .int .i64 1] 79 (0, 0)) (by refine bq ?_; refine Ac7 (cs := #[.string (⟨#[105]⟩ : ByteArray), .int .i64 0]) ?_ 1 _ rfl; refine bq ?_; refine Ac7 (cs := #[.string (⟨#[]⟩ : ByteArray), .int .i64 0]) ?_ 0 _ rfl; refine bq ?_; exact a2.out)) : b0 ≠ a9)); replace a2 := am (Af8 (g := a9) (o := .cells #[.string (⟨#[105]⟩ : ByteArray), .int .i64 1] 79 (0, 0)) (by refine bq ?_; refine Ac7 (cs := #[.string (⟨#[105]⟩ : ByteArray), .int .i64 0]) ?_ 1 _ rfl; refine bq ?_; refine Ac7 (cs := #[.string (⟨#[]⟩ : ByteArray), .int .i64 0]) ?_ 0 _ rfl; refine bq ?_; exact a2.out) hb); have n9 := am ((by rw [hg]; exact Nat.ne_of_lt (Aa0.lt (show Aa0 w0 _ g b5 d3 from Aa0.q b2.out)) : g ≠ b0)); replace b2 := am (Aa0.below (show Aa0 w0 ((w9.setCell ⟨a9, 0, none⟩ (.string (⟨#[105]⟩ : ByteArray))).setCell ⟨a9, 1, none⟩ (.int .i64 1)) g b5 d3 from Aa0.q b2.out) hb); have g0 := am n9.out.symm; clear hb hbox hg; obtain ⟨P3, P4⟩ := nn e0; obtain ⟨P5, P6⟩ := nn l9; obtain ⟨P7, P8⟩ := nn g6; obtain ⟨P9, Q0⟩ := nn g0; have i6 := c0_ a4; have i7 := c1_ a4; have i9 := Aa2 a4.out 0; have j5 := Aa2 a4.out 1) | (refine bx 6 rfl #[.string (⟨#[]⟩ : ByteArray), .int .i64 0] 79 ?_; intro b1 hg w20 hbox hb; replace HB := am (Ad9 (hsk HB.out (Aa0.ge b2.out)) hb); have a5 := am (hbox); have s1 := am ((by rw [hg]; exact (Ae0 (w := w) (g := g) (row := none) (ks HK.out)) : w.heap.size ≤ b1)); replace HK := ku HK hb; have Q1 := am (Nat.le_trans q2.out s1.out); have e1 := am ((by rw [hg]; exact Nat.ne_of_lt (Aj7 (g := a6) (o := .cells #[.slice none 0 0] 36 (0, 0)) (bf a0.out)) : a6 ≠ b1)); have e2 := am ((by rw [hg]; exact Nat.ne_of_gt (Aj7 (g := a6) (o := .cells #[.slice none 0 0] 36 (0, 0)) (bf a0.out)) : b1 ≠ a6)); replace a0 := am (Af8 (g := a6) (o := .cells #[.slice none 0 0] 36 (0, 0)) (bf a0.out) hb); have g7 := am ((by rw [hg]; exact Nat.ne_of_lt (Aj7 (g := a8) (o := .cells #[.string (⟨#[101]⟩ : ByteArray), .int .i64 0] 79 (0, 0)) (bf a1.out)) : a8 ≠ b1)); have g8 := am ((by rw [hg]; exact Nat.ne_of_gt (Aj7 (g := a8) (o := .cells #[.string (⟨#[101]⟩ : ByteArray), .int .i64 0] 79 (0, 0)) (bf a1.out)) : b1 ≠ a8)); replace a1 := am (Af8 (g := a8) (o := .cells #[.string (⟨#[101]⟩ : ByteArray), .int .i64 0] 79 (0, 0)) (bf a1.out) hb); have g9 := am ((by rw [hg]; exact Nat.ne_of_lt (Aj7 (g := a9) (o := .cells #[.string (⟨#[105]⟩ : ByteArray), .int .i64 1] 79 (0, 0)) (bf a2.out)) : a9 ≠ b1)); have h0 := am ((by rw [hg]; exact Nat.ne_of_gt (Aj7 (g := a9) (o := .cells #[.string (⟨#[105]⟩ : ByteArray), .int .i64 1] 79 (0, 0)) (bf a2.out)) : b1 ≠ a9)); replace a2 := am (Af8 (g := a9) (o := .cells #[.string (⟨#[105]⟩ : ByteArray), .int .i64 1] 79 (0, 0)) (bf a2.out) hb); have h2 := am ((by rw [hg]; exact Nat.ne_of_lt (Aj7 (g := b0) (o := .cells #[.string (⟨#[109]⟩ : ByteArray), .int .i64 2] 79 (0, 0)) (by refine bq ?_; refine Ac7 (cs := #[.string (⟨#[109]⟩ : ByteArray), .int .i64 0]) ?_ 1 _ rfl; refine bq ?_; refine Ac7 (cs := #[.string (⟨#[]⟩ : ByteArray), .int .i64 0]) ?_ 0 _ rfl; refine bq ?_; exact a4.out)) : b0 ≠ b1)); have h3 := am ((by rw [hg]; exact Nat.ne_of_gt (Aj7 (g := b0) (o := .cells #[.string (⟨#[109]⟩ : ByteArray), .int .i64 2] 79 (0, 0)) (by refine bq ?_; refine Ac7 (cs := #[.string (⟨#[109]⟩ : ByteArray), .int .i64 0]) ?_ 1 _ rfl; refine bq ?_; refine Ac7 (cs := #[.string (⟨#[]⟩ : ByteArray), .int .i64 0]) ?_ 0 _ rfl; refine bq ?_; exact a4.out)) : b1 ≠ b0)); replace a4 := am (Af8 (g := b0) (o := .cells #[.string (⟨#[109]⟩ : ByteArray), .int .i64 2] 79 (0, 0)) (by refine bq ?_; refine Ac7 (cs := #[.string (⟨#[109]⟩ : ByteArray), .int .i64 0]) ?_ 1 _ rfl; refine bq ?_; refine Ac7 (cs := #[.string (⟨#[]⟩ : ByteArray), .int .i64 0]) ?_ 0 _ rfl; refine bq ?_; exact a4.out) hb); have o0 := am ((by rw [hg]; exact Nat.ne_of_lt (Aa0.lt (show Aa0 w0 _ g b5 d3 from Aa0.q b2.out)) : g ≠ b1)); replace b2 := am (Aa0.below (show Aa0 w0 ((w14.setCell ⟨b0, 0, none⟩ (.string (⟨#[109]⟩ : ByteArray))).setCell ⟨b0, 1, none⟩ (.int .i64 2)) g b5 d3 from Aa0.q b2.out) hb); have g1 := am o0.out.symm; clear hb hbox hg; obtain ⟨Q2, Q3⟩ := nn e2; obtain ⟨Q4, Q5⟩ := nn g8; obtain ⟨Q6, Q7⟩ := nn h0; obtain ⟨Q8, Q9⟩ := nn h3; obtain ⟨R0, R1⟩ := nn g1; have j6 := c0_ a5; have j7 := c1_ a5; have j8 := Aa2 a5.out 0; have j9 := Aa2 a5.out 1) | (refine bx 7 rfl #[.string (⟨#[]⟩ : ByteArray), .int .i64 0] 79 ?_; intro b3 hg w27 hbox hb; replace HB := am (Ad9 (hsk HB.out (Aa0.ge b2.out)) hb); have a3 := am (hbox); have s2 := am ((by rw [hg]; exact (Ae0 (w := w) (g := g) (row := none) (ks HK.out)) : w.heap.size ≤ b3)); replace HK := ku HK hb; have R2 := am (Nat.le_trans q2.out s2.out); have r5 := am ((by rw [hg]; exact Nat.ne_of_lt (Aj7 (g := a6) (o := .cells #[.slice none 0 0] 36 (0, 0)) (bf a0.out)) : a6 ≠ b3)); have b6 := am ((by rw [hg]; exact Nat.ne_of_gt (Aj7 (g := a6) (o := .cells #[.slice none 0 0] 36 (0, 0)) (bf a0.out)) : b3 ≠ a6)); replace a0 := am (Af8 (g := a6) (o := .cells #[.slice none 0 0] 36 (0, 0)) (bf a0.out) hb); have m1 := am ((by rw [hg]; exact Nat.ne_of_lt (Aj7 (g := a8) (o := .cells #[.string (⟨#[101]⟩ : ByteArray), .int .i64 0] 79 (0, 0)) (bf a1.out)) : a8 ≠ b3)); have b8 := am ((by rw [hg]; exact Nat.ne_of_gt (Aj7 (g := a8) (o := .cells #[.string (⟨#[101]⟩ : ByteArray), .int .i64 0] 79 (0, 0)) (bf a1.out)) : b3 ≠ a8)); replace a1 := am (Af8 (g := a8) (o := .cells #[.string (⟨#[101]⟩ : ByteArray), .int .i64 0] 79 (0, 0)) (bf a1.out) hb); have m2 := am ((by rw [hg]; exact Nat.ne_of_lt (Aj7 (g := a9) (o := .cells #[.string (⟨#[105]⟩ : ByteArray), .int .i64 1] 79 (0, 0)) (bf a2.out)) : a9 ≠ b3)); have b9 := am ((by rw [hg]; exact Nat.ne_of_gt (Aj7 (g := a9) (o := .cells #[.string (⟨#[105]⟩ : ByteArray), .int .i64 1] 79 (0, 0)) (bf a2.out)) : b3 ≠ a9)); replace a2 := am (Af8 (g := a9) (o := .cells #[.string (⟨#[105]⟩ : ByteArray), .int .i64 1] 79 (0, 0)) (bf a2.out) hb); have m3 := am ((by rw [hg]; exact Nat.ne_of_lt (Aj7 (g := b0) (o := .cells #[.string (⟨#[109]⟩ : ByteArray), .int .i64 2] 79 (0, 0)) (bf a4.out)) : b0 ≠ b3)); have c0 := am ((by rw [hg]; exact Nat.ne_of_gt (Aj7 (g := b0) (o := .cells #[.string (⟨#[109]⟩ : ByteArray), .int .i64 2] 79 (0, 0)) (bf a4.out)) : b3 ≠ b0)); replace a4 := am (Af8 (g := b0) (o := .cells #[.string (⟨#[109]⟩ : ByteArray), .int .i64 2] 79 (0, 0)) (bf a4.out) hb); have r6 := am ((by rw [hg]; exact Nat.ne_of_lt (Aj7 (g := b1) (o := .cells #[.string (⟨#[115, 117, 99]⟩ : ByteArray), .int .i64 1] 79 (0, 0)) (by refine bq ?_; refine Ac7 (cs := #[.string (⟨#[115, 117, 99]⟩ : ByteArray), .int .i64 0]) ?_ 1 _ rfl; refine bq ?_; refine Ac7 (cs := #[.string (⟨#[]⟩ : ByteArray), .int .i64 0]) ?_ 0 _ rfl; refine bq ?_; exact a5.out)) : b1 ≠ b3)); have b7 := am ((by rw [hg]; exact Nat.ne_of_gt (Aj7 (g := b1) (o := .cells #[.string (⟨#[115, 117, 99]⟩ : ByteArray), .int .i64 1] 79 (0, 0)) (by refine bq ?_; refine Ac7 (cs := #[.string (⟨#[115, 117, 99]⟩ : ByteArray), .int .i64 0]) ?_ 1 _ rfl; refine bq ?_; refine Ac7 (cs := #[.string (⟨#[]⟩ : ByteArray), .int .i64 0]) ?_ 0 _ rfl; refine bq ?_; exact a5.out)) : b3 ≠ b1)); replace a5 := am (Af8 (g := b1) (o := .cells #[.string (⟨#[115, 117, 99]⟩ : ByteArray), .int .i64 1] 79 (0, 0)) (by refine bq ?_; refine Ac7 (cs := #[.string (⟨#[115, 117, 99]⟩ : ByteArray), .int .i64 0]) ?_ 1 _ rfl; refine bq ?_; refine Ac7 (cs := #[.string (⟨#[]⟩ : ByteArray), .int .i64 0]) ?_ 0 _ rfl; refine bq ?_; exact a5.out) hb); have o1 := am ((by rw [hg]; exact Nat.ne_of_lt (Aa0.lt (show Aa0 w0 _ g b5 d3 from Aa0.q b2.out)) : g ≠ b3)); replace b2 := am (Aa0.below (show Aa0 w0 ((w20.setCell ⟨b1, 0, none⟩ (.string (⟨#[115, 117, 99]⟩ : ByteArray))).setCell ⟨b1, 1, none⟩ (.int .i64 1)) g b5 d3 from Aa0.q b2.out) hb); have d0 := am o1.out.symm; clear hb hbox hg; obtain ⟨R3, R4⟩ := nn b6; obtain ⟨R5, R6⟩ := nn b8; obtain ⟨R7, R8⟩ := nn b9; obtain ⟨R9, S0⟩ := nn c0; obtain ⟨S1, S3⟩ := nn b7; obtain ⟨S4, S5⟩ := nn d0; have k0 := c0_ a3; have k1 := c1_ a3; have k2 := Aa2 a3.out 0; have k3 := Aa2 a3.out 1) | (refine bx 8 rfl #[.string (⟨#[]⟩ : ByteArray), .int .i64 0] 79 ?_; intro b4 hg w35 hbox hb; replace HB := am (Ad9 (hsk HB.out (Aa0.ge b2.out)) hb); have a7 := am (hbox); have s3 := am ((by rw [hg]; exact (Ae0 (w := w) (g := g) (row := none) (ks HK.out)) : w.heap.size ≤ b4)); replace HK := ku HK hb; have S6 := am (Nat.le_trans q2.out s3.out); have e3 := am ((by rw [hg]; exact Nat.ne_of_lt (Aj7 (g := a6) (o := .cells #[.slice none 0 0] 36 (0, 0)) (bf a0.out)) : a6 ≠ b4)); have e4 := am ((by rw [hg]; exact Nat.ne_of_gt (Aj7 (g := a6) (o := .cells #[.slice none 0 0] 36 (0, 0)) (bf a0.out)) : b4 ≠ a6)); replace a0 := am (Af8 (g := a6) (o := .cells #[.slice none 0 0] 36 (0, 0)) (bf a0.out) hb); have m4 := am ((by rw [hg]; exact Nat.ne_of_lt (Aj7 (g := a8) (o := .cells #[.string (⟨#[101]⟩ : ByteArray), .int .i64 0] 79 (0, 0)) (bf a1.out)) : a8 ≠ b4)); have e5 := am ((by rw [hg]; exact Nat.ne_of_gt (Aj7 (g := a8) (o := .cells #[.string (⟨#[101]⟩ : ByteArray), .int .i64 0] 79 (0, 0)) (bf a1.out)) : b4 ≠ a8)); replace a1 := am (Af8 (g := a8) (o := .cells #[.string (⟨#[101]⟩ : ByteArray), .int .i64 0] 79 (0, 0)) (bf a1.out) hb); have m5 := am ((by rw [hg]; exact Nat.ne_of_lt (Aj7 (g := a9) (o := .cells #[.string (⟨#[105]⟩ : ByteArray), .int .i64 1] 79 (0, 0)) (bf a2.out)) : a9 ≠ b4)); have e6 := am ((by rw [hg]; exact Nat.ne_of_gt (Aj7 (g := a9) (o := .cells #[.string (⟨#[105]⟩ : ByteArray), .int .i64 1] 79 (0, 0)) (bf a2.out)) : b4 ≠ a9)); replace a2 := am (Af8 (g := a9) (o := .cells #[.string (⟨#[105]⟩ : ByteArray), .int .i64 1] 79 (0, 0)) (bf a2.out) hb); have m6 := am ((by rw [hg]; exact Nat.ne_of_lt (Aj7 (g := b0) (o := .cells #[.string (⟨#[109]⟩ : ByteArray), .int .i64 2] 79 (0, 0)) (bf a4.out)) : b0 ≠ b4)); have e7 := am ((by rw [hg]; exact Nat.ne_of_gt (Aj7 (g := b0) (o := .cells #[.string (⟨#[109]⟩ : ByteArray), .int .i64 2] 79 (0, 0)) (bf a4.out)) : b4 ≠ b0)); replace a4 := am (Af8 (g := b0) (o := .cells #[.string (⟨#[109]⟩ : ByteArray), .int .i64 2] 79 (0, 0)) (bf a4.out) hb); have m7 := am ((by rw [hg]; exact Nat.ne_of_lt (Aj7 (g := b1) (o := .cells #[.string (⟨#[115, 117, 99]⟩ : ByteArray), .int .i64 1] 79 (0, 0)) (bf a5.out)) : b1 ≠ b4)); have h4 := am ((by rw [hg]; exact Nat.ne_of_gt (Aj7 (g := b1) (o := .cells #[.string (⟨#[115, 117, 99]⟩ : ByteArray), .int .i64 1] 79 (0, 0)) (bf a5.out)) : b4 ≠ b1)); replace a5 := am (Af8 (g := b1) (o := .cells #[.string (⟨#[115, 117, 99]⟩ : ByteArray), .int .i64 1] 79 (0, 0)) (bf a5.out) hb); have c1 := am ((by rw [hg]; exact Nat.ne_of_lt (Aj7 (g := b3) (o := .cells #[.string (⟨#[97]⟩ : ByteArray), .int .i64 0] 79 (0, 0)) (by refine bq ?_; refine Ac7 (cs := #[.string (⟨#[97]⟩ : ByteArray), .int .i64 0]) ?_ 1 _ rfl; refine bq ?_; refine Ac7 (cs := #[.string (⟨#[]⟩ : ByteArray), .int .i64 0]) ?_ 0 _ rfl; refine bq ?_; exact a3.out)) : b3 ≠ b4)); have m8 := am ((by rw [hg]; exact Nat.ne_of_gt (Aj7 (g := b3) (o := .cells #[.string (⟨#[97]⟩ : ByteArray), .int .i64 0] 79 (0, 0)) (by refine bq ?_; refine Ac7 (cs := #[.string (⟨#[97]⟩ : ByteArray), .int .i64 0]) ?_ 1 _ rfl; refine bq ?_; refine Ac7 (cs := #[.string (⟨#[]⟩ : ByteArray), .int .i64 0]) ?_ 0 _ rfl; refine bq ?_; exact a3.out)) : b4 ≠ b3)); replace a3 := am (Af8 (g := b3) (o := .cells #[.string (⟨#[97]⟩ : ByteArray), .int .i64 0] 79 (0, 0)) (by refine bq ?_; refine Ac7 (cs := #[.string (⟨#[97]⟩ : ByteArray), .int .i64 0]) ?_ 1 _ rfl; refine bq ?_; refine Ac7 (cs := #[.string (⟨#[]⟩ : ByteArray), .int .i64 0]) ?_ 0 _ rfl; refine bq ?_; exact a3.out) hb); have o2 := am ((by rw [hg]; exact Nat.ne_of_lt (Aa0.lt (show Aa0 w0 _ g b5 d3 from Aa0.q b2.out)) : g ≠ b4)); replace b2 := am (Aa0.below (show Aa0 w0 ((w27.setCell ⟨b3, 0, none⟩ (.string (⟨#[97]⟩ : ByteArray))).setCell ⟨b3, 1, none⟩ (.int .i64 0)) g b5 d3 from Aa0.q b2.out) hb); have g2 := am o2.out.symm; clear hb hbox hg; obtain ⟨S7, S8⟩ := nn e4; obtain ⟨S9, T0⟩ := nn e5; obtain ⟨T2, T4⟩ := nn e6; obtain ⟨T5, T8⟩ := nn e7; obtain ⟨T9, U0⟩ := nn h4; obtain ⟨U1, U2⟩ := nn m8; obtain ⟨U3, U4⟩ := nn g2; have k4 := c0_ a7; have k5 := c1_ a7; have k6 := Aa2 a7.out 0; have k7 := Aa2 a7.out 1) | (refine gl (some 16) Tryz.func75 rfl #[.pointer (some ⟨g, 0, none⟩), .int .i64 8] ?_; refine (Ad7.calls g b5 d3 8 d4 g3 w0 _ (Aa0.q b2.out) (hsk HB.out (Aa0.ge b2.out)) A2.out).mono ?_; rintro e w44 ⟨rfl, hi, hb, hk⟩; refine ⟨_, rfl, ?_⟩; replace a0 := am (Ab7.blk hk (g' := a6) (o := .cells #[.slice none 0 0] 36 (0, 0)) (bf a0.out) d2.out (by simp)); replace a1 := am (Ab7.blk hk (g' := a8) (o := .cells #[.string (⟨#[101]⟩ : ByteArray), .int .i64 0] 79 (0, 0)) (bf a1.out) e8.out (by simp)); replace a2 := am (Ab7.blk hk (g' := a9) (o := .cells #[.string (⟨#[105]⟩ : ByteArray), .int .i64 1] 79 (0, 0)) (bf a2.out) e9.out (by simp)); replace a4 := am (Ab7.blk hk (g' := b0) (o := .cells #[.string (⟨#[109]⟩ : ByteArray), .int .i64 2] 79 (0, 0)) (bf a4.out) g0.out (by simp)); replace a5 := am (Ab7.blk hk (g' := b1) (o := .cells #[.string (⟨#[115, 117, 99]⟩ : ByteArray), .int .i64 1] 79 (0, 0)) (bf a5.out) g1.out (by simp)); replace a3 := am (Ab7.blk hk (g' := b3) (o := .cells #[.string (⟨#[97]⟩ : ByteArray), .int .i64 0] 79 (0, 0)) (bf a3.out) d0.out (by simp)); replace a7 := am (Ab7.blk hk (g' := b4) (o := .cells #[.string (⟨#[98]⟩ : ByteArray), .int .i64 0] 79 (0, 0)) (by refine bq ?_; refine Ac7 (cs := #[.string (⟨#[98]⟩ : ByteArray), .int .i64 0]) ?_ 1 _ rfl; refine bq ?_; refine Ac7 (cs := #[.string (⟨#[]⟩ : ByteArray), .int .i64 0]) ?_ 0 _ rfl; refine bq ?_; exact a7.out) g2.out (by simp)); replace HK := kt HK hk; replace HB := am (hb); replace b2 := am (hi); clear hb hk hi))
 (try simp only [Act.put, lsp])
 go_cut [17] (fun v17 wc => ∃ (kq : Nat) (k8 : Bool), v17 = .bool k8 ∧ Aside0 (Ag0.j0 kq d4 k8 b5 g3 (⟨#[101]⟩ : ByteArray) 0 (⟨#[105]⟩ : ByteArray) 1 (⟨#[109]⟩ : ByteArray) 2 (⟨#[115, 117, 99]⟩ : ByteArray) 1 (⟨#[97]⟩ : ByteArray) 0 (⟨#[98]⟩ : ByteArray) 0 = some (r1, r2)) ∧ Aside0 (kq ≤ k) ∧ Aside0 (wc.heap[a6]? = some (.cells #[(.slice none 0 0)] 36 (0, 0))) ∧ Aside0 (wc.heap[a8]? = some (.cells #[.string (⟨#[101]⟩ : ByteArray), .int .i64 0] 79 (0, 0))) ∧ Aside0 (wc.heap[a9]? = some (.cells #[.string (⟨#[105]⟩ : ByteArray), .int .i64 1] 79 (0, 0))) ∧ Aside0 (wc.heap[b0]? = some (.cells #[.string (⟨#[109]⟩ : ByteArray), .int .i64 2] 79 (0, 0))) ∧ Aside0 (wc.heap[b1]? = some (.cells #[.string (⟨#[115, 117, 99]⟩ : ByteArray), .int .i64 1] 79 (0, 0))) ∧ Aside0 (wc.heap[b3]? = some (.cells #[.string (⟨#[97]⟩ : ByteArray), .int .i64 0] 79 (0, 0))) ∧ Aside0 (wc.heap[b4]? = some (.cells #[.string (⟨#[98]⟩ : ByteArray), .int .i64 0] 79 (0, 0))) ∧ Aside0 (Aa0 w0 wc g b5 g3) ∧ Aside0 (Ab7 w wc g none) ∧ Aside0 (Below w0.heap.size w0 wc))
 case first =>
  have H := B5.out
  clear B5
  by_cases s4 : d4 = 0
  ·rw [if_pos s4] at H
   obtain ⟨h6, s5⟩ := bqt s4; clear s4
   (first | rw [h6] | (simp only [Ae6, Ae7]; rw [h6]) | skip)
   have H' := am H
   clear H
   go_wp2
   go_meet
   case rel => exact ⟨_, ((d4 == 0)), et, H', lo, ⟨bq a0.out⟩, ⟨bq a1.out⟩, ⟨bq a2.out⟩, ⟨bq a4.out⟩, ⟨bq a5.out⟩, ⟨bq a3.out⟩, ⟨bq a7.out⟩, ⟨Aa0.q b2.out⟩, ⟨ks HK.out⟩, ⟨hsk HB.out (Aa0.ge b2.out)⟩⟩
  ·rw [if_neg s4] at H
   obtain ⟨h6, s5⟩ := bqf s4
   (first | rw [h6] | (simp only [Ae6, Ae7]; rw [h6]) | skip)
   by_cases s6 : d4 = 1
   ·rw [if_pos s6] at H
    obtain ⟨s7, s8⟩ := bqt s6; clear s6
    have H' := am H
    clear H
    go_wp2
    go_meet
    case rel => exact ⟨_, ((d4 == 1)), et, H', lo, ⟨bq a0.out⟩, ⟨bq a1.out⟩, ⟨bq a2.out⟩, ⟨bq a4.out⟩, ⟨bq a5.out⟩, ⟨bq a3.out⟩, ⟨bq a7.out⟩, ⟨Aa0.q b2.out⟩, ⟨ks HK.out⟩, ⟨hsk HB.out (Aa0.ge b2.out)⟩⟩
   ·rw [if_neg s6] at H
    obtain ⟨s7, s8⟩ := bqf s6
    have H' := am H
    clear H
    go_wp2
    go_meet
    case rel => exact ⟨_, ((d4 == 2)), et, H', lo, ⟨bq a0.out⟩, ⟨bq a1.out⟩, ⟨bq a2.out⟩, ⟨bq a4.out⟩, ⟨bq a5.out⟩, ⟨bq a3.out⟩, ⟨bq a7.out⟩, ⟨Aa0.q b2.out⟩, ⟨ks HK.out⟩, ⟨hsk HB.out (Aa0.ge b2.out)⟩⟩
 case rest =>
  clear B5
  try clear i2; try clear i3; try clear i6; try clear i7; try clear j6; try clear j7; try clear k0; try clear k1; try clear k4; try clear k5; try clear m9; try clear n0; try clear i4; try clear i5; try clear i9; try clear j5; try clear j8; try clear j9; try clear k2; try clear k3; try clear k6; try clear k7; try clear n1; try clear n2
  obtain ⟨kq, k8, rfl, HA, U5, a0, a1, a2, a4, a5, a3, a7, b2, HK, HB⟩ := hcut
  cases kq with
  | zero => exact absurd HA.out (by simp [Ag0.j0])
  | succ kj2 =>
   have H := HA.out
   clear HA
   simp only [Ag0.j0] at H
   by_cases s9 : k8 = true
   ·subst s9
    rw [if_pos rfl] at H
    obtain ⟨q3, k9⟩ : ∃ y_ : List (S79), y_ = (([(⟨(⟨#[101]⟩ : ByteArray), 0⟩ : S79), (⟨(⟨#[105]⟩ : ByteArray), 1⟩ : S79), (⟨(⟨#[109]⟩ : ByteArray), 2⟩ : S79), (⟨(⟨#[97]⟩ : ByteArray), 0⟩ : S79)] : List (S79))) := ⟨_, rfl⟩
    replace H : (some (q3, g3)) = some (r1, r2) := by first | (rw [k9]; first | with_reducible exact H | with_reducible exact bs H) | with_reducible exact bs H | with_reducible exact H | (rw [k9]; exact H) | exact H
    have o4 := am k9
    clear k9
    simp only [Option.some.injEq, Prod.mk.injEq] at H
    obtain ⟨rfl, rfl⟩ := H
    obtain ⟨U6, U7⟩ := nn d6
    obtain ⟨U8, U9⟩ := nn g4
    obtain ⟨V0, V1⟩ := nn g5
    obtain ⟨V2, V3⟩ := nn g7
    obtain ⟨V4, V5⟩ := nn m1
    obtain ⟨V6, V7⟩ := nn m4
    obtain ⟨V8, V9⟩ := nn e8
    have y5 := c0_ a1
    have y6 := c1_ a1
    have y7 := Aa2 a1.out 0
    have y8 := Aa2 a1.out 1
    obtain ⟨W0, W1⟩ := nn d8
    obtain ⟨W2, W3⟩ := nn m0
    obtain ⟨W4, W5⟩ := nn g9
    obtain ⟨W6, W7⟩ := nn m2
    obtain ⟨W8, W9⟩ := nn m5
    obtain ⟨X0, X1⟩ := nn e9
    have y9 := c0_ a2
    have z0 := c1_ a2
    have z1 := Aa2 a2.out 0
    have z2 := Aa2 a2.out 1
    obtain ⟨X2, X3⟩ := nn e0
    obtain ⟨X4, X5⟩ := nn h2
    obtain ⟨X6, X7⟩ := nn m3
    obtain ⟨X8, X9⟩ := nn m6
    obtain ⟨Y0, Y1⟩ := nn g0
    have z3 := c0_ a4
    have z4 := c1_ a4
    have z5 := Aa2 a4.out 0
    have z6 := Aa2 a4.out 1
    obtain ⟨Y2, Y3⟩ := nn b6
    obtain ⟨Y4, Y5⟩ := nn b7
    obtain ⟨Y6, Y7⟩ := nn c1
    obtain ⟨Y8, Y9⟩ := nn d0
    have z7 := c0_ a3
    have z8 := c1_ a3
    have z9 := Aa2 a3.out 0
    have A0 := Aa2 a3.out 1
    go_wp2_with (first | ((with_reducible refine An6 (N := 25) rfl ?_); refine Kd.R_lit k79 _ 79 ?hg (N := 25) ?hd (xs := ([(⟨(⟨#[101]⟩ : ByteArray), 0⟩ : S79), (⟨(⟨#[105]⟩ : ByteArray), 1⟩ : S79), (⟨(⟨#[109]⟩ : ByteArray), 2⟩ : S79), (⟨(⟨#[97]⟩ : ByteArray), 0⟩ : S79)] : List (S79))) (inner := [.string (⟨#[101]⟩ : ByteArray), .int .i64 0, .string (⟨#[105]⟩ : ByteArray), .int .i64 1, .string (⟨#[109]⟩ : ByteArray), .int .i64 2, .string (⟨#[97]⟩ : ByteArray), .int .i64 0]) (ok := fun _ => True) (okp := fun _ => True) ?hr ?hp (fun _ hk => hk) trivial (Below.refl _ _) (Nat.le_refl _) (by simp) ?_; (case hd => rfl); (case hg => rfl); (case hr => first | (go_simp; done) | (go_simp; rfl)); (case hp => exact (Aj9.c2 (show Kd.M k79 _ _ _ (⟨(⟨#[101]⟩ : ByteArray), 0⟩ : S79) [.string (⟨#[101]⟩ : ByteArray), .int .i64 0] from (Am8 _ _ _ (⟨(⟨#[101]⟩ : ByteArray), 0⟩ : S79) )) (Aj9.c2 (show Kd.M k79 _ _ _ (⟨(⟨#[105]⟩ : ByteArray), 1⟩ : S79) [.string (⟨#[105]⟩ : ByteArray), .int .i64 1] from (Am8 _ _ _ (⟨(⟨#[105]⟩ : ByteArray), 1⟩ : S79) )) (Aj9.c2 (show Kd.M k79 _ _ _ (⟨(⟨#[109]⟩ : ByteArray), 2⟩ : S79) [.string (⟨#[109]⟩ : ByteArray), .int .i64 2] from (Am8 _ _ _ (⟨(⟨#[109]⟩ : ByteArray), 2⟩ : S79) )) (Aj9.c2 (show Kd.M k79 _ _ _ (⟨(⟨#[97]⟩ : ByteArray), 0⟩ : S79) [.string (⟨#[97]⟩ : ByteArray), .int .i64 0] from (Am8 _ _ _ (⟨(⟨#[97]⟩ : ByteArray), 0⟩ : S79) )) (Aj9.none _ _)))))); intro d5z w74 n3 hb o3 hnew_; clear o3 hnew_; (first | rw [← o4.out] at n3 | (simp only [Int.reduceToNat] at n3; rw [← o4.out] at n3)); have o5 := am (Kd.R_lower (Kd.R_newB (Kd.R_newB (Kd.R_newB (Kd.R_newB (Kd.R_newB (Kd.R_newB n3 (bq a1.out)) (bq a2.out)) (bq a4.out)) (bq a5.out)) (bq a3.out)) (bq a7.out)) (Ae0 (w := w) (g := g) (row := none) (ks HK.out))); replace a0 := bb a0 hb; replace a1 := bb a1 hb; replace a2 := bb a2 hb; replace a4 := bb a4 hb; replace a5 := bb a5 hb; replace a3 := bb a3 hb; replace a7 := bb a7 hb; replace HK := ku HK hb; replace HB := am (Ad9 (hsk HB.out (Aa0.ge b2.out)) hb); replace b2 := Aa0.bl b2 hb; clear hb n3; obtain ⟨t0, t1, rfl⟩ := Kd.R_slice o5.out; obtain ⟨Z0, Z1⟩ := nn e1; obtain ⟨Z2, Z3⟩ := nn e3; obtain ⟨Z4, Z5⟩ := nn d2; have A1 := c0_ a0; have A3 := Aa2 a0.out 0))
    refine bodyPost_ret (results_cell_row rfl _ _ a6 36 #[.slice t0 q3.length t1] (0, 0) _ rfl (by refine bq ?_; refine Ac7 (cs := #[.slice none 0 0]) ?_ 0 _ rfl; refine bq ?_; exact a0.out) Tryz.underlying36 rfl (by kernel_rfl)) rfl ?_
    exact ⟨_, er, rq (Kd.R_mono (Kd.R_far (p := ⟨a6, 0, none⟩) (Kd.R_types o5.out a0.out (by decide)) (fun _ hk => hk.2) (.slice t0 q3.length t1)) (fun _ hk => trivial)), Aa0.q b2.out, hsk HB.out (Aa0.ge b2.out), ks HK.out⟩
   ·replace s9 := Bool.eq_false_iff.mpr s9
    subst s9
    rw [if_neg (show ¬ (false = true) by decide)] at H
    have q4 := am H
    clear H
    go_upto_if 27 with (fail)
    go_cut [27] (fun v27 wc => ∃ (kq : Nat) (h5 : Bool), v27 = .bool h5 ∧ Aside0 (Ag0.j1 kq d4 h5 b5 g3 (⟨#[101]⟩ : ByteArray) 0 (⟨#[105]⟩ : ByteArray) 1 (⟨#[109]⟩ : ByteArray) 2 (⟨#[115, 117, 99]⟩ : ByteArray) 1 (⟨#[97]⟩ : ByteArray) 0 (⟨#[98]⟩ : ByteArray) 0 = some (r1, r2)) ∧ Aside0 (kq ≤ kj2) ∧ Aside0 (wc.heap[a6]? = some (.cells #[(.slice none 0 0)] 36 (0, 0))) ∧ Aside0 (wc.heap[a8]? = some (.cells #[.string (⟨#[101]⟩ : ByteArray), .int .i64 0] 79 (0, 0))) ∧ Aside0 (wc.heap[a9]? = some (.cells #[.string (⟨#[105]⟩ : ByteArray), .int .i64 1] 79 (0, 0))) ∧ Aside0 (wc.heap[b0]? = some (.cells #[.string (⟨#[109]⟩ : ByteArray), .int .i64 2] 79 (0, 0))) ∧ Aside0 (wc.heap[b1]? = some (.cells #[.string (⟨#[115, 117, 99]⟩ : ByteArray), .int .i64 1] 79 (0, 0))) ∧ Aside0 (wc.heap[b3]? = some (.cells #[.string (⟨#[97]⟩ : ByteArray), .int .i64 0] 79 (0, 0))) ∧ Aside0 (wc.heap[b4]? = some (.cells #[.string (⟨#[98]⟩ : ByteArray), .int .i64 0] 79 (0, 0))) ∧ Aside0 (Aa0 w0 wc g b5 g3) ∧ Aside0 (Ab7 w wc g none) ∧ Aside0 (Below w0.heap.size w0 wc))
    case first =>
     have H := q4.out
     clear q4
     by_cases t2 : d4 = 3
     ·rw [if_pos t2] at H
      obtain ⟨h7, t3⟩ := bqt t2; clear t2
      (first | rw [h7] | (simp only [Ae6, Ae7]; rw [h7]) | skip)
      have H' := am H
      clear H
      go_wp2
      go_meet
      case rel => exact ⟨_, ((d4 == 3)), et, H', ⟨by have := U5.out; first | omega | exact Nat.le_refl _⟩, ⟨bq a0.out⟩, ⟨bq a1.out⟩, ⟨bq a2.out⟩, ⟨bq a4.out⟩, ⟨bq a5.out⟩, ⟨bq a3.out⟩, ⟨bq a7.out⟩, ⟨Aa0.q b2.out⟩, ⟨ks HK.out⟩, ⟨hsk HB.out (Aa0.ge b2.out)⟩⟩
     ·rw [if_neg t2] at H
      obtain ⟨h7, t3⟩ := bqf t2
      (first | rw [h7] | (simp only [Ae6, Ae7]; rw [h7]) | skip)
      have H' := am H
      clear H
      go_wp2
      go_meet
      case rel => exact ⟨_, ((d4 == 4)), et, H', ⟨by have := U5.out; first | omega | exact Nat.le_refl _⟩, ⟨bq a0.out⟩, ⟨bq a1.out⟩, ⟨bq a2.out⟩, ⟨bq a4.out⟩, ⟨bq a5.out⟩, ⟨bq a3.out⟩, ⟨bq a7.out⟩, ⟨Aa0.q b2.out⟩, ⟨ks HK.out⟩, ⟨hsk HB.out (Aa0.ge b2.out)⟩⟩
    case rest =>
     clear q4
     try clear s9; try clear i2; try clear i3; try clear i6; try clear i7; try clear j6; try clear j7; try clear k0; try clear k1; try clear k4; try clear k5; try clear m9; try clear n0; try clear i4; try clear i5; try clear i9; try clear j5; try clear j8; try clear j9; try clear k2; try clear k3; try clear k6; try clear k7; try clear n1; try clear n2
     obtain ⟨kq, h5, rfl, HA, d7z, a0, a1, a2, a4, a5, a3, a7, b2, HK, HB⟩ := hcut
     cases kq with
     | zero => exact absurd HA.out (by simp [Ag0.j1])
     | succ d8z =>
      have H := HA.out
      clear HA
      simp only [Ag0.j1] at H
      by_cases A4 : h5 = true
      ·subst A4
       rw [if_pos rfl] at H
       obtain ⟨q5, l4⟩ : ∃ y_ : List (S79), y_ = (([(⟨(⟨#[97]⟩ : ByteArray), 0⟩ : S79), (⟨(⟨#[115, 117, 99]⟩ : ByteArray), 1⟩ : S79), (⟨(⟨#[97, 100, 100]⟩ : ByteArray), 2⟩ : S79), (⟨(⟨#[98]⟩ : ByteArray), 0⟩ : S79)] : List (S79))) := ⟨_, rfl⟩
       replace H : (some (q5, g3)) = some (r1, r2) := by first | (rw [l4]; first | with_reducible exact H | with_reducible exact bs H) | with_reducible exact bs H | with_reducible exact H | (rw [l4]; exact H) | exact H
       have o6 := am l4
       clear l4
       simp only [Option.some.injEq, Prod.mk.injEq] at H
       obtain ⟨rfl, rfl⟩ := H
       obtain ⟨Z6, Z7⟩ := nn b6
       obtain ⟨Z8, Z9⟩ := nn b8
       obtain ⟨a0z, a1z⟩ := nn b9
       obtain ⟨a2z, a3z⟩ := nn c0
       obtain ⟨a4z, a5z⟩ := nn b7
       obtain ⟨a6z, a7z⟩ := nn c1
       obtain ⟨a8z, a9z⟩ := nn d0
       have A5 := c0_ a3
       have A6 := c1_ a3
       have A7 := Aa2 a3.out 0
       have A8 := Aa2 a3.out 1
       obtain ⟨b0z, b1z⟩ := nn e2
       obtain ⟨b2z, b3z⟩ := nn g8
       obtain ⟨b4z, b5z⟩ := nn h0
       obtain ⟨b6z, b7z⟩ := nn h3
       obtain ⟨b8z, b9z⟩ := nn m7
       obtain ⟨c0z, c1z⟩ := nn g1
       have A9 := c0_ a5
       have B0 := c1_ a5
       have B2 := Aa2 a5.out 0
       have B4 := Aa2 a5.out 1
       obtain ⟨c2z, c3z⟩ := nn e4
       obtain ⟨B8, B9⟩ := nn e5
       obtain ⟨C0, C1⟩ := nn e6
       obtain ⟨C2, C3⟩ := nn e7
       obtain ⟨C4, C5⟩ := nn g2
       have t4 := c0_ a7
       have t5 := c1_ a7
       have t6 := Aa2 a7.out 0
       have t7 := Aa2 a7.out 1
       go_wp2_with (first | ((with_reducible refine An6 (N := 34) rfl ?_); refine Kd.R_lit k79 _ 79 ?hg (N := 34) ?hd (xs := ([(⟨(⟨#[97]⟩ : ByteArray), 0⟩ : S79), (⟨(⟨#[115, 117, 99]⟩ : ByteArray), 1⟩ : S79), (⟨(⟨#[97, 100, 100]⟩ : ByteArray), 2⟩ : S79), (⟨(⟨#[98]⟩ : ByteArray), 0⟩ : S79)] : List (S79))) (inner := [.string (⟨#[97]⟩ : ByteArray), .int .i64 0, .string (⟨#[115, 117, 99]⟩ : ByteArray), .int .i64 1, .string (⟨#[97, 100, 100]⟩ : ByteArray), .int .i64 2, .string (⟨#[98]⟩ : ByteArray), .int .i64 0]) (ok := fun _ => True) (okp := fun _ => True) ?hr ?hp (fun _ hk => hk) trivial (Below.refl _ _) (Nat.le_refl _) (by simp) ?_; (case hd => rfl); (case hg => rfl); (case hr => first | (go_simp; done) | (go_simp; rfl)); (case hp => exact (Aj9.c2 (show Kd.M k79 _ _ _ (⟨(⟨#[97]⟩ : ByteArray), 0⟩ : S79) [.string (⟨#[97]⟩ : ByteArray), .int .i64 0] from (Am8 _ _ _ (⟨(⟨#[97]⟩ : ByteArray), 0⟩ : S79) )) (Aj9.c2 (show Kd.M k79 _ _ _ (⟨(⟨#[115, 117, 99]⟩ : ByteArray), 1⟩ : S79) [.string (⟨#[115, 117, 99]⟩ : ByteArray), .int .i64 1] from (Am8 _ _ _ (⟨(⟨#[115, 117, 99]⟩ : ByteArray), 1⟩ : S79) )) (Aj9.c2 (show Kd.M k79 _ _ _ (⟨(⟨#[97, 100, 100]⟩ : ByteArray), 2⟩ : S79) [.string (⟨#[97, 100, 100]⟩ : ByteArray), .int .i64 2] from (Am8 _ _ _ (⟨(⟨#[97, 100, 100]⟩ : ByteArray), 2⟩ : S79) )) (Aj9.c2 (show Kd.M k79 _ _ _ (⟨(⟨#[98]⟩ : ByteArray), 0⟩ : S79) [.string (⟨#[98]⟩ : ByteArray), .int .i64 0] from (Am8 _ _ _ (⟨(⟨#[98]⟩ : ByteArray), 0⟩ : S79) )) (Aj9.none _ _)))))); intro d9z e0z h8 hb o3 hnew_; clear o3 hnew_; (first | rw [← o6.out] at h8 | (simp only [Int.reduceToNat] at h8; rw [← o6.out] at h8)); have o7 := am (Kd.R_lower (Kd.R_newB (Kd.R_newB (Kd.R_newB (Kd.R_newB (Kd.R_newB (Kd.R_newB h8 (bq a1.out)) (bq a2.out)) (bq a4.out)) (bq a5.out)) (bq a3.out)) (bq a7.out)) (Ae0 (w := w) (g := g) (row := none) (ks HK.out))); replace a0 := bb a0 hb; replace a1 := bb a1 hb; replace a2 := bb a2 hb; replace a4 := bb a4 hb; replace a5 := bb a5 hb; replace a3 := bb a3 hb; replace a7 := bb a7 hb; replace HK := ku HK hb; replace HB := am (Ad9 (hsk HB.out (Aa0.ge b2.out)) hb); replace b2 := Aa0.bl b2 hb; clear hb h8; obtain ⟨o8, o9, rfl⟩ := Kd.R_slice o7.out; obtain ⟨C6, C7⟩ := nn d5; obtain ⟨C8, C9⟩ := nn d7; obtain ⟨D0, D1⟩ := nn d9; obtain ⟨D2, D3⟩ := nn d2; have t8 := c0_ a0; have t9 := Aa2 a0.out 0))
       refine bodyPost_ret (results_cell_row rfl _ _ a6 36 #[.slice o8 q5.length o9] (0, 0) _ rfl (by refine bq ?_; refine Ac7 (cs := #[.slice none 0 0]) ?_ 0 _ rfl; refine bq ?_; exact a0.out) Tryz.underlying36 rfl (by kernel_rfl)) rfl ?_
       exact ⟨_, er, rq (Kd.R_mono (Kd.R_far (p := ⟨a6, 0, none⟩) (Kd.R_types o7.out a0.out (by decide)) (fun _ hk => hk.2) (.slice o8 q5.length o9)) (fun _ hk => trivial)), Aa0.q b2.out, hsk HB.out (Aa0.ge b2.out), ks HK.out⟩
      ·replace A4 := Bool.eq_false_iff.mpr A4
       subst A4
       rw [if_neg (show ¬ (false = true) by decide)] at H
       by_cases n4 : d4 = 5
       ·rw [if_pos n4] at H
        obtain ⟨q6, q7⟩ := bqt n4; clear n4
        obtain ⟨q8, l5⟩ : ∃ y_ : List (S79), y_ = (([(⟨(⟨#[97]⟩ : ByteArray), 0⟩ : S79), (⟨(⟨#[102]⟩ : ByteArray), 1⟩ : S79), (⟨(⟨#[103]⟩ : ByteArray), 1⟩ : S79)] : List (S79))) := ⟨_, rfl⟩
        replace H : (some (q8, g3)) = some (r1, r2) := by first | (rw [l5]; first | with_reducible exact H | with_reducible exact bs H) | with_reducible exact bs H | with_reducible exact H | (rw [l5]; exact H) | exact H
        have p0 := am l5
        clear l5
        simp only [Option.some.injEq, Prod.mk.injEq] at H
        obtain ⟨rfl, rfl⟩ := H
        obtain ⟨D4, D5⟩ := nn b6
        obtain ⟨D6, D7⟩ := nn b8
        obtain ⟨D8, D9⟩ := nn b9
        obtain ⟨E0, E1⟩ := nn c0
        obtain ⟨E2, E3⟩ := nn b7
        obtain ⟨E4, E5⟩ := nn c1
        obtain ⟨E6, E7⟩ := nn d0
        have u0 := c0_ a3
        have u1 := c1_ a3
        have u2 := Aa2 a3.out 0
        have u3 := Aa2 a3.out 1
        go_wp2_with (first | ((with_reducible refine An6 (N := 41) rfl ?_); refine Kd.R_lit k79 _ 79 ?hg (N := 41) ?hd (xs := ([(⟨(⟨#[97]⟩ : ByteArray), 0⟩ : S79), (⟨(⟨#[102]⟩ : ByteArray), 1⟩ : S79), (⟨(⟨#[103]⟩ : ByteArray), 1⟩ : S79)] : List (S79))) (inner := [.string (⟨#[97]⟩ : ByteArray), .int .i64 0, .string (⟨#[102]⟩ : ByteArray), .int .i64 1, .string (⟨#[103]⟩ : ByteArray), .int .i64 1]) (ok := fun _ => True) (okp := fun _ => True) ?hr ?hp (fun _ hk => hk) trivial (Below.refl _ _) (Nat.le_refl _) (by simp) ?_; (case hd => rfl); (case hg => rfl); (case hr => first | (go_simp; done) | (go_simp; rfl)); (case hp => exact (Aj9.c2 (show Kd.M k79 _ _ _ (⟨(⟨#[97]⟩ : ByteArray), 0⟩ : S79) [.string (⟨#[97]⟩ : ByteArray), .int .i64 0] from (Am8 _ _ _ (⟨(⟨#[97]⟩ : ByteArray), 0⟩ : S79) )) (Aj9.c2 (show Kd.M k79 _ _ _ (⟨(⟨#[102]⟩ : ByteArray), 1⟩ : S79) [.string (⟨#[102]⟩ : ByteArray), .int .i64 1] from (Am8 _ _ _ (⟨(⟨#[102]⟩ : ByteArray), 1⟩ : S79) )) (Aj9.c2 (show Kd.M k79 _ _ _ (⟨(⟨#[103]⟩ : ByteArray), 1⟩ : S79) [.string (⟨#[103]⟩ : ByteArray), .int .i64 1] from (Am8 _ _ _ (⟨(⟨#[103]⟩ : ByteArray), 1⟩ : S79) )) (Aj9.none _ _))))); intro e1z e2z h9 hb o3 hnew_; clear o3 hnew_; (first | rw [← p0.out] at h9 | (simp only [Int.reduceToNat] at h9; rw [← p0.out] at h9)); have p1 := am (Kd.R_lower (Kd.R_newB (Kd.R_newB (Kd.R_newB (Kd.R_newB (Kd.R_newB (Kd.R_newB h9 (bq a1.out)) (bq a2.out)) (bq a4.out)) (bq a5.out)) (bq a3.out)) (bq a7.out)) (Ae0 (w := w) (g := g) (row := none) (ks HK.out))); replace a0 := bb a0 hb; replace a1 := bb a1 hb; replace a2 := bb a2 hb; replace a4 := bb a4 hb; replace a5 := bb a5 hb; replace a3 := bb a3 hb; replace a7 := bb a7 hb; replace HK := ku HK hb; replace HB := am (Ad9 (hsk HB.out (Aa0.ge b2.out)) hb); replace b2 := Aa0.bl b2 hb; clear hb h9; obtain ⟨p2, p3, rfl⟩ := Kd.R_slice p1.out; obtain ⟨E8, E9⟩ := nn d5; obtain ⟨F0, F1⟩ := nn d7; obtain ⟨F2, F3⟩ := nn d9; obtain ⟨F4, F5⟩ := nn e1; obtain ⟨F6, F7⟩ := nn e3; obtain ⟨F8, F9⟩ := nn d2; have u4 := c0_ a0; have u5 := Aa2 a0.out 0))
        refine bodyPost_ret (results_cell_row rfl _ _ a6 36 #[.slice p2 q8.length p3] (0, 0) _ rfl (by refine bq ?_; refine Ac7 (cs := #[.slice none 0 0]) ?_ 0 _ rfl; refine bq ?_; exact a0.out) Tryz.underlying36 rfl (by kernel_rfl)) rfl ?_
        exact ⟨_, er, rq (Kd.R_mono (Kd.R_far (p := ⟨a6, 0, none⟩) (Kd.R_types p1.out a0.out (by decide)) (fun _ hk => hk.2) (.slice p2 q8.length p3)) (fun _ hk => trivial)), Aa0.q b2.out, hsk HB.out (Aa0.ge b2.out), ks HK.out⟩
       ·rw [if_neg n4] at H
        obtain ⟨q6, q7⟩ := bqf n4
        by_cases n5 : d4 = 6
        ·rw [if_pos n5] at H
         obtain ⟨q9, r0⟩ := bqt n5; clear n5
         obtain ⟨r3, l6⟩ : ∃ y_ : List (S79), y_ = (([(⟨(⟨#[97]⟩ : ByteArray), 0⟩ : S79), (⟨(⟨#[98]⟩ : ByteArray), 0⟩ : S79), (⟨(⟨#[101]⟩ : ByteArray), 0⟩ : S79), (⟨(⟨#[109]⟩ : ByteArray), 2⟩ : S79), (⟨(⟨#[105]⟩ : ByteArray), 1⟩ : S79), (⟨(⟨#[115, 117, 99]⟩ : ByteArray), 1⟩ : S79)] : List (S79))) := ⟨_, rfl⟩
         replace H : (some (r3, g3)) = some (r1, r2) := by first | (rw [l6]; first | with_reducible exact H | with_reducible exact bs H) | with_reducible exact bs H | with_reducible exact H | (rw [l6]; exact H) | exact H
         have p4 := am l6
         clear l6
         simp only [Option.some.injEq, Prod.mk.injEq] at H
         obtain ⟨rfl, rfl⟩ := H
         obtain ⟨G0, G1⟩ := nn b6
         obtain ⟨G2, G3⟩ := nn b8
         obtain ⟨G4, G5⟩ := nn b9
         obtain ⟨G6, G7⟩ := nn c0
         obtain ⟨G8, G9⟩ := nn b7
         obtain ⟨H0, H1⟩ := nn c1
         obtain ⟨H2, H3⟩ := nn d0
         have u6 := c0_ a3
         have u7 := c1_ a3
         have u9 := Aa2 a3.out 0
         have v0 := Aa2 a3.out 1
         obtain ⟨H4, H5⟩ := nn e4
         obtain ⟨H6, H7⟩ := nn e5
         obtain ⟨H8, H9⟩ := nn e6
         obtain ⟨I0, I1⟩ := nn e7
         obtain ⟨I2, I3⟩ := nn h4
         obtain ⟨I4, I5⟩ := nn g2
         have v2 := c0_ a7
         have v3 := c1_ a7
         have v4 := Aa2 a7.out 0
         have v5 := Aa2 a7.out 1
         obtain ⟨I6, I7⟩ := nn d6
         obtain ⟨I8, I9⟩ := nn g4
         obtain ⟨J0, J1⟩ := nn g5
         obtain ⟨J2, J3⟩ := nn g7
         obtain ⟨J4, J5⟩ := nn e8
         have v6 := c0_ a1
         have v7 := c1_ a1
         have v8 := Aa2 a1.out 0
         have v9 := Aa2 a1.out 1
         obtain ⟨J6, J7⟩ := nn e0
         obtain ⟨J8, J9⟩ := nn g6
         obtain ⟨K0, K1⟩ := nn h2
         obtain ⟨K2, K3⟩ := nn g0
         have w2 := c0_ a4
         have w3 := c1_ a4
         have w6 := Aa2 a4.out 0
         have w7 := Aa2 a4.out 1
         obtain ⟨K4, K5⟩ := nn d8
         obtain ⟨K6, K7⟩ := nn g9
         obtain ⟨K8, K9⟩ := nn e9
         have w8 := c0_ a2
         have x0 := c1_ a2
         have x1 := Aa2 a2.out 0
         have x2 := Aa2 a2.out 1
         obtain ⟨L0, L1⟩ := nn e2
         obtain ⟨L2, L3⟩ := nn g1
         have x3 := c0_ a5
         have x4 := c1_ a5
         have x5 := Aa2 a5.out 0
         have x6 := Aa2 a5.out 1
         go_wp2_with (first | ((with_reducible refine An6 (N := 51) rfl ?_); refine Kd.R_lit k79 _ 79 ?hg (N := 51) ?hd (xs := ([(⟨(⟨#[97]⟩ : ByteArray), 0⟩ : S79), (⟨(⟨#[98]⟩ : ByteArray), 0⟩ : S79), (⟨(⟨#[101]⟩ : ByteArray), 0⟩ : S79), (⟨(⟨#[109]⟩ : ByteArray), 2⟩ : S79), (⟨(⟨#[105]⟩ : ByteArray), 1⟩ : S79), (⟨(⟨#[115, 117, 99]⟩ : ByteArray), 1⟩ : S79)] : List (S79))) (inner := [.string (⟨#[97]⟩ : ByteArray), .int .i64 0, .string (⟨#[98]⟩ : ByteArray), .int .i64 0, .string (⟨#[101]⟩ : ByteArray), .int .i64 0, .string (⟨#[109]⟩ : ByteArray), .int .i64 2, .string (⟨#[105]⟩ : ByteArray), .int .i64 1, .string (⟨#[115, 117, 99]⟩ : ByteArray), .int .i64 1]) (ok := fun _ => True) (okp := fun _ => True) ?hr ?hp (fun _ hk => hk) trivial (Below.refl _ _) (Nat.le_refl _) (by simp) ?_; (case hd => rfl); (case hg => rfl); (case hr => first | (go_simp; done) | (go_simp; rfl)); (case hp => exact (Aj9.c2 (show Kd.M k79 _ _ _ (⟨(⟨#[97]⟩ : ByteArray), 0⟩ : S79) [.string (⟨#[97]⟩ : ByteArray), .int .i64 0] from (Am8 _ _ _ (⟨(⟨#[97]⟩ : ByteArray), 0⟩ : S79) )) (Aj9.c2 (show Kd.M k79 _ _ _ (⟨(⟨#[98]⟩ : ByteArray), 0⟩ : S79) [.string (⟨#[98]⟩ : ByteArray), .int .i64 0] from (Am8 _ _ _ (⟨(⟨#[98]⟩ : ByteArray), 0⟩ : S79) )) (Aj9.c2 (show Kd.M k79 _ _ _ (⟨(⟨#[101]⟩ : ByteArray), 0⟩ : S79) [.string (⟨#[101]⟩ : ByteArray), .int .i64 0] from (Am8 _ _ _ (⟨(⟨#[101]⟩ : ByteArray), 0⟩ : S79) )) (Aj9.c2 (show Kd.M k79 _ _ _ (⟨(⟨#[109]⟩ : ByteArray), 2⟩ : S79) [.string (⟨#[109]⟩ : ByteArray), .int .i64 2] from (Am8 _ _ _ (⟨(⟨#[109]⟩ : ByteArray), 2⟩ : S79) )) (Aj9.c2 (show Kd.M k79 _ _ _ (⟨(⟨#[105]⟩ : ByteArray), 1⟩ : S79) [.string (⟨#[105]⟩ : ByteArray), .int .i64 1] from (Am8 _ _ _ (⟨(⟨#[105]⟩ : ByteArray), 1⟩ : S79) )) (Aj9.c2 (show Kd.M k79 _ _ _ (⟨(⟨#[115, 117, 99]⟩ : ByteArray), 1⟩ : S79) [.string (⟨#[115, 117, 99]⟩ : ByteArray), .int .i64 1] from (Am8 _ _ _ (⟨(⟨#[115, 117, 99]⟩ : ByteArray), 1⟩ : S79) )) (Aj9.none _ _)))))))); intro e3z e4z i0 hb o3 hnew_; clear o3 hnew_; (first | rw [← p4.out] at i0 | (simp only [Int.reduceToNat] at i0; rw [← p4.out] at i0)); have p5 := am (Kd.R_lower (Kd.R_newB (Kd.R_newB (Kd.R_newB (Kd.R_newB (Kd.R_newB (Kd.R_newB i0 (bq a1.out)) (bq a2.out)) (bq a4.out)) (bq a5.out)) (bq a3.out)) (bq a7.out)) (Ae0 (w := w) (g := g) (row := none) (ks HK.out))); replace a0 := bb a0 hb; replace a1 := bb a1 hb; replace a2 := bb a2 hb; replace a4 := bb a4 hb; replace a5 := bb a5 hb; replace a3 := bb a3 hb; replace a7 := bb a7 hb; replace HK := ku HK hb; replace HB := am (Ad9 (hsk HB.out (Aa0.ge b2.out)) hb); replace b2 := Aa0.bl b2 hb; clear hb i0; obtain ⟨p6, p7, rfl⟩ := Kd.R_slice p5.out; obtain ⟨L4, L5⟩ := nn d2; have x7 := c0_ a0; have x8 := Aa2 a0.out 0))
         refine bodyPost_ret (results_cell_row rfl _ _ a6 36 #[.slice p6 r3.length p7] (0, 0) _ rfl (by refine bq ?_; refine Ac7 (cs := #[.slice none 0 0]) ?_ 0 _ rfl; refine bq ?_; exact a0.out) Tryz.underlying36 rfl (by kernel_rfl)) rfl ?_
         exact ⟨_, er, rq (Kd.R_mono (Kd.R_far (p := ⟨a6, 0, none⟩) (Kd.R_types p5.out a0.out (by decide)) (fun _ hk => hk.2) (.slice p6 r3.length p7)) (fun _ hk => trivial)), Aa0.q b2.out, hsk HB.out (Aa0.ge b2.out), ks HK.out⟩
        ·rw [if_neg n5] at H
         obtain ⟨q9, r0⟩ := bqf n5
         obtain ⟨r4, l7⟩ : ∃ y_ : List (S79), y_ = (([(⟨(⟨#[97]⟩ : ByteArray), 0⟩ : S79)] : List (S79))) := ⟨_, rfl⟩
         replace H : (some (r4, g3)) = some (r1, r2) := by first | (rw [l7]; first | with_reducible exact H | with_reducible exact bs H) | with_reducible exact bs H | with_reducible exact H | (rw [l7]; exact H) | exact H
         have p8 := am l7
         clear l7
         simp only [Option.some.injEq, Prod.mk.injEq] at H
         obtain ⟨rfl, rfl⟩ := H
         obtain ⟨L6, L7⟩ := nn b6
         obtain ⟨L8, L9⟩ := nn b8
         obtain ⟨M0, M1⟩ := nn b9
         obtain ⟨M2, M3⟩ := nn c0
         obtain ⟨M4, M5⟩ := nn b7
         obtain ⟨M6, M7⟩ := nn c1
         obtain ⟨M8, M9⟩ := nn d0
         have x9 := c0_ a3
         have y0 := c1_ a3
         have y1 := Aa2 a3.out 0
         have y2 := Aa2 a3.out 1
         go_wp2_with (first | ((with_reducible refine An6 (N := 54) rfl ?_); refine Kd.R_lit k79 _ 79 ?hg (N := 54) ?hd (xs := ([(⟨(⟨#[97]⟩ : ByteArray), 0⟩ : S79)] : List (S79))) (inner := [.string (⟨#[97]⟩ : ByteArray), .int .i64 0]) (ok := fun _ => True) (okp := fun _ => True) ?hr ?hp (fun _ hk => hk) trivial (Below.refl _ _) (Nat.le_refl _) (by simp) ?_; (case hd => rfl); (case hg => rfl); (case hr => first | (go_simp; done) | (go_simp; rfl)); (case hp => exact (Aj9.c2 (show Kd.M k79 _ _ _ (⟨(⟨#[97]⟩ : ByteArray), 0⟩ : S79) [.string (⟨#[97]⟩ : ByteArray), .int .i64 0] from (Am8 _ _ _ (⟨(⟨#[97]⟩ : ByteArray), 0⟩ : S79) )) (Aj9.none _ _))); intro e5z e6z i1 hb o3 hnew_; clear o3 hnew_; (first | rw [← p8.out] at i1 | (simp only [Int.reduceToNat] at i1; rw [← p8.out] at i1)); have p9 := am (Kd.R_lower (Kd.R_newB (Kd.R_newB (Kd.R_newB (Kd.R_newB (Kd.R_newB (Kd.R_newB i1 (bq a1.out)) (bq a2.out)) (bq a4.out)) (bq a5.out)) (bq a3.out)) (bq a7.out)) (Ae0 (w := w) (g := g) (row := none) (ks HK.out))); replace a0 := bb a0 hb; replace a1 := bb a1 hb; replace a2 := bb a2 hb; replace a4 := bb a4 hb; replace a5 := bb a5 hb; replace a3 := bb a3 hb; replace a7 := bb a7 hb; replace HK := ku HK hb; replace HB := am (Ad9 (hsk HB.out (Aa0.ge b2.out)) hb); replace b2 := Aa0.bl b2 hb; clear hb i1; obtain ⟨q0, q1, rfl⟩ := Kd.R_slice p9.out; obtain ⟨N0, N1⟩ := nn d5; obtain ⟨N2, N3⟩ := nn d7; obtain ⟨N4, N5⟩ := nn d9; obtain ⟨N6, N7⟩ := nn e1; obtain ⟨N8, N9⟩ := nn e3; obtain ⟨O0, O1⟩ := nn d2; have y3 := c0_ a0; have y4 := Aa2 a0.out 0))
         refine bodyPost_ret (results_cell_row rfl _ _ a6 36 #[.slice q0 r4.length q1] (0, 0) _ rfl (by refine bq ?_; refine Ac7 (cs := #[.slice none 0 0]) ?_ 0 _ rfl; refine bq ?_; exact a0.out) Tryz.underlying36 rfl (by kernel_rfl)) rfl ?_
         exact ⟨_, er, rq (Kd.R_mono (Kd.R_far (p := ⟨a6, 0, none⟩) (Kd.R_types p9.out a0.out (by decide)) (fun _ hk => hk.2) (.slice q0 r4.length q1)) (fun _ hk => trivial)), Aa0.q b2.out, hsk HB.out (Aa0.ge b2.out), ks HK.out⟩
end Go.Proofs.YtgichahebemmiaaGreatDoor.P
