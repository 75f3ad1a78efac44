/- A part of the proof of the law FnTexts. -/
import Derived.Test.YtbdpnkpienpnaaaGreatDoorCFnTexts3
set_option maxHeartbeats 8000000
set_option maxRecDepth 100000
namespace Go.Proofs.YtbdpnkpienpnaaaGreatDoor.P
open Go.RowKit Go.Proofs.YtbdpnkpienpnaaaGreatDoorW.PrintWords Go.Proofs.YtbdpnkpienpnaaaGreatDoorW.PrintLast Go.Proofs.YtbdpnkpienpnaaaGreatDoorW.PrintMore
attribute [local go_sem] max2_int min2_int max_two min_two max_three min_three max_four min_four   -- for this text's walks alone
set_option linter.unusedVariables false
set_option linter.unusedSimpArgs false
mutual
def spec_l2Sig.j0 : Nat → Int → Bool → List Int → Int → ByteArray → Int → ByteArray → Int → ByteArray → Int → ByteArray → Int → ByteArray → Int → ByteArray → Int → Option ((List (S90)) × Int)
 | 0, _, _, _, _, _, _, _, _, _, _, _, _, _, _, _, _ => none
 | k + 1, b4, b5, b3, b2, a0, a1, a2, a3, a4, a5, a8, a9, a6, a7, b0, b1 => if b5 = true then (some ((([(⟨a0, a1⟩ : S90), (⟨a2, a3⟩ : S90), (⟨a4, a5⟩ : S90), (⟨a6, a7⟩ : S90)] : List (S90))), b2)) else (if b4 = 3 then (spec_l2Sig.j1 k b4 (b4 == 3) b3 b2 a0 a1 a2 a3 a4 a5 a8 a9 a6 a7 b0 b1) else (spec_l2Sig.j1 k b4 (b4 == 4) b3 b2 a0 a1 a2 a3 a4 a5 a8 a9 a6 a7 b0 b1))
def spec_l2Sig.j1 : Nat → Int → Bool → List Int → Int → ByteArray → Int → ByteArray → Int → ByteArray → Int → ByteArray → Int → ByteArray → Int → ByteArray → Int → Option ((List (S90)) × Int)
 | 0, _, _, _, _, _, _, _, _, _, _, _, _, _, _, _, _ => none
 | k + 1, b4, b5, b3, a2, a7, a8, a9, b0, b1, b2, a3, a4, a0, a1, a5, a6 => if b5 = true then (some ((([(⟨a0, a1⟩ : S90), (⟨a3, a4⟩ : S90), (⟨(⟨#[97, 100, 100]⟩ : ByteArray), 2⟩ : S90), (⟨a5, a6⟩ : S90)] : List (S90))), a2)) else (if b4 = 5 then (some ((([(⟨a0, a1⟩ : S90), (⟨(⟨#[102]⟩ : ByteArray), 1⟩ : S90), (⟨(⟨#[103]⟩ : ByteArray), 1⟩ : S90)] : List (S90))), a2)) else (if b4 = 6 then (some ((([(⟨a0, a1⟩ : S90), (⟨a5, a6⟩ : S90), (⟨a7, a8⟩ : S90), (⟨b1, b2⟩ : S90), (⟨a9, b0⟩ : S90), (⟨a3, a4⟩ : S90)] : List (S90))), a2)) else (some ((([(⟨a0, a1⟩ : S90)] : List (S90))), a2))))
end
def spec_l2Sig.f (k : Nat) (a1 : List Int) (a2 : Int) : Option ((List (S90)) × Int) := (spec_l1Next.f a1 a2 8).bind fun a0 => (if a0.1 = 0 then (spec_l2Sig.j0 k a0.1 (a0.1 == 0) a1 a0.2 (⟨#[101]⟩ : ByteArray) 0 (⟨#[105]⟩ : ByteArray) 1 (⟨#[109]⟩ : ByteArray) 2 (⟨#[115, 117, 99]⟩ : ByteArray) 1 (⟨#[97]⟩ : ByteArray) 0 (⟨#[98]⟩ : ByteArray) 0) else (if a0.1 = 1 then (spec_l2Sig.j0 k a0.1 (a0.1 == 1) a1 a0.2 (⟨#[101]⟩ : ByteArray) 0 (⟨#[105]⟩ : ByteArray) 1 (⟨#[109]⟩ : ByteArray) 2 (⟨#[115, 117, 99]⟩ : ByteArray) 1 (⟨#[97]⟩ : ByteArray) 0 (⟨#[98]⟩ : ByteArray) 0) else (spec_l2Sig.j0 k a0.1 (a0.1 == 2) a1 a0.2 (⟨#[101]⟩ : ByteArray) 0 (⟨#[105]⟩ : ByteArray) 1 (⟨#[109]⟩ : ByteArray) 2 (⟨#[115, 117, 99]⟩ : ByteArray) 1 (⟨#[97]⟩ : ByteArray) 0 (⟨#[98]⟩ : ByteArray) 0)))
theorem spec_l2Sig.calls (k : Nat) (g : Nat) (b5 : List Int) (d3 : Int) (r1 : List (S90)) (r2 : Int) (w0 w : World) (hI : IsS86 w0 w g b5 d3) (hB : Below w0.heap.size w0 w) (h : spec_l2Sig.f k b5 d3 = some (r1, r2)) :
  Calls Tryz.prog 54 #[.pointer (some ⟨g, 0, none⟩)] w fun e w' => ∃ v0_ : Value, e = .returned (.agg #[v0_]) ∧ Kd.R k90 90 w' w.heap.size (fun _ => True) v0_ r1 ∧ IsS86 w0 w' g b5 r2 ∧ Below w0.heap.size w0 w' ∧ KeepBut w w' g none := by
 have d1z := Tryz.underlying26
 have d2z := Tryz.underlying90
 have b2 := am hI
 have HK := am (KeepBut.refl w g none)
 have HL := am hB.size
 clear hI
 have q4 := am hB.size
 have HB := am hB
 clear hB
 have H : ((spec_l1Next.f b5 d3 8).bind fun d1 => (if d1.1 = 0 then (spec_l2Sig.j0 k d1.1 (d1.1 == 0) b5 d1.2 (⟨#[101]⟩ : ByteArray) 0 (⟨#[105]⟩ : ByteArray) 1 (⟨#[109]⟩ : ByteArray) 2 (⟨#[115, 117, 99]⟩ : ByteArray) 1 (⟨#[97]⟩ : ByteArray) 0 (⟨#[98]⟩ : ByteArray) 0) else (if d1.1 = 1 then (spec_l2Sig.j0 k d1.1 (d1.1 == 1) b5 d1.2 (⟨#[101]⟩ : ByteArray) 0 (⟨#[105]⟩ : ByteArray) 1 (⟨#[109]⟩ : ByteArray) 2 (⟨#[115, 117, 99]⟩ : ByteArray) 1 (⟨#[97]⟩ : ByteArray) 0 (⟨#[98]⟩ : ByteArray) 0) else (spec_l2Sig.j0 k d1.1 (d1.1 == 2) b5 d1.2 (⟨#[101]⟩ : ByteArray) 0 (⟨#[105]⟩ : ByteArray) 1 (⟨#[109]⟩ : ByteArray) 2 (⟨#[115, 117, 99]⟩ : ByteArray) 1 (⟨#[97]⟩ : ByteArray) 0 (⟨#[98]⟩ : ByteArray) 0)))) = some (r1, r2) := h
 clear h
 obtain ⟨⟨e7, g3⟩, A2, H⟩ := ob H
 try dsimp only at H
 have B8 := am H
 clear H
 go_enter Tryz.func54, Tryz.ntmps54
 go_upto_if 17 with (first | (refine bx 2 rfl #[.slice none 0 0] 26 ?_; intro a6 hg w4 hbox hb; replace HB := am (below_step (hsk HB.out (IsS86.ge b2.out)) hb); have a0 := am (hbox); have r9 := am ((by rw [hg]; exact (keep_size (w := w) (g := g) (row := none) (kq HK.out)) : w.heap.size ≤ a6)); replace HK := ku HK hb; have O3 := am (Nat.le_trans q4.out r9.out); have n7 := am ((by rw [hg]; exact Nat.ne_of_lt (IsS86.lt (show IsS86 w0 _ g b5 d3 from IsS86.q b2.out)) : g ≠ a6)); replace b2 := IsS86.bl b2 hb; have d2 := am n7.out.symm; clear hb hbox hg) | (refine bx 3 rfl #[.string (⟨#[]⟩ : ByteArray), .int .i64 0] 90 ?_; intro a8 hg w5 hbox hb; replace HB := am (below_step (hsk HB.out (IsS86.ge b2.out)) hb); have a1 := am (hbox); have s0 := am ((by rw [hg]; exact (keep_size (w := w) (g := g) (row := none) (ks HK.out)) : w.heap.size ≤ a8)); replace HK := ku HK hb; have O4 := am (Nat.le_trans q4.out s0.out); have d4 := nl hg a0; have d9 := ng hg a0; replace a0 := bb a0 hb; have n8 := am ((by rw [hg]; exact Nat.ne_of_lt (IsS86.lt (show IsS86 w0 _ g b5 d3 from IsS86.q b2.out)) : g ≠ a8)); replace b2 := IsS86.bl b2 hb; have e8 := am n8.out.symm; clear hb hbox hg; obtain ⟨c7z, c9z⟩ := nn d9; obtain ⟨c8z, d0z⟩ := nn e8; have n1 := c0_ a1; have n2 := c1_ a1; have n3 := blk_frozen a1.out 0; have n4 := blk_frozen a1.out 1) | (refine bx 4 rfl #[.string (⟨#[]⟩ : ByteArray), .int .i64 0] 90 ?_; intro a9 hg w9 hbox hb; replace HB := am (below_step (hsk HB.out (IsS86.ge b2.out)) hb); have a2 := am (hbox); have s1 := am ((by rw [hg]; exact (keep_size (w := w) (g := g) (row := none) (ks HK.out)) : w.heap.size ≤ a9)); replace HK := ku HK hb; have O5 := am (Nat.le_trans q4.out s1.out); have d5 := am ((by rw [hg]; exact Nat.ne_of_lt (blk_lt (g := a6) (o := .cells #[.slice none 0 0] 26 (0, 0)) (bf a0.out)) : a6 ≠ a9)); have e0 := am ((by rw [hg]; exact Nat.ne_of_gt (blk_lt (g := a6) (o := .cells #[.slice none 0 0] 26 (0, 0)) (bf a0.out)) : a9 ≠ a6)); replace a0 := am (blk_below (g := a6) (o := .cells #[.slice none 0 0] 26 (0, 0)) (bf a0.out) hb); have g4 := am ((by rw [hg]; exact Nat.ne_of_lt (blk_lt (g := a8) (o := .cells #[.string (⟨#[101]⟩ : ByteArray), .int .i64 0] 90 (0, 0)) (by refine bq ?_; refine blk_put (cs := #[.string (⟨#[101]⟩ : ByteArray), .int .i64 0]) ?_ 1 _ rfl; refine bq ?_; refine blk_put (cs := #[.string (⟨#[]⟩ : ByteArray), .int .i64 0]) ?_ 0 _ rfl; refine bq ?_; exact a1.out)) : a8 ≠ a9)); have m0 := am ((by rw [hg]; exact Nat.ne_of_gt (blk_lt (g := a8) (o := .cells #[.string (⟨#[101]⟩ : ByteArray), .int .i64 0] 90 (0, 0)) (by refine bq ?_; refine blk_put (cs := #[.string (⟨#[101]⟩ : ByteArray), .int .i64 0]) ?_ 1 _ rfl; refine bq ?_; refine blk_put (cs := #[.string (⟨#[]⟩ : ByteArray), .int .i64 0]) ?_ 0 _ rfl; refine bq ?_; exact a1.out)) : a9 ≠ a8)); replace a1 := am (blk_below (g := a8) (o := .cells #[.string (⟨#[101]⟩ : ByteArray), .int .i64 0] 90 (0, 0)) (by refine bq ?_; refine blk_put (cs := #[.string (⟨#[101]⟩ : ByteArray), .int .i64 0]) ?_ 1 _ rfl; refine bq ?_; refine blk_put (cs := #[.string (⟨#[]⟩ : ByteArray), .int .i64 0]) ?_ 0 _ rfl; refine bq ?_; exact a1.out) hb); have n9 := am ((by rw [hg]; exact Nat.ne_of_lt (IsS86.lt (show IsS86 w0 _ g b5 d3 from IsS86.q b2.out)) : g ≠ a9)); replace b2 := am (IsS86.below (show IsS86 w0 ((w5.setCell ⟨a8, 0, none⟩ (.string (⟨#[101]⟩ : ByteArray))).setCell ⟨a8, 1, none⟩ (.int .i64 0)) g b5 d3 from IsS86.q b2.out) hb); have e9 := am n9.out.symm; clear hb hbox hg; obtain ⟨P1, W1⟩ := nn e0; obtain ⟨P2, W2⟩ := nn m0; obtain ⟨P3, W3⟩ := nn e9; have i2 := c0_ a2; have i3 := c1_ a2; have j8 := blk_frozen a2.out 0; have j9 := blk_frozen a2.out 1) | (refine bx 5 rfl #[.string (⟨#[]⟩ : ByteArray), .int .i64 0] 90 ?_; intro b0 hg w14 hbox hb; replace HB := am (below_step (hsk HB.out (IsS86.ge b2.out)) hb); have a4 := am (hbox); have s2 := am ((by rw [hg]; exact (keep_size (w := w) (g := g) (row := none) (ks HK.out)) : w.heap.size ≤ b0)); replace HK := ku HK hb; have O6 := am (Nat.le_trans q4.out s2.out); have d6 := am ((by rw [hg]; exact Nat.ne_of_lt (blk_lt (g := a6) (o := .cells #[.slice none 0 0] 26 (0, 0)) (bf a0.out)) : a6 ≠ b0)); have e1 := am ((by rw [hg]; exact Nat.ne_of_gt (blk_lt (g := a6) (o := .cells #[.slice none 0 0] 26 (0, 0)) (bf a0.out)) : b0 ≠ a6)); replace a0 := am (blk_below (g := a6) (o := .cells #[.slice none 0 0] 26 (0, 0)) (bf a0.out) hb); have g5 := am ((by rw [hg]; exact Nat.ne_of_lt (blk_lt (g := a8) (o := .cells #[.string (⟨#[101]⟩ : ByteArray), .int .i64 0] 90 (0, 0)) (bf a1.out)) : a8 ≠ b0)); have m4 := am ((by rw [hg]; exact Nat.ne_of_gt (blk_lt (g := a8) (o := .cells #[.string (⟨#[101]⟩ : ByteArray), .int .i64 0] 90 (0, 0)) (bf a1.out)) : b0 ≠ a8)); replace a1 := am (blk_below (g := a8) (o := .cells #[.string (⟨#[101]⟩ : ByteArray), .int .i64 0] 90 (0, 0)) (bf a1.out) hb); have m1 := am ((by rw [hg]; exact Nat.ne_of_lt (blk_lt (g := a9) (o := .cells #[.string (⟨#[105]⟩ : ByteArray), .int .i64 1] 90 (0, 0)) (by refine bq ?_; refine blk_put (cs := #[.string (⟨#[105]⟩ : ByteArray), .int .i64 0]) ?_ 1 _ rfl; refine bq ?_; refine blk_put (cs := #[.string (⟨#[]⟩ : ByteArray), .int .i64 0]) ?_ 0 _ rfl; refine bq ?_; exact a2.out)) : a9 ≠ b0)); have g8 := am ((by rw [hg]; exact Nat.ne_of_gt (blk_lt (g := a9) (o := .cells #[.string (⟨#[105]⟩ : ByteArray), .int .i64 1] 90 (0, 0)) (by refine bq ?_; refine blk_put (cs := #[.string (⟨#[105]⟩ : ByteArray), .int .i64 0]) ?_ 1 _ rfl; refine bq ?_; refine blk_put (cs := #[.string (⟨#[]⟩ : ByteArray), .int .i64 0]) ?_ 0 _ rfl; refine bq ?_; exact a2.out)) : b0 ≠ a9)); replace a2 := am (blk_below (g := a9) (o := .cells #[.string (⟨#[105]⟩ : ByteArray), .int .i64 1] 90 (0, 0)) (by refine bq ?_; refine blk_put (cs := #[.string (⟨#[105]⟩ : ByteArray), .int .i64 0]) ?_ 1 _ rfl; refine bq ?_; refine blk_put (cs := #[.string (⟨#[]⟩ : ByteArray), .int .i64 0]) ?_ 0 _ rfl; refine bq ?_; exact a2.out) hb); have o0 := am ((by rw [hg]; exact Nat.ne_of_lt (IsS86.lt (show IsS86 w0 _ g b5 d3 from IsS86.q b2.out)) : g ≠ b0)); replace b2 := am (IsS86.below (show IsS86 w0 ((w9.setCell ⟨a9, 0, none⟩ (.string (⟨#[105]⟩ : ByteArray))).setCell ⟨a9, 1, none⟩ (.int .i64 1)) g b5 d3 from IsS86.q b2.out) hb); have g0 := am o0.out.symm; clear hb hbox hg; obtain ⟨P4, W4⟩ := nn e1; obtain ⟨P5, W5⟩ := nn m4; obtain ⟨P6, W6⟩ := nn g8; obtain ⟨P7, W7⟩ := nn g0; have i4 := c0_ a4; have i5 := c1_ a4; have k0 := blk_frozen a4.out 0; have k1 := blk_frozen a4.out 1) | (refine bx 6 rfl #[.string (⟨#[]⟩ : ByteArray), .int .i64 0] 90 ?_; intro b1 hg w20 hbox hb; replace HB := am (below_step (hsk HB.out (IsS86.ge b2.out)) hb); have a5 := am (hbox); have s3 := am ((by rw [hg]; exact (keep_size (w := w) (g := g) (row := none) (ks HK.out)) : w.heap.size ≤ b1)); replace HK := ku HK hb; have O7 := am (Nat.le_trans q4.out s3.out); have d7 := am ((by rw [hg]; exact Nat.ne_of_lt (blk_lt (g := a6) (o := .cells #[.slice none 0 0] 26 (0, 0)) (bf a0.out)) : a6 ≠ b1)); have e2 := am ((by rw [hg]; exact Nat.ne_of_gt (blk_lt (g := a6) (o := .cells #[.slice none 0 0] 26 (0, 0)) (bf a0.out)) : b1 ≠ a6)); replace a0 := am (blk_below (g := a6) (o := .cells #[.slice none 0 0] 26 (0, 0)) (bf a0.out) hb); have g6 := am ((by rw [hg]; exact Nat.ne_of_lt (blk_lt (g := a8) (o := .cells #[.string (⟨#[101]⟩ : ByteArray), .int .i64 0] 90 (0, 0)) (bf a1.out)) : a8 ≠ b1)); have h0 := am ((by rw [hg]; exact Nat.ne_of_gt (blk_lt (g := a8) (o := .cells #[.string (⟨#[101]⟩ : ByteArray), .int .i64 0] 90 (0, 0)) (bf a1.out)) : b1 ≠ a8)); replace a1 := am (blk_below (g := a8) (o := .cells #[.string (⟨#[101]⟩ : ByteArray), .int .i64 0] 90 (0, 0)) (bf a1.out) hb); have g7 := am ((by rw [hg]; exact Nat.ne_of_lt (blk_lt (g := a9) (o := .cells #[.string (⟨#[105]⟩ : ByteArray), .int .i64 1] 90 (0, 0)) (bf a2.out)) : a9 ≠ b1)); have h2 := am ((by rw [hg]; exact Nat.ne_of_gt (blk_lt (g := a9) (o := .cells #[.string (⟨#[105]⟩ : ByteArray), .int .i64 1] 90 (0, 0)) (bf a2.out)) : b1 ≠ a9)); replace a2 := am (blk_below (g := a9) (o := .cells #[.string (⟨#[105]⟩ : ByteArray), .int .i64 1] 90 (0, 0)) (bf a2.out) hb); have g9 := am ((by rw [hg]; exact Nat.ne_of_lt (blk_lt (g := b0) (o := .cells #[.string (⟨#[109]⟩ : ByteArray), .int .i64 2] 90 (0, 0)) (by refine bq ?_; refine blk_put (cs := #[.string (⟨#[109]⟩ : ByteArray), .int .i64 0]) ?_ 1 _ rfl; refine bq ?_; refine blk_put (cs := #[.string (⟨#[]⟩ : ByteArray), .int .i64 0]) ?_ 0 _ rfl; refine bq ?_; exact a4.out)) : b0 ≠ b1)); have h3 := am ((by rw [hg]; exact Nat.ne_of_gt (blk_lt (g := b0) (o := .cells #[.string (⟨#[109]⟩ : ByteArray), .int .i64 2] 90 (0, 0)) (by refine bq ?_; refine blk_put (cs := #[.string (⟨#[109]⟩ : ByteArray), .int .i64 0]) ?_ 1 _ rfl; refine bq ?_; refine blk_put (cs := #[.string (⟨#[]⟩ : ByteArray), .int .i64 0]) ?_ 0 _ rfl; refine bq ?_; exact a4.out)) : b1 ≠ b0)); replace a4 := am (blk_below (g := b0) (o := .cells #[.string (⟨#[109]⟩ : ByteArray), .int .i64 2] 90 (0, 0)) (by refine bq ?_; refine blk_put (cs := #[.string (⟨#[109]⟩ : ByteArray), .int .i64 0]) ?_ 1 _ rfl; refine bq ?_; refine blk_put (cs := #[.string (⟨#[]⟩ : ByteArray), .int .i64 0]) ?_ 0 _ rfl; refine bq ?_; exact a4.out) hb); have o1 := am ((by rw [hg]; exact Nat.ne_of_lt (IsS86.lt (show IsS86 w0 _ g b5 d3 from IsS86.q b2.out)) : g ≠ b1)); replace b2 := am (IsS86.below (show IsS86 w0 ((w14.setCell ⟨b0, 0, none⟩ (.string (⟨#[109]⟩ : ByteArray))).setCell ⟨b0, 1, none⟩ (.int .i64 2)) g b5 d3 from IsS86.q b2.out) hb); have g1 := am o1.out.symm; clear hb hbox hg; obtain ⟨P8, W8⟩ := nn e2; obtain ⟨P9, W9⟩ := nn h0; obtain ⟨Q0, X0⟩ := nn h2; obtain ⟨Q1, X1⟩ := nn h3; obtain ⟨Q2, X2⟩ := nn g1; have i6 := c0_ a5; have i7 := c1_ a5; have k2 := blk_frozen a5.out 0; have k3 := blk_frozen a5.out 1) | (refine bx 7 rfl #[.string (⟨#[]⟩ : ByteArray), .int .i64 0] 90 ?_; intro b3 hg w27 hbox hb; replace HB := am (below_step (hsk HB.out (IsS86.ge b2.out)) hb); have a3 := am (hbox); have s4 := am ((by rw [hg]; exact (keep_size (w := w) (g := g) (row := none) (ks HK.out)) : w.heap.size ≤ b3)); replace HK := ku HK hb; have O8 := am (Nat.le_trans q4.out s4.out); have r6 := am ((by rw [hg]; exact Nat.ne_of_lt (blk_lt (g := a6) (o := .cells #[.slice none 0 0] 26 (0, 0)) (bf a0.out)) : a6 ≠ b3)); have b6 := am ((by rw [hg]; exact Nat.ne_of_gt (blk_lt (g := a6) (o := .cells #[.slice none 0 0] 26 (0, 0)) (bf a0.out)) : b3 ≠ a6)); replace a0 := am (blk_below (g := a6) (o := .cells #[.slice none 0 0] 26 (0, 0)) (bf a0.out) hb); have l8 := am ((by rw [hg]; exact Nat.ne_of_lt (blk_lt (g := a8) (o := .cells #[.string (⟨#[101]⟩ : ByteArray), .int .i64 0] 90 (0, 0)) (bf a1.out)) : a8 ≠ b3)); have b8 := am ((by rw [hg]; exact Nat.ne_of_gt (blk_lt (g := a8) (o := .cells #[.string (⟨#[101]⟩ : ByteArray), .int .i64 0] 90 (0, 0)) (bf a1.out)) : b3 ≠ a8)); replace a1 := am (blk_below (g := a8) (o := .cells #[.string (⟨#[101]⟩ : ByteArray), .int .i64 0] 90 (0, 0)) (bf a1.out) hb); have m2 := am ((by rw [hg]; exact Nat.ne_of_lt (blk_lt (g := a9) (o := .cells #[.string (⟨#[105]⟩ : ByteArray), .int .i64 1] 90 (0, 0)) (bf a2.out)) : a9 ≠ b3)); have b9 := am ((by rw [hg]; exact Nat.ne_of_gt (blk_lt (g := a9) (o := .cells #[.string (⟨#[105]⟩ : ByteArray), .int .i64 1] 90 (0, 0)) (bf a2.out)) : b3 ≠ a9)); replace a2 := am (blk_below (g := a9) (o := .cells #[.string (⟨#[105]⟩ : ByteArray), .int .i64 1] 90 (0, 0)) (bf a2.out) hb); have m5 := am ((by rw [hg]; exact Nat.ne_of_lt (blk_lt (g := b0) (o := .cells #[.string (⟨#[109]⟩ : ByteArray), .int .i64 2] 90 (0, 0)) (bf a4.out)) : b0 ≠ b3)); have c0 := am ((by rw [hg]; exact Nat.ne_of_gt (blk_lt (g := b0) (o := .cells #[.string (⟨#[109]⟩ : ByteArray), .int .i64 2] 90 (0, 0)) (bf a4.out)) : b3 ≠ b0)); replace a4 := am (blk_below (g := b0) (o := .cells #[.string (⟨#[109]⟩ : ByteArray), .int .i64 2] 90 (0, 0)) (bf a4.out) hb); have r7 := am ((by rw [hg]; exact Nat.ne_of_lt (blk_lt (g := b1) (o := .cells #[.string (⟨#[115, 117, 99]⟩ : ByteArray), .int .i64 1] 90 (0, 0)) (by refine bq ?_; refine blk_put (cs := #[.string (⟨#[115, 117, 99]⟩ : ByteArray), .int .i64 0]) ?_ 1 _ rfl; refine bq ?_; refine blk_put (cs := #[.string (⟨#[]⟩ : ByteArray), .int .i64 0]) ?_ 0 _ rfl; refine bq ?_; exact a5.out)) : b1 ≠ b3)); have b7 := am ((by rw [hg]; exact Nat.ne_of_gt (blk_lt (g := b1) (o := .cells #[.string (⟨#[115, 117, 99]⟩ : ByteArray), .int .i64 1] 90 (0, 0)) (by refine bq ?_; refine blk_put (cs := #[.string (⟨#[115, 117, 99]⟩ : ByteArray), .int .i64 0]) ?_ 1 _ rfl; refine bq ?_; refine blk_put (cs := #[.string (⟨#[]⟩ : ByteArray), .int .i64 0]) ?_ 0 _ rfl; refine bq ?_; exact a5.out)) : b3 ≠ b1)); replace a5 := am (blk_below (g := b1) (o := .cells #[.string (⟨#[115, 117, 99]⟩ : ByteArray), .int .i64 1] 90 (0, 0)) (by refine bq ?_; refine blk_put (cs := #[.string (⟨#[115, 117, 99]⟩ : ByteArray), .int .i64 0]) ?_ 1 _ rfl; refine bq ?_; refine blk_put (cs := #[.string (⟨#[]⟩ : ByteArray), .int .i64 0]) ?_ 0 _ rfl; refine bq ?_; exact a5.out) hb); have o2 := am ((by rw [hg]; exact Nat.ne_of_lt (IsS86.lt (show IsS86 w0 _ g b5 d3 from IsS86.q b2.out)) : g ≠ b3)); replace b2 := am (IsS86.below (show IsS86 w0 ((w20.setCell ⟨b1, 0, none⟩ (.string (⟨#[115, 117, 99]⟩ : ByteArray))).setCell ⟨b1, 1, none⟩ (.int .i64 1)) g b5 d3 from IsS86.q b2.out) hb); have d0 := am o2.out.symm; clear hb hbox hg; obtain ⟨Q3, X3⟩ := nn b6; obtain ⟨Q4, X4⟩ := nn b8; obtain ⟨Q5, X5⟩ := nn b9; obtain ⟨Q6, X6⟩ := nn c0; obtain ⟨Q7, X7⟩ := nn b7; obtain ⟨Q8, X8⟩ := nn d0; have i9 := c0_ a3; have j5 := c1_ a3; have k4 := blk_frozen a3.out 0; have k5 := blk_frozen a3.out 1) | (refine bx 8 rfl #[.string (⟨#[]⟩ : ByteArray), .int .i64 0] 90 ?_; intro b4 hg w35 hbox hb; replace HB := am (below_step (hsk HB.out (IsS86.ge b2.out)) hb); have a7 := am (hbox); have s5 := am ((by rw [hg]; exact (keep_size (w := w) (g := g) (row := none) (ks HK.out)) : w.heap.size ≤ b4)); replace HK := ku HK hb; have O9 := am (Nat.le_trans q4.out s5.out); have d8 := am ((by rw [hg]; exact Nat.ne_of_lt (blk_lt (g := a6) (o := .cells #[.slice none 0 0] 26 (0, 0)) (bf a0.out)) : a6 ≠ b4)); have e3 := am ((by rw [hg]; exact Nat.ne_of_gt (blk_lt (g := a6) (o := .cells #[.slice none 0 0] 26 (0, 0)) (bf a0.out)) : b4 ≠ a6)); replace a0 := am (blk_below (g := a6) (o := .cells #[.slice none 0 0] 26 (0, 0)) (bf a0.out) hb); have l9 := am ((by rw [hg]; exact Nat.ne_of_lt (blk_lt (g := a8) (o := .cells #[.string (⟨#[101]⟩ : ByteArray), .int .i64 0] 90 (0, 0)) (bf a1.out)) : a8 ≠ b4)); have e4 := am ((by rw [hg]; exact Nat.ne_of_gt (blk_lt (g := a8) (o := .cells #[.string (⟨#[101]⟩ : ByteArray), .int .i64 0] 90 (0, 0)) (bf a1.out)) : b4 ≠ a8)); replace a1 := am (blk_below (g := a8) (o := .cells #[.string (⟨#[101]⟩ : ByteArray), .int .i64 0] 90 (0, 0)) (bf a1.out) hb); have m3 := am ((by rw [hg]; exact Nat.ne_of_lt (blk_lt (g := a9) (o := .cells #[.string (⟨#[105]⟩ : ByteArray), .int .i64 1] 90 (0, 0)) (bf a2.out)) : a9 ≠ b4)); have e5 := am ((by rw [hg]; exact Nat.ne_of_gt (blk_lt (g := a9) (o := .cells #[.string (⟨#[105]⟩ : ByteArray), .int .i64 1] 90 (0, 0)) (bf a2.out)) : b4 ≠ a9)); replace a2 := am (blk_below (g := a9) (o := .cells #[.string (⟨#[105]⟩ : ByteArray), .int .i64 1] 90 (0, 0)) (bf a2.out) hb); have m6 := am ((by rw [hg]; exact Nat.ne_of_lt (blk_lt (g := b0) (o := .cells #[.string (⟨#[109]⟩ : ByteArray), .int .i64 2] 90 (0, 0)) (bf a4.out)) : b0 ≠ b4)); have e6 := am ((by rw [hg]; exact Nat.ne_of_gt (blk_lt (g := b0) (o := .cells #[.string (⟨#[109]⟩ : ByteArray), .int .i64 2] 90 (0, 0)) (bf a4.out)) : b4 ≠ b0)); replace a4 := am (blk_below (g := b0) (o := .cells #[.string (⟨#[109]⟩ : ByteArray), .int .i64 2] 90 (0, 0)) (bf a4.out) hb); have m7 := am ((by rw [hg]; exact Nat.ne_of_lt (blk_lt (g := b1) (o := .cells #[.string (⟨#[115, 117, 99]⟩ : ByteArray), .int .i64 1] 90 (0, 0)) (bf a5.out)) : b1 ≠ b4)); have h4 := am ((by rw [hg]; exact Nat.ne_of_gt (blk_lt (g := b1) (o := .cells #[.string (⟨#[115, 117, 99]⟩ : ByteArray), .int .i64 1] 90 (0, 0)) (bf a5.out)) : b4 ≠ b1)); replace a5 := am (blk_below (g := b1) (o := .cells #[.string (⟨#[115, 117, 99]⟩ : ByteArray), .int .i64 1] 90 (0, 0)) (bf a5.out) hb); have c1 := am ((by rw [hg]; exact Nat.ne_of_lt (blk_lt (g := b3) (o := .cells #[.string (⟨#[97]⟩ : ByteArray), .int .i64 0] 90 (0, 0)) (by refine bq ?_; refine blk_put (cs := #[.string (⟨#[97]⟩ : ByteArray), .int .i64 0]) ?_ 1 _ rfl; refine bq ?_; refine blk_put (cs := #[.string (⟨#[]⟩ : ByteArray), .int .i64 0]) ?_ 0 _ rfl; refine bq ?_; exact a3.out)) : b3 ≠ b4)); have m8 := am ((by rw [hg]; exact Nat.ne_of_gt (blk_lt (g := b3) (o := .cells #[.string (⟨#[97]⟩ : ByteArray), .int .i64 0] 90 (0, 0)) (by refine bq ?_; refine blk_put (cs := #[.string (⟨#[97]⟩ : ByteArray), .int .i64 0]) ?_ 1 _ rfl; refine bq ?_; refine blk_put (cs := #[.string (⟨#[]⟩ : ByteArray), .int .i64 0]) ?_ 0 _ rfl; refine bq ?_; exact a3.out)) : b4 ≠ b3)); replace a3 := am (blk_below (g := b3) (o := .cells #[.string (⟨#[97]⟩ : ByteArray), .int .i64 0] 90 (0, 0)) (by refine bq ?_; refine blk_put (cs := #[.string (⟨#[97]⟩ : ByteArray), .int .i64 0]) ?_ 1 _ rfl; refine bq ?_; refine blk_put (cs := #[.string (⟨#[]⟩ : ByteArray), .int .i64 0]) ?_ 0 _ rfl; refine bq ?_; exact a3.out) hb); have o3 := am ((by rw [hg]; exact Nat.ne_of_lt (IsS86.lt (show IsS86 w0 _ g b5 d3 from IsS86.q b2.out)) : g ≠ b4)); replace b2 := am (IsS86.below (show IsS86 w0 ((w27.setCell ⟨b3, 0, none⟩ (.string (⟨#[97]⟩ : ByteArray))).setCell ⟨b3, 1, none⟩ (.int .i64 0)) g b5 d3 from IsS86.q b2.out) hb); have g2 := am o3.out.symm; clear hb hbox hg; obtain ⟨Q9, X9⟩ := nn e3; obtain ⟨R0, Y0⟩ := nn e4; obtain ⟨R1, Y1⟩ := nn e5; obtain ⟨R2, Y2⟩ := nn e6; obtain ⟨R3, Y3⟩ := nn h4; obtain ⟨R4, Y4⟩ := nn m8; obtain ⟨R5, Y5⟩ := nn g2; have j6 := c0_ a7; have j7 := c1_ a7; have k6 := blk_frozen a7.out 0; have k7 := blk_frozen a7.out 1) | (refine gl (some 16) Tryz.func56 rfl #[.pointer (some ⟨g, 0, none⟩), .int .i64 8] ?_; refine (spec_l1Next.calls g b5 d3 8 e7 g3 w0 _ (IsS86.q b2.out) (hsk HB.out (IsS86.ge b2.out)) A2.out).mono ?_; rintro e w44 ⟨rfl, hi, hb, hk⟩; refine ⟨_, rfl, ?_⟩; replace a0 := am (KeepBut.blk hk (g' := a6) (o := .cells #[.slice none 0 0] 26 (0, 0)) (bf a0.out) d2.out (by simp)); replace a1 := am (KeepBut.blk hk (g' := a8) (o := .cells #[.string (⟨#[101]⟩ : ByteArray), .int .i64 0] 90 (0, 0)) (bf a1.out) e8.out (by simp)); replace a2 := am (KeepBut.blk hk (g' := a9) (o := .cells #[.string (⟨#[105]⟩ : ByteArray), .int .i64 1] 90 (0, 0)) (bf a2.out) e9.out (by simp)); replace a4 := am (KeepBut.blk hk (g' := b0) (o := .cells #[.string (⟨#[109]⟩ : ByteArray), .int .i64 2] 90 (0, 0)) (bf a4.out) g0.out (by simp)); replace a5 := am (KeepBut.blk hk (g' := b1) (o := .cells #[.string (⟨#[115, 117, 99]⟩ : ByteArray), .int .i64 1] 90 (0, 0)) (bf a5.out) g1.out (by simp)); replace a3 := am (KeepBut.blk hk (g' := b3) (o := .cells #[.string (⟨#[97]⟩ : ByteArray), .int .i64 0] 90 (0, 0)) (bf a3.out) d0.out (by simp)); replace a7 := am (KeepBut.blk hk (g' := b4) (o := .cells #[.string (⟨#[98]⟩ : ByteArray), .int .i64 0] 90 (0, 0)) (by refine bq ?_; refine blk_put (cs := #[.string (⟨#[98]⟩ : ByteArray), .int .i64 0]) ?_ 1 _ rfl; refine bq ?_; refine blk_put (cs := #[.string (⟨#[]⟩ : ByteArray), .int .i64 0]) ?_ 0 _ rfl; refine bq ?_; exact a7.out) g2.out (by simp)); replace HK := kt HK hk; replace HB := am (hb); replace b2 := am (hi); clear hb hk hi))
 (try simp only [Act.put, lsp])
 go_cut [17] (fun v17 wc => ∃ (kq : Nat) (l7 : Bool), v17 = .bool l7 ∧ Aside0 (spec_l2Sig.j0 kq e7 l7 b5 g3 (⟨#[101]⟩ : ByteArray) 0 (⟨#[105]⟩ : ByteArray) 1 (⟨#[109]⟩ : ByteArray) 2 (⟨#[115, 117, 99]⟩ : ByteArray) 1 (⟨#[97]⟩ : ByteArray) 0 (⟨#[98]⟩ : ByteArray) 0 = some (r1, r2)) ∧ Aside0 (kq ≤ k) ∧ Aside0 (wc.heap[a6]? = some (.cells #[(.slice none 0 0)] 26 (0, 0))) ∧ Aside0 (wc.heap[a8]? = some (.cells #[.string (⟨#[101]⟩ : ByteArray), .int .i64 0] 90 (0, 0))) ∧ Aside0 (wc.heap[a9]? = some (.cells #[.string (⟨#[105]⟩ : ByteArray), .int .i64 1] 90 (0, 0))) ∧ Aside0 (wc.heap[b0]? = some (.cells #[.string (⟨#[109]⟩ : ByteArray), .int .i64 2] 90 (0, 0))) ∧ Aside0 (wc.heap[b1]? = some (.cells #[.string (⟨#[115, 117, 99]⟩ : ByteArray), .int .i64 1] 90 (0, 0))) ∧ Aside0 (wc.heap[b3]? = some (.cells #[.string (⟨#[97]⟩ : ByteArray), .int .i64 0] 90 (0, 0))) ∧ Aside0 (wc.heap[b4]? = some (.cells #[.string (⟨#[98]⟩ : ByteArray), .int .i64 0] 90 (0, 0))) ∧ Aside0 (IsS86 w0 wc g b5 g3) ∧ Aside0 (KeepBut w wc g none) ∧ Aside0 (Below w0.heap.size w0 wc))
 case first =>
  have H := B8.out
  clear B8
  by_cases s6 : e7 = 0
  ·rw [if_pos s6] at H
   obtain ⟨h6, s7⟩ := bqt s6; clear s6
   (first | rw [h6] | (simp only [i64_w, i32_w]; rw [h6]) | skip)
   have H' := am H
   clear H
   go_wp2
   go_meet
   case rel => exact ⟨_, ((e7 == 0)), et, H', lo, ⟨bq a0.out⟩, ⟨bq a1.out⟩, ⟨bq a2.out⟩, ⟨bq a4.out⟩, ⟨bq a5.out⟩, ⟨bq a3.out⟩, ⟨bq a7.out⟩, ⟨IsS86.q b2.out⟩, ⟨ks HK.out⟩, ⟨hsk HB.out (IsS86.ge b2.out)⟩⟩
  ·rw [if_neg s6] at H
   obtain ⟨h6, s7⟩ := bqf s6
   (first | rw [h6] | (simp only [i64_w, i32_w]; rw [h6]) | skip)
   by_cases s8 : e7 = 1
   ·rw [if_pos s8] at H
    obtain ⟨s9, t0⟩ := bqt s8; clear s8
    have H' := am H
    clear H
    go_wp2
    go_meet
    case rel => exact ⟨_, ((e7 == 1)), et, H', lo, ⟨bq a0.out⟩, ⟨bq a1.out⟩, ⟨bq a2.out⟩, ⟨bq a4.out⟩, ⟨bq a5.out⟩, ⟨bq a3.out⟩, ⟨bq a7.out⟩, ⟨IsS86.q b2.out⟩, ⟨ks HK.out⟩, ⟨hsk HB.out (IsS86.ge b2.out)⟩⟩
   ·rw [if_neg s8] at H
    obtain ⟨s9, t0⟩ := bqf s8
    have H' := am H
    clear H
    go_wp2
    go_meet
    case rel => exact ⟨_, ((e7 == 2)), et, H', lo, ⟨bq a0.out⟩, ⟨bq a1.out⟩, ⟨bq a2.out⟩, ⟨bq a4.out⟩, ⟨bq a5.out⟩, ⟨bq a3.out⟩, ⟨bq a7.out⟩, ⟨IsS86.q b2.out⟩, ⟨ks HK.out⟩, ⟨hsk HB.out (IsS86.ge b2.out)⟩⟩
 case rest =>
  clear B8
  try clear i2; try clear i3; try clear i4; try clear i5; try clear i6; try clear i7; try clear i9; try clear j5; try clear j6; try clear j7; try clear n1; try clear n2; try clear j8; try clear j9; try clear k0; try clear k1; try clear k2; try clear k3; try clear k4; try clear k5; try clear k6; try clear k7; try clear n3; try clear n4
  obtain ⟨kq, l7, rfl, HA, P0, a0, a1, a2, a4, a5, a3, a7, b2, HK, HB⟩ := hcut
  cases kq with
  | zero => exact absurd HA.out (by simp [spec_l2Sig.j0])
  | succ kj2 =>
   have H := HA.out
   clear HA
   simp only [spec_l2Sig.j0] at H
   by_cases t1 : l7 = true
   ·subst t1
    rw [if_pos rfl] at H
    obtain ⟨q9, k8⟩ : ∃ y_ : List (S90), y_ = (([(⟨(⟨#[101]⟩ : ByteArray), 0⟩ : S90), (⟨(⟨#[105]⟩ : ByteArray), 1⟩ : S90), (⟨(⟨#[109]⟩ : ByteArray), 2⟩ : S90), (⟨(⟨#[97]⟩ : ByteArray), 0⟩ : S90)] : List (S90))) := ⟨_, rfl⟩
    replace H : (some (q9, g3)) = some (r1, r2) := by first | (rw [k8]; first | with_reducible exact H | with_reducible exact bs H) | with_reducible exact bs H | with_reducible exact H | (rw [k8]; exact H) | exact H
    have p4 := am k8
    clear k8
    simp only [Option.some.injEq, Prod.mk.injEq] at H
    obtain ⟨rfl, rfl⟩ := H
    obtain ⟨R6, Y6⟩ := nn d9
    obtain ⟨R7, Y7⟩ := nn g4
    obtain ⟨R8, Y8⟩ := nn g5
    obtain ⟨R9, Y9⟩ := nn g6
    obtain ⟨S0, Z0⟩ := nn l8
    obtain ⟨S1, Z1⟩ := nn l9
    obtain ⟨S3, Z2⟩ := nn e8
    have y6 := c0_ a1
    have y7 := c1_ a1
    have z9 := blk_frozen a1.out 0
    have A0 := blk_frozen a1.out 1
    obtain ⟨S4, Z3⟩ := nn e0
    obtain ⟨S5, Z4⟩ := nn m1
    obtain ⟨S6, Z5⟩ := nn g7
    obtain ⟨S7, Z6⟩ := nn m2
    obtain ⟨S8, Z7⟩ := nn m3
    obtain ⟨S9, Z8⟩ := nn e9
    have y8 := c0_ a2
    have y9 := c1_ a2
    have A1 := blk_frozen a2.out 0
    have A3 := blk_frozen a2.out 1
    obtain ⟨T0, Z9⟩ := nn e1
    obtain ⟨T4, a0z⟩ := nn g9
    obtain ⟨T5, a1z⟩ := nn m5
    obtain ⟨T8, a2z⟩ := nn m6
    obtain ⟨T9, a3z⟩ := nn g0
    have z0 := c0_ a4
    have z1 := c1_ a4
    have A4 := blk_frozen a4.out 0
    have A5 := blk_frozen a4.out 1
    obtain ⟨U0, a4z⟩ := nn b6
    obtain ⟨U1, a5z⟩ := nn b7
    obtain ⟨U2, a6z⟩ := nn c1
    obtain ⟨U3, a7z⟩ := nn d0
    have z2 := c0_ a3
    have z3 := c1_ a3
    have A6 := blk_frozen a3.out 0
    have A7 := blk_frozen a3.out 1
    go_wp2_with (first | ((with_reducible refine gate_dst (N := 25) rfl ?_); refine Kd.R_lit k90 _ 90 ?hg (N := 25) ?hd (xs := ([(⟨(⟨#[101]⟩ : ByteArray), 0⟩ : S90), (⟨(⟨#[105]⟩ : ByteArray), 1⟩ : S90), (⟨(⟨#[109]⟩ : ByteArray), 2⟩ : S90), (⟨(⟨#[97]⟩ : ByteArray), 0⟩ : S90)] : List (S90))) (inner := [.string (⟨#[101]⟩ : ByteArray), .int .i64 0, .string (⟨#[105]⟩ : ByteArray), .int .i64 1, .string (⟨#[109]⟩ : ByteArray), .int .i64 2, .string (⟨#[97]⟩ : ByteArray), .int .i64 0]) (ok := fun _ => True) (okp := fun _ => True) ?hr ?hp (fun _ hk => hk) trivial (Below.refl _ _) (Nat.le_refl _) (by simp) ?_; (case hd => rfl); (case hg => rfl); (case hr => first | (go_simp; done) | (go_simp; rfl)); (case hp => exact (Reps.c2 (show Kd.M k90 _ _ _ (⟨(⟨#[101]⟩ : ByteArray), 0⟩ : S90) [.string (⟨#[101]⟩ : ByteArray), .int .i64 0] from (k90_mkM _ _ _ (⟨(⟨#[101]⟩ : ByteArray), 0⟩ : S90) )) (Reps.c2 (show Kd.M k90 _ _ _ (⟨(⟨#[105]⟩ : ByteArray), 1⟩ : S90) [.string (⟨#[105]⟩ : ByteArray), .int .i64 1] from (k90_mkM _ _ _ (⟨(⟨#[105]⟩ : ByteArray), 1⟩ : S90) )) (Reps.c2 (show Kd.M k90 _ _ _ (⟨(⟨#[109]⟩ : ByteArray), 2⟩ : S90) [.string (⟨#[109]⟩ : ByteArray), .int .i64 2] from (k90_mkM _ _ _ (⟨(⟨#[109]⟩ : ByteArray), 2⟩ : S90) )) (Reps.c2 (show Kd.M k90 _ _ _ (⟨(⟨#[97]⟩ : ByteArray), 0⟩ : S90) [.string (⟨#[97]⟩ : ByteArray), .int .i64 0] from (k90_mkM _ _ _ (⟨(⟨#[97]⟩ : ByteArray), 0⟩ : S90) )) (Reps.none _ _)))))); intro d6z w74 n6 hb o4 hnew_; clear o4 hnew_; (first | rw [← p4.out] at n6 | (simp only [Int.reduceToNat] at n6; rw [← p4.out] at n6)); have o9 := am (Kd.R_lower (Kd.R_newB (Kd.R_newB (Kd.R_newB (Kd.R_newB (Kd.R_newB (Kd.R_newB n6 (bq a1.out)) (bq a2.out)) (bq a4.out)) (bq a5.out)) (bq a3.out)) (bq a7.out)) (keep_size (w := w) (g := g) (row := none) (ks HK.out))); replace a0 := bb a0 hb; replace a1 := bb a1 hb; replace a2 := bb a2 hb; replace a4 := bb a4 hb; replace a5 := bb a5 hb; replace a3 := bb a3 hb; replace a7 := bb a7 hb; replace HK := ku HK hb; replace HB := am (below_step (hsk HB.out (IsS86.ge b2.out)) hb); replace b2 := IsS86.bl b2 hb; clear hb n6; obtain ⟨r8, t4, rfl⟩ := Kd.R_slice o9.out; obtain ⟨U4, a8z⟩ := nn d7; obtain ⟨U5, a9z⟩ := nn d8; obtain ⟨U6, b0z⟩ := nn d2; have z4 := c0_ a0; have A8 := blk_frozen a0.out 0))
    refine bodyPost_ret (results_cell_row rfl _ _ a6 26 #[.slice r8 q9.length t4] (0, 0) _ rfl (by refine bq ?_; refine blk_put (cs := #[.slice none 0 0]) ?_ 0 _ rfl; refine bq ?_; exact a0.out) Tryz.underlying26 rfl (by kernel_rfl)) rfl ?_
    exact ⟨_, er, rq (Kd.R_mono (Kd.R_far (p := ⟨a6, 0, none⟩) (Kd.R_types o9.out a0.out (by decide)) (fun _ hk => hk.2) (.slice r8 q9.length t4)) (fun _ hk => trivial)), IsS86.q b2.out, hsk HB.out (IsS86.ge b2.out), ks HK.out⟩
   ·replace t1 := Bool.eq_false_iff.mpr t1
    subst t1
    rw [if_neg (show ¬ (false = true) by decide)] at H
    have q3 := am H
    clear H
    go_upto_if 27 with (fail)
    go_cut [27] (fun v27 wc => ∃ (kq : Nat) (h5 : Bool), v27 = .bool h5 ∧ Aside0 (spec_l2Sig.j1 kq e7 h5 b5 g3 (⟨#[101]⟩ : ByteArray) 0 (⟨#[105]⟩ : ByteArray) 1 (⟨#[109]⟩ : ByteArray) 2 (⟨#[115, 117, 99]⟩ : ByteArray) 1 (⟨#[97]⟩ : ByteArray) 0 (⟨#[98]⟩ : ByteArray) 0 = some (r1, r2)) ∧ Aside0 (kq ≤ kj2) ∧ Aside0 (wc.heap[a6]? = some (.cells #[(.slice none 0 0)] 26 (0, 0))) ∧ Aside0 (wc.heap[a8]? = some (.cells #[.string (⟨#[101]⟩ : ByteArray), .int .i64 0] 90 (0, 0))) ∧ Aside0 (wc.heap[a9]? = some (.cells #[.string (⟨#[105]⟩ : ByteArray), .int .i64 1] 90 (0, 0))) ∧ Aside0 (wc.heap[b0]? = some (.cells #[.string (⟨#[109]⟩ : ByteArray), .int .i64 2] 90 (0, 0))) ∧ Aside0 (wc.heap[b1]? = some (.cells #[.string (⟨#[115, 117, 99]⟩ : ByteArray), .int .i64 1] 90 (0, 0))) ∧ Aside0 (wc.heap[b3]? = some (.cells #[.string (⟨#[97]⟩ : ByteArray), .int .i64 0] 90 (0, 0))) ∧ Aside0 (wc.heap[b4]? = some (.cells #[.string (⟨#[98]⟩ : ByteArray), .int .i64 0] 90 (0, 0))) ∧ Aside0 (IsS86 w0 wc g b5 g3) ∧ Aside0 (KeepBut w wc g none) ∧ Aside0 (Below w0.heap.size w0 wc))
    case first =>
     have H := q3.out
     clear q3
     by_cases t2 : e7 = 3
     ·rw [if_pos t2] at H
      obtain ⟨h7, t3⟩ := bqt t2; clear t2
      (first | rw [h7] | (simp only [i64_w, i32_w]; rw [h7]) | skip)
      have H' := am H
      clear H
      go_wp2
      go_meet
      case rel => exact ⟨_, ((e7 == 3)), et, H', ⟨by have := P0.out; first | omega | exact Nat.le_refl _⟩, ⟨bq a0.out⟩, ⟨bq a1.out⟩, ⟨bq a2.out⟩, ⟨bq a4.out⟩, ⟨bq a5.out⟩, ⟨bq a3.out⟩, ⟨bq a7.out⟩, ⟨IsS86.q b2.out⟩, ⟨ks HK.out⟩, ⟨hsk HB.out (IsS86.ge b2.out)⟩⟩
     ·rw [if_neg t2] at H
      obtain ⟨h7, t3⟩ := bqf t2
      (first | rw [h7] | (simp only [i64_w, i32_w]; rw [h7]) | skip)
      have H' := am H
      clear H
      go_wp2
      go_meet
      case rel => exact ⟨_, ((e7 == 4)), et, H', ⟨by have := P0.out; first | omega | exact Nat.le_refl _⟩, ⟨bq a0.out⟩, ⟨bq a1.out⟩, ⟨bq a2.out⟩, ⟨bq a4.out⟩, ⟨bq a5.out⟩, ⟨bq a3.out⟩, ⟨bq a7.out⟩, ⟨IsS86.q b2.out⟩, ⟨ks HK.out⟩, ⟨hsk HB.out (IsS86.ge b2.out)⟩⟩
    case rest =>
     clear q3
     try clear t1; try clear i2; try clear i3; try clear i4; try clear i5; try clear i6; try clear i7; try clear i9; try clear j5; try clear j6; try clear j7; try clear n1; try clear n2; try clear j8; try clear j9; try clear k0; try clear k1; try clear k2; try clear k3; try clear k4; try clear k5; try clear k6; try clear k7; try clear n3; try clear n4
     obtain ⟨kq, h5, rfl, HA, c6z, a0, a1, a2, a4, a5, a3, a7, b2, HK, HB⟩ := hcut
     cases kq with
     | zero => exact absurd HA.out (by simp [spec_l2Sig.j1])
     | succ d4z =>
      have H := HA.out
      clear HA
      simp only [spec_l2Sig.j1] at H
      by_cases y5 : h5 = true
      ·subst y5
       rw [if_pos rfl] at H
       obtain ⟨r0, k9⟩ : ∃ y_ : List (S90), y_ = (([(⟨(⟨#[97]⟩ : ByteArray), 0⟩ : S90), (⟨(⟨#[115, 117, 99]⟩ : ByteArray), 1⟩ : S90), (⟨(⟨#[97, 100, 100]⟩ : ByteArray), 2⟩ : S90), (⟨(⟨#[98]⟩ : ByteArray), 0⟩ : S90)] : List (S90))) := ⟨_, rfl⟩
       replace H : (some (r0, g3)) = some (r1, r2) := by first | (rw [k9]; first | with_reducible exact H | with_reducible exact bs H) | with_reducible exact bs H | with_reducible exact H | (rw [k9]; exact H) | exact H
       have p5 := am k9
       clear k9
       simp only [Option.some.injEq, Prod.mk.injEq] at H
       obtain ⟨rfl, rfl⟩ := H
       obtain ⟨U7, b1z⟩ := nn b6
       obtain ⟨U8, b2z⟩ := nn b8
       obtain ⟨U9, b3z⟩ := nn b9
       obtain ⟨V0, b4z⟩ := nn c0
       obtain ⟨V1, b5z⟩ := nn b7
       obtain ⟨V2, b6z⟩ := nn c1
       obtain ⟨V3, b7z⟩ := nn d0
       have z5 := c0_ a3
       have z6 := c1_ a3
       have A9 := blk_frozen a3.out 0
       have B0 := blk_frozen a3.out 1
       obtain ⟨V4, b8z⟩ := nn e2
       obtain ⟨V5, b9z⟩ := nn h0
       obtain ⟨V6, c0z⟩ := nn h2
       obtain ⟨V7, c1z⟩ := nn h3
       obtain ⟨V8, c2z⟩ := nn m7
       obtain ⟨V9, c3z⟩ := nn g1
       have z7 := c0_ a5
       have z8 := c1_ a5
       have B4 := blk_frozen a5.out 0
       have B5 := blk_frozen a5.out 1
       obtain ⟨W0, c4z⟩ := nn e3
       obtain ⟨B9, I1⟩ := nn e4
       obtain ⟨C0, I2⟩ := nn e5
       obtain ⟨C1, I3⟩ := nn e6
       obtain ⟨C2, I4⟩ := nn g2
       have t5 := c0_ a7
       have t6 := c1_ a7
       have v8 := blk_frozen a7.out 0
       have v9 := blk_frozen a7.out 1
       go_wp2_with (first | ((with_reducible refine gate_dst (N := 34) rfl ?_); refine Kd.R_lit k90 _ 90 ?hg (N := 34) ?hd (xs := ([(⟨(⟨#[97]⟩ : ByteArray), 0⟩ : S90), (⟨(⟨#[115, 117, 99]⟩ : ByteArray), 1⟩ : S90), (⟨(⟨#[97, 100, 100]⟩ : ByteArray), 2⟩ : S90), (⟨(⟨#[98]⟩ : ByteArray), 0⟩ : S90)] : List (S90))) (inner := [.string (⟨#[97]⟩ : ByteArray), .int .i64 0, .string (⟨#[115, 117, 99]⟩ : ByteArray), .int .i64 1, .string (⟨#[97, 100, 100]⟩ : ByteArray), .int .i64 2, .string (⟨#[98]⟩ : ByteArray), .int .i64 0]) (ok := fun _ => True) (okp := fun _ => True) ?hr ?hp (fun _ hk => hk) trivial (Below.refl _ _) (Nat.le_refl _) (by simp) ?_; (case hd => rfl); (case hg => rfl); (case hr => first | (go_simp; done) | (go_simp; rfl)); (case hp => exact (Reps.c2 (show Kd.M k90 _ _ _ (⟨(⟨#[97]⟩ : ByteArray), 0⟩ : S90) [.string (⟨#[97]⟩ : ByteArray), .int .i64 0] from (k90_mkM _ _ _ (⟨(⟨#[97]⟩ : ByteArray), 0⟩ : S90) )) (Reps.c2 (show Kd.M k90 _ _ _ (⟨(⟨#[115, 117, 99]⟩ : ByteArray), 1⟩ : S90) [.string (⟨#[115, 117, 99]⟩ : ByteArray), .int .i64 1] from (k90_mkM _ _ _ (⟨(⟨#[115, 117, 99]⟩ : ByteArray), 1⟩ : S90) )) (Reps.c2 (show Kd.M k90 _ _ _ (⟨(⟨#[97, 100, 100]⟩ : ByteArray), 2⟩ : S90) [.string (⟨#[97, 100, 100]⟩ : ByteArray), .int .i64 2] from (k90_mkM _ _ _ (⟨(⟨#[97, 100, 100]⟩ : ByteArray), 2⟩ : S90) )) (Reps.c2 (show Kd.M k90 _ _ _ (⟨(⟨#[98]⟩ : ByteArray), 0⟩ : S90) [.string (⟨#[98]⟩ : ByteArray), .int .i64 0] from (k90_mkM _ _ _ (⟨(⟨#[98]⟩ : ByteArray), 0⟩ : S90) )) (Reps.none _ _)))))); intro d7z e2z h8 hb o4 hnew_; clear o4 hnew_; (first | rw [← p5.out] at h8 | (simp only [Int.reduceToNat] at h8; rw [← p5.out] at h8)); have p0 := am (Kd.R_lower (Kd.R_newB (Kd.R_newB (Kd.R_newB (Kd.R_newB (Kd.R_newB (Kd.R_newB h8 (bq a1.out)) (bq a2.out)) (bq a4.out)) (bq a5.out)) (bq a3.out)) (bq a7.out)) (keep_size (w := w) (g := g) (row := none) (ks HK.out))); replace a0 := bb a0 hb; replace a1 := bb a1 hb; replace a2 := bb a2 hb; replace a4 := bb a4 hb; replace a5 := bb a5 hb; replace a3 := bb a3 hb; replace a7 := bb a7 hb; replace HK := ku HK hb; replace HB := am (below_step (hsk HB.out (IsS86.ge b2.out)) hb); replace b2 := IsS86.bl b2 hb; clear hb h8; obtain ⟨o5, p9, rfl⟩ := Kd.R_slice p0.out; obtain ⟨C3, I5⟩ := nn d4; obtain ⟨C4, I6⟩ := nn d5; obtain ⟨C5, I7⟩ := nn d6; obtain ⟨C6, I8⟩ := nn d2; have t7 := c0_ a0; have w2 := blk_frozen a0.out 0))
       refine bodyPost_ret (results_cell_row rfl _ _ a6 26 #[.slice o5 r0.length p9] (0, 0) _ rfl (by refine bq ?_; refine blk_put (cs := #[.slice none 0 0]) ?_ 0 _ rfl; refine bq ?_; exact a0.out) Tryz.underlying26 rfl (by kernel_rfl)) rfl ?_
       exact ⟨_, er, rq (Kd.R_mono (Kd.R_far (p := ⟨a6, 0, none⟩) (Kd.R_types p0.out a0.out (by decide)) (fun _ hk => hk.2) (.slice o5 r0.length p9)) (fun _ hk => trivial)), IsS86.q b2.out, hsk HB.out (IsS86.ge b2.out), ks HK.out⟩
      ·replace y5 := Bool.eq_false_iff.mpr y5
       subst y5
       rw [if_neg (show ¬ (false = true) by decide)] at H
       by_cases m9 : e7 = 5
       ·rw [if_pos m9] at H
        obtain ⟨q5, q6⟩ := bqt m9; clear m9
        obtain ⟨r3, l4⟩ : ∃ y_ : List (S90), y_ = (([(⟨(⟨#[97]⟩ : ByteArray), 0⟩ : S90), (⟨(⟨#[102]⟩ : ByteArray), 1⟩ : S90), (⟨(⟨#[103]⟩ : ByteArray), 1⟩ : S90)] : List (S90))) := ⟨_, rfl⟩
        replace H : (some (r3, g3)) = some (r1, r2) := by first | (rw [l4]; first | with_reducible exact H | with_reducible exact bs H) | with_reducible exact bs H | with_reducible exact H | (rw [l4]; exact H) | exact H
        have p6 := am l4
        clear l4
        simp only [Option.some.injEq, Prod.mk.injEq] at H
        obtain ⟨rfl, rfl⟩ := H
        obtain ⟨C7, I9⟩ := nn b6
        obtain ⟨C8, J0⟩ := nn b8
        obtain ⟨C9, J1⟩ := nn b9
        obtain ⟨D0, J2⟩ := nn c0
        obtain ⟨D1, J3⟩ := nn b7
        obtain ⟨D2, J4⟩ := nn c1
        obtain ⟨D3, J5⟩ := nn d0
        have t8 := c0_ a3
        have t9 := c1_ a3
        have w3 := blk_frozen a3.out 0
        have w6 := blk_frozen a3.out 1
        go_wp2_with (first | ((with_reducible refine gate_dst (N := 41) rfl ?_); refine Kd.R_lit k90 _ 90 ?hg (N := 41) ?hd (xs := ([(⟨(⟨#[97]⟩ : ByteArray), 0⟩ : S90), (⟨(⟨#[102]⟩ : ByteArray), 1⟩ : S90), (⟨(⟨#[103]⟩ : ByteArray), 1⟩ : S90)] : List (S90))) (inner := [.string (⟨#[97]⟩ : ByteArray), .int .i64 0, .string (⟨#[102]⟩ : ByteArray), .int .i64 1, .string (⟨#[103]⟩ : ByteArray), .int .i64 1]) (ok := fun _ => True) (okp := fun _ => True) ?hr ?hp (fun _ hk => hk) trivial (Below.refl _ _) (Nat.le_refl _) (by simp) ?_; (case hd => rfl); (case hg => rfl); (case hr => first | (go_simp; done) | (go_simp; rfl)); (case hp => exact (Reps.c2 (show Kd.M k90 _ _ _ (⟨(⟨#[97]⟩ : ByteArray), 0⟩ : S90) [.string (⟨#[97]⟩ : ByteArray), .int .i64 0] from (k90_mkM _ _ _ (⟨(⟨#[97]⟩ : ByteArray), 0⟩ : S90) )) (Reps.c2 (show Kd.M k90 _ _ _ (⟨(⟨#[102]⟩ : ByteArray), 1⟩ : S90) [.string (⟨#[102]⟩ : ByteArray), .int .i64 1] from (k90_mkM _ _ _ (⟨(⟨#[102]⟩ : ByteArray), 1⟩ : S90) )) (Reps.c2 (show Kd.M k90 _ _ _ (⟨(⟨#[103]⟩ : ByteArray), 1⟩ : S90) [.string (⟨#[103]⟩ : ByteArray), .int .i64 1] from (k90_mkM _ _ _ (⟨(⟨#[103]⟩ : ByteArray), 1⟩ : S90) )) (Reps.none _ _))))); intro d8z e3z h9 hb o4 hnew_; clear o4 hnew_; (first | rw [← p6.out] at h9 | (simp only [Int.reduceToNat] at h9; rw [← p6.out] at h9)); have p1 := am (Kd.R_lower (Kd.R_newB (Kd.R_newB (Kd.R_newB (Kd.R_newB (Kd.R_newB (Kd.R_newB h9 (bq a1.out)) (bq a2.out)) (bq a4.out)) (bq a5.out)) (bq a3.out)) (bq a7.out)) (keep_size (w := w) (g := g) (row := none) (ks HK.out))); replace a0 := bb a0 hb; replace a1 := bb a1 hb; replace a2 := bb a2 hb; replace a4 := bb a4 hb; replace a5 := bb a5 hb; replace a3 := bb a3 hb; replace a7 := bb a7 hb; replace HK := ku HK hb; replace HB := am (below_step (hsk HB.out (IsS86.ge b2.out)) hb); replace b2 := IsS86.bl b2 hb; clear hb h9; obtain ⟨o6, q0, rfl⟩ := Kd.R_slice p1.out; obtain ⟨D4, J6⟩ := nn d4; obtain ⟨D5, J7⟩ := nn d5; obtain ⟨D6, J8⟩ := nn d6; obtain ⟨D7, J9⟩ := nn d7; obtain ⟨D8, K0⟩ := nn d8; obtain ⟨D9, K1⟩ := nn d2; have u0 := c0_ a0; have w7 := blk_frozen a0.out 0))
        refine bodyPost_ret (results_cell_row rfl _ _ a6 26 #[.slice o6 r3.length q0] (0, 0) _ rfl (by refine bq ?_; refine blk_put (cs := #[.slice none 0 0]) ?_ 0 _ rfl; refine bq ?_; exact a0.out) Tryz.underlying26 rfl (by kernel_rfl)) rfl ?_
        exact ⟨_, er, rq (Kd.R_mono (Kd.R_far (p := ⟨a6, 0, none⟩) (Kd.R_types p1.out a0.out (by decide)) (fun _ hk => hk.2) (.slice o6 r3.length q0)) (fun _ hk => trivial)), IsS86.q b2.out, hsk HB.out (IsS86.ge b2.out), ks HK.out⟩
       ·rw [if_neg m9] at H
        obtain ⟨q5, q6⟩ := bqf m9
        by_cases n0 : e7 = 6
        ·rw [if_pos n0] at H
         obtain ⟨q7, q8⟩ := bqt n0; clear n0
         obtain ⟨r4, l5⟩ : ∃ y_ : List (S90), y_ = (([(⟨(⟨#[97]⟩ : ByteArray), 0⟩ : S90), (⟨(⟨#[98]⟩ : ByteArray), 0⟩ : S90), (⟨(⟨#[101]⟩ : ByteArray), 0⟩ : S90), (⟨(⟨#[109]⟩ : ByteArray), 2⟩ : S90), (⟨(⟨#[105]⟩ : ByteArray), 1⟩ : S90), (⟨(⟨#[115, 117, 99]⟩ : ByteArray), 1⟩ : S90)] : List (S90))) := ⟨_, rfl⟩
         replace H : (some (r4, g3)) = some (r1, r2) := by first | (rw [l5]; first | with_reducible exact H | with_reducible exact bs H) | with_reducible exact bs H | with_reducible exact H | (rw [l5]; exact H) | exact H
         have p7 := am l5
         clear l5
         simp only [Option.some.injEq, Prod.mk.injEq] at H
         obtain ⟨rfl, rfl⟩ := H
         obtain ⟨E0, K2⟩ := nn b6
         obtain ⟨E1, K3⟩ := nn b8
         obtain ⟨E2, K4⟩ := nn b9
         obtain ⟨E3, K5⟩ := nn c0
         obtain ⟨E4, K6⟩ := nn b7
         obtain ⟨E5, K7⟩ := nn c1
         obtain ⟨E6, K8⟩ := nn d0
         have u1 := c0_ a3
         have u2 := c1_ a3
         have w8 := blk_frozen a3.out 0
         have x0 := blk_frozen a3.out 1
         obtain ⟨E7, K9⟩ := nn e3
         obtain ⟨E8, L0⟩ := nn e4
         obtain ⟨E9, L1⟩ := nn e5
         obtain ⟨F0, L2⟩ := nn e6
         obtain ⟨F1, L3⟩ := nn h4
         obtain ⟨F2, L4⟩ := nn g2
         have u3 := c0_ a7
         have u4 := c1_ a7
         have x1 := blk_frozen a7.out 0
         have x2 := blk_frozen a7.out 1
         obtain ⟨F3, L5⟩ := nn d9
         obtain ⟨F4, L6⟩ := nn g4
         obtain ⟨F5, L7⟩ := nn g5
         obtain ⟨F6, L8⟩ := nn g6
         obtain ⟨F7, L9⟩ := nn e8
         have u5 := c0_ a1
         have u6 := c1_ a1
         have x3 := blk_frozen a1.out 0
         have x4 := blk_frozen a1.out 1
         obtain ⟨F8, M0⟩ := nn e1
         obtain ⟨F9, M1⟩ := nn g8
         obtain ⟨G0, M2⟩ := nn g9
         obtain ⟨G1, M3⟩ := nn g0
         have u7 := c0_ a4
         have u9 := c1_ a4
         have x5 := blk_frozen a4.out 0
         have x6 := blk_frozen a4.out 1
         obtain ⟨G2, M4⟩ := nn e0
         obtain ⟨G3, M5⟩ := nn g7
         obtain ⟨G4, M6⟩ := nn e9
         have v0 := c0_ a2
         have v1 := c1_ a2
         have x7 := blk_frozen a2.out 0
         have x8 := blk_frozen a2.out 1
         obtain ⟨G5, M7⟩ := nn e2
         obtain ⟨G6, M8⟩ := nn g1
         have v2 := c0_ a5
         have v3 := c1_ a5
         have x9 := blk_frozen a5.out 0
         have y0 := blk_frozen a5.out 1
         go_wp2_with (first | ((with_reducible refine gate_dst (N := 51) rfl ?_); refine Kd.R_lit k90 _ 90 ?hg (N := 51) ?hd (xs := ([(⟨(⟨#[97]⟩ : ByteArray), 0⟩ : S90), (⟨(⟨#[98]⟩ : ByteArray), 0⟩ : S90), (⟨(⟨#[101]⟩ : ByteArray), 0⟩ : S90), (⟨(⟨#[109]⟩ : ByteArray), 2⟩ : S90), (⟨(⟨#[105]⟩ : ByteArray), 1⟩ : S90), (⟨(⟨#[115, 117, 99]⟩ : ByteArray), 1⟩ : S90)] : List (S90))) (inner := [.string (⟨#[97]⟩ : ByteArray), .int .i64 0, .string (⟨#[98]⟩ : ByteArray), .int .i64 0, .string (⟨#[101]⟩ : ByteArray), .int .i64 0, .string (⟨#[109]⟩ : ByteArray), .int .i64 2, .string (⟨#[105]⟩ : ByteArray), .int .i64 1, .string (⟨#[115, 117, 99]⟩ : ByteArray), .int .i64 1]) (ok := fun _ => True) (okp := fun _ => True) ?hr ?hp (fun _ hk => hk) trivial (Below.refl _ _) (Nat.le_refl _) (by simp) ?_; (case hd => rfl); (case hg => rfl); (case hr => first | (go_simp; done) | (go_simp; rfl)); (case hp => exact (Reps.c2 (show Kd.M k90 _ _ _ (⟨(⟨#[97]⟩ : ByteArray), 0⟩ : S90) [.string (⟨#[97]⟩ : ByteArray), .int .i64 0] from (k90_mkM _ _ _ (⟨(⟨#[97]⟩ : ByteArray), 0⟩ : S90) )) (Reps.c2 (show Kd.M k90 _ _ _ (⟨(⟨#[98]⟩ : ByteArray), 0⟩ : S90) [.string (⟨#[98]⟩ : ByteArray), .int .i64 0] from (k90_mkM _ _ _ (⟨(⟨#[98]⟩ : ByteArray), 0⟩ : S90) )) (Reps.c2 (show Kd.M k90 _ _ _ (⟨(⟨#[101]⟩ : ByteArray), 0⟩ : S90) [.string (⟨#[101]⟩ : ByteArray), .int .i64 0] from (k90_mkM _ _ _ (⟨(⟨#[101]⟩ : ByteArray), 0⟩ : S90) )) (Reps.c2 (show Kd.M k90 _ _ _ (⟨(⟨#[109]⟩ : ByteArray), 2⟩ : S90) [.string (⟨#[109]⟩ : ByteArray), .int .i64 2] from (k90_mkM _ _ _ (⟨(⟨#[109]⟩ : ByteArray), 2⟩ : S90) )) (Reps.c2 (show Kd.M k90 _ _ _ (⟨(⟨#[105]⟩ : ByteArray), 1⟩ : S90) [.string (⟨#[105]⟩ : ByteArray), .int .i64 1] from (k90_mkM _ _ _ (⟨(⟨#[105]⟩ : ByteArray), 1⟩ : S90) )) (Reps.c2 (show Kd.M k90 _ _ _ (⟨(⟨#[115, 117, 99]⟩ : ByteArray), 1⟩ : S90) [.string (⟨#[115, 117, 99]⟩ : ByteArray), .int .i64 1] from (k90_mkM _ _ _ (⟨(⟨#[115, 117, 99]⟩ : ByteArray), 1⟩ : S90) )) (Reps.none _ _)))))))); intro d9z e5z i0 hb o4 hnew_; clear o4 hnew_; (first | rw [← p7.out] at i0 | (simp only [Int.reduceToNat] at i0; rw [← p7.out] at i0)); have p2 := am (Kd.R_lower (Kd.R_newB (Kd.R_newB (Kd.R_newB (Kd.R_newB (Kd.R_newB (Kd.R_newB i0 (bq a1.out)) (bq a2.out)) (bq a4.out)) (bq a5.out)) (bq a3.out)) (bq a7.out)) (keep_size (w := w) (g := g) (row := none) (ks HK.out))); replace a0 := bb a0 hb; replace a1 := bb a1 hb; replace a2 := bb a2 hb; replace a4 := bb a4 hb; replace a5 := bb a5 hb; replace a3 := bb a3 hb; replace a7 := bb a7 hb; replace HK := ku HK hb; replace HB := am (below_step (hsk HB.out (IsS86.ge b2.out)) hb); replace b2 := IsS86.bl b2 hb; clear hb i0; obtain ⟨o7, q1, rfl⟩ := Kd.R_slice p2.out; obtain ⟨G7, M9⟩ := nn d2; have v4 := c0_ a0; have y1 := blk_frozen a0.out 0))
         refine bodyPost_ret (results_cell_row rfl _ _ a6 26 #[.slice o7 r4.length q1] (0, 0) _ rfl (by refine bq ?_; refine blk_put (cs := #[.slice none 0 0]) ?_ 0 _ rfl; refine bq ?_; exact a0.out) Tryz.underlying26 rfl (by kernel_rfl)) rfl ?_
         exact ⟨_, er, rq (Kd.R_mono (Kd.R_far (p := ⟨a6, 0, none⟩) (Kd.R_types p2.out a0.out (by decide)) (fun _ hk => hk.2) (.slice o7 r4.length q1)) (fun _ hk => trivial)), IsS86.q b2.out, hsk HB.out (IsS86.ge b2.out), ks HK.out⟩
        ·rw [if_neg n0] at H
         obtain ⟨q7, q8⟩ := bqf n0
         obtain ⟨r5, l6⟩ : ∃ y_ : List (S90), y_ = (([(⟨(⟨#[97]⟩ : ByteArray), 0⟩ : S90)] : List (S90))) := ⟨_, rfl⟩
         replace H : (some (r5, g3)) = some (r1, r2) := by first | (rw [l6]; first | with_reducible exact H | with_reducible exact bs H) | with_reducible exact bs H | with_reducible exact H | (rw [l6]; exact H) | exact H
         have p8 := am l6
         clear l6
         simp only [Option.some.injEq, Prod.mk.injEq] at H
         obtain ⟨rfl, rfl⟩ := H
         obtain ⟨G8, N0⟩ := nn b6
         obtain ⟨G9, N1⟩ := nn b8
         obtain ⟨H0, N2⟩ := nn b9
         obtain ⟨H1, N3⟩ := nn c0
         obtain ⟨H2, N4⟩ := nn b7
         obtain ⟨H3, N5⟩ := nn c1
         obtain ⟨H4, N6⟩ := nn d0
         have v5 := c0_ a3
         have v6 := c1_ a3
         have y2 := blk_frozen a3.out 0
         have y3 := blk_frozen a3.out 1
         go_wp2_with (first | ((with_reducible refine gate_dst (N := 54) rfl ?_); refine Kd.R_lit k90 _ 90 ?hg (N := 54) ?hd (xs := ([(⟨(⟨#[97]⟩ : ByteArray), 0⟩ : S90)] : List (S90))) (inner := [.string (⟨#[97]⟩ : ByteArray), .int .i64 0]) (ok := fun _ => True) (okp := fun _ => True) ?hr ?hp (fun _ hk => hk) trivial (Below.refl _ _) (Nat.le_refl _) (by simp) ?_; (case hd => rfl); (case hg => rfl); (case hr => first | (go_simp; done) | (go_simp; rfl)); (case hp => exact (Reps.c2 (show Kd.M k90 _ _ _ (⟨(⟨#[97]⟩ : ByteArray), 0⟩ : S90) [.string (⟨#[97]⟩ : ByteArray), .int .i64 0] from (k90_mkM _ _ _ (⟨(⟨#[97]⟩ : ByteArray), 0⟩ : S90) )) (Reps.none _ _))); intro e0z e6z i1 hb o4 hnew_; clear o4 hnew_; (first | rw [← p8.out] at i1 | (simp only [Int.reduceToNat] at i1; rw [← p8.out] at i1)); have p3 := am (Kd.R_lower (Kd.R_newB (Kd.R_newB (Kd.R_newB (Kd.R_newB (Kd.R_newB (Kd.R_newB i1 (bq a1.out)) (bq a2.out)) (bq a4.out)) (bq a5.out)) (bq a3.out)) (bq a7.out)) (keep_size (w := w) (g := g) (row := none) (ks HK.out))); replace a0 := bb a0 hb; replace a1 := bb a1 hb; replace a2 := bb a2 hb; replace a4 := bb a4 hb; replace a5 := bb a5 hb; replace a3 := bb a3 hb; replace a7 := bb a7 hb; replace HK := ku HK hb; replace HB := am (below_step (hsk HB.out (IsS86.ge b2.out)) hb); replace b2 := IsS86.bl b2 hb; clear hb i1; obtain ⟨o8, q2, rfl⟩ := Kd.R_slice p3.out; obtain ⟨H5, N7⟩ := nn d4; obtain ⟨H6, N8⟩ := nn d5; obtain ⟨H7, N9⟩ := nn d6; obtain ⟨H8, O0⟩ := nn d7; obtain ⟨H9, O1⟩ := nn d8; obtain ⟨I0, O2⟩ := nn d2; have v7 := c0_ a0; have y4 := blk_frozen a0.out 0))
         refine bodyPost_ret (results_cell_row rfl _ _ a6 26 #[.slice o8 r5.length q2] (0, 0) _ rfl (by refine bq ?_; refine blk_put (cs := #[.slice none 0 0]) ?_ 0 _ rfl; refine bq ?_; exact a0.out) Tryz.underlying26 rfl (by kernel_rfl)) rfl ?_
         exact ⟨_, er, rq (Kd.R_mono (Kd.R_far (p := ⟨a6, 0, none⟩) (Kd.R_types p3.out a0.out (by decide)) (fun _ hk => hk.2) (.slice o8 r5.length q2)) (fun _ hk => trivial)), IsS86.q b2.out, hsk HB.out (IsS86.ge b2.out), ks HK.out⟩
def spec_l1Chance.f (a2 : List Int) (a3 : Int) (a1 : Int) : Option (Bool × Int) := (spec_l1Next.f a2 a3 a1).bind fun a0 => (some ((a0.1 == 0), a0.2))
theorem spec_l1Chance.calls (g : Nat) (a0 : List Int) (a2 : Int) (a1 : Int) (r1 : Bool) (r2 : Int) (w0 w : World) (hI : IsS86 w0 w g a0 a2) (hB : Below w0.heap.size w0 w) (h : spec_l1Chance.f a0 a2 a1 = some (r1, r2)) :
  Calls Tryz.prog 55 #[.pointer (some ⟨g, 0, none⟩), .int .i64 a1] w fun e w' => e = .returned (.bool r1) ∧ IsS86 w0 w' g a0 r2 ∧ Below w0.heap.size w0 w' ∧ KeepBut w w' g none := by
 have a4 := am hI
 have HK := am (KeepBut.refl w g none)
 have HL := am hB.size
 clear hI
 have a7 := am hB.size
 have HB := am hB
 clear hB
 have H : ((spec_l1Next.f a0 a2 a1).bind fun a3 => (some ((a3.1 == 0), a3.2))) = some (r1, r2) := h
 clear h
 obtain ⟨⟨a5, a6⟩, A3, H⟩ := ob H
 try dsimp only at H
 simp only [Option.some.injEq, Prod.mk.injEq] at H
 obtain ⟨rfl, rfl⟩ := H
 go_enter Tryz.func55, Tryz.ntmps55
 go_wp2_with (first | (refine gl (some 7) Tryz.func56 rfl #[.pointer (some ⟨g, 0, none⟩), .int .i64 a1] ?_; refine (spec_l1Next.calls g a0 a2 a1 a5 a6 w0 _ (IsS86.q a4.out) (hsk HB.out (IsS86.ge a4.out)) A3.out).mono ?_; rintro e w4 ⟨rfl, hi, hb, hk⟩; refine ⟨_, rfl, ?_⟩; replace HK := kt HK hk; replace HB := am (hb); replace a4 := am (hi); clear hb hk hi))
 go_ret
 exact ⟨er, IsS86.q a4.out, hsk HB.out (IsS86.ge a4.out), kq HK.out⟩
end Go.Proofs.YtbdpnkpienpnaaaGreatDoor.P
