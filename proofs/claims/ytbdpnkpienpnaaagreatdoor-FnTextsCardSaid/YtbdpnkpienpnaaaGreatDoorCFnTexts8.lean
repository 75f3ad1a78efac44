/- A part of the proof of the law FnTexts. -/
import Derived.Test.YtbdpnkpienpnaaaGreatDoorCFnTexts7
set_option maxHeartbeats 8000000
set_option maxRecDepth 100000
namespace Go.Proofs.YtbdpnkpienpnaaaGreatDoor.P
open Go.RowKit Go.Proofs.YtbdpnkpienpnaaaGreatDoorW.PrintWords Go.Proofs.YtbdpnkpienpnaaaGreatDoorW.PrintLast Go.Proofs.YtbdpnkpienpnaaaGreatDoorW.PrintMore
attribute [local go_sem] max2_int min2_int max_two min_two max_three min_three max_four min_four   -- for this text's walks alone
set_option linter.unusedVariables false
set_option linter.unusedSimpArgs false
def spec_l4Spoil.put (x : ByteArray) (i y : Int) : ByteArray := ⟨(x.data.toList.set i.toNat (UInt8.ofNat (y % 256).toNat)).toArray⟩
theorem spoil_conv {P : Program} {ops : Array Oper} {rest : List Oper} {o : Oper} {a : Act} {Q : Exit → Act → World → Prop} {W : World} (s : ByteArray) (e : TypeId) (hgd : o.guard = none) {N : Tmp} (_hd : o.dst = some N)
  (hrun : (execOp a.eval o).run P W = .ok (.value (.slice (some ⟨W.heap.size, 0, none⟩) s.size (grownCap W s.size 0 e))) (W.drew.alloc (.cells (bytesRow s (grownCap W s.size 0 e)) e ((bytesRow s (grownCap W s.size 0 e)).size, (bytesRow s (grownCap W s.size 0 e)).size + 1))))
  (h : ∀ g cap, g = W.heap.size → s.size ≤ cap → ∀ w1, w1.heap[g]? = some (.cells (bytesRow s cap) e ((bytesRow s cap).size, (bytesRow s cap).size + 1)) → Below W.heap.size W w1 → wpList P ops Q rest (a.put o.dst (.slice (some ⟨g, 0, none⟩) s.size cap)) w1) : wpList P ops Q (o :: rest) a W :=
 Kd.event_run hgd hrun (h _ _ rfl (grownCap_ge W s.size 0 e) _ (blk_new W.drew _) (below_alloc (below_drew1 (Below.refl _ _)) _))
theorem bytesRow_get (s : ByteArray) (cap j : Nat) (hj : j < s.size) : (bytesRow s cap)[j]? = some (.int .u8 ((s.data.toList.getD j 0).toNat : Int)) := by
 have hj' : j < s.data.size := hj
 unfold bytesRow
 rw [Array.getElem?_append_left (by rw [Array.size_map]; exact hj'), Array.getElem?_map, Array.getElem?_eq_getElem hj', List.getD_eq_getElem?_getD, Array.getElem?_toList, Array.getElem?_eq_getElem hj']
 rfl
theorem bytesRow_size (s : ByteArray) (cap : Nat) (h : s.size ≤ cap) : (bytesRow s cap).size = cap := by
 unfold bytesRow
 rw [Array.size_append, Array.size_map, Array.size_replicate]
 have : s.data.size = s.size := rfl
 omega
theorem spoil_cells {P : Program} (src dst e : TypeId) (hs : P.underlying src = some (.slice e)) (he : P.underlying e = some (.int .u8)) (hd : P.underlying dst = some .string) {w : World} {gq9 cap : Nat} {s : ByteArray} (hb : w.heap[gq9]? = some (.cells (bytesRow s cap) e ((bytesRow s cap).size, (bytesRow s cap).size + 1))) (hc : s.size ≤ cap) (i y : Int) (h0 : 0 ≤ i) (h1 : i < (s.size : Int)) :
  w.cell? ⟨gq9, i.toNat, none⟩ = some (.int .u8 ((s.data.toList.getD i.toNat 0).toNat : Int)) ∧ w.cell? ((⟨gq9, 0, none⟩ : Addr).add i.toNat) = some (.int .u8 ((s.data.toList.getD i.toNat 0).toNat : Int)) ∧ w.frozen? ⟨gq9, i.toNat, none⟩ = false ∧ w.frozen? ((⟨gq9, 0, none⟩ : Addr).add i.toNat) = false ∧
   (convert src dst (.slice (some ⟨gq9, 0, none⟩) s.size cap)).run P (w.setCell ⟨gq9, i.toNat, none⟩ (.int .u8 (y % 256))) = .ok (.string (spec_l4Spoil.put s i y)) (w.setCell ⟨gq9, i.toNat, none⟩ (.int .u8 (y % 256))) := by
 have hi : i.toNat < s.size := by omega
 have hcell : ∀ j, w.cell? ⟨gq9, j, none⟩ = (bytesRow s cap)[j]? := fun j => cell_of_row w gq9 j _ e _ hb
 have hz := bytesRow_size s cap hc
 have hfr : w.frozen? ⟨gq9, i.toNat, none⟩ = false := by
  simp only [World.frozen?, hb, hz]
  simp; omega
 have c0 : w.cell? ⟨gq9, i.toNat, none⟩ = some (.int .u8 ((s.data.toList.getD i.toNat 0).toNat : Int)) := (hcell _).trans (bytesRow_get s cap _ hi)
 refine ⟨c0, by rw [add_plain]; exact c0, hfr, by rw [add_plain]; exact hfr, ?_⟩
 have hl : (s.data.toList.set i.toNat (UInt8.ofNat (y % 256).toNat)).length = s.size := by rw [List.length_set, data_length]
 have hm : 0 ≤ y % 256 ∧ y % 256 < 256 := ⟨Int.emod_nonneg _ (by decide), Int.emod_lt_of_pos _ (by decide)⟩
 have hset : ∀ j, (w.setCell ⟨gq9, i.toNat, none⟩ (.int .u8 (y % 256))).cell? ⟨gq9, j, none⟩ = ((bytesRow s cap).setIfInBounds i.toNat (.int .u8 (y % 256)))[j]? := fun j => by
  have a0 : (w.setCell ⟨gq9, i.toNat, none⟩ (.int .u8 (y % 256))).heap[gq9]? = some (.cells ((bytesRow s cap).setIfInBounds i.toNat (.int .u8 (y % 256))) e ((bytesRow s cap).size, (bytesRow s cap).size + 1)) := by
   have hlt := blk_lt hb
   simp [World.setCell, Array.getElem?_modify, hb]
  exact cell_of_row _ gq9 j _ e _ a0
 have hcv := run_convert_bytes_back (P := P) (w.setCell ⟨gq9, i.toNat, none⟩ (.int .u8 (y % 256))) src dst e ⟨gq9, 0, none⟩ cap (s.data.toList.set i.toNat (UInt8.ofNat (y % 256).toNat)) hs he hd (fun j hj => by
  rw [add_plain, hset, Array.getElem?_setIfInBounds]
  rw [List.getElem_set]
  by_cases e1 : i.toNat = j
  ·rw [if_pos e1, if_pos (by rw [hz]; omega), if_pos e1]
   congr 2
   have : (UInt8.ofNat (y % 256).toNat).toNat = (y % 256).toNat := by
    rw [UInt8.toNat_ofNat']
    omega
   rw [this]; omega
  ·rw [if_neg e1, if_neg e1, bytesRow_get s cap j (by omega), List.getD_eq_getElem?_getD, List.getElem?_eq_getElem (by rw [List.length_set] at hj; exact hj)]
   rfl)
 rw [hl] at hcv
 exact hcv
def spec_l4Spoil.j0 : Nat → ByteArray → Bool → List Int → Int → Option (ByteArray × Int)
 | 0, _, _, _, _ => none
 | k + 1, x1, a7, a2, a5 => if a7 = true then (some (x1, a5)) else ((spec_l1Next.f a2 a5 (x1.size : Int)).bind fun a0 => ((spec_l1Next.f a2 a0.2 3).bind fun a1 => (if a1.1 = 0 then ((spec_l1Pick.f a2 a1.2 (([40, 41, 44, 61, 65, 76, 77, 97, 32] : List Int))).bind fun a3 => (if 0 ≤ a0.1 then (if a0.1 < (x1.size : Int) then (some (spec_l4Spoil.put x1 a0.1 a3.1, a3.2)) else (none)) else (none))) else (if a1.1 = 1 then (if 0 ≤ a0.1 then (if a0.1 ≤ (x1.size : Int) then (some (x1.extract 0 (a0.1 : Int).toNat, a1.2)) else (none)) else (none)) else (if 0 ≤ a0.1 then (if a0.1 ≤ (x1.size : Int) then ((spec_l1Pick.f a2 a1.2 (([40, 41, 44, 61, 66, 101, 32] : List Int))).bind fun a4 => ((some (([(a4.1) % 256] : List Int) : List Int)).bind fun a6 => (if (x1.extract 0 (a0.1 : Int).toNat).size + (strOfNums a6).size ≤ 9223372036854775807 then (if ((x1.extract 0 (a0.1 : Int).toNat) ++ (strOfNums a6)).size + (x1.extract (a0.1 : Int).toNat x1.size).size ≤ 9223372036854775807 then (some (((x1.extract 0 (a0.1 : Int).toNat) ++ (strOfNums a6)) ++ (x1.extract (a0.1 : Int).toNat x1.size), a4.2)) else (none)) else (none)))) else (none)) else (none))))))
def spec_l4Spoil.f (k : Nat) (a2 : List Int) (a3 : Int) (a1 : ByteArray) : Option (ByteArray × Int) := if (a1.size : Int) < 1 then (spec_l4Spoil.j0 k a1 true a2 a3) else ((spec_l1Chance.f a2 a3 4).bind fun a0 => (spec_l4Spoil.j0 k a1 (!a0.1) a2 a0.2))
def spec_l4Spoil.T11 : Bool × List (List Nat × List Nat) := (true, [([], []), ([], []), ([0, 1], [0, 1]), ([], []), ([], []), ([3, 4], [3, 4]), ([5], [5]), ([6], [6]), ([7], [7]), ([2, 8], [2, 8]), ([], []), ([], []), ([10, 11], [10, 11]), ([9, 12], [9, 12]), ([13, 5, 0, 1, 2, 3, 4, 5, 6, 7, 8, 9, 10, 11, 12, 13], [13])])
def spec_l4Spoil.B11 : List Nat := [0, 0, 3, 0, 0, 24, 56, 120, 248, 511, 0, 0, 3072, 8191, 16383]
theorem spec_l4Spoil.tab11 : rtab .any (opsOf Tryz.f43 11) = spec_l4Spoil.T11 := by kernel_rfl
theorem spec_l4Spoil.bits11 : waitsOk spec_l4Spoil.T11.2 spec_l4Spoil.B11 = true := by kernel_rfl
theorem spec_l4Spoil.calls (k : Nat) (g : Nat) (a3 : List Int) (b4 : Int) (a1 : ByteArray) (r1 : ByteArray) (r2 : Int) (w0 w : World) (hI : IsS86 w0 w g a3 b4) (hB : Below w0.heap.size w0 w) (h : spec_l4Spoil.f k a3 b4 a1 = some (r1, r2)) :
  Calls Tryz.prog 43 #[.pointer (some ⟨g, 0, none⟩), .string a1] w fun e w' => e = .returned (.string r1) ∧ IsS86 w0 w' g a3 r2 ∧ Below w0.heap.size w0 w' ∧ KeepBut w w' g none := by
 have a2 := am hI
 have HK := am (KeepBut.refl w g none)
 have HL := am hB.size
 clear hI
 have k2 := am hB.size
 have HB := am hB
 clear hB
 have H : (if (a1.size : Int) < 1 then (spec_l4Spoil.j0 k a1 true a3 b4) else ((spec_l1Chance.f a3 b4 4).bind fun d2 => (spec_l4Spoil.j0 k a1 (!d2.1) a3 d2.2))) = some (r1, r2) := h
 clear h
 have h4 := am H
 clear H
 have hcvS : ∀ W_ : World, (convert 9 22 (.string a1)).run Tryz.prog W_ = _ := fun W_ => run_bytes_of_string W_ 9 22 5 a1 Tryz.underlying9 Tryz.underlying22 Tryz.underlying5
 go_enter Tryz.func43, Tryz.ntmps43
 go_upto_region 1 with (fail)
 go_cut [14] (fun l6 wc => ∃ (kq : Nat) (b3 : Bool) (a4 : Int), l6 = .bool b3 ∧ Aside0 (spec_l4Spoil.j0 kq a1 b3 a3 a4 = some (r1, r2)) ∧ Aside0 (kq ≤ k) ∧ Aside0 (IsS86 w0 wc g a3 a4) ∧ Aside0 (KeepBut w wc g none) ∧ Aside0 (Below w0.heap.size w0 wc))
 case first =>
  have H := h4.out
  clear h4
  by_cases c4 : (a1.size : Int) < 1
  ·rw [if_pos c4] at H
   have b6 := decide_eq_true c4
   have h6 : decide (a1.size < 1) = true := decide_eq_true (by omega)
   clear c4
   (first | rw [b6] | (simp only [i64_w, i32_w]; rw [b6]) | skip)
   have H' := am H
   clear H
   go_wp2
   go_meet
   case rel => exact ⟨_, (true), (b4), et, H', lo, ⟨IsS86.q a2.out⟩, ⟨kq HK.out⟩, ⟨hsk HB.out (IsS86.ge a2.out)⟩⟩
  ·rw [if_neg c4] at H
   have b6 := decide_eq_false c4
   have h6 : decide (a1.size < 1) = false := decide_eq_false (by omega)
   clear c4
   (first | rw [b6] | (simp only [i64_w, i32_w]; rw [b6]) | skip)
   obtain ⟨⟨g5, g6⟩, A5, H⟩ := ob H
   try dsimp only at H
   have H' := am H
   clear H
   go_wp2_with (first | (go_at_call 55; refine (spec_l1Chance.calls g a3 b4 4 g5 g6 w0 _ (IsS86.q a2.out) (hsk HB.out (IsS86.ge a2.out)) A5.out).mono ?_; rintro e w6 ⟨rfl, hi, hb, hk⟩; replace HK := kt HK hk; replace HB := am (hb); replace a2 := am (hi); (try clear hb); (try clear hk); (try clear hi)))
   go_meet
   case rel => exact ⟨_, (!g5), (g6), et, H', lo, ⟨IsS86.q a2.out⟩, ⟨kq HK.out⟩, ⟨hsk HB.out (IsS86.ge a2.out)⟩⟩
 case rest =>
  clear h4
  obtain ⟨kq, b3, a4, rfl, HA, m1, a2, HK, HB⟩ := hcut
  cases kq with
  | zero => exact absurd HA.out (by simp [spec_l4Spoil.j0])
  | succ m3 =>
   have H := HA.out
   clear HA
   simp only [spec_l4Spoil.j0] at H
   by_cases c7 : b3 = true
   ·subst c7
    rw [if_pos rfl] at H
    simp only [Option.some.injEq, Prod.mk.injEq] at H
    obtain ⟨rfl, rfl⟩ := H
    go_wp2
    go_ret
    exact ⟨er, IsS86.q a2.out, hsk HB.out (IsS86.ge a2.out), kq HK.out⟩
   ·replace c7 := Bool.eq_false_iff.mpr c7
    subst c7
    rw [if_neg (show ¬ (false = true) by decide)] at H
    obtain ⟨⟨a0, g7⟩, A8, H⟩ := ob H
    try dsimp only at H
    obtain ⟨⟨d6, c0⟩, A9, H⟩ := ob H
    try dsimp only at H
    have d9 := am H
    clear H
    go_upto_if 24 with (first | ((with_reducible refine gate_dst (N := 17) rfl ?_); refine spoil_conv a1 5 ?hg (N := 17) ?hd ?hr ?_; (case hd => rfl); (case hg => rfl); (case hr => first | (go_simp; done) | (go_simp; rfl)); intro gq9 cap hgs hcap m6 hbk hb; have BKs := am hbk; have HCs := am hcap; have NBs := am ((by rw [hgs]; exact Nat.ne_of_gt (IsS86.lt (show IsS86 w0 _ g a3 a4 from IsS86.q a2.out)) : gq9 ≠ g)); have GWs := am ((by rw [hgs]; exact (keep_size (w := w) (g := g) (row := none) (kq HK.out)) : w.heap.size ≤ gq9)); have GEs := am (Nat.le_trans k2.out GWs.out); replace HK := ku HK hb; replace HB := am (below_step (hsk HB.out (IsS86.ge a2.out)) hb); replace a2 := IsS86.bl a2 hb; clear hbk hb hgs hcap) | (refine gl (some 21) Tryz.func56 rfl #[.pointer (some ⟨g, 0, none⟩), .int .i64 (a1.size : Int)] ?_; refine (spec_l1Next.calls g a3 a4 (a1.size : Int) a0 g7 w0 _ (IsS86.q a2.out) (hsk HB.out (IsS86.ge a2.out)) A8.out).mono ?_; rintro e m7 ⟨rfl, hi, hb, hk⟩; refine ⟨_, rfl, ?_⟩; have d5 := am (KeepBut.blk hk (bq BKs.out) NBs.out (by simp)); clear BKs; revert d5; intro BKs; replace HK := kt HK hk; replace HB := am (hb); replace a2 := am (hi); clear hb hk hi) | (refine gl (some 23) Tryz.func56 rfl #[.pointer (some ⟨g, 0, none⟩), .int .i64 3] ?_; refine (spec_l1Next.calls g a3 g7 3 d6 c0 w0 _ (IsS86.q a2.out) (hsk HB.out (IsS86.ge a2.out)) A9.out).mono ?_; rintro e m0 ⟨rfl, hi, hb, hk⟩; refine ⟨_, rfl, ?_⟩; have d5 := am (KeepBut.blk hk (bq BKs.out) NBs.out (by simp)); clear BKs; revert d5; intro BKs; replace HK := kt HK hk; replace HB := am (hb); replace a2 := am (hi); clear hb hk hi))
    have H := d9.out
    clear d9
    by_cases e1 : d6 = 0
    ·rw [if_pos e1] at H
     obtain ⟨a8, e2⟩ := bqt e1; clear e1
     (first | rw [a8] | (simp only [i64_w, i32_w]; rw [a8]) | skip)
     obtain ⟨d7, b0⟩ : ∃ y_ : List Int, y_ = (([40, 41, 44, 61, 65, 76, 77, 97, 32] : List Int)) := ⟨_, rfl⟩
     replace H : ((spec_l1Pick.f a3 c0 d7).bind fun d3 => (if 0 ≤ a0 then (if a0 < (a1.size : Int) then (some (spec_l4Spoil.put a1 a0 d3.1, d3.2)) else (none)) else (none))) = some (r1, r2) := by first | (rw [b0]; first | with_reducible exact H | with_reducible exact bs H) | with_reducible exact bs H | with_reducible exact H | (rw [b0]; exact H) | exact H
     have c1 := am b0
     clear b0
     obtain ⟨⟨g8, i1⟩, k0, H⟩ := ob H
     try dsimp only at H
     by_cases g0 : 0 ≤ a0
     ·rw [if_pos g0] at H
      by_cases g1 : a0 < (a1.size : Int)
      ·rw [if_pos g1] at H
       have Z0 := am g0
       have Z1 := am g1
       have m4 := eq_true g0
       have m5 := eq_true g1
       clear g0 g1
       simp only [Option.some.injEq, Prod.mk.injEq] at H
       obtain ⟨rfl, rfl⟩ := H
       go_wp2_with (first | (refine rl 29 rfl 2 [40, 41, 44, 61, 65, 76, 77, 97, 32] ?_; intro l7 m8 b7 hb g4 hnew_; clear g4 hnew_; have d5 := am (blk_below (bq BKs.out) hb); clear BKs; revert d5; intro BKs; (first | rw [← c1.out] at b7 | (simp only [Int.reduceToNat] at b7; rw [← c1.out] at b7)); have a7 := am (Kd.R_lower b7 (keep_size (w := w) (g := g) (row := none) (kq HK.out))); replace HK := ku HK hb; replace HB := am (below_step (hsk HB.out (IsS86.ge a2.out)) hb); replace a2 := IsS86.bl a2 hb; clear hb b7; obtain ⟨h2, h7, rfl⟩ := Kd.R_slice a7.out) | (refine gl (some 30) Tryz.func26 rfl #[.pointer (some ⟨g, 0, none⟩), .slice h2 d7.length h7] ?_; refine (spec_l1Pick.calls g a3 c0 _ _ d7 g8 i1 w0 _ (IsS86.q a2.out) (hsk HB.out (IsS86.ge a2.out)) (cq (Kd.R_reads' a7.out).2.2) ((Kd.R_reads' a7.out).2.1) (far_slice (IsS86.own_ne a2.out a7.out (by decide))) k0.out).mono ?_; rintro e m9 ⟨rfl, hi, hb, hk⟩; refine ⟨_, rfl, ?_⟩; have d5 := am (KeepBut.blk hk (bq BKs.out) NBs.out (by simp)); clear BKs; revert d5; intro BKs; obtain ⟨k5, k6, k7, k8, k9⟩ := spoil_cells (P := Tryz.prog) 22 9 5 Tryz.underlying22 Tryz.underlying5 Tryz.underlying9 BKs.out HCs.out a0 g8 Z0.out Z1.out; replace a7 := IsS86.rk a2 a7 hk; replace HK := kt HK hk; replace HB := am (hb); replace a2 := am (hi); clear hb hk hi))
       go_ret
       exact ⟨er, by repeat (first | (with_reducible first | exact a2.out | apply IsS86.alloc | apply IsS86.drewN | apply IsS86.drew | apply IsS86.set_1 | refine IsS86.far ?_ NBs.out.symm _) | exact a2.out), hsk HB.out (IsS86.ge a2.out), ks HK.out⟩
      ·rw [if_neg g1] at H
       exact absurd H (by simp)
     ·rw [if_neg g0] at H
      exact absurd H (by simp)
    ·rw [if_neg e1] at H
     obtain ⟨a8, e2⟩ := bqf e1
     (first | rw [a8] | (simp only [i64_w, i32_w]; rw [a8]) | skip)
     by_cases e3 : d6 = 1
     ·rw [if_pos e3] at H
      obtain ⟨e4, e5⟩ := bqt e3; clear e3
      obtain ⟨i2, i3, H⟩ := ifd H
      obtain ⟨i4, i5, H⟩ := ifd H
      simp only [Option.some.injEq, Prod.mk.injEq] at H
      obtain ⟨rfl, rfl⟩ := H
      go_wp2
      go_ret
      exact ⟨er, IsS86.q a2.out, hsk HB.out (IsS86.ge a2.out), kq HK.out⟩
     ·rw [if_neg e3] at H
      obtain ⟨e4, e5⟩ := bqf e3
      obtain ⟨e6, i6, H⟩ := ifd H
      obtain ⟨e7, i7, H⟩ := ifd H
      obtain ⟨d8, b1⟩ : ∃ y_ : List Int, y_ = (([40, 41, 44, 61, 66, 101, 32] : List Int)) := ⟨_, rfl⟩
      replace H : ((spec_l1Pick.f a3 c0 d8).bind fun d4 => ((some (([(d4.1) % 256] : List Int) : List Int)).bind fun a6 => (if (a1.extract 0 (a0 : Int).toNat).size + (strOfNums a6).size ≤ 9223372036854775807 then (if ((a1.extract 0 (a0 : Int).toNat) ++ (strOfNums a6)).size + (a1.extract (a0 : Int).toNat a1.size).size ≤ 9223372036854775807 then (some (((a1.extract 0 (a0 : Int).toNat) ++ (strOfNums a6)) ++ (a1.extract (a0 : Int).toNat a1.size), d4.2)) else (none)) else (none)))) = some (r1, r2) := by first | (rw [b1]; first | with_reducible exact H | with_reducible exact bs H) | with_reducible exact bs H | with_reducible exact H | (rw [b1]; exact H) | exact H
      have d0 := am b1
      clear b1
      obtain ⟨⟨b5, g9⟩, k1, H⟩ := ob H
      try dsimp only at H
      obtain ⟨a6, b2⟩ : ∃ y_ : List Int, y_ = (([(b5) % 256] : List Int)) := ⟨_, rfl⟩
      replace H : (if (a1.extract 0 (a0 : Int).toNat).size + (strOfNums a6).size ≤ 9223372036854775807 then (if ((a1.extract 0 (a0 : Int).toNat) ++ (strOfNums a6)).size + (a1.extract (a0 : Int).toNat a1.size).size ≤ 9223372036854775807 then (some (((a1.extract 0 (a0 : Int).toNat) ++ (strOfNums a6)) ++ (a1.extract (a0 : Int).toNat a1.size), g9)) else (none)) else (none)) = some (r1, r2) := by first | (rw [b2]; first | with_reducible exact H | with_reducible exact bs H) | with_reducible exact bs H | with_reducible exact H | (rw [b2]; exact H) | exact H
      have d1 := am b2
      clear b2
      obtain ⟨h5, H⟩ := ifs H
      have e8 := eq_true h5
      have i9 := decide_eq_true h5
      try have j5 : (9223372036854775807 < (a1.extract 0 (a0 : Int).toNat).size + (strOfNums a6).size) = False := eq_false (Nat.not_lt.2 h5)
      have j6 := eq_true (of_decide_eq_true (by first | (with_reducible assumption) | assumption) : 0 ≤ a0)
      have j7 := eq_true (of_decide_eq_true (by first | (with_reducible assumption) | assumption) : a0 ≤ (a1.size : Int))
      obtain ⟨h0, H⟩ := ifs H
      have e9 := eq_true h0
      have j8 := decide_eq_true h0
      try have j9 : (9223372036854775807 < ((a1.extract 0 (a0 : Int).toNat) ++ (strOfNums a6)).size + (a1.extract (a0 : Int).toNat a1.size).size) = False := eq_false (Nat.not_lt.2 h0)
      have h9 : (a1.extract 0 (a0 : Int).toNat).size = a0.toNat := by
       rw [ByteArray.size_extract]
       have q1 := of_eq_true e6
       have q2 := of_eq_true e7
       omega
      have i0 : (a1.extract (a0 : Int).toNat a1.size).size = a1.size - a0.toNat := by
       rw [ByteArray.size_extract]; omega
      have l4 : (9223372036854775807 < a0.toNat + (strOfNums a6).size) = False := eq_false (by have h_ := of_eq_true e8; omega)
      have l5 : (9223372036854775807 < a0.toNat + (strOfNums a6).size + (a1.size - a0.toNat)) = False := eq_false (by have h_ := of_eq_true e9; rw [ByteArray.size_append] at h_; omega)
      clear h9 i0
      try have c28z_ : (9223372036854775807 < (a1.extract 0 (a0 : Int).toNat).size + (strOfNums a6).size + (a1.extract (a0 : Int).toNat a1.size).size) = False := (by have h_ := h0; simp only [ByteArray.size_append] at h_; exact eq_false (Nat.not_lt.2 h_))
      simp only [Option.some.injEq, Prod.mk.injEq] at H
      obtain ⟨rfl, rfl⟩ := H
      try go_wp2
      replace a2 := am (IsS86.drew a2.out)
      replace HK := am (keep_drew HK.out)
      replace HB := am (below_drew1 HB.out)
      refine st_ (n := 15) (S := fun w' => True) (ds := []) trivial (fun hHeld => ?_); refine with_tabW spec_l4Spoil.tab11 spec_l4Spoil.bits11 (fun a9 m2 => ?_)
      generalize m0.drew = n0 at a2 HK HB hHeld ⊢
      refine pu 0 40 rfl rfl a9 ?_
      refine pu 1 41 rfl rfl a9 ?_
      refine pu 2 42 rfl rfl a9 ?_
      refine pu 3 43 rfl rfl a9 ?_
      refine pu 10 50 rfl rfl a9 ?_
      refine pu 11 51 rfl rfl a9 ?_
      refine pu 12 52 rfl rfl a9 ?_
      refine on_ 4 (some 44) rfl rfl a9 (fun K hK => ?_)
      refine Kd.R_lit_step (Kd.int .i64) _ 2 ?hg (N := 44) ?hd (xs := ([40, 41, 44, 61, 66, 101, 32] : List Int)) (inner := [.int .i64 40, .int .i64 41, .int .i64 44, .int .i64 61, .int .i64 66, .int .i64 101, .int .i64 32]) (ok := fun _ => True) (okp := fun _ => True) ?hr ?hp (fun _ hk => hk) trivial (Below.refl _ _) (Nat.le_refl _) (by simp) ?_; (case hd => rfl); (case hg => rfl); (case hr => first | (go_simp; done) | (go_simp; rfl)); (case hp => exact (Reps.one (show Kd.M (Kd.int .i64) _ _ _ 40 [.int .i64 40] from rfl) (Reps.one (show Kd.M (Kd.int .i64) _ _ _ 41 [.int .i64 41] from rfl) (Reps.one (show Kd.M (Kd.int .i64) _ _ _ 44 [.int .i64 44] from rfl) (Reps.one (show Kd.M (Kd.int .i64) _ _ _ 61 [.int .i64 61] from rfl) (Reps.one (show Kd.M (Kd.int .i64) _ _ _ 66 [.int .i64 66] from rfl) (Reps.one (show Kd.M (Kd.int .i64) _ _ _ 101 [.int .i64 101] from rfl) (Reps.one (show Kd.M (Kd.int .i64) _ _ _ 32 [.int .i64 32] from rfl) (Reps.none _ _)))))))))
      intro l8 n1 b8 hb g4 hnew_
      clear g4 hnew_
      (first | rw [← d0.out] at b8 | (simp only [Int.reduceToNat] at b8; rw [← d0.out] at b8))
      have a5 := am (Kd.R_lower b8 (keep_size (w := w) (g := g) (row := none) (kq HK.out)))
      replace HK := ku HK hb
      replace HB := am (below_step (hsk HB.out (IsS86.ge a2.out)) hb)
      replace a2 := IsS86.bl a2 hb
      clear hb b8
      obtain ⟨h3, h8, g2⟩ := Kd.R_slice a5.out
      (first | subst g2 | (injection g2 with f1_ f2_ f3_; have k3 := f1_.symm; have k4 := f3_.symm; clear f1_ f2_ f3_; subst k3; subst k4))
      refine hK.out _ _ trivial (fun hHeld => ?_)
      clear hK K
      refine nr (some 44) ?_
      refine on_ 5 (some 45) rfl rfl a9 (fun K hK => ?_)
      refine gs Tryz.func26 #[.pointer (some ⟨g, 0, none⟩), .slice h3 d8.length h8] ?_
      refine (spec_l1Pick.calls g a3 c0 _ _ d8 b5 g9 w0 _ (IsS86.q a2.out) (hsk HB.out (IsS86.ge a2.out)) (cq (Kd.R_reads' a5.out).2.2) ((Kd.R_reads' a5.out).2.1) (far_slice (IsS86.own_ne a2.out a5.out (by decide))) k1.out).mono ?_
      rintro e n2 ⟨rfl, hi, hb, hk⟩
      refine ⟨_, rfl, ?_⟩
      replace a5 := IsS86.rk a2 a5 hk
      replace HK := kt HK hk
      replace HB := am (hb)
      replace a2 := am (hi)
      (try clear hb)
      (try clear hk)
      (try clear hi)
      refine hK.out _ _ trivial (fun hHeld => ?_)
      clear hK K
      refine nr (some 45) ?_
      refine pu 6 46 rfl rfl a9 ?_
      refine on_ 7 (some 47) rfl rfl a9 (fun K hK => ?_)
      refine Kd.R_lit_step (Kd.int .u8) _ 5 ?hg (N := 47) ?hd (xs := ([(b5) % 256] : List Int)) (inner := [.int .u8 ((b5) % 256)]) (ok := fun _ => True) (okp := fun _ => True) ?hr ?hp (fun _ hk => hk) trivial (Below.refl _ _) (Nat.le_refl _) (by simp) ?_; (case hd => rfl); (case hg => rfl); (case hr => first | (go_simp; done) | (go_simp; rfl)); (case hp => exact (Reps.one (show Kd.M (Kd.int .u8) _ _ _ ((b5) % 256) [.int .u8 ((b5) % 256)] from rfl) (Reps.none _ _)))
      intro l9 n3 b9 hb g4 hnew_
      clear g4 hnew_
      (first | rw [← d1.out] at b9 | (simp only [Int.reduceToNat] at b9; rw [← d1.out] at b9))
      replace a5 := rb a5 hb
      have e0 := am (Kd.R_lower b9 (keep_size (w := w) (g := g) (row := none) (kq HK.out)))
      replace HK := ku HK hb
      replace HB := am (below_step (hsk HB.out (IsS86.ge a2.out)) hb)
      replace a2 := IsS86.bl a2 hb
      clear hb b9
      refine hK.out _ _ trivial (fun hHeld => ?_)
      clear hK K
      refine nr (some 47) ?_
      refine on_ 8 (some 48) rfl rfl a9 (fun K hK => ?_)
      have g3 := own_string (P := Tryz.prog) Tryz.underlying22 Tryz.underlying5 Tryz.underlying9 (Kd.own_of_R e0.out)
      refine value_ (w1 := ?_) (v := ?_) (by rfl) rfl ?_ ?_
      rotate_left 2
      ·go_simp
       constructor
       ·rfl
       ·rfl
      clear g3
      refine hK.out _ _ trivial (fun hHeld => ?_)
      clear hK K
      refine nr (some 48) ?_
      refine pu 9 49 rfl rfl a9 ?_
      refine pu 13 53 rfl rfl a9 ?_
      refine pu 14 4 rfl rfl a9 ?_
      refine done_ (done_of a9.out (by kernel_rfl)) ?_
      try go_wp2
      go_ret
      exact ⟨er, IsS86.q a2.out, hsk HB.out (IsS86.ge a2.out), kq HK.out⟩
def spec_l2Symbol.f (l0 : List (S26)) (a1 : Int) : Option (Bool) := if 0 < (l0.length : Int) then ((spec_l1In.f a1 0 (wrap64 ((((rd_T26 l0 0).f0).length : Int) - 1))).bind fun a0 => (some a0)) else (none)
theorem spec_l2Symbol.calls (A0 : Option Addr) (l0 : List (S26)) (a1 : Int) (r : Bool) (w : World) (d3 : Kd.C k26 w A0 l0.length l0) (h : spec_l2Symbol.f l0 a1 = some r) :
  Calls Tryz.prog 92 #[.pointer A0, .int .i64 a1] w fun e w' => e = .returned (.bool r) ∧ Drawn0 w w' := by
 have d2 := am d3
 clear d3
 have H : (if 0 < (l0.length : Int) then ((spec_l1In.f a1 0 (wrap64 ((((rd_T26 l0 0).f0).length : Int) - 1))).bind fun b1 => (some b1)) else (none)) = some r := h
 clear h
 obtain ⟨c3, H⟩ := ifs H
 have d6 := decide_eq_true c3
 have d7 : decide (0 < l0.length) = true := decide_eq_true (by omega)
 clear c3
 obtain ⟨b1, A4, H⟩ := ob H
 try dsimp only at H
 obtain rfl := Option.some.inj H
 have a7 : 0 ≤ (0 : Int) := (by omega)
 have a9 : 0 < (l0.length : Int) := od
 obtain ⟨b2, b8, c0, d0, a5, a3, a0⟩ := at_T26 d2.out 0 a7 a9
 cases d0
 have d4 : (0 < l0.length) = True := eq_true (by omega)
 (try simp only [t0_] at a5)
 have b6 := am a0
 have b4 := am a3
 clear a0 a3
 obtain ⟨a7, a9⟩ := ee a7 a9
 have a8 : 0 ≤ (0 : Int) := (by omega)
 have b0 : 0 < (l0.length : Int) := od
 obtain ⟨b3, b9, c1, d1, a6, a4, a2⟩ := at_T26 d2.out 0 a8 b0
 obtain rfl : b2 = b3 := (by injection d1)
 have d5 : (0 < l0.length) = True := eq_true (by omega)
 (try simp only [t0_] at a6)
 have b7 := am a2
 have b5 := am a4
 clear a2 a4
 obtain ⟨a8, b0⟩ := ee a8 b0
 obtain ⟨rfl, rfl⟩ := sj a5 a6
 go_enter Tryz.func92, Tryz.ntmps92
 go_wp2_with (first | (refine gl (some 12) Tryz.func84 rfl #[.int .i64 a1, .int .i64 0, .int .i64 (wrap64 ((((rd_T26 l0 0).f0).length : Int) - 1))] ?_; (with_reducible refine (spec_l1In.calls a1 0 (wrap64 ((((rd_T26 l0 0).f0).length : Int) - 1)) b1 _ A4.out).mono ?_); rintro e w' ⟨rfl, ⟨nd, rfl⟩⟩; refine ⟨_, rfl, ?_⟩))
 go_ret
 exact ⟨et, dn⟩
def spec_l3Node.f (l0 : List (S26)) (a1 : Int) : Option (Bool) := (spec_l2Symbol.f l0 a1).bind fun a0 => (if a0 = true then (some true) else ((spec_l1In.f a1 (-12) (-1)).bind fun a2 => (some a2)))
theorem spec_l3Node.calls (A0 : Option Addr) (l0 : List (S26)) (a1 : Int) (r : Bool) (w : World) (a4 : Kd.C k26 w A0 l0.length l0) (h : spec_l3Node.f l0 a1 = some r) :
  Calls Tryz.prog 65 #[.pointer A0, .int .i64 a1] w fun e w' => e = .returned (.bool r) ∧ Drawn0 w w' := by
 have a3 := am a4
 clear a4
 have H : ((spec_l2Symbol.f l0 a1).bind fun a0 => (if a0 = true then (some true) else ((spec_l1In.f a1 (-12) (-1)).bind fun a2 => (some a2)))) = some r := h
 clear h
 obtain ⟨a0, A3, H⟩ := ob H
 try dsimp only at H
 by_cases c4 : a0 = true
 ·subst c4
  rw [if_pos rfl] at H
  obtain rfl := Option.some.inj H
  go_enter Tryz.func65, Tryz.ntmps65
  go_wp2_with (first | (refine gl (some 7) Tryz.func92 rfl #[.pointer A0, .int .i64 a1] ?_; refine (spec_l2Symbol.calls _ l0 a1 true _ (cq a3.out) A3.out).mono ?_; rintro e w' ⟨rfl, ⟨nd, rfl⟩⟩; refine ⟨_, rfl, ?_⟩))
  go_ret
  exact ⟨et, dn⟩
 ·replace c4 := Bool.eq_false_iff.mpr c4
  subst c4
  rw [if_neg (show ¬ (false = true) by decide)] at H
  obtain ⟨a2, A5, H⟩ := ob H
  try dsimp only at H
  obtain rfl := Option.some.inj H
  go_enter Tryz.func65, Tryz.ntmps65
  go_wp2_with (first | (refine gl (some 7) Tryz.func92 rfl #[.pointer A0, .int .i64 a1] ?_; refine (spec_l2Symbol.calls _ l0 a1 false _ (cq a3.out) A3.out).mono ?_; rintro e w' ⟨rfl, ⟨nd, rfl⟩⟩; refine ⟨_, rfl, ?_⟩) | (go_at_call 84; refine (spec_l1In.calls a1 (-12) (-1) a2 _ A5.out).mono ?_; rintro e w' ⟨rfl, ⟨nd, rfl⟩⟩))
  go_ret
  exact ⟨et, dn⟩
attribute [local go_sem] max2_int min2_int max_two min_two max_three min_three max_four min_four   -- for this text's walks alone
set_option linter.unusedVariables false
set_option linter.unusedSimpArgs false
mutual
def spec_l3End.l0 : Nat → List (S26) → List Int → Int → Int → Int → Option (Int)
 | 0, _, _, _, _, _ => none
 | k + 1, x0, x1, x2, x7, x8 => if 0 < (x0.length : Int) then (if 0 ≤ x2 then (if x2 < (x1.length : Int) then (if 0 ≤ (rd x1 x2) then (if (rd x1 x2) < (((rd_T26 x0 0).f0).length : Int) then (if x8 < ((rd_T90 ((rd_T26 x0 0).f0) (rd x1 x2)).f1) then ((spec_l3End.f k x0 x1 x7).bind fun a0 => (if a0 < 0 then (some (-1)) else (spec_l3End.l0 k x0 x1 x2 a0 (wrap64 (x8 + 1))))) else (some x7)) else (none)) else (none)) else (none)) else (none)) else (none)
def spec_l3End.f : Nat → List (S26) → List Int → Int → Option (Int)
 | 0, _, _, _ => none
 | k + 1, l0, l1, a2 => if a2 ≥ (l1.length : Int) then (some (-1)) else (if 0 ≤ a2 then (if a2 < (l1.length : Int) then (if (rd l1 a2) < 0 then (some (wrap64 (a2 + 1))) else (spec_l3End.l0 k l0 l1 a2 (wrap64 (a2 + 1)) 0)) else (none)) else (none))
end
theorem spec_l3End.calls (k : Nat) : ∀ (A0 : Option Addr) (l0 : List (S26)) (A1 : Option Addr) (c1 : Nat) (l1 : List Int) (a2 : Int) (r : Int) (w : World) (h9 : Kd.C k26 w A0 l0.length l0) (i0 : Kd.C (Kd.int .i64) w A1 l1.length l1) (h8 : l1.length ≤ c1) (h : spec_l3End.f k l0 l1 a2 = some r),
  Calls Tryz.prog 66 #[.pointer A0, .slice A1 l1.length c1, .int .i64 a2] w fun e w' => e = .returned (.int .i64 r) ∧ Drawn0 w w' := by
 induction k using Nat.strongRecOn with
 | _ k ih =>
 intro A0 l0 A1 c1 l1 a2 r w h9 i0 h8 h
 cases k with
 | zero => exact absurd h (by simp [spec_l3End.f])
 | succ k =>
 simp only [spec_l3End.f] at h
 have e4 := am h9
 clear h9
 have e5 := am i0
 have h5 := am h8
 clear i0 h8
 have H : (if a2 ≥ (l1.length : Int) then (some (-1)) else (if 0 ≤ a2 then (if a2 < (l1.length : Int) then (if (rd l1 a2) < 0 then (some (wrap64 (a2 + 1))) else (spec_l3End.l0 k l0 l1 a2 (wrap64 (a2 + 1)) 0)) else (none)) else (none))) = some r := h
 clear h
 by_cases c4 : a2 ≥ (l1.length : Int)
 ·rw [if_pos c4] at H
  have g9 := decide_eq_true c4
  clear c4
  obtain rfl := Option.some.inj H
  go_enter Tryz.func66, Tryz.ntmps66
  go_wp2
  repeat (go_quiet (fail); try go_wp2)
  go_ret
  exact ⟨et, dn⟩
 ·rw [if_neg c4] at H
  have g9 := decide_eq_false c4
  clear c4
  obtain ⟨h6, H⟩ := ife H
  obtain ⟨h7, H⟩ := ife H
  by_cases c7 : (rd l1 a2) < 0
  ·rw [if_pos c7] at H
   have h0 := decide_eq_true c7
   clear c7
   obtain rfl := Option.some.inj H
   have a9 : 0 ≤ (a2 : Int) := od
   have b0 : a2 < (l1.length : Int) := od
   obtain ⟨d0, e8, b9⟩ := Kd.at_int e5.out a2 a9 b0
   cases e8
   obtain ⟨a9, b0⟩ := ee a9 b0
   go_enter Tryz.func66, Tryz.ntmps66
   go_wp2
   repeat (go_quiet (fail); try go_wp2)
   go_ret
   exact ⟨et, dn⟩
  ·rw [if_neg c7] at H
   have h0 := decide_eq_false c7
   clear c7
   have H' := am H
   clear H
   have a9 : 0 ≤ (a2 : Int) := od
   have b0 : a2 < (l1.length : Int) := od
   obtain ⟨d0, e8, b9⟩ := Kd.at_int e5.out a2 a9 b0
   cases e8
   obtain ⟨a9, b0⟩ := ee a9 b0
   go_enter Tryz.func66, Tryz.ntmps66
   go_wp2
   repeat (go_quiet (fail); try go_wp2)
   go_loopg [7, 8] k (fun kq v7 v8 w' => ∃ (c0 : Int) (d5 : Int), v7 = .int .i64 c0 ∧ v8 = .int .i64 d5 ∧ Aside0 (spec_l3End.l0 kq l0 l1 a2 c0 d5 = some r) ∧ Aside0 (kq ≤ k) ∧ Drawn0 w w')
   case atStart => exact ⟨(wrap64 (a2 + 1)), (0), et, et, H', ⟨Nat.le_refl _⟩, dn⟩
   case round =>
    clear H'
    try clear c1; try clear c4; try clear g9; try clear h6; try clear h7; try clear c7; try clear h0; try clear b9; try clear a9; try clear b0
    obtain ⟨c0, d5, rfl, rfl, HA, g6, ⟨m1, rfl⟩⟩ := hrel
    cases gk with
    | zero => exact absurd HA.out (by simp [spec_l3End.l0])
    | succ k1 =>
     have H := HA.out
     clear HA
     simp only [spec_l3End.l0] at H
     obtain ⟨c8, H⟩ := ifs H
     have i4 := decide_eq_true c8
     have i5 : decide (0 < l0.length) = true := decide_eq_true (by omega)
     clear c8
     obtain ⟨i6, H⟩ := ife H
     obtain ⟨i1, H⟩ := ife H
     obtain ⟨i2, H⟩ := ife H
     obtain ⟨i3, H⟩ := ife H
     by_cases g3 : d5 < ((rd_T90 ((rd_T26 l0 0).f0) (rd l1 a2)).f1)
     ·rw [if_pos g3] at H
      have g8 := decide_eq_true g3
      clear g3
      obtain ⟨d4, h4, H⟩ := ob H
      try dsimp only at H
      have g5 := am H
      clear H
      have b1 : 0 ≤ (0 : Int) := (by omega)
      have b5 : 0 < (l0.length : Int) := od
      obtain ⟨d1, e2, e6, e9, a5, a3, a0⟩ := at_T26 e4.out 0 b1 b5
      cases e9
      have h2 : (0 < l0.length) = True := eq_true (by omega)
      (try simp only [t0_] at a5)
      have d8 := am a0
      have d6 := am a3
      clear a0 a3
      obtain ⟨b1, b5⟩ := ee b1 b5
      have b2 : 0 ≤ (0 : Int) := (by omega)
      have b6 : 0 < (l0.length : Int) := od
      obtain ⟨d2, e3, e7, g0, a6, a4, a1⟩ := at_T26 e4.out 0 b2 b6
      obtain rfl : d1 = d2 := (by injection g0)
      have h3 : (0 < l0.length) = True := eq_true (by omega)
      (try simp only [t0_] at a6)
      have a7 := am a1
      have d7 := am a4
      clear a1 a4
      obtain ⟨b2, b6⟩ := ee b2 b6
      obtain ⟨rfl, rfl⟩ := sj a5 a6
      have b3 : 0 ≤ (a2 : Int) := od
      have b7 : a2 < (l1.length : Int) := od
      obtain ⟨d3, g1, d9⟩ := Kd.at_int e5.out a2 b3 b7
      obtain rfl : d0 = d3 := (by injection g1)
      obtain ⟨b3, b7⟩ := ee b3 b7
      have b4 : 0 ≤ ((rd l1 a2) : Int) := od
      have b8 : (rd l1 a2) < (((rd_T26 l0 0).f0).length : Int) := od
      obtain ⟨g7, g2, e0, e1⟩ := at_T90 a7.out (rd l1 a2) b4 b8
      cases g2
      obtain ⟨b4, b8⟩ := ee b4 b8
      go_upto_if 42 with (first | (go_at_call 66; refine (ih k1 (by have := g6.out; omega) _ l0 _ _ l1 c0 d4 _ (cq e4.out) (cq e5.out) h5.out h4.out).mono ?_; rintro e w' ⟨rfl, ⟨nd, rfl⟩⟩; (try first | exact ⟨rfl, _, World.drewN_drewN _ _ _⟩ | exact ⟨rfl, _, Eq.trans (World.drewN_drewN _ _ _) (congrArg (World.drewN _) (Nat.add_assoc _ _ _))⟩)))
      repeat (go_quiet (first | (go_at_call 66; refine (ih k1 (by have := g6.out; omega) _ l0 _ _ l1 c0 d4 _ (cq e4.out) (cq e5.out) h5.out h4.out).mono ?_; rintro e w' ⟨rfl, ⟨nd, rfl⟩⟩; (try first | exact ⟨rfl, _, World.drewN_drewN _ _ _⟩ | exact ⟨rfl, _, Eq.trans (World.drewN_drewN _ _ _) (congrArg (World.drewN _) (Nat.add_assoc _ _ _))⟩))); go_upto_if 42 with (first | (go_at_call 66; refine (ih k1 (by have := g6.out; omega) _ l0 _ _ l1 c0 d4 _ (cq e4.out) (cq e5.out) h5.out h4.out).mono ?_; rintro e w' ⟨rfl, ⟨nd, rfl⟩⟩; (try first | exact ⟨rfl, _, World.drewN_drewN _ _ _⟩ | exact ⟨rfl, _, Eq.trans (World.drewN_drewN _ _ _) (congrArg (World.drewN _) (Nat.add_assoc _ _ _))⟩))))
      have H := g5.out
      clear g5
      by_cases g4 : d4 < 0
      ·rw [if_pos g4] at H
       have a8 := decide_eq_true g4
       clear g4
       (first | rw [a8] | (simp only [i64_w, i32_w]; rw [a8]) | skip)
       obtain rfl := Option.some.inj H
       go_wp2
       repeat (go_quiet (fail); try go_wp2)
       go_ret
       exact ⟨et, dn⟩
      ·rw [if_neg g4] at H
       have a8 := decide_eq_false g4
       clear g4
       (first | rw [a8] | (simp only [i64_w, i32_w]; rw [a8]) | skip)
       have H' := am H
       clear H
       go_wp2
       repeat (go_quiet (fail); try go_wp2)
       go_roundg k1
       case measure => have := g6.out; omega
       case rel => exact ⟨(d4), (wrap64 (d5 + 1)), et, et, H', ⟨by have := g6.out; omega⟩, dn⟩
     ·rw [if_neg g3] at H
      have g8 := decide_eq_false g3
      clear g3
      obtain rfl := Option.some.inj H
      have b1 : 0 ≤ (0 : Int) := (by omega)
      have b5 : 0 < (l0.length : Int) := od
      obtain ⟨d1, e2, e6, e9, a5, a3, a0⟩ := at_T26 e4.out 0 b1 b5
      cases e9
      have h2 : (0 < l0.length) = True := eq_true (by omega)
      (try simp only [t0_] at a5)
      have d8 := am a0
      have d6 := am a3
      clear a0 a3
      obtain ⟨b1, b5⟩ := ee b1 b5
      have b2 : 0 ≤ (0 : Int) := (by omega)
      have b6 : 0 < (l0.length : Int) := od
      obtain ⟨d2, e3, e7, g0, a6, a4, a1⟩ := at_T26 e4.out 0 b2 b6
      obtain rfl : d1 = d2 := (by injection g0)
      have h3 : (0 < l0.length) = True := eq_true (by omega)
      (try simp only [t0_] at a6)
      have a7 := am a1
      have d7 := am a4
      clear a1 a4
      obtain ⟨b2, b6⟩ := ee b2 b6
      obtain ⟨rfl, rfl⟩ := sj a5 a6
      have b3 : 0 ≤ (a2 : Int) := od
      have b7 : a2 < (l1.length : Int) := od
      obtain ⟨d3, g1, d9⟩ := Kd.at_int e5.out a2 b3 b7
      obtain rfl : d0 = d3 := (by injection g1)
      obtain ⟨b3, b7⟩ := ee b3 b7
      have b4 : 0 ≤ ((rd l1 a2) : Int) := od
      have b8 : (rd l1 a2) < (((rd_T26 l0 0).f0).length : Int) := od
      obtain ⟨g7, g2, e0, e1⟩ := at_T90 a7.out (rd l1 a2) b4 b8
      cases g2
      obtain ⟨b4, b8⟩ := ee b4 b8
      go_wp2
      repeat (go_quiet (fail); try go_wp2)
      go_ret
      exact ⟨et, dn⟩
mutual
def spec_l3Fault.j0 : Nat → List (S26) → List Int → Bool → Option (Int)
 | 0, _, _, _ => none
 | k + 1, x0, x1, a0 => if a0 = true then (some 2) else (spec_l3Fault.l0 k x0 x1 0)
def spec_l3Fault.l0 : Nat → List (S26) → List Int → Int → Option (Int)
 | 0, _, _, _ => none
 | k + 1, x0, x1, x5 => if x5 < (x1.length : Int) then (if 0 ≤ x5 then ((spec_l3Node.f x0 (rd x1 x5)).bind fun a0 => (if a0 = true then (spec_l3Fault.l0 k x0 x1 (wrap64 (x5 + 1))) else (some 3))) else (none)) else ((spec_l3End.f k x0 x1 0).bind fun a1 => (if a1 = (x1.length : Int) then (some 0) else (some 1)))
end
def spec_l3Fault.f (k : Nat) (l0 : List (S26)) (l1 : List Int) : Option (Int) := if (l1.length : Int) < 1 then (spec_l3Fault.j0 k l0 l1 true) else (spec_l3Fault.j0 k l0 l1 (decide ((l1.length : Int) > 24)))
theorem spec_l3Fault.calls (k : Nat) (A0 : Option Addr) (l0 : List (S26)) (A1 : Option Addr) (c1 : Nat) (l1 : List Int) (r : Int) (w : World) (d2 : Kd.C k26 w A0 l0.length l0) (d3 : Kd.C (Kd.int .i64) w A1 l1.length l1) (d1 : l1.length ≤ c1) (h : spec_l3Fault.f k l0 l1 = some r) :
  Calls Tryz.prog 31 #[.pointer A0, .slice A1 l1.length c1] w fun e w' => e = .returned (.int .i64 r) ∧ Drawn0 w w' := by
 have b9 := am d2
 clear d2
 have c0 := am d3
 have d6 := am d1
 clear d3 d1
 have H : (if (l1.length : Int) < 1 then (spec_l3Fault.j0 k l0 l1 true) else (spec_l3Fault.j0 k l0 l1 (decide ((l1.length : Int) > 24)))) = some r := h
 clear h
 have b2 := am H
 clear H
 go_enter Tryz.func31, Tryz.ntmps31
 go_upto_region 1 with (fail)
 go_cut [13] (fun d8 wc => ∃ (kq : Nat) (a2 : Bool), d8 = .bool a2 ∧ Aside0 (spec_l3Fault.j0 kq l0 l1 a2 = some r) ∧ Aside0 (kq ≤ k) ∧ Drawn0 w wc)
 case first =>
  have H := b2.out
  clear b2
  by_cases c4 : (l1.length : Int) < 1
  ·rw [if_pos c4] at H
   have a3 := decide_eq_true c4
   have b3 : decide (l1.length < 1) = true := decide_eq_true (by omega)
   clear c4
   (first | rw [a3] | (simp only [i64_w, i32_w]; rw [a3]) | skip)
   have H' := am H
   clear H
   go_wp2
   go_meet
   case rel => exact ⟨_, (true), et, H', lo, dn⟩
  ·rw [if_neg c4] at H
   have a3 := decide_eq_false c4
   have b3 : decide (l1.length < 1) = false := decide_eq_false (by omega)
   clear c4
   (first | rw [a3] | (simp only [i64_w, i32_w]; rw [a3]) | skip)
   have H' := am H
   clear H
   go_wp2
   go_meet
   case rel => exact ⟨_, (decide ((l1.length : Int) > 24)), et, H', lo, dn⟩
 case rest =>
  clear b2
  try clear c1
  obtain ⟨kq, a2, rfl, HA, b7, ⟨d9, rfl⟩⟩ := hcut
  cases kq with
  | zero => exact absurd HA.out (by simp [spec_l3Fault.j0])
  | succ d4 =>
   have H := HA.out
   clear HA
   simp only [spec_l3Fault.j0] at H
   by_cases c5 : a2 = true
   ·subst c5
    rw [if_pos rfl] at H
    obtain rfl := Option.some.inj H
    go_wp2
    go_ret
    exact ⟨et, dn⟩
   ·replace c5 := Bool.eq_false_iff.mpr c5
    subst c5
    rw [if_neg (show ¬ (false = true) by decide)] at H
    have H' := am H
    clear H
    go_wp2
    go_loopg [5] d4 (fun kq v5 w' => ∃ (a0 : Int), v5 = .int .i64 a0 ∧ Aside0 (spec_l3Fault.l0 kq l0 l1 a0 = some r) ∧ Aside0 (kq ≤ d4) ∧ Drawn0 w w')
    case atStart => exact ⟨(0), et, H', ⟨Nat.le_refl _⟩, dn⟩
    case round =>
     clear H'
     try clear c1; try clear c5
     obtain ⟨a0, rfl, HA, b8, ⟨m2, rfl⟩⟩ := hrel
     cases gk with
     | zero => exact absurd HA.out (by simp [spec_l3Fault.l0])
     | succ k2 =>
      have H := HA.out
      clear HA
      simp only [spec_l3Fault.l0] at H
      by_cases c6 : a0 < (l1.length : Int)
      ·rw [if_pos c6] at H
       have b4 := decide_eq_true c6
       clear c6
       obtain ⟨d7, H⟩ := ife H
       obtain ⟨a9, A8, H⟩ := ob H
       try dsimp only at H
       have b6 := am H
       clear H
       have a4 : 0 ≤ (a0 : Int) := od
       have a5 : a0 < (l1.length : Int) := od
       obtain ⟨d0, b5, b1⟩ := Kd.at_int c0.out a0 a4 a5
       cases b5
       obtain ⟨a4, a5⟩ := ee a4 a5
       go_upto_if 26 with (first | (refine gl (some 25) Tryz.func65 rfl #[.pointer A0, .int .i64 (rd l1 a0)] ?_; refine (spec_l3Node.calls _ l0 (rd l1 a0) a9 _ (cq b9.out) A8.out).mono ?_; rintro e w' ⟨rfl, ⟨nd, rfl⟩⟩; refine ⟨_, rfl, ?_⟩))
       have H := b6.out
       clear b6
       by_cases c10 : a9 = true
       ·subst c10
        rw [if_pos rfl] at H
        have H' := am H
        clear H
        go_wp2
        go_roundg k2
        case measure => have := b7.out; have := b8.out; omega
        case rel => exact ⟨(wrap64 (a0 + 1)), et, H', ⟨by have := b7.out; have := b8.out; omega⟩, dn⟩
       ·replace c10 := Bool.eq_false_iff.mpr c10
        subst c10
        rw [if_neg (show ¬ (false = true) by decide)] at H
        obtain rfl := Option.some.inj H
        go_wp2
        go_ret
        exact ⟨et, dn⟩
      ·rw [if_neg c6] at H
       have b4 := decide_eq_false c6
       clear c6
       obtain ⟨b0, d5, H⟩ := ob H
       try dsimp only at H
       have a6 := am H
       clear H
       go_upto_if 32 with (first | (refine gl (some 29) Tryz.func66 rfl #[.pointer A0, .slice A1 l1.length c1, .int .i64 0] ?_; refine (spec_l3End.calls k2 _ l0 _ _ l1 0 b0 _ (cq b9.out) (cq c0.out) d6.out d5.out).mono ?_; rintro e w' ⟨rfl, ⟨nd, rfl⟩⟩; refine ⟨_, rfl, ?_⟩))
       have H := a6.out
       clear a6
       by_cases a7 : b0 = (l1.length : Int)
       ·rw [if_pos a7] at H
        obtain ⟨a1, a8⟩ := bqt a7; clear a7
        (first | rw [a1] | (simp only [i64_w, i32_w]; rw [a1]) | skip)
        obtain rfl := Option.some.inj H
        go_wp2
        go_ret
        exact ⟨et, dn⟩
       ·rw [if_neg a7] at H
        obtain ⟨a1, a8⟩ := bqf a7
        (first | rw [a1] | (simp only [i64_w, i32_w]; rw [a1]) | skip)
        obtain rfl := Option.some.inj H
        go_wp2
        go_ret
        exact ⟨et, dn⟩
def spec_TermFault.f (k : Nat) (a0 : List (S90)) (l1 : List Int) : Option (Int) := (spec_SignatureFault.f k a0).bind fun a1 => (if a1 = 0 then ((spec_l3Fault.f k [(⟨a0⟩ : S26)] l1).bind fun a2 => (some a2)) else (some a1))
theorem spec_TermFault.calls (k : Nat) (a4 : Option Addr) (a5 : Nat) (a0 : List (S90)) (A1 : Option Addr) (c1 : Nat) (l1 : List Int) (r : Int) (w : World) (a9 : Kd.C k90 w a4 a0.length a0) (a8 : a0.length ≤ a5) (b9 : Kd.C (Kd.int .i64) w A1 l1.length l1) (b8 : l1.length ≤ c1) (h : spec_TermFault.f k a0 l1 = some r) :
  Calls Tryz.prog 30 #[.agg #[.slice a4 a0.length a5], .slice A1 l1.length c1] w fun e w' => e = .returned (.int .i64 r) ∧ Below w.heap.size w w' := by
 have d1 := Tryz.underlying26
 have a7 := am a9
 have a6 := am a8
 clear a9 a8
 have d0 := am b9
 have c0 := am b8
 clear b9 b8
 have HB := am (Below.refl w.heap.size w)
 have H : ((spec_SignatureFault.f k a0).bind fun a3 => (if a3 = 0 then ((spec_l3Fault.f k [(⟨a0⟩ : S26)] l1).bind fun b0 => (some b0)) else (some a3))) = some r := h
 clear h
 obtain ⟨a3, A3, H⟩ := ob H
 try dsimp only at H
 have b7 := am H
 clear H
 go_enter Tryz.func30, Tryz.ntmps30
 go_upto_if 9 with (first | (refine bx 2 rfl #[.slice a4 a0.length a5] 26 ?_; intro b2 hg w5 hbox hb; have a1 := am (hbox); have b1 := am (bz hg (hq HB.out)); replace HB := sb HB hb; have b6 := b1; clear hb hbox hg; have b4 := c0_ a1; have b5 := blk_frozen a1.out 0) | (refine gl (some 7) Tryz.func49 rfl #[.agg #[.slice a4 a0.length a5]] ?_; refine (spec_SignatureFault.calls k _ _ a0 a3 _ (cq (Kd.C_below a7.out HB.out)) a6.out A3.out).mono ?_; rintro e w7 ⟨rfl, hb⟩; refine ⟨_, rfl, ?_⟩; replace a1 := bb a1 hb; replace HB := sb HB hb; clear hb))
 have H := b7.out
 clear b7
 by_cases c8 : a3 = 0
 ·rw [if_pos c8] at H
  obtain ⟨a2, b3⟩ := bqt c8; clear c8
  (first | rw [a2] | (simp only [i64_w, i32_w]; rw [a2]) | skip)
  obtain ⟨b0, A9, H⟩ := ob H
  try dsimp only at H
  obtain rfl := Option.some.inj H
  go_wp2_with (first | (refine gl (some 12) Tryz.func31 rfl #[.pointer (some ⟨b2, 0, none⟩), .slice A1 l1.length c1] ?_; refine (spec_l3Fault.calls k _ [(⟨a0⟩ : S26)] _ _ l1 b0 _ (k26_box (bq a1.out) (cq (Kd.C_below a7.out HB.out)) (by exact a6.out)) (cq (Kd.C_below d0.out HB.out)) c0.out A9.out).mono ?_; rintro e w' ⟨rfl, ⟨nd, rfl⟩⟩; refine ⟨_, rfl, ?_⟩))
  go_ret
  exact ⟨er, hs HB.out⟩
 ·rw [if_neg c8] at H
  obtain ⟨a2, b3⟩ := bqf c8
  (first | rw [a2] | (simp only [i64_w, i32_w]; rw [a2]) | skip)
  obtain rfl := Option.some.inj H
  go_wp2
  go_ret
  exact ⟨er, hs HB.out⟩
attribute [local go_sem] max2_int min2_int max_two min_two max_three min_three max_four min_four   -- for this text's walks alone
set_option linter.unusedVariables false
set_option linter.unusedSimpArgs false
mutual
def spec_l4Text.l0 : Nat → List (S26) → List Int → ByteArray → Int → Int → ByteArray → Int → Option (ByteArray)
 | 0, _, _, _, _, _, _, _ => none
 | k + 1, x0, x1, x8, x9, a4, a1, a0 => if a4 < a0 then (if a4 > 0 then (if x8.size + 1 ≤ 9223372036854775807 then ((spec_l4Text.f k x0 x1 x9).bind fun a2 => (if (x8 ++ (⟨#[44]⟩ : ByteArray)).size + a2.size ≤ 9223372036854775807 then ((spec_l3End.f k x0 x1 x9).bind fun a5 => (spec_l4Text.l0 k x0 x1 ((x8 ++ (⟨#[44]⟩ : ByteArray)) ++ a2) a5 (wrap64 (a4 + 1)) a1 a0)) else (none))) else (none)) else ((spec_l4Text.f k x0 x1 x9).bind fun a3 => (if x8.size + a3.size ≤ 9223372036854775807 then ((spec_l3End.f k x0 x1 x9).bind fun a6 => (spec_l4Text.l0 k x0 x1 (x8 ++ a3) a6 (wrap64 (a4 + 1)) a1 a0)) else (none)))) else (if x8.size + 1 ≤ 9223372036854775807 then (some (x8 ++ (⟨#[41]⟩ : ByteArray))) else (none))
def spec_l4Text.f : Nat → List (S26) → List Int → Int → Option (ByteArray)
 | 0, _, _, _ => none
 | k + 1, l0, l1, a2 => if 0 ≤ a2 then (if a2 < (l1.length : Int) then (if (rd l1 a2) < 0 then (some (strOfNums (([(wrap64 (64 - (rd l1 a2))) % 256] : List Int)))) else (if 0 < (l0.length : Int) then (if 0 ≤ (rd l1 a2) then (if (rd l1 a2) < (((rd_T26 l0 0).f0).length : Int) then (if ((rd_T90 ((rd_T26 l0 0).f0) (rd l1 a2)).f1) = 0 then (some ((rd_T90 ((rd_T26 l0 0).f0) (rd l1 a2)).f0)) else (if ((rd_T90 ((rd_T26 l0 0).f0) (rd l1 a2)).f0).size + 1 ≤ 9223372036854775807 then (spec_l4Text.l0 k l0 l1 (((rd_T90 ((rd_T26 l0 0).f0) (rd l1 a2)).f0) ++ (⟨#[40]⟩ : ByteArray)) (wrap64 (a2 + 1)) 0 ((rd_T90 ((rd_T26 l0 0).f0) (rd l1 a2)).f0) ((rd_T90 ((rd_T26 l0 0).f0) (rd l1 a2)).f1)) else (none))) else (none)) else (none)) else (none))) else (none)) else (none)
end
def spec_l4Text.T3 : Bool × List (List Nat × List Nat) := (true, [([], []), ([0], [0]), ([1], [1]), ([2], [2]), ([], []), ([], []), ([4, 5], [4, 5]), ([6], [6]), ([3, 7], [3, 7]), ([8], [8]), ([], []), ([10, 9, 0, 1, 2, 3, 4, 5, 6, 7, 8, 9, 10], [9, 10])])
def spec_l4Text.B3 : List Nat := [0, 1, 3, 7, 0, 0, 48, 112, 255, 511, 0, 2047]
theorem spec_l4Text.tab3 : rtab .any (opsOf Tryz.f75 3) = spec_l4Text.T3 := by kernel_rfl
theorem spec_l4Text.bits3 : waitsOk spec_l4Text.T3.2 spec_l4Text.B3 = true := by kernel_rfl
theorem spec_l4Text.calls (k : Nat) : ∀ (A0 : Option Addr) (l0 : List (S26)) (A1 : Option Addr) (c1 : Nat) (l1 : List Int) (a2 : Int) (r : ByteArray) (w : World) (o9 : Kd.C k26 w A0 l0.length l0) (p0 : Kd.C (Kd.int .i64) w A1 l1.length l1) (o8 : l1.length ≤ c1) (h : spec_l4Text.f k l0 l1 a2 = some r),
  Calls Tryz.prog 75 #[.pointer A0, .slice A1 l1.length c1, .int .i64 a2] w fun e w' => e = .returned (.string r) ∧ Below w.heap.size w w' := by
 induction k using Nat.strongRecOn with
 | _ k ih =>
 intro A0 l0 A1 c1 l1 a2 r w o9 p0 o8 h
 cases k with
 | zero => exact absurd h (by simp [spec_l4Text.f])
 | succ k =>
 simp only [spec_l4Text.f] at h
 have r8 := Tryz.underlying90
 have h8 := am o9
 clear o9
 have g9 := am p0
 have k7 := am o8
 clear p0 o8
 have HB := am (Below.refl w.heap.size w)
 have H : (if 0 ≤ a2 then (if a2 < (l1.length : Int) then (if (rd l1 a2) < 0 then (some (strOfNums (([(wrap64 (64 - (rd l1 a2))) % 256] : List Int)))) else (if 0 < (l0.length : Int) then (if 0 ≤ (rd l1 a2) then (if (rd l1 a2) < (((rd_T26 l0 0).f0).length : Int) then (if ((rd_T90 ((rd_T26 l0 0).f0) (rd l1 a2)).f1) = 0 then (some ((rd_T90 ((rd_T26 l0 0).f0) (rd l1 a2)).f0)) else (if ((rd_T90 ((rd_T26 l0 0).f0) (rd l1 a2)).f0).size + 1 ≤ 9223372036854775807 then (spec_l4Text.l0 k l0 l1 (((rd_T90 ((rd_T26 l0 0).f0) (rd l1 a2)).f0) ++ (⟨#[40]⟩ : ByteArray)) (wrap64 (a2 + 1)) 0 ((rd_T90 ((rd_T26 l0 0).f0) (rd l1 a2)).f0) ((rd_T90 ((rd_T26 l0 0).f0) (rd l1 a2)).f1)) else (none))) else (none)) else (none)) else (none))) else (none)) else (none)) = some r := h
 clear h
 obtain ⟨o1, H⟩ := ife H
 obtain ⟨o2, H⟩ := ife H
 by_cases c6 : (rd l1 a2) < 0
 ·rw [if_pos c6] at H
  have k3 := decide_eq_true c6
  clear c6
  obtain ⟨p1, d8⟩ : ∃ y_ : List Int, y_ = (([(wrap64 (64 - (rd l1 a2))) % 256] : List Int)) := ⟨_, rfl⟩
  replace H : (some (strOfNums p1)) = some r := by first | (rw [d8]; first | with_reducible exact H | with_reducible exact bs H) | with_reducible exact bs H | with_reducible exact H | (rw [d8]; exact H) | exact H
  have h0 := am d8
  clear d8
  obtain rfl := Option.some.inj H
  have d0 : 0 ≤ (a2 : Int) := od
  have d1 : a2 < (l1.length : Int) := od
  obtain ⟨b1, h3, d7⟩ := Kd.at_int g9.out a2 d0 d1
  cases h3
  obtain ⟨d0, d1⟩ := ee d0 d1
  have h4 : 0 ≤ (a2 : Int) := od
  have h5 : a2 < (l1.length : Int) := od
  obtain ⟨i4, o3, n2⟩ := Kd.at_int g9.out a2 h4 h5
  obtain rfl : b1 = i4 := (by injection o3)
  obtain ⟨h4, h5⟩ := ee h4 h5
  go_enter Tryz.func75, Tryz.ntmps75
  go_wp2_with (first | ((with_reducible refine gate_dst (N := 22) rfl ?_); refine Kd.R_lit (Kd.int .u8) _ 5 ?hg (N := 22) ?hd (xs := ([(wrap64 (64 - (rd l1 a2))) % 256] : List Int)) (inner := [.int .u8 ((wrap64 (64 - (rd l1 a2))) % 256)]) (ok := fun _ => True) (okp := fun _ => True) ?hr ?hp (fun _ hk => hk) trivial (Below.refl _ _) (Nat.le_refl _) (by simp) ?_; (case hd => rfl); (case hg => rfl); (case hr => first | (go_simp; done) | (go_simp; rfl)); (case hp => exact (Reps.one (show Kd.M (Kd.int .u8) _ _ _ ((wrap64 (64 - (rd l1 a2))) % 256) [.int .u8 ((wrap64 (64 - (rd l1 a2))) % 256)] from rfl) (Reps.none _ _))); intro s0 w7 k4 hb r5 hnew_; clear r5 hnew_; (first | rw [← h0.out] at k4 | (simp only [Int.reduceToNat] at k4; rw [← h0.out] at k4)); have i3 := am (Kd.R_lower k4 (below_size (hq HB.out))); replace HB := sb HB hb; clear hb k4; have r4 := own_string (P := Tryz.prog) Tryz.underlying22 Tryz.underlying5 Tryz.underlying9 (Kd.own_of_R i3.out)))
  go_ret
  exact ⟨er, hq HB.out⟩
 ·rw [if_neg c6] at H
  have k3 := decide_eq_false c6
  clear c6
  obtain ⟨c10, H⟩ := ifs H
  have i7 := decide_eq_true c10
  have i9 : decide (0 < l0.length) = true := decide_eq_true (by omega)
  clear c10
  obtain ⟨j5, H⟩ := ife H
  obtain ⟨j6, H⟩ := ife H
  have i2 := am H
  clear H
  have d0 : 0 ≤ (a2 : Int) := od
  have d1 : a2 < (l1.length : Int) := od
  obtain ⟨b1, h3, d7⟩ := Kd.at_int g9.out a2 d0 d1
  cases h3
  obtain ⟨d0, d1⟩ := ee d0 d1
  go_enter Tryz.func75, Tryz.ntmps75
  try go_wp2
  replace HB := am (below_drew1 HB.out)
  have g0 : 0 ≤ (0 : Int) := (by omega)
  have g4 : 0 < (l0.length : Int) := od
  obtain ⟨b5, n3, e0, o4, a3, d5, d3⟩ := at_T26 h8.out 0 g0 g4
  have a6 := a3
  (try simp only [t0_] at a6)
  cases o4
  have q7 : (0 < l0.length) = True := eq_true (by omega)
  (try simp only [t0_] at a3)
  replace a3 := cz HB.out a3
  have e1 := am d3
  have k8 := am d5
  clear d3 d5
  obtain ⟨g0, g4⟩ := ee g0 g4
  have g1 : 0 ≤ (0 : Int) := (by omega)
  have g5 : 0 < (l0.length : Int) := od
  obtain ⟨i5, n4, o0, o5, a4, d6, d4⟩ := at_T26 h8.out 0 g1 g5
  have a7 := a4
  (try simp only [t0_] at a7)
  obtain rfl : b5 = i5 := (by injection o5)
  have q8 : (0 < l0.length) = True := eq_true (by omega)
  (try simp only [t0_] at a4)
  replace a4 := cz HB.out a4
  have d2 := am d4
  have k9 := am d6
  clear d4 d6
  obtain ⟨g1, g5⟩ := ee g1 g5
  obtain ⟨rfl, rfl⟩ := sj a3 a4
  have g2 : 0 ≤ (a2 : Int) := od
  have g6 : a2 < (l1.length : Int) := od
  obtain ⟨i6, o6, a8⟩ := Kd.at_int g9.out a2 g2 g6
  have b2 := a8
  obtain rfl : b1 = i6 := (by injection o6)
  replace a8 := cz HB.out a8
  obtain ⟨g2, g6⟩ := ee g2 g6
  have g3 : 0 ≤ ((rd l1 a2) : Int) := od
  have g7 : (rd l1 a2) < (((rd_T26 l0 0).f0).length : Int) := od
  obtain ⟨c0, o7, a9, b0⟩ := at_T90 d2.out (rd l1 a2) g3 g7
  have b4 := b0
  have b3 := a9
  cases o7
  replace a9 := cz HB.out a9
  replace b0 := cz HB.out b0
  obtain ⟨g3, g7⟩ := ee g3 g7
  refine st_ (n := 12) (S := fun w' => w'.cell? b5 = some (.slice (some c0) ((rd_T26 l0 0).f0).length e0) ∧ w'.cell? b5 = some (.slice (some c0) ((rd_T26 l0 0).f0).length e0) ∧ w'.cell? (b1.add (a2).toNat) = some (.int .i64 (rd l1 a2)) ∧ w'.cell? (c0.add (((rd l1 a2)).toNat * 2)) = some (.string ((rd_T90 ((rd_T26 l0 0).f0) (rd l1 a2)).f0)) ∧ w'.cell? ⟨(c0.add (((rd l1 a2)).toNat * 2)).block, (c0.add (((rd l1 a2)).toNat * 2)).off + 1, none⟩ = some (.int .i64 ((rd_T90 ((rd_T26 l0 0).f0) (rd l1 a2)).f1))) (ds := []) ⟨(cz HB.out a6), (cz HB.out a7), (cz HB.out b2), (cz HB.out b3), (cz HB.out b4)⟩ (fun hHeld => ?_); refine with_tabW spec_l4Text.tab3 spec_l4Text.bits3 (fun d9 n6 => ?_)
  generalize w.drew = s1 at HB e1 d2 a3 a4 a8 a9 b0 hHeld ⊢
  refine pu 0 24 rfl rfl d9 ?_
  refine pu 1 25 rfl rfl d9 ?_
  refine pu 2 26 rfl rfl d9 ?_
  refine pu 4 28 rfl rfl d9 ?_
  refine pu 5 29 rfl rfl d9 ?_
  refine pu 6 30 rfl rfl d9 ?_
  refine tk 3 27 rfl rfl d9 n6 hHeld ?_
  refine tk 7 31 rfl rfl d9 n6 hHeld ?_
  refine pu 8 32 rfl rfl d9 ?_
  refine tk 9 33 rfl rfl d9 n6 hHeld ?_
  refine on_ 10 (some 7) rfl rfl d9 (fun K hK => ?_)
  refine box_step ?hg (N := 7) ?hd (cs := #[.string (⟨#[]⟩ : ByteArray), .int .i64 0]) (t := 90) ?hr ?_; (case hd => rfl); (case hg => rfl); (case hr => first | (go_simp; done) | (go_simp; rfl))
  intro a1 hg q9 hbox hb
  have a0 := am (hbox)
  have a5 := am (bz hg (hq HB.out))
  have p2 := am (bz hg (hq HB.out))
  replace HB := sb HB hb
  clear hb hbox hg
  refine hK.out _ _ ⟨(cz HB.out a6), (cz HB.out a7), (cz HB.out b2), (cz HB.out b3), (cz HB.out b4)⟩ (fun hHeld => ?_)
  clear hK K
  refine nr (some 7) ?_
  refine on_ 11 none rfl rfl d9 (fun K hK => ?_)
  have r6 : q9.cell? ⟨a1, 0, none⟩ = some (.string (⟨#[]⟩ : ByteArray)) := (blk_cell a0.out 0).trans rfl
  have q5 := blk_frozen a0.out 0
  have r7 : q9.cell? ⟨a1, 1, none⟩ = some (.int .i64 0) := (blk_cell a0.out 1).trans rfl
  have q6 := blk_frozen a0.out 1
  refine skip_ (w1 := ?_) (by rfl) rfl ?_ ?_
  rotate_left
  ·go_simp
   rfl
  refine hK.out _ _ ⟨((cell_far (p := ⟨a1, _, none⟩) (ac a6 a5) _).trans (((cell_far (p := ⟨a1, _, none⟩) (ac a6 a5) _).trans (hHeld.1)))), ((cell_far (p := ⟨a1, _, none⟩) (ac a7 a5) _).trans (((cell_far (p := ⟨a1, _, none⟩) (ac a7 a5) _).trans (hHeld.2.1)))), ((cell_far (p := ⟨a1, _, none⟩) (ac b2 a5) _).trans (((cell_far (p := ⟨a1, _, none⟩) (ac b2 a5) _).trans (hHeld.2.2.1)))), ((cell_far (p := ⟨a1, _, none⟩) (ac b3 a5) _).trans (((cell_far (p := ⟨a1, _, none⟩) (ac b3 a5) _).trans (hHeld.2.2.2.1)))), ((cell_far (p := ⟨a1, _, none⟩) (ac b4 a5) _).trans (((cell_far (p := ⟨a1, _, none⟩) (ac b4 a5) _).trans (hHeld.2.2.2.2))))⟩ (fun hHeld => ?_)
  clear hK K
  refine done_ (done_of d9.out (by kernel_rfl)) ?_
  have e2 := c0_ a0
  have e3 := c1_ a0
  have e6 := blk_frozen a0.out 0
  have e7 := blk_frozen a0.out 1
  go_upto_if 36 with (fail)
  have H := i2.out
  clear i2
  by_cases h9 : ((rd_T90 ((rd_T26 l0 0).f0) (rd l1 a2)).f1) = 0
  ·rw [if_pos h9] at H
   obtain ⟨b9, h2⟩ := bqt h9; clear h9
   (first | rw [b9] | (simp only [i64_w, i32_w]; rw [b9]) | skip)
   obtain rfl := Option.some.inj H
   have l6 := c0_ a0
   have l7 := c1_ a0
   have m4 := blk_frozen a0.out 0
   have m5 := blk_frozen a0.out 1
   go_wp2
   go_ret
   exact ⟨er, hs HB.out⟩
  ·rw [if_neg h9] at H
   obtain ⟨b9, h2⟩ := bqf h9
   (first | rw [b9] | (simp only [i64_w, i32_w]; rw [b9]) | skip)
   obtain ⟨l4, H⟩ := ifs H
   have j7 := eq_true l4
   have j8 := decide_eq_true l4
   try have j9 : (9223372036854775807 < ((rd_T90 ((rd_T26 l0 0).f0) (rd l1 a2)).f0).size + 1) = False := eq_false (Nat.not_lt.2 l4)
   have H' := am H
   clear H
   have e4 := c0_ a0
   have e5 := c1_ a0
   have e8 := blk_frozen a0.out 0
   have e9 := blk_frozen a0.out 1
   go_wp2
   go_loopg [8, 9, 10] k (fun kq v8 v9 r9 w' => ∃ (b8 : ByteArray) (b7 : Int) (b6 : Int), v8 = .string b8 ∧ v9 = .int .i64 b7 ∧ r9 = .int .i64 b6 ∧ Aside0 (spec_l4Text.l0 kq l0 l1 b8 b7 b6 ((rd_T90 ((rd_T26 l0 0).f0) (rd l1 a2)).f0) ((rd_T90 ((rd_T26 l0 0).f0) (rd l1 a2)).f1) = some r) ∧ Aside0 (kq ≤ k) ∧ Aside0 (w'.heap[a1]? = some (.cells #[.string ((rd_T90 ((rd_T26 l0 0).f0) (rd l1 a2)).f0), .int .i64 ((rd_T90 ((rd_T26 l0 0).f0) (rd l1 a2)).f1)] 90 (0, 0))) ∧ Aside0 (Below w.heap.size w w'))
   case atStart => exact ⟨(((rd_T90 ((rd_T26 l0 0).f0) (rd l1 a2)).f0) ++ (⟨#[40]⟩ : ByteArray)), (wrap64 (a2 + 1)), (0), et, et, et, H', ⟨Nat.le_refl _⟩, ⟨by refine bq ?_; refine blk_put (cs := #[.string ((rd_T90 ((rd_T26 l0 0).f0) (rd l1 a2)).f0), .int .i64 0]) ?_ 1 _ rfl; refine bq ?_; refine blk_put (cs := #[.string (⟨#[]⟩ : ByteArray), .int .i64 0]) ?_ 0 _ rfl; refine bq ?_; exact a0.out⟩, ⟨hs HB.out⟩⟩
   case round =>
    clear H'
    try clear c1; try clear o1; try clear o2; try clear c6; try clear k3; try clear c10; try clear i7; try clear i9; try clear j5; try clear j6; try clear h9; try clear b9; try clear h2; try clear l4; try clear j7; try clear j8; try clear j9; try clear e2; try clear e3; try clear e4; try clear e5; try clear e6; try clear e7; try clear e8; try clear e9; try clear d7; try clear a3; try clear a4; try clear a8; try clear a9; try clear b0; try clear d0; try clear g0; try clear g1; try clear g2; try clear g3; try clear d1; try clear g4; try clear g5; try clear g6; try clear g7
    obtain ⟨b8, b7, b6, rfl, rfl, rfl, HA, h7, a0, HB⟩ := hrel
    cases gk with
    | zero => exact absurd HA.out (by simp [spec_l4Text.l0])
    | succ k1 =>
     have H := HA.out
     clear HA
     simp only [spec_l4Text.l0] at H
     by_cases i0 : b6 < ((rd_T90 ((rd_T26 l0 0).f0) (rd l1 a2)).f1)
     ·rw [if_pos i0] at H
      have k0 := decide_eq_true i0
      clear i0
      by_cases i1 : b6 > 0
      ·rw [if_pos i1] at H
       have k2 := decide_eq_true i1
       clear i1
       obtain ⟨n7, H⟩ := ifs H
       have p3 := eq_true n7
       have p4 := decide_eq_true n7
       try have p5 : (9223372036854775807 < b8.size + 1) = False := eq_false (Nat.not_lt.2 n7)
       obtain ⟨g8, r0, H⟩ := ob H
       try dsimp only at H
       obtain ⟨l5, H⟩ := ifs H
       have p6 := eq_true l5
       have p7 := decide_eq_true l5
       try have p8 : (9223372036854775807 < (b8 ++ (⟨#[44]⟩ : ByteArray)).size + g8.size) = False := eq_false (Nat.not_lt.2 l5)
       try have c27z_ : (9223372036854775807 < b8.size + 1 + g8.size) = False := (by have h_ := l5; simp only [ByteArray.size_append] at h_; exact eq_false (Nat.not_lt.2 h_))
       obtain ⟨k5, r1, H⟩ := ob H
       try dsimp only at H
       have H' := am H
       clear H
       have l8 := c0_ a0
       have l9 := c1_ a0
       have m6 := blk_frozen a0.out 0
       have m7 := blk_frozen a0.out 1
       go_wp2_with (first | (refine gl (some 58) Tryz.func75 rfl #[.pointer (some b5), .slice (some b1) l1.length c1, .int .i64 b7] ?_; refine (ih k1 (by have := h7.out; omega) _ l0 _ _ l1 b7 g8 _ (cq (Kd.C_below h8.out HB.out)) (cq (Kd.C_below g9.out HB.out)) k7.out r0.out).mono ?_; rintro e s2 ⟨rfl, hb⟩; refine ⟨_, rfl, ?_⟩; replace a0 := bb a0 hb; replace HB := sb HB hb; clear hb; (try clear hk)) | (refine gl (some 63) Tryz.func66 rfl #[.pointer (some b5), .slice (some b1) l1.length c1, .int .i64 b7] ?_; refine (spec_l3End.calls k1 _ l0 _ _ l1 b7 k5 _ (cq (Kd.C_below h8.out HB.out)) (cq (Kd.C_below g9.out HB.out)) k7.out r1.out).mono ?_; rintro e w' ⟨rfl, ⟨nd, rfl⟩⟩; refine ⟨_, rfl, ?_⟩))
       go_roundg k1
       case measure => have := h7.out; omega
       case rel => exact ⟨((b8 ++ (⟨#[44]⟩ : ByteArray)) ++ g8), (k5), (wrap64 (b6 + 1)), et, et, et, H', ⟨by have := h7.out; omega⟩, ⟨bq a0.out⟩, ⟨hs HB.out⟩⟩
      ·rw [if_neg i1] at H
       have k2 := decide_eq_false i1
       clear i1
       obtain ⟨h6, r2, H⟩ := ob H
       try dsimp only at H
       obtain ⟨n8, H⟩ := ifs H
       have p9 := eq_true n8
       have q0 := decide_eq_true n8
       try have q1 : (9223372036854775807 < b8.size + h6.size) = False := eq_false (Nat.not_lt.2 n8)
       obtain ⟨k6, r3, H⟩ := ob H
       try dsimp only at H
       have H' := am H
       clear H
       have m0 := c0_ a0
       have m1 := c1_ a0
       have m8 := blk_frozen a0.out 0
       have m9 := blk_frozen a0.out 1
       go_wp2_with (first | (refine gl (some 58) Tryz.func75 rfl #[.pointer (some b5), .slice (some b1) l1.length c1, .int .i64 b7] ?_; refine (ih k1 (by have := h7.out; omega) _ l0 _ _ l1 b7 h6 _ (cq (Kd.C_below h8.out HB.out)) (cq (Kd.C_below g9.out HB.out)) k7.out r2.out).mono ?_; rintro e s3 ⟨rfl, hb⟩; refine ⟨_, rfl, ?_⟩; replace a0 := bb a0 hb; replace HB := sb HB hb; clear hb; (try clear hk)) | (refine gl (some 63) Tryz.func66 rfl #[.pointer (some b5), .slice (some b1) l1.length c1, .int .i64 b7] ?_; refine (spec_l3End.calls k1 _ l0 _ _ l1 b7 k6 _ (cq (Kd.C_below h8.out HB.out)) (cq (Kd.C_below g9.out HB.out)) k7.out r3.out).mono ?_; rintro e w' ⟨rfl, ⟨nd, rfl⟩⟩; refine ⟨_, rfl, ?_⟩))
       go_roundg k1
       case measure => have := h7.out; omega
       case rel => exact ⟨(b8 ++ h6), (k6), (wrap64 (b6 + 1)), et, et, et, H', ⟨by have := h7.out; omega⟩, ⟨bq a0.out⟩, ⟨hs HB.out⟩⟩
     ·rw [if_neg i0] at H
      have k0 := decide_eq_false i0
      clear i0
      obtain ⟨n9, H⟩ := ifs H
      have q2 := eq_true n9
      have q3 := decide_eq_true n9
      try have q4 : (9223372036854775807 < b8.size + 1) = False := eq_false (Nat.not_lt.2 n9)
      obtain rfl := Option.some.inj H
      have m2 := c0_ a0
      have m3 := c1_ a0
      have n0 := blk_frozen a0.out 0
      have n1 := blk_frozen a0.out 1
      go_wp2
      go_ret
      exact ⟨er, hs HB.out⟩
def spec_TermText.f (k : Nat) (a0 : List (S90)) (l1 : List Int) : Option (Int × ByteArray) := (spec_TermFault.f k a0 l1).bind fun a1 => (if a1 = 0 then ((spec_l4Text.f k [(⟨a0⟩ : S26)] l1 0).bind fun a2 => (some (0, a2))) else (some (a1, (⟨#[]⟩ : ByteArray))))
theorem spec_TermText.calls (k : Nat) (a7 : Option Addr) (a8 : Nat) (a2 : List (S90)) (A1 : Option Addr) (c1 : Nat) (l1 : List Int) (r1 : Int) (r2 : ByteArray) (w : World) (b4 : Kd.C k90 w a7 a2.length a2) (b3 : a2.length ≤ a8) (e8 : Kd.C (Kd.int .i64) w A1 l1.length l1) (e3 : l1.length ≤ c1) (h : spec_TermText.f k a2 l1 = some (r1, r2)) :
  Calls Tryz.prog 44 #[.agg #[.slice a7 a2.length a8], .slice A1 l1.length c1] w fun e w' => e = .returned (.agg #[.int .i64 r1, .string r2]) ∧ Below w.heap.size w w' := by
 have g2 := Tryz.underlying26
 have g3 := Tryz.underlying46
 have b1 := am b4
 have b0 := am b3
 clear b4 b3
 have e2 := am e8
 have e0 := am e3
 clear e8 e3
 have HB := am (Below.refl w.heap.size w)
 have H : ((spec_TermFault.f k a2 l1).bind fun a5 => (if a5 = 0 then ((spec_l4Text.f k [(⟨a2⟩ : S26)] l1 0).bind fun a9 => (some (0, a9))) else (some (a5, (⟨#[]⟩ : ByteArray))))) = some (r1, r2) := h
 clear h
 obtain ⟨a5, A3, H⟩ := ob H
 try dsimp only at H
 have e1 := am H
 clear H
 go_enter Tryz.func44, Tryz.ntmps44
 go_upto_if 10 with (first | (refine bx 2 rfl #[.slice a7 a2.length a8] 26 ?_; intro b8 hg w5 hbox hb; have a1 := am (hbox); have b5 := am (bz hg (hq HB.out)); replace HB := sb HB hb; have d8 := b5; clear hb hbox hg) | (refine bx 4 rfl #[.int .i64 0, .string (⟨#[]⟩ : ByteArray)] 46 ?_; intro b2 hg w6 hbox hb; have a0 := am (hbox); have b6 := am (bz hg (hs HB.out)); replace HB := sb HB hb; have d9 := b6; have a6 := nl hg a1; have a3 := ng hg a1; replace a1 := bb a1 hb; clear hb hbox hg; obtain ⟨g0, g1⟩ := nn a6; have d6 := c0_ a1; have d7 := blk_frozen a1.out 0) | (refine gl (some 8) Tryz.func30 rfl #[.agg #[.slice a7 a2.length a8], .slice A1 l1.length c1] ?_; refine (spec_TermFault.calls k _ _ a2 _ _ l1 a5 _ (cq (Kd.C_below b1.out HB.out)) b0.out (cq (Kd.C_below e2.out HB.out)) e0.out A3.out).mono ?_; rintro e w9 ⟨rfl, hb⟩; refine ⟨_, rfl, ?_⟩; replace a1 := bb a1 hb; replace a0 := bb a0 hb; replace HB := sb HB hb; clear hb))
 have H := e1.out
 clear e1
 by_cases c10 : a5 = 0
 ·rw [if_pos c10] at H
  obtain ⟨a4, b7⟩ := bqt c10; clear c10
  (first | rw [a4] | (simp only [i64_w, i32_w]; rw [a4]) | skip)
  obtain ⟨a9, e9, H⟩ := ob H
  try dsimp only at H
  simp only [Option.some.injEq, Prod.mk.injEq] at H
  obtain ⟨rfl, rfl⟩ := H
  go_wp2_with (first | (refine gl (some 14) Tryz.func75 rfl #[.pointer (some ⟨b8, 0, none⟩), .slice A1 l1.length c1, .int .i64 0] ?_; refine (spec_l4Text.calls k _ [(⟨a2⟩ : S26)] _ _ l1 0 a9 _ (k26_box (bq a1.out) (cq (Kd.C_below b1.out HB.out)) (by exact b0.out)) (cq (Kd.C_below e2.out HB.out)) e0.out e9.out).mono ?_; rintro e g4 ⟨rfl, hb⟩; refine ⟨_, rfl, ?_⟩; replace a1 := bb a1 hb; replace a0 := bb a0 hb; replace HB := sb HB hb; (try clear hb); obtain ⟨e4, e6⟩ := nn a3; have b9 := c0_ a0; have c0 := c1_ a0; have d2 := blk_frozen a0.out 0; have d3 := blk_frozen a0.out 1))
  refine bodyPost_ret (results_cell_row rfl _ _ b2 46 #[.int .i64 0, .string a9] (0, 0) _ rfl (by refine bq ?_; refine blk_put (cs := #[.int .i64 0, .string (⟨#[]⟩ : ByteArray)]) ?_ 1 _ rfl; refine bq ?_; refine blk_put (cs := #[.int .i64 0, .string (⟨#[]⟩ : ByteArray)]) ?_ 0 _ rfl; refine bq ?_; exact a0.out) Tryz.underlying46 rfl (by kernel_rfl)) rfl ?_
  exact ⟨er, hs HB.out⟩
 ·rw [if_neg c10] at H
  obtain ⟨a4, b7⟩ := bqf c10
  (first | rw [a4] | (simp only [i64_w, i32_w]; rw [a4]) | skip)
  simp only [Option.some.injEq, Prod.mk.injEq] at H
  obtain ⟨rfl, rfl⟩ := H
  obtain ⟨e5, e7⟩ := nn a3
  have d0 := c0_ a0
  have d1 := c1_ a0
  have d4 := blk_frozen a0.out 0
  have d5 := blk_frozen a0.out 1
  go_wp2
  refine bodyPost_ret (results_cell_row rfl _ _ b2 46 #[.int .i64 a5, .string (⟨#[]⟩ : ByteArray)] (0, 0) _ rfl (by refine bq ?_; refine blk_put (cs := #[.int .i64 a5, .string (⟨#[]⟩ : ByteArray)]) ?_ 1 _ rfl; refine bq ?_; refine blk_put (cs := #[.int .i64 0, .string (⟨#[]⟩ : ByteArray)]) ?_ 0 _ rfl; refine bq ?_; exact a0.out) Tryz.underlying46 rfl (by kernel_rfl)) rfl ?_
  exact ⟨er, hs HB.out⟩
def spec_DrawReadTerm.f (k : Nat) (l0 : List Int) : Option ((List (S90)) × ByteArray) := (spec_l3One.f k l0).bind fun a0 => ((spec_TermText.f k a0.1 a0.2.1).bind fun a1 => ((spec_l4Spoil.f k a0.2.2.1 a0.2.2.2 a1.2).bind fun a2 => (some (a0.1, a2.1))))
def spec_DrawReadTerm.T2 : Bool × List (List Nat × List Nat) := (true, [([], []), ([], []), ([], []), ([], []), ([2, 3], [2, 3]), ([4], [4]), ([1, 5, 4], [1, 5]), ([0, 6, 0], [0]), ([6, 7, 0, 1, 2, 3, 4, 5, 6, 7], [6])])
def spec_DrawReadTerm.B2 : List Nat := [0, 0, 0, 0, 12, 28, 62, 127, 255]
theorem spec_DrawReadTerm.tab2 : rtab .any (opsOf Tryz.f14 2) = spec_DrawReadTerm.T2 := by kernel_rfl
theorem spec_DrawReadTerm.bits2 : waitsOk spec_DrawReadTerm.T2.2 spec_DrawReadTerm.B2 = true := by kernel_rfl
theorem spec_DrawReadTerm.calls (k : Nat) (A0 : Option Addr) (c0 : Nat) (l0 : List Int) (r1 : List (S90)) (r2 : ByteArray) (w : World) (h5 : Kd.C (Kd.int .u8) w A0 l0.length l0) (g8 : l0.length ≤ c0) (h : spec_DrawReadTerm.f k l0 = some (r1, r2)) :
  Calls Tryz.prog 14 #[.slice A0 l0.length c0] w fun e w' => ∃ h6 : Value, e = .returned (.tuple #[.agg #[h6], .string r2]) ∧ Kd.R k90 90 w' w.heap.size (fun _ => True) h6 r1 ∧ Below w.heap.size w w' := by
 have i5 := Tryz.underlying26
 have d9 : ∀ (j5 h7 : Value) (w_ : World), (Instr.field 46 (.agg #[j5, h7]) 1).run Tryz.prog w_ = .ok (h7) w_ := fun _ _ _ => by kernel_rfl
 have h9 := am h5
 have h8 := am g8
 clear h5 g8
 have HB := am (Below.refl w.heap.size w)
 have H : ((spec_l3One.f k l0).bind fun a9 => ((spec_TermText.f k a9.1 a9.2.1).bind fun d5 => ((spec_l4Spoil.f k a9.2.2.1 a9.2.2.2 d5.2).bind fun d6 => (some (a9.1, d6.1))))) = some (r1, r2) := h
 clear h
 obtain ⟨⟨a6, b8, b9, c1⟩, A2, H⟩ := ob H
 try dsimp only at H
 obtain ⟨⟨g1, d0⟩, A3, H⟩ := ob H
 try dsimp only at H
 obtain ⟨⟨g2, g3⟩, A4, H⟩ := ob H
 try dsimp only at H
 simp only [Option.some.injEq, Prod.mk.injEq] at H
 obtain ⟨rfl, rfl⟩ := H
 go_enter Tryz.func14, Tryz.ntmps14
 try go_wp2_with (first | (refine bx 2 rfl #[.slice none 0 0] 26 ?_; intro b0 hg w5 hbox hb; have a0 := am (hbox); have d3 := am (bz hg (hq HB.out)); replace HB := sb HB hb; have g5 := d3; clear hb hbox hg) | (refine gl (some 9) Tryz.func42 rfl #[.slice A0 l0.length c0] ?_; refine (spec_l3One.calls k _ _ l0 a6 b8 b9 c1 w _ (hs HB.out) h9.out h8.out A2.out).mono ?_; rintro e w6 ⟨i6, g4, b6, rfl, h3, h4, hi, hb, d2, hgw⟩; refine ⟨_, rfl, ?_⟩; have a3 := am (Kd.R_lower h3 (below_size (hs HB.out))); have a4 := am (Kd.R_lower h4 (below_size (hs HB.out))); replace HB := am (hb); have a1 := am (hi); have d1 := am (IsS86.ne_blk hi (blk_below (bq a0.out) d2) (by decide)); have b3 := am (Ne.symm (IsS86.ne_blk hi (blk_below (bq a0.out) d2) (by decide))); replace a0 := am (blk_below (bq a0.out) d2); clear hb d2 hgw hi h3 h4; (try clear hk)) | (refine bx 4 rfl #[.slice none 0 0] 26 ?_; intro a5 hg w7 hbox hb; replace a3 := rb a3 hb; replace a4 := rb a4 hb; have a2 := am (hbox); have d4 := am (bz hg (hsk HB.out (IsS86.ge a1.out))); replace HB := am (below_step (hsk HB.out (IsS86.ge a1.out)) hb); have g6 := d4; have b4 := nl hg a0; have a7 := ng hg a0; replace a0 := bb a0 hb; have b5 := am ((by rw [hg]; exact Nat.ne_of_lt (IsS86.lt (show IsS86 w _ b6 b9 c1 from IsS86.q a1.out)) : b6 ≠ a5)); replace a1 := IsS86.bl a1 hb; have a8 := am b5.out.symm; clear hb hbox hg; obtain ⟨b1, b2, rfl⟩ := Kd.R_slice a3.out; obtain ⟨i2, i3⟩ := nn a7; obtain ⟨h0, h2⟩ := nn a8; have d8 := c0_ a2; have e0 := blk_frozen a2.out 0))
 have e5 : Aside0 (Kd.R k90 90 (w7.setCell ⟨a5, 0, none⟩ (.slice b1 a6.length b2)) w.heap.size (fun _ => True) (.slice b1 a6.length b2) a6) := ⟨rq (Kd.R_mono (Kd.R_far (p := ⟨a5, 0, none⟩) (Kd.R_types a3.out a2.out (by decide)) (fun _ hk => hk.2) (.slice b1 a6.length b2)) (fun _ hk => trivial))⟩
 have e6 : Aside0 (Kd.R (Kd.int .i64) 2 (w7.setCell ⟨a5, 0, none⟩ (.slice b1 a6.length b2)) w.heap.size (fun _ => True) g4 b8) := ⟨rq (Kd.R_mono (Kd.R_far (p := ⟨a5, 0, none⟩) (Kd.R_types a4.out a2.out (by decide)) (fun _ hk => hk.2) (.slice b1 a6.length b2)) (fun _ hk => trivial))⟩
 have e7 : Aside0 ((w7.setCell ⟨a5, 0, none⟩ (.slice b1 a6.length b2)).heap[b0]? = some (.cells #[.slice none 0 0] 26 (0, 0))) := ⟨bf a0.out⟩
 have e8 : Aside0 ((w7.setCell ⟨a5, 0, none⟩ (.slice b1 a6.length b2)).heap[a5]? = some (.cells #[.slice b1 a6.length b2] 26 (0, 0))) := ⟨by refine bq ?_; refine blk_put (cs := #[.slice none 0 0]) ?_ 0 _ rfl; refine bq ?_; exact a2.out⟩
 have e9 : Aside0 (IsS86 w (w7.setCell ⟨a5, 0, none⟩ (.slice b1 a6.length b2)) b6 b9 c1) := ⟨IsS86.q a1.out⟩
 have g0 : Aside0 (Below w.heap.size w (w7.setCell ⟨a5, 0, none⟩ (.slice b1 a6.length b2))) := ⟨hsk HB.out (IsS86.ge a1.out)⟩
 (try clear a3)
 (try clear a4)
 (try clear a0)
 (try clear a2)
 (try clear a1)
 (try clear HB)
 (try simp only [Go.IntKind.wrap_u8])
 generalize (w7.setCell ⟨a5, 0, none⟩ (.slice b1 a6.length b2)) = i7 at e5 e6 e7 e8 e9 g0 ⊢
 have a3 := e5
 have a4 := e6
 have a0 := e7
 have a2 := e8
 have a1 := e9
 have HB := g0
 clear e5 e6 e7 e8 e9 g0
 replace a3 := am (Kd.R_drew a3.out)
 replace a4 := am (Kd.R_drew a4.out)
 replace a0 := am (blk_drew a0.out)
 replace a2 := am (blk_drew a2.out)
 replace a1 := am (IsS86.drew a1.out)
 replace HB := am (below_drew1 HB.out)
 obtain ⟨e3, e4, d7⟩ := Kd.R_slice a4.out
 (first | subst d7 | (injection d7 with f1_ f2_ f3_; have i0 := f1_.symm; have i1 := f3_.symm; clear f1_ f2_ f3_; subst i0; subst i1))
 refine st_ (n := 9) (S := fun w' => w'.cell? ⟨a5, 0, none⟩ = some (.slice b1 a6.length b2)) (ds := []) ((blk_cell a2.out 0).trans rfl) (fun hHeld => ?_); refine with_tabW spec_DrawReadTerm.tab2 spec_DrawReadTerm.bits2 (fun b7 g7 => ?_)
 generalize i7.drew = j6 at a3 a4 a0 a2 a1 HB hHeld ⊢
 refine pu 1 14 rfl rfl b7 ?_
 refine pu 3 16 rfl rfl b7 ?_
 refine tk 0 13 rfl rfl b7 g7 hHeld ?_
 refine tk 2 15 rfl rfl b7 g7 hHeld ?_
 refine on_ 4 (some 17) rfl rfl b7 (fun K hK => ?_)
 refine gs Tryz.func44 #[.agg #[.slice b1 a6.length b2], .slice e3 b8.length e4] ?_
 refine (spec_TermText.calls k _ _ a6 _ _ b8 g1 d0 _ (cq (Kd.R_reads' a3.out).2.2) ((Kd.R_reads' a3.out).2.1) (cq (Kd.R_reads' a4.out).2.2) ((Kd.R_reads' a4.out).2.1) A3.out).mono ?_
 rintro e j7 ⟨rfl, hb⟩
 refine ⟨_, rfl, ?_⟩
 replace a3 := rb a3 hb
 replace a4 := rb a4 hb
 replace a0 := bb a0 hb
 replace a2 := bb a2 hb
 replace HB := am (below_step (hsk HB.out (IsS86.ge a1.out)) hb)
 replace a1 := IsS86.bl a1 hb
 (try clear hb)
 (try clear d2)
 (try clear hgw)
 (try clear hk)
 (try clear hi)
 refine hK.out _ _ ((blk_cell a2.out 0).trans rfl) (fun hHeld => ?_)
 clear hK K
 refine nr (some 17) ?_
 refine pu 5 18 rfl rfl b7 ?_
 refine on_ 6 (some 19) rfl rfl b7 (fun K hK => ?_)
 refine gs Tryz.func43 #[.pointer (some ⟨b6, 0, none⟩), .string d0] ?_
 refine (spec_l4Spoil.calls k b6 b9 c1 d0 g2 g3 w _ (IsS86.q a1.out) (hsk HB.out (IsS86.ge a1.out)) A4.out).mono ?_
 rintro e i9 ⟨rfl, hi, hb, hk⟩
 refine ⟨_, rfl, ?_⟩
 replace a0 := kb hk a0 b3
 replace a3 := IsS86.rk a1 a3 hk
 replace a4 := IsS86.rk a1 a4 hk
 replace a2 := kb hk a2 a8
 replace HB := am (hb)
 replace a1 := am (hi)
 (try clear hb)
 (try clear d2)
 (try clear hgw)
 (try clear hk)
 (try clear hi)
 refine hK.out _ _ ((blk_cell a2.out 0).trans rfl) (fun hHeld => ?_)
 clear hK K
 refine nr (some 19) ?_
 refine on_ 7 none rfl rfl b7 (fun K hK => ?_)
 have i4 : i9.cell? ⟨b0, 0, none⟩ = some (.slice none 0 0) := (blk_cell a0.out 0).trans rfl
 have g9 := blk_frozen a0.out 0
 have e2 := a7.out
 have e1 := b4.out
 refine skip_ (w1 := ?_) (by rfl) rfl ?_ ?_
 rotate_left
 ·go_simp
  rfl
 refine hK.out _ _ (((cell_far (p := ⟨b0, _, none⟩) a7.out _).trans (hHeld))) (fun hHeld => ?_)
 clear hK K
 refine pu 8 3 rfl rfl b7 ?_
 refine done_ (done_of b7.out (by kernel_rfl)) ?_
 try go_wp2
 refine bodyPost_ret (results_ct rfl _ _ b0 26 #[.slice b1 a6.length b2] (0, 0) _ rfl (by refine bq ?_; refine blk_put (cs := #[.slice none 0 0]) ?_ 0 _ rfl; refine bq ?_; exact a0.out) Tryz.underlying26 rfl (by kernel_rfl)) rfl ?_
 exact ⟨_, er, rq (Kd.R_mono (Kd.R_far (p := ⟨b0, 0, none⟩) (Kd.R_types a3.out a0.out (by decide)) (fun _ hk => hk.2) (.slice b1 a6.length b2)) (fun _ hk => trivial)), hsk HB.out (IsS86.ge a1.out)⟩
end Go.Proofs.YtbdpnkpienpnaaaGreatDoor.P
