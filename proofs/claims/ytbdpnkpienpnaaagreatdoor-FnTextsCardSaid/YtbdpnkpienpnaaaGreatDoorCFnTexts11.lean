/- A part of the proof of the law FnTexts. -/
import Derived.Test.YtbdpnkpienpnaaaGreatDoorCFnTexts10
set_option maxHeartbeats 8000000
set_option maxRecDepth 100000
namespace Go.Proofs.YtbdpnkpienpnaaaGreatDoor.P
open Go.RowKit Go.Proofs.YtbdpnkpienpnaaaGreatDoorW.PrintWords Go.Proofs.YtbdpnkpienpnaaaGreatDoorW.PrintLast Go.Proofs.YtbdpnkpienpnaaaGreatDoorW.PrintMore
attribute [local go_sem] max2_int min2_int max_two min_two max_three min_three max_four min_four   -- for this text's walks alone
set_option linter.unusedVariables false
set_option linter.unusedSimpArgs false
def spec_l4Pool.l0 : Nat → List (S26) → List ByteArray → Int → Int → Int → List Int → Int → Option (List Int × List Int × Int)
 | 0, _, _, _, _, _, _, _ => none
 | k + 1, x1, x5, x6, x7, x8, a1, a2 => if x8 < x6 then (if 0 < (x1.length : Int) then (if x6 = 0 then (none) else (if 0 ≤ (Int.tmod (wrap64 (x7 + x8)) x6) then (if (Int.tmod (wrap64 (x7 + x8)) x6) < (x5.length : Int) then ((spec_ReadEquation.f k ((rd_T26 x1 0).f0) (rdOf ByteArray.empty x5 (Int.tmod (wrap64 (x7 + x8)) x6))).bind fun a0 => (if a0.1 = 0 then (some (a0.2.1, a0.2.2, a2)) else (spec_l4Pool.l0 k x1 x5 x6 x7 (wrap64 (x8 + 1)) a1 a2))) else (none)) else (none))) else (none)) else ((spec_l3Draw.f k a1 a2 x1 4 2).bind fun a3 => ((spec_l3Draw.f k a1 a3.2 x1 2 2).bind fun a4 => (some (a3.1, a4.1, a4.2))))
def spec_l4Pool.f (k : Nat) (a2 : List Int) (a3 : Int) (l1 : List (S26)) : Option (List Int × List Int × Int) := (some (([(⟨#[109, 40, 101, 44, 65, 41, 61, 65]⟩ : ByteArray), (⟨#[109, 40, 65, 44, 101, 41, 61, 65]⟩ : ByteArray), (⟨#[109, 40, 105, 40, 65, 41, 44, 65, 41, 61, 101]⟩ : ByteArray), (⟨#[105, 40, 105, 40, 65, 41, 41, 61, 65]⟩ : ByteArray), (⟨#[105, 40, 101, 41, 61, 101]⟩ : ByteArray), (⟨#[97, 100, 100, 40, 97, 44, 65, 41, 61, 65]⟩ : ByteArray), (⟨#[97, 100, 100, 40, 115, 117, 99, 40, 65, 41, 44, 66, 41, 61, 115, 117, 99, 40, 97, 100, 100, 40, 65, 44, 66, 41, 41]⟩ : ByteArray), (⟨#[102, 40, 103, 40, 65, 41, 41, 61, 65]⟩ : ByteArray), (⟨#[102, 40, 102, 40, 65, 41, 41, 61, 65]⟩ : ByteArray), (⟨#[103, 40, 102, 40, 97, 41, 41, 61, 97]⟩ : ByteArray), (⟨#[109, 40, 109, 40, 65, 44, 66, 41, 44, 67, 41, 61, 109, 40, 65, 44, 109, 40, 66, 44, 67, 41, 41]⟩ : ByteArray), (⟨#[115, 117, 99, 40, 115, 117, 99, 40, 65, 41, 41, 61, 65]⟩ : ByteArray), (⟨#[98, 61, 97]⟩ : ByteArray), (⟨#[109, 40, 97, 44, 97, 41, 61, 97]⟩ : ByteArray), (⟨#[97, 100, 100, 40, 65, 44, 98, 41, 61, 65]⟩ : ByteArray), (⟨#[115, 117, 99, 40, 98, 41, 61, 97]⟩ : ByteArray), (⟨#[102, 40, 102, 40, 102, 40, 97, 41, 41, 41, 61, 97]⟩ : ByteArray), (⟨#[105, 40, 109, 40, 65, 44, 66, 41, 41, 61, 109, 40, 105, 40, 66, 41, 44, 105, 40, 65, 41, 41]⟩ : ByteArray)] : List ByteArray) : List ByteArray)).bind fun a1 => ((spec_l1Next.f a2 a3 (a1.length : Int)).bind fun a0 => (spec_l4Pool.l0 k l1 a1 (a1.length : Int) a0.1 0 a2 a0.2))
def spec_l4Pool.T7 : Bool × List (List Nat × List Nat) := (true, [([], []), ([0], [0]), ([1], [1]), ([], []), ([], []), ([], []), ([4, 5], [4, 5]), ([], []), ([6, 7], [6, 7]), ([3, 8], [3, 8]), ([9], [9]), ([2, 10], [2, 10]), ([], []), ([12, 11, 11, 0, 1, 2, 3, 4, 5, 6, 7, 8, 9, 10, 11, 12], [11, 12])])
def spec_l4Pool.B7 : List Nat := [0, 1, 3, 0, 0, 0, 48, 0, 240, 504, 1016, 2047, 0, 8191]
theorem spec_l4Pool.tab7 : rtab .any (opsOf Tryz.f139 7) = spec_l4Pool.T7 := by kernel_rfl
theorem spec_l4Pool.bits7 : waitsOk spec_l4Pool.T7.2 spec_l4Pool.B7 = true := by kernel_rfl
theorem spec_l4Pool.calls (k : Nat) (g : Nat) (b0 : List Int) (h0 : Int) (A1 : Option Addr) (l1 : List (S26)) (r1 : List Int) (r2 : List Int) (r3 : Int) (w0 w : World) (hI : IsS86 w0 w g b0 h0) (hB : Below w0.heap.size w0 w) (u5 : ∀ W_, KeepBut w W_ g none → Kd.C k26 W_ A1 l1.length l1) (h : spec_l4Pool.f k b0 h0 l1 = some (r1, r2, r3)) :
  Calls Tryz.prog 139 #[.pointer (some ⟨g, 0, none⟩), .pointer A1] w fun e w' => ∃ r5 r6 : Value, e = .returned (.agg #[r5, r6]) ∧ Kd.R (Kd.int .i64) 2 w' w.heap.size (fun k_ => some k_ ≠ (r6 : Value).ownBlock) r5 r1 ∧ Kd.R (Kd.int .i64) 2 w' w.heap.size (fun k_ => some k_ ≠ (r5 : Value).ownBlock) r6 r2 ∧ IsS86 w0 w' g b0 r3 ∧ Below w0.heap.size w0 w' ∧ KeepBut w w' g none := by
 have v7 := Tryz.underlying29
 have v6 := Tryz.underlying26
 have v9 := Tryz.underlying33
 have g1 := am u5
 clear u5
 have a7 := am hI
 have HK := am (KeepBut.refl w g none)
 have HL := am hB.size
 clear hI
 have p3 := am hB.size
 have HB := am hB
 clear hB
 have H : ((some (([(⟨#[109, 40, 101, 44, 65, 41, 61, 65]⟩ : ByteArray), (⟨#[109, 40, 65, 44, 101, 41, 61, 65]⟩ : ByteArray), (⟨#[109, 40, 105, 40, 65, 41, 44, 65, 41, 61, 101]⟩ : ByteArray), (⟨#[105, 40, 105, 40, 65, 41, 41, 61, 65]⟩ : ByteArray), (⟨#[105, 40, 101, 41, 61, 101]⟩ : ByteArray), (⟨#[97, 100, 100, 40, 97, 44, 65, 41, 61, 65]⟩ : ByteArray), (⟨#[97, 100, 100, 40, 115, 117, 99, 40, 65, 41, 44, 66, 41, 61, 115, 117, 99, 40, 97, 100, 100, 40, 65, 44, 66, 41, 41]⟩ : ByteArray), (⟨#[102, 40, 103, 40, 65, 41, 41, 61, 65]⟩ : ByteArray), (⟨#[102, 40, 102, 40, 65, 41, 41, 61, 65]⟩ : ByteArray), (⟨#[103, 40, 102, 40, 97, 41, 41, 61, 97]⟩ : ByteArray), (⟨#[109, 40, 109, 40, 65, 44, 66, 41, 44, 67, 41, 61, 109, 40, 65, 44, 109, 40, 66, 44, 67, 41, 41]⟩ : ByteArray), (⟨#[115, 117, 99, 40, 115, 117, 99, 40, 65, 41, 41, 61, 65]⟩ : ByteArray), (⟨#[98, 61, 97]⟩ : ByteArray), (⟨#[109, 40, 97, 44, 97, 41, 61, 97]⟩ : ByteArray), (⟨#[97, 100, 100, 40, 65, 44, 98, 41, 61, 65]⟩ : ByteArray), (⟨#[115, 117, 99, 40, 98, 41, 61, 97]⟩ : ByteArray), (⟨#[102, 40, 102, 40, 102, 40, 97, 41, 41, 41, 61, 97]⟩ : ByteArray), (⟨#[105, 40, 109, 40, 65, 44, 66, 41, 41, 61, 109, 40, 105, 40, 66, 41, 44, 105, 40, 65, 41, 41]⟩ : ByteArray)] : List ByteArray) : List ByteArray)).bind fun a5 => ((spec_l1Next.f b0 h0 (a5.length : Int)).bind fun d7 => (spec_l4Pool.l0 k l1 a5 (a5.length : Int) d7.1 0 b0 d7.2))) = some (r1, r2, r3) := h
 clear h
 obtain ⟨a5, g7⟩ : ∃ y_ : List ByteArray, y_ = (([(⟨#[109, 40, 101, 44, 65, 41, 61, 65]⟩ : ByteArray), (⟨#[109, 40, 65, 44, 101, 41, 61, 65]⟩ : ByteArray), (⟨#[109, 40, 105, 40, 65, 41, 44, 65, 41, 61, 101]⟩ : ByteArray), (⟨#[105, 40, 105, 40, 65, 41, 41, 61, 65]⟩ : ByteArray), (⟨#[105, 40, 101, 41, 61, 101]⟩ : ByteArray), (⟨#[97, 100, 100, 40, 97, 44, 65, 41, 61, 65]⟩ : ByteArray), (⟨#[97, 100, 100, 40, 115, 117, 99, 40, 65, 41, 44, 66, 41, 61, 115, 117, 99, 40, 97, 100, 100, 40, 65, 44, 66, 41, 41]⟩ : ByteArray), (⟨#[102, 40, 103, 40, 65, 41, 41, 61, 65]⟩ : ByteArray), (⟨#[102, 40, 102, 40, 65, 41, 41, 61, 65]⟩ : ByteArray), (⟨#[103, 40, 102, 40, 97, 41, 41, 61, 97]⟩ : ByteArray), (⟨#[109, 40, 109, 40, 65, 44, 66, 41, 44, 67, 41, 61, 109, 40, 65, 44, 109, 40, 66, 44, 67, 41, 41]⟩ : ByteArray), (⟨#[115, 117, 99, 40, 115, 117, 99, 40, 65, 41, 41, 61, 65]⟩ : ByteArray), (⟨#[98, 61, 97]⟩ : ByteArray), (⟨#[109, 40, 97, 44, 97, 41, 61, 97]⟩ : ByteArray), (⟨#[97, 100, 100, 40, 65, 44, 98, 41, 61, 65]⟩ : ByteArray), (⟨#[115, 117, 99, 40, 98, 41, 61, 97]⟩ : ByteArray), (⟨#[102, 40, 102, 40, 102, 40, 97, 41, 41, 41, 61, 97]⟩ : ByteArray), (⟨#[105, 40, 109, 40, 65, 44, 66, 41, 41, 61, 109, 40, 105, 40, 66, 41, 44, 105, 40, 65, 41, 41]⟩ : ByteArray)] : List ByteArray)) := ⟨_, rfl⟩
 replace H : ((spec_l1Next.f b0 h0 (a5.length : Int)).bind fun d7 => (spec_l4Pool.l0 k l1 a5 (a5.length : Int) d7.1 0 b0 d7.2)) = some (r1, r2, r3) := by first | (rw [g7]; first | with_reducible exact H | with_reducible exact bs H) | with_reducible exact bs H | with_reducible exact H | (rw [g7]; exact H) | exact H
 have i6 := am g7
 clear g7
 obtain ⟨⟨i1, d3⟩, A3, H⟩ := ob H
 try dsimp only at H
 have H' := am H
 clear H
 go_enter Tryz.func139, Tryz.ntmps139
 go_wp2_with (first | (refine bx 4 rfl #[.slice none 0 0, .slice none 0 0] 29 ?_; intro a8 hg w4 hbox hb; replace HB := am (below_step (hsk HB.out (IsS86.ge a7.out)) hb); have a0 := am (hbox); have k7 := am ((by rw [hg]; exact (keep_size (w := w) (g := g) (row := none) (kq HK.out)) : w.heap.size ≤ a8)); replace HK := ku HK hb; have r8 := am (Nat.le_trans p3.out k7.out); have h7 := am ((by rw [hg]; exact Nat.ne_of_lt (IsS86.lt (show IsS86 w0 _ g b0 h0 from IsS86.q a7.out)) : g ≠ a8)); replace a7 := IsS86.bl a7 hb; have b3 := am h7.out.symm; clear hb hbox hg) | ((with_reducible refine gate_dst (N := 10) rfl ?_); refine Kd.R_lit Kd.string _ 9 ?hg (N := 10) ?hd (xs := ([(⟨#[109, 40, 101, 44, 65, 41, 61, 65]⟩ : ByteArray), (⟨#[109, 40, 65, 44, 101, 41, 61, 65]⟩ : ByteArray), (⟨#[109, 40, 105, 40, 65, 41, 44, 65, 41, 61, 101]⟩ : ByteArray), (⟨#[105, 40, 105, 40, 65, 41, 41, 61, 65]⟩ : ByteArray), (⟨#[105, 40, 101, 41, 61, 101]⟩ : ByteArray), (⟨#[97, 100, 100, 40, 97, 44, 65, 41, 61, 65]⟩ : ByteArray), (⟨#[97, 100, 100, 40, 115, 117, 99, 40, 65, 41, 44, 66, 41, 61, 115, 117, 99, 40, 97, 100, 100, 40, 65, 44, 66, 41, 41]⟩ : ByteArray), (⟨#[102, 40, 103, 40, 65, 41, 41, 61, 65]⟩ : ByteArray), (⟨#[102, 40, 102, 40, 65, 41, 41, 61, 65]⟩ : ByteArray), (⟨#[103, 40, 102, 40, 97, 41, 41, 61, 97]⟩ : ByteArray), (⟨#[109, 40, 109, 40, 65, 44, 66, 41, 44, 67, 41, 61, 109, 40, 65, 44, 109, 40, 66, 44, 67, 41, 41]⟩ : ByteArray), (⟨#[115, 117, 99, 40, 115, 117, 99, 40, 65, 41, 41, 61, 65]⟩ : ByteArray), (⟨#[98, 61, 97]⟩ : ByteArray), (⟨#[109, 40, 97, 44, 97, 41, 61, 97]⟩ : ByteArray), (⟨#[97, 100, 100, 40, 65, 44, 98, 41, 61, 65]⟩ : ByteArray), (⟨#[115, 117, 99, 40, 98, 41, 61, 97]⟩ : ByteArray), (⟨#[102, 40, 102, 40, 102, 40, 97, 41, 41, 41, 61, 97]⟩ : ByteArray), (⟨#[105, 40, 109, 40, 65, 44, 66, 41, 41, 61, 109, 40, 105, 40, 66, 41, 44, 105, 40, 65, 41, 41]⟩ : ByteArray)] : List ByteArray)) (inner := [.string (⟨#[109, 40, 101, 44, 65, 41, 61, 65]⟩ : ByteArray), .string (⟨#[109, 40, 65, 44, 101, 41, 61, 65]⟩ : ByteArray), .string (⟨#[109, 40, 105, 40, 65, 41, 44, 65, 41, 61, 101]⟩ : ByteArray), .string (⟨#[105, 40, 105, 40, 65, 41, 41, 61, 65]⟩ : ByteArray), .string (⟨#[105, 40, 101, 41, 61, 101]⟩ : ByteArray), .string (⟨#[97, 100, 100, 40, 97, 44, 65, 41, 61, 65]⟩ : ByteArray), .string (⟨#[97, 100, 100, 40, 115, 117, 99, 40, 65, 41, 44, 66, 41, 61, 115, 117, 99, 40, 97, 100, 100, 40, 65, 44, 66, 41, 41]⟩ : ByteArray), .string (⟨#[102, 40, 103, 40, 65, 41, 41, 61, 65]⟩ : ByteArray), .string (⟨#[102, 40, 102, 40, 65, 41, 41, 61, 65]⟩ : ByteArray), .string (⟨#[103, 40, 102, 40, 97, 41, 41, 61, 97]⟩ : ByteArray), .string (⟨#[109, 40, 109, 40, 65, 44, 66, 41, 44, 67, 41, 61, 109, 40, 65, 44, 109, 40, 66, 44, 67, 41, 41]⟩ : ByteArray), .string (⟨#[115, 117, 99, 40, 115, 117, 99, 40, 65, 41, 41, 61, 65]⟩ : ByteArray), .string (⟨#[98, 61, 97]⟩ : ByteArray), .string (⟨#[109, 40, 97, 44, 97, 41, 61, 97]⟩ : ByteArray), .string (⟨#[97, 100, 100, 40, 65, 44, 98, 41, 61, 65]⟩ : ByteArray), .string (⟨#[115, 117, 99, 40, 98, 41, 61, 97]⟩ : ByteArray), .string (⟨#[102, 40, 102, 40, 102, 40, 97, 41, 41, 41, 61, 97]⟩ : ByteArray), .string (⟨#[105, 40, 109, 40, 65, 44, 66, 41, 41, 61, 109, 40, 105, 40, 66, 41, 44, 105, 40, 65, 41, 41]⟩ : ByteArray)]) (ok := fun _ => True) (okp := fun _ => True) ?hr ?hp (fun _ hk => hk) trivial (Below.refl _ _) (Nat.le_refl _) (by simp) ?_; (case hd => rfl); (case hg => rfl); (case hr => first | (go_simp; done) | (go_simp; rfl)); (case hp => exact (Reps.one (show Kd.M Kd.string _ _ _ (⟨#[109, 40, 101, 44, 65, 41, 61, 65]⟩ : ByteArray) [.string (⟨#[109, 40, 101, 44, 65, 41, 61, 65]⟩ : ByteArray)] from rfl) (Reps.one (show Kd.M Kd.string _ _ _ (⟨#[109, 40, 65, 44, 101, 41, 61, 65]⟩ : ByteArray) [.string (⟨#[109, 40, 65, 44, 101, 41, 61, 65]⟩ : ByteArray)] from rfl) (Reps.one (show Kd.M Kd.string _ _ _ (⟨#[109, 40, 105, 40, 65, 41, 44, 65, 41, 61, 101]⟩ : ByteArray) [.string (⟨#[109, 40, 105, 40, 65, 41, 44, 65, 41, 61, 101]⟩ : ByteArray)] from rfl) (Reps.one (show Kd.M Kd.string _ _ _ (⟨#[105, 40, 105, 40, 65, 41, 41, 61, 65]⟩ : ByteArray) [.string (⟨#[105, 40, 105, 40, 65, 41, 41, 61, 65]⟩ : ByteArray)] from rfl) (Reps.one (show Kd.M Kd.string _ _ _ (⟨#[105, 40, 101, 41, 61, 101]⟩ : ByteArray) [.string (⟨#[105, 40, 101, 41, 61, 101]⟩ : ByteArray)] from rfl) (Reps.one (show Kd.M Kd.string _ _ _ (⟨#[97, 100, 100, 40, 97, 44, 65, 41, 61, 65]⟩ : ByteArray) [.string (⟨#[97, 100, 100, 40, 97, 44, 65, 41, 61, 65]⟩ : ByteArray)] from rfl) (Reps.one (show Kd.M Kd.string _ _ _ (⟨#[97, 100, 100, 40, 115, 117, 99, 40, 65, 41, 44, 66, 41, 61, 115, 117, 99, 40, 97, 100, 100, 40, 65, 44, 66, 41, 41]⟩ : ByteArray) [.string (⟨#[97, 100, 100, 40, 115, 117, 99, 40, 65, 41, 44, 66, 41, 61, 115, 117, 99, 40, 97, 100, 100, 40, 65, 44, 66, 41, 41]⟩ : ByteArray)] from rfl) (Reps.one (show Kd.M Kd.string _ _ _ (⟨#[102, 40, 103, 40, 65, 41, 41, 61, 65]⟩ : ByteArray) [.string (⟨#[102, 40, 103, 40, 65, 41, 41, 61, 65]⟩ : ByteArray)] from rfl) (Reps.one (show Kd.M Kd.string _ _ _ (⟨#[102, 40, 102, 40, 65, 41, 41, 61, 65]⟩ : ByteArray) [.string (⟨#[102, 40, 102, 40, 65, 41, 41, 61, 65]⟩ : ByteArray)] from rfl) (Reps.one (show Kd.M Kd.string _ _ _ (⟨#[103, 40, 102, 40, 97, 41, 41, 61, 97]⟩ : ByteArray) [.string (⟨#[103, 40, 102, 40, 97, 41, 41, 61, 97]⟩ : ByteArray)] from rfl) (Reps.one (show Kd.M Kd.string _ _ _ (⟨#[109, 40, 109, 40, 65, 44, 66, 41, 44, 67, 41, 61, 109, 40, 65, 44, 109, 40, 66, 44, 67, 41, 41]⟩ : ByteArray) [.string (⟨#[109, 40, 109, 40, 65, 44, 66, 41, 44, 67, 41, 61, 109, 40, 65, 44, 109, 40, 66, 44, 67, 41, 41]⟩ : ByteArray)] from rfl) (Reps.one (show Kd.M Kd.string _ _ _ (⟨#[115, 117, 99, 40, 115, 117, 99, 40, 65, 41, 41, 61, 65]⟩ : ByteArray) [.string (⟨#[115, 117, 99, 40, 115, 117, 99, 40, 65, 41, 41, 61, 65]⟩ : ByteArray)] from rfl) (Reps.one (show Kd.M Kd.string _ _ _ (⟨#[98, 61, 97]⟩ : ByteArray) [.string (⟨#[98, 61, 97]⟩ : ByteArray)] from rfl) (Reps.one (show Kd.M Kd.string _ _ _ (⟨#[109, 40, 97, 44, 97, 41, 61, 97]⟩ : ByteArray) [.string (⟨#[109, 40, 97, 44, 97, 41, 61, 97]⟩ : ByteArray)] from rfl) (Reps.one (show Kd.M Kd.string _ _ _ (⟨#[97, 100, 100, 40, 65, 44, 98, 41, 61, 65]⟩ : ByteArray) [.string (⟨#[97, 100, 100, 40, 65, 44, 98, 41, 61, 65]⟩ : ByteArray)] from rfl) (Reps.one (show Kd.M Kd.string _ _ _ (⟨#[115, 117, 99, 40, 98, 41, 61, 97]⟩ : ByteArray) [.string (⟨#[115, 117, 99, 40, 98, 41, 61, 97]⟩ : ByteArray)] from rfl) (Reps.one (show Kd.M Kd.string _ _ _ (⟨#[102, 40, 102, 40, 102, 40, 97, 41, 41, 41, 61, 97]⟩ : ByteArray) [.string (⟨#[102, 40, 102, 40, 102, 40, 97, 41, 41, 41, 61, 97]⟩ : ByteArray)] from rfl) (Reps.one (show Kd.M Kd.string _ _ _ (⟨#[105, 40, 109, 40, 65, 44, 66, 41, 41, 61, 109, 40, 105, 40, 66, 41, 44, 105, 40, 65, 41, 41]⟩ : ByteArray) [.string (⟨#[105, 40, 109, 40, 65, 44, 66, 41, 41, 61, 109, 40, 105, 40, 66, 41, 44, 105, 40, 65, 41, 41]⟩ : ByteArray)] from rfl) (Reps.none _ _)))))))))))))))))))); intro w2 w5 m1 hb v2 hnew_; clear v2 hnew_; (first | rw [← i6.out] at m1 | (simp only [Int.reduceToNat] at m1; rw [← i6.out] at m1)); have g0 := am (Kd.R_lower m1 (keep_size (w := w) (g := g) (row := none) (ks HK.out))); replace a0 := bb a0 hb; replace HK := ku HK hb; replace HB := am (below_step (hsk HB.out (IsS86.ge a7.out)) hb); replace a7 := IsS86.bl a7 hb; clear hb m1; obtain ⟨v1, s8, rfl⟩ := Kd.R_slice g0.out) | (refine gl (some 15) Tryz.func56 rfl #[.pointer (some ⟨g, 0, none⟩), .int .i64 (a5.length : Int)] ?_; refine (spec_l1Next.calls g b0 h0 (a5.length : Int) i1 d3 w0 _ (IsS86.q a7.out) (hsk HB.out (IsS86.ge a7.out)) A3.out).mono ?_; rintro e w8 ⟨rfl, hi, hb, hk⟩; refine ⟨_, rfl, ?_⟩; replace a0 := kb hk a0 b3; replace g0 := IsS86.rk a7 g0 hk; replace HK := kt HK hk; replace HB := am (hb); replace a7 := am (hi); clear hb hk hi))
 go_loopg [8] k (fun kq v8 w' => ∃ (e7 : Int), v8 = .int .i64 e7 ∧ Aside0 (spec_l4Pool.l0 kq l1 a5 (a5.length : Int) i1 e7 b0 d3 = some (r1, r2, r3)) ∧ Aside0 (kq ≤ k) ∧ Aside0 (Kd.R Kd.string 9 w' w.heap.size (fun _ => True) (.slice v1 a5.length s8) a5) ∧ Aside0 (w'.heap[a8]? = some (.cells #[(.slice none 0 0), (.slice none 0 0)] 29 (0, 0))) ∧ Aside0 (IsS86 w0 w' g b0 d3) ∧ Aside0 (KeepBut w w' g none) ∧ Aside0 (Below w0.heap.size w0 w'))
 case atStart => exact ⟨(0), et, H', ⟨Nat.le_refl _⟩, ⟨rq g0.out⟩, ⟨bq a0.out⟩, ⟨IsS86.q a7.out⟩, ⟨ks HK.out⟩, ⟨hsk HB.out (IsS86.ge a7.out)⟩⟩
 case round =>
  clear H'
  obtain ⟨e7, rfl, HA, r9, HO_5, a0, a7, HK, HB⟩ := hrel
  cases gk with
  | zero => exact absurd HA.out (by simp [spec_l4Pool.l0])
  | succ k1 =>
   have H := HA.out
   clear HA
   simp only [spec_l4Pool.l0] at H
   by_cases c9 : e7 < (a5.length : Int)
   ·rw [if_pos c9] at H
    have p5 := decide_eq_true c9
    clear c9
    obtain ⟨c10, H⟩ := ifs H
    have s1 := decide_eq_true c10
    have s2 : decide (0 < l1.length) = true := decide_eq_true (by omega)
    clear c10
    by_cases m4 : (a5.length : Int) = 0
    ·rw [if_pos m4] at H
     exact absurd H (by simp)
    ·rw [if_neg m4] at H
     obtain ⟨s3, s4⟩ := bqf m4
     have s5 : ¬ (a5 = []) := fun h_ => m4 (by rw [h_]; rfl)
     obtain ⟨b6, d9⟩ : ∃ j_ : Int, (Int.tmod (wrap64 (i1 + e7)) (a5.length : Int)) = j_ := ⟨_, rfl⟩
     replace H : (if 0 ≤ (b6) then (if (b6) < (a5.length : Int) then ((spec_ReadEquation.f k1 ((rd_T26 l1 0).f0) (rdOf ByteArray.empty a5 (b6))).bind fun h4 => (if h4.1 = 0 then (some (h4.2.1, h4.2.2, d3)) else (spec_l4Pool.l0 k1 l1 a5 (a5.length : Int) i1 (wrap64 (e7 + 1)) b0 d3))) else (none)) else (none)) = some (r1, r2, r3) := by first | (rw [d9] at H; exact H) | (simp only [d9] at H ⊢; exact H)
     obtain ⟨s6, H⟩ := ife H
     obtain ⟨s7, H⟩ := ife H
     obtain ⟨⟨e6, d4, d5⟩, r7, H⟩ := ob H
     try dsimp only at H
     have k8 := am H
     clear H
     try go_wp2
     replace HO_5 := am (Kd.R_drew HO_5.out)
     replace a0 := am (blk_drew a0.out)
     replace a7 := am (IsS86.drew a7.out)
     replace HK := am (keep_drew HK.out)
     replace HB := am (below_drew1 HB.out)
     have j9 : 0 ≤ (0 : Int) := (by omega)
     have k3 : 0 < (l1.length : Int) := od
     obtain ⟨d0, b7, b8, p6, b4, g4, g2⟩ := at_T26 (Kd.C_foot_now g1.out HK.out) 0 j9 k3
     have h9 := b4
     (try simp only [t0_] at h9)
     cases p6
     have l8 := (show (d0 : Addr).block ≠ g from by first | (rw [add_block]; exact Kd.foot_ne g1.out (by omega) (by decide)) | (show (Addr.add _ _).block ≠ _; rw [add_block]; exact Kd.foot_ne g1.out (by omega) (by decide)) | exact Kd.foot_ne g1.out (by omega) (by decide) | (dsimp only; exact Kd.foot_ne g1.out (by omega) (by decide)))
     have d1 := (Kd.foot_lt g1.out (by omega) (by decide))
     have u6 : (0 < l1.length) = True := eq_true (by omega)
     (try simp only [t0_] at b4)
     have a9 := am g2
     have m3 := am g4
     clear g2 g4
     obtain ⟨j9, k3⟩ := ee j9 k3
     have k0 : 0 ≤ (0 : Int) := (by omega)
     have k4 : 0 < (l1.length : Int) := od
     obtain ⟨k9, p2, p4, p7, b5, g5, g3⟩ := at_T26 (Kd.C_foot_now g1.out HK.out) 0 k0 k4
     have i0 := b5
     (try simp only [t0_] at i0)
     obtain rfl : d0 = k9 := (by injection p7)
     have l9 := (show (d0 : Addr).block ≠ g from by first | (rw [add_block]; exact Kd.foot_ne g1.out (by omega) (by decide)) | (show (Addr.add _ _).block ≠ _; rw [add_block]; exact Kd.foot_ne g1.out (by omega) (by decide)) | exact Kd.foot_ne g1.out (by omega) (by decide) | (dsimp only; exact Kd.foot_ne g1.out (by omega) (by decide)))
     have d2 := (Kd.foot_lt g1.out (by omega) (by decide))
     have u7 : (0 < l1.length) = True := eq_true (by omega)
     (try simp only [t0_] at b5)
     have a6 := am g3
     have e9 := am g5
     clear g3 g5
     obtain ⟨k0, k4⟩ := ee k0 k4
     obtain ⟨rfl, rfl⟩ := sj b4 b5
     have k2 : 0 ≤ ((b6) : Int) := od
     have k5 : (b6) < (a5.length : Int) := od
     obtain ⟨h3, p8, g6⟩ := Kd.at_string (Kd.R_reads' HO_5.out).2.2 (b6) k2 k5
     cases p8
     obtain ⟨k2, k5⟩ := ee k2 k5
     refine st_ (n := 14) (S := fun w' => w'.cell? d0 = some (.slice b7 ((rd_T26 l1 0).f0).length b8) ∧ w'.cell? d0 = some (.slice b7 ((rd_T26 l1 0).f0).length b8) ∧ w'.cell? (h3.add ((b6)).toNat) = some (.string (rdOf ByteArray.empty a5 (b6)))) (ds := []) ⟨b4, b5, g6⟩ (fun hHeld => ?_); refine with_tabW spec_l4Pool.tab7 spec_l4Pool.bits7 (fun e0 s0 => ?_)
     generalize wr.drew = x0 at HO_5 a0 a7 HK HB a9 a6 b4 b5 g6 hHeld ⊢
     refine pu 0 21 rfl rfl e0 ?_
     refine pu 1 22 rfl rfl e0 ?_
     refine pu 3 24 rfl rfl e0 ?_
     refine pu 4 25 rfl rfl e0 ?_
     refine pu 5 26 rfl rfl e0 ?_
     refine pu 6 27 rfl rfl e0 ?_
     refine pu 7 28 rfl rfl e0 ?_
     refine pu 8 29 rfl rfl e0 ?_
     refine pu 9 30 rfl rfl e0 ?_
     refine tk 2 23 rfl rfl e0 s0 hHeld ?_
     refine tk 10 31 rfl rfl e0 s0 hHeld ?_
     refine join_ (σ := Value × Value × Nat) 1 #[true, true, true, true, true, true, true, true, true, true, true, true, true, false] (fun s_ => [(32, .agg #[.int .i64 e6, s_.1, s_.2.1]), (9, .pointer (some ⟨s_.2.2, 0, none⟩))]) (fun s_ w' => (w'.cell? d0 = some (.slice b7 ((rd_T26 l1 0).f0).length b8) ∧ w'.cell? d0 = some (.slice b7 ((rd_T26 l1 0).f0).length b8) ∧ w'.cell? (h3.add ((b6)).toNat) = some (.string (rdOf ByteArray.empty a5 (b6)))) ∧ (Kd.R (Kd.int .i64) 2 w' w.heap.size (fun k_ => some k_ ≠ (s_.2.1 : Value).ownBlock) s_.1 d4) ∧ (Kd.R (Kd.int .i64) 2 w' w.heap.size (fun k_ => some k_ ≠ (s_.1 : Value).ownBlock) s_.2.1 d5) ∧ (Kd.R Kd.string 9 w' w.heap.size (fun _ => True) (.slice (some h3) a5.length s8) a5) ∧ (w'.heap[a8]? = some (.cells #[.slice none 0 0, .slice none 0 0] 29 (0, 0))) ∧ (w'.heap[s_.2.2]? = some (.cells #[.int .i64 0, .slice none 0 0, .slice none 0 0] 33 (0, 0))) ∧ (w.heap.size ≤ s_.2.2) ∧ (w0.heap.size ≤ s_.2.2) ∧ (g ≠ s_.2.2) ∧ (s_.2.2 ≠ g) ∧ (a8 ≠ s_.2.2) ∧ (s_.2.2 ≠ a8) ∧ (IsS86 w0 w' g b0 d3) ∧ (KeepBut w w' g none) ∧ (Below w0.heap.size w0 w')) ?_ ?_
     rotate_left
     ·intro hCont
      refine two_ (i := 11) (j := 12) (Ni := some 32) (Nj := some 9) #[true, true, true, true, true, true, true, true, true, true, true, true, false, false] #[true, true, true, true, true, true, true, true, true, true, true, false, true, false] rfl rfl rfl rfl (two_of e0.out (by kernel_rfl)) (by decide) (by decide) (fun K hK => ?_) (fun K hK => ?_)
      ·skip
       refine goes_ Tryz.func148 (by kernel_rfl) rfl #[.agg #[.slice b7 ((rd_T26 l1 0).f0).length b8], .string (rdOf ByteArray.empty a5 (b6))] (by rfl) rfl rfl (by (try simp only [List.map_toArray, List.map_cons, List.map_nil]); first | done | (simp only [d9]; rfl) | rfl | (simp only [List.length_drop, List.length_take]; rfl)) ?_
       refine (spec_ReadEquation.calls k1 _ _ ((rd_T26 l1 0).f0) (rdOf ByteArray.empty a5 (b6)) e6 d4 d5 _ (cq (cq a6.out)) e9.out r7.out).mono ?_
       rintro e w7 ⟨i3, i4, rfl, h2, m0, hb⟩
       have e2 := (hb.cell (World.block_lt_of_cell? _ _ (hHeld.1))).trans (hHeld.1)
       have e3 := (hb.cell (World.block_lt_of_cell? _ _ (hHeld.2.1))).trans (hHeld.2.1)
       have e4 := (hb.cell (World.block_lt_of_cell? _ _ (hHeld.2.2))).trans (hHeld.2.2)
       refine ⟨_, rfl, ?_⟩
       replace HO_5 := rb HO_5 hb
       have b9 := am (Kd.R_lower h2 (keep_size (w := w) (g := g) (row := none) (ks HK.out)))
       have c0 := am (Kd.R_lower m0 (keep_size (w := w) (g := g) (row := none) (ks HK.out)))
       replace a0 := bb a0 hb
       replace a9 := am (Kd.C_below (cq a9.out) hb)
       replace a6 := am (Kd.C_below (cq a6.out) hb)
       replace HK := ku HK hb
       replace HB := am (below_step (hsk HB.out (IsS86.ge a7.out)) hb)
       replace a7 := IsS86.bl a7 hb
       (try clear hb)
       (try clear hk)
       (try clear hi)
       (try clear h2)
       (try clear m0)
       refine hK.out _ _ ⟨e2, e3, e4⟩ (fun hHeld => ?_)
       clear hK K
       refine nr (some 32) ?_
       refine on_ 12 (some 9) rfl rfl e0 (fun K hK => ?_)
       refine box_step ?hg (N := 9) ?hd (cs := #[.int .i64 0, .slice none 0 0, .slice none 0 0]) (t := 33) ?hr ?_; (case hd => rfl); (case hg => rfl); (case hr => first | (go_simp; done) | (go_simp; rfl))
       intro a1 hg w9 hbox hb
       have e2 := (hb.cell (World.block_lt_of_cell? _ _ (hHeld.1))).trans (hHeld.1)
       have e3 := (hb.cell (World.block_lt_of_cell? _ _ (hHeld.2.1))).trans (hHeld.2.1)
       have e4 := (hb.cell (World.block_lt_of_cell? _ _ (hHeld.2.2))).trans (hHeld.2.2)
       replace HO_5 := rb HO_5 hb
       replace b9 := rb b9 hb
       replace c0 := rb c0 hb
       replace a9 := am (Kd.C_below (cq a9.out) hb)
       replace a6 := am (Kd.C_below (cq a6.out) hb)
       replace HB := am (below_step (hsk HB.out (IsS86.ge a7.out)) hb)
       have a2 := am (hbox)
       have b2 := am ((by rw [hg]; exact (keep_size (w := w) (g := g) (row := none) (ks HK.out)) : w.heap.size ≤ a1))
       have e8 := am ((Nat.le_trans p3.out (by rw [hg]; exact (keep_size (w := w) (g := g) (row := none) (ks HK.out)) : w.heap.size ≤ a1) : w0.heap.size ≤ a1))
       replace HK := ku HK hb
       have a3 := nl hg a0
       have a4 := ng hg a0
       replace a0 := bb a0 hb
       have c1 := am ((by rw [hg]; exact Nat.ne_of_lt (IsS86.lt (show IsS86 w0 _ g b0 d3 from IsS86.q a7.out)) : g ≠ a1))
       have b1 := am ((by rw [hg]; exact Nat.ne_of_gt (IsS86.lt (show IsS86 w0 _ g b0 d3 from IsS86.q a7.out)) : a1 ≠ g))
       replace a7 := IsS86.bl a7 hb
       clear hb hbox hg
       refine hK.out _ _ ⟨e2, e3, e4⟩ (fun hHeld => ?_)
       clear hK K
       refine nr (some 9) ?_
       exact nj (hCont (i3, i4, a1) _ ⟨hHeld, (rq b9.out), (rq c0.out), (rq HO_5.out), (bq a0.out), (bq a2.out), b2.out, e8.out, c1.out, b1.out, a3.out, a4.out, (IsS86.q a7.out), (ks HK.out), (hsk HB.out (IsS86.ge a7.out))⟩)
      ·skip
       refine box_step ?hg (N := 9) ?hd (cs := #[.int .i64 0, .slice none 0 0, .slice none 0 0]) (t := 33) ?hr ?_; (case hd => rfl); (case hg => rfl); (case hr => first | (go_simp; done) | (go_simp; rfl))
       intro a1 hg w7 hbox hb
       have e2 := (hb.cell (World.block_lt_of_cell? _ _ (hHeld.1))).trans (hHeld.1)
       have e3 := (hb.cell (World.block_lt_of_cell? _ _ (hHeld.2.1))).trans (hHeld.2.1)
       have e4 := (hb.cell (World.block_lt_of_cell? _ _ (hHeld.2.2))).trans (hHeld.2.2)
       replace HO_5 := rb HO_5 hb
       replace a9 := am (Kd.C_below (cq a9.out) hb)
       replace a6 := am (Kd.C_below (cq a6.out) hb)
       replace HB := am (below_step (hsk HB.out (IsS86.ge a7.out)) hb)
       have a2 := am (hbox)
       have b2 := am ((by rw [hg]; exact (keep_size (w := w) (g := g) (row := none) (ks HK.out)) : w.heap.size ≤ a1))
       have e8 := am ((Nat.le_trans p3.out (by rw [hg]; exact (keep_size (w := w) (g := g) (row := none) (ks HK.out)) : w.heap.size ≤ a1) : w0.heap.size ≤ a1))
       replace HK := ku HK hb
       have a3 := nl hg a0
       have a4 := ng hg a0
       replace a0 := bb a0 hb
       have c1 := am ((by rw [hg]; exact Nat.ne_of_lt (IsS86.lt (show IsS86 w0 _ g b0 d3 from IsS86.q a7.out)) : g ≠ a1))
       have b1 := am ((by rw [hg]; exact Nat.ne_of_gt (IsS86.lt (show IsS86 w0 _ g b0 d3 from IsS86.q a7.out)) : a1 ≠ g))
       replace a7 := IsS86.bl a7 hb
       clear hb hbox hg
       refine hK.out _ _ ⟨e2, e3, e4⟩ (fun hHeld => ?_)
       clear hK K
       refine nr (some 9) ?_
       refine on_ 11 (some 32) rfl rfl e0 (fun K hK => ?_)
       refine goes_ Tryz.func148 (by kernel_rfl) rfl #[.agg #[.slice b7 ((rd_T26 l1 0).f0).length b8], .string (rdOf ByteArray.empty a5 (b6))] (by rfl) rfl rfl (by (try simp only [List.map_toArray, List.map_cons, List.map_nil]); first | done | (simp only [d9]; rfl) | rfl | (simp only [List.length_drop, List.length_take]; rfl)) ?_
       refine (spec_ReadEquation.calls k1 _ _ ((rd_T26 l1 0).f0) (rdOf ByteArray.empty a5 (b6)) e6 d4 d5 _ (cq (cq a6.out)) e9.out r7.out).mono ?_
       rintro e w9 ⟨i3, i4, rfl, h2, m0, hb⟩
       have e2 := (hb.cell (World.block_lt_of_cell? _ _ (hHeld.1))).trans (hHeld.1)
       have e3 := (hb.cell (World.block_lt_of_cell? _ _ (hHeld.2.1))).trans (hHeld.2.1)
       have e4 := (hb.cell (World.block_lt_of_cell? _ _ (hHeld.2.2))).trans (hHeld.2.2)
       refine ⟨_, rfl, ?_⟩
       replace HO_5 := rb HO_5 hb
       have b9 := am (Kd.R_lower h2 (keep_size (w := w) (g := g) (row := none) (ks HK.out)))
       have c0 := am (Kd.R_lower m0 (keep_size (w := w) (g := g) (row := none) (ks HK.out)))
       replace a0 := bb a0 hb
       replace a9 := am (Kd.C_below (cq a9.out) hb)
       replace a6 := am (Kd.C_below (cq a6.out) hb)
       replace a2 := bb a2 hb
       replace HK := ku HK hb
       replace HB := am (below_step (hsk HB.out (IsS86.ge a7.out)) hb)
       replace a7 := IsS86.bl a7 hb
       (try clear hb)
       (try clear hk)
       (try clear hi)
       (try clear h2)
       (try clear m0)
       refine hK.out _ _ ⟨e2, e3, e4⟩ (fun hHeld => ?_)
       clear hK K
       refine nr (some 32) ?_
       exact nj (hCont (i3, i4, a1) _ ⟨hHeld, (rq b9.out), (rq c0.out), (rq HO_5.out), (bq a0.out), (bq a2.out), b2.out, e8.out, c1.out, b1.out, a3.out, a4.out, (IsS86.q a7.out), (ks HK.out), (hsk HB.out (IsS86.ge a7.out))⟩)
     clear HO_5 a0 a7 HK HB
     rintro ⟨i3, i4, a1⟩ m2 ⟨s9, q1, q2, q3, q4, q5, q6, q7, q8, q9, r0, j5, j6, j7, j8⟩
     try dsimp only at s9 q1 q2 q3 q4 q5 q6 q7 q8 q9 r0 j5 j6 j7 j8
     have b9 := am q1; have c0 := am q2; have HO_5 := am q3; have a0 := am q4; have a2 := am q5; have b2 := am q6; have e8 := am q7; have c1 := am q8; have b1 := am q9; have a3 := am r0; have a4 := am j5; have a7 := am j6; have HK := am j7; have HB := am j8; clear q1 q2 q3 q4 q5 q6 q7 q8 q9 r0 j5 j6 j7 j8; have hHeld := s9
     obtain ⟨e1, e5, l6⟩ := Kd.R_slice b9.out
     (first | subst l6 | (injection l6 with f1_ f2_ f3_; have p9 := f1_.symm; have q0 := f3_.symm; clear f1_ f2_ f3_; subst p9; subst q0))
     obtain ⟨g8, g9, l7⟩ := Kd.R_slice c0.out
     (first | subst l7 | (injection l7 with f1_ f2_ f3_; have p9 := f1_.symm; have q0 := f3_.symm; clear f1_ f2_ f3_; subst p9; subst q0))
     refine nj ?_
     refine on_ 13 none rfl rfl e0 (fun K hK => ?_)
     have v3 : m2.cell? ⟨a1, 0, none⟩ = some (.int .i64 0) := (blk_cell a2.out 0).trans rfl
     have t0 := blk_frozen a2.out 0
     have o9 := a3.out
     have o6 := a4.out
     have v4 : m2.cell? ⟨a1, 1, none⟩ = some (.slice none 0 0) := (blk_cell a2.out 1).trans rfl
     have t1 := blk_frozen a2.out 1
     have p0 := a3.out
     have o7 := a4.out
     have v5 : m2.cell? ⟨a1, 2, none⟩ = some (.slice none 0 0) := (blk_cell a2.out 2).trans rfl
     have t2 := blk_frozen a2.out 2
     have p1 := a3.out
     have o8 := a4.out
     refine skip_ (w1 := ?_) (by rfl) rfl ?_ ?_
     rotate_left
     ·go_simp
      rfl
     refine hK.out _ _ ⟨((cell_far (p := ⟨a1, _, none⟩) (ab (Nat.ne_of_lt (Nat.lt_of_lt_of_le d1 b2.out))) _).trans (((cell_far (p := ⟨a1, _, none⟩) (ab (Nat.ne_of_lt (Nat.lt_of_lt_of_le d1 b2.out))) _).trans (((cell_far (p := ⟨a1, _, none⟩) (ab (Nat.ne_of_lt (Nat.lt_of_lt_of_le d1 b2.out))) _).trans (hHeld.1)))))), ((cell_far (p := ⟨a1, _, none⟩) (ab (Nat.ne_of_lt (Nat.lt_of_lt_of_le d2 b2.out))) _).trans (((cell_far (p := ⟨a1, _, none⟩) (ab (Nat.ne_of_lt (Nat.lt_of_lt_of_le d2 b2.out))) _).trans (((cell_far (p := ⟨a1, _, none⟩) (ab (Nat.ne_of_lt (Nat.lt_of_lt_of_le d2 b2.out))) _).trans (hHeld.2.1)))))), ((cell_far (p := ⟨a1, _, none⟩) (ab (Kd.own_blk (Kd.R_ne HO_5.out a2.out (by decide)))) _).trans (((cell_far (p := ⟨a1, _, none⟩) (ab (Kd.own_blk (Kd.R_ne HO_5.out a2.out (by decide)))) _).trans (((cell_far (p := ⟨a1, _, none⟩) (ab (Kd.own_blk (Kd.R_ne HO_5.out a2.out (by decide)))) _).trans (hHeld.2.2))))))⟩ (fun hHeld => ?_)
     clear hK K
     refine done_ (done_of e0.out (by kernel_rfl)) ?_
     obtain ⟨t3, t9⟩ := nn a4
     obtain ⟨t4, u0⟩ := nn b1
     have m5 := c0_ a2
     have m6 := c1_ a2
     have m7 : m2.cell? ⟨a1, 2, none⟩ = some (.slice none 0 0) := (blk_cell a2.out 2).trans rfl
     have n6 := blk_frozen a2.out 0
     have n7 := blk_frozen a2.out 1
     have n8 := blk_frozen a2.out 2
     go_upto_if 35 with (fail)
     have H := k8.out
     clear k8
     by_cases l4 : e6 = 0
     ·rw [if_pos l4] at H
      obtain ⟨d8, l5⟩ := bqt l4; clear l4
      (first | rw [d8] | (simp only [i64_w, i32_w]; rw [d8]) | skip)
      simp only [Option.some.injEq, Prod.mk.injEq] at H
      obtain ⟨rfl, rfl, rfl⟩ := H
      obtain ⟨t5, u1⟩ := nn a4
      obtain ⟨t6, u2⟩ := nn b1
      have m8 := c0_ a2
      have m9 := c1_ a2
      have n0 : m2.cell? ⟨a1, 2, none⟩ = some (.slice none 0 0) := (blk_cell a2.out 2).trans rfl
      have n9 := blk_frozen a2.out 0
      have o0 := blk_frozen a2.out 1
      have o1 := blk_frozen a2.out 2
      obtain ⟨t7, u3⟩ := nn b3
      have n1 := c0_ a0
      have n2 := c1_ a0
      have o2 := blk_frozen a0.out 0
      have o3 := blk_frozen a0.out 1
      go_wp2
      refine bodyPost_ret (results_cell_row rfl _ _ a8 29 #[.slice e1 d4.length e5, .slice g8 d5.length g9] (0, 0) _ rfl (by refine bq ?_; refine blk_put (cs := #[.slice e1 d4.length e5, .slice none 0 0]) ?_ 1 _ rfl; refine bq ?_; refine blk_put (cs := #[.slice none 0 0, .slice none 0 0]) ?_ 0 _ rfl; refine bq ?_; refine blk_far ?_ a3.out _; refine bq ?_; refine blk_far ?_ a3.out _; refine bq ?_; refine blk_far ?_ a3.out _; refine bq ?_; exact a0.out) Tryz.underlying29 rfl (by kernel_rfl)) rfl ?_
      exact ⟨_, _, by first | rfl | (simp [errW_none, errW_some] <;> rfl) | (simp only [← d9]; first | rfl | (simp [errW_none, errW_some] <;> rfl)) | (simp [*, errW_none, errW_some] <;> rfl), rq (Kd.R_mono (Kd.R_far (p := ⟨a8, 1, none⟩) (Kd.R_far (p := ⟨a8, 0, none⟩) (Kd.R_far (p := ⟨a1, 2, none⟩) (Kd.R_far (p := ⟨a1, 1, none⟩) (Kd.R_far (p := ⟨a1, 0, none⟩) (Kd.R_types (Kd.R_types b9.out a2.out (by decide)) a0.out (by decide)) (fun _ hk => hk.1.2) (.int .i64 e6)) (fun _ hk => hk.1.2) (.slice e1 d4.length e5)) (fun _ hk => hk.1.2) (.slice g8 d5.length g9)) (fun _ hk => hk.2) (.slice e1 d4.length e5)) (fun _ hk => hk.2) (.slice g8 d5.length g9)) (fun _ hk => hk.1.1)), rq (Kd.R_mono (Kd.R_far (p := ⟨a8, 1, none⟩) (Kd.R_far (p := ⟨a8, 0, none⟩) (Kd.R_far (p := ⟨a1, 2, none⟩) (Kd.R_far (p := ⟨a1, 1, none⟩) (Kd.R_far (p := ⟨a1, 0, none⟩) (Kd.R_types (Kd.R_types c0.out a2.out (by decide)) a0.out (by decide)) (fun _ hk => hk.1.2) (.int .i64 e6)) (fun _ hk => hk.1.2) (.slice e1 d4.length e5)) (fun _ hk => hk.1.2) (.slice g8 d5.length g9)) (fun _ hk => hk.2) (.slice e1 d4.length e5)) (fun _ hk => hk.2) (.slice g8 d5.length g9)) (fun _ hk => hk.1.1)), IsS86.q a7.out, hsk HB.out (IsS86.ge a7.out), ks HK.out⟩
     ·rw [if_neg l4] at H
      obtain ⟨d8, l5⟩ := bqf l4
      (first | rw [d8] | (simp only [i64_w, i32_w]; rw [d8]) | skip)
      have H' := am H
      clear H
      go_wp2
      go_roundg k1
      case measure => have := r9.out; omega
      case rel => exact ⟨(wrap64 (e7 + 1)), et, H', ⟨by have := r9.out; omega⟩, ⟨rq (Kd.R_mono (Kd.R_far (p := ⟨a1, 2, none⟩) (Kd.R_far (p := ⟨a1, 1, none⟩) (Kd.R_far (p := ⟨a1, 0, none⟩) (Kd.R_types HO_5.out a2.out (by decide)) (fun _ hk => hk.2) (.int .i64 e6)) (fun _ hk => hk.2) (.slice e1 d4.length e5)) (fun _ hk => hk.2) (.slice g8 d5.length g9)) (fun _ hk => trivial))⟩, ⟨bf a0.out⟩, ⟨IsS86.q a7.out⟩, ⟨ks HK.out⟩, ⟨hsk HB.out (IsS86.ge a7.out)⟩⟩
   ·rw [if_neg c9] at H
    have p5 := decide_eq_false c9
    clear c9
    obtain ⟨⟨h5, k6⟩, u9, H⟩ := ob H
    try dsimp only at H
    obtain ⟨⟨i2, r4⟩, v0, H⟩ := ob H
    try dsimp only at H
    simp only [Option.some.injEq, Prod.mk.injEq] at H
    obtain ⟨rfl, rfl, rfl⟩ := H
    go_wp2_with (first | (refine gl (some 40) Tryz.func57 rfl #[.pointer (some ⟨g, 0, none⟩), .pointer A1, .int .i64 4, .int .i64 2] ?_; refine (spec_l3Draw.calls k1 g b0 d3 _ l1 4 2 h5 k6 w0 _ (IsS86.q a7.out) (hsk HB.out (IsS86.ge a7.out)) (Kd.C_foot_step g1.out (ks HK.out)) u9.out).mono ?_; rintro e x1 ⟨w3, rfl, h2, hi, hb, hk⟩; refine ⟨_, rfl, ?_⟩; replace HO_5 := IsS86.rk a7 HO_5 hk; replace a0 := kb hk a0 b3; have d6 := am (Kd.R_lower h2 (keep_size (w := w) (g := g) (row := none) (ks HK.out))); replace HK := kt HK hk; replace HB := am (hb); replace a7 := am (hi); clear hb hk hi h2) | (refine gl (some 43) Tryz.func57 rfl #[.pointer (some ⟨g, 0, none⟩), .pointer A1, .int .i64 2, .int .i64 2] ?_; refine (spec_l3Draw.calls k1 g b0 k6 _ l1 2 2 i2 r4 w0 _ (IsS86.q a7.out) (hsk HB.out (IsS86.ge a7.out)) (Kd.C_foot_step g1.out (ks HK.out)) v0.out).mono ?_; rintro e x2 ⟨w6, rfl, h2, hi, hb, hk⟩; refine ⟨_, rfl, ?_⟩; replace HO_5 := IsS86.rk a7 HO_5 hk; replace a0 := kb hk a0 b3; have i5 := am (Kd.R_lower (Kd.R_new' h2 (Kd.R_lt (rq d6.out))) (keep_size (w := w) (g := g) (row := none) (ks HK.out))); replace d6 := am (Kd.R_mono (Kd.R_told (Kd.R_oldK (IsS86.apart (show IsS86 w0 _ g b0 k6 from IsS86.q a7.out) (rq d6.out) (by decide)) hk) (Kd.R_base h2)) (fun _ h_ => h_.1)); replace HK := kt HK hk; replace HB := am (hb); replace a7 := am (hi); (try clear hb); (try clear hk); (try clear hi); (try clear h2); obtain ⟨i7, i9, rfl⟩ := Kd.R_slice i5.out; obtain ⟨h6, h8, rfl⟩ := Kd.R_slice d6.out; obtain ⟨t8, u4⟩ := nn b3; have n3 := c0_ a0; have n4 := c1_ a0; have o4 := blk_frozen a0.out 0; have o5 := blk_frozen a0.out 1))
    refine bodyPost_ret (results_cell_row rfl _ _ a8 29 #[.slice h6 h5.length h8, .slice i7 i2.length i9] (0, 0) _ rfl (by refine bq ?_; refine blk_put (cs := #[.slice h6 h5.length h8, .slice none 0 0]) ?_ 1 _ rfl; refine bq ?_; refine blk_put (cs := #[.slice none 0 0, .slice none 0 0]) ?_ 0 _ rfl; refine bq ?_; exact a0.out) Tryz.underlying29 rfl (by kernel_rfl)) rfl ?_
    exact ⟨_, _, er, rq (Kd.R_mono (Kd.R_far (p := ⟨a8, 1, none⟩) (Kd.R_far (p := ⟨a8, 0, none⟩) (Kd.R_types d6.out a0.out (by decide)) (fun _ hk => hk.2) (.slice h6 h5.length h8)) (fun _ hk => hk.2) (.slice i7 i2.length i9)) (fun _ hk => hk.1.2)), rq (Kd.R_mono (Kd.R_far (p := ⟨a8, 1, none⟩) (Kd.R_far (p := ⟨a8, 0, none⟩) (Kd.R_types i5.out a0.out (by decide)) (fun _ hk => hk.2) (.slice h6 h5.length h8)) (fun _ hk => hk.2) (.slice i7 i2.length i9)) (fun _ hk => hk.1.2)), IsS86.q a7.out, hsk HB.out (IsS86.ge a7.out), ks HK.out⟩
def spec_l4Draw.f (k : Nat) (a0 : List Int) (a7 : Int) (l1 : List (S26)) : Option (List Int × List Int × Int) := (spec_l1Chance.f a0 a7 4).bind fun a1 => (if a1.1 = true then ((spec_l1Pick.f a0 a1.2 (([4, 7, 9] : List Int))).bind fun a3 => ((spec_l3Draw.f k a0 a3.2 l1 a3.1 3).bind fun a4 => ((spec_l1Pick.f a0 a4.2 (([1, 3, 5] : List Int))).bind fun a5 => ((spec_l3Draw.f k a0 a5.2 l1 a5.1 3).bind fun a6 => (some (a4.1, a6.1, a6.2)))))) else ((spec_l4Pool.f k a0 a1.2 l1).bind fun a2 => (some (a2.1, a2.2.1, a2.2.2))))
theorem spec_l4Draw.calls (k : Nat) (g : Nat) (a2 : List Int) (c0 : Int) (A1 : Option Addr) (l1 : List (S26)) (r1 : List Int) (r2 : List Int) (r3 : Int) (w0 w : World) (hI : IsS86 w0 w g a2 c0) (hB : Below w0.heap.size w0 w) (j8 : ∀ W_, KeepBut w W_ g none → Kd.C k26 W_ A1 l1.length l1) (h : spec_l4Draw.f k a2 c0 l1 = some (r1, r2, r3)) :
  Calls Tryz.prog 122 #[.pointer (some ⟨g, 0, none⟩), .pointer A1] w fun e w' => ∃ i3 i4 : Value, e = .returned (.agg #[i3, i4]) ∧ Kd.R (Kd.int .i64) 2 w' w.heap.size (fun k_ => some k_ ≠ (i4 : Value).ownBlock) i3 r1 ∧ Kd.R (Kd.int .i64) 2 w' w.heap.size (fun k_ => some k_ ≠ (i3 : Value).ownBlock) i4 r2 ∧ IsS86 w0 w' g a2 r3 ∧ Below w0.heap.size w0 w' ∧ KeepBut w w' g none := by
 have k3 := Tryz.underlying29
 have h7 := am j8
 clear j8
 have a4 := am hI
 have HK := am (KeepBut.refl w g none)
 have HL := am hB.size
 clear hI
 have k2 := am hB.size
 have HB := am hB
 clear hB
 have H : ((spec_l1Chance.f a2 c0 4).bind fun b7 => (if b7.1 = true then ((spec_l1Pick.f a2 b7.2 (([4, 7, 9] : List Int))).bind fun b0 => ((spec_l3Draw.f k a2 b0.2 l1 b0.1 3).bind fun b1 => ((spec_l1Pick.f a2 b1.2 (([1, 3, 5] : List Int))).bind fun a8 => ((spec_l3Draw.f k a2 a8.2 l1 a8.1 3).bind fun a9 => (some (b1.1, a9.1, a9.2)))))) else ((spec_l4Pool.f k a2 b7.2 l1).bind fun b8 => (some (b8.1, b8.2.1, b8.2.2))))) = some (r1, r2, r3) := h
 clear h
 obtain ⟨⟨g5, d6⟩, A3, H⟩ := ob H
 try dsimp only at H
 have i6 := am H
 clear H
 go_enter Tryz.func122, Tryz.ntmps122
 go_upto_if 6 with (first | (refine bx 4 rfl #[.slice none 0 0, .slice none 0 0] 29 ?_; intro a5 hg w5 hbox hb; replace HB := am (below_step (hsk HB.out (IsS86.ge a4.out)) hb); have a0 := am (hbox); have g4 := am ((by rw [hg]; exact (keep_size (w := w) (g := g) (row := none) (kq HK.out)) : w.heap.size ≤ a5)); replace HK := ku HK hb; have i5 := am (Nat.le_trans k2.out g4.out); have d3 := am ((by rw [hg]; exact Nat.ne_of_lt (IsS86.lt (show IsS86 w0 _ g a2 c0 from IsS86.q a4.out)) : g ≠ a5)); replace a4 := IsS86.bl a4 hb; have a3 := am d3.out.symm; clear hb hbox hg) | (refine gl (some 6) Tryz.func55 rfl #[.pointer (some ⟨g, 0, none⟩), .int .i64 4] ?_; refine (spec_l1Chance.calls g a2 c0 4 g5 d6 w0 _ (IsS86.q a4.out) (hsk HB.out (IsS86.ge a4.out)) A3.out).mono ?_; rintro e w6 ⟨rfl, hi, hb, hk⟩; refine ⟨_, rfl, ?_⟩; replace a0 := kb hk a0 a3; replace HK := kt HK hk; replace HB := am (hb); replace a4 := am (hi); clear hb hk hi))
 have H := i6.out
 clear i6
 by_cases c7 : g5 = true
 ·subst c7
  rw [if_pos rfl] at H
  obtain ⟨g2, b3⟩ : ∃ y_ : List Int, y_ = (([4, 7, 9] : List Int)) := ⟨_, rfl⟩
  replace H : ((spec_l1Pick.f a2 d6 g2).bind fun b0 => ((spec_l3Draw.f k a2 b0.2 l1 b0.1 3).bind fun b1 => ((spec_l1Pick.f a2 b1.2 (([1, 3, 5] : List Int))).bind fun a8 => ((spec_l3Draw.f k a2 a8.2 l1 a8.1 3).bind fun a9 => (some (b1.1, a9.1, a9.2)))))) = some (r1, r2, r3) := by first | (rw [b3]; first | with_reducible exact H | with_reducible exact bs H) | with_reducible exact bs H | with_reducible exact H | (rw [b3]; exact H) | exact H
  have e2 := am b3
  clear b3
  obtain ⟨⟨e8, e9⟩, A8, H⟩ := ob H
  try dsimp only at H
  obtain ⟨⟨b5, g0⟩, A9, H⟩ := ob H
  try dsimp only at H
  obtain ⟨g3, b4⟩ : ∃ y_ : List Int, y_ = (([1, 3, 5] : List Int)) := ⟨_, rfl⟩
  replace H : ((spec_l1Pick.f a2 g0 g3).bind fun a8 => ((spec_l3Draw.f k a2 a8.2 l1 a8.1 3).bind fun a9 => (some (b5, a9.1, a9.2)))) = some (r1, r2, r3) := by first | (rw [b4]; first | with_reducible exact H | with_reducible exact bs H) | with_reducible exact bs H | with_reducible exact H | (rw [b4]; exact H) | exact H
  have e3 := am b4
  clear b4
  obtain ⟨⟨g1, c1⟩, j9, H⟩ := ob H
  try dsimp only at H
  obtain ⟨⟨d7, i1⟩, k0, H⟩ := ob H
  try dsimp only at H
  simp only [Option.some.injEq, Prod.mk.injEq] at H
  obtain ⟨rfl, rfl, rfl⟩ := H
  go_wp2_with (first | (refine rl 10 rfl 2 [4, 7, 9] ?_; intro k4 l4 b9 hb i0 hnew_; clear i0 hnew_; (first | rw [← e2.out] at b9 | (simp only [Int.reduceToNat] at b9; rw [← e2.out] at b9)); have a1 := am (Kd.R_lower b9 (keep_size (w := w) (g := g) (row := none) (ks HK.out))); replace a0 := bb a0 hb; replace HK := ku HK hb; replace HB := am (below_step (hsk HB.out (IsS86.ge a4.out)) hb); replace a4 := IsS86.bl a4 hb; clear hb b9; obtain ⟨h5, h8, rfl⟩ := Kd.R_slice a1.out) | (refine gl (some 11) Tryz.func26 rfl #[.pointer (some ⟨g, 0, none⟩), .slice h5 g2.length h8] ?_; refine (spec_l1Pick.calls g a2 d6 _ _ g2 e8 e9 w0 _ (IsS86.q a4.out) (hsk HB.out (IsS86.ge a4.out)) (cq (Kd.R_reads' a1.out).2.2) ((Kd.R_reads' a1.out).2.1) (far_slice (IsS86.own_ne a4.out a1.out (by decide))) A8.out).mono ?_; rintro e l5 ⟨rfl, hi, hb, hk⟩; refine ⟨_, rfl, ?_⟩; replace a0 := kb hk a0 a3; replace a1 := IsS86.rk a4 a1 hk; replace HK := kt HK hk; replace HB := am (hb); replace a4 := am (hi); clear hb hk hi) | (refine gl (some 12) Tryz.func57 rfl #[.pointer (some ⟨g, 0, none⟩), .pointer A1, .int .i64 e8, .int .i64 3] ?_; refine (spec_l3Draw.calls k g a2 e9 _ l1 e8 3 b5 g0 w0 _ (IsS86.q a4.out) (hsk HB.out (IsS86.ge a4.out)) (Kd.C_foot_step h7.out (ks HK.out)) A9.out).mono ?_; rintro e l6 ⟨k5, rfl, b6, hi, hb, hk⟩; refine ⟨_, rfl, ?_⟩; replace a0 := kb hk a0 a3; have a6 := am (Kd.R_lower (Kd.R_new' b6 (Kd.R_lt (rq a1.out))) (keep_size (w := w) (g := g) (row := none) (ks HK.out))); replace a1 := am (Kd.R_mono (Kd.R_told (Kd.R_oldK (IsS86.apart (show IsS86 w0 _ g a2 e9 from IsS86.q a4.out) (rq a1.out) (by decide)) hk) (Kd.R_base b6)) (fun _ h_ => h_.1)); replace HK := kt HK hk; replace HB := am (hb); replace a4 := am (hi); clear hb hk hi b6) | (refine rl 16 rfl 2 [1, 3, 5] ?_; intro k6 l7 b2 hb i0 hnew_; clear i0 hnew_; (first | rw [← e3.out] at b2 | (simp only [Int.reduceToNat] at b2; rw [← e3.out] at b2)); have a7 := am (Kd.R_lower (Kd.R_new' (Kd.R_new' b2 (Kd.R_lt (rq a1.out))) (Kd.R_lt (rq a6.out))) (keep_size (w := w) (g := g) (row := none) (ks HK.out))); replace a1 := am (Kd.R_elder' (rq a1.out) (Kd.R_base b2) hb); replace a6 := am (Kd.R_elder' (rq a6.out) (Kd.R_base b2) hb); replace a0 := bb a0 hb; replace HK := ku HK hb; replace HB := am (below_step (hsk HB.out (IsS86.ge a4.out)) hb); replace a4 := IsS86.bl a4 hb; clear hb b2; obtain ⟨h6, h9, rfl⟩ := Kd.R_slice a7.out) | (refine gl (some 17) Tryz.func26 rfl #[.pointer (some ⟨g, 0, none⟩), .slice h6 g3.length h9] ?_; refine (spec_l1Pick.calls g a2 g0 _ _ g3 g1 c1 w0 _ (IsS86.q a4.out) (hsk HB.out (IsS86.ge a4.out)) (cq (Kd.R_reads' a7.out).2.2) ((Kd.R_reads' a7.out).2.1) (far_slice (IsS86.own_ne a4.out a7.out (by decide))) j9.out).mono ?_; rintro e l8 ⟨rfl, hi, hb, hk⟩; refine ⟨_, rfl, ?_⟩; replace a0 := kb hk a0 a3; replace a1 := IsS86.rk a4 a1 hk; replace a6 := IsS86.rk a4 a6 hk; replace a7 := IsS86.rk a4 a7 hk; replace HK := kt HK hk; replace HB := am (hb); replace a4 := am (hi); clear hb hk hi) | (refine gl (some 18) Tryz.func57 rfl #[.pointer (some ⟨g, 0, none⟩), .pointer A1, .int .i64 g1, .int .i64 3] ?_; refine (spec_l3Draw.calls k g a2 c1 _ l1 g1 3 d7 i1 w0 _ (IsS86.q a4.out) (hsk HB.out (IsS86.ge a4.out)) (Kd.C_foot_step h7.out (ks HK.out)) k0.out).mono ?_; rintro e l9 ⟨k7, rfl, b6, hi, hb, hk⟩; refine ⟨_, rfl, ?_⟩; replace a0 := kb hk a0 a3; have d9 := am (Kd.R_lower (Kd.R_new' (Kd.R_new' (Kd.R_new' b6 (Kd.R_lt (rq a1.out))) (Kd.R_lt (rq a6.out))) (Kd.R_lt (rq a7.out))) (keep_size (w := w) (g := g) (row := none) (ks HK.out))); replace a1 := am (Kd.R_mono (Kd.R_told (Kd.R_oldK (IsS86.apart (show IsS86 w0 _ g a2 c1 from IsS86.q a4.out) (rq a1.out) (by decide)) hk) (Kd.R_base b6)) (fun _ h_ => h_.1)); replace a6 := am (Kd.R_mono (Kd.R_told (Kd.R_oldK (IsS86.apart (show IsS86 w0 _ g a2 c1 from IsS86.q a4.out) (rq a6.out) (by decide)) hk) (Kd.R_base b6)) (fun _ h_ => h_.1)); replace a7 := am (Kd.R_mono (Kd.R_told (Kd.R_oldK (IsS86.apart (show IsS86 w0 _ g a2 c1 from IsS86.q a4.out) (rq a7.out) (by decide)) hk) (Kd.R_base b6)) (fun _ h_ => h_.1)); replace HK := kt HK hk; replace HB := am (hb); replace a4 := am (hi); (try clear hb); (try clear hk); (try clear hi); (try clear b6); obtain ⟨e4, e6, rfl⟩ := Kd.R_slice d9.out; obtain ⟨d1, d4, rfl⟩ := Kd.R_slice a6.out; obtain ⟨i7, j5⟩ := nn a3; have g6 := c0_ a0; have g7 := c1_ a0; have h0 := blk_frozen a0.out 0; have h2 := blk_frozen a0.out 1))
  refine bodyPost_ret (results_cell_row rfl _ _ a5 29 #[.slice d1 b5.length d4, .slice e4 d7.length e6] (0, 0) _ rfl (by refine bq ?_; refine blk_put (cs := #[.slice d1 b5.length d4, .slice none 0 0]) ?_ 1 _ rfl; refine bq ?_; refine blk_put (cs := #[.slice none 0 0, .slice none 0 0]) ?_ 0 _ rfl; refine bq ?_; exact a0.out) Tryz.underlying29 rfl (by kernel_rfl)) rfl ?_
  exact ⟨_, _, er, rq (Kd.R_mono (Kd.R_far (p := ⟨a5, 1, none⟩) (Kd.R_far (p := ⟨a5, 0, none⟩) (Kd.R_types a6.out a0.out (by decide)) (fun _ hk => hk.2) (.slice d1 b5.length d4)) (fun _ hk => hk.2) (.slice e4 d7.length e6)) (fun _ hk => hk.1.2)), rq (Kd.R_mono (Kd.R_far (p := ⟨a5, 1, none⟩) (Kd.R_far (p := ⟨a5, 0, none⟩) (Kd.R_types d9.out a0.out (by decide)) (fun _ hk => hk.2) (.slice d1 b5.length d4)) (fun _ hk => hk.2) (.slice e4 d7.length e6)) (fun _ hk => hk.1.1.2)), IsS86.q a4.out, hsk HB.out (IsS86.ge a4.out), ks HK.out⟩
 ·replace c7 := Bool.eq_false_iff.mpr c7
  subst c7
  rw [if_neg (show ¬ (false = true) by decide)] at H
  obtain ⟨⟨d0, d8, i2⟩, k1, H⟩ := ob H
  try dsimp only at H
  simp only [Option.some.injEq, Prod.mk.injEq] at H
  obtain ⟨rfl, rfl, rfl⟩ := H
  go_wp2_with (first | (refine gl (some 22) Tryz.func139 rfl #[.pointer (some ⟨g, 0, none⟩), .pointer A1] ?_; refine (spec_l4Pool.calls k g a2 d6 _ l1 d0 d8 i2 w0 _ (IsS86.q a4.out) (hsk HB.out (IsS86.ge a4.out)) (Kd.C_foot_step h7.out (ks HK.out)) k1.out).mono ?_; rintro e m0 ⟨k8, k9, rfl, b6, j7, hi, hb, hk⟩; refine ⟨_, rfl, ?_⟩; replace a0 := kb hk a0 a3; have e0 := am (Kd.R_lower b6 (keep_size (w := w) (g := g) (row := none) (ks HK.out))); have e1 := am (Kd.R_lower j7 (keep_size (w := w) (g := g) (row := none) (ks HK.out))); replace HK := kt HK hk; replace HB := am (hb); replace a4 := am (hi); (try clear hb); (try clear hk); (try clear hi); (try clear b6); (try clear j7); obtain ⟨d2, d5, rfl⟩ := Kd.R_slice e0.out; obtain ⟨i9, j6⟩ := nn a3; have g8 := c0_ a0; have g9 := c1_ a0; have h3 := blk_frozen a0.out 0; have h4 := blk_frozen a0.out 1; obtain ⟨e5, e7, rfl⟩ := Kd.R_slice e1.out))
  refine bodyPost_ret (results_cell_row rfl _ _ a5 29 #[.slice d2 d0.length d5, .slice e5 d8.length e7] (0, 0) _ rfl (by refine bq ?_; refine blk_put (cs := #[.slice d2 d0.length d5, .slice none 0 0]) ?_ 1 _ rfl; refine bq ?_; refine blk_put (cs := #[.slice none 0 0, .slice none 0 0]) ?_ 0 _ rfl; refine bq ?_; exact a0.out) Tryz.underlying29 rfl (by kernel_rfl)) rfl ?_
  exact ⟨_, _, er, rq (Kd.R_mono (Kd.R_far (p := ⟨a5, 1, none⟩) (Kd.R_far (p := ⟨a5, 0, none⟩) (Kd.R_types e0.out a0.out (by decide)) (fun _ hk => hk.2) (.slice d2 d0.length d5)) (fun _ hk => hk.2) (.slice e5 d8.length e7)) (fun _ hk => hk.1)), rq (Kd.R_mono (Kd.R_far (p := ⟨a5, 1, none⟩) (Kd.R_far (p := ⟨a5, 0, none⟩) (Kd.R_types e1.out a0.out (by decide)) (fun _ hk => hk.2) (.slice d2 d0.length d5)) (fun _ hk => hk.2) (.slice e5 d8.length e7)) (fun _ hk => hk.1)), IsS86.q a4.out, hsk HB.out (IsS86.ge a4.out), ks HK.out⟩
def spec_l4BentEquation.f (k : Nat) (a2 : List Int) (a5 : Int) (l1 : List (S26)) : Option (List Int × List Int × Int) := if 0 < (l1.length : Int) then ((spec_SignatureFault.f k ((rd_T26 l1 0).f0)).bind fun a6 => (if a6 = 0 then ((spec_l1Chance.f a2 a5 6).bind fun a0 => (if a0.1 = true then ((spec_l3BentTerm.f k a2 a0.2 l1 9 7).bind fun a3 => ((spec_l3BentTerm.f k a2 a3.2 l1 5 12).bind fun a4 => (some (a3.1, a4.1, a4.2)))) else ((spec_l4Draw.f k a2 a0.2 l1).bind fun a1 => (some (a1.1, a1.2.1, a1.2.2))))) else (some ((([0] : List Int)), (([0] : List Int)), a5)))) else (none)
theorem spec_l4BentEquation.calls (k : Nat) (g : Nat) (a6 : List Int) (a9 : Int) (A1 : Option Addr) (l1 : List (S26)) (r1 : List Int) (r2 : List Int) (r3 : Int) (w0 w : World) (hI : IsS86 w0 w g a6 a9) (hB : Below w0.heap.size w0 w) (m9 : ∀ W_, KeepBut w W_ g none → Kd.C k26 W_ A1 l1.length l1) (h : spec_l4BentEquation.f k a6 a9 l1 = some (r1, r2, r3)) :
  Calls Tryz.prog 98 #[.pointer (some ⟨g, 0, none⟩), .pointer A1] w fun e w' => ∃ l8 l9 : Value, e = .returned (.agg #[l8, l9]) ∧ Kd.R (Kd.int .i64) 2 w' w.heap.size (fun k_ => some k_ ≠ (l9 : Value).ownBlock) l8 r1 ∧ Kd.R (Kd.int .i64) 2 w' w.heap.size (fun k_ => some k_ ≠ (l8 : Value).ownBlock) l9 r2 ∧ IsS86 w0 w' g a6 r3 ∧ Below w0.heap.size w0 w' ∧ KeepBut w w' g none := by
 have o0 := Tryz.underlying29
 have n9 := Tryz.underlying26
 have i3 := am m9
 clear m9
 have a5 := am hI
 have HK := am (KeepBut.refl w g none)
 have HL := am hB.size
 clear hI
 have n6 := am hB.size
 have HB := am hB
 clear hB
 have H : (if 0 < (l1.length : Int) then ((spec_SignatureFault.f k ((rd_T26 l1 0).f0)).bind fun e4 => (if e4 = 0 then ((spec_l1Chance.f a6 a9 6).bind fun c1 => (if c1.1 = true then ((spec_l3BentTerm.f k a6 c1.2 l1 9 7).bind fun g4 => ((spec_l3BentTerm.f k a6 g4.2 l1 5 12).bind fun g5 => (some (g4.1, g5.1, g5.2)))) else ((spec_l4Draw.f k a6 c1.2 l1).bind fun d0 => (some (d0.1, d0.2.1, d0.2.2))))) else (some ((([0] : List Int)), (([0] : List Int)), a9)))) else (none)) = some (r1, r2, r3) := h
 clear h
 obtain ⟨c3, H⟩ := ifs H
 have n7 := decide_eq_true c3
 have n8 : decide (0 < l1.length) = true := decide_eq_true (by omega)
 clear c3
 obtain ⟨e4, A4, H⟩ := ob H
 try dsimp only at H
 have m1 := am H
 clear H
 go_enter Tryz.func98, Tryz.ntmps98
 go_upto_if 9 with (first | (refine bx 4 rfl #[.slice none 0 0, .slice none 0 0] 29 ?_; intro a1 hg w6 hbox hb; replace HB := am (below_step (hsk HB.out (IsS86.ge a5.out)) hb); have a0 := am (hbox); have i1 := am ((by rw [hg]; exact (keep_size (w := w) (g := g) (row := none) (kq HK.out)) : w.heap.size ≤ a1)); replace HK := ku HK hb; have m0 := am (Nat.le_trans n6.out i1.out); have d9 := am ((by rw [hg]; exact Nat.ne_of_lt (IsS86.lt (show IsS86 w0 _ g a6 a9 from IsS86.q a5.out)) : g ≠ a1)); replace a5 := IsS86.bl a5 hb; have a3 := am d9.out.symm; clear hb hbox hg; have h5 : 0 ≤ (0 : Int) := (by omega); have h7 : 0 < (l1.length : Int) := od; obtain ⟨b0, g6, h0, k9, b5, b3, b1⟩ := at_T26 (Kd.C_foot_now i3.out HK.out) 0 h5 h7; cases k9; have n0 : (0 < l1.length) = True := eq_true (by omega); (try simp only [t0_] at b5); have a4 := am b1; have i6 := am b3; clear b1 b3; replace h5 := eq_true h5; replace h7 := eq_true h7; have h6 : 0 ≤ (0 : Int) := (by omega); have h8 : 0 < (l1.length : Int) := od; obtain ⟨i4, k6, k7, l4, b6, b4, b2⟩ := at_T26 (Kd.C_foot_now i3.out HK.out) 0 h6 h8; obtain rfl : b0 = i4 := (by injection l4); have n1 : (0 < l1.length) = True := eq_true (by omega); (try simp only [t0_] at b6); have a2 := am b2; have d8 := am b4; clear b2 b4; replace h6 := eq_true h6; replace h8 := eq_true h8; obtain ⟨rfl, rfl⟩ := sj b5 b6) | (refine gl (some 8) Tryz.func49 rfl #[.agg #[.slice g6 ((rd_T26 l1 0).f0).length h0]] ?_; refine (spec_SignatureFault.calls k _ _ ((rd_T26 l1 0).f0) e4 _ (cq (cq a2.out)) d8.out A4.out).mono ?_; rintro e w7 ⟨rfl, hb⟩; refine ⟨_, rfl, ?_⟩; replace a0 := bb a0 hb; replace a4 := am (Kd.C_below (cq a4.out) hb); replace a2 := am (Kd.C_below (cq a2.out) hb); replace HK := ku HK hb; replace HB := am (below_step (hsk HB.out (IsS86.ge a5.out)) hb); replace a5 := IsS86.bl a5 hb; clear hb; (try clear hk); (try clear hi)))
 have H := m1.out
 clear m1
 by_cases c8 : e4 = 0
 ·rw [if_pos c8] at H
  obtain ⟨d1, k8⟩ := bqt c8; clear c8
  (first | rw [d1] | (simp only [i64_w, i32_w]; rw [d1]) | skip)
  obtain ⟨⟨i5, h9⟩, A9, H⟩ := ob H
  try dsimp only at H
  have i2 := am H
  clear H
  go_upto_if 14 with (first | (refine gl (some 14) Tryz.func55 rfl #[.pointer (some ⟨g, 0, none⟩), .int .i64 6] ?_; refine (spec_l1Chance.calls g a6 a9 6 i5 h9 w0 _ (IsS86.q a5.out) (hsk HB.out (IsS86.ge a5.out)) A9.out).mono ?_; rintro e o7 ⟨rfl, hi, hb, hk⟩; refine ⟨_, rfl, ?_⟩; replace a0 := kb hk a0 a3; replace HK := kt HK hk; replace HB := am (hb); replace a5 := am (hi); clear hb hk hi))
  have H := i2.out
  clear i2
  by_cases i7 : i5 = true
  ·subst i7
   rw [if_pos rfl] at H
   obtain ⟨⟨d3, i0⟩, n2, H⟩ := ob H
   try dsimp only at H
   obtain ⟨⟨e5, l6⟩, n3, H⟩ := ob H
   try dsimp only at H
   simp only [Option.some.injEq, Prod.mk.injEq] at H
   obtain ⟨rfl, rfl, rfl⟩ := H
   go_wp2_with (first | (refine gl (some 17) Tryz.func25 rfl #[.pointer (some ⟨g, 0, none⟩), .pointer (some b0), .int .i64 9, .int .i64 7] ?_; refine (spec_l3BentTerm.calls k g a6 h9 _ l1 9 7 d3 i0 w0 _ (IsS86.q a5.out) (hsk HB.out (IsS86.ge a5.out)) (Kd.C_foot_step i3.out (ks HK.out)) n2.out).mono ?_; rintro e o8 ⟨o3, rfl, e3, hi, hb, hk⟩; refine ⟨_, rfl, ?_⟩; replace a0 := kb hk a0 a3; have a8 := am (Kd.R_lower e3 (keep_size (w := w) (g := g) (row := none) (ks HK.out))); replace HK := kt HK hk; replace HB := am (hb); replace a5 := am (hi); clear hb hk hi e3) | (refine gl (some 20) Tryz.func25 rfl #[.pointer (some ⟨g, 0, none⟩), .pointer (some b0), .int .i64 5, .int .i64 12] ?_; refine (spec_l3BentTerm.calls k g a6 i0 _ l1 5 12 e5 l6 w0 _ (IsS86.q a5.out) (hsk HB.out (IsS86.ge a5.out)) (Kd.C_foot_step i3.out (ks HK.out)) n3.out).mono ?_; rintro e o9 ⟨o4, rfl, e3, hi, hb, hk⟩; refine ⟨_, rfl, ?_⟩; replace a0 := kb hk a0 a3; have e9 := am (Kd.R_lower (Kd.R_new' e3 (Kd.R_lt (rq a8.out))) (keep_size (w := w) (g := g) (row := none) (ks HK.out))); replace a8 := am (Kd.R_mono (Kd.R_told (Kd.R_oldK (IsS86.apart (show IsS86 w0 _ g a6 i0 from IsS86.q a5.out) (rq a8.out) (by decide)) hk) (Kd.R_base e3)) (fun _ h_ => h_.1)); replace HK := kt HK hk; replace HB := am (hb); replace a5 := am (hi); (try clear hb); (try clear hk); (try clear hi); (try clear e3); obtain ⟨g7, h2, rfl⟩ := Kd.R_slice e9.out; obtain ⟨d5, e0, rfl⟩ := Kd.R_slice a8.out; obtain ⟨m2, m5⟩ := nn a3; have i9 := c0_ a0; have j5 := c1_ a0; have k0 := blk_frozen a0.out 0; have k1 := blk_frozen a0.out 1))
   refine bodyPost_ret (results_cell_row rfl _ _ a1 29 #[.slice d5 d3.length e0, .slice g7 e5.length h2] (0, 0) _ rfl (by refine bq ?_; refine blk_put (cs := #[.slice d5 d3.length e0, .slice none 0 0]) ?_ 1 _ rfl; refine bq ?_; refine blk_put (cs := #[.slice none 0 0, .slice none 0 0]) ?_ 0 _ rfl; refine bq ?_; exact a0.out) Tryz.underlying29 rfl (by kernel_rfl)) rfl ?_
   exact ⟨_, _, er, rq (Kd.R_mono (Kd.R_far (p := ⟨a1, 1, none⟩) (Kd.R_far (p := ⟨a1, 0, none⟩) (Kd.R_types a8.out a0.out (by decide)) (fun _ hk => hk.2) (.slice d5 d3.length e0)) (fun _ hk => hk.2) (.slice g7 e5.length h2)) (fun _ hk => hk.1.2)), rq (Kd.R_mono (Kd.R_far (p := ⟨a1, 1, none⟩) (Kd.R_far (p := ⟨a1, 0, none⟩) (Kd.R_types e9.out a0.out (by decide)) (fun _ hk => hk.2) (.slice d5 d3.length e0)) (fun _ hk => hk.2) (.slice g7 e5.length h2)) (fun _ hk => hk.1.2)), IsS86.q a5.out, hsk HB.out (IsS86.ge a5.out), ks HK.out⟩
  ·replace i7 := Bool.eq_false_iff.mpr i7
   subst i7
   rw [if_neg (show ¬ (false = true) by decide)] at H
   obtain ⟨⟨d4, e6, l7⟩, n4, H⟩ := ob H
   try dsimp only at H
   simp only [Option.some.injEq, Prod.mk.injEq] at H
   obtain ⟨rfl, rfl, rfl⟩ := H
   go_wp2_with (first | (refine gl (some 24) Tryz.func122 rfl #[.pointer (some ⟨g, 0, none⟩), .pointer (some b0)] ?_; refine (spec_l4Draw.calls k g a6 h9 _ l1 d4 e6 l7 w0 _ (IsS86.q a5.out) (hsk HB.out (IsS86.ge a5.out)) (Kd.C_foot_step i3.out (ks HK.out)) n4.out).mono ?_; rintro e p0 ⟨o5, o6, rfl, e3, m8, hi, hb, hk⟩; refine ⟨_, rfl, ?_⟩; replace a0 := kb hk a0 a3; have g0 := am (Kd.R_lower e3 (keep_size (w := w) (g := g) (row := none) (ks HK.out))); have g1 := am (Kd.R_lower m8 (keep_size (w := w) (g := g) (row := none) (ks HK.out))); replace HK := kt HK hk; replace HB := am (hb); replace a5 := am (hi); (try clear hb); (try clear hk); (try clear hi); (try clear e3); (try clear m8); obtain ⟨d6, e1, rfl⟩ := Kd.R_slice g0.out; obtain ⟨m3, m6⟩ := nn a3; have j6 := c0_ a0; have j7 := c1_ a0; have k2 := blk_frozen a0.out 0; have k3 := blk_frozen a0.out 1; obtain ⟨g8, h3, rfl⟩ := Kd.R_slice g1.out))
   refine bodyPost_ret (results_cell_row rfl _ _ a1 29 #[.slice d6 d4.length e1, .slice g8 e6.length h3] (0, 0) _ rfl (by refine bq ?_; refine blk_put (cs := #[.slice d6 d4.length e1, .slice none 0 0]) ?_ 1 _ rfl; refine bq ?_; refine blk_put (cs := #[.slice none 0 0, .slice none 0 0]) ?_ 0 _ rfl; refine bq ?_; exact a0.out) Tryz.underlying29 rfl (by kernel_rfl)) rfl ?_
   exact ⟨_, _, er, rq (Kd.R_mono (Kd.R_far (p := ⟨a1, 1, none⟩) (Kd.R_far (p := ⟨a1, 0, none⟩) (Kd.R_types g0.out a0.out (by decide)) (fun _ hk => hk.2) (.slice d6 d4.length e1)) (fun _ hk => hk.2) (.slice g8 e6.length h3)) (fun _ hk => hk.1)), rq (Kd.R_mono (Kd.R_far (p := ⟨a1, 1, none⟩) (Kd.R_far (p := ⟨a1, 0, none⟩) (Kd.R_types g1.out a0.out (by decide)) (fun _ hk => hk.2) (.slice d6 d4.length e1)) (fun _ hk => hk.2) (.slice g8 e6.length h3)) (fun _ hk => hk.1)), IsS86.q a5.out, hsk HB.out (IsS86.ge a5.out), ks HK.out⟩
 ·rw [if_neg c8] at H
  obtain ⟨d1, k8⟩ := bqf c8
  (first | rw [d1] | (simp only [i64_w, i32_w]; rw [d1]) | skip)
  obtain ⟨c0, b7⟩ : ∃ y_ : List Int, y_ = (([0] : List Int)) := ⟨_, rfl⟩
  replace H : (some (c0, (([0] : List Int)), a9)) = some (r1, r2, r3) := by first | (rw [b7]; first | with_reducible exact H | with_reducible exact bs H) | with_reducible exact bs H | with_reducible exact H | (rw [b7]; exact H) | exact H
  have g2 := am b7
  clear b7
  obtain ⟨e7, b8⟩ : ∃ y_ : List Int, y_ = (([0] : List Int)) := ⟨_, rfl⟩
  replace H : (some (c0, e7, a9)) = some (r1, r2, r3) := by first | (rw [b8]; first | with_reducible exact H | with_reducible exact bs H) | with_reducible exact bs H | with_reducible exact H | (rw [b8]; exact H) | exact H
  have g3 := am b8
  clear b8
  simp only [Option.some.injEq, Prod.mk.injEq] at H
  obtain ⟨rfl, rfl, rfl⟩ := H
  go_wp2_with (first | (refine rl 10 rfl 2 [0] ?_; intro o1 p1 d2 hb l5 hnew_; clear l5 hnew_; (first | rw [← g2.out] at d2 | (simp only [Int.reduceToNat] at d2; rw [← g2.out] at d2)); have a7 := am (Kd.R_lower d2 (keep_size (w := w) (g := g) (row := none) (ks HK.out))); replace a0 := bb a0 hb; replace a4 := am (Kd.C_below (cq a4.out) hb); replace a2 := am (Kd.C_below (cq a2.out) hb); replace HK := ku HK hb; replace HB := am (below_step (hsk HB.out (IsS86.ge a5.out)) hb); replace a5 := IsS86.bl a5 hb; clear hb d2) | (refine rl 11 rfl 2 [0] ?_; intro o2 p2 b9 hb l5 hnew_; clear l5 hnew_; (first | rw [← g3.out] at b9 | (simp only [Int.reduceToNat] at b9; rw [← g3.out] at b9)); have e8 := am (Kd.R_lower (Kd.R_new' b9 (Kd.R_lt (rq a7.out))) (keep_size (w := w) (g := g) (row := none) (ks HK.out))); replace a7 := am (Kd.R_elder' (rq a7.out) (Kd.R_base b9) hb); replace a0 := bb a0 hb; replace a4 := am (Kd.C_below (cq a4.out) hb); replace a2 := am (Kd.C_below (cq a2.out) hb); replace HK := ku HK hb; replace HB := am (below_step (hsk HB.out (IsS86.ge a5.out)) hb); replace a5 := IsS86.bl a5 hb; clear hb b9; obtain ⟨g9, h4, rfl⟩ := Kd.R_slice e8.out; obtain ⟨d7, e2, rfl⟩ := Kd.R_slice a7.out; obtain ⟨m4, m7⟩ := nn a3; have j8 := c0_ a0; have j9 := c1_ a0; have k4 := blk_frozen a0.out 0; have k5 := blk_frozen a0.out 1))
  refine bodyPost_ret (results_cell_row rfl _ _ a1 29 #[.slice d7 c0.length e2, .slice g9 e7.length h4] (0, 0) _ rfl (by refine bq ?_; refine blk_put (cs := #[.slice d7 c0.length e2, .slice none 0 0]) ?_ 1 _ rfl; refine bq ?_; refine blk_put (cs := #[.slice none 0 0, .slice none 0 0]) ?_ 0 _ rfl; refine bq ?_; exact a0.out) Tryz.underlying29 rfl (by kernel_rfl)) rfl ?_
  exact ⟨_, _, er, rq (Kd.R_mono (Kd.R_far (p := ⟨a1, 1, none⟩) (Kd.R_far (p := ⟨a1, 0, none⟩) (Kd.R_types a7.out a0.out (by decide)) (fun _ hk => hk.2) (.slice d7 c0.length e2)) (fun _ hk => hk.2) (.slice g9 e7.length h4)) (fun _ hk => hk.1.2)), rq (Kd.R_mono (Kd.R_far (p := ⟨a1, 1, none⟩) (Kd.R_far (p := ⟨a1, 0, none⟩) (Kd.R_types e8.out a0.out (by decide)) (fun _ hk => hk.2) (.slice d7 c0.length e2)) (fun _ hk => hk.2) (.slice g9 e7.length h4)) (fun _ hk => hk.1.2)), IsS86.q a5.out, hsk HB.out (IsS86.ge a5.out), ks HK.out⟩
end Go.Proofs.YtbdpnkpienpnaaaGreatDoor.P
