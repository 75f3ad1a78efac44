/- A part of the proof of the law FnStrict. -/
import Derived.Test.YtgichahebemmiaaGreatDoorCFnStrict12
set_option maxHeartbeats 8000000
set_option maxRecDepth 100000
namespace Go.Proofs.YtgichahebemmiaaGreatDoor.P
open Go.RowKit Go.Proofs.YtgichahebemmiaaGreatDoorW.PrintWords Go.Proofs.YtgichahebemmiaaGreatDoorW.PrintLast Go.Proofs.YtgichahebemmiaaGreatDoorW.PrintMore
attribute [local go_sem] Ai1 Ah9 Ak5 Ak4 Ah0 Ag9 Ai2 Ai0   -- for this text's walks alone
set_option linter.unusedVariables false
set_option linter.unusedSimpArgs false
def Af7.l0 : Nat → List (S36) → List ByteArray → Int → Int → Int → List Int → Int → Option (List Int × List Int × Int)
 | 0, _, _, _, _, _, _, _ => none
 | k + 1, x1, x5, x6, x7, x8, a0, a1 => if x8 < x6 then (if 0 < (x1.length : Int) then (if x6 = 0 then (none) else (if 0 ≤ (Int.tmod (wrap64 (x7 + x8)) x6) then (if (Int.tmod (wrap64 (x7 + x8)) x6) < (x5.length : Int) then ((Af6.f k ((Ad6 x1 0).f0) (As6 ByteArray.empty x5 (Int.tmod (wrap64 (x7 + x8)) x6))).bind fun a2 => (if a2.1 = 0 then (some (a2.2.1, a2.2.2, a1)) else (Af7.l0 k x1 x5 x6 x7 (wrap64 (x8 + 1)) a0 a1))) else (none)) else (none))) else (none)) else ((Ab6.f k a0 a1 x1 4 2).bind fun a3 => ((Ab6.f k a0 a3.2 x1 2 2).bind fun a4 => (some (a3.1, a4.1, a4.2))))
def Af7.f (k : Nat) (a2 : List Int) (a3 : Int) (l1 : List (S36)) : Option (List Int × List Int × Int) := (some (([(⟨#[109, 40, 101, 44, 65, 41, 61, 65]⟩ : ByteArray), (⟨#[109, 40, 65, 44, 101, 41, 61, 65]⟩ : ByteArray), (⟨#[109, 40, 105, 40, 65, 41, 44, 65, 41, 61, 101]⟩ : ByteArray), (⟨#[105, 40, 105, 40, 65, 41, 41, 61, 65]⟩ : ByteArray), (⟨#[105, 40, 101, 41, 61, 101]⟩ : ByteArray), (⟨#[97, 100, 100, 40, 97, 44, 65, 41, 61, 65]⟩ : ByteArray), (⟨#[97, 100, 100, 40, 115, 117, 99, 40, 65, 41, 44, 66, 41, 61, 115, 117, 99, 40, 97, 100, 100, 40, 65, 44, 66, 41, 41]⟩ : ByteArray), (⟨#[102, 40, 103, 40, 65, 41, 41, 61, 65]⟩ : ByteArray), (⟨#[102, 40, 102, 40, 65, 41, 41, 61, 65]⟩ : ByteArray), (⟨#[103, 40, 102, 40, 97, 41, 41, 61, 97]⟩ : ByteArray), (⟨#[109, 40, 109, 40, 65, 44, 66, 41, 44, 67, 41, 61, 109, 40, 65, 44, 109, 40, 66, 44, 67, 41, 41]⟩ : ByteArray), (⟨#[115, 117, 99, 40, 115, 117, 99, 40, 65, 41, 41, 61, 65]⟩ : ByteArray), (⟨#[98, 61, 97]⟩ : ByteArray), (⟨#[109, 40, 97, 44, 97, 41, 61, 97]⟩ : ByteArray), (⟨#[97, 100, 100, 40, 65, 44, 98, 41, 61, 65]⟩ : ByteArray), (⟨#[115, 117, 99, 40, 98, 41, 61, 97]⟩ : ByteArray), (⟨#[102, 40, 102, 40, 102, 40, 97, 41, 41, 41, 61, 97]⟩ : ByteArray), (⟨#[105, 40, 109, 40, 65, 44, 66, 41, 41, 61, 109, 40, 105, 40, 66, 41, 44, 105, 40, 65, 41, 41]⟩ : ByteArray)] : List ByteArray) : List ByteArray)).bind fun a1 => ((Ad7.f a2 a3 (a1.length : Int)).bind fun a0 => (Af7.l0 k l1 a1 (a1.length : Int) a0.1 0 a2 a0.2))
def Af7.T7 : Bool × List (List Nat × List Nat) := (true, [([], []), ([0], [0]), ([1], [1]), ([], []), ([], []), ([], []), ([4, 5], [4, 5]), ([], []), ([6, 7], [6, 7]), ([3, 8], [3, 8]), ([9], [9]), ([2, 10], [2, 10]), ([], []), ([12, 11, 11, 0, 1, 2, 3, 4, 5, 6, 7, 8, 9, 10, 11, 12], [11, 12])])
def Af7.B7 : List Nat := [0, 1, 3, 0, 0, 0, 48, 0, 240, 504, 1016, 2047, 0, 8191]
theorem Af7.tab7 : Au3 .any (Au5 Tryz.f102 7) = Af7.T7 := by kernel_rfl
theorem Af7.bits7 : Al2 Af7.T7.2 Af7.B7 = true := by kernel_rfl
theorem Af7.calls (k : Nat) (g : Nat) (b0 : List Int) (g8 : Int) (A1 : Option Addr) (l1 : List (S36)) (r1 : List Int) (r2 : List Int) (r3 : Int) (w0 w : World) (hI : Aa0 w0 w g b0 g8) (hB : Below w0.heap.size w0 w) (r9 : ∀ W_, Ab7 w W_ g none → Kd.C k36 W_ A1 l1.length l1) (h : Af7.f k b0 g8 l1 = some (r1, r2, r3)) :
  Calls Tryz.prog 102 #[.pointer (some ⟨g, 0, none⟩), .pointer A1] w fun e w' => ∃ p3 p4 : Value, e = .returned (.agg #[p3, p4]) ∧ Kd.R (Kd.int .i64) 2 w' w.heap.size (fun k_ => some k_ ≠ (p4 : Value).ownBlock) p3 r1 ∧ Kd.R (Kd.int .i64) 2 w' w.heap.size (fun k_ => some k_ ≠ (p3 : Value).ownBlock) p4 r2 ∧ Aa0 w0 w' g b0 r3 ∧ Below w0.heap.size w0 w' ∧ Ab7 w w' g none := by
 have v2 := Tryz.underlying30
 have v3 := Tryz.underlying36
 have v4 := Tryz.underlying32
 have e8 := am r9
 clear r9
 have a7 := am hI
 have HK := am (Ab7.refl w g none)
 have HL := am hB.size
 clear hI
 have p5 := am hB.size
 have HB := am hB
 clear hB
 have H : ((some (([(⟨#[109, 40, 101, 44, 65, 41, 61, 65]⟩ : ByteArray), (⟨#[109, 40, 65, 44, 101, 41, 61, 65]⟩ : ByteArray), (⟨#[109, 40, 105, 40, 65, 41, 44, 65, 41, 61, 101]⟩ : ByteArray), (⟨#[105, 40, 105, 40, 65, 41, 41, 61, 65]⟩ : ByteArray), (⟨#[105, 40, 101, 41, 61, 101]⟩ : ByteArray), (⟨#[97, 100, 100, 40, 97, 44, 65, 41, 61, 65]⟩ : ByteArray), (⟨#[97, 100, 100, 40, 115, 117, 99, 40, 65, 41, 44, 66, 41, 61, 115, 117, 99, 40, 97, 100, 100, 40, 65, 44, 66, 41, 41]⟩ : ByteArray), (⟨#[102, 40, 103, 40, 65, 41, 41, 61, 65]⟩ : ByteArray), (⟨#[102, 40, 102, 40, 65, 41, 41, 61, 65]⟩ : ByteArray), (⟨#[103, 40, 102, 40, 97, 41, 41, 61, 97]⟩ : ByteArray), (⟨#[109, 40, 109, 40, 65, 44, 66, 41, 44, 67, 41, 61, 109, 40, 65, 44, 109, 40, 66, 44, 67, 41, 41]⟩ : ByteArray), (⟨#[115, 117, 99, 40, 115, 117, 99, 40, 65, 41, 41, 61, 65]⟩ : ByteArray), (⟨#[98, 61, 97]⟩ : ByteArray), (⟨#[109, 40, 97, 44, 97, 41, 61, 97]⟩ : ByteArray), (⟨#[97, 100, 100, 40, 65, 44, 98, 41, 61, 65]⟩ : ByteArray), (⟨#[115, 117, 99, 40, 98, 41, 61, 97]⟩ : ByteArray), (⟨#[102, 40, 102, 40, 102, 40, 97, 41, 41, 41, 61, 97]⟩ : ByteArray), (⟨#[105, 40, 109, 40, 65, 44, 66, 41, 41, 61, 109, 40, 105, 40, 66, 41, 44, 105, 40, 65, 41, 41]⟩ : ByteArray)] : List ByteArray) : List ByteArray)).bind fun a5 => ((Ad7.f b0 g8 (a5.length : Int)).bind fun d6 => (Af7.l0 k l1 a5 (a5.length : Int) d6.1 0 b0 d6.2))) = some (r1, r2, r3) := h
 clear h
 obtain ⟨a5, e9⟩ : ∃ y_ : List ByteArray, y_ = (([(⟨#[109, 40, 101, 44, 65, 41, 61, 65]⟩ : ByteArray), (⟨#[109, 40, 65, 44, 101, 41, 61, 65]⟩ : ByteArray), (⟨#[109, 40, 105, 40, 65, 41, 44, 65, 41, 61, 101]⟩ : ByteArray), (⟨#[105, 40, 105, 40, 65, 41, 41, 61, 65]⟩ : ByteArray), (⟨#[105, 40, 101, 41, 61, 101]⟩ : ByteArray), (⟨#[97, 100, 100, 40, 97, 44, 65, 41, 61, 65]⟩ : ByteArray), (⟨#[97, 100, 100, 40, 115, 117, 99, 40, 65, 41, 44, 66, 41, 61, 115, 117, 99, 40, 97, 100, 100, 40, 65, 44, 66, 41, 41]⟩ : ByteArray), (⟨#[102, 40, 103, 40, 65, 41, 41, 61, 65]⟩ : ByteArray), (⟨#[102, 40, 102, 40, 65, 41, 41, 61, 65]⟩ : ByteArray), (⟨#[103, 40, 102, 40, 97, 41, 41, 61, 97]⟩ : ByteArray), (⟨#[109, 40, 109, 40, 65, 44, 66, 41, 44, 67, 41, 61, 109, 40, 65, 44, 109, 40, 66, 44, 67, 41, 41]⟩ : ByteArray), (⟨#[115, 117, 99, 40, 115, 117, 99, 40, 65, 41, 41, 61, 65]⟩ : ByteArray), (⟨#[98, 61, 97]⟩ : ByteArray), (⟨#[109, 40, 97, 44, 97, 41, 61, 97]⟩ : ByteArray), (⟨#[97, 100, 100, 40, 65, 44, 98, 41, 61, 65]⟩ : ByteArray), (⟨#[115, 117, 99, 40, 98, 41, 61, 97]⟩ : ByteArray), (⟨#[102, 40, 102, 40, 102, 40, 97, 41, 41, 41, 61, 97]⟩ : ByteArray), (⟨#[105, 40, 109, 40, 65, 44, 66, 41, 41, 61, 109, 40, 105, 40, 66, 41, 44, 105, 40, 65, 41, 41]⟩ : ByteArray)] : List ByteArray)) := ⟨_, rfl⟩
 replace H : ((Ad7.f b0 g8 (a5.length : Int)).bind fun d6 => (Af7.l0 k l1 a5 (a5.length : Int) d6.1 0 b0 d6.2)) = some (r1, r2, r3) := by first | (rw [e9]; first | with_reducible exact H | with_reducible exact bs H) | with_reducible exact bs H | with_reducible exact H | (rw [e9]; exact H) | exact H
 have i5 := am e9
 clear e9
 obtain ⟨⟨h6, d0⟩, A3, H⟩ := ob H
 try dsimp only at H
 have H' := am H
 clear H
 go_enter Tryz.func102, Tryz.ntmps102
 go_wp2_with (first | (refine bx 4 rfl #[.slice none 0 0, .slice none 0 0] 30 ?_; intro a8 hg w4 hbox hb; replace HB := am (Ad9 (hsk HB.out (Aa0.ge a7.out)) hb); have a0 := am (hbox); have k7 := am ((by rw [hg]; exact (Ae0 (w := w) (g := g) (row := none) (kq HK.out)) : w.heap.size ≤ a8)); replace HK := ku HK hb; have s0 := am (Nat.le_trans p5.out k7.out); have h7 := am ((by rw [hg]; exact Nat.ne_of_lt (Aa0.lt (show Aa0 w0 _ g b0 g8 from Aa0.q a7.out)) : g ≠ a8)); replace a7 := Aa0.bl a7 hb; have b3 := am h7.out.symm; clear hb hbox hg) | ((with_reducible refine An6 (N := 10) rfl ?_); refine Kd.R_lit Kd.string _ 9 ?hg (N := 10) ?hd (xs := ([(⟨#[109, 40, 101, 44, 65, 41, 61, 65]⟩ : ByteArray), (⟨#[109, 40, 65, 44, 101, 41, 61, 65]⟩ : ByteArray), (⟨#[109, 40, 105, 40, 65, 41, 44, 65, 41, 61, 101]⟩ : ByteArray), (⟨#[105, 40, 105, 40, 65, 41, 41, 61, 65]⟩ : ByteArray), (⟨#[105, 40, 101, 41, 61, 101]⟩ : ByteArray), (⟨#[97, 100, 100, 40, 97, 44, 65, 41, 61, 65]⟩ : ByteArray), (⟨#[97, 100, 100, 40, 115, 117, 99, 40, 65, 41, 44, 66, 41, 61, 115, 117, 99, 40, 97, 100, 100, 40, 65, 44, 66, 41, 41]⟩ : ByteArray), (⟨#[102, 40, 103, 40, 65, 41, 41, 61, 65]⟩ : ByteArray), (⟨#[102, 40, 102, 40, 65, 41, 41, 61, 65]⟩ : ByteArray), (⟨#[103, 40, 102, 40, 97, 41, 41, 61, 97]⟩ : ByteArray), (⟨#[109, 40, 109, 40, 65, 44, 66, 41, 44, 67, 41, 61, 109, 40, 65, 44, 109, 40, 66, 44, 67, 41, 41]⟩ : ByteArray), (⟨#[115, 117, 99, 40, 115, 117, 99, 40, 65, 41, 41, 61, 65]⟩ : ByteArray), (⟨#[98, 61, 97]⟩ : ByteArray), (⟨#[109, 40, 97, 44, 97, 41, 61, 97]⟩ : ByteArray), (⟨#[97, 100, 100, 40, 65, 44, 98, 41, 61, 65]⟩ : ByteArray), (⟨#[115, 117, 99, 40, 98, 41, 61, 97]⟩ : ByteArray), (⟨#[102, 40, 102, 40, 102, 40, 97, 41, 41, 41, 61, 97]⟩ : ByteArray), (⟨#[105, 40, 109, 40, 65, 44, 66, 41, 41, 61, 109, 40, 105, 40, 66, 41, 44, 105, 40, 65, 41, 41]⟩ : ByteArray)] : List ByteArray)) (inner := [.string (⟨#[109, 40, 101, 44, 65, 41, 61, 65]⟩ : ByteArray), .string (⟨#[109, 40, 65, 44, 101, 41, 61, 65]⟩ : ByteArray), .string (⟨#[109, 40, 105, 40, 65, 41, 44, 65, 41, 61, 101]⟩ : ByteArray), .string (⟨#[105, 40, 105, 40, 65, 41, 41, 61, 65]⟩ : ByteArray), .string (⟨#[105, 40, 101, 41, 61, 101]⟩ : ByteArray), .string (⟨#[97, 100, 100, 40, 97, 44, 65, 41, 61, 65]⟩ : ByteArray), .string (⟨#[97, 100, 100, 40, 115, 117, 99, 40, 65, 41, 44, 66, 41, 61, 115, 117, 99, 40, 97, 100, 100, 40, 65, 44, 66, 41, 41]⟩ : ByteArray), .string (⟨#[102, 40, 103, 40, 65, 41, 41, 61, 65]⟩ : ByteArray), .string (⟨#[102, 40, 102, 40, 65, 41, 41, 61, 65]⟩ : ByteArray), .string (⟨#[103, 40, 102, 40, 97, 41, 41, 61, 97]⟩ : ByteArray), .string (⟨#[109, 40, 109, 40, 65, 44, 66, 41, 44, 67, 41, 61, 109, 40, 65, 44, 109, 40, 66, 44, 67, 41, 41]⟩ : ByteArray), .string (⟨#[115, 117, 99, 40, 115, 117, 99, 40, 65, 41, 41, 61, 65]⟩ : ByteArray), .string (⟨#[98, 61, 97]⟩ : ByteArray), .string (⟨#[109, 40, 97, 44, 97, 41, 61, 97]⟩ : ByteArray), .string (⟨#[97, 100, 100, 40, 65, 44, 98, 41, 61, 65]⟩ : ByteArray), .string (⟨#[115, 117, 99, 40, 98, 41, 61, 97]⟩ : ByteArray), .string (⟨#[102, 40, 102, 40, 102, 40, 97, 41, 41, 41, 61, 97]⟩ : ByteArray), .string (⟨#[105, 40, 109, 40, 65, 44, 66, 41, 41, 61, 109, 40, 105, 40, 66, 41, 44, 105, 40, 65, 41, 41]⟩ : ByteArray)]) (ok := fun _ => True) (okp := fun _ => True) ?hr ?hp (fun _ hk => hk) trivial (Below.refl _ _) (Nat.le_refl _) (by simp) ?_; (case hd => rfl); (case hg => rfl); (case hr => first | (go_simp; done) | (go_simp; rfl)); (case hp => exact (Aj9.one (show Kd.M Kd.string _ _ _ (⟨#[109, 40, 101, 44, 65, 41, 61, 65]⟩ : ByteArray) [.string (⟨#[109, 40, 101, 44, 65, 41, 61, 65]⟩ : ByteArray)] from rfl) (Aj9.one (show Kd.M Kd.string _ _ _ (⟨#[109, 40, 65, 44, 101, 41, 61, 65]⟩ : ByteArray) [.string (⟨#[109, 40, 65, 44, 101, 41, 61, 65]⟩ : ByteArray)] from rfl) (Aj9.one (show Kd.M Kd.string _ _ _ (⟨#[109, 40, 105, 40, 65, 41, 44, 65, 41, 61, 101]⟩ : ByteArray) [.string (⟨#[109, 40, 105, 40, 65, 41, 44, 65, 41, 61, 101]⟩ : ByteArray)] from rfl) (Aj9.one (show Kd.M Kd.string _ _ _ (⟨#[105, 40, 105, 40, 65, 41, 41, 61, 65]⟩ : ByteArray) [.string (⟨#[105, 40, 105, 40, 65, 41, 41, 61, 65]⟩ : ByteArray)] from rfl) (Aj9.one (show Kd.M Kd.string _ _ _ (⟨#[105, 40, 101, 41, 61, 101]⟩ : ByteArray) [.string (⟨#[105, 40, 101, 41, 61, 101]⟩ : ByteArray)] from rfl) (Aj9.one (show Kd.M Kd.string _ _ _ (⟨#[97, 100, 100, 40, 97, 44, 65, 41, 61, 65]⟩ : ByteArray) [.string (⟨#[97, 100, 100, 40, 97, 44, 65, 41, 61, 65]⟩ : ByteArray)] from rfl) (Aj9.one (show Kd.M Kd.string _ _ _ (⟨#[97, 100, 100, 40, 115, 117, 99, 40, 65, 41, 44, 66, 41, 61, 115, 117, 99, 40, 97, 100, 100, 40, 65, 44, 66, 41, 41]⟩ : ByteArray) [.string (⟨#[97, 100, 100, 40, 115, 117, 99, 40, 65, 41, 44, 66, 41, 61, 115, 117, 99, 40, 97, 100, 100, 40, 65, 44, 66, 41, 41]⟩ : ByteArray)] from rfl) (Aj9.one (show Kd.M Kd.string _ _ _ (⟨#[102, 40, 103, 40, 65, 41, 41, 61, 65]⟩ : ByteArray) [.string (⟨#[102, 40, 103, 40, 65, 41, 41, 61, 65]⟩ : ByteArray)] from rfl) (Aj9.one (show Kd.M Kd.string _ _ _ (⟨#[102, 40, 102, 40, 65, 41, 41, 61, 65]⟩ : ByteArray) [.string (⟨#[102, 40, 102, 40, 65, 41, 41, 61, 65]⟩ : ByteArray)] from rfl) (Aj9.one (show Kd.M Kd.string _ _ _ (⟨#[103, 40, 102, 40, 97, 41, 41, 61, 97]⟩ : ByteArray) [.string (⟨#[103, 40, 102, 40, 97, 41, 41, 61, 97]⟩ : ByteArray)] from rfl) (Aj9.one (show Kd.M Kd.string _ _ _ (⟨#[109, 40, 109, 40, 65, 44, 66, 41, 44, 67, 41, 61, 109, 40, 65, 44, 109, 40, 66, 44, 67, 41, 41]⟩ : ByteArray) [.string (⟨#[109, 40, 109, 40, 65, 44, 66, 41, 44, 67, 41, 61, 109, 40, 65, 44, 109, 40, 66, 44, 67, 41, 41]⟩ : ByteArray)] from rfl) (Aj9.one (show Kd.M Kd.string _ _ _ (⟨#[115, 117, 99, 40, 115, 117, 99, 40, 65, 41, 41, 61, 65]⟩ : ByteArray) [.string (⟨#[115, 117, 99, 40, 115, 117, 99, 40, 65, 41, 41, 61, 65]⟩ : ByteArray)] from rfl) (Aj9.one (show Kd.M Kd.string _ _ _ (⟨#[98, 61, 97]⟩ : ByteArray) [.string (⟨#[98, 61, 97]⟩ : ByteArray)] from rfl) (Aj9.one (show Kd.M Kd.string _ _ _ (⟨#[109, 40, 97, 44, 97, 41, 61, 97]⟩ : ByteArray) [.string (⟨#[109, 40, 97, 44, 97, 41, 61, 97]⟩ : ByteArray)] from rfl) (Aj9.one (show Kd.M Kd.string _ _ _ (⟨#[97, 100, 100, 40, 65, 44, 98, 41, 61, 65]⟩ : ByteArray) [.string (⟨#[97, 100, 100, 40, 65, 44, 98, 41, 61, 65]⟩ : ByteArray)] from rfl) (Aj9.one (show Kd.M Kd.string _ _ _ (⟨#[115, 117, 99, 40, 98, 41, 61, 97]⟩ : ByteArray) [.string (⟨#[115, 117, 99, 40, 98, 41, 61, 97]⟩ : ByteArray)] from rfl) (Aj9.one (show Kd.M Kd.string _ _ _ (⟨#[102, 40, 102, 40, 102, 40, 97, 41, 41, 41, 61, 97]⟩ : ByteArray) [.string (⟨#[102, 40, 102, 40, 102, 40, 97, 41, 41, 41, 61, 97]⟩ : ByteArray)] from rfl) (Aj9.one (show Kd.M Kd.string _ _ _ (⟨#[105, 40, 109, 40, 65, 44, 66, 41, 41, 61, 109, 40, 105, 40, 66, 41, 44, 105, 40, 65, 41, 41]⟩ : ByteArray) [.string (⟨#[105, 40, 109, 40, 65, 44, 66, 41, 41, 61, 109, 40, 105, 40, 66, 41, 44, 105, 40, 65, 41, 41]⟩ : ByteArray)] from rfl) (Aj9.none _ _)))))))))))))))))))); intro v5 w5 k8 hb v6 hnew_; clear v6 hnew_; (first | rw [← i5.out] at k8 | (simp only [Int.reduceToNat] at k8; rw [← i5.out] at k8)); have g0 := am (Kd.R_lower k8 (Ae0 (w := w) (g := g) (row := none) (ks HK.out))); replace a0 := bb a0 hb; replace HK := ku HK hb; replace HB := am (Ad9 (hsk HB.out (Aa0.ge a7.out)) hb); replace a7 := Aa0.bl a7 hb; clear hb k8; obtain ⟨v7, s1, rfl⟩ := Kd.R_slice g0.out) | (refine gl (some 15) Tryz.func75 rfl #[.pointer (some ⟨g, 0, none⟩), .int .i64 (a5.length : Int)] ?_; refine (Ad7.calls g b0 g8 (a5.length : Int) h6 d0 w0 _ (Aa0.q a7.out) (hsk HB.out (Aa0.ge a7.out)) A3.out).mono ?_; rintro e w8 ⟨rfl, hi, hb, hk⟩; refine ⟨_, rfl, ?_⟩; replace a0 := kb hk a0 b3; replace g0 := Aa0.rk a7 g0 hk; replace HK := kt HK hk; replace HB := am (hb); replace a7 := am (hi); clear hb hk hi))
 go_loopg [8] k (fun kq v8 w' => ∃ (e1 : Int), v8 = .int .i64 e1 ∧ Aside0 (Af7.l0 kq l1 a5 (a5.length : Int) h6 e1 b0 d0 = some (r1, r2, r3)) ∧ Aside0 (kq ≤ k) ∧ Aside0 (Kd.R Kd.string 9 w' w.heap.size (fun _ => True) (.slice v7 a5.length s1) a5) ∧ Aside0 (w'.heap[a8]? = some (.cells #[(.slice none 0 0), (.slice none 0 0)] 30 (0, 0))) ∧ Aside0 (Aa0 w0 w' g b0 d0) ∧ Aside0 (Ab7 w w' g none) ∧ Aside0 (Below w0.heap.size w0 w'))
 case atStart => exact ⟨(0), et, H', ⟨Nat.le_refl _⟩, ⟨rq g0.out⟩, ⟨bq a0.out⟩, ⟨Aa0.q a7.out⟩, ⟨ks HK.out⟩, ⟨hsk HB.out (Aa0.ge a7.out)⟩⟩
 case round =>
  clear H'
  obtain ⟨e1, rfl, HA, s2, HO_5, a0, a7, HK, HB⟩ := hrel
  cases gk with
  | zero => exact absurd HA.out (by simp [Af7.l0])
  | succ k1 =>
   have H := HA.out
   clear HA
   simp only [Af7.l0] at H
   by_cases c9 : e1 < (a5.length : Int)
   ·rw [if_pos c9] at H
    have p6 := decide_eq_true c9
    clear c9
    obtain ⟨c10, H⟩ := ifs H
    have s3 := decide_eq_true c10
    have s4 : decide (0 < l1.length) = true := decide_eq_true (by omega)
    clear c10
    by_cases m5 : (a5.length : Int) = 0
    ·rw [if_pos m5] at H
     exact absurd H (by simp)
    ·rw [if_neg m5] at H
     obtain ⟨s5, s6⟩ := bqf m5
     have s7 : ¬ (a5 = []) := fun h_ => m5 (by rw [h_]; rfl)
     obtain ⟨b4, d7⟩ : ∃ j_ : Int, (Int.tmod (wrap64 (h6 + e1)) (a5.length : Int)) = j_ := ⟨_, rfl⟩
     replace H : (if 0 ≤ (b4) then (if (b4) < (a5.length : Int) then ((Af6.f k1 ((Ad6 l1 0).f0) (As6 ByteArray.empty a5 (b4))).bind fun h3 => (if h3.1 = 0 then (some (h3.2.1, h3.2.2, d0)) else (Af7.l0 k1 l1 a5 (a5.length : Int) h6 (wrap64 (e1 + 1)) b0 d0))) else (none)) else (none)) = some (r1, r2, r3) := by first | (rw [d7] at H; exact H) | (simp only [d7] at H ⊢; exact H)
     obtain ⟨s8, H⟩ := ife H
     obtain ⟨s9, H⟩ := ife H
     obtain ⟨⟨e2, d4, d5⟩, t0, H⟩ := ob H
     try dsimp only at H
     have k9 := am H
     clear H
     try go_wp2
     replace HO_5 := am (Kd.R_drew HO_5.out)
     replace a0 := am (Ah2 a0.out)
     replace a7 := am (Aa0.drew a7.out)
     replace HK := am (As5 HK.out)
     replace HB := am (Af1 HB.out)
     have i7 : 0 ≤ (0 : Int) := (by omega)
     have i9 : 0 < (l1.length : Int) := od
     obtain ⟨d1, b7, b8, p7, b5, g1, g2⟩ := Aj0 (Kd.C_foot_now e8.out HK.out) 0 i7 i9
     have h8 := b5
     (try simp only [t0_] at h8)
     cases p7
     have l4 := (show (d1 : Addr).block ≠ g from by first | (rw [Ag3]; exact Kd.foot_ne e8.out (by omega) (by decide)) | (show (Addr.add _ _).block ≠ _; rw [Ag3]; exact Kd.foot_ne e8.out (by omega) (by decide)) | exact Kd.foot_ne e8.out (by omega) (by decide) | (dsimp only; exact Kd.foot_ne e8.out (by omega) (by decide)))
     have d2 := (Kd.foot_lt e8.out (by omega) (by decide))
     have t1 : (0 < l1.length) = True := eq_true (by omega)
     (try simp only [t0_] at b5)
     have a9 := am g2
     have m6 := am g1
     clear g2 g1
     obtain ⟨i7, i9⟩ := ee i7 i9
     have j5 : 0 ≤ (0 : Int) := (by omega)
     have j6 : 0 < (l1.length : Int) := od
     obtain ⟨l5, p8, p9, q0, b6, g3, g4⟩ := Aj0 (Kd.C_foot_now e8.out HK.out) 0 j5 j6
     have h9 := b6
     (try simp only [t0_] at h9)
     obtain rfl : d1 = l5 := (by injection q0)
     have l6 := (show (d1 : Addr).block ≠ g from by first | (rw [Ag3]; exact Kd.foot_ne e8.out (by omega) (by decide)) | (show (Addr.add _ _).block ≠ _; rw [Ag3]; exact Kd.foot_ne e8.out (by omega) (by decide)) | exact Kd.foot_ne e8.out (by omega) (by decide) | (dsimp only; exact Kd.foot_ne e8.out (by omega) (by decide)))
     have d3 := (Kd.foot_lt e8.out (by omega) (by decide))
     have t2 : (0 < l1.length) = True := eq_true (by omega)
     (try simp only [t0_] at b6)
     have a6 := am g4
     have g5 := am g3
     clear g4 g3
     obtain ⟨j5, j6⟩ := ee j5 j6
     obtain ⟨rfl, rfl⟩ := sj b5 b6
     have j7 : 0 ≤ ((b4) : Int) := od
     have j8 : (b4) < (a5.length : Int) := od
     obtain ⟨h4, q1, g6⟩ := Kd.at_string (Kd.R_reads' HO_5.out).2.2 (b4) j7 j8
     cases q1
     obtain ⟨j7, j8⟩ := ee j7 j8
     refine st_ (n := 14) (S := fun w' => w'.cell? d1 = some (.slice b7 ((Ad6 l1 0).f0).length b8) ∧ w'.cell? d1 = some (.slice b7 ((Ad6 l1 0).f0).length b8) ∧ w'.cell? (h4.add ((b4)).toNat) = some (.string (As6 ByteArray.empty a5 (b4)))) (ds := []) ⟨b5, b6, g6⟩ (fun hHeld => ?_); refine Ah6 Af7.tab7 Af7.bits7 (fun e0 t3 => ?_)
     generalize wr.drew = x3 at HO_5 a0 a7 HK HB a9 a6 b5 b6 g6 hHeld ⊢
     refine pu 0 21 rfl rfl e0 ?_
     refine pu 1 22 rfl rfl e0 ?_
     refine pu 3 24 rfl rfl e0 ?_
     refine pu 4 25 rfl rfl e0 ?_
     refine pu 5 26 rfl rfl e0 ?_
     refine pu 6 27 rfl rfl e0 ?_
     refine pu 7 28 rfl rfl e0 ?_
     refine pu 8 29 rfl rfl e0 ?_
     refine pu 9 30 rfl rfl e0 ?_
     refine tk 2 23 rfl rfl e0 t3 hHeld ?_
     refine tk 10 31 rfl rfl e0 t3 hHeld ?_
     refine Bl8 (σ := Value × Value × Nat) 1 #[true, true, true, true, true, true, true, true, true, true, true, true, true, false] (fun s_ => [(32, .agg #[.int .i64 e2, s_.1, s_.2.1]), (9, .pointer (some ⟨s_.2.2, 0, none⟩))]) (fun s_ w' => (w'.cell? d1 = some (.slice b7 ((Ad6 l1 0).f0).length b8) ∧ w'.cell? d1 = some (.slice b7 ((Ad6 l1 0).f0).length b8) ∧ w'.cell? (h4.add ((b4)).toNat) = some (.string (As6 ByteArray.empty a5 (b4)))) ∧ (Kd.R (Kd.int .i64) 2 w' w.heap.size (fun k_ => some k_ ≠ (s_.2.1 : Value).ownBlock) s_.1 d4) ∧ (Kd.R (Kd.int .i64) 2 w' w.heap.size (fun k_ => some k_ ≠ (s_.1 : Value).ownBlock) s_.2.1 d5) ∧ (Kd.R Kd.string 9 w' w.heap.size (fun _ => True) (.slice (some h4) a5.length s1) a5) ∧ (w'.heap[a8]? = some (.cells #[.slice none 0 0, .slice none 0 0] 30 (0, 0))) ∧ (w'.heap[s_.2.2]? = some (.cells #[.int .i64 0, .slice none 0 0, .slice none 0 0] 32 (0, 0))) ∧ (w.heap.size ≤ s_.2.2) ∧ (w0.heap.size ≤ s_.2.2) ∧ (g ≠ s_.2.2) ∧ (s_.2.2 ≠ g) ∧ (a8 ≠ s_.2.2) ∧ (s_.2.2 ≠ a8) ∧ (Aa0 w0 w' g b0 d0) ∧ (Ab7 w w' g none) ∧ (Below w0.heap.size w0 w')) ?_ ?_
     rotate_left
     ·intro hCont
      refine Bn3 (i := 11) (j := 12) (Ni := some 32) (Nj := some 9) #[true, true, true, true, true, true, true, true, true, true, true, true, false, false] #[true, true, true, true, true, true, true, true, true, true, true, false, true, false] rfl rfl rfl rfl (Bc2 e0.out (by kernel_rfl)) (by decide) (by decide) (fun K hK => ?_) (fun K hK => ?_)
      ·skip
       refine Bl7 Tryz.func117 (by kernel_rfl) rfl #[.agg #[.slice b7 ((Ad6 l1 0).f0).length b8], .string (As6 ByteArray.empty a5 (b4))] (by rfl) rfl rfl (by (try simp only [List.map_toArray, List.map_cons, List.map_nil]); first | done | (simp only [d7]; rfl) | rfl | (simp only [List.length_drop, List.length_take]; rfl)) ?_
       refine (Af6.calls k1 _ _ ((Ad6 l1 0).f0) (As6 ByteArray.empty a5 (b4)) e2 d4 d5 _ (cq (cq a6.out)) g5.out t0.out).mono ?_
       rintro e v9 ⟨i0, i1, rfl, h2, l7, hb⟩
       have e3 := (hb.cell (World.block_lt_of_cell? _ _ (hHeld.1))).trans (hHeld.1)
       have e4 := (hb.cell (World.block_lt_of_cell? _ _ (hHeld.2.1))).trans (hHeld.2.1)
       have e5 := (hb.cell (World.block_lt_of_cell? _ _ (hHeld.2.2))).trans (hHeld.2.2)
       refine ⟨_, rfl, ?_⟩
       replace HO_5 := rb HO_5 hb
       have b9 := am (Kd.R_lower h2 (Ae0 (w := w) (g := g) (row := none) (ks HK.out)))
       have c0 := am (Kd.R_lower l7 (Ae0 (w := w) (g := g) (row := none) (ks HK.out)))
       replace a0 := bb a0 hb
       replace a9 := am (Kd.C_below (cq a9.out) hb)
       replace a6 := am (Kd.C_below (cq a6.out) hb)
       replace HK := ku HK hb
       replace HB := am (Ad9 (hsk HB.out (Aa0.ge a7.out)) hb)
       replace a7 := Aa0.bl a7 hb
       (try clear hb)
       (try clear hk)
       (try clear hi)
       (try clear h2)
       (try clear l7)
       refine hK.out _ _ ⟨e3, e4, e5⟩ (fun hHeld => ?_)
       clear hK K
       refine nr (some 32) ?_
       refine on_ 12 (some 9) rfl rfl e0 (fun K hK => ?_)
       refine At5 ?hg (N := 9) ?hd (cs := #[.int .i64 0, .slice none 0 0, .slice none 0 0]) (t := 32) ?hr ?_; (case hd => rfl); (case hg => rfl); (case hr => first | (go_simp; done) | (go_simp; rfl))
       intro a1 hg w2 hbox hb
       have e3 := (hb.cell (World.block_lt_of_cell? _ _ (hHeld.1))).trans (hHeld.1)
       have e4 := (hb.cell (World.block_lt_of_cell? _ _ (hHeld.2.1))).trans (hHeld.2.1)
       have e5 := (hb.cell (World.block_lt_of_cell? _ _ (hHeld.2.2))).trans (hHeld.2.2)
       replace HO_5 := rb HO_5 hb
       replace b9 := rb b9 hb
       replace c0 := rb c0 hb
       replace a9 := am (Kd.C_below (cq a9.out) hb)
       replace a6 := am (Kd.C_below (cq a6.out) hb)
       replace HB := am (Ad9 (hsk HB.out (Aa0.ge a7.out)) hb)
       have a2 := am (hbox)
       have b2 := am ((by rw [hg]; exact (Ae0 (w := w) (g := g) (row := none) (ks HK.out)) : w.heap.size ≤ a1))
       have g7 := am ((Nat.le_trans p5.out (by rw [hg]; exact (Ae0 (w := w) (g := g) (row := none) (ks HK.out)) : w.heap.size ≤ a1) : w0.heap.size ≤ a1))
       replace HK := ku HK hb
       have a3 := nl hg a0
       have a4 := ng hg a0
       replace a0 := bb a0 hb
       have c1 := am ((by rw [hg]; exact Nat.ne_of_lt (Aa0.lt (show Aa0 w0 _ g b0 d0 from Aa0.q a7.out)) : g ≠ a1))
       have b1 := am ((by rw [hg]; exact Nat.ne_of_gt (Aa0.lt (show Aa0 w0 _ g b0 d0 from Aa0.q a7.out)) : a1 ≠ g))
       replace a7 := Aa0.bl a7 hb
       clear hb hbox hg
       refine hK.out _ _ ⟨e3, e4, e5⟩ (fun hHeld => ?_)
       clear hK K
       refine nr (some 9) ?_
       exact nj (hCont (i0, i1, a1) _ ⟨hHeld, (rq b9.out), (rq c0.out), (rq HO_5.out), (bq a0.out), (bq a2.out), b2.out, g7.out, c1.out, b1.out, a3.out, a4.out, (Aa0.q a7.out), (ks HK.out), (hsk HB.out (Aa0.ge a7.out))⟩)
      ·skip
       refine At5 ?hg (N := 9) ?hd (cs := #[.int .i64 0, .slice none 0 0, .slice none 0 0]) (t := 32) ?hr ?_; (case hd => rfl); (case hg => rfl); (case hr => first | (go_simp; done) | (go_simp; rfl))
       intro a1 hg v9 hbox hb
       have e3 := (hb.cell (World.block_lt_of_cell? _ _ (hHeld.1))).trans (hHeld.1)
       have e4 := (hb.cell (World.block_lt_of_cell? _ _ (hHeld.2.1))).trans (hHeld.2.1)
       have e5 := (hb.cell (World.block_lt_of_cell? _ _ (hHeld.2.2))).trans (hHeld.2.2)
       replace HO_5 := rb HO_5 hb
       replace a9 := am (Kd.C_below (cq a9.out) hb)
       replace a6 := am (Kd.C_below (cq a6.out) hb)
       replace HB := am (Ad9 (hsk HB.out (Aa0.ge a7.out)) hb)
       have a2 := am (hbox)
       have b2 := am ((by rw [hg]; exact (Ae0 (w := w) (g := g) (row := none) (ks HK.out)) : w.heap.size ≤ a1))
       have g7 := am ((Nat.le_trans p5.out (by rw [hg]; exact (Ae0 (w := w) (g := g) (row := none) (ks HK.out)) : w.heap.size ≤ a1) : w0.heap.size ≤ a1))
       replace HK := ku HK hb
       have a3 := nl hg a0
       have a4 := ng hg a0
       replace a0 := bb a0 hb
       have c1 := am ((by rw [hg]; exact Nat.ne_of_lt (Aa0.lt (show Aa0 w0 _ g b0 d0 from Aa0.q a7.out)) : g ≠ a1))
       have b1 := am ((by rw [hg]; exact Nat.ne_of_gt (Aa0.lt (show Aa0 w0 _ g b0 d0 from Aa0.q a7.out)) : a1 ≠ g))
       replace a7 := Aa0.bl a7 hb
       clear hb hbox hg
       refine hK.out _ _ ⟨e3, e4, e5⟩ (fun hHeld => ?_)
       clear hK K
       refine nr (some 9) ?_
       refine on_ 11 (some 32) rfl rfl e0 (fun K hK => ?_)
       refine Bl7 Tryz.func117 (by kernel_rfl) rfl #[.agg #[.slice b7 ((Ad6 l1 0).f0).length b8], .string (As6 ByteArray.empty a5 (b4))] (by rfl) rfl rfl (by (try simp only [List.map_toArray, List.map_cons, List.map_nil]); first | done | (simp only [d7]; rfl) | rfl | (simp only [List.length_drop, List.length_take]; rfl)) ?_
       refine (Af6.calls k1 _ _ ((Ad6 l1 0).f0) (As6 ByteArray.empty a5 (b4)) e2 d4 d5 _ (cq (cq a6.out)) g5.out t0.out).mono ?_
       rintro e w2 ⟨i0, i1, rfl, h2, l7, hb⟩
       have e3 := (hb.cell (World.block_lt_of_cell? _ _ (hHeld.1))).trans (hHeld.1)
       have e4 := (hb.cell (World.block_lt_of_cell? _ _ (hHeld.2.1))).trans (hHeld.2.1)
       have e5 := (hb.cell (World.block_lt_of_cell? _ _ (hHeld.2.2))).trans (hHeld.2.2)
       refine ⟨_, rfl, ?_⟩
       replace HO_5 := rb HO_5 hb
       have b9 := am (Kd.R_lower h2 (Ae0 (w := w) (g := g) (row := none) (ks HK.out)))
       have c0 := am (Kd.R_lower l7 (Ae0 (w := w) (g := g) (row := none) (ks HK.out)))
       replace a0 := bb a0 hb
       replace a9 := am (Kd.C_below (cq a9.out) hb)
       replace a6 := am (Kd.C_below (cq a6.out) hb)
       replace a2 := bb a2 hb
       replace HK := ku HK hb
       replace HB := am (Ad9 (hsk HB.out (Aa0.ge a7.out)) hb)
       replace a7 := Aa0.bl a7 hb
       (try clear hb)
       (try clear hk)
       (try clear hi)
       (try clear h2)
       (try clear l7)
       refine hK.out _ _ ⟨e3, e4, e5⟩ (fun hHeld => ?_)
       clear hK K
       refine nr (some 32) ?_
       exact nj (hCont (i0, i1, a1) _ ⟨hHeld, (rq b9.out), (rq c0.out), (rq HO_5.out), (bq a0.out), (bq a2.out), b2.out, g7.out, c1.out, b1.out, a3.out, a4.out, (Aa0.q a7.out), (ks HK.out), (hsk HB.out (Aa0.ge a7.out))⟩)
     clear HO_5 a0 a7 HK HB
     rintro ⟨i0, i1, a1⟩ l8 ⟨t4, q2, q3, q4, q5, q6, q7, q8, q9, r0, r4, j9, k0, k2, k3⟩
     try dsimp only at t4 q2 q3 q4 q5 q6 q7 q8 q9 r0 r4 j9 k0 k2 k3
     have b9 := am q2; have c0 := am q3; have HO_5 := am q4; have a0 := am q5; have a2 := am q6; have b2 := am q7; have g7 := am q8; have c1 := am q9; have b1 := am r0; have a3 := am r4; have a4 := am j9; have a7 := am k0; have HK := am k2; have HB := am k3; clear q2 q3 q4 q5 q6 q7 q8 q9 r0 r4 j9 k0 k2 k3; have hHeld := t4
     obtain ⟨e6, e7, l9⟩ := Kd.R_slice b9.out
     (first | subst l9 | (injection l9 with m0 r5 m1; have r6 := m0.symm; have r7 := m1.symm; clear m0 r5 m1; subst r6; subst r7))
     obtain ⟨g9, h0, m2⟩ := Kd.R_slice c0.out
     (first | subst m2 | (injection m2 with m0 r5 m1; have r6 := m0.symm; have r7 := m1.symm; clear m0 r5 m1; subst r6; subst r7))
     refine nj ?_
     refine on_ 13 none rfl rfl e0 (fun K hK => ?_)
     have w3 : l8.cell? ⟨a1, 0, none⟩ = some (.int .i64 0) := (Ad1 a2.out 0).trans rfl
     have t5 := Aa2 a2.out 0
     have m7 := a3.out
     have m8 := a4.out
     have w6 : l8.cell? ⟨a1, 1, none⟩ = some (.slice none 0 0) := (Ad1 a2.out 1).trans rfl
     have t6 := Aa2 a2.out 1
     have m9 := a3.out
     have n0 := a4.out
     have w7 : l8.cell? ⟨a1, 2, none⟩ = some (.slice none 0 0) := (Ad1 a2.out 2).trans rfl
     have t7 := Aa2 a2.out 2
     have n1 := a3.out
     have n2 := a4.out
     refine Be5 (w1 := ?_) (by rfl) rfl ?_ ?_
     rotate_left
     ·go_simp
      rfl
     refine hK.out _ _ ⟨((Ai9 (p := ⟨a1, _, none⟩) (ab (Nat.ne_of_lt (Nat.lt_of_lt_of_le d2 b2.out))) _).trans (((Ai9 (p := ⟨a1, _, none⟩) (ab (Nat.ne_of_lt (Nat.lt_of_lt_of_le d2 b2.out))) _).trans (((Ai9 (p := ⟨a1, _, none⟩) (ab (Nat.ne_of_lt (Nat.lt_of_lt_of_le d2 b2.out))) _).trans (hHeld.1)))))), ((Ai9 (p := ⟨a1, _, none⟩) (ab (Nat.ne_of_lt (Nat.lt_of_lt_of_le d3 b2.out))) _).trans (((Ai9 (p := ⟨a1, _, none⟩) (ab (Nat.ne_of_lt (Nat.lt_of_lt_of_le d3 b2.out))) _).trans (((Ai9 (p := ⟨a1, _, none⟩) (ab (Nat.ne_of_lt (Nat.lt_of_lt_of_le d3 b2.out))) _).trans (hHeld.2.1)))))), ((Ai9 (p := ⟨a1, _, none⟩) (ab (Kd.own_blk (Kd.R_ne HO_5.out a2.out (by decide)))) _).trans (((Ai9 (p := ⟨a1, _, none⟩) (ab (Kd.own_blk (Kd.R_ne HO_5.out a2.out (by decide)))) _).trans (((Ai9 (p := ⟨a1, _, none⟩) (ab (Kd.own_blk (Kd.R_ne HO_5.out a2.out (by decide)))) _).trans (hHeld.2.2))))))⟩ (fun hHeld => ?_)
     clear hK K
     refine Ar3 (Al8 e0.out (by kernel_rfl)) ?_
     obtain ⟨t8, t9⟩ := nn a4
     obtain ⟨u0, u1⟩ := nn b1
     have n3 := c0_ a2
     have n4 := c1_ a2
     have n5 : l8.cell? ⟨a1, 2, none⟩ = some (.slice none 0 0) := (Ad1 a2.out 2).trans rfl
     have n6 := Aa2 a2.out 0
     have n7 := Aa2 a2.out 1
     have n8 := Aa2 a2.out 2
     go_upto_if 35 with (fail)
     have H := k9.out
     clear k9
     by_cases m3 : e2 = 0
     ·rw [if_pos m3] at H
      obtain ⟨d8, m4⟩ := bqt m3; clear m3
      (first | rw [d8] | (simp only [Ae6, Ae7]; rw [d8]) | skip)
      simp only [Option.some.injEq, Prod.mk.injEq] at H
      obtain ⟨rfl, rfl, rfl⟩ := H
      obtain ⟨u2, u3⟩ := nn a4
      obtain ⟨u4, u5⟩ := nn b1
      have n9 := c0_ a2
      have o0 := c1_ a2
      have o1 : l8.cell? ⟨a1, 2, none⟩ = some (.slice none 0 0) := (Ad1 a2.out 2).trans rfl
      have o2 := Aa2 a2.out 0
      have o3 := Aa2 a2.out 1
      have o4 := Aa2 a2.out 2
      obtain ⟨u6, u7⟩ := nn b3
      have o5 := c0_ a0
      have o6 := c1_ a0
      have o7 := Aa2 a0.out 0
      have o8 := Aa2 a0.out 1
      go_wp2
      refine bodyPost_ret (results_cell_row rfl _ _ a8 30 #[.slice e6 d4.length e7, .slice g9 d5.length h0] (0, 0) _ rfl (by refine bq ?_; refine Ac7 (cs := #[.slice e6 d4.length e7, .slice none 0 0]) ?_ 1 _ rfl; refine bq ?_; refine Ac7 (cs := #[.slice none 0 0, .slice none 0 0]) ?_ 0 _ rfl; refine bq ?_; refine Aq1 ?_ a3.out _; refine bq ?_; refine Aq1 ?_ a3.out _; refine bq ?_; refine Aq1 ?_ a3.out _; refine bq ?_; exact a0.out) Tryz.underlying30 rfl (by kernel_rfl)) rfl ?_
      exact ⟨_, _, by first | rfl | (simp [Ag8, Ag7] <;> rfl) | (simp only [← d7]; first | rfl | (simp [Ag8, Ag7] <;> rfl)) | (simp [*, Ag8, Ag7] <;> rfl), rq (Kd.R_mono (Kd.R_far (p := ⟨a8, 1, none⟩) (Kd.R_far (p := ⟨a8, 0, none⟩) (Kd.R_far (p := ⟨a1, 2, none⟩) (Kd.R_far (p := ⟨a1, 1, none⟩) (Kd.R_far (p := ⟨a1, 0, none⟩) (Kd.R_types (Kd.R_types b9.out a2.out (by decide)) a0.out (by decide)) (fun _ hk => hk.1.2) (.int .i64 e2)) (fun _ hk => hk.1.2) (.slice e6 d4.length e7)) (fun _ hk => hk.1.2) (.slice g9 d5.length h0)) (fun _ hk => hk.2) (.slice e6 d4.length e7)) (fun _ hk => hk.2) (.slice g9 d5.length h0)) (fun _ hk => hk.1.1)), rq (Kd.R_mono (Kd.R_far (p := ⟨a8, 1, none⟩) (Kd.R_far (p := ⟨a8, 0, none⟩) (Kd.R_far (p := ⟨a1, 2, none⟩) (Kd.R_far (p := ⟨a1, 1, none⟩) (Kd.R_far (p := ⟨a1, 0, none⟩) (Kd.R_types (Kd.R_types c0.out a2.out (by decide)) a0.out (by decide)) (fun _ hk => hk.1.2) (.int .i64 e2)) (fun _ hk => hk.1.2) (.slice e6 d4.length e7)) (fun _ hk => hk.1.2) (.slice g9 d5.length h0)) (fun _ hk => hk.2) (.slice e6 d4.length e7)) (fun _ hk => hk.2) (.slice g9 d5.length h0)) (fun _ hk => hk.1.1)), Aa0.q a7.out, hsk HB.out (Aa0.ge a7.out), ks HK.out⟩
     ·rw [if_neg m3] at H
      obtain ⟨d8, m4⟩ := bqf m3
      (first | rw [d8] | (simp only [Ae6, Ae7]; rw [d8]) | skip)
      have H' := am H
      clear H
      go_wp2
      go_roundg k1
      case measure => have := s2.out; omega
      case rel => exact ⟨(wrap64 (e1 + 1)), et, H', ⟨by have := s2.out; omega⟩, ⟨rq (Kd.R_mono (Kd.R_far (p := ⟨a1, 2, none⟩) (Kd.R_far (p := ⟨a1, 1, none⟩) (Kd.R_far (p := ⟨a1, 0, none⟩) (Kd.R_types HO_5.out a2.out (by decide)) (fun _ hk => hk.2) (.int .i64 e2)) (fun _ hk => hk.2) (.slice e6 d4.length e7)) (fun _ hk => hk.2) (.slice g9 d5.length h0)) (fun _ hk => trivial))⟩, ⟨bf a0.out⟩, ⟨Aa0.q a7.out⟩, ⟨ks HK.out⟩, ⟨hsk HB.out (Aa0.ge a7.out)⟩⟩
   ·rw [if_neg c9] at H
    have p6 := decide_eq_false c9
    clear c9
    obtain ⟨⟨h5, k4⟩, w9, H⟩ := ob H
    try dsimp only at H
    obtain ⟨⟨i2, r8⟩, x0, H⟩ := ob H
    try dsimp only at H
    simp only [Option.some.injEq, Prod.mk.injEq] at H
    obtain ⟨rfl, rfl, rfl⟩ := H
    go_wp2_with (first | (refine gl (some 40) Tryz.func92 rfl #[.pointer (some ⟨g, 0, none⟩), .pointer A1, .int .i64 4, .int .i64 2] ?_; refine (Ab6.calls k1 g b0 d0 _ l1 4 2 h5 k4 w0 _ (Aa0.q a7.out) (hsk HB.out (Aa0.ge a7.out)) (Kd.C_foot_step e8.out (ks HK.out)) w9.out).mono ?_; rintro e x4 ⟨x1, rfl, h2, hi, hb, hk⟩; refine ⟨_, rfl, ?_⟩; replace HO_5 := Aa0.rk a7 HO_5 hk; replace a0 := kb hk a0 b3; have d9 := am (Kd.R_lower h2 (Ae0 (w := w) (g := g) (row := none) (ks HK.out))); replace HK := kt HK hk; replace HB := am (hb); replace a7 := am (hi); clear hb hk hi h2) | (refine gl (some 43) Tryz.func92 rfl #[.pointer (some ⟨g, 0, none⟩), .pointer A1, .int .i64 2, .int .i64 2] ?_; refine (Ab6.calls k1 g b0 k4 _ l1 2 2 i2 r8 w0 _ (Aa0.q a7.out) (hsk HB.out (Aa0.ge a7.out)) (Kd.C_foot_step e8.out (ks HK.out)) x0.out).mono ?_; rintro e x5 ⟨x2, rfl, h2, hi, hb, hk⟩; refine ⟨_, rfl, ?_⟩; replace HO_5 := Aa0.rk a7 HO_5 hk; replace a0 := kb hk a0 b3; have i6 := am (Kd.R_lower (Kd.R_new' h2 (Kd.R_lt (rq d9.out))) (Ae0 (w := w) (g := g) (row := none) (ks HK.out))); replace d9 := am (Kd.R_mono (Kd.R_told (Kd.R_oldK (Aa0.apart (show Aa0 w0 _ g b0 k4 from Aa0.q a7.out) (rq d9.out) (by decide)) hk) (Kd.R_base h2)) (fun _ h_ => h_.1)); replace HK := kt HK hk; replace HB := am (hb); replace a7 := am (hi); (try clear hb); (try clear hk); (try clear hi); (try clear h2); obtain ⟨k5, k6, rfl⟩ := Kd.R_slice i6.out; obtain ⟨i3, i4, rfl⟩ := Kd.R_slice d9.out; obtain ⟨u9, v0⟩ := nn b3; have o9 := c0_ a0; have p0 := c1_ a0; have p1 := Aa2 a0.out 0; have p2 := Aa2 a0.out 1))
    refine bodyPost_ret (results_cell_row rfl _ _ a8 30 #[.slice i3 h5.length i4, .slice k5 i2.length k6] (0, 0) _ rfl (by refine bq ?_; refine Ac7 (cs := #[.slice i3 h5.length i4, .slice none 0 0]) ?_ 1 _ rfl; refine bq ?_; refine Ac7 (cs := #[.slice none 0 0, .slice none 0 0]) ?_ 0 _ rfl; refine bq ?_; exact a0.out) Tryz.underlying30 rfl (by kernel_rfl)) rfl ?_
    exact ⟨_, _, er, rq (Kd.R_mono (Kd.R_far (p := ⟨a8, 1, none⟩) (Kd.R_far (p := ⟨a8, 0, none⟩) (Kd.R_types d9.out a0.out (by decide)) (fun _ hk => hk.2) (.slice i3 h5.length i4)) (fun _ hk => hk.2) (.slice k5 i2.length k6)) (fun _ hk => hk.1.2)), rq (Kd.R_mono (Kd.R_far (p := ⟨a8, 1, none⟩) (Kd.R_far (p := ⟨a8, 0, none⟩) (Kd.R_types i6.out a0.out (by decide)) (fun _ hk => hk.2) (.slice i3 h5.length i4)) (fun _ hk => hk.2) (.slice k5 i2.length k6)) (fun _ hk => hk.1.2)), Aa0.q a7.out, hsk HB.out (Aa0.ge a7.out), ks HK.out⟩
def Ar7.f (k : Nat) (a0 : List Int) (a7 : Int) (l1 : List (S36)) : Option (List Int × List Int × Int) := (Ae1.f a0 a7 4).bind fun a1 => (if a1.1 = true then ((Ad8.f a0 a1.2 (([4, 7, 9] : List Int))).bind fun a3 => ((Ab6.f k a0 a3.2 l1 a3.1 3).bind fun a4 => ((Ad8.f a0 a4.2 (([1, 3, 5] : List Int))).bind fun a5 => ((Ab6.f k a0 a5.2 l1 a5.1 3).bind fun a6 => (some (a4.1, a6.1, a6.2)))))) else ((Af7.f k a0 a1.2 l1).bind fun a2 => (some (a2.1, a2.2.1, a2.2.2))))
theorem Ar7.calls (k : Nat) (g : Nat) (a1 : List Int) (b7 : Int) (A1 : Option Addr) (l1 : List (S36)) (r1 : List Int) (r2 : List Int) (r3 : Int) (w0 w : World) (hI : Aa0 w0 w g a1 b7) (hB : Below w0.heap.size w0 w) (i5 : ∀ W_, Ab7 w W_ g none → Kd.C k36 W_ A1 l1.length l1) (h : Ar7.f k a1 b7 l1 = some (r1, r2, r3)) :
  Calls Tryz.prog 91 #[.pointer (some ⟨g, 0, none⟩), .pointer A1] w fun e w' => ∃ h5 h6 : Value, e = .returned (.agg #[h5, h6]) ∧ Kd.R (Kd.int .i64) 2 w' w.heap.size (fun k_ => some k_ ≠ (h6 : Value).ownBlock) h5 r1 ∧ Kd.R (Kd.int .i64) 2 w' w.heap.size (fun k_ => some k_ ≠ (h5 : Value).ownBlock) h6 r2 ∧ Aa0 w0 w' g a1 r3 ∧ Below w0.heap.size w0 w' ∧ Ab7 w w' g none := by
 have j9 := Tryz.underlying30
 have h7 := am i5
 clear i5
 have a4 := am hI
 have HK := am (Ab7.refl w g none)
 have HL := am hB.size
 clear hI
 have k0 := am hB.size
 have HB := am hB
 clear hB
 have H : ((Ae1.f a1 b7 4).bind fun b8 => (if b8.1 = true then ((Ad8.f a1 b8.2 (([4, 7, 9] : List Int))).bind fun b0 => ((Ab6.f k a1 b0.2 l1 b0.1 3).bind fun b1 => ((Ad8.f a1 b1.2 (([1, 3, 5] : List Int))).bind fun a8 => ((Ab6.f k a1 a8.2 l1 a8.1 3).bind fun a9 => (some (b1.1, a9.1, a9.2)))))) else ((Af7.f k a1 b8.2 l1).bind fun b9 => (some (b9.1, b9.2.1, b9.2.2))))) = some (r1, r2, r3) := h
 clear h
 obtain ⟨⟨g4, d1⟩, A3, H⟩ := ob H
 try dsimp only at H
 have i6 := am H
 clear H
 go_enter Tryz.func91, Tryz.ntmps91
 go_upto_if 6 with (first | (refine bx 4 rfl #[.slice none 0 0, .slice none 0 0] 30 ?_; intro a5 hg w5 hbox hb; replace HB := am (Ad9 (hsk HB.out (Aa0.ge a4.out)) hb); have a0 := am (hbox); have g5 := am ((by rw [hg]; exact (Ae0 (w := w) (g := g) (row := none) (kq HK.out)) : w.heap.size ≤ a5)); replace HK := ku HK hb; have i7 := am (Nat.le_trans k0.out g5.out); have d2 := am ((by rw [hg]; exact Nat.ne_of_lt (Aa0.lt (show Aa0 w0 _ g a1 b7 from Aa0.q a4.out)) : g ≠ a5)); replace a4 := Aa0.bl a4 hb; have a3 := am d2.out.symm; clear hb hbox hg) | (refine gl (some 6) Tryz.func70 rfl #[.pointer (some ⟨g, 0, none⟩), .int .i64 4] ?_; refine (Ae1.calls g a1 b7 4 g4 d1 w0 _ (Aa0.q a4.out) (hsk HB.out (Aa0.ge a4.out)) A3.out).mono ?_; rintro e w6 ⟨rfl, hi, hb, hk⟩; refine ⟨_, rfl, ?_⟩; replace a0 := kb hk a0 a3; replace HK := kt HK hk; replace HB := am (hb); replace a4 := am (hi); clear hb hk hi))
 have H := i6.out
 clear i6
 by_cases c7 : g4 = true
 ·subst c7
  rw [if_pos rfl] at H
  obtain ⟨e4, b3⟩ : ∃ y_ : List Int, y_ = (([4, 7, 9] : List Int)) := ⟨_, rfl⟩
  replace H : ((Ad8.f a1 d1 e4).bind fun b0 => ((Ab6.f k a1 b0.2 l1 b0.1 3).bind fun b1 => ((Ad8.f a1 b1.2 (([1, 3, 5] : List Int))).bind fun a8 => ((Ab6.f k a1 a8.2 l1 a8.1 3).bind fun a9 => (some (b1.1, a9.1, a9.2)))))) = some (r1, r2, r3) := by first | (rw [b3]; first | with_reducible exact H | with_reducible exact bs H) | with_reducible exact bs H | with_reducible exact H | (rw [b3]; exact H) | exact H
  have d9 := am b3
  clear b3
  obtain ⟨⟨e5, e6⟩, A8, H⟩ := ob H
  try dsimp only at H
  obtain ⟨⟨b5, e7⟩, A9, H⟩ := ob H
  try dsimp only at H
  obtain ⟨e8, b4⟩ : ∃ y_ : List Int, y_ = (([1, 3, 5] : List Int)) := ⟨_, rfl⟩
  replace H : ((Ad8.f a1 e7 e8).bind fun a8 => ((Ab6.f k a1 a8.2 l1 a8.1 3).bind fun a9 => (some (b5, a9.1, a9.2)))) = some (r1, r2, r3) := by first | (rw [b4]; first | with_reducible exact H | with_reducible exact bs H) | with_reducible exact bs H | with_reducible exact H | (rw [b4]; exact H) | exact H
  have e0 := am b4
  clear b4
  obtain ⟨⟨e9, c0⟩, k1, H⟩ := ob H
  try dsimp only at H
  obtain ⟨⟨d3, h8⟩, k2, H⟩ := ob H
  try dsimp only at H
  simp only [Option.some.injEq, Prod.mk.injEq] at H
  obtain ⟨rfl, rfl, rfl⟩ := H
  go_wp2_with (first | (refine rl 10 rfl 2 [4, 7, 9] ?_; intro k3 l4 c1 hb h9 hnew_; clear h9 hnew_; (first | rw [← d9.out] at c1 | (simp only [Int.reduceToNat] at c1; rw [← d9.out] at c1)); have a2 := am (Kd.R_lower c1 (Ae0 (w := w) (g := g) (row := none) (ks HK.out))); replace a0 := bb a0 hb; replace HK := ku HK hb; replace HB := am (Ad9 (hsk HB.out (Aa0.ge a4.out)) hb); replace a4 := Aa0.bl a4 hb; clear hb c1; obtain ⟨i0, i1, rfl⟩ := Kd.R_slice a2.out) | (refine gl (some 11) Tryz.func73 rfl #[.pointer (some ⟨g, 0, none⟩), .slice i0 e4.length i1] ?_; refine (Ad8.calls g a1 d1 _ _ e4 e5 e6 w0 _ (Aa0.q a4.out) (hsk HB.out (Aa0.ge a4.out)) (cq (Kd.R_reads' a2.out).2.2) ((Kd.R_reads' a2.out).2.1) (Aq8 (Aa0.own_ne a4.out a2.out (by decide))) A8.out).mono ?_; rintro e l5 ⟨rfl, hi, hb, hk⟩; refine ⟨_, rfl, ?_⟩; replace a0 := kb hk a0 a3; replace a2 := Aa0.rk a4 a2 hk; replace HK := kt HK hk; replace HB := am (hb); replace a4 := am (hi); clear hb hk hi) | (refine gl (some 12) Tryz.func92 rfl #[.pointer (some ⟨g, 0, none⟩), .pointer A1, .int .i64 e5, .int .i64 3] ?_; refine (Ab6.calls k g a1 e6 _ l1 e5 3 b5 e7 w0 _ (Aa0.q a4.out) (hsk HB.out (Aa0.ge a4.out)) (Kd.C_foot_step h7.out (ks HK.out)) A9.out).mono ?_; rintro e l6 ⟨k4, rfl, b6, hi, hb, hk⟩; refine ⟨_, rfl, ?_⟩; replace a0 := kb hk a0 a3; have a6 := am (Kd.R_lower (Kd.R_new' b6 (Kd.R_lt (rq a2.out))) (Ae0 (w := w) (g := g) (row := none) (ks HK.out))); replace a2 := am (Kd.R_mono (Kd.R_told (Kd.R_oldK (Aa0.apart (show Aa0 w0 _ g a1 e6 from Aa0.q a4.out) (rq a2.out) (by decide)) hk) (Kd.R_base b6)) (fun _ h_ => h_.1)); replace HK := kt HK hk; replace HB := am (hb); replace a4 := am (hi); clear hb hk hi b6) | (refine rl 16 rfl 2 [1, 3, 5] ?_; intro k5 l7 b2 hb h9 hnew_; clear h9 hnew_; (first | rw [← e0.out] at b2 | (simp only [Int.reduceToNat] at b2; rw [← e0.out] at b2)); have a7 := am (Kd.R_lower (Kd.R_new' (Kd.R_new' b2 (Kd.R_lt (rq a2.out))) (Kd.R_lt (rq a6.out))) (Ae0 (w := w) (g := g) (row := none) (ks HK.out))); replace a2 := am (Kd.R_elder' (rq a2.out) (Kd.R_base b2) hb); replace a6 := am (Kd.R_elder' (rq a6.out) (Kd.R_base b2) hb); replace a0 := bb a0 hb; replace HK := ku HK hb; replace HB := am (Ad9 (hsk HB.out (Aa0.ge a4.out)) hb); replace a4 := Aa0.bl a4 hb; clear hb b2; obtain ⟨i2, i3, rfl⟩ := Kd.R_slice a7.out) | (refine gl (some 17) Tryz.func73 rfl #[.pointer (some ⟨g, 0, none⟩), .slice i2 e8.length i3] ?_; refine (Ad8.calls g a1 e7 _ _ e8 e9 c0 w0 _ (Aa0.q a4.out) (hsk HB.out (Aa0.ge a4.out)) (cq (Kd.R_reads' a7.out).2.2) ((Kd.R_reads' a7.out).2.1) (Aq8 (Aa0.own_ne a4.out a7.out (by decide))) k1.out).mono ?_; rintro e l8 ⟨rfl, hi, hb, hk⟩; refine ⟨_, rfl, ?_⟩; replace a0 := kb hk a0 a3; replace a2 := Aa0.rk a4 a2 hk; replace a6 := Aa0.rk a4 a6 hk; replace a7 := Aa0.rk a4 a7 hk; replace HK := kt HK hk; replace HB := am (hb); replace a4 := am (hi); clear hb hk hi) | (refine gl (some 18) Tryz.func92 rfl #[.pointer (some ⟨g, 0, none⟩), .pointer A1, .int .i64 e9, .int .i64 3] ?_; refine (Ab6.calls k g a1 c0 _ l1 e9 3 d3 h8 w0 _ (Aa0.q a4.out) (hsk HB.out (Aa0.ge a4.out)) (Kd.C_foot_step h7.out (ks HK.out)) k2.out).mono ?_; rintro e l9 ⟨k6, rfl, b6, hi, hb, hk⟩; refine ⟨_, rfl, ?_⟩; replace a0 := kb hk a0 a3; have e1 := am (Kd.R_lower (Kd.R_new' (Kd.R_new' (Kd.R_new' b6 (Kd.R_lt (rq a2.out))) (Kd.R_lt (rq a6.out))) (Kd.R_lt (rq a7.out))) (Ae0 (w := w) (g := g) (row := none) (ks HK.out))); replace a2 := am (Kd.R_mono (Kd.R_told (Kd.R_oldK (Aa0.apart (show Aa0 w0 _ g a1 c0 from Aa0.q a4.out) (rq a2.out) (by decide)) hk) (Kd.R_base b6)) (fun _ h_ => h_.1)); replace a6 := am (Kd.R_mono (Kd.R_told (Kd.R_oldK (Aa0.apart (show Aa0 w0 _ g a1 c0 from Aa0.q a4.out) (rq a6.out) (by decide)) hk) (Kd.R_base b6)) (fun _ h_ => h_.1)); replace a7 := am (Kd.R_mono (Kd.R_told (Kd.R_oldK (Aa0.apart (show Aa0 w0 _ g a1 c0 from Aa0.q a4.out) (rq a7.out) (by decide)) hk) (Kd.R_base b6)) (fun _ h_ => h_.1)); replace HK := kt HK hk; replace HB := am (hb); replace a4 := am (hi); (try clear hb); (try clear hk); (try clear hi); (try clear b6); obtain ⟨g0, g1, rfl⟩ := Kd.R_slice e1.out; obtain ⟨d4, d5, rfl⟩ := Kd.R_slice a6.out; obtain ⟨i9, j5⟩ := nn a3; have g6 := c0_ a0; have g7 := c1_ a0; have g8 := Aa2 a0.out 0; have g9 := Aa2 a0.out 1))
  refine bodyPost_ret (results_cell_row rfl _ _ a5 30 #[.slice d4 b5.length d5, .slice g0 d3.length g1] (0, 0) _ rfl (by refine bq ?_; refine Ac7 (cs := #[.slice d4 b5.length d5, .slice none 0 0]) ?_ 1 _ rfl; refine bq ?_; refine Ac7 (cs := #[.slice none 0 0, .slice none 0 0]) ?_ 0 _ rfl; refine bq ?_; exact a0.out) Tryz.underlying30 rfl (by kernel_rfl)) rfl ?_
  exact ⟨_, _, er, rq (Kd.R_mono (Kd.R_far (p := ⟨a5, 1, none⟩) (Kd.R_far (p := ⟨a5, 0, none⟩) (Kd.R_types a6.out a0.out (by decide)) (fun _ hk => hk.2) (.slice d4 b5.length d5)) (fun _ hk => hk.2) (.slice g0 d3.length g1)) (fun _ hk => hk.1.2)), rq (Kd.R_mono (Kd.R_far (p := ⟨a5, 1, none⟩) (Kd.R_far (p := ⟨a5, 0, none⟩) (Kd.R_types e1.out a0.out (by decide)) (fun _ hk => hk.2) (.slice d4 b5.length d5)) (fun _ hk => hk.2) (.slice g0 d3.length g1)) (fun _ hk => hk.1.1.2)), Aa0.q a4.out, hsk HB.out (Aa0.ge a4.out), ks HK.out⟩
 ·replace c7 := Bool.eq_false_iff.mpr c7
  subst c7
  rw [if_neg (show ¬ (false = true) by decide)] at H
  obtain ⟨⟨d0, d6, i4⟩, k7, H⟩ := ob H
  try dsimp only at H
  simp only [Option.some.injEq, Prod.mk.injEq] at H
  obtain ⟨rfl, rfl, rfl⟩ := H
  go_wp2_with (first | (refine gl (some 22) Tryz.func102 rfl #[.pointer (some ⟨g, 0, none⟩), .pointer A1] ?_; refine (Af7.calls k g a1 d1 _ l1 d0 d6 i4 w0 _ (Aa0.q a4.out) (hsk HB.out (Aa0.ge a4.out)) (Kd.C_foot_step h7.out (ks HK.out)) k7.out).mono ?_; rintro e m0 ⟨k8, k9, rfl, b6, j6, hi, hb, hk⟩; refine ⟨_, rfl, ?_⟩; replace a0 := kb hk a0 a3; have e2 := am (Kd.R_lower b6 (Ae0 (w := w) (g := g) (row := none) (ks HK.out))); have e3 := am (Kd.R_lower j6 (Ae0 (w := w) (g := g) (row := none) (ks HK.out))); replace HK := kt HK hk; replace HB := am (hb); replace a4 := am (hi); (try clear hb); (try clear hk); (try clear hi); (try clear b6); (try clear j6); obtain ⟨d7, d8, rfl⟩ := Kd.R_slice e2.out; obtain ⟨j7, j8⟩ := nn a3; have h0 := c0_ a0; have h2 := c1_ a0; have h3 := Aa2 a0.out 0; have h4 := Aa2 a0.out 1; obtain ⟨g2, g3, rfl⟩ := Kd.R_slice e3.out))
  refine bodyPost_ret (results_cell_row rfl _ _ a5 30 #[.slice d7 d0.length d8, .slice g2 d6.length g3] (0, 0) _ rfl (by refine bq ?_; refine Ac7 (cs := #[.slice d7 d0.length d8, .slice none 0 0]) ?_ 1 _ rfl; refine bq ?_; refine Ac7 (cs := #[.slice none 0 0, .slice none 0 0]) ?_ 0 _ rfl; refine bq ?_; exact a0.out) Tryz.underlying30 rfl (by kernel_rfl)) rfl ?_
  exact ⟨_, _, er, rq (Kd.R_mono (Kd.R_far (p := ⟨a5, 1, none⟩) (Kd.R_far (p := ⟨a5, 0, none⟩) (Kd.R_types e2.out a0.out (by decide)) (fun _ hk => hk.2) (.slice d7 d0.length d8)) (fun _ hk => hk.2) (.slice g2 d6.length g3)) (fun _ hk => hk.1)), rq (Kd.R_mono (Kd.R_far (p := ⟨a5, 1, none⟩) (Kd.R_far (p := ⟨a5, 0, none⟩) (Kd.R_types e3.out a0.out (by decide)) (fun _ hk => hk.2) (.slice d7 d0.length d8)) (fun _ hk => hk.2) (.slice g2 d6.length g3)) (fun _ hk => hk.1)), Aa0.q a4.out, hsk HB.out (Aa0.ge a4.out), ks HK.out⟩
def Ak9.f (k : Nat) (a2 : List Int) (a5 : Int) (l1 : List (S36)) : Option (List Int × List Int × Int) := if 0 < (l1.length : Int) then ((Aa4.f k ((Ad6 l1 0).f0)).bind fun a6 => (if a6 = 0 then ((Ae1.f a2 a5 6).bind fun a0 => (if a0.1 = true then ((Aa8.f k a2 a0.2 l1 9 7).bind fun a3 => ((Aa8.f k a2 a3.2 l1 5 12).bind fun a4 => (some (a3.1, a4.1, a4.2)))) else ((Ar7.f k a2 a0.2 l1).bind fun a1 => (some (a1.1, a1.2.1, a1.2.2))))) else (some ((([0] : List Int)), (([0] : List Int)), a5)))) else (none)
theorem Ak9.calls (k : Nat) (g : Nat) (a6 : List Int) (a7 : Int) (A1 : Option Addr) (l1 : List (S36)) (r1 : List Int) (r2 : List Int) (r3 : Int) (w0 w : World) (hI : Aa0 w0 w g a6 a7) (hB : Below w0.heap.size w0 w) (m0 : ∀ W_, Ab7 w W_ g none → Kd.C k36 W_ A1 l1.length l1) (h : Ak9.f k a6 a7 l1 = some (r1, r2, r3)) :
  Calls Tryz.prog 71 #[.pointer (some ⟨g, 0, none⟩), .pointer A1] w fun e w' => ∃ k6 k7 : Value, e = .returned (.agg #[k6, k7]) ∧ Kd.R (Kd.int .i64) 2 w' w.heap.size (fun k_ => some k_ ≠ (k7 : Value).ownBlock) k6 r1 ∧ Kd.R (Kd.int .i64) 2 w' w.heap.size (fun k_ => some k_ ≠ (k6 : Value).ownBlock) k7 r2 ∧ Aa0 w0 w' g a6 r3 ∧ Below w0.heap.size w0 w' ∧ Ab7 w w' g none := by
 have n2 := Tryz.underlying30
 have n3 := Tryz.underlying36
 have i1 := am m0
 clear m0
 have a5 := am hI
 have HK := am (Ab7.refl w g none)
 have HL := am hB.size
 clear hI
 have n4 := am hB.size
 have HB := am hB
 clear hB
 have H : (if 0 < (l1.length : Int) then ((Aa4.f k ((Ad6 l1 0).f0)).bind fun d5 => (if d5 = 0 then ((Ae1.f a6 a7 6).bind fun c1 => (if c1.1 = true then ((Aa8.f k a6 c1.2 l1 9 7).bind fun e8 => ((Aa8.f k a6 e8.2 l1 5 12).bind fun e9 => (some (e8.1, e9.1, e9.2)))) else ((Ar7.f k a6 c1.2 l1).bind fun d0 => (some (d0.1, d0.2.1, d0.2.2))))) else (some ((([0] : List Int)), (([0] : List Int)), a7)))) else (none)) = some (r1, r2, r3) := h
 clear h
 obtain ⟨c3, H⟩ := ifs H
 have n5 := decide_eq_true c3
 have n6 : decide (0 < l1.length) = true := decide_eq_true (by omega)
 clear c3
 obtain ⟨d5, A4, H⟩ := ob H
 try dsimp only at H
 have m1 := am H
 clear H
 go_enter Tryz.func71, Tryz.ntmps71
 go_upto_if 9 with (first | (refine bx 4 rfl #[.slice none 0 0, .slice none 0 0] 30 ?_; intro a1 hg w6 hbox hb; replace HB := am (Ad9 (hsk HB.out (Aa0.ge a5.out)) hb); have a0 := am (hbox); have i2 := am ((by rw [hg]; exact (Ae0 (w := w) (g := g) (row := none) (kq HK.out)) : w.heap.size ≤ a1)); replace HK := ku HK hb; have m2 := am (Nat.le_trans n4.out i2.out); have d6 := am ((by rw [hg]; exact Nat.ne_of_lt (Aa0.lt (show Aa0 w0 _ g a6 a7 from Aa0.q a5.out)) : g ≠ a1)); replace a5 := Aa0.bl a5 hb; have a2 := am d6.out.symm; clear hb hbox hg; have g6 : 0 ≤ (0 : Int) := (by omega); have g7 : 0 < (l1.length : Int) := od; obtain ⟨b0, g8, g9, k8, b1, b2, b3⟩ := Aj0 (Kd.C_foot_now i1.out HK.out) 0 g6 g7; cases k8; have m3 : (0 < l1.length) = True := eq_true (by omega); (try simp only [t0_] at b1); have a4 := am b3; have i6 := am b2; clear b3 b2; replace g6 := eq_true g6; replace g7 := eq_true g7; have h0 : 0 ≤ (0 : Int) := (by omega); have h2 : 0 < (l1.length : Int) := od; obtain ⟨i3, k9, l4, l5, b4, b5, b6⟩ := Aj0 (Kd.C_foot_now i1.out HK.out) 0 h0 h2; obtain rfl : b0 = i3 := (by injection l5); have m4 : (0 < l1.length) = True := eq_true (by omega); (try simp only [t0_] at b4); have a3 := am b6; have d7 := am b5; clear b6 b5; replace h0 := eq_true h0; replace h2 := eq_true h2; obtain ⟨rfl, rfl⟩ := sj b1 b4) | (refine gl (some 8) Tryz.func45 rfl #[.agg #[.slice g8 ((Ad6 l1 0).f0).length g9]] ?_; refine (Aa4.calls k _ _ ((Ad6 l1 0).f0) d5 _ (cq (cq a3.out)) d7.out A4.out).mono ?_; rintro e w7 ⟨rfl, hb⟩; refine ⟨_, rfl, ?_⟩; replace a0 := bb a0 hb; replace a4 := am (Kd.C_below (cq a4.out) hb); replace a3 := am (Kd.C_below (cq a3.out) hb); replace HK := ku HK hb; replace HB := am (Ad9 (hsk HB.out (Aa0.ge a5.out)) hb); replace a5 := Aa0.bl a5 hb; clear hb; (try clear hk); (try clear hi)))
 have H := m1.out
 clear m1
 by_cases c8 : d5 = 0
 ·rw [if_pos c8] at H
  obtain ⟨d1, l6⟩ := bqt c8; clear c8
  (first | rw [d1] | (simp only [Ae6, Ae7]; rw [d1]) | skip)
  obtain ⟨⟨i4, h3⟩, A9, H⟩ := ob H
  try dsimp only at H
  have i5 := am H
  clear H
  go_upto_if 14 with (first | (refine gl (some 14) Tryz.func70 rfl #[.pointer (some ⟨g, 0, none⟩), .int .i64 6] ?_; refine (Ae1.calls g a6 a7 6 i4 h3 w0 _ (Aa0.q a5.out) (hsk HB.out (Aa0.ge a5.out)) A9.out).mono ?_; rintro e o6 ⟨rfl, hi, hb, hk⟩; refine ⟨_, rfl, ?_⟩; replace a0 := kb hk a0 a2; replace HK := kt HK hk; replace HB := am (hb); replace a5 := am (hi); clear hb hk hi))
  have H := i5.out
  clear i5
  by_cases i7 : i4 = true
  ·subst i7
   rw [if_pos rfl] at H
   obtain ⟨⟨d2, h4⟩, n7, H⟩ := ob H
   try dsimp only at H
   obtain ⟨⟨d8, l7⟩, n8, H⟩ := ob H
   try dsimp only at H
   simp only [Option.some.injEq, Prod.mk.injEq] at H
   obtain ⟨rfl, rfl, rfl⟩ := H
   go_wp2_with (first | (refine gl (some 17) Tryz.func72 rfl #[.pointer (some ⟨g, 0, none⟩), .pointer (some b0), .int .i64 9, .int .i64 7] ?_; refine (Aa8.calls k g a6 h3 _ l1 9 7 d2 h4 w0 _ (Aa0.q a5.out) (hsk HB.out (Aa0.ge a5.out)) (Kd.C_foot_step i1.out (ks HK.out)) n7.out).mono ?_; rintro e o7 ⟨n9, rfl, d9, hi, hb, hk⟩; refine ⟨_, rfl, ?_⟩; replace a0 := kb hk a0 a2; have a8 := am (Kd.R_lower d9 (Ae0 (w := w) (g := g) (row := none) (ks HK.out))); replace HK := kt HK hk; replace HB := am (hb); replace a5 := am (hi); clear hb hk hi d9) | (refine gl (some 20) Tryz.func72 rfl #[.pointer (some ⟨g, 0, none⟩), .pointer (some b0), .int .i64 5, .int .i64 12] ?_; refine (Aa8.calls k g a6 h4 _ l1 5 12 d8 l7 w0 _ (Aa0.q a5.out) (hsk HB.out (Aa0.ge a5.out)) (Kd.C_foot_step i1.out (ks HK.out)) n8.out).mono ?_; rintro e o8 ⟨o0, rfl, d9, hi, hb, hk⟩; refine ⟨_, rfl, ?_⟩; replace a0 := kb hk a0 a2; have g0 := am (Kd.R_lower (Kd.R_new' d9 (Kd.R_lt (rq a8.out))) (Ae0 (w := w) (g := g) (row := none) (ks HK.out))); replace a8 := am (Kd.R_mono (Kd.R_told (Kd.R_oldK (Aa0.apart (show Aa0 w0 _ g a6 h4 from Aa0.q a5.out) (rq a8.out) (by decide)) hk) (Kd.R_base d9)) (fun _ h_ => h_.1)); replace HK := kt HK hk; replace HB := am (hb); replace a5 := am (hi); (try clear hb); (try clear hk); (try clear hi); (try clear d9); obtain ⟨h5, h6, rfl⟩ := Kd.R_slice g0.out; obtain ⟨e0, e1, rfl⟩ := Kd.R_slice a8.out; obtain ⟨m5, m6⟩ := nn a2; have i9 := c0_ a0; have j5 := c1_ a0; have j6 := Aa2 a0.out 0; have j7 := Aa2 a0.out 1))
   refine bodyPost_ret (results_cell_row rfl _ _ a1 30 #[.slice e0 d2.length e1, .slice h5 d8.length h6] (0, 0) _ rfl (by refine bq ?_; refine Ac7 (cs := #[.slice e0 d2.length e1, .slice none 0 0]) ?_ 1 _ rfl; refine bq ?_; refine Ac7 (cs := #[.slice none 0 0, .slice none 0 0]) ?_ 0 _ rfl; refine bq ?_; exact a0.out) Tryz.underlying30 rfl (by kernel_rfl)) rfl ?_
   exact ⟨_, _, er, rq (Kd.R_mono (Kd.R_far (p := ⟨a1, 1, none⟩) (Kd.R_far (p := ⟨a1, 0, none⟩) (Kd.R_types a8.out a0.out (by decide)) (fun _ hk => hk.2) (.slice e0 d2.length e1)) (fun _ hk => hk.2) (.slice h5 d8.length h6)) (fun _ hk => hk.1.2)), rq (Kd.R_mono (Kd.R_far (p := ⟨a1, 1, none⟩) (Kd.R_far (p := ⟨a1, 0, none⟩) (Kd.R_types g0.out a0.out (by decide)) (fun _ hk => hk.2) (.slice e0 d2.length e1)) (fun _ hk => hk.2) (.slice h5 d8.length h6)) (fun _ hk => hk.1.2)), Aa0.q a5.out, hsk HB.out (Aa0.ge a5.out), ks HK.out⟩
  ·replace i7 := Bool.eq_false_iff.mpr i7
   subst i7
   rw [if_neg (show ¬ (false = true) by decide)] at H
   obtain ⟨⟨d3, e2, l8⟩, o1, H⟩ := ob H
   try dsimp only at H
   simp only [Option.some.injEq, Prod.mk.injEq] at H
   obtain ⟨rfl, rfl, rfl⟩ := H
   go_wp2_with (first | (refine gl (some 24) Tryz.func91 rfl #[.pointer (some ⟨g, 0, none⟩), .pointer (some b0)] ?_; refine (Ar7.calls k g a6 h3 _ l1 d3 e2 l8 w0 _ (Aa0.q a5.out) (hsk HB.out (Aa0.ge a5.out)) (Kd.C_foot_step i1.out (ks HK.out)) o1.out).mono ?_; rintro e o9 ⟨o2, o3, rfl, d9, m7, hi, hb, hk⟩; refine ⟨_, rfl, ?_⟩; replace a0 := kb hk a0 a2; have g1 := am (Kd.R_lower d9 (Ae0 (w := w) (g := g) (row := none) (ks HK.out))); have g2 := am (Kd.R_lower m7 (Ae0 (w := w) (g := g) (row := none) (ks HK.out))); replace HK := kt HK hk; replace HB := am (hb); replace a5 := am (hi); (try clear hb); (try clear hk); (try clear hi); (try clear d9); (try clear m7); obtain ⟨e3, e4, rfl⟩ := Kd.R_slice g1.out; obtain ⟨m8, m9⟩ := nn a2; have j8 := c0_ a0; have j9 := c1_ a0; have k0 := Aa2 a0.out 0; have k1 := Aa2 a0.out 1; obtain ⟨h7, h8, rfl⟩ := Kd.R_slice g2.out))
   refine bodyPost_ret (results_cell_row rfl _ _ a1 30 #[.slice e3 d3.length e4, .slice h7 e2.length h8] (0, 0) _ rfl (by refine bq ?_; refine Ac7 (cs := #[.slice e3 d3.length e4, .slice none 0 0]) ?_ 1 _ rfl; refine bq ?_; refine Ac7 (cs := #[.slice none 0 0, .slice none 0 0]) ?_ 0 _ rfl; refine bq ?_; exact a0.out) Tryz.underlying30 rfl (by kernel_rfl)) rfl ?_
   exact ⟨_, _, er, rq (Kd.R_mono (Kd.R_far (p := ⟨a1, 1, none⟩) (Kd.R_far (p := ⟨a1, 0, none⟩) (Kd.R_types g1.out a0.out (by decide)) (fun _ hk => hk.2) (.slice e3 d3.length e4)) (fun _ hk => hk.2) (.slice h7 e2.length h8)) (fun _ hk => hk.1)), rq (Kd.R_mono (Kd.R_far (p := ⟨a1, 1, none⟩) (Kd.R_far (p := ⟨a1, 0, none⟩) (Kd.R_types g2.out a0.out (by decide)) (fun _ hk => hk.2) (.slice e3 d3.length e4)) (fun _ hk => hk.2) (.slice h7 e2.length h8)) (fun _ hk => hk.1)), Aa0.q a5.out, hsk HB.out (Aa0.ge a5.out), ks HK.out⟩
 ·rw [if_neg c8] at H
  obtain ⟨d1, l6⟩ := bqf c8
  (first | rw [d1] | (simp only [Ae6, Ae7]; rw [d1]) | skip)
  obtain ⟨b9, b7⟩ : ∃ y_ : List Int, y_ = (([0] : List Int)) := ⟨_, rfl⟩
  replace H : (some (b9, (([0] : List Int)), a7)) = some (r1, r2, r3) := by first | (rw [b7]; first | with_reducible exact H | with_reducible exact bs H) | with_reducible exact bs H | with_reducible exact H | (rw [b7]; exact H) | exact H
  have g3 := am b7
  clear b7
  obtain ⟨e5, b8⟩ : ∃ y_ : List Int, y_ = (([0] : List Int)) := ⟨_, rfl⟩
  replace H : (some (b9, e5, a7)) = some (r1, r2, r3) := by first | (rw [b8]; first | with_reducible exact H | with_reducible exact bs H) | with_reducible exact bs H | with_reducible exact H | (rw [b8]; exact H) | exact H
  have g4 := am b8
  clear b8
  simp only [Option.some.injEq, Prod.mk.injEq] at H
  obtain ⟨rfl, rfl, rfl⟩ := H
  go_wp2_with (first | (refine rl 10 rfl 2 [0] ?_; intro o4 p0 d4 hb l9 hnew_; clear l9 hnew_; (first | rw [← g3.out] at d4 | (simp only [Int.reduceToNat] at d4; rw [← g3.out] at d4)); have a9 := am (Kd.R_lower d4 (Ae0 (w := w) (g := g) (row := none) (ks HK.out))); replace a0 := bb a0 hb; replace a4 := am (Kd.C_below (cq a4.out) hb); replace a3 := am (Kd.C_below (cq a3.out) hb); replace HK := ku HK hb; replace HB := am (Ad9 (hsk HB.out (Aa0.ge a5.out)) hb); replace a5 := Aa0.bl a5 hb; clear hb d4) | (refine rl 11 rfl 2 [0] ?_; intro o5 p1 c0 hb l9 hnew_; clear l9 hnew_; (first | rw [← g4.out] at c0 | (simp only [Int.reduceToNat] at c0; rw [← g4.out] at c0)); have g5 := am (Kd.R_lower (Kd.R_new' c0 (Kd.R_lt (rq a9.out))) (Ae0 (w := w) (g := g) (row := none) (ks HK.out))); replace a9 := am (Kd.R_elder' (rq a9.out) (Kd.R_base c0) hb); replace a0 := bb a0 hb; replace a4 := am (Kd.C_below (cq a4.out) hb); replace a3 := am (Kd.C_below (cq a3.out) hb); replace HK := ku HK hb; replace HB := am (Ad9 (hsk HB.out (Aa0.ge a5.out)) hb); replace a5 := Aa0.bl a5 hb; clear hb c0; obtain ⟨h9, i0, rfl⟩ := Kd.R_slice g5.out; obtain ⟨e6, e7, rfl⟩ := Kd.R_slice a9.out; obtain ⟨n0, n1⟩ := nn a2; have k2 := c0_ a0; have k3 := c1_ a0; have k4 := Aa2 a0.out 0; have k5 := Aa2 a0.out 1))
  refine bodyPost_ret (results_cell_row rfl _ _ a1 30 #[.slice e6 b9.length e7, .slice h9 e5.length i0] (0, 0) _ rfl (by refine bq ?_; refine Ac7 (cs := #[.slice e6 b9.length e7, .slice none 0 0]) ?_ 1 _ rfl; refine bq ?_; refine Ac7 (cs := #[.slice none 0 0, .slice none 0 0]) ?_ 0 _ rfl; refine bq ?_; exact a0.out) Tryz.underlying30 rfl (by kernel_rfl)) rfl ?_
  exact ⟨_, _, er, rq (Kd.R_mono (Kd.R_far (p := ⟨a1, 1, none⟩) (Kd.R_far (p := ⟨a1, 0, none⟩) (Kd.R_types a9.out a0.out (by decide)) (fun _ hk => hk.2) (.slice e6 b9.length e7)) (fun _ hk => hk.2) (.slice h9 e5.length i0)) (fun _ hk => hk.1.2)), rq (Kd.R_mono (Kd.R_far (p := ⟨a1, 1, none⟩) (Kd.R_far (p := ⟨a1, 0, none⟩) (Kd.R_types g5.out a0.out (by decide)) (fun _ hk => hk.2) (.slice e6 b9.length e7)) (fun _ hk => hk.2) (.slice h9 e5.length i0)) (fun _ hk => hk.1.2)), Aa0.q a5.out, hsk HB.out (Aa0.ge a5.out), ks HK.out⟩
end Go.Proofs.YtgichahebemmiaaGreatDoor.P
