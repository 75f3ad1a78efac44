/-
  The order of lists of bytes, as the program and as the reference compute it.
-/
import Derived.Test.YtnimcmlbjbkijaaBytes1
import Derived.Lib.Bytealg
import Derived.Test.YtnimcmlbjbkijaaP6
set_option linter.unusedVariables false
namespace Go.Proofs.Ytnimcmlbjbkijaa.Pure
open Go.RowKit Go.Proofs.Ytnimcmlbjbkijaa.P Go.Proofs.YtnimcmlbjbkijaaW.PrintWords Go.Proofs.YtnimcmlbjbkijaaW.PrintLast Go.Proofs.Ytnimcmlbjbkijaa.Base

def ordL : List Int → List Int → Int
  | [], [] => 0
  | [], _ :: _ => -1
  | _ :: _, [] => 1
  | x :: xs, y :: ys => if x < y then -1 else if x > y then 1 else ordL xs ys
theorem ofNat_lt {a b : Int} (ha : Byte a) (hb : Byte b) : UInt8.ofNat a.toNat < UInt8.ofNat b.toNat ↔ a < b := by
  unfold Byte at ha hb
  rw [UInt8.lt_iff_toNat_lt]
  simp only [UInt8.toNat_ofNat']
  omega
theorem compare_ord : ∀ (a b : List Int), (∀ x ∈ a, Byte x) → (∀ x ∈ b, Byte x) → Lib.compareBytes (Lib.bytesOf a) (Lib.bytesOf b) = ordL a b
  | [], [], _, _ => rfl
  | [], _ :: _, _, _ => rfl
  | _ :: _, [], _, _ => rfl
  | x :: xs, y :: ys, ha, hb => by
    have ih := compare_ord xs ys (fun z hz => ha z (by simp [hz])) (fun z hz => hb z (by simp [hz]))
    have hx := ha x (by simp)
    have hy := hb y (by simp)
    show (if UInt8.ofNat x.toNat < UInt8.ofNat y.toNat then -1 else if UInt8.ofNat y.toNat < UInt8.ofNat x.toNat then 1 else Lib.compareBytes (Lib.bytesOf xs) (Lib.bytesOf ys)) = _
    rw [ih]
    simp only [ofNat_lt hx hy, ofNat_lt hy hx, ordL]
theorem l1Order_l0 (a b : List Int) (hl : a.length ≤ 9223372036854775807) : ∀ (d i : Nat), i + d = a.length → i ≤ b.length → Ev (fun k => spec_l1Order.l0 k a b (i : Int)) (ordL (a.drop i) (b.drop i)) := by
  intro d
  induction d with
  | zero =>
    intro i hi hb
    refine ev_succ ?_
    simp only [spec_l1Order.l0]
    refine ev_neg (by omega) (ev_succ ?_)
    simp only [spec_l1Order.j1]
    refine ev_neg (by simp) ?_
    rw [drop_nil a _ (by omega)]
    by_cases h : (a.length : Int) < (b.length : Int)
    · refine ev_pos h (ev_to (ev_some _) ?_)
      rw [rd_drop b i (by omega)]
      rfl
    · refine ev_neg h (ev_neg (by omega) (ev_to (ev_some _) ?_))
      rw [List.drop_eq_nil_of_le (by omega)]
      rfl
  | succ d ih =>
    intro i hi hb
    refine ev_succ ?_
    simp only [spec_l1Order.l0]
    refine ev_pos (by omega) (ev_succ ?_)
    simp only [spec_l1Order.j1]
    rw [rd_drop a i (by omega)]
    by_cases h : (i : Int) < (b.length : Int)
    · refine ev_pos (by simpa using h) (ev_pos (by omega) (ev_pos (by omega) (ev_pos h ?_)))
      rw [rd_drop b i (by omega), wrap_up (by omega)]
      simp only [ordL]
      by_cases h1 : rd a (i : Int) < rd b (i : Int)
      · rw [if_pos h1]; exact ev_pos h1 (ev_some _)
      rw [if_neg h1]
      refine ev_neg h1 ?_
      by_cases h2 : rd a (i : Int) > rd b (i : Int)
      · rw [if_pos h2]; exact ev_pos h2 (ev_some _)
      rw [if_neg h2]
      exact ev_neg h2 (ih (i + 1) (by omega) (by omega))
    · refine ev_neg (by simpa using h) (ev_neg (by omega) (ev_pos (by omega) (ev_to (ev_some _) ?_)))
      rw [drop_nil b _ (by omega)]
      rfl
def cmpB (a b : List Int) : Int × Int := if (a.length : Int) > 2000 then (2, 0) else if (b.length : Int) > 2000 then (2, 0) else (0, ordL a b)
theorem CompareBytes_spec (a b : List Int) (hl : a.length ≤ 9223372036854775807) : Ev (fun k => spec_CompareBytes.f k a b) (cmpB a b) := by
  unfold spec_CompareBytes.f cmpB
  by_cases h1 : (a.length : Int) > 2000
  · rw [if_pos h1]; exact ev_pos h1 (ev_some _)
  rw [if_neg h1]; refine ev_neg h1 ?_
  by_cases h2 : (b.length : Int) > 2000
  · rw [if_pos h2]; exact ev_pos h2 (ev_some _)
  rw [if_neg h2]; refine ev_neg h2 ?_
  refine ev_bind (a := ordL a b) ?_ (ev_some _)
  unfold spec_l1Order.f
  exact l1Order_l0 a b hl a.length 0 (by omega) (by omega)
theorem CompareBytes_impl (a b : List Int) (ha : ∀ x ∈ a, Byte x) (hb : ∀ x ∈ b, Byte x) : impl_CompareBytes.f a b = some (cmpB a b) := by
  unfold impl_CompareBytes.f cmpB
  by_cases h1 : (a.length : Int) > 2000
  · simp [h1]
  by_cases h2 : (b.length : Int) > 2000
  · simp [h1, h2]
  · simp [h1, h2, bytes_Compare.f, compare_ord a b ha hb]
end Go.Proofs.Ytnimcmlbjbkijaa.Pure
