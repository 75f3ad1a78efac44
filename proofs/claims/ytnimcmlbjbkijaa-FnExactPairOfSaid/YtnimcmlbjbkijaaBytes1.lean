/-
  What the printed functions on bytes answer: copies, comparisons, sums, pairs.
-/
import Derived.Test.YtnimcmlbjbkijaaBase
import Derived.Laws.BitsLemmas
import Derived.Lib.Bytes
import Derived.Test.YtnimcmlbjbkijaaP3
import Derived.Test.YtnimcmlbjbkijaaP5
import Derived.Test.YtnimcmlbjbkijaaP6
import Derived.Test.YtnimcmlbjbkijaaP4
import Derived.Test.YtnimcmlbjbkijaaP7
set_option linter.unusedVariables false
namespace Go.Proofs.Ytnimcmlbjbkijaa.Pure
open Go.RowKit Go.Proofs.Ytnimcmlbjbkijaa.P Go.Proofs.YtnimcmlbjbkijaaW.PrintWords Go.Proofs.YtnimcmlbjbkijaaW.PrintLast Go.Proofs.Ytnimcmlbjbkijaa.Base

theorem toByteS_l0 (l : List Int) (hl : l.length ≤ 281474976710656) : ∀ (d i : Nat), i + d = l.length → Ev (fun k => laws_toByteS.l0 k l (cpart 0 l i) (i : Int)) l := by
  intro d
  induction d with
  | zero =>
    intro i hi
    refine ev_succ ?_
    simp only [laws_toByteS.l0]
    refine ev_neg (by omega) ?_
    obtain rfl : i = l.length := by omega
    rw [cpart_end]
    exact ev_some _
  | succ d ih =>
    intro i hi
    refine ev_succ ?_
    simp only [laws_toByteS.l0]
    refine ev_pos (by omega) (ev_pos (by omega) (ev_pos (by rw [cpart_length _ _ _ (by omega)]; omega) ?_))
    rw [wrap_up (by omega), Int.toNat_natCast, cpart_set 0 l i (by omega) _ (rd_some l i (by omega))]
    exact ih (i + 1) (by omega)
theorem toByteS_ev (l : List Int) (hl : l.length ≤ 281474976710656) : Ev (fun k => laws_toByteS.f k l) l := by
  unfold laws_toByteS.f
  refine ev_pos (by omega) (ev_pos (by omega) ?_)
  rw [Int.toNat_natCast, ← cpart_zero]
  exact toByteS_l0 l hl l.length 0 (by omega)
theorem eqByteS_l0 (a b : List Int) (hab : a.length = b.length) (hl : a.length ≤ 9223372036854775807) : ∀ (d i : Nat), i + d = a.length → Ev (fun k => laws_eqByteS.l0 k a b (i : Int)) (decide (a.drop i = b.drop i)) := by
  intro d
  induction d with
  | zero =>
    intro i hi
    refine ev_succ ?_
    simp only [laws_eqByteS.l0]
    refine ev_neg (by omega) ?_
    rw [List.drop_eq_nil_of_le (by omega), List.drop_eq_nil_of_le (by omega)]
    exact ev_some _
  | succ d ih =>
    intro i hi
    refine ev_succ ?_
    simp only [laws_eqByteS.l0]
    refine ev_pos (by omega) (ev_pos (by omega) (ev_pos (by omega) ?_))
    rw [rd_drop a i (by omega), rd_drop b i (by omega)]
    by_cases h : rd a (i : Int) = rd b (i : Int)
    · refine ev_pos h ?_
      rw [wrap_up (by omega)]
      refine ev_to (ih (i + 1) (by omega)) ?_
      simp [h]
    · refine ev_neg h ?_
      refine ev_to (ev_some _) ?_
      simp [h]
theorem eqByteS_ev (a b : List Int) (hl : a.length ≤ 9223372036854775807) : Ev (fun k => laws_eqByteS.f k a b) (decide (a = b)) := by
  unfold laws_eqByteS.f
  by_cases h : a.length = b.length
  · refine ev_pos (by omega) ?_
    exact eqByteS_l0 a b h hl a.length 0 (by omega)
  · refine ev_neg (by omega) ?_
    refine ev_to (ev_some _) ?_
    have : ¬ a = b := fun e => h (by rw [e])
    simp [this]
theorem toInt64S_l0 (l : List Int) (hl : l.length ≤ 35184372088832) : ∀ (d i : Nat), i + d = l.length → Ev (fun k => laws_toInt64S.l0 k l (cpart 0 l i) (i : Int)) l := by
  intro d
  induction d with
  | zero =>
    intro i hi
    refine ev_succ ?_
    simp only [laws_toInt64S.l0]
    refine ev_neg (by omega) ?_
    obtain rfl : i = l.length := by omega
    rw [cpart_end]
    exact ev_some _
  | succ d ih =>
    intro i hi
    refine ev_succ ?_
    simp only [laws_toInt64S.l0]
    refine ev_pos (by omega) (ev_pos (by omega) (ev_pos (by rw [cpart_length _ _ _ (by omega)]; omega) ?_))
    rw [wrap_up (by omega), Int.toNat_natCast, cpart_set 0 l i (by omega) _ (rd_some l i (by omega))]
    exact ih (i + 1) (by omega)
theorem toInt64S_ev (l : List Int) (hl : l.length ≤ 35184372088832) : Ev (fun k => laws_toInt64S.f k l) l := by
  unfold laws_toInt64S.f
  refine ev_pos (by omega) (ev_pos (by omega) ?_)
  rw [Int.toNat_natCast, ← cpart_zero]
  exact toInt64S_l0 l hl l.length 0 (by omega)
theorem eqInt64S_l0 (a b : List Int) (hab : a.length = b.length) (hl : a.length ≤ 9223372036854775807) : ∀ (d i : Nat), i + d = a.length → Ev (fun k => laws_eqInt64S.l0 k a b (i : Int)) (decide (a.drop i = b.drop i)) := by
  intro d
  induction d with
  | zero =>
    intro i hi
    refine ev_succ ?_
    simp only [laws_eqInt64S.l0]
    refine ev_neg (by omega) ?_
    rw [List.drop_eq_nil_of_le (by omega), List.drop_eq_nil_of_le (by omega)]
    exact ev_some _
  | succ d ih =>
    intro i hi
    refine ev_succ ?_
    simp only [laws_eqInt64S.l0]
    refine ev_pos (by omega) (ev_pos (by omega) (ev_pos (by omega) ?_))
    rw [rd_drop a i (by omega), rd_drop b i (by omega)]
    by_cases h : rd a (i : Int) = rd b (i : Int)
    · refine ev_pos h ?_
      rw [wrap_up (by omega)]
      refine ev_to (ih (i + 1) (by omega)) ?_
      simp [h]
    · refine ev_neg h ?_
      refine ev_to (ev_some _) ?_
      simp [h]
theorem eqInt64S_ev (a b : List Int) (hl : a.length ≤ 9223372036854775807) : Ev (fun k => laws_eqInt64S.f k a b) (decide (a = b)) := by
  unfold laws_eqInt64S.f
  by_cases h : a.length = b.length
  · refine ev_pos (by omega) ?_
    exact eqInt64S_l0 a b h hl a.length 0 (by omega)
  · refine ev_neg (by omega) ?_
    refine ev_to (ev_some _) ?_
    have : ¬ a = b := fun e => h (by rw [e])
    simp [this]
theorem l1Same_l0 (a b : List Int) (hab : a.length = b.length) (hl : a.length ≤ 9223372036854775807) : ∀ (d i : Nat), i + d = a.length → Ev (fun k => spec_l1Same.l0 k a b (i : Int)) (decide (a.drop i = b.drop i)) := by
  intro d
  induction d with
  | zero =>
    intro i hi
    refine ev_succ ?_
    simp only [spec_l1Same.l0]
    refine ev_neg (by omega) ?_
    rw [List.drop_eq_nil_of_le (by omega), List.drop_eq_nil_of_le (by omega)]
    exact ev_some _
  | succ d ih =>
    intro i hi
    refine ev_succ ?_
    simp only [spec_l1Same.l0]
    refine ev_pos (by omega) (ev_pos (by omega) (ev_pos (by omega) ?_))
    rw [rd_drop a i (by omega), rd_drop b i (by omega)]
    by_cases h : rd a (i : Int) = rd b (i : Int)
    · refine ev_pos h ?_
      rw [wrap_up (by omega)]
      refine ev_to (ih (i + 1) (by omega)) ?_
      simp [h]
    · refine ev_neg h ?_
      refine ev_to (ev_some _) ?_
      simp [h]
theorem l1Same_ev (a b : List Int) (hl : a.length ≤ 9223372036854775807) : Ev (fun k => spec_l1Same.f k a b) (decide (a = b)) := by
  unfold spec_l1Same.f
  by_cases h : a.length = b.length
  · refine ev_pos (by omega) ?_
    exact l1Same_l0 a b h hl a.length 0 (by omega)
  · refine ev_neg (by omega) ?_
    refine ev_to (ev_some _) ?_
    have : ¬ a = b := fun e => h (by rw [e])
    simp [this]
theorem slicesEqual_l0 (a b : List Int) (hab : a.length = b.length) (hl : a.length ≤ 9223372036854775807) : ∀ (d i : Nat), i + d = a.length → Ev (fun k => slices_Equal_int64_int64.l0 k a b (a.length : Int) (i : Int)) (decide (a.drop i = b.drop i)) := by
  intro d
  induction d with
  | zero =>
    intro i hi
    refine ev_succ ?_
    simp only [slices_Equal_int64_int64.l0]
    refine ev_neg (by omega) ?_
    rw [List.drop_eq_nil_of_le (by omega), List.drop_eq_nil_of_le (by omega)]
    exact ev_some _
  | succ d ih =>
    intro i hi
    refine ev_succ ?_
    simp only [slices_Equal_int64_int64.l0]
    refine ev_pos (by omega) (ev_pos (by omega) (ev_pos (by omega) (ev_pos (by omega) ?_)))
    rw [rd_drop a i (by omega), rd_drop b i (by omega)]
    by_cases h : rd a (i : Int) = rd b (i : Int)
    · refine ev_pos h ?_
      rw [wrap_up (by omega)]
      refine ev_to (ih (i + 1) (by omega)) ?_
      simp [h]
    · refine ev_neg h ?_
      refine ev_to (ev_some _) ?_
      simp [h]
theorem slicesEqual_ev (a b : List Int) (hl : a.length ≤ 9223372036854775807) : Ev (fun k => slices_Equal_int64_int64.f k a b) (decide (a = b)) := by
  unfold slices_Equal_int64_int64.f
  by_cases h : a.length = b.length
  · refine ev_pos (by omega) ?_
    exact slicesEqual_l0 a b h hl a.length 0 (by omega)
  · refine ev_neg (by omega) ?_
    refine ev_to (ev_some _) ?_
    have : ¬ a = b := fun e => h (by rw [e])
    simp [this]

theorem eqIntResult_eq (a b c d : Int) : laws_eqIntResult.f a b c d = some (decide (a = c ∧ b = d)) := by
  unfold laws_eqIntResult.f
  by_cases h : a = c <;> by_cases h' : b = d <;> simp [h, h']

/-! The sum of bytes. -/
def step (s b : Int) : Int := (227 * s + b + 1) % 65521
def sumFrom (s : Int) (xs : List Int) : Int := xs.foldl step s
def Byte (x : Int) : Prop := 0 ≤ x ∧ x ≤ 255
theorem step_range (s b : Int) : 0 ≤ step s b ∧ step s b < 65521 := by unfold step; omega
theorem sumFrom_range (xs : List Int) : ∀ s : Int, 0 ≤ s ∧ s < 65521 → 0 ≤ sumFrom s xs ∧ sumFrom s xs < 65521 := by
  induction xs with
  | nil => intro s h; exact h
  | cons x xs ih => intro s _; exact ih _ (step_range s x)
theorem step_spec {s b : Int} (hs : 0 ≤ s ∧ s < 65521) (hb : Byte b) : Int.tmod (wrap64 ((wrap64 ((wrap64 (s * 227)) + (wrap64 b))) + 1)) 65521 = step s b := by
  unfold Byte at hb
  rw [wrap_id (x := s * 227) (by omega) (by omega), wrap_id (x := b) (by omega) (by omega), wrap_id (x := s * 227 + b) (by omega) (by omega), wrap_id (by omega) (by omega), Int.tmod_eq_emod_of_nonneg (by omega)]
  unfold step
  rw [Int.mul_comm s 227]
theorem step_impl {s b : Int} (hs : 0 ≤ s ∧ s < 65521) (hb : Byte b) : Int.tmod (wrap64 ((wrap64 ((wrap64 (227 * s)) + (wrap64 b))) + 1)) 65521 = step s b := by
  rw [Int.mul_comm 227 s]; exact step_spec hs hb
theorem l1Sum_l0 (xs : List Int) (hx : ∀ x ∈ xs, Byte x) (hl : xs.length ≤ 9223372036854775807) : ∀ (d i : Nat) (s : Int), i + d = xs.length → 0 ≤ s ∧ s < 65521 → Ev (fun k => spec_l1Sum.l0 k xs s (i : Int)) (sumFrom s (xs.drop i)) := by
  intro d
  induction d with
  | zero =>
    intro i s hi hs
    refine ev_succ ?_
    simp only [spec_l1Sum.l0]
    refine ev_neg (by omega) ?_
    rw [List.drop_eq_nil_of_le (by omega)]
    exact ev_some _
  | succ d ih =>
    intro i s hi hs
    refine ev_succ ?_
    simp only [spec_l1Sum.l0]
    refine ev_pos (by omega) (ev_pos (by omega) ?_)
    rw [step_spec hs (hx _ (rd_mem xs i (by omega))), wrap_up (by omega), rd_drop xs i (by omega)]
    exact ih (i + 1) _ (by omega) (step_range _ _)
theorem SumOf_spec (xs : List Int) (hx : ∀ x ∈ xs, Byte x) (hl : xs.length ≤ 9223372036854775807) : Ev (fun k => spec_SumOf.f k xs) (if (xs.length : Int) > 2000 then (2, 0) else (0, sumFrom 29 xs)) := by
  unfold spec_SumOf.f
  by_cases h : (xs.length : Int) > 2000
  · rw [if_pos h]; exact ev_pos h (ev_some _)
  · rw [if_neg h]; refine ev_neg h ?_
    unfold spec_l1Sum.f
    exact ev_bind (l1Sum_l0 xs hx hl xs.length 0 29 (by omega) (by omega)) (ev_some _)
theorem SumOf_l0 (xs : List Int) (hx : ∀ x ∈ xs, Byte x) (hl : xs.length ≤ 9223372036854775807) : ∀ (d i : Nat) (s : Int), i + d = xs.length → 0 ≤ s ∧ s < 65521 → Ev (fun k => impl_SumOf.l0 k s xs (xs.length : Int) (i : Int)) (0, sumFrom s (xs.drop i)) := by
  intro d
  induction d with
  | zero =>
    intro i s hi hs
    refine ev_succ ?_
    simp only [impl_SumOf.l0]
    refine ev_neg (by omega) ?_
    rw [List.drop_eq_nil_of_le (by omega)]
    exact ev_some _
  | succ d ih =>
    intro i s hi hs
    refine ev_succ ?_
    simp only [impl_SumOf.l0]
    refine ev_pos (by omega) (ev_pos (by omega) (ev_pos (by omega) ?_))
    rw [step_impl hs (hx _ (rd_mem xs i (by omega))), wrap_up (by omega), rd_drop xs i (by omega)]
    exact ih (i + 1) _ (by omega) (step_range _ _)
theorem SumOf_impl (xs : List Int) (hx : ∀ x ∈ xs, Byte x) (hl : xs.length ≤ 9223372036854775807) : Ev (fun k => impl_SumOf.f k xs) (if (xs.length : Int) > 2000 then (2, 0) else (0, sumFrom 29 xs)) := by
  unfold impl_SumOf.f
  by_cases h : (xs.length : Int) > 2000
  · rw [if_pos h]; exact ev_pos h (ev_some _)
  · rw [if_neg h]; refine ev_neg h ?_
    exact SumOf_l0 xs hx hl xs.length 0 29 (by omega) (by omega)

/-! Pairs. -/
def pairAt (xs : List Int) (at_ : Int) : Int × Int :=
  if (xs.length : Int) > 2000 then (2, 0) else if at_ < 0 ∨ at_ > (xs.length : Int) - 2 then (3, 0) else (0, rd xs at_ * 256 + rd xs (at_ + 1))
theorem rd_byte {xs : List Int} (hx : ∀ x ∈ xs, Byte x) (i : Int) (h0 : 0 ≤ i) (h1 : i < xs.length) : Byte (rd xs i) := by
  have := hx _ (rd_mem xs i.toNat (by omega))
  rwa [Int.toNat_of_nonneg h0] at this
theorem or_pair {a b : Int} (ha : Byte a) (hb : Byte b) : Go.bits .or .i64 (a * 256) b = a * 256 + b := by
  unfold Byte at ha hb
  have hk : ∀ n : Int, 0 ≤ n → n < 2 ^ 16 → IntKind.i64.wrap n = n := fun n h0 h1 => by
    rw [Go.IntKind.wrap_i64]
    have h2 : n < 65536 := h1
    omega
  have h1 : a * 256 < 2 ^ 16 := by
    have : a * 256 < 65536 := by omega
    exact this
  have h2 : b < 2 ^ 8 := by
    have : b < 256 := by omega
    exact this
  have h3 : b < 2 ^ 16 := by
    have : b < 65536 := by omega
    exact this
  have h4 : a * 256 % 2 ^ 8 = 0 := by
    have : a * 256 % 256 = 0 := by omega
    exact this
  exact Go.bits_join .i64 16 (by decide) hk 8 (a * 256) b (by omega) h4 h1 hb.1 h2 h3
theorem PairAt_spec (xs : List Int) (at_ : Int) (hx : ∀ x ∈ xs, Byte x) : spec_PairAt.f xs at_ = some (pairAt xs at_) := by
  unfold spec_PairAt.f pairAt
  by_cases h : (xs.length : Int) > 2000
  · rw [if_pos h, if_pos h]
  rw [if_neg h, if_neg h, wrap_id (x := (xs.length : Int) - 2) (by omega) (by omega)]
  by_cases h0 : at_ < 0
  · rw [if_pos h0, if_pos (.inl h0)]
  rw [if_neg h0]
  by_cases h1 : at_ > (xs.length : Int) - 2
  · rw [if_pos h1, if_pos (.inr h1)]
  rw [if_neg h1, if_pos (by omega), if_pos (by omega), wrap_id (x := at_ + 1) (by omega) (by omega), if_pos (by omega), if_pos (by omega), if_neg (by omega)]
  have a := rd_byte hx at_ (by omega) (by omega)
  have b := rd_byte hx (at_ + 1) (by omega) (by omega)
  unfold Byte at a b
  rw [wrap_id (x := rd xs at_) (by omega) (by omega), wrap_id (x := rd xs (at_ + 1)) (by omega) (by omega), wrap_id (x := rd xs at_ * 256) (by omega) (by omega), wrap_id (by omega) (by omega)]
theorem PairAt_impl (xs : List Int) (at_ : Int) (hx : ∀ x ∈ xs, Byte x) : impl_PairAt.f xs at_ = some (pairAt xs at_) := by
  unfold impl_PairAt.f pairAt
  by_cases h : (xs.length : Int) > 2000
  · rw [if_pos h, if_pos h]
  rw [if_neg h, if_neg h, wrap_id (x := (xs.length : Int) - 2) (by omega) (by omega)]
  by_cases h0 : at_ < 0
  · rw [if_pos h0, if_pos (.inl h0)]
  rw [if_neg h0]
  by_cases h1 : at_ > (xs.length : Int) - 2
  · rw [if_pos h1, if_pos (.inr h1)]
  rw [if_neg h1, if_pos (by omega), if_pos (by omega), wrap_id (x := at_ + 1) (by omega) (by omega), if_pos (by omega), if_pos (by omega), if_neg (by omega)]
  have a := rd_byte hx at_ (by omega) (by omega)
  have b := rd_byte hx (at_ + 1) (by omega) (by omega)
  have o := or_pair a b
  unfold Byte at a b
  rw [wrap_id (x := rd xs at_) (by omega) (by omega), wrap_id (x := rd xs (at_ + 1)) (by omega) (by omega), wrap_id (x := rd xs at_ * 256) (by omega) (by omega), o]
def pairOf (n : Int) : Int × List Int := if 0 ≤ n ∧ n ≤ 65535 then (0, [n / 256, n % 256]) else (3, [])
theorem PairOf_spec (n : Int) : spec_PairOf.f n = some (pairOf n) := by
  unfold spec_PairOf.f spec_l1In.f pairOf
  by_cases h0 : n ≥ 0
  · rw [if_pos h0]
    by_cases h1 : n ≤ 65535
    · simp only [h1, decide_true, Option.bind_some, if_true]
      rw [if_pos ⟨h0, trivial⟩]
      unfold spec_l1Pair.f
      rw [Int.tdiv_eq_ediv_of_nonneg h0, Int.tmod_eq_emod_of_nonneg h0, wrap_id (by omega) (by omega)]
      have e1 : n / 256 % 256 = n / 256 := by omega
      have e2 : n % 256 % 256 = n % 256 := by omega
      simp [e1, e2]
    · simp [h1]
  · simp [h0]
theorem PairOf_impl (n : Int) : impl_PairOf.f n = some (pairOf n) := by
  unfold impl_PairOf.f impl_within.f pairOf
  by_cases h0 : n ≥ 0
  · rw [if_pos h0]
    by_cases h1 : n ≤ 65535
    · simp only [h1, decide_true, Option.bind_some, if_true]
      rw [if_pos ⟨h0, trivial⟩]
      unfold impl_pair.f
      have e1 : n / 256 % 256 = n / 256 := by omega
      simp [e1]
    · simp [h1]
  · simp [h0]

/-! Begins. -/
theorem byte_inj {a b : Int} (ha : Byte a) (hb : Byte b) (h : UInt8.ofNat a.toNat = UInt8.ofNat b.toNat) : a = b := by
  unfold Byte at ha hb
  have h1 := congrArg UInt8.toNat h
  simp only [UInt8.toNat_ofNat'] at h1
  omega
theorem bytes_inj : ∀ (a b : List Int), (∀ x ∈ a, Byte x) → (∀ x ∈ b, Byte x) → (a.map fun n => UInt8.ofNat n.toNat) = (b.map fun n => UInt8.ofNat n.toNat) → a = b
  | [], [], _, _, _ => rfl
  | [], _ :: _, _, _, h => by simp at h
  | _ :: _, [], _, _, h => by simp at h
  | x :: xs, y :: ys, ha, hb, h => by
    simp only [List.map_cons, List.cons.injEq] at h
    rw [byte_inj (ha x (by simp)) (hb y (by simp)) h.1, bytes_inj xs ys (fun z hz => ha z (by simp [hz])) (fun z hz => hb z (by simp [hz])) h.2]
theorem strOf_inj (a b : List Int) (ha : ∀ x ∈ a, Byte x) (hb : ∀ x ∈ b, Byte x) : ((strOfNums a).toList == (strOfNums b).toList) = decide (a = b) := by
  by_cases h : a = b
  · simp [h]
  · have : ¬ (strOfNums a).toList = (strOfNums b).toList := fun e => h (bytes_inj a b ha hb (by rw [Lib.strOfNums_toList, Lib.strOfNums_toList] at e; exact e))
    simp [h, this]
def begins (a b : List Int) : Bool := decide (a.take b.length = b)
theorem Begins_impl (a b : List Int) (ha : ∀ x ∈ a, Byte x) (hb : ∀ x ∈ b, Byte x) : impl_Begins.f a b = some (begins a b) := by
  unfold impl_Begins.f bytes_HasPrefix.f begins
  simp only [Option.bind_some]
  by_cases h : b.length ≤ a.length
  · rw [if_pos h, strOf_inj _ _ (fun x hx => ha x (List.mem_of_mem_take hx)) hb]
  · rw [if_neg h]
    have : ¬ a.take b.length = b := fun e => by
      have := congrArg List.length e
      simp only [List.length_take] at this
      omega
    simp [this]
theorem Begins_l0 (a b : List Int) (hab : b.length ≤ a.length) (hl : a.length ≤ 9223372036854775807) : ∀ (d i : Nat), i + d = b.length → Ev (fun k => spec_Begins.l0 k a b (i : Int)) (decide ((a.drop i).take d = b.drop i)) := by
  intro d
  induction d with
  | zero =>
    intro i hi
    refine ev_succ ?_
    simp only [spec_Begins.l0]
    refine ev_neg (by omega) ?_
    rw [drop_nil b _ (by omega), List.take_zero]
    exact ev_some _
  | succ d ih =>
    intro i hi
    refine ev_succ ?_
    simp only [spec_Begins.l0]
    refine ev_pos (by omega) (ev_pos (by omega) (ev_pos (by omega) ?_))
    rw [rd_drop a i (by omega), rd_drop b i (by omega)]
    by_cases h : rd a (i : Int) = rd b (i : Int)
    · refine ev_pos h ?_
      rw [wrap_up (by omega)]
      refine ev_to (ih (i + 1) (by omega)) ?_
      simp [h]
    · refine ev_neg h ?_
      refine ev_to (ev_some _) ?_
      simp [h]
theorem Begins_spec (a b : List Int) (hl : a.length ≤ 9223372036854775807) : Ev (fun k => spec_Begins.f k a b) (begins a b) := by
  unfold spec_Begins.f begins
  by_cases h : (a.length : Int) < (b.length : Int)
  · refine ev_pos h ?_
    have : ¬ a.take b.length = b := fun e => by
      have := congrArg List.length e
      simp only [List.length_take] at this
      omega
    refine ev_to (ev_some _) ?_
    simp [this]
  · refine ev_neg h ?_
    exact Begins_l0 a b (by omega) hl b.length 0 (by omega)

/-! Equal results; the marks that are written into a result and found there again. -/
theorem eqBytesResult_ev (c d : Int) (a b : List Int) (hl : a.length ≤ 9223372036854775807) : Ev (fun k => laws_eqBytesResult.f k c a d b) (decide (c = d ∧ a = b)) := by
  unfold laws_eqBytesResult.f
  by_cases h : c = d
  · refine ev_pos h (ev_bind (eqByteS_ev a b hl) ?_)
    by_cases h' : a = b
    · refine ev_pos (by simp [h']) (ev_to (ev_some _) (by simp [h, h']))
    · refine ev_neg (by simp [h']) (ev_to (ev_some _) (by simp [h']))
  · exact ev_neg h (ev_to (ev_some _) (by simp [h]))
/-- n marks from m on. -/
def marks (m : Int) : Nat → List Int
  | 0 => []
  | n + 1 => m % 256 :: marks (m + 1) n
theorem marks_length (n : Nat) : ∀ m, (marks m n).length = n := by
  induction n with
  | zero => intro m; rfl
  | succ n ih => intro m; simp [marks, ih]
theorem markByteS_l0 : ∀ (d : Nat) (pre rest : List Int) (m : Int), rest.length = d → 0 ≤ m → m + d ≤ 9000000000000000000 → pre.length + d ≤ 9000000000000000000 →
    Ev (fun k => laws_markByteS.l0 k (pre ++ rest) m (pre.length : Int)) (m + d, pre ++ marks m d) := by
  intro d
  induction d with
  | zero =>
    intro pre rest m hr h0 h1 h2
    refine ev_succ ?_
    simp only [laws_markByteS.l0]
    refine ev_neg (by simp; omega) ?_
    obtain rfl : rest = [] := List.eq_nil_of_length_eq_zero hr
    exact ev_to (ev_some _) (by simp [marks])
  | succ d ih =>
    intro pre rest m hr h0 h1 h2
    obtain ⟨x, rest, rfl⟩ : ∃ x r, rest = x :: r := by
      cases rest with
      | nil => simp at hr
      | cons x r => exact ⟨x, r, rfl⟩
    refine ev_succ ?_
    simp only [laws_markByteS.l0]
    refine ev_pos (by simp; omega) (ev_pos (by omega) ?_)
    rw [wrap_up (by omega), wrap_id (x := m + 1) (by omega) (by omega), Int.toNat_natCast]
    have e : (pre ++ x :: rest).set pre.length (m % 256) = (pre ++ [m % 256]) ++ rest := by simp
    rw [e]
    have := ih (pre ++ [m % 256]) rest (m + 1) (by simpa using hr) (by omega) (by omega) (by simp; omega)
    simp only [List.length_append, List.length_singleton] at this
    exact ev_to this (by simp [marks]; omega)
theorem markByteS_ev (xs : List Int) (m : Int) (h0 : 0 ≤ m) (h1 : m + xs.length ≤ 9000000000000000000) : Ev (fun k => laws_markByteS.f k xs m) (m + xs.length, marks m xs.length) := by
  unfold laws_markByteS.f
  exact markByteS_l0 xs.length [] xs m rfl h0 h1 (by simp; omega)
theorem markBytesResult_ev (c : Int) (xs : List Int) (m : Int) (h0 : 0 ≤ m) (h1 : m + xs.length ≤ 9000000000000000000) : Ev (fun k => laws_markBytesResult.f k c xs m) (m + xs.length, marks m xs.length) := by
  unfold laws_markBytesResult.f
  exact ev_bind (markByteS_ev xs m h0 h1) (ev_some _)
theorem heldByteS_l0 : ∀ (d : Nat) (pre : List Int) (m : Int), 0 ≤ m → m + d ≤ 9000000000000000000 → pre.length + d ≤ 9000000000000000000 →
    Ev (fun k => laws_heldByteS.l0 k (pre ++ marks m d) m (pre.length : Int)) (m + d) := by
  intro d
  induction d with
  | zero =>
    intro pre m h0 h1 h2
    refine ev_succ ?_
    simp only [laws_heldByteS.l0]
    refine ev_neg (by simp [marks]) ?_
    exact ev_to (ev_some _) (by simp)
  | succ d ih =>
    intro pre m h0 h1 h2
    refine ev_succ ?_
    simp only [laws_heldByteS.l0]
    have e : rd (pre ++ marks m (d + 1)) (pre.length : Int) = m % 256 := by simp [rd, marks]
    refine ev_pos (by simp [marks_length]; omega) (ev_pos (by omega) (ev_pos e ?_))
    rw [wrap_up (by omega), wrap_id (x := m + 1) (by omega) (by omega)]
    have := ih (pre ++ [m % 256]) (m + 1) (by omega) (by omega) (by simp; omega)
    simp only [List.length_append, List.length_singleton, List.append_assoc, List.singleton_append] at this
    exact ev_to this (by omega)
theorem heldBytesResult_ev (c : Int) (n : Nat) (m : Int) (h0 : 0 ≤ m) (h1 : m + n ≤ 9000000000000000000) : Ev (fun k => laws_heldBytesResult.f k c (marks m n) m) (m + n) := by
  unfold laws_heldBytesResult.f laws_heldByteS.f
  refine ev_bind (heldByteS_l0 n [] m h0 h1 (by simp; omega)) ?_
  exact ev_neg (by omega) (ev_some _)
end Go.Proofs.Ytnimcmlbjbkijaa.Pure
