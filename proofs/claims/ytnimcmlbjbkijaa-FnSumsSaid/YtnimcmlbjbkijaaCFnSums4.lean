/- A part of the proof of the law FnSums: words, functions of the program with what each call answers, plain lemmas; conditions stand in each statement. -/
import Derived.Laws.BitsLemmas
import Derived.Lib.Bytes
import Derived.Test.YtnimcmlbjbkijaaCFnSums0
import Derived.Test.YtnimcmlbjbkijaaCFnSums1
import Derived.Test.YtnimcmlbjbkijaaCFnSums2
import Derived.Test.YtnimcmlbjbkijaaCFnSums3
set_option linter.unusedVariables false
namespace Go.Proofs.Ytnimcmlbjbkijaa.Pure
open Go.RowKit Go.Proofs.Ytnimcmlbjbkijaa.P Go.Proofs.YtnimcmlbjbkijaaW.PrintWords Go.Proofs.YtnimcmlbjbkijaaW.PrintLast Go.Proofs.Ytnimcmlbjbkijaa.Base
def step (s b : Int) : Int := (227 * s + b + 1) % 65521
def sumFrom (s : Int) (xs : List Int) : Int := xs.foldl step s
def Byte (x : Int) : Prop := 0 ≤ x ∧ x ≤ 255
theorem step_range (s b : Int) : 0 ≤ step s b ∧ step s b < 65521 := by unfold step; omega
theorem sumFrom_range (xs : List Int) : ∀ s : Int, 0 ≤ s ∧ s < 65521 → 0 ≤ sumFrom s xs ∧ sumFrom s xs < 65521 := by
  induction xs with
  | nil => intro s h; exact h
  | cons x xs ih => intro s _; exact ih _ (step_range s x)
theorem step_spec {s b : Int} (hs : 0 ≤ s ∧ s < 65521) (hb : Byte b) : Int.tmod (wrap64 ((wrap64 ((wrap64 (s * 227)) + (wrap64 b))) + 1)) 65521 = step s b := by
  unfold Byte at hb
  rw [wrap_id (x := s * 227) (by omega) (by omega), wrap_id (x := b) (by omega) (by omega), wrap_id (x := s * 227 + b) (by omega) (by omega), wrap_id (by omega) (by omega), Int.tmod_eq_emod_of_nonneg (by omega)]
  unfold step
  rw [Int.mul_comm s 227]
theorem step_impl {s b : Int} (hs : 0 ≤ s ∧ s < 65521) (hb : Byte b) : Int.tmod (wrap64 ((wrap64 ((wrap64 (227 * s)) + (wrap64 b))) + 1)) 65521 = step s b := by
  rw [Int.mul_comm 227 s]; exact step_spec hs hb
theorem l1Sum_l0 (xs : List Int) (hx : ∀ x ∈ xs, Byte x) (hl : xs.length ≤ 9223372036854775807) : ∀ (d i : Nat) (s : Int), i + d = xs.length → 0 ≤ s ∧ s < 65521 → Ev (fun k => spec_l1Sum.l0 k xs s (i : Int)) (sumFrom s (xs.drop i)) := by
  intro d
  induction d with
  | zero =>
    intro i s hi hs
    refine ev_succ ?_
    simp only [spec_l1Sum.l0]
    refine ev_neg (by omega) ?_
    rw [List.drop_eq_nil_of_le (by omega)]
    exact ev_some _
  | succ d ih =>
    intro i s hi hs
    refine ev_succ ?_
    simp only [spec_l1Sum.l0]
    refine ev_pos (by omega) (ev_pos (by omega) ?_)
    rw [step_spec hs (hx _ (rd_mem xs i (by omega))), wrap_up (by omega), rd_drop xs i (by omega)]
    exact ih (i + 1) _ (by omega) (step_range _ _)
theorem SumOf_spec (xs : List Int) (hx : ∀ x ∈ xs, Byte x) (hl : xs.length ≤ 9223372036854775807) : Ev (fun k => spec_SumOf.f k xs) (if (xs.length : Int) > 2000 then (2, 0) else (0, sumFrom 29 xs)) := by
  unfold spec_SumOf.f
  by_cases h : (xs.length : Int) > 2000
  · rw [if_pos h]; exact ev_pos h (ev_some _)
  · rw [if_neg h]; refine ev_neg h ?_
    unfold spec_l1Sum.f
    exact ev_bind (l1Sum_l0 xs hx hl xs.length 0 29 (by omega) (by omega)) (ev_some _)
theorem SumOf_l0 (xs : List Int) (hx : ∀ x ∈ xs, Byte x) (hl : xs.length ≤ 9223372036854775807) : ∀ (d i : Nat) (s : Int), i + d = xs.length → 0 ≤ s ∧ s < 65521 → Ev (fun k => impl_SumOf.l0 k s xs (xs.length : Int) (i : Int)) (0, sumFrom s (xs.drop i)) := by
  intro d
  induction d with
  | zero =>
    intro i s hi hs
    refine ev_succ ?_
    simp only [impl_SumOf.l0]
    refine ev_neg (by omega) ?_
    rw [List.drop_eq_nil_of_le (by omega)]
    exact ev_some _
  | succ d ih =>
    intro i s hi hs
    refine ev_succ ?_
    simp only [impl_SumOf.l0]
    refine ev_pos (by omega) (ev_pos (by omega) (ev_pos (by omega) ?_))
    rw [step_impl hs (hx _ (rd_mem xs i (by omega))), wrap_up (by omega), rd_drop xs i (by omega)]
    exact ih (i + 1) _ (by omega) (step_range _ _)
theorem SumOf_impl (xs : List Int) (hx : ∀ x ∈ xs, Byte x) (hl : xs.length ≤ 9223372036854775807) : Ev (fun k => impl_SumOf.f k xs) (if (xs.length : Int) > 2000 then (2, 0) else (0, sumFrom 29 xs)) := by
  unfold impl_SumOf.f
  by_cases h : (xs.length : Int) > 2000
  · rw [if_pos h]; exact ev_pos h (ev_some _)
  · rw [if_neg h]; refine ev_neg h ?_
    exact SumOf_l0 xs hx hl xs.length 0 29 (by omega) (by omega)
def pairAt (xs : List Int) (at_ : Int) : Int × Int :=
  if (xs.length : Int) > 2000 then (2, 0) else if at_ < 0 ∨ at_ > (xs.length : Int) - 2 then (3, 0) else (0, rd xs at_ * 256 + rd xs (at_ + 1))
theorem rd_byte {xs : List Int} (hx : ∀ x ∈ xs, Byte x) (i : Int) (h0 : 0 ≤ i) (h1 : i < xs.length) : Byte (rd xs i) := by
  have := hx _ (rd_mem xs i.toNat (by omega))
  rwa [Int.toNat_of_nonneg h0] at this
theorem or_pair {a b : Int} (ha : Byte a) (hb : Byte b) : Go.bits .or .i64 (a * 256) b = a * 256 + b := by
  unfold Byte at ha hb
  have hk : ∀ n : Int, 0 ≤ n → n < 2 ^ 16 → IntKind.i64.wrap n = n := fun n h0 h1 => by
    rw [Go.IntKind.wrap_i64]
    have h2 : n < 65536 := h1
    omega
  have h1 : a * 256 < 2 ^ 16 := by
    have : a * 256 < 65536 := by omega
    exact this
  have h2 : b < 2 ^ 8 := by
    have : b < 256 := by omega
    exact this
  have h3 : b < 2 ^ 16 := by
    have : b < 65536 := by omega
    exact this
  have h4 : a * 256 % 2 ^ 8 = 0 := by
    have : a * 256 % 256 = 0 := by omega
    exact this
  exact Go.bits_join .i64 16 (by decide) hk 8 (a * 256) b (by omega) h4 h1 hb.1 h2 h3
theorem PairAt_impl (xs : List Int) (at_ : Int) (hx : ∀ x ∈ xs, Byte x) : impl_PairAt.f xs at_ = some (pairAt xs at_) := by
  unfold impl_PairAt.f pairAt
  by_cases h : (xs.length : Int) > 2000
  · rw [if_pos h, if_pos h]
  rw [if_neg h, if_neg h, wrap_id (x := (xs.length : Int) - 2) (by omega) (by omega)]
  by_cases h0 : at_ < 0
  · rw [if_pos h0, if_pos (.inl h0)]
  rw [if_neg h0]
  by_cases h1 : at_ > (xs.length : Int) - 2
  · rw [if_pos h1, if_pos (.inr h1)]
  rw [if_neg h1, if_pos (by omega), if_pos (by omega), wrap_id (x := at_ + 1) (by omega) (by omega), if_pos (by omega), if_pos (by omega), if_neg (by omega)]
  have a := rd_byte hx at_ (by omega) (by omega)
  have b := rd_byte hx (at_ + 1) (by omega) (by omega)
  have o := or_pair a b
  unfold Byte at a b
  rw [wrap_id (x := rd xs at_) (by omega) (by omega), wrap_id (x := rd xs (at_ + 1)) (by omega) (by omega), wrap_id (x := rd xs at_ * 256) (by omega) (by omega), o]
def pairOf (n : Int) : Int × List Int := if 0 ≤ n ∧ n ≤ 65535 then (0, [n / 256, n % 256]) else (3, [])
theorem PairOf_spec (n : Int) : spec_PairOf.f n = some (pairOf n) := by
  unfold spec_PairOf.f spec_l1In.f pairOf
  by_cases h0 : n ≥ 0
  · rw [if_pos h0]
    by_cases h1 : n ≤ 65535
    · simp only [h1, decide_true, Option.bind_some, if_true]
      rw [if_pos ⟨h0, trivial⟩]
      unfold spec_l1Pair.f
      rw [Int.tdiv_eq_ediv_of_nonneg h0, Int.tmod_eq_emod_of_nonneg h0, wrap_id (by omega) (by omega)]
      have e1 : n / 256 % 256 = n / 256 := by omega
      have e2 : n % 256 % 256 = n % 256 := by omega
      simp [e1, e2]
    · simp [h1]
  · simp [h0]
theorem PairOf_impl (n : Int) : impl_PairOf.f n = some (pairOf n) := by
  unfold impl_PairOf.f impl_within.f pairOf
  by_cases h0 : n ≥ 0
  · rw [if_pos h0]
    by_cases h1 : n ≤ 65535
    · simp only [h1, decide_true, Option.bind_some, if_true]
      rw [if_pos ⟨h0, trivial⟩]
      unfold impl_pair.f
      have e1 : n / 256 % 256 = n / 256 := by omega
      simp [e1]
    · simp [h1]
  · simp [h0]
end Go.Proofs.Ytnimcmlbjbkijaa.Pure
set_option linter.unusedVariables false
namespace Go.Proofs.Ytnimcmlbjbkijaa.Pure
open Go.RowKit Go.Proofs.Ytnimcmlbjbkijaa.P Go.Proofs.YtnimcmlbjbkijaaW.PrintWords Go.Proofs.YtnimcmlbjbkijaaW.PrintLast Go.Proofs.Ytnimcmlbjbkijaa.Base
theorem tmod_in {x n : Int} (hx : 0 ≤ x) (hn : 1 ≤ n) : 0 ≤ Int.tmod x n ∧ Int.tmod x n < n := by
  rw [Int.tmod_eq_emod_of_nonneg hx]
  exact ⟨Int.emod_nonneg _ (by omega), Int.emod_lt_of_pos _ (by omega)⟩
structure Code (c : List Int) : Prop where
  bytes : ∀ x ∈ c, Byte x
  len : c.length ≤ 2000000
theorem l1Next_ex {c : List Int} (hc : Code c) {a n : Int} (ha : 0 ≤ a) (ha' : a ≤ 1000000000000) (hn : n ≤ 1000000) :
    ∃ v, spec_l1Next.f c a n = some (v, a + 1) ∧ (n < 1 → v = 0) ∧ (1 ≤ n → 0 ≤ v ∧ v < n) := by
  unfold spec_l1Next.f
  have e1 : wrap64 (a + 1) = a + 1 := wrap_id (by omega) (by omega)
  have e2 : wrap64 (a + 1 - 1) = a := by rw [wrap_id (by omega) (by omega)]; omega
  simp only [e1, e2]
  by_cases h1 : n < 1
  · rw [if_pos h1]
    exact ⟨0, rfl, fun _ => rfl, fun h => by omega⟩
  rw [if_neg h1]
  have hl := hc.len
  by_cases h2 : (c.length : Int) = 0
  · rw [if_pos h2, if_neg (by omega), wrap_id (x := a * 7) (by omega) (by omega)]
    exact ⟨_, rfl, fun h => by omega, fun h => tmod_in (by omega) h⟩
  rw [if_neg h2]
  have hp : 0 < (c.length : Int) := by omega
  obtain ⟨m0, m1⟩ := tmod_in (x := a) (n := (c.length : Int)) ha (by omega)
  have hb := rd_byte hc.bytes _ m0 m1
  have hq : 0 ≤ Int.tdiv a (c.length : Int) ∧ Int.tdiv a (c.length : Int) ≤ a := by
    rw [Int.tdiv_eq_ediv_of_nonneg ha]
    exact ⟨Int.ediv_nonneg ha (by omega), Int.ediv_le_self _ ha⟩
  rw [if_pos m0, if_pos m1]
  generalize rd c (Int.tmod a (c.length : Int)) = b at *
  generalize Int.tdiv a (c.length : Int) = q at *
  unfold Byte at hb
  have w1 : wrap64 b = b := wrap_id (by omega) (by omega)
  have w2 : wrap64 q = q := wrap_id (by omega) (by omega)
  have w3 : wrap64 (q * 37) = q * 37 := wrap_id (by omega) (by omega)
  have w4 : wrap64 (b + q * 37) = b + q * 37 := wrap_id (by omega) (by omega)
  by_cases h3 : n > 200
  · rw [if_pos h3]
    obtain ⟨k0, k1⟩ := tmod_in (x := a + 1) (n := (c.length : Int)) (by omega) (by omega)
    have hd := rd_byte hc.bytes _ k0 k1
    rw [if_pos k0, if_pos k1, if_neg (by omega)]
    generalize rd c (Int.tmod (a + 1) (c.length : Int)) = d at *
    unfold Byte at hd
    have w5 : wrap64 d = d := wrap_id (by omega) (by omega)
    have w6 : wrap64 (d * 13) = d * 13 := wrap_id (by omega) (by omega)
    have w7 : wrap64 ((b + q * 37) * 251) = (b + q * 37) * 251 := wrap_id (by omega) (by omega)
    have w8 : wrap64 ((b + q * 37) * 251 + d * 13) = (b + q * 37) * 251 + d * 13 := wrap_id (by omega) (by omega)
    have w9 : wrap64 ((b + q * 37) * 251 + d * 13 + a) = (b + q * 37) * 251 + d * 13 + a := wrap_id (by omega) (by omega)
    simp only [w1, w2, w3, w4, w5, w6, w7, w8, w9]
    exact ⟨_, rfl, fun h => by omega, fun h => tmod_in (by omega) h⟩
  · rw [if_neg h3, if_neg (by omega)]
    simp only [w1, w2, w3, w4]
    exact ⟨_, rfl, fun h => by omega, fun h => tmod_in (by omega) h⟩
theorem l1Chance_ex {c : List Int} (hc : Code c) {a n : Int} (ha : 0 ≤ a) (ha' : a ≤ 1000000000000) (hn : n ≤ 1000000) :
    ∃ b, spec_l1Chance.f c a n = some (b, a + 1) := by
  obtain ⟨v, hv, _⟩ := l1Next_ex hc ha ha' hn
  exact ⟨v == 0, by unfold spec_l1Chance.f; rw [hv]; rfl⟩
theorem l1Pick_ex {c : List Int} (hc : Code c) {a : Int} (ha : 0 ≤ a) (ha' : a ≤ 1000000000000) (l : List Int) (hl : 0 < l.length) (hl' : l.length ≤ 1000000) :
    ∃ v, spec_l1Pick.f c a l = some (v, a + 1) ∧ v ∈ l := by
  obtain ⟨v, hv, _, h⟩ := l1Next_ex (n := (l.length : Int)) hc ha ha' (by omega)
  obtain ⟨h0, h1⟩ := h (by omega)
  refine ⟨rd l v, ?_, ?_⟩
  · unfold spec_l1Pick.f
    rw [hv]
    simp only [Option.bind_some]
    rw [if_pos h0, if_pos h1]
  · have := rd_mem l v.toNat (by omega)
    rwa [Int.toNat_of_nonneg h0] at this
theorem l1Some_l0 {c : List Int} (hc : Code c) : ∀ (d : Nat) (xs : List Int) (a : Int), 0 ≤ a → a + d ≤ 1000000000000 → xs.length + d ≤ 1000000 → (∀ x ∈ xs, Byte x) →
    ∃ ys, Ev (fun k => spec_l1Some.l0 k (d : Int) xs c a) (ys, a + d) ∧ ys.length = xs.length + d ∧ ∀ x ∈ ys, Byte x := by
  intro d
  induction d with
  | zero =>
    intro xs a h0 h1 h2 hx
    refine ⟨xs, ev_succ ?_, rfl, hx⟩
    simp only [spec_l1Some.l0]
    exact ev_neg (by omega) (ev_to (ev_some _) (by simp))
  | succ d ih =>
    intro xs a h0 h1 h2 hx
    obtain ⟨v, hv, _, hb⟩ := l1Next_ex (n := 256) hc h0 (by omega) (by omega)
    obtain ⟨b0, b1⟩ := hb (by omega)
    have hm : v % 256 = v := by omega
    obtain ⟨ys, hy, hl, hys⟩ := ih (xs ++ [v]) (a + 1) (by omega) (by omega) (by simp; omega) (fun x hx' => by
      rcases List.mem_append.1 hx' with h | h
      · exact hx x h
      · rw [List.mem_singleton.1 h]; unfold Byte; omega)
    refine ⟨ys, ev_succ ?_, by rw [hl]; simp; omega, hys⟩
    simp only [spec_l1Some.l0]
    refine ev_pos (by omega) (ev_bindq hv (ev_pos (by omega) ?_))
    rw [hm, wrap_id (x := ((d + 1 : Nat) : Int) - 1) (by omega) (by omega), show ((d + 1 : Nat) : Int) - 1 = (d : Int) by omega]
    exact ev_to hy (by rw [show a + 1 + (d : Int) = a + ((d + 1 : Nat) : Int) by omega])
theorem l1Some_ex {c : List Int} (hc : Code c) {a n : Int} (ha : 0 ≤ a) (ha' : a ≤ 900000000000) (hn : 0 ≤ n) (hn' : n ≤ 100000) :
    ∃ ys, Ev (fun k => spec_l1Some.f k c a n) (ys, a + n) ∧ (ys.length : Int) = n ∧ ∀ x ∈ ys, Byte x := by
  obtain ⟨d, rfl⟩ := Int.eq_ofNat_of_zero_le hn
  obtain ⟨ys, hy, hl, hys⟩ := l1Some_l0 hc d [] a ha (by omega) (by simp; omega) (by simp)
  exact ⟨ys, by unfold spec_l1Some.f; exact hy, by rw [hl]; simp, hys⟩
end Go.Proofs.Ytnimcmlbjbkijaa.Pure
set_option linter.unusedVariables false
namespace Go.Proofs.Ytnimcmlbjbkijaa.Pure
open Go.RowKit Go.Proofs.Ytnimcmlbjbkijaa.P Go.Proofs.YtnimcmlbjbkijaaW.PrintWords Go.Proofs.YtnimcmlbjbkijaaW.PrintLast Go.Proofs.Ytnimcmlbjbkijaa.Base
theorem lwAt_ex {c : List Int} (hc : Code c) {a n : Int} (ha : 0 ≤ a) (ha' : a ≤ 1000000) (hn : n ≤ 1000000) :
    ∃ v, laws_lwAt.f c a n = some v ∧ 0 ≤ v ∧ (1 ≤ n → v < n) := by
  unfold laws_lwAt.f
  by_cases h1 : n ≤ 1
  · rw [if_pos h1]
    exact ⟨0, rfl, Int.le_refl _, fun h => by omega⟩
  rw [if_neg h1]
  have hl := hc.len
  by_cases h2 : (c.length : Int) = 0
  · rw [if_pos h2, if_neg (by omega), wrap_id (x := a * 7) (by omega) (by omega)]
    obtain ⟨t0, t1⟩ := tmod_in (x := a * 7) (n := n) (by omega) (by omega)
    exact ⟨_, rfl, t0, fun _ => t1⟩
  rw [if_neg h2]
  obtain ⟨m0, m1⟩ := tmod_in (x := a) (n := (c.length : Int)) ha (by omega)
  have hb := rd_byte hc.bytes _ m0 m1
  have hq : 0 ≤ Int.tdiv a (c.length : Int) ∧ Int.tdiv a (c.length : Int) ≤ a := by
    rw [Int.tdiv_eq_ediv_of_nonneg ha]
    exact ⟨Int.ediv_nonneg ha (by omega), Int.ediv_le_self _ ha⟩
  rw [if_pos m0, if_pos m1]
  generalize rd c (Int.tmod a (c.length : Int)) = b at *
  generalize Int.tdiv a (c.length : Int) = q at *
  unfold Byte at hb
  have w1 : wrap64 b = b := wrap_id (by omega) (by omega)
  have w2 : wrap64 q = q := wrap_id (by omega) (by omega)
  have w3 : wrap64 (q * 3) = q * 3 := wrap_id (by omega) (by omega)
  have w4 : wrap64 (b + q * 3) = b + q * 3 := wrap_id (by omega) (by omega)
  have e1 : wrap64 (a + 1) = a + 1 := wrap_id (by omega) (by omega)
  by_cases h3 : n > 200
  · rw [if_pos h3, e1]
    obtain ⟨k0, k1⟩ := tmod_in (x := a + 1) (n := (c.length : Int)) (by omega) (by omega)
    have hd := rd_byte hc.bytes _ k0 k1
    rw [if_pos k0, if_pos k1, if_neg (by omega)]
    generalize rd c (Int.tmod (a + 1) (c.length : Int)) = d at *
    unfold Byte at hd
    have w5 : wrap64 d = d := wrap_id (by omega) (by omega)
    have w7 : wrap64 ((b + q * 3) * 251) = (b + q * 3) * 251 := wrap_id (by omega) (by omega)
    have w8 : wrap64 ((b + q * 3) * 251 + d) = (b + q * 3) * 251 + d := wrap_id (by omega) (by omega)
    simp only [w1, w2, w3, w4, w5, w7, w8]
    obtain ⟨t0, t1⟩ := tmod_in (x := (b + q * 3) * 251 + d) (n := n) (by omega) (by omega)
    exact ⟨_, rfl, t0, fun _ => t1⟩
  · rw [if_neg h3, if_neg (by omega)]
    simp only [w1, w2, w3, w4]
    obtain ⟨t0, t1⟩ := tmod_in (x := b + q * 3) (n := n) (by omega) (by omega)
    exact ⟨_, rfl, t0, fun _ => t1⟩
theorem DrawSumOf_ex {c : List Int} (hc : Code c) : ∃ xs, Ev (fun k => spec_DrawSumOf.f k c) xs ∧ xs.length ≤ 2001 ∧ ∀ x ∈ xs, Byte x := by
  obtain ⟨b, hb⟩ := l1Chance_ex hc (a := 0) (n := 20) (by omega) (by omega) (by omega)
  cases b with
  | true =>
    obtain ⟨v, hv, hm⟩ := l1Pick_ex hc (a := 1) (by omega) (by omega) [2000, 2001] (by simp) (by simp)
    have hv2 : v = 2000 ∨ v = 2001 := by simpa using hm
    obtain ⟨ys, hy, hl, hys⟩ := l1Some_ex hc (a := 2) (n := v) (by omega) (by omega) (by omega) (by omega)
    refine ⟨ys, ?_, by omega, hys⟩
    unfold spec_DrawSumOf.f spec_l1Source.f
    exact ev_bindq rfl (ev_bindq hb (ev_pos rfl (ev_bindq hv (ev_bind hy (ev_some _)))))
  | false =>
    obtain ⟨v, hv, _, h⟩ := l1Next_ex hc (a := 1) (n := 40) (by omega) (by omega) (by omega)
    have := h (by omega)
    obtain ⟨ys, hy, hl, hys⟩ := l1Some_ex hc (a := 2) (n := v) (by omega) (by omega) (by omega) (by omega)
    refine ⟨ys, ?_, by omega, hys⟩
    unfold spec_DrawSumOf.f spec_l1Source.f
    exact ev_bindq rfl (ev_bindq hb (ev_neg (by simp) (ev_bindq hv (ev_bind hy (ev_some _)))))
theorem DrawPairOf_ex {c : List Int} (hc : Code c) : ∃ n, spec_DrawPairOf.f c = some n := by
  obtain ⟨v, hv, _⟩ := l1Next_ex hc (a := 0) (n := 65536) (by omega) (by omega) (by omega)
  obtain ⟨u, hu, _⟩ := l1Pick_ex hc (a := 1) (by omega) (by omega) [0, 255, 256, 65535, 65536, (-1), v] (by simp) (by simp)
  refine ⟨u, ?_⟩
  unfold spec_DrawPairOf.f spec_l1Source.f
  exact bind_eq rfl (bind_eq hv (bind_eq hu rfl))
theorem step_inj_s {s t b : Int} (hs : 0 ≤ s ∧ s < 65521) (ht : 0 ≤ t ∧ t < 65521) (h : step s b = step t b) : s = t := by
  unfold step at h; omega
theorem step_inj_b {s b d : Int} (hb : Byte b) (hd : Byte d) (h : step s b = step s d) : b = d := by
  unfold step at h; unfold Byte at hb hd; omega
theorem sumFrom_inj : ∀ (xs : List Int) (s t : Int), 0 ≤ s ∧ s < 65521 → 0 ≤ t ∧ t < 65521 → sumFrom s xs = sumFrom t xs → s = t
  | [], s, t, _, _, h => h
  | x :: xs, s, t, hs, ht, h => step_inj_s hs ht (sumFrom_inj xs (step s x) (step t x) (step_range _ _) (step_range _ _) h)
theorem sumFrom_append (xs ys : List Int) (s : Int) : sumFrom s (xs ++ ys) = sumFrom (sumFrom s xs) ys := by
  simp [sumFrom]
theorem sum_turned (xs : List Int) (i : Nat) (hi : i < xs.length) (d : Int) (hx : ∀ x ∈ xs, Byte x) (hd : Byte d) (hne : d ≠ rd xs (i : Int)) : sumFrom 29 (xs.set i d) ≠ sumFrom 29 xs := by
  intro h
  have e : xs = xs.take i ++ rd xs (i : Int) :: xs.drop (i + 1) := by rw [← rd_drop xs i hi, List.take_append_drop]
  have e2 : xs.set i d = xs.take i ++ d :: xs.drop (i + 1) := List.set_eq_take_append_cons_drop.trans (if_pos hi)
  rw [e2] at h
  have h2 : sumFrom 29 (xs.take i ++ d :: xs.drop (i + 1)) = sumFrom 29 (xs.take i ++ rd xs (i : Int) :: xs.drop (i + 1)) := by rw [← e]; exact h
  rw [sumFrom_append, sumFrom_append] at h2
  have h3 := sumFrom_inj (xs.drop (i + 1)) (step (sumFrom 29 (xs.take i)) d) (step (sumFrom 29 (xs.take i)) (rd xs (i : Int))) (step_range _ _) (step_range _ _) h2
  exact hne (step_inj_b hd (hx _ (rd_mem xs i hi)) h3)
theorem xor_u8 (a b : Nat) (ha : a < 2 ^ 8) (hb : b < 2 ^ 8) : Go.bits .xor .u8 (a : Int) (b : Int) = ((a ^^^ b : Nat) : Int) := by
  have ha' : a % 2 ^ IntKind.u8.bits = a := Nat.mod_eq_of_lt ha
  have hb' : b % 2 ^ IntKind.u8.bits = b := Nat.mod_eq_of_lt hb
  have hlt : a ^^^ b < 2 ^ 8 := Nat.xor_lt_two_pow ha hb
  simp only [Go.bits, BitVec.ofInt_natCast, BitVec.toNat_xor, BitVec.toNat_ofNat, ha', hb']
  exact Go.wraps_u8 _ (by omega) (by omega)
theorem xor_ne {b x : Int} (hb : Byte b) (h0 : 1 ≤ x) (h1 : x ≤ 255) : Byte (Go.bits .xor .u8 b x) ∧ Go.bits .xor .u8 b x ≠ b := by
  unfold Byte at hb ⊢
  obtain ⟨m, rfl⟩ := Int.eq_ofNat_of_zero_le hb.1
  obtain ⟨n, rfl⟩ := Int.eq_ofNat_of_zero_le (show 0 ≤ x by omega)
  have e : Go.bits .xor .u8 (m : Int) (n : Int) = ((m ^^^ n : Nat) : Int) := xor_u8 m n (by omega) (by omega)
  rw [e]
  have hlt : m ^^^ n < 2 ^ 8 := Nat.xor_lt_two_pow (by omega) (by omega)
  refine ⟨by omega, fun h => ?_⟩
  have h' : m ^^^ n = m := by omega
  have : n = 0 := by
    have := congrArg (fun z => m ^^^ z) h'
    simpa [← Nat.xor_assoc] using this
  omega
end Go.Proofs.Ytnimcmlbjbkijaa.Pure
set_option linter.unusedVariables false
namespace Go.Proofs.Ytnimcmlbjbkijaa.Pure
open Go.RowKit Go.Proofs.Ytnimcmlbjbkijaa.P Go.Proofs.YtnimcmlbjbkijaaW.PrintWords Go.Proofs.YtnimcmlbjbkijaaW.PrintLast Go.Proofs.Ytnimcmlbjbkijaa.Base
theorem Sums_j2 {c : List Int} (hc : Code c) (xs : List Int) (hl : xs.length ≤ 2000) (hx : ∀ x ∈ xs, Byte x) (e : Bool) (he : xs.length = 0 → e = true) (r : Int) (hr : r = sumFrom 29 xs) :
    Ev (fun k => laws_FnSums.j2 k c xs e 0 r) true := by
  refine ev_succ ?_
  simp only [laws_FnSums.j2]
  cases e with
  | true => exact ev_pos rfl (ev_some _)
  | false =>
    have hp : 0 < xs.length := by
      rcases Nat.eq_zero_or_pos xs.length with h | h
      · have := he h; simp at this
      · exact h
    refine ev_neg (by simp) (ev_bindq rfl (ev_pos (by simp; omega) (ev_bindq rfl ?_)))
    obtain ⟨a, ha, a0, a1⟩ := lwAt_ex hc (a := 1) (n := (xs.length : Int)) (by omega) (by omega) (by omega)
    have a1 := a1 (by omega)
    obtain ⟨b, hb, b0, b1⟩ := lwAt_ex hc (a := 2) (n := 255) (by omega) (by omega) (by omega)
    have b1 := b1 (by omega)
    obtain ⟨i, rfl⟩ := Int.eq_ofNat_of_zero_le a0
    have hi : i < xs.length := by omega
    refine ev_bindq ha (ev_pos a0 (ev_pos (by simpa using a1) (ev_bindq hb ?_)))
    rw [wrap_id (x := 1 + b) (by omega) (by omega), show (1 + b) % 256 = 1 + b by omega, List.nil_append, Int.toNat_natCast]
    obtain ⟨hd, hne⟩ := xor_ne (x := 1 + b) (hx _ (rd_mem xs i hi)) (by omega) (by omega)
    have ht := sum_turned xs i hi _ hx hd hne
    generalize Go.bits .xor .u8 (rd xs (i : Int)) (1 + b) = d at *
    have hys : ∀ x ∈ xs.set i d, Byte x := fun x hx' => by
      rcases List.mem_or_eq_of_mem_set hx' with h | h
      · exact hx x h
      · rw [h]; exact hd
    have hs := SumOf_impl (xs.set i d) hys (by rw [List.length_set]; omega)
    rw [List.length_set, if_neg (by omega)] at hs
    have hrg := sumFrom_range xs 29 (by omega)
    exact ev_bind hs (ev_pos rfl (ev_neg (by rw [hr]; exact ht) (ev_pos (by omega) (ev_to (ev_some _) (by simp; omega)))))
theorem Sums_j1 {c : List Int} (hc : Code c) (xs : List Int) (hx : ∀ x ∈ xs, Byte x) (s : Int × Int) (hs : s = if (xs.length : Int) > 2000 then (2, 0) else (0, sumFrom 29 xs)) :
    Ev (fun k => laws_FnSums.j1 k c xs false s.1 s.2) true := by
  refine ev_succ ?_
  simp only [laws_FnSums.j1]
  refine ev_neg (by simp) ?_
  by_cases h : (xs.length : Int) > 2000
  · rw [if_pos h] at hs
    subst hs
    refine ev_neg (by decide) (ev_succ ?_)
    simp only [laws_FnSums.j2]
    exact ev_pos (by simp) (ev_some _)
  · rw [if_neg h] at hs
    subst hs
    refine ev_pos (by simp) ?_
    exact Sums_j2 hc xs (by omega) hx _ (fun h0 => by simp [h0]) _ rfl
theorem FnSums (c : List Int) (hc0 : c.length ≤ maxLen ∧ ∀ x ∈ c, (Lit.int .u8 x).wf = true) : ∃ k, laws_FnSums.f k c = some true := by
  obtain ⟨hm, hw⟩ := hc0
  refine ev_ex (g := fun k => laws_FnSums.f k c) ?_
  unfold laws_FnSums.f laws_lwBig.f
  by_cases hb : (c.length : Int) > 1048576
  · exact ev_bindq rfl (ev_pos (by simpa using hb) (ev_some _))
  have hc : Code c := ⟨fun x hx => wf_u8 (hw x hx), by omega⟩
  refine ev_bindq rfl (ev_neg (by simpa using hb) ?_)
  obtain ⟨xs, hxs, hxl, hx⟩ := DrawSumOf_ex hc
  obtain ⟨n, hn⟩ := DrawPairOf_ex hc
  refine ev_bind hxs (ev_bind (SumOf_impl xs hx (by omega)) (ev_bindq hn (ev_bindq (PairOf_impl n) (ev_bind (SumOf_spec xs hx (by omega)) (ev_pos rfl (ev_bindq (PairOf_spec n) ?_))))))
  refine ev_succ ?_
  simp only [laws_FnSums.j0]
  refine ev_neg (by simp) ?_
  generalize hsum : (if (xs.length : Int) > 2000 then ((2, 0) : Int × Int) else (0, sumFrom 29 xs)) = s
  by_cases hr : 0 ≤ n ∧ n ≤ 65535
  · have e : pairOf n = (0, [n / 256, n % 256]) := by unfold pairOf; rw [if_pos hr]
    rw [e]
    have hp : impl_PairAt.f [n / 256, n % 256] 0 = some (0, n) := by
      rw [PairAt_impl _ _ (fun x hx => by
        simp only [List.mem_cons, List.mem_nil_iff, or_false] at hx
        unfold Byte
        rcases hx with rfl | rfl <;> omega)]
      unfold pairAt
      simp [rd]
      omega
    refine ev_pos rfl (ev_bindq hp ?_)
    simp only [beq_self_eq_true, Bool.not_true, Bool.or_self]
    exact Sums_j1 hc xs hx s hsum.symm
  · have e : pairOf n = (3, []) := by unfold pairOf; rw [if_neg hr]
    rw [e]
    refine ev_neg (by decide) ?_
    exact Sums_j1 hc xs hx s hsum.symm
end Go.Proofs.Ytnimcmlbjbkijaa.Pure
