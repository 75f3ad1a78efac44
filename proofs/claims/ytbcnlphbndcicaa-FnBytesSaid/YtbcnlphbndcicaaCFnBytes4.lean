/- A part of the proof of the law FnBytes: words, functions of the program with what each call answers, plain lemmas; conditions stand in each statement. -/
import Derived.Lib.Bytealg
import Derived.Test.YtbcnlphbndcicaaCFnBytes0
import Derived.Test.YtbcnlphbndcicaaCFnBytes1
import Derived.Test.YtbcnlphbndcicaaCFnBytes2
import Derived.Test.YtbcnlphbndcicaaCFnBytes3
set_option linter.unusedVariables false
namespace Go.Proofs.Ytbcnlphbndcicaa.Pure
open Go.RowKit Go.Proofs.Ytbcnlphbndcicaa.P Go.Proofs.YtbcnlphbndcicaaW.PrintWords Go.Proofs.YtbcnlphbndcicaaW.PrintLast Go.Proofs.Ytbcnlphbndcicaa.Base
theorem tmod_in {x n : Int} (hx : 0 ≤ x) (hn : 1 ≤ n) : 0 ≤ Int.tmod x n ∧ Int.tmod x n < n := by
  rw [Int.tmod_eq_emod_of_nonneg hx]
  exact ⟨Int.emod_nonneg _ (by omega), Int.emod_lt_of_pos _ (by omega)⟩
structure Code (c : List Int) : Prop where
  bytes : ∀ x ∈ c, Byte x
  len : c.length ≤ 2000000
theorem l1Next_ex {c : List Int} (hc : Code c) {a n : Int} (ha : 0 ≤ a) (ha' : a ≤ 1000000000000) (hn : n ≤ 1000000) :
    ∃ v, spec_l1Next.f c a n = some (v, a + 1) ∧ (n < 1 → v = 0) ∧ (1 ≤ n → 0 ≤ v ∧ v < n) := by
  unfold spec_l1Next.f
  have e1 : wrap64 (a + 1) = a + 1 := wrap_id (by omega) (by omega)
  have e2 : wrap64 (a + 1 - 1) = a := by rw [wrap_id (by omega) (by omega)]; omega
  simp only [e1, e2]
  by_cases h1 : n < 1
  · rw [if_pos h1]
    exact ⟨0, rfl, fun _ => rfl, fun h => by omega⟩
  rw [if_neg h1]
  have hl := hc.len
  by_cases h2 : (c.length : Int) = 0
  · rw [if_pos h2, if_neg (by omega), wrap_id (x := a * 7) (by omega) (by omega)]
    exact ⟨_, rfl, fun h => by omega, fun h => tmod_in (by omega) h⟩
  rw [if_neg h2]
  have hp : 0 < (c.length : Int) := by omega
  obtain ⟨m0, m1⟩ := tmod_in (x := a) (n := (c.length : Int)) ha (by omega)
  have hb := rd_byte hc.bytes _ m0 m1
  have hq : 0 ≤ Int.tdiv a (c.length : Int) ∧ Int.tdiv a (c.length : Int) ≤ a := by
    rw [Int.tdiv_eq_ediv_of_nonneg ha]
    exact ⟨Int.ediv_nonneg ha (by omega), Int.ediv_le_self _ ha⟩
  rw [if_pos m0, if_pos m1]
  generalize rd c (Int.tmod a (c.length : Int)) = b at *
  generalize Int.tdiv a (c.length : Int) = q at *
  unfold Byte at hb
  have w1 : wrap64 b = b := wrap_id (by omega) (by omega)
  have w2 : wrap64 q = q := wrap_id (by omega) (by omega)
  have w3 : wrap64 (q * 37) = q * 37 := wrap_id (by omega) (by omega)
  have w4 : wrap64 (b + q * 37) = b + q * 37 := wrap_id (by omega) (by omega)
  by_cases h3 : n > 200
  · rw [if_pos h3]
    obtain ⟨k0, k1⟩ := tmod_in (x := a + 1) (n := (c.length : Int)) (by omega) (by omega)
    have hd := rd_byte hc.bytes _ k0 k1
    rw [if_pos k0, if_pos k1, if_neg (by omega)]
    generalize rd c (Int.tmod (a + 1) (c.length : Int)) = d at *
    unfold Byte at hd
    have w5 : wrap64 d = d := wrap_id (by omega) (by omega)
    have w6 : wrap64 (d * 13) = d * 13 := wrap_id (by omega) (by omega)
    have w7 : wrap64 ((b + q * 37) * 251) = (b + q * 37) * 251 := wrap_id (by omega) (by omega)
    have w8 : wrap64 ((b + q * 37) * 251 + d * 13) = (b + q * 37) * 251 + d * 13 := wrap_id (by omega) (by omega)
    have w9 : wrap64 ((b + q * 37) * 251 + d * 13 + a) = (b + q * 37) * 251 + d * 13 + a := wrap_id (by omega) (by omega)
    simp only [w1, w2, w3, w4, w5, w6, w7, w8, w9]
    exact ⟨_, rfl, fun h => by omega, fun h => tmod_in (by omega) h⟩
  · rw [if_neg h3, if_neg (by omega)]
    simp only [w1, w2, w3, w4]
    exact ⟨_, rfl, fun h => by omega, fun h => tmod_in (by omega) h⟩
theorem l1Chance_ex {c : List Int} (hc : Code c) {a n : Int} (ha : 0 ≤ a) (ha' : a ≤ 1000000000000) (hn : n ≤ 1000000) :
    ∃ b, spec_l1Chance.f c a n = some (b, a + 1) := by
  obtain ⟨v, hv, _⟩ := l1Next_ex hc ha ha' hn
  exact ⟨v == 0, by unfold spec_l1Chance.f; rw [hv]; rfl⟩
theorem l1Some_l0 {c : List Int} (hc : Code c) : ∀ (d : Nat) (xs : List Int) (a : Int), 0 ≤ a → a + d ≤ 1000000000000 → xs.length + d ≤ 1000000 → (∀ x ∈ xs, Byte x) →
    ∃ ys, Ev (fun k => spec_l1Some.l0 k (d : Int) xs c a) (ys, a + d) ∧ ys.length = xs.length + d ∧ ∀ x ∈ ys, Byte x := by
  intro d
  induction d with
  | zero =>
    intro xs a h0 h1 h2 hx
    refine ⟨xs, ev_succ ?_, rfl, hx⟩
    simp only [spec_l1Some.l0]
    exact ev_neg (by omega) (ev_to (ev_some _) (by simp))
  | succ d ih =>
    intro xs a h0 h1 h2 hx
    obtain ⟨v, hv, _, hb⟩ := l1Next_ex (n := 256) hc h0 (by omega) (by omega)
    obtain ⟨b0, b1⟩ := hb (by omega)
    have hm : v % 256 = v := by omega
    obtain ⟨ys, hy, hl, hys⟩ := ih (xs ++ [v]) (a + 1) (by omega) (by omega) (by simp; omega) (fun x hx' => by
      rcases List.mem_append.1 hx' with h | h
      · exact hx x h
      · rw [List.mem_singleton.1 h]; unfold Byte; omega)
    refine ⟨ys, ev_succ ?_, by rw [hl]; simp; omega, hys⟩
    simp only [spec_l1Some.l0]
    refine ev_pos (by omega) (ev_bindq hv (ev_pos (by omega) ?_))
    rw [hm, wrap_id (x := ((d + 1 : Nat) : Int) - 1) (by omega) (by omega), show ((d + 1 : Nat) : Int) - 1 = (d : Int) by omega]
    exact ev_to hy (by rw [show a + 1 + (d : Int) = a + ((d + 1 : Nat) : Int) by omega])
theorem l1Some_ex {c : List Int} (hc : Code c) {a n : Int} (ha : 0 ≤ a) (ha' : a ≤ 900000000000) (hn : 0 ≤ n) (hn' : n ≤ 100000) :
    ∃ ys, Ev (fun k => spec_l1Some.f k c a n) (ys, a + n) ∧ (ys.length : Int) = n ∧ ∀ x ∈ ys, Byte x := by
  obtain ⟨d, rfl⟩ := Int.eq_ofNat_of_zero_le hn
  obtain ⟨ys, hy, hl, hys⟩ := l1Some_l0 hc d [] a ha (by omega) (by simp; omega) (by simp)
  exact ⟨ys, by unfold spec_l1Some.f; exact hy, by rw [hl]; simp, hys⟩
end Go.Proofs.Ytbcnlphbndcicaa.Pure
set_option linter.unusedVariables false
namespace Go.Proofs.Ytbcnlphbndcicaa.Pure
open Go.RowKit Go.Proofs.Ytbcnlphbndcicaa.P Go.Proofs.YtbcnlphbndcicaaW.PrintWords Go.Proofs.YtbcnlphbndcicaaW.PrintLast Go.Proofs.Ytbcnlphbndcicaa.Base
def Small (xs : List Int) : Prop := xs.length ≤ 10 ∧ ∀ x ∈ xs, Byte x
theorem DrawCompare_j1 {c : List Int} (hc : Code c) {x y : List Int} (hx : Small x) (hy : Small y) {a : Int} (ha : 0 ≤ a) (ha' : a ≤ 1000) (e : Bool) (he : e = true → 0 < y.length) :
    ∃ u v, Ev (fun k => spec_DrawCompareBytes.j1 k x y e c a) (u, v) ∧ Small u ∧ Small v := by
  cases e with
  | false =>
    refine ⟨x, y, ev_succ ?_, hx, hy⟩
    simp only [spec_DrawCompareBytes.j1]
    exact ev_neg (by simp) (ev_some _)
  | true =>
    have hp := he rfl
    have hl := hy.1
    obtain ⟨i, hi, _, h⟩ := l1Next_ex hc (a := a) (n := (y.length : Int)) ha (by omega) (by omega)
    obtain ⟨i0, i1⟩ := h (by omega)
    obtain ⟨b, hb, _, h⟩ := l1Next_ex hc (a := a + 1) (n := 256) (by omega) (by omega) (by omega)
    obtain ⟨b0, b1⟩ := h (by omega)
    refine ⟨x, y.set i.toNat (b % 256), ev_succ ?_, hx, by rw [List.length_set]; exact hl, fun z hz => ?_⟩
    · simp only [spec_DrawCompareBytes.j1]
      exact ev_pos (by simp) (ev_bindq hi (ev_bindq hb (ev_pos i0 (ev_pos i1 (ev_some _)))))
    · rcases List.mem_or_eq_of_mem_set hz with h | h
      · exact hy.2 z h
      · rw [h]; unfold Byte; omega
theorem DrawCompare_j0 {c : List Int} (hc : Code c) {x y : List Int} (hx : Small x) (hy : Small y) {a : Int} (ha : 0 ≤ a) (ha' : a ≤ 900) :
    ∃ u v, Ev (fun k => spec_DrawCompareBytes.j0 k x y c a) (u, v) ∧ Small u ∧ Small v := by
  obtain ⟨b, hb⟩ := l1Chance_ex hc (a := a) (n := 4) ha (by omega) (by omega)
  obtain ⟨u, v, h, hu, hv⟩ := DrawCompare_j1 hc hx hy (a := a + 1) (by omega) (by omega) (b && decide ((y.length : Int) > 0)) (fun e => by simp at e; omega)
  refine ⟨u, v, ev_succ ?_, hu, hv⟩
  simp only [spec_DrawCompareBytes.j0]
  refine ev_bindq hb ?_
  cases b with
  | true => exact ev_pos rfl (by simpa using h)
  | false => exact ev_neg (by simp) (by simpa using h)
theorem DrawCompare_ex {c : List Int} (hc : Code c) : ∃ u v, Ev (fun k => spec_DrawCompareBytes.f k c) (u, v) ∧ Small u ∧ Small v := by
  unfold spec_DrawCompareBytes.f spec_l1Source.f
  obtain ⟨n, hn, _, h⟩ := l1Next_ex hc (a := 0) (n := 7) (by omega) (by omega) (by omega)
  obtain ⟨n0, n1⟩ := h (by omega)
  obtain ⟨x, hx, hxl, hxb⟩ := l1Some_ex hc (a := 0 + 1) (n := n) (by omega) (by omega) (by omega) (by omega)
  obtain ⟨m, hm, _, h⟩ := l1Next_ex hc (a := 0 + 1 + n) (n := 7) (by omega) (by omega) (by omega)
  obtain ⟨m0, m1⟩ := h (by omega)
  obtain ⟨y, hy, hyl, hyb⟩ := l1Some_ex hc (a := 0 + 1 + n + 1) (n := m) (by omega) (by omega) (by omega) (by omega)
  obtain ⟨b, hb⟩ := l1Chance_ex hc (a := 0 + 1 + n + 1 + m) (n := 2) (by omega) (by omega) (by omega)
  have sx : Small x := ⟨by omega, hxb⟩
  cases b with
  | false =>
    obtain ⟨u, v, h, hu, hv⟩ := DrawCompare_j0 hc sx (y := y) ⟨by omega, hyb⟩ (a := 0 + 1 + n + 1 + m + 1) (by omega) (by omega)
    exact ⟨u, v, ev_bindq rfl (ev_bindq hn (ev_bind hx (ev_bindq hm (ev_bind hy (ev_bindq hb (ev_neg (by simp) h)))))), hu, hv⟩
  | true =>
    obtain ⟨p, hp, _, h⟩ := l1Next_ex hc (a := 0 + 1 + n + 1 + m + 1) (n := 3) (by omega) (by omega) (by omega)
    obtain ⟨p0, p1⟩ := h (by omega)
    obtain ⟨z, hz, hzl, hzb⟩ := l1Some_ex hc (a := 0 + 1 + n + 1 + m + 1 + 1) (n := p) (by omega) (by omega) (by omega) (by omega)
    have hcopy : spec_l1Copy.f x = some x := by
      unfold spec_l1Copy.f
      simp only [Option.bind_some, List.length_nil, List.nil_append, Nat.zero_add]
      exact if_pos (by omega)
    obtain ⟨u, v, h, hu, hv⟩ := DrawCompare_j0 hc sx (y := x ++ z) ⟨by rw [List.length_append]; omega, fun w hw => by
      rcases List.mem_append.1 hw with h | h
      · exact hxb w h
      · exact hzb w h⟩ (a := 0 + 1 + n + 1 + m + 1 + 1 + p) (by omega) (by omega)
    exact ⟨u, v, ev_bindq rfl (ev_bindq hn (ev_bind hx (ev_bindq hm (ev_bind hy (ev_bindq hb (ev_pos rfl (ev_bindq hcopy (ev_bindq hp (ev_bind hz (ev_pos (by show x.length + z.length < _; omega) h)))))))))), hu, hv⟩
theorem DrawBegins_ex {c : List Int} (hc : Code c) : ∃ u v, Ev (fun k => spec_DrawBegins.f k c) (u, v) ∧ Small u ∧ Small v := by
  unfold spec_DrawBegins.f
  obtain ⟨u, v, h, hu, hv⟩ := DrawCompare_ex hc
  exact ⟨v, u, ev_bind h (ev_some _), hv, hu⟩
end Go.Proofs.Ytbcnlphbndcicaa.Pure
set_option linter.unusedVariables false
namespace Go.Proofs.Ytbcnlphbndcicaa.Pure
open Go.RowKit Go.Proofs.Ytbcnlphbndcicaa.P Go.Proofs.YtbcnlphbndcicaaW.PrintWords Go.Proofs.YtbcnlphbndcicaaW.PrintLast Go.Proofs.Ytbcnlphbndcicaa.Base
def ordL : List Int → List Int → Int
  | [], [] => 0
  | [], _ :: _ => -1
  | _ :: _, [] => 1
  | x :: xs, y :: ys => if x < y then -1 else if x > y then 1 else ordL xs ys
theorem ofNat_lt {a b : Int} (ha : Byte a) (hb : Byte b) : UInt8.ofNat a.toNat < UInt8.ofNat b.toNat ↔ a < b := by
  unfold Byte at ha hb
  rw [UInt8.lt_iff_toNat_lt]
  simp only [UInt8.toNat_ofNat']
  omega
theorem compare_ord : ∀ (a b : List Int), (∀ x ∈ a, Byte x) → (∀ x ∈ b, Byte x) → Lib.compareBytes (Lib.bytesOf a) (Lib.bytesOf b) = ordL a b
  | [], [], _, _ => rfl
  | [], _ :: _, _, _ => rfl
  | _ :: _, [], _, _ => rfl
  | x :: xs, y :: ys, ha, hb => by
    have ih := compare_ord xs ys (fun z hz => ha z (by simp [hz])) (fun z hz => hb z (by simp [hz]))
    have hx := ha x (by simp)
    have hy := hb y (by simp)
    show (if UInt8.ofNat x.toNat < UInt8.ofNat y.toNat then -1 else if UInt8.ofNat y.toNat < UInt8.ofNat x.toNat then 1 else Lib.compareBytes (Lib.bytesOf xs) (Lib.bytesOf ys)) = _
    rw [ih]
    simp only [ofNat_lt hx hy, ofNat_lt hy hx, ordL]
theorem l1Order_l0 (a b : List Int) (hl : a.length ≤ 9223372036854775807) : ∀ (d i : Nat), i + d = a.length → i ≤ b.length → Ev (fun k => spec_l1Order.l0 k a b (i : Int)) (ordL (a.drop i) (b.drop i)) := by
  intro d
  induction d with
  | zero =>
    intro i hi hb
    refine ev_succ ?_
    simp only [spec_l1Order.l0]
    refine ev_neg (by omega) (ev_succ ?_)
    simp only [spec_l1Order.j1]
    refine ev_neg (by simp) ?_
    rw [drop_nil a _ (by omega)]
    by_cases h : (a.length : Int) < (b.length : Int)
    · refine ev_pos h (ev_to (ev_some _) ?_)
      rw [rd_drop b i (by omega)]
      rfl
    · refine ev_neg h (ev_neg (by omega) (ev_to (ev_some _) ?_))
      rw [List.drop_eq_nil_of_le (by omega)]
      rfl
  | succ d ih =>
    intro i hi hb
    refine ev_succ ?_
    simp only [spec_l1Order.l0]
    refine ev_pos (by omega) (ev_succ ?_)
    simp only [spec_l1Order.j1]
    rw [rd_drop a i (by omega)]
    by_cases h : (i : Int) < (b.length : Int)
    · refine ev_pos (by simpa using h) (ev_pos (by omega) (ev_pos (by omega) (ev_pos h ?_)))
      rw [rd_drop b i (by omega), wrap_up (by omega)]
      simp only [ordL]
      by_cases h1 : rd a (i : Int) < rd b (i : Int)
      · rw [if_pos h1]; exact ev_pos h1 (ev_some _)
      rw [if_neg h1]
      refine ev_neg h1 ?_
      by_cases h2 : rd a (i : Int) > rd b (i : Int)
      · rw [if_pos h2]; exact ev_pos h2 (ev_some _)
      rw [if_neg h2]
      exact ev_neg h2 (ih (i + 1) (by omega) (by omega))
    · refine ev_neg (by simpa using h) (ev_neg (by omega) (ev_pos (by omega) (ev_to (ev_some _) ?_)))
      rw [drop_nil b _ (by omega)]
      rfl
def cmpB (a b : List Int) : Int × Int := if (a.length : Int) > 2000 then (2, 0) else if (b.length : Int) > 2000 then (2, 0) else (0, ordL a b)
theorem CompareBytes_spec (a b : List Int) (hl : a.length ≤ 9223372036854775807) : Ev (fun k => spec_CompareBytes.f k a b) (cmpB a b) := by
  unfold spec_CompareBytes.f cmpB
  by_cases h1 : (a.length : Int) > 2000
  · rw [if_pos h1]; exact ev_pos h1 (ev_some _)
  rw [if_neg h1]; refine ev_neg h1 ?_
  by_cases h2 : (b.length : Int) > 2000
  · rw [if_pos h2]; exact ev_pos h2 (ev_some _)
  rw [if_neg h2]; refine ev_neg h2 ?_
  refine ev_bind (a := ordL a b) ?_ (ev_some _)
  unfold spec_l1Order.f
  exact l1Order_l0 a b hl a.length 0 (by omega) (by omega)
theorem CompareBytes_impl (a b : List Int) (ha : ∀ x ∈ a, Byte x) (hb : ∀ x ∈ b, Byte x) : impl_CompareBytes.f a b = some (cmpB a b) := by
  unfold impl_CompareBytes.f cmpB
  by_cases h1 : (a.length : Int) > 2000
  · simp [h1]
  by_cases h2 : (b.length : Int) > 2000
  · simp [h1, h2]
  · simp [h1, h2, bytes_Compare.f, compare_ord a b ha hb]
end Go.Proofs.Ytbcnlphbndcicaa.Pure
set_option linter.unusedVariables false
namespace Go.Proofs.Ytbcnlphbndcicaa.Pure
open Go.RowKit Go.Proofs.Ytbcnlphbndcicaa.Base
theorem ordL_range : ∀ a b : List Int, ordL a b = -1 ∨ ordL a b = 0 ∨ ordL a b = 1
  | [], [] => .inr (.inl rfl)
  | [], _ :: _ => .inl rfl
  | _ :: _, [] => .inr (.inr rfl)
  | x :: xs, y :: ys => by
    simp only [ordL]
    by_cases h : x < y
    · rw [if_pos h]; exact .inl rfl
    rw [if_neg h]
    by_cases h' : x > y
    · rw [if_pos h']; exact .inr (.inr rfl)
    rw [if_neg h']; exact ordL_range xs ys
theorem ordL_anti : ∀ a b : List Int, ordL b a = - ordL a b
  | [], [] => rfl
  | [], _ :: _ => rfl
  | _ :: _, [] => rfl
  | x :: xs, y :: ys => by
    have ih := ordL_anti xs ys
    simp only [ordL]
    by_cases h : x < y
    · have h2 : ¬ y < x := by omega
      simp [h, h2]
    by_cases h' : y < x
    · simp [h, h']
    · simp [h, h', ih]
theorem ordL_eq : ∀ a b : List Int, ordL a b = 0 ↔ a = b
  | [], [] => by simp [ordL]
  | [], _ :: _ => by simp [ordL]
  | _ :: _, [] => by simp [ordL]
  | x :: xs, y :: ys => by
    have ih := ordL_eq xs ys
    simp only [ordL]
    by_cases h : x < y
    · rw [if_pos h]
      exact ⟨fun e => by omega, fun e => by simp only [List.cons.injEq] at e; omega⟩
    by_cases h' : x > y
    · rw [if_neg h, if_pos h']
      exact ⟨fun e => by omega, fun e => by simp only [List.cons.injEq] at e; omega⟩
    rw [if_neg h, if_neg h', ih]
    have : x = y := by omega
    simp [this]
theorem ordL_trans : ∀ a b c : List Int, ordL a b ≤ 0 → ordL b c ≤ 0 → ordL a c ≤ 0
  | [], _, [], _, _ => by simp [ordL]
  | [], _, _ :: _, _, _ => by simp [ordL]
  | _ :: _, [], _, h, _ => by simp [ordL] at h
  | _ :: _, _ :: _, [], _, h => by simp [ordL] at h
  | x :: xs, y :: ys, z :: zs, h, h' => by
    have ih := ordL_trans xs ys zs
    simp only [ordL] at h h' ⊢
    by_cases h1 : x < z
    · rw [if_pos h1]; omega
    by_cases h2 : x > z
    · exfalso
      by_cases h3 : x > y
      · rw [if_neg (by omega), if_pos h3] at h; omega
      · rw [if_neg (by omega), if_pos (by omega)] at h'; omega
    rw [if_neg h1, if_neg h2]
    by_cases h3 : x < y
    · rw [if_neg (by omega), if_pos (by omega)] at h'; omega
    by_cases h4 : x > y
    · rw [if_neg h3, if_pos h4] at h; omega
    rw [if_neg h3, if_neg h4] at h
    rw [if_neg (by omega), if_neg (by omega)] at h'
    exact ih h h'
theorem ordL_prefix : ∀ a b : List Int, a.take b.length = b → ordL b a ≤ 0
  | [], [], _ => by simp [ordL]
  | [], _ :: _, h => by simp at h
  | _ :: _, [], _ => by simp [ordL]
  | x :: xs, y :: ys, h => by
    simp only [List.length_cons, List.take_succ_cons, List.cons.injEq] at h
    simp only [ordL]
    rw [if_neg (by omega), if_neg (by omega)]
    exact ordL_prefix xs ys h.2
end Go.Proofs.Ytbcnlphbndcicaa.Pure
set_option linter.unusedVariables false
namespace Go.Proofs.Ytbcnlphbndcicaa.Pure
open Go.RowKit Go.Proofs.Ytbcnlphbndcicaa.P Go.Proofs.YtbcnlphbndcicaaW.PrintWords Go.Proofs.YtbcnlphbndcicaaW.PrintLast Go.Proofs.Ytbcnlphbndcicaa.Base
def begins (a b : List Int) : Bool := decide (a.take b.length = b)
theorem Begins_impl (a b : List Int) (ha : ∀ x ∈ a, Byte x) (hb : ∀ x ∈ b, Byte x) : impl_Begins.f a b = some (begins a b) := by
  unfold impl_Begins.f bytes_HasPrefix.f begins
  simp only [Option.bind_some]
  by_cases h : b.length ≤ a.length
  · rw [if_pos h, strOf_inj _ _ (fun x hx => ha x (List.mem_of_mem_take hx)) hb]
  · rw [if_neg h]
    have : ¬ a.take b.length = b := fun e => by
      have := congrArg List.length e
      simp only [List.length_take] at this
      omega
    simp [this]
theorem Begins_l0 (a b : List Int) (hab : b.length ≤ a.length) (hl : a.length ≤ 9223372036854775807) : ∀ (d i : Nat), i + d = b.length → Ev (fun k => spec_Begins.l0 k a b (i : Int)) (decide ((a.drop i).take d = b.drop i)) := by
  intro d
  induction d with
  | zero =>
    intro i hi
    refine ev_succ ?_
    simp only [spec_Begins.l0]
    refine ev_neg (by omega) ?_
    rw [drop_nil b _ (by omega), List.take_zero]
    exact ev_some _
  | succ d ih =>
    intro i hi
    refine ev_succ ?_
    simp only [spec_Begins.l0]
    refine ev_pos (by omega) (ev_pos (by omega) (ev_pos (by omega) ?_))
    rw [rd_drop a i (by omega), rd_drop b i (by omega)]
    by_cases h : rd a (i : Int) = rd b (i : Int)
    · refine ev_pos h ?_
      rw [wrap_up (by omega)]
      refine ev_to (ih (i + 1) (by omega)) ?_
      simp [h]
    · refine ev_neg h ?_
      refine ev_to (ev_some _) ?_
      simp [h]
theorem Begins_spec (a b : List Int) (hl : a.length ≤ 9223372036854775807) : Ev (fun k => spec_Begins.f k a b) (begins a b) := by
  unfold spec_Begins.f begins
  by_cases h : (a.length : Int) < (b.length : Int)
  · refine ev_pos h ?_
    have : ¬ a.take b.length = b := fun e => by
      have := congrArg List.length e
      simp only [List.length_take] at this
      omega
    refine ev_to (ev_some _) ?_
    simp [this]
  · refine ev_neg h ?_
    exact Begins_l0 a b (by omega) hl b.length 0 (by omega)
end Go.Proofs.Ytbcnlphbndcicaa.Pure
set_option linter.unusedVariables false
namespace Go.Proofs.Ytbcnlphbndcicaa.Pure
open Go.RowKit Go.Proofs.Ytbcnlphbndcicaa.P Go.Proofs.YtbcnlphbndcicaaW.PrintWords Go.Proofs.YtbcnlphbndcicaaW.PrintLast Go.Proofs.Ytbcnlphbndcicaa.Base
theorem cmpB_small {a b : List Int} (ha : Small a) (hb : Small b) : cmpB a b = (0, ordL a b) := by
  unfold cmpB
  have h1 := ha.1
  have h2 := hb.1
  rw [if_neg (by omega), if_neg (by omega)]
theorem Compare_small {a b : List Int} (ha : Small a) (hb : Small b) : impl_CompareBytes.f a b = some (0, ordL a b) := by
  rw [CompareBytes_impl a b ha.2 hb.2, cmpB_small ha hb]
theorem Bytes_j2 {a b : List Int} (ha : Small a) (hb : Small b) : Ev (fun k => laws_FnBytes.j2 k a b false 0 (ordL a b)) true := by
  have h1 := ha.1
  have h2 := hb.1
  refine ev_succ ?_
  simp only [laws_FnBytes.j2]
  refine ev_neg (by simp) (ev_bindq (a := decide (a = b)) (by unfold laws_lwBytes.f; rw [strOf_inj a b ha.2 hb.2]) (ev_pos ?_ ?_))
  · by_cases h : a = b
    · simp [h, (ordL_eq b b).2 rfl]
    · have : ¬ ordL a b = 0 := fun e => h ((ordL_eq a b).1 e)
      simp [h, this]
  · refine ev_bindq (a := true) (by rw [Begins_impl a [] ha.2 (by simp)]; simp [begins]) (ev_pos rfl (ev_bindq rfl (ev_pos (by simp; omega) (ev_bindq rfl (ev_pos (by simp; omega) ?_)))))
    refine ev_bindq (a := true) ?_ (ev_some _)
    rw [List.nil_append, Begins_impl (a ++ b) a (fun x hx => by
      rcases List.mem_append.1 hx with h | h
      · exact ha.2 x h
      · exact hb.2 x h) ha.2]
    simp [begins]
theorem Bytes_j1 {a b c e : List Int} (ha : Small a) (hb : Small b) (hc : Small c) (he : Small e) : Ev (fun k => laws_FnBytes.j1 k a b c e false 0 (ordL a b)) true := by
  have h1 := hc.1
  refine ev_succ ?_
  simp only [laws_FnBytes.j1]
  refine ev_neg (by simp) (ev_bindq (Begins_impl c e hc.2 he.2) (ev_bind (Begins_spec c e (by omega)) (ev_neg (by simp) (ev_bindq (Begins_impl c e hc.2 he.2) ?_))))
  by_cases h : begins c e = true
  · refine ev_pos h (ev_bindq (Compare_small he hc) ?_)
    have hle := ordL_prefix c e (by simpa [begins] using h)
    rw [show decide (ordL e c > 0) = false by simp; omega]
    exact Bytes_j2 ha hb
  · exact ev_neg h (Bytes_j2 ha hb)
theorem Bytes_j0 {a b c e : List Int} (ha : Small a) (hb : Small b) (hc : Small c) (he : Small e) :
    Ev (fun k => laws_FnBytes.j0 k a b c e false 0 (ordL a b) 0 (ordL b c) 0 (ordL a c)) true := by
  refine ev_succ ?_
  simp only [laws_FnBytes.j0]
  have j1 := Bytes_j1 ha hb hc he
  refine ev_neg (by simp) ?_
  by_cases h1 : ordL a b ≤ 0
  · refine ev_pos h1 ?_
    by_cases h2 : ordL b c ≤ 0
    · refine ev_pos h2 ?_
      have h3 := ordL_trans a b c h1 h2
      refine ev_neg (by omega) ?_
      by_cases h4 : ordL a c = 0
      · refine ev_pos h4 ?_
        have hac := (ordL_eq a c).1 h4
        subst hac
        have h5 := ordL_anti a b
        have e0 : ordL a b = 0 := by omega
        have e1 : ordL b a = 0 := by omega
        rw [show decide (wrap64 (ordL a b + ordL b a) < 0) = false by rw [e0, e1, wrap_id (by omega) (by omega)]; simp]
        exact j1
      · exact ev_neg h4 j1
    · exact ev_neg h2 j1
  · exact ev_neg h1 j1
theorem FnBytes (c : List Int) (hc0 : c.length ≤ maxLen ∧ ∀ x ∈ c, (Lit.int .u8 x).wf = true) : ∃ k, laws_FnBytes.f k c = some true := by
  obtain ⟨hm, hw⟩ := hc0
  refine ev_ex (g := fun k => laws_FnBytes.f k c) ?_
  unfold laws_FnBytes.f laws_lwBig.f
  by_cases hbig : (c.length : Int) > 1048576
  · exact ev_bindq rfl (ev_pos (by simpa using hbig) (ev_some _))
  have hx : ∀ x ∈ c, Byte x := fun x hx => wf_u8 (hw x hx)
  have hc : Code c := ⟨hx, by omega⟩
  have hc3 : Code ([3] ++ c) := ⟨fun x h => by
    rcases List.mem_append.1 h with h | h
    · rw [List.mem_singleton.1 h]; unfold Byte; omega
    · exact hx x h, by simp; omega⟩
  refine ev_bindq rfl (ev_neg (by simpa using hbig) ?_)
  obtain ⟨a, b, hab, ha, hb⟩ := DrawCompare_ex hc
  obtain ⟨d, e, hde, hd, he⟩ := DrawBegins_ex hc3
  have hs : Ev (fun k => spec_CompareBytes.f k a b) (0, ordL a b) := by
    have := CompareBytes_spec a b (by have := ha.1; omega)
    rwa [cmpB_small ha hb] at this
  refine ev_bind hab (ev_bindq rfl (ev_pos (by simp; omega) (ev_bind hde (ev_bindq (Compare_small ha hb) (ev_bindq (Compare_small hb hd) (ev_bindq (Compare_small ha hd) (ev_bind hs (ev_neg (by simp) (ev_bindq (Compare_small hb ha) ?_)))))))))
  have hr := ordL_range a b
  have hw : wrap64 (-(ordL a b)) = -(ordL a b) := wrap_id (by omega) (by omega)
  rw [hw, ordL_anti a b, show (-(ordL a b) != -(ordL a b)) = false by simp]
  exact Bytes_j0 ha hb hd he
end Go.Proofs.Ytbcnlphbndcicaa.Pure
