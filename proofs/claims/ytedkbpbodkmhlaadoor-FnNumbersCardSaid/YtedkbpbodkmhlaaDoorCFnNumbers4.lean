/- A part of the proof of the law FnNumbers: words, functions of the program with what each call answers, plain lemmas; conditions stand in each statement. -/
import Derived.Lib.Bytes
import Derived.Lib.SlTrimSet
import Derived.Lib.Strings
import Derived.Test.YtedkbpbodkmhlaaDoorCFnNumbers0
import Derived.Test.YtedkbpbodkmhlaaDoorCFnNumbers1
import Derived.Test.YtedkbpbodkmhlaaDoorCFnNumbers2
import Derived.Test.YtedkbpbodkmhlaaDoorCFnNumbers3
set_option linter.unusedVariables false
namespace Go.Proofs.YtedkbpbodkmhlaaDoor.Pure
open Go.RowKit Go.Proofs.YtedkbpbodkmhlaaDoor.P Go.Proofs.YtedkbpbodkmhlaaDoorW.PrintWords Go.Proofs.YtedkbpbodkmhlaaDoorW.PrintLast Go.Proofs.YtedkbpbodkmhlaaDoor.Base
theorem bt_get (s : ByteArray) (i : Nat) (h : i < s.data.toList.length) : bt s (i : Int) = ((s.data.toList[i]).toNat : Int) := by
  have hs : i < s.size := by rw [Lib.size_eq]; exact h
  unfold bt
  rw [dif_pos (by simpa using hs)]
  rfl
theorem within_eq (a b c : Int) : impl_within.f a b c = some (decide (b ≤ a ∧ a ≤ c)) := by
  unfold impl_within.f
  by_cases h : a ≥ b
  · rw [if_pos h]
    by_cases h' : a ≤ c
    · simp [h']; omega
    · simp [h']
  · rw [if_neg h]
    simp; omega
theorem l1In_eq (a b c : Int) : spec_l1In.f a b c = some (decide (b ≤ a ∧ a ≤ c)) := by
  unfold spec_l1In.f
  by_cases h : a ≥ b
  · rw [if_pos h]
    by_cases h' : a ≤ c
    · simp [h']; omega
    · simp [h']
  · rw [if_neg h]
    simp; omega
end Go.Proofs.YtedkbpbodkmhlaaDoor.Pure
set_option linter.unusedVariables false
namespace Go.Proofs.YtedkbpbodkmhlaaDoor.Pure
open Go.RowKit Go.Proofs.YtedkbpbodkmhlaaDoor.P Go.Proofs.YtedkbpbodkmhlaaDoorW.PrintWords Go.Proofs.YtedkbpbodkmhlaaDoorW.PrintLast Go.Proofs.YtedkbpbodkmhlaaDoor.Base
def decB (n : Nat) : ByteArray := ⟨(Lib.decDigits n).toArray⟩
theorem decB_size (n : Nat) : (decB n).size = (Lib.decDigits n).length := by
  rw [Lib.size_eq]; rfl
theorem digit_str {d : Nat} (h : d < 10) : strOfNums [(wrap64 (48 + (d : Int))) % 256] = ⟨#[UInt8.ofNat (48 + d)]⟩ := by
  rw [wrap_id (by omega) (by omega)]
  unfold strOfNums
  have : ((48 + (d : Int)) % 256).toNat = 48 + d := by omega
  simp [this]
theorem l1Digits_ev (n : Nat) : n ≤ 1000000000 → Ev (fun k => spec_l1Digits.f k (n : Int)) (decB n) := by
  induction n using Nat.strongRecOn with
  | _ n ih =>
    intro hn
    refine ev_succ ?_
    simp only [spec_l1Digits.f]
    by_cases h : n < 10
    · refine ev_pos (by omega) (ev_to (ev_some _) ?_)
      rw [digit_str h]
      unfold decB
      rw [decDigits_small h]
    · have hd : wrap64 (Int.tdiv (n : Int) 10) = ((n / 10 : Nat) : Int) := by
        rw [Int.tdiv_eq_ediv_of_nonneg (by omega), wrap_id (by omega) (by omega)]; omega
      have hm : Int.tmod (n : Int) 10 = ((n % 10 : Nat) : Int) := by
        rw [Int.tmod_eq_emod_of_nonneg (by omega)]; omega
      refine ev_neg (by omega) ?_
      rw [hd, hm]
      have hl := decDigits_le (n / 10)
      refine ev_bind (ih (n / 10) (by omega) (by omega)) (ev_bindq rfl (ev_pos ?_ (ev_to (ev_some _) ?_)))
      · rw [digit_str (by omega), decB_size]
        show _ + 1 ≤ _
        omega
      · rw [digit_str (by omega)]
        unfold decB
        rw [decDigits_big h]
        apply ByteArray.ext
        apply Array.ext'
        simp
theorem itoa_nat (n : Nat) : (⟨(Lib.itoa (n : Int)).toArray⟩ : ByteArray) = decB n := by
  unfold Lib.itoa decB
  rw [if_neg (by omega), Int.toNat_natCast]
def numTextR (n : Int) : Int × ByteArray := if 0 ≤ n ∧ n ≤ 999999 then (0, decB n.toNat) else (3, ⟨#[]⟩)
theorem NumberText_spec (n : Int) : Ev (fun k => spec_NumberText.f k n) (numTextR n) := by
  unfold spec_NumberText.f numTextR
  refine ev_bindq (l1In_eq n 0 999999) ?_
  by_cases h : 0 ≤ n ∧ n ≤ 999999
  · rw [if_pos h]
    obtain ⟨m, rfl⟩ := Int.eq_ofNat_of_zero_le h.1
    rw [Int.toNat_natCast]
    exact ev_pos (decide_eq_true h) (ev_bind (l1Digits_ev m (by omega)) (ev_some _))
  · rw [if_neg h]
    exact ev_neg (by simpa using h) (ev_some _)
theorem NumberText_impl (n : Int) : impl_NumberText.f n = some (numTextR n) := by
  unfold impl_NumberText.f impl_decimal.f strconv_FormatInt.f numTextR
  rw [within_eq]
  by_cases h : 0 ≤ n ∧ n ≤ 999999
  · rw [if_pos h]
    obtain ⟨m, rfl⟩ := Int.eq_ofNat_of_zero_le h.1
    rw [Int.toNat_natCast]
    simp only [Option.bind_some]
    rw [if_pos (decide_eq_true h), if_pos ⟨trivial, by omega, by omega⟩, itoa_nat]
    rfl
  · rw [if_neg h]
    simp only [Option.bind_some]
    rw [if_neg (by simpa using h)]
theorem NumberOf_loop (s : ByteArray) (hl : s.data.toList.length ≤ 6) : ∀ (d i n : Nat), i + d = s.data.toList.length → n + 1 ≤ 10 ^ i →
    Ev (fun k => spec_NumberOf.l0 k s (n : Int) (i : Int)) (match valO n (s.data.toList.drop i) with | some m => if Lib.decDigits m = s.data.toList then ((0 : Int), (m : Int)) else (5, 0) | none => (5, 0)) := by
  have hz := Lib.size_eq s
  intro d
  induction d with
  | zero =>
    intro i n hi hn
    refine ev_succ ?_
    simp only [spec_NumberOf.l0]
    have hp : 10 ^ i ≤ 10 ^ 6 := Nat.pow_le_pow_right (by omega) (by omega)
    rw [List.drop_eq_nil_of_le (by omega)]
    simp only [valO]
    refine ev_neg (by omega) (ev_bind (l1Digits_ev n (by omega)) ?_)
    have e : ((decB n).toList = s.toList) ↔ (Lib.decDigits n = s.data.toList) := by
      rw [Lib.toList_data, Lib.toList_data]
      exact Iff.rfl
    by_cases h : Lib.decDigits n = s.data.toList
    · rw [if_pos h]; exact ev_pos (e.2 h) (ev_some _)
    · rw [if_neg h]; exact ev_neg (fun k => h (e.1 k)) (ev_some _)
  | succ d ih =>
    intro i n hi hn
    have hi' : i < s.data.toList.length := by omega
    have hp : 10 ^ i ≤ 10 ^ 6 := Nat.pow_le_pow_right (by omega) (by omega)
    refine ev_succ ?_
    simp only [spec_NumberOf.l0]
    refine ev_pos (by omega) (ev_pos (by omega) ?_)
    rw [bt_get s i hi', List.drop_eq_getElem_cons hi', wrap_up (by omega)]
    generalize s.data.toList[i] = b
    unfold valO
    by_cases h1 : (b.toNat : Int) < 48
    · rw [if_neg (by omega)]
      exact ev_pos h1 (ev_some _)
    refine ev_neg h1 ?_
    by_cases h2 : (b.toNat : Int) > 57
    · rw [if_neg (by omega)]
      exact ev_pos h2 (ev_some _)
    refine ev_neg h2 ?_
    rw [if_pos (by omega)]
    have hb := ih (i + 1) (n * 10 + (b.toNat - 48)) (by omega) (by rw [Nat.pow_succ]; omega)
    have e : wrap64 (wrap64 ((n : Int) * 10) + ((b.toNat : Int) - 48) % 256) = ((n * 10 + (b.toNat - 48) : Nat) : Int) := by
      rw [wrap_id (x := (n : Int) * 10) (by omega) (by omega), wrap_id (by omega) (by omega)]; omega
    rw [e]
    exact hb
theorem NumberOf_spec (s : ByteArray) (hs : s.size ≤ 1048576) : Ev (fun k => spec_NumberOf.f k s) (numR s.data.toList) := by
  have hz := Lib.size_eq s
  unfold spec_NumberOf.f numR
  by_cases h1 : (s.size : Int) < 1
  · rw [if_neg (by omega)]
    refine ev_pos h1 (ev_succ ?_)
    simp only [spec_NumberOf.j0]
    exact ev_pos trivial (ev_some _)
  refine ev_neg h1 (ev_succ ?_)
  simp only [spec_NumberOf.j0]
  by_cases h2 : (s.size : Int) > 6
  · rw [if_neg (by omega)]
    exact ev_pos (by simpa using h2) (ev_some _)
  rw [if_pos (by omega)]
  exact ev_neg (by simpa using h2) (NumberOf_loop s (by omega) s.data.toList.length 0 0 (by omega) (by simp))
theorem NumberOf_impl (s : ByteArray) (hs : s.size ≤ 1048576) : impl_NumberOf.f s = some (numR s.data.toList) := by
  unfold impl_NumberOf.f
  rw [if_pos (by omega), ← numP_eq]
  rfl
end Go.Proofs.YtedkbpbodkmhlaaDoor.Pure
set_option linter.unusedVariables false
namespace Go.Proofs.YtedkbpbodkmhlaaDoor.Pure
open Go.RowKit Go.Proofs.YtedkbpbodkmhlaaDoorW.PrintWords Go.Proofs.YtedkbpbodkmhlaaDoorW.PrintLast Go.Proofs.YtedkbpbodkmhlaaDoor.Base
def Byte (x : Int) : Prop := 0 ≤ x ∧ x ≤ 255
theorem rd_byte {xs : List Int} (hx : ∀ x ∈ xs, Byte x) (i : Int) (h0 : 0 ≤ i) (h1 : i < xs.length) : Byte (rd xs i) := by
  have := hx _ (rd_mem xs i.toNat (by omega))
  rwa [Int.toNat_of_nonneg h0] at this
end Go.Proofs.YtedkbpbodkmhlaaDoor.Pure
set_option linter.unusedVariables false
namespace Go.Proofs.YtedkbpbodkmhlaaDoor.Pure
open Go.RowKit Go.Proofs.YtedkbpbodkmhlaaDoor.P Go.Proofs.YtedkbpbodkmhlaaDoorW.PrintWords Go.Proofs.YtedkbpbodkmhlaaDoorW.PrintLast Go.Proofs.YtedkbpbodkmhlaaDoor.Base
theorem tmod_in {x n : Int} (hx : 0 ≤ x) (hn : 1 ≤ n) : 0 ≤ Int.tmod x n ∧ Int.tmod x n < n := by
  rw [Int.tmod_eq_emod_of_nonneg hx]
  exact ⟨Int.emod_nonneg _ (by omega), Int.emod_lt_of_pos _ (by omega)⟩
structure Code (c : List Int) : Prop where
  bytes : ∀ x ∈ c, Byte x
  len : c.length ≤ 2000000
theorem l1Next_ex {c : List Int} (hc : Code c) {a n : Int} (ha : 0 ≤ a) (ha' : a ≤ 1000000000000) (hn : n ≤ 1000000) :
    ∃ v, spec_l1Next.f c a n = some (v, a + 1) ∧ (n < 1 → v = 0) ∧ (1 ≤ n → 0 ≤ v ∧ v < n) := by
  unfold spec_l1Next.f
  have e1 : wrap64 (a + 1) = a + 1 := wrap_id (by omega) (by omega)
  have e2 : wrap64 (a + 1 - 1) = a := by rw [wrap_id (by omega) (by omega)]; omega
  simp only [e1, e2]
  by_cases h1 : n < 1
  · rw [if_pos h1]
    exact ⟨0, rfl, fun _ => rfl, fun h => by omega⟩
  rw [if_neg h1]
  have hl := hc.len
  by_cases h2 : (c.length : Int) = 0
  · rw [if_pos h2, if_neg (by omega), wrap_id (x := a * 7) (by omega) (by omega)]
    exact ⟨_, rfl, fun h => by omega, fun h => tmod_in (by omega) h⟩
  rw [if_neg h2]
  have hp : 0 < (c.length : Int) := by omega
  obtain ⟨m0, m1⟩ := tmod_in (x := a) (n := (c.length : Int)) ha (by omega)
  have hb := rd_byte hc.bytes _ m0 m1
  have hq : 0 ≤ Int.tdiv a (c.length : Int) ∧ Int.tdiv a (c.length : Int) ≤ a := by
    rw [Int.tdiv_eq_ediv_of_nonneg ha]
    exact ⟨Int.ediv_nonneg ha (by omega), Int.ediv_le_self _ ha⟩
  rw [if_pos m0, if_pos m1]
  generalize rd c (Int.tmod a (c.length : Int)) = b at *
  generalize Int.tdiv a (c.length : Int) = q at *
  unfold Byte at hb
  have w1 : wrap64 b = b := wrap_id (by omega) (by omega)
  have w2 : wrap64 q = q := wrap_id (by omega) (by omega)
  have w3 : wrap64 (q * 37) = q * 37 := wrap_id (by omega) (by omega)
  have w4 : wrap64 (b + q * 37) = b + q * 37 := wrap_id (by omega) (by omega)
  by_cases h3 : n > 200
  · rw [if_pos h3]
    obtain ⟨k0, k1⟩ := tmod_in (x := a + 1) (n := (c.length : Int)) (by omega) (by omega)
    have hd := rd_byte hc.bytes _ k0 k1
    rw [if_pos k0, if_pos k1, if_neg (by omega)]
    generalize rd c (Int.tmod (a + 1) (c.length : Int)) = d at *
    unfold Byte at hd
    have w5 : wrap64 d = d := wrap_id (by omega) (by omega)
    have w6 : wrap64 (d * 13) = d * 13 := wrap_id (by omega) (by omega)
    have w7 : wrap64 ((b + q * 37) * 251) = (b + q * 37) * 251 := wrap_id (by omega) (by omega)
    have w8 : wrap64 ((b + q * 37) * 251 + d * 13) = (b + q * 37) * 251 + d * 13 := wrap_id (by omega) (by omega)
    have w9 : wrap64 ((b + q * 37) * 251 + d * 13 + a) = (b + q * 37) * 251 + d * 13 + a := wrap_id (by omega) (by omega)
    simp only [w1, w2, w3, w4, w5, w6, w7, w8, w9]
    exact ⟨_, rfl, fun h => by omega, fun h => tmod_in (by omega) h⟩
  · rw [if_neg h3, if_neg (by omega)]
    simp only [w1, w2, w3, w4]
    exact ⟨_, rfl, fun h => by omega, fun h => tmod_in (by omega) h⟩
theorem l1Chance_ex {c : List Int} (hc : Code c) {a n : Int} (ha : 0 ≤ a) (ha' : a ≤ 1000000000000) (hn : n ≤ 1000000) :
    ∃ b, spec_l1Chance.f c a n = some (b, a + 1) := by
  obtain ⟨v, hv, _⟩ := l1Next_ex hc ha ha' hn
  exact ⟨v == 0, by unfold spec_l1Chance.f; rw [hv]; rfl⟩
theorem l1Pick_ex {c : List Int} (hc : Code c) {a : Int} (ha : 0 ≤ a) (ha' : a ≤ 1000000000000) (l : List Int) (hl : 0 < l.length) (hl' : l.length ≤ 1000000) :
    ∃ v, spec_l1Pick.f c a l = some (v, a + 1) ∧ v ∈ l := by
  obtain ⟨v, hv, _, h⟩ := l1Next_ex (n := (l.length : Int)) hc ha ha' (by omega)
  obtain ⟨h0, h1⟩ := h (by omega)
  refine ⟨rd l v, ?_, ?_⟩
  · unfold spec_l1Pick.f
    rw [hv]
    simp only [Option.bind_some]
    rw [if_pos h0, if_pos h1]
  · have := rd_mem l v.toNat (by omega)
    rwa [Int.toNat_of_nonneg h0] at this
end Go.Proofs.YtedkbpbodkmhlaaDoor.Pure
set_option linter.unusedVariables false
namespace Go.Proofs.YtedkbpbodkmhlaaDoor.Pure
open Go.RowKit Go.Proofs.YtedkbpbodkmhlaaDoor.P Go.Proofs.YtedkbpbodkmhlaaDoorW.PrintWords Go.Proofs.YtedkbpbodkmhlaaDoorW.PrintLast Go.Proofs.YtedkbpbodkmhlaaDoor.Base
theorem numR_cases (l : List UInt8) : numR l = (5, 0) ∨ ∃ n, n ≤ 999999 ∧ Lib.decDigits n = l ∧ numR l = (0, (n : Int)) := by
  by_cases h : ∃ n, n ≤ 999999 ∧ Lib.decDigits n = l
  · obtain ⟨n, hn, rfl⟩ := h
    exact .inr ⟨n, hn, rfl, numR_dec hn⟩
  · exact .inl (numR_none fun n h1 h2 => h ⟨n, h1, h2⟩)
theorem numTextR_cases (n : Int) : numTextR n = (3, ⟨#[]⟩) ∨ ∃ m : Nat, n = (m : Int) ∧ m ≤ 999999 ∧ numTextR n = (0, decB m) := by
  unfold numTextR
  by_cases h : 0 ≤ n ∧ n ≤ 999999
  · rw [if_pos h]
    obtain ⟨m, rfl⟩ := Int.eq_ofNat_of_zero_le h.1
    exact .inr ⟨m, rfl, by omega, by rw [Int.toNat_natCast]⟩
  · rw [if_neg h]; exact .inl rfl
theorem numText_size (n : Int) : (numTextR n).2.size ≤ 6 := by
  rcases numTextR_cases n with h | ⟨m, rfl, hm, h⟩
  · rw [h]; show 0 ≤ 6; omega
  · rw [h]
    simp only
    rw [decB_size]
    exact decDigits_len6 hm
theorem DrawNumberText_ex {c : List Int} (hc : Code c) : ∃ n, spec_DrawNumberText.f c = some n := by
  unfold spec_DrawNumberText.f spec_l1Source.f
  obtain ⟨v, hv, _⟩ := l1Next_ex hc (a := 0) (n := 1000000) (by omega) (by omega) (by omega)
  obtain ⟨u, hu, _⟩ := l1Pick_ex hc (a := 0 + 1) (by omega) (by omega) [0, 9, 10, 999999, 1000000, (-1), v] (by simp) (by simp)
  exact ⟨u, bind_eq rfl (bind_eq hv (bind_eq hu rfl))⟩
theorem DrawNumberOf_ex {c : List Int} (hc : Code c) : ∃ s, Ev (fun k => spec_DrawNumberOf.f k c) s ∧ s.size ≤ 10 := by
  unfold spec_DrawNumberOf.f spec_l1Source.f
  obtain ⟨n, hn⟩ := DrawNumberText_ex hc
  obtain ⟨p, hp⟩ := l1Chance_ex hc (a := 0) (n := 5) (by omega) (by omega) (by omega)
  obtain ⟨q, hq⟩ := l1Chance_ex hc (a := 0 + 1) (n := 6) (by omega) (by omega) (by omega)
  have hT := NumberText_spec n
  have hz := numText_size n
  have z1 : (⟨#[48]⟩ : ByteArray).size = 1 := rfl
  have z2 : (⟨#[120]⟩ : ByteArray).size = 1 := rfl
  cases p with
  | true => exact ⟨_, ev_bindq rfl (ev_bindq hn (ev_bind hT (ev_bindq hp (ev_pos rfl (ev_pos (by omega) (ev_some _)))))), by rw [ByteArray.size_append]; omega⟩
  | false =>
    cases q with
    | true => exact ⟨_, ev_bindq rfl (ev_bindq hn (ev_bind hT (ev_bindq hp (ev_neg (by simp) (ev_bindq hq (ev_pos rfl (ev_pos (by omega) (ev_some _)))))))), by rw [ByteArray.size_append]; omega⟩
    | false => exact ⟨_, ev_bindq rfl (ev_bindq hn (ev_bind hT (ev_bindq hp (ev_neg (by simp) (ev_bindq hq (ev_neg (by simp) (ev_some _))))))), by omega⟩
theorem FnNumbers (c : List Int) (hc0 : c.length ≤ maxLen ∧ ∀ x ∈ c, (Lit.int .u8 x).wf = true) : ∃ k, laws_FnNumbers.f k c = some true := by
  obtain ⟨hm, hw⟩ := hc0
  refine ev_ex (g := fun k => laws_FnNumbers.f k c) ?_
  unfold laws_FnNumbers.f laws_lwBig.f
  by_cases hbig : (c.length : Int) > 1048576
  · exact ev_bindq rfl (ev_pos (by simpa using hbig) (ev_some _))
  have hc : Code c := ⟨fun x hx => wf_u8 (hw x hx), by omega⟩
  refine ev_bindq rfl (ev_neg (by simpa using hbig) ?_)
  obtain ⟨n, hn⟩ := DrawNumberText_ex hc
  obtain ⟨s, hs, hsz⟩ := DrawNumberOf_ex hc
  have hI := NumberOf_impl s (by omega)
  have hS := NumberOf_spec s (by omega)
  refine ev_bindq hn (ev_bindq (NumberText_impl n) (ev_bind hs (ev_bindq hI (ev_bind (NumberText_spec n) (ev_pos rfl (ev_bind hS (ev_succ ?_)))))))
  simp only [laws_FnNumbers.j0]
  refine ev_neg (by simp) ?_
  have hlast : Ev (fun k => if (numTextR n).1 = 0 then (impl_NumberOf.f (numTextR n).2).bind fun bt => some (bt.1 == 0 && (bt.2 == n)) else some true) true := by
    rcases numTextR_cases n with h | ⟨m, rfl, hm, h⟩
    · rw [h]; exact ev_neg (by simp) (ev_some _)
    · rw [h]
      have hz := numText_size (m : Int)
      rw [h] at hz
      simp only at hz
      have hN := NumberOf_impl (decB m) (by omega)
      have hr : numR (decB m).data.toList = (0, (m : Int)) := numR_dec hm
      rw [hr] at hN
      exact ev_pos rfl (ev_bindq hN (ev_to (ev_some _) (by simp)))
  rcases numR_cases s.data.toList with h | ⟨m, hm, hd, h⟩
  · rw [h]
    exact ev_neg (by simp) hlast
  · rw [h]
    have hT := NumberText_impl (m : Int)
    have e : numTextR (m : Int) = (0, decB m) := by unfold numTextR; rw [if_pos (by omega), Int.toNat_natCast]
    rw [e] at hT
    refine ev_pos rfl (ev_bindq hT (ev_pos ?_ hlast))
    rw [Lib.toList_data, Lib.toList_data, ← hd]
    rfl
end Go.Proofs.YtedkbpbodkmhlaaDoor.Pure
