/- A part of the proof of the law FnExactNumberText: words, functions of the program with what each call answers, plain lemmas; conditions stand in each statement. -/
import Derived.Lib.SlTrimSet
import Derived.Lib.Strings
import Derived.Laws.StructEq
import Derived.Test.YtedkbpbodkmhlaaDoorCFnExactNumberText0
import Derived.Test.YtedkbpbodkmhlaaDoorCFnExactNumberText1
import Derived.Test.YtedkbpbodkmhlaaDoorCFnExactNumberText2
set_option linter.unusedVariables false
namespace Go.Proofs.YtedkbpbodkmhlaaDoor.Pure
open Go.RowKit Go.Proofs.YtedkbpbodkmhlaaDoor.P Go.Proofs.YtedkbpbodkmhlaaDoorW.PrintWords Go.Proofs.YtedkbpbodkmhlaaDoorW.PrintLast Go.Proofs.YtedkbpbodkmhlaaDoor.Base
theorem within_eq (a b c : Int) : impl_within.f a b c = some (decide (b ≤ a ∧ a ≤ c)) := by
  unfold impl_within.f
  by_cases h : a ≥ b
  · rw [if_pos h]
    by_cases h' : a ≤ c
    · simp [h']; omega
    · simp [h']
  · rw [if_neg h]
    simp; omega
theorem l1In_eq (a b c : Int) : spec_l1In.f a b c = some (decide (b ≤ a ∧ a ≤ c)) := by
  unfold spec_l1In.f
  by_cases h : a ≥ b
  · rw [if_pos h]
    by_cases h' : a ≤ c
    · simp [h']; omega
    · simp [h']
  · rw [if_neg h]
    simp; omega
end Go.Proofs.YtedkbpbodkmhlaaDoor.Pure
set_option linter.unusedVariables false
namespace Go.Proofs.YtedkbpbodkmhlaaDoor.Pure
open Go.RowKit Go.Proofs.YtedkbpbodkmhlaaDoor.P Go.Proofs.YtedkbpbodkmhlaaDoorW.PrintWords Go.Proofs.YtedkbpbodkmhlaaDoorW.PrintLast Go.Proofs.YtedkbpbodkmhlaaDoor.Base
def decB (n : Nat) : ByteArray := ⟨(Lib.decDigits n).toArray⟩
theorem decB_size (n : Nat) : (decB n).size = (Lib.decDigits n).length := by
  rw [Lib.size_eq]; rfl
theorem digit_str {d : Nat} (h : d < 10) : strOfNums [(wrap64 (48 + (d : Int))) % 256] = ⟨#[UInt8.ofNat (48 + d)]⟩ := by
  rw [wrap_id (by omega) (by omega)]
  unfold strOfNums
  have : ((48 + (d : Int)) % 256).toNat = 48 + d := by omega
  simp [this]
theorem l1Digits_ev (n : Nat) : n ≤ 1000000000 → Ev (fun k => spec_l1Digits.f k (n : Int)) (decB n) := by
  induction n using Nat.strongRecOn with
  | _ n ih =>
    intro hn
    refine ev_succ ?_
    simp only [spec_l1Digits.f]
    by_cases h : n < 10
    · refine ev_pos (by omega) (ev_to (ev_some _) ?_)
      rw [digit_str h]
      unfold decB
      rw [decDigits_small h]
    · have hd : wrap64 (Int.tdiv (n : Int) 10) = ((n / 10 : Nat) : Int) := by
        rw [Int.tdiv_eq_ediv_of_nonneg (by omega), wrap_id (by omega) (by omega)]; omega
      have hm : Int.tmod (n : Int) 10 = ((n % 10 : Nat) : Int) := by
        rw [Int.tmod_eq_emod_of_nonneg (by omega)]; omega
      refine ev_neg (by omega) ?_
      rw [hd, hm]
      have hl := decDigits_le (n / 10)
      refine ev_bind (ih (n / 10) (by omega) (by omega)) (ev_bindq rfl (ev_pos ?_ (ev_to (ev_some _) ?_)))
      · rw [digit_str (by omega), decB_size]
        show _ + 1 ≤ _
        omega
      · rw [digit_str (by omega)]
        unfold decB
        rw [decDigits_big h]
        apply ByteArray.ext
        apply Array.ext'
        simp
theorem itoa_nat (n : Nat) : (⟨(Lib.itoa (n : Int)).toArray⟩ : ByteArray) = decB n := by
  unfold Lib.itoa decB
  rw [if_neg (by omega), Int.toNat_natCast]
def numTextR (n : Int) : Int × ByteArray := if 0 ≤ n ∧ n ≤ 999999 then (0, decB n.toNat) else (3, ⟨#[]⟩)
theorem NumberText_spec (n : Int) : Ev (fun k => spec_NumberText.f k n) (numTextR n) := by
  unfold spec_NumberText.f numTextR
  refine ev_bindq (l1In_eq n 0 999999) ?_
  by_cases h : 0 ≤ n ∧ n ≤ 999999
  · rw [if_pos h]
    obtain ⟨m, rfl⟩ := Int.eq_ofNat_of_zero_le h.1
    rw [Int.toNat_natCast]
    exact ev_pos (decide_eq_true h) (ev_bind (l1Digits_ev m (by omega)) (ev_some _))
  · rw [if_neg h]
    exact ev_neg (by simpa using h) (ev_some _)
theorem NumberText_impl (n : Int) : impl_NumberText.f n = some (numTextR n) := by
  unfold impl_NumberText.f impl_decimal.f strconv_FormatInt.f numTextR
  rw [within_eq]
  by_cases h : 0 ≤ n ∧ n ≤ 999999
  · rw [if_pos h]
    obtain ⟨m, rfl⟩ := Int.eq_ofNat_of_zero_le h.1
    rw [Int.toNat_natCast]
    simp only [Option.bind_some]
    rw [if_pos (decide_eq_true h), if_pos ⟨trivial, by omega, by omega⟩, itoa_nat]
    rfl
  · rw [if_neg h]
    simp only [Option.bind_some]
    rw [if_neg (by simpa using h)]
theorem eqTextResult_same (c : Int) (s : ByteArray) : laws_eqTextResult.f c s c s = some true := by
  unfold laws_eqTextResult.f
  rw [if_pos rfl, if_pos rfl]
end Go.Proofs.YtedkbpbodkmhlaaDoor.Pure
set_option linter.unusedVariables false
namespace Go.Proofs.YtedkbpbodkmhlaaDoor.Pure
open Go.RowKit Go.Proofs.YtedkbpbodkmhlaaDoor.P Go.Proofs.YtedkbpbodkmhlaaDoorW.PrintWords Go.Proofs.YtedkbpbodkmhlaaDoorW.PrintLast Go.Proofs.YtedkbpbodkmhlaaDoor.Base
theorem FnExactNumberText (n : Int) (hn : (Lit.int .i64 n).wf = true) : ∃ k, laws_FnExactNumberText.f k n = some true := by
  refine ev_ex (g := fun k => laws_FnExactNumberText.f k n) ?_
  unfold laws_FnExactNumberText.f
  exact ev_bind (NumberText_spec n) (ev_bindq (NumberText_impl n) (ev_bindq (eqTextResult_same _ _) (ev_pos rfl (ev_some _))))
end Go.Proofs.YtedkbpbodkmhlaaDoor.Pure
