/- A part of the proof of the law FnExactNumberOf: words, functions of the program with what each call answers, plain lemmas; conditions stand in each statement. -/
import Derived.Laws.StructEq
import Derived.Lib.SlTrimSet
import Derived.Lib.Strings
import Derived.Test.YtedkbpbodkmhlaaDoorCFnExactNumberOf0
import Derived.Test.YtedkbpbodkmhlaaDoorCFnExactNumberOf1
import Derived.Test.YtedkbpbodkmhlaaDoorCFnExactNumberOf2
set_option linter.unusedVariables false
namespace Go.Proofs.YtedkbpbodkmhlaaDoor.Pure
open Go.RowKit Go.Proofs.YtedkbpbodkmhlaaDoor.P Go.Proofs.YtedkbpbodkmhlaaDoorW.PrintWords Go.Proofs.YtedkbpbodkmhlaaDoorW.PrintLast Go.Proofs.YtedkbpbodkmhlaaDoor.Base
theorem bt_get (s : ByteArray) (i : Nat) (h : i < s.data.toList.length) : bt s (i : Int) = ((s.data.toList[i]).toNat : Int) := by
  have hs : i < s.size := by rw [Lib.size_eq]; exact h
  unfold bt
  rw [dif_pos (by simpa using hs)]
  rfl
end Go.Proofs.YtedkbpbodkmhlaaDoor.Pure
set_option linter.unusedVariables false
namespace Go.Proofs.YtedkbpbodkmhlaaDoor.Pure
open Go.RowKit Go.Proofs.YtedkbpbodkmhlaaDoor.P Go.Proofs.YtedkbpbodkmhlaaDoorW.PrintWords Go.Proofs.YtedkbpbodkmhlaaDoorW.PrintLast Go.Proofs.YtedkbpbodkmhlaaDoor.Base
def decB (n : Nat) : ByteArray := ⟨(Lib.decDigits n).toArray⟩
theorem decB_size (n : Nat) : (decB n).size = (Lib.decDigits n).length := by
  rw [Lib.size_eq]; rfl
theorem digit_str {d : Nat} (h : d < 10) : strOfNums [(wrap64 (48 + (d : Int))) % 256] = ⟨#[UInt8.ofNat (48 + d)]⟩ := by
  rw [wrap_id (by omega) (by omega)]
  unfold strOfNums
  have : ((48 + (d : Int)) % 256).toNat = 48 + d := by omega
  simp [this]
theorem l1Digits_ev (n : Nat) : n ≤ 1000000000 → Ev (fun k => spec_l1Digits.f k (n : Int)) (decB n) := by
  induction n using Nat.strongRecOn with
  | _ n ih =>
    intro hn
    refine ev_succ ?_
    simp only [spec_l1Digits.f]
    by_cases h : n < 10
    · refine ev_pos (by omega) (ev_to (ev_some _) ?_)
      rw [digit_str h]
      unfold decB
      rw [decDigits_small h]
    · have hd : wrap64 (Int.tdiv (n : Int) 10) = ((n / 10 : Nat) : Int) := by
        rw [Int.tdiv_eq_ediv_of_nonneg (by omega), wrap_id (by omega) (by omega)]; omega
      have hm : Int.tmod (n : Int) 10 = ((n % 10 : Nat) : Int) := by
        rw [Int.tmod_eq_emod_of_nonneg (by omega)]; omega
      refine ev_neg (by omega) ?_
      rw [hd, hm]
      have hl := decDigits_le (n / 10)
      refine ev_bind (ih (n / 10) (by omega) (by omega)) (ev_bindq rfl (ev_pos ?_ (ev_to (ev_some _) ?_)))
      · rw [digit_str (by omega), decB_size]
        show _ + 1 ≤ _
        omega
      · rw [digit_str (by omega)]
        unfold decB
        rw [decDigits_big h]
        apply ByteArray.ext
        apply Array.ext'
        simp
theorem NumberOf_loop (s : ByteArray) (hl : s.data.toList.length ≤ 6) : ∀ (d i n : Nat), i + d = s.data.toList.length → n + 1 ≤ 10 ^ i →
    Ev (fun k => spec_NumberOf.l0 k s (n : Int) (i : Int)) (match valO n (s.data.toList.drop i) with | some m => if Lib.decDigits m = s.data.toList then ((0 : Int), (m : Int)) else (5, 0) | none => (5, 0)) := by
  have hz := Lib.size_eq s
  intro d
  induction d with
  | zero =>
    intro i n hi hn
    refine ev_succ ?_
    simp only [spec_NumberOf.l0]
    have hp : 10 ^ i ≤ 10 ^ 6 := Nat.pow_le_pow_right (by omega) (by omega)
    rw [List.drop_eq_nil_of_le (by omega)]
    simp only [valO]
    refine ev_neg (by omega) (ev_bind (l1Digits_ev n (by omega)) ?_)
    have e : ((decB n).toList = s.toList) ↔ (Lib.decDigits n = s.data.toList) := by
      rw [Lib.toList_data, Lib.toList_data]
      exact Iff.rfl
    by_cases h : Lib.decDigits n = s.data.toList
    · rw [if_pos h]; exact ev_pos (e.2 h) (ev_some _)
    · rw [if_neg h]; exact ev_neg (fun k => h (e.1 k)) (ev_some _)
  | succ d ih =>
    intro i n hi hn
    have hi' : i < s.data.toList.length := by omega
    have hp : 10 ^ i ≤ 10 ^ 6 := Nat.pow_le_pow_right (by omega) (by omega)
    refine ev_succ ?_
    simp only [spec_NumberOf.l0]
    refine ev_pos (by omega) (ev_pos (by omega) ?_)
    rw [bt_get s i hi', List.drop_eq_getElem_cons hi', wrap_up (by omega)]
    generalize s.data.toList[i] = b
    unfold valO
    by_cases h1 : (b.toNat : Int) < 48
    · rw [if_neg (by omega)]
      exact ev_pos h1 (ev_some _)
    refine ev_neg h1 ?_
    by_cases h2 : (b.toNat : Int) > 57
    · rw [if_neg (by omega)]
      exact ev_pos h2 (ev_some _)
    refine ev_neg h2 ?_
    rw [if_pos (by omega)]
    have hb := ih (i + 1) (n * 10 + (b.toNat - 48)) (by omega) (by rw [Nat.pow_succ]; omega)
    have e : wrap64 (wrap64 ((n : Int) * 10) + ((b.toNat : Int) - 48) % 256) = ((n * 10 + (b.toNat - 48) : Nat) : Int) := by
      rw [wrap_id (x := (n : Int) * 10) (by omega) (by omega), wrap_id (by omega) (by omega)]; omega
    rw [e]
    exact hb
theorem NumberOf_spec (s : ByteArray) (hs : s.size ≤ 1048576) : Ev (fun k => spec_NumberOf.f k s) (numR s.data.toList) := by
  have hz := Lib.size_eq s
  unfold spec_NumberOf.f numR
  by_cases h1 : (s.size : Int) < 1
  · rw [if_neg (by omega)]
    refine ev_pos h1 (ev_succ ?_)
    simp only [spec_NumberOf.j0]
    exact ev_pos trivial (ev_some _)
  refine ev_neg h1 (ev_succ ?_)
  simp only [spec_NumberOf.j0]
  by_cases h2 : (s.size : Int) > 6
  · rw [if_neg (by omega)]
    exact ev_pos (by simpa using h2) (ev_some _)
  rw [if_pos (by omega)]
  exact ev_neg (by simpa using h2) (NumberOf_loop s (by omega) s.data.toList.length 0 0 (by omega) (by simp))
theorem NumberOf_impl (s : ByteArray) (hs : s.size ≤ 1048576) : impl_NumberOf.f s = some (numR s.data.toList) := by
  unfold impl_NumberOf.f
  rw [if_pos (by omega), ← numP_eq]
  rfl
end Go.Proofs.YtedkbpbodkmhlaaDoor.Pure
set_option linter.unusedVariables false
namespace Go.Proofs.YtedkbpbodkmhlaaDoor.Pure
open Go.RowKit Go.Proofs.YtedkbpbodkmhlaaDoor.P Go.Proofs.YtedkbpbodkmhlaaDoorW.PrintWords Go.Proofs.YtedkbpbodkmhlaaDoorW.PrintLast Go.Proofs.YtedkbpbodkmhlaaDoor.Base
theorem eqIntResult_same (a b : Int) : laws_eqIntResult.f a b a b = some true := by
  unfold laws_eqIntResult.f; simp
end Go.Proofs.YtedkbpbodkmhlaaDoor.Pure
set_option linter.unusedVariables false
namespace Go.Proofs.YtedkbpbodkmhlaaDoor.Pure
open Go.RowKit Go.Proofs.YtedkbpbodkmhlaaDoor.P Go.Proofs.YtedkbpbodkmhlaaDoorW.PrintWords Go.Proofs.YtedkbpbodkmhlaaDoorW.PrintLast Go.Proofs.YtedkbpbodkmhlaaDoor.Base
theorem FnExactNumberOf (s : ByteArray) (hs : s.size ≤ maxLen) : ∃ k, laws_FnExactNumberOf.f k s = some true := by
  refine ev_ex (g := fun k => laws_FnExactNumberOf.f k s) ?_
  unfold laws_FnExactNumberOf.f
  by_cases hb : (s.size : Int) > 1048576
  · exact ev_pos hb (ev_some _)
  exact ev_neg hb (ev_bind (NumberOf_spec s (by omega)) (ev_bindq (NumberOf_impl s (by omega)) (ev_bindq (eqIntResult_same _ _) (ev_pos rfl (ev_some _)))))
end Go.Proofs.YtedkbpbodkmhlaaDoor.Pure
