/-
  The program's SameTerms returns what the reference's SameTerms returns and leaves its two lists of numbers as they were: for all lists of numbers, without a condition.
-/
import Derived.Test.YtnimcmlbjbkijaaBytes1
import Derived.Test.YtnimcmlbjbkijaaP4
namespace Go.Proofs.Ytnimcmlbjbkijaa.Pure
open Go.RowKit Go.Proofs.Ytnimcmlbjbkijaa.P Go.Proofs.YtnimcmlbjbkijaaW.PrintWords Go.Proofs.YtnimcmlbjbkijaaW.PrintLast Go.Proofs.Ytnimcmlbjbkijaa.Base

theorem FnExactSameTerms (a b : List Int) (ha0 : a.length ≤ maxLen ∧ ∀ x ∈ a, (Lit.int .i64 x).wf = true) (hb0 : b.length ≤ maxLen ∧ ∀ x ∈ b, (Lit.int .i64 x).wf = true) : ∃ k, laws_FnExactSameTerms.f k a b = some true := by
  obtain ⟨hma, hwa⟩ := ha0
  obtain ⟨hmb, hwb⟩ := hb0
  refine ev_ex (g := fun k => laws_FnExactSameTerms.f k a b) ?_
  unfold laws_FnExactSameTerms.f
  by_cases h1 : (a.length : Int) > 1048576
  · exact ev_pos h1 (ev_some _)
  by_cases h2 : (b.length : Int) > 1048576
  · exact ev_neg h1 (ev_pos h2 (ev_some _))
  have ta := toInt64S_ev a (by omega)
  have tb := toInt64S_ev b (by omega)
  have ea := eqInt64S_ev a a (by omega)
  have eb := eqInt64S_ev b b (by omega)
  have s1 : Ev (fun k => spec_SameTerms.f k a b) (decide (a = b)) := by
    unfold spec_SameTerms.f
    exact ev_bind (l1Same_ev a b (by omega)) (ev_some _)
  have s2 : Ev (fun k => impl_SameTerms.f k a b) (decide (a = b)) := by
    unfold impl_SameTerms.f
    exact ev_bind (slicesEqual_ev a b (by omega)) (ev_some _)
  exact ev_neg h1 (ev_neg h2 (ev_bind ta (ev_bind tb (ev_bind s1 (ev_bind ta (ev_bind tb (ev_bind s2
    (ev_neg (by simp) (ev_bind ta (ev_bind ea (ev_pos (by simp) (ev_bind tb (ev_bind eb (ev_pos (by simp) (ev_some _)))))))))))))))
end Go.Proofs.Ytnimcmlbjbkijaa.Pure
