/-
  The program's SumOf returns what the reference's SumOf returns and leaves its list of bytes as it was: for all lists of bytes, without a condition.
-/
import Derived.Test.YtnimcmlbjbkijaaBytes1
import Derived.Test.YtnimcmlbjbkijaaP6
namespace Go.Proofs.Ytnimcmlbjbkijaa.Pure
open Go.RowKit Go.Proofs.Ytnimcmlbjbkijaa.P Go.Proofs.YtnimcmlbjbkijaaW.PrintWords Go.Proofs.YtnimcmlbjbkijaaW.PrintLast Go.Proofs.Ytnimcmlbjbkijaa.Base

theorem FnExactSumOf (a : List Int) (ha0 : a.length ≤ maxLen ∧ ∀ x ∈ a, (Lit.int .u8 x).wf = true) : ∃ k, laws_FnExactSumOf.f k a = some true := by
  obtain ⟨hma, hwa⟩ := ha0
  have ha : ∀ x ∈ a, Byte x := fun x hx => wf_u8 (hwa x hx)
  refine ev_ex (g := fun k => laws_FnExactSumOf.f k a) ?_
  unfold laws_FnExactSumOf.f
  by_cases h1 : (a.length : Int) > 1048576
  · exact ev_pos h1 (ev_some _)
  have ta := toByteS_ev a (by omega)
  have ea := eqByteS_ev a a (by omega)
  exact ev_neg h1 (ev_bind ta (ev_bind (SumOf_spec a ha (by omega)) (ev_bind ta (ev_bind (SumOf_impl a ha (by omega)) (ev_bindq (eqIntResult_eq _ _ _ _)
    (ev_pos (by simp) (ev_bind ta (ev_bind ea (ev_pos (by simp) (ev_some _))))))))))
end Go.Proofs.Ytnimcmlbjbkijaa.Pure
