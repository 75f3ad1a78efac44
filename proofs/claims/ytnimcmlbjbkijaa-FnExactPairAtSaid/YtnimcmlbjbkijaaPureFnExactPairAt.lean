/-
  The program's PairAt returns what the reference's PairAt returns and leaves its list of bytes as it was: for all lists of bytes and all numbers, without a condition.
-/
import Derived.Test.YtnimcmlbjbkijaaBytes1
import Derived.Test.YtnimcmlbjbkijaaP5
namespace Go.Proofs.Ytnimcmlbjbkijaa.Pure
open Go.RowKit Go.Proofs.Ytnimcmlbjbkijaa.P Go.Proofs.YtnimcmlbjbkijaaW.PrintWords Go.Proofs.YtnimcmlbjbkijaaW.PrintLast Go.Proofs.Ytnimcmlbjbkijaa.Base

theorem FnExactPairAt (a : List Int) (n : Int) (ha0 : a.length ≤ maxLen ∧ ∀ x ∈ a, (Lit.int .u8 x).wf = true) (_ : (Lit.int .i64 n).wf = true) : ∃ k, laws_FnExactPairAt.f k a n = some true := by
  obtain ⟨hma, hwa⟩ := ha0
  have ha : ∀ x ∈ a, Byte x := fun x hx => wf_u8 (hwa x hx)
  refine ev_ex (g := fun k => laws_FnExactPairAt.f k a n) ?_
  unfold laws_FnExactPairAt.f
  by_cases h1 : (a.length : Int) > 1048576
  · exact ev_pos h1 (ev_some _)
  have ta := toByteS_ev a (by omega)
  have ea := eqByteS_ev a a (by omega)
  exact ev_neg h1 (ev_bind ta (ev_bindq (PairAt_spec a n ha) (ev_bind ta (ev_bindq (PairAt_impl a n ha) (ev_bindq (eqIntResult_eq _ _ _ _)
    (ev_pos (by simp) (ev_bind ta (ev_bind ea (ev_pos (by simp) (ev_some _))))))))))
end Go.Proofs.Ytnimcmlbjbkijaa.Pure
