/-
  The program's PairOf returns what the reference's PairOf returns, in memory that it shares with no other call's result: for all numbers, without a condition.
-/
import Derived.Test.YtnimcmlbjbkijaaBytes1
import Derived.Test.YtnimcmlbjbkijaaP7
namespace Go.Proofs.Ytnimcmlbjbkijaa.Pure
open Go.RowKit Go.Proofs.Ytnimcmlbjbkijaa.P Go.Proofs.YtnimcmlbjbkijaaW.PrintWords Go.Proofs.YtnimcmlbjbkijaaW.PrintLast Go.Proofs.Ytnimcmlbjbkijaa.Base

theorem FnExactPairOf (n : Int) (_ : (Lit.int .i64 n).wf = true) : ∃ k, laws_FnExactPairOf.f k n = some true := by
  refine ev_ex (g := fun k => laws_FnExactPairOf.f k n) ?_
  unfold laws_FnExactPairOf.f
  have hl : (pairOf n).2.length ≤ 2 := by unfold pairOf; split <;> simp
  have hm := markBytesResult_ev (pairOf n).1 (pairOf n).2 1 (by omega) (by omega)
  have hh := heldBytesResult_ev (pairOf n).1 (pairOf n).2.length 1 (by omega) (by omega)
  have he := eqBytesResult_ev (pairOf n).1 (pairOf n).1 (pairOf n).2 (pairOf n).2 (by omega)
  exact ev_bindq (PairOf_spec n) (ev_bindq (PairOf_impl n) (ev_bind he (ev_pos (by simp) (ev_bind hm (ev_bind hh (ev_neg (by omega) (ev_pos (by simp)
    (ev_bindq (PairOf_impl n) (ev_bind he (ev_pos (by simp) (ev_bind hh (ev_neg (by omega) (ev_pos (by simp) (ev_some _))))))))))))))
end Go.Proofs.Ytnimcmlbjbkijaa.Pure
