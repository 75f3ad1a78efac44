/-
  The program's Begins returns what the reference's Begins returns and leaves its two lists of bytes as they were: for all lists of bytes, without a condition.
-/
import Derived.Test.YtnimcmlbjbkijaaBytes1
import Derived.Test.YtnimcmlbjbkijaaP3
namespace Go.Proofs.Ytnimcmlbjbkijaa.Pure
open Go.RowKit Go.Proofs.Ytnimcmlbjbkijaa.P Go.Proofs.YtnimcmlbjbkijaaW.PrintWords Go.Proofs.YtnimcmlbjbkijaaW.PrintLast Go.Proofs.Ytnimcmlbjbkijaa.Base

theorem FnExactBegins (a b : List Int) (ha0 : a.length ≤ maxLen ∧ ∀ x ∈ a, (Lit.int .u8 x).wf = true) (hb0 : b.length ≤ maxLen ∧ ∀ x ∈ b, (Lit.int .u8 x).wf = true) : ∃ k, laws_FnExactBegins.f k a b = some true := by
  obtain ⟨hma, hwa⟩ := ha0
  obtain ⟨hmb, hwb⟩ := hb0
  have ha : ∀ x ∈ a, Byte x := fun x hx => wf_u8 (hwa x hx)
  have hb : ∀ x ∈ b, Byte x := fun x hx => wf_u8 (hwb x hx)
  refine ev_ex (g := fun k => laws_FnExactBegins.f k a b) ?_
  unfold laws_FnExactBegins.f
  by_cases h1 : (a.length : Int) > 1048576
  · exact ev_pos h1 (ev_some _)
  by_cases h2 : (b.length : Int) > 1048576
  · exact ev_neg h1 (ev_pos h2 (ev_some _))
  have ta := toByteS_ev a (by omega)
  have tb := toByteS_ev b (by omega)
  have ea := eqByteS_ev a a (by omega)
  have eb := eqByteS_ev b b (by omega)
  exact ev_neg h1 (ev_neg h2 (ev_bind ta (ev_bind tb (ev_bind (Begins_spec a b (by omega)) (ev_bind ta (ev_bind tb (ev_bindq (Begins_impl a b ha hb)
    (ev_neg (by simp) (ev_bind ta (ev_bind ea (ev_pos (by simp) (ev_bind tb (ev_bind eb (ev_pos (by simp) (ev_some _)))))))))))))))
end Go.Proofs.Ytnimcmlbjbkijaa.Pure
