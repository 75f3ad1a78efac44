/- A part of the proof of the law FnExactSameSignatures: words, functions of the program with what each call answers, plain lemmas; conditions stand in each statement. -/
import Derived.Laws.BitsLemmas
import Derived.Lib.Bytes
import Derived.Test.YtnimcmlbjbkijaaCFnExactSameSignatures0
import Derived.Test.YtnimcmlbjbkijaaCFnExactSameSignatures1
import Derived.Test.YtnimcmlbjbkijaaCFnExactSameSignatures2
import Derived.Test.YtnimcmlbjbkijaaCFnExactSameSignatures3
set_option linter.unusedVariables false
namespace Go.Proofs.Ytnimcmlbjbkijaa.Pure
open Go.RowKit Go.Proofs.Ytnimcmlbjbkijaa.P Go.Proofs.YtnimcmlbjbkijaaW.PrintWords Go.Proofs.YtnimcmlbjbkijaaW.PrintLast Go.Proofs.Ytnimcmlbjbkijaa.Base
def step (s b : Int) : Int := (227 * s + b + 1) % 65521
end Go.Proofs.Ytnimcmlbjbkijaa.Pure
set_option linter.unusedVariables false
namespace Go.Proofs.Ytnimcmlbjbkijaa.Pure
open Go.RowKit Go.Proofs.Ytnimcmlbjbkijaa.P Go.Proofs.YtnimcmlbjbkijaaW.PrintWords Go.Proofs.YtnimcmlbjbkijaaW.PrintLast Go.Proofs.Ytnimcmlbjbkijaa.Base
def toI (x : S103) : S79 := ⟨x.f0, x.f1⟩
theorem rdL_get (xs : List S103) (i : Nat) (h : i < xs.length) : rd_T103 xs (i : Int) = xs[i] := by
  simp [rd_T103, List.getD_eq_getElem?_getD, List.getElem?_eq_getElem h]
theorem rdI_get (xs : List S79) (i : Nat) (h : i < xs.length) : rd_T79 xs (i : Int) = xs[i] := by
  simp [rd_T79, List.getD_eq_getElem?_getD, List.getElem?_eq_getElem h]
theorem rdI_drop (xs : List S79) (i : Nat) (h : i < xs.length) : xs.drop i = rd_T79 xs (i : Int) :: xs.drop (i + 1) := by
  rw [rdI_get xs i h]; exact List.drop_eq_getElem_cons h
def FitsL (l : List S103) : Prop := l.length ≤ maxLen ∧ ∀ x ∈ l, x.f0.size ≤ maxLen ∧ (Lit.int .i64 x.f1).wf = true
theorem szSymbolS_l0 (l : List S103) (hl : FitsL l) : ∀ (d i : Nat) (a : Int), i + d = l.length → 0 ≤ a → a ≤ 1048576 →
    ∃ r, Ev (fun k => laws_szSymbolS.l0 k l a (i : Int)) r ∧ (0 ≤ r → r ≤ a) := by
  intro d
  induction d with
  | zero =>
    intro i a hi h0 h1
    refine ⟨a, ev_succ ?_, fun _ => Int.le_refl _⟩
    simp only [laws_szSymbolS.l0]
    exact ev_neg (by omega) (ev_some _)
  | succ d ih =>
    intro i a hi h0 h1
    have hi' : i < l.length := by omega
    have hx := (hl.2 _ (List.getElem_mem hi')).1
    unfold maxLen at hx
    have hm := hl.1
    unfold maxLen at hm
    have hw : wrap64 (a - ((l[i]).f0.size : Int)) = a - ((l[i]).f0.size : Int) := wrap_id (by omega) (by omega)
    by_cases hn : a - ((l[i]).f0.size : Int) < 0
    · refine ⟨-1, ev_succ ?_, fun h => by omega⟩
      simp only [laws_szSymbolS.l0]
      refine ev_pos (by omega) (ev_pos (by omega) ?_)
      rw [rdL_get l i hi']
      refine ev_bindq (a := -1) ?_ (ev_pos (by omega) (ev_some _))
      unfold laws_szSymbol.f
      rw [hw, if_pos hn]
    · obtain ⟨r, hr, hle⟩ := ih (i + 1) (a - ((l[i]).f0.size : Int)) (by omega) (by omega) (by omega)
      refine ⟨r, ev_succ ?_, fun h => by have := hle h; omega⟩
      simp only [laws_szSymbolS.l0]
      refine ev_pos (by omega) (ev_pos (by omega) ?_)
      rw [rdL_get l i hi', wrap_up (by omega)]
      refine ev_bindq (a := a - ((l[i]).f0.size : Int)) ?_ (ev_neg hn hr)
      unfold laws_szSymbol.f
      rw [hw, if_neg hn]
theorem szSignature_ev (l : List S103) (hl : FitsL l) (a : Int) (h0 : 0 ≤ a) (h1 : a ≤ 1048576) :
    ∃ r, Ev (fun k => laws_szSignature.f k l a) r ∧ (¬ r < 0 → (l.length : Int) ≤ a ∧ r ≤ a) := by
  have hm := hl.1
  unfold maxLen at hm
  have hw : wrap64 (a - (l.length : Int)) = a - (l.length : Int) := wrap_id (by omega) (by omega)
  by_cases hn : a - (l.length : Int) < 0
  · refine ⟨-1, ?_, fun h => by omega⟩
    unfold laws_szSignature.f
    refine ev_bind (a := -1) ?_ (ev_pos (by omega) (ev_some _))
    unfold laws_szSymbolS.f
    rw [hw]
    exact ev_pos hn (ev_some _)
  · obtain ⟨r, hr, hle⟩ := szSymbolS_l0 l hl l.length 0 (a - (l.length : Int)) (by omega) (by omega) (by omega)
    have hs : Ev (fun k => laws_szSymbolS.f k l a) r := by
      unfold laws_szSymbolS.f
      rw [hw]
      exact ev_neg hn hr
    by_cases hr0 : r < 0
    · refine ⟨-1, ?_, fun h => by omega⟩
      unfold laws_szSignature.f
      exact ev_bind hs (ev_pos hr0 (ev_some _))
    · refine ⟨r, ?_, fun h => ?_⟩
      · unfold laws_szSignature.f
        exact ev_bind hs (ev_neg hr0 (ev_some _))
      · have := hle (by omega)
        omega
theorem toSymbolS_l0 (l : List S103) (hl : l.length ≤ 1048576) : ∀ (d i : Nat), i + d = l.length → Ev (fun k => laws_toSymbolS.l0 k l (cpart z79 (l.map toI) i) (i : Int)) (l.map toI) := by
  intro d
  induction d with
  | zero =>
    intro i hi
    refine ev_succ ?_
    simp only [laws_toSymbolS.l0]
    refine ev_neg (by omega) ?_
    have e : i = (l.map toI).length := by rw [List.length_map]; omega
    rw [e, cpart_end]
    exact ev_some _
  | succ d ih =>
    intro i hi
    have hi' : i < l.length := by omega
    refine ev_succ ?_
    simp only [laws_toSymbolS.l0]
    refine ev_pos (by omega) (ev_pos (by omega) ?_)
    unfold laws_toSymbol.f
    refine ev_bindq rfl (ev_pos (by rw [cpart_length _ _ _ (by rw [List.length_map]; omega), List.length_map]; omega) ?_)
    rw [rdL_get l i hi', wrap_up (by omega), Int.toNat_natCast, cpart_set z79 (l.map toI) i (by rw [List.length_map]; omega) (⟨(l[i]).f0, (l[i]).f1⟩ : S79) (by rw [List.getElem?_map, List.getElem?_eq_getElem hi']; rfl)]
    exact ih (i + 1) (by omega)
theorem toSignature_ev (l : List S103) (hl : l.length ≤ 1048576) : Ev (fun k => laws_toSignature.f k l) (l.map toI) := by
  unfold laws_toSignature.f
  refine ev_bind (a := l.map toI) ?_ (ev_some _)
  unfold laws_toSymbolS.f
  refine ev_pos (by omega) (ev_pos (by omega) ?_)
  have := toSymbolS_l0 l hl l.length 0 (by omega)
  rw [cpart_zero, List.length_map] at this
  rw [Int.toNat_natCast]
  exact this
theorem eqSymbolS_l0 (a : List S79) (hl : a.length ≤ 9223372036854775807) : ∀ (d i : Nat), i + d = a.length → Ev (fun k => laws_eqSymbolS.l0 k a a (i : Int)) true := by
  intro d
  induction d with
  | zero =>
    intro i hi
    refine ev_succ ?_
    simp only [laws_eqSymbolS.l0]
    exact ev_neg (by omega) (ev_some _)
  | succ d ih =>
    intro i hi
    refine ev_succ ?_
    simp only [laws_eqSymbolS.l0]
    refine ev_pos (by omega) (ev_pos (by omega) (ev_pos (by omega) (ev_bindq (a := true) ?_ (ev_pos rfl ?_))))
    · unfold laws_eqSymbol.f
      rw [if_pos rfl, if_pos rfl]
    · rw [wrap_up (by omega)]
      exact ih (i + 1) (by omega)
theorem eqSignature_ev (a : List S79) (hl : a.length ≤ 9223372036854775807) : Ev (fun k => laws_eqSignature.f k a a) true := by
  unfold laws_eqSignature.f
  refine ev_bind (a := true) ?_ (ev_pos rfl (ev_some _))
  unfold laws_eqSymbolS.f
  exact ev_pos rfl (eqSymbolS_l0 a hl a.length 0 (by omega))
end Go.Proofs.Ytnimcmlbjbkijaa.Pure
set_option linter.unusedVariables false
namespace Go.Proofs.Ytnimcmlbjbkijaa.Pure
open Go.RowKit Go.Proofs.Ytnimcmlbjbkijaa.P Go.Proofs.YtnimcmlbjbkijaaW.PrintWords Go.Proofs.YtnimcmlbjbkijaaW.PrintLast Go.Proofs.Ytnimcmlbjbkijaa.Base
def difB (x y : S79) : Bool := !((x.f0.toList) == (y.f0.toList)) || (!(x.f1 == y.f1))
def sameB : List S79 → List S79 → Bool
  | x :: xs, y :: ys => if difB x y = true then false else sameB xs ys
  | _, _ => true
theorem SameSig_spec_l0 (a b : List S79) (hab : a.length = b.length) (hl : a.length ≤ 9223372036854775807) : ∀ (d i : Nat), i + d = a.length → Ev (fun k => spec_SameSignatures.l0 k (i : Int) a b) (sameB (a.drop i) (b.drop i)) := by
  intro d
  induction d with
  | zero =>
    intro i hi
    refine ev_succ ?_
    simp only [spec_SameSignatures.l0]
    refine ev_neg (by omega) ?_
    rw [List.drop_eq_nil_of_le (by omega)]
    exact ev_some _
  | succ d ih =>
    intro i hi
    refine ev_succ ?_
    simp only [spec_SameSignatures.l0]
    refine ev_pos (by omega) (ev_pos (by omega) (ev_pos (by omega) ?_))
    rw [rdI_drop a i (by omega), rdI_drop b i (by omega), wrap_up (by omega)]
    show Ev (fun k => if difB (rd_T79 a (i : Int)) (rd_T79 b (i : Int)) = true then some false else spec_SameSignatures.l0 k ((i + 1 : Nat) : Int) a b) _
    simp only [sameB]
    by_cases h : difB (rd_T79 a (i : Int)) (rd_T79 b (i : Int)) = true
    · rw [if_pos h]; exact ev_pos h (ev_some _)
    · rw [if_neg h]; exact ev_neg h (ih (i + 1) (by omega))
theorem SameSig_impl_l0 (a b : List S79) (hab : a.length = b.length) (hl : a.length ≤ 9223372036854775807) : ∀ (d i : Nat), i + d = a.length → Ev (fun k => slices_Equal_impl_Symbol_impl_Symbol.l0 k a b (a.length : Int) (i : Int)) (sameB (a.drop i) (b.drop i)) := by
  intro d
  induction d with
  | zero =>
    intro i hi
    refine ev_succ ?_
    simp only [slices_Equal_impl_Symbol_impl_Symbol.l0]
    refine ev_neg (by omega) ?_
    rw [List.drop_eq_nil_of_le (by omega)]
    exact ev_some _
  | succ d ih =>
    intro i hi
    refine ev_succ ?_
    simp only [slices_Equal_impl_Symbol_impl_Symbol.l0]
    refine ev_pos (by omega) (ev_pos (by omega) (ev_pos (by omega) (ev_pos (by omega) ?_)))
    rw [rdI_drop a i (by omega), rdI_drop b i (by omega), wrap_up (by omega)]
    show Ev (fun k => if difB (rd_T79 a (i : Int)) (rd_T79 b (i : Int)) = true then some false else slices_Equal_impl_Symbol_impl_Symbol.l0 k a b (a.length : Int) ((i + 1 : Nat) : Int)) _
    simp only [sameB]
    by_cases h : difB (rd_T79 a (i : Int)) (rd_T79 b (i : Int)) = true
    · rw [if_pos h]; exact ev_pos h (ev_some _)
    · rw [if_neg h]; exact ev_neg h (ih (i + 1) (by omega))
def sameSig (a b : List S79) : Bool := if (a.length : Int) = (b.length : Int) then sameB a b else false
theorem SameSig_spec (a b : List S79) (hl : a.length ≤ 9223372036854775807) : Ev (fun k => spec_SameSignatures.f k a b) (sameSig a b) := by
  unfold spec_SameSignatures.f sameSig
  by_cases h : (a.length : Int) = (b.length : Int)
  · rw [if_pos h]; exact ev_pos h (SameSig_spec_l0 a b (by omega) hl a.length 0 (by omega))
  · rw [if_neg h]; exact ev_neg h (ev_some _)
theorem SameSig_impl (a b : List S79) (hl : a.length ≤ 9223372036854775807) : Ev (fun k => impl_SameSignatures.f k a b) (sameSig a b) := by
  unfold impl_SameSignatures.f
  refine ev_bind (a := sameSig a b) ?_ (ev_some _)
  unfold slices_Equal_impl_Symbol_impl_Symbol.f sameSig
  by_cases h : (a.length : Int) = (b.length : Int)
  · rw [if_pos h]; exact ev_pos h (SameSig_impl_l0 a b (by omega) hl a.length 0 (by omega))
  · rw [if_neg h]; exact ev_neg h (ev_some _)
theorem FnExactSameSignatures (a b : List S103) (ha : FitsL a) (hb : FitsL b) : ∃ k, laws_FnExactSameSignatures.f k a b = some true := by
  refine ev_ex (g := fun k => laws_FnExactSameSignatures.f k a b) ?_
  unfold laws_FnExactSameSignatures.f
  obtain ⟨r, hr, h1⟩ := szSignature_ev a ha 1048576 (by omega) (by omega)
  refine ev_bind hr ?_
  by_cases hr0 : r < 0
  · exact ev_pos hr0 (ev_some _)
  have h1 := h1 hr0
  refine ev_neg hr0 ?_
  obtain ⟨q, hq, h2⟩ := szSignature_ev b hb r (by omega) (by omega)
  refine ev_bind hq ?_
  by_cases hq0 : q < 0
  · exact ev_pos hq0 (ev_some _)
  have h2 := h2 hq0
  have ta := toSignature_ev a (by omega)
  have tb := toSignature_ev b (by omega)
  have ea := eqSignature_ev (a.map toI) (by rw [List.length_map]; omega)
  have eb := eqSignature_ev (b.map toI) (by rw [List.length_map]; omega)
  exact ev_neg hq0 (ev_bind ta (ev_bind tb (ev_bind (SameSig_spec _ _ (by rw [List.length_map]; omega)) (ev_bind ta (ev_bind tb (ev_bind (SameSig_impl _ _ (by rw [List.length_map]; omega))
    (ev_neg (by simp) (ev_bind ta (ev_bind ea (ev_pos rfl (ev_bind tb (ev_bind eb (ev_pos rfl (ev_some _))))))))))))))
end Go.Proofs.Ytnimcmlbjbkijaa.Pure
