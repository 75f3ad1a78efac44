/- A part of the proof of the law FnExactSameEquations: words, functions of the program with what each call answers, plain lemmas; conditions stand in each statement. -/
import Derived.Laws.StructEq
import Derived.Test.YtbcnlphbndcicaaCFnExactSameEquations0
import Derived.Test.YtbcnlphbndcicaaCFnExactSameEquations1
import Derived.Test.YtbcnlphbndcicaaCFnExactSameEquations2
import Derived.Test.YtbcnlphbndcicaaCFnExactSameEquations3
set_option linter.unusedVariables false
namespace Go.Proofs.Ytbcnlphbndcicaa.Pure
open Go.RowKit Go.Proofs.Ytbcnlphbndcicaa.P Go.Proofs.YtbcnlphbndcicaaW.PrintWords Go.Proofs.YtbcnlphbndcicaaW.PrintLast Go.Proofs.Ytbcnlphbndcicaa.Base
theorem toInt64S_l0 (l : List Int) (hl : l.length ≤ 35184372088832) : ∀ (d i : Nat), i + d = l.length → Ev (fun k => laws_toInt64S.l0 k l (cpart 0 l i) (i : Int)) l := by
  intro d
  induction d with
  | zero =>
    intro i hi
    refine ev_succ ?_
    simp only [laws_toInt64S.l0]
    refine ev_neg (by omega) ?_
    obtain rfl : i = l.length := by omega
    rw [cpart_end]
    exact ev_some _
  | succ d ih =>
    intro i hi
    refine ev_succ ?_
    simp only [laws_toInt64S.l0]
    refine ev_pos (by omega) (ev_pos (by omega) (ev_pos (by rw [cpart_length _ _ _ (by omega)]; omega) ?_))
    rw [wrap_up (by omega), Int.toNat_natCast, cpart_set 0 l i (by omega) _ (rd_some l i (by omega))]
    exact ih (i + 1) (by omega)
theorem toInt64S_ev (l : List Int) (hl : l.length ≤ 35184372088832) : Ev (fun k => laws_toInt64S.f k l) l := by
  unfold laws_toInt64S.f
  refine ev_pos (by omega) (ev_pos (by omega) ?_)
  rw [Int.toNat_natCast, ← cpart_zero]
  exact toInt64S_l0 l hl l.length 0 (by omega)
theorem eqInt64S_l0 (a b : List Int) (hab : a.length = b.length) (hl : a.length ≤ 9223372036854775807) : ∀ (d i : Nat), i + d = a.length → Ev (fun k => laws_eqInt64S.l0 k a b (i : Int)) (decide (a.drop i = b.drop i)) := by
  intro d
  induction d with
  | zero =>
    intro i hi
    refine ev_succ ?_
    simp only [laws_eqInt64S.l0]
    refine ev_neg (by omega) ?_
    rw [List.drop_eq_nil_of_le (by omega), List.drop_eq_nil_of_le (by omega)]
    exact ev_some _
  | succ d ih =>
    intro i hi
    refine ev_succ ?_
    simp only [laws_eqInt64S.l0]
    refine ev_pos (by omega) (ev_pos (by omega) (ev_pos (by omega) ?_))
    rw [rd_drop a i (by omega), rd_drop b i (by omega)]
    by_cases h : rd a (i : Int) = rd b (i : Int)
    · refine ev_pos h ?_
      rw [wrap_up (by omega)]
      refine ev_to (ih (i + 1) (by omega)) ?_
      simp [h]
    · refine ev_neg h ?_
      refine ev_to (ev_some _) ?_
      simp [h]
theorem eqInt64S_ev (a b : List Int) (hl : a.length ≤ 9223372036854775807) : Ev (fun k => laws_eqInt64S.f k a b) (decide (a = b)) := by
  unfold laws_eqInt64S.f
  by_cases h : a.length = b.length
  · refine ev_pos (by omega) ?_
    exact eqInt64S_l0 a b h hl a.length 0 (by omega)
  · refine ev_neg (by omega) ?_
    refine ev_to (ev_some _) ?_
    have : ¬ a = b := fun e => h (by rw [e])
    simp [this]
end Go.Proofs.Ytbcnlphbndcicaa.Pure
set_option linter.unusedVariables false
namespace Go.Proofs.Ytbcnlphbndcicaa.Pure
open Go.RowKit Go.Proofs.Ytbcnlphbndcicaa.P Go.Proofs.YtbcnlphbndcicaaW.PrintWords Go.Proofs.YtbcnlphbndcicaaW.PrintLast Go.Proofs.Ytbcnlphbndcicaa.Base
def toE (x : S62) : S65 := ⟨x.f0, x.f1⟩
theorem rdLE_get (xs : List S62) (i : Nat) (h : i < xs.length) : rd_T62 xs (i : Int) = xs[i] := by
  simp [rd_T62, List.getD_eq_getElem?_getD, List.getElem?_eq_getElem h]
theorem rdIE_get (xs : List S65) (i : Nat) (h : i < xs.length) : rd_T65 xs (i : Int) = xs[i] := by
  simp [rd_T65, List.getD_eq_getElem?_getD, List.getElem?_eq_getElem h]
theorem szInt64S_casesE (l : List Int) (hl : l.length ≤ maxLen) (v : Int) (h0 : 0 ≤ v) (h1 : v ≤ 1048576) :
    laws_szInt64S.f l v = some (-1) ∨ ∃ u, laws_szInt64S.f l v = some u ∧ 0 ≤ u ∧ u ≤ v ∧ (l.length : Int) ≤ v := by
  unfold maxLen at hl
  unfold laws_szInt64S.f
  rw [wrap_id (x := v - (l.length : Int)) (by omega) (by omega)]
  by_cases h : v - (l.length : Int) < 0
  · rw [if_pos h]; exact .inl rfl
  · rw [if_neg h]; exact .inr ⟨_, rfl, by omega, by omega, by omega⟩
theorem szEquation_cases (a b : List Int) (ha : a.length ≤ maxLen) (hb : b.length ≤ maxLen) (v : Int) (h0 : 0 ≤ v) (h1 : v ≤ 1048576) :
    laws_szEquation.f a b v = some (-1) ∨ ∃ u, laws_szEquation.f a b v = some u ∧ 0 ≤ u ∧ u ≤ v ∧ a.length ≤ 1048576 ∧ b.length ≤ 1048576 := by
  unfold laws_szEquation.f
  rcases szInt64S_casesE a ha v h0 h1 with e | ⟨u, e, u0, uv, hq⟩
  · rw [e]; exact .inl rfl
  · rw [e]
    simp only [Option.bind_some]
    rw [if_neg (by omega)]
    rcases szInt64S_casesE b hb u u0 (by omega) with e | ⟨t, e, t0, tv, hq'⟩
    · rw [e]; exact .inl rfl
    · rw [e]
      simp only [Option.bind_some]
      rw [if_neg (by omega)]
      exact .inr ⟨t, rfl, t0, by omega, by omega, by omega⟩
def FitsEs (l : List S62) : Prop := l.length ≤ maxLen ∧ ∀ x ∈ l, (x.f0.length ≤ maxLen ∧ ∀ y ∈ x.f0, (Lit.int .i64 y).wf = true) ∧ x.f1.length ≤ maxLen ∧ ∀ y ∈ x.f1, (Lit.int .i64 y).wf = true
def FairEs (l : List S62) : Prop := l.length ≤ 1048576 ∧ ∀ x ∈ l, x.f0.length ≤ 1048576 ∧ x.f1.length ≤ 1048576
theorem szEquationS_ev (l : List S62) (hl : FitsEs l) (v : Int) (h0 : 0 ≤ v) (h1 : v ≤ 1048576) :
    ∃ r, Ev (fun k => laws_szEquationS.f k l v) r ∧ (¬ r < 0 → r ≤ v ∧ FairEs l) := by
  have hm := hl.1
  unfold maxLen at hm
  unfold laws_szEquationS.f
  rw [wrap_id (x := v - (l.length : Int)) (by omega) (by omega)]
  by_cases h : v - (l.length : Int) < 0
  · exact ⟨-1, ev_pos h (ev_some _), fun h => absurd (by omega) h⟩
  obtain ⟨r, hr, hg⟩ := loop_sz (fun x : S62 => x.f0.length ≤ 1048576 ∧ x.f1.length ≤ 1048576) 1048576 l (fun k v i => laws_szEquationS.l0 k l v i)
    (fun k v => by simp only [laws_szEquationS.l0]; rw [if_neg (by omega)])
    (fun i ha v h0 h1 => by
      simp only [laws_szEquationS.l0]
      have hx := hl.2 _ (List.getElem_mem ha)
      rcases szEquation_cases (l[i]).f0 (l[i]).f1 hx.1.1 hx.2.1 v h0 h1 with e | ⟨u, e, u0, uv, hq⟩
      · exact .inl (ev_pos (by omega) (ev_pos (by omega) (ev_bindq (by rw [rdLE_get l i ha]; exact e) (ev_pos (by omega) (ev_some _)))))
      · refine .inr ⟨u, u0, uv, hq, fun r hr => ev_pos (by omega) (ev_pos (by omega) (ev_bindq (by rw [rdLE_get l i ha]; exact e) (ev_neg (by omega) ?_)))⟩
        rw [wrap_up (by omega)]; exact hr)
    l.length 0 (v - (l.length : Int)) (by omega) (by omega) (by omega)
  refine ⟨r, ev_neg h hr, fun hn => ?_⟩
  obtain ⟨g1, g2⟩ := hg hn
  exact ⟨by omega, by omega, fun x hx => g2 x (by simpa using hx)⟩
theorem toEquation_ev (a b : List Int) (ha : a.length ≤ 1048576) (hb : b.length ≤ 1048576) : Ev (fun k => laws_toEquation.f k a b) (a, b) := by
  unfold laws_toEquation.f
  exact ev_bind (toInt64S_ev a (by omega)) (ev_bind (toInt64S_ev b (by omega)) (ev_some _))
theorem toEquationS_ev (l : List S62) (hf : FairEs l) : Ev (fun k => laws_toEquationS.f k l) (l.map toE) := by
  unfold laws_toEquationS.f
  have hl := hf.1
  refine ev_pos (by omega) (ev_pos (by omega) ?_)
  have h := loop_map toE z65 l (fun k ys i => laws_toEquationS.l0 k l ys i)
    (fun k ys => by simp only [laws_toEquationS.l0]; rw [if_neg (by omega)])
    (fun i ha ys r hy hr => by
      simp only [laws_toEquationS.l0]
      refine ev_pos (by omega) (ev_pos (by omega) ?_)
      rw [rdLE_get l i ha, wrap_up (by omega), Int.toNat_natCast]
      have := hf.2 _ (List.getElem_mem ha)
      exact ev_bind (toEquation_ev _ _ this.1 this.2) (ev_pos (by omega) hr))
    l.length 0 (by omega)
  rw [cpart_zero, List.length_map] at h
  rw [Int.toNat_natCast]
  exact h
def FairEi (l : List S65) : Prop := l.length ≤ 1048576 ∧ ∀ x ∈ l, x.f0.length ≤ 1048576 ∧ x.f1.length ≤ 1048576
theorem FairEs.toI {l : List S62} (h : FairEs l) : FairEi (l.map toE) := by
  refine ⟨by rw [List.length_map]; exact h.1, fun x hx => ?_⟩
  obtain ⟨y, hy, rfl⟩ := List.mem_map.1 hx
  exact h.2 y hy
theorem eqEquation_ev (a b : List Int) (ha : a.length ≤ 1048576) (hb : b.length ≤ 1048576) : Ev (fun k => laws_eqEquation.f k a b a b) true := by
  unfold laws_eqEquation.f
  exact ev_bind (eqInt64S_ev a a (by omega)) (ev_pos (by simp) (ev_bind (eqInt64S_ev b b (by omega)) (ev_pos (by simp) (ev_some _))))
theorem eqEquationS_ev (l : List S65) (hf : FairEi l) : Ev (fun k => laws_eqEquationS.f k l l) true := by
  unfold laws_eqEquationS.f
  have hl := hf.1
  refine ev_pos rfl ?_
  have h := loop_all (fun x y : S65 => decide (x.f0 = y.f0 ∧ x.f1 = y.f1)) l l rfl (fun k i => laws_eqEquationS.l0 k l l i)
    (fun k => by simp only [laws_eqEquationS.l0]; rw [if_neg (by omega)])
    (fun i ha hb r hr => by
      simp only [laws_eqEquationS.l0]
      refine ev_pos (by omega) (ev_pos (by omega) (ev_pos (by omega) ?_))
      rw [rdIE_get l i ha, wrap_up (by omega)]
      have := hf.2 _ (List.getElem_mem ha)
      refine ev_bind (eqEquation_ev _ _ this.1 this.2) (ev_pos rfl ?_)
      simpa using hr)
    l.length 0 (by omega)
  rw [List.drop_zero] at h
  exact ev_to h (allB_self _ (fun x => by simp) l)
end Go.Proofs.Ytbcnlphbndcicaa.Pure
set_option linter.unusedVariables false
namespace Go.Proofs.Ytbcnlphbndcicaa.Pure
open Go.RowKit Go.Proofs.Ytbcnlphbndcicaa.P Go.Proofs.YtbcnlphbndcicaaW.PrintWords Go.Proofs.YtbcnlphbndcicaaW.PrintLast Go.Proofs.Ytbcnlphbndcicaa.Base
theorem l1Same_l0 (a b : List Int) (hab : a.length = b.length) (hl : a.length ≤ 9223372036854775807) : ∀ (d i : Nat), i + d = a.length → Ev (fun k => spec_l1Same.l0 k a b (i : Int)) (decide (a.drop i = b.drop i)) := by
  intro d
  induction d with
  | zero =>
    intro i hi
    refine ev_succ ?_
    simp only [spec_l1Same.l0]
    refine ev_neg (by omega) ?_
    rw [List.drop_eq_nil_of_le (by omega), List.drop_eq_nil_of_le (by omega)]
    exact ev_some _
  | succ d ih =>
    intro i hi
    refine ev_succ ?_
    simp only [spec_l1Same.l0]
    refine ev_pos (by omega) (ev_pos (by omega) (ev_pos (by omega) ?_))
    rw [rd_drop a i (by omega), rd_drop b i (by omega)]
    by_cases h : rd a (i : Int) = rd b (i : Int)
    · refine ev_pos h ?_
      rw [wrap_up (by omega)]
      refine ev_to (ih (i + 1) (by omega)) ?_
      simp [h]
    · refine ev_neg h ?_
      refine ev_to (ev_some _) ?_
      simp [h]
theorem l1Same_ev (a b : List Int) (hl : a.length ≤ 9223372036854775807) : Ev (fun k => spec_l1Same.f k a b) (decide (a = b)) := by
  unfold spec_l1Same.f
  by_cases h : a.length = b.length
  · refine ev_pos (by omega) ?_
    exact l1Same_l0 a b h hl a.length 0 (by omega)
  · refine ev_neg (by omega) ?_
    refine ev_to (ev_some _) ?_
    have : ¬ a = b := fun e => h (by rw [e])
    simp [this]
theorem slicesEqual_l0 (a b : List Int) (hab : a.length = b.length) (hl : a.length ≤ 9223372036854775807) : ∀ (d i : Nat), i + d = a.length → Ev (fun k => slices_Equal_int64_int64.l0 k a b (a.length : Int) (i : Int)) (decide (a.drop i = b.drop i)) := by
  intro d
  induction d with
  | zero =>
    intro i hi
    refine ev_succ ?_
    simp only [slices_Equal_int64_int64.l0]
    refine ev_neg (by omega) ?_
    rw [List.drop_eq_nil_of_le (by omega), List.drop_eq_nil_of_le (by omega)]
    exact ev_some _
  | succ d ih =>
    intro i hi
    refine ev_succ ?_
    simp only [slices_Equal_int64_int64.l0]
    refine ev_pos (by omega) (ev_pos (by omega) (ev_pos (by omega) (ev_pos (by omega) ?_)))
    rw [rd_drop a i (by omega), rd_drop b i (by omega)]
    by_cases h : rd a (i : Int) = rd b (i : Int)
    · refine ev_pos h ?_
      rw [wrap_up (by omega)]
      refine ev_to (ih (i + 1) (by omega)) ?_
      simp [h]
    · refine ev_neg h ?_
      refine ev_to (ev_some _) ?_
      simp [h]
theorem slicesEqual_ev (a b : List Int) (hl : a.length ≤ 9223372036854775807) : Ev (fun k => slices_Equal_int64_int64.f k a b) (decide (a = b)) := by
  unfold slices_Equal_int64_int64.f
  by_cases h : a.length = b.length
  · refine ev_pos (by omega) ?_
    exact slicesEqual_l0 a b h hl a.length 0 (by omega)
  · refine ev_neg (by omega) ?_
    refine ev_to (ev_some _) ?_
    have : ¬ a = b := fun e => h (by rw [e])
    simp [this]
end Go.Proofs.Ytbcnlphbndcicaa.Pure
set_option linter.unusedVariables false
namespace Go.Proofs.Ytbcnlphbndcicaa.Pure
open Go.RowKit Go.Proofs.Ytbcnlphbndcicaa.P Go.Proofs.YtbcnlphbndcicaaW.PrintWords Go.Proofs.YtbcnlphbndcicaaW.PrintLast Go.Proofs.Ytbcnlphbndcicaa.Base
def sameE1 (x y : S65) : Bool := decide (x.f0 = y.f0 ∧ x.f1 = y.f1)
theorem l4Same_ev (x y : S65) (h0 : x.f0.length ≤ 1048576) (h1 : x.f1.length ≤ 1048576) : Ev (fun k => spec_l4Same.f k [x] [y]) (sameE1 x y) := by
  unfold spec_l4Same.f
  refine ev_pos (by simp) (ev_pos (by simp) ?_)
  have ex : rd_T65 [x] 0 = x := rfl
  have ey : rd_T65 [y] 0 = y := rfl
  rw [ex, ey]
  refine ev_bind (l1Same_ev _ _ (by omega)) ?_
  by_cases h : x.f0 = y.f0
  · refine ev_pos (by simpa using h) (ev_bind (l1Same_ev _ _ (by omega)) (ev_to (ev_some _) (by simp [sameE1, h])))
  · exact ev_neg (by simpa using h) (ev_to (ev_some _) (by simp [sameE1, h]))
theorem sameEquation_ev (x y : S65) (h0 : x.f0.length ≤ 1048576) (h1 : x.f1.length ≤ 1048576) : Ev (fun k => impl_sameEquation.f k x.f0 x.f1 y.f0 y.f1) (sameE1 x y) := by
  unfold impl_sameEquation.f
  refine ev_bind (slicesEqual_ev _ _ (by omega)) ?_
  by_cases h : x.f0 = y.f0
  · refine ev_pos (by simpa using h) (ev_bind (slicesEqual_ev _ _ (by omega)) (ev_to (ev_some _) (by simp [sameE1, h])))
  · exact ev_neg (by simpa using h) (ev_to (ev_some _) (by simp [sameE1, h]))
theorem SameE_spec (a b : List S65) (hf : FairEi a) : Ev (fun k => spec_SameEquations.f k a b) (sameL sameE1 a b) := by
  unfold spec_SameEquations.f sameL
  have hl := hf.1
  by_cases h' : a.length = b.length
  · rw [if_pos h']
    refine ev_pos (by omega) ?_
    exact loop_all sameE1 a b h' (fun k i => spec_SameEquations.l0 k a b i)
      (fun k => by simp only [spec_SameEquations.l0]; rw [if_neg (by omega)])
      (fun i ha hb r hr => by
        simp only [spec_SameEquations.l0]
        refine ev_pos (by omega) (ev_pos (by omega) (ev_pos (by omega) ?_))
        rw [rdIE_get a i ha, rdIE_get b i hb, wrap_up (by omega)]
        have := hf.2 _ (List.getElem_mem ha)
        refine ev_bind (l4Same_ev _ _ this.1 this.2) ?_
        by_cases h : sameE1 a[i] b[i] = true
        · rw [if_pos h]; exact ev_pos h hr
        · rw [if_neg h]; exact ev_neg h (ev_some _))
      a.length 0 (by omega)
  · rw [if_neg h']
    exact ev_neg (by omega) (ev_some _)
theorem SameE_impl (a b : List S65) (hf : FairEi a) : Ev (fun k => impl_SameEquations.f k a b) (sameL sameE1 a b) := by
  unfold impl_SameEquations.f
  refine ev_bind (a := sameL sameE1 a b) ?_ (ev_some _)
  unfold slices_EqualFunc_impl_Equation_impl_Equation_impl_Equation_impl_Equation_impl_sameEquation.f sameL
  have hl := hf.1
  by_cases h' : a.length = b.length
  · rw [if_pos h']
    refine ev_pos (by omega) ?_
    exact loop_all sameE1 a b h' (fun k i => slices_EqualFunc_impl_Equation_impl_Equation_impl_Equation_impl_Equation_impl_sameEquation.l0 k b a (a.length : Int) i)
      (fun k => by simp only [slices_EqualFunc_impl_Equation_impl_Equation_impl_Equation_impl_Equation_impl_sameEquation.l0]; rw [if_neg (by omega)])
      (fun i ha hb r hr => by
        simp only [slices_EqualFunc_impl_Equation_impl_Equation_impl_Equation_impl_Equation_impl_sameEquation.l0]
        refine ev_pos (by omega) (ev_pos (by omega) (ev_pos (by omega) (ev_pos (by omega) ?_)))
        rw [rdIE_get a i ha, rdIE_get b i hb, wrap_up (by omega)]
        have := hf.2 _ (List.getElem_mem ha)
        refine ev_bind (sameEquation_ev _ _ this.1 this.2) ?_
        by_cases h : sameE1 a[i] b[i] = true
        · rw [if_pos h]; exact ev_pos h hr
        · rw [if_neg h]; exact ev_neg h (ev_some _))
      a.length 0 (by omega)
  · rw [if_neg h']
    exact ev_neg (by omega) (ev_some _)
theorem FnExactSameEquations (a b : List S62) (ha : FitsEs a) (hb : FitsEs b) : ∃ k, laws_FnExactSameEquations.f k a b = some true := by
  refine ev_ex (g := fun k => laws_FnExactSameEquations.f k a b) ?_
  unfold laws_FnExactSameEquations.f
  obtain ⟨r, hr, h1⟩ := szEquationS_ev a ha 1048576 (by omega) (by omega)
  refine ev_bind hr ?_
  by_cases hr0 : r < 0
  · exact ev_pos hr0 (ev_some _)
  obtain ⟨h1, f1⟩ := h1 hr0
  refine ev_neg hr0 ?_
  obtain ⟨q, hq, h2⟩ := szEquationS_ev b hb r (by omega) (by omega)
  refine ev_bind hq ?_
  by_cases hq0 : q < 0
  · exact ev_pos hq0 (ev_some _)
  obtain ⟨h2, f2⟩ := h2 hq0
  have ta := toEquationS_ev a f1
  have tb := toEquationS_ev b f2
  exact ev_neg hq0 (ev_bind ta (ev_bind tb (ev_bind (SameE_spec _ _ f1.toI) (ev_bind ta (ev_bind tb (ev_bind (SameE_impl _ _ f1.toI)
    (ev_neg (by simp) (ev_bind ta (ev_bind (eqEquationS_ev _ f1.toI) (ev_pos rfl (ev_bind tb (ev_bind (eqEquationS_ev _ f2.toI) (ev_pos rfl (ev_some _))))))))))))))
end Go.Proofs.Ytbcnlphbndcicaa.Pure
