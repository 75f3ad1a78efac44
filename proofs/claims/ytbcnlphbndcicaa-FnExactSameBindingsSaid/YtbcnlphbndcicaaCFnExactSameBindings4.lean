/- A part of the proof of the law FnExactSameBindings: words, functions of the program with what each call answers, plain lemmas; conditions stand in each statement. -/
import Derived.Laws.StructEq
import Derived.Test.YtbcnlphbndcicaaCFnExactSameBindings0
import Derived.Test.YtbcnlphbndcicaaCFnExactSameBindings1
import Derived.Test.YtbcnlphbndcicaaCFnExactSameBindings2
import Derived.Test.YtbcnlphbndcicaaCFnExactSameBindings3
set_option linter.unusedVariables false
namespace Go.Proofs.Ytbcnlphbndcicaa.Pure
open Go.RowKit Go.Proofs.Ytbcnlphbndcicaa.P Go.Proofs.YtbcnlphbndcicaaW.PrintWords Go.Proofs.YtbcnlphbndcicaaW.PrintLast Go.Proofs.Ytbcnlphbndcicaa.Base
theorem toInt64S_l0 (l : List Int) (hl : l.length ≤ 35184372088832) : ∀ (d i : Nat), i + d = l.length → Ev (fun k => laws_toInt64S.l0 k l (cpart 0 l i) (i : Int)) l := by
  intro d
  induction d with
  | zero =>
    intro i hi
    refine ev_succ ?_
    simp only [laws_toInt64S.l0]
    refine ev_neg (by omega) ?_
    obtain rfl : i = l.length := by omega
    rw [cpart_end]
    exact ev_some _
  | succ d ih =>
    intro i hi
    refine ev_succ ?_
    simp only [laws_toInt64S.l0]
    refine ev_pos (by omega) (ev_pos (by omega) (ev_pos (by rw [cpart_length _ _ _ (by omega)]; omega) ?_))
    rw [wrap_up (by omega), Int.toNat_natCast, cpart_set 0 l i (by omega) _ (rd_some l i (by omega))]
    exact ih (i + 1) (by omega)
theorem toInt64S_ev (l : List Int) (hl : l.length ≤ 35184372088832) : Ev (fun k => laws_toInt64S.f k l) l := by
  unfold laws_toInt64S.f
  refine ev_pos (by omega) (ev_pos (by omega) ?_)
  rw [Int.toNat_natCast, ← cpart_zero]
  exact toInt64S_l0 l hl l.length 0 (by omega)
theorem eqInt64S_l0 (a b : List Int) (hab : a.length = b.length) (hl : a.length ≤ 9223372036854775807) : ∀ (d i : Nat), i + d = a.length → Ev (fun k => laws_eqInt64S.l0 k a b (i : Int)) (decide (a.drop i = b.drop i)) := by
  intro d
  induction d with
  | zero =>
    intro i hi
    refine ev_succ ?_
    simp only [laws_eqInt64S.l0]
    refine ev_neg (by omega) ?_
    rw [List.drop_eq_nil_of_le (by omega), List.drop_eq_nil_of_le (by omega)]
    exact ev_some _
  | succ d ih =>
    intro i hi
    refine ev_succ ?_
    simp only [laws_eqInt64S.l0]
    refine ev_pos (by omega) (ev_pos (by omega) (ev_pos (by omega) ?_))
    rw [rd_drop a i (by omega), rd_drop b i (by omega)]
    by_cases h : rd a (i : Int) = rd b (i : Int)
    · refine ev_pos h ?_
      rw [wrap_up (by omega)]
      refine ev_to (ih (i + 1) (by omega)) ?_
      simp [h]
    · refine ev_neg h ?_
      refine ev_to (ev_some _) ?_
      simp [h]
theorem eqInt64S_ev (a b : List Int) (hl : a.length ≤ 9223372036854775807) : Ev (fun k => laws_eqInt64S.f k a b) (decide (a = b)) := by
  unfold laws_eqInt64S.f
  by_cases h : a.length = b.length
  · refine ev_pos (by omega) ?_
    exact eqInt64S_l0 a b h hl a.length 0 (by omega)
  · refine ev_neg (by omega) ?_
    refine ev_to (ev_some _) ?_
    have : ¬ a = b := fun e => h (by rw [e])
    simp [this]
end Go.Proofs.Ytbcnlphbndcicaa.Pure
set_option linter.unusedVariables false
namespace Go.Proofs.Ytbcnlphbndcicaa.Pure
open Go.RowKit Go.Proofs.Ytbcnlphbndcicaa.P Go.Proofs.YtbcnlphbndcicaaW.PrintWords Go.Proofs.YtbcnlphbndcicaaW.PrintLast Go.Proofs.Ytbcnlphbndcicaa.Base
theorem rdL_get_ll (xs : List (List Int)) (i : Nat) (h : i < xs.length) : rd_L4 xs (i : Int) = xs[i] := by
  unfold rd_L4; exact getD_get xs i _ h
theorem szInt64S_cases (l : List Int) (hl : l.length ≤ maxLen) (v : Int) (h0 : 0 ≤ v) (h1 : v ≤ 1048576) :
    laws_szInt64S.f l v = some (-1) ∨ ∃ u, laws_szInt64S.f l v = some u ∧ 0 ≤ u ∧ u ≤ v ∧ (l.length : Int) ≤ v := by
  unfold maxLen at hl
  unfold laws_szInt64S.f
  rw [wrap_id (x := v - (l.length : Int)) (by omega) (by omega)]
  by_cases h : v - (l.length : Int) < 0
  · rw [if_pos h]; exact .inl rfl
  · rw [if_neg h]; exact .inr ⟨_, rfl, by omega, by omega, by omega⟩
theorem szInt64SS_ev (l : List (List Int)) (hl : l.length ≤ maxLen ∧ ∀ x ∈ l, x.length ≤ maxLen) (v : Int) (h0 : 0 ≤ v) (h1 : v ≤ 1048576) :
    ∃ r, Ev (fun k => laws_szInt64SS.f k l v) r ∧ (¬ r < 0 → r ≤ v ∧ (l.length : Int) ≤ v ∧ ∀ x ∈ l, x.length ≤ 1048576) := by
  have hm := hl.1
  unfold maxLen at hm
  unfold laws_szInt64SS.f
  rw [wrap_id (x := v - (l.length : Int)) (by omega) (by omega)]
  by_cases h : v - (l.length : Int) < 0
  · exact ⟨-1, ev_pos h (ev_some _), fun h => absurd (by omega) h⟩
  obtain ⟨r, hr, hg⟩ := loop_sz (fun x : List Int => x.length ≤ 1048576) 1048576 l (fun k v i => laws_szInt64SS.l0 k l v i)
    (fun k v => by simp only [laws_szInt64SS.l0]; rw [if_neg (by omega)])
    (fun i ha v h0 h1 => by
      simp only [laws_szInt64SS.l0]
      rcases szInt64S_cases l[i] (hl.2 _ (List.getElem_mem ha)) v h0 h1 with e | ⟨u, e, u0, uv, hq⟩
      · exact .inl (ev_pos (by omega) (ev_pos (by omega) (ev_bindq (by rw [rdL_get_ll l i ha]; exact e) (ev_pos (by omega) (ev_some _)))))
      · refine .inr ⟨u, u0, uv, by omega, fun r hr => ev_pos (by omega) (ev_pos (by omega) (ev_bindq (by rw [rdL_get_ll l i ha]; exact e) (ev_neg (by omega) ?_)))⟩
        rw [wrap_up (by omega)]; exact hr)
    l.length 0 (v - (l.length : Int)) (by omega) (by omega) (by omega)
  refine ⟨r, ev_neg h hr, fun hn => ?_⟩
  obtain ⟨g1, g2⟩ := hg hn
  exact ⟨by omega, by omega, fun x hx => g2 x (by simpa using hx)⟩
def FitsB (a : List Int) (b : List (List Int)) : Prop := (a.length ≤ maxLen ∧ ∀ x ∈ a, (Lit.int .i64 x).wf = true) ∧ b.length ≤ maxLen ∧ ∀ x ∈ b, x.length ≤ maxLen ∧ ∀ y ∈ x, (Lit.int .i64 y).wf = true
def FairB (a : List Int) (b : List (List Int)) : Prop := a.length ≤ 1048576 ∧ b.length ≤ 1048576 ∧ ∀ x ∈ b, x.length ≤ 1048576
theorem szBinding_ev (a : List Int) (b : List (List Int)) (hf : FitsB a b) (v : Int) (h0 : 0 ≤ v) (h1 : v ≤ 1048576) :
    ∃ r, Ev (fun k => laws_szBinding.f k a b v) r ∧ (¬ r < 0 → r ≤ v ∧ FairB a b) := by
  unfold laws_szBinding.f
  rcases szInt64S_cases a hf.1.1 v h0 h1 with e | ⟨u, e, u0, uv, hq⟩
  · exact ⟨-1, ev_bindq e (ev_pos (by omega) (ev_some _)), fun h => absurd (by omega) h⟩
  obtain ⟨r, hr, hg⟩ := szInt64SS_ev b ⟨hf.2.1, fun x hx => (hf.2.2 x hx).1⟩ u u0 (by omega)
  by_cases hn : r < 0
  · exact ⟨-1, ev_bindq e (ev_neg (by omega) (ev_bind hr (ev_pos hn (ev_some _)))), fun h => absurd (by omega) h⟩
  obtain ⟨g1, g2, g3⟩ := hg hn
  exact ⟨r, ev_bindq e (ev_neg (by omega) (ev_bind hr (ev_neg hn (ev_some _)))), fun _ => ⟨by omega, by omega, by omega, g3⟩⟩
theorem toInt64SS_ev (l : List (List Int)) (hl : l.length ≤ 1048576) (hx : ∀ x ∈ l, x.length ≤ 1048576) : Ev (fun k => laws_toInt64SS.f k l) l := by
  unfold laws_toInt64SS.f
  refine ev_pos (by omega) (ev_pos (by omega) ?_)
  have h := loop_map (fun x : List Int => x) [] l (fun k ys i => laws_toInt64SS.l0 k l ys i)
    (fun k ys => by simp only [laws_toInt64SS.l0]; rw [if_neg (by omega)])
    (fun i ha ys r hy hr => by
      simp only [laws_toInt64SS.l0]
      refine ev_pos (by omega) (ev_pos (by omega) ?_)
      rw [rdL_get_ll l i ha, wrap_up (by omega), Int.toNat_natCast]
      have := hx _ (List.getElem_mem ha)
      exact ev_bind (toInt64S_ev _ (by omega)) (ev_pos (by omega) hr))
    l.length 0 (by omega)
  rw [List.map_id'] at h
  rw [cpart_zero] at h
  rw [Int.toNat_natCast]
  exact h
theorem toBinding_ev (a : List Int) (b : List (List Int)) (hf : FairB a b) : Ev (fun k => laws_toBinding.f k a b) (a, b) := by
  unfold laws_toBinding.f
  have h1 := hf.1
  exact ev_bind (toInt64S_ev a (by omega)) (ev_bind (toInt64SS_ev b hf.2.1 hf.2.2) (ev_some _))
theorem eqInt64SS_ev (l : List (List Int)) (hl : l.length ≤ 1048576) (hx : ∀ x ∈ l, x.length ≤ 1048576) : Ev (fun k => laws_eqInt64SS.f k l l) true := by
  unfold laws_eqInt64SS.f
  refine ev_pos rfl ?_
  have h := loop_all (fun x y : List Int => decide (x = y)) l l rfl (fun k i => laws_eqInt64SS.l0 k l l i)
    (fun k => by simp only [laws_eqInt64SS.l0]; rw [if_neg (by omega)])
    (fun i ha hb r hr => by
      simp only [laws_eqInt64SS.l0]
      refine ev_pos (by omega) (ev_pos (by omega) (ev_pos (by omega) ?_))
      rw [rdL_get_ll l i ha, wrap_up (by omega)]
      have := hx _ (List.getElem_mem ha)
      refine ev_bind (eqInt64S_ev _ _ (by omega)) (ev_pos (by simp) ?_)
      simpa using hr)
    l.length 0 (by omega)
  rw [List.drop_zero] at h
  exact ev_to h (allB_self _ (fun x => by simp) l)
theorem eqBinding_ev (a : List Int) (b : List (List Int)) (hf : FairB a b) : Ev (fun k => laws_eqBinding.f k a b a b) true := by
  unfold laws_eqBinding.f
  have h1 := hf.1
  exact ev_bind (eqInt64S_ev a a (by omega)) (ev_pos (by simp) (ev_bind (eqInt64SS_ev b hf.2.1 hf.2.2) (ev_pos rfl (ev_some _))))
end Go.Proofs.Ytbcnlphbndcicaa.Pure
set_option linter.unusedVariables false
namespace Go.Proofs.Ytbcnlphbndcicaa.Pure
open Go.RowKit Go.Proofs.Ytbcnlphbndcicaa.P Go.Proofs.YtbcnlphbndcicaaW.PrintWords Go.Proofs.YtbcnlphbndcicaaW.PrintLast Go.Proofs.Ytbcnlphbndcicaa.Base
theorem l1Same_l0 (a b : List Int) (hab : a.length = b.length) (hl : a.length ≤ 9223372036854775807) : ∀ (d i : Nat), i + d = a.length → Ev (fun k => spec_l1Same.l0 k a b (i : Int)) (decide (a.drop i = b.drop i)) := by
  intro d
  induction d with
  | zero =>
    intro i hi
    refine ev_succ ?_
    simp only [spec_l1Same.l0]
    refine ev_neg (by omega) ?_
    rw [List.drop_eq_nil_of_le (by omega), List.drop_eq_nil_of_le (by omega)]
    exact ev_some _
  | succ d ih =>
    intro i hi
    refine ev_succ ?_
    simp only [spec_l1Same.l0]
    refine ev_pos (by omega) (ev_pos (by omega) (ev_pos (by omega) ?_))
    rw [rd_drop a i (by omega), rd_drop b i (by omega)]
    by_cases h : rd a (i : Int) = rd b (i : Int)
    · refine ev_pos h ?_
      rw [wrap_up (by omega)]
      refine ev_to (ih (i + 1) (by omega)) ?_
      simp [h]
    · refine ev_neg h ?_
      refine ev_to (ev_some _) ?_
      simp [h]
theorem l1Same_ev (a b : List Int) (hl : a.length ≤ 9223372036854775807) : Ev (fun k => spec_l1Same.f k a b) (decide (a = b)) := by
  unfold spec_l1Same.f
  by_cases h : a.length = b.length
  · refine ev_pos (by omega) ?_
    exact l1Same_l0 a b h hl a.length 0 (by omega)
  · refine ev_neg (by omega) ?_
    refine ev_to (ev_some _) ?_
    have : ¬ a = b := fun e => h (by rw [e])
    simp [this]
theorem slicesEqual_l0 (a b : List Int) (hab : a.length = b.length) (hl : a.length ≤ 9223372036854775807) : ∀ (d i : Nat), i + d = a.length → Ev (fun k => slices_Equal_int64_int64.l0 k a b (a.length : Int) (i : Int)) (decide (a.drop i = b.drop i)) := by
  intro d
  induction d with
  | zero =>
    intro i hi
    refine ev_succ ?_
    simp only [slices_Equal_int64_int64.l0]
    refine ev_neg (by omega) ?_
    rw [List.drop_eq_nil_of_le (by omega), List.drop_eq_nil_of_le (by omega)]
    exact ev_some _
  | succ d ih =>
    intro i hi
    refine ev_succ ?_
    simp only [slices_Equal_int64_int64.l0]
    refine ev_pos (by omega) (ev_pos (by omega) (ev_pos (by omega) (ev_pos (by omega) ?_)))
    rw [rd_drop a i (by omega), rd_drop b i (by omega)]
    by_cases h : rd a (i : Int) = rd b (i : Int)
    · refine ev_pos h ?_
      rw [wrap_up (by omega)]
      refine ev_to (ih (i + 1) (by omega)) ?_
      simp [h]
    · refine ev_neg h ?_
      refine ev_to (ev_some _) ?_
      simp [h]
theorem slicesEqual_ev (a b : List Int) (hl : a.length ≤ 9223372036854775807) : Ev (fun k => slices_Equal_int64_int64.f k a b) (decide (a = b)) := by
  unfold slices_Equal_int64_int64.f
  by_cases h : a.length = b.length
  · refine ev_pos (by omega) ?_
    exact slicesEqual_l0 a b h hl a.length 0 (by omega)
  · refine ev_neg (by omega) ?_
    refine ev_to (ev_some _) ?_
    have : ¬ a = b := fun e => h (by rw [e])
    simp [this]
end Go.Proofs.Ytbcnlphbndcicaa.Pure
set_option linter.unusedVariables false
namespace Go.Proofs.Ytbcnlphbndcicaa.Pure
open Go.RowKit Go.Proofs.Ytbcnlphbndcicaa.P Go.Proofs.YtbcnlphbndcicaaW.PrintWords Go.Proofs.YtbcnlphbndcicaaW.PrintLast Go.Proofs.Ytbcnlphbndcicaa.Base
def sameTerms : List (List Int) → List (List Int) → Bool := sameL (fun x y => decide (x = y))
theorem SameB_spec_l0 (a c : List Int) (b d : List (List Int)) (hbd : b.length = d.length) (hb : b.length ≤ 1048576) (hx : ∀ x ∈ b, x.length ≤ 1048576) :
    Ev (fun k => spec_SameBindings.l0 k 0 a b c d) (allB (fun x y : List Int => decide (x = y)) b d) := by
  have h := loop_all (fun x y : List Int => decide (x = y)) b d hbd (fun k i => spec_SameBindings.l0 k i a b c d)
    (fun k => by simp only [spec_SameBindings.l0]; rw [if_neg (by omega)])
    (fun i ha hb r hr => by
      simp only [spec_SameBindings.l0]
      refine ev_pos (by omega) (ev_pos (by omega) (ev_pos (by omega) ?_))
      rw [rdL_get_ll b i ha, rdL_get_ll d i hb, wrap_up (by omega)]
      have := hx _ (List.getElem_mem ha)
      refine ev_bind (l1Same_ev _ _ (by omega)) ?_
      by_cases h : b[i] = d[i]
      · simp only [h, decide_true, if_true]; exact hr
      · simp only [h, decide_false]; exact ev_neg (by simp) (ev_some _))
    b.length 0 (by omega)
  exact h
theorem SameB_spec (a c : List Int) (b d : List (List Int)) (hf : FairB a b) : Ev (fun k => spec_SameBindings.f k a b c d) (if a = c then sameTerms b d else false) := by
  unfold spec_SameBindings.f
  have h1 := hf.1
  refine ev_bind (l1Same_ev a c (by omega)) ?_
  by_cases h : a = c
  · refine ev_pos (by simpa using h) (ev_succ ?_)
    simp only [spec_SameBindings.j0]
    rw [if_pos h, sameTerms, sameL]
    by_cases h' : b.length = d.length
    · rw [if_pos h']
      exact ev_neg (by simp [h']) (SameB_spec_l0 a c b d h' hf.2.1 hf.2.2)
    · rw [if_neg h']
      exact ev_pos (by simp; omega) (ev_some _)
  · rw [if_neg h]
    refine ev_neg (by simpa using h) (ev_succ ?_)
    simp only [spec_SameBindings.j0]
    exact ev_pos (by simp) (ev_some _)
theorem SameB_impl (a c : List Int) (b d : List (List Int)) (hf : FairB a b) : Ev (fun k => impl_SameBindings.f k a b c d) (if a = c then sameTerms b d else false) := by
  unfold impl_SameBindings.f
  have h1 := hf.1
  refine ev_bind (slicesEqual_ev a c (by omega)) ?_
  by_cases h : a = c
  · refine ev_pos (by simpa using h) (ev_bind (a := sameTerms b d) ?_ (ev_to (ev_some _) (by rw [if_pos h])))
    unfold slices_EqualFunc_int64_int64_int64_int64_slices_Equal_int64_int64.f
    rw [sameTerms, sameL]
    by_cases h' : b.length = d.length
    · rw [if_pos h']
      refine ev_pos (by omega) ?_
      have hm := hf.2.1
      have h := loop_all (fun x y : List Int => decide (x = y)) b d h' (fun k i => slices_EqualFunc_int64_int64_int64_int64_slices_Equal_int64_int64.l0 k d b (b.length : Int) i)
        (fun k => by simp only [slices_EqualFunc_int64_int64_int64_int64_slices_Equal_int64_int64.l0]; rw [if_neg (by omega)])
        (fun i ha hb r hr => by
          simp only [slices_EqualFunc_int64_int64_int64_int64_slices_Equal_int64_int64.l0]
          refine ev_pos (by omega) (ev_pos (by omega) (ev_pos (by omega) (ev_pos (by omega) ?_)))
          rw [rdL_get_ll b i ha, rdL_get_ll d i hb, wrap_up (by omega)]
          have := hf.2.2 _ (List.getElem_mem ha)
          refine ev_bind (slicesEqual_ev _ _ (by omega)) ?_
          by_cases h : b[i] = d[i]
          · simp only [h, decide_true, if_true]; exact hr
          · simp only [h, decide_false]; exact ev_neg (by simp) (ev_some _))
        b.length 0 (by omega)
      exact h
    · rw [if_neg h']
      exact ev_neg (by omega) (ev_some _)
  · rw [if_neg h]
    exact ev_neg (by simpa using h) (ev_some _)
theorem FnExactSameBindings (a : List Int) (b : List (List Int)) (c : List Int) (d : List (List Int)) (w0 : a.length ≤ maxLen ∧ ∀ x ∈ a, (Lit.int .i64 x).wf = true) (w1 : b.length ≤ maxLen ∧ ∀ x ∈ b, x.length ≤ maxLen ∧ ∀ y ∈ x, (Lit.int .i64 y).wf = true)
    (w2 : c.length ≤ maxLen ∧ ∀ x ∈ c, (Lit.int .i64 x).wf = true) (w3 : d.length ≤ maxLen ∧ ∀ x ∈ d, x.length ≤ maxLen ∧ ∀ y ∈ x, (Lit.int .i64 y).wf = true) : ∃ k, laws_FnExactSameBindings.f k a b c d = some true := by
  refine ev_ex (g := fun k => laws_FnExactSameBindings.f k a b c d) ?_
  unfold laws_FnExactSameBindings.f
  obtain ⟨r, hr, h1⟩ := szBinding_ev a b ⟨w0, w1⟩ 1048576 (by omega) (by omega)
  refine ev_bind hr ?_
  by_cases hr0 : r < 0
  · exact ev_pos hr0 (ev_some _)
  obtain ⟨h1, f1⟩ := h1 hr0
  refine ev_neg hr0 ?_
  obtain ⟨q, hq, h2⟩ := szBinding_ev c d ⟨w2, w3⟩ r (by omega) (by omega)
  refine ev_bind hq ?_
  by_cases hq0 : q < 0
  · exact ev_pos hq0 (ev_some _)
  obtain ⟨h2, f2⟩ := h2 hq0
  have ta := toBinding_ev a b f1
  have tb := toBinding_ev c d f2
  exact ev_neg hq0 (ev_bind ta (ev_bind tb (ev_bind (SameB_spec a c b d f1) (ev_bind ta (ev_bind tb (ev_bind (SameB_impl a c b d f1)
    (ev_neg (by simp) (ev_bind ta (ev_bind (eqBinding_ev a b f1) (ev_pos rfl (ev_bind tb (ev_bind (eqBinding_ev c d f2) (ev_pos rfl (ev_some _))))))))))))))
end Go.Proofs.Ytbcnlphbndcicaa.Pure
