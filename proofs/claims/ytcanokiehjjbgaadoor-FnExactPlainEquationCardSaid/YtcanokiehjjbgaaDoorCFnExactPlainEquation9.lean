/- A part of the proof of the law FnExactPlainEquation. -/
import Derived.Lib.Strings
import Derived.Laws.StructEq
import Derived.Test.YtcanokiehjjbgaaDoorCFnExactPlainEquation0
import Derived.Test.YtcanokiehjjbgaaDoorCFnExactPlainEquation1
import Derived.Test.YtcanokiehjjbgaaDoorCFnExactPlainEquation2
import Derived.Test.YtcanokiehjjbgaaDoorCFnExactPlainEquation3
import Derived.Test.YtcanokiehjjbgaaDoorCFnExactPlainEquation4
import Derived.Test.YtcanokiehjjbgaaDoorCFnExactPlainEquation5
import Derived.Test.YtcanokiehjjbgaaDoorCFnExactPlainEquation6
import Derived.Test.YtcanokiehjjbgaaDoorCFnExactPlainEquation7
import Derived.Test.YtcanokiehjjbgaaDoorCFnExactPlainEquation8
set_option linter.unusedVariables false
namespace Go.Proofs.YtcanokiehjjbgaaDoor.Pure
open Go.RowKit Go.Proofs.YtcanokiehjjbgaaDoor.P Go.Proofs.YtcanokiehjjbgaaDoorW.PrintWords Go.Proofs.YtcanokiehjjbgaaDoorW.PrintLast Go.Proofs.YtcanokiehjjbgaaDoor.Base
def toI (x : S123) : S110 := ⟨x.f0, x.f1⟩
theorem rdL_get (xs : List S123) (i : Nat) (h : i < xs.length) : rd_T123 xs (i : Int) = xs[i] := by
  simp [rd_T123, List.getD_eq_getElem?_getD, List.getElem?_eq_getElem h]
def FitsL (l : List S123) : Prop := l.length ≤ maxLen ∧ ∀ x ∈ l, x.f0.size ≤ maxLen ∧ (Lit.int .i64 x.f1).wf = true
theorem szSymbolS_l0 (l : List S123) (hl : FitsL l) : ∀ (d i : Nat) (a : Int), i + d = l.length → 0 ≤ a → a ≤ 1048576 →
    ∃ r, Ev (fun k => laws_szSymbolS.l0 k l a (i : Int)) r ∧ (0 ≤ r → r ≤ a) := by
  intro d
  induction d with
  | zero =>
    intro i a hi h0 h1
    refine ⟨a, ev_succ ?_, fun _ => Int.le_refl _⟩
    simp only [laws_szSymbolS.l0]
    exact ev_neg (by omega) (ev_some _)
  | succ d ih =>
    intro i a hi h0 h1
    have hi' : i < l.length := by omega
    have hx := (hl.2 _ (List.getElem_mem hi')).1
    unfold maxLen at hx
    have hm := hl.1
    unfold maxLen at hm
    have hw : wrap64 (a - ((l[i]).f0.size : Int)) = a - ((l[i]).f0.size : Int) := wrap_id (by omega) (by omega)
    by_cases hn : a - ((l[i]).f0.size : Int) < 0
    · refine ⟨-1, ev_succ ?_, fun h => by omega⟩
      simp only [laws_szSymbolS.l0]
      refine ev_pos (by omega) (ev_pos (by omega) ?_)
      rw [rdL_get l i hi']
      refine ev_bindq (a := -1) ?_ (ev_pos (by omega) (ev_some _))
      unfold laws_szSymbol.f
      rw [hw, if_pos hn]
    · obtain ⟨r, hr, hle⟩ := ih (i + 1) (a - ((l[i]).f0.size : Int)) (by omega) (by omega) (by omega)
      refine ⟨r, ev_succ ?_, fun h => by have := hle h; omega⟩
      simp only [laws_szSymbolS.l0]
      refine ev_pos (by omega) (ev_pos (by omega) ?_)
      rw [rdL_get l i hi', wrap_up (by omega)]
      refine ev_bindq (a := a - ((l[i]).f0.size : Int)) ?_ (ev_neg hn hr)
      unfold laws_szSymbol.f
      rw [hw, if_neg hn]
theorem szSignature_ev (l : List S123) (hl : FitsL l) (a : Int) (h0 : 0 ≤ a) (h1 : a ≤ 1048576) :
    ∃ r, Ev (fun k => laws_szSignature.f k l a) r ∧ (¬ r < 0 → (l.length : Int) ≤ a ∧ r ≤ a) := by
  have hm := hl.1
  unfold maxLen at hm
  have hw : wrap64 (a - (l.length : Int)) = a - (l.length : Int) := wrap_id (by omega) (by omega)
  by_cases hn : a - (l.length : Int) < 0
  · refine ⟨-1, ?_, fun h => by omega⟩
    unfold laws_szSignature.f
    refine ev_bind (a := -1) ?_ (ev_pos (by omega) (ev_some _))
    unfold laws_szSymbolS.f
    rw [hw]
    exact ev_pos hn (ev_some _)
  · obtain ⟨r, hr, hle⟩ := szSymbolS_l0 l hl l.length 0 (a - (l.length : Int)) (by omega) (by omega) (by omega)
    have hs : Ev (fun k => laws_szSymbolS.f k l a) r := by
      unfold laws_szSymbolS.f
      rw [hw]
      exact ev_neg hn hr
    by_cases hr0 : r < 0
    · refine ⟨-1, ?_, fun h => by omega⟩
      unfold laws_szSignature.f
      exact ev_bind hs (ev_pos hr0 (ev_some _))
    · refine ⟨r, ?_, fun h => ?_⟩
      · unfold laws_szSignature.f
        exact ev_bind hs (ev_neg hr0 (ev_some _))
      · have := hle (by omega)
        omega
theorem toSymbolS_l0 (l : List S123) (hl : l.length ≤ 1048576) : ∀ (d i : Nat), i + d = l.length → Ev (fun k => laws_toSymbolS.l0 k l (cpart z110 (l.map toI) i) (i : Int)) (l.map toI) := by
  intro d
  induction d with
  | zero =>
    intro i hi
    refine ev_succ ?_
    simp only [laws_toSymbolS.l0]
    refine ev_neg (by omega) ?_
    have e : i = (l.map toI).length := by rw [List.length_map]; omega
    rw [e, cpart_end]
    exact ev_some _
  | succ d ih =>
    intro i hi
    have hi' : i < l.length := by omega
    refine ev_succ ?_
    simp only [laws_toSymbolS.l0]
    refine ev_pos (by omega) (ev_pos (by omega) ?_)
    unfold laws_toSymbol.f
    refine ev_bindq rfl (ev_pos (by rw [cpart_length _ _ _ (by rw [List.length_map]; omega), List.length_map]; omega) ?_)
    rw [rdL_get l i hi', wrap_up (by omega), Int.toNat_natCast, cpart_set z110 (l.map toI) i (by rw [List.length_map]; omega) (⟨(l[i]).f0, (l[i]).f1⟩ : S110) (by rw [List.getElem?_map, List.getElem?_eq_getElem hi']; rfl)]
    exact ih (i + 1) (by omega)
theorem toSignature_ev (l : List S123) (hl : l.length ≤ 1048576) : Ev (fun k => laws_toSignature.f k l) (l.map toI) := by
  unfold laws_toSignature.f
  refine ev_bind (a := l.map toI) ?_ (ev_some _)
  unfold laws_toSymbolS.f
  refine ev_pos (by omega) (ev_pos (by omega) ?_)
  have := toSymbolS_l0 l hl l.length 0 (by omega)
  rw [cpart_zero, List.length_map] at this
  rw [Int.toNat_natCast]
  exact this
theorem eqSymbolS_l0 (a : List S110) (hl : a.length ≤ 9223372036854775807) : ∀ (d i : Nat), i + d = a.length → Ev (fun k => laws_eqSymbolS.l0 k a a (i : Int)) true := by
  intro d
  induction d with
  | zero =>
    intro i hi
    refine ev_succ ?_
    simp only [laws_eqSymbolS.l0]
    exact ev_neg (by omega) (ev_some _)
  | succ d ih =>
    intro i hi
    refine ev_succ ?_
    simp only [laws_eqSymbolS.l0]
    refine ev_pos (by omega) (ev_pos (by omega) (ev_pos (by omega) (ev_bindq (a := true) ?_ (ev_pos rfl ?_))))
    · unfold laws_eqSymbol.f
      rw [if_pos rfl, if_pos rfl]
    · rw [wrap_up (by omega)]
      exact ih (i + 1) (by omega)
theorem eqSignature_ev (a : List S110) (hl : a.length ≤ 9223372036854775807) : Ev (fun k => laws_eqSignature.f k a a) true := by
  unfold laws_eqSignature.f
  refine ev_bind (a := true) ?_ (ev_pos rfl (ev_some _))
  unfold laws_eqSymbolS.f
  exact ev_pos rfl (eqSymbolS_l0 a hl a.length 0 (by omega))
end Go.Proofs.YtcanokiehjjbgaaDoor.Pure
set_option linter.unusedVariables false
namespace Go.Proofs.YtcanokiehjjbgaaDoor.Pure
open Go.RowKit Go.Proofs.YtcanokiehjjbgaaDoor.P Go.Proofs.YtcanokiehjjbgaaDoorW.PrintWords Go.Proofs.YtcanokiehjjbgaaDoorW.PrintLast Go.Proofs.YtcanokiehjjbgaaDoor.Base
theorem bt_get (s : ByteArray) (i : Nat) (h : i < s.data.toList.length) : bt s (i : Int) = ((s.data.toList[i]).toNat : Int) := by
  have hs : i < s.size := by rw [Lib.size_eq]; exact h
  unfold bt
  rw [dif_pos (by simpa using hs)]
  rfl
theorem l2Name_l0 (s : ByteArray) (hl : s.size ≤ 3) : ∀ (d i : Nat), i + d = s.size → Ev (fun k => spec_l2Name.l0 k s (i : Int)) ((s.data.toList.drop i).all letterB) := by
  have hz := Lib.size_eq s
  intro d
  induction d with
  | zero =>
    intro i hi
    refine ev_succ ?_
    simp only [spec_l2Name.l0]
    refine ev_neg (by omega) (ev_to (ev_some _) ?_)
    rw [List.drop_eq_nil_of_le (by omega)]; rfl
  | succ d ih =>
    intro i hi
    have hi' : i < s.data.toList.length := by omega
    refine ev_succ ?_
    simp only [spec_l2Name.l0]
    refine ev_pos (by omega) (ev_pos (by omega) ?_)
    rw [bt_get s i hi', List.drop_eq_getElem_cons hi', wrap_up (by omega)]
    generalize s.data.toList[i] = b
    by_cases h1 : (b.toNat : Int) < 97
    · refine ev_pos h1 (ev_to (ev_some _) ?_)
      have : letterB b = false := by unfold letterB; simp; omega
      simp [this]
    refine ev_neg h1 ?_
    by_cases h2 : (b.toNat : Int) > 122
    · refine ev_pos h2 (ev_to (ev_some _) ?_)
      have : letterB b = false := by unfold letterB; simp; omega
      simp [this]
    refine ev_neg h2 (ev_to (ih (i + 1) (by omega)) ?_)
    have : letterB b = true := by unfold letterB; simp; omega
    simp [this]
theorem l2Name_ev (s : ByteArray) : Ev (fun k => spec_l2Name.f k s) (nameB s) := by
  unfold spec_l2Name.f nameB
  by_cases h1 : (s.size : Int) < 1
  · refine ev_pos h1 (ev_succ ?_)
    simp only [spec_l2Name.j0]
    exact ev_pos (by simp) (ev_to (ev_some _) (by simp; omega))
  refine ev_neg h1 (ev_succ ?_)
  simp only [spec_l2Name.j0]
  by_cases h2 : (s.size : Int) > 3
  · exact ev_pos (by simpa using h2) (ev_to (ev_some _) (by simp; omega))
  refine ev_neg (by simpa using h2) (ev_to (l2Name_l0 s (by omega) s.size 0 (by omega)) ?_)
  have : decide (1 ≤ s.size ∧ s.size ≤ 3) = true := by simp; omega
  rw [this]; rfl
theorem isName_eq (s : ByteArray) : impl_isName.f s = some (nameB s) := by
  unfold impl_isName.f nameB
  by_cases h1 : (s.size : Int) ≥ 1
  · rw [if_pos h1]
    by_cases h2 : (s.size : Int) ≤ 3
    · rw [if_pos h2]
      have ht : strings_Trim.f s abc = some ⟨(Lib.trimS s.data.toList abc.data.toList).toArray⟩ := by
        unfold strings_Trim.f
        exact if_pos ⟨by omega, by decide, by decide +kernel⟩
      refine bind_eq ht ?_
      have : decide (1 ≤ s.size ∧ s.size ≤ 3) = true := by simp; omega
      rw [this, Lib.toList_data]
      simp only [Bool.true_and]
      rw [← trim_abc]
    · rw [if_neg h2]
      have : decide (1 ≤ s.size ∧ s.size ≤ 3) = false := by simp; omega
      rw [this]; rfl
  · rw [if_neg h1]
    have : decide (1 ≤ s.size ∧ s.size ≤ 3) = false := by simp; omega
    rw [this]; rfl
def nameAt (l : List S110) (i : Nat) : List UInt8 := (rd_T110 l (i : Int)).f0.toList
def symFault (l : List S110) (i : Nat) : Option Int :=
  if nameB (rd_T110 l (i : Int)).f0 = true then (if 0 ≤ (rd_T110 l (i : Int)).f1 ∧ (rd_T110 l (i : Int)).f1 ≤ 2 then none else some 3) else some 5
def dupB (l : List S110) (i : Nat) : Bool := (firstN (fun j => nameAt l i == nameAt l j) i 0).isSome
def dupFault (l : List S110) (i : Nat) : Option Int := if dupB l i = true then some 6 else none
def zeroB (l : List S110) : Bool := (firstN (fun j => (rd_T110 l (j : Int)).f1 == 0) l.length 0).isSome
def sigF (l : List S110) : Int :=
  if l.length < 1 ∨ l.length > 6 then 2 else scanN (symFault l) (scanN (dupFault l) (if zeroB l = true then 0 else 4) l.length 0) l.length 0
theorem within_eq (a b c : Int) : impl_within.f a b c = some (decide (b ≤ a ∧ a ≤ c)) := by
  unfold impl_within.f
  by_cases h : a ≥ b
  · rw [if_pos h]
    by_cases h' : a ≤ c
    · simp [h']; omega
    · simp [h']
  · rw [if_neg h]
    simp; omega
theorem l1In_eq (a b c : Int) : spec_l1In.f a b c = some (decide (b ≤ a ∧ a ≤ c)) := by
  unfold spec_l1In.f
  by_cases h : a ≥ b
  · rw [if_pos h]
    by_cases h' : a ≤ c
    · simp [h']; omega
    · simp [h']
  · rw [if_neg h]
    simp; omega
theorem Sig_l3 (l : List S110) (hl : l.length ≤ 6) : Ev (fun k => spec_SignatureFault.l3 k (l.length : Int) 0 l) (if zeroB l = true then 0 else 4) := by
  have h := loop_scan l.length (fun j => if ((rd_T110 l (j : Int)).f1 == 0) = true then some 0 else none) 4 (fun k i => spec_SignatureFault.l3 k (l.length : Int) i l)
    (by simp only [spec_SignatureFault.l3]; exact ev_neg (by omega) (ev_some _))
    (fun i hi r hr => by
      simp only [spec_SignatureFault.l3]
      refine ev_pos (by omega) (ev_pos (by omega) (ev_pos (by omega) ?_))
      rw [wrap_up (by omega)]
      by_cases h : (rd_T110 l (i : Int)).f1 = 0
      · refine ev_pos h (ev_to (ev_some _) (by simp [h]))
      · refine ev_neg h (ev_to hr (by simp [h])))
    l.length 0 (by omega)
  refine ev_to h ?_
  rw [scanN_first (fun j => (rd_T110 l (j : Int)).f1 == 0) (fun _ => (0 : Int)) 4]
  unfold zeroB
  cases firstN (fun j => (rd_T110 l (j : Int)).f1 == 0) l.length 0 <;> rfl
theorem Sig_l2 (l : List S110) (hl : l.length ≤ 6) (i : Nat) (hi : i < l.length) (r : Int) (hr : Ev (fun k => spec_SignatureFault.l1 k (l.length : Int) ((i + 1 : Nat) : Int) l) r) :
    Ev (fun k => spec_SignatureFault.l2 k (l.length : Int) (i : Int) 0 l) ((dupFault l i).getD r) := by
  have h := loop_scan i (fun j => if (nameAt l i == nameAt l j) = true then some 6 else none) r (fun k j => spec_SignatureFault.l2 k (l.length : Int) (i : Int) j l)
    (by simp only [spec_SignatureFault.l2]; refine ev_neg (by omega) ?_; rw [wrap_up (by omega)]; exact hr)
    (fun j hj r hr => by
      simp only [spec_SignatureFault.l2]
      refine ev_pos (by omega) (ev_pos (by omega) (ev_pos (by omega) (ev_pos (by omega) (ev_pos (by omega) ?_))))
      rw [wrap_up (by omega)]
      by_cases h : nameAt l i = nameAt l j
      · refine ev_pos h (ev_to (ev_some _) (by simp [h]))
      · refine ev_neg h (ev_to hr (by simp [h])))
    i 0 (by omega)
  refine ev_to h ?_
  rw [scanN_first (fun j => nameAt l i == nameAt l j) (fun _ => (6 : Int)) r]
  unfold dupFault dupB
  cases firstN (fun j => nameAt l i == nameAt l j) i 0 <;> rfl
theorem Sig_l1 (l : List S110) (hl : l.length ≤ 6) : Ev (fun k => spec_SignatureFault.l1 k (l.length : Int) 0 l) (scanN (dupFault l) (if zeroB l = true then 0 else 4) l.length 0) :=
  loop_scan l.length (dupFault l) (if zeroB l = true then 0 else 4) (fun k i => spec_SignatureFault.l1 k (l.length : Int) i l)
    (by simp only [spec_SignatureFault.l1]; exact ev_neg (by omega) (Sig_l3 l hl))
    (fun i hi r hr => by
      simp only [spec_SignatureFault.l1]
      exact ev_pos (by omega) (Sig_l2 l hl i hi r hr))
    l.length 0 (by omega)
theorem Sig_l0 (l : List S110) (hl : l.length ≤ 6) : Ev (fun k => spec_SignatureFault.l0 k (l.length : Int) 0 l) (scanN (symFault l) (scanN (dupFault l) (if zeroB l = true then 0 else 4) l.length 0) l.length 0) :=
  loop_scan l.length (symFault l) _ (fun k i => spec_SignatureFault.l0 k (l.length : Int) i l)
    (by simp only [spec_SignatureFault.l0]; exact ev_neg (by omega) (Sig_l1 l hl))
    (fun i hi r hr => by
      simp only [spec_SignatureFault.l0]
      refine ev_pos (by omega) (ev_pos (by omega) (ev_pos (by omega) (ev_bind (l2Name_ev _) ?_)))
      unfold symFault
      by_cases h : nameB (rd_T110 l (i : Int)).f0 = true
      · refine ev_pos h (ev_bindq (l1In_eq _ _ _) ?_)
        rw [if_pos h, wrap_up (by omega)]
        by_cases h' : 0 ≤ (rd_T110 l (i : Int)).f1 ∧ (rd_T110 l (i : Int)).f1 ≤ 2
        · rw [if_pos h']
          exact ev_pos (by simpa using h') hr
        · rw [if_neg h']
          exact ev_neg (by simpa using h') (ev_some _)
      · rw [if_neg h]
        exact ev_neg h (ev_some _))
    l.length 0 (by omega)
theorem SignatureFault_spec (l : List S110) : Ev (fun k => spec_SignatureFault.f k l) (sigF l) := by
  unfold spec_SignatureFault.f sigF
  by_cases h1 : (l.length : Int) < 1
  · rw [if_pos (.inl (by omega))]
    refine ev_pos h1 (ev_succ ?_)
    simp only [spec_SignatureFault.j0]
    exact ev_pos (by simp) (ev_some _)
  refine ev_neg h1 (ev_succ ?_)
  simp only [spec_SignatureFault.j0]
  by_cases h2 : (l.length : Int) > 6
  · rw [if_pos (.inr (by omega))]
    exact ev_pos (by simpa using h2) (ev_some _)
  · rw [if_neg (by omega)]
    exact ev_neg (by simpa using h2) (Sig_l0 l (by omega))
theorem symbolIndex_ev (l : List S110) (hl : l.length ≤ 1048576) (s : ByteArray) : Ev (fun k => impl_symbolIndex.f k l s) (placeN (fun j => nameAt l j == s.toList) l.length) := by
  unfold impl_symbolIndex.f
  refine ev_bind (a := placeN (fun j => nameAt l j == s.toList) l.length) ?_ (ev_some _)
  unfold slices_IndexFunc_impl_Symbol_impl_Symbol_impl_symbolIndex_1.f
  have h := loop_scan l.length (fun j => if (nameAt l j == s.toList) = true then some (j : Int) else none) (-1) (fun k i => slices_IndexFunc_impl_Symbol_impl_Symbol_impl_symbolIndex_1.l0 k l (l.length : Int) i [s])
    (by simp only [slices_IndexFunc_impl_Symbol_impl_Symbol_impl_symbolIndex_1.l0]; exact ev_neg (by omega) (ev_some _))
    (fun i hi r hr => by
      simp only [slices_IndexFunc_impl_Symbol_impl_Symbol_impl_symbolIndex_1.l0]
      refine ev_pos (by omega) (ev_pos (by omega) (ev_pos (by omega) (ev_bindq (a := nameAt l i == s.toList) ?_ ?_)))
      · unfold impl_symbolIndex_1_with.f
        rw [if_pos (by simp)]
        rfl
      · rw [wrap_up (by omega)]
        by_cases h : (nameAt l i == s.toList) = true
        · rw [if_pos h]; exact ev_pos h (ev_some _)
        · rw [if_neg h]; exact ev_neg h hr)
    l.length 0 (by omega)
  rw [scanN_place (fun j => nameAt l j == s.toList)] at h
  exact h
theorem dup_place (l : List S110) (i : Nat) (hi : i < l.length) : placeN (fun j => nameAt l j == (rd_T110 l (i : Int)).f0.toList) l.length = (i : Int) ↔ dupB l i = false := by
  unfold dupB
  have hn : (firstN (fun j => nameAt l i == nameAt l j) i 0).isSome = false ↔ ∀ j, j < i → (nameAt l i == nameAt l j) = false := by
    rw [Option.isSome_eq_false_iff, Option.isNone_iff_eq_none, firstN_none]
    exact ⟨fun h j hj => h j (by omega) (by omega), fun h j _ hj => h j (by omega)⟩
  rw [hn]
  rcases placeN_cases (fun j => nameAt l j == (rd_T110 l (i : Int)).f0.toList) l.length with ⟨h1, h2⟩ | ⟨j, hj, h1, h2, h3⟩
  · have := h2 i hi
    simp [nameAt] at this
  · rw [h1]
    constructor
    · intro e
      obtain rfl : j = i := by omega
      intro m hm
      have := h3 m hm
      simp only [beq_eq_false_iff_ne, ne_eq] at this ⊢
      exact fun e => this e.symm
    · intro h
      have hji : ¬ j < i := fun hlt => by
        have := h j hlt
        simp only [beq_eq_false_iff_ne, ne_eq] at this
        exact this (by simpa [nameAt] using (eq_comm.1 (beq_iff_eq.1 h2)))
      have hij : ¬ i < j := fun hlt => by
        have := h3 i hlt
        simp [nameAt] at this
      omega
theorem ISig_last (l : List S110) (hl : l.length ≤ 6) : Ev (fun k => slices_ContainsFunc_impl_Symbol_impl_Symbol_impl_SignatureFault_1.f k l) (zeroB l) := by
  unfold slices_ContainsFunc_impl_Symbol_impl_Symbol_impl_SignatureFault_1.f slices_IndexFunc_impl_Symbol_impl_Symbol_impl_SignatureFault_1.f
  have h := loop_scan l.length (fun j => if ((rd_T110 l (j : Int)).f1 == 0) = true then some (j : Int) else none) (-1) (fun k i => slices_IndexFunc_impl_Symbol_impl_Symbol_impl_SignatureFault_1.l0 k l (l.length : Int) i)
    (by simp only [slices_IndexFunc_impl_Symbol_impl_Symbol_impl_SignatureFault_1.l0]; exact ev_neg (by omega) (ev_some _))
    (fun i hi r hr => by
      simp only [slices_IndexFunc_impl_Symbol_impl_Symbol_impl_SignatureFault_1.l0]
      refine ev_pos (by omega) (ev_pos (by omega) (ev_pos (by omega) (ev_bindq rfl ?_)))
      rw [wrap_up (by omega)]
      by_cases h : ((rd_T110 l (i : Int)).f1 == 0) = true
      · rw [if_pos h]; exact ev_pos h (ev_some _)
      · rw [if_neg h]; exact ev_neg h hr)
    l.length 0 (by omega)
  rw [scanN_first (fun j => (rd_T110 l (j : Int)).f1 == 0) (fun j => (j : Int)) (-1)] at h
  refine ev_bind h (ev_to (ev_some _) ?_)
  unfold zeroB
  cases firstN (fun j => (rd_T110 l (j : Int)).f1 == 0) l.length 0 with
  | none => rfl
  | some j => simp
theorem ISig_l1 (l : List S110) (hl : l.length ≤ 6) : Ev (fun k => impl_SignatureFault.l1 k l (l.length : Int) 0 l) (scanN (dupFault l) (if zeroB l = true then 0 else 4) l.length 0) :=
  loop_scan l.length (dupFault l) (if zeroB l = true then 0 else 4) (fun k i => impl_SignatureFault.l1 k l (l.length : Int) i l)
    (by
      simp only [impl_SignatureFault.l1]
      refine ev_neg (by omega) (ev_bind (ISig_last l hl) ?_)
      by_cases h : zeroB l = true
      · exact ev_to (ev_pos h (ev_some _)) (if_pos h).symm
      · exact ev_to (ev_neg h (ev_some _)) (if_neg h).symm)
    (fun i hi r hr => by
      simp only [impl_SignatureFault.l1]
      refine ev_pos (by omega) (ev_pos (by omega) (ev_pos (by omega) (ev_bind (symbolIndex_ev l (by omega) _) ?_)))
      have hd := dup_place l i hi
      rw [wrap_up (by omega)]
      unfold dupFault
      by_cases h : dupB l i = true
      · rw [if_pos h]
        exact ev_neg (fun e => by rw [hd.1 e] at h; cases h) (ev_some _)
      · rw [if_neg h]
        exact ev_pos (hd.2 (Bool.eq_false_iff.2 h)) hr)
    l.length 0 (by omega)
theorem SignatureFault_impl (l : List S110) : Ev (fun k => impl_SignatureFault.f k l) (sigF l) := by
  unfold impl_SignatureFault.f sigF
  by_cases h1 : (l.length : Int) < 1
  · rw [if_pos (.inl (by omega))]
    refine ev_pos h1 (ev_succ ?_)
    simp only [impl_SignatureFault.j0]
    exact ev_pos (by simp) (ev_some _)
  refine ev_neg h1 (ev_succ ?_)
  simp only [impl_SignatureFault.j0]
  by_cases h2 : (l.length : Int) > 6
  · rw [if_pos (.inr (by omega))]
    exact ev_pos (by simpa using h2) (ev_some _)
  rw [if_neg (by omega)]
  refine ev_neg (by simpa using h2) ?_
  exact loop_scan l.length (symFault l) _ (fun k i => impl_SignatureFault.l0 k l (l.length : Int) i l)
    (by simp only [impl_SignatureFault.l0]; exact ev_neg (by omega) (ISig_l1 l (by omega)))
    (fun i hi r hr => by
      simp only [impl_SignatureFault.l0]
      refine ev_pos (by omega) (ev_pos (by omega) (ev_pos (by omega) (ev_bindq (isName_eq _) ?_)))
      unfold symFault
      by_cases h : nameB (rd_T110 l (i : Int)).f0 = true
      · refine ev_pos h (ev_bindq (within_eq _ _ _) ?_)
        rw [if_pos h, wrap_up (by omega)]
        by_cases h' : 0 ≤ (rd_T110 l (i : Int)).f1 ∧ (rd_T110 l (i : Int)).f1 ≤ 2
        · rw [if_pos h']
          exact ev_pos (by simpa using h') hr
        · rw [if_neg h']
          exact ev_neg (by simpa using h') (ev_some _)
      · rw [if_neg h]
        exact ev_neg h (ev_some _))
    l.length 0 (by omega)
structure Right (l : List S110) : Prop where
  len : 1 ≤ l.length ∧ l.length ≤ 6
  names : ∀ i, i < l.length → nameB (rd_T110 l (i : Int)).f0 = true
  arities : ∀ i, i < l.length → 0 ≤ (rd_T110 l (i : Int)).f1 ∧ (rd_T110 l (i : Int)).f1 ≤ 2
  apart : ∀ i, i < l.length → dupB l i = false
theorem right_of (l : List S110) (h : sigF l = 0) : Right l := by
  unfold sigF at h
  by_cases h1 : l.length < 1 ∨ l.length > 6
  · rw [if_pos h1] at h; omega
  rw [if_neg h1] at h
  have hlen : 1 ≤ l.length ∧ l.length ≤ 6 := by omega
  rcases scanN_cases (symFault l) (scanN (dupFault l) (if zeroB l = true then 0 else 4) l.length 0) l.length 0 with ⟨h2, h3⟩ | ⟨j, _, _, h3⟩
  · rw [h3] at h
    rcases scanN_cases (dupFault l) (if zeroB l = true then 0 else 4) l.length 0 with ⟨h4, h5⟩ | ⟨j, _, _, h5⟩
    · refine ⟨hlen, fun i hi => ?_, fun i hi => ?_, fun i hi => ?_⟩
      · have := h2 i (by omega) (by omega)
        unfold symFault at this
        by_cases hn : nameB (rd_T110 l (i : Int)).f0 = true
        · exact hn
        · rw [if_neg hn] at this; cases this
      · have := h2 i (by omega) (by omega)
        unfold symFault at this
        by_cases hn : nameB (rd_T110 l (i : Int)).f0 = true
        · rw [if_pos hn] at this
          by_cases ha : 0 ≤ (rd_T110 l (i : Int)).f1 ∧ (rd_T110 l (i : Int)).f1 ≤ 2
          · exact ha
          · rw [if_neg ha] at this; cases this
        · rw [if_neg hn] at this; cases this
      · have := h4 i (by omega) (by omega)
        unfold dupFault at this
        by_cases hd : dupB l i = true
        · rw [if_pos hd] at this; cases this
        · exact Bool.eq_false_iff.2 hd
    · rw [h] at h5
      unfold dupFault at h5
      by_cases hd : dupB l j = true
      · rw [if_pos hd] at h5; cases h5
      · rw [if_neg hd] at h5; cases h5
  · rw [h] at h3
    unfold symFault at h3
    by_cases hn : nameB (rd_T110 l (j : Int)).f0 = true
    · rw [if_pos hn] at h3
      by_cases ha : 0 ≤ (rd_T110 l (j : Int)).f1 ∧ (rd_T110 l (j : Int)).f1 ≤ 2
      · rw [if_pos ha] at h3; cases h3
      · rw [if_neg ha] at h3; cases h3
    · rw [if_neg hn] at h3; cases h3
end Go.Proofs.YtcanokiehjjbgaaDoor.Pure
set_option linter.unusedVariables false
namespace Go.Proofs.YtcanokiehjjbgaaDoor.Pure
open Go.RowKit Go.Proofs.YtcanokiehjjbgaaDoor.P Go.Proofs.YtcanokiehjjbgaaDoorW.PrintWords Go.Proofs.YtcanokiehjjbgaaDoorW.PrintLast Go.Proofs.YtcanokiehjjbgaaDoor.Base
def symB (l : List S110) (n : Int) : Bool := decide (0 ≤ n ∧ n ≤ (l.length : Int) - 1)
theorem l2Symbol_eq (l : List S110) (hl : l.length ≤ 1048576) (n : Int) : spec_l2Symbol.f [(⟨l⟩ : S26)] n = some (symB l n) := by
  unfold spec_l2Symbol.f
  rw [if_pos (by simp)]
  show (spec_l1In.f n 0 (wrap64 ((l.length : Int) - 1))).bind _ = _
  rw [l1In_eq, wrap_id (by omega) (by omega)]
  rfl
theorem isSymbol_eq (l : List S110) (hl : l.length ≤ 1048576) (n : Int) : impl_isSymbol.f l n = some (symB l n) := by
  unfold impl_isSymbol.f
  rw [within_eq, wrap_id (by omega) (by omega)]
  rfl
theorem symB_true {l : List S110} {n : Int} (h : symB l n = true) : 0 ≤ n ∧ n < (l.length : Int) := by
  unfold symB at h
  have := of_decide_eq_true h
  omega
end Go.Proofs.YtcanokiehjjbgaaDoor.Pure
set_option linter.unusedVariables false
namespace Go.Proofs.YtcanokiehjjbgaaDoor.Pure
open Go.RowKit Go.Proofs.YtcanokiehjjbgaaDoor.P Go.Proofs.YtcanokiehjjbgaaDoorW.PrintWords Go.Proofs.YtcanokiehjjbgaaDoorW.PrintLast Go.Proofs.YtcanokiehjjbgaaDoor.Base
theorem slicesIndex_ev (o : List Int) (ho : o.length ≤ 9000000000000000000) (v : Int) : Ev (fun k => slices_Index_int64_int64.f k o v) (placeN (fun j => v == rd o (j : Int)) o.length) := by
  unfold slices_Index_int64_int64.f
  have h := loop_scan o.length (fun j => if (v == rd o (j : Int)) = true then some (j : Int) else none) (-1) (fun k i => slices_Index_int64_int64.l0 k o v (o.length : Int) i)
    (by simp only [slices_Index_int64_int64.l0]; exact ev_neg (by omega) (ev_some _))
    (fun i hi r hr => by
      simp only [slices_Index_int64_int64.l0]
      refine ev_pos (by omega) (ev_pos (by omega) (ev_pos (by omega) ?_))
      rw [wrap_up (by omega)]
      by_cases h : v = rd o (i : Int)
      · exact ev_pos h (ev_to (ev_some _) (by simp [h]))
      · exact ev_neg h (ev_to hr (by simp [h])))
    o.length 0 (by omega)
  rw [scanN_place (fun j => v == rd o (j : Int))] at h
  exact h
end Go.Proofs.YtcanokiehjjbgaaDoor.Pure
set_option linter.unusedVariables false
namespace Go.Proofs.YtcanokiehjjbgaaDoor.Pure
open Go.RowKit Go.Proofs.YtcanokiehjjbgaaDoorW.PrintWords Go.Proofs.YtcanokiehjjbgaaDoor.Base
def skipN (ar : Int → Nat) : Nat → List Int → Option (List Int)
  | 0, t => some t
  | _ + 1, [] => none
  | k + 1, n :: t => skipN ar (k + ar n) t
theorem skipN_zero (ar : Int → Nat) (t : List Int) : skipN ar 0 t = some t := by cases t <;> rfl
theorem skipN_add (ar : Int → Nat) (m : Nat) : ∀ (t : List Int) (k : Nat), skipN ar (k + m) t = (skipN ar k t).bind (skipN ar m)
  | t, 0 => by rw [skipN_zero, Nat.zero_add]; rfl
  | [], k + 1 => by rw [show k + 1 + m = (k + m) + 1 by omega]; rfl
  | n :: t, k + 1 => by
    rw [show k + 1 + m = (k + m) + 1 by omega]
    show skipN ar (k + m + ar n) t = (skipN ar (k + ar n) t).bind (skipN ar m)
    rw [show k + m + ar n = k + ar n + m by omega]
    exact skipN_add ar m t (k + ar n)
theorem skipN_cons (ar : Int → Nat) (n : Int) (t : List Int) (k : Nat) : skipN ar (k + 1) (n :: t) = skipN ar (k + ar n) t := rfl
theorem skipN_suffix (ar : Int → Nat) : ∀ (t : List Int) (k : Nat) (u : List Int), skipN ar k t = some u → ∃ d, u = t.drop d ∧ d ≤ t.length ∧ k ≤ d
  | t, 0, u, h => by
    rw [skipN_zero] at h
    obtain rfl := Option.some.inj h
    exact ⟨0, by simp, by omega, by omega⟩
  | [], k + 1, u, h => by cases h
  | n :: t, k + 1, u, h => by
    obtain ⟨d, e, hd, hk⟩ := skipN_suffix ar t (k + ar n) u h
    exact ⟨d + 1, by rw [e]; rfl, by simp; omega, by omega⟩
def endN (ar : Int → Nat) (term : List Int) (k at_ : Nat) : Option Nat := (skipN ar k (term.drop at_)).map fun u => term.length - u.length
theorem endN_some {ar : Int → Nat} {term : List Int} {k at_ e : Nat} (hat : at_ ≤ term.length) (h : endN ar term k at_ = some e) : skipN ar k (term.drop at_) = some (term.drop e) ∧ at_ + k ≤ e ∧ e ≤ term.length := by
  unfold endN at h
  cases hs : skipN ar k (term.drop at_) with
  | none => rw [hs] at h; cases h
  | some u =>
    rw [hs] at h
    obtain ⟨d, e1, hd, hk⟩ := skipN_suffix ar _ _ _ hs
    rw [List.length_drop] at hd
    have he : term.length - u.length = e := Option.some.inj h
    have hul : u.length = term.length - (at_ + d) := by rw [e1, List.drop_drop, List.length_drop]
    have hed : e = at_ + d := by omega
    refine ⟨?_, by omega, by omega⟩
    rw [e1, List.drop_drop, hed]
theorem endN_zero (ar : Int → Nat) (term : List Int) (at_ : Nat) (hat : at_ ≤ term.length) : endN ar term 0 at_ = some at_ := by
  unfold endN
  rw [skipN_zero]
  simp only [Option.map_some, List.length_drop]
  congr 1; omega
theorem endN_out (ar : Int → Nat) (term : List Int) (k at_ : Nat) (hk : 0 < k) (hat : term.length ≤ at_) : endN ar term k at_ = none := by
  unfold endN
  obtain ⟨m, rfl⟩ : ∃ m, k = m + 1 := ⟨k - 1, by omega⟩
  rw [List.drop_eq_nil_of_le hat]; rfl
theorem endN_step (ar : Int → Nat) (term : List Int) (k at_ : Nat) (hat : at_ < term.length) : endN ar term (k + 1) at_ = endN ar term (k + ar term[at_]) (at_ + 1) := by
  unfold endN
  rw [List.drop_eq_getElem_cons hat, skipN_cons]
theorem endN_add (ar : Int → Nat) (term : List Int) (k m at_ : Nat) (hat : at_ ≤ term.length) : endN ar term (k + m) at_ = (endN ar term k at_).bind fun e => endN ar term m e := by
  cases h : endN ar term k at_ with
  | none =>
    unfold endN at h ⊢
    rw [skipN_add]
    cases hs : skipN ar k (term.drop at_) with
    | none => rfl
    | some u => rw [hs] at h; cases h
  | some e =>
    obtain ⟨hs, _, _⟩ := endN_some hat h
    simp only [Option.bind_some]
    unfold endN
    rw [skipN_add, hs]
    rfl
end Go.Proofs.YtcanokiehjjbgaaDoor.Pure
set_option linter.unusedVariables false
namespace Go.Proofs.YtcanokiehjjbgaaDoor.Pure
open Go.RowKit Go.Proofs.YtcanokiehjjbgaaDoorW.PrintWords Go.Proofs.YtcanokiehjjbgaaDoor.Base
def Whole (ar : Int → Nat) (t : List Int) : Prop := skipN ar 1 t = some []
theorem whole_iff {ar : Int → Nat} {t : List Int} : endN ar t 1 0 = some t.length ↔ Whole ar t := by
  constructor
  · intro h
    obtain ⟨h1, _, _⟩ := endN_some (by omega) h
    rw [List.drop_zero, List.drop_length] at h1
    exact h1
  · intro h
    unfold endN
    rw [List.drop_zero, h]
    simp
end Go.Proofs.YtcanokiehjjbgaaDoor.Pure
set_option linter.unusedVariables false
namespace Go.Proofs.YtcanokiehjjbgaaDoor.Pure
open Go.RowKit Go.Proofs.YtcanokiehjjbgaaDoor.P Go.Proofs.YtcanokiehjjbgaaDoorW.PrintWords Go.Proofs.YtcanokiehjjbgaaDoorW.PrintLast Go.Proofs.YtcanokiehjjbgaaDoor.Base
def nodeB (l : List S110) (n : Int) : Bool := symB l n || decide (-12 ≤ n ∧ n ≤ -1)
def arL (l : List S110) (n : Int) : Nat := if n < 0 then 0 else (rd_T110 l n).f1.toNat
theorem l3Node_eq (l : List S110) (hl : l.length ≤ 6) (n : Int) : spec_l3Node.f [(⟨l⟩ : S26)] n = some (nodeB l n) := by
  unfold spec_l3Node.f nodeB
  rw [l2Symbol_eq l (by omega)]
  simp only [Option.bind_some]
  by_cases h : symB l n = true
  · rw [if_pos h, h]; rfl
  · rw [if_neg h, l1In_eq, Bool.eq_false_iff.2 h]; rfl
theorem isNode_eq (l : List S110) (hl : l.length ≤ 6) (n : Int) : impl_isNode.f l n = some (nodeB l n) := by
  unfold impl_isNode.f nodeB
  rw [isSymbol_eq l (by omega)]
  simp only [Option.bind_some]
  by_cases h : symB l n = true
  · rw [if_pos h, h]; rfl
  · rw [if_neg h, within_eq, Bool.eq_false_iff.2 h]; rfl
def Nodes (l : List S110) (t : List Int) : Prop := ∀ i, i < t.length → nodeB l (rd t (i : Int)) = true
theorem node_sym {l : List S110} {n : Int} (h : nodeB l n = true) (h0 : ¬ n < 0) : 0 ≤ n ∧ n < (l.length : Int) := by
  unfold nodeB at h
  rw [Bool.or_eq_true] at h
  rcases h with h | h
  · exact symB_true h
  · have := of_decide_eq_true h; omega
theorem arL_cast {l : List S110} (hr : Right l) {n : Int} (h : nodeB l n = true) (h0 : ¬ n < 0) : (rd_T110 l n).f1 = (arL l n : Int) ∧ arL l n ≤ 2 := by
  obtain ⟨a, b⟩ := node_sym h h0
  have := hr.arities n.toNat (by omega)
  rw [Int.toNat_of_nonneg a] at this
  unfold arL
  rw [if_neg h0]
  omega
theorem arL_le {l : List S110} (hr : Right l) {n : Int} (h : nodeB l n = true) : arL l n ≤ 2 := by
  by_cases h0 : n < 0
  · unfold arL; rw [if_pos h0]; omega
  · exact (arL_cast hr h h0).2
def endI (o : Option Nat) : Int := match o with
  | some e => (e : Int)
  | none => -1
theorem l3End_loop (l : List S110) (hr : Right l) (t : List Int) (ht : t.length ≤ 1048576) (hn : Nodes l t) (at_ : Nat) (hat : at_ < t.length) (h0 : ¬ rd t (at_ : Int) < 0)
    (ih : ∀ e, at_ < e → e ≤ t.length → Ev (fun k => spec_l3End.f k [(⟨l⟩ : S26)] t (e : Int)) (endI (endN (arL l) t 1 e))) :
    ∀ (m i e : Nat), i + m = arL l (rd t (at_ : Int)) → at_ < e → e ≤ t.length → Ev (fun k => spec_l3End.l0 k [(⟨l⟩ : S26)] t (at_ : Int) (e : Int) (i : Int)) (endI (endN (arL l) t m e)) := by
  obtain ⟨s0, s1⟩ := node_sym (hn at_ hat) h0
  obtain ⟨ha, ha2⟩ := arL_cast hr (hn at_ hat) h0
  have e0 : (rd_T26 [(⟨l⟩ : S26)] 0).f0 = l := rfl
  intro m
  induction m with
  | zero =>
    intro i e hi he hel
    refine ev_succ ?_
    simp only [spec_l3End.l0, e0]
    refine ev_pos (by simp) (ev_pos (by omega) (ev_pos (by omega) (ev_pos s0 (ev_pos s1 ?_))))
    rw [ha, endN_zero _ _ _ hel]
    exact ev_neg (by omega) (ev_some _)
  | succ m ihm =>
    intro i e hi he hel
    refine ev_succ ?_
    simp only [spec_l3End.l0, e0]
    refine ev_pos (by simp) (ev_pos (by omega) (ev_pos (by omega) (ev_pos s0 (ev_pos s1 ?_))))
    rw [ha]
    refine ev_pos (by omega) (ev_bind (ih e he hel) ?_)
    rw [show m + 1 = 1 + m by omega, endN_add _ _ 1 m e hel]
    cases hE : endN (arL l) t 1 e with
    | none => exact ev_pos (by simp [endI]) (ev_some _)
    | some e' =>
      obtain ⟨_, h1, h2⟩ := endN_some hel hE
      refine ev_neg (by simp [endI]) ?_
      rw [wrap_up (by omega)]
      simp only [Option.bind_some]
      exact ihm (i + 1) e' (by omega) (by omega) h2
theorem l3End_ev (l : List S110) (hr : Right l) (t : List Int) (ht : t.length ≤ 1048576) (hn : Nodes l t) : ∀ (d at_ : Nat), at_ + d = t.length → Ev (fun k => spec_l3End.f k [(⟨l⟩ : S26)] t (at_ : Int)) (endI (endN (arL l) t 1 at_)) := by
  intro d
  induction d using Nat.strongRecOn with
  | _ d ih =>
    intro at_ hd
    refine ev_succ ?_
    simp only [spec_l3End.f]
    by_cases hat : t.length ≤ at_
    · rw [endN_out _ _ _ _ (by omega) hat]
      exact ev_pos (by omega) (ev_some _)
    have hat' : at_ < t.length := by omega
    refine ev_neg (by omega) (ev_pos (by omega) (ev_pos (by omega) ?_))
    rw [endN_step _ _ 0 _ hat', ← rd_get t at_ hat', Nat.zero_add, wrap_up (by omega)]
    by_cases h0 : rd t (at_ : Int) < 0
    · refine ev_pos h0 ?_
      have : arL l (rd t (at_ : Int)) = 0 := by unfold arL; rw [if_pos h0]
      rw [this, endN_zero _ _ _ (by omega)]
      exact ev_some _
    · refine ev_neg h0 ?_
      exact l3End_loop l hr t ht hn at_ hat' h0 (fun e he hel => ih (t.length - e) (by omega) e (by omega)) _ 0 (at_ + 1) (by omega) (by omega) (by omega)
def endJ (n : Nat) (o : Option Nat) : Int := match o with
  | some e => (e : Int)
  | none => (n : Int) + 1
theorem arityOf_eq (l : List S110) (hr : Right l) (n : Int) (h : nodeB l n = true) : impl_arityOf.f l n = some (arL l n : Int) := by
  unfold impl_arityOf.f
  by_cases h0 : n < 0
  · rw [if_pos h0]; unfold arL; rw [if_pos h0]; rfl
  · obtain ⟨s0, s1⟩ := node_sym h h0
    rw [if_neg h0, if_pos s0, if_pos s1, (arL_cast hr h h0).1]
theorem endOf_l0 (l : List S110) (hr : Right l) (t : List Int) (ht : t.length ≤ 1048576) (hn : Nodes l t) : ∀ (d at_ o : Nat), at_ + d = t.length → o ≤ 2 * at_ + 1 → Ev (fun k => impl_endOf.l0 k t (at_ : Int) (o : Int) l) (endJ t.length (endN (arL l) t o at_)) := by
  intro d
  induction d with
  | zero =>
    intro at_ o hd ho
    refine ev_succ ?_
    simp only [impl_endOf.l0]
    cases o with
    | zero =>
      rw [endN_zero _ _ _ (by omega)]
      exact ev_neg (by omega) (ev_some _)
    | succ o =>
      rw [endN_out _ _ _ _ (by omega) (by omega)]
      refine ev_pos (by omega) (ev_pos (by omega) ?_)
      rw [wrap_up (by omega)]
      exact ev_to (ev_some _) (by simp [endJ])
  | succ d ih =>
    intro at_ o hd ho
    refine ev_succ ?_
    simp only [impl_endOf.l0]
    cases o with
    | zero =>
      rw [endN_zero _ _ _ (by omega)]
      exact ev_neg (by omega) (ev_some _)
    | succ o =>
      have hat : at_ < t.length := by omega
      refine ev_pos (by omega) (ev_neg (by omega) (ev_pos (by omega) (ev_pos (by omega) (ev_bindq (arityOf_eq l hr _ (hn at_ hat)) ?_))))
      have ha := arL_le hr (hn at_ hat)
      rw [endN_step _ _ o _ hat, ← rd_get t at_ hat, wrap_up (by omega)]
      generalize arL l (rd t (at_ : Int)) = a at *
      rw [wrap_id (x := (a : Int) - 1) (by omega) (by omega), wrap_id (by omega) (by omega), show ((o + 1 : Nat) : Int) + ((a : Int) - 1) = ((o + a : Nat) : Int) by omega]
      exact ih (at_ + 1) (o + a) (by omega) (by omega)
theorem endOf_ev (l : List S110) (hr : Right l) (t : List Int) (ht : t.length ≤ 1048576) (hn : Nodes l t) (at_ : Nat) (hat : at_ ≤ t.length) : Ev (fun k => impl_endOf.f k l t (at_ : Int)) (endJ t.length (endN (arL l) t 1 at_)) := by
  unfold impl_endOf.f
  exact endOf_l0 l hr t ht hn (t.length - at_) at_ 1 (by omega) (by omega)
def badN (l : List S110) (t : List Int) : Bool := (firstN (fun j => !nodeB l (rd t (j : Int))) t.length 0).isSome
theorem nodes_of {l : List S110} {t : List Int} (h : ¬ badN l t = true) : Nodes l t := by
  unfold badN at h
  have h1 : firstN (fun j => !nodeB l (rd t (j : Int))) t.length 0 = none := by
    cases hf : firstN (fun j => !nodeB l (rd t (j : Int))) t.length 0 with
    | none => rfl
    | some j => rw [hf] at h; exact absurd rfl h
  intro i hi
  have := (firstN_none t.length 0).1 h1 i (by omega) (by omega)
  simpa using this
def termG (l : List S110) (t : List Int) : Int :=
  if t.length < 1 ∨ t.length > 24 then 2 else if badN l t = true then 3 else if endN (arL l) t 1 0 = some t.length then 0 else 1
def termF (l : List S110) (t : List Int) : Int := if sigF l = 0 then termG l t else sigF l
theorem l3Fault_ev (l : List S110) (hr : Right l) (t : List Int) (ht : t.length ≤ 1048576) : Ev (fun k => spec_l3Fault.f k [(⟨l⟩ : S26)] t) (termG l t) := by
  have hl := hr.len
  unfold spec_l3Fault.f termG
  by_cases h1 : (t.length : Int) < 1
  · rw [if_pos (.inl (by omega))]
    refine ev_pos h1 (ev_succ ?_)
    simp only [spec_l3Fault.j0]
    exact ev_pos (by simp) (ev_some _)
  refine ev_neg h1 (ev_succ ?_)
  simp only [spec_l3Fault.j0]
  by_cases h2 : (t.length : Int) > 24
  · rw [if_pos (.inr (by omega))]
    exact ev_pos (by simpa using h2) (ev_some _)
  rw [if_neg (by omega)]
  refine ev_neg (by simpa using h2) ?_
  by_cases hb : badN l t = true
  · rw [if_pos hb]
    unfold badN at hb
    cases hf : firstN (fun j => !nodeB l (rd t (j : Int))) t.length 0 with
    | none => rw [hf] at hb; cases hb
    | some j =>
      obtain ⟨_, hj, hp, hall⟩ := firstN_some _ _ _ hf
      have key : ∀ d i, i + d = j → Ev (fun k => spec_l3Fault.l0 k [(⟨l⟩ : S26)] t (i : Int)) 3 := by
        intro d
        induction d with
        | zero =>
          intro i hi
          obtain rfl : i = j := by omega
          refine ev_succ ?_
          simp only [spec_l3Fault.l0]
          refine ev_pos (by omega) (ev_pos (by omega) (ev_bindq (l3Node_eq l (by omega) _) ?_))
          exact ev_neg (by simpa using hp) (ev_some _)
        | succ d ih =>
          intro i hi
          refine ev_succ ?_
          simp only [spec_l3Fault.l0]
          refine ev_pos (by omega) (ev_pos (by omega) (ev_bindq (l3Node_eq l (by omega) _) ?_))
          have := hall i (by omega) (by omega)
          rw [wrap_up (by omega)]
          exact ev_pos (by simpa using this) (ih (i + 1) (by omega))
      exact key j 0 (by omega)
  · rw [if_neg hb]
    have hn := nodes_of hb
    have h := loop_scan t.length (fun j => if (!nodeB l (rd t (j : Int))) = true then some 3 else none) (if endN (arL l) t 1 0 = some t.length then 0 else 1) (fun k i => spec_l3Fault.l0 k [(⟨l⟩ : S26)] t i)
      (by
        simp only [spec_l3Fault.l0]
        refine ev_neg (by omega) (ev_bind (l3End_ev l hr t ht hn t.length 0 (by omega)) ?_)
        by_cases he : endN (arL l) t 1 0 = some t.length
        · rw [he]; exact ev_pos rfl (ev_to (ev_some _) (if_pos rfl).symm)
        · refine ev_neg ?_ (ev_to (ev_some _) (if_neg he).symm)
          cases hE : endN (arL l) t 1 0 with
          | none => simp [endI] <;> omega
          | some e =>
            intro k
            have : e = t.length := by simp only [endI] at k; omega
            exact he (by rw [hE, this]))
      (fun i hi r hr => by
        simp only [spec_l3Fault.l0]
        refine ev_pos (by omega) (ev_pos (by omega) (ev_bindq (l3Node_eq l (by omega) _) ?_))
        rw [wrap_up (by omega), hn i hi]
        exact ev_pos rfl (ev_to hr (by simp)))
      t.length 0 (by omega)
    refine ev_to h ?_
    exact scanN_none t.length 0 (fun j _ hj => by simp [hn j (by omega)])
theorem TermFault_spec (l : List S110) (t : List Int) (ht : t.length ≤ 1048576) : Ev (fun k => spec_TermFault.f k l t) (termF l t) := by
  unfold spec_TermFault.f termF
  exact ev_bind (SignatureFault_spec l) (ev_ite (fun h => ev_bind (l3Fault_ev l (right_of l h) t ht) (ev_some _)) (fun h => ev_some _))
theorem Term_bad (l : List S110) (hl : l.length ≤ 6) (t : List Int) (ht : t.length ≤ 1048576) :
    Ev (fun k => slices_ContainsFunc_int64_int64_impl_TermFault_1.f k t [(⟨l⟩ : S26)]) (badN l t) := by
  unfold slices_ContainsFunc_int64_int64_impl_TermFault_1.f slices_IndexFunc_int64_int64_impl_TermFault_1.f
  have h := loop_scan t.length (fun j => if (!nodeB l (rd t (j : Int))) = true then some (j : Int) else none) (-1) (fun k i => slices_IndexFunc_int64_int64_impl_TermFault_1.l0 k t (t.length : Int) i [(⟨l⟩ : S26)])
    (by simp only [slices_IndexFunc_int64_int64_impl_TermFault_1.l0]; exact ev_neg (by omega) (ev_some _))
    (fun i hi r hr => by
      simp only [slices_IndexFunc_int64_int64_impl_TermFault_1.l0]
      refine ev_pos (by omega) (ev_pos (by omega) (ev_pos (by omega) (ev_bindq (a := !nodeB l (rd t (i : Int))) ?_ ?_)))
      · unfold impl_TermFault_1_with.f
        rw [if_pos (by simp)]
        exact bind_eq (isNode_eq l (by omega) _) rfl
      · rw [wrap_up (by omega)]
        by_cases h : (!nodeB l (rd t (i : Int))) = true
        · rw [if_pos h]; exact ev_pos h (ev_some _)
        · rw [if_neg h]; exact ev_neg h hr)
    t.length 0 (by omega)
  rw [scanN_first (fun j => !nodeB l (rd t (j : Int))) (fun j => (j : Int)) (-1)] at h
  refine ev_bind h (ev_to (ev_some _) ?_)
  unfold badN
  cases firstN (fun j => !nodeB l (rd t (j : Int))) t.length 0 with
  | none => rfl
  | some j => simp
theorem TermFault_impl (l : List S110) (t : List Int) (ht : t.length ≤ 1048576) : Ev (fun k => impl_TermFault.f k l t) (termF l t) := by
  unfold impl_TermFault.f termF
  refine ev_bind (SignatureFault_impl l) (ev_ite (fun h => ?_) (fun h => ev_some _))
  have hr := right_of l h
  have hl := hr.len
  unfold termG
  by_cases h1 : (t.length : Int) < 1
  · rw [if_pos (.inl (by omega))]
    refine ev_pos h1 (ev_succ ?_)
    simp only [impl_TermFault.j0]
    exact ev_pos (by simp) (ev_some _)
  refine ev_neg h1 (ev_succ ?_)
  simp only [impl_TermFault.j0]
  by_cases h2 : (t.length : Int) > 24
  · rw [if_pos (.inr (by omega))]
    exact ev_pos (by simpa using h2) (ev_some _)
  rw [if_neg (by omega)]
  refine ev_neg (by simpa using h2) (ev_bind (Term_bad l (by omega) t ht) (ev_ite (fun hb => ev_some _) (fun hb => ?_)))
  have hn := nodes_of hb
  refine ev_bind (endOf_ev l hr t ht hn 0 (by omega)) ?_
  by_cases he : endN (arL l) t 1 0 = some t.length
  · rw [he]; exact ev_pos rfl (ev_to (ev_some _) (if_pos rfl).symm)
  · refine ev_neg ?_ (ev_to (ev_some _) (if_neg he).symm)
    cases hE : endN (arL l) t 1 0 with
    | none => simp [endJ] <;> omega
    | some e =>
      intro k
      have : e = t.length := by simp only [endJ] at k; omega
      exact he (by rw [hE, this])
structure RightT (l : List S110) (t : List Int) : Prop where
  sig : Right l
  len : 1 ≤ t.length ∧ t.length ≤ 24
  nodes : Nodes l t
  whole : endN (arL l) t 1 0 = some t.length
theorem rightT_of {l : List S110} {t : List Int} (h : termF l t = 0) : RightT l t := by
  unfold termF at h
  by_cases hs : sigF l = 0
  · rw [if_pos hs] at h
    unfold termG at h
    by_cases h1 : t.length < 1 ∨ t.length > 24
    · rw [if_pos h1] at h; cases h
    rw [if_neg h1] at h
    by_cases h2 : badN l t = true
    · rw [if_pos h2] at h; cases h
    rw [if_neg h2] at h
    by_cases h3 : endN (arL l) t 1 0 = some t.length
    · exact ⟨right_of l hs, by omega, nodes_of h2, h3⟩
    · rw [if_neg h3] at h; cases h
  · rw [if_neg hs] at h; exact absurd h hs
end Go.Proofs.YtcanokiehjjbgaaDoor.Pure
set_option linter.unusedVariables false
namespace Go.Proofs.YtcanokiehjjbgaaDoor.Pure
open Go.RowKit Go.Proofs.YtcanokiehjjbgaaDoor.P Go.Proofs.YtcanokiehjjbgaaDoorW.PrintWords Go.Proofs.YtcanokiehjjbgaaDoorW.PrintLast Go.Proofs.YtcanokiehjjbgaaDoor.Base
theorem nodes_iff {l : List S110} {t : List Int} : Nodes l t ↔ ∀ n ∈ t, nodeB l n = true := by
  constructor
  · intro h n hn
    obtain ⟨j, hj, rfl⟩ := List.mem_iff_getElem.1 hn
    have := h j hj
    rwa [rd_get t j hj] at this
  · intro h i hi
    exact h _ (rd_mem t i hi)
theorem sig_of {l : List S110} {t : List Int} (h : termF l t = 0) : sigF l = 0 := by
  unfold termF at h
  by_cases hs : sigF l = 0
  · exact hs
  · rw [if_neg hs] at h; exact absurd h hs
theorem right_parts {l : List S110} {t : List Int} (h : termF l t = 0) : 1 ≤ t.length ∧ t.length ≤ 24 ∧ (∀ n ∈ t, nodeB l n = true) ∧ Whole (arL l) t := by
  have hr := rightT_of h
  exact ⟨hr.len.1, hr.len.2, nodes_iff.1 hr.nodes, whole_iff.1 hr.whole⟩
end Go.Proofs.YtcanokiehjjbgaaDoor.Pure
set_option linter.unusedVariables false
namespace Go.Proofs.YtcanokiehjjbgaaDoor.Pure
open Go.RowKit Go.Proofs.YtcanokiehjjbgaaDoor.P Go.Proofs.YtcanokiehjjbgaaDoorW.PrintWords Go.Proofs.YtcanokiehjjbgaaDoorW.PrintLast Go.Proofs.YtcanokiehjjbgaaDoor.Base
theorem first_ev2 (a b : Int) : Ev (fun k => impl_firstCode.f k [a, b]) (if a = 0 then b else a) := by
  unfold impl_firstCode.f cmp_Or_int64.f
  refine ev_bind (a := if a = 0 then b else a) ?_ (ev_some _)
  refine ev_succ ?_
  simp only [cmp_Or_int64.l0]
  refine ev_pos (by simp) (ev_pos (by omega) (ev_pos (by simp) ?_))
  have e0 : rd [a, b] 0 = a := rfl
  rw [e0]
  refine ev_ite (fun h => ?_) (fun h => ev_some _)
  refine ev_succ ?_
  have e1 : wrap64 (0 + 1) = 1 := by rw [wrap_id (by omega) (by omega)]; rfl
  have e2 : rd [a, b] 1 = b := rfl
  simp only [cmp_Or_int64.l0, e1, e2]
  refine ev_pos (by simp) (ev_pos (by omega) (ev_pos (by simp) ?_))
  by_cases hb : b = 0
  · refine ev_pos hb (ev_succ ?_)
    have e3 : wrap64 (1 + 1) = 2 := by rw [wrap_id (by omega) (by omega)]; rfl
    simp only [cmp_Or_int64.l0, e3]
    exact ev_neg (by simp) (ev_to (ev_some _) hb.symm)
  · exact ev_neg hb (ev_some _)
end Go.Proofs.YtcanokiehjjbgaaDoor.Pure
set_option linter.unusedVariables false
namespace Go.Proofs.YtcanokiehjjbgaaDoor.Pure
open Go.RowKit Go.Proofs.YtcanokiehjjbgaaDoor.P Go.Proofs.YtcanokiehjjbgaaDoorW.PrintWords Go.Proofs.YtcanokiehjjbgaaDoorW.PrintLast Go.Proofs.YtcanokiehjjbgaaDoor.Base
theorem rd_mid (p : List Int) (x : Int) (q : List Int) : rd (p ++ x :: q) (p.length : Int) = x := by
  rw [rd_get _ _ (by simp)]; simp
theorem set_mid (p : List Int) (x y : Int) (q : List Int) : (p ++ x :: q).set p.length y = p ++ y :: q := by
  simp
theorem plainIndex_ev (s : List Int) (hs : s.length ≤ 1048576) (x : Int) : Ev (fun k => slices_Index_int64_int64.f k s x) (if x ∈ s then (idxN x s : Int) else -1) :=
  ev_to (slicesIndex_ev s (by omega) x) (placeN_idx s x)
theorem plainContains_ev (s : List Int) (hs : s.length ≤ 1048576) (x : Int) : Ev (fun k => slices_Contains_int64_int64.f k s x) (decide (x ∈ s)) := by
  unfold slices_Contains_int64_int64.f
  refine ev_bind (plainIndex_ev s hs x) (ev_to (ev_some _) ?_)
  by_cases h : x ∈ s
  · rw [if_pos h, decide_eq_true h]; exact decide_eq_true (by omega)
  · rw [if_neg h, decide_eq_false h]; exact decide_eq_false (by omega)
theorem plainRank_ev (s : List Int) (hs : s.length ≤ 1048576) (x : Int) : Ev (fun k => spec_l2Rank.f k s x) (if x ∈ s then (idxN x s : Int) else -1) := by
  unfold spec_l2Rank.f
  have h := loop_scan s.length (fun j => if (x == rd s (j : Int)) = true then some (j : Int) else none) (-1) (fun k i => spec_l2Rank.l0 k s x i)
    (by simp only [spec_l2Rank.l0]; exact ev_neg (by omega) (ev_some _))
    (fun i hi r hr => by
      simp only [spec_l2Rank.l0]
      refine ev_pos (by omega) (ev_pos (by omega) ?_)
      rw [wrap_up (by omega)]
      by_cases h : rd s (i : Int) = x
      · exact ev_pos h (ev_to (ev_some _) (by simp [h]))
      · exact ev_neg h (ev_to hr (by have h' : ¬ x = rd s (i : Int) := fun e => h e.symm; simp [h'])))
    s.length 0 (by omega)
  rw [scanN_place (fun j => x == rd s (j : Int))] at h
  exact ev_to h (placeN_idx s x)
theorem idx_snoc_mem (s : List Int) (x : Int) : x ∈ s ++ [x] := by simp
theorem plain_l0 (z : List Int) (r : List Int × List Int × Bool) : ∀ (q p s : List Int), s.length + q.length ≤ 1000000 → p.length + q.length ≤ 1000000 →
    Ev (fun k => impl_plain.l1 k (plainP s q).2 (p ++ (plainP s q).1) z (z.length : Int) 0) r →
    Ev (fun k => impl_plain.l0 k s (p ++ q) z ((p.length + q.length : Nat) : Int) (p.length : Int)) r
  | [], p, s, h1, h2, hr => by
    refine ev_succ ?_
    simp only [impl_plain.l0]
    refine ev_neg (by simp) ?_
    simpa [plainP] using hr
  | x :: q, p, s, h1, h2, hr => by
    refine ev_succ ?_
    simp only [impl_plain.l0, rd_mid]
    rw [List.length_cons] at h1 h2
    refine ev_pos (by simp; omega) (ev_pos (by omega) (ev_pos (by simp; omega) ?_))
    rw [wrap_up (by omega)]
    have go : ∀ (y : Int) (s' : List Int), (plainP s (x :: q)) = (y :: (plainP s' q).1, (plainP s' q).2) → s'.length ≤ s.length + 1 →
        Ev (fun k => impl_plain.l0 k s' (p ++ y :: q) z ((p.length + (q.length + 1) : Nat) : Int) ((p.length + 1 : Nat) : Int)) r := by
      intro y s' e hs'
      have := plain_l0 z r q (p ++ [y]) s' (by omega) (by simp; omega) (by rw [e] at hr; simpa using hr)
      simpa [Nat.add_assoc, Nat.add_comm 1 q.length] using this
    by_cases hx : x ≥ 0
    · refine ev_pos hx ?_
      exact go x s (by rw [plainP, if_pos hx]) (by omega)
    · refine ev_neg hx (ev_bind (plainContains_ev s (by omega) x) ?_)
      by_cases hm : x ∈ s
      · refine ev_pos (decide_eq_true hm) (ev_bind (plainIndex_ev s (by omega) x) ?_)
        rw [if_pos hm, Int.toNat_natCast, set_mid, wrap_id (by have := idxN_le x s; omega) (by omega)]
        refine go _ s ?_ (by omega)
        rw [plainP, if_neg hx]
        unfold seenP
        rw [if_pos hm]
      · refine ev_neg (by simp [hm]) (ev_pos (by omega) (ev_bindq rfl (ev_bind (plainIndex_ev (s ++ [x]) (by simp; omega) x) ?_)))
        rw [if_pos (idx_snoc_mem s x), idxN_snoc x s hm, Int.toNat_natCast, set_mid, wrap_id (by omega) (by omega)]
        refine go _ (s ++ [x]) ?_ (by simp)
        rw [plainP, if_neg hx]
        unfold seenP
        rw [if_neg hm, idxN_snoc x s hm]
theorem plain_l1 (z : List Int) : ∀ (q p s : List Int), s.length + q.length ≤ 1000000 → p.length + q.length ≤ 1000000 →
    Ev (fun k => impl_plain.l1 k s z (p ++ q) ((p.length + q.length : Nat) : Int) (p.length : Int)) (z, p ++ (plainP s q).1, decide (((plainP s q).2.length : Int) ≤ 6))
  | [], p, s, h1, h2 => by
    refine ev_succ ?_
    simp only [impl_plain.l1]
    exact ev_neg (by simp) (ev_to (ev_some _) (by show (z, p ++ [], decide ((s.length : Int) ≤ 6)) = (z, p ++ [], decide ((s.length : Int) ≤ 6)); rfl))
  | x :: q, p, s, h1, h2 => by
    refine ev_succ ?_
    simp only [impl_plain.l1, rd_mid]
    rw [List.length_cons] at h1 h2
    refine ev_pos (by simp; omega) (ev_pos (by omega) (ev_pos (by simp; omega) ?_))
    rw [wrap_up (by omega)]
    have go : ∀ (y : Int) (s' : List Int), (plainP s (x :: q)) = (y :: (plainP s' q).1, (plainP s' q).2) → s'.length ≤ s.length + 1 →
        Ev (fun k => impl_plain.l1 k s' z (p ++ y :: q) ((p.length + (q.length + 1) : Nat) : Int) ((p.length + 1 : Nat) : Int)) (z, p ++ (plainP s (x :: q)).1, decide (((plainP s (x :: q)).2.length : Int) ≤ 6)) := by
      intro y s' e hs'
      have := plain_l1 z q (p ++ [y]) s' (by omega) (by simp; omega)
      rw [e]
      simpa [Nat.add_assoc, Nat.add_comm 1 q.length] using this
    by_cases hx : x ≥ 0
    · refine ev_pos hx ?_
      exact go x s (by rw [plainP, if_pos hx]) (by omega)
    · refine ev_neg hx (ev_bind (plainContains_ev s (by omega) x) ?_)
      by_cases hm : x ∈ s
      · refine ev_pos (decide_eq_true hm) (ev_bind (plainIndex_ev s (by omega) x) ?_)
        rw [if_pos hm, Int.toNat_natCast, set_mid, wrap_id (by have := idxN_le x s; omega) (by omega)]
        refine go _ s ?_ (by omega)
        rw [plainP, if_neg hx]
        unfold seenP
        rw [if_pos hm]
      · refine ev_neg (by simp [hm]) (ev_pos (by omega) (ev_bindq rfl (ev_bind (plainIndex_ev (s ++ [x]) (by simp; omega) x) ?_)))
        rw [if_pos (idx_snoc_mem s x), idxN_snoc x s hm, Int.toNat_natCast, set_mid, wrap_id (by omega) (by omega)]
        refine go _ (s ++ [x]) ?_ (by simp)
        rw [plainP, if_neg hx]
        unfold seenP
        rw [if_neg hm, idxN_snoc x s hm]
theorem clone_eqP (o : List Int) (ho : o.length ≤ 1048576) : slices_Clone_int64_int64.f o = some o := by
  unfold slices_Clone_int64_int64.f
  exact if_pos (by omega)
theorem plain_ev (a b : List Int) (ha : a.length ≤ 1000) (hb : b.length ≤ 1000) : Ev (fun k => impl_plain.f k a b) ((plainP [] a).1, (plainP (plainP [] a).2 b).1, decide (((plainP (plainP [] a).2 b).2.length : Int) ≤ 6)) := by
  unfold impl_plain.f
  have ho : impl_ownEquation.f a b = some (a, b) := by
    unfold impl_ownEquation.f
    rw [clone_eqP a (by omega), clone_eqP b (by omega)]; rfl
  refine ev_bindq ho ?_
  have hs := plainP_seen a []
  rw [List.length_nil] at hs
  have h2 := plain_l1 (plainP [] a).1 b [] (plainP [] a).2 (by omega) (by simp; omega)
  have h1 := plain_l0 b _ a [] [] (by simp; omega) (by simp; omega) (by simpa using h2)
  simpa using h1
theorem l4Plain_l0 (a b : List Int) (ha : a.length ≤ 1000) : ∀ (q p s : List Int), s.length + q.length ≤ 1000000 → p.length + q.length ≤ 1000000 → a.length ≤ p.length + q.length →
    Ev (fun k => spec_l4Plain.l0 k [(⟨a, b⟩ : S47)] (p ++ q) s (p.length : Int))
      (if ((plainP s q).2.length : Int) ≤ 6 then ((p ++ (plainP s q).1).take a.length, (p ++ (plainP s q).1).drop a.length, true) else ([], [], false))
  | [], p, s, h1, h2, h3 => by
    refine ev_succ ?_
    simp only [spec_l4Plain.l0]
    refine ev_neg (by simp) ?_
    have e0 : (rd_T47 [(⟨a, b⟩ : S47)] 0).f0 = a := rfl
    have e1 : ∀ zs : List Int, zs.length ≤ 1000000 → spec_l1Ints.f zs = some zs := by
      intro zs hz
      unfold spec_l1Ints.f
      simp only [Option.bind_some, List.length_nil, List.nil_append]
      rw [if_pos (by omega)]
    simp only [plainP, List.append_nil, e0]
    simp only [List.length_nil] at h1 h2 h3
    by_cases h6 : (s.length : Int) ≤ 6
    · rw [if_pos h6]
      refine ev_neg (by omega) (ev_pos (by simp) (ev_pos (by omega) (ev_pos (by omega) ?_)))
      rw [Int.toNat_natCast]
      exact ev_bindq (e1 _ (by rw [List.length_take]; omega)) (ev_bindq (e1 _ (by rw [List.length_drop]; omega)) (ev_some _))
    · rw [if_neg h6]
      exact ev_pos (by omega) (ev_some _)
  | x :: q, p, s, h1, h2, h3 => by
    refine ev_succ ?_
    simp only [spec_l4Plain.l0, rd_mid]
    rw [List.length_cons] at h1 h2 h3
    refine ev_pos (by simp; omega) (ev_pos (by omega) ?_)
    rw [wrap_up (by omega)]
    have go : ∀ (y : Int) (s' : List Int), (plainP s (x :: q)) = (y :: (plainP s' q).1, (plainP s' q).2) → s'.length ≤ s.length + 1 →
        Ev (fun k => spec_l4Plain.l0 k [(⟨a, b⟩ : S47)] (p ++ y :: q) s' ((p.length + 1 : Nat) : Int))
          (if ((plainP s (x :: q)).2.length : Int) ≤ 6 then ((p ++ (plainP s (x :: q)).1).take a.length, (p ++ (plainP s (x :: q)).1).drop a.length, true) else ([], [], false)) := by
      intro y s' e hs'
      have := l4Plain_l0 a b ha q (p ++ [y]) s' (by omega) (by simp; omega) (by simp; omega)
      rw [e]
      simpa [List.append_assoc] using this
    by_cases hx : x ≥ 0
    · refine ev_pos hx ?_
      exact go x s (by rw [plainP, if_pos hx]) (by omega)
    · refine ev_neg hx (ev_bind (plainRank_ev s (by omega) x) ?_)
      rw [Int.toNat_natCast]
      by_cases hm : x ∈ s
      · rw [if_pos hm]
        refine ev_neg (by omega) ?_
        rw [set_mid, wrap_id (by have := idxN_le x s; omega) (by omega)]
        refine go _ s ?_ (by omega)
        rw [plainP, if_neg hx]
        unfold seenP
        rw [if_pos hm]
      · rw [if_neg hm]
        refine ev_pos (by omega) (ev_pos (by omega) ?_)
        rw [set_mid, wrap_id (by omega) (by omega)]
        refine go _ (s ++ [x]) ?_ (by simp)
        rw [plainP, if_neg hx]
        unfold seenP
        rw [if_neg hm, idxN_snoc x s hm]
theorem l4Plain_ev (a b : List Int) (ha : a.length ≤ 1000) (hb : b.length ≤ 1000) : Ev (fun k => spec_l4Plain.f k [(⟨a, b⟩ : S47)])
    (if ((plainP (plainP [] a).2 b).2.length : Int) ≤ 6 then ((plainP [] a).1, (plainP (plainP [] a).2 b).1, true) else ([], [], false)) := by
  have e0 : (rd_T47 [(⟨a, b⟩ : S47)] 0).f0 = a := rfl
  have e1 : (rd_T47 [(⟨a, b⟩ : S47)] 0).f1 = b := rfl
  have hi : spec_l1Ints.f a = some a := by
    unfold spec_l1Ints.f
    simp only [Option.bind_some, List.length_nil, List.nil_append]
    rw [if_pos (by omega)]
  unfold spec_l4Plain.f
  simp only [e0, e1]
  refine ev_pos (by simp) (ev_bindq hi (ev_pos (by omega) ?_))
  have h := l4Plain_l0 a b ha (a ++ b) [] [] (by simp; omega) (by simp; omega) (by simp)
  rw [plainP_append] at h
  simp only [List.nil_append] at h
  have hl := plainP_length a []
  rw [List.take_append_of_le_length (by omega), List.take_of_length_le (by omega), List.drop_append_of_le_length (by omega), List.drop_eq_nil_of_le (by omega), List.nil_append] at h
  exact h
def plnR (l : List S110) (a b : List Int) : Int × List Int × List Int :=
  if termF l a = 0 then (if termF l b = 0 then (if ((plainP (plainP [] a).2 b).2.length : Int) ≤ 6 then (0, (plainP [] a).1, (plainP (plainP [] a).2 b).1) else (2, [], [])) else (termF l b, [], [])) else (termF l a, [], [])
theorem plnR_length (l : List S110) (a b : List Int) : (plnR l a b).2.1.length ≤ 1000 ∧ (plnR l a b).2.2.length ≤ 1000 := by
  unfold plnR
  by_cases h1 : termF l a = 0
  · by_cases h2 : termF l b = 0
    · rw [if_pos h1, if_pos h2]
      have l1 := (right_parts h1).2.1
      have l2 := (right_parts h2).2.1
      split
      · rw [plainP_length, plainP_length]; omega
      · simp
    · rw [if_pos h1, if_neg h2]; simp
  · rw [if_neg h1]; simp
theorem PlainEquation_impl (l : List S110) (a b : List Int) (ha : a.length ≤ 1048576) (hb : b.length ≤ 1048576) : Ev (fun k => impl_PlainEquation.f k l a b) (plnR l a b) := by
  unfold impl_PlainEquation.f plnR
  refine ev_bind (TermFault_impl l a ha) (ev_bind (TermFault_impl l b hb) (ev_bind (first_ev2 _ _) ?_))
  by_cases h1 : termF l a = 0
  · rw [if_pos h1, if_pos h1]
    by_cases h2 : termF l b = 0
    · rw [if_pos h2]
      have l1 := (right_parts h1).2.1
      have l2 := (right_parts h2).2.1
      refine ev_pos h2 (ev_bind (plain_ev a b (by omega) (by omega)) ?_)
      exact ev_ite (fun h => ev_some _) (fun h => ev_some _) |> fun h => ev_to h (by simp)
    · rw [if_neg h2]
      exact ev_neg h2 (ev_some _)
  · rw [if_neg h1, if_neg h1]
    exact ev_neg h1 (ev_some _)
theorem PlainEquation_spec (l : List S110) (a b : List Int) (ha : a.length ≤ 1048576) (hb : b.length ≤ 1048576) : Ev (fun k => spec_PlainEquation.f k l a b) (plnR l a b) := by
  unfold spec_PlainEquation.f plnR
  refine ev_bind (TermFault_spec l a ha) ?_
  by_cases h1 : termF l a = 0
  · rw [if_pos h1]
    have hR := rightT_of h1
    have hs := sig_of h1
    refine ev_pos h1 (ev_bind (l3Fault_ev l hR.sig b hb) ?_)
    have hg : termG l b = termF l b := by unfold termF; rw [if_pos hs]
    rw [hg]
    by_cases h2 : termF l b = 0
    · rw [if_pos h2]
      have l1 := (right_parts h1).2.1
      have l2 := (right_parts h2).2.1
      refine ev_pos h2 (ev_bind (l4Plain_ev a b (by omega) (by omega)) ?_)
      by_cases h6 : ((plainP (plainP [] a).2 b).2.length : Int) ≤ 6
      · rw [if_pos h6, if_pos h6]; exact ev_pos rfl (ev_some _)
      · rw [if_neg h6, if_neg h6]; exact ev_neg (by simp) (ev_some _)
    · rw [if_neg h2]
      exact ev_neg h2 (ev_some _)
  · rw [if_neg h1]
    exact ev_neg h1 (ev_some _)
end Go.Proofs.YtcanokiehjjbgaaDoor.Pure
set_option linter.unusedVariables false
namespace Go.Proofs.YtcanokiehjjbgaaDoor.Pure
open Go.RowKit Go.Proofs.YtcanokiehjjbgaaDoor.P Go.Proofs.YtcanokiehjjbgaaDoorW.PrintWords Go.Proofs.YtcanokiehjjbgaaDoorW.PrintLast Go.Proofs.YtcanokiehjjbgaaDoor.Base
theorem toInt64S_l0 (l : List Int) (hl : l.length ≤ 35184372088832) : ∀ (d i : Nat), i + d = l.length → Ev (fun k => laws_toInt64S.l0 k l (cpart 0 l i) (i : Int)) l := by
  intro d
  induction d with
  | zero =>
    intro i hi
    refine ev_succ ?_
    simp only [laws_toInt64S.l0]
    refine ev_neg (by omega) ?_
    obtain rfl : i = l.length := by omega
    rw [cpart_end]
    exact ev_some _
  | succ d ih =>
    intro i hi
    refine ev_succ ?_
    simp only [laws_toInt64S.l0]
    refine ev_pos (by omega) (ev_pos (by omega) (ev_pos (by rw [cpart_length _ _ _ (by omega)]; omega) ?_))
    rw [wrap_up (by omega), Int.toNat_natCast, cpart_set 0 l i (by omega) _ (rd_some l i (by omega))]
    exact ih (i + 1) (by omega)
theorem toInt64S_ev (l : List Int) (hl : l.length ≤ 35184372088832) : Ev (fun k => laws_toInt64S.f k l) l := by
  unfold laws_toInt64S.f
  refine ev_pos (by omega) (ev_pos (by omega) ?_)
  rw [Int.toNat_natCast, ← cpart_zero]
  exact toInt64S_l0 l hl l.length 0 (by omega)
theorem eqInt64S_l0 (a b : List Int) (hab : a.length = b.length) (hl : a.length ≤ 9223372036854775807) : ∀ (d i : Nat), i + d = a.length → Ev (fun k => laws_eqInt64S.l0 k a b (i : Int)) (decide (a.drop i = b.drop i)) := by
  intro d
  induction d with
  | zero =>
    intro i hi
    refine ev_succ ?_
    simp only [laws_eqInt64S.l0]
    refine ev_neg (by omega) ?_
    rw [List.drop_eq_nil_of_le (by omega), List.drop_eq_nil_of_le (by omega)]
    exact ev_some _
  | succ d ih =>
    intro i hi
    refine ev_succ ?_
    simp only [laws_eqInt64S.l0]
    refine ev_pos (by omega) (ev_pos (by omega) (ev_pos (by omega) ?_))
    rw [rd_drop a i (by omega), rd_drop b i (by omega)]
    by_cases h : rd a (i : Int) = rd b (i : Int)
    · refine ev_pos h ?_
      rw [wrap_up (by omega)]
      refine ev_to (ih (i + 1) (by omega)) ?_
      simp [h]
    · refine ev_neg h ?_
      refine ev_to (ev_some _) ?_
      simp [h]
theorem eqInt64S_ev (a b : List Int) (hl : a.length ≤ 9223372036854775807) : Ev (fun k => laws_eqInt64S.f k a b) (decide (a = b)) := by
  unfold laws_eqInt64S.f
  by_cases h : a.length = b.length
  · refine ev_pos (by omega) ?_
    exact eqInt64S_l0 a b h hl a.length 0 (by omega)
  · refine ev_neg (by omega) ?_
    refine ev_to (ev_some _) ?_
    have : ¬ a = b := fun e => h (by rw [e])
    simp [this]
end Go.Proofs.YtcanokiehjjbgaaDoor.Pure
set_option linter.unusedVariables false
namespace Go.Proofs.YtcanokiehjjbgaaDoor.Pure
open Go.RowKit Go.Proofs.YtcanokiehjjbgaaDoor.P Go.Proofs.YtcanokiehjjbgaaDoorW.PrintWords Go.Proofs.YtcanokiehjjbgaaDoorW.PrintLast Go.Proofs.YtcanokiehjjbgaaDoor.Base
theorem markText_l0 : ∀ (x : Nat) (s : ByteArray), s.size + x ≤ 9000000000000000000 → ∃ r, Ev (fun k => laws_markText.l0 k (x : Int) s) r := by
  intro x
  induction x using Nat.strongRecOn with
  | _ x ih =>
    intro s hs
    rcases Nat.eq_zero_or_pos x with rfl | hp
    · refine ⟨(⟨#[109]⟩ : ByteArray) ++ s, ev_succ ?_⟩
      simp only [laws_markText.l0]
      exact ev_neg (by omega) (ev_pos (by omega) (ev_some _))
    · have hz : (strOfNums [(wrap64 (48 + (Int.tmod (x : Int) 10))) % 256]).size = 1 := rfl
      have hd : wrap64 (Int.tdiv (x : Int) 10) = ((x / 10 : Nat) : Int) := by
        rw [Int.tdiv_eq_ediv_of_nonneg (by omega), wrap_id (by omega) (by omega)]; omega
      obtain ⟨r, hr⟩ := ih (x / 10) (by omega) (strOfNums [(wrap64 (48 + (Int.tmod (x : Int) 10))) % 256] ++ s) (by rw [ByteArray.size_append, hz]; omega)
      refine ⟨r, ev_succ ?_⟩
      simp only [laws_markText.l0]
      refine ev_pos (by omega) (ev_bindq rfl (ev_pos (by rw [hz]; omega) ?_))
      rw [hd]; exact hr
theorem markText_ev (x : Int) (h0 : 0 < x) (h1 : x ≤ 8000000000000000000) : ∃ r, Ev (fun k => laws_markText.f k x) r := by
  obtain ⟨n, rfl⟩ := Int.eq_ofNat_of_zero_le (show 0 ≤ x by omega)
  obtain ⟨r, hr⟩ := markText_l0 n ⟨#[]⟩ (by show 0 + n ≤ _; omega)
  refine ⟨r, ?_⟩
  unfold laws_markText.f
  exact ev_neg (by omega) hr
theorem markSymbolS_l0 : ∀ (d i : Nat) (l : List S110) (m : Int), i + d = l.length → 0 < m → m + 2 * d ≤ 8000000000000000000 → l.length ≤ 1048576 →
    ∃ l', Ev (fun k => laws_markSymbolS.l0 k l m (i : Int)) (m + 2 * d, l') := by
  intro d
  induction d with
  | zero =>
    intro i l m hi h0 h1 hl
    refine ⟨l, ev_succ ?_⟩
    simp only [laws_markSymbolS.l0]
    exact ev_neg (by omega) (ev_to (ev_some _) (by simp))
  | succ d ih =>
    intro i l m hi h0 h1 hl
    obtain ⟨s, hs⟩ := markText_ev m h0 (by omega)
    obtain ⟨l', h⟩ := ih (i + 1) ((l.set i (⟨s, (rd_T110 l (i : Int)).f1⟩ : S110)).set i (⟨(rd_T110 (l.set i (⟨s, (rd_T110 l (i : Int)).f1⟩ : S110)) (i : Int)).f0, m + 1⟩ : S110)) (m + 2) (by simp; omega) (by omega) (by omega) (by simpa using hl)
    refine ⟨l', ev_succ ?_⟩
    simp only [laws_markSymbolS.l0]
    refine ev_pos (by omega) (ev_bind hs (ev_pos (by omega) (ev_bindq rfl ?_)))
    rw [Int.toNat_natCast, wrap_id (x := m + 1) (by omega) (by omega), wrap_id (x := m + 1 + 1) (by omega) (by omega), wrap_up (by omega), show m + 1 + 1 = m + 2 by omega]
    exact ev_to h (by rw [show m + 2 + 2 * (d : Int) = m + 2 * ((d + 1 : Nat) : Int) by omega])
theorem markSignature_ev (l : List S110) (hl : l.length ≤ 1048576) (m : Int) (h0 : 0 < m) (h1 : m ≤ 4000000000000000000) : ∃ l', Ev (fun k => laws_markSignature.f k l m) (m + 2 * l.length, l') := by
  obtain ⟨l', h⟩ := markSymbolS_l0 l.length 0 l m (by omega) h0 (by omega) hl
  refine ⟨l', ?_⟩
  unfold laws_markSignature.f laws_markSymbolS.f
  exact ev_bind h (ev_some _)
def marksI (m : Int) : Nat → List Int
  | 0 => []
  | n + 1 => m :: marksI (m + 1) n
theorem marksI_length (n : Nat) : ∀ m, (marksI m n).length = n := by
  induction n with
  | zero => intro m; rfl
  | succ n ih => intro m; simp [marksI, ih]
theorem markInt64S_l0 : ∀ (d : Nat) (pre rest : List Int) (m : Int), rest.length = d → 0 ≤ m → m + d ≤ 9000000000000000000 → pre.length + d ≤ 9000000000000000000 →
    Ev (fun k => laws_markInt64S.l0 k (pre ++ rest) m (pre.length : Int)) (m + d, pre ++ marksI m d) := by
  intro d
  induction d with
  | zero =>
    intro pre rest m hr h0 h1 h2
    refine ev_succ ?_
    simp only [laws_markInt64S.l0]
    refine ev_neg (by simp; omega) ?_
    obtain rfl : rest = [] := List.eq_nil_of_length_eq_zero hr
    exact ev_to (ev_some _) (by simp [marksI])
  | succ d ih =>
    intro pre rest m hr h0 h1 h2
    obtain ⟨x, rest, rfl⟩ : ∃ x r, rest = x :: r := by
      cases rest with
      | nil => simp at hr
      | cons x r => exact ⟨x, r, rfl⟩
    refine ev_succ ?_
    simp only [laws_markInt64S.l0]
    refine ev_pos (by simp; omega) (ev_pos (by omega) ?_)
    rw [wrap_up (by omega), wrap_id (x := m + 1) (by omega) (by omega), Int.toNat_natCast]
    have e : (pre ++ x :: rest).set pre.length m = (pre ++ [m]) ++ rest := by simp
    rw [e]
    have := ih (pre ++ [m]) rest (m + 1) (by simpa using hr) (by omega) (by omega) (by simp; omega)
    simp only [List.length_append, List.length_singleton] at this
    exact ev_to this (by simp [marksI]; omega)
theorem markInt64S_ev (xs : List Int) (m : Int) (h0 : 0 ≤ m) (h1 : m + xs.length ≤ 9000000000000000000) : Ev (fun k => laws_markInt64S.f k xs m) (m + xs.length, marksI m xs.length) := by
  unfold laws_markInt64S.f
  exact markInt64S_l0 xs.length [] xs m rfl h0 h1 (by simp; omega)
theorem heldInt64S_l0 : ∀ (d : Nat) (pre : List Int) (m : Int), 0 ≤ m → m + d ≤ 9000000000000000000 → pre.length + d ≤ 9000000000000000000 →
    Ev (fun k => laws_heldInt64S.l0 k (pre ++ marksI m d) m (pre.length : Int)) (m + d) := by
  intro d
  induction d with
  | zero =>
    intro pre m h0 h1 h2
    refine ev_succ ?_
    simp only [laws_heldInt64S.l0]
    refine ev_neg (by simp [marksI]) ?_
    exact ev_to (ev_some _) (by simp)
  | succ d ih =>
    intro pre m h0 h1 h2
    refine ev_succ ?_
    simp only [laws_heldInt64S.l0]
    have e : rd (pre ++ marksI m (d + 1)) (pre.length : Int) = m := by simp [rd, marksI]
    refine ev_pos (by simp [marksI_length]; omega) (ev_pos (by omega) (ev_pos e ?_))
    rw [wrap_up (by omega), wrap_id (x := m + 1) (by omega) (by omega)]
    have := ih (pre ++ [m]) (m + 1) (by omega) (by omega) (by simp; omega)
    simp only [List.length_append, List.length_singleton, List.append_assoc, List.singleton_append] at this
    exact ev_to this (by omega)
theorem heldInt64S_ev (n : Nat) (m : Int) (h0 : 0 ≤ m) (h1 : m + n ≤ 9000000000000000000) : Ev (fun k => laws_heldInt64S.f k (marksI m n) m) (m + n) := by
  unfold laws_heldInt64S.f
  exact heldInt64S_l0 n [] m h0 h1 (by simp; omega)
end Go.Proofs.YtcanokiehjjbgaaDoor.Pure
set_option linter.unusedVariables false
namespace Go.Proofs.YtcanokiehjjbgaaDoor.Pure
open Go.RowKit Go.Proofs.YtcanokiehjjbgaaDoor.P Go.Proofs.YtcanokiehjjbgaaDoorW.PrintWords Go.Proofs.YtcanokiehjjbgaaDoorW.PrintLast Go.Proofs.YtcanokiehjjbgaaDoor.Base
theorem szInts_cases (l : List Int) (hl : l.length ≤ maxLen) (v : Int) (h0 : 0 ≤ v) (h1 : v ≤ 1048576) :
    laws_szInt64S.f l v = some (-1) ∨ ∃ u, laws_szInt64S.f l v = some u ∧ 0 ≤ u ∧ u ≤ v ∧ (l.length : Int) ≤ v := by
  unfold maxLen at hl
  unfold laws_szInt64S.f
  rw [wrap_id (x := v - (l.length : Int)) (by omega) (by omega)]
  by_cases h : v - (l.length : Int) < 0
  · rw [if_pos h]; exact .inl rfl
  · rw [if_neg h]; exact .inr ⟨_, rfl, by omega, by omega, by omega⟩
theorem szOne_cases (a b : List Int) (ha : a.length ≤ maxLen) (hb : b.length ≤ maxLen) (v : Int) (h0 : 0 ≤ v) (h1 : v ≤ 1048576) :
    laws_szEquation.f a b v = some (-1) ∨ ∃ u, laws_szEquation.f a b v = some u ∧ 0 ≤ u ∧ u ≤ v ∧ a.length ≤ 1048576 ∧ b.length ≤ 1048576 := by
  unfold laws_szEquation.f
  rcases szInts_cases a ha v h0 h1 with e | ⟨u, e, u0, uv, hq⟩
  · rw [e]; exact .inl rfl
  · rw [e]
    simp only [Option.bind_some]
    rw [if_neg (by omega)]
    rcases szInts_cases b hb u u0 (by omega) with e | ⟨t, e, t0, tv, hq'⟩
    · rw [e]; exact .inl rfl
    · rw [e]
      simp only [Option.bind_some]
      rw [if_neg (by omega)]
      exact .inr ⟨t, rfl, t0, by omega, by omega, by omega⟩
theorem toOne_ev (a b : List Int) (ha : a.length ≤ 1048576) (hb : b.length ≤ 1048576) : Ev (fun k => laws_toEquation.f k a b) (a, b) := by
  unfold laws_toEquation.f
  exact ev_bind (toInt64S_ev a (by omega)) (ev_bind (toInt64S_ev b (by omega)) (ev_some _))
theorem eqOne_ev (a b : List Int) (ha : a.length ≤ 1048576) (hb : b.length ≤ 1048576) : Ev (fun k => laws_eqEquation.f k a b a b) true := by
  unfold laws_eqEquation.f
  exact ev_bind (eqInt64S_ev a a (by omega)) (ev_pos (by simp) (ev_bind (eqInt64S_ev b b (by omega)) (ev_pos (by simp) (ev_some _))))
end Go.Proofs.YtcanokiehjjbgaaDoor.Pure
set_option linter.unusedVariables false
namespace Go.Proofs.YtcanokiehjjbgaaDoor.Pure
open Go.RowKit Go.Proofs.YtcanokiehjjbgaaDoor.P Go.Proofs.YtcanokiehjjbgaaDoorW.PrintWords Go.Proofs.YtcanokiehjjbgaaDoorW.PrintLast Go.Proofs.YtcanokiehjjbgaaDoor.Base
theorem markEquation_ev (a b : List Int) (m : Int) (h0 : 0 ≤ m) (h1 : m + a.length + b.length ≤ 9000000000000000000) : Ev (fun k => laws_markEquation.f k a b m) (m + a.length + b.length, marksI m a.length, marksI (m + a.length) b.length) := by
  unfold laws_markEquation.f
  exact ev_bind (markInt64S_ev a m h0 (by omega)) (ev_bind (markInt64S_ev b (m + a.length) (by omega) h1) (ev_some _))
theorem markEquationResult_ev (c : Int) (a b : List Int) (m : Int) (h0 : 0 ≤ m) (h1 : m + a.length + b.length ≤ 9000000000000000000) : Ev (fun k => laws_markEquationResult.f k c a b m) (m + a.length + b.length, marksI m a.length, marksI (m + a.length) b.length) := by
  unfold laws_markEquationResult.f
  exact ev_bind (markEquation_ev a b m h0 h1) (ev_some _)
theorem heldEquation_ev (n n2 : Nat) (m : Int) (h0 : 0 ≤ m) (h1 : m + n + n2 ≤ 9000000000000000000) : Ev (fun k => laws_heldEquation.f k (marksI m n) (marksI (m + n) n2) m) (m + n + n2) := by
  unfold laws_heldEquation.f
  exact ev_bind (heldInt64S_ev n m h0 (by omega)) (ev_neg (by omega) (ev_bind (heldInt64S_ev n2 (m + n) (by omega) h1) (ev_neg (by omega) (ev_some _))))
theorem heldEquationResult_ev (c : Int) (n n2 : Nat) (m : Int) (h0 : 0 ≤ m) (h1 : m + n + n2 ≤ 9000000000000000000) : Ev (fun k => laws_heldEquationResult.f k c (marksI m n) (marksI (m + n) n2) m) (m + n + n2) := by
  unfold laws_heldEquationResult.f
  exact ev_bind (heldEquation_ev n n2 m h0 h1) (ev_neg (by omega) (ev_some _))
theorem eqEquationResult_same (c : Int) (a b : List Int) (ha : a.length ≤ 1048576) (hb : b.length ≤ 1048576) : Ev (fun k => laws_eqEquationResult.f k c a b c a b) true := by
  unfold laws_eqEquationResult.f
  exact ev_pos rfl (ev_bind (eqOne_ev a b ha hb) (ev_pos rfl (ev_some _)))
end Go.Proofs.YtcanokiehjjbgaaDoor.Pure
set_option linter.unusedVariables false
namespace Go.Proofs.YtcanokiehjjbgaaDoor.Pure
open Go.RowKit Go.Proofs.YtcanokiehjjbgaaDoor.P Go.Proofs.YtcanokiehjjbgaaDoorW.PrintWords Go.Proofs.YtcanokiehjjbgaaDoorW.PrintLast Go.Proofs.YtcanokiehjjbgaaDoor.Base
theorem PlainEquation_j0 (l : List S123) (hl : l.length ≤ 1048576) (a b : List Int) (hba : a.length ≤ 1048576) (hbb : b.length ≤ 1048576) (c : Int) (x y : List Int) (hx : x.length ≤ 1000) (hy : y.length ≤ 1000) (hr : plnR (l.map toI) a b = (c, x, y)) :
    Ev (fun k => laws_FnExactPlainEquation.j0 k false l a b c x y c x y) true := by
  refine ev_succ ?_
  simp only [laws_FnExactPlainEquation.j0]
  have t := toSignature_ev l hl
  have tla := toOne_ev a b hba hbb
  have hm := markEquationResult_ev c x y 1 (by omega) (by omega)
  have hh := heldEquationResult_ev c x.length y.length 1 (by omega) (by omega)
  have hp := PlainEquation_impl (l.map toI) a b hba hbb
  rw [hr] at hp
  exact ev_neg (by simp) (ev_bind hm (ev_bind hh (ev_neg (by omega) (ev_pos rfl (ev_bind t (ev_bind tla (ev_bind hp (ev_bind (eqEquationResult_same c x y (by omega) (by omega)) (ev_pos rfl (ev_bind hh (ev_neg (by omega) (ev_pos rfl (ev_some _)))))))))))))
theorem FnExactPlainEquation (l : List S123) (a b : List Int) (hl : FitsL l) (wa : a.length ≤ maxLen ∧ ∀ y ∈ a, (Lit.int .i64 y).wf = true) (wb : b.length ≤ maxLen ∧ ∀ y ∈ b, (Lit.int .i64 y).wf = true) : ∃ k, laws_FnExactPlainEquation.f k l a b = some true := by
  refine ev_ex (g := fun k => laws_FnExactPlainEquation.f k l a b) ?_
  unfold laws_FnExactPlainEquation.f
  obtain ⟨r, hr, h1⟩ := szSignature_ev l hl 1048576 (by omega) (by omega)
  refine ev_bind hr ?_
  by_cases hr0 : r < 0
  · exact ev_pos hr0 (ev_some _)
  have h1 := h1 hr0
  refine ev_neg hr0 ?_
  have t := toSignature_ev l (by omega)
  have e := eqSignature_ev (l.map toI) (by rw [List.length_map]; omega)
  rcases szOne_cases a b wa.1 wb.1 r (by omega) (by omega) with ea | ⟨ua, ea, u0a, ura, hba, hbb⟩
  · exact ev_bindq ea (ev_pos (by omega) (ev_some _))
  refine ev_bindq ea (ev_neg (by omega) ?_)
  have tla := toOne_ev a b hba hbb
  have ela := eqOne_ev a b hba hbb
  have hx := plnR_length (l.map toI) a b
  have hs := PlainEquation_spec (l.map toI) a b hba hbb
  have hp := PlainEquation_impl (l.map toI) a b hba hbb
  have hj := fun c x y (hc : plnR (l.map toI) a b = (c, x, y)) (hx : x.length ≤ 1000) (hy : y.length ≤ 1000) => PlainEquation_j0 l (by omega) a b hba hbb c x y hx hy hc
  generalize hc : plnR (l.map toI) a b = q at *
  obtain ⟨c, x, y⟩ := q
  have hq := eqEquationResult_same c x y (by simp only at hx; omega) (by simp only at hx; omega)
  obtain ⟨l', hm⟩ := markSignature_ev (l.map toI) (by rw [List.length_map]; omega) 1 (by omega) (by omega)
  rw [List.length_map] at hm
  have hmka := markEquation_ev a b (1 + 2 * (l.length : Int)) (by omega) (by omega)
  exact (ev_bind t (ev_bind tla (ev_bind hs (ev_bind t (ev_bind tla (ev_bind hp (ev_bind hq (ev_pos rfl (ev_bind t (ev_bind e (ev_pos rfl (ev_bind tla (ev_bind ela (ev_pos rfl (ev_bind hm (ev_bind hmka (ev_neg (by simp only; omega) (ev_bind hq (hj c x y rfl hx.1 hx.2)))))))))))))))))))
end Go.Proofs.YtcanokiehjjbgaaDoor.Pure
