/- A part of the proof of the law FnExactApplyBinding. -/
import Derived.Lib.Strings
import Derived.Laws.StructEq
import Derived.Test.YtcanokiehjjbgaaDoorCFnExactApplyBinding0
import Derived.Test.YtcanokiehjjbgaaDoorCFnExactApplyBinding1
import Derived.Test.YtcanokiehjjbgaaDoorCFnExactApplyBinding2
import Derived.Test.YtcanokiehjjbgaaDoorCFnExactApplyBinding3
import Derived.Test.YtcanokiehjjbgaaDoorCFnExactApplyBinding4
import Derived.Test.YtcanokiehjjbgaaDoorCFnExactApplyBinding5
import Derived.Test.YtcanokiehjjbgaaDoorCFnExactApplyBinding6
import Derived.Test.YtcanokiehjjbgaaDoorCFnExactApplyBinding7
import Derived.Test.YtcanokiehjjbgaaDoorCFnExactApplyBinding8
set_option linter.unusedVariables false
namespace Go.Proofs.YtcanokiehjjbgaaDoor.Pure
open Go.RowKit Go.Proofs.YtcanokiehjjbgaaDoor.P Go.Proofs.YtcanokiehjjbgaaDoorW.PrintWords Go.Proofs.YtcanokiehjjbgaaDoorW.PrintLast Go.Proofs.YtcanokiehjjbgaaDoor.Base
def toI (x : S123) : S110 := ⟨x.f0, x.f1⟩
theorem rdL_get (xs : List S123) (i : Nat) (h : i < xs.length) : rd_T123 xs (i : Int) = xs[i] := by
  simp [rd_T123, List.getD_eq_getElem?_getD, List.getElem?_eq_getElem h]
def FitsL (l : List S123) : Prop := l.length ≤ maxLen ∧ ∀ x ∈ l, x.f0.size ≤ maxLen ∧ (Lit.int .i64 x.f1).wf = true
theorem szSymbolS_l0 (l : List S123) (hl : FitsL l) : ∀ (d i : Nat) (a : Int), i + d = l.length → 0 ≤ a → a ≤ 1048576 →
    ∃ r, Ev (fun k => laws_szSymbolS.l0 k l a (i : Int)) r ∧ (0 ≤ r → r ≤ a) := by
  intro d
  induction d with
  | zero =>
    intro i a hi h0 h1
    refine ⟨a, ev_succ ?_, fun _ => Int.le_refl _⟩
    simp only [laws_szSymbolS.l0]
    exact ev_neg (by omega) (ev_some _)
  | succ d ih =>
    intro i a hi h0 h1
    have hi' : i < l.length := by omega
    have hx := (hl.2 _ (List.getElem_mem hi')).1
    unfold maxLen at hx
    have hm := hl.1
    unfold maxLen at hm
    have hw : wrap64 (a - ((l[i]).f0.size : Int)) = a - ((l[i]).f0.size : Int) := wrap_id (by omega) (by omega)
    by_cases hn : a - ((l[i]).f0.size : Int) < 0
    · refine ⟨-1, ev_succ ?_, fun h => by omega⟩
      simp only [laws_szSymbolS.l0]
      refine ev_pos (by omega) (ev_pos (by omega) ?_)
      rw [rdL_get l i hi']
      refine ev_bindq (a := -1) ?_ (ev_pos (by omega) (ev_some _))
      unfold laws_szSymbol.f
      rw [hw, if_pos hn]
    · obtain ⟨r, hr, hle⟩ := ih (i + 1) (a - ((l[i]).f0.size : Int)) (by omega) (by omega) (by omega)
      refine ⟨r, ev_succ ?_, fun h => by have := hle h; omega⟩
      simp only [laws_szSymbolS.l0]
      refine ev_pos (by omega) (ev_pos (by omega) ?_)
      rw [rdL_get l i hi', wrap_up (by omega)]
      refine ev_bindq (a := a - ((l[i]).f0.size : Int)) ?_ (ev_neg hn hr)
      unfold laws_szSymbol.f
      rw [hw, if_neg hn]
theorem szSignature_ev (l : List S123) (hl : FitsL l) (a : Int) (h0 : 0 ≤ a) (h1 : a ≤ 1048576) :
    ∃ r, Ev (fun k => laws_szSignature.f k l a) r ∧ (¬ r < 0 → (l.length : Int) ≤ a ∧ r ≤ a) := by
  have hm := hl.1
  unfold maxLen at hm
  have hw : wrap64 (a - (l.length : Int)) = a - (l.length : Int) := wrap_id (by omega) (by omega)
  by_cases hn : a - (l.length : Int) < 0
  · refine ⟨-1, ?_, fun h => by omega⟩
    unfold laws_szSignature.f
    refine ev_bind (a := -1) ?_ (ev_pos (by omega) (ev_some _))
    unfold laws_szSymbolS.f
    rw [hw]
    exact ev_pos hn (ev_some _)
  · obtain ⟨r, hr, hle⟩ := szSymbolS_l0 l hl l.length 0 (a - (l.length : Int)) (by omega) (by omega) (by omega)
    have hs : Ev (fun k => laws_szSymbolS.f k l a) r := by
      unfold laws_szSymbolS.f
      rw [hw]
      exact ev_neg hn hr
    by_cases hr0 : r < 0
    · refine ⟨-1, ?_, fun h => by omega⟩
      unfold laws_szSignature.f
      exact ev_bind hs (ev_pos hr0 (ev_some _))
    · refine ⟨r, ?_, fun h => ?_⟩
      · unfold laws_szSignature.f
        exact ev_bind hs (ev_neg hr0 (ev_some _))
      · have := hle (by omega)
        omega
theorem toSymbolS_l0 (l : List S123) (hl : l.length ≤ 1048576) : ∀ (d i : Nat), i + d = l.length → Ev (fun k => laws_toSymbolS.l0 k l (cpart z110 (l.map toI) i) (i : Int)) (l.map toI) := by
  intro d
  induction d with
  | zero =>
    intro i hi
    refine ev_succ ?_
    simp only [laws_toSymbolS.l0]
    refine ev_neg (by omega) ?_
    have e : i = (l.map toI).length := by rw [List.length_map]; omega
    rw [e, cpart_end]
    exact ev_some _
  | succ d ih =>
    intro i hi
    have hi' : i < l.length := by omega
    refine ev_succ ?_
    simp only [laws_toSymbolS.l0]
    refine ev_pos (by omega) (ev_pos (by omega) ?_)
    unfold laws_toSymbol.f
    refine ev_bindq rfl (ev_pos (by rw [cpart_length _ _ _ (by rw [List.length_map]; omega), List.length_map]; omega) ?_)
    rw [rdL_get l i hi', wrap_up (by omega), Int.toNat_natCast, cpart_set z110 (l.map toI) i (by rw [List.length_map]; omega) (⟨(l[i]).f0, (l[i]).f1⟩ : S110) (by rw [List.getElem?_map, List.getElem?_eq_getElem hi']; rfl)]
    exact ih (i + 1) (by omega)
theorem toSignature_ev (l : List S123) (hl : l.length ≤ 1048576) : Ev (fun k => laws_toSignature.f k l) (l.map toI) := by
  unfold laws_toSignature.f
  refine ev_bind (a := l.map toI) ?_ (ev_some _)
  unfold laws_toSymbolS.f
  refine ev_pos (by omega) (ev_pos (by omega) ?_)
  have := toSymbolS_l0 l hl l.length 0 (by omega)
  rw [cpart_zero, List.length_map] at this
  rw [Int.toNat_natCast]
  exact this
theorem eqSymbolS_l0 (a : List S110) (hl : a.length ≤ 9223372036854775807) : ∀ (d i : Nat), i + d = a.length → Ev (fun k => laws_eqSymbolS.l0 k a a (i : Int)) true := by
  intro d
  induction d with
  | zero =>
    intro i hi
    refine ev_succ ?_
    simp only [laws_eqSymbolS.l0]
    exact ev_neg (by omega) (ev_some _)
  | succ d ih =>
    intro i hi
    refine ev_succ ?_
    simp only [laws_eqSymbolS.l0]
    refine ev_pos (by omega) (ev_pos (by omega) (ev_pos (by omega) (ev_bindq (a := true) ?_ (ev_pos rfl ?_))))
    · unfold laws_eqSymbol.f
      rw [if_pos rfl, if_pos rfl]
    · rw [wrap_up (by omega)]
      exact ih (i + 1) (by omega)
theorem eqSignature_ev (a : List S110) (hl : a.length ≤ 9223372036854775807) : Ev (fun k => laws_eqSignature.f k a a) true := by
  unfold laws_eqSignature.f
  refine ev_bind (a := true) ?_ (ev_pos rfl (ev_some _))
  unfold laws_eqSymbolS.f
  exact ev_pos rfl (eqSymbolS_l0 a hl a.length 0 (by omega))
end Go.Proofs.YtcanokiehjjbgaaDoor.Pure
set_option linter.unusedVariables false
namespace Go.Proofs.YtcanokiehjjbgaaDoor.Pure
open Go.RowKit Go.Proofs.YtcanokiehjjbgaaDoor.P Go.Proofs.YtcanokiehjjbgaaDoorW.PrintWords Go.Proofs.YtcanokiehjjbgaaDoorW.PrintLast Go.Proofs.YtcanokiehjjbgaaDoor.Base
theorem bt_get (s : ByteArray) (i : Nat) (h : i < s.data.toList.length) : bt s (i : Int) = ((s.data.toList[i]).toNat : Int) := by
  have hs : i < s.size := by rw [Lib.size_eq]; exact h
  unfold bt
  rw [dif_pos (by simpa using hs)]
  rfl
theorem l2Name_l0 (s : ByteArray) (hl : s.size ≤ 3) : ∀ (d i : Nat), i + d = s.size → Ev (fun k => spec_l2Name.l0 k s (i : Int)) ((s.data.toList.drop i).all letterB) := by
  have hz := Lib.size_eq s
  intro d
  induction d with
  | zero =>
    intro i hi
    refine ev_succ ?_
    simp only [spec_l2Name.l0]
    refine ev_neg (by omega) (ev_to (ev_some _) ?_)
    rw [List.drop_eq_nil_of_le (by omega)]; rfl
  | succ d ih =>
    intro i hi
    have hi' : i < s.data.toList.length := by omega
    refine ev_succ ?_
    simp only [spec_l2Name.l0]
    refine ev_pos (by omega) (ev_pos (by omega) ?_)
    rw [bt_get s i hi', List.drop_eq_getElem_cons hi', wrap_up (by omega)]
    generalize s.data.toList[i] = b
    by_cases h1 : (b.toNat : Int) < 97
    · refine ev_pos h1 (ev_to (ev_some _) ?_)
      have : letterB b = false := by unfold letterB; simp; omega
      simp [this]
    refine ev_neg h1 ?_
    by_cases h2 : (b.toNat : Int) > 122
    · refine ev_pos h2 (ev_to (ev_some _) ?_)
      have : letterB b = false := by unfold letterB; simp; omega
      simp [this]
    refine ev_neg h2 (ev_to (ih (i + 1) (by omega)) ?_)
    have : letterB b = true := by unfold letterB; simp; omega
    simp [this]
theorem l2Name_ev (s : ByteArray) : Ev (fun k => spec_l2Name.f k s) (nameB s) := by
  unfold spec_l2Name.f nameB
  by_cases h1 : (s.size : Int) < 1
  · refine ev_pos h1 (ev_succ ?_)
    simp only [spec_l2Name.j0]
    exact ev_pos (by simp) (ev_to (ev_some _) (by simp; omega))
  refine ev_neg h1 (ev_succ ?_)
  simp only [spec_l2Name.j0]
  by_cases h2 : (s.size : Int) > 3
  · exact ev_pos (by simpa using h2) (ev_to (ev_some _) (by simp; omega))
  refine ev_neg (by simpa using h2) (ev_to (l2Name_l0 s (by omega) s.size 0 (by omega)) ?_)
  have : decide (1 ≤ s.size ∧ s.size ≤ 3) = true := by simp; omega
  rw [this]; rfl
theorem isName_eq (s : ByteArray) : impl_isName.f s = some (nameB s) := by
  unfold impl_isName.f nameB
  by_cases h1 : (s.size : Int) ≥ 1
  · rw [if_pos h1]
    by_cases h2 : (s.size : Int) ≤ 3
    · rw [if_pos h2]
      have ht : strings_Trim.f s abc = some ⟨(Lib.trimS s.data.toList abc.data.toList).toArray⟩ := by
        unfold strings_Trim.f
        exact if_pos ⟨by omega, by decide, by decide +kernel⟩
      refine bind_eq ht ?_
      have : decide (1 ≤ s.size ∧ s.size ≤ 3) = true := by simp; omega
      rw [this, Lib.toList_data]
      simp only [Bool.true_and]
      rw [← trim_abc]
    · rw [if_neg h2]
      have : decide (1 ≤ s.size ∧ s.size ≤ 3) = false := by simp; omega
      rw [this]; rfl
  · rw [if_neg h1]
    have : decide (1 ≤ s.size ∧ s.size ≤ 3) = false := by simp; omega
    rw [this]; rfl
def nameAt (l : List S110) (i : Nat) : List UInt8 := (rd_T110 l (i : Int)).f0.toList
def symFault (l : List S110) (i : Nat) : Option Int :=
  if nameB (rd_T110 l (i : Int)).f0 = true then (if 0 ≤ (rd_T110 l (i : Int)).f1 ∧ (rd_T110 l (i : Int)).f1 ≤ 2 then none else some 3) else some 5
def dupB (l : List S110) (i : Nat) : Bool := (firstN (fun j => nameAt l i == nameAt l j) i 0).isSome
def dupFault (l : List S110) (i : Nat) : Option Int := if dupB l i = true then some 6 else none
def zeroB (l : List S110) : Bool := (firstN (fun j => (rd_T110 l (j : Int)).f1 == 0) l.length 0).isSome
def sigF (l : List S110) : Int :=
  if l.length < 1 ∨ l.length > 6 then 2 else scanN (symFault l) (scanN (dupFault l) (if zeroB l = true then 0 else 4) l.length 0) l.length 0
theorem within_eq (a b c : Int) : impl_within.f a b c = some (decide (b ≤ a ∧ a ≤ c)) := by
  unfold impl_within.f
  by_cases h : a ≥ b
  · rw [if_pos h]
    by_cases h' : a ≤ c
    · simp [h']; omega
    · simp [h']
  · rw [if_neg h]
    simp; omega
theorem l1In_eq (a b c : Int) : spec_l1In.f a b c = some (decide (b ≤ a ∧ a ≤ c)) := by
  unfold spec_l1In.f
  by_cases h : a ≥ b
  · rw [if_pos h]
    by_cases h' : a ≤ c
    · simp [h']; omega
    · simp [h']
  · rw [if_neg h]
    simp; omega
theorem Sig_l3 (l : List S110) (hl : l.length ≤ 6) : Ev (fun k => spec_SignatureFault.l3 k (l.length : Int) 0 l) (if zeroB l = true then 0 else 4) := by
  have h := loop_scan l.length (fun j => if ((rd_T110 l (j : Int)).f1 == 0) = true then some 0 else none) 4 (fun k i => spec_SignatureFault.l3 k (l.length : Int) i l)
    (by simp only [spec_SignatureFault.l3]; exact ev_neg (by omega) (ev_some _))
    (fun i hi r hr => by
      simp only [spec_SignatureFault.l3]
      refine ev_pos (by omega) (ev_pos (by omega) (ev_pos (by omega) ?_))
      rw [wrap_up (by omega)]
      by_cases h : (rd_T110 l (i : Int)).f1 = 0
      · refine ev_pos h (ev_to (ev_some _) (by simp [h]))
      · refine ev_neg h (ev_to hr (by simp [h])))
    l.length 0 (by omega)
  refine ev_to h ?_
  rw [scanN_first (fun j => (rd_T110 l (j : Int)).f1 == 0) (fun _ => (0 : Int)) 4]
  unfold zeroB
  cases firstN (fun j => (rd_T110 l (j : Int)).f1 == 0) l.length 0 <;> rfl
theorem Sig_l2 (l : List S110) (hl : l.length ≤ 6) (i : Nat) (hi : i < l.length) (r : Int) (hr : Ev (fun k => spec_SignatureFault.l1 k (l.length : Int) ((i + 1 : Nat) : Int) l) r) :
    Ev (fun k => spec_SignatureFault.l2 k (l.length : Int) (i : Int) 0 l) ((dupFault l i).getD r) := by
  have h := loop_scan i (fun j => if (nameAt l i == nameAt l j) = true then some 6 else none) r (fun k j => spec_SignatureFault.l2 k (l.length : Int) (i : Int) j l)
    (by simp only [spec_SignatureFault.l2]; refine ev_neg (by omega) ?_; rw [wrap_up (by omega)]; exact hr)
    (fun j hj r hr => by
      simp only [spec_SignatureFault.l2]
      refine ev_pos (by omega) (ev_pos (by omega) (ev_pos (by omega) (ev_pos (by omega) (ev_pos (by omega) ?_))))
      rw [wrap_up (by omega)]
      by_cases h : nameAt l i = nameAt l j
      · refine ev_pos h (ev_to (ev_some _) (by simp [h]))
      · refine ev_neg h (ev_to hr (by simp [h])))
    i 0 (by omega)
  refine ev_to h ?_
  rw [scanN_first (fun j => nameAt l i == nameAt l j) (fun _ => (6 : Int)) r]
  unfold dupFault dupB
  cases firstN (fun j => nameAt l i == nameAt l j) i 0 <;> rfl
theorem Sig_l1 (l : List S110) (hl : l.length ≤ 6) : Ev (fun k => spec_SignatureFault.l1 k (l.length : Int) 0 l) (scanN (dupFault l) (if zeroB l = true then 0 else 4) l.length 0) :=
  loop_scan l.length (dupFault l) (if zeroB l = true then 0 else 4) (fun k i => spec_SignatureFault.l1 k (l.length : Int) i l)
    (by simp only [spec_SignatureFault.l1]; exact ev_neg (by omega) (Sig_l3 l hl))
    (fun i hi r hr => by
      simp only [spec_SignatureFault.l1]
      exact ev_pos (by omega) (Sig_l2 l hl i hi r hr))
    l.length 0 (by omega)
theorem Sig_l0 (l : List S110) (hl : l.length ≤ 6) : Ev (fun k => spec_SignatureFault.l0 k (l.length : Int) 0 l) (scanN (symFault l) (scanN (dupFault l) (if zeroB l = true then 0 else 4) l.length 0) l.length 0) :=
  loop_scan l.length (symFault l) _ (fun k i => spec_SignatureFault.l0 k (l.length : Int) i l)
    (by simp only [spec_SignatureFault.l0]; exact ev_neg (by omega) (Sig_l1 l hl))
    (fun i hi r hr => by
      simp only [spec_SignatureFault.l0]
      refine ev_pos (by omega) (ev_pos (by omega) (ev_pos (by omega) (ev_bind (l2Name_ev _) ?_)))
      unfold symFault
      by_cases h : nameB (rd_T110 l (i : Int)).f0 = true
      · refine ev_pos h (ev_bindq (l1In_eq _ _ _) ?_)
        rw [if_pos h, wrap_up (by omega)]
        by_cases h' : 0 ≤ (rd_T110 l (i : Int)).f1 ∧ (rd_T110 l (i : Int)).f1 ≤ 2
        · rw [if_pos h']
          exact ev_pos (by simpa using h') hr
        · rw [if_neg h']
          exact ev_neg (by simpa using h') (ev_some _)
      · rw [if_neg h]
        exact ev_neg h (ev_some _))
    l.length 0 (by omega)
theorem SignatureFault_spec (l : List S110) : Ev (fun k => spec_SignatureFault.f k l) (sigF l) := by
  unfold spec_SignatureFault.f sigF
  by_cases h1 : (l.length : Int) < 1
  · rw [if_pos (.inl (by omega))]
    refine ev_pos h1 (ev_succ ?_)
    simp only [spec_SignatureFault.j0]
    exact ev_pos (by simp) (ev_some _)
  refine ev_neg h1 (ev_succ ?_)
  simp only [spec_SignatureFault.j0]
  by_cases h2 : (l.length : Int) > 6
  · rw [if_pos (.inr (by omega))]
    exact ev_pos (by simpa using h2) (ev_some _)
  · rw [if_neg (by omega)]
    exact ev_neg (by simpa using h2) (Sig_l0 l (by omega))
theorem symbolIndex_ev (l : List S110) (hl : l.length ≤ 1048576) (s : ByteArray) : Ev (fun k => impl_symbolIndex.f k l s) (placeN (fun j => nameAt l j == s.toList) l.length) := by
  unfold impl_symbolIndex.f
  refine ev_bind (a := placeN (fun j => nameAt l j == s.toList) l.length) ?_ (ev_some _)
  unfold slices_IndexFunc_impl_Symbol_impl_Symbol_impl_symbolIndex_1.f
  have h := loop_scan l.length (fun j => if (nameAt l j == s.toList) = true then some (j : Int) else none) (-1) (fun k i => slices_IndexFunc_impl_Symbol_impl_Symbol_impl_symbolIndex_1.l0 k l (l.length : Int) i [s])
    (by simp only [slices_IndexFunc_impl_Symbol_impl_Symbol_impl_symbolIndex_1.l0]; exact ev_neg (by omega) (ev_some _))
    (fun i hi r hr => by
      simp only [slices_IndexFunc_impl_Symbol_impl_Symbol_impl_symbolIndex_1.l0]
      refine ev_pos (by omega) (ev_pos (by omega) (ev_pos (by omega) (ev_bindq (a := nameAt l i == s.toList) ?_ ?_)))
      · unfold impl_symbolIndex_1_with.f
        rw [if_pos (by simp)]
        rfl
      · rw [wrap_up (by omega)]
        by_cases h : (nameAt l i == s.toList) = true
        · rw [if_pos h]; exact ev_pos h (ev_some _)
        · rw [if_neg h]; exact ev_neg h hr)
    l.length 0 (by omega)
  rw [scanN_place (fun j => nameAt l j == s.toList)] at h
  exact h
theorem dup_place (l : List S110) (i : Nat) (hi : i < l.length) : placeN (fun j => nameAt l j == (rd_T110 l (i : Int)).f0.toList) l.length = (i : Int) ↔ dupB l i = false := by
  unfold dupB
  have hn : (firstN (fun j => nameAt l i == nameAt l j) i 0).isSome = false ↔ ∀ j, j < i → (nameAt l i == nameAt l j) = false := by
    rw [Option.isSome_eq_false_iff, Option.isNone_iff_eq_none, firstN_none]
    exact ⟨fun h j hj => h j (by omega) (by omega), fun h j _ hj => h j (by omega)⟩
  rw [hn]
  rcases placeN_cases (fun j => nameAt l j == (rd_T110 l (i : Int)).f0.toList) l.length with ⟨h1, h2⟩ | ⟨j, hj, h1, h2, h3⟩
  · have := h2 i hi
    simp [nameAt] at this
  · rw [h1]
    constructor
    · intro e
      obtain rfl : j = i := by omega
      intro m hm
      have := h3 m hm
      simp only [beq_eq_false_iff_ne, ne_eq] at this ⊢
      exact fun e => this e.symm
    · intro h
      have hji : ¬ j < i := fun hlt => by
        have := h j hlt
        simp only [beq_eq_false_iff_ne, ne_eq] at this
        exact this (by simpa [nameAt] using (eq_comm.1 (beq_iff_eq.1 h2)))
      have hij : ¬ i < j := fun hlt => by
        have := h3 i hlt
        simp [nameAt] at this
      omega
theorem ISig_last (l : List S110) (hl : l.length ≤ 6) : Ev (fun k => slices_ContainsFunc_impl_Symbol_impl_Symbol_impl_SignatureFault_1.f k l) (zeroB l) := by
  unfold slices_ContainsFunc_impl_Symbol_impl_Symbol_impl_SignatureFault_1.f slices_IndexFunc_impl_Symbol_impl_Symbol_impl_SignatureFault_1.f
  have h := loop_scan l.length (fun j => if ((rd_T110 l (j : Int)).f1 == 0) = true then some (j : Int) else none) (-1) (fun k i => slices_IndexFunc_impl_Symbol_impl_Symbol_impl_SignatureFault_1.l0 k l (l.length : Int) i)
    (by simp only [slices_IndexFunc_impl_Symbol_impl_Symbol_impl_SignatureFault_1.l0]; exact ev_neg (by omega) (ev_some _))
    (fun i hi r hr => by
      simp only [slices_IndexFunc_impl_Symbol_impl_Symbol_impl_SignatureFault_1.l0]
      refine ev_pos (by omega) (ev_pos (by omega) (ev_pos (by omega) (ev_bindq rfl ?_)))
      rw [wrap_up (by omega)]
      by_cases h : ((rd_T110 l (i : Int)).f1 == 0) = true
      · rw [if_pos h]; exact ev_pos h (ev_some _)
      · rw [if_neg h]; exact ev_neg h hr)
    l.length 0 (by omega)
  rw [scanN_first (fun j => (rd_T110 l (j : Int)).f1 == 0) (fun j => (j : Int)) (-1)] at h
  refine ev_bind h (ev_to (ev_some _) ?_)
  unfold zeroB
  cases firstN (fun j => (rd_T110 l (j : Int)).f1 == 0) l.length 0 with
  | none => rfl
  | some j => simp
theorem ISig_l1 (l : List S110) (hl : l.length ≤ 6) : Ev (fun k => impl_SignatureFault.l1 k l (l.length : Int) 0 l) (scanN (dupFault l) (if zeroB l = true then 0 else 4) l.length 0) :=
  loop_scan l.length (dupFault l) (if zeroB l = true then 0 else 4) (fun k i => impl_SignatureFault.l1 k l (l.length : Int) i l)
    (by
      simp only [impl_SignatureFault.l1]
      refine ev_neg (by omega) (ev_bind (ISig_last l hl) ?_)
      by_cases h : zeroB l = true
      · exact ev_to (ev_pos h (ev_some _)) (if_pos h).symm
      · exact ev_to (ev_neg h (ev_some _)) (if_neg h).symm)
    (fun i hi r hr => by
      simp only [impl_SignatureFault.l1]
      refine ev_pos (by omega) (ev_pos (by omega) (ev_pos (by omega) (ev_bind (symbolIndex_ev l (by omega) _) ?_)))
      have hd := dup_place l i hi
      rw [wrap_up (by omega)]
      unfold dupFault
      by_cases h : dupB l i = true
      · rw [if_pos h]
        exact ev_neg (fun e => by rw [hd.1 e] at h; cases h) (ev_some _)
      · rw [if_neg h]
        exact ev_pos (hd.2 (Bool.eq_false_iff.2 h)) hr)
    l.length 0 (by omega)
theorem SignatureFault_impl (l : List S110) : Ev (fun k => impl_SignatureFault.f k l) (sigF l) := by
  unfold impl_SignatureFault.f sigF
  by_cases h1 : (l.length : Int) < 1
  · rw [if_pos (.inl (by omega))]
    refine ev_pos h1 (ev_succ ?_)
    simp only [impl_SignatureFault.j0]
    exact ev_pos (by simp) (ev_some _)
  refine ev_neg h1 (ev_succ ?_)
  simp only [impl_SignatureFault.j0]
  by_cases h2 : (l.length : Int) > 6
  · rw [if_pos (.inr (by omega))]
    exact ev_pos (by simpa using h2) (ev_some _)
  rw [if_neg (by omega)]
  refine ev_neg (by simpa using h2) ?_
  exact loop_scan l.length (symFault l) _ (fun k i => impl_SignatureFault.l0 k l (l.length : Int) i l)
    (by simp only [impl_SignatureFault.l0]; exact ev_neg (by omega) (ISig_l1 l (by omega)))
    (fun i hi r hr => by
      simp only [impl_SignatureFault.l0]
      refine ev_pos (by omega) (ev_pos (by omega) (ev_pos (by omega) (ev_bindq (isName_eq _) ?_)))
      unfold symFault
      by_cases h : nameB (rd_T110 l (i : Int)).f0 = true
      · refine ev_pos h (ev_bindq (within_eq _ _ _) ?_)
        rw [if_pos h, wrap_up (by omega)]
        by_cases h' : 0 ≤ (rd_T110 l (i : Int)).f1 ∧ (rd_T110 l (i : Int)).f1 ≤ 2
        · rw [if_pos h']
          exact ev_pos (by simpa using h') hr
        · rw [if_neg h']
          exact ev_neg (by simpa using h') (ev_some _)
      · rw [if_neg h]
        exact ev_neg h (ev_some _))
    l.length 0 (by omega)
structure Right (l : List S110) : Prop where
  len : 1 ≤ l.length ∧ l.length ≤ 6
  names : ∀ i, i < l.length → nameB (rd_T110 l (i : Int)).f0 = true
  arities : ∀ i, i < l.length → 0 ≤ (rd_T110 l (i : Int)).f1 ∧ (rd_T110 l (i : Int)).f1 ≤ 2
  apart : ∀ i, i < l.length → dupB l i = false
theorem right_of (l : List S110) (h : sigF l = 0) : Right l := by
  unfold sigF at h
  by_cases h1 : l.length < 1 ∨ l.length > 6
  · rw [if_pos h1] at h; omega
  rw [if_neg h1] at h
  have hlen : 1 ≤ l.length ∧ l.length ≤ 6 := by omega
  rcases scanN_cases (symFault l) (scanN (dupFault l) (if zeroB l = true then 0 else 4) l.length 0) l.length 0 with ⟨h2, h3⟩ | ⟨j, _, _, h3⟩
  · rw [h3] at h
    rcases scanN_cases (dupFault l) (if zeroB l = true then 0 else 4) l.length 0 with ⟨h4, h5⟩ | ⟨j, _, _, h5⟩
    · refine ⟨hlen, fun i hi => ?_, fun i hi => ?_, fun i hi => ?_⟩
      · have := h2 i (by omega) (by omega)
        unfold symFault at this
        by_cases hn : nameB (rd_T110 l (i : Int)).f0 = true
        · exact hn
        · rw [if_neg hn] at this; cases this
      · have := h2 i (by omega) (by omega)
        unfold symFault at this
        by_cases hn : nameB (rd_T110 l (i : Int)).f0 = true
        · rw [if_pos hn] at this
          by_cases ha : 0 ≤ (rd_T110 l (i : Int)).f1 ∧ (rd_T110 l (i : Int)).f1 ≤ 2
          · exact ha
          · rw [if_neg ha] at this; cases this
        · rw [if_neg hn] at this; cases this
      · have := h4 i (by omega) (by omega)
        unfold dupFault at this
        by_cases hd : dupB l i = true
        · rw [if_pos hd] at this; cases this
        · exact Bool.eq_false_iff.2 hd
    · rw [h] at h5
      unfold dupFault at h5
      by_cases hd : dupB l j = true
      · rw [if_pos hd] at h5; cases h5
      · rw [if_neg hd] at h5; cases h5
  · rw [h] at h3
    unfold symFault at h3
    by_cases hn : nameB (rd_T110 l (j : Int)).f0 = true
    · rw [if_pos hn] at h3
      by_cases ha : 0 ≤ (rd_T110 l (j : Int)).f1 ∧ (rd_T110 l (j : Int)).f1 ≤ 2
      · rw [if_pos ha] at h3; cases h3
      · rw [if_neg ha] at h3; cases h3
    · rw [if_neg hn] at h3; cases h3
end Go.Proofs.YtcanokiehjjbgaaDoor.Pure
set_option linter.unusedVariables false
namespace Go.Proofs.YtcanokiehjjbgaaDoor.Pure
open Go.RowKit Go.Proofs.YtcanokiehjjbgaaDoor.P Go.Proofs.YtcanokiehjjbgaaDoorW.PrintWords Go.Proofs.YtcanokiehjjbgaaDoorW.PrintLast Go.Proofs.YtcanokiehjjbgaaDoor.Base
def symB (l : List S110) (n : Int) : Bool := decide (0 ≤ n ∧ n ≤ (l.length : Int) - 1)
theorem l2Symbol_eq (l : List S110) (hl : l.length ≤ 1048576) (n : Int) : spec_l2Symbol.f [(⟨l⟩ : S26)] n = some (symB l n) := by
  unfold spec_l2Symbol.f
  rw [if_pos (by simp)]
  show (spec_l1In.f n 0 (wrap64 ((l.length : Int) - 1))).bind _ = _
  rw [l1In_eq, wrap_id (by omega) (by omega)]
  rfl
theorem isSymbol_eq (l : List S110) (hl : l.length ≤ 1048576) (n : Int) : impl_isSymbol.f l n = some (symB l n) := by
  unfold impl_isSymbol.f
  rw [within_eq, wrap_id (by omega) (by omega)]
  rfl
theorem symB_true {l : List S110} {n : Int} (h : symB l n = true) : 0 ≤ n ∧ n < (l.length : Int) := by
  unfold symB at h
  have := of_decide_eq_true h
  omega
end Go.Proofs.YtcanokiehjjbgaaDoor.Pure
set_option linter.unusedVariables false
namespace Go.Proofs.YtcanokiehjjbgaaDoor.Pure
open Go.RowKit Go.Proofs.YtcanokiehjjbgaaDoorW.PrintWords Go.Proofs.YtcanokiehjjbgaaDoor.Base
def skipN (ar : Int → Nat) : Nat → List Int → Option (List Int)
  | 0, t => some t
  | _ + 1, [] => none
  | k + 1, n :: t => skipN ar (k + ar n) t
theorem skipN_zero (ar : Int → Nat) (t : List Int) : skipN ar 0 t = some t := by cases t <;> rfl
theorem skipN_add (ar : Int → Nat) (m : Nat) : ∀ (t : List Int) (k : Nat), skipN ar (k + m) t = (skipN ar k t).bind (skipN ar m)
  | t, 0 => by rw [skipN_zero, Nat.zero_add]; rfl
  | [], k + 1 => by rw [show k + 1 + m = (k + m) + 1 by omega]; rfl
  | n :: t, k + 1 => by
    rw [show k + 1 + m = (k + m) + 1 by omega]
    show skipN ar (k + m + ar n) t = (skipN ar (k + ar n) t).bind (skipN ar m)
    rw [show k + m + ar n = k + ar n + m by omega]
    exact skipN_add ar m t (k + ar n)
theorem skipN_cons (ar : Int → Nat) (n : Int) (t : List Int) (k : Nat) : skipN ar (k + 1) (n :: t) = skipN ar (k + ar n) t := rfl
theorem skipN_suffix (ar : Int → Nat) : ∀ (t : List Int) (k : Nat) (u : List Int), skipN ar k t = some u → ∃ d, u = t.drop d ∧ d ≤ t.length ∧ k ≤ d
  | t, 0, u, h => by
    rw [skipN_zero] at h
    obtain rfl := Option.some.inj h
    exact ⟨0, by simp, by omega, by omega⟩
  | [], k + 1, u, h => by cases h
  | n :: t, k + 1, u, h => by
    obtain ⟨d, e, hd, hk⟩ := skipN_suffix ar t (k + ar n) u h
    exact ⟨d + 1, by rw [e]; rfl, by simp; omega, by omega⟩
def endN (ar : Int → Nat) (term : List Int) (k at_ : Nat) : Option Nat := (skipN ar k (term.drop at_)).map fun u => term.length - u.length
theorem endN_some {ar : Int → Nat} {term : List Int} {k at_ e : Nat} (hat : at_ ≤ term.length) (h : endN ar term k at_ = some e) : skipN ar k (term.drop at_) = some (term.drop e) ∧ at_ + k ≤ e ∧ e ≤ term.length := by
  unfold endN at h
  cases hs : skipN ar k (term.drop at_) with
  | none => rw [hs] at h; cases h
  | some u =>
    rw [hs] at h
    obtain ⟨d, e1, hd, hk⟩ := skipN_suffix ar _ _ _ hs
    rw [List.length_drop] at hd
    have he : term.length - u.length = e := Option.some.inj h
    have hul : u.length = term.length - (at_ + d) := by rw [e1, List.drop_drop, List.length_drop]
    have hed : e = at_ + d := by omega
    refine ⟨?_, by omega, by omega⟩
    rw [e1, List.drop_drop, hed]
theorem endN_zero (ar : Int → Nat) (term : List Int) (at_ : Nat) (hat : at_ ≤ term.length) : endN ar term 0 at_ = some at_ := by
  unfold endN
  rw [skipN_zero]
  simp only [Option.map_some, List.length_drop]
  congr 1; omega
theorem endN_out (ar : Int → Nat) (term : List Int) (k at_ : Nat) (hk : 0 < k) (hat : term.length ≤ at_) : endN ar term k at_ = none := by
  unfold endN
  obtain ⟨m, rfl⟩ : ∃ m, k = m + 1 := ⟨k - 1, by omega⟩
  rw [List.drop_eq_nil_of_le hat]; rfl
theorem endN_step (ar : Int → Nat) (term : List Int) (k at_ : Nat) (hat : at_ < term.length) : endN ar term (k + 1) at_ = endN ar term (k + ar term[at_]) (at_ + 1) := by
  unfold endN
  rw [List.drop_eq_getElem_cons hat, skipN_cons]
theorem endN_add (ar : Int → Nat) (term : List Int) (k m at_ : Nat) (hat : at_ ≤ term.length) : endN ar term (k + m) at_ = (endN ar term k at_).bind fun e => endN ar term m e := by
  cases h : endN ar term k at_ with
  | none =>
    unfold endN at h ⊢
    rw [skipN_add]
    cases hs : skipN ar k (term.drop at_) with
    | none => rfl
    | some u => rw [hs] at h; cases h
  | some e =>
    obtain ⟨hs, _, _⟩ := endN_some hat h
    simp only [Option.bind_some]
    unfold endN
    rw [skipN_add, hs]
    rfl
end Go.Proofs.YtcanokiehjjbgaaDoor.Pure
set_option linter.unusedVariables false
namespace Go.Proofs.YtcanokiehjjbgaaDoor.Pure
open Go.RowKit Go.Proofs.YtcanokiehjjbgaaDoor.P Go.Proofs.YtcanokiehjjbgaaDoorW.PrintWords Go.Proofs.YtcanokiehjjbgaaDoorW.PrintLast Go.Proofs.YtcanokiehjjbgaaDoor.Base
def nodeB (l : List S110) (n : Int) : Bool := symB l n || decide (-12 ≤ n ∧ n ≤ -1)
def arL (l : List S110) (n : Int) : Nat := if n < 0 then 0 else (rd_T110 l n).f1.toNat
theorem l3Node_eq (l : List S110) (hl : l.length ≤ 6) (n : Int) : spec_l3Node.f [(⟨l⟩ : S26)] n = some (nodeB l n) := by
  unfold spec_l3Node.f nodeB
  rw [l2Symbol_eq l (by omega)]
  simp only [Option.bind_some]
  by_cases h : symB l n = true
  · rw [if_pos h, h]; rfl
  · rw [if_neg h, l1In_eq, Bool.eq_false_iff.2 h]; rfl
theorem isNode_eq (l : List S110) (hl : l.length ≤ 6) (n : Int) : impl_isNode.f l n = some (nodeB l n) := by
  unfold impl_isNode.f nodeB
  rw [isSymbol_eq l (by omega)]
  simp only [Option.bind_some]
  by_cases h : symB l n = true
  · rw [if_pos h, h]; rfl
  · rw [if_neg h, within_eq, Bool.eq_false_iff.2 h]; rfl
def Nodes (l : List S110) (t : List Int) : Prop := ∀ i, i < t.length → nodeB l (rd t (i : Int)) = true
theorem node_sym {l : List S110} {n : Int} (h : nodeB l n = true) (h0 : ¬ n < 0) : 0 ≤ n ∧ n < (l.length : Int) := by
  unfold nodeB at h
  rw [Bool.or_eq_true] at h
  rcases h with h | h
  · exact symB_true h
  · have := of_decide_eq_true h; omega
theorem arL_cast {l : List S110} (hr : Right l) {n : Int} (h : nodeB l n = true) (h0 : ¬ n < 0) : (rd_T110 l n).f1 = (arL l n : Int) ∧ arL l n ≤ 2 := by
  obtain ⟨a, b⟩ := node_sym h h0
  have := hr.arities n.toNat (by omega)
  rw [Int.toNat_of_nonneg a] at this
  unfold arL
  rw [if_neg h0]
  omega
theorem arL_le {l : List S110} (hr : Right l) {n : Int} (h : nodeB l n = true) : arL l n ≤ 2 := by
  by_cases h0 : n < 0
  · unfold arL; rw [if_pos h0]; omega
  · exact (arL_cast hr h h0).2
def endI (o : Option Nat) : Int := match o with
  | some e => (e : Int)
  | none => -1
theorem l3End_loop (l : List S110) (hr : Right l) (t : List Int) (ht : t.length ≤ 1048576) (hn : Nodes l t) (at_ : Nat) (hat : at_ < t.length) (h0 : ¬ rd t (at_ : Int) < 0)
    (ih : ∀ e, at_ < e → e ≤ t.length → Ev (fun k => spec_l3End.f k [(⟨l⟩ : S26)] t (e : Int)) (endI (endN (arL l) t 1 e))) :
    ∀ (m i e : Nat), i + m = arL l (rd t (at_ : Int)) → at_ < e → e ≤ t.length → Ev (fun k => spec_l3End.l0 k [(⟨l⟩ : S26)] t (at_ : Int) (e : Int) (i : Int)) (endI (endN (arL l) t m e)) := by
  obtain ⟨s0, s1⟩ := node_sym (hn at_ hat) h0
  obtain ⟨ha, ha2⟩ := arL_cast hr (hn at_ hat) h0
  have e0 : (rd_T26 [(⟨l⟩ : S26)] 0).f0 = l := rfl
  intro m
  induction m with
  | zero =>
    intro i e hi he hel
    refine ev_succ ?_
    simp only [spec_l3End.l0, e0]
    refine ev_pos (by simp) (ev_pos (by omega) (ev_pos (by omega) (ev_pos s0 (ev_pos s1 ?_))))
    rw [ha, endN_zero _ _ _ hel]
    exact ev_neg (by omega) (ev_some _)
  | succ m ihm =>
    intro i e hi he hel
    refine ev_succ ?_
    simp only [spec_l3End.l0, e0]
    refine ev_pos (by simp) (ev_pos (by omega) (ev_pos (by omega) (ev_pos s0 (ev_pos s1 ?_))))
    rw [ha]
    refine ev_pos (by omega) (ev_bind (ih e he hel) ?_)
    rw [show m + 1 = 1 + m by omega, endN_add _ _ 1 m e hel]
    cases hE : endN (arL l) t 1 e with
    | none => exact ev_pos (by simp [endI]) (ev_some _)
    | some e' =>
      obtain ⟨_, h1, h2⟩ := endN_some hel hE
      refine ev_neg (by simp [endI]) ?_
      rw [wrap_up (by omega)]
      simp only [Option.bind_some]
      exact ihm (i + 1) e' (by omega) (by omega) h2
theorem l3End_ev (l : List S110) (hr : Right l) (t : List Int) (ht : t.length ≤ 1048576) (hn : Nodes l t) : ∀ (d at_ : Nat), at_ + d = t.length → Ev (fun k => spec_l3End.f k [(⟨l⟩ : S26)] t (at_ : Int)) (endI (endN (arL l) t 1 at_)) := by
  intro d
  induction d using Nat.strongRecOn with
  | _ d ih =>
    intro at_ hd
    refine ev_succ ?_
    simp only [spec_l3End.f]
    by_cases hat : t.length ≤ at_
    · rw [endN_out _ _ _ _ (by omega) hat]
      exact ev_pos (by omega) (ev_some _)
    have hat' : at_ < t.length := by omega
    refine ev_neg (by omega) (ev_pos (by omega) (ev_pos (by omega) ?_))
    rw [endN_step _ _ 0 _ hat', ← rd_get t at_ hat', Nat.zero_add, wrap_up (by omega)]
    by_cases h0 : rd t (at_ : Int) < 0
    · refine ev_pos h0 ?_
      have : arL l (rd t (at_ : Int)) = 0 := by unfold arL; rw [if_pos h0]
      rw [this, endN_zero _ _ _ (by omega)]
      exact ev_some _
    · refine ev_neg h0 ?_
      exact l3End_loop l hr t ht hn at_ hat' h0 (fun e he hel => ih (t.length - e) (by omega) e (by omega)) _ 0 (at_ + 1) (by omega) (by omega) (by omega)
def endJ (n : Nat) (o : Option Nat) : Int := match o with
  | some e => (e : Int)
  | none => (n : Int) + 1
theorem arityOf_eq (l : List S110) (hr : Right l) (n : Int) (h : nodeB l n = true) : impl_arityOf.f l n = some (arL l n : Int) := by
  unfold impl_arityOf.f
  by_cases h0 : n < 0
  · rw [if_pos h0]; unfold arL; rw [if_pos h0]; rfl
  · obtain ⟨s0, s1⟩ := node_sym h h0
    rw [if_neg h0, if_pos s0, if_pos s1, (arL_cast hr h h0).1]
theorem endOf_l0 (l : List S110) (hr : Right l) (t : List Int) (ht : t.length ≤ 1048576) (hn : Nodes l t) : ∀ (d at_ o : Nat), at_ + d = t.length → o ≤ 2 * at_ + 1 → Ev (fun k => impl_endOf.l0 k t (at_ : Int) (o : Int) l) (endJ t.length (endN (arL l) t o at_)) := by
  intro d
  induction d with
  | zero =>
    intro at_ o hd ho
    refine ev_succ ?_
    simp only [impl_endOf.l0]
    cases o with
    | zero =>
      rw [endN_zero _ _ _ (by omega)]
      exact ev_neg (by omega) (ev_some _)
    | succ o =>
      rw [endN_out _ _ _ _ (by omega) (by omega)]
      refine ev_pos (by omega) (ev_pos (by omega) ?_)
      rw [wrap_up (by omega)]
      exact ev_to (ev_some _) (by simp [endJ])
  | succ d ih =>
    intro at_ o hd ho
    refine ev_succ ?_
    simp only [impl_endOf.l0]
    cases o with
    | zero =>
      rw [endN_zero _ _ _ (by omega)]
      exact ev_neg (by omega) (ev_some _)
    | succ o =>
      have hat : at_ < t.length := by omega
      refine ev_pos (by omega) (ev_neg (by omega) (ev_pos (by omega) (ev_pos (by omega) (ev_bindq (arityOf_eq l hr _ (hn at_ hat)) ?_))))
      have ha := arL_le hr (hn at_ hat)
      rw [endN_step _ _ o _ hat, ← rd_get t at_ hat, wrap_up (by omega)]
      generalize arL l (rd t (at_ : Int)) = a at *
      rw [wrap_id (x := (a : Int) - 1) (by omega) (by omega), wrap_id (by omega) (by omega), show ((o + 1 : Nat) : Int) + ((a : Int) - 1) = ((o + a : Nat) : Int) by omega]
      exact ih (at_ + 1) (o + a) (by omega) (by omega)
theorem endOf_ev (l : List S110) (hr : Right l) (t : List Int) (ht : t.length ≤ 1048576) (hn : Nodes l t) (at_ : Nat) (hat : at_ ≤ t.length) : Ev (fun k => impl_endOf.f k l t (at_ : Int)) (endJ t.length (endN (arL l) t 1 at_)) := by
  unfold impl_endOf.f
  exact endOf_l0 l hr t ht hn (t.length - at_) at_ 1 (by omega) (by omega)
def badN (l : List S110) (t : List Int) : Bool := (firstN (fun j => !nodeB l (rd t (j : Int))) t.length 0).isSome
theorem nodes_of {l : List S110} {t : List Int} (h : ¬ badN l t = true) : Nodes l t := by
  unfold badN at h
  have h1 : firstN (fun j => !nodeB l (rd t (j : Int))) t.length 0 = none := by
    cases hf : firstN (fun j => !nodeB l (rd t (j : Int))) t.length 0 with
    | none => rfl
    | some j => rw [hf] at h; exact absurd rfl h
  intro i hi
  have := (firstN_none t.length 0).1 h1 i (by omega) (by omega)
  simpa using this
def termG (l : List S110) (t : List Int) : Int :=
  if t.length < 1 ∨ t.length > 24 then 2 else if badN l t = true then 3 else if endN (arL l) t 1 0 = some t.length then 0 else 1
def termF (l : List S110) (t : List Int) : Int := if sigF l = 0 then termG l t else sigF l
theorem l3Fault_ev (l : List S110) (hr : Right l) (t : List Int) (ht : t.length ≤ 1048576) : Ev (fun k => spec_l3Fault.f k [(⟨l⟩ : S26)] t) (termG l t) := by
  have hl := hr.len
  unfold spec_l3Fault.f termG
  by_cases h1 : (t.length : Int) < 1
  · rw [if_pos (.inl (by omega))]
    refine ev_pos h1 (ev_succ ?_)
    simp only [spec_l3Fault.j0]
    exact ev_pos (by simp) (ev_some _)
  refine ev_neg h1 (ev_succ ?_)
  simp only [spec_l3Fault.j0]
  by_cases h2 : (t.length : Int) > 24
  · rw [if_pos (.inr (by omega))]
    exact ev_pos (by simpa using h2) (ev_some _)
  rw [if_neg (by omega)]
  refine ev_neg (by simpa using h2) ?_
  by_cases hb : badN l t = true
  · rw [if_pos hb]
    unfold badN at hb
    cases hf : firstN (fun j => !nodeB l (rd t (j : Int))) t.length 0 with
    | none => rw [hf] at hb; cases hb
    | some j =>
      obtain ⟨_, hj, hp, hall⟩ := firstN_some _ _ _ hf
      have key : ∀ d i, i + d = j → Ev (fun k => spec_l3Fault.l0 k [(⟨l⟩ : S26)] t (i : Int)) 3 := by
        intro d
        induction d with
        | zero =>
          intro i hi
          obtain rfl : i = j := by omega
          refine ev_succ ?_
          simp only [spec_l3Fault.l0]
          refine ev_pos (by omega) (ev_pos (by omega) (ev_bindq (l3Node_eq l (by omega) _) ?_))
          exact ev_neg (by simpa using hp) (ev_some _)
        | succ d ih =>
          intro i hi
          refine ev_succ ?_
          simp only [spec_l3Fault.l0]
          refine ev_pos (by omega) (ev_pos (by omega) (ev_bindq (l3Node_eq l (by omega) _) ?_))
          have := hall i (by omega) (by omega)
          rw [wrap_up (by omega)]
          exact ev_pos (by simpa using this) (ih (i + 1) (by omega))
      exact key j 0 (by omega)
  · rw [if_neg hb]
    have hn := nodes_of hb
    have h := loop_scan t.length (fun j => if (!nodeB l (rd t (j : Int))) = true then some 3 else none) (if endN (arL l) t 1 0 = some t.length then 0 else 1) (fun k i => spec_l3Fault.l0 k [(⟨l⟩ : S26)] t i)
      (by
        simp only [spec_l3Fault.l0]
        refine ev_neg (by omega) (ev_bind (l3End_ev l hr t ht hn t.length 0 (by omega)) ?_)
        by_cases he : endN (arL l) t 1 0 = some t.length
        · rw [he]; exact ev_pos rfl (ev_to (ev_some _) (if_pos rfl).symm)
        · refine ev_neg ?_ (ev_to (ev_some _) (if_neg he).symm)
          cases hE : endN (arL l) t 1 0 with
          | none => simp [endI] <;> omega
          | some e =>
            intro k
            have : e = t.length := by simp only [endI] at k; omega
            exact he (by rw [hE, this]))
      (fun i hi r hr => by
        simp only [spec_l3Fault.l0]
        refine ev_pos (by omega) (ev_pos (by omega) (ev_bindq (l3Node_eq l (by omega) _) ?_))
        rw [wrap_up (by omega), hn i hi]
        exact ev_pos rfl (ev_to hr (by simp)))
      t.length 0 (by omega)
    refine ev_to h ?_
    exact scanN_none t.length 0 (fun j _ hj => by simp [hn j (by omega)])
theorem Term_bad (l : List S110) (hl : l.length ≤ 6) (t : List Int) (ht : t.length ≤ 1048576) :
    Ev (fun k => slices_ContainsFunc_int64_int64_impl_TermFault_1.f k t [(⟨l⟩ : S26)]) (badN l t) := by
  unfold slices_ContainsFunc_int64_int64_impl_TermFault_1.f slices_IndexFunc_int64_int64_impl_TermFault_1.f
  have h := loop_scan t.length (fun j => if (!nodeB l (rd t (j : Int))) = true then some (j : Int) else none) (-1) (fun k i => slices_IndexFunc_int64_int64_impl_TermFault_1.l0 k t (t.length : Int) i [(⟨l⟩ : S26)])
    (by simp only [slices_IndexFunc_int64_int64_impl_TermFault_1.l0]; exact ev_neg (by omega) (ev_some _))
    (fun i hi r hr => by
      simp only [slices_IndexFunc_int64_int64_impl_TermFault_1.l0]
      refine ev_pos (by omega) (ev_pos (by omega) (ev_pos (by omega) (ev_bindq (a := !nodeB l (rd t (i : Int))) ?_ ?_)))
      · unfold impl_TermFault_1_with.f
        rw [if_pos (by simp)]
        exact bind_eq (isNode_eq l (by omega) _) rfl
      · rw [wrap_up (by omega)]
        by_cases h : (!nodeB l (rd t (i : Int))) = true
        · rw [if_pos h]; exact ev_pos h (ev_some _)
        · rw [if_neg h]; exact ev_neg h hr)
    t.length 0 (by omega)
  rw [scanN_first (fun j => !nodeB l (rd t (j : Int))) (fun j => (j : Int)) (-1)] at h
  refine ev_bind h (ev_to (ev_some _) ?_)
  unfold badN
  cases firstN (fun j => !nodeB l (rd t (j : Int))) t.length 0 with
  | none => rfl
  | some j => simp
theorem TermFault_impl (l : List S110) (t : List Int) (ht : t.length ≤ 1048576) : Ev (fun k => impl_TermFault.f k l t) (termF l t) := by
  unfold impl_TermFault.f termF
  refine ev_bind (SignatureFault_impl l) (ev_ite (fun h => ?_) (fun h => ev_some _))
  have hr := right_of l h
  have hl := hr.len
  unfold termG
  by_cases h1 : (t.length : Int) < 1
  · rw [if_pos (.inl (by omega))]
    refine ev_pos h1 (ev_succ ?_)
    simp only [impl_TermFault.j0]
    exact ev_pos (by simp) (ev_some _)
  refine ev_neg h1 (ev_succ ?_)
  simp only [impl_TermFault.j0]
  by_cases h2 : (t.length : Int) > 24
  · rw [if_pos (.inr (by omega))]
    exact ev_pos (by simpa using h2) (ev_some _)
  rw [if_neg (by omega)]
  refine ev_neg (by simpa using h2) (ev_bind (Term_bad l (by omega) t ht) (ev_ite (fun hb => ev_some _) (fun hb => ?_)))
  have hn := nodes_of hb
  refine ev_bind (endOf_ev l hr t ht hn 0 (by omega)) ?_
  by_cases he : endN (arL l) t 1 0 = some t.length
  · rw [he]; exact ev_pos rfl (ev_to (ev_some _) (if_pos rfl).symm)
  · refine ev_neg ?_ (ev_to (ev_some _) (if_neg he).symm)
    cases hE : endN (arL l) t 1 0 with
    | none => simp [endJ] <;> omega
    | some e =>
      intro k
      have : e = t.length := by simp only [endJ] at k; omega
      exact he (by rw [hE, this])
structure RightT (l : List S110) (t : List Int) : Prop where
  sig : Right l
  len : 1 ≤ t.length ∧ t.length ≤ 24
  nodes : Nodes l t
  whole : endN (arL l) t 1 0 = some t.length
theorem rightT_of {l : List S110} {t : List Int} (h : termF l t = 0) : RightT l t := by
  unfold termF at h
  by_cases hs : sigF l = 0
  · rw [if_pos hs] at h
    unfold termG at h
    by_cases h1 : t.length < 1 ∨ t.length > 24
    · rw [if_pos h1] at h; cases h
    rw [if_neg h1] at h
    by_cases h2 : badN l t = true
    · rw [if_pos h2] at h; cases h
    rw [if_neg h2] at h
    by_cases h3 : endN (arL l) t 1 0 = some t.length
    · exact ⟨right_of l hs, by omega, nodes_of h2, h3⟩
    · rw [if_neg h3] at h; cases h
  · rw [if_neg hs] at h; exact absurd h hs
end Go.Proofs.YtcanokiehjjbgaaDoor.Pure
set_option linter.unusedVariables false
namespace Go.Proofs.YtcanokiehjjbgaaDoor.Pure
open Go.RowKit Go.Proofs.YtcanokiehjjbgaaDoor.P Go.Proofs.YtcanokiehjjbgaaDoorW.PrintWords Go.Proofs.YtcanokiehjjbgaaDoorW.PrintLast Go.Proofs.YtcanokiehjjbgaaDoor.Base
theorem toInt64S_l0 (l : List Int) (hl : l.length ≤ 35184372088832) : ∀ (d i : Nat), i + d = l.length → Ev (fun k => laws_toInt64S.l0 k l (cpart 0 l i) (i : Int)) l := by
  intro d
  induction d with
  | zero =>
    intro i hi
    refine ev_succ ?_
    simp only [laws_toInt64S.l0]
    refine ev_neg (by omega) ?_
    obtain rfl : i = l.length := by omega
    rw [cpart_end]
    exact ev_some _
  | succ d ih =>
    intro i hi
    refine ev_succ ?_
    simp only [laws_toInt64S.l0]
    refine ev_pos (by omega) (ev_pos (by omega) (ev_pos (by rw [cpart_length _ _ _ (by omega)]; omega) ?_))
    rw [wrap_up (by omega), Int.toNat_natCast, cpart_set 0 l i (by omega) _ (rd_some l i (by omega))]
    exact ih (i + 1) (by omega)
theorem toInt64S_ev (l : List Int) (hl : l.length ≤ 35184372088832) : Ev (fun k => laws_toInt64S.f k l) l := by
  unfold laws_toInt64S.f
  refine ev_pos (by omega) (ev_pos (by omega) ?_)
  rw [Int.toNat_natCast, ← cpart_zero]
  exact toInt64S_l0 l hl l.length 0 (by omega)
theorem eqInt64S_l0 (a b : List Int) (hab : a.length = b.length) (hl : a.length ≤ 9223372036854775807) : ∀ (d i : Nat), i + d = a.length → Ev (fun k => laws_eqInt64S.l0 k a b (i : Int)) (decide (a.drop i = b.drop i)) := by
  intro d
  induction d with
  | zero =>
    intro i hi
    refine ev_succ ?_
    simp only [laws_eqInt64S.l0]
    refine ev_neg (by omega) ?_
    rw [List.drop_eq_nil_of_le (by omega), List.drop_eq_nil_of_le (by omega)]
    exact ev_some _
  | succ d ih =>
    intro i hi
    refine ev_succ ?_
    simp only [laws_eqInt64S.l0]
    refine ev_pos (by omega) (ev_pos (by omega) (ev_pos (by omega) ?_))
    rw [rd_drop a i (by omega), rd_drop b i (by omega)]
    by_cases h : rd a (i : Int) = rd b (i : Int)
    · refine ev_pos h ?_
      rw [wrap_up (by omega)]
      refine ev_to (ih (i + 1) (by omega)) ?_
      simp [h]
    · refine ev_neg h ?_
      refine ev_to (ev_some _) ?_
      simp [h]
theorem eqInt64S_ev (a b : List Int) (hl : a.length ≤ 9223372036854775807) : Ev (fun k => laws_eqInt64S.f k a b) (decide (a = b)) := by
  unfold laws_eqInt64S.f
  by_cases h : a.length = b.length
  · refine ev_pos (by omega) ?_
    exact eqInt64S_l0 a b h hl a.length 0 (by omega)
  · refine ev_neg (by omega) ?_
    refine ev_to (ev_some _) ?_
    have : ¬ a = b := fun e => h (by rw [e])
    simp [this]
end Go.Proofs.YtcanokiehjjbgaaDoor.Pure
set_option linter.unusedVariables false
namespace Go.Proofs.YtcanokiehjjbgaaDoor.Pure
open Go.RowKit Go.Proofs.YtcanokiehjjbgaaDoor.P Go.Proofs.YtcanokiehjjbgaaDoorW.PrintWords Go.Proofs.YtcanokiehjjbgaaDoorW.PrintLast Go.Proofs.YtcanokiehjjbgaaDoor.Base
theorem rdL_get_ll (xs : List (List Int)) (i : Nat) (h : i < xs.length) : rd_L6 xs (i : Int) = xs[i] := by
  unfold rd_L6; exact getD_get xs i _ h
theorem szInt64S_cases (l : List Int) (hl : l.length ≤ maxLen) (v : Int) (h0 : 0 ≤ v) (h1 : v ≤ 1048576) :
    laws_szInt64S.f l v = some (-1) ∨ ∃ u, laws_szInt64S.f l v = some u ∧ 0 ≤ u ∧ u ≤ v ∧ (l.length : Int) ≤ v := by
  unfold maxLen at hl
  unfold laws_szInt64S.f
  rw [wrap_id (x := v - (l.length : Int)) (by omega) (by omega)]
  by_cases h : v - (l.length : Int) < 0
  · rw [if_pos h]; exact .inl rfl
  · rw [if_neg h]; exact .inr ⟨_, rfl, by omega, by omega, by omega⟩
theorem szInt64SS_ev (l : List (List Int)) (hl : l.length ≤ maxLen ∧ ∀ x ∈ l, x.length ≤ maxLen) (v : Int) (h0 : 0 ≤ v) (h1 : v ≤ 1048576) :
    ∃ r, Ev (fun k => laws_szInt64SS.f k l v) r ∧ (¬ r < 0 → r ≤ v ∧ (l.length : Int) ≤ v ∧ ∀ x ∈ l, x.length ≤ 1048576) := by
  have hm := hl.1
  unfold maxLen at hm
  unfold laws_szInt64SS.f
  rw [wrap_id (x := v - (l.length : Int)) (by omega) (by omega)]
  by_cases h : v - (l.length : Int) < 0
  · exact ⟨-1, ev_pos h (ev_some _), fun h => absurd (by omega) h⟩
  obtain ⟨r, hr, hg⟩ := loop_sz (fun x : List Int => x.length ≤ 1048576) 1048576 l (fun k v i => laws_szInt64SS.l0 k l v i)
    (fun k v => by simp only [laws_szInt64SS.l0]; rw [if_neg (by omega)])
    (fun i ha v h0 h1 => by
      simp only [laws_szInt64SS.l0]
      rcases szInt64S_cases l[i] (hl.2 _ (List.getElem_mem ha)) v h0 h1 with e | ⟨u, e, u0, uv, hq⟩
      · exact .inl (ev_pos (by omega) (ev_pos (by omega) (ev_bindq (by rw [rdL_get_ll l i ha]; exact e) (ev_pos (by omega) (ev_some _)))))
      · refine .inr ⟨u, u0, uv, by omega, fun r hr => ev_pos (by omega) (ev_pos (by omega) (ev_bindq (by rw [rdL_get_ll l i ha]; exact e) (ev_neg (by omega) ?_)))⟩
        rw [wrap_up (by omega)]; exact hr)
    l.length 0 (v - (l.length : Int)) (by omega) (by omega) (by omega)
  refine ⟨r, ev_neg h hr, fun hn => ?_⟩
  obtain ⟨g1, g2⟩ := hg hn
  exact ⟨by omega, by omega, fun x hx => g2 x (by simpa using hx)⟩
def FitsB (a : List Int) (b : List (List Int)) : Prop := (a.length ≤ maxLen ∧ ∀ x ∈ a, (Lit.int .i64 x).wf = true) ∧ b.length ≤ maxLen ∧ ∀ x ∈ b, x.length ≤ maxLen ∧ ∀ y ∈ x, (Lit.int .i64 y).wf = true
def FairB (a : List Int) (b : List (List Int)) : Prop := a.length ≤ 1048576 ∧ b.length ≤ 1048576 ∧ ∀ x ∈ b, x.length ≤ 1048576
theorem szBinding_ev (a : List Int) (b : List (List Int)) (hf : FitsB a b) (v : Int) (h0 : 0 ≤ v) (h1 : v ≤ 1048576) :
    ∃ r, Ev (fun k => laws_szBinding.f k a b v) r ∧ (¬ r < 0 → r ≤ v ∧ FairB a b) := by
  unfold laws_szBinding.f
  rcases szInt64S_cases a hf.1.1 v h0 h1 with e | ⟨u, e, u0, uv, hq⟩
  · exact ⟨-1, ev_bindq e (ev_pos (by omega) (ev_some _)), fun h => absurd (by omega) h⟩
  obtain ⟨r, hr, hg⟩ := szInt64SS_ev b ⟨hf.2.1, fun x hx => (hf.2.2 x hx).1⟩ u u0 (by omega)
  by_cases hn : r < 0
  · exact ⟨-1, ev_bindq e (ev_neg (by omega) (ev_bind hr (ev_pos hn (ev_some _)))), fun h => absurd (by omega) h⟩
  obtain ⟨g1, g2, g3⟩ := hg hn
  exact ⟨r, ev_bindq e (ev_neg (by omega) (ev_bind hr (ev_neg hn (ev_some _)))), fun _ => ⟨by omega, by omega, by omega, g3⟩⟩
theorem toInt64SS_ev (l : List (List Int)) (hl : l.length ≤ 1048576) (hx : ∀ x ∈ l, x.length ≤ 1048576) : Ev (fun k => laws_toInt64SS.f k l) l := by
  unfold laws_toInt64SS.f
  refine ev_pos (by omega) (ev_pos (by omega) ?_)
  have h := loop_map (fun x : List Int => x) [] l (fun k ys i => laws_toInt64SS.l0 k l ys i)
    (fun k ys => by simp only [laws_toInt64SS.l0]; rw [if_neg (by omega)])
    (fun i ha ys r hy hr => by
      simp only [laws_toInt64SS.l0]
      refine ev_pos (by omega) (ev_pos (by omega) ?_)
      rw [rdL_get_ll l i ha, wrap_up (by omega), Int.toNat_natCast]
      have := hx _ (List.getElem_mem ha)
      exact ev_bind (toInt64S_ev _ (by omega)) (ev_pos (by omega) hr))
    l.length 0 (by omega)
  rw [List.map_id'] at h
  rw [cpart_zero] at h
  rw [Int.toNat_natCast]
  exact h
theorem toBinding_ev (a : List Int) (b : List (List Int)) (hf : FairB a b) : Ev (fun k => laws_toBinding.f k a b) (a, b) := by
  unfold laws_toBinding.f
  have h1 := hf.1
  exact ev_bind (toInt64S_ev a (by omega)) (ev_bind (toInt64SS_ev b hf.2.1 hf.2.2) (ev_some _))
theorem eqInt64SS_ev (l : List (List Int)) (hl : l.length ≤ 1048576) (hx : ∀ x ∈ l, x.length ≤ 1048576) : Ev (fun k => laws_eqInt64SS.f k l l) true := by
  unfold laws_eqInt64SS.f
  refine ev_pos rfl ?_
  have h := loop_all (fun x y : List Int => decide (x = y)) l l rfl (fun k i => laws_eqInt64SS.l0 k l l i)
    (fun k => by simp only [laws_eqInt64SS.l0]; rw [if_neg (by omega)])
    (fun i ha hb r hr => by
      simp only [laws_eqInt64SS.l0]
      refine ev_pos (by omega) (ev_pos (by omega) (ev_pos (by omega) ?_))
      rw [rdL_get_ll l i ha, wrap_up (by omega)]
      have := hx _ (List.getElem_mem ha)
      refine ev_bind (eqInt64S_ev _ _ (by omega)) (ev_pos (by simp) ?_)
      simpa using hr)
    l.length 0 (by omega)
  rw [List.drop_zero] at h
  exact ev_to h (allB_self _ (fun x => by simp) l)
theorem eqBinding_ev (a : List Int) (b : List (List Int)) (hf : FairB a b) : Ev (fun k => laws_eqBinding.f k a b a b) true := by
  unfold laws_eqBinding.f
  have h1 := hf.1
  exact ev_bind (eqInt64S_ev a a (by omega)) (ev_pos (by simp) (ev_bind (eqInt64SS_ev b hf.2.1 hf.2.2) (ev_pos rfl (ev_some _))))
end Go.Proofs.YtcanokiehjjbgaaDoor.Pure
set_option linter.unusedVariables false
namespace Go.Proofs.YtcanokiehjjbgaaDoor.Pure
open Go.RowKit Go.Proofs.YtcanokiehjjbgaaDoor.P Go.Proofs.YtcanokiehjjbgaaDoorW.PrintWords Go.Proofs.YtcanokiehjjbgaaDoorW.PrintLast Go.Proofs.YtcanokiehjjbgaaDoor.Base
theorem loop_scan_from {R : Type} (s n : Nat) (f : Nat → Option R) (e : R) (L : Nat → Int → Option R) (h0 : Ev (fun k => L (k + 1) (n : Int)) e)
    (h1 : ∀ i, s ≤ i → i < n → ∀ r, Ev (fun k => L k ((i + 1 : Nat) : Int)) r → Ev (fun k => L (k + 1) (i : Int)) ((f i).getD r)) :
    ∀ d i, s ≤ i → i + d = n → Ev (fun k => L k (i : Int)) (scanN f e d i) := by
  intro d
  induction d with
  | zero =>
    intro i hs hi
    obtain rfl : i = n := by omega
    exact ev_succ h0
  | succ d ih =>
    intro i hs hi
    exact ev_succ (h1 i hs (by omega) _ (ih (i + 1) (by omega) (by omega)))
def fallB (a : List Int) (i : Nat) : Bool := decide (rd a (i : Int) ≤ rd a ((i : Int) - 1))
def riseN {R : Type} (a : List Int) (no yes : R) : R := scanN (fun i => if fallB a i = true then some no else none) yes (a.length - 1) 1
theorem l1Rise_ev (a : List Int) (ha : a.length ≤ 1048576) : Ev (fun k => spec_l1Rise.f k a) (riseN a false true) := by
  unfold spec_l1Rise.f riseN
  rcases Nat.eq_zero_or_pos a.length with h0 | h0
  · rw [h0]
    refine ev_succ ?_
    simp only [spec_l1Rise.l0]
    exact ev_neg (by omega) (ev_some _)
  exact loop_scan_from 1 a.length (fun i => if fallB a i = true then some false else none) true (fun k i => spec_l1Rise.l0 k a i)
    (by simp only [spec_l1Rise.l0]; exact ev_neg (by omega) (ev_some _))
    (fun i hs hi r hr => by
      simp only [spec_l1Rise.l0]
      rw [wrap_id (x := (i : Int) - 1) (by omega) (by omega), wrap_up (by omega)]
      refine ev_pos (by omega) (ev_pos (by omega) (ev_pos (by omega) (ev_pos (by omega) ?_)))
      by_cases h : rd a (i : Int) ≤ rd a ((i : Int) - 1)
      · exact ev_pos h (ev_to (ev_some _) (by simp [fallB, h]))
      · exact ev_neg h (ev_to hr (by simp [fallB, h])))
    (a.length - 1) 1 (by omega) (by omega)
theorem Binding_l1 (a : List Int) (b : List (List Int)) (ha : a.length ≤ 1048576) : Ev (fun k => impl_BindingFault.l1 k 1 a b) (riseN a 1 0) := by
  unfold riseN
  rcases Nat.eq_zero_or_pos a.length with h0 | h0
  · rw [h0]
    refine ev_succ ?_
    simp only [impl_BindingFault.l1]
    exact ev_neg (by omega) (ev_some _)
  exact loop_scan_from 1 a.length (fun i => if fallB a i = true then some (1 : Int) else none) 0 (fun k i => impl_BindingFault.l1 k i a b)
    (by simp only [impl_BindingFault.l1]; exact ev_neg (by omega) (ev_some _))
    (fun i hs hi r hr => by
      simp only [impl_BindingFault.l1]
      rw [wrap_id (x := (i : Int) - 1) (by omega) (by omega), wrap_up (by omega)]
      refine ev_pos (by omega) (ev_pos (by omega) (ev_pos (by omega) (ev_pos (by omega) ?_)))
      by_cases h : rd a (i : Int) ≤ rd a ((i : Int) - 1)
      · exact ev_pos h (ev_to (ev_some _) (by simp [fallB, h]))
      · exact ev_neg h (ev_to hr (by simp [fallB, h])))
    (a.length - 1) 1 (by omega) (by omega)
theorem riseN_code (a : List Int) : (if riseN a false true = true then (0 : Int) else 1) = riseN a 1 0 := by
  unfold riseN
  rw [scanN_first (fun i => fallB a i) (fun _ => false) true, scanN_first (fun i => fallB a i) (fun _ => (1 : Int)) 0]
  cases firstN (fun i => fallB a i) (a.length - 1) 1 <;> rfl
def boundF (l : List S110) (a : List Int) (b : List (List Int)) (i : Nat) : Option Int :=
  if decide (0 ≤ rd a (i : Int) ∧ rd a (i : Int) ≤ 11) = true then (if termG l (rd_L6 b (i : Int)) = 0 then none else some (termG l (rd_L6 b (i : Int)))) else some 3
def bindG (l : List S110) (a : List Int) (b : List (List Int)) : Int :=
  if a.length = b.length ∧ a.length ≤ 12 then scanN (boundF l a b) (riseN a 1 0) a.length 0 else 2
def bindF (l : List S110) (a : List Int) (b : List (List Int)) : Int := if sigF l = 0 then bindG l a b else sigF l
theorem l6Fault_ev (l : List S110) (hr : Right l) (a : List Int) (b : List (List Int)) (hf : FairB a b) : Ev (fun k => spec_l6Fault.f k [(⟨l⟩ : S26)] [(⟨a, b⟩ : S67)]) (bindG l a b) := by
  have e0 : (rd_T67 [(⟨a, b⟩ : S67)] 0).f0 = a := rfl
  have e1 : (rd_T67 [(⟨a, b⟩ : S67)] 0).f1 = b := rfl
  unfold spec_l6Fault.f bindG
  simp only [e0, e1]
  refine ev_pos (by simp) ?_
  by_cases h1 : a.length = b.length
  · refine ev_pos (by omega) (ev_succ ?_)
    simp only [spec_l6Fault.j0]
    by_cases h2 : (a.length : Int) > 12
    · rw [if_neg (by omega)]
      exact ev_pos (by simpa using h2) (ev_some _)
    rw [if_pos ⟨h1, by omega⟩]
    refine ev_neg (by simpa using h2) ?_
    exact loop_scan a.length (boundF l a b) (riseN a 1 0) (fun k i => spec_l6Fault.l0 k [(⟨l⟩ : S26)] [(⟨a, b⟩ : S67)] i)
      (by
        simp only [spec_l6Fault.l0, e0, e1]
        refine ev_pos (by simp) (ev_neg (by omega) (ev_bind (l1Rise_ev a hf.1) ?_))
        rw [← riseN_code]
        exact ev_ite (fun _ => ev_some _) (fun _ => ev_some _))
      (fun i hi r hr' => by
        have hb : i < b.length := by omega
        have hbl : (rd_L6 b (i : Int)).length ≤ 1048576 := by rw [rdL_get_ll b i hb]; exact hf.2.2 _ (List.getElem_mem hb)
        simp only [spec_l6Fault.l0, e0, e1]
        refine ev_pos (by simp) (ev_pos (by omega) (ev_pos (by omega) (ev_bindq (l1In_eq _ _ _) ?_)))
        rw [wrap_up (by omega)]
        unfold boundF
        by_cases hv : decide (0 ≤ rd a (i : Int) ∧ rd a (i : Int) ≤ 11) = true
        · rw [if_pos hv]
          refine ev_pos hv (ev_pos (by omega) (ev_bind (l3Fault_ev l hr _ hbl) ?_))
          by_cases hc : termG l (rd_L6 b (i : Int)) = 0
          · rw [if_pos hc]; exact ev_pos hc hr'
          · rw [if_neg hc]; exact ev_neg hc (ev_some _)
        · rw [if_neg hv]; exact ev_neg hv (ev_some _))
      a.length 0 (by omega)
  · rw [if_neg (by omega)]
    refine ev_neg (by omega) (ev_succ ?_)
    simp only [spec_l6Fault.j0]
    exact ev_pos (by simp) (ev_some _)
theorem BindingFault_spec (l : List S110) (a : List Int) (b : List (List Int)) (hf : FairB a b) : Ev (fun k => spec_BindingFault.f k l a b) (bindF l a b) := by
  unfold spec_BindingFault.f bindF
  exact ev_bind (SignatureFault_spec l) (ev_ite (fun h => ev_bind (l6Fault_ev l (right_of l h) a b hf) (ev_some _)) (fun h => ev_some _))
theorem BindingFault_impl (l : List S110) (a : List Int) (b : List (List Int)) (hf : FairB a b) : Ev (fun k => impl_BindingFault.f k l a b) (bindF l a b) := by
  unfold impl_BindingFault.f bindF
  refine ev_bind (SignatureFault_impl l) (ev_ite (fun h => ?_) (fun h => ev_some _))
  have hr := right_of l h
  unfold bindG
  by_cases h1 : a.length = b.length
  · refine ev_pos (by omega) (ev_succ ?_)
    simp only [impl_BindingFault.j0]
    by_cases h2 : (a.length : Int) > 12
    · rw [if_neg (by omega)]
      exact ev_pos (by simpa using h2) (ev_some _)
    rw [if_pos ⟨h1, by omega⟩]
    refine ev_neg (by simpa using h2) ?_
    exact loop_scan a.length (boundF l a b) (riseN a 1 0) (fun k i => impl_BindingFault.l0 k a (a.length : Int) i l a b)
      (by
        simp only [impl_BindingFault.l0]
        exact ev_neg (by omega) (Binding_l1 a b hf.1))
      (fun i hi r hr' => by
        have hb : i < b.length := by omega
        have hbl : (rd_L6 b (i : Int)).length ≤ 1048576 := by rw [rdL_get_ll b i hb]; exact hf.2.2 _ (List.getElem_mem hb)
        simp only [impl_BindingFault.l0]
        refine ev_pos (by omega) (ev_pos (by omega) (ev_pos (by omega) (ev_bindq (within_eq _ _ _) ?_)))
        rw [wrap_up (by omega)]
        unfold boundF
        have ht : termF l (rd_L6 b (i : Int)) = termG l (rd_L6 b (i : Int)) := by unfold termF; rw [if_pos h]
        by_cases hv : decide (0 ≤ rd a (i : Int) ∧ rd a (i : Int) ≤ 11) = true
        · rw [if_pos hv]
          have hti := TermFault_impl l _ hbl
          rw [ht] at hti
          refine ev_pos hv (ev_pos (by omega) (ev_bind hti ?_))
          by_cases hc : termG l (rd_L6 b (i : Int)) = 0
          · rw [if_pos hc]; exact ev_pos hc hr'
          · rw [if_neg hc]; exact ev_neg hc (ev_some _)
        · rw [if_neg hv]; exact ev_neg hv (ev_some _))
      a.length 0 (by omega)
  · rw [if_neg (by omega)]
    refine ev_neg (by omega) (ev_succ ?_)
    simp only [impl_BindingFault.j0]
    exact ev_pos (by simp) (ev_some _)
end Go.Proofs.YtcanokiehjjbgaaDoor.Pure
set_option linter.unusedVariables false
namespace Go.Proofs.YtcanokiehjjbgaaDoor.Pure
open Go.RowKit Go.Proofs.YtcanokiehjjbgaaDoorW.PrintWords Go.Proofs.YtcanokiehjjbgaaDoor.Base
def Whole (ar : Int → Nat) (t : List Int) : Prop := skipN ar 1 t = some []
theorem whole_iff {ar : Int → Nat} {t : List Int} : endN ar t 1 0 = some t.length ↔ Whole ar t := by
  constructor
  · intro h
    obtain ⟨h1, _, _⟩ := endN_some (by omega) h
    rw [List.drop_zero, List.drop_length] at h1
    exact h1
  · intro h
    unfold endN
    rw [List.drop_zero, h]
    simp
end Go.Proofs.YtcanokiehjjbgaaDoor.Pure
set_option linter.unusedVariables false
namespace Go.Proofs.YtcanokiehjjbgaaDoor.Pure
open Go.RowKit Go.Proofs.YtcanokiehjjbgaaDoor.P Go.Proofs.YtcanokiehjjbgaaDoorW.PrintWords Go.Proofs.YtcanokiehjjbgaaDoorW.PrintLast Go.Proofs.YtcanokiehjjbgaaDoor.Base
theorem nodes_iff {l : List S110} {t : List Int} : Nodes l t ↔ ∀ n ∈ t, nodeB l n = true := by
  constructor
  · intro h n hn
    obtain ⟨j, hj, rfl⟩ := List.mem_iff_getElem.1 hn
    have := h j hj
    rwa [rd_get t j hj] at this
  · intro h i hi
    exact h _ (rd_mem t i hi)
theorem right_parts {l : List S110} {t : List Int} (h : termF l t = 0) : 1 ≤ t.length ∧ t.length ≤ 24 ∧ (∀ n ∈ t, nodeB l n = true) ∧ Whole (arL l) t := by
  have hr := rightT_of h
  exact ⟨hr.len.1, hr.len.2, nodes_iff.1 hr.nodes, whole_iff.1 hr.whole⟩
end Go.Proofs.YtcanokiehjjbgaaDoor.Pure
set_option linter.unusedVariables false
namespace Go.Proofs.YtcanokiehjjbgaaDoor.Pure
open Go.RowKit Go.Proofs.YtcanokiehjjbgaaDoorW.PrintWords Go.Proofs.YtcanokiehjjbgaaDoor.Base
def idxN (n : Int) : List Int → Nat
  | [] => 0
  | x :: xs => if x = n then 0 else idxN n xs + 1
theorem idxN_lt (n : Int) : ∀ l : List Int, n ∈ l → idxN n l < l.length
  | [], h => by simp at h
  | x :: xs, h => by
    unfold idxN
    by_cases e : x = n
    · rw [if_pos e]; simp
    · rw [if_neg e]
      rcases List.mem_cons.1 h with h | h
      · exact absurd h.symm e
      · have := idxN_lt n xs h
        simp only [List.length_cons]; omega
theorem idxN_get (n : Int) : ∀ (l : List Int) (h : idxN n l < l.length), l[idxN n l] = n
  | [], h => by simp at h
  | x :: xs, h => by
    by_cases e : x = n
    · have : idxN n (x :: xs) = 0 := by unfold idxN; rw [if_pos e]
      simp only [this, List.getElem_cons_zero]; exact e
    · have hk : idxN n (x :: xs) = idxN n xs + 1 := by rw [idxN, if_neg e]
      simp only [hk, List.getElem_cons_succ]
      exact idxN_get n xs (by rw [hk] at h; simpa using h)
theorem idxN_first (n : Int) : ∀ (l : List Int) (j : Nat) (hj : j < l.length), j < idxN n l → l[j] ≠ n
  | [], j, hj, _ => by simp at hj
  | x :: xs, j, hj, h => by
    by_cases e : x = n
    · rw [idxN, if_pos e] at h; omega
    · rw [idxN, if_neg e] at h
      cases j with
      | zero => simpa using e
      | succ j => simpa using idxN_first n xs j (by simpa using hj) (by omega)
theorem placeN_idx (l : List Int) (n : Int) : placeN (fun j => n == rd l (j : Int)) l.length = if n ∈ l then (idxN n l : Int) else -1 := by
  rcases placeN_cases (fun j => n == rd l (j : Int)) l.length with ⟨h1, h2⟩ | ⟨j, hj, h1, h2, h3⟩
  · rw [h1, if_neg]
    intro hm
    have hlt := idxN_lt n l hm
    have := h2 (idxN n l) hlt
    rw [rd_get l _ hlt, idxN_get n l hlt] at this
    simp at this
  · have e : l[j] = n := by
      rw [rd_get l j hj] at h2
      exact (beq_iff_eq.1 h2).symm
    have hm : n ∈ l := e ▸ List.getElem_mem hj
    rw [h1, if_pos hm]
    have hlt := idxN_lt n l hm
    rcases Nat.lt_trichotomy j (idxN n l) with k | k | k
    · exact absurd e (idxN_first n l j hj k)
    · rw [k]
    · have := h3 (idxN n l) k
      rw [rd_get l _ hlt, idxN_get n l hlt] at this
      simp at this
end Go.Proofs.YtcanokiehjjbgaaDoor.Pure
set_option linter.unusedVariables false
namespace Go.Proofs.YtcanokiehjjbgaaDoor.Pure
open Go.RowKit Go.Proofs.YtcanokiehjjbgaaDoor.P Go.Proofs.YtcanokiehjjbgaaDoorW.PrintWords Go.Proofs.YtcanokiehjjbgaaDoorW.PrintLast Go.Proofs.YtcanokiehjjbgaaDoor.Base
structure RightB (l : List S110) (a : List Int) (b : List (List Int)) : Prop where
  sig : sigF l = 0
  len : b.length = a.length ∧ a.length ≤ 12
  vars : ∀ i, i < a.length → 0 ≤ rd a (i : Int) ∧ rd a (i : Int) ≤ 11
  terms : ∀ i, i < a.length → termF l (b.getD i []) = 0
  rise : ∀ i, 1 ≤ i → i < a.length → rd a ((i : Int) - 1) < rd a (i : Int)
theorem rightB_of {l : List S110} {a : List Int} {b : List (List Int)} (h : bindF l a b = 0) : RightB l a b := by
  unfold bindF at h
  by_cases hs : sigF l = 0
  · rw [if_pos hs] at h
    unfold bindG at h
    by_cases h1 : a.length = b.length ∧ a.length ≤ 12
    · rw [if_pos h1] at h
      rcases scanN_cases (boundF l a b) (riseN a 1 0) a.length 0 with ⟨h2, h3⟩ | ⟨j, _, hj, h3⟩
      · rw [h3] at h
        unfold riseN at h
        rcases scanN_cases (fun i => if fallB a i = true then some (1 : Int) else none) 0 (a.length - 1) 1 with ⟨h4, h5⟩ | ⟨j, _, _, h5⟩
        · have hb : ∀ i, i < a.length → (0 ≤ rd a (i : Int) ∧ rd a (i : Int) ≤ 11) ∧ termF l (b.getD i []) = 0 := by
            intro i hi
            have := h2 i (by omega) (by omega)
            unfold boundF at this
            by_cases hv : 0 ≤ rd a (i : Int) ∧ rd a (i : Int) ≤ 11
            · rw [if_pos (decide_eq_true hv)] at this
              have hg : (rd_L6 b (i : Int)) = b.getD i [] := by unfold rd_L6; rw [Int.toNat_natCast]
              rw [hg] at this
              by_cases ht : termG l (b.getD i []) = 0
              · exact ⟨hv, by unfold termF; rw [if_pos hs]; exact ht⟩
              · rw [if_neg ht] at this; cases this
            · rw [if_neg (fun hd => hv (of_decide_eq_true hd))] at this; cases this
          refine ⟨hs, by omega, fun i hi => (hb i hi).1, fun i hi => (hb i hi).2, fun i h1 hi => ?_⟩
          have := h4 i h1 (by omega)
          unfold fallB at this
          by_cases hf : rd a (i : Int) ≤ rd a ((i : Int) - 1)
          · rw [decide_eq_true hf, if_pos rfl] at this; cases this
          · omega
        · rw [h] at h5
          split at h5
          · cases h5
          · cases h5
      · rw [h] at h3
        unfold boundF at h3
        split at h3
        · split at h3
          · cases h3
          · rename_i hne
            exact absurd (Option.some.inj h3) hne
        · cases h3
    · rw [if_neg h1] at h; cases h
  · rw [if_neg hs] at h; exact absurd h hs
def lookB (a : List Int) (b : List (List Int)) (v : Int) : Option (List Int) := if v ∈ a then some (b.getD (idxN v a) []) else none
def appN (a : List Int) (b : List (List Int)) (n : Int) : List Int := (lookB a b (-1 - n)).getD [n]
def appL (a : List Int) (b : List (List Int)) (t : List Int) : List Int := t.flatMap (appN a b)
theorem lookB_right {l : List S110} {a : List Int} {b : List (List Int)} (h : RightB l a b) {v : Int} {u : List Int} (hu : lookB a b v = some u) : termF l u = 0 ∧ 0 ≤ v ∧ v ≤ 11 := by
  unfold lookB at hu
  by_cases hv : v ∈ a
  · rw [if_pos hv] at hu
    have hlt := idxN_lt v a hv
    have h1 := h.terms _ hlt
    have h2 := h.vars _ hlt
    rw [rd_get a _ hlt, idxN_get v a hlt] at h2
    rw [← Option.some.inj hu]
    exact ⟨h1, h2⟩
  · rw [if_neg hv] at hu; cases hu
theorem appN_length {l : List S110} {a : List Int} {b : List (List Int)} (h : RightB l a b) (n : Int) : 1 ≤ (appN a b n).length ∧ (appN a b n).length ≤ 24 := by
  unfold appN
  cases hu : lookB a b (-1 - n) with
  | none => simp
  | some u =>
    have := right_parts (lookB_right h hu).1
    simp only [Option.getD_some]
    omega
end Go.Proofs.YtcanokiehjjbgaaDoor.Pure
set_option linter.unusedVariables false
namespace Go.Proofs.YtcanokiehjjbgaaDoor.Pure
open Go.RowKit Go.Proofs.YtcanokiehjjbgaaDoor.P Go.Proofs.YtcanokiehjjbgaaDoorW.PrintWords Go.Proofs.YtcanokiehjjbgaaDoorW.PrintLast Go.Proofs.YtcanokiehjjbgaaDoor.Base
theorem first_ev2 (a b : Int) : Ev (fun k => impl_firstCode.f k [a, b]) (if a = 0 then b else a) := by
  unfold impl_firstCode.f cmp_Or_int64.f
  refine ev_bind (a := if a = 0 then b else a) ?_ (ev_some _)
  refine ev_succ ?_
  simp only [cmp_Or_int64.l0]
  refine ev_pos (by simp) (ev_pos (by omega) (ev_pos (by simp) ?_))
  have e0 : rd [a, b] 0 = a := rfl
  rw [e0]
  refine ev_ite (fun h => ?_) (fun h => ev_some _)
  refine ev_succ ?_
  have e1 : wrap64 (0 + 1) = 1 := by rw [wrap_id (by omega) (by omega)]; rfl
  have e2 : rd [a, b] 1 = b := rfl
  simp only [cmp_Or_int64.l0, e1, e2]
  refine ev_pos (by simp) (ev_pos (by omega) (ev_pos (by simp) ?_))
  by_cases hb : b = 0
  · refine ev_pos hb (ev_succ ?_)
    have e3 : wrap64 (1 + 1) = 2 := by rw [wrap_id (by omega) (by omega)]; rfl
    simp only [cmp_Or_int64.l0, e3]
    exact ev_neg (by simp) (ev_to (ev_some _) hb.symm)
  · exact ev_neg hb (ev_some _)
end Go.Proofs.YtcanokiehjjbgaaDoor.Pure
set_option linter.unusedVariables false
namespace Go.Proofs.YtcanokiehjjbgaaDoor.Pure
open Go.RowKit Go.Proofs.YtcanokiehjjbgaaDoor.P Go.Proofs.YtcanokiehjjbgaaDoorW.PrintWords Go.Proofs.YtcanokiehjjbgaaDoorW.PrintLast Go.Proofs.YtcanokiehjjbgaaDoor.Base
theorem slicesIndex_ev (o : List Int) (ho : o.length ≤ 9000000000000000000) (v : Int) : Ev (fun k => slices_Index_int64_int64.f k o v) (placeN (fun j => v == rd o (j : Int)) o.length) := by
  unfold slices_Index_int64_int64.f
  have h := loop_scan o.length (fun j => if (v == rd o (j : Int)) = true then some (j : Int) else none) (-1) (fun k i => slices_Index_int64_int64.l0 k o v (o.length : Int) i)
    (by simp only [slices_Index_int64_int64.l0]; exact ev_neg (by omega) (ev_some _))
    (fun i hi r hr => by
      simp only [slices_Index_int64_int64.l0]
      refine ev_pos (by omega) (ev_pos (by omega) (ev_pos (by omega) ?_))
      rw [wrap_up (by omega)]
      by_cases h : v = rd o (i : Int)
      · exact ev_pos h (ev_to (ev_some _) (by simp [h]))
      · exact ev_neg h (ev_to hr (by simp [h])))
    o.length 0 (by omega)
  rw [scanN_place (fun j => v == rd o (j : Int))] at h
  exact h
end Go.Proofs.YtcanokiehjjbgaaDoor.Pure
set_option linter.unusedVariables false
namespace Go.Proofs.YtcanokiehjjbgaaDoor.Pure
open Go.RowKit Go.Proofs.YtcanokiehjjbgaaDoor.P Go.Proofs.YtcanokiehjjbgaaDoorW.PrintWords Go.Proofs.YtcanokiehjjbgaaDoorW.PrintLast Go.Proofs.YtcanokiehjjbgaaDoor.Base
theorem markText_l0 : ∀ (x : Nat) (s : ByteArray), s.size + x ≤ 9000000000000000000 → ∃ r, Ev (fun k => laws_markText.l0 k (x : Int) s) r := by
  intro x
  induction x using Nat.strongRecOn with
  | _ x ih =>
    intro s hs
    rcases Nat.eq_zero_or_pos x with rfl | hp
    · refine ⟨(⟨#[109]⟩ : ByteArray) ++ s, ev_succ ?_⟩
      simp only [laws_markText.l0]
      exact ev_neg (by omega) (ev_pos (by omega) (ev_some _))
    · have hz : (strOfNums [(wrap64 (48 + (Int.tmod (x : Int) 10))) % 256]).size = 1 := rfl
      have hd : wrap64 (Int.tdiv (x : Int) 10) = ((x / 10 : Nat) : Int) := by
        rw [Int.tdiv_eq_ediv_of_nonneg (by omega), wrap_id (by omega) (by omega)]; omega
      obtain ⟨r, hr⟩ := ih (x / 10) (by omega) (strOfNums [(wrap64 (48 + (Int.tmod (x : Int) 10))) % 256] ++ s) (by rw [ByteArray.size_append, hz]; omega)
      refine ⟨r, ev_succ ?_⟩
      simp only [laws_markText.l0]
      refine ev_pos (by omega) (ev_bindq rfl (ev_pos (by rw [hz]; omega) ?_))
      rw [hd]; exact hr
theorem markText_ev (x : Int) (h0 : 0 < x) (h1 : x ≤ 8000000000000000000) : ∃ r, Ev (fun k => laws_markText.f k x) r := by
  obtain ⟨n, rfl⟩ := Int.eq_ofNat_of_zero_le (show 0 ≤ x by omega)
  obtain ⟨r, hr⟩ := markText_l0 n ⟨#[]⟩ (by show 0 + n ≤ _; omega)
  refine ⟨r, ?_⟩
  unfold laws_markText.f
  exact ev_neg (by omega) hr
theorem markSymbolS_l0 : ∀ (d i : Nat) (l : List S110) (m : Int), i + d = l.length → 0 < m → m + 2 * d ≤ 8000000000000000000 → l.length ≤ 1048576 →
    ∃ l', Ev (fun k => laws_markSymbolS.l0 k l m (i : Int)) (m + 2 * d, l') := by
  intro d
  induction d with
  | zero =>
    intro i l m hi h0 h1 hl
    refine ⟨l, ev_succ ?_⟩
    simp only [laws_markSymbolS.l0]
    exact ev_neg (by omega) (ev_to (ev_some _) (by simp))
  | succ d ih =>
    intro i l m hi h0 h1 hl
    obtain ⟨s, hs⟩ := markText_ev m h0 (by omega)
    obtain ⟨l', h⟩ := ih (i + 1) ((l.set i (⟨s, (rd_T110 l (i : Int)).f1⟩ : S110)).set i (⟨(rd_T110 (l.set i (⟨s, (rd_T110 l (i : Int)).f1⟩ : S110)) (i : Int)).f0, m + 1⟩ : S110)) (m + 2) (by simp; omega) (by omega) (by omega) (by simpa using hl)
    refine ⟨l', ev_succ ?_⟩
    simp only [laws_markSymbolS.l0]
    refine ev_pos (by omega) (ev_bind hs (ev_pos (by omega) (ev_bindq rfl ?_)))
    rw [Int.toNat_natCast, wrap_id (x := m + 1) (by omega) (by omega), wrap_id (x := m + 1 + 1) (by omega) (by omega), wrap_up (by omega), show m + 1 + 1 = m + 2 by omega]
    exact ev_to h (by rw [show m + 2 + 2 * (d : Int) = m + 2 * ((d + 1 : Nat) : Int) by omega])
theorem markSignature_ev (l : List S110) (hl : l.length ≤ 1048576) (m : Int) (h0 : 0 < m) (h1 : m ≤ 4000000000000000000) : ∃ l', Ev (fun k => laws_markSignature.f k l m) (m + 2 * l.length, l') := by
  obtain ⟨l', h⟩ := markSymbolS_l0 l.length 0 l m (by omega) h0 (by omega) hl
  refine ⟨l', ?_⟩
  unfold laws_markSignature.f laws_markSymbolS.f
  exact ev_bind h (ev_some _)
def marksI (m : Int) : Nat → List Int
  | 0 => []
  | n + 1 => m :: marksI (m + 1) n
theorem marksI_length (n : Nat) : ∀ m, (marksI m n).length = n := by
  induction n with
  | zero => intro m; rfl
  | succ n ih => intro m; simp [marksI, ih]
theorem markInt64S_l0 : ∀ (d : Nat) (pre rest : List Int) (m : Int), rest.length = d → 0 ≤ m → m + d ≤ 9000000000000000000 → pre.length + d ≤ 9000000000000000000 →
    Ev (fun k => laws_markInt64S.l0 k (pre ++ rest) m (pre.length : Int)) (m + d, pre ++ marksI m d) := by
  intro d
  induction d with
  | zero =>
    intro pre rest m hr h0 h1 h2
    refine ev_succ ?_
    simp only [laws_markInt64S.l0]
    refine ev_neg (by simp; omega) ?_
    obtain rfl : rest = [] := List.eq_nil_of_length_eq_zero hr
    exact ev_to (ev_some _) (by simp [marksI])
  | succ d ih =>
    intro pre rest m hr h0 h1 h2
    obtain ⟨x, rest, rfl⟩ : ∃ x r, rest = x :: r := by
      cases rest with
      | nil => simp at hr
      | cons x r => exact ⟨x, r, rfl⟩
    refine ev_succ ?_
    simp only [laws_markInt64S.l0]
    refine ev_pos (by simp; omega) (ev_pos (by omega) ?_)
    rw [wrap_up (by omega), wrap_id (x := m + 1) (by omega) (by omega), Int.toNat_natCast]
    have e : (pre ++ x :: rest).set pre.length m = (pre ++ [m]) ++ rest := by simp
    rw [e]
    have := ih (pre ++ [m]) rest (m + 1) (by simpa using hr) (by omega) (by omega) (by simp; omega)
    simp only [List.length_append, List.length_singleton] at this
    exact ev_to this (by simp [marksI]; omega)
theorem markInt64S_ev (xs : List Int) (m : Int) (h0 : 0 ≤ m) (h1 : m + xs.length ≤ 9000000000000000000) : Ev (fun k => laws_markInt64S.f k xs m) (m + xs.length, marksI m xs.length) := by
  unfold laws_markInt64S.f
  exact markInt64S_l0 xs.length [] xs m rfl h0 h1 (by simp; omega)
theorem heldInt64S_l0 : ∀ (d : Nat) (pre : List Int) (m : Int), 0 ≤ m → m + d ≤ 9000000000000000000 → pre.length + d ≤ 9000000000000000000 →
    Ev (fun k => laws_heldInt64S.l0 k (pre ++ marksI m d) m (pre.length : Int)) (m + d) := by
  intro d
  induction d with
  | zero =>
    intro pre m h0 h1 h2
    refine ev_succ ?_
    simp only [laws_heldInt64S.l0]
    refine ev_neg (by simp [marksI]) ?_
    exact ev_to (ev_some _) (by simp)
  | succ d ih =>
    intro pre m h0 h1 h2
    refine ev_succ ?_
    simp only [laws_heldInt64S.l0]
    have e : rd (pre ++ marksI m (d + 1)) (pre.length : Int) = m := by simp [rd, marksI]
    refine ev_pos (by simp [marksI_length]; omega) (ev_pos (by omega) (ev_pos e ?_))
    rw [wrap_up (by omega), wrap_id (x := m + 1) (by omega) (by omega)]
    have := ih (pre ++ [m]) (m + 1) (by omega) (by omega) (by simp; omega)
    simp only [List.length_append, List.length_singleton, List.append_assoc, List.singleton_append] at this
    exact ev_to this (by omega)
theorem heldInt64S_ev (n : Nat) (m : Int) (h0 : 0 ≤ m) (h1 : m + n ≤ 9000000000000000000) : Ev (fun k => laws_heldInt64S.f k (marksI m n) m) (m + n) := by
  unfold laws_heldInt64S.f
  exact heldInt64S_l0 n [] m h0 h1 (by simp; omega)
theorem markTermResult_ev (c : Int) (xs : List Int) (m : Int) (h0 : 0 ≤ m) (h1 : m + xs.length ≤ 9000000000000000000) : Ev (fun k => laws_markTermResult.f k c xs m) (m + xs.length, marksI m xs.length) := by
  unfold laws_markTermResult.f
  exact ev_bind (markInt64S_ev xs m h0 h1) (ev_some _)
theorem heldTermResult_ev (c : Int) (n : Nat) (m : Int) (h0 : 0 ≤ m) (h1 : m + n ≤ 9000000000000000000) : Ev (fun k => laws_heldTermResult.f k c (marksI m n) m) (m + n) := by
  unfold laws_heldTermResult.f
  exact ev_bind (heldInt64S_ev n m h0 h1) (ev_neg (by omega) (ev_some _))
theorem eqTermResult_same (c : Int) (a : List Int) (hl : a.length ≤ 9223372036854775807) : Ev (fun k => laws_eqTermResult.f k c a c a) true := by
  unfold laws_eqTermResult.f
  exact ev_pos rfl (ev_bind (eqInt64S_ev a a hl) (ev_pos (by simp) (ev_some _)))
end Go.Proofs.YtcanokiehjjbgaaDoor.Pure
set_option linter.unusedVariables false
namespace Go.Proofs.YtcanokiehjjbgaaDoor.Pure
open Go.RowKit Go.Proofs.YtcanokiehjjbgaaDoor.P Go.Proofs.YtcanokiehjjbgaaDoorW.PrintWords Go.Proofs.YtcanokiehjjbgaaDoorW.PrintLast Go.Proofs.YtcanokiehjjbgaaDoor.Base
theorem rd_midA (p : List Int) (x : Int) (q : List Int) : rd (p ++ x :: q) (p.length : Int) = x := by
  rw [rd_get _ _ (by simp)]; simp
theorem of_ev {l : List S110} {a : List Int} {b : List (List Int)} (h : RightB l a b) (v : Int) : Ev (fun k => impl_Binding_of.f k a b v) (if v ∈ a then (b.getD (idxN v a) [], true) else ([], false)) := by
  have hl := h.len
  unfold impl_Binding_of.f
  have hi : Ev (fun k => slices_Index_int64_int64.f k a v) (if v ∈ a then (idxN v a : Int) else -1) := ev_to (slicesIndex_ev a (by omega) v) (placeN_idx a v)
  refine ev_bind hi ?_
  by_cases hv : v ∈ a
  · have hlt := idxN_lt v a hv
    rw [if_pos hv, if_pos hv]
    refine ev_neg (by omega) (ev_pos (by omega) (ev_pos (by omega) (ev_to (ev_some _) ?_)))
    rw [show (rd_L6 b (idxN v a : Int)) = b.getD (idxN v a) [] by unfold rd_L6; rw [Int.toNat_natCast]]
  · rw [if_neg hv, if_neg hv]
    exact ev_pos (by omega) (ev_some _)
theorem appN_mem {a : List Int} {b : List (List Int)} {n : Int} (h : (-1 - n) ∈ a) : appN a b n = b.getD (idxN (-1 - n) a) [] := by
  unfold appN lookB; rw [if_pos h]; rfl
theorem appN_not {a : List Int} {b : List (List Int)} {n : Int} (h : (-1 - n) ∉ a) : appN a b n = [n] := by
  unfold appN lookB; rw [if_neg h]; rfl
theorem applied_l0 {l : List S110} {a : List Int} {b : List (List Int)} (h : RightB l a b) : ∀ (q p out : List Int), (∀ n ∈ q, -12 ≤ n ∧ n ≤ 1000) → out.length + 24 * q.length ≤ 100000 → p.length + q.length ≤ 100000 →
    Ev (fun k => impl_Binding_applied.l0 k out (p ++ q) ((p.length + q.length : Nat) : Int) (p.length : Int) a b) (out ++ appL a b q)
  | [], p, out, hn, h1, h2 => by
    refine ev_succ ?_
    simp only [impl_Binding_applied.l0]
    exact ev_neg (by simp) (ev_to (ev_some _) (by simp [appL]))
  | n :: q, p, out, hn, h1, h2 => by
    refine ev_succ ?_
    simp only [impl_Binding_applied.l0, rd_midA]
    rw [List.length_cons] at h1 h2
    have hr := hn n (by simp)
    have hlen := appN_length h n
    refine ev_pos (by simp; omega) (ev_pos (by omega) (ev_pos (by simp; omega) ?_))
    rw [wrap_id (x := (-1) - n) (by omega) (by omega), wrap_up (by omega)]
    have go : Ev (fun k => impl_Binding_applied.l0 k (out ++ appN a b n) (p ++ n :: q) ((p.length + (q.length + 1) : Nat) : Int) ((p.length + 1 : Nat) : Int) a b) (out ++ appL a b (n :: q)) := by
      have := applied_l0 h q (p ++ [n]) (out ++ appN a b n) (fun m hm => hn m (by simp [hm])) (by rw [List.length_append]; omega) (by simp; omega)
      have e : out ++ appL a b (n :: q) = (out ++ appN a b n) ++ appL a b q := by simp [appL, List.append_assoc]
      rw [e]
      simpa [Nat.add_assoc, Nat.add_comm 1 q.length] using this
    refine ev_bind (of_ev h (-1 - n)) ?_
    by_cases hv : (-1 - n) ∈ a
    · rw [appN_mem hv] at go hlen
      rw [if_pos hv]
      exact ev_pos rfl (ev_pos (by simp only; omega) go)
    · rw [appN_not hv] at go
      rw [if_neg hv]
      exact ev_neg (by simp) (ev_pos (by omega) go)
theorem l6Term_ev {l : List S110} {a : List Int} {b : List (List Int)} (h : RightB l a b) (v : Int) : Ev (fun k => spec_l6Term.l0 k a b v 0) (if v ∈ a then b.getD (idxN v a) [] else []) := by
  have hl := h.len
  have hs := loop_scan a.length (fun j => if (v == rd a (j : Int)) = true then some (b.getD j []) else none) [] (fun k i => spec_l6Term.l0 k a b v i)
    (by simp only [spec_l6Term.l0]; exact ev_neg (by omega) (ev_some _))
    (fun i hi r hr => by
      simp only [spec_l6Term.l0]
      refine ev_pos (by omega) (ev_pos (by omega) ?_)
      rw [wrap_up (by omega)]
      by_cases e : rd a (i : Int) = v
      · exact ev_pos e (ev_pos (by omega) (ev_to (ev_some _) (by rw [Int.toNat_natCast]; simp [e])))
      · refine ev_neg e (ev_to hr ?_)
        have e' : ¬ v = rd a (i : Int) := fun z => e z.symm
        simp [e'])
    a.length 0 (by omega)
  refine ev_to hs ?_
  rw [scanN_first (fun j => v == rd a (j : Int)) (fun j => b.getD j []) []]
  have hp := placeN_idx a v
  unfold placeN at hp
  cases hf : firstN (fun j => v == rd a (j : Int)) a.length 0 with
  | none =>
    rw [hf] at hp
    by_cases hv : v ∈ a
    · rw [if_pos hv] at hp; simp only at hp; omega
    · rw [if_neg hv]; rfl
  | some j =>
    rw [hf] at hp
    by_cases hv : v ∈ a
    · rw [if_pos hv] at hp
      simp only at hp
      have : j = idxN v a := by omega
      rw [if_pos hv, this]; rfl
    · rw [if_neg hv] at hp; simp only at hp; omega
theorem l6Apply_l0 {l : List S110} {a : List Int} {b : List (List Int)} (h : RightB l a b) : ∀ (q p out : List Int), (∀ n ∈ q, -12 ≤ n ∧ n ≤ 1000) → out.length + 24 * q.length ≤ 100000 → p.length + q.length ≤ 100000 →
    Ev (fun k => spec_l6Apply.l0 k a b (p ++ q) out (p.length : Int)) (out ++ appL a b q)
  | [], p, out, hn, h1, h2 => by
    refine ev_succ ?_
    simp only [spec_l6Apply.l0]
    exact ev_neg (by simp) (ev_to (ev_some _) (by simp [appL]))
  | n :: q, p, out, hn, h1, h2 => by
    refine ev_succ ?_
    simp only [spec_l6Apply.l0, rd_midA]
    rw [List.length_cons] at h1 h2
    have hr := hn n (by simp)
    have hlen := appN_length h n
    refine ev_pos (by simp; omega) (ev_pos (by omega) ?_)
    rw [wrap_id (x := (-1) - n) (by omega) (by omega), wrap_up (by omega)]
    have go : Ev (fun k => spec_l6Apply.l0 k a b (p ++ n :: q) (out ++ appN a b n) ((p.length + 1 : Nat) : Int)) (out ++ appL a b (n :: q)) := by
      have := l6Apply_l0 h q (p ++ [n]) (out ++ appN a b n) (fun m hm => hn m (by simp [hm])) (by rw [List.length_append]; omega) (by simp; omega)
      have e : out ++ appL a b (n :: q) = (out ++ appN a b n) ++ appL a b q := by simp [appL, List.append_assoc]
      rw [e]
      simpa using this
    by_cases h0 : n < 0
    · refine ev_pos h0 (ev_bind (l6Term_ev h (-1 - n)) ?_)
      by_cases hv : (-1 - n) ∈ a
      · rw [appN_mem hv] at go hlen
        rw [if_pos hv]
        exact ev_neg (by omega) (ev_pos (by omega) go)
      · rw [appN_not hv] at go
        rw [if_neg hv]
        exact ev_pos rfl (ev_pos (by omega) go)
    · have hv : (-1 - n) ∉ a := by
        intro hm
        have hlt := idxN_lt _ _ hm
        have := (h.vars _ hlt).1
        rw [rd_get a _ hlt, idxN_get _ a hlt] at this
        omega
      rw [appN_not hv] at go
      exact ev_neg h0 (ev_pos (by omega) go)
theorem nodes_small {l : List S110} {t : List Int} (h : termF l t = 0) : ∀ n ∈ t, -12 ≤ n ∧ n ≤ 1000 := by
  intro n hn
  have hk := (right_parts h).2.2.1 n hn
  have hr := (rightT_of h).sig
  by_cases h0 : n < 0
  · unfold nodeB symB at hk
    rw [Bool.or_eq_true, decide_eq_true_eq, decide_eq_true_eq] at hk
    omega
  · obtain ⟨s0, s1⟩ := node_sym hk h0
    have := hr.len
    omega
def apR (l : List S110) (a : List Int) (b : List (List Int)) (t : List Int) : Int × List Int :=
  if bindF l a b = 0 then (if termF l t = 0 then (if ((appL a b t).length : Int) > 24 then (2, []) else (0, appL a b t)) else (termF l t, [])) else (bindF l a b, [])
theorem apR_length (l : List S110) (a : List Int) (b : List (List Int)) (t : List Int) : (apR l a b t).2.length ≤ 1000 := by
  unfold apR
  split
  · split
    · split
      · simp
      · simp only; omega
    · simp
  · simp
theorem ApplyBinding_impl (l : List S110) (a : List Int) (b : List (List Int)) (hf : FairB a b) (t : List Int) (ht : t.length ≤ 1048576) : Ev (fun k => impl_ApplyBinding.f k l a b t) (apR l a b t) := by
  unfold impl_ApplyBinding.f apR
  refine ev_bind (BindingFault_impl l a b hf) (ev_bind (TermFault_impl l t ht) (ev_bind (first_ev2 _ _) ?_))
  by_cases h1 : bindF l a b = 0
  · rw [if_pos h1, if_pos h1]
    by_cases h2 : termF l t = 0
    · rw [if_pos h2]
      have hR := rightB_of h1
      have hl := (right_parts h2).2.1
      have ha : Ev (fun k => impl_Binding_applied.f k a b t) (appL a b t) := by
        unfold impl_Binding_applied.f
        have := applied_l0 hR t [] [] (nodes_small h2) (by simp; omega) (by simp; omega)
        simpa using this
      refine ev_pos h2 (ev_bind ha ?_)
      unfold impl_fitting.f
      by_cases h3 : ((appL a b t).length : Int) > 24
      · rw [if_pos h3, if_pos h3]; exact ev_some _
      · rw [if_neg h3, if_neg h3]; exact ev_some _
    · rw [if_neg h2]; exact ev_neg h2 (ev_some _)
  · rw [if_neg h1, if_neg h1]; exact ev_neg h1 (ev_some _)
theorem ApplyBinding_spec (l : List S110) (a : List Int) (b : List (List Int)) (hf : FairB a b) (t : List Int) (ht : t.length ≤ 1048576) : Ev (fun k => spec_ApplyBinding.f k l a b t) (apR l a b t) := by
  unfold spec_ApplyBinding.f apR
  refine ev_bind (BindingFault_spec l a b hf) ?_
  by_cases h1 : bindF l a b = 0
  · rw [if_pos h1]
    have hR := rightB_of h1
    have hg : termG l t = termF l t := by unfold termF; rw [if_pos hR.sig]
    refine ev_pos h1 (ev_bind (l3Fault_ev l (right_of l hR.sig) t ht) ?_)
    rw [hg]
    by_cases h2 : termF l t = 0
    · rw [if_pos h2]
      have hl := (right_parts h2).2.1
      have ha : Ev (fun k => spec_l6Apply.f k [(⟨a, b⟩ : S67)] t) (appL a b t) := by
        unfold spec_l6Apply.f
        refine ev_pos (by simp) ?_
        have := l6Apply_l0 hR t [] [] (nodes_small h2) (by simp; omega) (by simp; omega)
        have e0 : (rd_T67 [(⟨a, b⟩ : S67)] 0).f0 = a := rfl
        have e1 : (rd_T67 [(⟨a, b⟩ : S67)] 0).f1 = b := rfl
        rw [e0, e1]
        simpa using this
      exact ev_pos h2 (ev_bind ha (ev_ite (fun _ => ev_some _) (fun _ => ev_some _)))
    · rw [if_neg h2]; exact ev_neg h2 (ev_some _)
  · rw [if_neg h1]; exact ev_neg h1 (ev_some _)
theorem markW_evB : ∀ (d i : Nat) (m : Int), 0 ≤ m → m + d ≤ 9000000000000000000 → i + d ≤ 9000000000000000000 → Ev (fun k => markW k ((i + d : Nat) : Int) m (i : Int)) (m + d) := by
  intro d
  induction d with
  | zero =>
    intro i m h0 h1 h2
    refine ev_succ ?_
    simp only [markW]
    exact ev_neg (by omega) (ev_to (ev_some _) (by omega))
  | succ d ih =>
    intro i m h0 h1 h2
    refine ev_succ ?_
    simp only [markW]
    refine ev_pos (by omega) (ev_pos (by omega) ?_)
    rw [wrap_up (by omega), wrap_id (x := m + 1) (by omega) (by omega)]
    have := ih (i + 1) (m + 1) (by omega) (by omega) (by omega)
    rw [show i + 1 + d = i + (d + 1) by omega] at this
    exact ev_to this (by omega)
theorem markW_evB0 (n : Nat) (m : Int) (h0 : 0 ≤ m) (h1 : m + n ≤ 9000000000000000000) : Ev (fun k => markW k (n : Int) m 0) (m + n) := by
  have := markW_evB n 0 m h0 h1 (by omega)
  simpa using this
theorem markBinding_ev (a : List Int) (b : List (List Int)) (hf : FairB a b) (m : Int) (h0 : 0 ≤ m) (h1 : m ≤ 4000000000000000000) : ∃ r, 0 ≤ r ∧ r ≤ 5000000000000000000 ∧ Ev (fun k => laws_markBinding.f k a b m) r := by
  have hfa := hf.1
  have hfb := hf.2.1
  have hget : ∀ q, (b.getD q []).length ≤ 1048576 := by
    intro q
    by_cases h : q < b.length
    · have := hf.2.2 _ (List.getElem_mem h)
      rw [show b.getD q [] = b[q] by simp [h]]; exact this
    · rw [show b.getD q [] = [] by simp [show b.length ≤ q by omega]]; simp
  have key : ∀ (d i : Nat) (x : Int), i + d = b.length → 0 ≤ x → x ≤ 4000000000001048576 + 1048576 * i → ∃ r, 0 ≤ r ∧ r ≤ 5000000000000000000 ∧ Ev (fun k => laws_markInt64SS.l0 k b x (i : Int)) r := by
    intro d
    induction d with
    | zero =>
      intro i x hi hx hb
      refine ⟨x, hx, by omega, ev_succ ?_⟩
      simp only [laws_markInt64SS.l0]
      exact ev_neg (by omega) (ev_some _)
    | succ d ih =>
      intro i x hi hx hb
      have a0 := hget i
      obtain ⟨r, hr0, hr1, hr⟩ := ih (i + 1) (x + ((b.getD i []).length : Int)) (by omega) (by omega) (by omega)
      refine ⟨r, hr0, hr1, ev_succ ?_⟩
      simp only [laws_markInt64SS.l0]
      refine ev_pos (by omega) (ev_pos (by omega) ?_)
      rw [Int.toNat_natCast, wrap_up (by omega)]
      exact ev_bind (markW_evB0 _ x hx (by omega)) hr
  obtain ⟨r, hr0, hr1, hr⟩ := key b.length 0 (m + a.length) (by omega) (by omega) (by omega)
  refine ⟨r, hr0, hr1, ?_⟩
  unfold laws_markBinding.f laws_markInt64SS.f
  exact ev_bind (markW_evB0 a.length m h0 (by omega)) hr
end Go.Proofs.YtcanokiehjjbgaaDoor.Pure
set_option linter.unusedVariables false
namespace Go.Proofs.YtcanokiehjjbgaaDoor.Pure
open Go.RowKit Go.Proofs.YtcanokiehjjbgaaDoor.P Go.Proofs.YtcanokiehjjbgaaDoorW.PrintWords Go.Proofs.YtcanokiehjjbgaaDoorW.PrintLast Go.Proofs.YtcanokiehjjbgaaDoor.Base
theorem ApplyBinding_j0 (l : List S123) (hl : l.length ≤ 1048576) (a : List Int) (b : List (List Int)) (f : FairB a b) (o : List Int) (ho : o.length ≤ 1048576) (c : Int) (x : List Int) (hx : x.length ≤ 1000) (hr : apR (l.map toI) a b o = (c, x)) :
    Ev (fun k => laws_FnExactApplyBinding.j0 k o false l a b c x c x) true := by
  refine ev_succ ?_
  simp only [laws_FnExactApplyBinding.j0]
  have t := toSignature_ev l hl
  have tb := toBinding_ev a b f
  have to_ := toInt64S_ev o (by omega)
  have hm := markTermResult_ev c x 1 (by omega) (by omega)
  have hh := heldTermResult_ev c x.length 1 (by omega) (by omega)
  have hp := ApplyBinding_impl (l.map toI) a b f o ho
  rw [hr] at hp
  exact ev_neg (by simp) (ev_bind hm (ev_bind hh (ev_neg (by omega) (ev_pos rfl (ev_bind t (ev_bind tb (ev_bind to_ (ev_bind hp (ev_bind (eqTermResult_same c x (by omega)) (ev_pos rfl (ev_bind hh (ev_neg (by omega) (ev_pos rfl (ev_some _))))))))))))))
theorem FnExactApplyBinding (l : List S123) (a : List Int) (b : List (List Int)) (o : List Int) (hl : FitsL l) (w1 : a.length ≤ maxLen ∧ ∀ x ∈ a, (Lit.int .i64 x).wf = true) (w2 : b.length ≤ maxLen ∧ ∀ x ∈ b, x.length ≤ maxLen ∧ ∀ y ∈ x, (Lit.int .i64 y).wf = true) (w3 : o.length ≤ maxLen ∧ ∀ x ∈ o, (Lit.int .i64 x).wf = true) :
    ∃ k, laws_FnExactApplyBinding.f k l a b o = some true := by
  refine ev_ex (g := fun k => laws_FnExactApplyBinding.f k l a b o) ?_
  unfold laws_FnExactApplyBinding.f
  by_cases bo : (o.length : Int) > 1048576
  · exact ev_pos bo (ev_some _)
  refine ev_neg bo ?_
  have ho : o.length ≤ 1048576 := by omega
  obtain ⟨r, hr, h1⟩ := szSignature_ev l hl 1048576 (by omega) (by omega)
  refine ev_bind hr ?_
  by_cases hr0 : r < 0
  · exact ev_pos hr0 (ev_some _)
  have h1 := h1 hr0
  refine ev_neg hr0 ?_
  obtain ⟨q, hq, h2⟩ := szBinding_ev a b ⟨w1, w2⟩ r (by omega) (by omega)
  refine ev_bind hq ?_
  by_cases hq0 : q < 0
  · exact ev_pos hq0 (ev_some _)
  obtain ⟨h2, f⟩ := h2 hq0
  refine ev_neg hq0 ?_
  have t := toSignature_ev l (by omega)
  have e := eqSignature_ev (l.map toI) (by rw [List.length_map]; omega)
  have tb := toBinding_ev a b f
  have eb := eqBinding_ev a b f
  have to_ := toInt64S_ev o (by omega)
  have eo := eqInt64S_ev o o (by omega)
  have hx := apR_length (l.map toI) a b o
  have hs := ApplyBinding_spec (l.map toI) a b f o ho
  have hp := ApplyBinding_impl (l.map toI) a b f o ho
  have hj := fun c x (hc : apR (l.map toI) a b o = (c, x)) (hx : x.length ≤ 1000) => ApplyBinding_j0 l (by omega) a b f o ho c x hx hc
  generalize hc : apR (l.map toI) a b o = q at *
  obtain ⟨c, x⟩ := q
  have hb := eqTermResult_same c x (by simp only at hx; omega)
  obtain ⟨l', hm⟩ := markSignature_ev (l.map toI) (by rw [List.length_map]; omega) 1 (by omega) (by omega)
  rw [List.length_map] at hm
  obtain ⟨z, hz0, hz1, hz⟩ := markBinding_ev a b f (1 + 2 * (l.length : Int)) (by omega) (by omega)
  have hmo := markInt64S_ev o z (by omega) (by omega)
  exact ev_bind t (ev_bind tb (ev_bind to_ (ev_bind hs (ev_bind t (ev_bind tb (ev_bind to_ (ev_bind hp (ev_bind hb (ev_pos rfl (ev_bind t (ev_bind e (ev_pos rfl (ev_bind tb (ev_bind eb (ev_pos rfl (ev_bind to_ (ev_bind eo (ev_pos (by simp) (ev_bind hm (ev_bind hz (ev_bind hmo (ev_neg (by simp only; omega) (ev_bind hb (hj c x rfl hx))))))))))))))))))))))))
end Go.Proofs.YtcanokiehjjbgaaDoor.Pure
