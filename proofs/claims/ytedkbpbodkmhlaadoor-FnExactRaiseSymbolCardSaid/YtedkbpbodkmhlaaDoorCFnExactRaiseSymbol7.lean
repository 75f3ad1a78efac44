/- A part of the proof of the law FnExactRaiseSymbol: words, functions of the program with what each call answers, plain lemmas; conditions stand in each statement. -/
import Derived.Lib.Strings
import Derived.Laws.StructEq
import Derived.Test.YtedkbpbodkmhlaaDoorCFnExactRaiseSymbol0
import Derived.Test.YtedkbpbodkmhlaaDoorCFnExactRaiseSymbol1
import Derived.Test.YtedkbpbodkmhlaaDoorCFnExactRaiseSymbol2
import Derived.Test.YtedkbpbodkmhlaaDoorCFnExactRaiseSymbol3
import Derived.Test.YtedkbpbodkmhlaaDoorCFnExactRaiseSymbol4
import Derived.Test.YtedkbpbodkmhlaaDoorCFnExactRaiseSymbol5
import Derived.Test.YtedkbpbodkmhlaaDoorCFnExactRaiseSymbol6
set_option linter.unusedVariables false
namespace Go.Proofs.YtedkbpbodkmhlaaDoor.Pure
open Go.RowKit Go.Proofs.YtedkbpbodkmhlaaDoor.P Go.Proofs.YtedkbpbodkmhlaaDoorW.PrintWords Go.Proofs.YtedkbpbodkmhlaaDoorW.PrintLast Go.Proofs.YtedkbpbodkmhlaaDoor.Base
def toI (x : S140) : S99 := ⟨x.f0, x.f1⟩
theorem rdL_get (xs : List S140) (i : Nat) (h : i < xs.length) : rd_T140 xs (i : Int) = xs[i] := by
  simp [rd_T140, List.getD_eq_getElem?_getD, List.getElem?_eq_getElem h]
def FitsL (l : List S140) : Prop := l.length ≤ maxLen ∧ ∀ x ∈ l, x.f0.size ≤ maxLen ∧ (Lit.int .i64 x.f1).wf = true
theorem szSymbolS_l0 (l : List S140) (hl : FitsL l) : ∀ (d i : Nat) (a : Int), i + d = l.length → 0 ≤ a → a ≤ 1048576 →
    ∃ r, Ev (fun k => laws_szSymbolS.l0 k l a (i : Int)) r ∧ (0 ≤ r → r ≤ a) := by
  intro d
  induction d with
  | zero =>
    intro i a hi h0 h1
    refine ⟨a, ev_succ ?_, fun _ => Int.le_refl _⟩
    simp only [laws_szSymbolS.l0]
    exact ev_neg (by omega) (ev_some _)
  | succ d ih =>
    intro i a hi h0 h1
    have hi' : i < l.length := by omega
    have hx := (hl.2 _ (List.getElem_mem hi')).1
    unfold maxLen at hx
    have hm := hl.1
    unfold maxLen at hm
    have hw : wrap64 (a - ((l[i]).f0.size : Int)) = a - ((l[i]).f0.size : Int) := wrap_id (by omega) (by omega)
    by_cases hn : a - ((l[i]).f0.size : Int) < 0
    · refine ⟨-1, ev_succ ?_, fun h => by omega⟩
      simp only [laws_szSymbolS.l0]
      refine ev_pos (by omega) (ev_pos (by omega) ?_)
      rw [rdL_get l i hi']
      refine ev_bindq (a := -1) ?_ (ev_pos (by omega) (ev_some _))
      unfold laws_szSymbol.f
      rw [hw, if_pos hn]
    · obtain ⟨r, hr, hle⟩ := ih (i + 1) (a - ((l[i]).f0.size : Int)) (by omega) (by omega) (by omega)
      refine ⟨r, ev_succ ?_, fun h => by have := hle h; omega⟩
      simp only [laws_szSymbolS.l0]
      refine ev_pos (by omega) (ev_pos (by omega) ?_)
      rw [rdL_get l i hi', wrap_up (by omega)]
      refine ev_bindq (a := a - ((l[i]).f0.size : Int)) ?_ (ev_neg hn hr)
      unfold laws_szSymbol.f
      rw [hw, if_neg hn]
theorem szSignature_ev (l : List S140) (hl : FitsL l) (a : Int) (h0 : 0 ≤ a) (h1 : a ≤ 1048576) :
    ∃ r, Ev (fun k => laws_szSignature.f k l a) r ∧ (¬ r < 0 → (l.length : Int) ≤ a ∧ r ≤ a) := by
  have hm := hl.1
  unfold maxLen at hm
  have hw : wrap64 (a - (l.length : Int)) = a - (l.length : Int) := wrap_id (by omega) (by omega)
  by_cases hn : a - (l.length : Int) < 0
  · refine ⟨-1, ?_, fun h => by omega⟩
    unfold laws_szSignature.f
    refine ev_bind (a := -1) ?_ (ev_pos (by omega) (ev_some _))
    unfold laws_szSymbolS.f
    rw [hw]
    exact ev_pos hn (ev_some _)
  · obtain ⟨r, hr, hle⟩ := szSymbolS_l0 l hl l.length 0 (a - (l.length : Int)) (by omega) (by omega) (by omega)
    have hs : Ev (fun k => laws_szSymbolS.f k l a) r := by
      unfold laws_szSymbolS.f
      rw [hw]
      exact ev_neg hn hr
    by_cases hr0 : r < 0
    · refine ⟨-1, ?_, fun h => by omega⟩
      unfold laws_szSignature.f
      exact ev_bind hs (ev_pos hr0 (ev_some _))
    · refine ⟨r, ?_, fun h => ?_⟩
      · unfold laws_szSignature.f
        exact ev_bind hs (ev_neg hr0 (ev_some _))
      · have := hle (by omega)
        omega
theorem toSymbolS_l0 (l : List S140) (hl : l.length ≤ 1048576) : ∀ (d i : Nat), i + d = l.length → Ev (fun k => laws_toSymbolS.l0 k l (cpart z99 (l.map toI) i) (i : Int)) (l.map toI) := by
  intro d
  induction d with
  | zero =>
    intro i hi
    refine ev_succ ?_
    simp only [laws_toSymbolS.l0]
    refine ev_neg (by omega) ?_
    have e : i = (l.map toI).length := by rw [List.length_map]; omega
    rw [e, cpart_end]
    exact ev_some _
  | succ d ih =>
    intro i hi
    have hi' : i < l.length := by omega
    refine ev_succ ?_
    simp only [laws_toSymbolS.l0]
    refine ev_pos (by omega) (ev_pos (by omega) ?_)
    unfold laws_toSymbol.f
    refine ev_bindq rfl (ev_pos (by rw [cpart_length _ _ _ (by rw [List.length_map]; omega), List.length_map]; omega) ?_)
    rw [rdL_get l i hi', wrap_up (by omega), Int.toNat_natCast, cpart_set z99 (l.map toI) i (by rw [List.length_map]; omega) (⟨(l[i]).f0, (l[i]).f1⟩ : S99) (by rw [List.getElem?_map, List.getElem?_eq_getElem hi']; rfl)]
    exact ih (i + 1) (by omega)
theorem toSignature_ev (l : List S140) (hl : l.length ≤ 1048576) : Ev (fun k => laws_toSignature.f k l) (l.map toI) := by
  unfold laws_toSignature.f
  refine ev_bind (a := l.map toI) ?_ (ev_some _)
  unfold laws_toSymbolS.f
  refine ev_pos (by omega) (ev_pos (by omega) ?_)
  have := toSymbolS_l0 l hl l.length 0 (by omega)
  rw [cpart_zero, List.length_map] at this
  rw [Int.toNat_natCast]
  exact this
theorem eqSymbolS_l0 (a : List S99) (hl : a.length ≤ 9223372036854775807) : ∀ (d i : Nat), i + d = a.length → Ev (fun k => laws_eqSymbolS.l0 k a a (i : Int)) true := by
  intro d
  induction d with
  | zero =>
    intro i hi
    refine ev_succ ?_
    simp only [laws_eqSymbolS.l0]
    exact ev_neg (by omega) (ev_some _)
  | succ d ih =>
    intro i hi
    refine ev_succ ?_
    simp only [laws_eqSymbolS.l0]
    refine ev_pos (by omega) (ev_pos (by omega) (ev_pos (by omega) (ev_bindq (a := true) ?_ (ev_pos rfl ?_))))
    · unfold laws_eqSymbol.f
      rw [if_pos rfl, if_pos rfl]
    · rw [wrap_up (by omega)]
      exact ih (i + 1) (by omega)
theorem eqSignature_ev (a : List S99) (hl : a.length ≤ 9223372036854775807) : Ev (fun k => laws_eqSignature.f k a a) true := by
  unfold laws_eqSignature.f
  refine ev_bind (a := true) ?_ (ev_pos rfl (ev_some _))
  unfold laws_eqSymbolS.f
  exact ev_pos rfl (eqSymbolS_l0 a hl a.length 0 (by omega))
end Go.Proofs.YtedkbpbodkmhlaaDoor.Pure
set_option linter.unusedVariables false
namespace Go.Proofs.YtedkbpbodkmhlaaDoor.Pure
open Go.RowKit Go.Proofs.YtedkbpbodkmhlaaDoor.P Go.Proofs.YtedkbpbodkmhlaaDoorW.PrintWords Go.Proofs.YtedkbpbodkmhlaaDoorW.PrintLast Go.Proofs.YtedkbpbodkmhlaaDoor.Base
theorem bt_get (s : ByteArray) (i : Nat) (h : i < s.data.toList.length) : bt s (i : Int) = ((s.data.toList[i]).toNat : Int) := by
  have hs : i < s.size := by rw [Lib.size_eq]; exact h
  unfold bt
  rw [dif_pos (by simpa using hs)]
  rfl
theorem l2Name_l0 (s : ByteArray) (hl : s.size ≤ 3) : ∀ (d i : Nat), i + d = s.size → Ev (fun k => spec_l2Name.l0 k s (i : Int)) ((s.data.toList.drop i).all letterB) := by
  have hz := Lib.size_eq s
  intro d
  induction d with
  | zero =>
    intro i hi
    refine ev_succ ?_
    simp only [spec_l2Name.l0]
    refine ev_neg (by omega) (ev_to (ev_some _) ?_)
    rw [List.drop_eq_nil_of_le (by omega)]; rfl
  | succ d ih =>
    intro i hi
    have hi' : i < s.data.toList.length := by omega
    refine ev_succ ?_
    simp only [spec_l2Name.l0]
    refine ev_pos (by omega) (ev_pos (by omega) ?_)
    rw [bt_get s i hi', List.drop_eq_getElem_cons hi', wrap_up (by omega)]
    generalize s.data.toList[i] = b
    by_cases h1 : (b.toNat : Int) < 97
    · refine ev_pos h1 (ev_to (ev_some _) ?_)
      have : letterB b = false := by unfold letterB; simp; omega
      simp [this]
    refine ev_neg h1 ?_
    by_cases h2 : (b.toNat : Int) > 122
    · refine ev_pos h2 (ev_to (ev_some _) ?_)
      have : letterB b = false := by unfold letterB; simp; omega
      simp [this]
    refine ev_neg h2 (ev_to (ih (i + 1) (by omega)) ?_)
    have : letterB b = true := by unfold letterB; simp; omega
    simp [this]
theorem l2Name_ev (s : ByteArray) : Ev (fun k => spec_l2Name.f k s) (nameB s) := by
  unfold spec_l2Name.f nameB
  by_cases h1 : (s.size : Int) < 1
  · refine ev_pos h1 (ev_succ ?_)
    simp only [spec_l2Name.j0]
    exact ev_pos (by simp) (ev_to (ev_some _) (by simp; omega))
  refine ev_neg h1 (ev_succ ?_)
  simp only [spec_l2Name.j0]
  by_cases h2 : (s.size : Int) > 3
  · exact ev_pos (by simpa using h2) (ev_to (ev_some _) (by simp; omega))
  refine ev_neg (by simpa using h2) (ev_to (l2Name_l0 s (by omega) s.size 0 (by omega)) ?_)
  have : decide (1 ≤ s.size ∧ s.size ≤ 3) = true := by simp; omega
  rw [this]; rfl
theorem isName_eq (s : ByteArray) : impl_isName.f s = some (nameB s) := by
  unfold impl_isName.f nameB
  by_cases h1 : (s.size : Int) ≥ 1
  · rw [if_pos h1]
    by_cases h2 : (s.size : Int) ≤ 3
    · rw [if_pos h2]
      have ht : strings_Trim.f s abc = some ⟨(Lib.trimS s.data.toList abc.data.toList).toArray⟩ := by
        unfold strings_Trim.f
        exact if_pos ⟨by omega, by decide, by decide +kernel⟩
      refine bind_eq ht ?_
      have : decide (1 ≤ s.size ∧ s.size ≤ 3) = true := by simp; omega
      rw [this, Lib.toList_data]
      simp only [Bool.true_and]
      rw [← trim_abc]
    · rw [if_neg h2]
      have : decide (1 ≤ s.size ∧ s.size ≤ 3) = false := by simp; omega
      rw [this]; rfl
  · rw [if_neg h1]
    have : decide (1 ≤ s.size ∧ s.size ≤ 3) = false := by simp; omega
    rw [this]; rfl
def nameAt (l : List S99) (i : Nat) : List UInt8 := (rd_T99 l (i : Int)).f0.toList
def symFault (l : List S99) (i : Nat) : Option Int :=
  if nameB (rd_T99 l (i : Int)).f0 = true then (if 0 ≤ (rd_T99 l (i : Int)).f1 ∧ (rd_T99 l (i : Int)).f1 ≤ 2 then none else some 3) else some 5
def dupB (l : List S99) (i : Nat) : Bool := (firstN (fun j => nameAt l i == nameAt l j) i 0).isSome
def dupFault (l : List S99) (i : Nat) : Option Int := if dupB l i = true then some 6 else none
def zeroB (l : List S99) : Bool := (firstN (fun j => (rd_T99 l (j : Int)).f1 == 0) l.length 0).isSome
def sigF (l : List S99) : Int :=
  if l.length < 1 ∨ l.length > 6 then 2 else scanN (symFault l) (scanN (dupFault l) (if zeroB l = true then 0 else 4) l.length 0) l.length 0
theorem within_eq (a b c : Int) : impl_within.f a b c = some (decide (b ≤ a ∧ a ≤ c)) := by
  unfold impl_within.f
  by_cases h : a ≥ b
  · rw [if_pos h]
    by_cases h' : a ≤ c
    · simp [h']; omega
    · simp [h']
  · rw [if_neg h]
    simp; omega
theorem l1In_eq (a b c : Int) : spec_l1In.f a b c = some (decide (b ≤ a ∧ a ≤ c)) := by
  unfold spec_l1In.f
  by_cases h : a ≥ b
  · rw [if_pos h]
    by_cases h' : a ≤ c
    · simp [h']; omega
    · simp [h']
  · rw [if_neg h]
    simp; omega
theorem Sig_l3 (l : List S99) (hl : l.length ≤ 6) : Ev (fun k => spec_SignatureFault.l3 k (l.length : Int) 0 l) (if zeroB l = true then 0 else 4) := by
  have h := loop_scan l.length (fun j => if ((rd_T99 l (j : Int)).f1 == 0) = true then some 0 else none) 4 (fun k i => spec_SignatureFault.l3 k (l.length : Int) i l)
    (by simp only [spec_SignatureFault.l3]; exact ev_neg (by omega) (ev_some _))
    (fun i hi r hr => by
      simp only [spec_SignatureFault.l3]
      refine ev_pos (by omega) (ev_pos (by omega) (ev_pos (by omega) ?_))
      rw [wrap_up (by omega)]
      by_cases h : (rd_T99 l (i : Int)).f1 = 0
      · refine ev_pos h (ev_to (ev_some _) (by simp [h]))
      · refine ev_neg h (ev_to hr (by simp [h])))
    l.length 0 (by omega)
  refine ev_to h ?_
  rw [scanN_first (fun j => (rd_T99 l (j : Int)).f1 == 0) (fun _ => (0 : Int)) 4]
  unfold zeroB
  cases firstN (fun j => (rd_T99 l (j : Int)).f1 == 0) l.length 0 <;> rfl
theorem Sig_l2 (l : List S99) (hl : l.length ≤ 6) (i : Nat) (hi : i < l.length) (r : Int) (hr : Ev (fun k => spec_SignatureFault.l1 k (l.length : Int) ((i + 1 : Nat) : Int) l) r) :
    Ev (fun k => spec_SignatureFault.l2 k (l.length : Int) (i : Int) 0 l) ((dupFault l i).getD r) := by
  have h := loop_scan i (fun j => if (nameAt l i == nameAt l j) = true then some 6 else none) r (fun k j => spec_SignatureFault.l2 k (l.length : Int) (i : Int) j l)
    (by simp only [spec_SignatureFault.l2]; refine ev_neg (by omega) ?_; rw [wrap_up (by omega)]; exact hr)
    (fun j hj r hr => by
      simp only [spec_SignatureFault.l2]
      refine ev_pos (by omega) (ev_pos (by omega) (ev_pos (by omega) (ev_pos (by omega) (ev_pos (by omega) ?_))))
      rw [wrap_up (by omega)]
      by_cases h : nameAt l i = nameAt l j
      · refine ev_pos h (ev_to (ev_some _) (by simp [h]))
      · refine ev_neg h (ev_to hr (by simp [h])))
    i 0 (by omega)
  refine ev_to h ?_
  rw [scanN_first (fun j => nameAt l i == nameAt l j) (fun _ => (6 : Int)) r]
  unfold dupFault dupB
  cases firstN (fun j => nameAt l i == nameAt l j) i 0 <;> rfl
theorem Sig_l1 (l : List S99) (hl : l.length ≤ 6) : Ev (fun k => spec_SignatureFault.l1 k (l.length : Int) 0 l) (scanN (dupFault l) (if zeroB l = true then 0 else 4) l.length 0) :=
  loop_scan l.length (dupFault l) (if zeroB l = true then 0 else 4) (fun k i => spec_SignatureFault.l1 k (l.length : Int) i l)
    (by simp only [spec_SignatureFault.l1]; exact ev_neg (by omega) (Sig_l3 l hl))
    (fun i hi r hr => by
      simp only [spec_SignatureFault.l1]
      exact ev_pos (by omega) (Sig_l2 l hl i hi r hr))
    l.length 0 (by omega)
theorem Sig_l0 (l : List S99) (hl : l.length ≤ 6) : Ev (fun k => spec_SignatureFault.l0 k (l.length : Int) 0 l) (scanN (symFault l) (scanN (dupFault l) (if zeroB l = true then 0 else 4) l.length 0) l.length 0) :=
  loop_scan l.length (symFault l) _ (fun k i => spec_SignatureFault.l0 k (l.length : Int) i l)
    (by simp only [spec_SignatureFault.l0]; exact ev_neg (by omega) (Sig_l1 l hl))
    (fun i hi r hr => by
      simp only [spec_SignatureFault.l0]
      refine ev_pos (by omega) (ev_pos (by omega) (ev_pos (by omega) (ev_bind (l2Name_ev _) ?_)))
      unfold symFault
      by_cases h : nameB (rd_T99 l (i : Int)).f0 = true
      · refine ev_pos h (ev_bindq (l1In_eq _ _ _) ?_)
        rw [if_pos h, wrap_up (by omega)]
        by_cases h' : 0 ≤ (rd_T99 l (i : Int)).f1 ∧ (rd_T99 l (i : Int)).f1 ≤ 2
        · rw [if_pos h']
          exact ev_pos (by simpa using h') hr
        · rw [if_neg h']
          exact ev_neg (by simpa using h') (ev_some _)
      · rw [if_neg h]
        exact ev_neg h (ev_some _))
    l.length 0 (by omega)
theorem SignatureFault_spec (l : List S99) : Ev (fun k => spec_SignatureFault.f k l) (sigF l) := by
  unfold spec_SignatureFault.f sigF
  by_cases h1 : (l.length : Int) < 1
  · rw [if_pos (.inl (by omega))]
    refine ev_pos h1 (ev_succ ?_)
    simp only [spec_SignatureFault.j0]
    exact ev_pos (by simp) (ev_some _)
  refine ev_neg h1 (ev_succ ?_)
  simp only [spec_SignatureFault.j0]
  by_cases h2 : (l.length : Int) > 6
  · rw [if_pos (.inr (by omega))]
    exact ev_pos (by simpa using h2) (ev_some _)
  · rw [if_neg (by omega)]
    exact ev_neg (by simpa using h2) (Sig_l0 l (by omega))
theorem symbolIndex_ev (l : List S99) (hl : l.length ≤ 1048576) (s : ByteArray) : Ev (fun k => impl_symbolIndex.f k l s) (placeN (fun j => nameAt l j == s.toList) l.length) := by
  unfold impl_symbolIndex.f
  refine ev_bind (a := placeN (fun j => nameAt l j == s.toList) l.length) ?_ (ev_some _)
  unfold slices_IndexFunc_impl_Symbol_impl_Symbol_impl_symbolIndex_1.f
  have h := loop_scan l.length (fun j => if (nameAt l j == s.toList) = true then some (j : Int) else none) (-1) (fun k i => slices_IndexFunc_impl_Symbol_impl_Symbol_impl_symbolIndex_1.l0 k l (l.length : Int) i [s])
    (by simp only [slices_IndexFunc_impl_Symbol_impl_Symbol_impl_symbolIndex_1.l0]; exact ev_neg (by omega) (ev_some _))
    (fun i hi r hr => by
      simp only [slices_IndexFunc_impl_Symbol_impl_Symbol_impl_symbolIndex_1.l0]
      refine ev_pos (by omega) (ev_pos (by omega) (ev_pos (by omega) (ev_bindq (a := nameAt l i == s.toList) ?_ ?_)))
      · unfold impl_symbolIndex_1_with.f
        rw [if_pos (by simp)]
        rfl
      · rw [wrap_up (by omega)]
        by_cases h : (nameAt l i == s.toList) = true
        · rw [if_pos h]; exact ev_pos h (ev_some _)
        · rw [if_neg h]; exact ev_neg h hr)
    l.length 0 (by omega)
  rw [scanN_place (fun j => nameAt l j == s.toList)] at h
  exact h
theorem dup_place (l : List S99) (i : Nat) (hi : i < l.length) : placeN (fun j => nameAt l j == (rd_T99 l (i : Int)).f0.toList) l.length = (i : Int) ↔ dupB l i = false := by
  unfold dupB
  have hn : (firstN (fun j => nameAt l i == nameAt l j) i 0).isSome = false ↔ ∀ j, j < i → (nameAt l i == nameAt l j) = false := by
    rw [Option.isSome_eq_false_iff, Option.isNone_iff_eq_none, firstN_none]
    exact ⟨fun h j hj => h j (by omega) (by omega), fun h j _ hj => h j (by omega)⟩
  rw [hn]
  rcases placeN_cases (fun j => nameAt l j == (rd_T99 l (i : Int)).f0.toList) l.length with ⟨h1, h2⟩ | ⟨j, hj, h1, h2, h3⟩
  · have := h2 i hi
    simp [nameAt] at this
  · rw [h1]
    constructor
    · intro e
      obtain rfl : j = i := by omega
      intro m hm
      have := h3 m hm
      simp only [beq_eq_false_iff_ne, ne_eq] at this ⊢
      exact fun e => this e.symm
    · intro h
      have hji : ¬ j < i := fun hlt => by
        have := h j hlt
        simp only [beq_eq_false_iff_ne, ne_eq] at this
        exact this (by simpa [nameAt] using (eq_comm.1 (beq_iff_eq.1 h2)))
      have hij : ¬ i < j := fun hlt => by
        have := h3 i hlt
        simp [nameAt] at this
      omega
theorem ISig_last (l : List S99) (hl : l.length ≤ 6) : Ev (fun k => slices_ContainsFunc_impl_Symbol_impl_Symbol_impl_SignatureFault_1.f k l) (zeroB l) := by
  unfold slices_ContainsFunc_impl_Symbol_impl_Symbol_impl_SignatureFault_1.f slices_IndexFunc_impl_Symbol_impl_Symbol_impl_SignatureFault_1.f
  have h := loop_scan l.length (fun j => if ((rd_T99 l (j : Int)).f1 == 0) = true then some (j : Int) else none) (-1) (fun k i => slices_IndexFunc_impl_Symbol_impl_Symbol_impl_SignatureFault_1.l0 k l (l.length : Int) i)
    (by simp only [slices_IndexFunc_impl_Symbol_impl_Symbol_impl_SignatureFault_1.l0]; exact ev_neg (by omega) (ev_some _))
    (fun i hi r hr => by
      simp only [slices_IndexFunc_impl_Symbol_impl_Symbol_impl_SignatureFault_1.l0]
      refine ev_pos (by omega) (ev_pos (by omega) (ev_pos (by omega) (ev_bindq rfl ?_)))
      rw [wrap_up (by omega)]
      by_cases h : ((rd_T99 l (i : Int)).f1 == 0) = true
      · rw [if_pos h]; exact ev_pos h (ev_some _)
      · rw [if_neg h]; exact ev_neg h hr)
    l.length 0 (by omega)
  rw [scanN_first (fun j => (rd_T99 l (j : Int)).f1 == 0) (fun j => (j : Int)) (-1)] at h
  refine ev_bind h (ev_to (ev_some _) ?_)
  unfold zeroB
  cases firstN (fun j => (rd_T99 l (j : Int)).f1 == 0) l.length 0 with
  | none => rfl
  | some j => simp
theorem ISig_l1 (l : List S99) (hl : l.length ≤ 6) : Ev (fun k => impl_SignatureFault.l1 k l (l.length : Int) 0 l) (scanN (dupFault l) (if zeroB l = true then 0 else 4) l.length 0) :=
  loop_scan l.length (dupFault l) (if zeroB l = true then 0 else 4) (fun k i => impl_SignatureFault.l1 k l (l.length : Int) i l)
    (by
      simp only [impl_SignatureFault.l1]
      refine ev_neg (by omega) (ev_bind (ISig_last l hl) ?_)
      by_cases h : zeroB l = true
      · exact ev_to (ev_pos h (ev_some _)) (if_pos h).symm
      · exact ev_to (ev_neg h (ev_some _)) (if_neg h).symm)
    (fun i hi r hr => by
      simp only [impl_SignatureFault.l1]
      refine ev_pos (by omega) (ev_pos (by omega) (ev_pos (by omega) (ev_bind (symbolIndex_ev l (by omega) _) ?_)))
      have hd := dup_place l i hi
      rw [wrap_up (by omega)]
      unfold dupFault
      by_cases h : dupB l i = true
      · rw [if_pos h]
        exact ev_neg (fun e => by rw [hd.1 e] at h; cases h) (ev_some _)
      · rw [if_neg h]
        exact ev_pos (hd.2 (Bool.eq_false_iff.2 h)) hr)
    l.length 0 (by omega)
theorem SignatureFault_impl (l : List S99) : Ev (fun k => impl_SignatureFault.f k l) (sigF l) := by
  unfold impl_SignatureFault.f sigF
  by_cases h1 : (l.length : Int) < 1
  · rw [if_pos (.inl (by omega))]
    refine ev_pos h1 (ev_succ ?_)
    simp only [impl_SignatureFault.j0]
    exact ev_pos (by simp) (ev_some _)
  refine ev_neg h1 (ev_succ ?_)
  simp only [impl_SignatureFault.j0]
  by_cases h2 : (l.length : Int) > 6
  · rw [if_pos (.inr (by omega))]
    exact ev_pos (by simpa using h2) (ev_some _)
  rw [if_neg (by omega)]
  refine ev_neg (by simpa using h2) ?_
  exact loop_scan l.length (symFault l) _ (fun k i => impl_SignatureFault.l0 k l (l.length : Int) i l)
    (by simp only [impl_SignatureFault.l0]; exact ev_neg (by omega) (ISig_l1 l (by omega)))
    (fun i hi r hr => by
      simp only [impl_SignatureFault.l0]
      refine ev_pos (by omega) (ev_pos (by omega) (ev_pos (by omega) (ev_bindq (isName_eq _) ?_)))
      unfold symFault
      by_cases h : nameB (rd_T99 l (i : Int)).f0 = true
      · refine ev_pos h (ev_bindq (within_eq _ _ _) ?_)
        rw [if_pos h, wrap_up (by omega)]
        by_cases h' : 0 ≤ (rd_T99 l (i : Int)).f1 ∧ (rd_T99 l (i : Int)).f1 ≤ 2
        · rw [if_pos h']
          exact ev_pos (by simpa using h') hr
        · rw [if_neg h']
          exact ev_neg (by simpa using h') (ev_some _)
      · rw [if_neg h]
        exact ev_neg h (ev_some _))
    l.length 0 (by omega)
structure Right (l : List S99) : Prop where
  len : 1 ≤ l.length ∧ l.length ≤ 6
  names : ∀ i, i < l.length → nameB (rd_T99 l (i : Int)).f0 = true
  arities : ∀ i, i < l.length → 0 ≤ (rd_T99 l (i : Int)).f1 ∧ (rd_T99 l (i : Int)).f1 ≤ 2
  apart : ∀ i, i < l.length → dupB l i = false
theorem right_of (l : List S99) (h : sigF l = 0) : Right l := by
  unfold sigF at h
  by_cases h1 : l.length < 1 ∨ l.length > 6
  · rw [if_pos h1] at h; omega
  rw [if_neg h1] at h
  have hlen : 1 ≤ l.length ∧ l.length ≤ 6 := by omega
  rcases scanN_cases (symFault l) (scanN (dupFault l) (if zeroB l = true then 0 else 4) l.length 0) l.length 0 with ⟨h2, h3⟩ | ⟨j, _, _, h3⟩
  · rw [h3] at h
    rcases scanN_cases (dupFault l) (if zeroB l = true then 0 else 4) l.length 0 with ⟨h4, h5⟩ | ⟨j, _, _, h5⟩
    · refine ⟨hlen, fun i hi => ?_, fun i hi => ?_, fun i hi => ?_⟩
      · have := h2 i (by omega) (by omega)
        unfold symFault at this
        by_cases hn : nameB (rd_T99 l (i : Int)).f0 = true
        · exact hn
        · rw [if_neg hn] at this; cases this
      · have := h2 i (by omega) (by omega)
        unfold symFault at this
        by_cases hn : nameB (rd_T99 l (i : Int)).f0 = true
        · rw [if_pos hn] at this
          by_cases ha : 0 ≤ (rd_T99 l (i : Int)).f1 ∧ (rd_T99 l (i : Int)).f1 ≤ 2
          · exact ha
          · rw [if_neg ha] at this; cases this
        · rw [if_neg hn] at this; cases this
      · have := h4 i (by omega) (by omega)
        unfold dupFault at this
        by_cases hd : dupB l i = true
        · rw [if_pos hd] at this; cases this
        · exact Bool.eq_false_iff.2 hd
    · rw [h] at h5
      unfold dupFault at h5
      by_cases hd : dupB l j = true
      · rw [if_pos hd] at h5; cases h5
      · rw [if_neg hd] at h5; cases h5
  · rw [h] at h3
    unfold symFault at h3
    by_cases hn : nameB (rd_T99 l (j : Int)).f0 = true
    · rw [if_pos hn] at h3
      by_cases ha : 0 ≤ (rd_T99 l (j : Int)).f1 ∧ (rd_T99 l (j : Int)).f1 ≤ 2
      · rw [if_pos ha] at h3; cases h3
      · rw [if_neg ha] at h3; cases h3
    · rw [if_neg hn] at h3; cases h3
end Go.Proofs.YtedkbpbodkmhlaaDoor.Pure
set_option linter.unusedVariables false
namespace Go.Proofs.YtedkbpbodkmhlaaDoor.Pure
open Go.RowKit Go.Proofs.YtedkbpbodkmhlaaDoor.P Go.Proofs.YtedkbpbodkmhlaaDoorW.PrintWords Go.Proofs.YtedkbpbodkmhlaaDoorW.PrintLast Go.Proofs.YtedkbpbodkmhlaaDoor.Base
def symB (l : List S99) (n : Int) : Bool := decide (0 ≤ n ∧ n ≤ (l.length : Int) - 1)
theorem l2Symbol_eq (l : List S99) (hl : l.length ≤ 1048576) (n : Int) : spec_l2Symbol.f [(⟨l⟩ : S42)] n = some (symB l n) := by
  unfold spec_l2Symbol.f
  rw [if_pos (by simp)]
  show (spec_l1In.f n 0 (wrap64 ((l.length : Int) - 1))).bind _ = _
  rw [l1In_eq, wrap_id (by omega) (by omega)]
  rfl
theorem isSymbol_eq (l : List S99) (hl : l.length ≤ 1048576) (n : Int) : impl_isSymbol.f l n = some (symB l n) := by
  unfold impl_isSymbol.f
  rw [within_eq, wrap_id (by omega) (by omega)]
  rfl
theorem symB_true {l : List S99} {n : Int} (h : symB l n = true) : 0 ≤ n ∧ n < (l.length : Int) := by
  unfold symB at h
  have := of_decide_eq_true h
  omega
end Go.Proofs.YtedkbpbodkmhlaaDoor.Pure
set_option linter.unusedVariables false
namespace Go.Proofs.YtedkbpbodkmhlaaDoor.Pure
open Go.RowKit Go.Proofs.YtedkbpbodkmhlaaDoor.P Go.Proofs.YtedkbpbodkmhlaaDoorW.PrintWords Go.Proofs.YtedkbpbodkmhlaaDoorW.PrintLast Go.Proofs.YtedkbpbodkmhlaaDoor.Base
theorem slicesIndex_ev (o : List Int) (ho : o.length ≤ 9000000000000000000) (v : Int) : Ev (fun k => slices_Index_int64_int64.f k o v) (placeN (fun j => v == rd o (j : Int)) o.length) := by
  unfold slices_Index_int64_int64.f
  have h := loop_scan o.length (fun j => if (v == rd o (j : Int)) = true then some (j : Int) else none) (-1) (fun k i => slices_Index_int64_int64.l0 k o v (o.length : Int) i)
    (by simp only [slices_Index_int64_int64.l0]; exact ev_neg (by omega) (ev_some _))
    (fun i hi r hr => by
      simp only [slices_Index_int64_int64.l0]
      refine ev_pos (by omega) (ev_pos (by omega) (ev_pos (by omega) ?_))
      rw [wrap_up (by omega)]
      by_cases h : v = rd o (i : Int)
      · exact ev_pos h (ev_to (ev_some _) (by simp [h]))
      · exact ev_neg h (ev_to hr (by simp [h])))
    o.length 0 (by omega)
  rw [scanN_place (fun j => v == rd o (j : Int))] at h
  exact h
theorem slicesContains_ev (o : List Int) (ho : o.length ≤ 9000000000000000000) (v : Int) : Ev (fun k => slices_Contains_int64_int64.f k o v) (firstN (fun j => v == rd o (j : Int)) o.length 0).isSome := by
  unfold slices_Contains_int64_int64.f
  refine ev_bind (slicesIndex_ev o ho v) (ev_to (ev_some _) ?_)
  unfold placeN
  cases firstN (fun j => v == rd o (j : Int)) o.length 0 with
  | none => rfl
  | some j => simp
theorem scanN_const {R : Type} (p : Nat → Bool) (c e : R) (d i : Nat) : scanN (fun j => if p j = true then some c else none) e d i = if (firstN p d i).isSome = true then c else e := by
  rw [scanN_first p (fun _ => c) e]
  cases firstN p d i <;> rfl
theorem firstN_congr {p q : Nat → Bool} : ∀ (d i : Nat), (∀ j, i ≤ j → j < i + d → p j = q j) → firstN p d i = firstN q d i
  | 0, _, _ => rfl
  | d + 1, i, h => by
    rw [firstN, firstN, h i (by omega) (by omega), firstN_congr d (i + 1) (fun j h1 h2 => h j (by omega) (by omega))]
def odupB (o : List Int) (i : Nat) : Bool := (firstN (fun j => rd o (i : Int) == rd o (j : Int)) i 0).isSome
def odupFault (o : List Int) (i : Nat) : Option Int := if odupB o i = true then some 6 else none
def ordG (l : List S99) (o : List Int) : Int :=
  if o.length = l.length then (if (firstN (fun j => !symB l (rd o (j : Int))) o.length 0).isSome = true then 3 else scanN (odupFault o) 0 o.length 0) else 2
def ordF (l : List S99) (o : List Int) : Int := if sigF l = 0 then ordG l o else sigF l
theorem Order_l2 (o : List Int) (ho : o.length ≤ 1048576) (i : Nat) (hi : i < o.length) (r : Int) (hr : Ev (fun k => spec_l2Order.l1 k o ((i + 1 : Nat) : Int)) r) : Ev (fun k => spec_l2Order.l2 k o (i : Int) 0) ((odupFault o i).getD r) := by
  have h := loop_scan i (fun j => if (rd o (i : Int) == rd o (j : Int)) = true then some 6 else none) r (fun k j => spec_l2Order.l2 k o (i : Int) j)
    (by simp only [spec_l2Order.l2]; refine ev_neg (by omega) ?_; rw [wrap_up (by omega)]; exact hr)
    (fun j hj r hr => by
      simp only [spec_l2Order.l2]
      refine ev_pos (by omega) (ev_pos (by omega) (ev_pos (by omega) (ev_pos (by omega) (ev_pos (by omega) ?_))))
      rw [wrap_up (by omega)]
      by_cases h : rd o (i : Int) = rd o (j : Int)
      · exact ev_pos h (ev_to (ev_some _) (by simp [h]))
      · exact ev_neg h (ev_to hr (by simp [h])))
    i 0 (by omega)
  refine ev_to h ?_
  rw [scanN_const (fun j => rd o (i : Int) == rd o (j : Int)) 6 r]
  unfold odupFault odupB
  cases (firstN (fun j => rd o (i : Int) == rd o (j : Int)) i 0).isSome <;> rfl
theorem Order_l1 (o : List Int) (ho : o.length ≤ 1048576) : Ev (fun k => spec_l2Order.l1 k o 0) (scanN (odupFault o) 0 o.length 0) :=
  loop_scan o.length (odupFault o) 0 (fun k i => spec_l2Order.l1 k o i)
    (by simp only [spec_l2Order.l1]; exact ev_neg (by omega) (ev_some _))
    (fun i hi r hr => by
      simp only [spec_l2Order.l1]
      exact ev_pos (by omega) (Order_l2 o ho i hi r hr))
    o.length 0 (by omega)
theorem l2Order_ev (l : List S99) (hl : l.length ≤ 6) (o : List Int) (ho : o.length ≤ 1048576) : Ev (fun k => spec_l2Order.f k [(⟨l⟩ : S42)] o) (ordG l o) := by
  unfold spec_l2Order.f ordG
  have e : (rd_T42 [(⟨l⟩ : S42)] 0).f0 = l := rfl
  simp only [e]
  refine ev_pos (by simp) ?_
  by_cases hlen : o.length = l.length
  · rw [if_pos hlen]
    refine ev_pos (by omega) ?_
    have h := loop_scan o.length (fun j => if (!symB l (rd o (j : Int))) = true then some 3 else none) (scanN (odupFault o) 0 o.length 0) (fun k i => spec_l2Order.l0 k [(⟨l⟩ : S42)] o i)
      (by simp only [spec_l2Order.l0]; exact ev_neg (by omega) (Order_l1 o ho))
      (fun i hi r hr => by
        simp only [spec_l2Order.l0]
        refine ev_pos (by omega) (ev_pos (by omega) (ev_bindq (l2Symbol_eq l (by omega) _) ?_))
        rw [wrap_up (by omega)]
        by_cases h : symB l (rd o (i : Int)) = true
        · exact ev_pos h (ev_to hr (by simp [h]))
        · exact ev_neg h (ev_to (ev_some _) (by simp [h])))
      o.length 0 (by omega)
    rw [scanN_const (fun j => !symB l (rd o (j : Int))) 3] at h
    exact h
  · rw [if_neg hlen]
    exact ev_neg (by omega) (ev_some _)
theorem OrderFault_spec (l : List S99) (o : List Int) (ho : o.length ≤ 1048576) : Ev (fun k => spec_OrderFault.f k l o) (ordF l o) := by
  unfold spec_OrderFault.f ordF
  refine ev_bind (SignatureFault_spec l) (ev_ite (fun h => ?_) (fun h => ev_some _))
  have hl := (right_of l h).len
  exact ev_bind (l2Order_ev l (by omega) o ho) (ev_some _)
theorem Order_notSym (l : List S99) (hl : l.length ≤ 6) (o : List Int) (ho : o.length ≤ 1048576) :
    Ev (fun k => slices_ContainsFunc_int64_int64_impl_OrderFault_1.f k o [(⟨l⟩ : S42)]) (firstN (fun j => !symB l (rd o (j : Int))) o.length 0).isSome := by
  unfold slices_ContainsFunc_int64_int64_impl_OrderFault_1.f slices_IndexFunc_int64_int64_impl_OrderFault_1.f
  have h := loop_scan o.length (fun j => if (!symB l (rd o (j : Int))) = true then some (j : Int) else none) (-1) (fun k i => slices_IndexFunc_int64_int64_impl_OrderFault_1.l0 k o (o.length : Int) i [(⟨l⟩ : S42)])
    (by simp only [slices_IndexFunc_int64_int64_impl_OrderFault_1.l0]; exact ev_neg (by omega) (ev_some _))
    (fun i hi r hr => by
      simp only [slices_IndexFunc_int64_int64_impl_OrderFault_1.l0]
      refine ev_pos (by omega) (ev_pos (by omega) (ev_pos (by omega) (ev_bindq (a := !symB l (rd o (i : Int))) ?_ ?_)))
      · unfold impl_OrderFault_1_with.f
        rw [if_pos (by simp)]
        exact bind_eq (isSymbol_eq l (by omega) _) rfl
      · rw [wrap_up (by omega)]
        by_cases h : (!symB l (rd o (i : Int))) = true
        · rw [if_pos h]; exact ev_pos h (ev_some _)
        · rw [if_neg h]; exact ev_neg h hr)
    o.length 0 (by omega)
  rw [scanN_first (fun j => !symB l (rd o (j : Int))) (fun j => (j : Int)) (-1)] at h
  refine ev_bind h (ev_to (ev_some _) ?_)
  cases firstN (fun j => !symB l (rd o (j : Int))) o.length 0 with
  | none => rfl
  | some j => simp
theorem Order_l0 (o : List Int) (ho : o.length ≤ 1048576) : Ev (fun k => impl_OrderFault.l0 k o o (o.length : Int) 0) (scanN (odupFault o) 0 o.length 0) :=
  loop_scan o.length (odupFault o) 0 (fun k i => impl_OrderFault.l0 k o o (o.length : Int) i)
    (by simp only [impl_OrderFault.l0]; exact ev_neg (by omega) (ev_some _))
    (fun i hi r hr => by
      simp only [impl_OrderFault.l0]
      have hc := slicesContains_ev (o.take i) (by rw [List.length_take]; omega) (rd o (i : Int))
      have hd : (firstN (fun j => rd o (i : Int) == rd (o.take i) (j : Int)) (o.take i).length 0).isSome = odupB o i := by
        unfold odupB
        rw [List.length_take, Nat.min_eq_left (by omega)]
        rw [firstN_congr i 0 (q := fun j => rd o (i : Int) == rd o (j : Int)) (fun j _ hj => by
          rw [rd_get (o.take i) j (by rw [List.length_take]; omega), rd_get o j (by omega), List.getElem_take])]
      rw [hd] at hc
      refine ev_pos (by omega) (ev_pos (by omega) (ev_pos (by omega) (ev_pos (by omega) ?_)))
      rw [Int.toNat_natCast, wrap_up (by omega)]
      refine ev_bind hc ?_
      unfold odupFault
      by_cases h : odupB o i = true
      · rw [if_pos h]; exact ev_pos h (ev_some _)
      · rw [if_neg h]; exact ev_neg h hr)
    o.length 0 (by omega)
theorem OrderFault_impl (l : List S99) (o : List Int) (ho : o.length ≤ 1048576) : Ev (fun k => impl_OrderFault.f k l o) (ordF l o) := by
  unfold impl_OrderFault.f ordF
  refine ev_bind (SignatureFault_impl l) (ev_ite (fun h => ?_) (fun h => ev_some _))
  have hl := (right_of l h).len
  unfold ordG
  by_cases hlen : o.length = l.length
  · rw [if_pos hlen]
    exact ev_pos (by omega) (ev_bind (Order_notSym l (by omega) o ho) (ev_ite (fun hn => ev_some _) (fun hn => Order_l0 o ho)))
  · rw [if_neg hlen]; exact ev_neg (by omega) (ev_some _)
end Go.Proofs.YtedkbpbodkmhlaaDoor.Pure
set_option linter.unusedVariables false
namespace Go.Proofs.YtedkbpbodkmhlaaDoor.Pure
open Go.RowKit Go.Proofs.YtedkbpbodkmhlaaDoorW.PrintWords Go.Proofs.YtedkbpbodkmhlaaDoor.Base
theorem nodup_length : ∀ (m : Nat) (xs : List Nat), xs.Nodup → (∀ x ∈ xs, x < m) → xs.length ≤ m
  | 0, xs, _, h => by
    cases xs with
    | nil => simp
    | cons x xs => exact absurd (h x (by simp)) (by omega)
  | m + 1, xs, hn, h => by
    by_cases hm : m ∈ xs
    · have h1 := nodup_length m (xs.erase m) (hn.erase m) (fun x hx => by
        have := (List.Nodup.mem_erase_iff hn).1 hx
        have := h x this.2
        omega)
      rw [List.length_erase_of_mem hm] at h1
      omega
    · have h1 := nodup_length m xs hn (fun x hx => by
        have := h x hx
        have : x ≠ m := fun e => hm (e ▸ hx)
        omega)
      omega
theorem nodup_all (n : Nat) (xs : List Nat) (hn : xs.Nodup) (h : ∀ x ∈ xs, x < n) (hl : xs.length = n) (v : Nat) (hv : v < n) : v ∈ xs := by
  by_cases hm : v ∈ xs
  · exact hm
  have := nodup_length n (v :: xs) (List.nodup_cons.2 ⟨hm, hn⟩) (fun x hx => by
    rcases List.mem_cons.1 hx with rfl | hx
    · exact hv
    · exact h x hx)
  simp only [List.length_cons] at this
  omega
theorem perm_place (o : List Int) (h : ∀ i, i < o.length → 0 ≤ rd o (i : Int) ∧ rd o (i : Int) < (o.length : Int)) (hd : ∀ i j, i < o.length → j < i → rd o (i : Int) ≠ rd o (j : Int)) (v : Int) (h0 : 0 ≤ v) (h1 : v < (o.length : Int)) :
    ∃ j, j < o.length ∧ rd o (j : Int) = v := by
  have hN : (o.map Int.toNat).Nodup := by
    rw [List.nodup_iff_pairwise_ne, List.pairwise_iff_getElem]
    intro i j hi hj hij
    rw [List.length_map] at hi hj
    simp only [List.getElem_map]
    have a := h i hi
    have b := h j hj
    have c := hd j i hj hij
    rw [rd_get o i hi] at a c
    rw [rd_get o j hj] at b c
    omega
  have hm := nodup_all o.length (o.map Int.toNat) hN (fun x hx => by
    obtain ⟨y, hy, rfl⟩ := List.mem_map.1 hx
    obtain ⟨i, hi, rfl⟩ := List.getElem_of_mem hy
    have a := h i hi
    rw [rd_get o i hi] at a
    omega) (by simp) v.toNat (by omega)
  obtain ⟨y, hy, e⟩ := List.mem_map.1 hm
  obtain ⟨i, hi, rfl⟩ := List.getElem_of_mem hy
  refine ⟨i, hi, ?_⟩
  have a := h i hi
  rw [rd_get o i hi] at a ⊢
  omega
end Go.Proofs.YtedkbpbodkmhlaaDoor.Pure
set_option linter.unusedVariables false
namespace Go.Proofs.YtedkbpbodkmhlaaDoor.Pure
open Go.RowKit Go.Proofs.YtedkbpbodkmhlaaDoor.P Go.Proofs.YtedkbpbodkmhlaaDoorW.PrintWords Go.Proofs.YtedkbpbodkmhlaaDoorW.PrintLast Go.Proofs.YtedkbpbodkmhlaaDoor.Base
theorem ordF_rightR {l : List S99} {o : List Int} (h : ordF l o = 0) : Right l ∧ ordG l o = 0 := by
  unfold ordF at h
  by_cases hs : sigF l = 0
  · rw [if_pos hs] at h; exact ⟨right_of l hs, h⟩
  · rw [if_neg hs] at h; exact absurd h hs
theorem ord_right {l : List S99} {o : List Int} (h : ordF l o = 0) :
    o.length = l.length ∧ (∀ i, i < o.length → symB l (rd o (i : Int)) = true) ∧ ∀ i j, i < o.length → j < i → rd o (i : Int) ≠ rd o (j : Int) := by
  obtain ⟨_, hg⟩ := ordF_rightR h
  unfold ordG at hg
  by_cases hl : o.length = l.length
  · rw [if_pos hl] at hg
    by_cases hb : (firstN (fun j => !symB l (rd o (j : Int))) o.length 0).isSome = true
    · rw [if_pos hb] at hg; cases hg
    · rw [if_neg hb] at hg
      have h1 : firstN (fun j => !symB l (rd o (j : Int))) o.length 0 = none := by
        cases hf : firstN (fun j => !symB l (rd o (j : Int))) o.length 0 with
        | none => rfl
        | some j => rw [hf] at hb; exact absurd rfl hb
      refine ⟨hl, fun i hi => ?_, fun i j hi hj => ?_⟩
      · have := (firstN_none o.length 0).1 h1 i (by omega) (by omega)
        simpa using this
      · rcases scanN_cases (odupFault o) 0 o.length 0 with ⟨h2, _⟩ | ⟨q, _, _, h3⟩
        · have hi2 := h2 i (by omega) (by omega)
          unfold odupFault at hi2
          by_cases hd : odupB o i = true
          · rw [if_pos hd] at hi2; cases hi2
          unfold odupB at hd
          have h4 : firstN (fun j => rd o (i : Int) == rd o (j : Int)) i 0 = none := by
            cases hf : firstN (fun j => rd o (i : Int) == rd o (j : Int)) i 0 with
            | none => rfl
            | some j => rw [hf] at hd; exact absurd rfl hd
          have := (firstN_none i 0).1 h4 j (by omega) (by omega)
          simpa using this
        · rw [hg] at h3
          unfold odupFault at h3
          by_cases hd : odupB o q = true
          · rw [if_pos hd] at h3; cases h3
          · rw [if_neg hd] at h3; cases h3
  · rw [if_neg hl] at hg; cases hg
theorem rank_place {l : List S99} {o : List Int} (h : ordF l o = 0) {n : Int} (hn : symB l n = true) :
    ∃ j, j < o.length ∧ placeN (fun j => n == rd o (j : Int)) o.length = (j : Int) ∧ rd o (j : Int) = n := by
  obtain ⟨hl, hs, hd⟩ := ord_right h
  obtain ⟨h0, h1⟩ := symB_true hn
  obtain ⟨q, hq, e⟩ := perm_place o (fun i hi => by
    have := symB_true (hs i hi); omega) hd n h0 (by omega)
  rcases placeN_cases (fun j => n == rd o (j : Int)) o.length with ⟨_, h2⟩ | ⟨j, hj, h2, h3, _⟩
  · have := h2 q hq
    simp [e] at this
  · exact ⟨j, hj, h2, by simpa using (beq_iff_eq.1 h3).symm⟩
theorem l1Ints_eqR (o : List Int) (ho : o.length ≤ 1048576) : spec_l1Ints.f o = some o := by
  unfold spec_l1Ints.f
  simp only [Option.bind_some, List.length_nil, Nat.zero_add, List.nil_append]
  exact if_pos (by omega)
theorem clone_eqR (o : List Int) (ho : o.length ≤ 1048576) : slices_Clone_int64_int64.f o = some o := by
  unfold slices_Clone_int64_int64.f
  exact if_pos (by omega)
theorem l2Rank_evR (o : List Int) (ho : o.length ≤ 1048576) (n : Int) : Ev (fun k => spec_l2Rank.f k o n) (placeN (fun j => n == rd o (j : Int)) o.length) := by
  unfold spec_l2Rank.f
  have h := loop_scan o.length (fun j => if (n == rd o (j : Int)) = true then some (j : Int) else none) (-1) (fun k i => spec_l2Rank.l0 k o n i)
    (by simp only [spec_l2Rank.l0]; exact ev_neg (by omega) (ev_some _))
    (fun i hi r hr => by
      simp only [spec_l2Rank.l0]
      refine ev_pos (by omega) (ev_pos (by omega) ?_)
      rw [wrap_up (by omega)]
      by_cases h : rd o (i : Int) = n
      · exact ev_pos h (ev_to (ev_some _) (by simp [h]))
      · exact ev_neg h (ev_to hr (by have h' : ¬ n = rd o (i : Int) := fun e => h e.symm; simp [h'])))
    o.length 0 (by omega)
  rw [scanN_place (fun j => n == rd o (j : Int))] at h
  exact h
def swapL (o : List Int) (j : Nat) : List Int := (o.set j (rd o ((j + 1 : Nat) : Int))).set (j + 1) (rd o (j : Int))
def raiseR (l : List S99) (o : List Int) (n : Int) : Int × List Int :=
  if ordF l o = 0 then (if symB l n = true then (if placeN (fun j => n == rd o (j : Int)) o.length = (o.length : Int) - 1 then (4, []) else (0, swapL o (placeN (fun j => n == rd o (j : Int)) o.length).toNat)) else (3, [])) else (ordF l o, [])
theorem raiseR_length (l : List S99) (o : List Int) (n : Int) : (raiseR l o n).2.length ≤ 1000 := by
  unfold raiseR
  by_cases h : ordF l o = 0
  · rw [if_pos h]
    have h1 := (ordF_rightR h).1.len
    have h2 := (ord_right h).1
    split
    · split
      · simp
      · simp only [swapL, List.length_set]; omega
    · simp
  · rw [if_neg h]; simp
theorem RaiseSymbol_spec (l : List S99) (o : List Int) (ho : o.length ≤ 1048576) (n : Int) : Ev (fun k => spec_RaiseSymbol.f k l o n) (raiseR l o n) := by
  unfold spec_RaiseSymbol.f raiseR
  refine ev_bind (OrderFault_spec l o ho) (ev_ite (fun h => ?_) (fun h => ev_some _))
  have hl := (ordF_rightR h).1.len
  have hol := (ord_right h).1
  refine ev_bindq (l2Symbol_eq l (by omega) n) (ev_ite (fun hs => ?_) (fun hs => ev_some _))
  obtain ⟨j, hj, hp, hv⟩ := rank_place h hs
  refine ev_bind (l2Rank_evR o ho n) ?_
  rw [wrap_id (x := (o.length : Int) - 1) (by omega) (by omega), hp]
  refine ev_ite (fun hk => ev_some _) (fun hk => ?_)
  refine ev_bindq (l1Ints_eqR o ho) ?_
  rw [wrap_up (by omega), Int.toNat_natCast, Int.toNat_natCast]
  refine ev_pos (by omega) (ev_pos (by omega) (ev_pos (by omega) (ev_pos (by omega) (ev_pos (by omega) ?_))))
  refine ev_to (ev_some _) ?_
  unfold swapL
  rw [hv]
theorem RaiseSymbol_impl (l : List S99) (o : List Int) (ho : o.length ≤ 1048576) (n : Int) : Ev (fun k => impl_RaiseSymbol.f k l o n) (raiseR l o n) := by
  unfold impl_RaiseSymbol.f impl_RankOf.f raiseR
  by_cases h : ordF l o = 0
  · rw [if_pos h]
    have hl := (ordF_rightR h).1.len
    have hol := (ord_right h).1
    by_cases hs : symB l n = true
    · rw [if_pos hs]
      obtain ⟨j, hj, hp, hv⟩ := rank_place h hs
      refine ev_bind (a := (0, placeN (fun j => n == rd o (j : Int)) o.length)) (ev_bind (OrderFault_impl l o ho) (ev_pos h (ev_bindq (isSymbol_eq l (by omega) n) (ev_pos hs (ev_bind (slicesIndex_ev o (by omega) n) (ev_some _)))))) (ev_pos rfl ?_)
      rw [wrap_id (x := (o.length : Int) - 1) (by omega) (by omega)]
      simp only [hp]
      refine ev_ite (fun hk => ev_some _) (fun hk => ?_)
      refine ev_bindq (clone_eqR o ho) ?_
      rw [wrap_up (by omega), Int.toNat_natCast, Int.toNat_natCast]
      exact ev_pos (by omega) (ev_pos (by omega) (ev_pos (by omega) (ev_pos (by omega) (ev_some _))))
    · rw [if_neg hs]
      exact ev_bind (a := (3, 0)) (ev_bind (OrderFault_impl l o ho) (ev_pos h (ev_bindq (isSymbol_eq l (by omega) n) (ev_neg hs (ev_some _))))) (ev_neg (by simp) (ev_some _))
  · rw [if_neg h]
    exact ev_bind (a := (ordF l o, 0)) (ev_bind (OrderFault_impl l o ho) (ev_neg h (ev_some _))) (ev_neg h (ev_some _))
end Go.Proofs.YtedkbpbodkmhlaaDoor.Pure
set_option linter.unusedVariables false
namespace Go.Proofs.YtedkbpbodkmhlaaDoor.Pure
open Go.RowKit Go.Proofs.YtedkbpbodkmhlaaDoor.P Go.Proofs.YtedkbpbodkmhlaaDoorW.PrintWords Go.Proofs.YtedkbpbodkmhlaaDoorW.PrintLast Go.Proofs.YtedkbpbodkmhlaaDoor.Base
theorem toInt64S_l0 (l : List Int) (hl : l.length ≤ 35184372088832) : ∀ (d i : Nat), i + d = l.length → Ev (fun k => laws_toInt64S.l0 k l (cpart 0 l i) (i : Int)) l := by
  intro d
  induction d with
  | zero =>
    intro i hi
    refine ev_succ ?_
    simp only [laws_toInt64S.l0]
    refine ev_neg (by omega) ?_
    obtain rfl : i = l.length := by omega
    rw [cpart_end]
    exact ev_some _
  | succ d ih =>
    intro i hi
    refine ev_succ ?_
    simp only [laws_toInt64S.l0]
    refine ev_pos (by omega) (ev_pos (by omega) (ev_pos (by rw [cpart_length _ _ _ (by omega)]; omega) ?_))
    rw [wrap_up (by omega), Int.toNat_natCast, cpart_set 0 l i (by omega) _ (rd_some l i (by omega))]
    exact ih (i + 1) (by omega)
theorem toInt64S_ev (l : List Int) (hl : l.length ≤ 35184372088832) : Ev (fun k => laws_toInt64S.f k l) l := by
  unfold laws_toInt64S.f
  refine ev_pos (by omega) (ev_pos (by omega) ?_)
  rw [Int.toNat_natCast, ← cpart_zero]
  exact toInt64S_l0 l hl l.length 0 (by omega)
theorem eqInt64S_l0 (a b : List Int) (hab : a.length = b.length) (hl : a.length ≤ 9223372036854775807) : ∀ (d i : Nat), i + d = a.length → Ev (fun k => laws_eqInt64S.l0 k a b (i : Int)) (decide (a.drop i = b.drop i)) := by
  intro d
  induction d with
  | zero =>
    intro i hi
    refine ev_succ ?_
    simp only [laws_eqInt64S.l0]
    refine ev_neg (by omega) ?_
    rw [List.drop_eq_nil_of_le (by omega), List.drop_eq_nil_of_le (by omega)]
    exact ev_some _
  | succ d ih =>
    intro i hi
    refine ev_succ ?_
    simp only [laws_eqInt64S.l0]
    refine ev_pos (by omega) (ev_pos (by omega) (ev_pos (by omega) ?_))
    rw [rd_drop a i (by omega), rd_drop b i (by omega)]
    by_cases h : rd a (i : Int) = rd b (i : Int)
    · refine ev_pos h ?_
      rw [wrap_up (by omega)]
      refine ev_to (ih (i + 1) (by omega)) ?_
      simp [h]
    · refine ev_neg h ?_
      refine ev_to (ev_some _) ?_
      simp [h]
theorem eqInt64S_ev (a b : List Int) (hl : a.length ≤ 9223372036854775807) : Ev (fun k => laws_eqInt64S.f k a b) (decide (a = b)) := by
  unfold laws_eqInt64S.f
  by_cases h : a.length = b.length
  · refine ev_pos (by omega) ?_
    exact eqInt64S_l0 a b h hl a.length 0 (by omega)
  · refine ev_neg (by omega) ?_
    refine ev_to (ev_some _) ?_
    have : ¬ a = b := fun e => h (by rw [e])
    simp [this]
end Go.Proofs.YtedkbpbodkmhlaaDoor.Pure
set_option linter.unusedVariables false
namespace Go.Proofs.YtedkbpbodkmhlaaDoor.Pure
open Go.RowKit Go.Proofs.YtedkbpbodkmhlaaDoor.P Go.Proofs.YtedkbpbodkmhlaaDoorW.PrintWords Go.Proofs.YtedkbpbodkmhlaaDoorW.PrintLast Go.Proofs.YtedkbpbodkmhlaaDoor.Base
theorem markText_l0 : ∀ (x : Nat) (s : ByteArray), s.size + x ≤ 9000000000000000000 → ∃ r, Ev (fun k => laws_markText.l0 k (x : Int) s) r := by
  intro x
  induction x using Nat.strongRecOn with
  | _ x ih =>
    intro s hs
    rcases Nat.eq_zero_or_pos x with rfl | hp
    · refine ⟨(⟨#[109]⟩ : ByteArray) ++ s, ev_succ ?_⟩
      simp only [laws_markText.l0]
      exact ev_neg (by omega) (ev_pos (by omega) (ev_some _))
    · have hz : (strOfNums [(wrap64 (48 + (Int.tmod (x : Int) 10))) % 256]).size = 1 := rfl
      have hd : wrap64 (Int.tdiv (x : Int) 10) = ((x / 10 : Nat) : Int) := by
        rw [Int.tdiv_eq_ediv_of_nonneg (by omega), wrap_id (by omega) (by omega)]; omega
      obtain ⟨r, hr⟩ := ih (x / 10) (by omega) (strOfNums [(wrap64 (48 + (Int.tmod (x : Int) 10))) % 256] ++ s) (by rw [ByteArray.size_append, hz]; omega)
      refine ⟨r, ev_succ ?_⟩
      simp only [laws_markText.l0]
      refine ev_pos (by omega) (ev_bindq rfl (ev_pos (by rw [hz]; omega) ?_))
      rw [hd]; exact hr
theorem markText_ev (x : Int) (h0 : 0 < x) (h1 : x ≤ 8000000000000000000) : ∃ r, Ev (fun k => laws_markText.f k x) r := by
  obtain ⟨n, rfl⟩ := Int.eq_ofNat_of_zero_le (show 0 ≤ x by omega)
  obtain ⟨r, hr⟩ := markText_l0 n ⟨#[]⟩ (by show 0 + n ≤ _; omega)
  refine ⟨r, ?_⟩
  unfold laws_markText.f
  exact ev_neg (by omega) hr
theorem markSymbolS_l0 : ∀ (d i : Nat) (l : List S99) (m : Int), i + d = l.length → 0 < m → m + 2 * d ≤ 8000000000000000000 → l.length ≤ 1048576 →
    ∃ l', Ev (fun k => laws_markSymbolS.l0 k l m (i : Int)) (m + 2 * d, l') := by
  intro d
  induction d with
  | zero =>
    intro i l m hi h0 h1 hl
    refine ⟨l, ev_succ ?_⟩
    simp only [laws_markSymbolS.l0]
    exact ev_neg (by omega) (ev_to (ev_some _) (by simp))
  | succ d ih =>
    intro i l m hi h0 h1 hl
    obtain ⟨s, hs⟩ := markText_ev m h0 (by omega)
    obtain ⟨l', h⟩ := ih (i + 1) ((l.set i (⟨s, (rd_T99 l (i : Int)).f1⟩ : S99)).set i (⟨(rd_T99 (l.set i (⟨s, (rd_T99 l (i : Int)).f1⟩ : S99)) (i : Int)).f0, m + 1⟩ : S99)) (m + 2) (by simp; omega) (by omega) (by omega) (by simpa using hl)
    refine ⟨l', ev_succ ?_⟩
    simp only [laws_markSymbolS.l0]
    refine ev_pos (by omega) (ev_bind hs (ev_pos (by omega) (ev_bindq rfl ?_)))
    rw [Int.toNat_natCast, wrap_id (x := m + 1) (by omega) (by omega), wrap_id (x := m + 1 + 1) (by omega) (by omega), wrap_up (by omega), show m + 1 + 1 = m + 2 by omega]
    exact ev_to h (by rw [show m + 2 + 2 * (d : Int) = m + 2 * ((d + 1 : Nat) : Int) by omega])
theorem markSignature_ev (l : List S99) (hl : l.length ≤ 1048576) (m : Int) (h0 : 0 < m) (h1 : m ≤ 4000000000000000000) : ∃ l', Ev (fun k => laws_markSignature.f k l m) (m + 2 * l.length, l') := by
  obtain ⟨l', h⟩ := markSymbolS_l0 l.length 0 l m (by omega) h0 (by omega) hl
  refine ⟨l', ?_⟩
  unfold laws_markSignature.f laws_markSymbolS.f
  exact ev_bind h (ev_some _)
def marksI (m : Int) : Nat → List Int
  | 0 => []
  | n + 1 => m :: marksI (m + 1) n
theorem marksI_length (n : Nat) : ∀ m, (marksI m n).length = n := by
  induction n with
  | zero => intro m; rfl
  | succ n ih => intro m; simp [marksI, ih]
theorem markInt64S_l0 : ∀ (d : Nat) (pre rest : List Int) (m : Int), rest.length = d → 0 ≤ m → m + d ≤ 9000000000000000000 → pre.length + d ≤ 9000000000000000000 →
    Ev (fun k => laws_markInt64S.l0 k (pre ++ rest) m (pre.length : Int)) (m + d, pre ++ marksI m d) := by
  intro d
  induction d with
  | zero =>
    intro pre rest m hr h0 h1 h2
    refine ev_succ ?_
    simp only [laws_markInt64S.l0]
    refine ev_neg (by simp; omega) ?_
    obtain rfl : rest = [] := List.eq_nil_of_length_eq_zero hr
    exact ev_to (ev_some _) (by simp [marksI])
  | succ d ih =>
    intro pre rest m hr h0 h1 h2
    obtain ⟨x, rest, rfl⟩ : ∃ x r, rest = x :: r := by
      cases rest with
      | nil => simp at hr
      | cons x r => exact ⟨x, r, rfl⟩
    refine ev_succ ?_
    simp only [laws_markInt64S.l0]
    refine ev_pos (by simp; omega) (ev_pos (by omega) ?_)
    rw [wrap_up (by omega), wrap_id (x := m + 1) (by omega) (by omega), Int.toNat_natCast]
    have e : (pre ++ x :: rest).set pre.length m = (pre ++ [m]) ++ rest := by simp
    rw [e]
    have := ih (pre ++ [m]) rest (m + 1) (by simpa using hr) (by omega) (by omega) (by simp; omega)
    simp only [List.length_append, List.length_singleton] at this
    exact ev_to this (by simp [marksI]; omega)
theorem markInt64S_ev (xs : List Int) (m : Int) (h0 : 0 ≤ m) (h1 : m + xs.length ≤ 9000000000000000000) : Ev (fun k => laws_markInt64S.f k xs m) (m + xs.length, marksI m xs.length) := by
  unfold laws_markInt64S.f
  exact markInt64S_l0 xs.length [] xs m rfl h0 h1 (by simp; omega)
theorem heldInt64S_l0 : ∀ (d : Nat) (pre : List Int) (m : Int), 0 ≤ m → m + d ≤ 9000000000000000000 → pre.length + d ≤ 9000000000000000000 →
    Ev (fun k => laws_heldInt64S.l0 k (pre ++ marksI m d) m (pre.length : Int)) (m + d) := by
  intro d
  induction d with
  | zero =>
    intro pre m h0 h1 h2
    refine ev_succ ?_
    simp only [laws_heldInt64S.l0]
    refine ev_neg (by simp [marksI]) ?_
    exact ev_to (ev_some _) (by simp)
  | succ d ih =>
    intro pre m h0 h1 h2
    refine ev_succ ?_
    simp only [laws_heldInt64S.l0]
    have e : rd (pre ++ marksI m (d + 1)) (pre.length : Int) = m := by simp [rd, marksI]
    refine ev_pos (by simp [marksI_length]; omega) (ev_pos (by omega) (ev_pos e ?_))
    rw [wrap_up (by omega), wrap_id (x := m + 1) (by omega) (by omega)]
    have := ih (pre ++ [m]) (m + 1) (by omega) (by omega) (by simp; omega)
    simp only [List.length_append, List.length_singleton, List.append_assoc, List.singleton_append] at this
    exact ev_to this (by omega)
theorem heldInt64S_ev (n : Nat) (m : Int) (h0 : 0 ≤ m) (h1 : m + n ≤ 9000000000000000000) : Ev (fun k => laws_heldInt64S.f k (marksI m n) m) (m + n) := by
  unfold laws_heldInt64S.f
  exact heldInt64S_l0 n [] m h0 h1 (by simp; omega)
theorem markIntsResult_ev (c : Int) (xs : List Int) (m : Int) (h0 : 0 ≤ m) (h1 : m + xs.length ≤ 9000000000000000000) : Ev (fun k => laws_markIntsResult.f k c xs m) (m + xs.length, marksI m xs.length) := by
  unfold laws_markIntsResult.f
  exact ev_bind (markInt64S_ev xs m h0 h1) (ev_some _)
theorem heldIntsResult_ev (c : Int) (n : Nat) (m : Int) (h0 : 0 ≤ m) (h1 : m + n ≤ 9000000000000000000) : Ev (fun k => laws_heldIntsResult.f k c (marksI m n) m) (m + n) := by
  unfold laws_heldIntsResult.f
  exact ev_bind (heldInt64S_ev n m h0 h1) (ev_neg (by omega) (ev_some _))
theorem eqIntsResult_same (c : Int) (a : List Int) (hl : a.length ≤ 9223372036854775807) : Ev (fun k => laws_eqIntsResult.f k c a c a) true := by
  unfold laws_eqIntsResult.f
  exact ev_pos rfl (ev_bind (eqInt64S_ev a a hl) (ev_pos (by simp) (ev_some _)))
end Go.Proofs.YtedkbpbodkmhlaaDoor.Pure
set_option linter.unusedVariables false
namespace Go.Proofs.YtedkbpbodkmhlaaDoor.Pure
open Go.RowKit Go.Proofs.YtedkbpbodkmhlaaDoor.P Go.Proofs.YtedkbpbodkmhlaaDoorW.PrintWords Go.Proofs.YtedkbpbodkmhlaaDoorW.PrintLast Go.Proofs.YtedkbpbodkmhlaaDoor.Base
theorem RaiseSymbol_j0 (l : List S140) (hl : l.length ≤ 1048576) (o : List Int) (hbo : o.length ≤ 1048576) (n : Int) (c : Int) (x : List Int) (hx : x.length ≤ 1000) (hr : raiseR (l.map toI) o n = (c, x)) :
    Ev (fun k => laws_FnExactRaiseSymbol.j0 k o n false l c x c x) true := by
  refine ev_succ ?_
  simp only [laws_FnExactRaiseSymbol.j0]
  have t := toSignature_ev l hl
  have tlo := toInt64S_ev o (by omega)
  have hm := markIntsResult_ev c x 1 (by omega) (by omega)
  have hh := heldIntsResult_ev c x.length 1 (by omega) (by omega)
  have hp := RaiseSymbol_impl (l.map toI) o hbo n
  rw [hr] at hp
  exact ev_neg (by simp) (ev_bind hm (ev_bind hh (ev_neg (by omega) (ev_pos rfl (ev_bind t (ev_bind tlo (ev_bind hp (ev_bind (eqIntsResult_same c x (by omega)) (ev_pos rfl (ev_bind hh (ev_neg (by omega) (ev_pos rfl (ev_some _)))))))))))))
theorem FnExactRaiseSymbol (l : List S140) (o : List Int) (n : Int) (hl : FitsL l) (wo : o.length ≤ maxLen ∧ ∀ y ∈ o, (Lit.int .i64 y).wf = true) (wn : (Lit.int .i64 n).wf = true) : ∃ k, laws_FnExactRaiseSymbol.f k l o n = some true := by
  refine ev_ex (g := fun k => laws_FnExactRaiseSymbol.f k l o n) ?_
  unfold laws_FnExactRaiseSymbol.f
  by_cases bo : (o.length : Int) > 1048576
  · exact ev_pos bo (ev_some _)
  refine ev_neg bo ?_
  have hbo : o.length ≤ 1048576 := by omega
  obtain ⟨r, hr, h1⟩ := szSignature_ev l hl 1048576 (by omega) (by omega)
  refine ev_bind hr ?_
  by_cases hr0 : r < 0
  · exact ev_pos hr0 (ev_some _)
  have h1 := h1 hr0
  have t := toSignature_ev l (by omega)
  have e := eqSignature_ev (l.map toI) (by rw [List.length_map]; omega)
  have tlo := toInt64S_ev o (by omega)
  have elo := eqInt64S_ev o o (by omega)
  have hx := raiseR_length (l.map toI) o n
  have hs := RaiseSymbol_spec (l.map toI) o hbo n
  have hp := RaiseSymbol_impl (l.map toI) o hbo n
  have hj := fun c x (hc : raiseR (l.map toI) o n = (c, x)) (hx : x.length ≤ 1000) => RaiseSymbol_j0 l (by omega) o hbo n c x hx hc
  generalize hc : raiseR (l.map toI) o n = q at *
  obtain ⟨c, x⟩ := q
  have hq := eqIntsResult_same c x (by simp only at hx; omega)
  obtain ⟨l', hm⟩ := markSignature_ev (l.map toI) (by rw [List.length_map]; omega) 1 (by omega) (by omega)
  rw [List.length_map] at hm
  have hmko := markInt64S_ev o (1 + 2 * (l.length : Int)) (by omega) (by omega)
  exact ev_neg hr0 (ev_bind t (ev_bind tlo (ev_bind hs (ev_bind t (ev_bind tlo (ev_bind hp (ev_bind hq (ev_pos rfl (ev_bind t (ev_bind e (ev_pos rfl (ev_bind tlo (ev_bind elo (ev_pos (by simp) (ev_bind hm (ev_bind hmko (ev_neg (by simp only; omega) (ev_bind hq (hj c x rfl hx)))))))))))))))))))
end Go.Proofs.YtedkbpbodkmhlaaDoor.Pure
