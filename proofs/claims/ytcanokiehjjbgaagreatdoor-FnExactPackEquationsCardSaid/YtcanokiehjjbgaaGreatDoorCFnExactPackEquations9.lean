/- A part of the proof of the law FnExactPackEquations. -/
import Derived.Lib.SlicesCompact
import Derived.Lib.RowBridge
import Derived.Lib.Strings
import Derived.Laws.StructEq
import Derived.Test.YtcanokiehjjbgaaGreatDoorCFnExactPackEquations0
import Derived.Test.YtcanokiehjjbgaaGreatDoorCFnExactPackEquations1
import Derived.Test.YtcanokiehjjbgaaGreatDoorCFnExactPackEquations2
import Derived.Test.YtcanokiehjjbgaaGreatDoorCFnExactPackEquations3
import Derived.Test.YtcanokiehjjbgaaGreatDoorCFnExactPackEquations4
import Derived.Test.YtcanokiehjjbgaaGreatDoorCFnExactPackEquations5
import Derived.Test.YtcanokiehjjbgaaGreatDoorCFnExactPackEquations6
import Derived.Test.YtcanokiehjjbgaaGreatDoorCFnExactPackEquations7
import Derived.Test.YtcanokiehjjbgaaGreatDoorCFnExactPackEquations8
set_option linter.unusedVariables false
namespace Go.Proofs.YtcanokiehjjbgaaGreatDoor.Pure
open Go.RowKit Go.Proofs.YtcanokiehjjbgaaGreatDoor.P Go.Proofs.YtcanokiehjjbgaaGreatDoorW.PrintWords Go.Proofs.YtcanokiehjjbgaaGreatDoorW.PrintLast Go.Proofs.YtcanokiehjjbgaaGreatDoor.Base
def toI (x : S122) : S125 := ⟨x.f0, x.f1⟩
theorem rdL_get (xs : List S122) (i : Nat) (h : i < xs.length) : rd_T122 xs (i : Int) = xs[i] := by
  simp [rd_T122, List.getD_eq_getElem?_getD, List.getElem?_eq_getElem h]
def FitsL (l : List S122) : Prop := l.length ≤ maxLen ∧ ∀ x ∈ l, x.f0.size ≤ maxLen ∧ (Lit.int .i64 x.f1).wf = true
theorem szSymbolS_l0 (l : List S122) (hl : FitsL l) : ∀ (d i : Nat) (a : Int), i + d = l.length → 0 ≤ a → a ≤ 1048576 →
    ∃ r, Ev (fun k => laws_szSymbolS.l0 k l a (i : Int)) r ∧ (0 ≤ r → r ≤ a) := by
  intro d
  induction d with
  | zero =>
    intro i a hi h0 h1
    refine ⟨a, ev_succ ?_, fun _ => Int.le_refl _⟩
    simp only [laws_szSymbolS.l0]
    exact ev_neg (by omega) (ev_some _)
  | succ d ih =>
    intro i a hi h0 h1
    have hi' : i < l.length := by omega
    have hx := (hl.2 _ (List.getElem_mem hi')).1
    unfold maxLen at hx
    have hm := hl.1
    unfold maxLen at hm
    have hw : wrap64 (a - ((l[i]).f0.size : Int)) = a - ((l[i]).f0.size : Int) := wrap_id (by omega) (by omega)
    by_cases hn : a - ((l[i]).f0.size : Int) < 0
    · refine ⟨-1, ev_succ ?_, fun h => by omega⟩
      simp only [laws_szSymbolS.l0]
      refine ev_pos (by omega) (ev_pos (by omega) ?_)
      rw [rdL_get l i hi']
      refine ev_bindq (a := -1) ?_ (ev_pos (by omega) (ev_some _))
      unfold laws_szSymbol.f
      rw [hw, if_pos hn]
    · obtain ⟨r, hr, hle⟩ := ih (i + 1) (a - ((l[i]).f0.size : Int)) (by omega) (by omega) (by omega)
      refine ⟨r, ev_succ ?_, fun h => by have := hle h; omega⟩
      simp only [laws_szSymbolS.l0]
      refine ev_pos (by omega) (ev_pos (by omega) ?_)
      rw [rdL_get l i hi', wrap_up (by omega)]
      refine ev_bindq (a := a - ((l[i]).f0.size : Int)) ?_ (ev_neg hn hr)
      unfold laws_szSymbol.f
      rw [hw, if_neg hn]
theorem szSignature_ev (l : List S122) (hl : FitsL l) (a : Int) (h0 : 0 ≤ a) (h1 : a ≤ 1048576) :
    ∃ r, Ev (fun k => laws_szSignature.f k l a) r ∧ (¬ r < 0 → (l.length : Int) ≤ a ∧ r ≤ a) := by
  have hm := hl.1
  unfold maxLen at hm
  have hw : wrap64 (a - (l.length : Int)) = a - (l.length : Int) := wrap_id (by omega) (by omega)
  by_cases hn : a - (l.length : Int) < 0
  · refine ⟨-1, ?_, fun h => by omega⟩
    unfold laws_szSignature.f
    refine ev_bind (a := -1) ?_ (ev_pos (by omega) (ev_some _))
    unfold laws_szSymbolS.f
    rw [hw]
    exact ev_pos hn (ev_some _)
  · obtain ⟨r, hr, hle⟩ := szSymbolS_l0 l hl l.length 0 (a - (l.length : Int)) (by omega) (by omega) (by omega)
    have hs : Ev (fun k => laws_szSymbolS.f k l a) r := by
      unfold laws_szSymbolS.f
      rw [hw]
      exact ev_neg hn hr
    by_cases hr0 : r < 0
    · refine ⟨-1, ?_, fun h => by omega⟩
      unfold laws_szSignature.f
      exact ev_bind hs (ev_pos hr0 (ev_some _))
    · refine ⟨r, ?_, fun h => ?_⟩
      · unfold laws_szSignature.f
        exact ev_bind hs (ev_neg hr0 (ev_some _))
      · have := hle (by omega)
        omega
theorem toSymbolS_l0 (l : List S122) (hl : l.length ≤ 1048576) : ∀ (d i : Nat), i + d = l.length → Ev (fun k => laws_toSymbolS.l0 k l (cpart z125 (l.map toI) i) (i : Int)) (l.map toI) := by
  intro d
  induction d with
  | zero =>
    intro i hi
    refine ev_succ ?_
    simp only [laws_toSymbolS.l0]
    refine ev_neg (by omega) ?_
    have e : i = (l.map toI).length := by rw [List.length_map]; omega
    rw [e, cpart_end]
    exact ev_some _
  | succ d ih =>
    intro i hi
    have hi' : i < l.length := by omega
    refine ev_succ ?_
    simp only [laws_toSymbolS.l0]
    refine ev_pos (by omega) (ev_pos (by omega) ?_)
    unfold laws_toSymbol.f
    refine ev_bindq rfl (ev_pos (by rw [cpart_length _ _ _ (by rw [List.length_map]; omega), List.length_map]; omega) ?_)
    rw [rdL_get l i hi', wrap_up (by omega), Int.toNat_natCast, cpart_set z125 (l.map toI) i (by rw [List.length_map]; omega) (⟨(l[i]).f0, (l[i]).f1⟩ : S125) (by rw [List.getElem?_map, List.getElem?_eq_getElem hi']; rfl)]
    exact ih (i + 1) (by omega)
theorem toSignature_ev (l : List S122) (hl : l.length ≤ 1048576) : Ev (fun k => laws_toSignature.f k l) (l.map toI) := by
  unfold laws_toSignature.f
  refine ev_bind (a := l.map toI) ?_ (ev_some _)
  unfold laws_toSymbolS.f
  refine ev_pos (by omega) (ev_pos (by omega) ?_)
  have := toSymbolS_l0 l hl l.length 0 (by omega)
  rw [cpart_zero, List.length_map] at this
  rw [Int.toNat_natCast]
  exact this
theorem eqSymbolS_l0 (a : List S125) (hl : a.length ≤ 9223372036854775807) : ∀ (d i : Nat), i + d = a.length → Ev (fun k => laws_eqSymbolS.l0 k a a (i : Int)) true := by
  intro d
  induction d with
  | zero =>
    intro i hi
    refine ev_succ ?_
    simp only [laws_eqSymbolS.l0]
    exact ev_neg (by omega) (ev_some _)
  | succ d ih =>
    intro i hi
    refine ev_succ ?_
    simp only [laws_eqSymbolS.l0]
    refine ev_pos (by omega) (ev_pos (by omega) (ev_pos (by omega) (ev_bindq (a := true) ?_ (ev_pos rfl ?_))))
    · unfold laws_eqSymbol.f
      rw [if_pos rfl, if_pos rfl]
    · rw [wrap_up (by omega)]
      exact ih (i + 1) (by omega)
theorem eqSignature_ev (a : List S125) (hl : a.length ≤ 9223372036854775807) : Ev (fun k => laws_eqSignature.f k a a) true := by
  unfold laws_eqSignature.f
  refine ev_bind (a := true) ?_ (ev_pos rfl (ev_some _))
  unfold laws_eqSymbolS.f
  exact ev_pos rfl (eqSymbolS_l0 a hl a.length 0 (by omega))
end Go.Proofs.YtcanokiehjjbgaaGreatDoor.Pure
set_option linter.unusedVariables false
namespace Go.Proofs.YtcanokiehjjbgaaGreatDoor.Pure
open Go.RowKit Go.Proofs.YtcanokiehjjbgaaGreatDoor.P Go.Proofs.YtcanokiehjjbgaaGreatDoorW.PrintWords Go.Proofs.YtcanokiehjjbgaaGreatDoorW.PrintLast Go.Proofs.YtcanokiehjjbgaaGreatDoor.Base
theorem bt_get (s : ByteArray) (i : Nat) (h : i < s.data.toList.length) : bt s (i : Int) = ((s.data.toList[i]).toNat : Int) := by
  have hs : i < s.size := by rw [Lib.size_eq]; exact h
  unfold bt
  rw [dif_pos (by simpa using hs)]
  rfl
theorem l2Name_l0 (s : ByteArray) (hl : s.size ≤ 3) : ∀ (d i : Nat), i + d = s.size → Ev (fun k => spec_l2Name.l0 k s (i : Int)) ((s.data.toList.drop i).all letterB) := by
  have hz := Lib.size_eq s
  intro d
  induction d with
  | zero =>
    intro i hi
    refine ev_succ ?_
    simp only [spec_l2Name.l0]
    refine ev_neg (by omega) (ev_to (ev_some _) ?_)
    rw [List.drop_eq_nil_of_le (by omega)]; rfl
  | succ d ih =>
    intro i hi
    have hi' : i < s.data.toList.length := by omega
    refine ev_succ ?_
    simp only [spec_l2Name.l0]
    refine ev_pos (by omega) (ev_pos (by omega) ?_)
    rw [bt_get s i hi', List.drop_eq_getElem_cons hi', wrap_up (by omega)]
    generalize s.data.toList[i] = b
    by_cases h1 : (b.toNat : Int) < 97
    · refine ev_pos h1 (ev_to (ev_some _) ?_)
      have : letterB b = false := by unfold letterB; simp; omega
      simp [this]
    refine ev_neg h1 ?_
    by_cases h2 : (b.toNat : Int) > 122
    · refine ev_pos h2 (ev_to (ev_some _) ?_)
      have : letterB b = false := by unfold letterB; simp; omega
      simp [this]
    refine ev_neg h2 (ev_to (ih (i + 1) (by omega)) ?_)
    have : letterB b = true := by unfold letterB; simp; omega
    simp [this]
theorem l2Name_ev (s : ByteArray) : Ev (fun k => spec_l2Name.f k s) (nameB s) := by
  unfold spec_l2Name.f nameB
  by_cases h1 : (s.size : Int) < 1
  · refine ev_pos h1 (ev_succ ?_)
    simp only [spec_l2Name.j0]
    exact ev_pos (by simp) (ev_to (ev_some _) (by simp; omega))
  refine ev_neg h1 (ev_succ ?_)
  simp only [spec_l2Name.j0]
  by_cases h2 : (s.size : Int) > 3
  · exact ev_pos (by simpa using h2) (ev_to (ev_some _) (by simp; omega))
  refine ev_neg (by simpa using h2) (ev_to (l2Name_l0 s (by omega) s.size 0 (by omega)) ?_)
  have : decide (1 ≤ s.size ∧ s.size ≤ 3) = true := by simp; omega
  rw [this]; rfl
theorem isName_eq (s : ByteArray) : impl_isName.f s = some (nameB s) := by
  unfold impl_isName.f nameB
  by_cases h1 : (s.size : Int) ≥ 1
  · rw [if_pos h1]
    by_cases h2 : (s.size : Int) ≤ 3
    · rw [if_pos h2]
      have ht : strings_Trim.f s abc = some ⟨(Lib.trimS s.data.toList abc.data.toList).toArray⟩ := by
        unfold strings_Trim.f
        exact if_pos ⟨by omega, by decide, by decide +kernel⟩
      refine bind_eq ht ?_
      have : decide (1 ≤ s.size ∧ s.size ≤ 3) = true := by simp; omega
      rw [this, Lib.toList_data]
      simp only [Bool.true_and]
      rw [← trim_abc]
    · rw [if_neg h2]
      have : decide (1 ≤ s.size ∧ s.size ≤ 3) = false := by simp; omega
      rw [this]; rfl
  · rw [if_neg h1]
    have : decide (1 ≤ s.size ∧ s.size ≤ 3) = false := by simp; omega
    rw [this]; rfl
def nameAt (l : List S125) (i : Nat) : List UInt8 := (rd_T125 l (i : Int)).f0.toList
def symFault (l : List S125) (i : Nat) : Option Int :=
  if nameB (rd_T125 l (i : Int)).f0 = true then (if 0 ≤ (rd_T125 l (i : Int)).f1 ∧ (rd_T125 l (i : Int)).f1 ≤ 2 then none else some 3) else some 5
def dupB (l : List S125) (i : Nat) : Bool := (firstN (fun j => nameAt l i == nameAt l j) i 0).isSome
def dupFault (l : List S125) (i : Nat) : Option Int := if dupB l i = true then some 6 else none
def zeroB (l : List S125) : Bool := (firstN (fun j => (rd_T125 l (j : Int)).f1 == 0) l.length 0).isSome
def sigF (l : List S125) : Int :=
  if l.length < 1 ∨ l.length > 6 then 2 else scanN (symFault l) (scanN (dupFault l) (if zeroB l = true then 0 else 4) l.length 0) l.length 0
theorem within_eq (a b c : Int) : impl_within.f a b c = some (decide (b ≤ a ∧ a ≤ c)) := by
  unfold impl_within.f
  by_cases h : a ≥ b
  · rw [if_pos h]
    by_cases h' : a ≤ c
    · simp [h']; omega
    · simp [h']
  · rw [if_neg h]
    simp; omega
theorem l1In_eq (a b c : Int) : spec_l1In.f a b c = some (decide (b ≤ a ∧ a ≤ c)) := by
  unfold spec_l1In.f
  by_cases h : a ≥ b
  · rw [if_pos h]
    by_cases h' : a ≤ c
    · simp [h']; omega
    · simp [h']
  · rw [if_neg h]
    simp; omega
theorem Sig_l3 (l : List S125) (hl : l.length ≤ 6) : Ev (fun k => spec_SignatureFault.l3 k (l.length : Int) 0 l) (if zeroB l = true then 0 else 4) := by
  have h := loop_scan l.length (fun j => if ((rd_T125 l (j : Int)).f1 == 0) = true then some 0 else none) 4 (fun k i => spec_SignatureFault.l3 k (l.length : Int) i l)
    (by simp only [spec_SignatureFault.l3]; exact ev_neg (by omega) (ev_some _))
    (fun i hi r hr => by
      simp only [spec_SignatureFault.l3]
      refine ev_pos (by omega) (ev_pos (by omega) (ev_pos (by omega) ?_))
      rw [wrap_up (by omega)]
      by_cases h : (rd_T125 l (i : Int)).f1 = 0
      · refine ev_pos h (ev_to (ev_some _) (by simp [h]))
      · refine ev_neg h (ev_to hr (by simp [h])))
    l.length 0 (by omega)
  refine ev_to h ?_
  rw [scanN_first (fun j => (rd_T125 l (j : Int)).f1 == 0) (fun _ => (0 : Int)) 4]
  unfold zeroB
  cases firstN (fun j => (rd_T125 l (j : Int)).f1 == 0) l.length 0 <;> rfl
theorem Sig_l2 (l : List S125) (hl : l.length ≤ 6) (i : Nat) (hi : i < l.length) (r : Int) (hr : Ev (fun k => spec_SignatureFault.l1 k (l.length : Int) ((i + 1 : Nat) : Int) l) r) :
    Ev (fun k => spec_SignatureFault.l2 k (l.length : Int) (i : Int) 0 l) ((dupFault l i).getD r) := by
  have h := loop_scan i (fun j => if (nameAt l i == nameAt l j) = true then some 6 else none) r (fun k j => spec_SignatureFault.l2 k (l.length : Int) (i : Int) j l)
    (by simp only [spec_SignatureFault.l2]; refine ev_neg (by omega) ?_; rw [wrap_up (by omega)]; exact hr)
    (fun j hj r hr => by
      simp only [spec_SignatureFault.l2]
      refine ev_pos (by omega) (ev_pos (by omega) (ev_pos (by omega) (ev_pos (by omega) (ev_pos (by omega) ?_))))
      rw [wrap_up (by omega)]
      by_cases h : nameAt l i = nameAt l j
      · refine ev_pos h (ev_to (ev_some _) (by simp [h]))
      · refine ev_neg h (ev_to hr (by simp [h])))
    i 0 (by omega)
  refine ev_to h ?_
  rw [scanN_first (fun j => nameAt l i == nameAt l j) (fun _ => (6 : Int)) r]
  unfold dupFault dupB
  cases firstN (fun j => nameAt l i == nameAt l j) i 0 <;> rfl
theorem Sig_l1 (l : List S125) (hl : l.length ≤ 6) : Ev (fun k => spec_SignatureFault.l1 k (l.length : Int) 0 l) (scanN (dupFault l) (if zeroB l = true then 0 else 4) l.length 0) :=
  loop_scan l.length (dupFault l) (if zeroB l = true then 0 else 4) (fun k i => spec_SignatureFault.l1 k (l.length : Int) i l)
    (by simp only [spec_SignatureFault.l1]; exact ev_neg (by omega) (Sig_l3 l hl))
    (fun i hi r hr => by
      simp only [spec_SignatureFault.l1]
      exact ev_pos (by omega) (Sig_l2 l hl i hi r hr))
    l.length 0 (by omega)
theorem Sig_l0 (l : List S125) (hl : l.length ≤ 6) : Ev (fun k => spec_SignatureFault.l0 k (l.length : Int) 0 l) (scanN (symFault l) (scanN (dupFault l) (if zeroB l = true then 0 else 4) l.length 0) l.length 0) :=
  loop_scan l.length (symFault l) _ (fun k i => spec_SignatureFault.l0 k (l.length : Int) i l)
    (by simp only [spec_SignatureFault.l0]; exact ev_neg (by omega) (Sig_l1 l hl))
    (fun i hi r hr => by
      simp only [spec_SignatureFault.l0]
      refine ev_pos (by omega) (ev_pos (by omega) (ev_pos (by omega) (ev_bind (l2Name_ev _) ?_)))
      unfold symFault
      by_cases h : nameB (rd_T125 l (i : Int)).f0 = true
      · refine ev_pos h (ev_bindq (l1In_eq _ _ _) ?_)
        rw [if_pos h, wrap_up (by omega)]
        by_cases h' : 0 ≤ (rd_T125 l (i : Int)).f1 ∧ (rd_T125 l (i : Int)).f1 ≤ 2
        · rw [if_pos h']
          exact ev_pos (by simpa using h') hr
        · rw [if_neg h']
          exact ev_neg (by simpa using h') (ev_some _)
      · rw [if_neg h]
        exact ev_neg h (ev_some _))
    l.length 0 (by omega)
theorem SignatureFault_spec (l : List S125) : Ev (fun k => spec_SignatureFault.f k l) (sigF l) := by
  unfold spec_SignatureFault.f sigF
  by_cases h1 : (l.length : Int) < 1
  · rw [if_pos (.inl (by omega))]
    refine ev_pos h1 (ev_succ ?_)
    simp only [spec_SignatureFault.j0]
    exact ev_pos (by simp) (ev_some _)
  refine ev_neg h1 (ev_succ ?_)
  simp only [spec_SignatureFault.j0]
  by_cases h2 : (l.length : Int) > 6
  · rw [if_pos (.inr (by omega))]
    exact ev_pos (by simpa using h2) (ev_some _)
  · rw [if_neg (by omega)]
    exact ev_neg (by simpa using h2) (Sig_l0 l (by omega))
theorem symbolIndex_ev (l : List S125) (hl : l.length ≤ 1048576) (s : ByteArray) : Ev (fun k => impl_symbolIndex.f k l s) (placeN (fun j => nameAt l j == s.toList) l.length) := by
  unfold impl_symbolIndex.f
  refine ev_bind (a := placeN (fun j => nameAt l j == s.toList) l.length) ?_ (ev_some _)
  unfold slices_IndexFunc_impl_Symbol_impl_Symbol_impl_symbolIndex_1.f
  have h := loop_scan l.length (fun j => if (nameAt l j == s.toList) = true then some (j : Int) else none) (-1) (fun k i => slices_IndexFunc_impl_Symbol_impl_Symbol_impl_symbolIndex_1.l0 k l (l.length : Int) i [s])
    (by simp only [slices_IndexFunc_impl_Symbol_impl_Symbol_impl_symbolIndex_1.l0]; exact ev_neg (by omega) (ev_some _))
    (fun i hi r hr => by
      simp only [slices_IndexFunc_impl_Symbol_impl_Symbol_impl_symbolIndex_1.l0]
      refine ev_pos (by omega) (ev_pos (by omega) (ev_pos (by omega) (ev_bindq (a := nameAt l i == s.toList) ?_ ?_)))
      · unfold impl_symbolIndex_1_with.f
        rw [if_pos (by simp)]
        rfl
      · rw [wrap_up (by omega)]
        by_cases h : (nameAt l i == s.toList) = true
        · rw [if_pos h]; exact ev_pos h (ev_some _)
        · rw [if_neg h]; exact ev_neg h hr)
    l.length 0 (by omega)
  rw [scanN_place (fun j => nameAt l j == s.toList)] at h
  exact h
theorem dup_place (l : List S125) (i : Nat) (hi : i < l.length) : placeN (fun j => nameAt l j == (rd_T125 l (i : Int)).f0.toList) l.length = (i : Int) ↔ dupB l i = false := by
  unfold dupB
  have hn : (firstN (fun j => nameAt l i == nameAt l j) i 0).isSome = false ↔ ∀ j, j < i → (nameAt l i == nameAt l j) = false := by
    rw [Option.isSome_eq_false_iff, Option.isNone_iff_eq_none, firstN_none]
    exact ⟨fun h j hj => h j (by omega) (by omega), fun h j _ hj => h j (by omega)⟩
  rw [hn]
  rcases placeN_cases (fun j => nameAt l j == (rd_T125 l (i : Int)).f0.toList) l.length with ⟨h1, h2⟩ | ⟨j, hj, h1, h2, h3⟩
  · have := h2 i hi
    simp [nameAt] at this
  · rw [h1]
    constructor
    · intro e
      obtain rfl : j = i := by omega
      intro m hm
      have := h3 m hm
      simp only [beq_eq_false_iff_ne, ne_eq] at this ⊢
      exact fun e => this e.symm
    · intro h
      have hji : ¬ j < i := fun hlt => by
        have := h j hlt
        simp only [beq_eq_false_iff_ne, ne_eq] at this
        exact this (by simpa [nameAt] using (eq_comm.1 (beq_iff_eq.1 h2)))
      have hij : ¬ i < j := fun hlt => by
        have := h3 i hlt
        simp [nameAt] at this
      omega
theorem ISig_last (l : List S125) (hl : l.length ≤ 6) : Ev (fun k => slices_ContainsFunc_impl_Symbol_impl_Symbol_impl_SignatureFault_1.f k l) (zeroB l) := by
  unfold slices_ContainsFunc_impl_Symbol_impl_Symbol_impl_SignatureFault_1.f slices_IndexFunc_impl_Symbol_impl_Symbol_impl_SignatureFault_1.f
  have h := loop_scan l.length (fun j => if ((rd_T125 l (j : Int)).f1 == 0) = true then some (j : Int) else none) (-1) (fun k i => slices_IndexFunc_impl_Symbol_impl_Symbol_impl_SignatureFault_1.l0 k l (l.length : Int) i)
    (by simp only [slices_IndexFunc_impl_Symbol_impl_Symbol_impl_SignatureFault_1.l0]; exact ev_neg (by omega) (ev_some _))
    (fun i hi r hr => by
      simp only [slices_IndexFunc_impl_Symbol_impl_Symbol_impl_SignatureFault_1.l0]
      refine ev_pos (by omega) (ev_pos (by omega) (ev_pos (by omega) (ev_bindq rfl ?_)))
      rw [wrap_up (by omega)]
      by_cases h : ((rd_T125 l (i : Int)).f1 == 0) = true
      · rw [if_pos h]; exact ev_pos h (ev_some _)
      · rw [if_neg h]; exact ev_neg h hr)
    l.length 0 (by omega)
  rw [scanN_first (fun j => (rd_T125 l (j : Int)).f1 == 0) (fun j => (j : Int)) (-1)] at h
  refine ev_bind h (ev_to (ev_some _) ?_)
  unfold zeroB
  cases firstN (fun j => (rd_T125 l (j : Int)).f1 == 0) l.length 0 with
  | none => rfl
  | some j => simp
theorem ISig_l1 (l : List S125) (hl : l.length ≤ 6) : Ev (fun k => impl_SignatureFault.l1 k l (l.length : Int) 0 l) (scanN (dupFault l) (if zeroB l = true then 0 else 4) l.length 0) :=
  loop_scan l.length (dupFault l) (if zeroB l = true then 0 else 4) (fun k i => impl_SignatureFault.l1 k l (l.length : Int) i l)
    (by
      simp only [impl_SignatureFault.l1]
      refine ev_neg (by omega) (ev_bind (ISig_last l hl) ?_)
      by_cases h : zeroB l = true
      · exact ev_to (ev_pos h (ev_some _)) (if_pos h).symm
      · exact ev_to (ev_neg h (ev_some _)) (if_neg h).symm)
    (fun i hi r hr => by
      simp only [impl_SignatureFault.l1]
      refine ev_pos (by omega) (ev_pos (by omega) (ev_pos (by omega) (ev_bind (symbolIndex_ev l (by omega) _) ?_)))
      have hd := dup_place l i hi
      rw [wrap_up (by omega)]
      unfold dupFault
      by_cases h : dupB l i = true
      · rw [if_pos h]
        exact ev_neg (fun e => by rw [hd.1 e] at h; cases h) (ev_some _)
      · rw [if_neg h]
        exact ev_pos (hd.2 (Bool.eq_false_iff.2 h)) hr)
    l.length 0 (by omega)
theorem SignatureFault_impl (l : List S125) : Ev (fun k => impl_SignatureFault.f k l) (sigF l) := by
  unfold impl_SignatureFault.f sigF
  by_cases h1 : (l.length : Int) < 1
  · rw [if_pos (.inl (by omega))]
    refine ev_pos h1 (ev_succ ?_)
    simp only [impl_SignatureFault.j0]
    exact ev_pos (by simp) (ev_some _)
  refine ev_neg h1 (ev_succ ?_)
  simp only [impl_SignatureFault.j0]
  by_cases h2 : (l.length : Int) > 6
  · rw [if_pos (.inr (by omega))]
    exact ev_pos (by simpa using h2) (ev_some _)
  rw [if_neg (by omega)]
  refine ev_neg (by simpa using h2) ?_
  exact loop_scan l.length (symFault l) _ (fun k i => impl_SignatureFault.l0 k l (l.length : Int) i l)
    (by simp only [impl_SignatureFault.l0]; exact ev_neg (by omega) (ISig_l1 l (by omega)))
    (fun i hi r hr => by
      simp only [impl_SignatureFault.l0]
      refine ev_pos (by omega) (ev_pos (by omega) (ev_pos (by omega) (ev_bindq (isName_eq _) ?_)))
      unfold symFault
      by_cases h : nameB (rd_T125 l (i : Int)).f0 = true
      · refine ev_pos h (ev_bindq (within_eq _ _ _) ?_)
        rw [if_pos h, wrap_up (by omega)]
        by_cases h' : 0 ≤ (rd_T125 l (i : Int)).f1 ∧ (rd_T125 l (i : Int)).f1 ≤ 2
        · rw [if_pos h']
          exact ev_pos (by simpa using h') hr
        · rw [if_neg h']
          exact ev_neg (by simpa using h') (ev_some _)
      · rw [if_neg h]
        exact ev_neg h (ev_some _))
    l.length 0 (by omega)
structure Right (l : List S125) : Prop where
  len : 1 ≤ l.length ∧ l.length ≤ 6
  names : ∀ i, i < l.length → nameB (rd_T125 l (i : Int)).f0 = true
  arities : ∀ i, i < l.length → 0 ≤ (rd_T125 l (i : Int)).f1 ∧ (rd_T125 l (i : Int)).f1 ≤ 2
  apart : ∀ i, i < l.length → dupB l i = false
theorem right_of (l : List S125) (h : sigF l = 0) : Right l := by
  unfold sigF at h
  by_cases h1 : l.length < 1 ∨ l.length > 6
  · rw [if_pos h1] at h; omega
  rw [if_neg h1] at h
  have hlen : 1 ≤ l.length ∧ l.length ≤ 6 := by omega
  rcases scanN_cases (symFault l) (scanN (dupFault l) (if zeroB l = true then 0 else 4) l.length 0) l.length 0 with ⟨h2, h3⟩ | ⟨j, _, _, h3⟩
  · rw [h3] at h
    rcases scanN_cases (dupFault l) (if zeroB l = true then 0 else 4) l.length 0 with ⟨h4, h5⟩ | ⟨j, _, _, h5⟩
    · refine ⟨hlen, fun i hi => ?_, fun i hi => ?_, fun i hi => ?_⟩
      · have := h2 i (by omega) (by omega)
        unfold symFault at this
        by_cases hn : nameB (rd_T125 l (i : Int)).f0 = true
        · exact hn
        · rw [if_neg hn] at this; cases this
      · have := h2 i (by omega) (by omega)
        unfold symFault at this
        by_cases hn : nameB (rd_T125 l (i : Int)).f0 = true
        · rw [if_pos hn] at this
          by_cases ha : 0 ≤ (rd_T125 l (i : Int)).f1 ∧ (rd_T125 l (i : Int)).f1 ≤ 2
          · exact ha
          · rw [if_neg ha] at this; cases this
        · rw [if_neg hn] at this; cases this
      · have := h4 i (by omega) (by omega)
        unfold dupFault at this
        by_cases hd : dupB l i = true
        · rw [if_pos hd] at this; cases this
        · exact Bool.eq_false_iff.2 hd
    · rw [h] at h5
      unfold dupFault at h5
      by_cases hd : dupB l j = true
      · rw [if_pos hd] at h5; cases h5
      · rw [if_neg hd] at h5; cases h5
  · rw [h] at h3
    unfold symFault at h3
    by_cases hn : nameB (rd_T125 l (j : Int)).f0 = true
    · rw [if_pos hn] at h3
      by_cases ha : 0 ≤ (rd_T125 l (j : Int)).f1 ∧ (rd_T125 l (j : Int)).f1 ≤ 2
      · rw [if_pos ha] at h3; cases h3
      · rw [if_neg ha] at h3; cases h3
    · rw [if_neg hn] at h3; cases h3
end Go.Proofs.YtcanokiehjjbgaaGreatDoor.Pure
set_option linter.unusedVariables false
namespace Go.Proofs.YtcanokiehjjbgaaGreatDoor.Pure
open Go.RowKit Go.Proofs.YtcanokiehjjbgaaGreatDoor.P Go.Proofs.YtcanokiehjjbgaaGreatDoorW.PrintWords Go.Proofs.YtcanokiehjjbgaaGreatDoorW.PrintLast Go.Proofs.YtcanokiehjjbgaaGreatDoor.Base
def symB (l : List S125) (n : Int) : Bool := decide (0 ≤ n ∧ n ≤ (l.length : Int) - 1)
theorem l2Symbol_eq (l : List S125) (hl : l.length ≤ 1048576) (n : Int) : spec_l2Symbol.f [(⟨l⟩ : S34)] n = some (symB l n) := by
  unfold spec_l2Symbol.f
  rw [if_pos (by simp)]
  show (spec_l1In.f n 0 (wrap64 ((l.length : Int) - 1))).bind _ = _
  rw [l1In_eq, wrap_id (by omega) (by omega)]
  rfl
theorem isSymbol_eq (l : List S125) (hl : l.length ≤ 1048576) (n : Int) : impl_isSymbol.f l n = some (symB l n) := by
  unfold impl_isSymbol.f
  rw [within_eq, wrap_id (by omega) (by omega)]
  rfl
theorem symB_true {l : List S125} {n : Int} (h : symB l n = true) : 0 ≤ n ∧ n < (l.length : Int) := by
  unfold symB at h
  have := of_decide_eq_true h
  omega
end Go.Proofs.YtcanokiehjjbgaaGreatDoor.Pure
set_option linter.unusedVariables false
namespace Go.Proofs.YtcanokiehjjbgaaGreatDoor.Pure
open Go.RowKit Go.Proofs.YtcanokiehjjbgaaGreatDoorW.PrintWords Go.Proofs.YtcanokiehjjbgaaGreatDoor.Base
def skipN (ar : Int → Nat) : Nat → List Int → Option (List Int)
  | 0, t => some t
  | _ + 1, [] => none
  | k + 1, n :: t => skipN ar (k + ar n) t
theorem skipN_zero (ar : Int → Nat) (t : List Int) : skipN ar 0 t = some t := by cases t <;> rfl
theorem skipN_add (ar : Int → Nat) (m : Nat) : ∀ (t : List Int) (k : Nat), skipN ar (k + m) t = (skipN ar k t).bind (skipN ar m)
  | t, 0 => by rw [skipN_zero, Nat.zero_add]; rfl
  | [], k + 1 => by rw [show k + 1 + m = (k + m) + 1 by omega]; rfl
  | n :: t, k + 1 => by
    rw [show k + 1 + m = (k + m) + 1 by omega]
    show skipN ar (k + m + ar n) t = (skipN ar (k + ar n) t).bind (skipN ar m)
    rw [show k + m + ar n = k + ar n + m by omega]
    exact skipN_add ar m t (k + ar n)
theorem skipN_cons (ar : Int → Nat) (n : Int) (t : List Int) (k : Nat) : skipN ar (k + 1) (n :: t) = skipN ar (k + ar n) t := rfl
theorem skipN_suffix (ar : Int → Nat) : ∀ (t : List Int) (k : Nat) (u : List Int), skipN ar k t = some u → ∃ d, u = t.drop d ∧ d ≤ t.length ∧ k ≤ d
  | t, 0, u, h => by
    rw [skipN_zero] at h
    obtain rfl := Option.some.inj h
    exact ⟨0, by simp, by omega, by omega⟩
  | [], k + 1, u, h => by cases h
  | n :: t, k + 1, u, h => by
    obtain ⟨d, e, hd, hk⟩ := skipN_suffix ar t (k + ar n) u h
    exact ⟨d + 1, by rw [e]; rfl, by simp; omega, by omega⟩
def endN (ar : Int → Nat) (term : List Int) (k at_ : Nat) : Option Nat := (skipN ar k (term.drop at_)).map fun u => term.length - u.length
theorem endN_some {ar : Int → Nat} {term : List Int} {k at_ e : Nat} (hat : at_ ≤ term.length) (h : endN ar term k at_ = some e) : skipN ar k (term.drop at_) = some (term.drop e) ∧ at_ + k ≤ e ∧ e ≤ term.length := by
  unfold endN at h
  cases hs : skipN ar k (term.drop at_) with
  | none => rw [hs] at h; cases h
  | some u =>
    rw [hs] at h
    obtain ⟨d, e1, hd, hk⟩ := skipN_suffix ar _ _ _ hs
    rw [List.length_drop] at hd
    have he : term.length - u.length = e := Option.some.inj h
    have hul : u.length = term.length - (at_ + d) := by rw [e1, List.drop_drop, List.length_drop]
    have hed : e = at_ + d := by omega
    refine ⟨?_, by omega, by omega⟩
    rw [e1, List.drop_drop, hed]
theorem endN_zero (ar : Int → Nat) (term : List Int) (at_ : Nat) (hat : at_ ≤ term.length) : endN ar term 0 at_ = some at_ := by
  unfold endN
  rw [skipN_zero]
  simp only [Option.map_some, List.length_drop]
  congr 1; omega
theorem endN_out (ar : Int → Nat) (term : List Int) (k at_ : Nat) (hk : 0 < k) (hat : term.length ≤ at_) : endN ar term k at_ = none := by
  unfold endN
  obtain ⟨m, rfl⟩ : ∃ m, k = m + 1 := ⟨k - 1, by omega⟩
  rw [List.drop_eq_nil_of_le hat]; rfl
theorem endN_step (ar : Int → Nat) (term : List Int) (k at_ : Nat) (hat : at_ < term.length) : endN ar term (k + 1) at_ = endN ar term (k + ar term[at_]) (at_ + 1) := by
  unfold endN
  rw [List.drop_eq_getElem_cons hat, skipN_cons]
theorem endN_add (ar : Int → Nat) (term : List Int) (k m at_ : Nat) (hat : at_ ≤ term.length) : endN ar term (k + m) at_ = (endN ar term k at_).bind fun e => endN ar term m e := by
  cases h : endN ar term k at_ with
  | none =>
    unfold endN at h ⊢
    rw [skipN_add]
    cases hs : skipN ar k (term.drop at_) with
    | none => rfl
    | some u => rw [hs] at h; cases h
  | some e =>
    obtain ⟨hs, _, _⟩ := endN_some hat h
    simp only [Option.bind_some]
    unfold endN
    rw [skipN_add, hs]
    rfl
end Go.Proofs.YtcanokiehjjbgaaGreatDoor.Pure
set_option linter.unusedVariables false
namespace Go.Proofs.YtcanokiehjjbgaaGreatDoor.Pure
open Go.RowKit Go.Proofs.YtcanokiehjjbgaaGreatDoor.P Go.Proofs.YtcanokiehjjbgaaGreatDoorW.PrintWords Go.Proofs.YtcanokiehjjbgaaGreatDoorW.PrintLast Go.Proofs.YtcanokiehjjbgaaGreatDoor.Base
def nodeB (l : List S125) (n : Int) : Bool := symB l n || decide (-12 ≤ n ∧ n ≤ -1)
def arL (l : List S125) (n : Int) : Nat := if n < 0 then 0 else (rd_T125 l n).f1.toNat
theorem l3Node_eq (l : List S125) (hl : l.length ≤ 6) (n : Int) : spec_l3Node.f [(⟨l⟩ : S34)] n = some (nodeB l n) := by
  unfold spec_l3Node.f nodeB
  rw [l2Symbol_eq l (by omega)]
  simp only [Option.bind_some]
  by_cases h : symB l n = true
  · rw [if_pos h, h]; rfl
  · rw [if_neg h, l1In_eq, Bool.eq_false_iff.2 h]; rfl
theorem isNode_eq (l : List S125) (hl : l.length ≤ 6) (n : Int) : impl_isNode.f l n = some (nodeB l n) := by
  unfold impl_isNode.f nodeB
  rw [isSymbol_eq l (by omega)]
  simp only [Option.bind_some]
  by_cases h : symB l n = true
  · rw [if_pos h, h]; rfl
  · rw [if_neg h, within_eq, Bool.eq_false_iff.2 h]; rfl
def Nodes (l : List S125) (t : List Int) : Prop := ∀ i, i < t.length → nodeB l (rd t (i : Int)) = true
theorem node_sym {l : List S125} {n : Int} (h : nodeB l n = true) (h0 : ¬ n < 0) : 0 ≤ n ∧ n < (l.length : Int) := by
  unfold nodeB at h
  rw [Bool.or_eq_true] at h
  rcases h with h | h
  · exact symB_true h
  · have := of_decide_eq_true h; omega
theorem arL_cast {l : List S125} (hr : Right l) {n : Int} (h : nodeB l n = true) (h0 : ¬ n < 0) : (rd_T125 l n).f1 = (arL l n : Int) ∧ arL l n ≤ 2 := by
  obtain ⟨a, b⟩ := node_sym h h0
  have := hr.arities n.toNat (by omega)
  rw [Int.toNat_of_nonneg a] at this
  unfold arL
  rw [if_neg h0]
  omega
theorem arL_le {l : List S125} (hr : Right l) {n : Int} (h : nodeB l n = true) : arL l n ≤ 2 := by
  by_cases h0 : n < 0
  · unfold arL; rw [if_pos h0]; omega
  · exact (arL_cast hr h h0).2
def endI (o : Option Nat) : Int := match o with
  | some e => (e : Int)
  | none => -1
theorem l3End_loop (l : List S125) (hr : Right l) (t : List Int) (ht : t.length ≤ 1048576) (hn : Nodes l t) (at_ : Nat) (hat : at_ < t.length) (h0 : ¬ rd t (at_ : Int) < 0)
    (ih : ∀ e, at_ < e → e ≤ t.length → Ev (fun k => spec_l3End.f k [(⟨l⟩ : S34)] t (e : Int)) (endI (endN (arL l) t 1 e))) :
    ∀ (m i e : Nat), i + m = arL l (rd t (at_ : Int)) → at_ < e → e ≤ t.length → Ev (fun k => spec_l3End.l0 k [(⟨l⟩ : S34)] t (at_ : Int) (e : Int) (i : Int)) (endI (endN (arL l) t m e)) := by
  obtain ⟨s0, s1⟩ := node_sym (hn at_ hat) h0
  obtain ⟨ha, ha2⟩ := arL_cast hr (hn at_ hat) h0
  have e0 : (rd_T34 [(⟨l⟩ : S34)] 0).f0 = l := rfl
  intro m
  induction m with
  | zero =>
    intro i e hi he hel
    refine ev_succ ?_
    simp only [spec_l3End.l0, e0]
    refine ev_pos (by simp) (ev_pos (by omega) (ev_pos (by omega) (ev_pos s0 (ev_pos s1 ?_))))
    rw [ha, endN_zero _ _ _ hel]
    exact ev_neg (by omega) (ev_some _)
  | succ m ihm =>
    intro i e hi he hel
    refine ev_succ ?_
    simp only [spec_l3End.l0, e0]
    refine ev_pos (by simp) (ev_pos (by omega) (ev_pos (by omega) (ev_pos s0 (ev_pos s1 ?_))))
    rw [ha]
    refine ev_pos (by omega) (ev_bind (ih e he hel) ?_)
    rw [show m + 1 = 1 + m by omega, endN_add _ _ 1 m e hel]
    cases hE : endN (arL l) t 1 e with
    | none => exact ev_pos (by simp [endI]) (ev_some _)
    | some e' =>
      obtain ⟨_, h1, h2⟩ := endN_some hel hE
      refine ev_neg (by simp [endI]) ?_
      rw [wrap_up (by omega)]
      simp only [Option.bind_some]
      exact ihm (i + 1) e' (by omega) (by omega) h2
theorem l3End_ev (l : List S125) (hr : Right l) (t : List Int) (ht : t.length ≤ 1048576) (hn : Nodes l t) : ∀ (d at_ : Nat), at_ + d = t.length → Ev (fun k => spec_l3End.f k [(⟨l⟩ : S34)] t (at_ : Int)) (endI (endN (arL l) t 1 at_)) := by
  intro d
  induction d using Nat.strongRecOn with
  | _ d ih =>
    intro at_ hd
    refine ev_succ ?_
    simp only [spec_l3End.f]
    by_cases hat : t.length ≤ at_
    · rw [endN_out _ _ _ _ (by omega) hat]
      exact ev_pos (by omega) (ev_some _)
    have hat' : at_ < t.length := by omega
    refine ev_neg (by omega) (ev_pos (by omega) (ev_pos (by omega) ?_))
    rw [endN_step _ _ 0 _ hat', ← rd_get t at_ hat', Nat.zero_add, wrap_up (by omega)]
    by_cases h0 : rd t (at_ : Int) < 0
    · refine ev_pos h0 ?_
      have : arL l (rd t (at_ : Int)) = 0 := by unfold arL; rw [if_pos h0]
      rw [this, endN_zero _ _ _ (by omega)]
      exact ev_some _
    · refine ev_neg h0 ?_
      exact l3End_loop l hr t ht hn at_ hat' h0 (fun e he hel => ih (t.length - e) (by omega) e (by omega)) _ 0 (at_ + 1) (by omega) (by omega) (by omega)
def endJ (n : Nat) (o : Option Nat) : Int := match o with
  | some e => (e : Int)
  | none => (n : Int) + 1
theorem arityOf_eq (l : List S125) (hr : Right l) (n : Int) (h : nodeB l n = true) : impl_arityOf.f l n = some (arL l n : Int) := by
  unfold impl_arityOf.f
  by_cases h0 : n < 0
  · rw [if_pos h0]; unfold arL; rw [if_pos h0]; rfl
  · obtain ⟨s0, s1⟩ := node_sym h h0
    rw [if_neg h0, if_pos s0, if_pos s1, (arL_cast hr h h0).1]
theorem endOf_l0 (l : List S125) (hr : Right l) (t : List Int) (ht : t.length ≤ 1048576) (hn : Nodes l t) : ∀ (d at_ o : Nat), at_ + d = t.length → o ≤ 2 * at_ + 1 → Ev (fun k => impl_endOf.l0 k t (at_ : Int) (o : Int) l) (endJ t.length (endN (arL l) t o at_)) := by
  intro d
  induction d with
  | zero =>
    intro at_ o hd ho
    refine ev_succ ?_
    simp only [impl_endOf.l0]
    cases o with
    | zero =>
      rw [endN_zero _ _ _ (by omega)]
      exact ev_neg (by omega) (ev_some _)
    | succ o =>
      rw [endN_out _ _ _ _ (by omega) (by omega)]
      refine ev_pos (by omega) (ev_pos (by omega) ?_)
      rw [wrap_up (by omega)]
      exact ev_to (ev_some _) (by simp [endJ])
  | succ d ih =>
    intro at_ o hd ho
    refine ev_succ ?_
    simp only [impl_endOf.l0]
    cases o with
    | zero =>
      rw [endN_zero _ _ _ (by omega)]
      exact ev_neg (by omega) (ev_some _)
    | succ o =>
      have hat : at_ < t.length := by omega
      refine ev_pos (by omega) (ev_neg (by omega) (ev_pos (by omega) (ev_pos (by omega) (ev_bindq (arityOf_eq l hr _ (hn at_ hat)) ?_))))
      have ha := arL_le hr (hn at_ hat)
      rw [endN_step _ _ o _ hat, ← rd_get t at_ hat, wrap_up (by omega)]
      generalize arL l (rd t (at_ : Int)) = a at *
      rw [wrap_id (x := (a : Int) - 1) (by omega) (by omega), wrap_id (by omega) (by omega), show ((o + 1 : Nat) : Int) + ((a : Int) - 1) = ((o + a : Nat) : Int) by omega]
      exact ih (at_ + 1) (o + a) (by omega) (by omega)
theorem endOf_ev (l : List S125) (hr : Right l) (t : List Int) (ht : t.length ≤ 1048576) (hn : Nodes l t) (at_ : Nat) (hat : at_ ≤ t.length) : Ev (fun k => impl_endOf.f k l t (at_ : Int)) (endJ t.length (endN (arL l) t 1 at_)) := by
  unfold impl_endOf.f
  exact endOf_l0 l hr t ht hn (t.length - at_) at_ 1 (by omega) (by omega)
def badN (l : List S125) (t : List Int) : Bool := (firstN (fun j => !nodeB l (rd t (j : Int))) t.length 0).isSome
theorem nodes_of {l : List S125} {t : List Int} (h : ¬ badN l t = true) : Nodes l t := by
  unfold badN at h
  have h1 : firstN (fun j => !nodeB l (rd t (j : Int))) t.length 0 = none := by
    cases hf : firstN (fun j => !nodeB l (rd t (j : Int))) t.length 0 with
    | none => rfl
    | some j => rw [hf] at h; exact absurd rfl h
  intro i hi
  have := (firstN_none t.length 0).1 h1 i (by omega) (by omega)
  simpa using this
def termG (l : List S125) (t : List Int) : Int :=
  if t.length < 1 ∨ t.length > 24 then 2 else if badN l t = true then 3 else if endN (arL l) t 1 0 = some t.length then 0 else 1
def termF (l : List S125) (t : List Int) : Int := if sigF l = 0 then termG l t else sigF l
theorem l3Fault_ev (l : List S125) (hr : Right l) (t : List Int) (ht : t.length ≤ 1048576) : Ev (fun k => spec_l3Fault.f k [(⟨l⟩ : S34)] t) (termG l t) := by
  have hl := hr.len
  unfold spec_l3Fault.f termG
  by_cases h1 : (t.length : Int) < 1
  · rw [if_pos (.inl (by omega))]
    refine ev_pos h1 (ev_succ ?_)
    simp only [spec_l3Fault.j0]
    exact ev_pos (by simp) (ev_some _)
  refine ev_neg h1 (ev_succ ?_)
  simp only [spec_l3Fault.j0]
  by_cases h2 : (t.length : Int) > 24
  · rw [if_pos (.inr (by omega))]
    exact ev_pos (by simpa using h2) (ev_some _)
  rw [if_neg (by omega)]
  refine ev_neg (by simpa using h2) ?_
  by_cases hb : badN l t = true
  · rw [if_pos hb]
    unfold badN at hb
    cases hf : firstN (fun j => !nodeB l (rd t (j : Int))) t.length 0 with
    | none => rw [hf] at hb; cases hb
    | some j =>
      obtain ⟨_, hj, hp, hall⟩ := firstN_some _ _ _ hf
      have key : ∀ d i, i + d = j → Ev (fun k => spec_l3Fault.l0 k [(⟨l⟩ : S34)] t (i : Int)) 3 := by
        intro d
        induction d with
        | zero =>
          intro i hi
          obtain rfl : i = j := by omega
          refine ev_succ ?_
          simp only [spec_l3Fault.l0]
          refine ev_pos (by omega) (ev_pos (by omega) (ev_bindq (l3Node_eq l (by omega) _) ?_))
          exact ev_neg (by simpa using hp) (ev_some _)
        | succ d ih =>
          intro i hi
          refine ev_succ ?_
          simp only [spec_l3Fault.l0]
          refine ev_pos (by omega) (ev_pos (by omega) (ev_bindq (l3Node_eq l (by omega) _) ?_))
          have := hall i (by omega) (by omega)
          rw [wrap_up (by omega)]
          exact ev_pos (by simpa using this) (ih (i + 1) (by omega))
      exact key j 0 (by omega)
  · rw [if_neg hb]
    have hn := nodes_of hb
    have h := loop_scan t.length (fun j => if (!nodeB l (rd t (j : Int))) = true then some 3 else none) (if endN (arL l) t 1 0 = some t.length then 0 else 1) (fun k i => spec_l3Fault.l0 k [(⟨l⟩ : S34)] t i)
      (by
        simp only [spec_l3Fault.l0]
        refine ev_neg (by omega) (ev_bind (l3End_ev l hr t ht hn t.length 0 (by omega)) ?_)
        by_cases he : endN (arL l) t 1 0 = some t.length
        · rw [he]; exact ev_pos rfl (ev_to (ev_some _) (if_pos rfl).symm)
        · refine ev_neg ?_ (ev_to (ev_some _) (if_neg he).symm)
          cases hE : endN (arL l) t 1 0 with
          | none => simp [endI] <;> omega
          | some e =>
            intro k
            have : e = t.length := by simp only [endI] at k; omega
            exact he (by rw [hE, this]))
      (fun i hi r hr => by
        simp only [spec_l3Fault.l0]
        refine ev_pos (by omega) (ev_pos (by omega) (ev_bindq (l3Node_eq l (by omega) _) ?_))
        rw [wrap_up (by omega), hn i hi]
        exact ev_pos rfl (ev_to hr (by simp)))
      t.length 0 (by omega)
    refine ev_to h ?_
    exact scanN_none t.length 0 (fun j _ hj => by simp [hn j (by omega)])
theorem Term_bad (l : List S125) (hl : l.length ≤ 6) (t : List Int) (ht : t.length ≤ 1048576) :
    Ev (fun k => slices_ContainsFunc_int64_int64_impl_TermFault_1.f k t [(⟨l⟩ : S34)]) (badN l t) := by
  unfold slices_ContainsFunc_int64_int64_impl_TermFault_1.f slices_IndexFunc_int64_int64_impl_TermFault_1.f
  have h := loop_scan t.length (fun j => if (!nodeB l (rd t (j : Int))) = true then some (j : Int) else none) (-1) (fun k i => slices_IndexFunc_int64_int64_impl_TermFault_1.l0 k t (t.length : Int) i [(⟨l⟩ : S34)])
    (by simp only [slices_IndexFunc_int64_int64_impl_TermFault_1.l0]; exact ev_neg (by omega) (ev_some _))
    (fun i hi r hr => by
      simp only [slices_IndexFunc_int64_int64_impl_TermFault_1.l0]
      refine ev_pos (by omega) (ev_pos (by omega) (ev_pos (by omega) (ev_bindq (a := !nodeB l (rd t (i : Int))) ?_ ?_)))
      · unfold impl_TermFault_1_with.f
        rw [if_pos (by simp)]
        exact bind_eq (isNode_eq l (by omega) _) rfl
      · rw [wrap_up (by omega)]
        by_cases h : (!nodeB l (rd t (i : Int))) = true
        · rw [if_pos h]; exact ev_pos h (ev_some _)
        · rw [if_neg h]; exact ev_neg h hr)
    t.length 0 (by omega)
  rw [scanN_first (fun j => !nodeB l (rd t (j : Int))) (fun j => (j : Int)) (-1)] at h
  refine ev_bind h (ev_to (ev_some _) ?_)
  unfold badN
  cases firstN (fun j => !nodeB l (rd t (j : Int))) t.length 0 with
  | none => rfl
  | some j => simp
theorem TermFault_impl (l : List S125) (t : List Int) (ht : t.length ≤ 1048576) : Ev (fun k => impl_TermFault.f k l t) (termF l t) := by
  unfold impl_TermFault.f termF
  refine ev_bind (SignatureFault_impl l) (ev_ite (fun h => ?_) (fun h => ev_some _))
  have hr := right_of l h
  have hl := hr.len
  unfold termG
  by_cases h1 : (t.length : Int) < 1
  · rw [if_pos (.inl (by omega))]
    refine ev_pos h1 (ev_succ ?_)
    simp only [impl_TermFault.j0]
    exact ev_pos (by simp) (ev_some _)
  refine ev_neg h1 (ev_succ ?_)
  simp only [impl_TermFault.j0]
  by_cases h2 : (t.length : Int) > 24
  · rw [if_pos (.inr (by omega))]
    exact ev_pos (by simpa using h2) (ev_some _)
  rw [if_neg (by omega)]
  refine ev_neg (by simpa using h2) (ev_bind (Term_bad l (by omega) t ht) (ev_ite (fun hb => ev_some _) (fun hb => ?_)))
  have hn := nodes_of hb
  refine ev_bind (endOf_ev l hr t ht hn 0 (by omega)) ?_
  by_cases he : endN (arL l) t 1 0 = some t.length
  · rw [he]; exact ev_pos rfl (ev_to (ev_some _) (if_pos rfl).symm)
  · refine ev_neg ?_ (ev_to (ev_some _) (if_neg he).symm)
    cases hE : endN (arL l) t 1 0 with
    | none => simp [endJ] <;> omega
    | some e =>
      intro k
      have : e = t.length := by simp only [endJ] at k; omega
      exact he (by rw [hE, this])
structure RightT (l : List S125) (t : List Int) : Prop where
  sig : Right l
  len : 1 ≤ t.length ∧ t.length ≤ 24
  nodes : Nodes l t
  whole : endN (arL l) t 1 0 = some t.length
theorem rightT_of {l : List S125} {t : List Int} (h : termF l t = 0) : RightT l t := by
  unfold termF at h
  by_cases hs : sigF l = 0
  · rw [if_pos hs] at h
    unfold termG at h
    by_cases h1 : t.length < 1 ∨ t.length > 24
    · rw [if_pos h1] at h; cases h
    rw [if_neg h1] at h
    by_cases h2 : badN l t = true
    · rw [if_pos h2] at h; cases h
    rw [if_neg h2] at h
    by_cases h3 : endN (arL l) t 1 0 = some t.length
    · exact ⟨right_of l hs, by omega, nodes_of h2, h3⟩
    · rw [if_neg h3] at h; cases h
  · rw [if_neg hs] at h; exact absurd h hs
end Go.Proofs.YtcanokiehjjbgaaGreatDoor.Pure
set_option linter.unusedVariables false
namespace Go.Proofs.YtcanokiehjjbgaaGreatDoor.Pure
open Go.RowKit Go.Proofs.YtcanokiehjjbgaaGreatDoorW.PrintWords Go.Proofs.YtcanokiehjjbgaaGreatDoor.Base
theorem loop_push {α β : Type} (f : α → β) (a : List α) (L : Nat → List β → Int → Option (List β)) (h0 : ∀ k ys, L (k + 1) ys (a.length : Int) = some ys)
    (h1 : ∀ (i : Nat) (ha : i < a.length) (ys r : List β), ys.length = i → Ev (fun k => L k (ys ++ [f a[i]]) ((i + 1 : Nat) : Int)) r → Ev (fun k => L (k + 1) ys (i : Int)) r) :
    ∀ (d i : Nat) (ys : List β), i + d = a.length → ys.length = i → Ev (fun k => L k ys (i : Int)) (ys ++ (a.drop i).map f) := by
  intro d
  induction d with
  | zero =>
    intro i ys hi hy
    obtain rfl : i = a.length := by omega
    rw [List.drop_length]
    refine ev_succ ⟨0, fun k _ => ?_⟩
    simp only [List.map_nil, List.append_nil]
    exact h0 k ys
  | succ d ih =>
    intro i ys hi hy
    have ha : i < a.length := by omega
    refine ev_succ (h1 i ha ys _ hy ?_)
    refine ev_to (ih (i + 1) (ys ++ [f a[i]]) (by omega) (by simp [hy])) ?_
    rw [List.drop_eq_getElem_cons ha, List.map_cons, List.append_assoc]
    rfl
end Go.Proofs.YtcanokiehjjbgaaGreatDoor.Pure
set_option linter.unusedVariables false
namespace Go.Proofs.YtcanokiehjjbgaaGreatDoor.Pure
open Go.RowKit Go.Proofs.YtcanokiehjjbgaaGreatDoor.P Go.Proofs.YtcanokiehjjbgaaGreatDoorW.PrintWords Go.Proofs.YtcanokiehjjbgaaGreatDoorW.PrintLast Go.Proofs.YtcanokiehjjbgaaGreatDoor.Base
def packB (n : Int) : Int := if n < 0 then wrap64 (31 - n) % 256 else wrap64 (n + 1) % 256
def packL (t : List Int) : List Int := t.map packB
theorem l5Pack_ev (t : List Int) (ht : t.length ≤ 1048576) : Ev (fun k => spec_l5Pack.f k t) (packL t) := by
  unfold spec_l5Pack.f
  exact loop_push packB t (fun k ys i => spec_l5Pack.l0 k t ys i)
    (fun k ys => by simp only [spec_l5Pack.l0]; rw [if_neg (by omega)])
    (fun i ha ys r hy hr => by
      simp only [spec_l5Pack.l0]
      refine ev_pos (by omega) (ev_pos (by omega) ?_)
      rw [rd_get t i ha, wrap_up (by omega)]
      unfold packB at hr
      by_cases h : t[i] < 0
      · rw [if_pos h] at hr; exact ev_pos h (ev_pos (by omega) hr)
      · rw [if_neg h] at hr; exact ev_neg h (ev_pos (by omega) hr))
    t.length 0 [] (by omega) rfl
theorem packed_ev (t : List Int) (ht : t.length ≤ 1048576) : Ev (fun k => impl_packed.f k t) (packL t) := by
  unfold impl_packed.f
  exact loop_push packB t (fun k ys i => impl_packed.l0 k ys t (t.length : Int) i)
    (fun k ys => by simp only [impl_packed.l0]; rw [if_neg (by omega)])
    (fun i ha ys r hy hr => by
      simp only [impl_packed.l0]
      refine ev_pos (by omega) (ev_pos (by omega) (ev_pos (by omega) ?_))
      rw [rd_get t i ha, wrap_up (by omega)]
      unfold packB at hr
      by_cases h : t[i] < 0
      · rw [if_pos h] at hr; exact ev_pos h (ev_pos (by omega) hr)
      · rw [if_neg h] at hr; exact ev_neg h (ev_pos (by omega) hr))
    t.length 0 [] (by omega) rfl
end Go.Proofs.YtcanokiehjjbgaaGreatDoor.Pure
set_option linter.unusedVariables false
namespace Go.Proofs.YtcanokiehjjbgaaGreatDoor.Pure
open Go.RowKit Go.Proofs.YtcanokiehjjbgaaGreatDoor.P Go.Proofs.YtcanokiehjjbgaaGreatDoorW.PrintWords Go.Proofs.YtcanokiehjjbgaaGreatDoorW.PrintLast Go.Proofs.YtcanokiehjjbgaaGreatDoor.Base
def SmallT (t : List Int) : Prop := t.length ≤ 24 ∧ ∀ i, i < t.length → -12 ≤ rd t (i : Int) ∧ rd t (i : Int) ≤ 6
theorem smallT_of {l : List S125} {t : List Int} (h : RightT l t) : SmallT t := ⟨h.len.2, fun i hi => by
  have hn := h.nodes i hi
  have := h.sig.len
  unfold nodeB at hn
  rw [Bool.or_eq_true] at hn
  rcases hn with hn | hn
  · have := symB_true hn; omega
  · have := of_decide_eq_true hn; omega⟩
theorem termG_right {l : List S125} (hr : Right l) {t : List Int} (h : termG l t = 0) : RightT l t := by
  unfold termG at h
  by_cases h1 : t.length < 1 ∨ t.length > 24
  · rw [if_pos h1] at h; cases h
  rw [if_neg h1] at h
  by_cases h2 : badN l t = true
  · rw [if_pos h2] at h; cases h
  rw [if_neg h2] at h
  by_cases h3 : endN (arL l) t 1 0 = some t.length
  · exact ⟨hr, by omega, nodes_of h2, h3⟩
  · rw [if_neg h3] at h; cases h
end Go.Proofs.YtcanokiehjjbgaaGreatDoor.Pure
set_option linter.unusedVariables false
namespace Go.Proofs.YtcanokiehjjbgaaGreatDoor.Pure
open Go.RowKit Go.Proofs.YtcanokiehjjbgaaGreatDoorW.PrintWords Go.Proofs.YtcanokiehjjbgaaGreatDoor.Base
def putL : List Int → Int → List Int
  | [], n => [n]
  | x :: xs, n => if n ≤ x then (if x = n then x :: xs else n :: x :: xs) else x :: putL xs n
theorem mem_putL (n y : Int) : ∀ l : List Int, y ∈ putL l n ↔ y = n ∨ y ∈ l
  | [] => by simp [putL]
  | x :: xs => by
    unfold putL
    by_cases h : n ≤ x
    · rw [if_pos h]
      by_cases e : x = n
      · rw [if_pos e]; subst e; simp
      · rw [if_neg e]; simp
    · rw [if_neg h, List.mem_cons, mem_putL n y xs, List.mem_cons]
      constructor
      · rintro (h | h | h)
        · exact .inr (.inl h)
        · exact .inl h
        · exact .inr (.inr h)
      · rintro (h | h | h)
        · exact .inr (.inl h)
        · exact .inl h
        · exact .inr (.inr h)
theorem rise_putL (n : Int) : ∀ l : List Int, l.Pairwise (· < ·) → (putL l n).Pairwise (· < ·)
  | [], _ => by simp [putL]
  | x :: xs, h => by
    unfold putL
    rw [List.pairwise_cons] at h
    by_cases hn : n ≤ x
    · rw [if_pos hn]
      by_cases e : x = n
      · rw [if_pos e, List.pairwise_cons]; exact h
      · rw [if_neg e, List.pairwise_cons, List.pairwise_cons]
        refine ⟨fun y hy => ?_, h⟩
        rcases List.mem_cons.1 hy with rfl | hy
        · omega
        · have := h.1 y hy; omega
    · rw [if_neg hn, List.pairwise_cons]
      refine ⟨fun y hy => ?_, rise_putL n xs h.2⟩
      rcases (mem_putL n y xs).1 hy with rfl | hy
      · omega
      · exact h.1 y hy
theorem putL_length (n : Int) : ∀ l : List Int, (putL l n).length ≤ l.length + 1
  | [] => by simp [putL]
  | x :: xs => by
    unfold putL
    split
    · split
      · simp
      · simp
    · have := putL_length n xs
      simp only [List.length_cons]; omega
theorem rise_ext : ∀ a b : List Int, a.Pairwise (· < ·) → b.Pairwise (· < ·) → (∀ x, x ∈ a ↔ x ∈ b) → a = b
  | [], [], _, _, _ => rfl
  | [], y :: ys, _, _, h => by have := (h y).2 (by simp); simp at this
  | x :: xs, [], _, _, h => by have := (h x).1 (by simp); simp at this
  | x :: xs, y :: ys, ha, hb, h => by
    rw [List.pairwise_cons] at ha hb
    have e : x = y := by
      have h1 := (h x).1 (by simp)
      have h2 := (h y).2 (by simp)
      rcases List.mem_cons.1 h1 with h1 | h1
      · exact h1
      rcases List.mem_cons.1 h2 with h2 | h2
      · exact h2.symm
      have := ha.1 y h2
      have := hb.1 x h1
      omega
    subst e
    congr 1
    refine rise_ext xs ys ha.2 hb.2 (fun z => ?_)
    constructor
    · intro hz
      have h1 := (h z).1 (by simp [hz])
      rcases List.mem_cons.1 h1 with h1 | h1
      · have := ha.1 z hz; omega
      · exact h1
    · intro hz
      have h1 := (h z).2 (by simp [hz])
      rcases List.mem_cons.1 h1 with h1 | h1
      · have := hb.1 z hz; omega
      · exact h1
theorem compactUpTo_rise (d : Array Int) (hs : ∀ i j, i < j → j < d.size → d[i]! ≤ d[j]!) : ∀ m, m ≤ d.size → (Lib.compactUpTo d m).Pairwise (· < ·) ∧ ∀ x, x ∈ Lib.compactUpTo d m ↔ ∃ j, j < m ∧ d[j]! = x := by
  intro m
  induction m with
  | zero => intro _; simp [Lib.compactUpTo]
  | succ m ih =>
    intro hm
    obtain ⟨h1, h2⟩ := ih (by omega)
    rw [Lib.compactUpTo_succ]
    by_cases hk : m = 0 ∨ d[m]! ≠ d[m - 1]!
    · have hkp : Lib.keeps d m = true := by
        rcases hk with rfl | hk
        · exact Lib.keeps_lt_one d 0 (by omega)
        · exact Lib.keeps_pos hk
      rw [if_pos hkp]
      refine ⟨List.pairwise_append.2 ⟨h1, by simp, fun a ha b hb => ?_⟩, fun x => ?_⟩
      · rw [List.mem_singleton] at hb
        subst hb
        obtain ⟨j, hj, rfl⟩ := (h2 a).1 ha
        rcases hk with rfl | hk
        · omega
        · have e1 := hs (m - 1) m (by omega) (by omega)
          by_cases hjm : j = m - 1
          · subst hjm; omega
          · have e2 := hs j (m - 1) (by omega) (by omega); omega
      · rw [List.mem_append, List.mem_singleton, h2]
        constructor
        · rintro (⟨j, hj, e⟩ | e)
          · exact ⟨j, by omega, e⟩
          · exact ⟨m, by omega, e.symm⟩
        · rintro ⟨j, hj, e⟩
          by_cases hjm : j = m
          · subst hjm; exact .inr e.symm
          · exact .inl ⟨j, by omega, e⟩
    · have hm0 : 0 < m := by
        rcases Nat.eq_zero_or_pos m with h | h
        · exact absurd (.inl h) hk
        · exact h
      have he : d[m]! = d[m - 1]! := by
        by_cases h : d[m]! = d[m - 1]!
        · exact h
        · exact absurd (.inr h) hk
      rw [Lib.keeps_neg hm0 he]
      simp only [Bool.false_eq_true, if_false, List.append_nil]
      refine ⟨h1, fun x => ?_⟩
      rw [h2]
      constructor
      · rintro ⟨j, hj, e⟩; exact ⟨j, by omega, e⟩
      · rintro ⟨j, hj, e⟩
        by_cases hjm : j = m
        · subst hjm; exact ⟨j - 1, by omega, by rw [← he]; exact e⟩
        · exact ⟨j, by omega, e⟩
theorem compact_rise (zs : List Int) (hs : zs.Pairwise (· ≤ ·)) : (Lib.compact zs).Pairwise (· < ·) ∧ ∀ x, x ∈ Lib.compact zs ↔ x ∈ zs := by
  have hg : ∀ i (hi : i < zs.length), zs.toArray[i]! = zs[i] := fun i hi => by simp [getElem!_pos, hi]
  have h := compactUpTo_rise zs.toArray (fun i j hij hj => by
    have hj' : j < zs.length := by simpa using hj
    rw [hg i (by omega), hg j hj']
    exact List.pairwise_iff_getElem.1 hs i j (by omega) hj' hij) zs.length (by simp)
  refine ⟨h.1, fun x => ?_⟩
  rw [Lib.compact, h.2, List.mem_iff_getElem]
  constructor
  · rintro ⟨j, hj, e⟩; exact ⟨j, hj, by rw [← hg j hj]; exact e⟩
  · rintro ⟨j, hj, e⟩; exact ⟨j, hj, by rw [hg j hj]; exact e⟩
theorem sort_rise (zs : List Int) : (zs.mergeSort fun x y => decide (x ≤ y)).Pairwise (· ≤ ·) := by
  have h := List.pairwise_mergeSort (le := fun x y : Int => decide (x ≤ y)) (fun a b c h1 h2 => by simp at *; omega) (fun a b => by simp; omega) zs
  exact h.imp (fun h => of_decide_eq_true h)
theorem sorted_eq (zs r : List Int) (h1 : r.Pairwise (· < ·)) (h2 : ∀ x, x ∈ r ↔ x ∈ zs) : Lib.compact (zs.mergeSort fun x y => decide (x ≤ y)) = r := by
  obtain ⟨h3, h4⟩ := compact_rise _ (sort_rise zs)
  refine rise_ext _ _ h3 h1 (fun x => ?_)
  rw [h4, h2, List.mem_mergeSort]
def varsL (t : List Int) : List Int := t.foldl (fun a n => if n < 0 then putL a (-1 - n) else a) []
def varN (n : Int) : List Int := if n < 0 then [-1 - n] else []
theorem foldl_put (t : List Int) : ∀ a : List Int, a.Pairwise (· < ·) → (t.foldl (fun a n => if n < 0 then putL a (-1 - n) else a) a).Pairwise (· < ·) ∧ ∀ x, x ∈ t.foldl (fun a n => if n < 0 then putL a (-1 - n) else a) a ↔ x ∈ a ∨ x ∈ t.flatMap varN := by
  induction t with
  | nil => intro a ha; exact ⟨ha, fun x => by simp⟩
  | cons n t ih =>
    intro a ha
    rw [List.foldl_cons]
    by_cases hn : n < 0
    · obtain ⟨h1, h2⟩ := ih (putL a (-1 - n)) (rise_putL _ _ ha)
      simp only [if_pos hn]
      refine ⟨h1, fun x => ?_⟩
      rw [h2, mem_putL, List.flatMap_cons, List.mem_append, varN, if_pos hn, List.mem_singleton]
      constructor
      · rintro ((h | h) | h)
        · exact .inr (.inl h)
        · exact .inl h
        · exact .inr (.inr h)
      · rintro (h | h | h)
        · exact .inl (.inr h)
        · exact .inl (.inl h)
        · exact .inr h
    · obtain ⟨h1, h2⟩ := ih a ha
      simp only [if_neg hn]
      refine ⟨h1, fun x => ?_⟩
      rw [h2, List.flatMap_cons, List.mem_append, varN, if_neg hn]
      simp
theorem varsL_rise (t : List Int) : (varsL t).Pairwise (· < ·) := (foldl_put t [] List.Pairwise.nil).1
theorem mem_varsL (t : List Int) (x : Int) : x ∈ varsL t ↔ x ∈ t.flatMap varN := by
  have := (foldl_put t [] List.Pairwise.nil).2 x
  unfold varsL
  rw [this]
  simp
theorem mem_varN (t : List Int) (x : Int) : x ∈ t.flatMap varN ↔ ∃ n ∈ t, n < 0 ∧ x = -1 - n := by
  rw [List.mem_flatMap]
  constructor
  · rintro ⟨n, hn, hx⟩
    unfold varN at hx
    by_cases h : n < 0
    · rw [if_pos h, List.mem_singleton] at hx; exact ⟨n, hn, h, hx⟩
    · rw [if_neg h] at hx; simp at hx
  · rintro ⟨n, hn, h, hx⟩
    refine ⟨n, hn, ?_⟩
    unfold varN
    rw [if_pos h, List.mem_singleton]; exact hx
theorem varsL_sorted (t : List Int) : Lib.compact ((t.flatMap varN).mergeSort fun x y => decide (x ≤ y)) = varsL t :=
  sorted_eq _ _ (varsL_rise t) (mem_varsL t)
theorem flatVar_length (t : List Int) : (t.flatMap varN).length ≤ t.length := by
  induction t with
  | nil => simp
  | cons n t ih =>
    rw [List.flatMap_cons, List.length_append, List.length_cons]
    unfold varN
    split
    · simp only [List.length_singleton]; unfold varN at ih; omega
    · simp only [List.length_nil]; unfold varN at ih; omega
theorem varsL_length (t : List Int) : (varsL t).length ≤ t.length := by
  have h : ∀ (t a : List Int), (t.foldl (fun a n => if n < 0 then putL a (-1 - n) else a) a).length ≤ a.length + t.length := by
    intro t
    induction t with
    | nil => intro a; simp
    | cons n t ih =>
      intro a
      rw [List.foldl_cons]
      refine Nat.le_trans (ih _) ?_
      by_cases hn : n < 0
      · have := putL_length (-1 - n) a
        simp only [if_pos hn, List.length_cons]; omega
      · simp only [if_neg hn, List.length_cons]; omega
  have := h t []
  unfold varsL
  simpa using this
end Go.Proofs.YtcanokiehjjbgaaGreatDoor.Pure
set_option linter.unusedVariables false
namespace Go.Proofs.YtcanokiehjjbgaaGreatDoor.Pure
open Go.RowKit Go.Proofs.YtcanokiehjjbgaaGreatDoor.P Go.Proofs.YtcanokiehjjbgaaGreatDoorW.PrintWords Go.Proofs.YtcanokiehjjbgaaGreatDoorW.PrintLast Go.Proofs.YtcanokiehjjbgaaGreatDoor.Base
theorem rdV_get (xs : List (List Int)) (i : Nat) (h : i < xs.length) : rd_L3 xs (i : Int) = xs[i] := by
  unfold rd_L3; exact getD_get xs i _ h
theorem varsOf_l1 (ts : List (List Int)) (n : Nat) (i : Nat) (hn : ts.length ≤ 2) (t : List Int) (hs : SmallT t) (r : List Int) : ∀ (d j : Nat) (a : List Int), j + d = t.length → a.length ≤ 24 * i + j →  i < 2 →
    Ev (fun k => impl_varsOf.l0 k (a ++ (t.drop j).flatMap varN) ts (n : Int) ((i + 1 : Nat) : Int)) r → Ev (fun k => impl_varsOf.l1 k a ts (n : Int) (i : Int) t (t.length : Int) (j : Int)) r := by
  have hl := hs.1
  intro d
  induction d with
  | zero =>
    intro j a hj ha hi hr
    refine ev_succ ?_
    simp only [impl_varsOf.l1]
    rw [wrap_up (i := i) (by omega)]
    rw [List.drop_eq_nil_of_le (by omega), List.flatMap_nil, List.append_nil] at hr
    exact ev_neg (by omega) hr
  | succ d ih =>
    intro j a hj ha hi hr
    have hjl : j < t.length := by omega
    have hv := hs.2 j hjl
    refine ev_succ ?_
    simp only [impl_varsOf.l1]
    rw [rd_get t j hjl] at *
    rw [List.drop_eq_getElem_cons hjl, List.flatMap_cons] at hr
    refine ev_pos (by omega) (ev_pos (by omega) (ev_pos (by omega) ?_))
    rw [wrap_up (i := j) (by omega)]
    by_cases hneg : t[j] < 0
    · rw [wrap_id (by omega) (by omega)]
      unfold varN at hr
      rw [if_pos hneg, ← List.append_assoc] at hr
      exact ev_pos hneg (ev_pos (by omega) (ih (j + 1) _ (by omega) (by rw [List.length_append, List.length_singleton]; omega) hi hr))
    · unfold varN at hr
      rw [if_neg hneg, List.nil_append] at hr
      exact ev_neg hneg (ih (j + 1) _ (by omega) (by omega) hi hr)
theorem varsOf_l0 (ts : List (List Int)) (hn : ts.length ≤ 2) (hs : ∀ t ∈ ts, SmallT t) : ∀ (d i : Nat) (a : List Int), i + d = ts.length → a.length ≤ 24 * i →
    Ev (fun k => impl_varsOf.l0 k a ts (ts.length : Int) (i : Int)) (Lib.compact ((a ++ (ts.drop i).flatMap (fun t => t.flatMap varN)).mergeSort fun x y => decide (x ≤ y))) := by
  intro d
  induction d with
  | zero =>
    intro i a hi ha
    refine ev_succ ?_
    simp only [impl_varsOf.l0]
    rw [List.drop_eq_nil_of_le (by omega), List.flatMap_nil, List.append_nil]
    have hsl : (a.mergeSort fun x y => decide (x ≤ y)).length = a.length := List.length_mergeSort a
    refine ev_neg (by omega) (ev_bindq (a := a.mergeSort fun x y => decide (x ≤ y)) ?_ (ev_bindq (a := Lib.compact (a.mergeSort fun x y => decide (x ≤ y))) ?_ (ev_some _)))
    · unfold slices_Sort_int64_int64.f
      exact if_pos (by omega)
    · unfold slices_Compact_int64_int64.f
      exact if_pos ⟨by omega, Lib.compact_length_le _⟩
  | succ d ih =>
    intro i a hi ha
    have hil : i < ts.length := by omega
    have hst := hs _ (List.getElem_mem hil)
    refine ev_succ ?_
    simp only [impl_varsOf.l0]
    rw [rdV_get ts i hil]
    refine ev_pos (by omega) (ev_pos (by omega) (ev_pos (by omega) ?_))
    refine varsOf_l1 ts ts.length i hn ts[i] hst _ ts[i].length 0 a (by omega) (by omega) (by omega) ?_
    rw [List.drop_zero]
    have hfl := flatVar_length ts[i]
    have hl := hst.1
    refine ev_to (ih (i + 1) _ (by omega) (by rw [List.length_append]; omega)) ?_
    rw [List.drop_eq_getElem_cons hil, List.flatMap_cons, List.append_assoc]
theorem varsOf_ev (ts : List (List Int)) (hn : ts.length ≤ 2) (hs : ∀ t ∈ ts, SmallT t) : Ev (fun k => impl_varsOf.f k ts) (Lib.compact ((ts.flatMap (fun t => t.flatMap varN)).mergeSort fun x y => decide (x ≤ y))) := by
  unfold impl_varsOf.f
  exact varsOf_l0 ts hn hs ts.length 0 [] (by omega) (by simp)
end Go.Proofs.YtcanokiehjjbgaaGreatDoor.Pure
set_option linter.unusedVariables false
namespace Go.Proofs.YtcanokiehjjbgaaGreatDoor.Pure
open Go.RowKit Go.Proofs.YtcanokiehjjbgaaGreatDoor.P Go.Proofs.YtcanokiehjjbgaaGreatDoorW.PrintWords Go.Proofs.YtcanokiehjjbgaaGreatDoorW.PrintLast Go.Proofs.YtcanokiehjjbgaaGreatDoor.Base
theorem first_ev2 (a b : Int) : Ev (fun k => impl_firstCode.f k [a, b]) (if a = 0 then b else a) := by
  unfold impl_firstCode.f cmp_Or_int64.f
  refine ev_bind (a := if a = 0 then b else a) ?_ (ev_some _)
  refine ev_succ ?_
  simp only [cmp_Or_int64.l0]
  refine ev_pos (by simp) (ev_pos (by omega) (ev_pos (by simp) ?_))
  have e0 : rd [a, b] 0 = a := rfl
  rw [e0]
  refine ev_ite (fun h => ?_) (fun h => ev_some _)
  refine ev_succ ?_
  have e1 : wrap64 (0 + 1) = 1 := by rw [wrap_id (by omega) (by omega)]; rfl
  have e2 : rd [a, b] 1 = b := rfl
  simp only [cmp_Or_int64.l0, e1, e2]
  refine ev_pos (by simp) (ev_pos (by omega) (ev_pos (by simp) ?_))
  by_cases hb : b = 0
  · refine ev_pos hb (ev_succ ?_)
    have e3 : wrap64 (1 + 1) = 2 := by rw [wrap_id (by omega) (by omega)]; rfl
    simp only [cmp_Or_int64.l0, e3]
    exact ev_neg (by simp) (ev_to (ev_some _) hb.symm)
  · exact ev_neg hb (ev_some _)
end Go.Proofs.YtcanokiehjjbgaaGreatDoor.Pure
set_option linter.unusedVariables false
namespace Go.Proofs.YtcanokiehjjbgaaGreatDoor.Pure
open Go.RowKit Go.Proofs.YtcanokiehjjbgaaGreatDoor.P Go.Proofs.YtcanokiehjjbgaaGreatDoorW.PrintWords Go.Proofs.YtcanokiehjjbgaaGreatDoorW.PrintLast Go.Proofs.YtcanokiehjjbgaaGreatDoor.Base
def highN (t : List Int) : Bool := (firstN (fun j => decide (rd t (j : Int) < -6)) t.length 0).isSome
theorem highN_iff (t : List Int) : highN t = true ↔ ∃ n ∈ t, n < -6 := by
  unfold highN
  constructor
  · intro h
    cases hf : firstN (fun j => decide (rd t (j : Int) < -6)) t.length 0 with
    | none => rw [hf] at h; cases h
    | some j =>
      obtain ⟨_, hj, hp, _⟩ := firstN_some _ _ _ hf
      have hj' : j < t.length := by omega
      have hp := of_decide_eq_true hp
      rw [rd_get t j hj'] at hp
      exact ⟨t[j], List.getElem_mem _, hp⟩
  · rintro ⟨n, hn, hlt⟩
    obtain ⟨j, hj, rfl⟩ := List.mem_iff_getElem.1 hn
    cases hf : firstN (fun j => decide (rd t (j : Int) < -6)) t.length 0 with
    | some j => rfl
    | none =>
      have := (firstN_none _ 0).1 hf j (by omega) (by omega)
      rw [rd_get t j hj] at this
      exact absurd hlt (of_decide_eq_false this)
theorem l4Low_ev (t : List Int) (ht : t.length ≤ 1048576) : Ev (fun k => spec_l4Low.f k t) (!highN t) := by
  unfold spec_l4Low.f
  have h := loop_scan t.length (fun j => if decide (rd t (j : Int) < -6) = true then some false else none) true (fun k i => spec_l4Low.l0 k t i)
    (by simp only [spec_l4Low.l0]; exact ev_neg (by omega) (ev_some _))
    (fun i hi r hr => by
      simp only [spec_l4Low.l0]
      refine ev_pos (by omega) (ev_pos (by omega) ?_)
      rw [wrap_up (by omega)]
      by_cases h : rd t (i : Int) < -6
      · exact ev_pos h (ev_to (ev_some _) (by simp [h]))
      · exact ev_neg h (ev_to hr (by simp [h])))
    t.length 0 (by omega)
  rw [scanN_first (fun j => decide (rd t (j : Int) < -6)) (fun _ => false) true] at h
  refine ev_to h ?_
  unfold highN
  cases firstN (fun j => decide (rd t (j : Int) < -6)) t.length 0 <;> rfl
def equG (l : List S125) (a b : List Int) : Int :=
  if termG l a = 0 then (if termG l b = 0 then (if highN a = true ∨ highN b = true then 3 else 0) else termG l b) else termG l a
def equF (l : List S125) (a b : List Int) : Int := if sigF l = 0 then equG l a b else sigF l
theorem l4Fault_ev (l : List S125) (hr : Right l) (a b : List Int) (ha : a.length ≤ 1048576) (hb : b.length ≤ 1048576) : Ev (fun k => spec_l4Fault.f k [(⟨l⟩ : S34)] [(⟨a, b⟩ : S47)]) (equG l a b) := by
  have e0 : (rd_T47 [(⟨a, b⟩ : S47)] 0).f0 = a := rfl
  have e1 : (rd_T47 [(⟨a, b⟩ : S47)] 0).f1 = b := rfl
  unfold spec_l4Fault.f equG
  simp only [e0, e1]
  refine ev_pos (by simp) (ev_bind (l3Fault_ev l hr a ha) (ev_ite (fun h1 => ev_bind (l3Fault_ev l hr b hb) (ev_ite (fun h2 => ev_bind (l4Low_ev a ha) ?_) (fun h2 => ev_some _))) (fun h1 => ev_some _)))
  have hb' := l4Low_ev b hb
  cases h3 : highN a with
  | true => exact ev_to (ev_neg (by simp) (ev_some 3)) (by simp)
  | false =>
    refine ev_pos rfl (ev_bind hb' ?_)
    cases h4 : highN b with
    | true => exact ev_to (ev_neg (by simp) (ev_some 3)) (by simp)
    | false => exact ev_to (ev_pos rfl (ev_some 0)) (by simp)
theorem high_vars (zs : List Int) (hz : zs.length ≤ 1048576) : Ev (fun k => slices_ContainsFunc_int64_int64_impl_EquationFault_1.f k zs) (decide (∃ v ∈ zs, v ≥ 6)) := by
  unfold slices_ContainsFunc_int64_int64_impl_EquationFault_1.f slices_IndexFunc_int64_int64_impl_EquationFault_1.f
  have h := loop_scan zs.length (fun j => if decide (rd zs (j : Int) ≥ 6) = true then some (j : Int) else none) (-1) (fun k i => slices_IndexFunc_int64_int64_impl_EquationFault_1.l0 k zs (zs.length : Int) i)
    (by simp only [slices_IndexFunc_int64_int64_impl_EquationFault_1.l0]; exact ev_neg (by omega) (ev_some _))
    (fun i hi r hr => by
      simp only [slices_IndexFunc_int64_int64_impl_EquationFault_1.l0]
      refine ev_pos (by omega) (ev_pos (by omega) (ev_pos (by omega) (ev_bindq (a := decide (rd zs (i : Int) ≥ 6)) rfl ?_)))
      rw [wrap_up (by omega)]
      by_cases h : decide (rd zs (i : Int) ≥ 6) = true
      · rw [if_pos h]; exact ev_pos h (ev_some _)
      · rw [if_neg h]; exact ev_neg h hr)
    zs.length 0 (by omega)
  rw [scanN_first (fun j => decide (rd zs (j : Int) ≥ 6)) (fun j => (j : Int)) (-1)] at h
  refine ev_bind h (ev_to (ev_some _) ?_)
  cases hf : firstN (fun j => decide (rd zs (j : Int) ≥ 6)) zs.length 0 with
  | none =>
    have hn := (firstN_none _ 0).1 hf
    have : ¬ ∃ v ∈ zs, v ≥ 6 := by
      rintro ⟨v, hv, h6⟩
      obtain ⟨j, hj, rfl⟩ := List.mem_iff_getElem.1 hv
      have := hn j (by omega) (by omega)
      rw [rd_get zs j hj] at this
      exact absurd h6 (of_decide_eq_false this)
    simp [this]
  | some j =>
    obtain ⟨_, hj, hp, _⟩ := firstN_some _ _ _ hf
    have hj' : j < zs.length := by omega
    have hp := of_decide_eq_true hp
    rw [rd_get zs j hj'] at hp
    have : ∃ v ∈ zs, v ≥ 6 := ⟨zs[j], List.getElem_mem _, hp⟩
    simp [this]
theorem EquationFault_impl (l : List S125) (a b : List Int) (ha : a.length ≤ 1048576) (hb : b.length ≤ 1048576) : Ev (fun k => impl_EquationFault.f k l a b) (equF l a b) := by
  unfold impl_EquationFault.f equF equG
  refine ev_bind (TermFault_impl l a ha) (ev_bind (TermFault_impl l b hb) (ev_bind (first_ev2 _ _) ?_))
  unfold termF
  by_cases hs : sigF l = 0
  · rw [if_pos hs, if_pos hs, if_pos hs]
    have hr := right_of l hs
    by_cases h1 : termG l a = 0
    · rw [if_pos h1, if_pos h1]
      by_cases h2 : termG l b = 0
      · rw [if_pos h2]
        have sa := smallT_of (termG_right hr h1)
        have sb := smallT_of (termG_right hr h2)
        have hv := varsOf_ev [a, b] (by simp) (fun x hx => by
          rcases List.mem_cons.1 hx with rfl | hx
          · exact sa
          · rw [List.mem_singleton] at hx; subst hx; exact sb)
        rw [List.flatMap_cons, List.flatMap_cons, List.flatMap_nil, List.append_nil, ← List.flatMap_append, varsL_sorted] at hv
        have hvl := varsL_length (a ++ b)
        rw [List.length_append] at hvl
        refine ev_pos h2 (ev_bind hv (ev_bind (high_vars _ (by have := sa.1; have := sb.1; omega)) ?_))
        have e : (∃ v ∈ varsL (a ++ b), v ≥ 6) ↔ (highN a = true ∨ highN b = true) := by
          rw [highN_iff, highN_iff]
          constructor
          · rintro ⟨v, hv, h6⟩
            rw [mem_varsL, mem_varN] at hv
            obtain ⟨n, hn, _, rfl⟩ := hv
            rcases List.mem_append.1 hn with hn | hn
            · exact .inl ⟨n, hn, by omega⟩
            · exact .inr ⟨n, hn, by omega⟩
          · rintro (⟨n, hn, hlt⟩ | ⟨n, hn, hlt⟩)
            · exact ⟨-1 - n, by rw [mem_varsL, mem_varN]; exact ⟨n, List.mem_append_left _ hn, by omega, rfl⟩, by omega⟩
            · exact ⟨-1 - n, by rw [mem_varsL, mem_varN]; exact ⟨n, List.mem_append_right _ hn, by omega, rfl⟩, by omega⟩
        by_cases h3 : ∃ v ∈ varsL (a ++ b), v ≥ 6
        · rw [if_pos (e.1 h3)]; exact ev_pos (decide_eq_true h3) (ev_some _)
        · rw [if_neg (fun k => h3 (e.2 k))]; exact ev_neg (by simpa using h3) (ev_some _)
      · rw [if_neg h2]; exact ev_neg h2 (ev_some _)
    · rw [if_neg h1, if_neg h1]; exact ev_neg h1 (ev_some _)
  · rw [if_neg hs, if_neg hs, if_neg hs]
    exact ev_neg hs (ev_some _)
end Go.Proofs.YtcanokiehjjbgaaGreatDoor.Pure
set_option linter.unusedVariables false
namespace Go.Proofs.YtcanokiehjjbgaaGreatDoor.Pure
open Go.RowKit Go.Proofs.YtcanokiehjjbgaaGreatDoor.P Go.Proofs.YtcanokiehjjbgaaGreatDoorW.PrintWords Go.Proofs.YtcanokiehjjbgaaGreatDoorW.PrintLast Go.Proofs.YtcanokiehjjbgaaGreatDoor.Base
theorem toInt64S_l0 (l : List Int) (hl : l.length ≤ 35184372088832) : ∀ (d i : Nat), i + d = l.length → Ev (fun k => laws_toInt64S.l0 k l (cpart 0 l i) (i : Int)) l := by
  intro d
  induction d with
  | zero =>
    intro i hi
    refine ev_succ ?_
    simp only [laws_toInt64S.l0]
    refine ev_neg (by omega) ?_
    obtain rfl : i = l.length := by omega
    rw [cpart_end]
    exact ev_some _
  | succ d ih =>
    intro i hi
    refine ev_succ ?_
    simp only [laws_toInt64S.l0]
    refine ev_pos (by omega) (ev_pos (by omega) (ev_pos (by rw [cpart_length _ _ _ (by omega)]; omega) ?_))
    rw [wrap_up (by omega), Int.toNat_natCast, cpart_set 0 l i (by omega) _ (rd_some l i (by omega))]
    exact ih (i + 1) (by omega)
theorem toInt64S_ev (l : List Int) (hl : l.length ≤ 35184372088832) : Ev (fun k => laws_toInt64S.f k l) l := by
  unfold laws_toInt64S.f
  refine ev_pos (by omega) (ev_pos (by omega) ?_)
  rw [Int.toNat_natCast, ← cpart_zero]
  exact toInt64S_l0 l hl l.length 0 (by omega)
theorem eqInt64S_l0 (a b : List Int) (hab : a.length = b.length) (hl : a.length ≤ 9223372036854775807) : ∀ (d i : Nat), i + d = a.length → Ev (fun k => laws_eqInt64S.l0 k a b (i : Int)) (decide (a.drop i = b.drop i)) := by
  intro d
  induction d with
  | zero =>
    intro i hi
    refine ev_succ ?_
    simp only [laws_eqInt64S.l0]
    refine ev_neg (by omega) ?_
    rw [List.drop_eq_nil_of_le (by omega), List.drop_eq_nil_of_le (by omega)]
    exact ev_some _
  | succ d ih =>
    intro i hi
    refine ev_succ ?_
    simp only [laws_eqInt64S.l0]
    refine ev_pos (by omega) (ev_pos (by omega) (ev_pos (by omega) ?_))
    rw [rd_drop a i (by omega), rd_drop b i (by omega)]
    by_cases h : rd a (i : Int) = rd b (i : Int)
    · refine ev_pos h ?_
      rw [wrap_up (by omega)]
      refine ev_to (ih (i + 1) (by omega)) ?_
      simp [h]
    · refine ev_neg h ?_
      refine ev_to (ev_some _) ?_
      simp [h]
theorem eqInt64S_ev (a b : List Int) (hl : a.length ≤ 9223372036854775807) : Ev (fun k => laws_eqInt64S.f k a b) (decide (a = b)) := by
  unfold laws_eqInt64S.f
  by_cases h : a.length = b.length
  · refine ev_pos (by omega) ?_
    exact eqInt64S_l0 a b h hl a.length 0 (by omega)
  · refine ev_neg (by omega) ?_
    refine ev_to (ev_some _) ?_
    have : ¬ a = b := fun e => h (by rw [e])
    simp [this]
end Go.Proofs.YtcanokiehjjbgaaGreatDoor.Pure
set_option linter.unusedVariables false
namespace Go.Proofs.YtcanokiehjjbgaaGreatDoor.Pure
open Go.RowKit Go.Proofs.YtcanokiehjjbgaaGreatDoor.P Go.Proofs.YtcanokiehjjbgaaGreatDoorW.PrintWords Go.Proofs.YtcanokiehjjbgaaGreatDoorW.PrintLast Go.Proofs.YtcanokiehjjbgaaGreatDoor.Base
def toE (x : S73) : S47 := ⟨x.f0, x.f1⟩
theorem rdLE_get (xs : List S73) (i : Nat) (h : i < xs.length) : rd_T73 xs (i : Int) = xs[i] := by
  simp [rd_T73, List.getD_eq_getElem?_getD, List.getElem?_eq_getElem h]
theorem rdIE_get (xs : List S47) (i : Nat) (h : i < xs.length) : rd_T47 xs (i : Int) = xs[i] := by
  simp [rd_T47, List.getD_eq_getElem?_getD, List.getElem?_eq_getElem h]
theorem szInt64S_casesE (l : List Int) (hl : l.length ≤ maxLen) (v : Int) (h0 : 0 ≤ v) (h1 : v ≤ 1048576) :
    laws_szInt64S.f l v = some (-1) ∨ ∃ u, laws_szInt64S.f l v = some u ∧ 0 ≤ u ∧ u ≤ v ∧ (l.length : Int) ≤ v := by
  unfold maxLen at hl
  unfold laws_szInt64S.f
  rw [wrap_id (x := v - (l.length : Int)) (by omega) (by omega)]
  by_cases h : v - (l.length : Int) < 0
  · rw [if_pos h]; exact .inl rfl
  · rw [if_neg h]; exact .inr ⟨_, rfl, by omega, by omega, by omega⟩
theorem szEquation_cases (a b : List Int) (ha : a.length ≤ maxLen) (hb : b.length ≤ maxLen) (v : Int) (h0 : 0 ≤ v) (h1 : v ≤ 1048576) :
    laws_szEquation.f a b v = some (-1) ∨ ∃ u, laws_szEquation.f a b v = some u ∧ 0 ≤ u ∧ u ≤ v ∧ a.length ≤ 1048576 ∧ b.length ≤ 1048576 := by
  unfold laws_szEquation.f
  rcases szInt64S_casesE a ha v h0 h1 with e | ⟨u, e, u0, uv, hq⟩
  · rw [e]; exact .inl rfl
  · rw [e]
    simp only [Option.bind_some]
    rw [if_neg (by omega)]
    rcases szInt64S_casesE b hb u u0 (by omega) with e | ⟨t, e, t0, tv, hq'⟩
    · rw [e]; exact .inl rfl
    · rw [e]
      simp only [Option.bind_some]
      rw [if_neg (by omega)]
      exact .inr ⟨t, rfl, t0, by omega, by omega, by omega⟩
def FitsEs (l : List S73) : Prop := l.length ≤ maxLen ∧ ∀ x ∈ l, (x.f0.length ≤ maxLen ∧ ∀ y ∈ x.f0, (Lit.int .i64 y).wf = true) ∧ x.f1.length ≤ maxLen ∧ ∀ y ∈ x.f1, (Lit.int .i64 y).wf = true
def FairEs (l : List S73) : Prop := l.length ≤ 1048576 ∧ ∀ x ∈ l, x.f0.length ≤ 1048576 ∧ x.f1.length ≤ 1048576
theorem szEquationS_ev (l : List S73) (hl : FitsEs l) (v : Int) (h0 : 0 ≤ v) (h1 : v ≤ 1048576) :
    ∃ r, Ev (fun k => laws_szEquationS.f k l v) r ∧ (¬ r < 0 → r ≤ v ∧ FairEs l) := by
  have hm := hl.1
  unfold maxLen at hm
  unfold laws_szEquationS.f
  rw [wrap_id (x := v - (l.length : Int)) (by omega) (by omega)]
  by_cases h : v - (l.length : Int) < 0
  · exact ⟨-1, ev_pos h (ev_some _), fun h => absurd (by omega) h⟩
  obtain ⟨r, hr, hg⟩ := loop_sz (fun x : S73 => x.f0.length ≤ 1048576 ∧ x.f1.length ≤ 1048576) 1048576 l (fun k v i => laws_szEquationS.l0 k l v i)
    (fun k v => by simp only [laws_szEquationS.l0]; rw [if_neg (by omega)])
    (fun i ha v h0 h1 => by
      simp only [laws_szEquationS.l0]
      have hx := hl.2 _ (List.getElem_mem ha)
      rcases szEquation_cases (l[i]).f0 (l[i]).f1 hx.1.1 hx.2.1 v h0 h1 with e | ⟨u, e, u0, uv, hq⟩
      · exact .inl (ev_pos (by omega) (ev_pos (by omega) (ev_bindq (by rw [rdLE_get l i ha]; exact e) (ev_pos (by omega) (ev_some _)))))
      · refine .inr ⟨u, u0, uv, hq, fun r hr => ev_pos (by omega) (ev_pos (by omega) (ev_bindq (by rw [rdLE_get l i ha]; exact e) (ev_neg (by omega) ?_)))⟩
        rw [wrap_up (by omega)]; exact hr)
    l.length 0 (v - (l.length : Int)) (by omega) (by omega) (by omega)
  refine ⟨r, ev_neg h hr, fun hn => ?_⟩
  obtain ⟨g1, g2⟩ := hg hn
  exact ⟨by omega, by omega, fun x hx => g2 x (by simpa using hx)⟩
theorem toEquation_ev (a b : List Int) (ha : a.length ≤ 1048576) (hb : b.length ≤ 1048576) : Ev (fun k => laws_toEquation.f k a b) (a, b) := by
  unfold laws_toEquation.f
  exact ev_bind (toInt64S_ev a (by omega)) (ev_bind (toInt64S_ev b (by omega)) (ev_some _))
theorem toEquationS_ev (l : List S73) (hf : FairEs l) : Ev (fun k => laws_toEquationS.f k l) (l.map toE) := by
  unfold laws_toEquationS.f
  have hl := hf.1
  refine ev_pos (by omega) (ev_pos (by omega) ?_)
  have h := loop_map toE z47 l (fun k ys i => laws_toEquationS.l0 k l ys i)
    (fun k ys => by simp only [laws_toEquationS.l0]; rw [if_neg (by omega)])
    (fun i ha ys r hy hr => by
      simp only [laws_toEquationS.l0]
      refine ev_pos (by omega) (ev_pos (by omega) ?_)
      rw [rdLE_get l i ha, wrap_up (by omega), Int.toNat_natCast]
      have := hf.2 _ (List.getElem_mem ha)
      exact ev_bind (toEquation_ev _ _ this.1 this.2) (ev_pos (by omega) hr))
    l.length 0 (by omega)
  rw [cpart_zero, List.length_map] at h
  rw [Int.toNat_natCast]
  exact h
def FairEi (l : List S47) : Prop := l.length ≤ 1048576 ∧ ∀ x ∈ l, x.f0.length ≤ 1048576 ∧ x.f1.length ≤ 1048576
theorem FairEs.toI {l : List S73} (h : FairEs l) : FairEi (l.map toE) := by
  refine ⟨by rw [List.length_map]; exact h.1, fun x hx => ?_⟩
  obtain ⟨y, hy, rfl⟩ := List.mem_map.1 hx
  exact h.2 y hy
theorem eqEquation_ev (a b : List Int) (ha : a.length ≤ 1048576) (hb : b.length ≤ 1048576) : Ev (fun k => laws_eqEquation.f k a b a b) true := by
  unfold laws_eqEquation.f
  exact ev_bind (eqInt64S_ev a a (by omega)) (ev_pos (by simp) (ev_bind (eqInt64S_ev b b (by omega)) (ev_pos (by simp) (ev_some _))))
theorem eqEquationS_ev (l : List S47) (hf : FairEi l) : Ev (fun k => laws_eqEquationS.f k l l) true := by
  unfold laws_eqEquationS.f
  have hl := hf.1
  refine ev_pos rfl ?_
  have h := loop_all (fun x y : S47 => decide (x.f0 = y.f0 ∧ x.f1 = y.f1)) l l rfl (fun k i => laws_eqEquationS.l0 k l l i)
    (fun k => by simp only [laws_eqEquationS.l0]; rw [if_neg (by omega)])
    (fun i ha hb r hr => by
      simp only [laws_eqEquationS.l0]
      refine ev_pos (by omega) (ev_pos (by omega) (ev_pos (by omega) ?_))
      rw [rdIE_get l i ha, wrap_up (by omega)]
      have := hf.2 _ (List.getElem_mem ha)
      refine ev_bind (eqEquation_ev _ _ this.1 this.2) (ev_pos rfl ?_)
      simpa using hr)
    l.length 0 (by omega)
  rw [List.drop_zero] at h
  exact ev_to h (allB_self _ (fun x => by simp) l)
end Go.Proofs.YtcanokiehjjbgaaGreatDoor.Pure
set_option linter.unusedVariables false
namespace Go.Proofs.YtcanokiehjjbgaaGreatDoor.Pure
open Go.RowKit Go.Proofs.YtcanokiehjjbgaaGreatDoor.P Go.Proofs.YtcanokiehjjbgaaGreatDoorW.PrintWords Go.Proofs.YtcanokiehjjbgaaGreatDoorW.PrintLast Go.Proofs.YtcanokiehjjbgaaGreatDoor.Base
def eqAt (l : List S125) (es : List S47) (i : Nat) : Option Int :=
  if equG l (rd_T47 es (i : Int)).f0 (rd_T47 es (i : Int)).f1 = 0 then none else some (equG l (rd_T47 es (i : Int)).f0 (rd_T47 es (i : Int)).f1)
def eqsG (l : List S125) (es : List S47) : Int := if (es.length : Int) > 12 then 2 else scanN (eqAt l es) 0 es.length 0
def eqsF (l : List S125) (es : List S47) : Int := if sigF l = 0 then eqsG l es else sigF l
theorem l5Fault_ev (l : List S125) (hr : Right l) (es : List S47) (hf : FairEi es) : Ev (fun k => spec_l5Fault.f k [(⟨l⟩ : S34)] es) (eqsG l es) := by
  have hl := hf.1
  unfold spec_l5Fault.f eqsG
  refine ev_ite (fun h => ev_some _) (fun h => ?_)
  exact loop_scan es.length (eqAt l es) 0 (fun k i => spec_l5Fault.l0 k [(⟨l⟩ : S34)] es i)
    (by simp only [spec_l5Fault.l0]; exact ev_neg (by omega) (ev_some _))
    (fun i hi r hr' => by
      simp only [spec_l5Fault.l0]
      have hx := hf.2 _ (List.getElem_mem hi)
      refine ev_pos (by omega) (ev_pos (by omega) ?_)
      unfold eqAt
      rw [rdIE_get es i hi, wrap_up (by omega)]
      refine ev_bind (l4Fault_ev l hr (es[i]).f0 (es[i]).f1 hx.1 hx.2) ?_
      by_cases h0 : equG l (es[i]).f0 (es[i]).f1 = 0
      · rw [if_pos h0]; exact ev_pos h0 hr'
      · rw [if_neg h0]; exact ev_neg h0 (ev_some _))
    es.length 0 (by omega)
theorem EquationsFault_spec (l : List S125) (es : List S47) (hf : FairEi es) : Ev (fun k => spec_EquationsFault.f k l es) (eqsF l es) := by
  unfold spec_EquationsFault.f eqsF
  exact ev_bind (SignatureFault_spec l) (ev_ite (fun h => ev_bind (l5Fault_ev l (right_of l h) es hf) (ev_some _)) (fun h => ev_some _))
theorem equF_right {l : List S125} (h : sigF l = 0) (a b : List Int) : equF l a b = equG l a b := by unfold equF; rw [if_pos h]
theorem EquationsFault_impl (l : List S125) (es : List S47) (hf : FairEi es) : Ev (fun k => impl_EquationsFault.f k l es) (eqsF l es) := by
  have hl := hf.1
  unfold impl_EquationsFault.f eqsF
  refine ev_bind (SignatureFault_impl l) (ev_ite (fun h => ?_) (fun h => ev_some _))
  unfold eqsG
  refine ev_ite (fun h2 => ev_some _) (fun h2 => ?_)
  exact loop_scan es.length (eqAt l es) 0 (fun k i => impl_EquationsFault.l0 k es (es.length : Int) i l)
    (by simp only [impl_EquationsFault.l0]; exact ev_neg (by omega) (ev_some _))
    (fun i hi r hr' => by
      simp only [impl_EquationsFault.l0]
      have hx := hf.2 _ (List.getElem_mem hi)
      refine ev_pos (by omega) (ev_pos (by omega) (ev_pos (by omega) ?_))
      unfold eqAt
      rw [rdIE_get es i hi, wrap_up (by omega)]
      have he := EquationFault_impl l (es[i]).f0 (es[i]).f1 hx.1 hx.2
      rw [equF_right h] at he
      refine ev_bind he ?_
      by_cases h0 : equG l (es[i]).f0 (es[i]).f1 = 0
      · rw [if_pos h0]; exact ev_pos h0 hr'
      · rw [if_neg h0]; exact ev_neg h0 (ev_some _))
    es.length 0 (by omega)
end Go.Proofs.YtcanokiehjjbgaaGreatDoor.Pure
set_option linter.unusedVariables false
namespace Go.Proofs.YtcanokiehjjbgaaGreatDoor.Pure
open Go.RowKit Go.Proofs.YtcanokiehjjbgaaGreatDoor.P Go.Proofs.YtcanokiehjjbgaaGreatDoorW.PrintWords Go.Proofs.YtcanokiehjjbgaaGreatDoorW.PrintLast Go.Proofs.YtcanokiehjjbgaaGreatDoor.Base
theorem markText_l0 : ∀ (x : Nat) (s : ByteArray), s.size + x ≤ 9000000000000000000 → ∃ r, Ev (fun k => laws_markText.l0 k (x : Int) s) r := by
  intro x
  induction x using Nat.strongRecOn with
  | _ x ih =>
    intro s hs
    rcases Nat.eq_zero_or_pos x with rfl | hp
    · refine ⟨(⟨#[109]⟩ : ByteArray) ++ s, ev_succ ?_⟩
      simp only [laws_markText.l0]
      exact ev_neg (by omega) (ev_pos (by omega) (ev_some _))
    · have hz : (strOfNums [(wrap64 (48 + (Int.tmod (x : Int) 10))) % 256]).size = 1 := rfl
      have hd : wrap64 (Int.tdiv (x : Int) 10) = ((x / 10 : Nat) : Int) := by
        rw [Int.tdiv_eq_ediv_of_nonneg (by omega), wrap_id (by omega) (by omega)]; omega
      obtain ⟨r, hr⟩ := ih (x / 10) (by omega) (strOfNums [(wrap64 (48 + (Int.tmod (x : Int) 10))) % 256] ++ s) (by rw [ByteArray.size_append, hz]; omega)
      refine ⟨r, ev_succ ?_⟩
      simp only [laws_markText.l0]
      refine ev_pos (by omega) (ev_bindq rfl (ev_pos (by rw [hz]; omega) ?_))
      rw [hd]; exact hr
theorem markText_ev (x : Int) (h0 : 0 < x) (h1 : x ≤ 8000000000000000000) : ∃ r, Ev (fun k => laws_markText.f k x) r := by
  obtain ⟨n, rfl⟩ := Int.eq_ofNat_of_zero_le (show 0 ≤ x by omega)
  obtain ⟨r, hr⟩ := markText_l0 n ⟨#[]⟩ (by show 0 + n ≤ _; omega)
  refine ⟨r, ?_⟩
  unfold laws_markText.f
  exact ev_neg (by omega) hr
theorem markSymbolS_l0 : ∀ (d i : Nat) (l : List S125) (m : Int), i + d = l.length → 0 < m → m + 2 * d ≤ 8000000000000000000 → l.length ≤ 1048576 →
    ∃ l', Ev (fun k => laws_markSymbolS.l0 k l m (i : Int)) (m + 2 * d, l') := by
  intro d
  induction d with
  | zero =>
    intro i l m hi h0 h1 hl
    refine ⟨l, ev_succ ?_⟩
    simp only [laws_markSymbolS.l0]
    exact ev_neg (by omega) (ev_to (ev_some _) (by simp))
  | succ d ih =>
    intro i l m hi h0 h1 hl
    obtain ⟨s, hs⟩ := markText_ev m h0 (by omega)
    obtain ⟨l', h⟩ := ih (i + 1) ((l.set i (⟨s, (rd_T125 l (i : Int)).f1⟩ : S125)).set i (⟨(rd_T125 (l.set i (⟨s, (rd_T125 l (i : Int)).f1⟩ : S125)) (i : Int)).f0, m + 1⟩ : S125)) (m + 2) (by simp; omega) (by omega) (by omega) (by simpa using hl)
    refine ⟨l', ev_succ ?_⟩
    simp only [laws_markSymbolS.l0]
    refine ev_pos (by omega) (ev_bind hs (ev_pos (by omega) (ev_bindq rfl ?_)))
    rw [Int.toNat_natCast, wrap_id (x := m + 1) (by omega) (by omega), wrap_id (x := m + 1 + 1) (by omega) (by omega), wrap_up (by omega), show m + 1 + 1 = m + 2 by omega]
    exact ev_to h (by rw [show m + 2 + 2 * (d : Int) = m + 2 * ((d + 1 : Nat) : Int) by omega])
theorem markSignature_ev (l : List S125) (hl : l.length ≤ 1048576) (m : Int) (h0 : 0 < m) (h1 : m ≤ 4000000000000000000) : ∃ l', Ev (fun k => laws_markSignature.f k l m) (m + 2 * l.length, l') := by
  obtain ⟨l', h⟩ := markSymbolS_l0 l.length 0 l m (by omega) h0 (by omega) hl
  refine ⟨l', ?_⟩
  unfold laws_markSignature.f laws_markSymbolS.f
  exact ev_bind h (ev_some _)
theorem eqByteS_l0 (a b : List Int) (hab : a.length = b.length) (hl : a.length ≤ 9223372036854775807) : ∀ (d i : Nat), i + d = a.length → Ev (fun k => laws_eqByteS.l0 k a b (i : Int)) (decide (a.drop i = b.drop i)) := by
  intro d
  induction d with
  | zero =>
    intro i hi
    refine ev_succ ?_
    simp only [laws_eqByteS.l0]
    refine ev_neg (by omega) ?_
    rw [List.drop_eq_nil_of_le (by omega), List.drop_eq_nil_of_le (by omega)]
    exact ev_some _
  | succ d ih =>
    intro i hi
    refine ev_succ ?_
    simp only [laws_eqByteS.l0]
    refine ev_pos (by omega) (ev_pos (by omega) (ev_pos (by omega) ?_))
    rw [rd_drop a i (by omega), rd_drop b i (by omega)]
    by_cases h : rd a (i : Int) = rd b (i : Int)
    · refine ev_pos h ?_
      rw [wrap_up (by omega)]
      refine ev_to (ih (i + 1) (by omega)) ?_
      simp [h]
    · refine ev_neg h ?_
      refine ev_to (ev_some _) ?_
      simp [h]
theorem eqByteS_ev (a b : List Int) (hl : a.length ≤ 9223372036854775807) : Ev (fun k => laws_eqByteS.f k a b) (decide (a = b)) := by
  unfold laws_eqByteS.f
  by_cases h : a.length = b.length
  · refine ev_pos (by omega) ?_
    exact eqByteS_l0 a b h hl a.length 0 (by omega)
  · refine ev_neg (by omega) ?_
    refine ev_to (ev_some _) ?_
    have : ¬ a = b := fun e => h (by rw [e])
    simp [this]
def marks (m : Int) : Nat → List Int
  | 0 => []
  | n + 1 => m % 256 :: marks (m + 1) n
theorem marks_length (n : Nat) : ∀ m, (marks m n).length = n := by
  induction n with
  | zero => intro m; rfl
  | succ n ih => intro m; simp [marks, ih]
theorem markByteS_l0 : ∀ (d : Nat) (pre rest : List Int) (m : Int), rest.length = d → 0 ≤ m → m + d ≤ 9000000000000000000 → pre.length + d ≤ 9000000000000000000 →
    Ev (fun k => laws_markByteS.l0 k (pre ++ rest) m (pre.length : Int)) (m + d, pre ++ marks m d) := by
  intro d
  induction d with
  | zero =>
    intro pre rest m hr h0 h1 h2
    refine ev_succ ?_
    simp only [laws_markByteS.l0]
    refine ev_neg (by simp; omega) ?_
    obtain rfl : rest = [] := List.eq_nil_of_length_eq_zero hr
    exact ev_to (ev_some _) (by simp [marks])
  | succ d ih =>
    intro pre rest m hr h0 h1 h2
    obtain ⟨x, rest, rfl⟩ : ∃ x r, rest = x :: r := by
      cases rest with
      | nil => simp at hr
      | cons x r => exact ⟨x, r, rfl⟩
    refine ev_succ ?_
    simp only [laws_markByteS.l0]
    refine ev_pos (by simp; omega) (ev_pos (by omega) ?_)
    rw [wrap_up (by omega), wrap_id (x := m + 1) (by omega) (by omega), Int.toNat_natCast]
    have e : (pre ++ x :: rest).set pre.length (m % 256) = (pre ++ [m % 256]) ++ rest := by simp
    rw [e]
    have := ih (pre ++ [m % 256]) rest (m + 1) (by simpa using hr) (by omega) (by omega) (by simp; omega)
    simp only [List.length_append, List.length_singleton] at this
    exact ev_to this (by simp [marks]; omega)
theorem markByteS_ev (xs : List Int) (m : Int) (h0 : 0 ≤ m) (h1 : m + xs.length ≤ 9000000000000000000) : Ev (fun k => laws_markByteS.f k xs m) (m + xs.length, marks m xs.length) := by
  unfold laws_markByteS.f
  exact markByteS_l0 xs.length [] xs m rfl h0 h1 (by simp; omega)
theorem markBytesResult_ev (c : Int) (xs : List Int) (m : Int) (h0 : 0 ≤ m) (h1 : m + xs.length ≤ 9000000000000000000) : Ev (fun k => laws_markBytesResult.f k c xs m) (m + xs.length, marks m xs.length) := by
  unfold laws_markBytesResult.f
  exact ev_bind (markByteS_ev xs m h0 h1) (ev_some _)
theorem heldByteS_l0 : ∀ (d : Nat) (pre : List Int) (m : Int), 0 ≤ m → m + d ≤ 9000000000000000000 → pre.length + d ≤ 9000000000000000000 →
    Ev (fun k => laws_heldByteS.l0 k (pre ++ marks m d) m (pre.length : Int)) (m + d) := by
  intro d
  induction d with
  | zero =>
    intro pre m h0 h1 h2
    refine ev_succ ?_
    simp only [laws_heldByteS.l0]
    refine ev_neg (by simp [marks]) ?_
    exact ev_to (ev_some _) (by simp)
  | succ d ih =>
    intro pre m h0 h1 h2
    refine ev_succ ?_
    simp only [laws_heldByteS.l0]
    have e : rd (pre ++ marks m (d + 1)) (pre.length : Int) = m % 256 := by simp [rd, marks]
    refine ev_pos (by simp [marks_length]; omega) (ev_pos (by omega) (ev_pos e ?_))
    rw [wrap_up (by omega), wrap_id (x := m + 1) (by omega) (by omega)]
    have := ih (pre ++ [m % 256]) (m + 1) (by omega) (by omega) (by simp; omega)
    simp only [List.length_append, List.length_singleton, List.append_assoc, List.singleton_append] at this
    exact ev_to this (by omega)
theorem heldBytesResult_ev (c : Int) (n : Nat) (m : Int) (h0 : 0 ≤ m) (h1 : m + n ≤ 9000000000000000000) : Ev (fun k => laws_heldBytesResult.f k c (marks m n) m) (m + n) := by
  unfold laws_heldBytesResult.f laws_heldByteS.f
  refine ev_bind (heldByteS_l0 n [] m h0 h1 (by simp; omega)) ?_
  exact ev_neg (by omega) (ev_some _)
theorem eqBytesResult_same (c : Int) (a : List Int) (hl : a.length ≤ 9223372036854775807) : Ev (fun k => laws_eqBytesResult.f k c a c a) true := by
  unfold laws_eqBytesResult.f
  exact ev_pos rfl (ev_bind (eqByteS_ev a a hl) (ev_pos (by simp) (ev_some _)))
end Go.Proofs.YtcanokiehjjbgaaGreatDoor.Pure
set_option linter.unusedVariables false
namespace Go.Proofs.YtcanokiehjjbgaaGreatDoor.Pure
open Go.RowKit Go.Proofs.YtcanokiehjjbgaaGreatDoorW.PrintWords Go.Proofs.YtcanokiehjjbgaaGreatDoor.Base
def Whole (ar : Int → Nat) (t : List Int) : Prop := skipN ar 1 t = some []
theorem whole_iff {ar : Int → Nat} {t : List Int} : endN ar t 1 0 = some t.length ↔ Whole ar t := by
  constructor
  · intro h
    obtain ⟨h1, _, _⟩ := endN_some (by omega) h
    rw [List.drop_zero, List.drop_length] at h1
    exact h1
  · intro h
    unfold endN
    rw [List.drop_zero, h]
    simp
end Go.Proofs.YtcanokiehjjbgaaGreatDoor.Pure
set_option linter.unusedVariables false
namespace Go.Proofs.YtcanokiehjjbgaaGreatDoor.Pure
open Go.RowKit Go.Proofs.YtcanokiehjjbgaaGreatDoor.P Go.Proofs.YtcanokiehjjbgaaGreatDoorW.PrintWords Go.Proofs.YtcanokiehjjbgaaGreatDoorW.PrintLast Go.Proofs.YtcanokiehjjbgaaGreatDoor.Base
theorem nodes_iff {l : List S125} {t : List Int} : Nodes l t ↔ ∀ n ∈ t, nodeB l n = true := by
  constructor
  · intro h n hn
    obtain ⟨j, hj, rfl⟩ := List.mem_iff_getElem.1 hn
    have := h j hj
    rwa [rd_get t j hj] at this
  · intro h i hi
    exact h _ (rd_mem t i hi)
theorem right_parts {l : List S125} {t : List Int} (h : termF l t = 0) : 1 ≤ t.length ∧ t.length ≤ 24 ∧ (∀ n ∈ t, nodeB l n = true) ∧ Whole (arL l) t := by
  have hr := rightT_of h
  exact ⟨hr.len.1, hr.len.2, nodes_iff.1 hr.nodes, whole_iff.1 hr.whole⟩
end Go.Proofs.YtcanokiehjjbgaaGreatDoor.Pure
set_option linter.unusedVariables false
namespace Go.Proofs.YtcanokiehjjbgaaGreatDoor.Pure
open Go.RowKit Go.Proofs.YtcanokiehjjbgaaGreatDoor.P Go.Proofs.YtcanokiehjjbgaaGreatDoorW.PrintWords Go.Proofs.YtcanokiehjjbgaaGreatDoorW.PrintLast Go.Proofs.YtcanokiehjjbgaaGreatDoor.Base
def packE (x : S47) : List Int := packL x.f0 ++ packL x.f1
def SmallEs (es : List S47) : Prop := es.length ≤ 12 ∧ ∀ x ∈ es, x.f0.length ≤ 24 ∧ x.f1.length ≤ 24
theorem packE_length {x : S47} (h : x.f0.length ≤ 24 ∧ x.f1.length ≤ 24) : (packE x).length ≤ 48 := by
  unfold packE packL
  simp only [List.length_append, List.length_map]; omega
theorem drop_cons {es : List S47} (i : Nat) (hi : i < es.length) : es.drop i = es[i] :: es.drop (i + 1) := List.drop_eq_getElem_cons hi
theorem l5PackAll_l0 (es : List S47) (hs : SmallEs es) : ∀ (d i : Nat) (acc : List Int), i + d = es.length → acc.length ≤ 1 + 48 * i →
    Ev (fun k => spec_l5PackAll.l0 k es acc (i : Int)) (acc ++ (es.drop i).flatMap packE) := by
  intro d
  induction d with
  | zero =>
    intro i acc hi ha
    refine ev_succ ?_
    simp only [spec_l5PackAll.l0]
    exact ev_neg (by omega) (ev_to (ev_some _) (by rw [List.drop_eq_nil_of_le (by omega)]; simp))
  | succ d ih =>
    intro i acc hi ha
    have hlt : i < es.length := by omega
    have hx := hs.2 _ (List.getElem_mem hlt)
    have hl := packE_length hx
    refine ev_succ ?_
    simp only [spec_l5PackAll.l0]
    have hs0 := hs.1
    rw [rdIE_get es i hlt, wrap_up (by omega)]
    have h0 := l5Pack_ev (es[i]).f0 (by omega)
    have h1 := l5Pack_ev (es[i]).f1 (by omega)
    have hs0 := hs.1
    unfold packE packL at hl
    simp only [List.length_append, List.length_map] at hl
    refine ev_pos (by omega) (ev_pos (by omega) (ev_bind h0 (ev_pos (by unfold packL; simp only [List.length_map]; omega) (ev_bindq rfl (ev_bind h1 (ev_pos (by unfold packL; simp only [List.length_append, List.length_map]; omega) ?_))))))
    have := ih (i + 1) (acc ++ packL (es[i]).f0 ++ packL (es[i]).f1) (by omega) (by unfold packL; simp only [List.length_append, List.length_map]; omega)
    refine ev_to this ?_
    rw [drop_cons i hlt, List.flatMap_cons]
    unfold packE
    simp only [List.append_assoc]
theorem packedEquations_l0 (es : List S47) (hs : SmallEs es) : ∀ (d i : Nat) (acc : List Int), i + d = es.length → acc.length ≤ 1 + 48 * i →
    Ev (fun k => impl_packedEquations.l0 k acc es (es.length : Int) (i : Int)) (acc ++ (es.drop i).flatMap packE) := by
  intro d
  induction d with
  | zero =>
    intro i acc hi ha
    refine ev_succ ?_
    simp only [impl_packedEquations.l0]
    exact ev_neg (by omega) (ev_to (ev_some _) (by rw [List.drop_eq_nil_of_le (by omega)]; simp))
  | succ d ih =>
    intro i acc hi ha
    have hlt : i < es.length := by omega
    have hx := hs.2 _ (List.getElem_mem hlt)
    have hl := packE_length hx
    refine ev_succ ?_
    simp only [impl_packedEquations.l0]
    have hs0 := hs.1
    rw [rdIE_get es i hlt, wrap_up (by omega)]
    have h0 := packed_ev (es[i]).f0 (by omega)
    have h1 := packed_ev (es[i]).f1 (by omega)
    have hs0 := hs.1
    unfold packE packL at hl
    simp only [List.length_append, List.length_map] at hl
    refine ev_pos (by omega) (ev_pos (by omega) (ev_pos (by omega) (ev_bind h0 (ev_pos (by unfold packL; simp only [List.length_map]; omega) (ev_bindq rfl (ev_bind h1 (ev_pos (by unfold packL; simp only [List.length_append, List.length_map]; omega) ?_)))))))
    have := ih (i + 1) (acc ++ packL (es[i]).f0 ++ packL (es[i]).f1) (by omega) (by unfold packL; simp only [List.length_append, List.length_map]; omega)
    refine ev_to this ?_
    rw [drop_cons i hlt, List.flatMap_cons]
    unfold packE
    simp only [List.append_assoc]
def packAll (es : List S47) : List Int := [(es.length : Int) % 256] ++ es.flatMap packE
theorem flat_length : ∀ es : List S47, (∀ x ∈ es, x.f0.length ≤ 24 ∧ x.f1.length ≤ 24) → (es.flatMap packE).length ≤ 48 * es.length
  | [], _ => by simp
  | x :: es, h => by
    rw [List.flatMap_cons, List.length_append, List.length_cons]
    have h1 := packE_length (h x (by simp))
    have h2 := flat_length es (fun y hy => h y (by simp [hy]))
    omega
theorem eqsF_small {l : List S125} {es : List S47} (h : eqsF l es = 0) : SmallEs es := by
  unfold eqsF at h
  by_cases hs : sigF l = 0
  · rw [if_pos hs] at h
    unfold eqsG at h
    by_cases h12 : (es.length : Int) > 12
    · rw [if_pos h12] at h; cases h
    · rw [if_neg h12] at h
      refine ⟨by omega, fun x hx => ?_⟩
      rcases scanN_cases (eqAt l es) 0 es.length 0 with ⟨h2, _⟩ | ⟨j, _, _, h3⟩
      · obtain ⟨i, hi, rfl⟩ := List.mem_iff_getElem.1 hx
        have h4 := h2 i (by omega) (by omega)
        unfold eqAt at h4
        rw [rdIE_get es i hi] at h4
        have h5 : equF l (es[i]).f0 (es[i]).f1 = 0 := by
          rw [equF_right hs]
          by_cases h6 : equG l (es[i]).f0 (es[i]).f1 = 0
          · exact h6
          · simp [h6] at h4
        unfold equF at h5
        rw [if_pos hs] at h5
        unfold equG at h5
        by_cases h7 : termG l (es[i]).f0 = 0
        · rw [if_pos h7] at h5
          by_cases h8 : termG l (es[i]).f1 = 0
          · exact ⟨(right_parts (by unfold termF; rw [if_pos hs]; exact h7)).2.1, (right_parts (by unfold termF; rw [if_pos hs]; exact h8)).2.1⟩
          · rw [if_neg h8] at h5; exact absurd h5 h8
        · rw [if_neg h7] at h5; exact absurd h5 h7
      · rw [h] at h3
        unfold eqAt at h3
        split at h3
        · cases h3
        · rename_i hne
          exact absurd (Option.some.inj h3) hne
  · rw [if_neg hs] at h; exact absurd h hs
def packesR (l : List S125) (es : List S47) : Int × List Int := if eqsF l es = 0 then (0, packAll es) else (eqsF l es, [])
theorem packesR_length (l : List S125) (es : List S47) : (packesR l es).2.length ≤ 1000 := by
  unfold packesR
  by_cases h : eqsF l es = 0
  · rw [if_pos h]
    have hs := eqsF_small h
    have := flat_length es hs.2
    have := hs.1
    unfold packAll
    simp only [List.length_append, List.length_singleton]; omega
  · rw [if_neg h]; simp
theorem PackEquations_spec (l : List S125) (es : List S47) (hf : FairEi es) : Ev (fun k => spec_PackEquations.f k l es) (packesR l es) := by
  unfold spec_PackEquations.f packesR
  refine ev_bind (EquationsFault_spec l es hf) (ev_ite (fun h => ?_) (fun h => ev_some _))
  have hs := eqsF_small h
  have e : Ev (fun k => spec_l5PackAll.f k es) (packAll es) := by
    unfold spec_l5PackAll.f
    have := l5PackAll_l0 es hs es.length 0 [(es.length : Int) % 256] (by omega) (by simp)
    exact this
  exact ev_bind e (ev_some _)
theorem PackEquations_impl (l : List S125) (es : List S47) (hf : FairEi es) : Ev (fun k => impl_PackEquations.f k l es) (packesR l es) := by
  unfold impl_PackEquations.f packesR
  refine ev_bind (EquationsFault_impl l es hf) (ev_ite (fun h => ?_) (fun h => ev_some _))
  have hs := eqsF_small h
  have e : Ev (fun k => impl_packedEquations.f k es) (packAll es) := by
    unfold impl_packedEquations.f
    have := packedEquations_l0 es hs es.length 0 [(es.length : Int) % 256] (by omega) (by simp)
    exact this
  exact ev_bind e (ev_some _)
theorem markW_ev : ∀ (d i : Nat) (m : Int), 0 ≤ m → m + d ≤ 9000000000000000000 → i + d ≤ 9000000000000000000 → Ev (fun k => markW k ((i + d : Nat) : Int) m (i : Int)) (m + d) := by
  intro d
  induction d with
  | zero =>
    intro i m h0 h1 h2
    refine ev_succ ?_
    simp only [markW]
    exact ev_neg (by omega) (ev_to (ev_some _) (by omega))
  | succ d ih =>
    intro i m h0 h1 h2
    refine ev_succ ?_
    simp only [markW]
    refine ev_pos (by omega) (ev_pos (by omega) ?_)
    rw [wrap_up (by omega), wrap_id (x := m + 1) (by omega) (by omega)]
    have := ih (i + 1) (m + 1) (by omega) (by omega) (by omega)
    rw [show i + 1 + d = i + (d + 1) by omega] at this
    exact ev_to this (by omega)
theorem markW_ev0 (n : Nat) (m : Int) (h0 : 0 ≤ m) (h1 : m + n ≤ 9000000000000000000) : Ev (fun k => markW k (n : Int) m 0) (m + n) := by
  have := markW_ev n 0 m h0 h1 (by omega)
  simpa using this
theorem lenE_le {es : List S47} (hf : FairEi es) (q : Nat) : lenE es q ≤ 1048576 := by
  unfold lenE
  by_cases h : q / 2 < es.length
  · have := hf.2 _ (List.getElem_mem h)
    have e : es.getD (q / 2) z47 = es[q / 2] := by simp [h]
    rw [e]
    split <;> omega
  · have e : es.getD (q / 2) z47 = z47 := by simp [show es.length ≤ q / 2 by omega]
    rw [e]
    have : (z47 : S47).f0.length = 0 := rfl
    have : (z47 : S47).f1.length = 0 := rfl
    split <;> omega
theorem markEquationS_ev (es : List S47) (hf : FairEi es) (m : Int) (h0 : 0 ≤ m) (h1 : m ≤ 4000000000000000000) : ∃ r, 0 ≤ r ∧ Ev (fun k => laws_markEquationS.f k es m) r := by
  have key : ∀ (d i : Nat) (x : Int), i + d = es.length → 0 ≤ x → x ≤ 4000000000000000000 + 2097152 * i → ∃ r, 0 ≤ r ∧ Ev (fun k => laws_markEquationS.l0 k es x (i : Int)) r := by
    intro d
    induction d with
    | zero =>
      intro i x hi hx hb
      refine ⟨x, hx, ev_succ ?_⟩
      simp only [laws_markEquationS.l0]
      exact ev_neg (by omega) (ev_some _)
    | succ d ih =>
      intro i x hi hx hb
      have hl := hf.1
      have a0 := lenE_le hf (i * 2)
      have a1 := lenE_le hf (i * 2 + 1)
      obtain ⟨r, hr0, hr⟩ := ih (i + 1) (x + (lenE es (i * 2) : Int) + (lenE es (i * 2 + 1) : Int)) (by omega) (by omega) (by omega)
      refine ⟨r, hr0, ev_succ ?_⟩
      simp only [laws_markEquationS.l0]
      refine ev_pos (by omega) (ev_pos (by omega) ?_)
      rw [Int.toNat_natCast, wrap_up (by omega)]
      exact ev_bind (markW_ev0 _ x hx (by omega)) (ev_bind (markW_ev0 _ _ (by omega) (by omega)) hr)
  unfold laws_markEquationS.f
  exact key es.length 0 m (by omega) h0 (by omega)
end Go.Proofs.YtcanokiehjjbgaaGreatDoor.Pure
set_option linter.unusedVariables false
namespace Go.Proofs.YtcanokiehjjbgaaGreatDoor.Pure
open Go.RowKit Go.Proofs.YtcanokiehjjbgaaGreatDoor.P Go.Proofs.YtcanokiehjjbgaaGreatDoorW.PrintWords Go.Proofs.YtcanokiehjjbgaaGreatDoorW.PrintLast Go.Proofs.YtcanokiehjjbgaaGreatDoor.Base
theorem PackEquations_j0 (l : List S122) (hl : l.length ≤ 1048576) (es : List S73) (hf : FairEs es) (c : Int) (x : List Int) (hx : x.length ≤ 1000) (hr : packesR (l.map toI) (es.map toE) = (c, x)) :
    Ev (fun k => laws_FnExactPackEquations.j0 k es false l c x c x) true := by
  refine ev_succ ?_
  simp only [laws_FnExactPackEquations.j0]
  have t := toSignature_ev l hl
  have tb := toEquationS_ev es hf
  have hm := markBytesResult_ev c x 1 (by omega) (by omega)
  have hh := heldBytesResult_ev c x.length 1 (by omega) (by omega)
  have hp := PackEquations_impl (l.map toI) (es.map toE) hf.toI
  rw [hr] at hp
  exact ev_neg (by simp) (ev_bind hm (ev_bind hh (ev_neg (by omega) (ev_pos rfl (ev_bind t (ev_bind tb (ev_bind hp (ev_bind (eqBytesResult_same c x (by omega)) (ev_pos rfl (ev_bind hh (ev_neg (by omega) (ev_pos rfl (ev_some _)))))))))))))
theorem FnExactPackEquations (l : List S122) (es : List S73) (hl : FitsL l) (he : FitsEs es) : ∃ k, laws_FnExactPackEquations.f k l es = some true := by
  refine ev_ex (g := fun k => laws_FnExactPackEquations.f k l es) ?_
  unfold laws_FnExactPackEquations.f
  obtain ⟨r, hr, h1⟩ := szSignature_ev l hl 1048576 (by omega) (by omega)
  refine ev_bind hr ?_
  by_cases hr0 : r < 0
  · exact ev_pos hr0 (ev_some _)
  have h1 := h1 hr0
  refine ev_neg hr0 ?_
  obtain ⟨q, hq, h2⟩ := szEquationS_ev es he r (by omega) (by omega)
  refine ev_bind hq ?_
  by_cases hq0 : q < 0
  · exact ev_pos hq0 (ev_some _)
  obtain ⟨h2, f2⟩ := h2 hq0
  refine ev_neg hq0 ?_
  have t := toSignature_ev l (by omega)
  have es' := eqSignature_ev (l.map toI) (by rw [List.length_map]; omega)
  have tb := toEquationS_ev es f2
  have eb := eqEquationS_ev _ f2.toI
  have hx := packesR_length (l.map toI) (es.map toE)
  have hs := PackEquations_spec (l.map toI) (es.map toE) f2.toI
  have hp := PackEquations_impl (l.map toI) (es.map toE) f2.toI
  have hj := fun c x (hc : packesR (l.map toI) (es.map toE) = (c, x)) (hx : x.length ≤ 1000) => PackEquations_j0 l (by omega) es f2 c x hx hc
  generalize hc : packesR (l.map toI) (es.map toE) = q at *
  obtain ⟨c, x⟩ := q
  have hb := eqBytesResult_same c x (by simp only at hx; omega)
  obtain ⟨l', hm⟩ := markSignature_ev (l.map toI) (by rw [List.length_map]; omega) 1 (by omega) (by omega)
  rw [List.length_map] at hm
  obtain ⟨z, hz0, hz⟩ := markEquationS_ev (es.map toE) f2.toI (1 + 2 * (l.length : Int)) (by omega) (by omega)
  exact ev_bind t (ev_bind tb (ev_bind hs (ev_bind t (ev_bind tb (ev_bind hp (ev_bind hb (ev_pos rfl (ev_bind t (ev_bind es' (ev_pos rfl (ev_bind tb (ev_bind eb (ev_pos rfl (ev_bind hm (ev_bind hz (ev_neg (by omega) (ev_bind hb (hj c x rfl hx))))))))))))))))))
end Go.Proofs.YtcanokiehjjbgaaGreatDoor.Pure
